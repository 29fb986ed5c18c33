/-
  Part of a proof: La19.
-/
import Derived.Test.YtmdbmmmlccipdaaGreatDoorG30
import Derived.Test.YtmdbmmmlccipdaaGreatDoorG31
import Derived.Test.YtmdbmmmlccipdaaGreatDoorG35
import Derived.Test.YtmdbmmmlccipdaaGreatDoorG47
import Derived.Test.YtmdbmmmlccipdaaGreatDoorG51
set_option linter.unusedSimpArgs false
set_option linter.unusedVariables false
namespace Go.Proofs.YtmdbmmmlccipdaaGreatDoor
open Go.Ab Go.Dt
set_option maxRecDepth 20000
set_option maxHeartbeats 4000000
attribute [go_sem] encSchemaM_frz
theorem lawNewWatcher_A0 (x0 : List Dt.GSchema) (x1 : List Dt.GNode) (x2 : List Str) (h0 : szSl szSchema x0 1048576 < 0) : Ctr rawL Tryz.prog 5 [] [.sl false 19 (x0.map (encSchema false)), .sl false 3 (x1.map (encNode false)), .sl false 1 (x2.map AV.str)] (.v (.bool true)) [] True := by
  refine Ctr.of_body en5 Tryz.func5 rfl rfl fun hp => (?_); rw [Tryz.ntmps5]
  all_goals exact uU
theorem lawNewWatcher_A1 (x0 : List Dt.GSchema) (x1 : List Dt.GNode) (x2 : List Str) (h0 : ¬ szSl szSchema x0 1048576 < 0) (h1 : szSl szNode x1 (szSl szSchema x0 1048576) < 0) : Ctr rawL Tryz.prog 5 [] [.sl false 19 (x0.map (encSchema false)), .sl false 3 (x1.map (encNode false)), .sl false 1 (x2.map AV.str)] (.v (.bool true)) [] True := by
  have le0 := szSl_le szSchema szSchema_le x0 1048576 (by omega)
  refine Ctr.of_body en5 Tryz.func5 rfl rfl fun hp => (?_); rw [Tryz.ntmps5]
  all_goals exact uU
theorem lawNewWatcher_A2 (x0 : List Dt.GSchema) (x1 : List Dt.GNode) (x2 : List Str) (h0 : ¬ szSl szSchema x0 1048576 < 0) (h1 : ¬ szSl szNode x1 (szSl szSchema x0 1048576) < 0) (h2 : szSl szStr x2 (szSl szNode x1 (szSl szSchema x0 1048576)) < 0) : Ctr rawL Tryz.prog 5 [] [.sl false 19 (x0.map (encSchema false)), .sl false 3 (x1.map (encNode false)), .sl false 1 (x2.map AV.str)] (.v (.bool true)) [] True := by
  have le0 := szSl_le szSchema szSchema_le x0 1048576 (by omega)
  have le1 := szSl_le szNode szNode_le x1 (szSl szSchema x0 1048576) (by omega)
  refine Ctr.of_body en5 Tryz.func5 rfl rfl fun hp => (?_); rw [Tryz.ntmps5]
  all_goals exact uU
theorem lawNewWatcher_B (x0 : List Dt.GSchema) (x1 : List Dt.GNode) (x2 : List Str) (h0 : ¬ szSl szSchema x0 1048576 < 0) (h1 : ¬ szSl szNode x1 (szSl szSchema x0 1048576) < 0) (h2 : ¬ szSl szStr x2 (szSl szNode x1 (szSl szSchema x0 1048576)) < 0) : Ctr lim Tryz.prog 5 [] [.sl false 19 (x0.map (encSchema false)), .sl false 3 (x1.map (encNode false)), .sl false 1 (x2.map AV.str)] (.v (.bool true)) [] True := by
  have le0 := szSl_le szSchema szSchema_le x0 1048576 (by omega)
  have le1 := szSl_le szNode szNode_le x1 (szSl szSchema x0 1048576) (by omega)
  have le2 := szSl_le szStr szStr_le x2 (szSl szNode x1 (szSl szSchema x0 1048576)) (by omega)
  have c0 := mkL_cap szSchema_le stSchema_cap x0 1 1048576 (by omega) (by omega)
  have d0 := mkL_up stSchema_ge x0 1
  have c1 := mkL_cap szNode_le stNode_cap x1 ((mkL stSchema x0 1).2) (szSl szSchema x0 1048576) (by omega) (by omega)
  have d1 := mkL_up stNode_ge x1 ((mkL stSchema x0 1).2)
  have c2 := mkL_cap szStr_le stString_cap x2 ((mkL stNode x1 ((mkL stSchema x0 1).2)).2) (szSl szNode x1 (szSl szSchema x0 1048576)) (by omega) (by omega)
  have d2 := mkL_up stString_ge x2 ((mkL stNode x1 ((mkL stSchema x0 1).2)).2)
  have hwS := wtS_fit (l := x0) (r := 1048576) (by omega) (by omega)
  have hwN := wt_fit (l := x1) (r := szSl szSchema x0 1048576) (by omega) (by omega)
  have cr := nw_cap x0 x1 x2 (r := szSl szSchema x0 1048576) (q := szSl szNode x1 (szSl szSchema x0 1048576)) (by omega) (by omega) (by omega) (by omega) (by omega) (by omega)
  have dr0 := mkL_up stString_ge (nwN x0 x1 x2) 1
  have dr := mkL_up stNode_ge (cutT x0 x1 x2) (mkL stString (nwN x0 x1 x2) 1).2
  have hneg2 : decide ((mkL stNode (cutT x0 x1 x2) (mkL stString (nwN x0 x1 x2) 1).2).2 < 0) = false := decide_eq_false (by omega)
  have hneg : decide ((mkL stString x2 ((mkL stNode x1 ((mkL stSchema x0 1).2)).2)).2 < 0) = false := decide_eq_false (by omega)
  refine Ctr.of_body en5 Tryz.func5 rfl rfl fun hp => (?_); rw [Tryz.ntmps5]
  (repeat' first | (with_reducible first | (refine X fun hs => ?_) | refine Z ?_ | refine Y ?_ | (refine hK _ _ ?_; clear hK K) | refine And.intro ?_ ?_ | exact Ct | intro (K : _ → _ → Prop) hK | (refine gI fun hg => ?_; try simp only [hC, reduceCtorEq] at hg; try simp only [hg])) | (refine AW.i rfl (fun h => ?_) (fun h => ?_) <;> try simp only [hC, reduceCtorEq] at h) | ((with_reducible refine E ?_; repeat refine Y ?_); refine eF rfl ?_) | simp (disch := omega) only [go_sem, hneg, hneg2] | (with_reducible intro hg; try simp only [hC, reduceCtorEq] at hg) | exact Cl | fail)
theorem lawNewWatcher_c (x0 : List Dt.GSchema) (x1 : List Dt.GNode) (x2 : List Str) : LawC Tryz.prog 5 [.sl false 19 (x0.map (encSchema false)), .sl false 3 (x1.map (encNode false)), .sl false 1 (x2.map AV.str)] := by
  by_cases h0 : szSl szSchema x0 1048576 < 0
  · exact .raw (lawNewWatcher_A0 x0 x1 x2 h0) trivial
  have le0 := szSl_le szSchema szSchema_le x0 1048576 (by omega)
  by_cases h1 : szSl szNode x1 (szSl szSchema x0 1048576) < 0
  · exact .raw (lawNewWatcher_A1 x0 x1 x2 h0 h1) trivial
  have le1 := szSl_le szNode szNode_le x1 (szSl szSchema x0 1048576) (by omega)
  by_cases h2 : szSl szStr x2 (szSl szNode x1 (szSl szSchema x0 1048576)) < 0
  · exact .raw (lawNewWatcher_A2 x0 x1 x2 h0 h1 h2) trivial
  have le2 := szSl_le szStr szStr_le x2 (szSl szNode x1 (szSl szSchema x0 1048576)) (by omega)
  exact .fit ⟨fits_sl (f := szSchema) szSchema_le x0 1048576 (by omega) (by omega) (by omega) fun y hy r' p q s => fitSchema y r' p q s, fits_sl (f := szNode) szNode_le x1 (szSl szSchema x0 1048576) (by omega) (by omega) (by omega) fun y hy r' p q s => fitNode y r' p q s, fits_sl (f := szStr) szStr_le x2 (szSl szNode x1 (szSl szSchema x0 1048576)) (by omega) (by omega) (by omega) fun y hy r' p q s => trivial, trivial⟩ (lawNewWatcher_B x0 x1 x2 h0 h1 h2) trivial
end Go.Proofs.YtmdbmmmlccipdaaGreatDoor
