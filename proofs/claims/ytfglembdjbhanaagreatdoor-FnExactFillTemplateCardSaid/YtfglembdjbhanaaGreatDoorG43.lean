/-
  Part of a proof: AbUL, La15.
-/
import Derived.Test.YtfglembdjbhanaaGreatDoorG6
import Derived.Test.YtfglembdjbhanaaGreatDoorG14
import Derived.Test.YtfglembdjbhanaaGreatDoorG17
import Derived.Test.YtfglembdjbhanaaGreatDoorG18
import Derived.Test.YtfglembdjbhanaaGreatDoorG39
import Derived.Test.YtfglembdjbhanaaGreatDoorG40
import Derived.Test.YtfglembdjbhanaaGreatDoorG41
import Derived.Test.YtfglembdjbhanaaGreatDoorG42
set_option linter.unusedSimpArgs false
set_option linter.unusedVariables false
namespace Go.Ab
end Go.Ab
namespace Go.Proofs.YtfglembdjbhanaaGreatDoor
open Go.Ab Go.Dt
set_option maxRecDepth 20000
set_option maxHeartbeats 4000000
attribute [go_sem] encArgM_frz
theorem lawFillTemplate_A0 (x0 : Dt.GTemplate) (x1 : List Dt.GArg) (h0 : szTemplate x0 1048576 < 0) : Ctr rawL Tryz.prog 4 [] [.agg [.str x0.fName, .sl false 6 (x0.fParams.map (encParam false)), .sl false 3 (x0.fBody.map (encNode false))], .sl false 2 (x1.map (encArg false))] (.v (.bool true)) [] True := by
  refine Ctr.of_body en4 Tryz.func4 rfl rfl fun hp => (?_); rw [Tryz.ntmps4]
  all_goals exact uU
theorem lawFillTemplate_A1 (x0 : Dt.GTemplate) (x1 : List Dt.GArg) (h0 : ¬ szTemplate x0 1048576 < 0) (h1 : szSl szArg x1 (szTemplate x0 1048576) < 0) : Ctr rawL Tryz.prog 4 [] [.agg [.str x0.fName, .sl false 6 (x0.fParams.map (encParam false)), .sl false 3 (x0.fBody.map (encNode false))], .sl false 2 (x1.map (encArg false))] (.v (.bool true)) [] True := by
  have le0 := szTemplate_le x0 1048576 (by omega)
  refine Ctr.of_body en4 Tryz.func4 rfl rfl fun hp => (?_); rw [Tryz.ntmps4]
  all_goals exact uU
theorem lawFillTemplate_B (x0 : Dt.GTemplate) (x1 : List Dt.GArg) (h0 : ¬ szTemplate x0 1048576 < 0) (h1 : ¬ szSl szArg x1 (szTemplate x0 1048576) < 0) : Ctr lim Tryz.prog 4 [] [.agg [.str x0.fName, .sl false 6 (x0.fParams.map (encParam false)), .sl false 3 (x0.fBody.map (encNode false))], .sl false 2 (x1.map (encArg false))] (.v (.bool true)) [] True := by
  have le0 := szTemplate_le x0 1048576 (by omega)
  have le1 := szSl_le szArg szArg_le x1 (szTemplate x0 1048576) (by omega)
  have c0 := tpTemplate_cap x0 1 1048576 (by omega) (by omega)
  have d0 := tpTemplate_ge x0 1
  simp only [tpTemplate] at c0 d0
  have c1 := mkL_cap szArg_le stArg_cap x1 ((mkL stNode x0.fBody ((mkL stParam x0.fParams 1).2)).2) (szTemplate x0 1048576) (by omega) (by omega)
  have d1 := mkL_up stArg_ge x1 ((mkL stNode x0.fBody ((mkL stParam x0.fParams 1).2)).2)
  have hft := fitTm h0
  have hfa := fitArgs (l := x1) (r := szTemplate x0 1048576) (by omega) (by omega) (by omega)
  have hfb := hfa.1
  have cr := stFt_cap isPat cvB cvS x0 x1 1048576 (by omega) (by omega)
  have dr := mkL_up stNode_ge (ftN isPat cvB cvS x0 x1) 1
  have hneg2 : decide ((mkL stNode (ftN isPat cvB cvS x0 x1) 1).2 < 0) = false := decide_eq_false (by omega)
  have hneg : decide ((mkL stArg x1 ((mkL stNode x0.fBody ((mkL stParam x0.fParams 1).2)).2)).2 < 0) = false := decide_eq_false (by omega)
  refine Ctr.of_body en4 Tryz.func4 rfl rfl fun hp => (?_); rw [Tryz.ntmps4]
  (repeat' first | (with_reducible first | (refine X fun hs => ?_) | refine Z ?_ | refine Y ?_ | (refine hK _ _ ?_; clear hK K) | refine And.intro ?_ ?_ | exact Ct | intro (K : _ → _ → Prop) hK | (refine gI fun hg => ?_; try simp only [hC, reduceCtorEq] at hg; try simp only [hg])) | (refine AW.i rfl (fun h => ?_) (fun h => ?_) <;> try simp only [hC, reduceCtorEq] at h) | ((with_reducible refine E ?_; repeat refine Y ?_); refine eF rfl ?_) | simp (disch := omega) only [go_sem, hneg, hneg2] | (with_reducible intro hg; try simp only [hC, reduceCtorEq] at hg) | exact Cl | fail)
theorem lawFillTemplate_c (x0 : Dt.GTemplate) (x1 : List Dt.GArg) : LawC Tryz.prog 4 [encTemplate false x0, .sl false 2 (x1.map (encArg false))] := by
  by_cases h0 : szTemplate x0 1048576 < 0
  · exact .raw (lawFillTemplate_A0 x0 x1 h0) trivial
  have le0 := szTemplate_le x0 1048576 (by omega)
  by_cases h1 : szSl szArg x1 (szTemplate x0 1048576) < 0
  · exact .raw (lawFillTemplate_A1 x0 x1 h0 h1) trivial
  have le1 := szSl_le szArg szArg_le x1 (szTemplate x0 1048576) (by omega)
  exact .fit ⟨fitTemplate x0 1048576 (by omega) (by omega) (by omega), fits_sl (f := szArg) szArg_le x1 (szTemplate x0 1048576) (by omega) (by omega) (by omega) fun y hy r' p q s => fitArg y r' p q s, trivial⟩ (lawFillTemplate_B x0 x1 h0 h1) trivial
end Go.Proofs.YtfglembdjbhanaaGreatDoor
