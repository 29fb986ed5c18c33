/-
  Part of a proof: Nw1, Nw0.
-/
import Derived.Test.YtmdbmmmlccipdaaGreatDoorG35
import Derived.Test.YtmdbmmmlccipdaaGreatDoorG46
import Derived.Test.YtmdbmmmlccipdaaGreatDoorG47
set_option linter.unusedSimpArgs false
set_option linter.unusedVariables false
namespace Go.Dt
open Go Go.Ab
/-- the names of a new watcher -/
def nwN (s : List GSchema) (l : List GNode) (cs : List Str) : List Str := if isTree s l = true then cs else []
theorem nw_cap (s : List GSchema) (l : List GNode) (cs : List Str) {r q : Int} (h0 : 0 ≤ r) (h1 : r ≤ 1048576) (h : 0 ≤ szSl szNode l r) (g0 : 0 ≤ q) (g1 : q ≤ 1048576) (g : 0 ≤ szSl szStr cs q) : (mkL stNode (cutT s l cs) (mkL stString (nwN s l cs) 1).2).2 ≤ 68719476736 := by
  have c := mkL_cap szStr_le stString_cap cs 1 q g0 g
  have d := cutT_cap s l cs h0 h1 h
  have e := szSl_le szStr szStr_le cs q g0
  rw [mkN_cnt] at d ⊢
  unfold nwN
  split
  · omega
  · rw [show (mkL stString [] 1).2 = 1 from rfl]; omega
end Go.Dt
namespace Go.Proofs.YtmdbmmmlccipdaaGreatDoor
open Go.Ab Go.Dt
set_option maxRecDepth 20000
set_option maxHeartbeats 4000000
attribute [local go_sem] frzL_str encSchemaM_frz encNodeM_frz
instance iNewW_i (s : List GSchema) (l : List GNode) (cs : List Str) : Ctr lim Tryz.prog 30 [] [.sl false 19 (s.map (encSchema false)), .sl false 3 (l.map (encNode false)), .sl false 1 (cs.map AV.str)] (.tup [.agg [.sl true 1 ((nwN s l cs).map AV.str), .sl true 3 ((cutT s l cs).map (encNode true)), .sl true 1 []], .v (.bool (isTree s l))]) [] (wtS s ≤ 1048576 ∧ wt l ≤ 1048576) := by
  refine Ctr.of_body en30 Tryz.func30 rfl rfl fun hp => (?_); rw [Tryz.ntmps30]
  have gOn := GrOn.on
  obtain ⟨h1, h2⟩ := hp
  refine AW.fact 2 fun hf => ?_
  simp (disch := omega) only [go_sem] at hf
  (refine vX ?_; with_reducible repeat' first | exact Le.l | refine Sw ?_ ?_ | intro h)
  · rename Nat => b
    with_reducible refine E ?_
    repeat refine Y ?_
    refine EndsG.imp (Imp.nilOT (b := b) 1 [] [.v (.slice none 0 0), .v (.slice none 0 0)] (O_eq _ _ _) ?_)
    simp (maxSteps := 2000000) (disch := omega) only [go_sem]
    refine EndsG.imp (Imp.nilOT (b := b) 3 [.sl true 1 []] [.v (.slice none 0 0)] gO ?_)
    simp (maxSteps := 2000000) (disch := omega) only [go_sem]
    refine EndsG.imp (Imp.nilOT (b := b) 1 [.sl true 1 [], .sl true 3 []] [] gO ?_)
    simp (maxSteps := 2000000) (disch := omega) only [go_sem]
    refine EndsG.fin rfl ?_
    rw [nwN, cutT, h, if_neg (by simp), if_neg (by simp)]
    simp (maxSteps := 2000000) (disch := omega) only [go_sem]
  · rename Nat => b
    with_reducible refine E ?_
    repeat refine Y ?_
    refine EndsG.imp (Imp.nilOT (b := b) 1 [.sl true 1 (cs.map AV.str), .sl true 3 ((cutT s l cs).map (encNode true))] [] gO ?_)
    simp (maxSteps := 2000000) (disch := omega) only [go_sem]
    refine EndsG.fin rfl ?_
    rw [nwN, h, if_pos rfl]
    simp (maxSteps := 2000000) (disch := omega) only [go_sem]
instance sNewW_i (s : List GSchema) (l : List GNode) (cs : List Str) : Ctr lim Tryz.prog 29 [] [.sl false 19 (s.map (encSchema false)), .sl false 3 (l.map (encNode false)), .sl false 1 (cs.map AV.str)] (.tup [.agg [.sl true 1 ((nwN s l cs).map AV.str), .sl true 3 ((cutT s l cs).map (encNode true)), .sl true 1 []], .v (.bool (isTree s l))]) [] (wtS s ≤ 1048576 ∧ wt l ≤ 1048576) := by
  refine Ctr.of_body en29 Tryz.func29 rfl rfl fun hp => (?_); rw [Tryz.ntmps29]
  have gOn := GrOn.on
  obtain ⟨h1, h2⟩ := hp
  refine AW.fact 2 fun hf => ?_
  simp (disch := omega) only [go_sem] at hf
  (refine vX ?_; with_reducible repeat' first | exact Le.l | refine Sw ?_ ?_ | intro h)
  · rename Nat => b
    with_reducible refine E ?_
    repeat refine Y ?_
    refine EndsG.imp (Imp.nilOT (b := b) 1 [] [.v (.slice none 0 0), .v (.slice none 0 0)] (O_eq _ _ _) ?_)
    simp (maxSteps := 2000000) (disch := omega) only [go_sem]
    refine EndsG.imp (Imp.nilOT (b := b) 3 [.sl true 1 []] [.v (.slice none 0 0)] gO ?_)
    simp (maxSteps := 2000000) (disch := omega) only [go_sem]
    refine EndsG.imp (Imp.nilOT (b := b) 1 [.sl true 1 [], .sl true 3 []] [] gO ?_)
    simp (maxSteps := 2000000) (disch := omega) only [go_sem]
    refine EndsG.fin rfl ?_
    rw [nwN, cutT, h, if_neg (by simp), if_neg (by simp)]
    simp (maxSteps := 2000000) (disch := omega) only [go_sem]
  · rename Nat => b
    with_reducible refine E ?_
    repeat refine Y ?_
    refine EndsG.imp (Imp.nilOT (b := b) 1 [.sl true 1 (cs.map AV.str), .sl true 3 ((cutT s l cs).map (encNode true))] [] gO ?_)
    simp (maxSteps := 2000000) (disch := omega) only [go_sem]
    refine EndsG.fin rfl ?_
    rw [nwN, h, if_pos rfl]
    simp (maxSteps := 2000000) (disch := omega) only [go_sem]
instance eqEdSS0 (L : Nat → Nat) : Ctr L Tryz.prog 71 [] [.sl false 1 [], .sl false 1 []] (.v (.bool true)) [] True := by
  refine Ctr.of_body en71 Tryz.func71 rfl rfl fun hp => (?_); rw [Tryz.ntmps71]
  (refine vU ?_; with_reducible repeat' first | exact Le.l | refine Sw ?_ ?_ | intro h)
  refine AW.loopV [] [0, 5] (fun m xs o => xs = [] ∧ o = []) 0 [] trivial ⟨rfl, rfl⟩ ?_
  rintro m xs o ⟨rfl, rfl⟩
  (refine vU ?_; with_reducible repeat' first | exact Le.l | refine Sw ?_ ?_ | intro h)
  all_goals skip
instance mkEdSS0 (k : Int) : Ctr lim Tryz.prog 72 [] [.sl false 1 [], .v (.int .i64 k)] (.v (.int .i64 k)) [] True := by
  refine Ctr.of_body en72 Tryz.func72 rfl rfl fun hp => (?_); rw [Tryz.ntmps72]
  (refine vU ?_; with_reducible repeat' first | exact Le.l | refine Sw ?_ ?_ | intro h)
  refine AW.loopV [] [0, 1, 5] (fun m xs o => xs = [] ∧ o = []) 0 [] trivial ⟨rfl, rfl⟩ ?_
  rintro m xs o ⟨rfl, rfl⟩
  (refine vU ?_; with_reducible repeat' first | exact Le.l | refine Sw ?_ ?_ | intro h)
  all_goals skip
instance hdEdSS0 (k : Int) : Ctr lim Tryz.prog 74 [] [.sl false 1 [], .v (.int .i64 k)] (.v (.int .i64 k)) [] True := by
  refine Ctr.of_body en74 Tryz.func74 rfl rfl fun hp => (?_); rw [Tryz.ntmps74]
  (refine vU ?_; with_reducible repeat' first | exact Le.l | refine Sw ?_ ?_ | intro h)
  refine AW.loopV [] [0, 1, 5] (fun m xs o => xs = [] ∧ o = []) 0 [] trivial ⟨rfl, rfl⟩ ?_
  rintro m xs o ⟨rfl, rfl⟩
  (refine vU ?_; with_reducible repeat' first | exact Le.l | refine Sw ?_ ?_ | intro h)
  all_goals skip
instance eqWatch_i (a : List Str) (b : List GNode) : Ctr lim Tryz.prog 31 [] [.agg [.sl false 1 (a.map AV.str), .sl false 3 (b.map (encNode false)), .sl false 1 []], .agg [.sl false 1 (a.map AV.str), .sl false 3 (b.map (encNode false)), .sl false 1 []]] (.v (.bool true)) [] True := by
  refine Ctr.of_body en31 Tryz.func31 rfl rfl fun hp => (?_); rw [Tryz.ntmps31]
  (refine vU ?_; with_reducible repeat' first | exact Le.l | refine Sw ?_ ?_ | intro h)
  all_goals skip
instance markWatch_i (a : List Str) (b : List GNode) (k : Int) : ICtr lim Tryz.prog 32 true [.sl true 1 (a.map AV.str), .sl true 3 (b.map (encNode true)), .sl true 1 []] [.v (.int .i64 k)] (.v (.int .i64 (mkL stNode b (mkL stString a k).2).2)) [.sl true 1 ((mkL stString a k).1.map AV.str), .sl true 3 ((mkL stNode b (mkL stString a k).2).1.map (encNode true)), .sl true 1 []] (0 ≤ k ∧ (mkL stNode b (mkL stString a k).2).2 ≤ 1099511627776) := by
  refine ⟨en32, fun hp => InC.of_body Tryz.func32 rfl rfl rfl (fun hs => rfl) (fun hs => rfl) (fun hs => rfl) rfl fun hs => ?_⟩
  rw [Tryz.ntmps32]
  have g0 := mkL_up stString_ge a k
  have g1 := mkL_up stNode_ge b (mkL stString a k).2
  (refine bX ?_; with_reducible repeat' first | exact Le.l | refine Sw ?_ ?_ | intro h)
  refine AW.ret (EndsG.inp h rfl ?_)
  simp (maxSteps := 2000000) (disch := omega) only [go_sem]
instance heldWatch_i (a : List Str) (b : List GNode) (k : Int) : Ctr lim Tryz.prog 33 [] [.agg [.sl false 1 ((mkL stString a k).1.map AV.str), .sl false 3 ((mkL stNode b (mkL stString a k).2).1.map (encNode false)), .sl false 1 []], .v (.int .i64 k)] (.v (.int .i64 (mkL stNode b (mkL stString a k).2).2)) [] (0 ≤ k ∧ (mkL stNode b (mkL stString a k).2).2 ≤ 1099511627776) := by
  refine Ctr.of_body en33 Tryz.func33 rfl rfl fun hp => (?_); rw [Tryz.ntmps33]
  have g0 := mkL_up stString_ge a k
  have g1 := mkL_up stNode_ge b (mkL stString a k).2
  (refine vU ?_; with_reducible repeat' first | exact Le.l | refine Sw ?_ ?_ | intro h)
  all_goals skip

end Go.Proofs.YtmdbmmmlccipdaaGreatDoor
