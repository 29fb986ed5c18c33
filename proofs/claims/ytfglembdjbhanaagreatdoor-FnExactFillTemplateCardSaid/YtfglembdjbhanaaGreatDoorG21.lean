/-
  Part of a proof: Ft1.
-/
import Derived.Test.YtfglembdjbhanaaGreatDoorG11
import Derived.Test.YtfglembdjbhanaaGreatDoorG12
import Derived.Test.YtfglembdjbhanaaGreatDoorG14
import Derived.Test.YtfglembdjbhanaaGreatDoorG15
import Derived.Test.YtfglembdjbhanaaGreatDoorG20
set_option linter.unusedSimpArgs false
set_option linter.unusedVariables false
namespace Go.Proofs.YtfglembdjbhanaaGreatDoor
open Go.Ab Go.Dt
set_option maxRecDepth 20000
set_option maxHeartbeats 4000000
theorem ifilled_n : ∀ (n : Nat) (l : List GNode) (a : List GArg), Ctr lim Tryz.prog 37 [] [.sl false 3 (l.map (encNode false)), .sl false 2 (a.map (encArg false))] (.sl true 3 ((l.map (fillN a)).map (encNode true))) [] (wt l < n ∧ n ≤ 1048577 ∧ ArgsOk a)
  | 0, l, a => ⟨en37, fun h => absurd h.1 (Nat.not_lt_zero _)⟩
  | n + 1, l, a => by
    have ih := ifilled_n n
    refine Ctr.of_body en37 Tryz.func37 rfl rfl fun hp => (?_); rw [Tryz.ntmps37]
    have hl : l.length ≤ wt l := by unfold wt; omega
    have ha := hp.2.2
    (refine vU ?_; with_reducible repeat' first | exact Le.l | refine Sw ?_ ?_ | intro h)
    refine AW.loopV [5, 13] [1, 11, 12] (fun m xs o => ∃ k : Nat, xs = [.sl true 3 (((l.take k).map (fillN a)).map (encNode true)), .v (.int .i64 k)] ∧ o = [] ∧ m = l.length - k ∧ k ≤ l.length) l.length [] trivial ⟨0, ?_, rfl, rfl, ?_⟩ ?_
    · rfl
    · omega
    rintro m xs o ⟨k, rfl, rfl, rfl, hk⟩
    have hlt : (l.take k).length = k := by rw [List.length_take]; omega
    have h1 : k < l.length → _ := wt_kid (l := l) (k := k)
    have h2 : k < l.length → (flS a (tk (at_ l k).fValue)).length ≤ 1099511627776 := fun h => flS_le ha (by have := h1 h; omega)
    (refine vU ?_; with_reducible repeat' first | exact Le.l | refine Sw ?_ ?_ | intro h)
    · rw [List.all_eq_true]; exact map_elem (fun x => by rw [encNode_eq]; rfl) _
    · exact ⟨_, [_, _], [], by omega, ⟨k + 1, by rw [take_atL (by assumption), List.map_append, List.map_append, List.map_cons, List.map_nil, List.map_cons, List.map_nil, encNode_eq, fillN_eq]; rfl, rfl, rfl, by omega⟩, rfl, trivial⟩
    · rw [show k = l.length by omega, List.take_length]
theorem sFill_n : ∀ (n : Nat) (l : List GNode) (a : List GArg), Ctr lim Tryz.prog 61 [] [.sl false 3 (l.map (encNode false)), .sl false 2 (a.map (encArg false))] (.sl true 3 ((l.map (fillN a)).map (encNode true))) [] (wt l < n ∧ n ≤ 1048577 ∧ ArgsOk a)
  | 0, l, a => ⟨en61, fun h => absurd h.1 (Nat.not_lt_zero _)⟩
  | n + 1, l, a => by
    have ih := sFill_n n
    refine Ctr.of_body en61 Tryz.func61 rfl rfl fun hp => (?_); rw [Tryz.ntmps61]
    have hl : l.length ≤ wt l := by unfold wt; omega
    have ha := hp.2.2
    (refine vU ?_; with_reducible repeat' first | exact Le.l | refine Sw ?_ ?_ | intro h)
    refine AW.loopV [5, 6] [0, 1] (fun m xs o => ∃ k : Nat, xs = [.sl true 3 (((l.take k).map (fillN a)).map (encNode true)), .v (.int .i64 k)] ∧ o = [] ∧ m = l.length - k ∧ k ≤ l.length) l.length [] trivial ⟨0, ?_, rfl, rfl, ?_⟩ ?_
    · rfl
    · omega
    rintro m xs o ⟨k, rfl, rfl, rfl, hk⟩
    have hlt : (l.take k).length = k := by rw [List.length_take]; omega
    have h1 : k < l.length → _ := wt_kid (l := l) (k := k)
    have h2 : k < l.length → (flS a (tk (at_ l k).fValue)).length ≤ 1099511627776 := fun h => flS_le ha (by have := h1 h; omega)
    (refine vU ?_; with_reducible repeat' first | exact Le.l | refine Sw ?_ ?_ | intro h)
    · rw [List.all_eq_true]; exact map_elem (fun x => by rw [encNode_eq]; rfl) _
    · exact ⟨_, [_, _], [], by omega, ⟨k + 1, by rw [take_atL (by assumption), List.map_append, List.map_append, List.map_cons, List.map_nil, List.map_cons, List.map_nil, encNode_eq, fillN_eq]; rfl, rfl, rfl, by omega⟩, rfl, trivial⟩
    · rw [show k = l.length by omega, List.take_length]
instance ifilled_i (l : List GNode) (a : List GArg) : Ctr lim Tryz.prog 37 [] [.sl false 3 (l.map (encNode false)), .sl false 2 (a.map (encArg false))] (.sl true 3 ((l.map (fillN a)).map (encNode true))) [] (wt l ≤ 1048576 ∧ ArgsOk a) := ⟨en37, fun h => (ifilled_n 1048577 l a).out ⟨by omega, by omega, h.2⟩⟩
instance sFill_i (l : List GNode) (a : List GArg) : Ctr lim Tryz.prog 61 [] [.sl false 3 (l.map (encNode false)), .sl false 2 (a.map (encArg false))] (.sl true 3 ((l.map (fillN a)).map (encNode true))) [] (wt l ≤ 1048576 ∧ ArgsOk a) := ⟨en61, fun h => (sFill_n 1048577 l a).out ⟨by omega, by omega, h.2⟩⟩
end Go.Proofs.YtfglembdjbhanaaGreatDoor
