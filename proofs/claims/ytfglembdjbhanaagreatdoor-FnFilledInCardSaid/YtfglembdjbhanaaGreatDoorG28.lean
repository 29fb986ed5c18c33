/-
  Part of a proof: Ml0, Mm0, Mkb, Ft1.
-/
import Derived.Test.YtfglembdjbhanaaGreatDoorG9
import Derived.Test.YtfglembdjbhanaaGreatDoorG13
import Derived.Test.YtfglembdjbhanaaGreatDoorG15
import Derived.Test.YtfglembdjbhanaaGreatDoorG16
import Derived.Test.YtfglembdjbhanaaGreatDoorG24
import Derived.Test.YtfglembdjbhanaaGreatDoorG25
import Derived.Test.YtfglembdjbhanaaGreatDoorG27
set_option linter.unusedSimpArgs false
set_option linter.unusedVariables false
namespace Go.Dt
open Go.Ab
def mkL {α : Type} (f : α → Int → α × Int) : List α → Int → List α × Int
  | [], k => ([], k)
  | x :: xs, k => ((f x k).1 :: (mkL f xs (f x k).2).1, (mkL f xs (f x k).2).2)
section
variable {α : Type} {f : α → Int → α × Int}
def mkc (f : α → Int → α × Int) (l : List α) (k : Int) (i : Nat) : Int := (mkL f (l.take i) k).2
def mkp (f : α → Int → α × Int) (l : List α) (k : Int) (i : Nat) : List α := (mkL f (l.take i) k).1 ++ l.drop i
variable [Inhabited α]
def mkb (e : α → AV) (f : α → Int → α × Int) (l : List α) (k : Int) (i : Nat) : List AV := ((mkL f (l.take i) k).1.map e).flatMap AV.cells
end
theorem tk_j {p e : List AV} {n j : Nat} (h : p.length = n) : (p ++ e).take (n + j) = p ++ e.take j := by subst h; rw [List.take_length_add_append]
theorem dp_j {p e : List AV} {n j : Nat} (h : p.length = n) : (p ++ e).drop (n + j) = e.drop j := by subst h; rw [List.drop_length_add_append]
theorem dp_jj {p e : List AV} {n j m : Nat} (h : p.length = n) : (p ++ e).drop (n + j + m) = e.drop (j + m) := by rw [Nat.add_assoc]; exact dp_j h
theorem dp_jjj {p e : List AV} {n j m q : Nat} (h : p.length = n) : (p ++ e).drop (n + j + m + q) = e.drop (j + m + q) := by rw [Nat.add_assoc n j m, Nat.add_assoc n]; exact dp_j h
theorem dp_j4 {p e : List AV} {n j m q r : Nat} (h : p.length = n) : (p ++ e).drop (n + j + m + q + r) = e.drop (j + m + q + r) := by rw [Nat.add_assoc n j m, Nat.add_assoc n, Nat.add_assoc n]; exact dp_j h
theorem tk_jj {p e : List AV} {n j m : Nat} (h : p.length = n) : (p ++ e).take (n + j + m) = p ++ e.take (j + m) := by rw [Nat.add_assoc]; exact tk_j h
theorem tk_jjj {p e : List AV} {n j m q : Nat} (h : p.length = n) : (p ++ e).take (n + j + m + q) = p ++ e.take (j + m + q) := by rw [Nat.add_assoc n j m, Nat.add_assoc n]; exact tk_j h
attribute [go_sem] tk_jj tk_jjj dp_jjj dp_j4 tk_j dp_j dp_jj List.append_assoc List.append_nil List.take_succ_cons List.drop_succ_cons List.take_zero List.drop_zero
end Go.Dt
namespace Go.Dt
open Go.Ab
def stString (x : Str) (k : Int) : Str × Int := (mkT k, k + 1)
end Go.Dt
namespace Go.Ab
open Go.Ab
theorem map_elem {α : Type} {e : α → AV} {sz : Nat} (h : ∀ x, (e x).elem sz = true) (l : List α) : ∀ x, x ∈ l.map e → x.elem sz = true := by
  intro x hx
  obtain ⟨y, _, rfl⟩ := List.mem_map.1 hx
  exact h y
end Go.Ab
namespace Go.Proofs.YtfglembdjbhanaaGreatDoor
open Go.Ab Go.Dt
set_option maxRecDepth 20000
set_option maxHeartbeats 4000000
end Go.Proofs.YtfglembdjbhanaaGreatDoor
namespace Go.Proofs.YtfglembdjbhanaaGreatDoor
open Go.Ab Go.Dt
set_option maxRecDepth 20000
set_option maxHeartbeats 4000000
theorem ifilled_s (n : Nat) (ih : ∀ (l : List GNode) (a : List GArg), Ctr lim Tryz.prog 37 [] [.sl false 3 (l.map (encNode false)), .sl false 2 (a.map (encArg false))] (.sl true 3 ((l.map (fillN a)).map (encNode true))) [] (wt l < n ∧ n ≤ 1048577 ∧ ArgsOk a)) (l : List GNode) (a : List GArg) : Ctr lim Tryz.prog 37 [] [.sl false 3 (l.map (encNode false)), .sl false 2 (a.map (encArg false))] (.sl true 3 ((l.map (fillN a)).map (encNode true))) [] (wt l < n + 1 ∧ n + 1 ≤ 1048577 ∧ ArgsOk a) := by
  refine Ctr.of_body en37 Tryz.func37 rfl rfl fun hp => (?_); rw [Tryz.ntmps37]
  have hl : l.length ≤ wt l := by unfold wt; omega
  have ha := hp.2.2
  (refine vU ?_; with_reducible repeat' first | exact Le.l | refine Sw ?_ ?_ | intro h)
  refine AW.loopV [5, 13] [1, 11, 12] (fun m xs o => ∃ k : Nat, xs = [.sl true 3 (((l.take k).map (fillN a)).map (encNode true)), .v (.int .i64 k)] ∧ o = [] ∧ m = l.length - k ∧ k ≤ l.length) l.length [] trivial ⟨0, ?_, rfl, rfl, ?_⟩ ?_
  · rfl
  · omega
  rintro m xs o ⟨k, rfl, rfl, rfl, hk⟩
  have hlt : (l.take k).length = k := by rw [List.length_take]; omega
  have h1 : k < l.length → _ := wt_kid (l := l) (k := k)
  have h2 : k < l.length → (flS a (tk (at_ l k).fValue)).length ≤ 1099511627776 := fun h => flS_le ha (by have := h1 h; omega)
  (refine vK ?_; with_reducible repeat' first | exact Le.l | refine Sw ?_ ?_ | intro h)
  (refine AW.i rfl (fun h => ?_) (fun h => ?_) <;> try simp only [hC, reduceCtorEq] at h)
  · (refine vK ?_; with_reducible repeat' first | exact Le.l | refine Sw ?_ ?_ | intro h)
    · rw [List.all_eq_true]; exact map_elem (fun x => by rw [encNode_eq]; rfl) _
    · exact ⟨_, [_, _], [], by omega, ⟨k + 1, by rw [take_atL (by assumption), List.map_append, List.map_append, List.map_cons, List.map_nil, List.map_cons, List.map_nil, encNode_eq, fillN_eq]; rfl, rfl, rfl, by omega⟩, rfl, trivial⟩
  · (refine vK ?_; with_reducible repeat' first | exact Le.l | refine Sw ?_ ?_ | intro h)
    rw [show k = l.length by omega, List.take_length]
theorem ifilled_n : ∀ (n : Nat) (l : List GNode) (a : List GArg), Ctr lim Tryz.prog 37 [] [.sl false 3 (l.map (encNode false)), .sl false 2 (a.map (encArg false))] (.sl true 3 ((l.map (fillN a)).map (encNode true))) [] (wt l < n ∧ n ≤ 1048577 ∧ ArgsOk a)
  | 0, l, a => ⟨en37, fun h => absurd h.1 (Nat.not_lt_zero _)⟩
  | n + 1, l, a => ifilled_s n (ifilled_n n) l a
instance ifilled_i (l : List GNode) (a : List GArg) : Ctr lim Tryz.prog 37 [] [.sl false 3 (l.map (encNode false)), .sl false 2 (a.map (encArg false))] (.sl true 3 ((l.map (fillN a)).map (encNode true))) [] (wt l ≤ 1048576 ∧ ArgsOk a) := ⟨en37, fun h => (ifilled_n 1048577 l a).out ⟨by omega, by omega, h.2⟩⟩
end Go.Proofs.YtfglembdjbhanaaGreatDoor
