/-
  Part of a proof: Ml0, Mm0, Mkb, Cp2, Cp3.
-/
import Derived.Test.YtmdbmmmlccipdaaGreatDoorG6
import Derived.Test.YtmdbmmmlccipdaaGreatDoorG24
import Derived.Test.YtmdbmmmlccipdaaGreatDoorG26
import Derived.Test.YtmdbmmmlccipdaaGreatDoorG30
import Derived.Test.YtmdbmmmlccipdaaGreatDoorG36
set_option linter.unusedSimpArgs false
set_option linter.unusedVariables false
namespace Go.Dt
open Go.Ab
/-- marks through a list -/
def mkL {α : Type} (f : α → Int → α × Int) : List α → Int → List α × Int
  | [], k => ([], k)
  | x :: xs, k => ((f x k).1 :: (mkL f xs (f x k).2).1, (mkL f xs (f x k).2).2)
section
variable {α : Type} {f : α → Int → α × Int}
/-- the counter at the place i -/
def mkc (f : α → Int → α × Int) (l : List α) (k : Int) (i : Nat) : Int := (mkL f (l.take i) k).2
/-- the list whose first i are marked -/
def mkp (f : α → Int → α × Int) (l : List α) (k : Int) (i : Nat) : List α := (mkL f (l.take i) k).1 ++ l.drop i
variable [Inhabited α]
/-- the cells ahead of the place i -/
def mkb (e : α → AV) (f : α → Int → α × Int) (l : List α) (k : Int) (i : Nat) : List AV := ((mkL f (l.take i) k).1.map e).flatMap AV.cells
end
theorem tk_j {p e : List AV} {n j : Nat} (h : p.length = n) : (p ++ e).take (n + j) = p ++ e.take j := by subst h; rw [List.take_length_add_append]
theorem dp_j {p e : List AV} {n j : Nat} (h : p.length = n) : (p ++ e).drop (n + j) = e.drop j := by subst h; rw [List.drop_length_add_append]
theorem dp_jj {p e : List AV} {n j m : Nat} (h : p.length = n) : (p ++ e).drop (n + j + m) = e.drop (j + m) := by rw [Nat.add_assoc]; exact dp_j h
theorem dp_jjj {p e : List AV} {n j m q : Nat} (h : p.length = n) : (p ++ e).drop (n + j + m + q) = e.drop (j + m + q) := by rw [Nat.add_assoc n j m, Nat.add_assoc n]; exact dp_j h
theorem dp_j4 {p e : List AV} {n j m q r : Nat} (h : p.length = n) : (p ++ e).drop (n + j + m + q + r) = e.drop (j + m + q + r) := by rw [Nat.add_assoc n j m, Nat.add_assoc n, Nat.add_assoc n]; exact dp_j h
theorem tk_jj {p e : List AV} {n j m : Nat} (h : p.length = n) : (p ++ e).take (n + j + m) = p ++ e.take (j + m) := by rw [Nat.add_assoc]; exact tk_j h
theorem tk_jjj {p e : List AV} {n j m q : Nat} (h : p.length = n) : (p ++ e).take (n + j + m + q) = p ++ e.take (j + m + q) := by rw [Nat.add_assoc n j m, Nat.add_assoc n]; exact tk_j h
attribute [go_sem] tk_jj tk_jjj dp_jjj dp_j4 tk_j dp_j dp_jj List.append_assoc List.append_nil List.take_succ_cons List.drop_succ_cons List.take_zero List.drop_zero
end Go.Dt
namespace Go.Dt
open Go.Ab
def stString (x : Str) (k : Int) : Str × Int := (mkT k, k + 1)
end Go.Dt
namespace Go.Ab
open Go.Ab
theorem map_elem {α : Type} {e : α → AV} {sz : Nat} (h : ∀ x, (e x).elem sz = true) (l : List α) : ∀ x, x ∈ l.map e → x.elem sz = true := by
  intro x hx
  obtain ⟨y, _, rfl⟩ := List.mem_map.1 hx
  exact h y
end Go.Ab
namespace Go.Proofs.YtmdbmmmlccipdaaGreatDoor
open Go.Ab Go.Dt
set_option maxRecDepth 20000
set_option maxHeartbeats 4000000
end Go.Proofs.YtmdbmmmlccipdaaGreatDoor
namespace Go.Proofs.YtmdbmmmlccipdaaGreatDoor
open Go.Ab Go.Dt
set_option maxRecDepth 20000
set_option maxHeartbeats 4000000
def plS (s : Dt.GStep) : AV := .agg [.str s.fName, .v (.slice none 0 0)]
theorem plS_all (l : List Dt.GStep) : (l.map plS).all (AV.elem 2) = true := map_all_elem (fun _ => rfl) l
attribute [go_sem] plS plS_all
/-- the cells of steps of which the first k have their tests -/
def stpC (l : List Dt.GStep) (k : Nat) : List AV := ((l.take k).map (encStep true)).flatMap AV.cells ++ ((l.drop k).map plS).flatMap AV.cells
end Go.Proofs.YtmdbmmmlccipdaaGreatDoor
namespace Go.Proofs.YtmdbmmmlccipdaaGreatDoor
open Go.Ab Go.Dt
set_option maxRecDepth 20000
set_option maxHeartbeats 4000000
instance sL7Copy_i (x : GPath) : Ctr lim Tryz.prog 212 [] [.agg [.v (.bool x.fRoot), .v (.int .i64 x.fUps), .sl false 2 (x.fSteps.map (encStep false))]] (.agg [.v (.bool x.fRoot), .v (.int .i64 x.fUps), .sl true 2 (x.fSteps.map (encStep true))]) [] True := by
  refine Ctr.of_body en212 Tryz.func212 rfl rfl fun hp => (?_); rw [Tryz.ntmps212]
  refine AW.fact 0 fun hf => ?_
  simp (disch := omega) only [go_sem] at hf
  (refine vU ?_; with_reducible repeat' first | exact Le.l | refine Sw ?_ ?_ | intro h)
  rename_i b2 b3
  refine AW.imp (Imp.nilOT (b := b3) 2 [_, _] [] (O_eq _ _ _) ?_)
  simp (maxSteps := 2000000) (disch := omega) only [go_sem]
  refine AW.loopW [4] [1, 2, 3] (fun m xs o => ∃ k : Nat, xs = [.v (.int .i64 k)] ∧ o = [(b3, some [.v (.bool x.fRoot), .v (.int .i64 x.fUps), .sl true 2 ((x.fSteps.take k).map (encStep true))]), (b2, some [.v (.bool false), .v (.int .i64 0), .v (.slice none 0 0)])] ∧ m = x.fSteps.length - k ∧ k ≤ x.fSteps.length) x.fSteps.length [(b3, some [.v (.bool x.fRoot), .v (.int .i64 x.fUps), .sl true 2 ((x.fSteps.take 0).map (encStep true))]), (b2, some [.v (.bool false), .v (.int .i64 0), .v (.slice none 0 0)])] gO ⟨0, rfl, rfl, rfl, by omega⟩ ?_
  rintro m xs o ⟨k, rfl, rfl, rfl, hk⟩
  have hlt : (x.fSteps.take k).length = k := by rw [List.length_take]; omega
  (refine vK ?_; with_reducible repeat' first | exact Le.l | refine Sw ?_ ?_ | intro h)
  (refine AW.i rfl (fun h => ?_) (fun h => ?_) <;> try simp only [hC, reduceCtorEq] at h)
  · refine AW.factE 12 rfl (x := encStep false (at_ x.fSteps k)) (List.mem_map_of_mem (at_mem h)) fun hfe => ?_
    simp (disch := omega) only [go_sem] at hfe
    refine AW.imp (Imp.unfoldO2 (b0 := b3) (k := 2) (sz := 2) (l := (x.fSteps.take k).map (encStep true)) (O_eq _ _ _) rfl (map_elem (fun _ => rfl) _) (fun b hb => ?_) (fun hnil => ?_))
    · have hb1 := hb.nf
      simp only [go_sem] at hb1
      simp only [List.set_cons_zero, List.set_cons_succ, List.length_map]
      (refine vU ?_; with_reducible repeat' first | exact Le.l | refine Sw ?_ ?_ | intro h)
      · rw [flat_elem_len (sz := 2) (map_elem (fun _ => rfl) _), List.length_map]
      rename_i g
      refine Imp.foldA (b0 := b3) (k := 2) (b := g) (sz := 2) (cells0 := [.v (.bool x.fRoot), .v (.int .i64 x.fUps), .arr g 0 ((x.fSteps.take k).length + 1) 2]) (l := (x.fSteps.take k).map (encStep true)) (encStep true (at_ x.fSteps k)) gO (by rw [List.length_map]; rfl) (by simp (maxSteps := 2000000) (disch := omega) only [go_sem]; rfl) (by omega) (map_elem (fun _ => rfl) _) rfl ?_
      simp only [List.set_cons_zero, List.set_cons_succ]
      exact ⟨trivial, _, [_], _, by omega, ⟨k + 1, rfl, rfl, rfl, by omega⟩, rfl, by rw [take_at' (by assumption), List.map_append]; simp (maxSteps := 2000000) (disch := omega) only [go_sem]⟩
    · simp only [List.set_cons_zero, List.set_cons_succ, hnil]
      (refine vU ?_; with_reducible repeat' first | exact Le.l | refine Sw ?_ ?_ | intro h)
      have hk0 : k = 0 := by rw [List.map_eq_nil_iff] at hnil; rw [hnil] at hlt; exact hlt.symm
      subst hk0
      refine Imp.id ?_
      simp (maxSteps := 2000000) (disch := omega) only [go_sem]
      exact ⟨_, [_], _, by omega, ⟨1, rfl, rfl, rfl, by omega⟩, rfl, by rw [take_at' (by assumption)]; simp (maxSteps := 2000000) (disch := omega) only [go_sem]; rfl⟩
  · rw [show k = x.fSteps.length by omega, List.take_length]
    all_goals exact uU
end Go.Proofs.YtmdbmmmlccipdaaGreatDoor
