/-
  Part of a proof: Sc5f, Pl0.
-/
import Derived.Test.YtmdbmmmlccipdaaGreatDoorG10
import Derived.Test.YtmdbmmmlccipdaaGreatDoorG13
import Derived.Test.YtmdbmmmlccipdaaGreatDoorG17
set_option linter.unusedSimpArgs false
set_option linter.unusedVariables false
namespace Go.Proofs.YtmdbmmmlccipdaaGreatDoor
open Go.Ab Go.Dt
instance iDataKidsF (l : List GSchema) : FCtr lim Tryz.prog 156 [.sl false 19 (l.map (encSchema false))] (.sl false 19 ((dk l).map (encSchema false))) (cntS l ≤ 1048576) :=
  ⟨en156, fun c => by
    have := ((iDataKids_i l).pure c).frz
    simpa only [AV.frz, AV.frzL, schF, cond_true] using this⟩
end Go.Proofs.YtmdbmmmlccipdaaGreatDoor
namespace Go.Dt
open Go.Ab
def tmI (l : List GTemplate) (n : Str) : Int := idx (fun x => x.fName == n) l
/-- a service in a plan -/
def svc (T : List GTemplate) (x : GService) : Bool := (isName x.fName && decide (0 ≤ tmI T x.fTemplate)) && (names x.fTargets && diffs x.fTargets)
def svOk (T : List GTemplate) (S : List GService) (j : Nat) : Bool := svc T (at_ S j) && (j == 0 || Op.bytesLess (at_ S (j - 1)).fName (at_ S j).fName)
def isPlan (ip : Str → Bool) (T : List GTemplate) (S : List GService) : Bool := ((allTo (fun j => isTemplate ip (at_ T j)) T.length && diffs (T.map GTemplate.fName)) && (decide (T.length ≤ 8) && decide (S.length ≤ 8))) && allTo (svOk T S) S.length
end Go.Dt
namespace Go.Dt
open Go.Ab
end Go.Dt
namespace Go.Dt
open Go.Ab
theorem take_at' {α : Type} [Inhabited α] {l : List α} {i : Nat} (h : i < l.length) : l.take (i + 1) = l.take i ++ [at_ l i] := by
  rw [List.take_succ_eq_append_getElem h]; unfold at_; rw [List.getElem?_eq_getElem h]; rfl
end Go.Dt
namespace Go.Dt
/-- templates of bounded size -/
def tmsOk (T : List GTemplate) : Prop := ∀ t ∈ T, wt t.fBody ≤ 1048576 ∧ t.fParams.length ≤ 1048576
end Go.Dt
