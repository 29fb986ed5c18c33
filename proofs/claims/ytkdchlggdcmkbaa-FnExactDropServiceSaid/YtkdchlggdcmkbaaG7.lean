/-
  Part of a proof: Tx0, Tp0, Tp3, Pl0, Ds0.
-/
import Derived.Test.YtkdchlggdcmkbaaG2
import Derived.Test.YtkdchlggdcmkbaaG5
import Derived.Test.YtkdchlggdcmkbaaG6
set_option linter.unusedSimpArgs false
set_option linter.unusedVariables false
namespace Go.Dt
open Go.Ab
/-- p holds below n -/
def allTo (p : Nat → Bool) : Nat → Bool
  | 0 => true
  | k + 1 => allTo p k && p k
theorem szSl_neg {α : Type} {f : α → Int → Int} {l : List α} {r : Int} (h : r - l.length < 0) : szSl f l r = -1 := by unfold szSl thn; rw [if_pos h]
theorem szSl_pos {α : Type} {f : α → Int → Int} {l : List α} {r : Int} (h : 0 ≤ r - l.length) : szSl f l r = szGo f l (r - l.length) := by unfold szSl thn; rw [if_neg (by omega)]
theorem szGo_at {α : Type} [Inhabited α] {f : α → Int → Int} {l : List α} {k : Nat} {r : Int} (h : k < l.length) : szGo f (l.drop k) r = if f (at_ l k) r < 0 then -1 else szGo f (l.drop (k + 1)) (f (at_ l k) r) := by
  rw [at_drop h, szGo, thn]
theorem szGo_end {α : Type} {f : α → Int → Int} {l : List α} {k : Nat} {r : Int} (h : ¬ k < l.length) : szGo f (l.drop k) r = r := by
  rw [List.drop_eq_nil_of_le (by omega), szGo]
theorem rawL_n (n : Nat) : rawL n = 140737488355328 := rfl
attribute [go_sem] rawL_n
class Lok (L : Nat → Nat) : Prop where
  le : ∀ z, L z ≤ 4611686018427387904
instance : Lok lim := ⟨fun z => by unfold lim; split <;> omega⟩
instance : Lok rawL := ⟨fun z => by unfold rawL; omega⟩

def chN (s : Str) (j : Nat) : Bool := ltI (at8 s j) || (!(j == 0) && nmI (at8 s j))
/-- is it a name -/
def isName (s : Str) : Bool := allTo (chN s) s.length && (decide (1 ≤ s.length) && decide (s.length ≤ 16) && !(at8 s (s.length - 1 : Nat) == 45))
def chT (s : Str) (j : Nat) : Bool := decide (32 ≤ at8 s j) && decide (at8 s j ≤ 126)
/-- is it a text -/
def isText (s : Str) : Bool := allTo (chT s) s.length && decide (s.length ≤ 40)
end Go.Dt
namespace Go.Dt
open Go.Ab
def rgOk (l : List GRange) : Nat → Bool
  | 0 => decide ((at_ l 0).fLo ≤ (at_ l 0).fHi) && decide (-1000000000 ≤ (at_ l 0).fLo) && decide ((at_ l 0).fHi ≤ 1000000000)
  | j + 1 => decide ((at_ l (j + 1)).fLo ≤ (at_ l (j + 1)).fHi) && decide (-1000000000 ≤ (at_ l (j + 1)).fLo) && decide ((at_ l (j + 1)).fHi ≤ 1000000000) && decide ((at_ l j).fHi + 2 ≤ (at_ l (j + 1)).fLo)
def areRanges (l : List GRange) : Bool := allTo (rgOk l) l.length && decide (l.length ≤ 6)
def cont (l : List Str) (s : Str) : Bool := decide (0 ≤ idx (fun x => x == s) l)
/-- no two are alike -/
def diffs (l : List Str) : Bool := allTo (fun j => !cont (l.take j) (at_ l j)) l.length
def prmI (l : List GParam) (n : Str) : Int := idx (fun x => x.fName == n) l
def names (l : List Str) : Bool := allTo (fun j => isName (at_ l j)) l.length
end Go.Dt
namespace Go.Dt
open Go.Ab
/-- what a tree weighs, without the count of the list itself -/
def wtg : List GNode → Nat
  | [] => 0
  | .mk n v ks :: xs => (n.length + v.length + ks.length + wtg ks) + wtg xs
def wt (l : List GNode) : Nat := l.length + wtg l
def kc : List GNode → Nat
  | [] => 0
  | .mk _ _ ks :: xs => (ks.length + kc ks) + kc xs
def cnt (l : List GNode) : Nat := l.length + kc l
def dep : List GNode → Nat
  | [] => 0
  | .mk _ _ ks :: xs => max (1 + dep ks) (dep xs)
def nodeOk (x : GNode) : Bool := isName x.fName && isText x.fValue && (x.fValue == [] || x.fKids.length == 0)
def frm : List GNode → Bool
  | [] => true
  | .mk n v ks :: xs => (nodeOk (.mk n v ks) && frm ks) && frm xs
/-- l20Form without its last test -/
def lfr : List GNode → Nat → Bool
  | [], _ => true
  | .mk n v ks :: xs, d => (nodeOk (.mk n v ks) && (lfr ks (d + 1) && (ks.length == 0 || decide (d + 1 ≤ 10)))) && lfr xs d
def l13g : List GNode → Int → Int
  | [], q => q
  | .mk _ _ ks :: xs, q => if q < 0 then q else l13g xs (l13g ks (q - ks.length))
/-- all names of the texts are known -/
def bodyOk (ps : List Str) : List GNode → Bool
  | [] => true
  | .mk _ v ks :: xs => (((tk v).2 && (nmL (tk v)).all (cont ps)) && bodyOk ps ks) && bodyOk ps xs

section
variable {l : List GNode} {k : Nat}
end
def isForm (l : List GNode) : Bool := decide (cnt l ≤ 120) && decide (dep l ≤ 10) && frm l
/-- is it a type; ip: is it a pattern -/
def isType (ip : Str → Bool) (x : GType) : Bool :=
  (decide (x.fKind = 1) && areRanges x.fRanges && x.fNames.isEmpty && x.fPattern.isEmpty && x.fPath.isEmpty) ||
  (decide (x.fKind = 2) && areRanges x.fRanges && (x.fRanges.isEmpty || decide (0 ≤ (at_ x.fRanges 0).fLo)) && (x.fPattern.isEmpty || ip x.fPattern) && x.fNames.isEmpty && x.fPath.isEmpty) ||
  (decide (x.fKind = 4) && decide (1 ≤ x.fNames.length) && decide (x.fNames.length ≤ 6) && names x.fNames && diffs x.fNames && x.fRanges.isEmpty && x.fPattern.isEmpty && x.fPath.isEmpty) ||
  (decide (x.fKind = 5) && isText x.fPath && !x.fPath.isEmpty && x.fRanges.isEmpty && x.fNames.isEmpty && x.fPattern.isEmpty) ||
  (decide (x.fKind = 3 ∨ x.fKind = 6) && x.fRanges.isEmpty && x.fNames.isEmpty && x.fPattern.isEmpty && x.fPath.isEmpty)

section
variable {ip : Str → Bool} {x : GType}
end

section
variable {ip : Str → Bool} {x : GType}
section
variable (H : (((¬x.fKind = 1 ∧ ¬x.fKind = 2 → (x.fRanges.length : Int) ≤ 0) ∧ (¬x.fKind = 4 → (x.fNames.length : Int) ≤ 0)) ∧ (¬x.fKind = 2 → x.fPattern = [])) ∧ (¬x.fKind = 5 → x.fPath = []))
include H
end
end

section
variable {ip : Str → Bool} {x : GType}
end

def prmOk (ip : Str → Bool) (l : List GParam) (j : Nat) : Bool := isName (at_ l j).fName && isType ip (at_ l j).fType
/-- is it a template -/
def isTemplate (ip : Str → Bool) (x : GTemplate) : Bool := allTo (prmOk ip x.fParams) x.fParams.length && diffs (x.fParams.map GParam.fName) && isName x.fName && decide (x.fParams.length ≤ 6) && isForm x.fBody && bodyOk (x.fParams.map GParam.fName) x.fBody

end Go.Dt
namespace Go.Dt
open Go.Ab
def tmI (l : List GTemplate) (n : Str) : Int := idx (fun x => x.fName == n) l
/-- a service in a plan -/
def svc (T : List GTemplate) (x : GService) : Bool := (isName x.fName && decide (0 ≤ tmI T x.fTemplate)) && (names x.fTargets && diffs x.fTargets)
def svOk (T : List GTemplate) (S : List GService) (j : Nat) : Bool := svc T (at_ S j) && (j == 0 || Op.bytesLess (at_ S (j - 1)).fName (at_ S j).fName)
def isPlan (ip : Str → Bool) (T : List GTemplate) (S : List GService) : Bool := ((allTo (fun j => isTemplate ip (at_ T j)) T.length && diffs (T.map GTemplate.fName)) && (decide (T.length ≤ 8) && decide (S.length ≤ 8))) && allTo (svOk T S) S.length
end Go.Dt
namespace Go.Dt
open Go.Ab
theorem szSl_lenle {α : Type} {f : α → Int → Int} {l : List α} {r : Int} (h : 0 ≤ szSl f l r) : (l.length : Int) ≤ r := by
  rcases Int.lt_or_le (r - l.length) 0 with h4 | h4
  · rw [szSl_neg h4] at h; omega
  · omega
end Go.Dt
namespace Go.Dt
open Go.Ab
theorem take_at' {α : Type} [Inhabited α] {l : List α} {i : Nat} (h : i < l.length) : l.take (i + 1) = l.take i ++ [at_ l i] := by
  rw [List.take_succ_eq_append_getElem h]; unfold at_; rw [List.getElem?_eq_getElem h]; rfl
end Go.Dt
namespace Go.Dt
/-- templates of bounded size -/
def tmsOk (T : List GTemplate) : Prop := ∀ t ∈ T, wt t.fBody ≤ 1048576 ∧ t.fParams.length ≤ 1048576
end Go.Dt
namespace Go.Dt
open Go.Ab
/-- where a service of that name stands -/
def svI (l : List GService) (n : Str) : Int := idx (fun x => x.fName == n) l
/-- the services without the one of that name -/
def dropS (l : List GService) (n : Str) : List GService := if svI l n < 0 then l else l.take (svI l n).toNat ++ l.drop ((svI l n).toNat + 1)
def dropP (x : GPlan) (n : Str) : GPlan := ⟨x.fTemplates, dropS x.fServices n⟩
def dropF (l : List GService) (n : Str) : Bool := !(decide (svI l n < 0))
theorem dropS_neg {l : List GService} {n : Str} (h : svI l n < 0) : dropS l n = l := by simp [dropS, h]
theorem dropF_neg {l : List GService} {n : Str} (h : svI l n < 0) : dropF l n = false := by simp [dropF, h]
theorem dropS_at {l : List GService} {n : Str} {k : Nat} (h : svI l n = k) : dropS l n = l.take k ++ l.drop (k + 1) := by
  have h2 : ¬ ((k : Int) < 0) := by omega
  simp [dropS, h, h2]
theorem dropF_at {l : List GService} {n : Str} {k : Nat} (h : svI l n = k) : dropF l n = true := by
  have h2 : ¬ ((k : Int) < 0) := by omega
  simp [dropF, h, h2]
end Go.Dt
