/-
  Part of a proof: AbZ, AbA.
-/
import Derived.Test.YtfglembdjbhanaaGreatDoorG6
import Derived.Test.YtfglembdjbhanaaGreatDoorG11
set_option linter.unusedSimpArgs false
set_option linter.unusedVariables false
namespace Go.Ab
class FindPin (u : Value) (l : List AV) (pr : outParam (List AV)) (x : outParam AV) (post : outParam (List AV)) : Prop where
  e : l = pr ++ ([.pin u x] ++ post)
end Go.Ab
namespace Go.Ab
attribute [go_sem] pinW AV.pinI
section
variable {L : Nat → Nat} {P : Program} {n : Nat} {t : List (Nat × AV)} {o : Sto} {Q : Exit → AS → Prop}
theorem AW.post {c : Code} {s : AS} (h : AW L P c s (fun e s' => Imp L s' (Q e))) : AW L P c s Q := by
  intro B F0 w0 a w hd
  refine wp_mono (h B F0 w0 a w hd) ?_
  rintro e a' w' ⟨s', h1, h2⟩
  exact h1 B F0 w0 a' w' h2
end
end Go.Ab
namespace Go.Ab
class SegPre (hd l : List AV) (px ux post : outParam (List AV)) : Prop where
  e : l = px ++ post
  hh : hdrL px = hd
  uu : unpL px = ux
class FindSeg (hd l : List AV) (pr px ux post : outParam (List AV)) : Prop where
  e : l = pr ++ (px ++ post)
  hh : hdrL px = hd
  uu : unpL px = ux
class FindSegO (hd : List AV) (os : Sto) (b : outParam Nat) (pr px ux post : outParam (List AV)) (sd : outParam Prop) : Prop where
  e : sd → O os b = some (pr ++ (px ++ post))
  hh : hdrL px = hd
  uu : unpL px = ux
class FindPinO (u : Value) (os : Sto) (b : outParam Nat) (pr : outParam (List AV)) (x : outParam AV) (post : outParam (List AV)) (sd : outParam Prop) : Prop where
  e : sd → O os b = some (pr ++ ([.pin u x] ++ post))
class LowS (os : Sto) (args : List AV) (la : outParam (List AV)) (sd : outParam Prop) : Prop where
  h : sd → LowL os args la
class Rq (G : Prop) (R : outParam Prop) : Prop where
  r : R → G
def CallQ (L : Nat → Nat) (P : Program) (os : Sto) (la : List AV) (f : FuncId) [K : Hd (AV → Sto → Prop)] : Prop := enters P f = true ∧ ∃ res, res.closed = true ∧ PureC L P f la res ∧ K.v res os
def CallR (L : Nat → Nat) (P : Program) (la : List AV) (G : Bool) (f : FuncId) [K : Hd (AV → Prop)] : Prop := ∃ res, (G = true → enters P f = true ∧ res.closed = true ∧ PureC L P f la res) ∧ K.v res
end Go.Ab
namespace Go.Ab
theorem so_nnn (a : Operand) : (#[a] ++ (none : Option Operand).toArray ++ (none : Option Operand).toArray ++ (none : Option Operand).toArray).toList = [a] := rfl
theorem so_nsn (a b : Operand) : (#[a] ++ (none : Option Operand).toArray ++ (some b).toArray ++ (none : Option Operand).toArray).toList = [a, b] := rfl
theorem so_snn (a b : Operand) : (#[a] ++ (some b).toArray ++ (none : Option Operand).toArray ++ (none : Option Operand).toArray).toList = [a, b] := rfl
theorem so_ssn (a b c : Operand) : (#[a] ++ (some b).toArray ++ (some c).toArray ++ (none : Option Operand).toArray).toList = [a, b, c] := rfl
attribute [go_sem] so_nnn so_nsn so_snn so_ssn
end Go.Ab
namespace Go.Ab
class Rx (G : Prop) (R : outParam Prop) : Prop where
  r : R → G
theorem X {G R : Prop} [h : Rx G R] (p : R) : G := h.r p
class PinA (hs : Nat → Value) (j : Nat) (l : List AV) (l' : outParam (List AV)) : Prop where
  e : pinW hs j l = l'
class PinO (hs : Nat → Value) (j : Nat) (l : List AV) (l' : outParam (List AV)) : Prop where
  e : pinW hs j l = l'
section
variable {hs : Nat → Value} {j sz : Nat} {l l' m : List AV} {u : Value} {s : List UInt8} {x : AV}
end
end Go.Ab
namespace Go.Ab
section
variable {L : Nat → Nat} {n : Nat} {t : List (Nat × AV)} {o : Sto} {Q : AS → Prop}
end
end Go.Ab
