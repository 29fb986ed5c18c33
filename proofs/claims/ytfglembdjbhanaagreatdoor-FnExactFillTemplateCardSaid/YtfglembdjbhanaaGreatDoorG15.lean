/-
  Part of a proof: AbDa.
-/
import Derived.Test.YtfglembdjbhanaaGreatDoorG14
set_option linter.unusedSimpArgs false
set_option linter.unusedVariables false
namespace Go.Ab
open Go.RowKit (Below)
section
variable {L : Nat → Nat} {P : Program} {n : Nat}

theorem LOp.more {t : List (Nat × AV)} {os os' : Sto} {o : Oper} {x : AV} {C : List Nat} (h : LOp L P ⟨n, t, os⟩ o x C) (ho : ∀ c cells, O os c = some cells → O os' c = some cells) : LOp L P ⟨n, t, os'⟩ o x C := by
  intro B F0 w0 F own fp fs a w next Q hd hnext
  exact h B F0 w0 F own fp fs a w next Q { hd with obj := fun b cells hb => hd.obj b cells (ho b cells hb) } hnext

def wA (D : List (AV × List Nat)) (b : Nat) : List (AV × List Nat) := D ++ [(.ptr b 0, [])]
def StA (L : Nat → Nat) (n : Nat) (ops : Array Oper) (D : List (AV × List Nat)) (t0 : List (Nat × AV)) (os : Sto) (cs : List AV) (B F0 : Nat → Prop) (w0 : World) (S : Nat → Bool) (a : Act) (w : World) : Prop :=
  ∃ b os', ((S D.length = false ∧ os' = os) ∨ (S D.length = true ∧ Fresh os b ∧ os' = (b, some cs) :: os)) ∧ Den L B F0 w0 ⟨n, runD ops (wA D b) t0 ((List.range (D.length + 1)).filter S), os'⟩ a w

def TailA (P : Program) (ops : Array Oper) (n : Nat) (o : Sto) (D : List (AV × List Nat)) (t : List (Nat × AV)) (R : List Nat → List (Nat × AV) → Sto → Prop) : Prop :=
  match ops[D.length]? with
  | some oa => match oa.op with
    | .alloc ty' => match zer P ty' with
      | some zs => oa.guard.isNone = true ∧ dstOK n oa.dst = true ∧ drawOK ops (D.map Prod.snd ++ [[]]) = true ∧
        ∀ b, nfO o b → R (List.range' (D.length + 1) (ops.size - (D.length + 1))) (upd oa (.ptr b 0) [] t) ((b, some (zs.map avz)) :: o)
      | none => False
    | _ => False
  | none => False

theorem TailA.out {ops : Array Oper} {o : Sto} {D : List (AV × List Nat)} {t : List (Nat × AV)} {R : List Nat → List (Nat × AV) → Sto → Prop} (h : TailA P ops n o D t R) :
    ∃ oa ty' zs, ops[D.length]? = some oa ∧ oa.guard = none ∧ oa.op = .alloc ty' ∧ dstOK n oa.dst = true ∧ zer P ty' = some zs ∧ drawOK ops (D.map Prod.snd ++ [[]]) = true ∧
      ∀ b, Fresh o b → R (List.range' (D.length + 1) (ops.size - (D.length + 1))) (upd oa (.ptr b 0) [] t) ((b, some (zs.map avz)) :: o) := by
  unfold TailA at h
  split at h
  · rename_i oa hoa
    split at h
    · rename_i ty' hop
      split at h
      · rename_i zs hz
        obtain ⟨h1, h2, h3, h4⟩ := h
        exact ⟨oa, ty', zs, hoa, by simpa using h1, hop, h2, hz, h3, fun b hb => h4 b hb.nf⟩
      · exact h.elim
    · exact h.elim
  · exact h.elim

section
variable {t : List (Nat × AV)} {o : Sto} {Q : Exit → AS → Prop} {id : Nat} {ops : Array Oper}
end
attribute [go_sem] TailA
end
end Go.Ab
