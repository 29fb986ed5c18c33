/-
  Part of a proof: AbLaw.
-/
import Derived.Test.YtkdchlggdcmkbaaGreatG3
import Derived.Test.YtkdchlggdcmkbaaGreatG8
set_option linter.unusedSimpArgs false
set_option linter.unusedVariables false
namespace Go.Ab
open Go.RowKit (Below)
open Go.Dt
/-- a law's contract: at arguments as they come, or at such as fit -/
def LawC (P : Program) (f : FuncId) (args : List AV) : Prop :=
  PureC rawL P f args (.v (.bool true)) ∨ (AV.fitsL lim args ∧ PureC lim P f args (.v (.bool true)))

theorem LawC.walk {P : Program} {f : FuncId} {args : List AV} (h : LawC P f args) (w : World) (vs : List Value) (hr : RepL rawL (fun b => b < w.heap.size) w args vs []) :
    Calls P f vs.toArray w fun e w' => e = .returned (.bool true) ∧ Below w.heap.size w w' := by
  have fin : ∀ {e : Ending} {w' : World} {L : Nat → Nat}, (∃ v' F' fp, e = .returned v' ∧ Below w.heap.size w w' ∧ (∀ b, (fun b => b < w.heap.size) b → F' b) ∧ (∀ b, F' b → (fun b => b < w.heap.size) b ∨ (w.heap.size ≤ b ∧ b < w'.heap.size)) ∧
      Rep L F' w' (.v (.bool true)) v' fp ∧ fp.Nodup ∧ ∀ b, b ∈ fp → ¬ F' b ∧ w.heap.size ≤ b ∧ b < w'.heap.size) → e = .returned (.bool true) ∧ Below w.heap.size w w' := by
    rintro e w' L ⟨v', F', fp, rfl, hb, _, _, hv, _⟩
    simp only [Rep] at hv
    exact ⟨by rw [hv.1], hb⟩
  rcases h with h | ⟨hf, h⟩
  · exact (h w _ vs (fun b hb => hb) hr).mono fun e w' he => fin he
  · exact (h w _ vs (fun b hb => hb) (RepL.fit hf hr)).mono fun e w' he => fin he

theorem LawC.raw {P : Program} {f : FuncId} {args : List AV} {cs : List (Option (List AV))} {pre : Prop} (h : Ctr rawL P f [] args (.v (.bool true)) cs pre) (hp : pre) : LawC P f args := .inl (h.pure hp)
theorem LawC.fit {P : Program} {f : FuncId} {args : List AV} {cs : List (Option (List AV))} {pre : Prop} (hf : AV.fitsL lim args) (h : Ctr lim P f [] args (.v (.bool true)) cs pre) (hp : pre) : LawC P f args := .inr ⟨hf, h.pure hp⟩
end Go.Ab
