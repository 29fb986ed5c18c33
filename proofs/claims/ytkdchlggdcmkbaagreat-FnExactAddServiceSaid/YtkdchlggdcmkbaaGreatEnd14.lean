/-
  The program answers AddService as the reference does, for all arguments; there are no conditions.
-/
import Derived.Test.YtkdchlggdcmkbaaGreatRows
import Derived.WalkKit
import Derived.ProofKit
import Derived.OpenShut
import Derived.Carry
import Derived.SizedLaws
import Derived.Test.YtkdchlggdcmkbaaGreatG0
import Derived.Test.YtkdchlggdcmkbaaGreatG13
import Derived.Test.YtkdchlggdcmkbaaGreatG14
import Derived.Test.YtkdchlggdcmkbaaGreatG37
import Derived.Test.YtkdchlggdcmkbaaGreatG38
set_option linter.unusedSimpArgs false
set_option linter.unusedVariables false
namespace Go.Proofs.YtkdchlggdcmkbaaGreat.fnExactAddService
open Go.ChangeShapes Go.WideShapes Go.ChangeAt Go.RowKit Go.Ab Go.Dt
set_option linter.unusedVariables false

theorem own : ownKnob Tryz.prog.godebug = none := by kernel_rfl
theorem laidOut : laidOutB Tryz.prog = true := by kernel_rfl

set_option maxRecDepth 100000 in
theorem lifted (os : Os) (started : os.Started) (H : Type) (enc : TypeId × Value → H) :
    ReturnsInHanded {} Tryz.checked os 6 .any (Rows.fnExactAddServiceSpec.pre6 enc Tryz.prog Tryz.f6 Rows.fnExactAddServiceRow.domain false) (Rows.fnExactAddServiceSpec.post enc Tryz.prog Tryz.f6 false true false false) := by
  refine returnsInHanded_of_change_sized (C := Tryz.checked) own started (by kernel_rfl) Tryz.func6
    (ChangeSpec.witness6 (enc := enc) (C := Tryz.checked) false ⟨#[], #[.agg #[.slice none 0 0, .slice none 0 0], .agg #[.string ⟨#[]⟩, .string ⟨#[]⟩, .slice none 0 0, .slice none 0 0]], []⟩ 8 (by kernel_rfl) (by kernel_rfl) (by kernel_rfl) (by kernel_rfl)) ?_
  intro W base args ds gs before hval0 hW hcnd hsz0 _
  have hval : ∀ (j : Nat) t v, Tryz.f6.params[j]? = some t → args[j]? = some v → Value.okWide Tryz.prog W .any base t v := hval0
  have hsz : (DataW.weightsEach Tryz.prog (Tryz.f6.params.toList ++ Rows.fnExactAddServiceSpec.plain.varTypes Tryz.prog) (ds ++ gs)).all (· ≤ reachBytes) = true := hsz0
  have hW' := hW
  obtain ⟨p, q, hA0, hV, rfl, hfz, hnd⟩ := hW
  have hA : DataW.TrodAll enc Tryz.prog W 0 (fun _ => true) true Tryz.f6.params.toList args.toList ds p := hA0
  rw [Tryz.params6] at hA hval hsz
  obtain ⟨v0, vs0, d0, ds0, p0, q0, hargs, rfl, rfl, h0, r0⟩ := trodAll_cons hA
  obtain ⟨v1, vs1, d1, ds1, p1, q1, rfl, rfl, rfl, h1, r1⟩ := trodAll_cons r0
  obtain ⟨rfl, rfl, rfl⟩ := trodAll_nil r1
  obtain rfl : args = #[v0, v1] := by cases args; simp_all
  obtain ⟨rfl, rfl⟩ := trodVars_none hV
  have k0 := h0
  have lt0 : ∀ x ∈ p0, x.block < W.heap.size := by obtain ⟨m, hm⟩ := k0; exact DataW.trod_lt m _ _ _ hm
  have k1 := h1
  have lt1 : ∀ x ∈ p1, x.block < W.heap.size := by obtain ⟨m, hm⟩ := k1; exact DataW.trod_lt m _ _ _ hm
  have hz := List.all_eq_true.1 hsz
  obtain ⟨x0, r0⟩ : ∃ x : Dt.GPlan, Rep rawL (fun b => b < W.heap.size) W (encPlan false x) v0 [] := by
    obtain ⟨m, hm⟩ := h0
    obtain ⟨c, _, hr⟩ := opPlan m m (Nat.le_refl _) _ _ hm (fun k hk => by
      have := hz k (by simp only [List.cons_append, DataW.weightsEach, List.mem_append]; exact .inl hk)
      simpa using this)
    obtain ⟨cs, rfl⟩ := okWide_sfl (x := (2, [(22, 0, 1), (23, 1, 1)])) (by kernel_rfl) (hval 0 25 v0 rfl rfl)
    refine ⟨c, ?_⟩
    simp only [go_sem, Rep]
    exact ⟨cs.toList, by simp, by simpa [Value.cells, celPlan] using hr⟩
  obtain ⟨x1, r1⟩ : ∃ x : Dt.GService, Rep rawL (fun b => b < W.heap.size) W (encService false x) v1 [] := by
    obtain ⟨m, hm⟩ := h1
    obtain ⟨c, _, hr⟩ := opService m m (Nat.le_refl _) _ _ hm (fun k hk => by
      have := hz k (by simp only [List.cons_append, DataW.weightsEach, List.mem_append]; exact .inr (.inl hk))
      simpa using this)
    obtain ⟨cs, rfl⟩ := okWide_sfl (x := (4, [(9, 0, 1), (9, 1, 1), (80, 2, 1), (66, 3, 1)])) (by kernel_rfl) (hval 1 82 v1 rfl rfl)
    refine ⟨c, ?_⟩
    simp only [go_sem, Rep]
    exact ⟨cs.toList, by simp, by simpa [Value.cells, celService] using hr⟩
  clear hA0 hval0 hsz0
  refine ((lawAddService_c x0 x1).walk W [v0, v1] (RepL.app (RepL.single r0) (RepL.single r1))).mono fun e W' ⟨he, bel⟩ => ?_
  subst he
  exact ⟨_, rfl, _, _, _, [], _, [], hW', trodAll_mk1 (shut_bool (by kernel_rfl) _), (trodAll_cons_mk (Below.trod laidOut (by kernel_rfl) (of_decide_eq_true (by kernel_rfl)) k0 bel lt0) (trodAll_cons_mk (Below.trod laidOut (by kernel_rfl) (of_decide_eq_true (by kernel_rfl)) k1 bel lt1) trodAll_mk0)), rfl, bel.frame _, fun h => by cases h⟩

theorem over : Rows.fnExactAddServiceRow.holds Tryz.pinned (OpenSpec.ofChange Rows.fnExactAddServiceSpec) :=
  OpenClaim.holds_of_wide 6 Tryz.f6 rfl rfl rfl rfl rfl rfl rfl ⟨rfl, rfl, rfl, rfl, rfl⟩ rfl rfl rfl rfl rfl (by kernel_rfl) Tryz.func6 closed
    (of_decide_eq_true (by kernel_rfl)) (by unfold Func.isWrapper; first | (rw [if_pos (by decide +kernel)]; kernel_rfl) | (rw [if_neg (by decide +kernel)]; exact ⟨rfl, rfl⟩))
    (fun os started H enc _ => lifted os started H enc)

theorem proved : Rows.FnExactAddServiceSaid := over
#print axioms proved
end Go.Proofs.YtkdchlggdcmkbaaGreat.fnExactAddService
