/-
  Proved: for every input FnExactFindDevice returns true, and its arguments read behind the call as they read before (FnExactFindDeviceSaid); no condition beyond the statement own.
-/
import Derived.Test.YtkdchlggdcmkbaaLaw6b
import Derived.Test.YtkdchlggdcmkbaaOpn2
import Derived.Test.YtkdchlggdcmkbaaShut6
import Derived.Test.YtkdchlggdcmkbaaRows
import Derived.WalkKit
import Derived.ProofKit
import Derived.OpenShut
import Derived.Carry
import Derived.SizedLaws
set_option linter.unusedSimpArgs false
set_option linter.unusedVariables false
namespace Go.Proofs.Ytkdchlggdcmkbaa.fnExactFindDevice
open Go.ChangeShapes Go.WideShapes Go.ChangeAt Go.RowKit Go.Ab Go.Dt
set_option linter.unusedVariables false

theorem own : ownKnob Try.prog.godebug = none := by kernel_rfl
theorem laidOut : laidOutB Try.prog = true := by kernel_rfl

theorem walk (l : List Dt.GDevice) (name : Str) (w : World) (v u : Value) (hr : Rep rawL (fun b => b < w.heap.size) w (.sl false 15 (l.map (encDevice false))) v []) (hs : Rep rawL (fun b => b < w.heap.size) w (.str name) u []) :
    Calls Try.prog 6 #[v, u] w fun e w' => e = .returned (.bool true) ∧ Below w.heap.size w w' := by
  have fin : ∀ {e : Ending} {w' : World} {L : Nat → Nat}, (∃ v' F' fp, e = .returned v' ∧ Below w.heap.size w w' ∧ (∀ b, (fun b => b < w.heap.size) b → F' b) ∧ (∀ b, F' b → (fun b => b < w.heap.size) b ∨ (w.heap.size ≤ b ∧ b < w'.heap.size)) ∧
      Rep L F' w' (.v (.bool true)) v' fp ∧ fp.Nodup ∧ ∀ b, b ∈ fp → ¬ F' b ∧ w.heap.size ≤ b ∧ b < w'.heap.size) → e = .returned (.bool true) ∧ Below w.heap.size w w' := by
    rintro e w' L ⟨v', F', fp, rfl, hb, _, _, hv, _⟩
    simp only [Rep] at hv
    exact ⟨by rw [hv.1], hb⟩
  by_cases hn : 1048576 < name.length
  · exact (lawFindDevice_A0 l name hn w _ [v, u] (fun b hb => hb) (RepL.app (RepL.single hr) (RepL.single hs))).mono fun e w' he => fin he
  by_cases h : szSl szDevice l 1048576 < 0
  · exact (lawFindDevice_A l name hn h w _ [v, u] (fun b hb => hb) (RepL.app (RepL.single hr) (RepL.single hs))).mono fun e w' he => fin he
  · have hf : (AV.sl false 15 (l.map (encDevice false))).fits lim := fits_sl (f := szDevice) szDevice_le l 1048576 (by omega) (by omega) (by omega) fun y hy r' p q s => fitDevice y r' p q s
    have hs' : Rep lim (fun b => b < w.heap.size) w (.str name) u [] := by simpa only [Rep] using hs
    exact (lawFindDevice_B l name hn h w _ [v, u] (fun b hb => hb) (RepL.app (RepL.single (Rep.fit hf hr)) (RepL.single hs'))).mono fun e w' he => fin he

set_option maxRecDepth 100000 in
theorem lifted (os : Os) (started : os.Started) (H : Type) (enc : TypeId × Value → H) :
    ReturnsInHanded {} Try.checked os 6 .any (Rows.fnExactFindDeviceSpec.pre6 enc Try.prog Try.f6 Rows.fnExactFindDeviceRow.domain false) (Rows.fnExactFindDeviceSpec.post enc Try.prog Try.f6 false true false false) := by
  refine returnsInHanded_of_change_sized (C := Try.checked) own started (by kernel_rfl) Try.func6
    (ChangeSpec.witness6 (enc := enc) (C := Try.checked) false ⟨#[], #[.slice none 0 0, .string ⟨#[]⟩], []⟩ 8 (by kernel_rfl) (by kernel_rfl) (by kernel_rfl) (by kernel_rfl)) ?_
  intro W base args ds gs before hval0 hW hcnd hsz0 _
  have hval : ∀ (j : Nat) t v, Try.f6.params[j]? = some t → args[j]? = some v → Value.okWide Try.prog W .any base t v := hval0
  have hsz : (DataW.weightsEach Try.prog (Try.f6.params.toList ++ Rows.fnExactFindDeviceSpec.plain.varTypes Try.prog) (ds ++ gs)).all (· ≤ reachBytes) = true := hsz0
  have hW' := hW
  obtain ⟨p, q, hA0, hV, rfl, hfz, hnd⟩ := hW
  have hA : DataW.TrodAll enc Try.prog W 0 (fun _ => true) true Try.f6.params.toList args.toList ds p := hA0
  rw [Try.params6] at hA hval hsz
  obtain ⟨v0, vs0, d0, ds0, p0, q0, hargs, rfl, rfl, h0, r0⟩ := trodAll_cons hA
  obtain ⟨v1, vs1, d1, ds1, p1, q1, rfl, rfl, rfl, h1, r1⟩ := trodAll_cons r0
  obtain ⟨rfl, rfl, rfl⟩ := trodAll_nil r1
  obtain rfl : args = #[v0, v1] := by cases args; simp_all
  obtain ⟨rfl, rfl⟩ := trodVars_none hV
  have k0 := h0
  have k1 := h1
  have lt0 : ∀ x ∈ p0, x.block < W.heap.size := by obtain ⟨m, hm⟩ := k0; exact DataW.trod_lt m _ _ _ hm
  have lt1 : ∀ x ∈ p1, x.block < W.heap.size := by obtain ⟨m, hm⟩ := k1; exact DataW.trod_lt m _ _ _ hm
  have hz := List.all_eq_true.1 hsz
  obtain ⟨l, hl⟩ : ∃ l : List Dt.GDevice, Rep rawL (fun b => b < W.heap.size) W (.sl false 15 (l.map (encDevice false))) v0 [] := by
    obtain ⟨m, hm⟩ := h0
    obtain ⟨l, _, hr⟩ := Opens.slice (enc := enc) (P := Try.prog) (t := 47) (e := 109) (bytes := 232) (by kernel_rfl) (by decide) (by decide) (hreach _) pkDevice (opDevice m) m (by omega) _ _ hm (fun k hk => by
      have := hz k (by simp only [List.cons_append, DataW.weightsEach, List.mem_append]; exact .inl hk)
      simpa using this)
    obtain ⟨a, n, c, rfl⟩ := okWide_slice (e := 109) (by kernel_rfl) (hval 0 47 v0 rfl rfl)
    exact ⟨l, RepL.one (by simpa [Value.cells] using hr)⟩
  obtain ⟨name, hn⟩ : ∃ s : Str, Rep rawL (fun b => b < W.heap.size) W (.str s) v1 [] := by
    obtain ⟨m, hm⟩ := h1
    obtain ⟨s, _, hr⟩ := Opens.str (n := m) (enc := enc) (P := Try.prog) (t := 9) (by kernel_rfl) m (by omega) _ _ hm (fun k hk => by
      have := hz k (by simp only [List.cons_append, DataW.weightsEach, List.mem_append]; exact .inr (.inl hk))
      simpa using this)
    obtain ⟨x, rfl⟩ := okWide_string (by kernel_rfl) (hval 1 9 v1 rfl rfl)
    exact ⟨s, RepL.one (by simpa [Value.cells] using hr)⟩
  clear hA0 hval0 hsz0
  refine (walk l name W v0 v1 hl hn).mono fun e W' ⟨he, bel⟩ => ?_
  subst he
  exact ⟨_, rfl, _, _, _, [], _, [], hW', trodAll_mk1 (shut_bool (by kernel_rfl) _), (trodAll_cons_mk (Below.trod laidOut (by kernel_rfl) (of_decide_eq_true (by kernel_rfl)) k0 bel lt0) (trodAll_cons_mk (Below.trod laidOut (by kernel_rfl) (of_decide_eq_true (by kernel_rfl)) k1 bel lt1) trodAll_mk0)), rfl, bel.frame _, fun h => by cases h⟩

theorem over : Rows.fnExactFindDeviceRow.holds Try.pinned (OpenSpec.ofChange Rows.fnExactFindDeviceSpec) :=
  OpenClaim.holds_of_wide 6 Try.f6 rfl rfl rfl rfl rfl rfl rfl ⟨rfl, rfl, rfl, rfl, rfl⟩ rfl rfl rfl rfl rfl (by kernel_rfl) Try.func6 closed
    (of_decide_eq_true (by kernel_rfl)) (by unfold Func.isWrapper; first | (rw [if_pos (by decide +kernel)]; kernel_rfl) | (rw [if_neg (by decide +kernel)]; exact ⟨rfl, rfl⟩))
    (fun os started H enc _ => lifted os started H enc)

theorem proved : Rows.FnExactFindDeviceSaid := over
#print axioms proved
end Go.Proofs.Ytkdchlggdcmkbaa.fnExactFindDevice
