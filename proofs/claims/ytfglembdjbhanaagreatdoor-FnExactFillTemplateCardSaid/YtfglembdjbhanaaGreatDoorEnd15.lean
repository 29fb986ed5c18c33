/-
  that the program's FillTemplate returns what the reference's returns, for all arguments
-/
import Derived.Test.YtfglembdjbhanaaGreatDoorRows
import Derived.WalkKit
import Derived.ProofKit
import Derived.OpenShut
import Derived.Carry
import Derived.SizedLaws
import Derived.Test.YtfglembdjbhanaaGreatDoorTie
import Derived.Test.YtfglembdjbhanaaGreatDoorCards
import Derived.LaidLaws
import Derived.Lay
import Derived.SevenTiedAt
import Derived.ChangeVars
import Derived.MakeChecks
import Derived.Test.YtfglembdjbhanaaGreatDoorG17
import Derived.Test.YtfglembdjbhanaaGreatDoorG18
import Derived.Test.YtfglembdjbhanaaGreatDoorG43
import Derived.Test.YtfglembdjbhanaaGreatDoorG44
set_option linter.unusedSimpArgs false
set_option linter.unusedVariables false
namespace Go.Proofs.YtfglembdjbhanaaGreatDoor.fnExactFillTemplate
open Go.ChangeShapes Go.WideShapes Go.ChangeAt Go.RowKit Go.Ab Go.Dt
set_option linter.unusedVariables false

theorem own : ownKnob Tryz.prog.godebug = none := by kernel_rfl
theorem laidOut : laidOutB Tryz.prog = true := by kernel_rfl

def laidL : List (String × DataW Unit) := [("math/bits.deBruijn32tab", Rows.laid_math_bits_deBruijn32tab), ("math/bits.deBruijn64tab", Rows.laid_math_bits_deBruijn64tab), ("internal/strconv.uint64pow10", Rows.laid_internal_strconv_uint64pow10)]
theorem laid_m (os : Os) (args : Array Value) : laidMetH Tryz.prog laidL ((World.laidAll Tryz.prog os laidL).forCall (fun _ _ => 0) ⟨#[], args, []⟩).memory :=
  laid_met args (by kernel_rfl) (by kernel_rfl) (by kernel_rfl)
theorem tabEq : (Rows.laid_internal_strconv_uint64pow10 : DataW Unit) = Lib.tabData .u64 Lib.pow10Tab := by kernel_rfl
theorem tabMem : ("internal/strconv.uint64pow10", (Lib.tabData .u64 Lib.pow10Tab : DataW Unit)) ∈ laidL := by rw [← tabEq]; simp [laidL]
theorem tabTb {W : World} (h : laidMetH Tryz.prog laidL W) : Tb lim (fun b => b < W.heap.size) W := by
  rw [MakeChecks.laidMetH_plain _ _ _ (by kernel_rfl)] at h
  obtain ⟨ps, h, _⟩ := h
  refine tb_of (g := 0) (by kernel_rfl) (fun k c g' hk hg hl => ?_) (tabIs_mem (g := 0) (t := 180) (e := 172) (n := 20) (by kernel_rfl) (by kernel_rfl) (by kernel_rfl) (by kernel_rfl) (by kernel_rfl) (by kernel_rfl) tabMem h)
  match k, hk with
  | 0, _ => exact ⟨rfl, by simp only [lim, limT] at hl; simp at hl; omega⟩

set_option maxRecDepth 100000 in
theorem lifted (os : Os) (started : os.Started) (H : Type) (enc : TypeId × Value → H) :
    ReturnsInHanded {} Tryz.checked os 4 .any (fun w args => (Rows.fnExactFillTemplateSpec.pre enc Tryz.prog Tryz.f4 Rows.fnExactFillTemplateRow.domain false w args ∧ laidMetH Tryz.prog laidL w) ∧ sizedMet enc Tryz.prog Tryz.f4 (OpenSpec.ofChange Rows.fnExactFillTemplateSpec) false w args) (Rows.fnExactFillTemplateSpec.post enc Tryz.prog Tryz.f4 false true false false) := by
  refine returnsInHanded_of_change_and (C := Tryz.checked) (X := fun w _ => laidMetH Tryz.prog laidL w) (fun _ _ _ hh h => h.of_heap hh) own started (by kernel_rfl) Tryz.func4
    (ChangeSpec.witness_shaped (enc := enc) (C := Tryz.checked) (os := os) (X := fun w _ => laidMetH Tryz.prog laidL w) false (World.laidAll Tryz.prog os laidL) #[.agg #[.string ⟨#[]⟩, .slice none 0 0, .slice none 0 0], .slice none 0 0] 8 (World.laidAll_os _ _ _) (World.shaped_of_ZipB (by kernel_rfl) (by kernel_rfl)) (by kernel_rfl) (by kernel_rfl) (by kernel_rfl) (laid_m os _)) ?_
  intro W base args ds gs before hval0 hW hcnd hsz0 hL _
  have hval : ∀ (j : Nat) t v, Tryz.f4.params[j]? = some t → args[j]? = some v → Value.okWide Tryz.prog W .any base t v := hval0
  have hsz : (DataW.weightsEach Tryz.prog (Tryz.f4.params.toList ++ Rows.fnExactFillTemplateSpec.plain.varTypes Tryz.prog) (ds ++ gs)).all (· ≤ reachBytes) = true := hsz0
  have hW' := hW
  obtain ⟨p, q, hA0, hV, rfl, hfz, hnd⟩ := hW
  have hA : DataW.TrodAll enc Tryz.prog W 0 (fun _ => true) true Tryz.f4.params.toList args.toList ds p := hA0
  rw [Tryz.params4] at hA hval hsz
  obtain ⟨v0, vs0, d0, ds0, p0, q0, hargs, rfl, rfl, h0, r0⟩ := trodAll_cons hA
  obtain ⟨v1, vs1, d1, ds1, p1, q1, rfl, rfl, rfl, h1, r1⟩ := trodAll_cons r0
  obtain ⟨rfl, rfl, rfl⟩ := trodAll_nil r1
  obtain rfl : args = #[v0, v1] := by cases args; simp_all
  obtain ⟨rfl, rfl⟩ := trodVars_none hV
  have k0 := h0
  have lt0 : ∀ x ∈ p0, x.block < W.heap.size := by obtain ⟨m, hm⟩ := k0; exact DataW.trod_lt m _ _ _ hm
  have k1 := h1
  have lt1 : ∀ x ∈ p1, x.block < W.heap.size := by obtain ⟨m, hm⟩ := k1; exact DataW.trod_lt m _ _ _ hm
  have hz := List.all_eq_true.1 hsz
  obtain ⟨x0, r0⟩ : ∃ x : Dt.GTemplate, Rep rawL (fun b => b < W.heap.size) W (encTemplate false x) v0 [] := by
    obtain ⟨m, hm⟩ := h0
    obtain ⟨c, _, hr⟩ := opTemplate m m (Nat.le_refl _) _ _ hm (fun k hk => by
      have := hz k (by simp only [List.cons_append, DataW.weightsEach, List.mem_append]; exact .inl hk)
      simpa using this)
    obtain ⟨cs, rfl⟩ := okWide_sfl (x := (3, [(9, 0, 1), (50, 1, 1), (51, 2, 1)])) (by kernel_rfl) (hval 0 53 v0 rfl rfl)
    refine ⟨c, ?_⟩
    simp only [go_sem, Rep]
    exact ⟨cs.toList, by simp, by simpa [Value.cells, celTemplate] using hr⟩
  obtain ⟨x1, r1⟩ : ∃ l : List Dt.GArg, Rep rawL (fun b => b < W.heap.size) W (.sl false 2 (l.map (encArg false))) v1 [] := by
    obtain ⟨m, hm⟩ := h1
    obtain ⟨l, _, hr⟩ := Opens.slice (enc := enc) (P := Tryz.prog) (t := 54) (e := 98) (bytes := 32) (by kernel_rfl) (by decide) (by decide) (hreach _) pkArg (opArg m) m (by omega) _ _ hm (fun k hk => by
      have := hz k (by simp only [List.cons_append, DataW.weightsEach, List.mem_append]; exact .inr (.inl hk))
      simpa using this)
    obtain ⟨a, n, c, rfl⟩ := okWide_slice (e := 98) (by kernel_rfl) (hval 1 54 v1 rfl rfl)
    exact ⟨l, RepL.one (by simpa [Value.cells] using hr)⟩
  clear hA0 hval0 hsz0
  refine ((lawFillTemplate_c x0 x1).walk W [v0, v1] (tabTb hL) (RepL.app (RepL.single r0) (RepL.single r1))).mono fun e W' ⟨he, bel⟩ => ?_
  subst he
  exact ⟨_, rfl, _, _, _, [], _, [], hW', trodAll_mk1 (shut_bool (by kernel_rfl) _), (trodAll_cons_mk (Below.trod laidOut (by kernel_rfl) (of_decide_eq_true (by kernel_rfl)) k0 bel lt0) (trodAll_cons_mk (Below.trod laidOut (by kernel_rfl) (of_decide_eq_true (by kernel_rfl)) k1 bel lt1) trodAll_mk0)), rfl, bel.frame _, fun h => by cases h⟩

theorem over : Rows.fnExactFillTemplateRow.holds Tryz.pinned (OpenSpec.ofChange Rows.fnExactFillTemplateSpec) :=
  OpenClaim.holds_of_wide 4 Tryz.f4 rfl rfl rfl rfl rfl rfl rfl ⟨rfl, rfl, rfl, rfl, rfl⟩ rfl rfl rfl rfl rfl (by kernel_rfl) Tryz.func4 closed
    (of_decide_eq_true (by kernel_rfl)) (by unfold Func.isWrapper; first | (rw [if_pos (by decide +kernel)]; kernel_rfl) | (rw [if_neg (by decide +kernel)]; exact ⟨rfl, rfl⟩))
    (fun os started H enc _ => lifted os started H enc)

theorem proved : Rows.FnExactFillTemplateCardSaid :=
  Claim7.holds_tied_plain_at .later [] [.data, .data, .data] true (true, "4552585fc1ac03942e1d4f7e92e53a86c009e89673662f046fa638de272b212f") false
    over (fun _ h => by cases h) (by kernel_rfl) (fun _ h => by cases h) fnExactFillTemplate_row_tie rfl ⟨rfl, rfl⟩ (by kernel_rfl) rfl
    (fun f fn hf hfn => by
      obtain rfl : f = 4 := Option.some.inj ((show Tryz.prog.funcNamed "loop.example/g03013/laws.FnExactFillTemplate" = some 4 by kernel_rfl).symm.trans hf) |>.symm
      obtain rfl : fn = Tryz.f4 := (Option.some.inj (Tryz.func4.symm.trans hfn)).symm
      exact ⟨by kernel_rfl, fun j t ht => by
        rw [Tryz.params4] at ht
        have hm : t ∈ [53, 54] := by simpa using Array.mem_of_getElem? ht
        have hall : ([53, 54].all fun u => !Tryz.prog.wantsStandIn u) = true := by kernel_rfl
        exact (show Tryz.prog.wantsStandIn t = false by simpa using List.all_eq_true.1 hall t hm)⟩)
    (by kernel_rfl)
#print axioms proved
end Go.Proofs.YtfglembdjbhanaaGreatDoor.fnExactFillTemplate
