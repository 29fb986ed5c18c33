/-
  that a template is filled exactly if every argument is right, and a text exactly if its names have arguments
-/
import Derived.Test.YtfglembdjbhanaaGreatDoorRows
import Derived.WalkKit
import Derived.ProofKit
import Derived.OpenShut
import Derived.Carry
import Derived.SizedLaws
import Derived.Test.YtfglembdjbhanaaGreatDoorTie
import Derived.Test.YtfglembdjbhanaaGreatDoorCards
import Derived.LaidLaws
import Derived.Lay
import Derived.SevenTiedAt
import Derived.ChangeVars
import Derived.MakeChecks
import Derived.Test.YtfglembdjbhanaaGreatDoorG26
import Derived.Test.YtfglembdjbhanaaGreatDoorG27
import Derived.Test.YtfglembdjbhanaaGreatDoorG41
import Derived.Test.YtfglembdjbhanaaGreatDoorG42
set_option linter.unusedSimpArgs false
set_option linter.unusedVariables false
namespace Go.Proofs.YtfglembdjbhanaaGreatDoor.fnFilledIn
open Go.ChangeShapes Go.WideShapes Go.ChangeAt Go.RowKit Go.Ab Go.Dt
set_option linter.unusedVariables false

theorem own : ownKnob Tryz.prog.godebug = none := by kernel_rfl
theorem laidOut : laidOutB Tryz.prog = true := by kernel_rfl

def laidL : List (String × DataW Unit) := [("math/bits.deBruijn32tab", Rows.laid_math_bits_deBruijn32tab), ("math/bits.deBruijn64tab", Rows.laid_math_bits_deBruijn64tab), ("internal/strconv.uint64pow10", Rows.laid_internal_strconv_uint64pow10)]
theorem laid_m (os : Os) (args : Array Value) : laidMetH Tryz.prog laidL ((World.laidAll Tryz.prog os laidL).forCall (fun _ _ => 0) ⟨#[], args, []⟩).memory :=
  laid_met args (by kernel_rfl) (by kernel_rfl) (by kernel_rfl)
theorem tabEq : (Rows.laid_internal_strconv_uint64pow10 : DataW Unit) = Lib.tabData .u64 Lib.pow10Tab := by kernel_rfl
theorem tabMem : ("internal/strconv.uint64pow10", (Lib.tabData .u64 Lib.pow10Tab : DataW Unit)) ∈ laidL := by rw [← tabEq]; simp [laidL]
theorem tabTb {W : World} (h : laidMetH Tryz.prog laidL W) : Tb lim (fun b => b < W.heap.size) W := by
  rw [MakeChecks.laidMetH_plain _ _ _ (by kernel_rfl)] at h
  obtain ⟨ps, h, _⟩ := h
  refine tb_of (g := 0) (by kernel_rfl) (fun k c g' hk hg hl => ?_) (tabIs_mem (g := 0) (t := 180) (e := 172) (n := 20) (by kernel_rfl) (by kernel_rfl) (by kernel_rfl) (by kernel_rfl) (by kernel_rfl) (by kernel_rfl) tabMem h)
  match k, hk with
  | 0, _ => exact ⟨rfl, by simp only [lim, limT] at hl; simp at hl; omega⟩

set_option maxRecDepth 100000 in
theorem lifted (os : Os) (started : os.Started) (H : Type) (enc : TypeId × Value → H) :
    ReturnsInHanded {} Tryz.checked os 3 .any (fun w args => (Rows.fnFilledInSpec.pre enc Tryz.prog Tryz.f3 Rows.fnFilledInRow.domain false w args ∧ laidMetH Tryz.prog laidL w) ∧ sizedMet enc Tryz.prog Tryz.f3 (OpenSpec.ofChange Rows.fnFilledInSpec) false w args) (Rows.fnFilledInSpec.post enc Tryz.prog Tryz.f3 false true false false) := by
  refine returnsInHanded_of_change_and (C := Tryz.checked) (X := fun w _ => laidMetH Tryz.prog laidL w) (fun _ _ _ hh h => h.of_heap hh) own started (by kernel_rfl) Tryz.func3
    (ChangeSpec.witness_shaped (enc := enc) (C := Tryz.checked) (os := os) (X := fun w _ => laidMetH Tryz.prog laidL w) false (World.laidAll Tryz.prog os laidL) #[.slice none 0 0] 8 (World.laidAll_os _ _ _) (World.shaped_of_ZipB (by kernel_rfl) (by kernel_rfl)) (by kernel_rfl) (by kernel_rfl) (by kernel_rfl) (laid_m os _)) ?_
  intro W base args ds gs before hval0 hW hcnd hsz0 hL _
  have hval : ∀ (j : Nat) t v, Tryz.f3.params[j]? = some t → args[j]? = some v → Value.okWide Tryz.prog W .any base t v := hval0
  have hsz : (DataW.weightsEach Tryz.prog (Tryz.f3.params.toList ++ Rows.fnFilledInSpec.plain.varTypes Tryz.prog) (ds ++ gs)).all (· ≤ reachBytes) = true := hsz0
  have hW' := hW
  obtain ⟨p, q, hA0, hV, rfl, hfz, hnd⟩ := hW
  have hA : DataW.TrodAll enc Tryz.prog W 0 (fun _ => true) true Tryz.f3.params.toList args.toList ds p := hA0
  rw [Tryz.params3] at hA hval hsz
  obtain ⟨v0, vs0, d0, ds0, p0, q0, hargs, rfl, rfl, h0, r0⟩ := trodAll_cons hA
  obtain ⟨rfl, rfl, rfl⟩ := trodAll_nil r0
  obtain rfl : args = #[v0] := by cases args; simp_all
  obtain ⟨rfl, rfl⟩ := trodVars_none hV
  have k0 := h0
  have lt0 : ∀ x ∈ p0, x.block < W.heap.size := by obtain ⟨m, hm⟩ := k0; exact DataW.trod_lt m _ _ _ hm
  have hz := List.all_eq_true.1 hsz
  obtain ⟨x0, r0⟩ : ∃ l : List UInt8, Rep rawL (fun b => b < W.heap.size) W (.sl false 1 (bytesA l)) v0 [] := by
    obtain ⟨m, hm⟩ := h0
    obtain ⟨l, _, hr⟩ := Opens.slice (enc := enc) (P := Tryz.prog) (t := 22) (e := 5) (bytes := 1) (by kernel_rfl) (by decide) (by decide) (hreach _) Packs.byte (Opens.byte (n := m) (by kernel_rfl)) m (by omega) _ _ hm (fun k hk => by
      have := hz k (by simp only [List.cons_append, DataW.weightsEach, List.mem_append]; exact .inl hk)
      simpa using this)
    obtain ⟨a, n, c, rfl⟩ := okWide_slice (e := 5) (by kernel_rfl) (hval 0 22 v0 rfl rfl)
    exact ⟨l, RepL.one (by simpa [Value.cells, bytesA] using hr)⟩
  clear hA0 hval0 hsz0
  refine ((lawFilledIn_c x0).walk W [v0] (tabTb hL) (RepL.single r0)).mono fun e W' ⟨he, bel⟩ => ?_
  subst he
  exact ⟨_, rfl, _, _, _, [], _, [], hW', trodAll_mk1 (shut_bool (by kernel_rfl) _), (trodAll_cons_mk (Below.trod laidOut (by kernel_rfl) (of_decide_eq_true (by kernel_rfl)) k0 bel lt0) trodAll_mk0), rfl, bel.frame _, fun h => by cases h⟩

theorem over : Rows.fnFilledInRow.holds Tryz.pinned (OpenSpec.ofChange Rows.fnFilledInSpec) :=
  OpenClaim.holds_of_wide 3 Tryz.f3 rfl rfl rfl rfl rfl rfl rfl ⟨rfl, rfl, rfl, rfl, rfl⟩ rfl rfl rfl rfl rfl (by kernel_rfl) Tryz.func3 closed
    (of_decide_eq_true (by kernel_rfl)) (by unfold Func.isWrapper; first | (rw [if_pos (by decide +kernel)]; kernel_rfl) | (rw [if_neg (by decide +kernel)]; exact ⟨rfl, rfl⟩))
    (fun os started H enc _ => lifted os started H enc)

theorem proved : Rows.FnFilledInCardSaid :=
  Claim7.holds_tied_plain_at .later [] [.data, .data, .data] true (true, "4552585fc1ac03942e1d4f7e92e53a86c009e89673662f046fa638de272b212f") false
    over (fun _ h => by cases h) (by kernel_rfl) (fun _ h => by cases h) fnFilledIn_row_tie rfl ⟨rfl, rfl⟩ (by kernel_rfl) rfl
    (fun f fn hf hfn => by
      obtain rfl : f = 3 := Option.some.inj ((show Tryz.prog.funcNamed "loop.example/g03013/laws.FnFilledIn" = some 3 by kernel_rfl).symm.trans hf) |>.symm
      obtain rfl : fn = Tryz.f3 := (Option.some.inj (Tryz.func3.symm.trans hfn)).symm
      exact ⟨by kernel_rfl, fun j t ht => by
        rw [Tryz.params3] at ht
        have hm : t ∈ [22] := by simpa using Array.mem_of_getElem? ht
        have hall : ([22].all fun u => !Tryz.prog.wantsStandIn u) = true := by kernel_rfl
        exact (show Tryz.prog.wantsStandIn t = false by simpa using List.all_eq_true.1 hall t hm)⟩)
    (by kernel_rfl)
#print axioms proved
end Go.Proofs.YtfglembdjbhanaaGreatDoor.fnFilledIn
