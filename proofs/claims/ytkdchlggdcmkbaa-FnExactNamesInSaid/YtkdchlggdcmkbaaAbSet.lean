/-
  The logic's stepping: simplification facts.
-/
import Derived.Test.YtkdchlggdcmkbaaAbRun
set_option linter.unusedSimpArgs false
set_option linter.unusedVariables false
namespace Go.Ab
open Go.RowKit (Below)

theorem O_nil (b : Nat) : O [] b = none := rfl

section
variable {L : Nat → Nat} {P : Program} {s : AS} {Q : Exit → AS → Prop} {n0 : Nat} {t0 : List (Nat × AV)} {os : List (Nat × Option (List AV))}

/-- go on with some of the slots, without objects -/
theorem AW.keep {c : Code} (ks : List Nat) (h : AW L P c ⟨n0, keepT t0 ks, []⟩ Q) : AW L P c ⟨n0, t0, os⟩ Q :=
  AW.weaken h rfl (T_keep t0 ks) (fun b cells hb => by rw [O_nil] at hb; cases hb)

theorem AW.keepO {c : Code} (ks : List Nat) (o' : List (Nat × Option (List AV))) (ho : ∀ b cells, O o' b = some cells → O os b = some cells) (h : AW L P c ⟨n0, keepT t0 ks, o'⟩ Q) : AW L P c ⟨n0, t0, os⟩ Q :=
  AW.weaken h rfl (T_keep t0 ks) ho

/-- a loop: the slots ks at its head; no objects -/
theorem AW.loopK {c : Code} (ks : List Nat) (I : Nat → List (Nat × AV) → Prop) (n : Nat) (h0 : I n (keepT t0 ks))
    (round : ∀ m t, I m t → AW L P c ⟨n0, t, []⟩ (thenQ (fun s' => s'.n = n0 ∧ ∃ m', m' < m ∧ I m' (keepT s'.t ks)) Q)) : AW L P (.loop c) ⟨n0, t0, os⟩ Q := by
  refine AW.keep ks (AW.loop (fun m s' => s'.n = n0 ∧ s'.o = [] ∧ I m s'.t) n ⟨rfl, rfl, h0⟩ ?_)
  rintro m ⟨n', t, o'⟩ ⟨rfl, rfl, hI⟩
  refine fun B F0 w0 a w hd => wp_mono (round m t hI B F0 w0 a w hd) ?_
  rintro e a' w' ⟨s', h1, h2⟩
  cases e with
  | normal =>
    obtain ⟨hn, m', hm, hI'⟩ := h1
    exact ⟨⟨_, keepT s'.t ks, []⟩, ⟨m', hm, rfl, rfl, hI'⟩, h2.weaken hn.symm (T_keep s'.t ks) (fun b cells hb => by rw [O_nil] at hb; cases hb)⟩
  | _ => exact ⟨s', h1, h2⟩

/-- a loop with objects -/
theorem AW.loopO {c : Code} (ks : List Nat) (I : Nat → List (Nat × AV) → List (Nat × Option (List AV)) → Prop) (n : Nat) (o0 : List (Nat × Option (List AV))) (ho : ∀ b cells, O o0 b = some cells → O os b = some cells) (h0 : I n (keepT t0 ks) o0)
    (round : ∀ m t o, I m t o → AW L P c ⟨n0, t, o⟩ (thenQ (fun s' => s'.n = n0 ∧ ∃ m' o', m' < m ∧ I m' (keepT s'.t ks) o' ∧ ∀ b cells, O o' b = some cells → O s'.o b = some cells) Q)) : AW L P (.loop c) ⟨n0, t0, os⟩ Q := by
  refine AW.keepO ks o0 ho (AW.loop (fun m s' => s'.n = n0 ∧ I m s'.t s'.o) n ⟨rfl, h0⟩ ?_)
  rintro m ⟨n', t, o'⟩ ⟨rfl, hI⟩
  refine fun B F0 w0 a w hd => wp_mono (round m t o' hI B F0 w0 a w hd) ?_
  rintro e a' w' ⟨s', h1, h2⟩
  cases e with
  | normal =>
    obtain ⟨hn, m', o'', hm, hI', ho'⟩ := h1
    exact ⟨⟨_, keepT s'.t ks, o''⟩, ⟨m', hm, rfl, hI'⟩, h2.weaken hn.symm (T_keep s'.t ks) ho'⟩
  | _ => exact ⟨s', h1, h2⟩
end

theorem O_eq (b : Nat) (c : Option (List AV)) (o : List (Nat × Option (List AV))) : O ((b, c) :: o) b = c := by simp [O]
theorem O_ne {b b' : Nat} (h : b' ≠ b) (c : Option (List AV)) (o : List (Nat × Option (List AV))) : O ((b', c) :: o) b = O o b := by simp [O, h]

theorem wrap_i64 {x : Int} (h1 : -9223372036854775808 ≤ x) (h2 : x ≤ 9223372036854775807) : IntKind.i64.wrap x = x := by
  rw [IntKind.wrap_i64]; omega

attribute [go_sem] W zipT List.size_toArray List.length_cons List.length_nil List.range List.range.loop List.range' List.getElem?_toArray List.getElem?_cons_zero List.getElem?_cons_succ isL dstOK ovc ev T upd put killL killsR AV.nown AV.nownL true_and List.map_cons List.map_nil Nat.zero_add cond_true cond_false Nat.blt Nat.ble List.nil_append binV gval unV Option.bind_some okcL okc evS AV.strip implies_true and_true if_true Op.operands Bool.true_and beq_true Bool.and_true Bool.cond_false_right Bool.cond_true_left imp_self forall_const callVc lowP lenA idxVc_true Option.map_some val List.drop_zero List.drop_succ_cons List.take_succ_cons List.take_zero List.head?_cons Bool.and_self Bool.not_true Bool.not_false AV.elem AV.cells AV.frzL AV.frz keepT List.cons_append fillA bndR fnA AV.closed AV.closedL List.all_cons List.all_nil List.contains List.elem List.flatMap_cons List.flatMap_nil List.append_nil Option.isSome_some List.nodup_nil AV.one O_eq srcA kills dropO Int.toNat_natCast Int.natCast_nonneg List.length_map Option.getD_some Value.oneCell' BEq.rfl List.toList_toArray avz binS Int.ofNat_lt Int.ofNat_le

end Go.Ab
