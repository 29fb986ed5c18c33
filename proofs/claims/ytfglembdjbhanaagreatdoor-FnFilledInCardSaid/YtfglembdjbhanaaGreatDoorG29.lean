/-
  Part of a proof: AbVp.
-/
import Derived.Test.YtfglembdjbhanaaGreatDoorG11
set_option linter.unusedSimpArgs false
set_option linter.unusedVariables false
namespace Go.Ab
open Go.RowKit (Below)
attribute [go_sem] Array.empty_append
section
variable {L : Nat → Nat} {n : Nat} {t : List (Nat × AV)} {o : Sto} {Q : AS → Prop}
theorem Imp.vpO (i : Nat) {b off : Nat} {cells : List AV} (hT : T t i = .ptr b off) (hO : O o b = some cells) (hn : AV.nownL cells = true) (h : Q ⟨n, (i, .vp (cells.drop off)) :: t, (b, none) :: o⟩) : Imp L ⟨n, t, o⟩ Q := by
  intro B F0 w0 a w hd
  refine ⟨_, h, ?_⟩
  obtain ⟨F, own, fp, fs, hd⟩ := hd
  obtain ⟨hkey, _, _, c0, Ty0, vals0, rst0, hc0, hcl0, hl0⟩ := hd.obj b _ hO
  rw [RepL.fp_nil hn hl0] at hl0
  classical
  let F' : Nat → Prop := fun k => F k ∨ k = b
  let own' : Nat → Own := fun k => if k = b then .none else own k
  have hid : Ext (fun _ => True) w w := ⟨Nat.le_refl _, fun _ _ => rfl, fun b c T z hc => ⟨c, hc, rfl⟩⟩
  have hb := hd.ol b (by rw [hkey]; simp)
  have hnot : ∀ k, k ≠ b → own' k = own k := fun k hk => by simp only [own', if_neg hk]
  have hrow : RowAt w b 0 vals0 := by
    refine ⟨c0, Ty0, (0, 0), hc0, fun j hj => ?_⟩
    have : c0.toList[j]? = vals0[j]? := by rw [hcl0, List.getElem?_append_left hj]
    rw [Nat.zero_add, ← this, Array.getElem?_toList]
  refine ⟨F', own', fp, fs, { below := hd.below, hB := hd.hB, tb := hd.tb, f0 := fun b hb => .inl (hd.f0 b hb), fl := ?_, ol := ?_, defers := hd.defers, size := hd.size, slots := ?_, sn := hd.sn, so := ?_, obj := ?_ }⟩
  · rintro k (hk | rfl)
    · have := hd.fl k hk
      exact ⟨by simp only [own']; split <;> simp [this.1], this.2⟩
    · exact ⟨by simp only [own', if_true], hb.2, .inr hb.1⟩
  · intro k hk
    simp only [own'] at hk
    split at hk
    · exact absurd rfl hk
    · exact hd.ol k hk
  · intro j
    rw [T_cons]
    by_cases e : i = j
    · subst e
      simp only [if_true]
      have hr := hd.slots i
      rw [hT] at hr
      simp only [Rep] at hr ⊢
      refine ⟨hr.2, b, off, vals0.drop off, hr.1, .inr rfl, ?_, ?_⟩
      · have := hrow.cut off vals0.length
        rw [List.take_of_length_le (by simp), Nat.zero_add] at this
        exact this
      · obtain ⟨f', h1, h2⟩ := (RepL.ext (F' := F') hid (fun b hb => ⟨.inl hb, trivial⟩) (fun _ _ => trivial) hl0).cut off (cells.length + vals0.length)
        rw [List.take_of_length_le (by simp; omega), List.take_of_length_le (by simp; omega)] at h1
        have : f' = [] := List.eq_nil_iff_forall_not_mem.2 fun b hb => by simpa using h2 b hb
        rw [this] at h1; exact h1
    · simp only [if_neg e]
      exact Rep.ext hid (fun b hb => ⟨.inl hb, trivial⟩) (fun _ _ => trivial) (hd.slots j)
  · intro j k hk
    have := hd.so j k hk
    rw [hnot k (fun e => by rw [e, hkey] at this; cases this)]; exact this
  · intro q cs hq
    simp only [O] at hq
    split at hq
    · cases hq
    · rename_i hne
      have hne' : q ≠ b := fun e => hne e.symm
      obtain ⟨g1, g2, g3, c, Ty, vals, rst, g4, g5, g6⟩ := hd.obj q cs hq
      refine ⟨by rw [hnot q hne']; exact g1, g2, fun k hk => by rw [hnot k (fun e => by have := g3 k hk; rw [e, hkey] at this; cases this)]; exact g3 k hk, c, Ty, vals, rst, g4, g5, ?_⟩
      exact RepL.ext hid (fun b hb => ⟨.inl hb, trivial⟩) (fun _ _ => trivial) g6
end
end Go.Ab
