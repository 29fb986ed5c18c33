/-
  Part of a proof: Pt2.
-/
import Derived.Test.YtmdbmmmlccipdaaGreatDoorG22
set_option linter.unusedSimpArgs false
set_option linter.unusedVariables false
namespace Go.Dt
open Go.Ab
mutual
def psz : GPat → Nat
  | .mk _ _ ks => 1 + pszL ks
def pszL : List GPat → Nat
  | [] => 0
  | x :: xs => psz x + pszL xs
end
theorem psz_eq (p : GPat) : psz p = 1 + pszL p.fKids := by cases p; simp [psz, GPat.fKids]
theorem take_at {α β : Type} [Inhabited α] {f : α → β} {l : List α} {k : Nat} (h : k < l.length) : (l.take (k + 1)).map f = (l.take k).map f ++ [f (at_ l k)] := by
  rw [List.take_add_one, List.map_append, at_get h]; rfl
theorem psz_at : ∀ {l : List GPat} {k : Nat}, k < l.length → psz (at_ l k) ≤ pszL l
  | [], _, h => by simp at h
  | x :: xs, 0, _ => by simp [at_, pszL]
  | x :: xs, k + 1, h => by
    have := psz_at (l := xs) (k := k) (by simpa using h)
    simp only [pszL]
    have e : at_ (x :: xs) (k + 1) = at_ xs k := by simp [at_]
    rw [e]; omega
end Go.Dt
namespace Go.Proofs.YtmdbmmmlccipdaaGreatDoor
open Go.Ab Go.Dt
set_option maxRecDepth 20000
set_option maxHeartbeats 4000000

theorem copyPat_n : ∀ (n : Nat) (op : Int) (t : Str) (ks : List GPat), Ctr lim Tryz.prog 353 [] [.agg [.v (.int .i64 op), .str t, .sl false 3 (ks.map encPat)]] (.agg [.v (.int .i64 op), .str t, .sl false 3 (ks.map encPat)]) [] (pszL ks < n)
  | 0, op, t, ks => ⟨en353, fun h => absurd h (Nat.not_lt_zero _)⟩
  | n + 1, op, t, ks => by
    have ih := copyPat_n n
    refine Ctr.of_body en353 Tryz.func353 rfl rfl fun hp => (?_); rw [Tryz.ntmps353]
    refine AW.fact 0 fun hf => ?_
    simp (disch := omega) only [go_sem, Nat.reduceBEq] at hf
    (refine bU ?_; with_reducible repeat' first | exact Le.l | refine Sw ?_ ?_ | intro (K : _ → _ → Prop) hK | intro h)
    rename_i b1 b2
    refine AW.loopV [3, 10] [1, 2, 8, 9] (fun m xs o => ∃ k : Nat, xs = [.sl true 3 ((ks.take k).map encPat), .v (.int .i64 k)] ∧ o = [(b2, some [.v (.int .i64 0), .str [], .v (.slice none 0 0)]), (b1, some [.v (.int .i64 op), .str t, .sl false 3 (ks.map encPat)])] ∧ m = ks.length - k ∧ k ≤ ks.length) ks.length [(b2, some [.v (.int .i64 0), .str [], .v (.slice none 0 0)]), (b1, some [.v (.int .i64 op), .str t, .sl false 3 (ks.map encPat)])] (subO_two (Ne.symm h) rfl rfl) ⟨0, ?_, rfl, rfl, ?_⟩ ?_
    · rfl
    · omega
    rintro m xs o ⟨k, rfl, rfl, rfl, hk⟩
    have hq : k < ks.length → _ := psz_at (l := ks) (k := k)
    have hq2 := psz_eq (at_ ks k)
    have hlt : (ks.take k).length = k := by rw [List.length_take]; omega
    (refine bK ?_; with_reducible repeat' first | exact Le.l | refine Sw ?_ ?_ | intro (K : _ → _ → Prop) hK | intro h)
    (refine AW.i rfl (fun h => ?_) (fun h => ?_) <;> try simp only [hC, reduceCtorEq] at h)
    · (refine bU ?_; with_reducible repeat' first | exact Le.l | refine Sw ?_ ?_ | intro (K : _ → _ → Prop) hK | intro h)
      · refine ⟨_, [_, _], [(b2, some [.v (.int .i64 0), .str [], .v (.slice none 0 0)]), (b1, some [.v (.int .i64 op), .str t, .sl false 3 (ks.map encPat)])], by omega, ⟨k + 1, ?_, rfl, rfl, by omega⟩, rfl, by simp (maxSteps := 2000000) (disch := omega) only [go_sem]⟩
        rw [take_at (by assumption), encPat_eq]
    · refine AW.imp (Imp.frz 3 ?_)
      simp (maxSteps := 2000000) (disch := omega) only [go_sem]
      rw [show k = ks.length by omega, List.take_length]
      (refine bU ?_; with_reducible repeat' first | exact Le.l | refine Sw ?_ ?_ | intro (K : _ → _ → Prop) hK | intro h)
instance copyPat_i (op : Int) (t : Str) (ks : List GPat) : Ctr lim Tryz.prog 353 [] [.agg [.v (.int .i64 op), .str t, .sl false 3 (ks.map encPat)]] (.agg [.v (.int .i64 op), .str t, .sl false 3 (ks.map encPat)]) [] True := ⟨en353, fun _ => (copyPat_n (pszL ks + 1) op t ks).out (by omega)⟩

/-- the bytes below i that are in a set -/
def clsU (h : Nat → Bool) (i : Nat) : Str := ((List.range i).filter h).map UInt8.ofNat
theorem clsU_step (h : Nat → Bool) (i : Nat) : clsU h (i + 1) = clsU h i ++ (if h i then [UInt8.ofNat i] else []) := by
  unfold clsU
  rw [List.range_succ, List.filter_append, List.map_append]
  congr 1
  cases e : h i <;> simp [e]
theorem clsU_le (h : Nat → Bool) (i : Nat) : (clsU h i).length ≤ i := by
  unfold clsU
  rw [List.length_map]
  have := List.length_filter_le h (List.range i)
  simpa using this
theorem byte_end (l : List UInt8) {n : Nat} (h : n ≤ 255) : bytesA l ++ [.v (.int .u8 (n : Int))] = bytesA (l ++ [UInt8.ofNat n]) := by
  have : ((UInt8.ofNat n).toNat : Int) = n := by rw [UInt8.toNat_ofNat']; omega
  simp only [bytesA, List.map_append, List.map_cons, List.map_nil, this]
instance class_i (ha : Nat → Bool) : Ctr lim Tryz.prog 360 [] [.agg (hasC ha)] (.agg [.v (.int .i64 1), .str (clsT ha), .sl false 3 []]) [] True := by
  refine Ctr.of_body en360 Tryz.func360 rfl rfl fun hp => (?_); rw [Tryz.ntmps360]
  (refine bU ?_; with_reducible repeat' first | exact Le.l | refine Sw ?_ ?_ | intro (K : _ → _ → Prop) hK | intro h)
  rename_i b1 b2
  refine AW.loopV [3, 6] [1, 2] (fun m xs o => ∃ k : Nat, xs = [.sl true 1 (bytesA (clsU ha k)), .v (.int .i64 k)] ∧ o = [(b2, some [.v (.int .i64 0), .str [], .v (.slice none 0 0)]), (b1, some (hasC ha))] ∧ m = 256 - k ∧ k ≤ 256) 256 [(b2, some [.v (.int .i64 0), .str [], .v (.slice none 0 0)]), (b1, some (hasC ha))] (subO_two (Ne.symm h) rfl rfl) ⟨0, ?_, rfl, rfl, ?_⟩ ?_
  · rfl
  · omega
  rintro m xs o ⟨k, rfl, rfl, rfl, hk⟩
  have hl := clsU_le ha k
  have hs := clsU_step ha k
  (refine bK ?_; with_reducible repeat' first | exact Le.l | refine Sw ?_ ?_ | intro (K : _ → _ → Prop) hK | intro h)
  (refine AW.i rfl (fun h => ?_) (fun h => ?_) <;> try simp only [hC, reduceCtorEq] at h)
  · (refine bK ?_; with_reducible repeat' first | exact Le.l | refine Sw ?_ ?_ | intro (K : _ → _ → Prop) hK | intro h)
    (refine AW.i rfl (fun h => ?_) (fun h => ?_) <;> try simp only [hC, reduceCtorEq] at h)
    · rename_i hh
      rw [h] at hs
      (refine bU ?_; with_reducible repeat' first | exact Le.l | refine Sw ?_ ?_ | intro (K : _ → _ → Prop) hK | intro h)
      exact ⟨_, [_, _], [(b2, some [.v (.int .i64 0), .str [], .v (.slice none 0 0)]), (b1, some (hasC ha))], by omega, ⟨k + 1, by rw [hs, if_pos rfl, ← byte_end _ (by omega)], rfl, rfl, by omega⟩, rfl, by simp (maxSteps := 2000000) (disch := omega) only [go_sem]⟩
    · rename_i hh
      rw [h] at hs
      (refine bU ?_; with_reducible repeat' first | exact Le.l | refine Sw ?_ ?_ | intro (K : _ → _ → Prop) hK | intro h)
      exact ⟨_, [_, _], [(b2, some [.v (.int .i64 0), .str [], .v (.slice none 0 0)]), (b1, some (hasC ha))], by omega, ⟨k + 1, by rw [hs]; simp, rfl, rfl, by omega⟩, rfl, by simp (maxSteps := 2000000) (disch := omega) only [go_sem]⟩
  · (refine bX ?_; with_reducible repeat' first | exact Le.l | refine Sw ?_ ?_ | intro (K : _ → _ → Prop) hK | intro h)
    refine AW.ret (EndsG.imp (Imp.nilO (b := b2) 3 [.v (.int .i64 1), .str (clsU ha k)] [] gO ?_))
    refine EndsG.fin rfl ?_
    simp (maxSteps := 2000000) (disch := omega) only [go_sem]
    rw [show k = 256 by omega]
    rfl
end Go.Proofs.YtmdbmmmlccipdaaGreatDoor
