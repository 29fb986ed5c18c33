/-
  Part of a proof: Fl2.
-/
import Derived.Test.YtfglembdjbhanaaGreatDoorG23
set_option linter.unusedSimpArgs false
set_option linter.unusedVariables false
namespace Go.Proofs.YtfglembdjbhanaaGreatDoor
open Go.Ab Go.Dt
set_option maxRecDepth 20000

theorem byte_snoc (l : List UInt8) {n : Int} (h : 0 ≤ n ∧ n ≤ 255) : bytesA l ++ [.v (.int .u8 n)] = bytesA (l ++ [UInt8.ofNat n.toNat]) := by
  have : ((UInt8.ofNat n.toNat).toNat : Int) = n := by rw [UInt8.toNat_ofNat']; omega
  simp only [bytesA, List.map_append, List.map_cons, List.map_nil, this]

instance fT1_i (b : Nat) (n : Int) (out : Str) : Ctr lim Tryz.prog 41 [(b, some [.sl true 1 (bytesA out)])] [.v (.int .u8 n), .ptr b 0] (.tup []) [some [.sl true 1 (bytesA (out ++ [UInt8.ofNat n.toNat]))]] ((0 ≤ n ∧ n ≤ 255) ∧ out.length < 1099511627776) := by
  refine Ctr.of_body en41 Tryz.func41 rfl rfl fun hp => (?_); rw [Tryz.ntmps41]
  (refine vU ?_; with_reducible repeat' first | exact Le.l | refine Sw ?_ ?_ | intro (K : _ → _ → Prop) hK | intro h)
  rw [byte_snoc out hp.1]

instance fT21_i (L : Nat → Nat) (a v n : Str) : Ctr L Tryz.prog 44 [] [.agg [.str a, .str v], .vp [.str n]] (.v (.bool (a == n))) [] True := by
  refine Ctr.of_body en44 Tryz.func44 rfl rfl fun hp => (?_); rw [Tryz.ntmps44]
  all_goals exact uU

instance ixArg_i (l : List GArg) (n : Str) : Ctr lim Tryz.prog 43 [] [.sl false 2 (l.map (encArg false)), .fn 44 [.vp [.str n]]] (.v (.int .i64 (idx (argP n) l))) [] True := by
  refine Ctr.of_body en43 Tryz.func43 rfl rfl fun hp => (?_); rw [Tryz.ntmps43]
  refine AW.fact 0 fun hf => ?_
  simp (disch := omega) only [go_sem, Nat.reduceBEq] at hf
  (refine vU ?_; with_reducible repeat' first | exact Le.l | refine Sw ?_ ?_ | intro (K : _ → _ → Prop) hK | intro h)
  refine AW.loopV [8] [0, 1, 7] (fun m xs o => ∃ k : Nat, xs = [.v (.int .i64 k)] ∧ o = [] ∧ m = l.length - k ∧ k ≤ l.length ∧ ∀ x ∈ l.take k, argP n x = false) l.length [] trivial ⟨0, ?_, rfl, rfl, ?_, ?_⟩ ?_
  · rfl
  · omega
  · simp
  rintro m xs o ⟨k, rfl, rfl, rfl, hk, hR⟩
  (refine vU ?_; with_reducible repeat' first | exact Le.l | refine Sw ?_ ?_ | intro (K : _ → _ → Prop) hK | intro h)
  · rw [idx_at' (by assumption) hR (by simpa [argP] using h)]
  · exact ⟨_, [_], [], by omega, ⟨k + 1, rfl, rfl, rfl, by omega, take_step' (by assumption) hR (by simpa [argP] using h)⟩, rfl, trivial⟩
  · rw [idx_end h hR]

instance fT2_i (b1 b2 : Nat) (n : Str) (f : Bool) (out : Str) (l : List GArg) : Ctr lim Tryz.prog 42 [(b2, some [.v (.bool f)]), (b1, some [.sl true 1 (bytesA out)])] [.str n, .vp [.sl false 2 (l.map (encArg false))], .ptr b2 0, .ptr b1 0] (.tup [])
    [some [.v (.bool (f && (argV l n).isSome))], some [.sl true 1 (bytesA (out ++ (argV l n).getD []))]] (b2 ≠ b1 ∧ ArgsOk l ∧ out.length ≤ 1099510579200) := by
  refine Ctr.of_body en42 Tryz.func42 rfl rfl fun hp => (?_); rw [Tryz.ntmps42]
  have hidx := idx_lt (p := argP n) l
  have hval := argV_le hp.2.1 n
  have hne := hp.1
  have hlen := hp.2.2
  have hv : 0 ≤ idx (argP n) l → (argV l n).getD [] = (at_ l (idx (argP n) l).toNat).fValue ∧ (argV l n).isSome = true := fun h => by
    rw [argV, if_neg (by omega)]; exact ⟨rfl, rfl⟩
  (refine vK ?_; with_reducible repeat' first | exact Le.l | refine Sw ?_ ?_ | intro (K : _ → _ → Prop) hK | intro h)
  (refine AW.i rfl (fun h => ?_) (fun h => ?_) <;> try simp only [hC, reduceCtorEq] at h)
  · (refine vU ?_; with_reducible repeat' first | exact Le.l | refine Sw ?_ ?_ | intro (K : _ → _ → Prop) hK | intro h)
    · rw [argV, if_pos h]; simp
    · rw [argV, if_pos h]; simp
  have hv' := hv h
  rw [hv'.1] at hval
  refine AW.imp (Imp.unfoldO2 (b0 := b1) (k := 0) (cells0 := [.sl true 1 (bytesA out)]) (sz := 1) (l := bytesA out) gO rfl (by simpa [List.all_eq_true] using byte_all out) (fun b hb => ?_) (fun hnil => ?_))
  · have hb1 := hb.nf
    simp only [go_sem] at hb1
    simp only [fl_bytes, byte_len, List.set_cons_zero]
    (refine vX ?_; with_reducible repeat' first | exact Le.l | refine Sw ?_ ?_ | intro (K : _ → _ → Prop) hK | intro h)
    rename_i b3
    refine finG.n (EndsG.imp (Imp.foldO (b0 := b1) (k := 0) (b := b3) (len := out.length + (at_ l (idx (argP n) l).toNat).fValue.length) (sz := 1) (cells0 := [.arr b3 0 (out.length + (at_ l (idx (argP n) l).toNat).fValue.length) 1]) (cells := bytesA out ++ bytesA (at_ l (idx (argP n) l).toNat).fValue) (l := bytesA (out ++ (at_ l (idx (argP n) l).toNat).fValue)) gO rfl (by simp (maxSteps := 2000000) (disch := omega) only [go_sem, fl_bytes]) (by omega) (by simp [byte_len]) ?_ (by simpa [List.all_eq_true] using byte_all _) ?_))
    · rw [fl_bytes, bytes_app, List.take_of_length_le (by simp [byte_len])]
    · refine EndsG.fin rfl ?_
      simp (maxSteps := 2000000) (disch := omega) only [go_sem]
      rw [hv'.1, hv'.2]
      simp
  · (refine vU ?_; with_reducible repeat' first | exact Le.l | refine Sw ?_ ?_ | intro (K : _ → _ → Prop) hK | intro h)
    · rw [hv'.2]; simp
    · have : out = [] := by cases out with | nil => rfl | cons c r => simp [bytesA] at hnil
      rw [this, hv'.1]; rfl

instance dolF_i (b1 b2 : Nat) (s : Str) (l : List GArg) (c3 : List AV) : Ctr lim Tryz.prog 40 [(b1, some [.sl true 1 []]), (b2, some [.v (.bool true)]), (b1, some c3)] [.str s, .fn 41 [.ptr b1 0], .fn 42 [.vp [.sl false 2 (l.map (encArg false))], .ptr b2 0, .ptr b1 0]] (.v (.bool (tk s).2))
    [some [.sl true 1 (bytesA (outF l (tk s).1))], some [.v (.bool (allF l (tk s).1))], some [.sl true 1 (bytesA (outF l (tk s).1))]] (b2 ≠ b1 ∧ ArgsOk l ∧ s.length ≤ 1048576) := by
  refine Ctr.of_body en40 Tryz.func40 rfl rfl fun hp => (?_); rw [Tryz.ntmps40]
  have hne := hp.1
  have hls := hp.2.2
  have hao := hp.2.1
  (refine vU ?_; with_reducible repeat' first | exact Le.l | refine Sw ?_ ?_ | intro (K : _ → _ → Prop) hK | intro h)
  refine AW.loopV [7] [0, 1, 2] (fun m xs o => ∃ (k : Nat) (d : List Tok), xs = [.v (.int .i64 k)] ∧ o = [(b1, some [.sl true 1 (bytesA (outF l d))]), (b2, some [.v (.bool (allF l d))])] ∧ m = s.length - k ∧ k ≤ s.length ∧ d.length ≤ k ∧ tkAt s k d) s.length [(b1, some [.sl true 1 []]), (b2, some [.v (.bool true)])] ?_ ⟨0, [], ?_, rfl, rfl, ?_, ?_, tkAt_zero s⟩ ?_
  · simp (maxSteps := 2000000) (disch := omega) only [go_sem]
  · rfl
  · omega
  · simp
  rintro m xs o ⟨k, d, rfl, rfl, rfl, hk, ha, hR⟩
  have hol := outF_len hp.2.1 d
  (refine vU ?_; with_reducible repeat' first | exact Le.l | refine Sw ?_ ?_ | intro (K : _ → _ → Prop) hK | intro h)
  · exact ⟨_, [_], _, by omega, ⟨k + 1, d ++ [_], rfl, rfl, rfl, by omega, by simp; omega, hR.next (tk_plain (by assumption) h)⟩, rfl, subO_two hne.symm (by simp [outF_app, outF, at8_byte]) (by simp [allF_app, allF])⟩
  · exact ⟨_, [_], _, by omega, ⟨k + 1 + 1, d ++ [_], rfl, rfl, rfl, by omega, by simp; omega, hR.next (tk_two h.1 (by assumption) h.2)⟩, rfl, subO_two hne.symm (by simp [outF_app, outF]) (by simp [allF_app, allF])⟩
  · have hq : nameEnd s (k + 1) = k + 1 + 1 + ((s.drop (k + 1 + 1)).takeWhile nmU).length := by rw [nameEnd, if_pos (by simp only [h.2, Bool.and_true, decide_eq_true_eq]; omega), tw_yes h.1 (nm_of_lt h.2)]; omega
    have hle := nameEnd_le s (k + 1) (by omega)
    refine AW.loopV [7] [0, 1, 2, 8] (fun m xs o => ∃ j : Nat, xs = [.v (.int .i64 j)] ∧ o = [(b1, some [.sl true 1 (bytesA (outF l d))]), (b2, some [.v (.bool (allF l d))])] ∧ m = s.length - j ∧ k + 1 ≤ j ∧ j ≤ s.length ∧ j + ((s.drop j).takeWhile nmU).length = nameEnd s (k + 1)) (s.length - (k + 1)) [(b1, some [.sl true 1 (bytesA (outF l d))]), (b2, some [.v (.bool (allF l d))])] (subO_two hne.symm rfl rfl) ⟨k + 1, ?_, rfl, rfl, ?_, ?_, ?_⟩ ?_
    · rfl
    · omega
    · omega
    · rw [tw_yes h.1 (nm_of_lt h.2)]; omega
    have h3 : nameEnd s (k + 1) ≠ k + 1 := by omega
    rintro m xs o ⟨j, rfl, rfl, rfl, hj0, hj, hQ⟩
    (refine vU ?_; with_reducible repeat' first | exact Le.l | refine Sw ?_ ?_ | intro (K : _ → _ → Prop) hK | intro h)
    · rw [tw_yes h.1 h.2] at hQ
      exact ⟨_, [_], _, by omega, ⟨j + 1, rfl, rfl, rfl, by omega, by omega, by omega⟩, rfl, subO_two hne.symm rfl rfl⟩
    · rw [tw_no h] at hQ
      have hj : j = nameEnd s (k + 1) := by simpa using hQ
      subst hj
      exact ⟨_, [_], _, by omega, ⟨_, d ++ [_], rfl, rfl, rfl, by omega, by simp; omega, hR.next (tk_name (by assumption) (by assumption) (by assumption) h3)⟩, rfl, subO_two hne.symm (by simp [outF_app, outF]) (by simp [allF_app, allF])⟩
  all_goals first | rw [hR.bad (tk_bad (by assumption) (by assumption) (by assumption) h)] | rw [hR.fin h]

instance iFillText_i (s : Str) (l : List GArg) : Ctr lim Tryz.prog 9 [] [.str s, .sl false 2 (l.map (encArg false))] (.tup [.str (flS l (tk s)), .v (.bool (flB l (tk s)))]) [] (s.length ≤ 1048576 ∧ ArgsOk l) := by
  refine Ctr.of_body en9 Tryz.func9 rfl rfl fun hp => (?_); rw [Tryz.ntmps9]
  have h1 := hp.2
  have h2 := outF_len h1 (tk s).1
  have h3 := tk_len s
  (refine vU ?_; with_reducible repeat' first | exact Le.l | refine Sw ?_ ?_ | intro (K : _ → _ → Prop) hK | intro h)
  · have : flB l (tk s) = false := by rcases h with h | h <;> simp [flB, h]
    simp [flS, this]
  · simp [flS, flB, h]
end Go.Proofs.YtfglembdjbhanaaGreatDoor
