/-
  Part of a proof: Fam5, Fam6.
-/
import Derived.Test.YtkdchlggdcmkbaaGreatG2
import Derived.Test.YtkdchlggdcmkbaaGreatG8
import Derived.Test.YtkdchlggdcmkbaaGreatG12
import Derived.Test.YtkdchlggdcmkbaaGreatG14
set_option linter.unusedSimpArgs false
set_option linter.unusedVariables false
namespace Go.Proofs.YtkdchlggdcmkbaaGreat
open Go.Ab Go.Dt
set_option maxRecDepth 20000
set_option maxHeartbeats 4000000
theorem strLen {L : Nat → Nat} {P : Program} {c : Code} {n : Nat} {t : List (Nat × AV)} {o : Sto} {Q : Exit → AS → Prop} (i : Nat) {own : Bool} {l : List Str} (hi : T t i = .sl own 1 (l.map AV.str)) (h : (∀ k, k < l.length → (at_ l k).length ≤ 4611686018427387904) → AW L P c ⟨n, t, o⟩ Q) : AW L P c ⟨n, t, o⟩ Q := by
  intro B F0 w0 a w hd
  refine h (fun k hk => ?_) B F0 w0 a w hd
  obtain ⟨F, ow, fp, fs, h⟩ := hd
  have hr := h.slots i
  simp only at hr
  rw [hi] at hr
  simp only [Rep] at hr
  rcases hr with ⟨_, e, _⟩ | ⟨b, off, cap, vals, fp', _, _, _, _, he, _⟩
  · have : l = [] := by simpa using e
    subst this; simp at hk
  · obtain ⟨y, f, _, _, hr, _⟩ := he.get (i := k) (x := .str (at_ l k)) (by rw [List.getElem?_map, at_get hk]; rfl)
    simp only [Rep] at hr
    exact hr.2.1
instance szStringS_i (L : Nat → Nat) [hL : Lok L] (l : List Str) (r : Int) : Ctr L Tryz.prog 74 [] [.sl false 1 (l.map AV.str), .v (.int .i64 r)] (.v (.int .i64 (szSl szStr l r))) [] (0 ≤ r ∧ r ≤ 1048576) := by
  refine Ctr.of_body en74 Tryz.func74 rfl rfl fun hp => (?_); rw [Tryz.ntmps74]
  refine strLen 0 rfl fun hfs => ?_
  refine AW.fact 0 fun hf => ?_
  simp (disch := omega) only [go_sem, Nat.reduceBEq] at hf
  have hf := Nat.le_trans hf (hL.le 1)
  (repeat' first | (with_reducible first | refine Z ?_ | refine Y ?_ | (refine hK _ _ ?_; clear hK K) | refine And.intro ?_ ?_ | exact Ct | intro (K : _ → _ → Prop) hK | (refine gI fun hg => ?_; try simp only [hC, reduceCtorEq] at hg; try simp only [hg])) | (refine AW.i rfl (fun h => ?_) (fun h => ?_) <;> try simp only [hC, reduceCtorEq] at h) | ((with_reducible refine E ?_; repeat refine Y ?_); refine eF rfl ?_) | simp (disch := omega) only [go_sem] | (with_reducible intro hg; try simp only [hC, reduceCtorEq] at hg) | exact Cl | fail)
  · rw [szSl_neg h]
  rw [szSl_pos h]
  refine AW.loopV [1, 5] [0] (fun m xs o => ∃ (k : Nat) (q : Int), xs = [.v (.int .i64 q), .v (.int .i64 k)] ∧ o = [] ∧ m = l.length - k ∧ k ≤ l.length ∧ 0 ≤ q ∧ q ≤ 1048576 ∧ szGo szStr (l.drop k) q = szGo szStr l (r - l.length)) l.length [] trivial ⟨0, _, ?_, rfl, rfl, ?_, ?_, ?_, rfl⟩ ?_
  · rfl
  · omega
  · omega
  · omega
  rintro m xs o ⟨k, q, rfl, rfl, rfl, hk, h0, h1, hR⟩
  have hle := szStr_le (at_ l k) q h0
  have hse := hfs k
  have hsz : szStr (at_ l k) q = q - (at_ l k).length := rfl
  (repeat' first | (with_reducible first | refine Z ?_ | refine Y ?_ | (refine hK _ _ ?_; clear hK K) | refine And.intro ?_ ?_ | exact Ct | intro (K : _ → _ → Prop) hK | (refine gI fun hg => ?_; try simp only [hC, reduceCtorEq] at hg; try simp only [hg])) | (refine AW.i rfl (fun h => ?_) (fun h => ?_) <;> try simp only [hC, reduceCtorEq] at h) | ((with_reducible refine E ?_; repeat refine Y ?_); refine eF rfl ?_) | simp (disch := omega) only [go_sem] | (with_reducible intro hg; try simp only [hC, reduceCtorEq] at hg) | exact Cl | fail)
  · rw [szGo_at (by assumption), if_pos (by first | exact h | (rw [hsz]; exact h))] at hR; rw [hR]
  · rw [szGo_at (by assumption), if_neg (by omega)] at hR
    exact ⟨_, [_, _], [], by omega, ⟨k + 1, _, rfl, rfl, rfl, by omega, by omega, by omega, hR⟩, rfl, trivial⟩
  · rw [szGo_end h] at hR; rw [hR]
instance toStringS_i (l : List Str) : Ctr lim Tryz.prog 78 [] [.sl false 1 (l.map AV.str)] (.sl true 1 (l.map AV.str)) [] True := by
  refine Ctr.of_body en78 Tryz.func78 rfl rfl fun hp => (?_); rw [Tryz.ntmps78]
  refine AW.fact 0 fun hf => ?_
  simp (disch := omega) only [go_sem, Nat.reduceBEq] at hf
  (repeat' first | (with_reducible first | refine Z ?_ | refine Y ?_ | (refine hK _ _ ?_; clear hK K) | refine And.intro ?_ ?_ | exact Ct | intro (K : _ → _ → Prop) hK | (refine gI fun hg => ?_; try simp only [hC, reduceCtorEq] at hg; try simp only [hg])) | (refine AW.i rfl (fun h => ?_) (fun h => ?_) <;> try simp only [hC, reduceCtorEq] at h) | ((with_reducible refine E ?_; repeat refine Y ?_); refine eF rfl ?_) | simp (disch := omega) only [go_sem] | (with_reducible intro hg; try simp only [hC, reduceCtorEq] at hg) | exact Cl | fail)
  refine AW.loopV [4] [0, 3] (fun m xs o => ∃ k : Nat, xs = [.v (.int .i64 k)] ∧ o = [(hg, some (mkC AV.str [.string ⟨#[]⟩] l k))] ∧ m = l.length - k ∧ k ≤ l.length) l.length [(hg, some (mkC AV.str [.string ⟨#[]⟩] l 0))] (subO_one (mkC_zero _ _ _)) ⟨0, ?_, rfl, rfl, ?_⟩ ?_
  · rfl
  · omega
  rintro m xs o ⟨k, rfl, rfl, rfl, hk⟩
  have hml := mkC_len AV.str [.string ⟨#[]⟩] 1 (fun _ => rfl) rfl l k hk
  (repeat' first | (with_reducible first | refine Z ?_ | refine Y ?_ | (refine hK _ _ ?_; clear hK K) | refine And.intro ?_ ?_ | exact Ct | intro (K : _ → _ → Prop) hK | (refine gI fun hg => ?_; try simp only [hC, reduceCtorEq] at hg; try simp only [hg])) | (refine AW.i rfl (fun h => ?_) (fun h => ?_) <;> try simp only [hC, reduceCtorEq] at h) | simp (disch := omega) only [go_sem] | (with_reducible intro hg; try simp only [hC, reduceCtorEq] at hg) | exact Cl | fail)
  · exact ⟨_, [_], _, by omega, ⟨k + 1, rfl, rfl, rfl, by omega⟩, rfl, subO_one (by have := mkC_at AV.str [.string ⟨#[]⟩] 1 (fun _ => rfl) rfl l k h; simp only [go_sem, Nat.mul_one] at this ⊢; exact this.symm)⟩
  · refine AW.made 2 rfl h hk (fun _ => rfl) ?_
    all_goals exact uU
instance eqRange_i (L : Nat → Nat) [hL : Lok L] (x : GRange) : Ctr L Tryz.prog 225 [] [.agg [.v (.int .i64 x.fLo), .v (.int .i64 x.fHi)], .agg [.v (.int .i64 x.fLo), .v (.int .i64 x.fHi)]] (.v (.bool true)) [] True := by
  refine Ctr.of_body en225 Tryz.func225 rfl rfl fun hp => (?_); rw [Tryz.ntmps225]
  all_goals exact uU
instance eqRangeS_i (L : Nat → Nat) [hL : Lok L] (l : List GRange) : Ctr L Tryz.prog 212 [] [.sl false 2 (l.map (encRange false)), .sl false 2 (l.map (encRange false))] (.v (.bool true)) [] True := by
  refine Ctr.of_body en212 Tryz.func212 rfl rfl fun hp => (?_); rw [Tryz.ntmps212]
  refine AW.fact 0 fun hf => ?_
  simp (disch := omega) only [go_sem, Nat.reduceBEq] at hf
  have hf := Nat.le_trans hf (hL.le 2)
  (repeat' first | (with_reducible first | refine Z ?_ | refine Y ?_ | (refine hK _ _ ?_; clear hK K) | refine And.intro ?_ ?_ | exact Ct | intro (K : _ → _ → Prop) hK | (refine gI fun hg => ?_; try simp only [hC, reduceCtorEq] at hg; try simp only [hg])) | (refine AW.i rfl (fun h => ?_) (fun h => ?_) <;> try simp only [hC, reduceCtorEq] at h) | ((with_reducible refine E ?_; repeat refine Y ?_); refine eF rfl ?_) | simp (disch := omega) only [go_sem] | (with_reducible intro hg; try simp only [hC, reduceCtorEq] at hg) | exact Cl | fail)
  refine AW.loopV [5] [0, 1] (fun m xs o => ∃ k : Nat, xs = [.v (.int .i64 k)] ∧ o = [] ∧ m = l.length - k ∧ k ≤ l.length) l.length [] trivial ⟨0, ?_, rfl, rfl, ?_⟩ ?_
  · rfl
  · omega
  rintro m xs o ⟨k, rfl, rfl, rfl, hk⟩
  (repeat' first | (with_reducible first | refine Z ?_ | refine Y ?_ | (refine hK _ _ ?_; clear hK K) | refine And.intro ?_ ?_ | exact Ct | intro (K : _ → _ → Prop) hK | (refine gI fun hg => ?_; try simp only [hC, reduceCtorEq] at hg; try simp only [hg])) | (refine AW.i rfl (fun h => ?_) (fun h => ?_) <;> try simp only [hC, reduceCtorEq] at h) | ((with_reducible refine E ?_; repeat refine Y ?_); refine eF rfl ?_) | simp (disch := omega) only [go_sem] | (with_reducible intro hg; try simp only [hC, reduceCtorEq] at hg) | exact Cl | fail)
  exact ⟨_, [_], [], by omega, ⟨k + 1, rfl, rfl, rfl, by omega⟩, rfl, trivial⟩
theorem szGo_Range : ∀ (l : List GRange) (r : Int), 0 ≤ r → szGo szRange l r = r
  | [], _, _ => rfl
  | x :: xs, r, h => by
    rw [szGo, show szRange x r = r from rfl, thn, if_neg (by omega)]; exact szGo_Range xs r h
instance szRangeS_i (L : Nat → Nat) [hL : Lok L] (l : List GRange) (r : Int) : Ctr L Tryz.prog 206 [] [.sl false 2 (l.map (encRange false)), .v (.int .i64 r)] (.v (.int .i64 (szSl szRange l r))) [] (0 ≤ r ∧ r ≤ 1048576) := by
  refine Ctr.of_body en206 Tryz.func206 rfl rfl fun hp => (?_); rw [Tryz.ntmps206]
  refine AW.fact 0 fun hf => ?_
  simp (disch := omega) only [go_sem, Nat.reduceBEq] at hf
  have hf := Nat.le_trans hf (hL.le 2)
  (repeat' first | (with_reducible first | refine Z ?_ | refine Y ?_ | (refine hK _ _ ?_; clear hK K) | refine And.intro ?_ ?_ | exact Ct | intro (K : _ → _ → Prop) hK | (refine gI fun hg => ?_; try simp only [hC, reduceCtorEq] at hg; try simp only [hg])) | (refine AW.i rfl (fun h => ?_) (fun h => ?_) <;> try simp only [hC, reduceCtorEq] at h) | ((with_reducible refine E ?_; repeat refine Y ?_); refine eF rfl ?_) | simp (disch := omega) only [go_sem] | (with_reducible intro hg; try simp only [hC, reduceCtorEq] at hg) | exact Cl | fail)
  · rw [szSl_neg h]
  · rw [szSl_pos h, szGo_Range _ _ h]
instance toRange_i (x : GRange) : Ctr lim Tryz.prog 222 [] [.agg [.v (.int .i64 x.fLo), .v (.int .i64 x.fHi)]] (.agg [.v (.int .i64 x.fLo), .v (.int .i64 x.fHi)]) [] True := by
  refine Ctr.of_body en222 Tryz.func222 rfl rfl fun hp => (?_); rw [Tryz.ntmps222]
  all_goals exact uU
instance toRangeS_i (l : List GRange) : Ctr lim Tryz.prog 209 [] [.sl false 2 (l.map (encRange false))] (.sl true 2 (l.map (encRange true))) [] True := by
  refine Ctr.of_body en209 Tryz.func209 rfl rfl fun hp => (?_); rw [Tryz.ntmps209]
  refine AW.fact 0 fun hf => ?_
  simp (disch := omega) only [go_sem, Nat.reduceBEq] at hf
  (repeat' first | (with_reducible first | refine Z ?_ | refine Y ?_ | (refine hK _ _ ?_; clear hK K) | refine And.intro ?_ ?_ | exact Ct | intro (K : _ → _ → Prop) hK | (refine gI fun hg => ?_; try simp only [hC, reduceCtorEq] at hg; try simp only [hg])) | (refine AW.i rfl (fun h => ?_) (fun h => ?_) <;> try simp only [hC, reduceCtorEq] at h) | ((with_reducible refine E ?_; repeat refine Y ?_); refine eF rfl ?_) | simp (disch := omega) only [go_sem] | (with_reducible intro hg; try simp only [hC, reduceCtorEq] at hg) | exact Cl | fail)
  refine AW.loopV [4] [0, 3] (fun m xs o => ∃ k : Nat, xs = [.v (.int .i64 k)] ∧ o = [(hg, some (mkC (encRange true) [.int .i64 0, .int .i64 0] l k))] ∧ m = l.length - k ∧ k ≤ l.length) l.length [(hg, some (mkC (encRange true) [.int .i64 0, .int .i64 0] l 0))] (subO_one (mkC_zero _ _ _)) ⟨0, ?_, rfl, rfl, ?_⟩ ?_
  · rfl
  · omega
  rintro m xs o ⟨k, rfl, rfl, rfl, hk⟩
  have hml := mkC_len (encRange true) [.int .i64 0, .int .i64 0] 2 (fun _ => rfl) rfl l k hk
  (repeat' first | (with_reducible first | refine Z ?_ | refine Y ?_ | (refine hK _ _ ?_; clear hK K) | refine And.intro ?_ ?_ | exact Ct | intro (K : _ → _ → Prop) hK | (refine gI fun hg => ?_; try simp only [hC, reduceCtorEq] at hg; try simp only [hg])) | (refine AW.i rfl (fun h => ?_) (fun h => ?_) <;> try simp only [hC, reduceCtorEq] at h) | simp (disch := omega) only [go_sem] | (with_reducible intro hg; try simp only [hC, reduceCtorEq] at hg) | exact Cl | fail)
  · exact ⟨_, [_], _, by omega, ⟨k + 1, rfl, rfl, rfl, by omega⟩, rfl, subO_one (by have := mkC_at (encRange true) [.int .i64 0, .int .i64 0] 2 (fun _ => rfl) rfl l k h; simp only [go_sem, Nat.mul_one] at this ⊢; exact this.symm)⟩
  · refine AW.made 2 rfl h hk (fun _ => rfl) ?_
    all_goals exact uU
instance eqType_i (L : Nat → Nat) [hL : Lok L] (x : GType) : Ctr L Tryz.prog 197 [] [.agg [.v (.int .i64 x.fKind), .sl false 2 (x.fRanges.map (encRange false)), .sl false 1 (x.fNames.map AV.str), .str x.fPattern, .str x.fPath], .agg [.v (.int .i64 x.fKind), .sl false 2 (x.fRanges.map (encRange false)), .sl false 1 (x.fNames.map AV.str), .str x.fPattern, .str x.fPath]] (.v (.bool true)) [] True := by
  refine Ctr.of_body en197 Tryz.func197 rfl rfl fun hp => (?_); rw [Tryz.ntmps197]
  all_goals exact uU
instance szType_i (L : Nat → Nat) [hL : Lok L] (x : GType) (r : Int) : Ctr L Tryz.prog 191 [] [.agg [.v (.int .i64 x.fKind), .sl false 2 (x.fRanges.map (encRange false)), .sl false 1 (x.fNames.map AV.str), .str x.fPattern, .str x.fPath], .v (.int .i64 r)] (.v (.int .i64 (szType x r))) [] (0 ≤ r ∧ r ≤ 1048576) := by
  refine Ctr.of_body en191 Tryz.func191 rfl rfl fun hp => (?_); rw [Tryz.ntmps191]
  refine AW.fact 0 fun hf => ?_
  simp (disch := omega) only [go_sem, Nat.reduceBEq] at hf
  have le0 := szSl_le szRange szRange_le x.fRanges r
  have le1 := szSl_le szStr szStr_le x.fNames (szSl szRange x.fRanges r)
  unfold szType
  ((repeat' first | (with_reducible first | refine Z ?_ | refine Y ?_ | (refine hK _ _ ?_; clear hK K) | refine And.intro ?_ ?_ | exact Ct | intro (K : _ → _ → Prop) hK | (refine gI fun hg => ?_; try simp only [hC, reduceCtorEq] at hg; try simp only [hg])) | (refine AW.i rfl (fun h => ?_) (fun h => ?_) <;> try simp only [hC, reduceCtorEq] at h) | ((with_reducible refine E ?_; repeat refine Y ?_); refine eF rfl ?_) | simp (disch := omega) only [go_sem] | (with_reducible intro hg; try simp only [hC, reduceCtorEq] at hg) | exact Cl | fail); all_goals simp only [thn, szStr, id]; all_goals refine congrArg (fun z => AV.v (.int .i64 z)) ?_; all_goals (repeat' split); all_goals omega)
instance toType_i (x : GType) : Ctr lim Tryz.prog 194 [] [.agg [.v (.int .i64 x.fKind), .sl false 2 (x.fRanges.map (encRange false)), .sl false 1 (x.fNames.map AV.str), .str x.fPattern, .str x.fPath]] (.agg [.v (.int .i64 x.fKind), .sl true 2 (x.fRanges.map (encRange true)), .sl true 1 (x.fNames.map AV.str), .str x.fPattern, .str x.fPath]) [] True := by
  refine Ctr.of_body en194 Tryz.func194 rfl rfl fun hp => (?_); rw [Tryz.ntmps194]
  all_goals exact uU
end Go.Proofs.YtkdchlggdcmkbaaGreat
namespace Go.Proofs.YtkdchlggdcmkbaaGreat
open Go.Ab Go.Dt
set_option maxRecDepth 20000
set_option maxHeartbeats 4000000
theorem GNode.kids_lt {x : GNode} {l : List GNode} (h : x ∈ l) : SizeOf.sizeOf x.fKids < SizeOf.sizeOf l := by
  have := List.sizeOf_lt_of_mem h
  cases x; simp [GNode.fKids] at *; omega
theorem eqNode_n (L : Nat → Nat) [hL : Lok L] (n : Nat) (ih : ∀ l : List GNode, Ctr L Tryz.prog 59 [] [.sl false 3 (l.map (encNode false)), .sl false 3 (l.map (encNode false))] (.v (.bool true)) [] (SizeOf.sizeOf l < n)) (x : GNode) : Ctr L Tryz.prog 124 [] [.agg [.str x.fName, .str x.fValue, .sl false 3 (x.fKids.map (encNode false))], .agg [.str x.fName, .str x.fValue, .sl false 3 (x.fKids.map (encNode false))]] (.v (.bool true)) [] (SizeOf.sizeOf x.fKids < n) := by
  refine Ctr.of_body en124 Tryz.func124 rfl rfl fun hp => (?_); rw [Tryz.ntmps124]
  all_goals exact uU
theorem eqNodeS_n (L : Nat → Nat) [hL : Lok L] : ∀ (n : Nat) (l : List GNode), Ctr L Tryz.prog 59 [] [.sl false 3 (l.map (encNode false)), .sl false 3 (l.map (encNode false))] (.v (.bool true)) [] (SizeOf.sizeOf l < n)
  | 0, l => ⟨en59, fun h => absurd h (Nat.not_lt_zero _)⟩
  | n + 1, l => by
    have hx := eqNode_n L n (eqNodeS_n L n)
    refine Ctr.of_body en59 Tryz.func59 rfl rfl fun hp => (?_); rw [Tryz.ntmps59]
    refine AW.fact 0 fun hf => ?_
    simp (disch := omega) only [go_sem, Nat.reduceBEq] at hf
    have hf := Nat.le_trans hf (hL.le 3)
    (repeat' first | (with_reducible first | refine Z ?_ | refine Y ?_ | (refine hK _ _ ?_; clear hK K) | refine And.intro ?_ ?_ | exact Ct | intro (K : _ → _ → Prop) hK | (refine gI fun hg => ?_; try simp only [hC, reduceCtorEq] at hg; try simp only [hg])) | (refine AW.i rfl (fun h => ?_) (fun h => ?_) <;> try simp only [hC, reduceCtorEq] at h) | ((with_reducible refine E ?_; repeat refine Y ?_); refine eF rfl ?_) | simp (disch := omega) only [go_sem] | (with_reducible intro hg; try simp only [hC, reduceCtorEq] at hg) | exact Cl | fail)
    refine AW.loopV [5] [0, 1] (fun m xs o => ∃ k : Nat, xs = [.v (.int .i64 k)] ∧ o = [] ∧ m = l.length - k ∧ k ≤ l.length) l.length [] trivial ⟨0, ?_, rfl, rfl, ?_⟩ ?_
    · rfl
    · omega
    rintro m xs o ⟨k, rfl, rfl, rfl, hk⟩
    have hkk : k < l.length → SizeOf.sizeOf (at_ l k).fKids < n := fun h => by have := GNode.kids_lt (at_mem h); omega
    (repeat' first | (with_reducible first | refine Z ?_ | refine Y ?_ | (refine hK _ _ ?_; clear hK K) | refine And.intro ?_ ?_ | exact Ct | intro (K : _ → _ → Prop) hK | (refine gI fun hg => ?_; try simp only [hC, reduceCtorEq] at hg; try simp only [hg])) | (refine AW.i rfl (fun h => ?_) (fun h => ?_) <;> try simp only [hC, reduceCtorEq] at h) | ((with_reducible refine E ?_; repeat refine Y ?_); refine eF rfl ?_) | simp (disch := omega) only [go_sem] | (with_reducible intro hg; try simp only [hC, reduceCtorEq] at hg) | exact Cl | fail)
    exact ⟨_, [_], [], by omega, ⟨k + 1, rfl, rfl, rfl, by omega⟩, rfl, trivial⟩
instance eqNodeS_i (L : Nat → Nat) [hL : Lok L] (l : List GNode) : Ctr L Tryz.prog 59 [] [.sl false 3 (l.map (encNode false)), .sl false 3 (l.map (encNode false))] (.v (.bool true)) [] True := ⟨en59, fun _ => (eqNodeS_n L (SizeOf.sizeOf l + 1) l).out (Nat.lt_succ_self _)⟩
theorem szNode_n (L : Nat → Nat) [hL : Lok L] (n : Nat) (ih : ∀ (l : List GNode) (r : Int), Ctr L Tryz.prog 51 [] [.sl false 3 (l.map (encNode false)), .v (.int .i64 r)] (.v (.int .i64 (szSl szNode l r))) [] (SizeOf.sizeOf l < n ∧ 0 ≤ r ∧ r ≤ 1048576)) (x : GNode) (r : Int) : Ctr L Tryz.prog 110 [] [.agg [.str x.fName, .str x.fValue, .sl false 3 (x.fKids.map (encNode false))], .v (.int .i64 r)] (.v (.int .i64 (szNode x r))) [] (SizeOf.sizeOf x.fKids < n ∧ 0 ≤ r ∧ r ≤ 1048576) := by
  refine Ctr.of_body en110 Tryz.func110 rfl rfl fun hp => (?_); rw [Tryz.ntmps110]
  refine AW.fact 0 fun hf => ?_
  simp (disch := omega) only [go_sem, Nat.reduceBEq] at hf
  have le2 := szSl_le szNode szNode_le x.fKids ((r - x.fName.length) - x.fValue.length)
  rw [szNode_eq]
  ((repeat' first | (with_reducible first | refine Z ?_ | refine Y ?_ | (refine hK _ _ ?_; clear hK K) | refine And.intro ?_ ?_ | exact Ct | intro (K : _ → _ → Prop) hK | (refine gI fun hg => ?_; try simp only [hC, reduceCtorEq] at hg; try simp only [hg])) | (refine AW.i rfl (fun h => ?_) (fun h => ?_) <;> try simp only [hC, reduceCtorEq] at h) | ((with_reducible refine E ?_; repeat refine Y ?_); refine eF rfl ?_) | simp (disch := omega) only [go_sem] | (with_reducible intro hg; try simp only [hC, reduceCtorEq] at hg) | exact Cl | fail); all_goals simp only [thn, szStr, id]; all_goals refine congrArg (fun z => AV.v (.int .i64 z)) ?_; all_goals (repeat' split); all_goals omega)
theorem szNodeS_n (L : Nat → Nat) [hL : Lok L] : ∀ (n : Nat) (l : List GNode) (r : Int), Ctr L Tryz.prog 51 [] [.sl false 3 (l.map (encNode false)), .v (.int .i64 r)] (.v (.int .i64 (szSl szNode l r))) [] (SizeOf.sizeOf l < n ∧ 0 ≤ r ∧ r ≤ 1048576)
  | 0, l, r => ⟨en51, fun h => absurd h.1 (Nat.not_lt_zero _)⟩
  | n + 1, l, r => by
    have hx := szNode_n L n (szNodeS_n L n)
    refine Ctr.of_body en51 Tryz.func51 rfl rfl fun hp => (?_); rw [Tryz.ntmps51]
    refine AW.fact 0 fun hf => ?_
    simp (disch := omega) only [go_sem, Nat.reduceBEq] at hf
    have hf := Nat.le_trans hf (hL.le 3)
    (repeat' first | (with_reducible first | refine Z ?_ | refine Y ?_ | (refine hK _ _ ?_; clear hK K) | refine And.intro ?_ ?_ | exact Ct | intro (K : _ → _ → Prop) hK | (refine gI fun hg => ?_; try simp only [hC, reduceCtorEq] at hg; try simp only [hg])) | (refine AW.i rfl (fun h => ?_) (fun h => ?_) <;> try simp only [hC, reduceCtorEq] at h) | ((with_reducible refine E ?_; repeat refine Y ?_); refine eF rfl ?_) | simp (disch := omega) only [go_sem] | (with_reducible intro hg; try simp only [hC, reduceCtorEq] at hg) | exact Cl | fail)
    · rw [szSl_neg h]
    rw [szSl_pos h]
    refine AW.loopV [1, 5] [0] (fun m xs o => ∃ (k : Nat) (q : Int), xs = [.v (.int .i64 q), .v (.int .i64 k)] ∧ o = [] ∧ m = l.length - k ∧ k ≤ l.length ∧ 0 ≤ q ∧ q ≤ 1048576 ∧ szGo szNode (l.drop k) q = szGo szNode l (r - l.length)) l.length [] trivial ⟨0, _, ?_, rfl, rfl, ?_, ?_, ?_, rfl⟩ ?_
    · rfl
    · omega
    · omega
    · omega
    rintro m xs o ⟨k, q, rfl, rfl, rfl, hk, h0, h1, hR⟩
    have hle := szNode_le (at_ l k) q h0
    have hkk : k < l.length → SizeOf.sizeOf (at_ l k).fKids < n := fun h => by have := GNode.kids_lt (at_mem h); omega
    (repeat' first | (with_reducible first | refine Z ?_ | refine Y ?_ | (refine hK _ _ ?_; clear hK K) | refine And.intro ?_ ?_ | exact Ct | intro (K : _ → _ → Prop) hK | (refine gI fun hg => ?_; try simp only [hC, reduceCtorEq] at hg; try simp only [hg])) | (refine AW.i rfl (fun h => ?_) (fun h => ?_) <;> try simp only [hC, reduceCtorEq] at h) | ((with_reducible refine E ?_; repeat refine Y ?_); refine eF rfl ?_) | simp (disch := omega) only [go_sem] | (with_reducible intro hg; try simp only [hC, reduceCtorEq] at hg) | exact Cl | fail)
    · rw [szGo_at (by assumption), if_pos (by first | exact h | (rw [hsz]; exact h))] at hR; rw [hR]
    · rw [szGo_at (by assumption), if_neg (by omega)] at hR
      exact ⟨_, [_, _], [], by omega, ⟨k + 1, _, rfl, rfl, rfl, by omega, by omega, by omega, hR⟩, rfl, trivial⟩
    · rw [szGo_end h] at hR; rw [hR]
instance szNodeS_i (L : Nat → Nat) [hL : Lok L] (l : List GNode) (r : Int) : Ctr L Tryz.prog 51 [] [.sl false 3 (l.map (encNode false)), .v (.int .i64 r)] (.v (.int .i64 (szSl szNode l r))) [] (0 ≤ r ∧ r ≤ 1048576) := ⟨en51, fun h => (szNodeS_n L (SizeOf.sizeOf l + 1) l r).out ⟨Nat.lt_succ_self _, h⟩⟩
theorem toNode_n (n : Nat) (ih : ∀ l : List GNode, Ctr lim Tryz.prog 55 [] [.sl false 3 (l.map (encNode false))] (.sl true 3 (l.map (encNode true))) [] (SizeOf.sizeOf l < n)) (x : GNode) : Ctr lim Tryz.prog 117 [] [.agg [.str x.fName, .str x.fValue, .sl false 3 (x.fKids.map (encNode false))]] (.agg [.str x.fName, .str x.fValue, .sl true 3 (x.fKids.map (encNode true))]) [] (SizeOf.sizeOf x.fKids < n) := by
  refine Ctr.of_body en117 Tryz.func117 rfl rfl fun hp => (?_); rw [Tryz.ntmps117]
  all_goals exact uU
theorem toNodeS_n : ∀ (n : Nat) (l : List GNode), Ctr lim Tryz.prog 55 [] [.sl false 3 (l.map (encNode false))] (.sl true 3 (l.map (encNode true))) [] (SizeOf.sizeOf l < n)
  | 0, l => ⟨en55, fun h => absurd h (Nat.not_lt_zero _)⟩
  | n + 1, l => by
    have hx := toNode_n n (toNodeS_n n)
    refine Ctr.of_body en55 Tryz.func55 rfl rfl fun hp => (?_); rw [Tryz.ntmps55]
    refine AW.fact 0 fun hf => ?_
    simp (disch := omega) only [go_sem, Nat.reduceBEq] at hf
    (repeat' first | (with_reducible first | refine Z ?_ | refine Y ?_ | (refine hK _ _ ?_; clear hK K) | refine And.intro ?_ ?_ | exact Ct | intro (K : _ → _ → Prop) hK | (refine gI fun hg => ?_; try simp only [hC, reduceCtorEq] at hg; try simp only [hg])) | (refine AW.i rfl (fun h => ?_) (fun h => ?_) <;> try simp only [hC, reduceCtorEq] at h) | ((with_reducible refine E ?_; repeat refine Y ?_); refine eF rfl ?_) | simp (disch := omega) only [go_sem] | (with_reducible intro hg; try simp only [hC, reduceCtorEq] at hg) | exact Cl | fail)
    refine AW.loopV [4] [0, 3] (fun m xs o => ∃ k : Nat, xs = [.v (.int .i64 k)] ∧ o = [(hg, some (mkC (encNode true) [.string ⟨#[]⟩, .string ⟨#[]⟩, .slice none 0 0] l k))] ∧ m = l.length - k ∧ k ≤ l.length) l.length [(hg, some (mkC (encNode true) [.string ⟨#[]⟩, .string ⟨#[]⟩, .slice none 0 0] l 0))] (subO_one (mkC_zero _ _ _)) ⟨0, ?_, rfl, rfl, ?_⟩ ?_
    · rfl
    · omega
    rintro m xs o ⟨k, rfl, rfl, rfl, hk⟩
    have hml := mkC_len (encNode true) [.string ⟨#[]⟩, .string ⟨#[]⟩, .slice none 0 0] 3 (fun x => by rw [encNode_eq]; rfl) rfl l k hk
    have hkk : k < l.length → SizeOf.sizeOf (at_ l k).fKids < n := fun h => by have := GNode.kids_lt (at_mem h); omega
    (repeat' first | (with_reducible first | refine Z ?_ | refine Y ?_ | (refine hK _ _ ?_; clear hK K) | refine And.intro ?_ ?_ | exact Ct | intro (K : _ → _ → Prop) hK | (refine gI fun hg => ?_; try simp only [hC, reduceCtorEq] at hg; try simp only [hg])) | (refine AW.i rfl (fun h => ?_) (fun h => ?_) <;> try simp only [hC, reduceCtorEq] at h) | simp (disch := omega) only [go_sem] | (with_reducible intro hg; try simp only [hC, reduceCtorEq] at hg) | exact Cl | fail)
    · exact ⟨_, [_], _, by omega, ⟨k + 1, rfl, rfl, rfl, by omega⟩, rfl, subO_one (by have := mkC_at (encNode true) [.string ⟨#[]⟩, .string ⟨#[]⟩, .slice none 0 0] 3 (fun x => by rw [encNode_eq]; rfl) rfl l k h; simp only [go_sem, Nat.mul_one] at this ⊢; exact this.symm)⟩
    · refine AW.made 2 rfl h hk (fun x => by rw [encNode_eq]; rfl) ?_
      all_goals exact uU
instance toNodeS_i (l : List GNode) : Ctr lim Tryz.prog 55 [] [.sl false 3 (l.map (encNode false))] (.sl true 3 (l.map (encNode true))) [] True := ⟨en55, fun _ => (toNodeS_n (SizeOf.sizeOf l + 1) l).out (Nat.lt_succ_self _)⟩
instance eqParam_i (L : Nat → Nat) [hL : Lok L] (x : GParam) : Ctr L Tryz.prog 190 [] [.agg [.str x.fName, .v (.int .i64 x.fType.fKind), .sl false 2 (x.fType.fRanges.map (encRange false)), .sl false 1 (x.fType.fNames.map AV.str), .str x.fType.fPattern, .str x.fType.fPath], .agg [.str x.fName, .v (.int .i64 x.fType.fKind), .sl false 2 (x.fType.fRanges.map (encRange false)), .sl false 1 (x.fType.fNames.map AV.str), .str x.fType.fPattern, .str x.fType.fPath]] (.v (.bool true)) [] True := by
  refine Ctr.of_body en190 Tryz.func190 rfl rfl fun hp => (?_); rw [Tryz.ntmps190]
  all_goals exact uU
instance eqParamS_i (L : Nat → Nat) [hL : Lok L] (l : List GParam) : Ctr L Tryz.prog 163 [] [.sl false 6 (l.map (encParam false)), .sl false 6 (l.map (encParam false))] (.v (.bool true)) [] True := by
  refine Ctr.of_body en163 Tryz.func163 rfl rfl fun hp => (?_); rw [Tryz.ntmps163]
  refine AW.fact 0 fun hf => ?_
  simp (disch := omega) only [go_sem, Nat.reduceBEq] at hf
  have hf := Nat.le_trans hf (hL.le 6)
  (repeat' first | (with_reducible first | refine Z ?_ | refine Y ?_ | (refine hK _ _ ?_; clear hK K) | refine And.intro ?_ ?_ | exact Ct | intro (K : _ → _ → Prop) hK | (refine gI fun hg => ?_; try simp only [hC, reduceCtorEq] at hg; try simp only [hg])) | (refine AW.i rfl (fun h => ?_) (fun h => ?_) <;> try simp only [hC, reduceCtorEq] at h) | ((with_reducible refine E ?_; repeat refine Y ?_); refine eF rfl ?_) | simp (disch := omega) only [go_sem] | (with_reducible intro hg; try simp only [hC, reduceCtorEq] at hg) | exact Cl | fail)
  refine AW.loopV [5] [0, 1] (fun m xs o => ∃ k : Nat, xs = [.v (.int .i64 k)] ∧ o = [] ∧ m = l.length - k ∧ k ≤ l.length) l.length [] trivial ⟨0, ?_, rfl, rfl, ?_⟩ ?_
  · rfl
  · omega
  rintro m xs o ⟨k, rfl, rfl, rfl, hk⟩
  (repeat' first | (with_reducible first | refine Z ?_ | refine Y ?_ | (refine hK _ _ ?_; clear hK K) | refine And.intro ?_ ?_ | exact Ct | intro (K : _ → _ → Prop) hK | (refine gI fun hg => ?_; try simp only [hC, reduceCtorEq] at hg; try simp only [hg])) | (refine AW.i rfl (fun h => ?_) (fun h => ?_) <;> try simp only [hC, reduceCtorEq] at h) | ((with_reducible refine E ?_; repeat refine Y ?_); refine eF rfl ?_) | simp (disch := omega) only [go_sem] | (with_reducible intro hg; try simp only [hC, reduceCtorEq] at hg) | exact Cl | fail)
  exact ⟨_, [_], [], by omega, ⟨k + 1, rfl, rfl, rfl, by omega⟩, rfl, trivial⟩
instance szParam_i (L : Nat → Nat) [hL : Lok L] (x : GParam) (r : Int) : Ctr L Tryz.prog 181 [] [.agg [.str x.fName, .v (.int .i64 x.fType.fKind), .sl false 2 (x.fType.fRanges.map (encRange false)), .sl false 1 (x.fType.fNames.map AV.str), .str x.fType.fPattern, .str x.fType.fPath], .v (.int .i64 r)] (.v (.int .i64 (szParam x r))) [] (0 ≤ r ∧ r ≤ 1048576) := by
  refine Ctr.of_body en181 Tryz.func181 rfl rfl fun hp => (?_); rw [Tryz.ntmps181]
  refine AW.fact 0 fun hf => ?_
  simp (disch := omega) only [go_sem, Nat.reduceBEq] at hf
  have le1 := szType_le x.fType (r - x.fName.length)
  unfold szParam
  ((repeat' first | (with_reducible first | refine Z ?_ | refine Y ?_ | (refine hK _ _ ?_; clear hK K) | refine And.intro ?_ ?_ | exact Ct | intro (K : _ → _ → Prop) hK | (refine gI fun hg => ?_; try simp only [hC, reduceCtorEq] at hg; try simp only [hg])) | (refine AW.i rfl (fun h => ?_) (fun h => ?_) <;> try simp only [hC, reduceCtorEq] at h) | ((with_reducible refine E ?_; repeat refine Y ?_); refine eF rfl ?_) | simp (disch := omega) only [go_sem] | (with_reducible intro hg; try simp only [hC, reduceCtorEq] at hg) | exact Cl | fail); all_goals simp only [thn, szStr, id]; all_goals refine congrArg (fun z => AV.v (.int .i64 z)) ?_; all_goals (repeat' split); all_goals omega)
instance szParamS_i (L : Nat → Nat) [hL : Lok L] (l : List GParam) (r : Int) : Ctr L Tryz.prog 145 [] [.sl false 6 (l.map (encParam false)), .v (.int .i64 r)] (.v (.int .i64 (szSl szParam l r))) [] (0 ≤ r ∧ r ≤ 1048576) := by
  refine Ctr.of_body en145 Tryz.func145 rfl rfl fun hp => (?_); rw [Tryz.ntmps145]
  refine AW.fact 0 fun hf => ?_
  simp (disch := omega) only [go_sem, Nat.reduceBEq] at hf
  have hf := Nat.le_trans hf (hL.le 6)
  (repeat' first | (with_reducible first | refine Z ?_ | refine Y ?_ | (refine hK _ _ ?_; clear hK K) | refine And.intro ?_ ?_ | exact Ct | intro (K : _ → _ → Prop) hK | (refine gI fun hg => ?_; try simp only [hC, reduceCtorEq] at hg; try simp only [hg])) | (refine AW.i rfl (fun h => ?_) (fun h => ?_) <;> try simp only [hC, reduceCtorEq] at h) | ((with_reducible refine E ?_; repeat refine Y ?_); refine eF rfl ?_) | simp (disch := omega) only [go_sem] | (with_reducible intro hg; try simp only [hC, reduceCtorEq] at hg) | exact Cl | fail)
  · rw [szSl_neg h]
  rw [szSl_pos h]
  refine AW.loopV [1, 5] [0] (fun m xs o => ∃ (k : Nat) (q : Int), xs = [.v (.int .i64 q), .v (.int .i64 k)] ∧ o = [] ∧ m = l.length - k ∧ k ≤ l.length ∧ 0 ≤ q ∧ q ≤ 1048576 ∧ szGo szParam (l.drop k) q = szGo szParam l (r - l.length)) l.length [] trivial ⟨0, _, ?_, rfl, rfl, ?_, ?_, ?_, rfl⟩ ?_
  · rfl
  · omega
  · omega
  · omega
  rintro m xs o ⟨k, q, rfl, rfl, rfl, hk, h0, h1, hR⟩
  have hle := szParam_le (at_ l k) q h0
  (repeat' first | (with_reducible first | refine Z ?_ | refine Y ?_ | (refine hK _ _ ?_; clear hK K) | refine And.intro ?_ ?_ | exact Ct | intro (K : _ → _ → Prop) hK | (refine gI fun hg => ?_; try simp only [hC, reduceCtorEq] at hg; try simp only [hg])) | (refine AW.i rfl (fun h => ?_) (fun h => ?_) <;> try simp only [hC, reduceCtorEq] at h) | ((with_reducible refine E ?_; repeat refine Y ?_); refine eF rfl ?_) | simp (disch := omega) only [go_sem] | (with_reducible intro hg; try simp only [hC, reduceCtorEq] at hg) | exact Cl | fail)
  · rw [szGo_at (by assumption), if_pos (by first | exact h | (rw [hsz]; exact h))] at hR; rw [hR]
  · rw [szGo_at (by assumption), if_neg (by omega)] at hR
    exact ⟨_, [_, _], [], by omega, ⟨k + 1, _, rfl, rfl, rfl, by omega, by omega, by omega, hR⟩, rfl, trivial⟩
  · rw [szGo_end h] at hR; rw [hR]
instance toParam_i (x : GParam) : Ctr lim Tryz.prog 184 [] [.agg [.str x.fName, .v (.int .i64 x.fType.fKind), .sl false 2 (x.fType.fRanges.map (encRange false)), .sl false 1 (x.fType.fNames.map AV.str), .str x.fType.fPattern, .str x.fType.fPath]] (.agg [.str x.fName, .v (.int .i64 x.fType.fKind), .sl true 2 (x.fType.fRanges.map (encRange true)), .sl true 1 (x.fType.fNames.map AV.str), .str x.fType.fPattern, .str x.fType.fPath]) [] True := by
  refine Ctr.of_body en184 Tryz.func184 rfl rfl fun hp => (?_); rw [Tryz.ntmps184]
  all_goals exact uU
instance toParamS_i (l : List GParam) : Ctr lim Tryz.prog 153 [] [.sl false 6 (l.map (encParam false))] (.sl true 6 (l.map (encParam true))) [] True := by
  refine Ctr.of_body en153 Tryz.func153 rfl rfl fun hp => (?_); rw [Tryz.ntmps153]
  refine AW.fact 0 fun hf => ?_
  simp (disch := omega) only [go_sem, Nat.reduceBEq] at hf
  (repeat' first | (with_reducible first | refine Z ?_ | refine Y ?_ | (refine hK _ _ ?_; clear hK K) | refine And.intro ?_ ?_ | exact Ct | intro (K : _ → _ → Prop) hK | (refine gI fun hg => ?_; try simp only [hC, reduceCtorEq] at hg; try simp only [hg])) | (refine AW.i rfl (fun h => ?_) (fun h => ?_) <;> try simp only [hC, reduceCtorEq] at h) | ((with_reducible refine E ?_; repeat refine Y ?_); refine eF rfl ?_) | simp (disch := omega) only [go_sem] | (with_reducible intro hg; try simp only [hC, reduceCtorEq] at hg) | exact Cl | fail)
  refine AW.loopV [4] [0, 3] (fun m xs o => ∃ k : Nat, xs = [.v (.int .i64 k)] ∧ o = [(hg, some (mkC (encParam true) [.string ⟨#[]⟩, .int .i64 0, .slice none 0 0, .slice none 0 0, .string ⟨#[]⟩, .string ⟨#[]⟩] l k))] ∧ m = l.length - k ∧ k ≤ l.length) l.length [(hg, some (mkC (encParam true) [.string ⟨#[]⟩, .int .i64 0, .slice none 0 0, .slice none 0 0, .string ⟨#[]⟩, .string ⟨#[]⟩] l 0))] (subO_one (mkC_zero _ _ _)) ⟨0, ?_, rfl, rfl, ?_⟩ ?_
  · rfl
  · omega
  rintro m xs o ⟨k, rfl, rfl, rfl, hk⟩
  have hml := mkC_len (encParam true) [.string ⟨#[]⟩, .int .i64 0, .slice none 0 0, .slice none 0 0, .string ⟨#[]⟩, .string ⟨#[]⟩] 6 (fun _ => rfl) rfl l k hk
  (repeat' first | (with_reducible first | refine Z ?_ | refine Y ?_ | (refine hK _ _ ?_; clear hK K) | refine And.intro ?_ ?_ | exact Ct | intro (K : _ → _ → Prop) hK | (refine gI fun hg => ?_; try simp only [hC, reduceCtorEq] at hg; try simp only [hg])) | (refine AW.i rfl (fun h => ?_) (fun h => ?_) <;> try simp only [hC, reduceCtorEq] at h) | simp (disch := omega) only [go_sem] | (with_reducible intro hg; try simp only [hC, reduceCtorEq] at hg) | exact Cl | fail)
  · exact ⟨_, [_], _, by omega, ⟨k + 1, rfl, rfl, rfl, by omega⟩, rfl, subO_one (by have := mkC_at (encParam true) [.string ⟨#[]⟩, .int .i64 0, .slice none 0 0, .slice none 0 0, .string ⟨#[]⟩, .string ⟨#[]⟩] 6 (fun _ => rfl) rfl l k h; simp only [go_sem, Nat.mul_one] at this ⊢; exact this.symm)⟩
  · refine AW.made 2 rfl h hk (fun _ => rfl) ?_
    all_goals exact uU
instance eqTemplate_i (L : Nat → Nat) [hL : Lok L] (x : GTemplate) : Ctr L Tryz.prog 106 [] [.agg [.str x.fName, .sl false 6 (x.fParams.map (encParam false)), .sl false 3 (x.fBody.map (encNode false))], .agg [.str x.fName, .sl false 6 (x.fParams.map (encParam false)), .sl false 3 (x.fBody.map (encNode false))]] (.v (.bool true)) [] True := by
  refine Ctr.of_body en106 Tryz.func106 rfl rfl fun hp => (?_); rw [Tryz.ntmps106]
  all_goals exact uU
instance eqTemplateS_i (L : Nat → Nat) [hL : Lok L] (l : List GTemplate) : Ctr L Tryz.prog 48 [] [.sl false 3 (l.map (encTemplate false)), .sl false 3 (l.map (encTemplate false))] (.v (.bool true)) [] True := by
  refine Ctr.of_body en48 Tryz.func48 rfl rfl fun hp => (?_); rw [Tryz.ntmps48]
  refine AW.fact 0 fun hf => ?_
  simp (disch := omega) only [go_sem, Nat.reduceBEq] at hf
  have hf := Nat.le_trans hf (hL.le 3)
  (repeat' first | (with_reducible first | refine Z ?_ | refine Y ?_ | (refine hK _ _ ?_; clear hK K) | refine And.intro ?_ ?_ | exact Ct | intro (K : _ → _ → Prop) hK | (refine gI fun hg => ?_; try simp only [hC, reduceCtorEq] at hg; try simp only [hg])) | (refine AW.i rfl (fun h => ?_) (fun h => ?_) <;> try simp only [hC, reduceCtorEq] at h) | ((with_reducible refine E ?_; repeat refine Y ?_); refine eF rfl ?_) | simp (disch := omega) only [go_sem] | (with_reducible intro hg; try simp only [hC, reduceCtorEq] at hg) | exact Cl | fail)
  refine AW.loopV [5] [0, 1] (fun m xs o => ∃ k : Nat, xs = [.v (.int .i64 k)] ∧ o = [] ∧ m = l.length - k ∧ k ≤ l.length) l.length [] trivial ⟨0, ?_, rfl, rfl, ?_⟩ ?_
  · rfl
  · omega
  rintro m xs o ⟨k, rfl, rfl, rfl, hk⟩
  (repeat' first | (with_reducible first | refine Z ?_ | refine Y ?_ | (refine hK _ _ ?_; clear hK K) | refine And.intro ?_ ?_ | exact Ct | intro (K : _ → _ → Prop) hK | (refine gI fun hg => ?_; try simp only [hC, reduceCtorEq] at hg; try simp only [hg])) | (refine AW.i rfl (fun h => ?_) (fun h => ?_) <;> try simp only [hC, reduceCtorEq] at h) | ((with_reducible refine E ?_; repeat refine Y ?_); refine eF rfl ?_) | simp (disch := omega) only [go_sem] | (with_reducible intro hg; try simp only [hC, reduceCtorEq] at hg) | exact Cl | fail)
  exact ⟨_, [_], [], by omega, ⟨k + 1, rfl, rfl, rfl, by omega⟩, rfl, trivial⟩
instance szTemplate_i (L : Nat → Nat) [hL : Lok L] (x : GTemplate) (r : Int) : Ctr L Tryz.prog 90 [] [.agg [.str x.fName, .sl false 6 (x.fParams.map (encParam false)), .sl false 3 (x.fBody.map (encNode false))], .v (.int .i64 r)] (.v (.int .i64 (szTemplate x r))) [] (0 ≤ r ∧ r ≤ 1048576) := by
  refine Ctr.of_body en90 Tryz.func90 rfl rfl fun hp => (?_); rw [Tryz.ntmps90]
  refine AW.fact 0 fun hf => ?_
  simp (disch := omega) only [go_sem, Nat.reduceBEq] at hf
  have le1 := szSl_le szParam szParam_le x.fParams (r - x.fName.length)
  have le2 := szSl_le szNode szNode_le x.fBody (szSl szParam x.fParams (r - x.fName.length))
  unfold szTemplate
  ((repeat' first | (with_reducible first | refine Z ?_ | refine Y ?_ | (refine hK _ _ ?_; clear hK K) | refine And.intro ?_ ?_ | exact Ct | intro (K : _ → _ → Prop) hK | (refine gI fun hg => ?_; try simp only [hC, reduceCtorEq] at hg; try simp only [hg])) | (refine AW.i rfl (fun h => ?_) (fun h => ?_) <;> try simp only [hC, reduceCtorEq] at h) | ((with_reducible refine E ?_; repeat refine Y ?_); refine eF rfl ?_) | simp (disch := omega) only [go_sem] | (with_reducible intro hg; try simp only [hC, reduceCtorEq] at hg) | exact Cl | fail); all_goals simp only [thn, szStr, id]; all_goals refine congrArg (fun z => AV.v (.int .i64 z)) ?_; all_goals (repeat' split); all_goals omega)
instance szTemplateS_i (L : Nat → Nat) [hL : Lok L] (l : List GTemplate) (r : Int) : Ctr L Tryz.prog 36 [] [.sl false 3 (l.map (encTemplate false)), .v (.int .i64 r)] (.v (.int .i64 (szSl szTemplate l r))) [] (0 ≤ r ∧ r ≤ 1048576) := by
  refine Ctr.of_body en36 Tryz.func36 rfl rfl fun hp => (?_); rw [Tryz.ntmps36]
  refine AW.fact 0 fun hf => ?_
  simp (disch := omega) only [go_sem, Nat.reduceBEq] at hf
  have hf := Nat.le_trans hf (hL.le 3)
  (repeat' first | (with_reducible first | refine Z ?_ | refine Y ?_ | (refine hK _ _ ?_; clear hK K) | refine And.intro ?_ ?_ | exact Ct | intro (K : _ → _ → Prop) hK | (refine gI fun hg => ?_; try simp only [hC, reduceCtorEq] at hg; try simp only [hg])) | (refine AW.i rfl (fun h => ?_) (fun h => ?_) <;> try simp only [hC, reduceCtorEq] at h) | ((with_reducible refine E ?_; repeat refine Y ?_); refine eF rfl ?_) | simp (disch := omega) only [go_sem] | (with_reducible intro hg; try simp only [hC, reduceCtorEq] at hg) | exact Cl | fail)
  · rw [szSl_neg h]
  rw [szSl_pos h]
  refine AW.loopV [1, 5] [0] (fun m xs o => ∃ (k : Nat) (q : Int), xs = [.v (.int .i64 q), .v (.int .i64 k)] ∧ o = [] ∧ m = l.length - k ∧ k ≤ l.length ∧ 0 ≤ q ∧ q ≤ 1048576 ∧ szGo szTemplate (l.drop k) q = szGo szTemplate l (r - l.length)) l.length [] trivial ⟨0, _, ?_, rfl, rfl, ?_, ?_, ?_, rfl⟩ ?_
  · rfl
  · omega
  · omega
  · omega
  rintro m xs o ⟨k, q, rfl, rfl, rfl, hk, h0, h1, hR⟩
  have hle := szTemplate_le (at_ l k) q h0
  (repeat' first | (with_reducible first | refine Z ?_ | refine Y ?_ | (refine hK _ _ ?_; clear hK K) | refine And.intro ?_ ?_ | exact Ct | intro (K : _ → _ → Prop) hK | (refine gI fun hg => ?_; try simp only [hC, reduceCtorEq] at hg; try simp only [hg])) | (refine AW.i rfl (fun h => ?_) (fun h => ?_) <;> try simp only [hC, reduceCtorEq] at h) | ((with_reducible refine E ?_; repeat refine Y ?_); refine eF rfl ?_) | simp (disch := omega) only [go_sem] | (with_reducible intro hg; try simp only [hC, reduceCtorEq] at hg) | exact Cl | fail)
  · rw [szGo_at (by assumption), if_pos (by first | exact h | (rw [hsz]; exact h))] at hR; rw [hR]
  · rw [szGo_at (by assumption), if_neg (by omega)] at hR
    exact ⟨_, [_, _], [], by omega, ⟨k + 1, _, rfl, rfl, rfl, by omega, by omega, by omega, hR⟩, rfl, trivial⟩
  · rw [szGo_end h] at hR; rw [hR]
instance toTemplate_i (x : GTemplate) : Ctr lim Tryz.prog 97 [] [.agg [.str x.fName, .sl false 6 (x.fParams.map (encParam false)), .sl false 3 (x.fBody.map (encNode false))]] (.agg [.str x.fName, .sl true 6 (x.fParams.map (encParam true)), .sl true 3 (x.fBody.map (encNode true))]) [] True := by
  refine Ctr.of_body en97 Tryz.func97 rfl rfl fun hp => (?_); rw [Tryz.ntmps97]
  all_goals exact uU
instance toTemplateS_i (l : List GTemplate) : Ctr lim Tryz.prog 41 [] [.sl false 3 (l.map (encTemplate false))] (.sl true 3 (l.map (encTemplate true))) [] True := by
  refine Ctr.of_body en41 Tryz.func41 rfl rfl fun hp => (?_); rw [Tryz.ntmps41]
  refine AW.fact 0 fun hf => ?_
  simp (disch := omega) only [go_sem, Nat.reduceBEq] at hf
  (repeat' first | (with_reducible first | refine Z ?_ | refine Y ?_ | (refine hK _ _ ?_; clear hK K) | refine And.intro ?_ ?_ | exact Ct | intro (K : _ → _ → Prop) hK | (refine gI fun hg => ?_; try simp only [hC, reduceCtorEq] at hg; try simp only [hg])) | (refine AW.i rfl (fun h => ?_) (fun h => ?_) <;> try simp only [hC, reduceCtorEq] at h) | ((with_reducible refine E ?_; repeat refine Y ?_); refine eF rfl ?_) | simp (disch := omega) only [go_sem] | (with_reducible intro hg; try simp only [hC, reduceCtorEq] at hg) | exact Cl | fail)
  refine AW.loopV [4] [0, 3] (fun m xs o => ∃ k : Nat, xs = [.v (.int .i64 k)] ∧ o = [(hg, some (mkC (encTemplate true) [.string ⟨#[]⟩, .slice none 0 0, .slice none 0 0] l k))] ∧ m = l.length - k ∧ k ≤ l.length) l.length [(hg, some (mkC (encTemplate true) [.string ⟨#[]⟩, .slice none 0 0, .slice none 0 0] l 0))] (subO_one (mkC_zero _ _ _)) ⟨0, ?_, rfl, rfl, ?_⟩ ?_
  · rfl
  · omega
  rintro m xs o ⟨k, rfl, rfl, rfl, hk⟩
  have hml := mkC_len (encTemplate true) [.string ⟨#[]⟩, .slice none 0 0, .slice none 0 0] 3 (fun _ => rfl) rfl l k hk
  (repeat' first | (with_reducible first | refine Z ?_ | refine Y ?_ | (refine hK _ _ ?_; clear hK K) | refine And.intro ?_ ?_ | exact Ct | intro (K : _ → _ → Prop) hK | (refine gI fun hg => ?_; try simp only [hC, reduceCtorEq] at hg; try simp only [hg])) | (refine AW.i rfl (fun h => ?_) (fun h => ?_) <;> try simp only [hC, reduceCtorEq] at h) | simp (disch := omega) only [go_sem] | (with_reducible intro hg; try simp only [hC, reduceCtorEq] at hg) | exact Cl | fail)
  · exact ⟨_, [_], _, by omega, ⟨k + 1, rfl, rfl, rfl, by omega⟩, rfl, subO_one (by have := mkC_at (encTemplate true) [.string ⟨#[]⟩, .slice none 0 0, .slice none 0 0] 3 (fun _ => rfl) rfl l k h; simp only [go_sem, Nat.mul_one] at this ⊢; exact this.symm)⟩
  · refine AW.made 2 rfl h hk (fun _ => rfl) ?_
    all_goals exact uU
end Go.Proofs.YtkdchlggdcmkbaaGreat
