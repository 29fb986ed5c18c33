/-
  Part of a proof: Cp1.
-/
import Derived.Test.YtkdchlggdcmkbaaGreatG14
import Derived.Test.YtkdchlggdcmkbaaGreatG15
set_option linter.unusedSimpArgs false
set_option linter.unusedVariables false
namespace Go.Proofs.YtkdchlggdcmkbaaGreat
open Go.Ab Go.Dt
set_option maxRecDepth 20000
set_option maxHeartbeats 4000000
instance iCopyType_i (x : GType) : Ctr lim Tryz.prog 138 [] [.agg [.v (.int .i64 x.fKind), .sl false 2 (x.fRanges.map (encRange false)), .sl false 1 (x.fNames.map AV.str), .str x.fPattern, .str x.fPath]] (.agg [.v (.int .i64 x.fKind), .sl true 2 (x.fRanges.map (encRange true)), .sl true 1 (x.fNames.map AV.str), .str x.fPattern, .str x.fPath]) [] True := by
  refine Ctr.of_body en138 Tryz.func138 rfl rfl fun hp => (?_); rw [Tryz.ntmps138]
  refine AW.fact 0 fun hf => ?_
  simp (disch := omega) only [go_sem] at hf
  (repeat' (first | (with_reducible first | refine Z ?_ | refine xO ?_ | refine Y ?_ | (refine hK _ _ ?_; clear hK K) | exact trivial | refine And.intro ?_ ?_) | (refine AW.i rfl (fun h => ?_) (fun h => ?_) <;> try simp only [hC, reduceCtorEq] at h) | with_reducible rfl | ((with_reducible refine E ?_); (with_reducible repeat refine Y ?_); refine eF rfl ?_) | (with_reducible refine fun (K : _ → _ → Prop) hK => ?_) | (with_reducible show drawOK _ _ = true; kernel_rfl) | (with_reducible refine gI fun hg => ?_; try simp only [hC, reduceCtorEq] at hg; try simp only [hg]) | simp (maxSteps := 2000000) (disch := omega) only [go_sem] | (with_reducible intro hg; try simp only [hC, reduceCtorEq] at hg) | (with_reducible show List.Nodup _; decide) | (with_reducible show (_ : Bool) = false; first | rfl | (simp [*]; done)) | with_reducible exact at8_le _ _ | with_reducible exact at8_ge _ _ | (simp only [hC, reduceCtorEq]; omega) | omega | with_reducible assumption | (with_reducible show (_ : Bool) = true; first | (simp [*]; done) | (simp only [hC, reduceCtorEq]; (repeat' (first | assumption | apply And.intro)); done))))
  rfl
instance sCopyType_i (x : GType) : Ctr lim Tryz.prog 136 [] [.agg [.v (.int .i64 x.fKind), .sl false 2 (x.fRanges.map (encRange false)), .sl false 1 (x.fNames.map AV.str), .str x.fPattern, .str x.fPath]] (.agg [.v (.int .i64 x.fKind), .sl true 2 (x.fRanges.map (encRange true)), .sl true 1 (x.fNames.map AV.str), .str x.fPattern, .str x.fPath]) [] True := by
  refine Ctr.of_body en136 Tryz.func136 rfl rfl fun hp => (?_); rw [Tryz.ntmps136]
  refine AW.fact 0 fun hf => ?_
  simp (disch := omega) only [go_sem] at hf
  (repeat' (first | (with_reducible first | refine Z ?_ | refine xO ?_ | refine Y ?_ | (refine hK _ _ ?_; clear hK K) | exact trivial | refine And.intro ?_ ?_) | (refine AW.i rfl (fun h => ?_) (fun h => ?_) <;> try simp only [hC, reduceCtorEq] at h) | with_reducible rfl | ((with_reducible refine E ?_); (with_reducible repeat refine Y ?_); refine eF rfl ?_) | (with_reducible refine fun (K : _ → _ → Prop) hK => ?_) | (with_reducible show drawOK _ _ = true; kernel_rfl) | (with_reducible refine gI fun hg => ?_; try simp only [hC, reduceCtorEq] at hg; try simp only [hg]) | simp (maxSteps := 2000000) (disch := omega) only [go_sem] | (with_reducible intro hg; try simp only [hC, reduceCtorEq] at hg) | (with_reducible show List.Nodup _; decide) | (with_reducible show (_ : Bool) = false; first | rfl | (simp [*]; done)) | with_reducible exact at8_le _ _ | with_reducible exact at8_ge _ _ | (simp only [hC, reduceCtorEq]; omega) | omega | with_reducible assumption | (with_reducible show (_ : Bool) = true; first | (simp [*]; done) | (simp only [hC, reduceCtorEq]; (repeat' (first | assumption | apply And.intro)); done))))
  rfl
theorem iCopyNodes_n : ∀ (n : Nat) (l : List GNode), Ctr lim Tryz.prog 119 [] [.sl false 3 (l.map (encNode false))] (.sl true 3 (l.map (encNode true))) [] (SizeOf.sizeOf l < n)
  | 0, l => ⟨en119, fun h => absurd h (Nat.not_lt_zero _)⟩
  | n + 1, l => by
    have ih := iCopyNodes_n n
    refine Ctr.of_body en119 Tryz.func119 rfl rfl fun hp => (?_); rw [Tryz.ntmps119]
    refine AW.fact 0 fun hf => ?_
    simp (disch := omega) only [go_sem] at hf
    (repeat' (first | (with_reducible first | refine Z ?_ | refine Y ?_ | (refine hK _ _ ?_; clear hK K) | exact trivial | refine And.intro ?_ ?_) | (refine AW.i rfl (fun h => ?_) (fun h => ?_) <;> try simp only [hC, reduceCtorEq] at h) | with_reducible rfl | ((with_reducible refine E ?_); (with_reducible repeat refine Y ?_); refine eF rfl ?_) | (with_reducible refine fun (K : _ → _ → Prop) hK => ?_) | (with_reducible show drawOK _ _ = true; kernel_rfl) | (with_reducible refine gI fun hg => ?_; try simp only [hC, reduceCtorEq] at hg; try simp only [hg]) | simp (maxSteps := 2000000) (disch := omega) only [go_sem] | (with_reducible intro hg; try simp only [hC, reduceCtorEq] at hg) | (with_reducible show List.Nodup _; decide) | (with_reducible show (_ : Bool) = false; first | rfl | (simp [*]; done)) | with_reducible exact at8_le _ _ | with_reducible exact at8_ge _ _ | (simp only [hC, reduceCtorEq]; omega) | omega | with_reducible assumption | (with_reducible show (_ : Bool) = true; first | (simp [*]; done) | (simp only [hC, reduceCtorEq]; (repeat' (first | assumption | apply And.intro)); done))))
    refine AW.loopV [3, 9] [7, 8] (fun m xs o => ∃ k : Nat, xs = [.sl true 3 ((l.take k).map (encNode true)), .v (.int .i64 k)] ∧ o = [] ∧ m = l.length - k ∧ k ≤ l.length) l.length [] trivial ⟨0, ?_, rfl, rfl, ?_⟩ ?_
    · rfl
    · omega
    rintro m xs o ⟨k, rfl, rfl, rfl, hk⟩
    have hlt : (l.take k).length = k := by rw [List.length_take]; omega
    have hkk : k < l.length → SizeOf.sizeOf (at_ l k).fKids < n := fun h => by have := GNode.kids_lt (at_mem h); omega
    (repeat' (first | (with_reducible first | refine Z ?_ | refine Y ?_ | (refine hK _ _ ?_; clear hK K) | exact trivial | refine And.intro ?_ ?_) | (refine AW.i rfl (fun h => ?_) (fun h => ?_) <;> try simp only [hC, reduceCtorEq] at h) | with_reducible rfl | ((with_reducible refine E ?_); (with_reducible repeat refine Y ?_); refine eF rfl ?_) | (with_reducible refine fun (K : _ → _ → Prop) hK => ?_) | (with_reducible show drawOK _ _ = true; kernel_rfl) | (with_reducible refine gI fun hg => ?_; try simp only [hC, reduceCtorEq] at hg; try simp only [hg]) | simp (maxSteps := 2000000) (disch := omega) only [go_sem] | (with_reducible intro hg; try simp only [hC, reduceCtorEq] at hg) | (with_reducible show List.Nodup _; decide) | (with_reducible show (_ : Bool) = false; first | rfl | (simp [*]; done)) | with_reducible exact at8_le _ _ | with_reducible exact at8_ge _ _ | (simp only [hC, reduceCtorEq]; omega) | omega | with_reducible assumption | (with_reducible show (_ : Bool) = true; first | (simp [*]; done) | (simp only [hC, reduceCtorEq]; (repeat' (first | assumption | apply And.intro)); done))))
    · exact ⟨_, [_, _], [], by omega, ⟨k + 1, by rw [take_at' (by assumption), List.map_append, List.map_cons, List.map_nil, encNode_eq], rfl, rfl, by omega⟩, rfl, trivial⟩
    · rw [show k = l.length by omega, List.take_length]
theorem sCopyNodes_n : ∀ (n : Nat) (l : List GNode), Ctr lim Tryz.prog 112 [] [.sl false 3 (l.map (encNode false))] (.sl true 3 (l.map (encNode true))) [] (SizeOf.sizeOf l < n)
  | 0, l => ⟨en112, fun h => absurd h (Nat.not_lt_zero _)⟩
  | n + 1, l => by
    have ih := sCopyNodes_n n
    refine Ctr.of_body en112 Tryz.func112 rfl rfl fun hp => (?_); rw [Tryz.ntmps112]
    refine AW.fact 0 fun hf => ?_
    simp (disch := omega) only [go_sem] at hf
    (repeat' (first | (with_reducible first | refine Z ?_ | refine Y ?_ | (refine hK _ _ ?_; clear hK K) | exact trivial | refine And.intro ?_ ?_) | (refine AW.i rfl (fun h => ?_) (fun h => ?_) <;> try simp only [hC, reduceCtorEq] at h) | with_reducible rfl | ((with_reducible refine E ?_); (with_reducible repeat refine Y ?_); refine eF rfl ?_) | (with_reducible refine fun (K : _ → _ → Prop) hK => ?_) | (with_reducible show drawOK _ _ = true; kernel_rfl) | (with_reducible refine gI fun hg => ?_; try simp only [hC, reduceCtorEq] at hg; try simp only [hg]) | simp (maxSteps := 2000000) (disch := omega) only [go_sem] | (with_reducible intro hg; try simp only [hC, reduceCtorEq] at hg) | (with_reducible show List.Nodup _; decide) | (with_reducible show (_ : Bool) = false; first | rfl | (simp [*]; done)) | with_reducible exact at8_le _ _ | with_reducible exact at8_ge _ _ | (simp only [hC, reduceCtorEq]; omega) | omega | with_reducible assumption | (with_reducible show (_ : Bool) = true; first | (simp [*]; done) | (simp only [hC, reduceCtorEq]; (repeat' (first | assumption | apply And.intro)); done))))
    refine AW.loopV [3, 4] [0] (fun m xs o => ∃ k : Nat, xs = [.sl true 3 ((l.take k).map (encNode true)), .v (.int .i64 k)] ∧ o = [] ∧ m = l.length - k ∧ k ≤ l.length) l.length [] trivial ⟨0, ?_, rfl, rfl, ?_⟩ ?_
    · rfl
    · omega
    rintro m xs o ⟨k, rfl, rfl, rfl, hk⟩
    have hlt : (l.take k).length = k := by rw [List.length_take]; omega
    have hkk : k < l.length → SizeOf.sizeOf (at_ l k).fKids < n := fun h => by have := GNode.kids_lt (at_mem h); omega
    (repeat' (first | (with_reducible first | refine Z ?_ | refine Y ?_ | (refine hK _ _ ?_; clear hK K) | exact trivial | refine And.intro ?_ ?_) | (refine AW.i rfl (fun h => ?_) (fun h => ?_) <;> try simp only [hC, reduceCtorEq] at h) | with_reducible rfl | ((with_reducible refine E ?_); (with_reducible repeat refine Y ?_); refine eF rfl ?_) | (with_reducible refine fun (K : _ → _ → Prop) hK => ?_) | (with_reducible show drawOK _ _ = true; kernel_rfl) | (with_reducible refine gI fun hg => ?_; try simp only [hC, reduceCtorEq] at hg; try simp only [hg]) | simp (maxSteps := 2000000) (disch := omega) only [go_sem] | (with_reducible intro hg; try simp only [hC, reduceCtorEq] at hg) | (with_reducible show List.Nodup _; decide) | (with_reducible show (_ : Bool) = false; first | rfl | (simp [*]; done)) | with_reducible exact at8_le _ _ | with_reducible exact at8_ge _ _ | (simp only [hC, reduceCtorEq]; omega) | omega | with_reducible assumption | (with_reducible show (_ : Bool) = true; first | (simp [*]; done) | (simp only [hC, reduceCtorEq]; (repeat' (first | assumption | apply And.intro)); done))))
    · exact ⟨_, [_, _], [], by omega, ⟨k + 1, by rw [take_at' (by assumption), List.map_append, List.map_cons, List.map_nil, encNode_eq], rfl, rfl, by omega⟩, rfl, trivial⟩
    · rw [show k = l.length by omega, List.take_length]
instance iCopyNodes_i (l : List GNode) : Ctr lim Tryz.prog 119 [] [.sl false 3 (l.map (encNode false))] (.sl true 3 (l.map (encNode true))) [] True := ⟨en119, fun _ => (iCopyNodes_n (SizeOf.sizeOf l + 1) l).out (Nat.lt_succ_self _)⟩
instance sCopyNodes_i (l : List GNode) : Ctr lim Tryz.prog 112 [] [.sl false 3 (l.map (encNode false))] (.sl true 3 (l.map (encNode true))) [] True := ⟨en112, fun _ => (sCopyNodes_n (SizeOf.sizeOf l + 1) l).out (Nat.lt_succ_self _)⟩
end Go.Proofs.YtkdchlggdcmkbaaGreat
