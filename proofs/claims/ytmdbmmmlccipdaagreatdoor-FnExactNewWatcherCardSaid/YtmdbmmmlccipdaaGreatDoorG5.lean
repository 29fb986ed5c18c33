/-
  Part of a proof: AbU.
-/
import Derived.Test.YtmdbmmmlccipdaaGreatDoorG4
set_option linter.unusedSimpArgs false
set_option linter.unusedVariables false
namespace Go.Ab
/-- what a walk leaves open: slots, each a goal or nothing -/
structure Lf (A B : Prop) : Prop where
  a : A
  b : B
inductive Le : Prop
  | l
inductive Mk : Prop
  | m
structure Hk (A : Prop) : Prop where
  r : A
inductive Sl : Prop → Prop
  | d : Sl Le
  | x (A : Prop) : Sl A
theorem Sw {A B : Prop} (a : A) (b : B) : Lf A B := ⟨a, b⟩
theorem mkE {T : Prop} (h : T) : Mk → T := fun _ => h
structure Wk (A0 A1 A2 A3 A4 A5 A6 A7 A8 A9 A10 A11 G : Prop) : Prop where
  h : Hk A0 → Hk A1 → Hk A2 → Hk A3 → Hk A4 → Hk A5 → Hk A6 → Hk A7 → Hk A8 → Hk A9 → Hk A10 → Hk A11 → Mk → G
  s0 : Sl A0
  s1 : Sl A1
  s2 : Sl A2
  s3 : Sl A3
  s4 : Sl A4
  s5 : Sl A5
  s6 : Sl A6
  s7 : Sl A7
  s8 : Sl A8
  s9 : Sl A9
  s10 : Sl A10
  s11 : Sl A11
theorem Wk.go {A0 A1 A2 A3 A4 A5 A6 A7 A8 A9 A10 A11 G : Prop} (h : Wk A0 A1 A2 A3 A4 A5 A6 A7 A8 A9 A10 A11 G) (r : (Lf A0 (Lf A1 (Lf A2 (Lf A3 (Lf A4 (Lf A5 (Lf A6 (Lf A7 (Lf A8 (Lf A9 (Lf A10 (Lf A11 Le))))))))))))) : G := h.1 ⟨r.a⟩ ⟨r.b.a⟩ ⟨r.b.b.a⟩ ⟨r.b.b.b.a⟩ ⟨r.b.b.b.b.a⟩ ⟨r.b.b.b.b.b.a⟩ ⟨r.b.b.b.b.b.b.a⟩ ⟨r.b.b.b.b.b.b.b.a⟩ ⟨r.b.b.b.b.b.b.b.b.a⟩ ⟨r.b.b.b.b.b.b.b.b.b.a⟩ ⟨r.b.b.b.b.b.b.b.b.b.b.a⟩ ⟨r.b.b.b.b.b.b.b.b.b.b.b.a⟩ .m
theorem vU {A0 A1 A2 A3 A4 A5 A6 A7 A8 A9 A10 A11 G : Prop} (r : (Lf A0 (Lf A1 (Lf A2 (Lf A3 (Lf A4 (Lf A5 (Lf A6 (Lf A7 (Lf A8 (Lf A9 (Lf A10 (Lf A11 Le))))))))))))) (h : Wk A0 A1 A2 A3 A4 A5 A6 A7 A8 A9 A10 A11 G := by
  constructor
  · intro r0 r1 r2 r3 r4 r5 r6 r7 r8 r9 r10 r11 m
    (repeat' first | (with_reducible first | refine Z ?_ | refine Y ?_ | (refine hK _ _ ?_; try clear hK K) | refine And.intro ?_ ?_ | exact Ct | intro (K : _ → _ → Prop) hK | (refine gI fun hg => ?_; try simp only [hC, reduceCtorEq] at hg; try simp only [hg])) | (refine AW.i rfl (fun hg => ?_) (fun hg => ?_) <;> try simp only [hC, reduceCtorEq] at hg) | ((with_reducible refine E ?_; repeat refine Y ?_); refine eF rfl ?_) | simp (maxSteps := 2000000) (disch := omega) only [go_sem] | (with_reducible intro hg; try simp only [hC, reduceCtorEq] at hg) | exact Cl | fail)
    all_goals (repeat' first | (with_reducible refine mkE ?_; with_reducible first | exact r0.r | exact r1.r | exact r2.r | exact r3.r | exact r4.r | exact r5.r | exact r6.r | exact r7.r | exact r8.r | exact r9.r | exact r10.r | exact r11.r) | revert ‹_›)
  all_goals first | exact Sl.d | exact Sl.x _) : G := h.go r
theorem vK {A0 A1 A2 A3 A4 A5 A6 A7 A8 A9 A10 A11 G : Prop} (r : (Lf A0 (Lf A1 (Lf A2 (Lf A3 (Lf A4 (Lf A5 (Lf A6 (Lf A7 (Lf A8 (Lf A9 (Lf A10 (Lf A11 Le))))))))))))) (h : Wk A0 A1 A2 A3 A4 A5 A6 A7 A8 A9 A10 A11 G := by
  constructor
  · intro r0 r1 r2 r3 r4 r5 r6 r7 r8 r9 r10 r11 m
    (repeat' first | (with_reducible first | refine Z ?_ | refine Y ?_ | (refine hK _ _ ?_; try clear hK K) | refine And.intro ?_ ?_ | exact Ct | intro (K : _ → _ → Prop) hK | (refine gI fun hg => ?_; try simp only [hC, reduceCtorEq] at hg; try simp only [hg])) | ((with_reducible refine E ?_; repeat refine Y ?_); refine eF rfl ?_) | simp (maxSteps := 2000000) (disch := omega) only [go_sem] | (with_reducible intro hg; try simp only [hC, reduceCtorEq] at hg) | exact Cl | fail)
    all_goals (repeat' first | (with_reducible refine mkE ?_; with_reducible first | exact r0.r | exact r1.r | exact r2.r | exact r3.r | exact r4.r | exact r5.r | exact r6.r | exact r7.r | exact r8.r | exact r9.r | exact r10.r | exact r11.r) | revert ‹_›)
  all_goals first | exact Sl.d | exact Sl.x _) : G := h.go r
theorem vN {A0 A1 A2 A3 A4 A5 A6 A7 A8 A9 A10 A11 G : Prop} (r : (Lf A0 (Lf A1 (Lf A2 (Lf A3 (Lf A4 (Lf A5 (Lf A6 (Lf A7 (Lf A8 (Lf A9 (Lf A10 (Lf A11 Le))))))))))))) (h : Wk A0 A1 A2 A3 A4 A5 A6 A7 A8 A9 A10 A11 G := by
  constructor
  · intro r0 r1 r2 r3 r4 r5 r6 r7 r8 r9 r10 r11 m
    (repeat' first | (with_reducible first | refine Y ?_ | (refine hK _ _ ?_; try clear hK K) | refine And.intro ?_ ?_ | exact Ct | intro (K : _ → _ → Prop) hK | (refine gI fun hg => ?_; try simp only [hC, reduceCtorEq] at hg; try simp only [hg])) | ((with_reducible refine E ?_; repeat refine Y ?_); refine eF rfl ?_) | simp (maxSteps := 2000000) (disch := omega) only [go_sem] | (with_reducible intro hg; try simp only [hC, reduceCtorEq] at hg) | exact Cl | fail)
    all_goals (repeat' first | (with_reducible refine mkE ?_; with_reducible first | exact r0.r | exact r1.r | exact r2.r | exact r3.r | exact r4.r | exact r5.r | exact r6.r | exact r7.r | exact r8.r | exact r9.r | exact r10.r | exact r11.r) | revert ‹_›)
  all_goals first | exact Sl.d | exact Sl.x _) : G := h.go r
theorem vX {A0 A1 A2 A3 A4 A5 A6 A7 A8 A9 A10 A11 G : Prop} (r : (Lf A0 (Lf A1 (Lf A2 (Lf A3 (Lf A4 (Lf A5 (Lf A6 (Lf A7 (Lf A8 (Lf A9 (Lf A10 (Lf A11 Le))))))))))))) (h : Wk A0 A1 A2 A3 A4 A5 A6 A7 A8 A9 A10 A11 G := by
  constructor
  · intro r0 r1 r2 r3 r4 r5 r6 r7 r8 r9 r10 r11 m
    (repeat' first | (with_reducible first | refine Z ?_ | refine Y ?_ | (refine hK _ _ ?_; try clear hK K) | refine And.intro ?_ ?_ | exact Ct | intro (K : _ → _ → Prop) hK | (refine gI fun hg => ?_; try simp only [hC, reduceCtorEq] at hg; try simp only [hg])) | (refine AW.i rfl (fun hg => ?_) (fun hg => ?_) <;> try simp only [hC, reduceCtorEq] at hg) | simp (maxSteps := 2000000) (disch := omega) only [go_sem] | (with_reducible intro hg; try simp only [hC, reduceCtorEq] at hg) | exact Cl | fail)
    all_goals (repeat' first | (with_reducible refine mkE ?_; with_reducible first | exact r0.r | exact r1.r | exact r2.r | exact r3.r | exact r4.r | exact r5.r | exact r6.r | exact r7.r | exact r8.r | exact r9.r | exact r10.r | exact r11.r) | revert ‹_›)
  all_goals first | exact Sl.d | exact Sl.x _) : G := h.go r
theorem bU {A0 A1 A2 A3 A4 A5 A6 A7 A8 A9 A10 A11 G : Prop} (r : (Lf A0 (Lf A1 (Lf A2 (Lf A3 (Lf A4 (Lf A5 (Lf A6 (Lf A7 (Lf A8 (Lf A9 (Lf A10 (Lf A11 Le))))))))))))) (h : Wk A0 A1 A2 A3 A4 A5 A6 A7 A8 A9 A10 A11 G := by
  constructor
  · intro r0 r1 r2 r3 r4 r5 r6 r7 r8 r9 r10 r11 m
    (repeat' first | (with_reducible first | refine Z ?_ | refine xO ?_ | refine Y ?_ | (refine hK _ _ ?_; try clear hK K) | refine And.intro ?_ ?_ | exact Ct | intro (K : _ → _ → Prop) hK | (refine gI fun hg => ?_; try simp only [hC, reduceCtorEq] at hg; try simp only [hg])) | (refine AW.i rfl (fun hg => ?_) (fun hg => ?_) <;> try simp only [hC, reduceCtorEq] at hg) | ((with_reducible refine E ?_; repeat refine Y ?_); refine eF rfl ?_) | simp (maxSteps := 2000000) (disch := omega) only [go_sem] | (with_reducible intro hg; try simp only [hC, reduceCtorEq] at hg) | exact Cl | fail)
    all_goals (repeat' first | (with_reducible refine mkE ?_; with_reducible first | exact r0.r | exact r1.r | exact r2.r | exact r3.r | exact r4.r | exact r5.r | exact r6.r | exact r7.r | exact r8.r | exact r9.r | exact r10.r | exact r11.r) | revert ‹_›)
  all_goals first | exact Sl.d | exact Sl.x _) : G := h.go r
theorem bK {A0 A1 A2 A3 A4 A5 A6 A7 A8 A9 A10 A11 G : Prop} (r : (Lf A0 (Lf A1 (Lf A2 (Lf A3 (Lf A4 (Lf A5 (Lf A6 (Lf A7 (Lf A8 (Lf A9 (Lf A10 (Lf A11 Le))))))))))))) (h : Wk A0 A1 A2 A3 A4 A5 A6 A7 A8 A9 A10 A11 G := by
  constructor
  · intro r0 r1 r2 r3 r4 r5 r6 r7 r8 r9 r10 r11 m
    (repeat' first | (with_reducible first | refine Z ?_ | refine xO ?_ | refine Y ?_ | (refine hK _ _ ?_; try clear hK K) | refine And.intro ?_ ?_ | exact Ct | intro (K : _ → _ → Prop) hK | (refine gI fun hg => ?_; try simp only [hC, reduceCtorEq] at hg; try simp only [hg])) | ((with_reducible refine E ?_; repeat refine Y ?_); refine eF rfl ?_) | simp (maxSteps := 2000000) (disch := omega) only [go_sem] | (with_reducible intro hg; try simp only [hC, reduceCtorEq] at hg) | exact Cl | fail)
    all_goals (repeat' first | (with_reducible refine mkE ?_; with_reducible first | exact r0.r | exact r1.r | exact r2.r | exact r3.r | exact r4.r | exact r5.r | exact r6.r | exact r7.r | exact r8.r | exact r9.r | exact r10.r | exact r11.r) | revert ‹_›)
  all_goals first | exact Sl.d | exact Sl.x _) : G := h.go r
theorem bN {A0 A1 A2 A3 A4 A5 A6 A7 A8 A9 A10 A11 G : Prop} (r : (Lf A0 (Lf A1 (Lf A2 (Lf A3 (Lf A4 (Lf A5 (Lf A6 (Lf A7 (Lf A8 (Lf A9 (Lf A10 (Lf A11 Le))))))))))))) (h : Wk A0 A1 A2 A3 A4 A5 A6 A7 A8 A9 A10 A11 G := by
  constructor
  · intro r0 r1 r2 r3 r4 r5 r6 r7 r8 r9 r10 r11 m
    (repeat' first | (with_reducible first | refine xO ?_ | refine Y ?_ | (refine hK _ _ ?_; try clear hK K) | refine And.intro ?_ ?_ | exact Ct | intro (K : _ → _ → Prop) hK | (refine gI fun hg => ?_; try simp only [hC, reduceCtorEq] at hg; try simp only [hg])) | ((with_reducible refine E ?_; repeat refine Y ?_); refine eF rfl ?_) | simp (maxSteps := 2000000) (disch := omega) only [go_sem] | (with_reducible intro hg; try simp only [hC, reduceCtorEq] at hg) | exact Cl | fail)
    all_goals (repeat' first | (with_reducible refine mkE ?_; with_reducible first | exact r0.r | exact r1.r | exact r2.r | exact r3.r | exact r4.r | exact r5.r | exact r6.r | exact r7.r | exact r8.r | exact r9.r | exact r10.r | exact r11.r) | revert ‹_›)
  all_goals first | exact Sl.d | exact Sl.x _) : G := h.go r
theorem bX {A0 A1 A2 A3 A4 A5 A6 A7 A8 A9 A10 A11 G : Prop} (r : (Lf A0 (Lf A1 (Lf A2 (Lf A3 (Lf A4 (Lf A5 (Lf A6 (Lf A7 (Lf A8 (Lf A9 (Lf A10 (Lf A11 Le))))))))))))) (h : Wk A0 A1 A2 A3 A4 A5 A6 A7 A8 A9 A10 A11 G := by
  constructor
  · intro r0 r1 r2 r3 r4 r5 r6 r7 r8 r9 r10 r11 m
    (repeat' first | (with_reducible first | refine Z ?_ | refine xO ?_ | refine Y ?_ | (refine hK _ _ ?_; try clear hK K) | refine And.intro ?_ ?_ | exact Ct | intro (K : _ → _ → Prop) hK | (refine gI fun hg => ?_; try simp only [hC, reduceCtorEq] at hg; try simp only [hg])) | (refine AW.i rfl (fun hg => ?_) (fun hg => ?_) <;> try simp only [hC, reduceCtorEq] at hg) | simp (maxSteps := 2000000) (disch := omega) only [go_sem] | (with_reducible intro hg; try simp only [hC, reduceCtorEq] at hg) | exact Cl | fail)
    all_goals (repeat' first | (with_reducible refine mkE ?_; with_reducible first | exact r0.r | exact r1.r | exact r2.r | exact r3.r | exact r4.r | exact r5.r | exact r6.r | exact r7.r | exact r8.r | exact r9.r | exact r10.r | exact r11.r) | revert ‹_›)
  all_goals first | exact Sl.d | exact Sl.x _) : G := h.go r
end Go.Ab
