/-
  Part of a proof: Pt1.
-/
import Derived.Test.YtkdchlggdcmkbaaGreatG9
import Derived.Test.YtkdchlggdcmkbaaGreatG25
import Derived.Test.YtkdchlggdcmkbaaGreatG39
set_option linter.unusedSimpArgs false
set_option linter.unusedVariables false
namespace Go.Proofs.YtkdchlggdcmkbaaGreat
open Go.Ab Go.Dt
set_option maxRecDepth 20000
set_option maxHeartbeats 4000000

instance take_i (L : Nat → Nat) (b : Nat) (s : Str) (i : Nat) (bad : Bool) (c : Int) : Ctr L Tryz.prog 219 [(b, some [.str s, .v (.int .i64 i), .v (.bool bad)])] [.ptr b 0, .v (.int .u8 c)] (.v (.bool (isAt s i c))) [some [.str s, .v (.int .i64 (bif isAt s i c then i + 1 else i : Nat)), .v (.bool bad)]] (i ≤ s.length ∧ s.length ≤ 30) := by
  refine Ctr.of_body en219 Tryz.func219 rfl rfl fun hp => (?_); rw [Tryz.ntmps219]
  (repeat' first | (with_reducible first | refine Z ?_ | refine Y ?_ | (refine hK _ _ ?_; clear hK K) | refine And.intro ?_ ?_ | exact Ct | intro (K : _ → _ → Prop) hK | (refine gI fun hg => ?_; try simp only [hC, reduceCtorEq] at hg; try simp only [hg])) | (refine AW.i rfl (fun h => ?_) (fun h => ?_) <;> try simp only [hC, reduceCtorEq] at h) | ((with_reducible refine E ?_; repeat refine Y ?_); refine eF rfl ?_) | simp (disch := omega) only [go_sem] | (with_reducible intro hg; try simp only [hC, reduceCtorEq] at hg) | exact Cl | fail)
  · rw [isAt_yes h]
  · rw [isAt_yes h]; rfl
  · rw [isAt_no h]
  · rw [isAt_no h]; rfl
instance l5Next_i (L : Nat → Nat) (b : Nat) (s : Str) (i : Nat) (bad : Bool) (c : Int) : Ctr L Tryz.prog 217 [(b, some [.str s, .v (.int .i64 i), .v (.bool bad)])] [.ptr b 0, .v (.int .u8 c)] (.v (.bool (!bad && isAt s i c))) [some [.str s, .v (.int .i64 (bif !bad && isAt s i c then i + 1 else i : Nat)), .v (.bool bad)]] (i ≤ s.length ∧ s.length ≤ 30) := by
  refine Ctr.of_body en217 Tryz.func217 rfl rfl fun hp => (?_); rw [Tryz.ntmps217]
  (repeat' first | (with_reducible first | refine Z ?_ | refine Y ?_ | (refine hK _ _ ?_; clear hK K) | refine And.intro ?_ ?_ | exact Ct | intro (K : _ → _ → Prop) hK | (refine gI fun hg => ?_; try simp only [hC, reduceCtorEq] at hg; try simp only [hg])) | (refine AW.i rfl (fun h => ?_) (fun h => ?_) <;> try simp only [hC, reduceCtorEq] at h) | ((with_reducible refine E ?_; repeat refine Y ?_); refine eF rfl ?_) | simp (disch := omega) only [go_sem] | (with_reducible intro hg; try simp only [hC, reduceCtorEq] at hg) | exact Cl | fail)
  · rw [isAt_yes ⟨h.1.2, h.2⟩, h.1.1]; rfl
  · rw [isAt_yes ⟨h.1.2, h.2⟩, h.1.1]; rfl
  · cases bad with
    | true => rfl
    | false => rw [isAt_no fun e => h ⟨rfl, e⟩]; rfl
  · cases bad with
    | true => rfl
    | false => rw [isAt_no fun e => h ⟨rfl, e⟩]; rfl
instance isChar_i (L : Nat → Nat) (n : Int) : Ctr L Tryz.prog 248 [] [.v (.int .u8 n)] (.v (.bool (isCh n))) [] True := by
  refine Ctr.of_body en248 Tryz.func248 rfl rfl fun hp => (?_); rw [Tryz.ntmps248]
  (repeat' first | (with_reducible first | refine Z ?_ | refine Y ?_ | (refine hK _ _ ?_; clear hK K) | refine And.intro ?_ ?_ | exact Ct | intro (K : _ → _ → Prop) hK | (refine gI fun hg => ?_; try simp only [hC, reduceCtorEq] at hg; try simp only [hg])) | (refine AW.i rfl (fun h => ?_) (fun h => ?_) <;> try simp only [hC, reduceCtorEq] at h) | ((with_reducible refine E ?_; repeat refine Y ?_); refine eF rfl ?_) | simp (disch := omega) only [go_sem, isCh] | (with_reducible intro hg; try simp only [hC, reduceCtorEq] at hg) | exact Cl | fail)
instance l5Char_i (L : Nat → Nat) (n : Int) : Ctr L Tryz.prog 242 [] [.v (.int .u8 n)] (.v (.bool (isCh n))) [] (0 ≤ n ∧ n ≤ 255) := by
  refine Ctr.of_body en242 Tryz.func242 rfl rfl fun hp => (?_); rw [Tryz.ntmps242]
  (repeat' first | (with_reducible first | refine Z ?_ | refine Y ?_ | (refine hK _ _ ?_; clear hK K) | refine And.intro ?_ ?_ | exact Ct | intro (K : _ → _ → Prop) hK | (refine gI fun hg => ?_; try simp only [hC, reduceCtorEq] at hg; try simp only [hg])) | (refine AW.i rfl (fun h => ?_) (fun h => ?_) <;> try simp only [hC, reduceCtorEq] at h) | ((with_reducible refine E ?_; repeat refine Y ?_); refine eF rfl ?_) | simp (disch := omega) only [go_sem, isCh] | (with_reducible intro hg; try simp only [hC, reduceCtorEq] at hg) | exact Cl | fail)
instance char_i (L : Nat → Nat) (b : Nat) (s : Str) (i : Nat) (bad : Bool) : Ctr L Tryz.prog 244 [(b, some [.str s, .v (.int .i64 i), .v (.bool bad)])] [.ptr b 0] (.v (.int .u8 (bif chAt s i then at8 s i else 0))) [some [.str s, .v (.int .i64 (bif chAt s i then i + 1 else i : Nat)), .v (.bool (bad || !chAt s i))]] (i ≤ s.length ∧ s.length ≤ 30) := by
  refine Ctr.of_body en244 Tryz.func244 rfl rfl fun hp => (?_); rw [Tryz.ntmps244]
  (repeat' first | (with_reducible first | refine Z ?_ | refine Y ?_ | (refine hK _ _ ?_; clear hK K) | refine And.intro ?_ ?_ | exact Ct | intro (K : _ → _ → Prop) hK | (refine gI fun hg => ?_; try simp only [hC, reduceCtorEq] at hg; try simp only [hg])) | (refine AW.i rfl (fun h => ?_) (fun h => ?_) <;> try simp only [hC, reduceCtorEq] at h) | ((with_reducible refine E ?_; repeat refine Y ?_); refine eF rfl ?_) | simp (disch := omega) only [go_sem] | (with_reducible intro hg; try simp only [hC, reduceCtorEq] at hg) | exact Cl | fail)
  · rw [chAt_no h]; rfl
  · rw [chAt_no h]; simp
  · rw [chAt_yes h]; rfl
  · rw [chAt_yes h]; simp
end Go.Proofs.YtkdchlggdcmkbaaGreat
