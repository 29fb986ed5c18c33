/-
  Part of a proof: Dw2, Dw3.
-/
import Derived.Test.YtfglembdjbhanaaGreatDoorG10
import Derived.Test.YtfglembdjbhanaaGreatDoorG11
import Derived.Test.YtfglembdjbhanaaGreatDoorG12
import Derived.Test.YtfglembdjbhanaaGreatDoorG13
set_option linter.unusedSimpArgs false
set_option linter.unusedVariables false
namespace Go.Dt
open Go.Ab
@[go_sem] def shS : AV → Bool
  | .str s => Nat.ble s.length 16
  | _ => false
@[go_sem] def shA : List AV → Bool
  | [] => true
  | x :: l => shS x && shA l
@[go_sem] def shL (l : List AV) : Bool := Nat.blt 0 l.length && (Nat.ble l.length 256 && shA l)
theorem shA_map : ∀ {l : List AV}, shA l = true → ∃ l' : List Str, l = l'.map AV.str ∧ ∀ x ∈ l', x.length ≤ 16
  | [], _ => ⟨[], rfl, by simp⟩
  | x :: l, h => by
    simp only [shA, Bool.and_eq_true] at h
    obtain ⟨l', rfl, h2⟩ := shA_map h.2
    cases x <;> simp only [shS, reduceCtorEq, false_and] at h
    rename_i s
    refine ⟨s :: l', rfl, fun y hy => ?_⟩
    rcases List.mem_cons.1 hy with rfl | hy
    · exact Nat.le_of_ble_eq_true h.1
    · exact h2 y hy
def rT : AV → Prop := fun r => ∃ t : GTemplate, r = .agg [.str t.fName, .sl false 6 (t.fParams.map (encParam false)), .sl false 3 (t.fBody.map (encNode false))] ∧ wt t.fBody ≤ 4096 ∧ t.fParams.length ≤ 2 ∧ ∀ p ∈ t.fParams, p.fName.length ≤ 64
def rA (n : Nat) : AV → Prop := fun r => ∃ l : List GArg, r = .sl true 2 (l.map (encArg true)) ∧ l.length ≤ n ∧ ∀ a ∈ l, a.fName.length ≤ 64 ∧ a.fValue.length ≤ 64
end Go.Dt
namespace Go.Ab
open Go.Dt
section
variable {os : Sto} {b : Nat} {c : Option (List AV)} {code : List UInt8} {K : AV → Sto → Prop}
instance gkT : Rl (GK os [(b, c)] (curQ b code rT) (K := ⟨K⟩)) (∀ (i h : Int) (t : GTemplate), (0 ≤ i ∧ wt t.fBody ≤ 4096 ∧ t.fParams.length ≤ 2 ∧ ∀ p ∈ t.fParams, p.fName.length ≤ 64) → K (.agg [.str t.fName, .sl false 6 (t.fParams.map (encParam false)), .sl false 3 (t.fBody.map (encNode false))]) (mergeO os [(b, some [.sl false 1 (bytesA code), .v (.int .i64 i), .v (.int .i64 h)])])) :=
  ⟨fun k => by rintro res os' ⟨i, h, hi, rfl, x, rfl, hx⟩; exact ⟨rfl, k i h x ⟨hi, hx⟩⟩⟩
instance gkA {n : Nat} : Rl (GK os [(b, c)] (curQ b code (rA n)) (K := ⟨K⟩)) (∀ (i h : Int) (l : List GArg), (0 ≤ i ∧ l.length ≤ n ∧ ∀ a ∈ l, a.fName.length ≤ 64 ∧ a.fValue.length ≤ 64) → K (.sl true 2 (l.map (encArg true))) (mergeO os [(b, some [.sl false 1 (bytesA code), .v (.int .i64 i), .v (.int .i64 h)])])) :=
  ⟨fun k => by rintro res os' ⟨i, h, hi, rfl, x, rfl, hx⟩; exact ⟨rfl, k i h x ⟨hi, hx⟩⟩⟩
end
end Go.Ab
namespace Go.Proofs.YtfglembdjbhanaaGreatDoor
open Go.Ab Go.Dt
set_option maxRecDepth 20000
set_option maxHeartbeats 2000000
instance l1StrA_i (b : Nat) (s : Str) (i h : Int) (l : List AV) : GCtr lim Tryz.prog 72 [(b, some [.sl false 1 (bytesA s), .v (.int .i64 i), .v (.int .i64 h)])] [.ptr b 0, .sl false 1 l] (curQ b s (rS 16)) ((0 ≤ i ∧ s.length ≤ 4096) ∧ shL l = true) :=
  ⟨en72, fun hp => by
    have h1 := hp.2
    simp only [shL, Bool.and_eq_true] at h1
    obtain ⟨l', rfl, h2⟩ := shA_map h1.2.2
    have h3 := Nat.le_of_ble_eq_true h1.1
    have h4 := Nat.le_of_ble_eq_true h1.2.1
    simp only [List.length_map] at h3 h4
    exact (l1Str_i b s i h l').out ⟨hp.1, ⟨h3, h4⟩, h2⟩⟩
instance l28Text_i (b : Nat) (s : Str) (i h : Int) : GCtr lim Tryz.prog 38 [(b, some [.sl false 1 (bytesA s), .v (.int .i64 i), .v (.int .i64 h)])] [.ptr b 0] (curQ b s (rS 16)) (0 ≤ i ∧ s.length ≤ 4096) := by
  refine GCtr.of_body en38 Tryz.func38 rfl rfl fun hp => (?_); rw [Tryz.ntmps38]
  haveI fz : ∀ (sz : Nat) (x : AV) (l : List AV) (C : List Nat) (K : AV → List Nat → Prop), Rl (bsK sz (x :: l) C (K := ⟨K⟩)) (K (.sl false sz (AV.frzL (x :: l))) C) := fun _ _ _ _ _ => ⟨.inr⟩
  (refine vU ?_; with_reducible repeat' first | exact Le.l | refine Sw ?_ ?_ | intro (K : _ → _ → Prop) hK | intro h)
  refine AW.ret (EndsG.cur rfl ?_)
  simp (maxSteps := 2000000) (disch := omega) only [go_sem]
  exact h
instance l13Word_i (b : Nat) (s : Str) (i h : Int) : GCtr lim Tryz.prog 71 [(b, some [.sl false 1 (bytesA s), .v (.int .i64 i), .v (.int .i64 h)])] [.ptr b 0] (curQ b s (rS 16)) (0 ≤ i ∧ s.length ≤ 4096) := by
  refine GCtr.of_body en71 Tryz.func71 rfl rfl fun hp => (?_); rw [Tryz.ntmps71]
  haveI fz : ∀ (sz : Nat) (x : AV) (l : List AV) (C : List Nat) (K : AV → List Nat → Prop), Rl (bsK sz (x :: l) C (K := ⟨K⟩)) (K (.sl false sz (AV.frzL (x :: l))) C) := fun _ _ _ _ _ => ⟨.inr⟩
  (refine vU ?_; with_reducible repeat' first | exact Le.l | refine Sw ?_ ?_ | intro (K : _ → _ → Prop) hK | intro h)
  refine AW.ret (EndsG.cur rfl ?_)
  simp (maxSteps := 2000000) (disch := omega) only [go_sem]
  exact h
instance l13Leaf_i (x y : Str) : Ctr lim Tryz.prog 70 [] [.str x, .str y] (.agg [.str x, .str y, .sl false 3 []]) [] True := by
  refine Ctr.of_body en70 Tryz.func70 rfl rfl fun hp => (?_); rw [Tryz.ntmps70]
  (refine vX ?_; with_reducible repeat' first | exact Le.l | refine Sw ?_ ?_ | intro (K : _ → _ → Prop) hK | intro h)
  (refine AW.ret (EndsG.imp (Imp.nilO (b := h) 3 [.str x, .str y] [] (by simp (maxSteps := 2000000) (disch := omega) only [go_sem]) ?_)); simp (maxSteps := 2000000) (disch := omega) only [go_sem]; refine EndsG.fin rfl ?_; simp (maxSteps := 2000000) (disch := omega) only [go_sem])
end Go.Proofs.YtfglembdjbhanaaGreatDoor
namespace Go.Dt
open Go.Ab
theorem args_snoc {l : List GArg} {n v : Str} : (l.map (encArg true)) ++ [.agg [.str n, .str v]] = (l ++ [GArg.mk n v]).map (encArg true) := by rw [List.map_append]; rfl
theorem ok_snoc {l : List GArg} {n v : Str} (h : ∀ a ∈ l, a.fName.length ≤ 64 ∧ a.fValue.length ≤ 64) (hn : n.length ≤ 64) (hv : v.length ≤ 64) : ∀ a ∈ l ++ [GArg.mk n v], a.fName.length ≤ 64 ∧ a.fValue.length ≤ 64 := by
  intro a ha
  rcases List.mem_append.1 ha with ha | ha
  · exact h a ha
  · rw [List.mem_singleton.1 ha]; exact ⟨hn, hv⟩
theorem argE (l : List GArg) : (l.map (encArg true)).all (AV.elem 2) = true := List.all_eq_true.2 fun x hx => by obtain ⟨y, _, rfl⟩ := List.mem_map.1 hx; rfl
attribute [go_sem] argE
def tplA : GTemplate := ⟨[112, 101, 114, 115, 111, 110], [⟨[119, 104, 111], ⟨2, [⟨1, 8⟩], [], [], []⟩⟩, ⟨[108, 101, 118, 101, 108], ⟨1, [⟨0, 9⟩], [], [], []⟩⟩], [.mk [117, 115, 101, 114] [] [.mk [110, 97, 109, 101] [36, 119, 104, 111] [], .mk [108, 101, 118, 101, 108] [36, 108, 101, 118, 101, 108] []]]⟩
theorem tplA_ok : wt tplA.fBody ≤ 4096 ∧ tplA.fParams.length ≤ 2 ∧ ∀ p ∈ tplA.fParams, p.fName.length ≤ 64 := ⟨by simp [wt, wtg, tplA], by decide, by simp [tplA]⟩
def tplB : GTemplate := ⟨[108, 105, 110, 101], [⟨[115, 108, 111, 116], ⟨1, [⟨0, 9⟩], [], [], []⟩⟩, ⟨[119, 104, 111], ⟨2, [⟨1, 8⟩], [], [], []⟩⟩], [.mk [117, 115, 101, 114] [] [.mk [110, 97, 109, 101] [36, 119, 104, 111] []], .mk [112, 111, 114, 116] [] [.mk [115, 108, 111, 116] [36, 115, 108, 111, 116] [], .mk [117, 110, 105, 116] [48] [], .mk [111, 119, 110, 101, 114] [36, 119, 104, 111] []]]⟩
theorem tplB_ok : wt tplB.fBody ≤ 4096 ∧ tplB.fParams.length ≤ 2 ∧ ∀ p ∈ tplB.fParams, p.fName.length ≤ 64 := ⟨by simp [wt, wtg, tplB], by decide, by simp [tplB]⟩
def tplC : GTemplate := ⟨[102, 108, 97, 116], [⟨[115, 108, 111, 116], ⟨1, [⟨0, 9⟩], [], [], []⟩⟩], [.mk [112, 111, 114, 116] [] [.mk [115, 108, 111, 116] [36, 115, 108, 111, 116] [], .mk [117, 110, 105, 116] [48] [], .mk [118, 108, 97, 110] [36, 115, 108, 111, 116] []]]⟩
theorem tplC_ok : wt tplC.fBody ≤ 4096 ∧ tplC.fParams.length ≤ 2 ∧ ∀ p ∈ tplC.fParams, p.fName.length ≤ 64 := ⟨by simp [wt, wtg, tplC], by decide, by simp [tplC]⟩
def tplD : GTemplate := ⟨[109, 111, 100, 101], [], [.mk [109, 111, 100, 101] [111, 110] [], .mk [101, 120, 116, 114, 97] [] [.mk [110, 111, 116, 101] [53, 36, 36] [], .mk [100, 110, 115] [108, 111] []]]⟩
theorem tplD_ok : wt tplD.fBody ≤ 4096 ∧ tplD.fParams.length ≤ 2 ∧ ∀ p ∈ tplD.fParams, p.fName.length ≤ 64 := ⟨by simp [wt, wtg, tplD], by decide, by simp [tplD]⟩
end Go.Dt
namespace Go.Proofs.YtfglembdjbhanaaGreatDoor
open Go.Ab Go.Dt
set_option maxRecDepth 20000
set_option maxHeartbeats 4000000
instance l28Args_i (b : Nat) (s : Str) (i h : Int) (t : GTemplate) : GCtr lim Tryz.prog 28 [(b, some [.sl false 1 (bytesA s), .v (.int .i64 i), .v (.int .i64 h)])] [.ptr b 0, .agg [.str t.fName, .sl false 6 (t.fParams.map (encParam false)), .sl false 3 (t.fBody.map (encNode false))]] (curQ b s (rA 3)) ((0 ≤ i ∧ s.length ≤ 4096) ∧ t.fParams.length ≤ 2 ∧ ∀ p ∈ t.fParams, p.fName.length ≤ 64) := by
  refine GCtr.of_body en28 Tryz.func28 rfl rfl fun hp => (?_); rw [Tryz.ntmps28]
  haveI fz : ∀ (sz : Nat) (x : AV) (l : List AV) (C : List Nat) (K : AV → List Nat → Prop), Rl (bsK sz (x :: l) C (K := ⟨K⟩)) (K (.sl false sz (AV.frzL (x :: l))) C) := fun _ _ _ _ _ => ⟨.inr⟩
  have hpl := hp.2.1
  have hpn := hp.2.2
  (refine vU ?_; with_reducible repeat' first | exact Le.l | refine Sw ?_ ?_ | intro (K : _ → _ → Prop) hK | intro h)
  refine AW.loopV [5, 6] [0, 3] (fun m xs o => ∃ (k : Nat) (l : List GArg) (i h : Int), xs = [.sl true 2 (l.map (encArg true)), .v (.int .i64 k)] ∧ o = [(b, some [.sl false 1 (bytesA s), .v (.int .i64 i), .v (.int .i64 h)])] ∧ m = t.fParams.length - k ∧ k ≤ t.fParams.length ∧ 0 ≤ i ∧ l.length = k ∧ ∀ a ∈ l, a.fName.length ≤ 64 ∧ a.fValue.length ≤ 64) t.fParams.length [(b, some [.sl false 1 (bytesA s), .v (.int .i64 i), .v (.int .i64 h)])] (subO_one rfl) ⟨0, [], i, h, rfl, rfl, ?_, ?_, hp.1.1, rfl, ?_⟩ ?_
  · omega
  · omega
  · simp
  rintro m xs o ⟨k, l, i, h, rfl, rfl, rfl, hk, hi, hl, hR⟩
  (repeat' first | (with_reducible first | refine Z ?_ | refine Y ?_ | (refine hK _ _ ?_; clear hK K) | refine And.intro ?_ ?_ | exact Ct | intro (K : _ → _ → Prop) hK | (refine gI fun hg => ?_; try simp only [hC, reduceCtorEq] at hg; try simp only [hg])) | (refine AW.i rfl (fun h => ?_) (fun h => ?_) <;> try simp only [hC, reduceCtorEq] at h) | ((with_reducible refine E ?_; repeat refine Y ?_); refine eF rfl ?_) | simp (disch := omega) only [go_sem, cond_true] | (with_reducible intro hg; try simp only [hC, reduceCtorEq] at hg) | exact Cl | fail)
  iterate 4
    rw [args_snoc]
    exact ⟨_, [_, _], _, by omega, ⟨k + 1, _, _, _, rfl, rfl, rfl, by omega, by omega, by simp; omega, ok_snoc hR (hpn _ (at_mem (by assumption))) (by omega)⟩, rfl, subO_one rfl⟩
  · refine AW.ret (EndsG.cur rfl ?_)
    simp (maxSteps := 2000000) (disch := omega) only [go_sem]
    rw [args_snoc]
    exact ⟨by omega, _, rfl, by simp; omega, ok_snoc hR (by omega) (by simp)⟩
  · refine AW.ret (EndsG.cur rfl ?_)
    simp (maxSteps := 2000000) (disch := omega) only [go_sem]
    exact ⟨by omega, _, rfl, by omega, hR⟩
instance l28Draw_i (b : Nat) (s : Str) (i h : Int) : GCtr lim Tryz.prog 27 [(b, some [.sl false 1 (bytesA s), .v (.int .i64 i), .v (.int .i64 h)])] [.ptr b 0] (curQ b s rT) (0 ≤ i ∧ s.length ≤ 4096) := by
  refine GCtr.of_body en27 Tryz.func27 rfl rfl fun hp => (?_); rw [Tryz.ntmps27]
  haveI fz : ∀ (sz : Nat) (x : AV) (l : List AV) (C : List Nat) (K : AV → List Nat → Prop), Rl (bsK sz (x :: l) C (K := ⟨K⟩)) (K (.sl false sz (AV.frzL (x :: l))) C) := fun _ _ _ _ _ => ⟨.inr⟩
  (refine vN ?_; with_reducible repeat' first | exact Le.l | refine Sw ?_ ?_ | intro (K : _ → _ → Prop) hK | intro h)
  refine Z ?_
  (refine vN ?_; with_reducible repeat' first | exact Le.l | refine Sw ?_ ?_ | intro (K : _ → _ → Prop) hK | intro h)
  refine Z ?_
  (refine vN ?_; with_reducible repeat' first | exact Le.l | refine Sw ?_ ?_ | intro (K : _ → _ → Prop) hK | intro h)
  refine Z ?_
  (refine vN ?_; with_reducible repeat' first | exact Le.l | refine Sw ?_ ?_ | intro (K : _ → _ → Prop) hK | intro h)
  rename_i c0 c1 q1 c2 q2 c3
  refine AW.imp (Imp.nilO (b := c2) 1 [.v (.int .i64 2), .sl false 2 [.agg [.v (.int .i64 1), .v (.int .i64 8)]]] [.str [], .str []] gO ?_)
  refine AW.imp (Imp.nilO (b := c3) 1 [.v (.int .i64 1), .sl false 2 [.agg [.v (.int .i64 0), .v (.int .i64 9)]]] [.str [], .str []] gO ?_)
  simp (maxSteps := 2000000) (disch := omega) only [go_sem]
  (repeat' first | (with_reducible first | refine Z ?_ | refine Y ?_ | (refine hK _ _ ?_; clear hK K) | refine And.intro ?_ ?_ | exact Ct | intro (K : _ → _ → Prop) hK | (refine gI fun hg => ?_; try simp only [hC, reduceCtorEq] at hg; try simp only [hg])) | (refine AW.i rfl (fun h => ?_) (fun h => ?_) <;> try simp only [hC, reduceCtorEq] at h) | ((with_reducible refine E ?_; repeat refine Y ?_); refine eF rfl ?_) | simp (disch := omega) only [go_sem, cond_true] | (with_reducible intro hg; try simp only [hC, reduceCtorEq] at hg) | exact Cl | fail)
  · refine AW.ret (EndsG.cur rfl ?_)
    simp (maxSteps := 2000000) (disch := omega) only [go_sem]
    exact ⟨by omega, tplA, rfl, tplA_ok⟩
  · refine AW.ret (EndsG.cur rfl ?_)
    simp (maxSteps := 2000000) (disch := omega) only [go_sem]
    exact ⟨by omega, tplB, rfl, tplB_ok⟩
  · refine AW.ret (EndsG.cur rfl ?_)
    simp (maxSteps := 2000000) (disch := omega) only [go_sem]
    exact ⟨by omega, tplC, rfl, tplC_ok⟩
  · refine AW.ret (EndsG.imp (Imp.nilO (b := c1) 6 [.str [109, 111, 100, 101]] [.sl false 3 [.agg [.str [109, 111, 100, 101], .str [111, 110], .sl false 3 []], .agg [.str [101, 120, 116, 114, 97], .str [], .sl false 3 [.agg [.str [110, 111, 116, 101], .str [53, 36, 36], .sl false 3 []], .agg [.str [100, 110, 115], .str [108, 111], .sl false 3 []]]]]] gO ?_))
    simp (maxSteps := 2000000) (disch := omega) only [go_sem]
    refine EndsG.cur rfl ?_
    simp (maxSteps := 2000000) (disch := omega) only [go_sem]
    exact ⟨by omega, tplD, rfl, tplD_ok⟩
end Go.Proofs.YtfglembdjbhanaaGreatDoor
