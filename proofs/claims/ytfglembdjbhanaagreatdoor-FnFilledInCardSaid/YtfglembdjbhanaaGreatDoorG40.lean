/-
  Part of a proof: La8, Cv1, Ft4, Fi1.
-/
import Derived.Test.YtfglembdjbhanaaGreatDoorG17
import Derived.Test.YtfglembdjbhanaaGreatDoorG21
import Derived.Test.YtfglembdjbhanaaGreatDoorG22
import Derived.Test.YtfglembdjbhanaaGreatDoorG23
import Derived.Test.YtfglembdjbhanaaGreatDoorG24
import Derived.Test.YtfglembdjbhanaaGreatDoorG26
import Derived.Test.YtfglembdjbhanaaGreatDoorG27
import Derived.Test.YtfglembdjbhanaaGreatDoorG31
import Derived.Test.YtfglembdjbhanaaGreatDoorG32
import Derived.Test.YtfglembdjbhanaaGreatDoorG37
import Derived.Test.YtfglembdjbhanaaGreatDoorG39
set_option linter.unusedSimpArgs false
set_option linter.unusedVariables false
namespace Go.Ab
theorem CallP.low {L : Nat → Nat} {P : Program} {os : Sto} {la : List AV} {G : Bool} {f : FuncId} {args : List AV} {K : AV → Prop} {res : AV} {cs : List (Option (List AV))} {pre : Prop} [h : Ctr L P f [] la res cs pre] (hl : LowL os args la) (hc : res.closed = true) (hp : G = true → pre) (hK : K res) : CallP L P os la G f args (K := ⟨K⟩) :=
  ⟨res, fun hg => ⟨h.en, .inr ⟨la, hl, hc, h.pure (hp hg)⟩⟩, hK⟩
end Go.Ab
namespace Go.Proofs.YtfglembdjbhanaaGreatDoor
open Go.Ab Go.Dt
set_option maxRecDepth 20000
set_option maxHeartbeats 4000000
attribute [go_sem] encParamM_frz encNodeM_frz
instance iIsType_i (x : GType) : Ctr lim Tryz.prog 74 [] [.agg [.v (.int .i64 x.fKind), .sl false 2 (x.fRanges.map (encRange false)), .sl false 1 (x.fNames.map AV.str), .str x.fPattern, .str x.fPath]] (.v (.bool (isType isPat x))) [] True := iIsType_t isPat x
instance sIsType_i (x : GType) : Ctr lim Tryz.prog 48 [] [.agg [.v (.int .i64 x.fKind), .sl false 2 (x.fRanges.map (encRange false)), .sl false 1 (x.fNames.map AV.str), .str x.fPattern, .str x.fPath]] (.v (.bool (isType isPat x))) [] True := sIsType_t isPat x
instance iIsTemplate_i (x : GTemplate) : Ctr lim Tryz.prog 30 [] [.agg [.str x.fName, .sl false 6 (x.fParams.map (encParam false)), .sl false 3 (x.fBody.map (encNode false))]] (.v (.bool (isTemplate isPat x))) [] (wt x.fBody ≤ 1048576 ∧ x.fParams.length ≤ 1048576) := iIsTemplate_t isPat x
instance sIsTemplate_i (x : GTemplate) : Ctr lim Tryz.prog 11 [] [.agg [.str x.fName, .sl false 6 (x.fParams.map (encParam false)), .sl false 3 (x.fBody.map (encNode false))]] (.v (.bool (isTemplate isPat x))) [] (wt x.fBody ≤ 1048576 ∧ x.fParams.length ≤ 1048576) := sIsTemplate_t isPat x

end Go.Proofs.YtfglembdjbhanaaGreatDoor
namespace Go.Dt
open Go.Ab
def cvB (x : GType) (s : Str) : Bool := isType isPat x && cvO mtchT x s
def cvS (x : GType) (s : Str) : Str := bif cvB x s then cvT x s else []
theorem cv_no {x : GType} {s : Str} (h : cvB x s = false) : AV.tup [.str [], .v (.bool false)] = .tup [.str (cvS x s), .v (.bool (cvB x s))] := by rw [cvS, h]; rfl
theorem cv_yes {x : GType} {s t : Str} (h : cvB x s = true) (e : cvT x s = t) : AV.tup [.str t, .v (.bool true)] = .tup [.str (cvS x s), .v (.bool (cvB x s))] := by rw [cvS, h, ← e]; rfl
theorem cont_step {l : List Str} {k : Nat} {s : Str} (h : k < l.length) : (cont (l.take k) s || at_ l k == s) = cont (l.take (k + 1)) s := by
  have e : l.take (k + 1) = l.take k ++ [at_ l k] := by
    rw [List.take_succ_eq_append_getElem h]
    unfold at_; rw [List.getElem?_eq_getElem h]; rfl
  rw [Bool.eq_iff_iff, Bool.or_eq_true, cont_iff, cont_iff, e]
  rw [List.mem_append, List.mem_singleton, beq_iff_eq, eq_comm (a := at_ l k)]
end Go.Dt
namespace Go.Proofs.YtfglembdjbhanaaGreatDoor
open Go.Ab Go.Dt
set_option maxRecDepth 20000
set_option maxHeartbeats 4000000
instance iCanonValue_i (x : GType) (s : Str) : Ctr lim Tryz.prog 36 [] [.agg [.v (.int .i64 x.fKind), .sl false 2 (x.fRanges.map (encRange false)), .sl false 1 (x.fNames.map AV.str), .str x.fPattern, .str x.fPath], .str s] (.tup [.str (cvS x s), .v (.bool (cvB x s))]) [] (s.length ≤ 1048576) := by
  have hr := read_le s
  refine Ctr.of_body en36 Tryz.func36 rfl rfl fun hp => (?_); rw [Tryz.ntmps36]
  (repeat' first | (with_reducible first | refine Z ?_ | refine Y ?_ | (refine hK _ _ ?_; clear hK K) | refine And.intro ?_ ?_ | exact Ct | intro (K : _ → _ → Prop) hK | (refine gI fun hg => ?_; try simp only [hC, reduceCtorEq] at hg; try simp only [hg])) | (refine AW.i rfl (fun h => ?_) (fun h => ?_) <;> try simp only [hC, reduceCtorEq] at h) | ((with_reducible refine E ?_; repeat refine Y ?_); refine eF rfl ?_) | simp (disch := omega) only [go_sem, cond_true] | (with_reducible intro hg; try simp only [hC, reduceCtorEq] at hg) | exact Cl | fail)
  all_goals try first | (refine cv_no ?_; simp_all [cvB, cvO, boolS, trueS, falseS]; done) | (refine cv_yes ?_ ?_ <;> simp_all [cvB, cvO, cvT, boolS, trueS, falseS]; done)
  all_goals trace_state
instance sCanonValue_i (x : GType) (s : Str) : Ctr lim Tryz.prog 12 [] [.agg [.v (.int .i64 x.fKind), .sl false 2 (x.fRanges.map (encRange false)), .sl false 1 (x.fNames.map AV.str), .str x.fPattern, .str x.fPath], .str s] (.tup [.str (cvS x s), .v (.bool (cvB x s))]) [] (s.length ≤ 1048576) := by
  have hr := read_le s
  refine Ctr.of_body en12 Tryz.func12 rfl rfl fun hp => (?_); rw [Tryz.ntmps12]
  (repeat' first | (with_reducible first | refine Z ?_ | refine Y ?_ | (refine hK _ _ ?_; clear hK K) | refine And.intro ?_ ?_ | exact Ct | intro (K : _ → _ → Prop) hK | (refine gI fun hg => ?_; try simp only [hC, reduceCtorEq] at hg; try simp only [hg])) | (refine AW.i rfl (fun h => ?_) (fun h => ?_) <;> try simp only [hC, reduceCtorEq] at h) | ((with_reducible refine E ?_; repeat refine Y ?_); refine eF rfl ?_) | simp (disch := omega) only [go_sem, cond_true] | (with_reducible intro hg; try simp only [hC, reduceCtorEq] at hg) | exact Cl | fail)
  all_goals try first | (refine cv_no ?_; cases e : isType isPat x <;> simp_all [cvB, cvO, boolS, trueS, falseS]; done) | (refine cv_yes ?_ ?_ <;> simp_all [cvB, cvO, cvT, boolS, trueS, falseS]; done)
  refine AW.fact 0 fun hf => ?_
  simp (disch := omega) only [go_sem, Nat.reduceBEq] at hf
  refine AW.loopV [7, 10] [1, 2, 6] (fun m xs o => ∃ k : Nat, xs = [.v (.bool (cont (x.fNames.take k) s)), .v (.int .i64 k)] ∧ o = [] ∧ m = x.fNames.length - k ∧ k ≤ x.fNames.length) x.fNames.length [] trivial ⟨0, ?_, rfl, rfl, ?_⟩ ?_
  · rfl
  · omega
  rintro m xs o ⟨k, rfl, rfl, rfl, hk⟩
  (repeat' first | (with_reducible first | refine Z ?_ | refine Y ?_ | (refine hK _ _ ?_; clear hK K) | refine And.intro ?_ ?_ | exact Ct | intro (K : _ → _ → Prop) hK | (refine gI fun hg => ?_; try simp only [hC, reduceCtorEq] at hg; try simp only [hg])) | (refine AW.i rfl (fun h => ?_) (fun h => ?_) <;> try simp only [hC, reduceCtorEq] at h) | ((with_reducible refine E ?_; repeat refine Y ?_); refine eF rfl ?_) | simp (disch := omega) only [go_sem, cond_true] | (with_reducible intro hg; try simp only [hC, reduceCtorEq] at hg) | exact Cl | fail)
  · exact ⟨_, [_, _], [], by omega, ⟨k + 1, rfl, rfl, rfl, by omega⟩, by rw [cont_step (by assumption)]; rfl, trivial⟩
  · rw [List.take_of_length_le (by omega)] at h
    refine cv_no ?_
    cases e : isType isPat x <;> simp_all [cvB, cvO]
  · rw [List.take_of_length_le (by omega)] at h
    refine cv_yes ?_ ?_ <;> simp_all [cvB, cvO, cvT]
  · refine cv_no ?_
    cases e : isType isPat x <;> by_cases e2 : s = [] <;> simp_all [cvB, cvO]
end Go.Proofs.YtfglembdjbhanaaGreatDoor
namespace Go.Dt
open Go.Ab
theorem dg_pow : ∀ (k u : Nat), u < 10 ^ k → (dg u).length ≤ k
  | 0, u, h => by
    have : u = 0 := by simpa using h
    subst this; simp [dg]
  | k + 1, u, h => by
    by_cases e : u = 0
    · subst e; simp [dg]
    · rw [dg_step e, List.length_append]
      have := dg_pow k (u / 10) (by rw [Nat.pow_succ] at h; omega)
      simp only [List.length_singleton]; omega
theorem itoa_le {n : Int} (h : -1000000000 ≤ n ∧ n ≤ 1000000000) : (Lib.itoa n).length ≤ 11 := by
  by_cases e : n = 0
  · subst e; rw [itoa_zero]; simp
  · rw [itoa_dg e]
    have := dg_pow 10 n.natAbs (by omega)
    split
    · simp only [List.length_cons]; omega
    · omega
theorem cvS_le (x : GType) (s : Str) (h : s.length ≤ 1048576) : (cvS x s).length ≤ 1048576 := by
  have h1 := itoa_le (read_le s)
  unfold cvS
  cases cvB x s with
  | false => simp
  | true =>
    simp only [cond_true]
    unfold cvT boolS
    repeat' split
    all_goals first | omega | (simp [trueS, falseS])
end Go.Dt
namespace Go.Proofs.YtfglembdjbhanaaGreatDoor
open Go.Ab Go.Dt
instance iFillTemplate_i (t : GTemplate) (l : List GArg) : Ctr lim Tryz.prog 7 [] [.agg [.str t.fName, .sl false 6 (t.fParams.map (encParam false)), .sl false 3 (t.fBody.map (encNode false))], .sl false 2 (l.map (encArg false))] (.tup [.sl true 3 ((ftN isPat cvB cvS t l).map (encNode true)), .v (.int .i64 (ftC isPat cvB t l))]) [] (wt t.fBody ≤ 1048576 ∧ t.fParams.length ≤ 1048576 ∧ l.length ≤ 1048576 ∧ ArgsOk l) :=
  iFillTemplate_t isPat cvB cvS t l cvS_le (fun _ => inferInstance) (fun _ _ => inferInstance)
end Go.Proofs.YtfglembdjbhanaaGreatDoor
namespace Go.Dt
open Go.Ab
theorem kc_app : ∀ a b : List GNode, kc (a ++ b) = kc a + kc b
  | [], b => by simp [kc]
  | .mk n v ks :: a, b => by simp only [List.cons_append, kc, kc_app a b]; omega
theorem kc_step {l : List GNode} {k : Nat} (h : k < l.length) : kc (l.take (k + 1)) = kc (l.take k) + cnt (at_ l k).fKids := by
  rw [take_atL h, kc_app]
  cases at_ l k with
  | mk n v ks => simp only [kc, cnt, GNode.fKids]; omega
theorem kc_take (l : List GNode) (k : Nat) : kc (l.take k) ≤ kc l := by
  have := kc_app (l.take k) (l.drop k)
  rw [List.take_append_drop] at this; omega
theorem fst1_step {l : List GArg} {i j : Nat} (h : j < l.length) : (fst1 l i j && !((at_ l j).fName == (at_ l i).fName)) = fst1 l i (j + 1) := all_step h
theorem right_step {R : Bool} {cb : GType → Str → Bool} {ps : List GParam} {l : List GArg} {i : Nat} : ((R && allTo (sOk cb ps l) i) && (smK cb ps (at_ l i).fName (at_ l i).fValue ps.length && fst1 l i i)) = (R && allTo (sOk cb ps l) (i + 1)) := by rw [allTo, sOk, Bool.and_assoc]
end Go.Dt
namespace Go.Proofs.YtfglembdjbhanaaGreatDoor
open Go.Ab Go.Dt
set_option maxRecDepth 20000
set_option maxHeartbeats 4000000
instance big_i (L : Nat → Nat) [hL : Lok L] (s : Str) : Ctr L Tryz.prog 5 [] [.sl false 1 (bytesA s)] (.v (.bool (decide (4096 < (s.length : Int))))) [] True := by
  refine Ctr.of_body en5 Tryz.func5 rfl rfl fun hp => (?_); rw [Tryz.ntmps5]
  all_goals exact uU
theorem sCount_n : ∀ (n : Nat) (l : List GNode), Ctr lim Tryz.prog 13 [] [.sl false 3 (l.map (encNode false))] (.v (.int .i64 (cnt l))) [] (cnt l < n ∧ n ≤ 1048577)
  | 0, l => ⟨en13, fun h => absurd h.1 (Nat.not_lt_zero _)⟩
  | n + 1, l => by
    have ih := sCount_n n
    refine Ctr.of_body en13 Tryz.func13 rfl rfl fun hp => (?_); rw [Tryz.ntmps13]
    have hc : cnt l = l.length + kc l := rfl
    (refine vU ?_; with_reducible repeat' first | exact Le.l | refine Sw ?_ ?_ | intro (K : _ → _ → Prop) hK | intro h)
    refine AW.loopV [3, 4] [0] (fun m xs o => ∃ k : Nat, xs = [.v (.int .i64 ((l.length + kc (l.take k) : Nat) : Int)), .v (.int .i64 k)] ∧ o = [] ∧ m = l.length - k ∧ k ≤ l.length) l.length [] trivial ⟨0, ?_, rfl, rfl, ?_⟩ ?_
    · simp [kc]; exact ⟨rfl, rfl⟩
    · omega
    rintro m xs o ⟨k, rfl, rfl, rfl, hk⟩
    have h1 : k < l.length → _ := kc_step (l := l) (k := k)
    have h2 := kc_take l k
    have h3 := kc_take l (k + 1)
    (refine vU ?_; with_reducible repeat' first | exact Le.l | refine Sw ?_ ?_ | intro (K : _ → _ → Prop) hK | intro h)
    · have h4 := h1 h
      exact ⟨_, [_, _], [], by omega, ⟨k + 1, by rw [h4, Nat.add_assoc], rfl, rfl, by omega⟩, rfl, trivial⟩
    · rw [List.take_of_length_le (by omega)]; rfl
instance sCount_i (l : List GNode) : Ctr lim Tryz.prog 13 [] [.sl false 3 (l.map (encNode false))] (.v (.int .i64 (cnt l))) [] (cnt l ≤ 1048576) := ⟨en13, fun h => (sCount_n 1048577 l).out ⟨by omega, by omega⟩⟩
theorem lawFilledIn_B (s : Str) (h0 : ¬ 4096 < s.length) : Ctr lim Tryz.prog 3 [] [.sl false 1 (bytesA s)] (.v (.bool true)) [] True := by
  refine Ctr.of_body en3 Tryz.func3 rfl rfl fun hp => (?_); rw [Tryz.ntmps3]
  have hs : s.length ≤ 4096 := by omega
  (refine vK ?_; with_reducible repeat' first | exact Le.l | refine Sw ?_ ?_ | intro (K : _ → _ → Prop) hK | intro h)
  (refine AW.i rfl (fun h => ?_) (fun h => ?_) <;> try simp only [hC, reduceCtorEq] at h)
  · omega
  (refine vN ?_; with_reducible repeat' first | exact Le.l | refine Sw ?_ ?_ | intro (K : _ → _ → Prop) hK | intro h)
  refine Z ?_
  (refine vN ?_; with_reducible repeat' first | exact Le.l | refine Sw ?_ ?_ | intro (K : _ → _ → Prop) hK | intro h)
  rename_i t l ht
  obtain ⟨ht, hl, hA⟩ := ht
  refine AW.imp (Imp.vpO 3 (b := h) (off := 0) (cells := [.str t.fName, .sl false 6 (t.fParams.map (encParam false)), .sl false 3 (t.fBody.map (encNode false))]) gO gO rfl ?_)
  simp (maxSteps := 2000000) (disch := omega) only [go_sem]
  have hft : wt t.fBody ≤ 1048576 ∧ t.fParams.length ≤ 1048576 ∧ l.length ≤ 1048576 ∧ ArgsOk l := ⟨by omega, by omega, by omega, fun a ha => by have := (hA a ha).2; omega⟩
  have hla := hft.2.2.2
  (refine vN ?_; with_reducible repeat' first | exact Le.l | refine Sw ?_ ?_ | intro (K : _ → _ → Prop) hK | intro h)
  refine Z ?_
  (refine vN ?_; with_reducible repeat' first | exact Le.l | refine Sw ?_ ?_ | intro (K : _ → _ → Prop) hK | intro h)
  refine Z ?_
  (refine vN ?_; with_reducible repeat' first | exact Le.l | refine Sw ?_ ?_ | intro (K : _ → _ → Prop) hK | intro h)
  rename_i b0 tx g
  obtain ⟨hx, hgl, hG⟩ := h
  have hga : ArgsOk g := fun a ha => by have := (hG a ha).2; omega
  refine Z ?_
  (refine vN ?_; with_reducible repeat' first | exact Le.l | refine Sw ?_ ?_ | intro (K : _ → _ → Prop) hK | intro h)
  refine Z ?_
  (refine vN ?_; with_reducible repeat' first | exact Le.l | refine Sw ?_ ?_ | intro (K : _ → _ → Prop) hK | intro h)
  refine AW.imp (Imp.frz 11 ?_)
  refine AW.imp (Imp.frz 5 ?_)
  simp (maxSteps := 2000000) (disch := omega) only [go_sem, frzL_str, encNodeM_frz]
  have hnl := nmL_len tx
  have hfl := flB_all g tx
  (repeat' first | (with_reducible first | refine Z ?_ | refine Y ?_ | (refine hK _ _ ?_; clear hK K) | refine And.intro ?_ ?_ | exact Ct | intro (K : _ → _ → Prop) hK | (refine gI fun hg => ?_; try simp only [hC, reduceCtorEq] at hg; try simp only [hg])) | (refine AW.i rfl (fun h => ?_) (fun h => ?_) <;> try simp only [hC, reduceCtorEq] at h) | ((with_reducible refine E ?_; repeat refine Y ?_); refine eF rfl ?_) | simp (disch := omega) only [go_sem, cond_true] | (with_reducible intro hg; try simp only [hC, reduceCtorEq] at hg) | exact Cl | fail)
  · exfalso
    rcases h with ⟨⟨h1, h2⟩, h3⟩ | ⟨h1, h2⟩
    · have e : nmL (tk tx) = [] := List.eq_nil_of_length_eq_zero (by omega)
      rw [hfl, h1, e] at h3; cases h3
    · rw [hfl, h2] at h1; cases h1
  refine AW.loopV [13, 14] [3, 4, 5, 6, 8, 9, 10, 11, 12] (fun m xs o => ∃ k : Nat, xs = [.v (.bool ((tk tx).2 && ((nmL (tk tx)).take k).all (knO g))), .v (.int .i64 k)] ∧ o = [] ∧ m = (nmL (tk tx)).length - k ∧ k ≤ (nmL (tk tx)).length) (nmL (tk tx)).length [] trivial ⟨0, ?_, rfl, rfl, ?_⟩ ?_
  · simp only [List.take_zero, List.all_nil, Bool.and_true]; rfl
  · omega
  rintro m xs o ⟨k, rfl, rfl, rfl, hk⟩
  (refine vK ?_; with_reducible repeat' first | exact Le.l | refine Sw ?_ ?_ | intro (K : _ → _ → Prop) hK | intro h)
  (refine AW.i rfl (fun h => ?_) (fun h => ?_) <;> try simp only [hC, reduceCtorEq] at h)
  · have hk2 : k < (nmL (tk tx)).length := by simpa using h
    (refine vK ?_; with_reducible repeat' first | exact Le.l | refine Sw ?_ ?_ | intro (K : _ → _ → Prop) hK | intro h)
    refine AW.loopV [15, 16] [3, 4, 5, 6, 8, 9, 10, 11, 12, 13, 14] (fun m xs o => ∃ j : Nat, xs = [.v (.bool ((g.take j).any (argP (at_ (nmL (tk tx)) k)))), .v (.int .i64 j)] ∧ o = [] ∧ m = g.length - j ∧ j ≤ g.length) g.length [] trivial ⟨0, ?_, rfl, rfl, ?_⟩ ?_
    · rfl
    · omega
    rintro m2 xs o ⟨j, rfl, rfl, rfl, hj⟩
    (repeat' first | (with_reducible first | refine Z ?_ | refine Y ?_ | (refine hK _ _ ?_; clear hK K) | refine And.intro ?_ ?_ | exact Ct | intro (K : _ → _ → Prop) hK | (refine gI fun hg => ?_; try simp only [hC, reduceCtorEq] at hg; try simp only [hg])) | (refine AW.i rfl (fun h => ?_) (fun h => ?_) <;> try simp only [hC, reduceCtorEq] at h) | ((with_reducible refine E ?_; repeat refine Y ?_); refine eF rfl ?_) | simp (disch := omega) only [go_sem, cond_true] | (with_reducible intro hg; try simp only [hC, reduceCtorEq] at hg) | exact Cl | fail)
    · exact ⟨_, [_, _], [], by omega, ⟨j + 1, by rw [← any_step h]; rfl, rfl, rfl, by omega⟩, rfl, trivial⟩
    · exact ⟨_, [_, _], [], by omega, ⟨k + 1, by rw [← all_step hk2, ← Bool.and_assoc, List.take_of_length_le (show g.length ≤ j by omega)]; rfl, rfl, rfl, by omega⟩, rfl, trivial⟩
  rw [List.take_of_length_le (show (nmL (tk tx)).length ≤ k by omega), ← hfl]
  (repeat' first | (with_reducible first | refine Z ?_ | refine Y ?_ | (refine hK _ _ ?_; clear hK K) | refine And.intro ?_ ?_ | exact Ct | intro (K : _ → _ → Prop) hK | (refine gI fun hg => ?_; try simp only [hC, reduceCtorEq] at hg; try simp only [hg])) | (refine AW.i rfl (fun h => ?_) (fun h => ?_) <;> try simp only [hC, reduceCtorEq] at h) | ((with_reducible refine E ?_; repeat refine Y ?_); refine eF rfl ?_) | simp (disch := omega) only [go_sem, cond_true] | (with_reducible intro hg; try simp only [hC, reduceCtorEq] at hg) | exact Cl | fail)
  · exfalso
    exact h.2 (by unfold flS; rw [h.1]; rfl)
  have e0 : ((l.length : Int) == (t.fParams.length : Int)) = decide (l.length = t.fParams.length) := by
    rw [Bool.eq_iff_iff]; simp; omega
  rw [e0]
  refine AW.loopV [17, 18] [3, 4, 5, 6] (fun m xs o => ∃ i : Nat, xs = [.v (.bool ((isTemplate isPat t && decide (l.length = t.fParams.length)) && allTo (sOk cvB t.fParams l) i)), .v (.int .i64 i)] ∧ o = [] ∧ m = l.length - i ∧ i ≤ l.length) l.length [] trivial ⟨0, ?_, rfl, rfl, ?_⟩ ?_
  · simp only [allTo, Bool.and_true]; rfl
  · omega
  rintro m xs o ⟨i, rfl, rfl, rfl, hi⟩
  (refine vK ?_; with_reducible repeat' first | exact Le.l | refine Sw ?_ ?_ | intro (K : _ → _ → Prop) hK | intro h)
  (refine AW.i rfl (fun h => ?_) (fun h => ?_) <;> try simp only [hC, reduceCtorEq] at h)
  · have hi2 : i < l.length := by simpa using h
    have hv := (hA _ (at_mem hi2)).2
    (refine vK ?_; with_reducible repeat' first | exact Le.l | refine Sw ?_ ?_ | intro (K : _ → _ → Prop) hK | intro h)
    refine AW.loopV [19, 20] [3, 4, 5, 6, 17, 18] (fun m xs o => ∃ k : Nat, xs = [.v (.bool (smK cvB t.fParams (at_ l i).fName (at_ l i).fValue k)), .v (.int .i64 k)] ∧ o = [] ∧ m = t.fParams.length - k ∧ k ≤ t.fParams.length) t.fParams.length [] trivial ⟨0, ?_, rfl, rfl, ?_⟩ ?_
    · rfl
    · omega
    rintro m2 xs o ⟨k, rfl, rfl, rfl, hk⟩
    (repeat' first | (with_reducible first | refine Z ?_ | refine Y ?_ | (refine hK _ _ ?_; clear hK K) | refine And.intro ?_ ?_ | exact Ct | intro (K : _ → _ → Prop) hK | (refine gI fun hg => ?_; try simp only [hC, reduceCtorEq] at hg; try simp only [hg])) | (refine AW.i rfl (fun h => ?_) (fun h => ?_) <;> try simp only [hC, reduceCtorEq] at h) | ((with_reducible refine E ?_; repeat refine Y ?_); refine eF rfl ?_) | simp (disch := omega) only [go_sem, cond_true] | (with_reducible intro hg; try simp only [hC, reduceCtorEq] at hg) | exact Cl | fail)
    · exact ⟨_, [_, _], [], by omega, ⟨k + 1, by rw [smK, if_pos h], rfl, rfl, by omega⟩, rfl, trivial⟩
    · exact ⟨_, [_, _], [], by omega, ⟨k + 1, by rw [smK, if_neg h], rfl, rfl, by omega⟩, rfl, trivial⟩
    have hkl : k = t.fParams.length := by omega
    rw [hkl]
    refine AW.loopV [19, 21] [3, 4, 5, 6, 17, 18] (fun m xs o => ∃ j : Nat, xs = [.v (.bool (smK cvB t.fParams (at_ l i).fName (at_ l i).fValue t.fParams.length && fst1 l i j)), .v (.int .i64 j)] ∧ o = [] ∧ m = i - j ∧ j ≤ i) i [] trivial ⟨0, ?_, rfl, rfl, ?_⟩ ?_
    · simp only [fst1, List.take_zero, List.all_nil, Bool.and_true]; rfl
    · omega
    rintro m3 xs o ⟨j, rfl, rfl, rfl, hj⟩
    (repeat' first | (with_reducible first | refine Z ?_ | refine Y ?_ | (refine hK _ _ ?_; clear hK K) | refine And.intro ?_ ?_ | exact Ct | intro (K : _ → _ → Prop) hK | (refine gI fun hg => ?_; try simp only [hC, reduceCtorEq] at hg; try simp only [hg])) | (refine AW.i rfl (fun h => ?_) (fun h => ?_) <;> try simp only [hC, reduceCtorEq] at h) | ((with_reducible refine E ?_; repeat refine Y ?_); refine eF rfl ?_) | simp (disch := omega) only [go_sem, cond_true] | (with_reducible intro hg; try simp only [hC, reduceCtorEq] at hg) | exact Cl | fail)
    · exact ⟨_, [_, _], [], by omega, ⟨j + 1, by rw [Bool.and_assoc, fst1_step (by omega)], rfl, rfl, by omega⟩, rfl, trivial⟩
    · exact ⟨_, [_, _], [], by omega, ⟨i + 1, by rw [show j = i by omega, right_step], rfl, rfl, by omega⟩, rfl, trivial⟩
  have hil : i = l.length := by omega
  rw [hil, right_eq]
  have hcb : cnt t.fBody ≤ 1048576 := by have := cnt_le t.fBody; omega
  have hcl : cnt (ftN isPat cvB cvS t l) ≤ 1048576 := by
    unfold ftN
    cases ftOk isPat cvB t l with
    | true => simp only [cond_true, cnt_fill]; exact hcb
    | false => simp [cnt, kc]
  have hz := ftC_zero (ip := isPat) (cb := cvB) (t := t) (l := l)
  cases hk3 : ftOk isPat cvB t l with
  | true =>
    have hc0 : ftC isPat cvB t l = 0 := by rw [hk3] at hz; simpa using hz
    have hce : cnt (ftN isPat cvB cvS t l) = cnt t.fBody := by unfold ftN; rw [hk3, cond_true, cnt_fill]
    rw [hc0]
    (repeat' first | (with_reducible first | refine Z ?_ | refine Y ?_ | (refine hK _ _ ?_; clear hK K) | refine And.intro ?_ ?_ | exact Ct | intro (K : _ → _ → Prop) hK | (refine gI fun hg => ?_; try simp only [hC, reduceCtorEq] at hg; try simp only [hg])) | (refine AW.i rfl (fun h => ?_) (fun h => ?_) <;> try simp only [hC, reduceCtorEq] at h) | ((with_reducible refine E ?_; repeat refine Y ?_); refine eF rfl ?_) | simp (disch := omega) only [go_sem, hce] | (with_reducible intro hg; try simp only [hC, reduceCtorEq] at hg) | exact Cl | fail)
  | false =>
    rw [hk3] at hz
    (repeat' first | (with_reducible first | refine Z ?_ | refine Y ?_ | (refine hK _ _ ?_; clear hK K) | refine And.intro ?_ ?_ | exact Ct | intro (K : _ → _ → Prop) hK | (refine gI fun hg => ?_; try simp only [hC, reduceCtorEq] at hg; try simp only [hg])) | (refine AW.i rfl (fun h => ?_) (fun h => ?_) <;> try simp only [hC, reduceCtorEq] at h) | ((with_reducible refine E ?_; repeat refine Y ?_); refine eF rfl ?_) | simp (disch := omega) only [go_sem, hz] | (with_reducible intro hg; try simp only [hC, reduceCtorEq] at hg) | exact Cl | fail)
end Go.Proofs.YtfglembdjbhanaaGreatDoor
