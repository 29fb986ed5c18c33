/-
  Part of a proof: La8, Cv1, Ft4.
-/
import Derived.Test.YtfglembdjbhanaaGreatDoorG17
import Derived.Test.YtfglembdjbhanaaGreatDoorG18
import Derived.Test.YtfglembdjbhanaaGreatDoorG25
import Derived.Test.YtfglembdjbhanaaGreatDoorG29
import Derived.Test.YtfglembdjbhanaaGreatDoorG30
import Derived.Test.YtfglembdjbhanaaGreatDoorG35
import Derived.Test.YtfglembdjbhanaaGreatDoorG37
import Derived.Test.YtfglembdjbhanaaGreatDoorG38
set_option linter.unusedSimpArgs false
set_option linter.unusedVariables false
namespace Go.Ab
theorem CallP.low {L : Nat → Nat} {P : Program} {os : Sto} {la : List AV} {G : Bool} {f : FuncId} {args : List AV} {K : AV → Prop} {res : AV} {cs : List (Option (List AV))} {pre : Prop} [h : Ctr L P f [] la res cs pre] (hl : LowL os args la) (hc : res.closed = true) (hp : G = true → pre) (hK : K res) : CallP L P os la G f args (K := ⟨K⟩) :=
  ⟨res, fun hg => ⟨h.en, .inr ⟨la, hl, hc, h.pure (hp hg)⟩⟩, hK⟩
end Go.Ab
namespace Go.Proofs.YtfglembdjbhanaaGreatDoor
open Go.Ab Go.Dt
set_option maxRecDepth 20000
set_option maxHeartbeats 4000000
attribute [go_sem] encParamM_frz encNodeM_frz
instance iIsType_i (x : GType) : Ctr lim Tryz.prog 74 [] [.agg [.v (.int .i64 x.fKind), .sl false 2 (x.fRanges.map (encRange false)), .sl false 1 (x.fNames.map AV.str), .str x.fPattern, .str x.fPath]] (.v (.bool (isType isPat x))) [] True := iIsType_t isPat x
instance sIsType_i (x : GType) : Ctr lim Tryz.prog 48 [] [.agg [.v (.int .i64 x.fKind), .sl false 2 (x.fRanges.map (encRange false)), .sl false 1 (x.fNames.map AV.str), .str x.fPattern, .str x.fPath]] (.v (.bool (isType isPat x))) [] True := sIsType_t isPat x
instance iIsTemplate_i (x : GTemplate) : Ctr lim Tryz.prog 30 [] [.agg [.str x.fName, .sl false 6 (x.fParams.map (encParam false)), .sl false 3 (x.fBody.map (encNode false))]] (.v (.bool (isTemplate isPat x))) [] (wt x.fBody ≤ 1048576 ∧ x.fParams.length ≤ 1048576) := iIsTemplate_t isPat x
instance sIsTemplate_i (x : GTemplate) : Ctr lim Tryz.prog 11 [] [.agg [.str x.fName, .sl false 6 (x.fParams.map (encParam false)), .sl false 3 (x.fBody.map (encNode false))]] (.v (.bool (isTemplate isPat x))) [] (wt x.fBody ≤ 1048576 ∧ x.fParams.length ≤ 1048576) := sIsTemplate_t isPat x

theorem fitTm {x : GTemplate} (h : ¬ szTemplate x 1048576 < 0) : wt x.fBody ≤ 1048576 ∧ x.fParams.length ≤ 1048576 := by
  have h := Int.not_lt.1 h
  unfold szTemplate at h
  obtain ⟨a0, h⟩ := thn_get h
  obtain ⟨a1, h⟩ := thn_get h
  obtain ⟨a2, h⟩ := thn_get h
  have a0' : szStr x.fName 1048576 ≤ 1048576 := szStr_le _ _ (by omega)
  have e2 := szSl_le szParam szParam_le x.fParams _ a0
  have e3 := wt_fit a1 a2
  refine ⟨by omega, ?_⟩
  rcases Int.lt_or_le (szStr x.fName 1048576 - x.fParams.length) 0 with h4 | h4
  · rw [szSl_neg h4] at a1; omega
  · omega
end Go.Proofs.YtfglembdjbhanaaGreatDoor
namespace Go.Dt
open Go.Ab
def cvB (x : GType) (s : Str) : Bool := isType isPat x && cvO mtchT x s
def cvS (x : GType) (s : Str) : Str := bif cvB x s then cvT x s else []
theorem cv_no {x : GType} {s : Str} (h : cvB x s = false) : AV.tup [.str [], .v (.bool false)] = .tup [.str (cvS x s), .v (.bool (cvB x s))] := by rw [cvS, h]; rfl
theorem cv_yes {x : GType} {s t : Str} (h : cvB x s = true) (e : cvT x s = t) : AV.tup [.str t, .v (.bool true)] = .tup [.str (cvS x s), .v (.bool (cvB x s))] := by rw [cvS, h, ← e]; rfl
theorem cont_step {l : List Str} {k : Nat} {s : Str} (h : k < l.length) : (cont (l.take k) s || at_ l k == s) = cont (l.take (k + 1)) s := by
  have e : l.take (k + 1) = l.take k ++ [at_ l k] := by
    rw [List.take_succ_eq_append_getElem h]
    unfold at_; rw [List.getElem?_eq_getElem h]; rfl
  rw [Bool.eq_iff_iff, Bool.or_eq_true, cont_iff, cont_iff, e]
  rw [List.mem_append, List.mem_singleton, beq_iff_eq, eq_comm (a := at_ l k)]
end Go.Dt
namespace Go.Proofs.YtfglembdjbhanaaGreatDoor
open Go.Ab Go.Dt
set_option maxRecDepth 20000
set_option maxHeartbeats 4000000
instance iCanonValue_i (x : GType) (s : Str) : Ctr lim Tryz.prog 36 [] [.agg [.v (.int .i64 x.fKind), .sl false 2 (x.fRanges.map (encRange false)), .sl false 1 (x.fNames.map AV.str), .str x.fPattern, .str x.fPath], .str s] (.tup [.str (cvS x s), .v (.bool (cvB x s))]) [] (s.length ≤ 1048576) := by
  have hr := read_le s
  refine Ctr.of_body en36 Tryz.func36 rfl rfl fun hp => (?_); rw [Tryz.ntmps36]
  (repeat' first | (with_reducible first | refine Z ?_ | refine Y ?_ | (refine hK _ _ ?_; clear hK K) | refine And.intro ?_ ?_ | exact Ct | intro (K : _ → _ → Prop) hK | (refine gI fun hg => ?_; try simp only [hC, reduceCtorEq] at hg; try simp only [hg])) | (refine AW.i rfl (fun h => ?_) (fun h => ?_) <;> try simp only [hC, reduceCtorEq] at h) | ((with_reducible refine E ?_; repeat refine Y ?_); refine eF rfl ?_) | simp (disch := omega) only [go_sem, cond_true] | (with_reducible intro hg; try simp only [hC, reduceCtorEq] at hg) | exact Cl | fail)
  all_goals try first | (refine cv_no ?_; simp_all [cvB, cvO, boolS, trueS, falseS]; done) | (refine cv_yes ?_ ?_ <;> simp_all [cvB, cvO, cvT, boolS, trueS, falseS]; done)
  all_goals trace_state
instance sCanonValue_i (x : GType) (s : Str) : Ctr lim Tryz.prog 12 [] [.agg [.v (.int .i64 x.fKind), .sl false 2 (x.fRanges.map (encRange false)), .sl false 1 (x.fNames.map AV.str), .str x.fPattern, .str x.fPath], .str s] (.tup [.str (cvS x s), .v (.bool (cvB x s))]) [] (s.length ≤ 1048576) := by
  have hr := read_le s
  refine Ctr.of_body en12 Tryz.func12 rfl rfl fun hp => (?_); rw [Tryz.ntmps12]
  (repeat' first | (with_reducible first | refine Z ?_ | refine Y ?_ | (refine hK _ _ ?_; clear hK K) | refine And.intro ?_ ?_ | exact Ct | intro (K : _ → _ → Prop) hK | (refine gI fun hg => ?_; try simp only [hC, reduceCtorEq] at hg; try simp only [hg])) | (refine AW.i rfl (fun h => ?_) (fun h => ?_) <;> try simp only [hC, reduceCtorEq] at h) | ((with_reducible refine E ?_; repeat refine Y ?_); refine eF rfl ?_) | simp (disch := omega) only [go_sem, cond_true] | (with_reducible intro hg; try simp only [hC, reduceCtorEq] at hg) | exact Cl | fail)
  all_goals try first | (refine cv_no ?_; cases e : isType isPat x <;> simp_all [cvB, cvO, boolS, trueS, falseS]; done) | (refine cv_yes ?_ ?_ <;> simp_all [cvB, cvO, cvT, boolS, trueS, falseS]; done)
  refine AW.fact 0 fun hf => ?_
  simp (disch := omega) only [go_sem, Nat.reduceBEq] at hf
  refine AW.loopV [7, 10] [1, 2, 6] (fun m xs o => ∃ k : Nat, xs = [.v (.bool (cont (x.fNames.take k) s)), .v (.int .i64 k)] ∧ o = [] ∧ m = x.fNames.length - k ∧ k ≤ x.fNames.length) x.fNames.length [] trivial ⟨0, ?_, rfl, rfl, ?_⟩ ?_
  · rfl
  · omega
  rintro m xs o ⟨k, rfl, rfl, rfl, hk⟩
  (repeat' first | (with_reducible first | refine Z ?_ | refine Y ?_ | (refine hK _ _ ?_; clear hK K) | refine And.intro ?_ ?_ | exact Ct | intro (K : _ → _ → Prop) hK | (refine gI fun hg => ?_; try simp only [hC, reduceCtorEq] at hg; try simp only [hg])) | (refine AW.i rfl (fun h => ?_) (fun h => ?_) <;> try simp only [hC, reduceCtorEq] at h) | ((with_reducible refine E ?_; repeat refine Y ?_); refine eF rfl ?_) | simp (disch := omega) only [go_sem, cond_true] | (with_reducible intro hg; try simp only [hC, reduceCtorEq] at hg) | exact Cl | fail)
  · exact ⟨_, [_, _], [], by omega, ⟨k + 1, rfl, rfl, rfl, by omega⟩, by rw [cont_step (by assumption)]; rfl, trivial⟩
  · rw [List.take_of_length_le (by omega)] at h
    refine cv_no ?_
    cases e : isType isPat x <;> simp_all [cvB, cvO]
  · rw [List.take_of_length_le (by omega)] at h
    refine cv_yes ?_ ?_ <;> simp_all [cvB, cvO, cvT]
  · refine cv_no ?_
    cases e : isType isPat x <;> by_cases e2 : s = [] <;> simp_all [cvB, cvO]
end Go.Proofs.YtfglembdjbhanaaGreatDoor
namespace Go.Dt
open Go.Ab
theorem dg_pow : ∀ (k u : Nat), u < 10 ^ k → (dg u).length ≤ k
  | 0, u, h => by
    have : u = 0 := by simpa using h
    subst this; simp [dg]
  | k + 1, u, h => by
    by_cases e : u = 0
    · subst e; simp [dg]
    · rw [dg_step e, List.length_append]
      have := dg_pow k (u / 10) (by rw [Nat.pow_succ] at h; omega)
      simp only [List.length_singleton]; omega
theorem itoa_le {n : Int} (h : -1000000000 ≤ n ∧ n ≤ 1000000000) : (Lib.itoa n).length ≤ 11 := by
  by_cases e : n = 0
  · subst e; rw [itoa_zero]; simp
  · rw [itoa_dg e]
    have := dg_pow 10 n.natAbs (by omega)
    split
    · simp only [List.length_cons]; omega
    · omega
theorem cvS_le (x : GType) (s : Str) (h : s.length ≤ 1048576) : (cvS x s).length ≤ 1048576 := by
  have h1 := itoa_le (read_le s)
  unfold cvS
  cases cvB x s with
  | false => simp
  | true =>
    simp only [cond_true]
    unfold cvT boolS
    repeat' split
    all_goals first | omega | (simp [trueS, falseS])
end Go.Dt
namespace Go.Proofs.YtfglembdjbhanaaGreatDoor
open Go.Ab Go.Dt
instance iFillTemplate_i (t : GTemplate) (l : List GArg) : Ctr lim Tryz.prog 7 [] [.agg [.str t.fName, .sl false 6 (t.fParams.map (encParam false)), .sl false 3 (t.fBody.map (encNode false))], .sl false 2 (l.map (encArg false))] (.tup [.sl true 3 ((ftN isPat cvB cvS t l).map (encNode true)), .v (.int .i64 (ftC isPat cvB t l))]) [] (wt t.fBody ≤ 1048576 ∧ t.fParams.length ≤ 1048576 ∧ l.length ≤ 1048576 ∧ ArgsOk l) :=
  iFillTemplate_t isPat cvB cvS t l cvS_le (fun _ => inferInstance) (fun _ _ => inferInstance)
instance sFillTemplate_i (t : GTemplate) (l : List GArg) : Ctr lim Tryz.prog 16 [] [.agg [.str t.fName, .sl false 6 (t.fParams.map (encParam false)), .sl false 3 (t.fBody.map (encNode false))], .sl false 2 (l.map (encArg false))] (.tup [.sl true 3 ((ftN isPat cvB cvS t l).map (encNode true)), .v (.int .i64 (ftC isPat cvB t l))]) [] (wt t.fBody ≤ 1048576 ∧ t.fParams.length ≤ 1048576 ∧ l.length ≤ 1048576 ∧ ArgsOk l) :=
  sFillTemplate_t isPat cvB cvS t l cvS_le (fun _ => inferInstance) (fun _ _ => inferInstance)
end Go.Proofs.YtfglembdjbhanaaGreatDoor
