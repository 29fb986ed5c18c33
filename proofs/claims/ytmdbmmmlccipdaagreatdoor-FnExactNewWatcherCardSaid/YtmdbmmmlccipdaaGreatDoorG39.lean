/-
  Part of a proof: Tn3, Ct1.
-/
import Derived.Test.YtmdbmmmlccipdaaGreatDoorG17
import Derived.Test.YtmdbmmmlccipdaaGreatDoorG18
import Derived.Test.YtmdbmmmlccipdaaGreatDoorG19
import Derived.Test.YtmdbmmmlccipdaaGreatDoorG34
import Derived.Test.YtmdbmmmlccipdaaGreatDoorG37
import Derived.Test.YtmdbmmmlccipdaaGreatDoorG38
set_option linter.unusedSimpArgs false
set_option linter.unusedVariables false
namespace Go.Proofs.YtmdbmmmlccipdaaGreatDoor
open Go.Ab Go.Dt
set_option maxRecDepth 20000
set_option maxHeartbeats 4000000
attribute [-instance] iDataKids_i
attribute [local go_sem] frzL_str encSchemaM_frz encNodeM_frz schAll schOne nms_idx schF nodF

theorem iRightN_n (n : Nat) (ih : ∀ (s : List GSchema) (l : List GNode), Ctr lim Tryz.prog 108 [] [.sl false 19 (s.map (encSchema false)), .sl false 3 (l.map (encNode false))] (.v (.bool (okL (dk s) none l))) [] (SizeOf.sizeOf l < n ∧ wtS s ≤ 1048576 ∧ wt l ≤ 1048576)) (c : GSchema) (x : GNode) : Ctr lim Tryz.prog 159 [] [.agg [.v (.int .i64 c.fKind), .str c.fName, .v (.int .i64 c.fType.fKind), .sl false 2 (c.fType.fRanges.map (encRange false)), .sl false 1 (c.fType.fNames.map AV.str), .str c.fType.fPattern, .str c.fType.fPath, .sl false 1 (c.fKeys.map AV.str), .sl false 1 (c.fUnique.map AV.str), .str c.fDefault, .v (.bool c.fGiven), .v (.bool c.fNeeded), .v (.bool c.fPresent), .v (.bool c.fFixed), .v (.int .i64 c.fMin), .v (.int .i64 c.fMax), .sl false 7 (c.fWhen.map (encExpr false)), .sl false 7 (c.fMust.map (encExpr false)), .sl false 19 (c.fKids.map (encSchema false))], .agg [.str x.fName, .str x.fValue, .sl false 3 (x.fKids.map (encNode false))]] (.v (.bool (okN c x))) [] (isDataK c.fKind = true ∧ SizeOf.sizeOf x.fKids < n ∧ wtS c.fKids ≤ 1048576 ∧ wt x.fKids ≤ 1048576 ∧ x.fValue.length ≤ 1048576) := by
  refine Ctr.of_body en159 Tryz.func159 rfl rfl fun hp => (?_); rw [Tryz.ntmps159]
  have gOn := GrOn.on
  obtain ⟨h1, h2, h3, h4, h5⟩ := hp
  (refine vU ?_; with_reducible repeat' first | exact Le.l | refine Sw ?_ ?_ | intro h)
  all_goals refine congrArg (fun b => AV.v (.bool b)) ?_
  · rw [okN, if_pos (by omega), len_z]
  · rw [okN, if_pos (by omega), len_z]
  · rw [okN, if_neg (by omega), if_neg (by omega), decP, len_p, emp_beq, Bool.and_right_comm]
  · have : c.fKind = 2 := by rw [isDataK] at h1; simp at h1; omega
    rw [okN, if_neg (by omega), if_pos this, emp_beq]
theorem iRight_n : ∀ (n : Nat) (s : List GSchema) (l : List GNode), Ctr lim Tryz.prog 108 [] [.sl false 19 (s.map (encSchema false)), .sl false 3 (l.map (encNode false))] (.v (.bool (okL (dk s) none l))) [] (SizeOf.sizeOf l < n ∧ wtS s ≤ 1048576 ∧ wt l ≤ 1048576)
  | 0, _, l => ⟨en108, fun h => absurd h.1 (Nat.not_lt_zero _)⟩
  | n + 1, s, l => by
    have ih := iRightN_n n (iRight_n n)
    refine Ctr.of_body en108 Tryz.func108 rfl rfl fun hp => (?_); rw [Tryz.ntmps108]
    have gOn := GrOn.on
    obtain ⟨hs, hb, hv⟩ := hp
    have hc := cnt_wtS s
    refine AW.fact 1 fun hf => ?_
    simp (disch := omega) only [go_sem] at hf
    (refine vU ?_; with_reducible repeat' first | exact Le.l | refine Sw ?_ ?_ | intro h)
    refine AW.loopV [7, 18] [1, 5, 6, 16, 17] (fun m xs o => ∃ k : Nat, xs = [.v (.int .i64 (lastI (dk s) l k)), .v (.int .i64 k)] ∧ o = [] ∧ m = l.length - k ∧ k ≤ l.length ∧ okL (dk s) (prv l k) (l.drop k) = okL (dk s) none l) l.length [] trivial ⟨0, ?_, rfl, rfl, ?_, rfl⟩ ?_
    · rfl
    · omega
    rintro m xs o ⟨k, rfl, rfl, rfl, hk, hR⟩
    (refine vK ?_; with_reducible repeat' first | exact Le.l | refine Sw ?_ ?_ | intro h)
    (refine AW.i rfl (fun h => ?_) (fun h => ?_) <;> try simp only [hC, reduceCtorEq] at h)
    · have hw := wt_kid (l := l) h
      have hsz := GNode.kids_lt (at_mem h)
      have hkx := fun hq => dk_data _ _ (idx_hit (p := nmP (at_ l k).fName) (l := dk s) hq).2.2
      have hkv := fun hq => dk_wt _ _ (idx_hit (p := nmP (at_ l k).fName) (l := dk s) hq).2.2
      have hkz := idx_lt (p := nmP (at_ l k).fName) (dk s)
      have hl1 := lastI_ge (d := dk s) (l := l) (k := k)
      have hl2 := lastI_lt (d := dk s) (l := l) (k := k)
      have hl0 : k = 0 → lastI (dk s) l k = -1 := fun e => by subst e; rfl
      (refine vU ?_; with_reducible repeat' first | exact Le.l | refine Sw ?_ ?_ | intro h)
      · rw [← hR, okL_bad (by assumption) h]
      · rw [← hR, okL_bad2 (by assumption) (by omega) h]
      · exact ⟨_, [_, _], [], by omega, ⟨k + 1, rfl, rfl, rfl, by omega, by rw [← hR, okL_good (by assumption) (by omega) (by omega) h.1 h.2]⟩, rfl, by simp (maxSteps := 2000000) (disch := omega) only [go_sem]⟩
    · (refine vU ?_; with_reducible repeat' first | exact Le.l | refine Sw ?_ ?_ | intro h)
      rw [← hR, drop_end h, okL]

end Go.Proofs.YtmdbmmmlccipdaaGreatDoor
namespace Go.Dt
open Go Go.Ab
/-- what the program cuts out of the kids of a node -/
def cutK (n : GSchema) (cs : List Str) (k : GNode) : List GNode := if cont n.fKeys k.fName = true then [k] else cutX cs n.fKids k
theorem cutK_le (n : GSchema) (cs : List Str) (k : GNode) : (cutK n cs k).length ≤ 1 := by
  unfold cutK; split
  · simp
  · exact cutX_le _ _ _
section
variable {s : List GSchema} {x : GNode} {c : Str} {cs : List Str}
theorem cut_nil (l : List GNode) : l.flatMap (cutX [] s) = l := by
  rw [show cutX [] s = fun x => [x] from funext fun x => by rw [cutX]]; exact flat_one
theorem cutX_ne (h0 : ¬ (cs.length : Int) = 0) (h : ¬ x.fName = at_ cs 0) : cutX cs s x = [] := by
  cases cs with
  | nil => simp at h0
  | cons c cs => rw [cutX, if_neg (show ¬ x.fName = c from h)]
theorem cutX_one (h1 : (cs.length : Int) = 1) (h : x.fName = at_ cs 0) : cutX cs s x = [x] := by
  cases cs with
  | nil => simp at h1
  | cons c cs =>
    have : cs = [] := List.length_eq_zero_iff.1 (by simp at h1; omega)
    subst this
    rw [cutX, if_pos (show x.fName = c from h), if_pos rfl]
theorem cutX_leaf (h0 : ¬ (cs.length : Int) = 0) (h1 : ¬ (cs.length : Int) = 1) (h : x.fName = at_ cs 0) (h2 : ¬ ((at_ (dk s) (idx (nmP x.fName) (dk s)).toNat).fKind = 1 ∨ (at_ (dk s) (idx (nmP x.fName) (dk s)).toNat).fKind = 2)) : cutX cs s x = [] := by
  cases cs with
  | nil => simp at h0
  | cons c cs =>
    have : ¬ cs = [] := fun e => h1 (by rw [e]; try rfl)
    simp only [cutX]; rw [if_pos (show x.fName = c from h), if_neg this, if_neg h2]
theorem cutX_kids (h0 : ¬ (cs.length : Int) = 0) (h1 : ¬ (cs.length : Int) = 1) (h : x.fName = at_ cs 0) (h2 : (at_ (dk s) (idx (nmP x.fName) (dk s)).toNat).fKind = 1 ∨ (at_ (dk s) (idx (nmP x.fName) (dk s)).toNat).fKind = 2) : cutX cs s x = if (at_ (dk s) (idx (nmP x.fName) (dk s)).toNat).fKind = 1 ∧ (at_ (dk s) (idx (nmP x.fName) (dk s)).toNat).fPresent = false ∧ x.fKids.flatMap (cutK (at_ (dk s) (idx (nmP x.fName) (dk s)).toNat) (cs.drop 1)) = [] then [] else [.mk x.fName [] (x.fKids.flatMap (cutK (at_ (dk s) (idx (nmP x.fName) (dk s)).toNat) (cs.drop 1)))] := by
  cases cs with
  | nil => simp at h0
  | cons c cs =>
    have : ¬ cs = [] := fun e => h1 (by rw [e]; try rfl)
    simp only [cutX]; rw [if_pos (show x.fName = c from h), if_neg this, if_pos h2]; try rfl
end
end Go.Dt
