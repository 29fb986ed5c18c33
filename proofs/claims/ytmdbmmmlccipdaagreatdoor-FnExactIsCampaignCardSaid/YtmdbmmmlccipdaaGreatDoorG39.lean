/-
  Part of a proof: ScD, ScE, Pl1, Ct0.
-/
import Derived.Test.YtmdbmmmlccipdaaGreatDoorG14
import Derived.Test.YtmdbmmmlccipdaaGreatDoorG28
import Derived.Test.YtmdbmmmlccipdaaGreatDoorG30
import Derived.Test.YtmdbmmmlccipdaaGreatDoorG33
import Derived.Test.YtmdbmmmlccipdaaGreatDoorG34
import Derived.Test.YtmdbmmmlccipdaaGreatDoorG36
import Derived.Test.YtmdbmmmlccipdaaGreatDoorG38
set_option linter.unusedSimpArgs false
set_option linter.unusedVariables false
namespace Go.Proofs.YtmdbmmmlccipdaaGreatDoor
open Go.Ab Go.Dt
set_option maxRecDepth 20000
set_option maxHeartbeats 4000000
attribute [local go_sem] frzL_str encSchemaM_frz schAll schOne
theorem kT_own {l : List GSchema} {k : Nat} (h : k < l.length) (e : ¬ idx (nmP (at_ l k).fName) l = k) (kind : Int) (fr : Bool) (p : Nat) : kT l kind fr p = false := by
  rw [kT, own_no h e]; try rfl
theorem kT_dat {l : List GSchema} {k : Nat} (h : k < (dk l).length) (e : ¬ idx (nmP (at_ (dk l) k).fName) (dk l) = k) (kind : Int) (fr : Bool) (p : Nat) : kT l kind fr p = false := by
  rw [kT, own_no h e]; simp
theorem kT_kids {l : List GSchema} {k : Nat} {kind : Int} {fr : Bool} {p : Nat} (h : kS (l.drop k) kind fr p = false) (e : kS (l.drop k) kind fr p = kS l kind fr p) : kT l kind fr p = false := by
  rw [kT, ← e, h]; simp
theorem own_all {l : List GSchema} (h : ∀ k < l.length, idx (nmP (at_ l k).fName) l = k) : diffs (nmS l) = true := by
  have : ∀ n, n ≤ l.length → allTo (fun j => !cont ((nmS l).take j) (at_ (nmS l) j)) n = true := by
    intro n
    induction n with
    | zero => intro _; rfl
    | succ n ih =>
      intro hn
      exact allTo_step (ih (by omega)) (by rw [(own_iff (by omega)).1 (h n (by omega))]; try rfl)
  rw [diffs, nmS, List.length_map, ← nmS]
  exact this _ (Nat.le_refl _)
theorem kT_end {l : List GSchema} {kind : Int} {fr : Bool} {p : Nat} (h1 : ∀ k < l.length, idx (nmP (at_ l k).fName) l = k) (h2 : ∀ k < (dk l).length, idx (nmP (at_ (dk l) k).fName) (dk l) = k) (h3 : kS l kind fr p = true) : kT l kind fr p = (decide (p ≤ 8) || l.isEmpty) := by
  rw [kT, own_all h1, own_all h2, h3]; simp
theorem own_step {P : Nat → Prop} {k : Nat} (h : ∀ j < k, P j) (e : P k) : ∀ j < k + 1, P j := fun j hj => by
  rcases Nat.lt_or_ge j k with q | q
  · exact h j q
  · rw [show j = k by omega]; exact e
theorem sKids_n : ∀ (n : Nat) (l : List GSchema) (kind : Int) (fr : Bool) (p : Nat), Ctr lim Tryz.prog 112 [] [.sl false 19 (l.map (encSchema false)), .v (.int .i64 kind), .v (.bool fr), .v (.int .i64 p)] (.v (.bool (kT l kind fr p))) [] (SizeOf.sizeOf l < n ∧ wtS l ≤ 1048576 ∧ p + depS l ≤ 2097152)
  | 0, l, _, _, _ => ⟨en112, fun h => absurd h.1 (Nat.not_lt_zero _)⟩
  | n + 1, l, kind, fr, p => by
    have ih := sKids_n n
    refine Ctr.of_body en112 Tryz.func112 rfl rfl fun hp => (?_); rw [Tryz.ntmps112]
    have gOn := GrOn.on
    obtain ⟨hs, hb, hq⟩ := hp
    have hc := cnt_wtS l
    have hdl := dk_len l
    refine AW.fact 0 fun hf => ?_
    simp (disch := omega) only [go_sem] at hf
    (refine vU ?_; with_reducible repeat' first | exact Le.l | refine Sw ?_ ?_ | intro h)
    refine AW.loopV [10] [0, 1, 2, 3, 9] (fun m xs o => ∃ k : Nat, xs = [.v (.int .i64 k)] ∧ o = [] ∧ m = l.length - k ∧ k ≤ l.length ∧ (∀ j < k, idx (nmP (at_ l j).fName) l = j) ∧ kS (l.drop k) kind fr p = kS l kind fr p) l.length [] trivial ⟨0, ?_, rfl, rfl, ?_, ?_, rfl⟩ ?_
    · rfl
    · omega
    · intro j hj; omega
    rintro m xs o ⟨k, rfl, rfl, rfl, hk, hW, hR⟩
    have hi := idx_ge (nmP (at_ l k).fName) l
    have hj := idx_lt (p := nmP (at_ l k).fName) l
    (refine vK ?_; with_reducible repeat' first | exact Le.l | refine Sw ?_ ?_ | intro h)
    (refine AW.i rfl (fun h => ?_) (fun h => ?_) <;> try simp only [hC, reduceCtorEq] at h)
    · have hw := wtS_kid (at_mem h)
      have hsz := GSchema.kids_lt (at_mem h)
      have hS := kS_at h kind fr p
      have hdp := depS_kid (at_mem h)
      (refine vU ?_; with_reducible repeat' first | exact Le.l | refine Sw ?_ ?_ | intro h)
      · simp only [len_z] at h
        simp only [bne, beq_dec] at h
        rcases h with ((h | h) | h) | h
        · rw [kT_own (by assumption) h]
        · rw [kT_kids (k := k) (by rw [hS]; grind) hR]
        · rw [kT_kids (k := k) (by rw [hS, h]; simp) hR]
        · rw [kT_kids (k := k) (by rw [hS, h]; simp) hR]
      · simp only [len_z] at h
        simp only [bne, beq_dec] at h
        refine ⟨_, [_], [], by omega, ⟨k + 1, rfl, rfl, rfl, by omega, own_step hW h.1.1.1, ?_⟩, rfl, trivial⟩
        rw [← hR, hS]; grind
    · (refine vU ?_; with_reducible repeat' first | exact Le.l | refine Sw ?_ ?_ | intro h)
      refine AW.loopV [12] [0, 3, 9] (fun m xs o => ∃ k : Nat, xs = [.v (.int .i64 k)] ∧ o = [] ∧ m = (dk l).length - k ∧ k ≤ (dk l).length ∧ (∀ j < k, idx (nmP (at_ (dk l) j).fName) (dk l) = j)) (dk l).length [] trivial ⟨0, ?_, rfl, rfl, ?_, ?_⟩ ?_
      · rfl
      · omega
      · intro j hj; omega
      rintro m xs o ⟨i, rfl, rfl, rfl, hi, hV⟩
      (refine vU ?_; with_reducible repeat' first | exact Le.l | refine Sw ?_ ?_ | intro h)
      · rw [kT_dat (by assumption) h]
      · exact ⟨_, [_], [], by omega, ⟨i + 1, rfl, rfl, rfl, by omega, own_step hV h⟩, rfl, trivial⟩
      · rw [kT_end (fun j hj => hW j (by omega)) (fun j hj => hV j (by omega)) (by rw [← hR, drop_end (by assumption), kS]), len_z, show decide ((p : Int) ≤ 8) = decide (p ≤ 8) from decide_eq_decide.2 (by omega)]

end Go.Proofs.YtmdbmmmlccipdaaGreatDoor
namespace Go.Proofs.YtmdbmmmlccipdaaGreatDoor
open Go.Ab Go.Dt
set_option maxRecDepth 20000
set_option maxHeartbeats 4000000
instance iKids_i (l : List GSchema) (kind : Int) (bd : Bool) : Ctr lim Tryz.prog 155 [] [.sl false 19 (l.map (encSchema false)), .v (.int .i64 kind), .v (.bool bd)] (.v (.bool (kR l kind bd))) [] (wtS l ≤ 1048576) := ⟨en155, fun h => (iKids_n (SizeOf.sizeOf l + 1) l kind bd).out ⟨Nat.lt_succ_self _, h⟩⟩
instance sKids_i (l : List GSchema) (kind : Int) (fr : Bool) : Ctr lim Tryz.prog 112 [] [.sl false 19 (l.map (encSchema false)), .v (.int .i64 kind), .v (.bool fr), .v (.int .i64 1)] (.v (.bool (kT l kind fr 1))) [] (wtS l ≤ 1048576) := ⟨en112, fun h => (sKids_n (SizeOf.sizeOf l + 1) l kind fr 1).out ⟨Nat.lt_succ_self _, h, by have := dep_wtS l; omega⟩⟩
instance iIsSchema_i (l : List GSchema) : Ctr lim Tryz.prog 106 [] [.sl false 19 (l.map (encSchema false))] (.v (.bool (isSchema l))) [] (wtS l ≤ 1048576) := by
  refine Ctr.of_body en106 Tryz.func106 rfl rfl fun hp => (?_); rw [Tryz.ntmps106]
  have gOn := GrOn.on
  have h1 := cnt_wtS l
  have h2 := dep_wtS l
  (refine vU ?_; with_reducible repeat' first | exact Le.l | refine Sw ?_ ?_ | intro h)
  refine congrArg (fun b => AV.v (.bool b)) ?_
  rw [isSchema, show decide ((cntS l : Int) ≤ 60) = decide (cntS l ≤ 60) from decide_eq_decide.2 (by omega), show decide ((depS l : Int) ≤ 8) = decide (depS l ≤ 8) from decide_eq_decide.2 (by omega)]
instance sIsSchema_i (l : List GSchema) : Ctr lim Tryz.prog 56 [] [.sl false 19 (l.map (encSchema false))] (.v (.bool (isSchema l))) [] (wtS l ≤ 1048576) := by
  refine Ctr.of_body en56 Tryz.func56 rfl rfl fun hp => (?_); rw [Tryz.ntmps56]
  have gOn := GrOn.on
  have h1 := cnt_wtS l
  (refine vU ?_; with_reducible repeat' first | exact Le.l | refine Sw ?_ ?_ | intro h)
  rw [isSchema_spec]

end Go.Proofs.YtmdbmmmlccipdaaGreatDoor
namespace Go.Proofs.YtmdbmmmlccipdaaGreatDoor
open Go.Ab Go.Dt
set_option maxRecDepth 20000
set_option maxHeartbeats 4000000

end Go.Proofs.YtmdbmmmlccipdaaGreatDoor
namespace Go.Dt
open Go Go.Ab
/-- what the program cuts out of one node -/
def cutX : List Str → List GSchema → GNode → List GNode
  | [], _, x => [x]
  | c :: cs, s, x =>
    if x.fName = c then
      (if cs = [] then [x] else
        (let n := at_ (dk s) (idx (nmP x.fName) (dk s)).toNat
         if n.fKind = 1 ∨ n.fKind = 2 then
          (let kids := x.fKids.flatMap fun k => if cont n.fKeys k.fName = true then [k] else cutX cs n.fKids k
           if n.fKind = 1 ∧ n.fPresent = false ∧ kids = [] then [] else [.mk x.fName [] kids])
         else []))
    else []
/-- what the reference cuts out of one node -/
def cutS : List Str → List GSchema → List Str → GNode → List GNode
  | [], _, _, x => [x]
  | c :: cs, d, keys, x =>
    let n := at_ d (idx (nmP x.fName) d).toNat
    if ¬ n.fName = c ∨ (n.fKind = 3 ∨ n.fKind = 4) ∧ ¬ cs = [] then (if cont keys n.fName = true then [x] else [])
    else (let kids := x.fKids.flatMap (cutS cs (dk n.fKids) n.fKeys)
      if ¬ n.fKind = 1 ∨ n.fPresent = true ∨ ¬ kids = [] then [.mk n.fName x.fValue kids] else [])
def okX (d : List GSchema) (x : GNode) : Prop := 0 ≤ idx (nmP x.fName) d ∧ okN (at_ d (idx (nmP x.fName) d).toNat) x = true
def gdS (s : List GSchema) : Prop := diffs (nmS (dk s)) = true ∧ ∃ kind bd, kA s kind bd = true
end Go.Dt
