/-
  Part of a proof: Cp1, Pl1, Ct0, Tr1.
-/
import Derived.Test.YtmdbmmmlccipdaaGreatDoorG15
import Derived.Test.YtmdbmmmlccipdaaGreatDoorG18
import Derived.Test.YtmdbmmmlccipdaaGreatDoorG20
import Derived.Test.YtmdbmmmlccipdaaGreatDoorG34
import Derived.Test.YtmdbmmmlccipdaaGreatDoorG36
set_option linter.unusedSimpArgs false
set_option linter.unusedVariables false
namespace Go.Proofs.YtmdbmmmlccipdaaGreatDoor
open Go.Ab Go.Dt
set_option maxRecDepth 20000
set_option maxHeartbeats 4000000
theorem iCopyNodes_n : ∀ (n : Nat) (l : List GNode), Ctr lim Tryz.prog 91 [] [.sl false 3 (l.map (encNode false))] (.sl true 3 (l.map (encNode true))) [] (SizeOf.sizeOf l < n)
  | 0, l => ⟨en91, fun h => absurd h (Nat.not_lt_zero _)⟩
  | n + 1, l => by
    have ih := iCopyNodes_n n
    refine Ctr.of_body en91 Tryz.func91 rfl rfl fun hp => (?_); rw [Tryz.ntmps91]
    refine AW.fact 0 fun hf => ?_
    simp (disch := omega) only [go_sem] at hf
    (refine vU ?_; with_reducible repeat' first | exact Le.l | refine Sw ?_ ?_ | intro h)
    refine AW.loopV [3, 9] [7, 8] (fun m xs o => ∃ k : Nat, xs = [.sl true 3 ((l.take k).map (encNode true)), .v (.int .i64 k)] ∧ o = [] ∧ m = l.length - k ∧ k ≤ l.length) l.length [] trivial ⟨0, ?_, rfl, rfl, ?_⟩ ?_
    · rfl
    · omega
    rintro m xs o ⟨k, rfl, rfl, rfl, hk⟩
    have hlt : (l.take k).length = k := by rw [List.length_take]; omega
    have hkk : k < l.length → SizeOf.sizeOf (at_ l k).fKids < n := fun h => by have := GNode.kids_lt (at_mem h); omega
    (refine vU ?_; with_reducible repeat' first | exact Le.l | refine Sw ?_ ?_ | intro h)
    · exact ⟨_, [_, _], [], by omega, ⟨k + 1, by rw [take_at' (by assumption), List.map_append, List.map_cons, List.map_nil, encNode_eq], rfl, rfl, by omega⟩, rfl, trivial⟩
    · rw [show k = l.length by omega, List.take_length]
theorem sCopyNodes_n : ∀ (n : Nat) (l : List GNode), Ctr lim Tryz.prog 88 [] [.sl false 3 (l.map (encNode false))] (.sl true 3 (l.map (encNode true))) [] (SizeOf.sizeOf l < n)
  | 0, l => ⟨en88, fun h => absurd h (Nat.not_lt_zero _)⟩
  | n + 1, l => by
    have ih := sCopyNodes_n n
    refine Ctr.of_body en88 Tryz.func88 rfl rfl fun hp => (?_); rw [Tryz.ntmps88]
    refine AW.fact 0 fun hf => ?_
    simp (disch := omega) only [go_sem] at hf
    (refine vU ?_; with_reducible repeat' first | exact Le.l | refine Sw ?_ ?_ | intro h)
    refine AW.loopV [3, 4] [0] (fun m xs o => ∃ k : Nat, xs = [.sl true 3 ((l.take k).map (encNode true)), .v (.int .i64 k)] ∧ o = [] ∧ m = l.length - k ∧ k ≤ l.length) l.length [] trivial ⟨0, ?_, rfl, rfl, ?_⟩ ?_
    · rfl
    · omega
    rintro m xs o ⟨k, rfl, rfl, rfl, hk⟩
    have hlt : (l.take k).length = k := by rw [List.length_take]; omega
    have hkk : k < l.length → SizeOf.sizeOf (at_ l k).fKids < n := fun h => by have := GNode.kids_lt (at_mem h); omega
    (refine vK ?_; with_reducible repeat' first | exact Le.l | refine Sw ?_ ?_ | intro h)
    (refine AW.i rfl (fun h => ?_) (fun h => ?_) <;> try simp only [hC, reduceCtorEq] at h)
    · (refine vN ?_; with_reducible repeat' first | exact Le.l | refine Sw ?_ ?_ | intro h)
      refine Z ?_
      intro K hK
      simp (maxSteps := 2000000) (disch := omega) only [go_sem]
      refine Y ?_
      simp (maxSteps := 2000000) (disch := omega) only [go_sem]
      refine And.intro (hkk h) (And.intro (by decide) (And.intro (by decide) ?_))
      refine Y ?_
      simp (maxSteps := 2000000) (disch := omega) only [go_sem]
      refine And.intro ⟨by omega, by omega, by omega⟩ ?_
      refine hK _ _ ⟨Ct, ?_⟩
      clear hK K
      intro K hK
      simp (maxSteps := 2000000) (disch := omega) only [go_sem]
      refine hK _ _ ?_
      clear hK K
      (refine vU ?_; with_reducible repeat' first | exact Le.l | refine Sw ?_ ?_ | intro h)
      exact ⟨_, [_, _], [], by omega, ⟨k + 1, by rw [take_at' (by assumption), List.map_append, List.map_cons, List.map_nil, encNode_eq], rfl, rfl, by omega⟩, rfl, trivial⟩
    · (refine vU ?_; with_reducible repeat' first | exact Le.l | refine Sw ?_ ?_ | intro h)
      rw [show k = l.length by omega, List.take_length]
instance iCopyNodes_i (l : List GNode) : Ctr lim Tryz.prog 91 [] [.sl false 3 (l.map (encNode false))] (.sl true 3 (l.map (encNode true))) [] True := ⟨en91, fun _ => (iCopyNodes_n (SizeOf.sizeOf l + 1) l).out (Nat.lt_succ_self _)⟩
instance sCopyNodes_i (l : List GNode) : Ctr lim Tryz.prog 88 [] [.sl false 3 (l.map (encNode false))] (.sl true 3 (l.map (encNode true))) [] True := ⟨en88, fun _ => (sCopyNodes_n (SizeOf.sizeOf l + 1) l).out (Nat.lt_succ_self _)⟩
end Go.Proofs.YtmdbmmmlccipdaaGreatDoor
namespace Go.Proofs.YtmdbmmmlccipdaaGreatDoor
open Go.Ab Go.Dt
set_option maxRecDepth 20000
set_option maxHeartbeats 4000000

instance l23In_i (L : Nat → Nat) [hL : Lok L] (l : List Str) (n : Str) : Ctr L Tryz.prog 121 [] [.sl false 1 (l.map AV.str), .str n] (.v (.bool (cont l n))) [] True := by
  refine Ctr.of_body en121 Tryz.func121 rfl rfl fun hp => (?_); rw [Tryz.ntmps121]
  refine AW.fact 0 fun hf => ?_
  simp (disch := omega) only [go_sem] at hf
  have hf := Nat.le_trans hf (hL.le 1)
  (refine vU ?_; with_reducible repeat' first | exact Le.l | refine Sw ?_ ?_ | intro h)
  refine AW.loopV [5] [0, 1] (fun m xs o => ∃ k : Nat, xs = [.v (.int .i64 k)] ∧ o = [] ∧ m = l.length - k ∧ k ≤ l.length ∧ ∀ x ∈ l.take k, (x == n) = false) l.length [] trivial ⟨0, ?_, rfl, rfl, ?_, ?_⟩ ?_
  · rfl
  · omega
  · simp
  rintro m xs o ⟨k, rfl, rfl, rfl, hk, hR⟩
  (refine vU ?_; with_reducible repeat' first | exact Le.l | refine Sw ?_ ?_ | intro h)
  · rw [cont, idx_at' (p := fun x : Str => x == n) (by assumption) hR (by simpa using h)]; simp
  · exact ⟨_, [_], [], by omega, ⟨k + 1, rfl, rfl, rfl, by omega, take_step' (p := fun x : Str => x == n) (by assumption) hR (by simpa using h)⟩, rfl, trivial⟩
  · rw [cont, idx_end (p := fun x : Str => x == n) h hR]; rfl
end Go.Proofs.YtmdbmmmlccipdaaGreatDoor
namespace Go.Dt
open Go Go.Ab
/-- what the program cuts out of one node -/
def cutX : List Str → List GSchema → GNode → List GNode
  | [], _, x => [x]
  | c :: cs, s, x =>
    if x.fName = c then
      (if cs = [] then [x] else
        (let n := at_ (dk s) (idx (nmP x.fName) (dk s)).toNat
         if n.fKind = 1 ∨ n.fKind = 2 then
          (let kids := x.fKids.flatMap fun k => if cont n.fKeys k.fName = true then [k] else cutX cs n.fKids k
           if n.fKind = 1 ∧ n.fPresent = false ∧ kids = [] then [] else [.mk x.fName [] kids])
         else []))
    else []
/-- what the reference cuts out of one node -/
def cutS : List Str → List GSchema → List Str → GNode → List GNode
  | [], _, _, x => [x]
  | c :: cs, d, keys, x =>
    let n := at_ d (idx (nmP x.fName) d).toNat
    if ¬ n.fName = c ∨ (n.fKind = 3 ∨ n.fKind = 4) ∧ ¬ cs = [] then (if cont keys n.fName = true then [x] else [])
    else (let kids := x.fKids.flatMap (cutS cs (dk n.fKids) n.fKeys)
      if ¬ n.fKind = 1 ∨ n.fPresent = true ∨ ¬ kids = [] then [.mk n.fName x.fValue kids] else [])
def okX (d : List GSchema) (x : GNode) : Prop := 0 ≤ idx (nmP x.fName) d ∧ okN (at_ d (idx (nmP x.fName) d).toNat) x = true
theorem okL_mem : ∀ {l : List GNode} {d : List GSchema} {p : Option GNode}, okL d p l = true → ∀ x ∈ l, okX d x
  | y :: l, d, p, h, x, hx => by
    rw [okL_cons] at h
    simp only [Bool.and_eq_true, decide_eq_true_eq] at h
    rcases List.mem_cons.1 hx with rfl | hx
    · exact ⟨h.1.1.1, h.1.1.2⟩
    · exact okL_mem h.2 x hx
def gdS (s : List GSchema) : Prop := diffs (nmS (dk s)) = true ∧ ∃ kind bd, kA s kind bd = true
theorem dk_mem : ∀ {l : List GSchema} {m : GSchema}, m ∈ l → isDataK m.fKind = true → m ∈ dk l
  | x :: xs, m, h, hk => by
    rw [dk_cons, List.mem_append]
    rcases List.mem_cons.1 h with rfl | h
    · rw [if_pos hk]; simp
    · exact .inr (dk_mem h hk)
theorem kA_dk : ∀ (l : List GSchema) (kind : Int) (bd : Bool), kA l kind bd = true → ∀ n ∈ dk l, (∃ kd b, oneI kd b n = true) ∧ gdS n.fKids
  | [], _, _, _, n, h => by simp [dk] at h
  | .mk k a b c d e f g h i j l m nn ks :: xs, kind, bd, hA, n, hn => by
    rw [dk, List.mem_append] at hn
    rw [kA] at hA
    simp only [Bool.and_eq_true] at hA
    rcases hn with hn | hn
    · split at hn
      · rename_i hk
        rw [List.mem_singleton] at hn
        subst hn
        refine ⟨⟨_, _, hA.1.1⟩, ?_, _, _, hA.1.2.2⟩
        have := hA.1.2.1
        simp only [diffI, Bool.and_eq_true, Bool.or_eq_true, decide_eq_true_eq] at this
        simp only [isDataK, Bool.and_eq_true, decide_eq_true_eq] at hk
        rcases this.2 with (h | h) | h
        · omega
        · omega
        · exact h
      · split at hn
        · exact kA_dk ks _ _ hA.1.2.2 n hn
        · simp at hn
    · exact kA_dk xs _ _ hA.2 n hn
theorem gd_kid {s : List GSchema} (h : gdS s) {n : GSchema} (hn : n ∈ dk s) : gdS n.fKids ∧ (¬ n.fKind = 2 → n.fKeys = []) ∧ ∀ k ∈ n.fKeys, ∃ m ∈ dk n.fKids, m.fName = k ∧ m.fKind = 3 := by
  obtain ⟨_, kind, bd, hA⟩ := h
  obtain ⟨⟨kd, b, ho⟩, hg⟩ := kA_dk s kind bd hA n hn
  refine ⟨hg, fun h2 => ?_, fun k hk => ?_⟩
  · simp only [oneI, aloneI, shapeI, Bool.and_eq_true, Bool.or_eq_true, decide_eq_true_eq] at ho
    have := ho.1.1.1.1.1.2.1.1.1.1.1.1.1.2
    rcases this with h | h
    · exact absurd h h2
    · exact List.isEmpty_iff.1 h.1
  · simp only [oneI, Bool.and_eq_true] at ho
    have := List.all_eq_true.1 ho.1.2 k hk
    simp only [keyI, Bool.and_eq_true, decide_eq_true_eq] at this
    obtain ⟨h1, h2, h3⟩ := idx_hit this.1
    simp only [leafS, Bool.and_eq_true, beq_iff_eq, decide_eq_true_eq] at h2
    exact ⟨_, dk_mem h3 (by rw [h2.2]; try rfl), h2.1, h2.2⟩
theorem okX_at {d : List GSchema} {x : GNode} (h : okX d x) : (at_ d (idx (nmP x.fName) d).toNat).fName = x.fName ∧ at_ d (idx (nmP x.fName) d).toNat ∈ d := by
  obtain ⟨h1, h2, h3⟩ := idx_hit h.1
  simp only [nmP, beq_iff_eq] at h2
  exact ⟨h2, h3⟩
theorem okN_kids {n : GSchema} {x : GNode} (h : okN n x = true) (hk : ¬ (n.fKind = 3 ∨ n.fKind = 4)) : x.fValue = [] ∧ okL (dk n.fKids) none x.fKids = true ∧ (¬ n.fKind = 2 → n.fPresent = true ∨ ¬ x.fKids = []) := by
  rw [okN, if_neg hk] at h
  split at h
  · rename_i h2
    simp only [Bool.and_eq_true] at h
    exact ⟨List.isEmpty_iff.1 h.1.2, h.2, fun c => absurd h2 c⟩
  · simp only [Bool.and_eq_true, Bool.or_eq_true, Bool.not_eq_true'] at h
    refine ⟨List.isEmpty_iff.1 h.1.1, h.2, fun _ => ?_⟩
    rcases h.1.2 with c | c
    · exact .inl c
    · refine .inr fun e => ?_
      rw [e] at c; simp at c
theorem okN_leaf {n : GSchema} {x : GNode} (h : okN n x = true) (hk : n.fKind = 3 ∨ n.fKind = 4) : x.fKids = [] := by
  rw [okN, if_pos hk] at h
  simp only [Bool.and_eq_true] at h
  exact List.isEmpty_iff.1 h.1
theorem flat_congr {α β : Type} {f g : α → List β} {l : List α} (h : ∀ x ∈ l, f x = g x) : l.flatMap f = l.flatMap g := by
  induction l with
  | nil => rfl
  | cons x xs ih => rw [List.flatMap_cons, List.flatMap_cons, h x (by simp), ih fun y hy => h y (by simp [hy])]
theorem node_eta (x : GNode) : GNode.mk x.fName x.fValue x.fKids = x := by cases x; rfl
theorem cut_keys {cs : List Str} {d : List GSchema} {keys : List Str} {x : GNode} (hx : okX d x) (hc : cont keys x.fName = false) : cutS cs d keys x = cutS cs d [] x := by
  cases cs with
  | nil => rfl
  | cons c cs =>
    have e1 := (okX_at hx).1
    simp only [cutS, e1, hc]
    have : cont [] x.fName = false := rfl
    simp only [this]
theorem cut_one {cs : List Str} {d : List GSchema} {keys : List Str} {x : GNode} (hx : okX d x) (hc : cont keys x.fName = true) (h3 : (at_ d (idx (nmP x.fName) d).toNat).fKind = 3) : cutS cs d keys x = [x] := by
  cases cs with
  | nil => rfl
  | cons c cs =>
    have e1 := (okX_at hx).1
    have e2 := okN_leaf hx.2 (.inl h3)
    simp only [cutS, e1, hc, h3, e2]
    by_cases h : ¬ x.fName = c ∨ ¬ cs = []
    · rw [if_pos (by simpa using h)]; try rfl
    · rw [if_neg (by simpa using h), if_pos (by simp), List.flatMap_nil]
      rw [← e2, node_eta]
theorem flat_one {l : List GNode} : (l.flatMap fun x => [x]) = l := by
  induction l with
  | nil => rfl
  | cons x xs ih => rw [List.flatMap_cons, ih]; try rfl
theorem cut_eq : ∀ (cs : List Str) (s : List GSchema), gdS s → ∀ x, okX (dk s) x → cutS cs (dk s) [] x = cutX cs s x
  | [], _, _, _, _ => rfl
  | c :: cs, s, hs, x, hx => by
    obtain ⟨e1, hm⟩ := okX_at hx
    have h0 : cont [] x.fName = false := rfl
    simp only [cutS, cutX, e1, h0]
    by_cases hc : x.fName = c
    · rw [if_pos hc]
      by_cases hl : (at_ (dk s) (idx (nmP x.fName) (dk s)).toNat).fKind = 3 ∨ (at_ (dk s) (idx (nmP x.fName) (dk s)).toNat).fKind = 4
      · by_cases hcs : cs = []
        · rw [if_neg (by simp [hc, hcs]), if_pos (.inl (by omega)), if_pos hcs, okN_leaf hx.2 hl, List.flatMap_nil]
          rw [← okN_leaf hx.2 hl, node_eta]
        · have hk12 : ¬ ((at_ (dk s) (idx (nmP x.fName) (dk s)).toNat).fKind = 1 ∨ (at_ (dk s) (idx (nmP x.fName) (dk s)).toNat).fKind = 2) := by omega
          rw [if_pos (.inr ⟨hl, hcs⟩), if_neg hcs, if_neg hk12]; simp
      · have hk := okN_kids hx.2 hl
        have hg := gd_kid hs hm
        have hkind : (at_ (dk s) (idx (nmP x.fName) (dk s)).toNat).fKind = 1 ∨ (at_ (dk s) (idx (nmP x.fName) (dk s)).toNat).fKind = 2 := by
          have := dk_data s _ hm
          simp only [isDataK, Bool.and_eq_true, decide_eq_true_eq] at this
          omega
        rw [if_neg (by rintro (h | h); exact h hc; exact hl h.1)]
        by_cases hcs : cs = []
        · subst hcs
          have e3 : x.fKids.flatMap (cutS [] (dk (at_ (dk s) (idx (nmP x.fName) (dk s)).toNat).fKids) (at_ (dk s) (idx (nmP x.fName) (dk s)).toNat).fKeys) = x.fKids := flat_one
          rw [e3, if_pos rfl, if_pos, node_eta]
          by_cases h1 : (at_ (dk s) (idx (nmP x.fName) (dk s)).toNat).fKind = 2
          · left; omega
          · right; exact hk.2.2 h1
        · rw [if_neg hcs, if_pos hkind]
          have e4 : x.fKids.flatMap (cutS cs (dk (at_ (dk s) (idx (nmP x.fName) (dk s)).toNat).fKids) (at_ (dk s) (idx (nmP x.fName) (dk s)).toNat).fKeys) = x.fKids.flatMap (fun k => if cont (at_ (dk s) (idx (nmP x.fName) (dk s)).toNat).fKeys k.fName = true then [k] else cutX cs (at_ (dk s) (idx (nmP x.fName) (dk s)).toNat).fKids k) := by
            refine flat_congr fun k hk' => ?_
            have hok := okL_mem hk.2.1 k hk'
            cases hcn : cont (at_ (dk s) (idx (nmP x.fName) (dk s)).toNat).fKeys k.fName with
            | true =>
              rw [if_pos rfl]
              refine cut_one hok hcn ?_
              obtain ⟨m, hm1, hm2, hm3⟩ := hg.2.2 k.fName ((cont_iff _ _).1 hcn)
              obtain ⟨e5, e6⟩ := okX_at hok
              rw [idx_uniq hg.1.1 e6 hm1 (e5.trans hm2.symm)]; exact hm3
            | false =>
              rw [if_neg (by simp), cut_keys hok hcn]
              exact cut_eq cs _ hg.1 k hok
          rw [e4, hk.1]
          generalize x.fKids.flatMap _ = K
          rcases hkind with h1 | h2
          · rw [h1]
            by_cases hK : K = [] <;> cases (at_ (dk s) (idx (nmP x.fName) (dk s)).toNat).fPresent <;> simp [hK]
          · rw [h2]; simp
    · rw [if_neg hc, if_pos (.inl hc)]; simp
theorem tree_gd {s : List GSchema} (h : isSchema s = true) : gdS s := by
  simp only [isSchema, kR, diffI, Bool.and_eq_true, Bool.or_eq_true, decide_eq_true_eq] at h
  refine ⟨?_, _, _, h.2.2⟩
  rcases h.2.1.2 with (h | h) | h <;> first | exact h | (exact absurd h (by decide))
theorem cut_tree {s : List GSchema} {l : List GNode} {cs : List Str} (h : isTree s l = true) : l.flatMap (cutS cs (dk s) []) = l.flatMap (cutX cs s) := by
  simp only [isTree, Bool.and_eq_true] at h
  exact flat_congr fun x hx => cut_eq cs s (tree_gd h.1.1) x (okL_mem h.2 x hx)
theorem cutX_le (cs : List Str) (s : List GSchema) (x : GNode) : (cutX cs s x).length ≤ 1 := by
  cases cs with
  | nil => simp [cutX]
  | cons c cs => simp only [cutX]; repeat' split
                 all_goals simp
theorem cutS_le (cs : List Str) (d : List GSchema) (ks : List Str) (x : GNode) : (cutS cs d ks x).length ≤ 1 := by
  cases cs with
  | nil => simp [cutS]
  | cons c cs => simp only [cutS]; repeat' split
                 all_goals simp
theorem flat_le {α β : Type} {f : α → List β} (h : ∀ x, (f x).length ≤ 1) : ∀ l : List α, (l.flatMap f).length ≤ l.length
  | [] => by simp
  | x :: xs => by rw [List.flatMap_cons, List.length_append, List.length_cons]; have := h x; have := flat_le h xs; omega
end Go.Dt
namespace Go.Dt
open Go Go.Ab
theorem cmpS_rng (a b : Str) : -1 ≤ cmpS a b ∧ cmpS a b ≤ 1 := by unfold cmpS; repeat' split <;> omega
theorem cmpL_at {a b : List Str} {i : Nat} (h1 : i < a.length) (h2 : i < b.length) : cmpL (a.drop i) (b.drop i) = if cmpS (at_ a i) (at_ b i) = 0 then cmpL (a.drop (i + 1)) (b.drop (i + 1)) else cmpS (at_ a i) (at_ b i) := by
  rw [at_drop h1, at_drop h2, cmpL]
theorem cmpL_r {a b : List Str} {i : Nat} (h1 : i < a.length) (h2 : ¬ i < b.length) : cmpL (a.drop i) (b.drop i) = 1 := by
  rw [at_drop h1, drop_end h2, cmpL]
theorem cmpL_e {a b : List Str} {i : Nat} (h1 : ¬ i < a.length) : cmpL (a.drop i) (b.drop i) = if i < b.length then -1 else 0 := by
  rw [drop_end h1]
  split
  · rw [at_drop (by assumption), cmpL]
  · rw [drop_end (by assumption), cmpL]
theorem lessL_at {a b : List Str} {i : Nat} (h1 : i < a.length) (h2 : i < b.length) : lessL (a.drop i) (b.drop i) = if at_ a i = at_ b i then lessL (a.drop (i + 1)) (b.drop (i + 1)) else Op.bytesLess (at_ a i) (at_ b i) := by
  rw [at_drop h1, at_drop h2, lessL]
theorem lessL_e {a b : List Str} {i : Nat} (h0 : i ≤ a.length) (h0' : i ≤ b.length) (h1 : ¬ (i < a.length ∧ i < b.length)) : lessL (a.drop i) (b.drop i) = decide (a.length < b.length) := by
  by_cases h : i < a.length
  · have : ¬ i < b.length := fun c => h1 ⟨h, c⟩
    rw [at_drop h, drop_end this, lessL, eq_comm, decide_eq_false_iff_not]; omega
  · rw [drop_end h]
    by_cases h2 : i < b.length
    · rw [at_drop h2, lessL, eq_comm, decide_eq_true_eq]; omega
    · rw [drop_end h2, lessL, eq_comm, decide_eq_false_iff_not]; omega
theorem flat_step {α β : Type} [Inhabited α] {f : α → List β} {l : List α} {k : Nat} (h : k < l.length) : (l.take (k + 1)).flatMap f = (l.take k).flatMap f ++ f (at_ l k) := by
  rw [take_at' h, List.flatMap_append]; simp
theorem flat_take_le {α β : Type} {f : α → List β} (h : ∀ x, (f x).length ≤ 1) (l : List α) (k : Nat) : ((l.take k).flatMap f).length ≤ k := by
  have := flat_le h (l.take k); rw [List.length_take] at this; omega
/-- a key's text -/
def kyT (x : GNode) (k : Str) : Str := (at_ x.fKids (idx (ndP k) x.fKids).toNat).fValue
def hasK (x : GNode) (k : Str) : Bool := decide (0 ≤ idx (ndP k) x.fKids)
theorem ky_list {n : GSchema} {x : GNode} (h : n.fKind = 2) (hk : n.fKeys.all (hasK x) = true) : kyL n x = n.fKeys.map (kyT x) ∧ kyB n x = true := by
  have e : kyB n x = true := by rw [kyB, h]; exact hk
  refine ⟨?_, e⟩
  rw [kyL, if_pos h, if_pos e]; try rfl
theorem ky_miss {n : GSchema} {x : GNode} (h : n.fKind = 2) (hk : n.fKeys.all (hasK x) = false) : kyL n x = [] ∧ kyB n x = false := by
  have e : kyB n x = false := by rw [kyB, h]; exact hk
  refine ⟨?_, e⟩
  rw [kyL, if_pos h, if_neg (by rw [e]; simp)]
theorem ky_one {n : GSchema} {x : GNode} (h : ¬ n.fKind = 2) : kyL n x = [x.fValue] ∧ kyB n x = true := by
  refine ⟨by rw [kyL, if_neg h], ?_⟩
  rw [kyB]; simp [h]
section
variable {d : List GSchema} {l : List GNode} {k : Nat}
theorem bef_eq (h0 : 0 ≤ idx (nmP (at_ l k).fName) d) : befO d (prv l k) (at_ l k) = (decide (lastI d l k < idx (nmP (at_ l k).fName) d) || decide (idx (nmP (at_ l k).fName) d = lastI d l k) && decide (ordS (at_ d (idx (nmP (at_ l k).fName) d).toNat) (at_ l ((k : Int) - 1).toNat) (at_ l k) < 0)) := by
  cases k with
  | zero => rw [show lastI d l 0 = -1 from rfl, show befO d (prv l 0) (at_ l 0) = true from rfl, show decide (-1 < idx (nmP (at_ l 0).fName) d) = true by simp; omega]; try rfl
  | succ k =>
    rw [show (((k + 1 : Nat) : Int) - 1).toNat = k by omega, show lastI d l (k + 1) = idx (nmP (at_ l k).fName) d from rfl, show befO d (prv l (k + 1)) (at_ l (k + 1)) = befS d (at_ l k) (at_ l (k + 1)) from rfl, befS, ordS]
    by_cases e : idx (nmP (at_ l k).fName) d = idx (nmP (at_ l (k + 1)).fName) d
    · by_cases r : rowK (at_ d (idx (nmP (at_ l (k + 1)).fName) d).toNat).fKind = true
      · rw [if_pos ⟨e, r⟩, if_pos r, cmp_less, e]; simp
      · rw [if_neg (fun c => r c.2), if_neg r, e]; simp
    · rw [if_neg (fun c => e c.1), show decide (idx (nmP (at_ l (k + 1)).fName) d = idx (nmP (at_ l k).fName) d) = false by simp; exact fun c => e c.symm]; simp
theorem okL_bad (hk : k < l.length) (h : idx (nmP (at_ l k).fName) d < 0 ∨ idx (nmP (at_ l k).fName) d < lastI d l k) : okL d (prv l k) (l.drop k) = false := by
  rw [okL_at hk]
  by_cases h0 : 0 ≤ idx (nmP (at_ l k).fName) d
  · rw [bef_eq h0]
    have h1 : idx (nmP (at_ l k).fName) d < lastI d l k := by omega
    rw [show decide (lastI d l k < idx (nmP (at_ l k).fName) d) = false by simp; omega, show decide (idx (nmP (at_ l k).fName) d = lastI d l k) = false by simp; omega]; simp
  · rw [show decide (0 ≤ idx (nmP (at_ l k).fName) d) = false by simp; omega]; try rfl
theorem okL_bad2 (hk : k < l.length) (h0 : 0 ≤ idx (nmP (at_ l k).fName) d) (h : okN (at_ d (idx (nmP (at_ l k).fName) d).toNat) (at_ l k) = false ∨ idx (nmP (at_ l k).fName) d = lastI d l k ∧ 0 ≤ ordS (at_ d (idx (nmP (at_ l k).fName) d).toNat) (at_ l ((k : Int) - 1).toNat) (at_ l k)) : okL d (prv l k) (l.drop k) = false := by
  rw [okL_at hk, bef_eq h0]
  rcases h with h | ⟨h1, h2⟩
  · rw [h]; simp
  · rw [show decide (lastI d l k < idx (nmP (at_ l k).fName) d) = false by simp; omega, show decide (ordS (at_ d (idx (nmP (at_ l k).fName) d).toNat) (at_ l ((k : Int) - 1).toNat) (at_ l k) < 0) = false by rw [decide_eq_false_iff_not]; omega]; simp
theorem okL_good (hk : k < l.length) (h0 : 0 ≤ idx (nmP (at_ l k).fName) d) (h1 : lastI d l k ≤ idx (nmP (at_ l k).fName) d) (h2 : okN (at_ d (idx (nmP (at_ l k).fName) d).toNat) (at_ l k) = true) (h3 : idx (nmP (at_ l k).fName) d = lastI d l k → ordS (at_ d (idx (nmP (at_ l k).fName) d).toNat) (at_ l ((k : Int) - 1).toNat) (at_ l k) < 0) : okL d (prv l k) (l.drop k) = okL d (prv l (k + 1)) (l.drop (k + 1)) := by
  rw [okL_at hk, bef_eq h0, h2, show decide (0 ≤ idx (nmP (at_ l k).fName) d) = true by simpa using h0]
  by_cases e : idx (nmP (at_ l k).fName) d = lastI d l k
  · rw [show decide (ordS (at_ d (idx (nmP (at_ l k).fName) d).toNat) (at_ l ((k : Int) - 1).toNat) (at_ l k) < 0) = true by rw [decide_eq_true_eq]; exact h3 e, show decide (idx (nmP (at_ l k).fName) d = lastI d l k) = true by simpa using e]; simp
  · rw [show decide (lastI d l k < idx (nmP (at_ l k).fName) d) = true by rw [decide_eq_true_eq]; omega]; simp
theorem lastI_ge : -1 ≤ lastI d l k := by
  cases k with
  | zero => exact Int.le_refl _
  | succ k => exact idx_ge _ _
theorem lastI_lt : lastI d l k < d.length := by
  cases k with
  | zero => rw [show lastI d l 0 = -1 from rfl]; omega
  | succ k => exact idx_lt _
end
end Go.Dt
