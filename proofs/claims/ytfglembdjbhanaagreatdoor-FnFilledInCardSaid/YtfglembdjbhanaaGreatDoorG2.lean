/-
  Part of a proof: AbN4.
-/
import Derived.Test.YtfglembdjbhanaaGreatDoorG1
set_option linter.unusedSimpArgs false
set_option linter.unusedVariables false
namespace Go.Ab
open Go.RowKit (Below)

theorem O_keys {o : Sto} {b : Nat} {cells : List AV} (h : O o b = some cells) : b ∈ o.map Prod.fst := O_mem h

theorem O_updE {o : Sto} {b : Nat} {cells new : List AV} (h : O o b = some cells) (q : Nat) (cs : List AV) (hq : O (updO o b (some new)) q = some cs) : (q = b ∧ cs = new) ∨ (q ≠ b ∧ O o q = some cs) := by
  rw [O_upd] at hq
  by_cases e : q = b
  · subst e
    rw [if_pos ⟨rfl, O_keys h⟩] at hq
    cases hq; exact .inl ⟨rfl, rfl⟩
  · rw [if_neg (fun h => e h.1)] at hq
    exact .inr ⟨e, hq⟩

theorem knd_src {P : Program} {u : TypeId} (h : (knd P u).isSome = true) : (∃ e', P.underlying u = some (.slice e')) ∨ P.underlying u = some .string := by
  cases hk : knd P u with
  | none => rw [hk] at h; cases h
  | some b =>
    cases b with
    | true => exact .inr (knd_str hk)
    | false => exact .inl (knd_sl hk)

section
variable {L : Nat → Nat} {P : Program} {o : Oper} {n : Nat} {t : List (Nat × AV)} {os : Sto} {K : List (Nat × AV) → Sto → Prop}

theorem Imp.nilSl (i sz : Nat) {Q : AS → Prop} (hT : T t i = .v (.slice none 0 0)) (h : Q ⟨n, (i, .sl true sz []) :: t, os⟩) : Imp L ⟨n, t, os⟩ Q := by
  intro B F0 w0 a w hd
  refine ⟨_, h, ?_⟩
  obtain ⟨F, own, fp, fs, hd⟩ := hd
  refine ⟨F, own, fp, fs, { hd with slots := ?_ }⟩
  intro j
  rw [T_cons]
  by_cases e : i = j
  · subst e
    have := hd.slots i
    simp only at this
    rw [hT] at this
    simp only [Rep] at this
    simp only [if_true, Rep]
    exact .inl ⟨.inl this.1, by trivial, this.2⟩
  · simp only [if_neg e]; exact hd.slots j

theorem alloc_sound {ty' : TypeId} {zs : List Value} (hop : o.op = .alloc ty') (hd : dstOK n o.dst = true) (hz : zer P ty' = some zs)
    (h : ∀ b, nfO os b → K (put t o.dst (.ptr b 0)) ((b, some (zs.map avz)) :: os)) : OpW L P o ⟨n, t, os⟩ (fun s' => s'.n = n ∧ K s'.t s'.o) := by
  intro B F0 w0 a w next Q hden hnext
  have hfr : Fresh os w.heap.size := by obtain ⟨F, own, fp, fs, hd'⟩ := hden; exact hd'.fresh
  obtain ⟨F, own, fp, fs, hD⟩ := hden
  obtain ⟨z, hzc, hzr⟩ := zer_run hz
  have hrun : (execOp a.eval o).run P w = .ok (.value (.pointer (some ⟨w.heap.size, 0, none⟩))) (w.alloc (.cells z.cells ty')) := by
    simp [execOp, hop, Instr.alloc, hzr, newVar, newRow]
  unfold Oper.wp
  rw [hrun]
  refine hnext ⟨n, put t o.dst (.ptr w.heap.size 0), (w.heap.size, some (zs.map avz)) :: os⟩ _ _ ⟨rfl, h w.heap.size hfr.nf⟩ ?_
  exact hD.renew [] [] w.heap.size (zs.map avz) [] o.dst hd ⟨rfl, rfl, rfl⟩ (Ext.alloc w _ []) (by simp) (.inr ⟨Nat.le_refl _, by simp⟩)
    ⟨z.cells, ty', zs, [], alloc_at w _, by simp [hzc], RepL.plain zs⟩ (by simp) (by simp) (by simp [Rep])

theorem box_sound {ty' : TypeId} {x : Operand} {sz : Nat} (hop : o.op = .box ty' x) (hd : dstOK n o.dst = true) (hx : (ev t x).elem sz = true)
    (hK : ∀ b, nfO os b → K (put (killL t (kills t [x])) o.dst (.ptr b 0)) ((b, some (ev t x).cells) :: os)) : OpW L P o ⟨n, t, os⟩ (fun s' => s'.n = n ∧ K s'.t s'.o) := by
  intro B F0 w0 a w next Q hden hnext
  have hfr : Fresh os w.heap.size := by obtain ⟨F, own, fp, fs, hd'⟩ := hden; exact hd'.fresh
  obtain ⟨F, own, fp, fs, h⟩ := hden
  have hr := h.ev x
  have hrun : (execOp a.eval o).run P w = .ok (.value (.pointer (some ⟨w.heap.size, 0, none⟩))) (w.alloc (.cells (a.eval x).cells ty')) := by
    simp [execOp, hop, Instr.box, newVar, newRow]
  unfold Oper.wp
  rw [hrun]
  refine hnext ⟨n, put (killL t (kills t [x])) o.dst (.ptr w.heap.size 0), (w.heap.size, some (ev t x).cells) :: os⟩ _ _ ⟨rfl, hK w.heap.size hfr.nf⟩ ?_
  have hFS : ∀ b, F b → F b ∧ (b < w.heap.size) := fun b hb' => ⟨hb', (h.fl b hb').2.1⟩
  refine h.renew (kills t [x]) [] w.heap.size (ev t x).cells (fpo fp x) o.dst hd ⟨rfl, rfl, rfl⟩ (Ext.alloc w _ []) (by simp) (.inr ⟨Nat.le_refl _, by simp⟩)
    ⟨(a.eval x).cells, ty', (a.eval x).cells.toList, [], alloc_at w _, by simp, ?_⟩ (fpo_nodup h x) (fun k hk => .inl (fpo_kills h (by simp) k hk)) (by simp [Rep])
  refine RepL.ext (Ext.alloc' w _) hFS (fun k hk => ?_) (cells_of hx hr)
  obtain ⟨i, _, hi⟩ := fpo_kills h (xs := [x]) (by simp) k hk
  exact (h.fp_lt hi).2

theorem make_sound {ty' e : TypeId} {x y : Operand} {sz bytes : Nat} {k k' : IntKind} {m m' : Int} {zs : List Value} (hop : o.op = .makeSlice ty' x y) (hd : dstOK n o.dst = true) (ht : elm P ty' = some (e, sz, bytes)) (hz : zer P e = some zs) (hzl : zs.length = sz)
    (hx : ev t x = .v (.int k m)) (hy : ev t y = .v (.int k' m')) (hm : m' = m) (h0 : 0 ≤ m) (hL : m.toNat ≤ L sz) (hby : m.toNat * bytes ≤ 140737488355328) (h63 : m.toNat ≤ 9223372036854775807)
    (h : ∀ b, nfO os b → K (put t o.dst (.arr b 0 m.toNat sz)) ((b, some ((List.replicate m.toNat zs).flatten.map avz)) :: os)) : OpW L P o ⟨n, t, os⟩ (fun s' => s'.n = n ∧ K s'.t s'.o) := by
  subst hm
  obtain ⟨m, rfl⟩ := Int.eq_ofNat_of_zero_le h0
  simp only [Int.ofNat_eq_natCast, Int.toNat_natCast] at *
  intro B F0 w0 a w next Q hden hnext
  obtain ⟨F, own, fp, fs, hD⟩ := hden
  obtain ⟨inf, hut, hinf, rfl, rfl⟩ := elm_inv ht
  obtain ⟨inf', z, hinf', hzz, hzc⟩ := zer_inv hz
  rw [hinf] at hinf'
  cases hinf'
  have hrun := run_make (P := P) w ty' e inf z hut hinf hzz k k' (m : Int) m (by omega) (Int.le_refl _) (by
    have : (inf.bytes : Int) * m = ((m * inf.bytes : Nat) : Int) := by push_cast; rw [Int.mul_comm]
    omega) (by omega)
  have hzs : z.cells.size = inf.size := by rw [← hzl, ← hzc]; simp
  have hex : (execOp a.eval o).run P w = .ok (.value (.slice (some ⟨w.heap.size, 0, none⟩) m m)) (w.alloc (.cells (madeCells z.cells (m * inf.size)) e)) := by
    simp only [execOp, hop, hD.val hx, hD.val hy, Sem.run_bind, hrun, Int.toNat_natCast]
    rfl
  unfold Oper.wp
  rw [hex]
  refine hnext ⟨n, put t o.dst (.arr w.heap.size 0 m inf.size), (w.heap.size, some ((List.replicate m zs).flatten.map avz)) :: os⟩ _ _ ⟨rfl, h w.heap.size hD.fresh.nf⟩ ?_
  refine hD.renew [] [] w.heap.size _ [] o.dst hd ⟨rfl, rfl, rfl⟩ (Ext.alloc w _ []) (by simp) (.inr ⟨Nat.le_refl _, by simp⟩)
    ⟨_, _, (List.replicate m zs).flatten, [], alloc_at w _, by rw [madeCells_list z.cells m inf.size hzs, hzc]; simp, RepL.plain _⟩ (by simp) (by simp) ?_
  simp only [Rep]
  refine ⟨trivial, m, rfl, Nat.le_refl _, hL, _, _, alloc_at w _, ?_⟩
  have := congrArg List.length (madeCells_list z.cells m inf.size hzs)
  simp at this
  rw [hzs] at this
  omega

theorem app_sound {c : Call} {x y : Operand} {t1 u : TypeId} (ho : o.op = .call c) (hc : c = ⟨.builtin .append, #[x, y], #[t1, u]⟩) (hd : dstOK n o.dst = true) (h : appVc L P os t o.dst x y t1 u K) : OpW L P o ⟨n, t, os⟩ (fun s' => s'.n = n ∧ K s'.t s'.o) := by
  unfold appVc at h
  split at h
  · exact h.elim
  · rename_i e sz bytes ht
    obtain ⟨⟨hzl, hk⟩, h⟩ := h
    obtain ⟨zs, hz, hzl⟩ := zlen_inv hzl
    have hu := knd_src hk
    split at h
    · rename_i i z l hx
      split at h
      · exact h.elim
      · rename_i l' hsrc
        obtain ⟨⟨rfl, hne, hel, hel', hone⟩, ⟨hL, hby, h63⟩, hK⟩ := h
        exact opw_append_own (s := ⟨n, t, os⟩) ho hc hd hx (neTmp_iff hne) ht hz hzl hu hsrc (by simpa [List.all_eq_true] using hel) (by simpa [List.all_eq_true] using hel') hone hL hby h63 ⟨rfl, hK⟩
    · rename_i hx
      split at h
      · exact h.elim
      · rename_i l' hsrc
        obtain ⟨⟨hel', hone⟩, ⟨hL, hby, h63⟩, hK⟩ := h
        have hel2 : ∀ z, z ∈ l' → z.elem sz = true := by simpa [List.all_eq_true] using hel'
        by_cases h0 : l' = []
        · subst h0
          exact opw_append_nil0 (s := ⟨n, t, os⟩) ho hc hd hx ht hu (srcE_srcA hsrc hel2) ⟨rfl, hK⟩
        · refine OpW.post (opw_append_nil (s := ⟨n, t, os⟩) ho hc hd hx ht hz hzl hu (srcE_srcA hsrc hel2) (List.length_pos_iff.2 h0) hL hby h63 fun b' hb' => ?_)
          cases hdst : o.dst with
          | none =>
            rw [hdst] at hK
            refine Imp.weak (t' := killL t (kills t [y])) (o' := os) ⟨rfl, hK⟩ (fun j => .inl rfl) ?_
            intro q cs hq
            simp only [O, if_neg (fun e => hb' q cs hq e.symm : ¬ b' = q)]; exact hq
          | some d =>
            rw [hdst] at hK
            refine Imp.bind (Q := fun s' => s' = ⟨n, (d, .sl true sz l') :: put (killL t (kills t [y])) (some d) (.arr b' 0 l'.length sz), (b', none) :: (b', some (l'.flatMap AV.cells)) :: os⟩) (Imp.fold d (b := b') (len := l'.length) (sz := sz) (cells := l'.flatMap AV.cells) (l := l') (by simp [put, T]) (by simp [O]) rfl ?_ hel2 rfl) ?_
            · rw [List.take_of_length_le]; rw [flat_elem_len hel2]; exact Nat.le_refl _
            · rintro _ rfl
              refine Imp.weak (t' := put (killL t (kills t [y])) (some d) (.sl true sz l')) (o' := os) ⟨rfl, hK⟩ (fun j => .inl ?_) ?_
              · simp only [put, T_cons]
                by_cases e : d = j
                · simp [e]
                · simp [e]
              · intro q cs hq
                have hne : ¬ b' = q := fun e => hb' q cs hq e.symm
                simp only [O, if_neg hne]; exact hq
    · rename_i b len z hx
      split at h
      · rename_i cells l' hO hsrc
        obtain ⟨⟨rfl, hlen, hel', hone⟩, ⟨hL, hby, h63⟩, hK⟩ := h
        have hel2 : ∀ x, x ∈ l' → x.elem z = true := by simpa [List.all_eq_true] using hel'
        refine OpW.post (opw_append_arr (s := ⟨n, t, os⟩) ho hc hd hx hO hlen ht hz hzl hu (srcE_srcA hsrc hel2) hone hL hby h63 fun b' hb' => ?_)
        have hsub : ∀ q cs, O (rmO os b) q = some cs → O (dropO os [b]) q = some cs := fun q cs hq => by
          have := O_rm os b q cs hq
          rw [O_drop, if_neg (by simpa using this.1)]; exact this.2
        refine Imp.weak (t' := put (killL t (kills t [y])) o.dst (.arr b' 0 (len + l'.length) z)) (o' := (b', some (cells ++ l'.flatMap AV.cells)) :: rmO os b) ⟨rfl, hK b' (Fresh.nf fun q cs hq => hb' q cs (hsub q cs hq))⟩ (fun _ => .inl rfl) ?_
        intro q cs hq
        by_cases e : b' = q
        · subst e; simp only [O_eq] at hq ⊢; exact hq
        · rw [O_ne e] at hq ⊢; exact hsub q cs hq
      · exact h.elim
    · exact h.elim

theorem nownL_left : ∀ {l m : List AV}, AV.nownL (l ++ m) = true → AV.nownL l = true
  | [], _, _ => rfl
  | x :: xs, m, h => by
    simp [AV.nownL] at h ⊢
    exact ⟨h.1, nownL_left (m := m) h.2⟩
theorem evs_cons_ne {i : Nat} {x : AV} : ∀ {xs : List Operand}, AV.nownL (xs.map (ev t)) = true → (T t i).nown = false → xs.map (ev ((i, x) :: t)) = xs.map (ev t)
  | [], _, _ => rfl
  | y :: xs, h, hi => by
    simp only [List.map_cons, AV.nownL, Bool.and_eq_true] at h
    have hne : y ≠ .tmp i := fun e => by
      subst e
      simp only [ev] at h
      rw [h.1] at hi; cases hi
    simp only [List.map_cons, ev_cons_ne hne, evs_cons_ne h.2 hi]

theorem bcall_sound {y : Operand} {i : Nat} {xs : List Operand} {ts : Array TypeId} {f : FuncId} {caps : List AV} {sz : Nat} {l l' : List AV} {res : AV} (ho : o.op = .call ⟨.value y, (.tmp i :: xs).toArray, ts⟩) (hd : dstOK n o.dst = true) (hy : fnA (ev t y) = some (f, caps)) (hcn : AV.nownL caps = true)
    (hx : T t i = .sl true sz l) (he : enters P f = true) (hn : AV.nownL (xs.map (ev t) ++ caps) = true) (hb : BorC L P f sz l (xs.map (ev t) ++ caps) res l') (hK : K (put ((i, .sl true sz l') :: t) o.dst res) os) : OpW L P o ⟨n, t, os⟩ (fun s' => s'.n = n ∧ K s'.t s'.o) := by
  obtain ⟨hg, hnil, hlen, hel, hel'⟩ := hb
  have hi : (T t i).nown = false := by rw [hx]; rfl
  have hxs := nownL_left hn
  have hyi : y ≠ .tmp i := fun e => by
    subst e
    simp only [ev, hx] at hy
    cases hy
  refine OpW.imp (Imp.unfold2 i hx hel ?_ ?_)
  · intro b hfr
    have hevs := evs_cons_ne (t := t) (x := .arr b 0 l.length sz) hxs hi
    refine OpW.post (opw_gcall (s := ⟨n, (i, .arr b 0 l.length sz) :: t, (b, some (l.flatMap AV.cells)) :: os⟩) (os := [(b, some (l.flatMap AV.cells))]) (caps := caps) ho rfl hd (by rw [ev_cons_ne hyi]; exact hy) hcn ?_ he ?_ (Q := fun r os' => r = res ∧ os' = [(b, some (l'.flatMap AV.cells))]) ?_ ?_)
    · simp only [List.toList_toArray, List.map_cons, hevs, AV.nownL, Bool.and_eq_true]
      exact ⟨by simp [ev, T, AV.nown], hxs⟩
    · intro q cs hq
      simp only [O] at hq ⊢
      split at hq
      · rename_i e; rw [if_pos e]; exact hq
      · cases hq
    · have : ev ((i, .arr b 0 l.length sz) :: t) (.tmp i) = .arr b 0 l.length sz := by simp [ev, T]
      simp only [List.toList_toArray, List.map_cons, hevs, this, List.cons_append]
      exact hg b
    · rintro r os' ⟨rfl, rfl⟩
      simp only [List.map_cons, List.map_nil, dropO]
      by_cases hdi : o.dst = some i
      · refine Imp.weak (t' := put ((i, .sl true sz l') :: t) o.dst r) (o' := os) ⟨rfl, hK⟩ (fun j => .inl ?_) ?_
        · rw [hdi]; simp only [put, T_cons]
          by_cases e : i = j
          · simp [e]
          · simp [e]
        · intro q cs hq
          have hne : b ≠ q := fun e => hfr q cs hq e.symm
          simp only [List.cons_append, List.nil_append, O, if_neg hne]; exact hq
      · have hTi : T (put ((i, .arr b 0 l.length sz) :: t) o.dst r) i = .arr b 0 l.length sz := by
          rw [T_put, if_neg hdi]; simp [T]
        refine Imp.bind (Q := fun s' => s' = ⟨n, (i, .sl true sz l') :: put ((i, .arr b 0 l.length sz) :: t) o.dst r, (b, none) :: ([(b, some (l'.flatMap AV.cells))] ++ (b, none) :: (b, some (l.flatMap AV.cells)) :: os)⟩) (Imp.fold i (b := b) (len := l.length) (sz := sz) (cells := l'.flatMap AV.cells) (l := l') hTi (by simp [O]) hlen ?_ hel' rfl) ?_
        · rw [List.take_of_length_le]; rw [flat_elem_len hel', hlen]; exact Nat.le_refl _
        · rintro _ rfl
          refine Imp.weak (t' := put ((i, .sl true sz l') :: t) o.dst r) (o' := os) ⟨rfl, hK⟩ (fun j => .inl ?_) ?_
          · simp only [T_cons, T_put]
            by_cases e : i = j
            · subst e; simp [hdi]
            · simp [e]
          · intro q cs hq
            have hne : b ≠ q := fun e => hfr q cs hq e.symm
            simp only [List.cons_append, List.nil_append, O, if_neg hne]; exact hq
  · intro e0
    obtain ⟨hp, rfl⟩ := hnil e0
    subst e0
    have hevs := evs_cons_ne (t := t) (x := .sl false sz []) hxs hi
    -- nil: nothing to work on
    have hthis : ev ((i, .sl false sz []) :: t) (.tmp i) = .sl false sz [] := by simp [ev, T]
    have hl : LOp L P ⟨n, (i, .sl false sz []) :: t, os⟩ o res [] := lop_callv (L := L) (s := ⟨n, (i, .sl false sz []) :: t, os⟩) (res := res) ho rfl (by rw [ev_cons_ne hyi]; exact hy) hcn (CallOK.pure he (by
        simp only [List.toList_toArray, List.map_cons, hevs, hthis, List.cons_append, AV.nownL, Bool.and_eq_true]
        exact ⟨rfl, hn⟩) (by
        simp only [List.toList_toArray, List.map_cons, hevs, hthis, List.cons_append]
        exact hp))
    intro B F0 w0 a w next Q hden hnext
    obtain ⟨F, own, fp, fs, hD⟩ := hden
    refine hl B F0 w0 F own fp fs a w next Q { hD with slots := ?_ } fun v w' g => ?_
    · intro j
      have := hD.slots j
      simp only [T_cons] at this ⊢
      by_cases e : i = j
      · subst e
        simp only [if_true, Rep] at this ⊢
        exact .inl ⟨.inl this.1, by trivial, this.2⟩
      · simp only [if_neg e] at this ⊢; exact this
    · obtain ⟨F', fx, h1, h2, h3, h4, h5⟩ := g.rep
      have hden' := hD.put [] o.dst hd g.below h1 h2 h3 h4 h5
      simp only [killL] at hden'
      by_cases hdi : o.dst = some i
      · refine hnext ⟨n, put ((i, .sl true sz []) :: t) o.dst res, os⟩ _ _ ⟨rfl, hK⟩ (hden'.weaken rfl (fun j => .inl ?_) (fun _ _ h => h))
        rw [hdi]; simp only [put, T_cons]
        by_cases e : i = j
        · simp [e]
        · simp [e]
      · have hTi : T (put ((i, .v (.slice none 0 0)) :: t) o.dst res) i = .v (.slice none 0 0) := by
          rw [T_put, if_neg hdi]; simp [T]
        obtain ⟨s2, rfl, hd2⟩ := Imp.nilSl (L := L) (n := n) (os := os) i sz hTi (Q := fun s' => s' = ⟨n, (i, .sl true sz []) :: put ((i, .v (.slice none 0 0)) :: t) o.dst res, os⟩) rfl B F0 w0 _ _ hden'
        refine hnext ⟨n, put ((i, .sl true sz []) :: t) o.dst res, os⟩ _ _ ⟨rfl, hK⟩ (hd2.weaken rfl (fun j => .inl ?_) (fun _ _ h => h))
        simp only [T_cons, T_put]
        by_cases e : i = j
        · subst e; simp [hdi]
        · simp [e]

theorem lowF_rep {B F0 : Nat → Prop} {w0 : World} {F : Nat → Prop} {own : Nat → Own} {fp fs : Nat → List Nat} {s : AS} {a : Act} {w : World} (h : DenAt L B F0 w0 F own fp fs s a w) (all : List Operand) :
    ∀ xs : List Operand, (∀ x, x ∈ xs → x ∈ all) → RepL L (fun b => F b ∨ ∃ i, i ∈ kills s.t all ∧ b ∈ fp i) w (lowF (xs.map (ev s.t))) (xs.map a.eval) []
  | [], _ => by simp [RepL, lowP]
  | x :: xs, hx => by
    have ih := lowF_rep h all xs fun y hy => hx y (by simp [hy])
    have hr := h.ev x
    have hid : Ext (fun _ => True) w w := ⟨Nat.le_refl _, fun _ _ => rfl, fun b c T z hc => ⟨c, hc, rfl⟩⟩
    simp only [List.map_cons, lowP, RepL]
    refine ⟨_, _, [], [], rfl, rfl, ?_, ih⟩
    cases hn : (ev s.t x).nown with
    | true =>
      rw [Rep.fp_nil hn hr] at hr
      exact Rep.ext hid (fun b hb => ⟨.inl hb, trivial⟩) (by simp) hr
    | false =>
      exact Rep.frz (fun b hb => .inl hb) (fun b hb => .inr (fpo_kills h (hx x (by simp)) b hb)) hr

theorem lowF_app : ∀ l m : List AV, lowF (l ++ m) = lowF l ++ lowF m
  | [], _ => rfl
  | x :: l, m => by simp only [List.cons_append, lowP, lowF_app l m]
theorem lowF_nown : ∀ {l : List AV}, AV.nownL l = true → lowF l = l
  | [], _ => rfl
  | x :: l, h => by
    simp only [AV.nownL, Bool.and_eq_true] at h
    simp only [lowP, h.1, cond_true, lowF_nown h.2]

theorem lop_callF {s : AS} {y : Operand} {xs : Array Operand} {ts : Array TypeId} {f : FuncId} {caps : List AV} {res : AV} (ho : o.op = .call ⟨.value y, xs, ts⟩) (hy : fnA (ev s.t y) = some (f, caps))
    (hcn : AV.nownL caps = true) (he : enters P f = true) (hp : PureC L P f (lowF (xs.toList.map (ev s.t) ++ caps)) res) : LOp L P s o res (kills s.t xs.toList) := by
  intro B F0 w0 F own fp fs a w next Q h hnext
  obtain ⟨cvs, hcr, hex⟩ := call_exec (P := P) h ho hy hcn he
  unfold Oper.wp
  rw [hex]
  have hid : Ext (fun _ => True) w w := ⟨Nat.le_refl _, fun _ _ => rfl, fun b c T z hc => ⟨c, hc, rfl⟩⟩
  have hall := RepL.join (lowF_rep h xs.toList xs.toList fun _ h => h) (RepL.ext (F' := fun b => F b ∨ ∃ i, i ∈ kills s.t xs.toList ∧ b ∈ fp i) hid (fun b hb => ⟨.inl hb, trivial⟩) (by simp) hcr)
  rw [List.append_nil] at hall
  rw [lowF_app, lowF_nown hcn] at hp
  refine (hp w _ _ (fun b hb => ?_) (h.tb.kp h.below h.hB) hall).mono ?_
  · rcases hb with hb | ⟨i, _, hb⟩
    · exact (h.fl b hb).2.1
    · exact (h.fp_lt hb).2
  rintro e w' ⟨v, F', fp', rfl, h1, h2, h3, h4, h5, h6⟩
  refine hnext v w' ⟨Kp.of_below h1, F', fp', fun b hb => h2 b (.inl hb), fun b hb => ?_, h4, h5, fun b hb => ⟨(h6 b hb).1, .inr (h6 b hb).2⟩⟩
  rcases h3 b hb with (e | e) | e
  · exact .inl e
  · exact .inr (.inr e)
  · exact .inr (.inl e)

theorem T_frzT (t : List (Nat × AV)) : ∀ (js : List Nat) (i : Nat), T (frzT t js) i = if i ∈ js then (T t i).frz else T t i
  | [], i => by simp [frzT]
  | j :: js, i => by
    simp only [frzT, T_cons, T_frzT t js i, List.mem_cons]
    by_cases e : j = i
    · subst e; simp
    · have : ¬ i = j := fun h => e h.symm
      simp only [if_neg e, this, false_or]
mutual
theorem AV.frz_frz : ∀ x : AV, x.frz.frz = x.frz
  | .sl o sz l => by cases o <;> simp only [AV.frz, cond_true, cond_false]
  | .agg l => by simp only [AV.frz, AV.frzL_frzL l]
  | .tup l => by simp only [AV.frz, AV.frzL_frzL l]
  | .fn f l => by simp only [AV.frz, AV.frzL_frzL l]
  | .cnd g x => by simp only [AV.frz, AV.frz_frz x]
  | .pin _ x => by simp only [AV.frz, AV.frz_frz x]
  | .dead | .v .. | .str .. | .vp .. | .arr .. | .ptr .. => by simp only [AV.frz]
theorem AV.frzL_frzL : ∀ l : List AV, AV.frzL (AV.frzL l) = AV.frzL l
  | [] => rfl
  | x :: xs => by simp only [AV.frzL, AV.frz_frz x, AV.frzL_frzL xs]
end
theorem Imp.frzs {n : Nat} {t : List (Nat × AV)} {o : Sto} {Q : AS → Prop} : ∀ (js : List Nat), Imp L ⟨n, frzT t js, o⟩ Q → Imp L ⟨n, t, o⟩ Q
  | [], h => h
  | j :: js, h => by
    refine Imp.frzs js ?_
    refine Imp.bind (Imp.frz (Q := fun s => s = _) j rfl) ?_
    rintro _ rfl
    refine Imp.bind (Imp.weak (t' := frzT t (j :: js)) (o' := o) (Q := fun s => s = ⟨n, frzT t (j :: js), o⟩) rfl (fun i => .inl ?_) (fun _ _ h => h)) (fun s hs => by rw [hs]; exact h)
    simp only [frzT, T_cons, T_frzT]
    by_cases e : j = i
    · subst e
      simp only [if_true]
      by_cases e2 : j ∈ js
      · rw [if_pos e2, AV.frz_frz]
      · rw [if_neg e2]
    · simp only [if_neg e]
theorem evs_frz {t : List (Nat × AV)} {all : List Operand} : ∀ {xs : List Operand}, (∀ x, x ∈ xs → x ∈ all) → xs.map (ev (frzT t (kills t all))) = lowF (xs.map (ev t))
  | [], _ => rfl
  | x :: xs, h => by
    simp only [List.map_cons, lowF, lowP]
    rw [show lowP (xs.map (ev t)) = lowF (xs.map (ev t)) from rfl, evs_frz (t := t) (xs := xs) fun y hy => h y (by simp [hy])]
    congr 1
    cases x with
    | tmp i =>
      simp only [ev, T_frzT]
      cases hn : (T t i).nown with
      | true => rw [if_neg (fun hm => by have := (mem_kills_iff.1 hm).2; rw [hn] at this; cases this)]; rfl
      | false => rw [if_pos (mem_kills_iff.2 ⟨h _ (by simp), hn⟩)]; rfl
    | const v =>
      simp only [ev]
      have : (avz v).frz = avz v := by
        cases v with
        | string s => simp only [avz]; cases Nat.ble s.data.toList.length 4611686018427387904 <;> rfl
        | _ => rfl
      rw [this]; cases (avz v).nown <;> rfl
    | global g => rfl
    | func f => rfl

theorem ncall_sound {y : Operand} {args : Array Operand} {ts : Array TypeId} {f : FuncId} {caps : List AV} (ho : o.op = .call ⟨.value y, args, ts⟩) (hd : dstOK n o.dst = true) (hy : fnA (ev t y) = some (f, caps)) (hcn : AV.nownL caps = true)
    (h : CallN L P os (reachO os (args.toList.map (ev t) ++ caps)) (lowF (args.toList.map (ev t) ++ caps)) (borOf t args.toList) (args.toList.tail.map (ev t) ++ caps) f (args.toList.map (ev t) ++ caps) (K := ⟨fun res os' => K (put t o.dst res) os'⟩) (KB := ⟨fun i sz l' res => K (put ((i, .sl true sz l') :: t) o.dst res) os⟩) (KX := ⟨⟨t, slot0 args.toList, fun i x res => K (put ((i, x) :: t) o.dst res) os, fun res => K (put (killL t (kills t args.toList)) o.dst res) os, fun i sz l' res => memN (kills t args.toList.tail) i = false ∧ K (put ((i, .sl true sz l') :: frzT t (kills t args.toList.tail)) o.dst res) os⟩⟩)) : OpW L P o ⟨n, t, os⟩ (fun s' => s'.n = n ∧ K s'.t s'.o) := by
  have hne : ∀ (z : AV) (l : List AV), args.toList.map (ev t) ++ caps = z :: (args.toList.tail.map (ev t) ++ caps) → ∃ a0 xs, args = (a0 :: xs).toArray ∧ ev t a0 = z := by
    intro z l e
    cases hargs : args.toList with
    | nil =>
      rw [hargs] at e
      have := congrArg List.length e
      simp at this
    | cons a0 xs =>
      rw [hargs] at e
      simp only [List.map_cons, List.cons_append, List.cons.injEq] at e
      exact ⟨a0, xs, by apply Array.ext'; simpa using hargs, e.1⟩
  obtain ⟨he, ⟨hn, Q, hg, hK⟩ | ⟨res, hcl, hp, hK⟩ | ⟨la', res, hll, hcl, hp, hK⟩ | ⟨i, sz, l, hbo, hn, res, l', hb, hK⟩ | ⟨g, x, x', res, i, ha0, hT, hn, hC, hK⟩ | ⟨g, pre, px, post, x', res, i, ha, hT, hdt, hn, hC, hK⟩ | ⟨g, pre, px, post, x', res, b, ha, hO, hdt, hn, hC, hK⟩ | ⟨res, hp, hK⟩ | ⟨x0, lar, i, sz, l, hla, hbo, hn, res, l', hb, hmem, hK⟩⟩ := h
  · have hn' : AV.nownL (args.toList.map (ev t)) = true := nownL_left hn
    refine OpW.post (opw_gcallN (s := ⟨n, t, os⟩) ho rfl hd hy hcn hn' he (fun b cells => O_reach) hg fun res os' hQ hnew => ?_)
    rcases hK res os' hQ with ⟨hkeys, hKK⟩ | ⟨hrs, b0, cells0, rfl, hKK⟩
    case inr =>
      have hnf : nfO os b0 := Fresh.nf fun b' cells' hO => hnew b0 cells0 (by simp [O]) (by rw [hrs]; simp) b' cells' hO
      refine Imp.weak (t' := put t o.dst res) (o' := (b0, some cells0) :: os) ⟨rfl, hKK hnf⟩ (fun _ => .inl rfl) ?_
      intro q cs hq
      rw [hrs]
      simpa [dropO] using hq
    refine Imp.weak (t' := put t o.dst res) (o' := mergeO os os') ⟨rfl, hKK⟩ (fun _ => .inl rfl) ?_
    intro q cs hq
    rw [O_merge] at hq
    rw [O_append, O_drop, ← hkeys]
    by_cases e : q ∈ os'.map Prod.fst
    · rw [if_pos e]
      by_cases e2 : q ∈ os.map Prod.fst
      · rw [if_pos ⟨e, e2⟩] at hq; exact hq
      · rw [if_neg (fun h => e2 h.2)] at hq
        exact absurd (O_keys hq) e2
    · rw [if_neg e, if_neg e]
      rw [if_neg (fun h => e h.1)] at hq; exact hq
  · exact (lop_callv (s := ⟨n, t, os⟩) ho rfl hy hcn ⟨he, .inr ⟨_, lowF_low os _, hcl, hp⟩⟩).opW hd ⟨rfl, by simpa [killL] using hK⟩
  · exact (lop_callv (s := ⟨n, t, os⟩) ho rfl hy hcn ⟨he, .inr ⟨_, hll, hcl, hp⟩⟩).opW hd ⟨rfl, by simpa [killL] using hK⟩
  · obtain ⟨i', xs, hargs, hT⟩ : ∃ i' xs, args.toList = .tmp i' :: xs ∧ i' = i ∧ T t i = .sl true sz l := by
      unfold borOf at hbo
      split at hbo
      · rename_i i' xs hargs
        split at hbo
        · rename_i sz' l'' hT
          cases hbo
          exact ⟨i, xs, hargs, rfl, hT⟩
        · cases hbo
      · cases hbo
    obtain ⟨rfl, hT⟩ := hT
    rw [hargs] at hb hn
    have ha : args = (.tmp i' :: xs).toArray := by apply Array.ext'; simpa using hargs
    subst ha
    exact bcall_sound ho hd hy hcn hT he hn hb hK
  · obtain ⟨xs, hargs⟩ : ∃ xs, args.toList = .tmp i :: xs := by
      simp only [slot0] at ha0
      split at ha0
      · rename_i i' xs hargs
        cases ha0; exact ⟨xs, hargs⟩
      · cases ha0
    rw [hargs] at hn hC
    have ha : args = (.tmp i :: xs).toArray := by apply Array.ext'; simpa using hargs
    subst ha
    exact opw_inD ho hd hy hcn he hT (nownL_left hn) hC ⟨rfl, hK⟩
  · obtain ⟨a0, xs, rfl, hz⟩ := hne _ [] ha
    exact opw_inS ho hd hy hcn he hT hz hdt (nownL_left hn) hC ⟨rfl, hK⟩
  · obtain ⟨a0, xs, rfl, hz⟩ := hne _ [] ha
    refine OpW.post (opw_inO ho hd hy hcn he hO hz hdt (nownL_left hn) hC ?_)
    refine Imp.weak (t' := put t o.dst res) (o' := updO os b (some (pre ++ (repinL px x' ++ post)))) ⟨rfl, hK⟩ (fun _ => .inl rfl) ?_
    intro q cs hq
    rcases O_updE hO q cs hq with ⟨rfl, rfl⟩ | ⟨hne, hq⟩
    · simp [O]
    · rw [O_ne (fun e => hne e.symm)]; exact hq
  · exact (lop_callF (s := ⟨n, t, os⟩) ho hy hcn he hp).opW hd ⟨rfl, hK⟩
  · obtain ⟨i', xs, hargs, hT⟩ : ∃ i' xs, args.toList = .tmp i' :: xs ∧ i' = i ∧ T t i = .sl true sz l := by
      unfold borOf at hbo
      split at hbo
      · rename_i i' xs hargs
        split at hbo
        · rename_i sz' l'' hT
          cases hbo
          exact ⟨i, xs, hargs, rfl, hT⟩
        · cases hbo
      · cases hbo
    obtain ⟨rfl, hT⟩ := hT
    rw [hargs] at hmem hK hla
    simp only [List.tail_cons] at hmem hK
    have hi : i' ∉ kills t xs := fun h => by rw [memN_iff.2 h] at hmem; cases hmem
    have ha : args = (.tmp i' :: xs).toArray := by apply Array.ext'; simpa using hargs
    subst ha
    simp only [List.map_cons, List.cons_append, lowF, lowP, List.cons.injEq] at hla
    have hlar : xs.map (ev (frzT t (kills t xs))) ++ caps = lar := by
      rw [← hla.2, show lowP (xs.map (ev t) ++ caps) = lowF (xs.map (ev t) ++ caps) from rfl, lowF_app, lowF_nown hcn, evs_frz fun _ h => h]
    have hy' : fnA (ev (frzT t (kills t xs)) y) = some (f, caps) := by
      cases y with
      | tmp j =>
        have hj : j ∉ kills t xs := fun h => by
          have h2 := (mem_kills_iff.1 h).2
          simp only [ev] at hy
          cases hv : T t j with
          | fn g c => rw [hv] at hy h2; simp only [fnA, Option.some.injEq, Prod.mk.injEq] at hy; rw [← hy.2] at hcn; simp only [AV.nown] at h2; rw [h2] at hcn; cases hcn
          | v u => rw [hv] at h2; cases h2
          | _ => rw [hv] at hy; cases hy
        simp only [ev, T_frzT, if_neg hj]; exact hy
      | _ => exact hy
    refine OpW.imp (Imp.frzs (kills t xs) (Imp.id ?_))
    exact bcall_sound ho hd hy' hcn (by rw [T_frzT, if_neg hi]; exact hT) he (by rw [hlar]; exact hn) (by rw [hlar]; exact hb) hK

theorem copy_sound {c : Call} {x y : Operand} {t1 u : TypeId} (ho : o.op = .call c) (hc : c = ⟨.builtin .copy, #[x, y], #[t1, u]⟩) (hd : dstOK n o.dst = true) (h : copVc L P os t o.dst x y t1 u K) : OpW L P o ⟨n, t, os⟩ (fun s' => s'.n = n ∧ K s'.t s'.o) := by
  subst hc
  unfold copVc at h
  split at h
  case h_2 => exact h.elim
  rename_i e sz by_ b off len z he hx
  split at h
  case h_2 => exact h.elim
  rename_i cells m cs hO hs
  obtain ⟨⟨rfl, hk, hone, hnow⟩, rfl, hle, hK⟩ := h
  obtain ⟨i, ht, hi, hisz, _⟩ := elm_inv he
  refine OpW.post ?_
  · intro B F0 w0 a w next Q hden hnext
    obtain ⟨F, own, fp, fs, h⟩ := hden
    have hr := h.ev x
    rw [hx] at hr
    simp only [Rep] at hr
    obtain ⟨_, cap, hxv, _, _, _⟩ := hr
    obtain ⟨news, f, hsrc, hnl, hrn, _, _⟩ := src_of (P := P) h hs (knd_src hk)
    rw [RepL.fp_nil hnow hrn] at hrn
    obtain ⟨hkey, hfsn, hfso, c, Ty, vals, rest, hc, hcl, hrep⟩ := h.obj b cells hO
    have hvl := hrep.len
    have hbB := h.ol b (by rw [hkey]; simp)
    have hclen : c.size = vals.length + rest.length := by rw [← Array.length_toList, hcl]; simp
    have hst := run_storeCells_at P b off Ty news 0 c w hc (by omega) (hrn.ones hone)
    simp only [Nat.add_zero] at hst
    have hf := hsrc.first w rfl
    have hex : (execOp a.eval o).run P w = .ok (.value (.int .i64 m)) (w.setRow b (c.toList.take off ++ news ++ c.toList.drop (off + news.length)).toArray) := by
      simp [execOp, ho, resolve, invoke, builtin, Builtin.copy_, hxv, run_underlying ht, sizeOf, typeInfo, hi, hisz, hsrc.len, hf, hst, goInt]
    unfold Oper.wp
    rw [hex]
    obtain ⟨f', hf', hnd, hmem⟩ := hrep.splice hrn off (m * z) (by rw [← hnl, hrn.len]) hle
    have hsz : (c.toList.take off ++ news ++ c.toList.drop (off + news.length)).toArray.size = c.size := by
      have : c.toList.length = c.size := by simp
      simp only [List.size_toArray, List.length_append, List.length_take, List.length_drop, this]; omega
    have hext := Ext.setRow w b _ c Ty _ hc hsz
    have hFS : ∀ b', F b' → F b' ∧ (b' < w.heap.size ∧ b' ∉ [b]) := fun b' hb' => ⟨hb', (h.fl b' hb').2.1, fun hd' => by
      have e0 : b' = b := by simpa using hd'
      have e1 := (h.fl b' hb').1; rw [e0, hkey] at e1; cases e1⟩
    have hfn' : ∀ k, k ∈ f' → own k = .obj b := by
      intro k hk
      rcases hmem k hk with hk | hk
      · exact hfso k hk
      · simp at hk
    have hSk : ∀ k, k ∈ f' → k < w.heap.size ∧ k ∉ [b] := by
      intro k hk
      have e := hfn' k hk
      refine ⟨(h.ol k (by rw [e]; simp)).2, fun hd' => ?_⟩
      have e0 : k = b := by simpa using hd'
      rw [e0, hkey] at e; cases e
    have := h.renew (w' := w.setRow b (c.toList.take off ++ news ++ c.toList.drop (off + news.length)).toArray) (x := .v (.int .i64 m)) (v := .int .i64 m) [] [b] b _ f' o.dst hd ⟨rfl, rfl, rfl⟩ hext (by simpa using hkey) (.inl (by simp))
      ⟨_, Ty, _, rest.drop 0, heap_setRow_same w b _ c Ty _ hc, by
        simp only [List.drop_zero]
        rw [hcl, List.take_append_of_le_length (by omega), List.drop_append_of_le_length (by omega), hnl]
        simp only [List.append_assoc], RepL.ext hext hFS hSk hf'⟩ (hnd (by simpa using hfsn)) (fun k hk => .inr ⟨b, by simp, hfn' k hk⟩) (by simp [Rep])
    refine hnext _ _ _ ?_ this
    refine Imp.weak (t' := put t o.dst (.v (.int .i64 m))) (o' := updO os b (some (cells.take off ++ cs ++ cells.drop (off + m * z)))) ⟨rfl, hK⟩ (fun _ => .inl rfl) ?_
    intro q cs' hq
    rcases O_updE hO q cs' hq with ⟨rfl, rfl⟩ | ⟨hne, hq⟩
    · simp [O]
    · rw [O_ne (fun e => hne e.symm), O_drop, if_neg (by simpa using hne)]; exact hq

theorem nvc_sound (hd : dstOK n o.dst = true) (h : nvc L P os t o.dst o.op K) : OpW L P o ⟨n, t, os⟩ (fun s' => s'.n = n ∧ K s'.t s'.o) := by
  have dflt : ovc L P os (ev t) true o.op (fun x C => K (put (killL t C) o.dst x) os) → OpW L P o ⟨n, t, os⟩ (fun s' => s'.n = n ∧ K s'.t s'.o) := by
    intro h
    obtain ⟨x, C, hK, _, hl⟩ := ovc_sound h
    exact (hl rfl ⟨n, t, os⟩ (fun _ _ => rfl) rfl).opW hd ⟨rfl, hK⟩
  cases ho : o.op with
  | alloc ty' =>
    rw [ho] at h
    simp only [nvc] at h
    split at h
    · rename_i zs hz; exact alloc_sound ho hd hz h
    · exact h.elim
  | store ty' ad x =>
    rw [ho] at h
    simp only [nvc] at h
    split at h
    · rename_i b off g m hdst ha ht
      split at h
      · rename_i cells hO
        obtain ⟨⟨hel, hone⟩, hle, hK⟩ := h
        refine OpW.post (opw_store (s := ⟨n, t, os⟩) ho hdst ha hO ht hel hone hle ?_)
        refine Imp.weak (t' := killL t (kills t [x])) (o' := updO os b (some (cells.take off ++ (ev t x).cells ++ cells.drop (off + m)))) ⟨rfl, hK⟩ (fun _ => .inl rfl) ?_
        intro q cs hq
        rcases O_updE hO q cs hq with ⟨rfl, rfl⟩ | ⟨hne, hq⟩
        · simp [O]
        · rw [O_ne (fun e => hne e.symm), O_drop, if_neg (by simpa using hne)]; exact hq
      · exact h.elim
    · exact h.elim
  | load ty' x =>
    have h0 := h
    rw [ho] at h
    simp only [nvc] at h
    split at h
    · rename_i b off hx
      split at h
      · rename_i cells g m hO ht
        split at h
        · rename_i y hy
          split at h
          · rename_i hny
            exact (lop_load_ptr (s := ⟨n, t, os⟩) ho hx hO ht hy hny).opW hd ⟨rfl, by simpa [killL] using h⟩
          · split at h
            · rename_i hu
              exact (lop_load_ptrZ (s := ⟨n, t, os⟩) ho hx hO ht hy fun _ _ _ _ r => Rep.cpy hu r).opW hd ⟨rfl, by simpa [killL] using h⟩
            · obtain ⟨⟨h1, hle⟩, hK⟩ := h
              refine OpW.post (opw_takeD (s := ⟨n, t, os⟩) ho hd hx hO ht hy h1 hle ?_)
              refine Imp.weak (t' := put t o.dst y) (o' := updO os b (some (cells.take off ++ List.replicate m .dead ++ cells.drop (off + m)))) ⟨rfl, hK⟩ (fun _ => .inl rfl) ?_
              intro q cs hq
              rcases O_updE hO q cs hq with ⟨rfl, rfl⟩ | ⟨hne, hq⟩
              · simp [O]
              · rw [O_ne (fun e => hne e.symm)]; exact hq
        · exact h.elim
      · exact h.elim
    · rw [← ho] at h; exact dflt h
  | extract x k =>
    rw [ho] at h
    simp only [nvc] at h
    split at h
    · rename_i i l hx
      split at h
      · rename_i y hy
        split at h
        · rename_i hny
          exact (lop_extract (s := ⟨n, t, os⟩) ho hx hy hny).opW hd ⟨rfl, by simpa [killL] using h⟩
        · exact opw_extractD (s := ⟨n, t, os⟩) ho hd hx hy ⟨rfl, h⟩
      · exact h.elim
    · exact h.elim
  | makeSlice ty' x y =>
    rw [ho] at h
    simp only [nvc] at h
    split at h
    · rename_i e sz bytes k m k' m' ht hx hy
      split at h
      · rename_i zs hz
        obtain ⟨⟨hzl, hm⟩, ⟨g0, g1, g2, g3⟩, hK⟩ := h
        exact make_sound ho hd ht hz hzl hx hy hm g0 g1 g2 g3 hK
      · exact h.elim
    · exact h.elim
  | call c =>
    obtain ⟨callee, args, ts⟩ := c
    have h0 := h
    rw [ho] at h
    simp only [nvc] at h
    split at h
    · rename_i y _
      split at h
      · rename_i f caps hf
        exact ncall_sound ho hd hf h.1 h.2
      · exact h.elim
    · rename_i x y t1 u e2 e3
      have h1 : args = #[x, y] := by apply Array.ext'; simpa using e2
      have h2 : ts = #[t1, u] := by apply Array.ext'; simpa using e3
      exact app_sound ho (by rw [h1, h2]) hd h
    · rename_i x y t1 u e2 e3
      have h1 : args = #[x, y] := by apply Array.ext'; simpa using e2
      have h2 : ts = #[t1, u] := by apply Array.ext'; simpa using e3
      exact copy_sound ho (by rw [h1, h2]) hd h
    · rw [← ho] at h; exact dflt h
  | box ty' x =>
    rw [ho] at h
    simp only [nvc] at h
    split at h
    · split at h
      · exact box_sound ho hd h.1 h.2
      · exact h.elim
    · rcases h with h | h
      · rw [← ho] at h; exact dflt h
      · split at h
        · exact box_sound ho hd h.1 h.2
        · exact h.elim
  | _ =>
    refine dflt ?_
    rw [ho] at h ⊢
    simpa only [nvc] using h
end

section
variable {L : Nat → Nat} {P : Program} {ops : Array Oper} {n : Nat}

def AlOK (al : List (Nat × Nat)) (a : Act) : Prop := ∀ p, p ∈ al → a.tmps.getD p.1 undef = a.tmps.getD p.2 undef

theorem alF_ok {al : List (Nat × Nat)} {a : Act} (h : AlOK al a) (j : Nat) : a.tmps.getD (alF al j) undef = a.tmps.getD j undef := by
  induction al with
  | nil => rfl
  | cons p al ih =>
    simp only [alF]
    have ih' := ih fun q hq => h q (by simp [hq])
    cases e : Nat.beq p.1 j with
    | true =>
      have : p.1 = j := Nat.eq_of_beq_eq_true e
      subst this
      exact (h p (by simp)).symm
    | false => exact ih'

theorem sbs_ok {al : List (Nat × Nat)} {a : Act} (h : AlOK al a) (x : Operand) : a.eval (sbs al x) = a.eval x := by
  cases x with
  | tmp j => exact alF_ok h j
  | _ => rfl

theorem mem_alDel {al : List (Nat × Nat)} {d : Nat} {p : Nat × Nat} (h : p ∈ alDel al (some d)) : p ∈ al ∧ p.1 ≠ d ∧ p.2 ≠ d := by
  induction al with
  | nil => simp [alDel] at h
  | cons q al ih =>
    simp only [alDel] at h
    cases e : (Nat.beq q.1 d || Nat.beq q.2 d) with
    | true => rw [e] at h; have := ih h; exact ⟨by simp [this.1], this.2⟩
    | false =>
      rw [e] at h
      rcases List.mem_cons.1 h with rfl | h
      · have e' : Nat.beq p.1 d = false ∧ Nat.beq p.2 d = false := by simpa using e
        exact ⟨by simp, fun h => by (rw [h, Nat.beq_refl] at e'; cases e'.1), fun h => by (rw [h, Nat.beq_refl] at e'; cases e'.2)⟩
      · have := ih h; exact ⟨by simp [this.1], this.2⟩

theorem AlOK.put {al : List (Nat × Nat)} {a a0 : Act} {d : Option Nat} {v : Value} (h : AlOK al a) (ha : a0.tmps = a.tmps) (hd : dstOK a.tmps.size d = true) : AlOK (alDel al d) (a0.put d v) := by
  cases d with
  | none =>
    have : alDel al none = al := by cases al <;> rfl
    rw [this]
    intro p hp
    simp only [Act.put, ha]; exact h p hp
  | some d =>
    intro p hp
    obtain ⟨h1, h2, h3⟩ := mem_alDel hp
    rw [getD_put a0 (some d) v _ (by rw [ha]; exact hd), getD_put a0 (some d) v _ (by rw [ha]; exact hd), if_neg (by simpa using fun e => h2 e.symm), if_neg (by simpa using fun e => h3 e.symm), ha]
    exact h p h1

theorem exec_al {al : List (Nat × Nat)} {ρ : Operand → Value} (h : ∀ x, ρ (sbs al x) = ρ x) (o : Oper) : execOp ρ { o with op := alOp al o.op } = execOp ρ o := by
  obtain ⟨dst, op, type, pos, after, guard⟩ := o
  have hps : ∀ ps : Array (Nat × Operand), ((ps.toList.map fun p => (p.1, sbs al p.2)).toArray.map fun (i, x) => (i, ρ x)) = ps.map fun (i, x) => (i, ρ x) := by
    intro ps
    apply Array.ext'
    simp [h]
  have hcs : ∀ x, (match sbs al x with | .const _ => true | _ => false) = (match x with | .const _ => true | _ => false) := by intro x; cases x <;> rfl
  cases op with
  | move x => simp only [execOp, alOp, h]
  | assign x => simp only [execOp, alOp, h]
  | call c =>
    obtain ⟨callee, args, ts⟩ := c
    have h1 : ((args.toList.map (sbs al)).toArray.map ρ) = args.map ρ := by
      apply Array.ext'
      simp [h]
    have h2 : ((args.toList.map (sbs al)).toArray.map fun | .const _ => true | _ => false) = args.map fun | .const _ => true | _ => false := by
      apply Array.ext'
      simp only [List.map_toArray, Array.toList_map, List.map_map]
      apply List.map_congr_left
      intro x _
      exact hcs x
    cases callee with
    | builtin b =>
      simp only [execOp, alOp, resolve, h1]
      exact congrArg (fun z => (do let d ← (pure { target := Target.builtin b ts type z, args := Array.map ρ args } : Sem Deferred); invoke d.target d.args)) h2
    | _ => simp only [execOp, alOp, resolve, h1]
  | buildSlice t n ps => simp only [execOp, alOp, hps]
  | build t ps => simp only [execOp, alOp, hps]
  | store t a x => simp only [execOp, alOp, h]
  | indexAddr t x i => simp only [execOp, alOp, h]
  | slice t x lo hi mx => simp only [execOp, alOp, h]
  | field t x k => simp only [execOp, alOp, h]
  | extract x k => simp only [execOp, alOp, h]
  | box t x => simp only [execOp, alOp, h]
  | convert t u x => simp only [execOp, alOp, h]
  | _ => rfl

theorem upon_put {o : Oper} {a : Act} {next : Act → World → Prop} {Q : Exit → Act → World → Prop} {r : Result Next} (h : o.upon P a (fun a' w' => (∃ (a0 : Act) (v : Value), a0.tmps = a.tmps ∧ a' = a0.put o.dst v) → next a' w') Q r) : o.upon P a next Q r := by
  cases r with
  | ok x w =>
    cases x with
    | value v => exact h ⟨a, v, rfl, rfl⟩
    | skip => exact h ⟨a, _, rfl, rfl⟩
    | enter f args =>
      refine Calls.mono h ?_
      intro e w'
      cases e with
      | returned v => exact fun h => h ⟨a, v, rfl, rfl⟩
      | panicked _ => exact fun h => h
      | outgrown => exact fun h => h
    | row row args => exact Rows.mono h fun v w' h => h ⟨a, v, rfl, rfl⟩
    | defer d => exact h ⟨{ a with defers := d :: a.defers }, undef, rfl, rfl⟩
    | _ => exact h
  | halt r w =>
    cases r with
    | panic v => exact h
    | _ => exact h.elim

def OpsA (L : Nat → Nat) (P : Program) (ops : Array Oper) (l : List Nat) (al : List (Nat × Nat)) (s : AS) (K : AS → Prop) : Prop :=
  ∀ B F0 w0 a w (Q : Exit → Act → World → Prop), Den L B F0 w0 s a w → AlOK al a → (∀ s' a' w', K s' → Den L B F0 w0 s' a' w' → Q .normal a' w') → wpOps P ops Q l a w

theorem stp_sound {o : Oper} {t : List (Nat × AV)} {os : Sto} {al : List (Nat × Nat)} {K : List (Nat × Nat) → List (Nat × AV) → Sto → Prop} (hd : dstOK n o.dst = true) (h : stp L P os al t o.dst o.op K)
    {B F0 : Nat → Prop} {w0 : World} {a : Act} {w : World} (hden : Den L B F0 w0 ⟨n, t, os⟩ a w) (hal : AlOK al a) {next : Act → World → Prop} {Q : Exit → Act → World → Prop}
    (hnext : ∀ al' t' os' a' w', K al' t' os' → Den L B F0 w0 ⟨n, t', os'⟩ a' w' → AlOK al' a' → next a' w') : o.wp P a w next Q := by
  have hsz : a.tmps.size = n := by obtain ⟨F, own, fp, fs, hden⟩ := hden; exact hden.size
  have dflt : nvc L P os t o.dst (alOp al o.op) (K (alDel al o.dst)) → o.wp P a w next Q := by
    intro h
    have e := exec_al (ρ := a.eval) (sbs_ok hal) o
    unfold Oper.wp
    rw [← e]
    refine upon_put ?_
    have := nvc_sound (o := { o with op := alOp al o.op }) hd h B F0 w0 a w (fun a' w' => (∃ (a0 : Act) (v : Value), a0.tmps = a.tmps ∧ a' = a0.put o.dst v) → next a' w') Q hden ?_
    · exact this
    · rintro ⟨n', t', os'⟩ a' w' ⟨hn, hK⟩ hD ⟨a0, v, ha0, rfl⟩
      have hn' : n = n' := hn.symm
      subst hn'
      exact hnext _ _ _ _ _ hK hD (hal.put ha0 (by rw [hsz]; exact hd))
  unfold stp at h
  split at h
  · rename_i j d hop hdst
    have hev : (execOp a.eval o).run P w = .ok (.value (a.tmps.getD j undef)) w := by simp [execOp, hop, Act.eval]
    have hd' : dstOK n (some d) = true := by rw [← hdst]; exact hd
    split at h
    · obtain ⟨hne, hK⟩ := h
      unfold Oper.wp
      rw [hev]
      simp only [Oper.upon_value, hdst]
      refine hnext _ _ _ _ _ hK ?_ ?_
      · obtain ⟨F, own, fp, fs, hD⟩ := hden
        have := hD.put (x := .dead) (v := a.tmps.getD j undef) (fx := []) [] (some d) hd' (Kp.refl _ _) (fun _ h => h) (fun _ h => .inl h) (by simp [Rep]) (by simp) (by simp)
        simpa [killL, put] using this
      · have h1 := hal.put (a0 := a) (d := some d) (v := a.tmps.getD j undef) rfl (by rw [hsz]; exact hd')
        have hne' : ¬ d = alF al j := fun e => by rw [e, Nat.beq_refl] at hne; cases hne
        intro p hp
        rcases List.mem_cons.1 hp with rfl | hp
        · rw [getD_put a (some d) _ _ (by rw [hsz]; exact hd'), getD_put a (some d) _ _ (by rw [hsz]; exact hd')]
          simp only [if_true, Option.some.injEq, if_neg hne']
          exact (alF_ok hal j).symm
        · exact h1 p hp
    · rename_i hnown
      unfold Oper.wp
      rw [hev]
      simp only [Oper.upon_value, hdst]
      refine hnext _ _ _ _ _ h ?_ (hal.put rfl (by rw [hsz]; exact hd'))
      obtain ⟨F, own, fp, fs, hD⟩ := hden
      have hr := hD.slots (alF al j)
      simp only at hr
      rw [alF_ok hal j, Rep.fp_nil hnown hr] at hr
      have := hD.put (x := T t (alF al j)) (v := a.tmps.getD j undef) (fx := []) [] (some d) hd' (Kp.refl _ _) (fun _ h => h) (fun _ h => .inl h) hr (by simp) (by simp)
      simpa [killL, put] using this
  · exact dflt h

theorem T_unc (t : List (Nat × AV)) (i : Nat) : T (uncT t) i = (T t i).unc := by
  induction t with
  | nil => rfl
  | cons p t ih =>
    simp only [uncT, T]
    cases (p.1 == i) <;> simp [ih]

theorem Rep.unc {F : Nat → Prop} {w : World} {x : AV} {y : Value} {fp : List Nat} (h : Rep L F w x y fp) : Rep L F w x.unc y fp := by
  cases x with
  | cnd g x =>
    cases g with
    | true => simp only [Rep] at h; exact h.1 (by trivial)
    | false => exact h
  | _ => exact h

theorem Den.unc {B F0 : Nat → Prop} {w0 : World} {t : List (Nat × AV)} {os : Sto} {a : Act} {w : World} (h : Den L B F0 w0 ⟨n, t, os⟩ a w) : Den L B F0 w0 ⟨n, uncT t, os⟩ a w := by
  obtain ⟨F, own, fp, fs, h⟩ := h
  exact ⟨F, own, fp, fs, { h with slots := fun i => by rw [T_unc]; exact (h.slots i).unc }⟩

theorem Wn.toA {K : List (Nat × AV) → Sto → Prop} {K' : AS → Prop} (hKK : ∀ t os, K t os → K' ⟨n, t, os⟩) : ∀ (l : List Nat) (al : List (Nat × Nat)) (t : List (Nat × AV)) (os : Sto), Wn L P ops n K l al t os → OpsA L P ops l al ⟨n, t, os⟩ K'
  | [], al, t, os, h => fun B F0 w0 a w Q hden hal hQ => hQ _ _ _ (hKK t os (by simpa only [Wn] using h)) hden
  | i :: l, al, t, os, h => by
    intro B F0 w0 a w Q hden hal hQ
    have hsz : a.tmps.size = n := by obtain ⟨F, own, fp, fs, hden⟩ := hden; exact hden.size
    simp only [Wn] at h
    split at h
    · exact h.elim
    · rename_i o ho
      obtain ⟨hd, h⟩ := h
      split at h
      · rename_i hg
        simp only [wpOps, ho]
        rw [if_pos (by simp [Region.wanted, hg])]
        refine .inl (stp_sound hd h hden hal fun al' t' os' a' w' hK hD hal' => ?_)
        exact Wn.toA hKK l al' t' os' hK B F0 w0 a' w' Q hD hal' hQ
      · rename_i j want hg
        split at h
        · exact h.elim
        · rename_i d hj
          obtain ⟨hlt, h⟩ := h
          split at h
          · exact h.elim
          · rename_i G g hgv
            cases hoj : ops[j]? with
            | none => rw [hoj] at hj; cases hj
            | some oj =>
              rw [hoj] at hj
              have hy := yielded_of hden hoj hj hgv hlt
              simp only [wpOps, ho, Region.wanted, hg, hy]
              have hskip : ∀ x : AV, Den L B F0 w0 ⟨n, put t o.dst (.cnd false x), os⟩ (a.put o.dst undef) w := by
                intro x
                obtain ⟨F, own, fp, fs, hden⟩ := hden
                have := hden.put (x := .cnd false x) (v := undef) (fx := []) [] o.dst hd (Kp.refl _ _) (fun _ h => h) (fun _ h => .inl h) (by simp [Rep]) (by simp) (by simp)
                simpa [killL] using this
              have hal0 := hal.put (a0 := a) (v := undef) rfl (d := o.dst) (by rw [hsz]; exact hd)
              split at h
              · split at h
                · obtain ⟨hw, h⟩ := h
                  rw [if_neg (by cases G <;> simp_all)]
                  exact Wn.toA hKK l _ _ _ h B F0 w0 _ w Q (hskip .dead) hal0 hQ
                · obtain ⟨hok, h⟩ := h
                  obtain ⟨x, C, ⟨rfl, hK⟩, _, hl⟩ := ovc_sound h
                  cases hw : (G && (g == want)) with
                  | true =>
                    rw [hw] at hK hok hl
                    simp at hw
                    obtain ⟨rfl, rfl⟩ := hw
                    rw [if_pos (by simp)]
                    have hlop : LOp L P ⟨n, t, os⟩ o x [] := LOp.of_strip rfl hok (hl rfl) ⟨n, t, os⟩ (fun _ _ => rfl) rfl
                    refine .inl (upon_put ?_)
                    refine (hlop.cnd.opW hd (K := fun s' => s' = ⟨n, put t o.dst (.cnd true x), os⟩) rfl) B F0 w0 a w _ Q hden fun s' a' w' e h' => ?_
                    subst e
                    rintro ⟨a0, v, ha0, rfl⟩
                    refine Wn.toA hKK l _ _ _ hK B F0 w0 _ w' Q ?_ (hal.put ha0 (by rw [hsz]; exact hd)) hQ
                    simpa [upd, killL] using h'
                  | false =>
                    rw [hw] at hK
                    rw [if_neg (by cases G <;> simp_all)]
                    refine Wn.toA hKK l _ _ _ hK B F0 w0 _ w Q ?_ hal0 hQ
                    simpa [upd, killL] using hskip x
              · cases hw : (G && (g == want)) with
                | true =>
                  have h1 := h.1 hw
                  simp at hw
                  obtain ⟨rfl, rfl⟩ := hw
                  rw [if_pos (by simp)]
                  refine .inl (stp_sound hd h1 hden.unc hal fun al' t' os' a' w' hK hD hal' => ?_)
                  exact Wn.toA hKK l al' t' os' hK B F0 w0 a' w' Q hD hal' hQ
                | false =>
                  rw [if_neg (by cases G <;> simp_all)]
                  exact Wn.toA hKK l _ _ _ (h.2 (by rw [hw]; rfl)) B F0 w0 _ w Q (hskip .dead) hal0 hQ

theorem Wn.toOps {K : List (Nat × AV) → Sto → Prop} {K' : AS → Prop} (hKK : ∀ t os, K t os → K' ⟨n, t, os⟩) (l : List Nat) (t : List (Nat × AV)) (os : Sto) (h : Wn L P ops n K l [] t os) : OpsW L P ops l ⟨n, t, os⟩ K' :=
  fun B F0 w0 a w Q hden hQ => Wn.toA hKK l [] t os h B F0 w0 a w Q hden (fun p hp => by cases hp) hQ
end

section
variable {L : Nat → Nat} {P : Program} {n : Nat} {t : List (Nat × AV)} {o : Sto} {Q : Exit → AS → Prop} {id : Nat} {ops : Array Oper}

theorem AW.sregn {c : Code} (h : ∀ K : List (Nat × AV) → Sto → Prop, (∀ t o, AW L P c ⟨n, t, o⟩ Q → K t o) → Wn L P ops n K (List.range ops.size) [] t o) : AW L P (.seq (.region id ops false) c) ⟨n, t, o⟩ Q :=
  AW.seq (AW.region (Wn.toOps (K := fun t o => AW L P c ⟨n, t, o⟩ Q) (fun _ _ h => h) _ _ _ (h _ (fun _ _ h => h))))

theorem AW.regn (h : ∀ K : List (Nat × AV) → Sto → Prop, (∀ t o, Q .normal ⟨n, t, o⟩ → K t o) → Wn L P ops n K (List.range ops.size) [] t o) : AW L P (.region id ops false) ⟨n, t, o⟩ Q :=
  AW.region (Wn.toOps (K := fun t o => Q .normal ⟨n, t, o⟩) (fun _ _ h => h) _ _ _ (h _ (fun _ _ h => h)))

theorem AW.sdrwn [MixOK P] {c : Code} (h : ∀ K : List (Nat × AV) → List (AV × List Nat) → Prop, (∀ t D, (drawOK ops (D.map Prod.snd) = true ∧ ∀ K' : List (Nat × AV) → Sto → Prop, (∀ t o, AW L P c ⟨n, t, o⟩ Q → K' t o) → Wn L P ops n K' (List.range' D.length (ops.size - D.length)) [] t o) → K t D) →
      W L P ops [] n o (fun t D _ => K t D) (List.range' 0 ops.size) t []) : AW L P (.seq (.region id ops true) c) ⟨n, t, o⟩ Q :=
  AW.seq (AW.draw (W.draw _ 0 _ _ rfl (h (fun t D => drawOK ops (D.map Prod.snd) = true ∧ OpsW L P ops (List.range' D.length (ops.size - D.length)) ⟨n, t, o⟩ (fun s' => AW L P c s' Q)) (fun t D h => ⟨h.1, Wn.toOps (K := fun t o => AW L P c ⟨n, t, o⟩ Q) (fun _ _ h => h) _ _ _ (h.2 _ (fun _ _ h => h))⟩))))

theorem AW.drwn [MixOK P] (h : ∀ K : List (Nat × AV) → List (AV × List Nat) → Prop, (∀ t D, (drawOK ops (D.map Prod.snd) = true ∧ ∀ K' : List (Nat × AV) → Sto → Prop, (∀ t o, Q .normal ⟨n, t, o⟩ → K' t o) → Wn L P ops n K' (List.range' D.length (ops.size - D.length)) [] t o) → K t D) →
      W L P ops [] n o (fun t D _ => K t D) (List.range' 0 ops.size) t []) : AW L P (.region id ops true) ⟨n, t, o⟩ Q :=
  AW.draw (W.draw _ 0 _ _ rfl (h (fun t D => drawOK ops (D.map Prod.snd) = true ∧ OpsW L P ops (List.range' D.length (ops.size - D.length)) ⟨n, t, o⟩ (fun s' => Q .normal s')) (fun t D h => ⟨h.1, Wn.toOps (K := fun t o => Q .normal ⟨n, t, o⟩) (fun _ _ h => h) _ _ _ (h.2 _ (fun _ _ h => h))⟩)))
end
end Go.Ab
