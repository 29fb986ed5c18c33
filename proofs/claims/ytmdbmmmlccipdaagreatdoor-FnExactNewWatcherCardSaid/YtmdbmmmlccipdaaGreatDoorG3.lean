/-
  Part of a proof: AbN5, AbG.
-/
import Derived.Test.YtmdbmmmlccipdaaGreatDoorG2
set_option linter.unusedSimpArgs false
set_option linter.unusedVariables false
namespace Go.Ab
open Go.RowKit (Below)
section
variable {L : Nat → Nat} {n : Nat} {t : List (Nat × AV)} {o : Sto} {Q : AS → Prop}
/-- an owned slice in an object's cell, as an object -/
theorem Imp.unfoldO2 {b0 k sz : Nat} {cells0 l : List AV} (hO0 : O o b0 = some cells0) (hk : cells0[k]? = some (.sl true sz l)) (hel : ∀ x, x ∈ l → x.elem sz = true)
    (h : ∀ b, Fresh o b → Q ⟨n, t, (b, some (l.flatMap AV.cells)) :: (b0, some (cells0.set k (.arr b 0 l.length sz))) :: o⟩)
    (hnil : l = [] → Q ⟨n, t, (b0, some (cells0.set k (.v (.slice none 0 0)))) :: o⟩) : Imp L ⟨n, t, o⟩ Q := by
  intro B F0 w0 a w hd
  obtain ⟨F, own, fp, fs, hd⟩ := hd
  obtain ⟨hkey0, hfsn0, hfso0, c0, Ty0, vals0, rest0, hc0, hcl0, hrep0⟩ := hd.obj b0 cells0 hO0
  obtain ⟨y, f1, fx, f2, hvk, hfs0, hr, hset⟩ := hrep0.put hk
  simp only [Rep] at hr
  rcases hr with ⟨e1 | ⟨e0, _⟩, e, e3⟩ | ⟨b, off, cap, vals, fp', hy, h1, h2, hrow, he, ho⟩
  · refine ⟨_, hnil e, F, own, fp, fun q => if q = b0 then f1 ++ ([] ++ f2) else fs q, { hd with obj := ?_ }⟩
    have hset' := hset (.v (.slice none 0 0)) [] (by simp only [Rep]; exact ⟨e1, by trivial⟩)
    intro q cells hO
    simp only [O] at hO
    by_cases e2 : b0 = q
    · subst e2
      rw [if_pos rfl] at hO; cases hO
      simp only [if_true]
      have hnd := hfsn0
      rw [hfs0, e3] at hnd
      refine ⟨hkey0, hnd, fun q hq => hfso0 q (by rw [hfs0, e3]; exact hq), c0, Ty0, vals0, rest0, hc0, hcl0, hset'⟩
    · rw [if_neg e2] at hO
      have e2' : ¬ q = b0 := fun h => e2 h.symm
      simp only [if_neg e2']
      exact hd.obj q cells hO
  · cases e0
  obtain ⟨hfp, rfl, hblk⟩ : fx = b :: fp' ∧ off = 0 ∧ OwnBlk w b (off + cap * sz) := by
    rcases ho with ⟨_, h⟩ | ⟨e, _⟩
    · exact h
    · cases e
  have hmem : ∀ q, q ∈ fx → own q = .obj b0 := fun q hq => hfso0 q (by rw [hfs0]; simp [hq])
  have hsb : own b = .obj b0 := hmem b (by rw [hfp]; simp)
  have hbne : b ≠ b0 := fun e => by rw [e, hkey0] at hsb; cases hsb
  have hnd0 := hfsn0
  rw [hfs0, List.nodup_append] at hnd0
  obtain ⟨hn1, hn2, hn3⟩ := hnd0
  rw [List.nodup_append] at hn2
  obtain ⟨hnx, hn4, hn5⟩ := hn2
  have hnd := hnx
  rw [hfp, List.nodup_cons] at hnd
  have hfr : Fresh o b := by
    intro b' cells hO e
    have := (hd.obj b' cells hO).1
    rw [e, hsb] at this; cases this
  refine ⟨_, h b hfr, ?_⟩
  obtain ⟨c, Ty, rest, hc, hcl⟩ := row_list hrow hblk
  classical
  let own' : Nat → Own := fun q => if q = b then .key else if q ∈ fp' then .obj b else own q
  have hnot' : ∀ q, q ∉ fx → own' q = own q := fun q hq => by
    have n1 : q ≠ b := fun e => hq (by rw [hfp, e]; simp)
    have n2 : q ∉ fp' := fun hm => hq (by rw [hfp]; simp [hm])
    simp only [own', if_neg n1, if_neg n2]
  have hnot : ∀ q, own q ≠ .obj b0 → own' q = own q := fun q hq => hnot' q fun hm => hq (hmem q hm)
  refine ⟨F, own', fp, fun q => if q = b then fp' else if q = b0 then f1 ++ f2 else fs q, { below := hd.below, hB := hd.hB, tb := hd.tb, f0 := hd.f0, fl := ?_, ol := ?_, defers := hd.defers, size := hd.size, slots := hd.slots, sn := hd.sn, so := ?_, obj := ?_ }⟩
  · intro q hq
    have := hd.fl q hq
    exact ⟨by rw [hnot q (by rw [this.1]; simp)]; exact this.1, this.2⟩
  · intro q hq
    by_cases e1 : q ∈ fx
    · exact hd.ol q (by rw [hmem q e1]; simp)
    · rw [hnot' q e1] at hq; exact hd.ol q hq
  · intro j q hq
    have := hd.so j q hq
    rw [hnot q (by rw [this]; simp)]; exact this
  · intro q cells hO
    simp only [O] at hO
    by_cases e : b = q
    · subst e
      rw [if_pos rfl] at hO; cases hO
      refine ⟨by simp [own'], by simpa using hnd.2, fun q hq => ?_, c, Ty, vals, rest, hc, hcl, by simpa using RepE.flat hel he⟩
      simp only [if_true] at hq
      have n1 : q ≠ b := fun e => hnd.1 (by rw [← e]; exact hq)
      simp only [own', if_neg n1, if_pos hq]
    · rw [if_neg e] at hO
      have e' : ¬ q = b := fun h => e h.symm
      simp only [if_neg e']
      by_cases e2 : b0 = q
      · subst e2
        rw [if_pos rfl] at hO; cases hO
        simp only [if_true]
        refine ⟨by rw [hnot b0 (by rw [hkey0]; simp)]; exact hkey0, ?_, fun q hq => ?_, c0, Ty0, vals0, rest0, hc0, hcl0, ?_⟩
        · rw [List.nodup_append]
          exact ⟨hn1, hn4, fun a ha b hb => hn3 a ha b (by simp [hb])⟩
        · have hq' : q ∈ fs b0 := by rw [hfs0]; rcases List.mem_append.1 hq with h | h <;> simp [h]
          have : q ∉ fx := fun hm => by
            rcases List.mem_append.1 hq with h | h
            · exact hn3 q h q (by simp [hm]) rfl
            · exact hn5 q hm q h rfl
          rw [hnot' q this]; exact hfso0 q hq'
        · have := hset (.arr b 0 l.length sz) [] (by simp only [Rep]; exact ⟨trivial, cap, hy, h1, h2, hblk⟩)
          simpa using this
      · rw [if_neg e2] at hO
        have e2' : ¬ q = b0 := fun h => e2 h.symm
        obtain ⟨g1, g2, g3, g4⟩ := hd.obj q cells hO
        simp only [if_neg e2']
        exact ⟨by rw [hnot q (by rw [g1]; simp)]; exact g1, g2, fun k hk => by rw [hnot k (by rw [g3 k hk]; simpa using e2')]; exact g3 k hk, g4⟩

end

theorem EndsG.imp {L : Nat → Nat} {P : Program} {fn : Func} {s : AS} {Q : AV → Sto → Prop} (h : Imp L s (fun s' => EndsG L P fn s' Q)) : EndsG L P fn s Q := by
  intro B F0 w0 a w hd
  obtain ⟨s', h1, h2⟩ := h B F0 w0 a w hd
  exact h1 B F0 w0 a w h2

theorem subO_two {b1 b2 : Nat} {c1 c1' c2 c2' : List AV} {o : Sto} (hne : b1 ≠ b2) (h1 : c1 = c1') (h2 : c2 = c2') : subO [(b1, some c1), (b2, some c2)] ((b1, some c1') :: (b2, some c2') :: o) := by
  subst h1 h2; exact ⟨O_eq _ _ _, by rw [O_ne hne, O_eq], trivial⟩
theorem mkC_at {α : Type} [Inhabited α] (f : α → AV) (zs : List Value) (sz : Nat) (hf : ∀ x, (f x).cells.length = sz) (hz : zs.length = sz) (l : List α) (k : Nat) (hk : k < l.length) :
    (mkC f zs l k).take (k * sz) ++ (f (at_ l k)).cells ++ (mkC f zs l k).drop (k * sz + sz) = mkC f zs l (k + 1) := by
  have : at_ l k = l[k] := by unfold at_; rw [List.getElem?_eq_getElem hk]; rfl
  rw [this]; exact mkC_step f zs sz hf hz l k hk

/-- a slice that was made and filled is owned -/
theorem AW.made {L : Nat → Nat} {P : Program} {c : Code} {n : Nat} {t : List (Nat × AV)} {Q : Exit → AS → Prop} {α : Type} {f : α → AV} {zs : List Value} {l : List α} {k b sz : Nat} (i : Nat) (hT : T t i = .arr b 0 l.length sz) (hk : ¬ k < l.length) (hkl : k ≤ l.length) (hel : ∀ x, (f x).elem sz = true)
    (h : AW L P c ⟨n, (i, .sl true sz (l.map f)) :: t, []⟩ Q) : AW L P c ⟨n, t, [(b, some (mkC f zs l k))]⟩ Q := by
  have hk' : k = l.length := by omega
  subst hk'
  rw [mkC_end]
  refine AW.imp (Imp.bind (Q := fun s' => s' = ⟨n, (i, .sl true sz (l.map f)) :: t, (b, none) :: [(b, some ((l.map f).flatMap AV.cells))]⟩) (Imp.fold i (b := b) (len := l.length) (sz := sz) (cells := (l.map f).flatMap AV.cells) (l := l.map f) hT (O_eq _ _ _) (by simp) ?_ ?_ rfl) ?_)
  · rw [List.take_of_length_le]
    rw [flat_elem_len (sz := sz) (by intro z hz; simp only [List.mem_map] at hz; obtain ⟨x, _, rfl⟩ := hz; exact hel x)]; simp
  · intro z hz; simp only [List.mem_map] at hz; obtain ⟨x, _, rfl⟩ := hz; exact hel x
  · rintro _ rfl
    exact Imp.weak h (fun _ => .inl rfl) (fun b cells hb => by simp [O] at hb)
theorem BCtr.of {L : Nat → Nat} {P : Program} {f : FuncId} {sz : Nat} {l rest : List AV} {res : AV} {l' : List AV} {pre : Prop} (he : enters P f = true) (h1 : ∀ b, Ctr L P f [(b, some (l.flatMap AV.cells))] (.arr b 0 l.length sz :: rest) res [some (l'.flatMap AV.cells)] pre)
    (h2 : l = [] → Ctr L P f [] (.sl false sz [] :: rest) res [] pre ∧ l' = []) (hlen : l'.length = l.length) (hel : ∀ x, x ∈ l → x.elem sz = true) (hel' : ∀ x, x ∈ l' → x.elem sz = true) : BCtr L P f sz l rest res l' pre :=
  ⟨he, fun hp => ⟨fun b => (h1 b).out hp, fun e => ⟨(h2 e).1.pure hp, (h2 e).2⟩, hlen, hel, hel'⟩⟩

theorem fl_str (l : List (List UInt8)) : (l.map AV.str).flatMap AV.cells = l.map AV.str := by
  induction l with
  | nil => rfl
  | cons c l ih => simp only [List.map_cons, List.flatMap_cons, ih]; rfl
theorem unb_nil : unb [] = some [] := rfl
theorem unb_cons {n : Int} {l : List AV} (h0 : 0 ≤ n) (h1 : n ≤ 255) : unb (.v (.int .u8 n) :: l) = (unb l).map (UInt8.ofNat n.toNat :: ·) := by
  simp only [unb]; rw [if_pos ⟨h0, h1⟩]
theorem tmod10 (n : Nat) : Int.tmod (n : Int) 10 = ((n % 10 : Nat) : Int) := by
  rw [Int.tmod_eq_emod_of_nonneg (by omega)]; omega
theorem tdiv10 (n : Nat) : Int.tdiv (n : Int) 10 = ((n / 10 : Nat) : Int) := by
  rw [Int.tdiv_eq_ediv_of_nonneg (by omega)]; omega
attribute [go_sem] fl_str unb_nil unb_cons tmod10 tdiv10
end Go.Ab
namespace Go.Ab
/-- a contract with a relation between what comes out -/
class GCtr (L : Nat → Nat) (P : Program) (f : FuncId) (os : Sto) (args : List AV) (Q : outParam (AV → Sto → Prop)) (pre : outParam Prop) : Prop where
  en : enters P f = true
  out : pre → GenC L P f os args Q

/-- what comes after a call of which only a relation is known -/
def GK (os rs : Sto) (Q : AV → Sto → Prop) [K : Hd (AV → Sto → Prop)] : Prop := ∀ res os', Q res os' → os'.map Prod.fst = rs.map Prod.fst ∧ K.v res (mergeO os os')

theorem GK.intro {os rs : Sto} {Q : AV → Sto → Prop} {K : AV → Sto → Prop} (h : ∀ res os', Q res os' → os'.map Prod.fst = rs.map Prod.fst ∧ K res (mergeO os os')) : GK os rs Q (K := ⟨K⟩) := h

theorem CallN.gctr {L : Nat → Nat} {P : Program} {os rs : Sto} {la : List AV} {bo : Option (Nat × Nat × List AV)} {rest : List AV} {f : FuncId} {args : List AV} {K : AV → Sto → Prop} {KB : Nat → Nat → List AV → AV → Prop} {KX : CallX}
    {Q : AV → Sto → Prop} {pre : Prop} [h : GCtr L P f rs args Q pre] (hn : AV.nownL args = true) (hp : pre) (hK : GK os rs Q (K := ⟨K⟩)) : CallN L P os rs la bo rest f args (K := ⟨K⟩) (KB := ⟨KB⟩) (KX := ⟨KX⟩) :=
  CallN.gen h.en hn (h.out hp) hK

theorem GCtr.of_body {L : Nat → Nat} {P : Program} {f : FuncId} {fn : Func} {c : Code} {os : Sto} {args : List AV} {Q : AV → Sto → Prop} {pre : Prop} (he : enters P f = true) (hf : P.funcs[f]? = some fn) (hb : fn.body = some c) (hn : Nat.ble args.length fn.ntmps = true)
    (h : pre → AW L P c ⟨fn.ntmps, zipT 0 args, os⟩ (finG L P fn Q)) : GCtr L P f os args Q pre :=
  ⟨he, fun hp => GenC.of_body hf hb hn (h hp)⟩

/-- a contract of a function that gives a pointer to a new object -/
class NCtr (L : Nat → Nat) (P : Program) (f : FuncId) (args : List AV) (Q : outParam (List AV → Prop)) (pre : outParam Prop) : Prop where
  en : enters P f = true
  out : pre → GenC L P f [] args (fun res os' => ∃ b cells, res = .ptr b 0 ∧ os' = [(b, some cells)] ∧ Q cells)
/-- what comes after it -/
def NK (os : Sto) (Q : List AV → Prop) [K : Hd (AV → Sto → Prop)] : Prop := ∀ b cells, Q cells → nfO os b → K.v (.ptr b 0) ((b, some cells) :: os)
theorem NCtr.of_body {L : Nat → Nat} {P : Program} {f : FuncId} {fn : Func} {c : Code} {args : List AV} {Q : List AV → Prop} {pre : Prop} (he : enters P f = true) (hf : P.funcs[f]? = some fn) (hb : fn.body = some c) (hn : Nat.ble args.length fn.ntmps = true)
    (h : pre → AW L P c ⟨fn.ntmps, zipT 0 args, []⟩ (finG L P fn (fun res os' => ∃ b cells, res = .ptr b 0 ∧ os' = [(b, some cells)] ∧ Q cells))) : NCtr L P f args Q pre :=
  ⟨he, fun hp => GenC.of_body hf hb hn (h hp)⟩
end Go.Ab
