/-
  The logic's control: regions, blocks, loops.
-/
import Derived.Test.YtkdchlggdcmkbaaAbBuild2
set_option linter.unusedSimpArgs false
set_option linter.unusedVariables false
namespace Go.Ab
open Go.RowKit (Below)

/-- what a piece of code does to the states -/
def AW (L : Nat → Nat) (P : Program) (c : Code) (s : AS) (Q : Exit → AS → Prop) : Prop :=
  ∀ B F0 w0 a w, Den L B F0 w0 s a w → c.wp P (fun e a' w' => ∃ s', Q e s' ∧ Den L B F0 w0 s' a' w') a w

def OpsW (L : Nat → Nat) (P : Program) (ops : Array Oper) (l : List Nat) (s : AS) (K : AS → Prop) : Prop :=
  ∀ B F0 w0 a w (Q : Exit → Act → World → Prop), Den L B F0 w0 s a w → (∀ s' a' w', K s' → Den L B F0 w0 s' a' w' → Q .normal a' w') → wpOps P ops Q l a w

section
variable {L : Nat → Nat} {P : Program} {s : AS} {Q : Exit → AS → Prop}

theorem AW.mono {c : Code} {Q' : Exit → AS → Prop} (h : AW L P c s Q) (hq : ∀ e s, Q e s → Q' e s) : AW L P c s Q' :=
  fun B F0 w0 a w hd => wp_mono (h B F0 w0 a w hd) fun _ _ _ ⟨s', h1, h2⟩ => ⟨s', hq _ _ h1, h2⟩

theorem AW.skip (h : Q .normal s) : AW L P .skip s Q := fun _ _ _ _ _ hd => wp_skip ⟨s, h, hd⟩
theorem AW.exit {id : Nat} (h : Q (.exit id) s) : AW L P (.exit id) s Q := fun _ _ _ _ _ hd => wp_exit ⟨s, h, hd⟩
theorem AW.ret (h : Q .ret s) : AW L P .ret s Q := fun _ _ _ _ _ hd => wp_ret ⟨s, h, hd⟩

/-- behind a first piece -/
def thenQ (next : AS → Prop) (Q : Exit → AS → Prop) : Exit → AS → Prop
  | .normal, s => next s
  | e, s => Q e s

theorem AW.seq {x y : Code} (h : AW L P x s (thenQ (fun s' => AW L P y s' Q) Q)) : AW L P (.seq x y) s Q := by
  intro B F0 w0 a w hd
  refine wp_seq (wp_mono (h B F0 w0 a w hd) ?_)
  rintro e a' w' ⟨s', h1, h2⟩
  cases e with
  | normal => exact h1 B F0 w0 a' w' h2
  | _ => exact ⟨s', h1, h2⟩

def blockQ (id : Nat) (Q : Exit → AS → Prop) : Exit → AS → Prop
  | .exit id', s => if id' = id then Q .normal s else Q (.exit id') s
  | e, s => Q e s

theorem AW.block {id : Nat} {c : Code} (h : AW L P c s (blockQ id Q)) : AW L P (.block id c) s Q := by
  intro B F0 w0 a w hd
  refine wp_block (wp_mono (h B F0 w0 a w hd) ?_)
  rintro e a' w' ⟨s', h1, h2⟩
  cases e with
  | exit id' =>
    simp only [blockQ] at h1
    simp only [Exit.inBlock]
    split
    · rename_i e; rw [if_pos e] at h1; exact ⟨s', h1, h2⟩
    · rename_i e; rw [if_neg e] at h1; exact ⟨s', h1, h2⟩
  | _ => exact ⟨s', h1, h2⟩

theorem AW.cond {c : Operand} {x y : Code} {t : Bool} (hc : ev s.t c = .v (.bool t)) (ht : t = true → AW L P x s Q) (hf : t = false → AW L P y s Q) : AW L P (.cond c x y) s Q := by
  intro B F0 w0 a w hd
  have hd' := hd
  obtain ⟨F, own, fp, fs, h⟩ := hd'
  exact wp_cond_split (h.val hc) (fun e => ht e B F0 w0 a w hd) (fun e => hf e B F0 w0 a w hd)

theorem least {J : Nat → Prop} (h : ∃ n, J n) : ∃ n, J n ∧ ∀ m, J m → n ≤ m := by
  obtain ⟨n, hn⟩ := h
  induction n using Nat.strongRecOn with
  | _ n ih =>
    by_cases e : ∃ m, m < n ∧ J m
    · obtain ⟨m, hm, hj⟩ := e
      exact ih m hm hj
    · exact ⟨n, hn, fun m hm => Nat.le_of_not_lt fun hlt => e ⟨m, hlt, hm⟩⟩

theorem AW.loop {c : Code} (I : Nat → AS → Prop) (n : Nat) (h0 : I n s) (round : ∀ n s, I n s → AW L P c s (thenQ (fun s' => ∃ m, m < n ∧ I m s') Q)) : AW L P (.loop c) s Q := by
  intro B F0 w0 a w hd
  classical
  let J : Act → World → Nat → Prop := fun a w n => ∃ s, I n s ∧ Den L B F0 w0 s a w
  let μ : Act → World → Nat := fun a w => if h : ∃ n, J a w n then Classical.choose (least h) else 0
  refine wp_loop (fun a w => ∃ n, J a w n) μ ⟨n, s, h0, hd⟩ ?_
  intro a w hJ
  obtain ⟨⟨s, hI, hd⟩, hmin⟩ := Classical.choose_spec (least hJ)
  refine wp_mono (round _ s hI B F0 w0 a w hd) ?_
  rintro e a' w' ⟨s', h1, h2⟩
  cases e with
  | normal =>
    obtain ⟨m, hm, hI'⟩ := h1
    refine ⟨⟨m, s', hI', h2⟩, ?_⟩
    have hJ' : ∃ n, J a' w' n := ⟨m, s', hI', h2⟩
    simp only [μ, dif_pos hJ, dif_pos hJ']
    exact Nat.lt_of_le_of_lt ((Classical.choose_spec (least hJ')).2 m ⟨s', hI', h2⟩) hm
  | _ => exact ⟨s', h1, h2⟩

/-- a state that says less -/
theorem Den.weaken {B : Nat → Prop} {F0 : Nat → Prop} {w0 : World} {a : Act} {w : World} {s' : AS} (h : Den L B F0 w0 s a w) (hn : s'.n = s.n) (ht : ∀ i, T s'.t i = T s.t i ∨ T s'.t i = .dead)
    (ho : ∀ b cells, O s'.o b = some cells → O s.o b = some cells) : Den L B F0 w0 s' a w := by
  obtain ⟨F, own, fp, fs, h⟩ := h
  classical
  refine ⟨F, own, fun i => if T s'.t i = T s.t i then fp i else [], fs, { h with size := by rw [hn]; exact h.size, slots := ?_, sn := ?_, so := ?_, obj := fun b cells hb => h.obj b cells (ho b cells hb) }⟩
  · intro i
    by_cases e : T s'.t i = T s.t i
    · simp only [if_pos e]; rw [e]; exact h.slots i
    · simp only [if_neg e]
      rcases ht i with e' | e'
      · exact absurd e' e
      · rw [e']; simp [Rep]
  · intro i
    split
    · exact h.sn i
    · simp
  · intro i b hb
    split at hb
    · exact h.so i b hb
    · simp at hb

theorem AW.weaken {c : Code} {s' : AS} (h : AW L P c s' Q) (hn : s'.n = s.n) (ht : ∀ i, T s'.t i = T s.t i ∨ T s'.t i = .dead)
    (ho : ∀ b cells, O s'.o b = some cells → O s.o b = some cells) : AW L P c s Q :=
  fun B F0 w0 a w hd => h B F0 w0 a w (hd.weaken hn ht ho)

/-- the list of slots that are kept, checked by reckoning -/
def keepT (t : List (Nat × AV)) (ks : List Nat) : List (Nat × AV) := ks.map fun i => (i, T t i)

theorem T_keep (t : List (Nat × AV)) (ks : List Nat) (i : Nat) : T (keepT t ks) i = T t i ∨ T (keepT t ks) i = .dead := by
  induction ks with
  | nil => exact .inr rfl
  | cons k ks ih =>
    simp only [keepT, List.map_cons, T]
    by_cases e : k = i
    · subst e; simp
    · have : (k == i) = false := by simpa using e
      rw [this]; exact ih

/-- a region whose order is the text's -/
theorem AW.region {id : Nat} {ops : Array Oper} (h : OpsW L P ops (List.range ops.size) s (fun s' => Q .normal s')) : AW L P (.region id ops false) s Q := by
  intro B F0 w0 a w hd
  exact wp_region (h B F0 w0 a w _ hd fun s' a' w' h1 h2 => ⟨s', h1, h2⟩)

theorem OpsW.nil {ops : Array Oper} {K : AS → Prop} (h : K s) : OpsW L P ops [] s K := fun _ _ _ a w _ hd hQ => hQ s a w h hd

theorem OpsW.cons {ops : Array Oper} {i : Nat} {l : List Nat} {o : Oper} {K : AS → Prop} (ho : ops[i]? = some o) (hg : o.guard = none) (h : OpW L P o s (fun s' => OpsW L P ops l s' K)) : OpsW L P ops (i :: l) s K := by
  intro B F0 w0 a w Q hd hQ
  simp only [wpOps, ho]
  rw [if_pos (by simp [Region.wanted, hg])]
  exact .inl (h B F0 w0 a w _ Q hd fun s' a' w' h1 h2 => h1 B F0 w0 a' w' Q h2 hQ)

/-- a guard's slot: is it written, and what it holds -/
def gval : AV → Option (Bool × Bool)
  | .v (.bool g) => some (true, g)
  | .cnd G (.v (.bool g)) => some (G, g)
  | _ => none

theorem yielded_of {B : Nat → Prop} {F0 : Nat → Prop} {w0 : World} {a : Act} {w : World} (h : Den L B F0 w0 s a w) {ops : Array Oper} {j d : Nat} {oj : Oper} {G g : Bool} (hj : ops[j]? = some oj) (hd : oj.dst = some d) (hg : gval (T s.t d) = some (G, g)) (hlt : Nat.blt d s.n = true) :
    yielded ops a.tmps j = if G then some g else none := by
  obtain ⟨F, own, fp, fs, h⟩ := h
  have hr := h.slots d
  have hlt' : d < a.tmps.size := by rw [h.size]; simpa using hlt
  have key : ∀ y, a.tmps.getD d undef = y → a.tmps[d]? = some y := by
    intro y this
    rw [Array.getD_eq_getD_getElem?, Array.getElem?_eq_getElem hlt'] at this
    rw [Array.getElem?_eq_getElem hlt']
    simpa using this
  generalize T s.t d = x at hg hr
  unfold gval at hg
  split at hg
  · cases hg
    simp only [Rep] at hr
    simp [yielded, hj, hd, key _ hr.1]
  · cases hg
    simp only [Rep] at hr
    cases G with
    | true => simp [yielded, hj, hd, key _ (hr.1 rfl).1]
    | false => simp [yielded, hj, hd, key _ (hr.2 rfl).1, undef]
  · cases hg

theorem LOp.cnd {o : Oper} {x : AV} (h : LOp L P s o x []) : LOp L P s o (.cnd true x) [] := by
  intro B F0 w0 F own fp fs a w next Q hd hnext
  refine h B F0 w0 F own fp fs a w next Q hd fun v w' g => hnext v w' ⟨g.below, ?_⟩
  obtain ⟨F', fx, h1, h2, h3, h4, h5⟩ := g.rep
  exact ⟨F', fx, h1, h2, by simp only [Rep]; exact ⟨fun _ => h3, fun e => by cases e⟩, h4, h5⟩

theorem OpsW.cons_guard {ops : Array Oper} {i j d : Nat} {l : List Nat} {o oj : Oper} {want G g : Bool} {x : AV} {K : AS → Prop} (ho : ops[i]? = some o) (hg : o.guard = some (j, want)) (hj : ops[j]? = some oj) (hd : oj.dst = some d) (hT : gval (T s.t d) = some (G, g)) (hlt : Nat.blt d s.n = true)
    (hdo : dstOK s.n o.dst = true)
    (h1 : (G && (g == want)) = true → LOp L P s o x []) (h2 : OpsW L P ops l ⟨s.n, put s.t o.dst (.cnd (G && (g == want)) x), s.o⟩ K) : OpsW L P ops (i :: l) s K := by
  intro B F0 w0 a w Q hden hQ
  have hy := yielded_of hden hj hd hT hlt
  simp only [wpOps, ho, Region.wanted, hg, hy]
  cases hw : (G && (g == want)) with
  | true =>
    simp at hw
    obtain ⟨rfl, rfl⟩ := hw
    rw [if_pos (by simp)]
    have hl := (h1 (by simp)).cnd
    refine .inl ((hl.opW hdo (K := fun s' => s' = ⟨s.n, put s.t o.dst (.cnd true x), s.o⟩) rfl) B F0 w0 a w _ Q hden fun s' a' w' e h' => ?_)
    subst e
    refine h2 B F0 w0 a' w' Q ?_ hQ
    simpa using h'
  | false =>
    rw [if_neg (by cases G <;> simp_all)]
    refine h2 B F0 w0 _ w Q ?_ hQ
    obtain ⟨F, own, fp, fs, h⟩ := hden
    have := h.put (x := .cnd false x) (v := undef) (fx := []) [] o.dst hdo (Below.refl _ _) (fun _ h => h) (fun _ h => .inl h) (by simp [Rep]) (by simp) (by simp)
    rw [hw]
    simpa [killL] using this
end
end Go.Ab
