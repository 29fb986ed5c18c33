/-
  The logic's stepping: operations that change objects, contracts as a class.
-/
import Derived.Test.YtkdchlggdcmkbaaAbN2
set_option linter.unusedSimpArgs false
set_option linter.unusedVariables false
namespace Go.Ab
open Go.RowKit (Below)

mutual
def AV.keys : AV → List Nat
  | .arr b _ _ _ => [b]
  | .ptr b _ => [b]
  | .agg l => AV.keysL l
  | .tup l => AV.keysL l
  | .fn _ l => AV.keysL l
  | .cnd _ x => x.keys
  | _ => []
def AV.keysL : List AV → List Nat
  | [] => []
  | x :: xs => x.keys ++ AV.keysL xs
end

/-- objects by their numbers -/
def pickO (os : Sto) : List Nat → Sto
  | [] => []
  | b :: bs => (b, O os b) :: pickO os bs

def cellsK : Sto → List Nat
  | [] => []
  | (_, some cells) :: o => AV.keysL cells ++ cellsK o
  | (_, none) :: o => cellsK o

/-- the objects that some values lead to -/
def reachO (os : Sto) (args : List AV) : Sto := pickO os (AV.keysL args) ++ pickO os (cellsK (pickO os (AV.keysL args)))

theorem pickO_append (os : Sto) : ∀ (a b : List Nat), pickO os (a ++ b) = pickO os a ++ pickO os b
  | [], _ => rfl
  | x :: a, b => by simp only [List.cons_append, pickO, pickO_append os a b]

theorem O_pick {os : Sto} {b : Nat} {cells : List AV} : ∀ {bs : List Nat}, O (pickO os bs) b = some cells → O os b = some cells
  | [], h => by simp [pickO, O] at h
  | x :: bs, h => by
    simp only [pickO, O] at h
    split at h
    · rename_i e; subst e; exact h
    · exact O_pick h

theorem O_reach {os : Sto} {args : List AV} {b : Nat} {cells : List AV} (h : O (reachO os args) b = some cells) : O os b = some cells := by
  rw [reachO, ← pickO_append] at h; exact O_pick h

def updO : Sto → Nat → Option (List AV) → Sto
  | [], _, _ => []
  | p :: o, b, c => if p.1 = b then (b, c) :: o else p :: updO o b c

theorem updO_eq (b : Nat) (c c' : Option (List AV)) (o : Sto) : updO ((b, c') :: o) b c = (b, c) :: o := by simp [updO]
theorem updO_ne {b b' : Nat} (h : b' ≠ b) (c c' : Option (List AV)) (o : Sto) : updO ((b', c') :: o) b c = (b', c') :: updO o b c := by simp [updO, h]
theorem O_upd : ∀ (o : Sto) (b : Nat) (c : Option (List AV)) (q : Nat), O (updO o b c) q = if q = b ∧ b ∈ o.map Prod.fst then c else O o q
  | [], b, c, q => by simp [updO, O]
  | p :: o, b, c, q => by
    simp only [updO]
    by_cases h : p.1 = b
    · rw [if_pos h]
      by_cases e : b = q
      · subst e; simp [O, h]
      · have e' : ¬ q = b := fun h => e h.symm
        have : ¬ p.1 = q := fun h' => e (h.symm.trans h')
        simp [O, e, e', this]
    · rw [if_neg h]
      by_cases e : p.1 = q
      · have : ¬ q = b := fun h' => h (e.trans h')
        simp [O, e, this]
      · have h' : ¬ b = p.1 := fun e => h e.symm
        simp only [O, if_neg e, O_upd o b c q, List.map_cons, List.mem_cons, h', false_or]

def mergeO : Sto → Sto → Sto
  | o, [] => o
  | o, p :: o' => updO (mergeO o o') p.1 p.2

theorem upd_keys : ∀ (o : Sto) (b : Nat) (c : Option (List AV)), (updO o b c).map Prod.fst = o.map Prod.fst
  | [], _, _ => rfl
  | p :: o, b, c => by
    simp only [updO]
    split
    · rename_i h; simp [h]
    · simp [upd_keys o b c]

theorem merge_keys : ∀ (o o' : Sto), (mergeO o o').map Prod.fst = o.map Prod.fst
  | _, [] => rfl
  | o, p :: o' => by rw [mergeO, upd_keys, merge_keys o o']

theorem O_merge : ∀ (o o' : Sto) (q : Nat), O (mergeO o o') q = if q ∈ o'.map Prod.fst ∧ q ∈ o.map Prod.fst then O o' q else O o q
  | o, [], q => by simp [mergeO]
  | o, p :: o', q => by
    rw [mergeO, O_upd, merge_keys, O_merge o o' q]
    by_cases e : q = p.1
    · subst e
      by_cases h : p.1 ∈ o.map Prod.fst
      · simp [h, O]
      · simp only [h, and_false, if_false]
    · have e' : ¬ p.1 = q := fun h => e h.symm
      simp only [e, false_and, if_false, List.map_cons, List.mem_cons, false_or, O, if_neg e']

def zipK : Sto → List (Option (List AV)) → Sto
  | [], _ => []
  | p :: o, [] => (p.1, none) :: zipK o []
  | p :: o, c :: cs => (p.1, c) :: zipK o cs

theorem zipK_keys : ∀ (o : Sto) (cs : List (Option (List AV))), (zipK o cs).map Prod.fst = o.map Prod.fst
  | [], _ => rfl
  | p :: o, [] => by simp [zipK, zipK_keys o []]
  | p :: o, c :: cs => by simp [zipK, zipK_keys o cs]

/-- a function's contract, to be found by what it is called with -/
class Ctr (L : Nat → Nat) (P : Program) (f : FuncId) (os : Sto) (args : List AV) (res : outParam AV) (cs : outParam (List (Option (List AV)))) (pre : outParam Prop) : Prop where
  en : enters P f = true
  out : pre → GenC L P f os args (fun r os' => r = res ∧ os' = zipK os cs)

theorem Ctr.of_pure {L : Nat → Nat} {P : Program} {f : FuncId} {args : List AV} {res : AV} {pre : Prop} (he : enters P f = true) (h : pre → PureC L P f args res) : Ctr L P f [] args res [] pre :=
  ⟨he, fun hp => GenC.of_pure (h hp)⟩

theorem Ctr.pure {L : Nat → Nat} {P : Program} {f : FuncId} {args : List AV} {res : AV} {cs : List (Option (List AV))} {pre : Prop} (h : Ctr L P f [] args res cs pre) (hp : pre) : PureC L P f args res :=
  PureC.of_gen ((h.out hp).mono fun _ _ h => h.1)

abbrev lowF := lowP

theorem lowF_low (os : Sto) : ∀ l : List AV, LowL os l (lowF l)
  | [] => .nil
  | x :: xs => by
    refine .cons ?_ (lowF_low os xs)
    cases h : x.nown with
    | true => exact .inl ⟨h, by simp⟩
    | false => exact .inr (.inr (by simp))

/-- a function that works in place on a slice that its caller owns -/
def BorC (L : Nat → Nat) (P : Program) (f : FuncId) (sz : Nat) (l rest : List AV) (res : AV) (l' : List AV) : Prop :=
  (∀ b, GenC L P f [(b, some (l.flatMap AV.cells))] (.arr b 0 l.length sz :: rest) (fun r os' => r = res ∧ os' = [(b, some (l'.flatMap AV.cells))])) ∧
  (l = [] → PureC L P f (.sl false sz [] :: rest) res ∧ l' = []) ∧ l'.length = l.length ∧ (∀ x, x ∈ l → x.elem sz = true) ∧ (∀ x, x ∈ l' → x.elem sz = true)

class BCtr (L : Nat → Nat) (P : Program) (f : FuncId) (sz : Nat) (l rest : List AV) (res : outParam AV) (l' : outParam (List AV)) (pre : outParam Prop) : Prop where
  en : enters P f = true
  out : pre → BorC L P f sz l rest res l'

def borOf (t : List (Nat × AV)) : List Operand → Option (Nat × Nat × List AV)
  | .tmp i :: _ => match T t i with
    | .sl true sz l => some (i, sz, l)
    | _ => none
  | _ => none

/-- a call: rs: the objects that it is handed; la: the arguments as they are only read; bo: a slice on which it works in place -/
def CallN (L : Nat → Nat) (P : Program) (os rs : Sto) (la : List AV) (bo : Option (Nat × Nat × List AV)) (rest : List AV) (f : FuncId) (args : List AV) (K : AV → Sto → Prop) (KB : Nat → Nat → List AV → AV → Prop) : Prop :=
  enters P f = true ∧ ((AV.nownL args = true ∧ ∃ Q, GenC L P f rs args Q ∧ ∀ res os', Q res os' → os'.map Prod.fst = rs.map Prod.fst ∧ K res (mergeO os os')) ∨
    (∃ res, res.closed = true ∧ PureC L P f la res ∧ K res os) ∨
    ∃ i sz l, bo = some (i, sz, l) ∧ AV.nownL rest = true ∧ ∃ res l', BorC L P f sz l rest res l' ∧ KB i sz l' res)

@[congr] theorem CallN.congr {L : Nat → Nat} {P : Program} {os os' rs rs' : Sto} {la la' : List AV} {bo bo' : Option (Nat × Nat × List AV)} {rest rest' : List AV} {f : FuncId} {args args' : List AV} {K : AV → Sto → Prop} {KB : Nat → Nat → List AV → AV → Prop} (h1 : os = os') (h2 : rs = rs') (h3 : la = la') (h5 : bo = bo') (h6 : rest = rest') (h4 : args = args') : CallN L P os rs la bo rest f args K KB = CallN L P os' rs' la' bo' rest' f args' K KB := by
  subst h1 h2 h3 h4 h5 h6; rfl

section
variable {L : Nat → Nat} {P : Program} {os rs : Sto} {la : List AV} {bo : Option (Nat × Nat × List AV)} {rest : List AV} {f : FuncId} {args : List AV} {K : AV → Sto → Prop} {KB : Nat → Nat → List AV → AV → Prop}

theorem CallN.ctr {res : AV} {cs : List (Option (List AV))} {pre : Prop} [h : Ctr L P f rs args res cs pre] (hn : AV.nownL args = true) (hp : pre) (hK : K res (mergeO os (zipK rs cs))) : CallN L P os rs la bo rest f args K KB :=
  ⟨h.en, .inl ⟨hn, _, h.out hp, by rintro _ _ ⟨rfl, rfl⟩; exact ⟨zipK_keys _ _, hK⟩⟩⟩

theorem CallN.gen {Q : AV → Sto → Prop} (he : enters P f = true) (hn : AV.nownL args = true) (h : GenC L P f rs args Q) (hK : ∀ res os', Q res os' → os'.map Prod.fst = rs.map Prod.fst ∧ K res (mergeO os os')) : CallN L P os rs la bo rest f args K KB :=
  ⟨he, .inl ⟨hn, _, h, hK⟩⟩

theorem CallN.low {res : AV} {cs : List (Option (List AV))} {pre : Prop} [h : Ctr L P f [] la res cs pre] (hc : res.closed = true) (hp : pre) (hK : K res os) : CallN L P os rs la bo rest f args K KB :=
  ⟨h.en, .inr (.inl ⟨_, hc, h.pure hp, hK⟩)⟩

theorem CallN.bor {i sz : Nat} {l : List AV} {res : AV} {l' : List AV} {pre : Prop} [h : BCtr L P f sz l rest res l' pre] (hn : AV.nownL rest = true) (hp : pre) (hK : KB i sz l' res) : CallN L P os rs la (some (i, sz, l)) rest f args K KB :=
  ⟨h.en, .inr (.inr ⟨i, sz, l, rfl, hn, _, _, h.out hp, hK⟩)⟩
end

/-- a fresh number -/
def nfO : Sto → Nat → Prop
  | [], _ => True
  | (b', some _) :: o, b => b' ≠ b ∧ nfO o b
  | (_, none) :: _, _ => True

theorem Fresh.nf {o : Sto} {b : Nat} (h : Fresh o b) : nfO o b := by
  induction o with
  | nil => trivial
  | cons p o ih =>
    obtain ⟨b', c⟩ := p
    cases c with
    | none => trivial
    | some c =>
      have h1 : b' ≠ b := h b' c (by simp [O])
      refine ⟨h1, ih ?_⟩
      intro q cs hq e
      by_cases e2 : b' = q
      · exact h1 (e2.trans e)
      · exact h q cs (by simp only [O, if_neg e2]; exact hq) e

/-- without an object -/
def rmO : Sto → Nat → Sto
  | [], _ => []
  | p :: o, b => if p.1 = b then rmO o b else p :: rmO o b
theorem rmO_eq (b : Nat) (c : Option (List AV)) (o : Sto) : rmO ((b, c) :: o) b = rmO o b := by simp [rmO]
theorem rmO_ne {b b' : Nat} (h : b' ≠ b) (c : Option (List AV)) (o : Sto) : rmO ((b', c) :: o) b = (b', c) :: rmO o b := by simp [rmO, h]
theorem rmO_nil (b : Nat) : rmO [] b = [] := rfl
theorem O_rm (o : Sto) (b q : Nat) (cs : List AV) (h : O (rmO o b) q = some cs) : q ≠ b ∧ O o q = some cs := by
  induction o with
  | nil => simp [rmO, O] at h
  | cons p o ih =>
    simp only [rmO] at h
    by_cases e : p.1 = b
    · rw [if_pos e] at h
      have := ih h
      refine ⟨this.1, ?_⟩
      have : ¬ p.1 = q := fun e' => this.1 (e'.symm.trans e)
      simp only [O, if_neg this]; exact (ih h).2
    · rw [if_neg e] at h
      by_cases e2 : p.1 = q
      · simp only [O, if_pos e2] at h ⊢
        exact ⟨fun e3 => e (e2.trans e3), h⟩
      · simp only [O, if_neg e2] at h ⊢
        exact ih h

def zlen (P : Program) (e : TypeId) : Option Nat := (zer P e).map List.length

def neTmp : Operand → Nat → Bool
  | .tmp j, i => !(Nat.beq j i)
  | _, _ => true

theorem neTmp_iff {y : Operand} {i : Nat} (h : neTmp y i = true) : y ≠ .tmp i := by
  intro e; subst e; simp [neTmp] at h

/-- append -/
def appVc (L : Nat → Nat) (P : Program) (os : Sto) (t : List (Nat × AV)) (d : Option Nat) (x y : Operand) (t1 u : TypeId) (K : List (Nat × AV) → Sto → Prop) : Prop :=
  match elm P t1 with
  | none => False
  | some (e, sz, bytes) => (zlen P e = some sz ∧ (knd P u).isSome = true) ∧ (match x, ev t x with
    | .tmp i, .sl true z l => match srcE sz (ev t y) with
      | none => False
      | some l' => (z = sz ∧ neTmp y i = true ∧ l.all (AV.elem sz) = true ∧ l'.all (AV.elem sz) = true ∧ (l'.flatMap AV.cells).all AV.one = true) ∧
          ((l.length + l'.length ≤ L sz ∧ (l.length + l'.length) * bytes ≤ 140737488355328 ∧ l.length + l'.length ≤ 9223372036854775807) ∧
          K (put (killL t (kills t [.tmp i, y])) d (.sl true sz (l ++ l'))) os)
    | _, .v (.slice none 0 0) => match srcE sz (ev t y) with
      | none => False
      | some l' => (l'.all (AV.elem sz) = true ∧ (l'.flatMap AV.cells).all AV.one = true) ∧
          ((l'.length ≤ L sz ∧ l'.length * bytes ≤ 140737488355328 ∧ l'.length ≤ 9223372036854775807) ∧
          K (put (killL t (kills t [y])) d (.sl true sz l')) os)
    | _, .arr b 0 len z => match O os b, srcE sz (ev t y) with
      | some cells, some l' => (z = sz ∧ cells.length = len * sz ∧ l'.all (AV.elem sz) = true ∧ (l'.flatMap AV.cells).all AV.one = true) ∧
          ((len + l'.length ≤ L sz ∧ (len + l'.length) * bytes ≤ 140737488355328 ∧ len + l'.length ≤ 9223372036854775807) ∧
          ∀ b', nfO (rmO os b) b' → K (put (killL t (kills t [y])) d (.arr b' 0 (len + l'.length) sz)) ((b', some (cells ++ l'.flatMap AV.cells)) :: rmO os b))
      | _, _ => False
    | _, _ => False)

/-- what an operation needs, in the text's order; it may change objects -/
def nvc (L : Nat → Nat) (P : Program) (os : Sto) (t : List (Nat × AV)) (d : Option Nat) (op : Op) (K : List (Nat × AV) → Sto → Prop) : Prop :=
  match op with
  | .alloc ty' => match zer P ty' with
    | some zs => ∀ b, nfO os b → K (put t d (.ptr b 0)) ((b, some (zs.map avz)) :: os)
    | none => False
  | .store ty' ad x => match d, ev t ad, ty P ty' with
    | none, .ptr b off, some (_, m) => match O os b with
      | some cells => ((ev t x).elem m = true ∧ (ev t x).cells.all AV.one = true) ∧ (off + m ≤ cells.length ∧ K (killL t (kills t [x])) (updO os b (some (cells.take off ++ (ev t x).cells ++ cells.drop (off + m)))))
      | none => False
    | _, _, _ => False
  | .load ty' x => match ev t x with
    | .ptr b off => match O os b, ty P ty' with
      | some cells, some (g, m) => match val g m (cells.drop off) with
        | some y => match y.nown with
          | true => K (put t d y) os
          | false => ((g = false → m = 1) ∧ off + m ≤ cells.length) ∧ K (put t d y) (updO os b (some (cells.take off ++ List.replicate m .dead ++ cells.drop (off + m))))
        | none => False
      | _, _ => False
    | _ => ovc L P os (ev t) true op (fun x C => K (put (killL t C) d x) os)
  | .extract x k => match x, ev t x with
    | .tmp i, .tup l => match l[k]? with
      | some y => match y.nown with
        | true => K (put t d y) os
        | false => K (put ((i, .tup (l.set k .dead)) :: t) d y) os
      | none => False
    | _, _ => False
  | .makeSlice ty' x y => match elm P ty', ev t x, ev t y with
    | some (e, sz, bytes), .v (.int _ m), .v (.int _ m') => match zer P e with
      | some zs => (zs.length = sz ∧ m' = m) ∧ ((0 ≤ m ∧ m.toNat ≤ L sz ∧ m.toNat * bytes ≤ 140737488355328 ∧ m.toNat ≤ 9223372036854775807) ∧
          ∀ b, nfO os b → K (put t d (.arr b 0 m.toNat sz)) ((b, some ((List.replicate m.toNat zs).flatten.map avz)) :: os))
      | none => False
    | _, _, _ => False
  | .call c => match c.callee, c.args.toList, c.argTypes.toList with
    | .value y, args, _ => match fnA (ev t y) with
      | some (f, caps) => AV.nownL caps = true ∧ CallN L P os (reachO os (args.map (ev t) ++ caps)) (lowF (args.map (ev t) ++ caps)) (borOf t args) (args.tail.map (ev t) ++ caps) f (args.map (ev t) ++ caps) (fun res os' => K (put t d res) os') (fun i sz l' res => K (put ((i, .sl true sz l') :: t) d res) os)
      | none => False
    | .builtin .append, [x, y], [t1, u] => appVc L P os t d x y t1 u K
    | _, _, _ => ovc L P os (ev t) true op (fun x C => K (put (killL t C) d x) os)
  | _ => ovc L P os (ev t) true op (fun x C => K (put (killL t C) d x) os)

/-- is the operation one that changes objects -/
def isE (t : List (Nat × AV)) : Op → Bool
  | .alloc _ => true
  | .store _ _ _ => true
  | .makeSlice _ _ _ => true
  | .call c => match c.callee with
    | .builtin .append => true
    | .value y => !(AV.keysL (c.args.toList.map (ev t)) ++ (ev t y).keys).isEmpty
    | _ => false
  | _ => false

def AV.unc : AV → AV
  | .cnd true x => x
  | x => x

def uncT : List (Nat × AV) → List (Nat × AV)
  | [] => []
  | p :: t => (p.1, p.2.unc) :: uncT t

/-- where a condition holds -/
def Gd (c : Bool) (p : Prop) : Prop := c = true → p

@[congr] theorem Gd.congr {c c' : Bool} {p : Prop} (h : c = c') : Gd c p = Gd c' p := by subst h; rfl
theorem GdT {p : Prop} : Gd true p = p := by simp [Gd]
theorem GdF {p : Prop} : Gd false p = True := by simp [Gd]

/-- slots that hold what another slot holds -/
def alF : List (Nat × Nat) → Nat → Nat
  | [], j => j
  | p :: al, j => bif Nat.beq p.1 j then p.2 else alF al j

def sbs (al : List (Nat × Nat)) : Operand → Operand
  | .tmp j => .tmp (alF al j)
  | x => x

def alDel : List (Nat × Nat) → Option Nat → List (Nat × Nat)
  | al, none => al
  | [], some _ => []
  | p :: al, some d => bif Nat.beq p.1 d || Nat.beq p.2 d then alDel al (some d) else p :: alDel al (some d)

/-- the operation with the slots that its slots stand for -/
def alOp (al : List (Nat × Nat)) : Op → Op
  | .move x => .move (sbs al x)
  | .assign x => .assign (sbs al x)
  | .call c => .call ⟨c.callee, (c.args.toList.map (sbs al)).toArray, c.argTypes⟩
  | .buildSlice t n ps => .buildSlice t n (ps.toList.map fun p => (p.1, sbs al p.2)).toArray
  | .build t ps => .build t (ps.toList.map fun p => (p.1, sbs al p.2)).toArray
  | .store t a x => .store t a (sbs al x)
  | .indexAddr t x i => .indexAddr t (sbs al x) i
  | .slice t x lo hi mx => .slice t (sbs al x) lo hi mx
  | .field t x k => .field t (sbs al x) k
  | .extract x k => .extract (sbs al x) k
  | .box t x => .box t (sbs al x)
  | op => op

/-- one operation -/
def stp (L : Nat → Nat) (P : Program) (os : Sto) (al : List (Nat × Nat)) (t : List (Nat × AV)) (d : Option Nat) (op : Op) (K : List (Nat × Nat) → List (Nat × AV) → Sto → Prop) : Prop :=
  match op, d with
  | .move (.tmp j), some d => match (T t (alF al j)).nown with
    | false => Nat.beq d (alF al j) = false ∧ K ((d, alF al j) :: alDel al (some d)) ((d, .dead) :: t) os
    | true => K (alDel al (some d)) ((d, T t (alF al j)) :: t) os
  | op, d => nvc L P os t d (alOp al op) (K (alDel al d))

/-- all operations in the text's order -/
def Wn (L : Nat → Nat) (P : Program) (ops : Array Oper) (n : Nat) (K : List (Nat × AV) → Sto → Prop) : List Nat → List (Nat × Nat) → List (Nat × AV) → Sto → Prop
  | [], _, t, os => K t os
  | i :: l, al, t, os =>
    match ops[i]? with
    | none => False
    | some o => dstOK n o.dst = true ∧ (match o.guard with
      | none => stp L P os al t o.dst o.op (fun al' t' os' => Wn L P ops n K l al' t' os')
      | some (j, want) => match (ops[j]?).bind (·.dst) with
        | none => False
        | some d => Nat.blt d n = true ∧ (match gval (T t d) with
          | none => False
          | some (G, g) => match isE t o.op with
            | false => okcK t (G && (g == want)) (stO o.op) ∧
              ovc L P os (evK t (stO o.op)) (G && (g == want)) o.op (fun x C => C = [] ∧ Wn L P ops n K l (alDel al o.dst) (upd o (.cnd (G && (g == want)) x) [] t) os)
            | true => Gd (G && (g == want)) (stp L P os al (uncT t) o.dst o.op (fun al' t' os' => Wn L P ops n K l al' t' os')) ∧ Gd (!(G && (g == want))) (Wn L P ops n K l (alDel al o.dst) (put t o.dst (.cnd false .dead)) os)))
end Go.Ab
