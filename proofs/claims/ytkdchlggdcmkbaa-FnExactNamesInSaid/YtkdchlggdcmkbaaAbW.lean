/-
  The logic's stepping functions.
-/
import Derived.Test.YtkdchlggdcmkbaaAbVc
set_option linter.unusedSimpArgs false
set_option linter.unusedVariables false
namespace Go.Ab
open Go.RowKit (Below)

def killsR (ρ : Operand → AV) : List Operand → List Nat
  | [] => []
  | .tmp i :: xs => bif (ρ (.tmp i)).nown then killsR ρ xs else i :: killsR ρ xs
  | _ :: xs => killsR ρ xs

/-- a type's kind for len -/
def knd (P : Program) (t : TypeId) : Option Bool :=
  match P.underlying t with
  | some .string => some true
  | some (.slice _) => some false
  | _ => none

def lenA : AV → Option (Bool × Nat)
  | .str l => some (true, l.length)
  | .sl _ _ l => some (false, l.length)
  | .arr _ _ len _ => some (false, len)
  | .v (.slice none 0 0) => some (false, 0)
  | _ => none

def bndR (ρ : Operand → AV) (o : Option Operand) (d : Int) : Option Int :=
  match o with
  | none => some d
  | some y => match ρ y with
    | .v (.int _ n) => some n
    | _ => none

def ikd (P : Program) (t : TypeId) : Option IntKind :=
  match P.underlying t with
  | some (.int k) => some k
  | _ => none
def hasU (P : Program) (t : TypeId) : Bool := (P.underlying t).isSome
def byS (P : Program) (t : TypeId) : Bool :=
  match P.underlying t with
  | some (.slice e) => match P.underlying e with
    | some (.int .u8) => true
    | _ => false
  | _ => false

theorem ikd_inv {P : Program} {t : TypeId} {k : IntKind} (h : ikd P t = some k) : P.underlying t = some (.int k) := by
  unfold ikd at h; split at h <;> simp_all
theorem hasU_inv {P : Program} {t : TypeId} (h : hasU P t = true) : ∃ d, P.underlying t = some d := Option.isSome_iff_exists.1 h
theorem byS_inv {P : Program} {t : TypeId} (h : byS P t = true) : ∃ e, P.underlying t = some (.slice e) ∧ P.underlying e = some (.int .u8) := by
  unfold byS at h
  split at h
  · rename_i e he
    split at h
    · rename_i hu; exact ⟨e, he, hu⟩
    · cases h
  · cases h

def isB (P : Program) (t : TypeId) : Bool :=
  match P.underlying t with
  | some .bool => true
  | _ => false

theorem isB_inv {P : Program} {t : TypeId} (h : isB P t = true) : P.underlying t = some .bool := by
  unfold isB at h; split at h <;> simp_all

theorem run_boolV {P : Program} {t : TypeId} (h : isB P t = true) (x y : Operand) (a b : Bool) (w : World) :
    (do eqGuard .eql t x y (.bool a) (.bool b); binOp .eql t (.bool a) (.bool b) : Sem Value).run P w = .ok (.bool (a == b)) w ∧
    (do eqGuard .neq t x y (.bool a) (.bool b); binOp .neq t (.bool a) (.bool b) : Sem Value).run P w = .ok (.bool (a != b)) w := by
  have h1 := isB_inv h
  constructor
  · have := run_eql_bool (P := P) w t a b h1
    simp [eqGuard, this]
  · have := run_neq_bool (P := P) w t a b h1
    simp [eqGuard, this, bne]

/-- a byte of a text -/
def at8 (s : List UInt8) (n : Int) : Int := ((s[n.toNat]?).getD 0).toNat

/-- an element of a slice -/
def idxVc (G : Bool) (l : List AV) (n : Int) (sz : Nat) (K : AV → Prop) : Prop := ∃ x, (G = true → 0 ≤ n ∧ l[n.toNat]? = some x ∧ x.elem sz = true) ∧ K x

@[congr] theorem idxVc.congr {G G' : Bool} {l l' : List AV} {n n' : Int} {sz : Nat} {K : AV → Prop} (h1 : G = G') (h2 : l = l') (h3 : n = n') : idxVc G l n sz K = idxVc G' l' n' sz K := by
  subst h1 h2 h3; rfl

def at_ {α : Type} [Inhabited α] (l : List α) (k : Nat) : α := (l[k]?).getD default

theorem at_get {α : Type} [Inhabited α] {l : List α} {k : Nat} (h : k < l.length) : l[k]? = some (at_ l k) := by
  unfold at_; rw [List.getElem?_eq_getElem h]; rfl

theorem at_mem {α : Type} [Inhabited α] {l : List α} {k : Nat} (h : k < l.length) : at_ l k ∈ l := List.mem_of_getElem? (at_get h)

theorem at_drop {α : Type} [Inhabited α] {l : List α} {k : Nat} (h : k < l.length) : l.drop k = at_ l k :: l.drop (k + 1) := by
  rw [List.drop_eq_getElem_cons h]
  unfold at_; rw [List.getElem?_eq_getElem h]; rfl

theorem idxVc_true {α : Type} [Inhabited α] {f : α → AV} {l : List α} {n : Int} {sz : Nat} {K : AV → Prop} (h0 : 0 ≤ n) (h : n.toNat < l.length) : idxVc true (l.map f) n sz K = ((f (at_ l n.toNat)).elem sz = true ∧ K (f (at_ l n.toNat))) := by
  have e : (l.map f)[n.toNat]? = some (f (at_ l n.toNat)) := by rw [List.getElem?_map, at_get h]; rfl
  apply propext
  constructor
  · rintro ⟨x, hx, hK⟩
    have := hx rfl
    rw [e] at this
    obtain ⟨_, h2, h3⟩ := this
    cases h2; exact ⟨h3, hK⟩
  · rintro ⟨h1, h2⟩
    exact ⟨_, fun _ => ⟨h0, e, h1⟩, h2⟩

theorem idxVc.map {α : Type} [Inhabited α] {G : Bool} {f : α → AV} {l : List α} {n : Int} {sz : Nat} {K : AV → Prop} (hb : G = true → 0 ≤ n ∧ n.toNat < l.length) (he : (f (at_ l n.toNat)).elem sz = true) (hK : K (f (at_ l n.toNat))) : idxVc G (l.map f) n sz K :=
  ⟨_, fun hG => ⟨(hb hG).1, by rw [List.getElem?_map, at_get (hb hG).2]; rfl, he⟩, hK⟩

/-- the arguments as they are only read -/
def lowP : List AV → List AV
  | [] => []
  | x :: xs => (bif x.nown then x else x.frz) :: lowP xs

/-- a call that changes nothing -/
@[reducible] def CallP (L : Nat → Nat) (P : Program) (os : List (Nat × Option (List AV))) (_la : List AV) (G : Bool) (f : FuncId) (args : List AV) (K : AV → Prop) : Prop := ∃ res, (G = true → CallOK L P os f args res) ∧ K res

@[congr] theorem CallP.congr {L : Nat → Nat} {P : Program} {os os' : List (Nat × Option (List AV))} {la la' : List AV} {G G' : Bool} {f : FuncId} {args args' : List AV} {K : AV → Prop} (h1 : os = os') (h3 : la = la') (h2 : G = G') (h4 : args = args') : CallP L P os la G f args K = CallP L P os' la' G' f args' K := by
  subst h1 h2 h3 h4; rfl

def callVc (L : Nat → Nat) (P : Program) (os : List (Nat × Option (List AV))) (ρ : Operand → AV) (G : Bool) (callee : Callee) (args : List Operand) (ts : List TypeId) (K : AV → List Nat → Prop) : Prop :=
  match callee, args, ts with
  | .builtin .len, [x], [t] => match lenA (ρ x) with
    | some (k, n) => knd P t = some k ∧ K (.v (.int .i64 n)) []
    | none => False
  | .builtin .min, [x, y], _ => match ρ x, ρ y with
    | .v (.int k m), .v (.int k' n) => k = k' ∧ K (.v (.int k (if n < m then n else m))) []
    | _, _ => False
  | .builtin .max, [x, y], _ => match ρ x, ρ y with
    | .v (.int k m), .v (.int k' n) => k = k' ∧ K (.v (.int k (if n > m then n else m))) []
    | _, _ => False
  | .value y, args, _ => match fnA (ρ y) with
    | some (f, caps) => AV.nownL caps = true ∧ CallP L P os (lowP (args.map ρ ++ caps)) G f (args.map ρ ++ caps) (fun res => K res [])
    | none => False
  | _, _, _ => False

def ovc (L : Nat → Nat) (P : Program) (os : List (Nat × Option (List AV))) (ρ : Operand → AV) (G : Bool) (op : Op) (K : AV → List Nat → Prop) : Prop :=
  match op with
  | .move x => K (ρ x) (killsR ρ [x])
  | .assign x => K (ρ x) (killsR ρ [x])
  | .pick c a b => match ρ c, gval (ρ a), gval (ρ b) with
    | .v (.bool p), some (Ga, u), some (Gb, v) => (G = true → (p = true → Ga = true) ∧ (p = false → Gb = true)) ∧ K (.v (.bool (bif p then u else v))) []
    | _, _, _ => False
  | .binOp bop bty x y _ => match ρ x, ρ y with
    | .v u, .v v => match binV bop u v with
      | some z => K (.v z) []
      | none => match bop, u, v with
        | .eql, .bool a, .bool b => isB P bty = true ∧ K (.v (.bool (a == b))) []
        | .neq, .bool a, .bool b => isB P bty = true ∧ K (.v (.bool (a != b))) []
        | _, _, _ => False
    | .str a, .str b => match binS bop a b with
      | some z => K (.v (.bool z)) []
      | none => match bop with
        | .add => (G = true → a.length + b.length ≤ 4611686018427387904) ∧ K (.str (a ++ b)) []
        | _ => False
    | _, _ => False
  | .unOp uop _ x => match ρ x with
    | .v u => match unV uop u with
      | some z => K (.v z) []
      | none => False
    | _ => False
  | .field xt x k => match ρ x, fld P xt k with
    | .agg cells, some (off, g, n) => match val g n (cells.drop off) with
      | some y => y.nown = true ∧ K y []
      | none => False
    | _, _ => False
  | .fieldAddr xt x k => match fld P xt k with
    | some (off, _, n) => Nat.blt 0 n = true ∧ (match ρ x with
      | .vp cells => K (.vp (cells.drop off)) []
      | .ptr b o' => K (.ptr b (o' + off)) []
      | _ => False)
    | none => False
  | .load t x => match ty P t with
    | some (g, n) => match ρ x with
      | .vp cells => match val g n cells with
        | some y => K y []
        | none => False
      | .ptr b off => match O os b with
        | some cells => match val g n (cells.drop off) with
          | some y => y.nown = true ∧ K y []
          | none => False
        | none => False
      | _ => False
    | none => False
  | .nilCheck x => match ρ x with
    | .ptr b off => K (.ptr b off) []
    | .vp cells => K (.vp cells) []
    | _ => False
  | .extract x k => match ρ x with
    | .tup l => match l[k]? with
      | some y => y.nown = true ∧ K y []
      | none => False
    | _ => False
  | .index t x i => match ρ x, ρ i with
    | .str a, .v (.int _ n) => knd P t = some true ∧ (G = true → 0 ≤ n ∧ n.toNat < a.length) ∧ K (.v (.int .u8 (at8 a n))) []
    | _, _ => False
  | .indexAddr t x i => match ρ i, elm P t with
    | .v (.int _ n), some (_, sz, _) => match ρ x with
      | .sl false sz' l => sz' = sz ∧ idxVc G l n sz (fun y => K (.vp y.cells) [])
      | .arr b off len sz' => sz' = sz ∧ (G = true → 0 ≤ n ∧ n < len) ∧ K (.ptr b (off + n.toNat * sz)) []
      | _ => False
    | _, _ => False
  | .slice t x lo hi none => match ρ x with
    | .str a => knd P t = some true ∧ (match bndR ρ lo 0, bndR ρ hi a.length with
      | some i, some j => (G = true → 0 ≤ i ∧ i ≤ j ∧ j ≤ a.length) ∧ K (S ((a.take j.toNat).drop i.toNat)) []
      | _, _ => False)
    | .sl false sz l => match elm P t, bndR ρ lo 0, bndR ρ hi l.length with
      | some (_, sz', _), some i, some j => sz' = sz ∧ (G = true → 0 ≤ i ∧ i ≤ j ∧ j ≤ l.length) ∧ K (.sl false sz ((l.take j.toNat).drop i.toNat)) []
      | _, _, _ => False
    | _ => False
  | .build t parts => match plc P t with
    | some (places, zs) => match fillA (places[·]?) (zs.map avz) (parts.toList.map fun p => (p.1, ρ p.2)) with
      | some cells => (killsR ρ (parts.toList.map Prod.snd)).Nodup ∧ K (.agg cells) (killsR ρ (parts.toList.map Prod.snd))
      | none => False
    | none => False
  | .buildSlice t len parts => match elm P t with
    | some (e, sz, _) => (zer P e).isSome = true ∧ len * sz ≤ 16777216 ∧ len ≤ L sz ∧ (killsR ρ (parts.toList.map Prod.snd)).Nodup ∧
      (match fillA (fun i => some (i * sz, sz)) (List.replicate (len * sz) .dead) (parts.toList.map fun p => (p.1, ρ p.2)) with
      | some cells => ((parts.toList.map fun p => ρ p.2).flatMap AV.cells = cells ∧ parts.toList.length = len ∧ (parts.toList.map fun p => ρ p.2).all (AV.elem sz) = true) ∧ K (.sl true sz (parts.toList.map fun p => ρ p.2)) (killsR ρ (parts.toList.map Prod.snd))
      | none => False)
    | none => False
  | .box t x => match ty P t with
    | some (_, n) => (ρ x).elem n = true ∧ K (.vp (AV.frzL (ρ x).cells)) (killsR ρ [x])
    | none => False
  | .makeFunc (.func f) first cap => first.toList = [] ∧ AV.nownL (cap.toList.map ρ) = true ∧ K (.fn f (cap.toList.map ρ)) []
  | .convert src dst x => match ρ x with
    | .v (.int _ n) => match ikd P dst with
      | some k => hasU P src = true ∧ K (.v (.int k (k.wrap n))) []
      | none => False
    | .sl _ 1 l => match unb l with
      | some bs => (knd P dst = some true ∧ byS P src = true) ∧ (G = true → bs.length ≤ 4611686018427387904) ∧ K (S bs) []
      | none => False
    | .arr b off len sz => ∃ l e, (G = true → off = 0 ∧ sz = 1 ∧ len = l.length ∧ l.length ≤ 4611686018427387904 ∧ O os b = some (bytesA l) ∧ P.underlying src = some (.slice e) ∧ P.underlying e = some (.int .u8) ∧ P.underlying dst = some .string) ∧ K (S l) []
    | _ => False
  | .call c => callVc L P os ρ G c.callee c.args.toList c.argTypes.toList K
  | _ => False

theorem killsR_eq {s : AS} {ρ : Operand → AV} : ∀ {xs : List Operand}, (∀ y, y ∈ xs → ev s.t y = ρ y) → kills s.t xs = killsR ρ xs
  | [], _ => rfl
  | x :: xs, h => by
    have ih := killsR_eq (s := s) (ρ := ρ) (xs := xs) fun y hy => h y (by simp [hy])
    cases x with
    | tmp i =>
      have := h (.tmp i) (by simp)
      simp only [ev] at this
      simp only [kills, killsR, this, ih]
    | const _ => simp only [kills, killsR, ih]
    | global _ => simp only [kills, killsR, ih]
    | func _ => simp only [kills, killsR, ih]

theorem killsR_sub {ρ : Operand → AV} {i : Nat} : ∀ {xs : List Operand}, i ∈ killsR ρ xs → .tmp i ∈ xs
  | [], h => by simp [killsR] at h
  | x :: xs, h => by
    cases x with
    | tmp j =>
      simp only [killsR] at h
      cases hn : (ρ (.tmp j)).nown with
      | true => rw [hn] at h; exact List.mem_cons_of_mem _ (killsR_sub h)
      | false =>
        rw [hn] at h
        rcases List.mem_cons.1 h with rfl | h
        · simp
        · exact List.mem_cons_of_mem _ (killsR_sub h)
    | const _ => exact List.mem_cons_of_mem _ (killsR_sub h)
    | global _ => exact List.mem_cons_of_mem _ (killsR_sub h)
    | func _ => exact List.mem_cons_of_mem _ (killsR_sub h)

/-- what the conditions of an operation give: its value in every state that has its operands -/
def Sound (L : Nat → Nat) (P : Program) (os : List (Nat × Option (List AV))) (ρ : Operand → AV) (G : Bool) (o : Oper) (K : AV → List Nat → Prop) : Prop :=
  ∃ x C, K x C ∧ (∀ i, i ∈ C → .tmp i ∈ o.op.operands.toList) ∧ (G = true → ∀ s : AS, (∀ y, y ∈ o.op.operands.toList → ev s.t y = ρ y) → s.o = os → LOp L P s o x C)

section
variable {L : Nat → Nat} {P : Program} {os : List (Nat × Option (List AV))} {ρ : Operand → AV} {G : Bool} {o : Oper} {K : AV → List Nat → Prop}

theorem knd_str {t : TypeId} (h : knd P t = some true) : P.underlying t = some .string := by
  unfold knd at h; split at h <;> simp_all
theorem knd_sl {t : TypeId} (h : knd P t = some false) : ∃ e, P.underlying t = some (.slice e) := by
  unfold knd at h; split at h <;> simp_all

theorem bnd_eq {s : AS} {q : Option Operand} {d : Int} (h : ∀ y, q = some y → ev s.t y = ρ y) : bnd s.t q d = bndR ρ q d := by
  cases q with
  | none => rfl
  | some y =>
    simp only [bnd, bndR, h y rfl]
    generalize ρ y = z
    cases z <;> rfl

def cops : Callee → List Operand
  | .value f => [f]
  | .invoke r _ => [r]
  | .builtin _ => []

theorem cops_eq {callee : Callee} {args : Array Operand} {ts : Array TypeId} : (Op.operands (.call ⟨callee, args, ts⟩)).toList = cops callee ++ args.toList := by
  cases callee <;> simp [Op.operands, Call.operands, cops]

theorem sound_call {c : Call} (ho : o.op = .call c) (h : callVc L P os ρ G c.callee c.args.toList c.argTypes.toList K) : Sound L P os ρ G o K := by
  obtain ⟨callee, args, ts⟩ := c
  simp only at h
  have hops : o.op.operands.toList = cops callee ++ args.toList := by rw [ho]; exact cops_eq
  unfold callVc at h
  split at h
  · rename_i x t e2 e3
    split at h
    · rename_i k n hk
      obtain ⟨hknd, hK⟩ := h
      refine ⟨_, [], hK, by simp, fun _ s hs hso => ?_⟩
      have hc : (⟨.builtin .len, args, ts⟩ : Call) = ⟨.builtin .len, #[x], #[t]⟩ := by
        have h1 : args = #[x] := by apply Array.ext'; simpa using e2
        have h2 : ts = #[t] := by apply Array.ext'; simpa using e3
        rw [h1, h2]
      have hx : ev s.t x = ρ x := hs x (by rw [hops, e2]; simp)
      generalize ρ x = z at hk hx
      unfold lenA at hk
      split at hk
      · cases hk
        exact lop_len_str ho hc hx (knd_str hknd)
      · cases hk
        obtain ⟨e, he⟩ := knd_sl hknd
        exact lop_len_sl ho hc hx he
      · cases hk
        obtain ⟨e, he⟩ := knd_sl hknd
        exact lop_len_arr ho hc hx he
      · cases hk
        obtain ⟨e, he⟩ := knd_sl hknd
        exact lop_len_nil ho hc hx he
      · cases hk
    · exact h.elim
  · rename_i x y e2
    split at h
    · rename_i k m k' n h1 h2
      obtain ⟨rfl, hK⟩ := h
      refine ⟨_, [], hK, by simp, fun _ s hs hso => ?_⟩
      have hc : (⟨.builtin .min, args, ts⟩ : Call) = ⟨.builtin .min, #[x, y], ts⟩ := by
        have h1 : args = #[x, y] := by apply Array.ext'; simpa using e2
        rw [h1]
      exact lop_min ho hc ((hs x (by rw [hops, e2]; simp)).trans h1) ((hs y (by rw [hops, e2]; simp)).trans h2)
    · exact h.elim
  · rename_i x y e2
    split at h
    · rename_i k m k' n h1 h2
      obtain ⟨rfl, hK⟩ := h
      refine ⟨_, [], hK, by simp, fun _ s hs hso => ?_⟩
      have hc : (⟨.builtin .max, args, ts⟩ : Call) = ⟨.builtin .max, #[x, y], ts⟩ := by
        have h1 : args = #[x, y] := by apply Array.ext'; simpa using e2
        rw [h1]
      exact lop_max ho hc ((hs x (by rw [hops, e2]; simp)).trans h1) ((hs y (by rw [hops, e2]; simp)).trans h2)
    · exact h.elim
  · rename_i y
    split at h
    · rename_i f caps hf
      obtain ⟨hcn, res, hcall, hK⟩ := h
      refine ⟨_, [], hK, by simp, fun hG s hs hso => ?_⟩
      subst hso
      have hmap : args.toList.map (ev s.t) = args.toList.map ρ := by
        apply List.map_congr_left
        intro z hz
        exact hs z (by rw [hops]; simp; exact .inr (by simpa using hz))
      refine lop_callv ho rfl (by rw [hs y (by rw [hops]; simp [cops])]; exact hf) hcn ?_
      rw [hmap]
      exact hcall hG
    · exact h.elim
  · exact h.elim

theorem ovc_sound (h : ovc L P os ρ G o.op K) : Sound L P os ρ G o K := by
  cases ho : o.op with
  | move x =>
    rw [ho] at h
    refine ⟨_, _, h, fun i hi => ?_, fun _ s hs _ => ?_⟩
    · rw [ho]; have := killsR_sub hi; simpa [Op.operands] using this
    · have hx := hs x (by rw [ho]; simp [Op.operands])
      rw [← hx, ← killsR_eq (s := s) (xs := [x]) (by simpa using hx)]
      exact lop_move (.inl ho)
  | assign x =>
    rw [ho] at h
    refine ⟨_, _, h, fun i hi => ?_, fun _ s hs _ => ?_⟩
    · rw [ho]; have := killsR_sub hi; simpa [Op.operands] using this
    · have hx := hs x (by rw [ho]; simp [Op.operands])
      rw [← hx, ← killsR_eq (s := s) (xs := [x]) (by simpa using hx)]
      exact lop_move (.inr ho)
  | pick c a b =>
    rw [ho] at h
    simp only [ovc] at h
    split at h
    · rename_i p Ga u Gb v h1 h2 h3
      obtain ⟨hc, hK⟩ := h
      refine ⟨_, [], hK, by simp, fun hG s hs _ => ?_⟩
      have hs' : ∀ y, y ∈ [c, a, b] → ev s.t y = ρ y := fun y hy => hs y (by rw [ho]; simpa [Op.operands] using hy)
      exact lop_pick ho ((hs' c (by simp)).trans h1) (by rw [hs' a (by simp)]; exact h2) (by rw [hs' b (by simp)]; exact h3) (hc hG).1 (hc hG).2
    · exact h.elim
  | binOp bop ty x y ty' =>
    rw [ho] at h
    simp only [ovc] at h
    split at h
    · rename_i u v h1 h2
      split at h
      · rename_i z hz
        refine ⟨_, [], h, by simp, fun hG s hs _ => ?_⟩
        have hs' : ∀ q, q ∈ [x, y] → ev s.t q = ρ q := fun q hq => hs q (by rw [ho]; simpa [Op.operands] using hq)
        exact lop_binV ho ((hs' x (by simp)).trans h1) ((hs' y (by simp)).trans h2) hz
      · split at h
        · rename_i a b _
          obtain ⟨hc, hK⟩ := h
          refine ⟨_, [], hK, by simp, fun hG s hs _ => ?_⟩
          have hs' : ∀ q, q ∈ [x, y] → ev s.t q = ρ q := fun q hq => hs q (by rw [ho]; simpa [Op.operands] using hq)
          exact lop_bin ho ((hs' x (by simp)).trans h1) ((hs' y (by simp)).trans h2) (fun w => (run_boolV hc x y a b w).1)
        · rename_i a b _
          obtain ⟨hc, hK⟩ := h
          refine ⟨_, [], hK, by simp, fun hG s hs _ => ?_⟩
          have hs' : ∀ q, q ∈ [x, y] → ev s.t q = ρ q := fun q hq => hs q (by rw [ho]; simpa [Op.operands] using hq)
          exact lop_bin ho ((hs' x (by simp)).trans h1) ((hs' y (by simp)).trans h2) (fun w => (run_boolV hc x y a b w).2)
        · exact h.elim
    · rename_i a b h1 h2
      split at h
      · rename_i z hz
        refine ⟨_, [], h, by simp, fun hG s hs _ => ?_⟩
        have hs' : ∀ q, q ∈ [x, y] → ev s.t q = ρ q := fun q hq => hs q (by rw [ho]; simpa [Op.operands] using hq)
        exact lop_binS ho ((hs' x (by simp)).trans h1) ((hs' y (by simp)).trans h2) hz
      · split at h
        · obtain ⟨hc, hK⟩ := h
          refine ⟨_, [], hK, by simp, fun hG s hs _ => ?_⟩
          have hs' : ∀ q, q ∈ [x, y] → ev s.t q = ρ q := fun q hq => hs q (by rw [ho]; simpa [Op.operands] using hq)
          exact lop_cat ho ((hs' x (by simp)).trans h1) ((hs' y (by simp)).trans h2) (hc hG)
        · exact h.elim
    · exact h.elim
  | unOp uop ty x =>
    rw [ho] at h
    simp only [ovc] at h
    split at h
    · rename_i u h1
      split at h
      · rename_i z hz
        exact ⟨_, [], h, by simp, fun hG s hs _ => lop_unV ho ((hs x (by rw [ho]; simp [Op.operands])).trans h1) hz⟩
      · exact h.elim
    · exact h.elim
  | field xt x k =>
    rw [ho] at h
    simp only [ovc] at h
    split at h
    · rename_i cells off g n h1 h2
      split at h
      · rename_i y hy
        exact ⟨_, [], h.2, by simp, fun hG s hs _ => lop_field ho ((hs x (by rw [ho]; simp [Op.operands])).trans h1) h2 hy h.1⟩
      · exact h.elim
    · exact h.elim
  | fieldAddr xt x k =>
    rw [ho] at h
    simp only [ovc] at h
    split at h
    · rename_i off g n h2
      obtain ⟨hn, h⟩ := h
      split at h
      · rename_i cells h1
        exact ⟨_, [], h, by simp, fun hG s hs _ => lop_fieldAddr_vp ho ((hs x (by rw [ho]; simp [Op.operands])).trans h1) h2 hn⟩
      · rename_i b o' h1
        exact ⟨_, [], h, by simp, fun hG s hs _ => lop_fieldAddr_ptr ho ((hs x (by rw [ho]; simp [Op.operands])).trans h1) h2 hn⟩
      · exact h.elim
    · exact h.elim
  | load t x =>
    rw [ho] at h
    simp only [ovc] at h
    split at h
    · rename_i g n ht
      split at h
      · rename_i cells h1
        split at h
        · rename_i y hy
          exact ⟨_, [], h, by simp, fun hG s hs _ => lop_load_vp ho ((hs x (by rw [ho]; simp [Op.operands])).trans h1) ht hy⟩
        · exact h.elim
      · rename_i b off h1
        split at h
        · rename_i cells hO
          split at h
          · rename_i y hy
            exact ⟨_, [], h.2, by simp, fun hG s hs hso => lop_load_ptr ho ((hs x (by rw [ho]; simp [Op.operands])).trans h1) (by rw [hso]; exact hO) ht hy h.1⟩
          · exact h.elim
        · exact h.elim
      · exact h.elim
    · exact h.elim
  | nilCheck x =>
    rw [ho] at h
    simp only [ovc] at h
    split at h
    · rename_i b off h1
      exact ⟨_, [], h, by simp, fun hG s hs _ => lop_nilCheck ho ((hs x (by rw [ho]; simp [Op.operands])).trans h1)⟩
    · rename_i cells h1
      exact ⟨_, [], h, by simp, fun hG s hs _ => lop_nilCheck_vp ho ((hs x (by rw [ho]; simp [Op.operands])).trans h1)⟩
    · exact h.elim
  | extract x k =>
    rw [ho] at h
    simp only [ovc] at h
    split at h
    · rename_i l h1
      split at h
      · rename_i y hy
        exact ⟨_, [], h.2, by simp, fun hG s hs _ => lop_extract ho ((hs x (by rw [ho]; simp [Op.operands])).trans h1) hy h.1⟩
      · exact h.elim
    · exact h.elim
  | index t x i =>
    rw [ho] at h
    simp only [ovc] at h
    split at h
    · rename_i a k n h1 h2
      obtain ⟨hk, hc, hK⟩ := h
      refine ⟨_, [], hK, by simp, fun hG s hs _ => ?_⟩
      have hs' : ∀ q, q ∈ [x, i] → ev s.t q = ρ q := fun q hq => hs q (by rw [ho]; simpa [Op.operands] using hq)
      exact lop_index_str ho ((hs' x (by simp)).trans h1) ((hs' i (by simp)).trans h2) (knd_str hk) (hc hG).1 (by rw [List.getElem?_eq_getElem (hc hG).2]; rfl)
    · exact h.elim
  | indexAddr t x i =>
    rw [ho] at h
    simp only [ovc] at h
    split at h
    · rename_i k n e sz by_ h2 ht
      split at h
      · rename_i sz' l h1
        obtain ⟨rfl, y, hc, hK⟩ := h
        refine ⟨_, [], hK, by simp, fun hG s hs _ => ?_⟩
        have hs' : ∀ q, q ∈ [x, i] → ev s.t q = ρ q := fun q hq => hs q (by rw [ho]; simpa [Op.operands] using hq)
        exact lop_indexAddr_sl ho ((hs' x (by simp)).trans h1) ((hs' i (by simp)).trans h2) ht (hc hG).1 (hc hG).2.1 (hc hG).2.2
      · rename_i b off len sz' h1
        obtain ⟨rfl, hc, hK⟩ := h
        refine ⟨_, [], hK, by simp, fun hG s hs _ => ?_⟩
        have hs' : ∀ q, q ∈ [x, i] → ev s.t q = ρ q := fun q hq => hs q (by rw [ho]; simpa [Op.operands] using hq)
        exact lop_indexAddr_arr ho ((hs' x (by simp)).trans h1) ((hs' i (by simp)).trans h2) ht (hc hG).1 (hc hG).2
      · exact h.elim
    · exact h.elim
  | slice t x lo hi mx =>
    rw [ho] at h
    cases mx with
    | some _ => simp [ovc] at h
    | none =>
      simp only [ovc] at h
      have hops : ∀ y, y ∈ [x] ++ lo.toList ++ hi.toList → y ∈ o.op.operands.toList := by
        intro y hy
        rw [ho]
        simp only [Op.operands]
        cases lo <;> cases hi <;> simpa using hy
      split at h
      · rename_i a h1
        obtain ⟨hk, h⟩ := h
        split at h
        · rename_i i j hi' hj
          obtain ⟨hc, hK⟩ := h
          refine ⟨_, [], hK, by simp, fun hG s hs _ => ?_⟩
          have hx := (hs x (hops x (by simp))).trans h1
          exact lop_slice_str ho (knd_str hk) hx (by rw [bnd_eq (ρ := ρ) (fun y e => hs y (hops y (by simp [e])))]; exact hi') (by rw [bnd_eq (ρ := ρ) (fun y e => hs y (hops y (by simp [e])))]; exact hj) (hc hG).1 (hc hG).2.1 (hc hG).2.2
        · exact h.elim
      · rename_i sz l h1
        split at h
        · rename_i e sz' by_ i j ht hi' hj
          obtain ⟨rfl, hc, hK⟩ := h
          refine ⟨_, [], hK, by simp, fun hG s hs _ => ?_⟩
          have hx := (hs x (hops x (by simp))).trans h1
          exact lop_slice_sl ho ht hx (by rw [bnd_eq (ρ := ρ) (fun y e => hs y (hops y (by simp [e])))]; exact hi') (by rw [bnd_eq (ρ := ρ) (fun y e => hs y (hops y (by simp [e])))]; exact hj) (hc hG).1 (hc hG).2.1 (hc hG).2.2
        · exact h.elim
      · exact h.elim
  | build t parts =>
    rw [ho] at h
    simp only [ovc] at h
    split at h
    · rename_i places zs hp
      split at h
      · rename_i cells hf
        obtain ⟨hnd, hK⟩ := h
        refine ⟨_, _, hK, fun i hi => ?_, fun hG s hs _ => ?_⟩
        · rw [ho]; have := killsR_sub hi; simpa [Op.operands] using this
        · have hs' : ∀ y, y ∈ parts.toList.map Prod.snd → ev s.t y = ρ y := fun y hy => hs y (by rw [ho]; simpa [Op.operands] using hy)
          have e1 := killsR_eq hs'
          have e2 : (parts.toList.map fun p => (p.1, ev s.t p.2)) = parts.toList.map fun p => (p.1, ρ p.2) := by
            apply List.map_congr_left
            intro p hp'
            rw [hs' p.2 (List.mem_map_of_mem hp')]
          rw [← e1] at hnd ⊢
          rw [← e2] at hf
          exact lop_build ho hp hf hnd
      · exact h.elim
    · exact h.elim
  | buildSlice t len parts =>
    rw [ho] at h
    simp only [ovc] at h
    split at h
    · rename_i e sz by_ ht
      obtain ⟨hz, hsm, hL, hnd, h⟩ := h
      split at h
      · rename_i cells hf
        obtain ⟨⟨hcl, hln, hall⟩, hK⟩ := h
        refine ⟨_, _, hK, fun i hi => ?_, fun hG s hs _ => ?_⟩
        · rw [ho]; have := killsR_sub hi; simpa [Op.operands] using this
        · have hs' : ∀ y, y ∈ parts.toList.map Prod.snd → ev s.t y = ρ y := fun y hy => hs y (by rw [ho]; simpa [Op.operands] using hy)
          have e1 := killsR_eq hs'
          have e2 : (parts.toList.map fun p => (p.1, ev s.t p.2)) = parts.toList.map fun p => (p.1, ρ p.2) := by
            apply List.map_congr_left
            intro p hp'
            rw [hs' p.2 (List.mem_map_of_mem hp')]
          rw [← e1] at hnd ⊢
          rw [← e2] at hf
          obtain ⟨zs, hzs⟩ := Option.isSome_iff_exists.1 hz
          exact lop_buildSlice ho ht hzs hsm hf hnd hcl (fun x hx => List.all_eq_true.1 hall x hx) (by simpa using hln) hL
      · exact h.elim
    · exact h.elim
  | box t x =>
    rw [ho] at h
    simp only [ovc] at h
    split at h
    · rename_i g n ht
      obtain ⟨he, hK⟩ := h
      refine ⟨_, _, hK, fun i hi => ?_, fun hG s hs _ => ?_⟩
      · rw [ho]; have := killsR_sub hi; simpa [Op.operands] using this
      · have hx := hs x (by rw [ho]; simp [Op.operands])
        rw [← hx, ← killsR_eq (s := s) (xs := [x]) (by simpa using hx)]
        rw [← hx] at he
        exact lop_box ho he
    · exact h.elim
  | makeFunc fn first cap =>
    rw [ho] at h
    cases fn with
    | func f =>
      simp only [ovc] at h
      obtain ⟨hf, hn, hK⟩ := h
      have hf' : first = #[] := by apply Array.ext'; simpa using hf
      subst hf'
      refine ⟨_, [], hK, by simp, fun hG s hs _ => ?_⟩
      have hmap : cap.toList.map (ev s.t) = cap.toList.map ρ := by
        apply List.map_congr_left
        intro z hz
        exact hs z (by rw [ho]; simp [Op.operands]; simpa using hz)
      rw [← hmap] at hn ⊢
      exact lop_makeFunc ho hn
    | _ => simp [ovc] at h
  | convert src dst x =>
    rw [ho] at h
    simp only [ovc] at h
    split at h
    · rename_i k' n h1
      split at h
      · rename_i k hk
        obtain ⟨hu, hK⟩ := h
        obtain ⟨d, hd⟩ := hasU_inv hu
        exact ⟨_, [], hK, by simp, fun hG s hs _ => lop_conv_int ho hd (ikd_inv hk) ((hs x (by rw [ho]; simp [Op.operands])).trans h1)⟩
      · exact h.elim
    · rename_i own' l h1
      split at h
      · rename_i bs hb
        obtain ⟨⟨hk, hby⟩, hln, hK⟩ := h
        obtain ⟨e, hs1, hs2⟩ := byS_inv hby
        refine ⟨_, [], hK, by simp, fun hG s hs _ => ?_⟩
        rw [unb_inv hb] at h1
        exact lop_str_of_sl ho hs1 hs2 (knd_str hk) ((hs x (by rw [ho]; simp [Op.operands])).trans h1) (hln hG)
      · exact h.elim
    · rename_i b off len sz h1
      obtain ⟨l, e, hc, hK⟩ := h
      refine ⟨_, [], hK, by simp, fun hG s hs hso => ?_⟩
      obtain ⟨rfl, rfl, rfl, hln, hO, hs1, hs2, hs3⟩ := hc hG
      exact lop_str_of_arr ho hs1 hs2 hs3 ((hs x (by rw [ho]; simp [Op.operands])).trans h1) (by rw [hso]; exact hO) hln
    · exact h.elim
  | call c =>
    rw [ho] at h
    exact sound_call ho h
  | _ => rw [ho] at h; simp [ovc] at h
end
end Go.Ab
