/-
  Part of a proof: AbSet2.
-/
import Derived.Test.YtmdbmmmlccipdaaGreatDoorG1
set_option linter.unusedSimpArgs false
set_option linter.unusedVariables false
namespace Go.Ab
open Go.RowKit (Below)

/-- the end of a function: what it gives, and the objects that it hands back -/
def subO : Sto → Sto → Prop
  | [], _ => True
  | (b, some c) :: o', o => O o b = some c ∧ subO o' o
  | (_, none) :: o', o => subO o' o

theorem subO_O {o : Sto} : ∀ {o' : Sto} {b : Nat} {c : List AV}, subO o' o → O o' b = some c → O o b = some c
  | [], _, _, _, h => by simp [O] at h
  | (b', none) :: o', b, c, hs, h => by
    simp only [subO] at hs
    by_cases e : b' = b
    · simp [O, e] at h
    · simp only [O, if_neg e] at h; exact subO_O hs h
  | (b', some c') :: o', b, c, hs, h => by
    simp only [subO] at hs
    by_cases e : b' = b
    · subst e
      simp [O] at h
      subst h; exact hs.1
    · simp only [O, if_neg e] at h; exact subO_O hs.2 h

theorem StoAt.sub {L : Nat → Nat} {B F0 : Nat → Prop} {w0 : World} {F : Nat → Prop} {own : Nat → Own} {fs : Nat → List Nat} {o o' : Sto} {w : World} (h : StoAt L B F0 w0 F own fs o w) (hs : subO o' o) : StoAt L B F0 w0 F own fs o' w :=
  { h with obj := fun b cells hb => h.obj b cells (subO_O hs hb) }

/-- the contract's end -/
theorem EndsG.fin {L : Nat → Nat} {P : Program} {n : Nat} {fn : Func} {t : List (Nat × AV)} {o o' : Sto} {rs : List ResultVar} {res : AV} (hr : fn.results = rs.toArray) (h : resW P n rs t o [] (fun xs os => oneA xs = res ∧ subO o' os)) : EndsG L P fn ⟨n, t, o⟩ (fun r os' => r = res ∧ os' = o') := by
  have h2 : EndsG L P fn ⟨n, t, o⟩ (fun r os => r = res ∧ subO o' os) := EndsG.res hr h
  intro B F0 w0 a w hd
  obtain ⟨v, res', os', F', own', fs', fp, h3, ⟨rfl, h4⟩, h5, h6, h7, h8⟩ := h2 B F0 w0 a w hd
  exact ⟨v, res', o', F', own', fs', fp, h3, ⟨rfl, rfl⟩, h5.sub h4, h6, h7, h8⟩

theorem Ctr.of_body {L : Nat → Nat} {P : Program} {f : FuncId} {fn : Func} {c : Code} {os : Sto} {args : List AV} {res : AV} {cs : List (Option (List AV))} {pre : Prop} (he : enters P f = true) (hf : P.funcs[f]? = some fn) (hb : fn.body = some c) (hn : Nat.ble args.length fn.ntmps = true)
    (h : pre → AW L P c ⟨fn.ntmps, zipT 0 args, os⟩ (finG L P fn (fun r os' => r = res ∧ os' = zipK os cs))) : Ctr L P f os args res cs pre :=
  ⟨he, fun hp => GenC.of_body hf hb hn (h hp)⟩

/-- facts that a state bears: lengths -/
def AV.facts (L : Nat → Nat) : AV → Prop
  | .str l => l.length ≤ 4611686018427387904
  | .sl _ sz l => l.length ≤ L sz
  | .agg l => AV.factsL L l
  | .vp l => AV.factsL L l
  | _ => True
where AV.factsL (L : Nat → Nat) : List AV → Prop
  | [] => True
  | x :: xs => AV.facts L x ∧ AV.factsL L xs

mutual
theorem Rep.facts {L : Nat → Nat} {F : Nat → Prop} {w : World} : ∀ {x : AV} {y : Value} {fp : List Nat}, Rep L F w x y fp → x.facts L
  | .str l, _, _, r => by simp only [Rep] at r; simpa [AV.facts] using r.2.1
  | .sl own sz l, y, fp, r => by
    simp only [Rep] at r
    simp only [AV.facts]
    rcases r with ⟨_, rfl, _⟩ | ⟨b, off, cap, vals, fp', _, _, h2, _⟩
    · simp
    · exact h2
  | .agg l, y, fp, r => by
    simp only [Rep] at r
    obtain ⟨vs, _, hl⟩ := r
    simp only [AV.facts]; exact RepL.facts hl
  | .vp l, y, fp, r => by
    simp only [Rep] at r
    obtain ⟨_, b, off, vals, _, _, _, hl⟩ := r
    simp only [AV.facts]; exact RepL.facts hl
  | .dead, _, _, _ => by simp [AV.facts]
  | .v _, _, _, _ => by simp [AV.facts]
  | .arr .., _, _, _ => by simp [AV.facts]
  | .ptr .., _, _, _ => by simp [AV.facts]
  | .tup _, _, _, _ => by simp [AV.facts]
  | .fn .., _, _, _ => by simp [AV.facts]
  | .cnd .., _, _, _ => by simp [AV.facts]
  | .pin .., _, _, _ => by simp [AV.facts]
theorem RepL.facts {L : Nat → Nat} {F : Nat → Prop} {w : World} : ∀ {l : List AV} {vs : List Value} {fp : List Nat}, RepL L F w l vs fp → AV.facts.AV.factsL L l
  | [], _, _, _ => by simp [AV.facts.AV.factsL]
  | x :: xs, vs, fp, r => by
    simp only [RepL] at r
    obtain ⟨y, vs', f1, f2, _, _, hx, hxs⟩ := r
    simp only [AV.facts.AV.factsL]; exact ⟨Rep.facts hx, RepL.facts hxs⟩
end

section
variable {L : Nat → Nat} {P : Program} {n : Nat} {t : List (Nat × AV)} {o : Sto} {Q : Exit → AS → Prop}

theorem AW.fact {c : Code} (i : Nat) (h : (T t i).facts L → AW L P c ⟨n, t, o⟩ Q) : AW L P c ⟨n, t, o⟩ Q := by
  intro B F0 w0 a w hd
  refine h ?_ B F0 w0 a w hd
  obtain ⟨F, ow, fp, fs, h⟩ := hd
  exact (h.slots i).facts

/-- an element of a slice: its own lengths -/
theorem AW.factE {c : Code} (i : Nat) {own : Bool} {sz : Nat} {l : List AV} {x : AV} (hi : T t i = .sl own sz l) (hx : x ∈ l) (h : x.facts L → AW L P c ⟨n, t, o⟩ Q) : AW L P c ⟨n, t, o⟩ Q := by
  intro B F0 w0 a w hd
  refine h ?_ B F0 w0 a w hd
  obtain ⟨F, ow, fp, fs, h⟩ := hd
  have hr := h.slots i
  simp only at hr
  rw [hi] at hr
  simp only [Rep] at hr
  rcases hr with ⟨_, rfl, _⟩ | ⟨b, off, cap, vals, fp', _, _, _, _, he, _⟩
  · simp at hx
  · obtain ⟨k, hk, e⟩ := List.getElem_of_mem hx
    obtain ⟨y, f, _, _, hr, _⟩ := he.get (i := k) (x := x) (by rw [List.getElem?_eq_getElem hk, e])
    exact hr.facts

/-- a loop: the slots ks change; the slots live are kept; objects may change -/
theorem AW.loopV {c : Code} (ks live : List Nat) (I : Nat → List AV → Sto → Prop) (m : Nat) (o0 : Sto) (ho : subO o0 o) (h0 : I m (ks.map (T t)) o0)
    (round : ∀ m xs o', I m xs o' → AW L P c ⟨n, ks.zip xs ++ keepT t live, o'⟩ (thenQ (fun s' => s'.n = n ∧ ∃ m' xs' o'', m' < m ∧ I m' xs' o'' ∧ keepT s'.t (ks ++ live) = ks.zip xs' ++ keepT t live ∧ subO o'' s'.o) Q)) : AW L P (.loop c) ⟨n, t, o⟩ Q := by
  have key : ks.zip (ks.map (T t)) ++ keepT t live = keepT t (ks ++ live) := by
    simp only [keepT, List.map_append]
    congr 1
    clear round h0
    induction ks with
    | nil => rfl
    | cons k ks ih => simp [ih]
  refine AW.loopO (ks ++ live) (fun m t' o' => ∃ xs, I m xs o' ∧ t' = ks.zip xs ++ keepT t live) m o0 (fun b cells h => subO_O ho h) ⟨_, h0, key.symm⟩ ?_
  rintro m t' o' ⟨xs, hI, rfl⟩
  refine (round m xs o' hI).mono ?_
  intro e s' h
  cases e with
  | normal =>
    obtain ⟨hn, m', xs', o'', hm, hI', ht, hs⟩ := h
    exact ⟨hn, m', o'', hm, ⟨xs', hI', ht⟩, fun b cells h => subO_O hs h⟩
  | _ => exact h
end

theorem CallP.ctr {L : Nat → Nat} {P : Program} {os : Sto} {la : List AV} {G : Bool} {f : FuncId} {args : List AV} {K : AV → Prop} {res : AV} {cs : List (Option (List AV))} {pre : Prop} [h : Ctr L P f [] args res cs pre] (hn : AV.nownL args = true) (hp : G = true → pre) (hK : K res) : CallP L P os la G f args (K := ⟨K⟩) :=
  ⟨res, fun hg => CallOK.pure h.en hn (h.pure (hp hg)), hK⟩

theorem wrap_u8 {x : Int} (h1 : 0 ≤ x) (h2 : x ≤ 255) : IntKind.u8.wrap x = x := by
  rw [IntKind.wrap_u8]; omega

theorem cops_value (f : Operand) (args : Array Operand) (ts : Array TypeId) : (Call.operands ⟨.value f, args, ts⟩).toList = f :: args.toList := by simp [Call.operands]
theorem cops_builtin (b : Builtin) (args : Array Operand) (ts : Array TypeId) : (Call.operands ⟨.builtin b, args, ts⟩).toList = args.toList := by simp [Call.operands]
theorem at8_le (s : List UInt8) (n : Int) : at8 s n ≤ 255 := by unfold at8; have := ((s[n.toNat]?).getD 0).toNat_lt; omega
theorem at8_ge (s : List UInt8) (n : Int) : 0 ≤ at8 s n := by unfold at8; omega
theorem wrap_at8 (s : List UInt8) (n : Int) : IntKind.i64.wrap (at8 s n) = at8 s n := by have := at8_le s n; have := at8_ge s n; exact wrap_i64 (by omega) (by omega)
theorem thenQ.n {next : AS → Prop} {Q : Exit → AS → Prop} {s : AS} (h : next s) : thenQ next Q .normal s := h
theorem thenQ.e {next : AS → Prop} {Q : Exit → AS → Prop} {s : AS} {id : Nat} (h : Q (.exit id) s) : thenQ next Q (.exit id) s := h
theorem thenQ.r {next : AS → Prop} {Q : Exit → AS → Prop} {s : AS} (h : Q .ret s) : thenQ next Q .ret s := h
theorem blockQ.n {i : Nat} {Q : Exit → AS → Prop} {s : AS} (h : Q .normal s) : blockQ i Q .normal s := h
theorem blockQ.r {i : Nat} {Q : Exit → AS → Prop} {s : AS} (h : Q .ret s) : blockQ i Q .ret s := h
theorem blockQ.eq {i : Nat} {Q : Exit → AS → Prop} {s : AS} (h : Q .normal s) : blockQ i Q (.exit i) s := by simp only [blockQ, if_true]; exact h
theorem blockQ.ne {i j : Nat} {Q : Exit → AS → Prop} {s : AS} (hne : Nat.beq j i = false) (h : Q (.exit j) s) : blockQ i Q (.exit j) s := by
  have : ¬ j = i := fun e => by rw [e, Nat.beq_refl] at hne; cases hne
  simp only [blockQ, if_neg this]; exact h
theorem at8_nat (s : List UInt8) (j : Nat) : at8 s (j : Int) = ((at_ s j).toNat : Int) := rfl
theorem map_all_elem {α : Type} {f : α → AV} {sz : Nat} (h : ∀ x, (f x).elem sz = true) (l : List α) : (l.map f).all (AV.elem sz) = true := by
  simp only [List.all_map, List.all_eq_true]; intro x _; exact h x
theorem str_all (l : List (List UInt8)) : (l.map AV.str).all (AV.elem 1) = true := map_all_elem (fun _ => rfl) l
theorem map_all_one {α : Type} {f : α → AV} (h : ∀ x, (f x).cells.all AV.one = true) (l : List α) : ((l.map f).flatMap AV.cells).all AV.one = true := by
  simp only [List.all_flatMap, List.all_map, List.all_eq_true]; intro x _; exact h x
theorem str_one (l : List (List UInt8)) : ((l.map AV.str).flatMap AV.cells).all AV.one = true := map_all_one (fun _ => rfl) l
theorem byte_all (l : List UInt8) : (bytesA l).all (AV.elem 1) = true := map_all_elem (fun _ => rfl) l
theorem byte_one (l : List UInt8) : ((bytesA l).flatMap AV.cells).all AV.one = true := map_all_one (fun _ => rfl) l
theorem byte_len (l : List UInt8) : (bytesA l).length = l.length := by simp [bytesA]
theorem cast1 (k : Nat) : (k : Int) + 1 = ((k + 1 : Nat) : Int) := by omega
theorem castS {k : Nat} (h : 1 ≤ k) : (k : Int) - 1 = ((k - 1 : Nat) : Int) := by omega
theorem castA (a b : Nat) : (a : Int) + (b : Int) = ((a + b : Nat) : Int) := by omega
theorem castB {a b : Nat} (h : b ≤ a) : (a : Int) - (b : Int) = ((a - b : Nat) : Int) := by omega
theorem finG.n {L : Nat → Nat} {P : Program} {fn : Func} {Q : AV → Sto → Prop} {s : AS} (h : EndsG L P fn s Q) : finG L P fn Q .normal s := h
theorem subO_one {b : Nat} {c c' : List AV} {o : Sto} (h : c = c') : subO [(b, some c)] ((b, some c') :: o) := by subst h; exact ⟨O_eq _ _ _, trivial⟩
theorem Gd.intro {c : Bool} {p : Prop} (h : c = true → p) : Gd c (p := ⟨p⟩) := h

attribute [go_sem] copVc srcC_sl frzT memN Nat.zero_mul Nat.zero_le if_false Nat.mul_one AV.isDead AV.isSkp skpK AV.cpy AV.hdr hdrL AV.pind unpL AV.unp repinL AV.repin detL AV.det argv wrap_at8 borOf List.tail_cons List.tail_nil str_all str_one byte_all byte_one byte_len unb_bytes cast1 castS castA castB Int.ofNat_inj List.all_append Nat.add_sub_cancel S okcK evK stS stO memN cops_value cops_builtin Wn stp nvc bxN alF sbs alDel alOp appVc srcE neTmp zlen apW Option.isNone_none Option.isNone_some isE AV.dd deadL AV.unc uncT GdT GdF pickO cellsK reachO AV.keys AV.keysL updO_eq updO_ne O_ne mergeO zipK nfO rmO_eq rmO_ne rmO_nil resW oneA subO List.isEmpty_nil List.isEmpty_cons Nat.beq List.zip_cons_cons List.zip_nil_left List.set_cons_zero List.set_cons_succ List.replicate_succ List.replicate_zero Bool.false_and Bool.and_false Bool.or_false Bool.or_true Bool.false_or Bool.true_or Bool.not_not Bool.or_self List.range'_succ List.range'_zero AV.facts AV.facts.AV.factsL wrap_i64 wrap_u8 List.length_append Option.map_none Nat.reduceSub Nat.sub_self Option.isSome_none
theorem hCnd : (type_of% @decide_eq_true_eq) ∧ (type_of% @decide_eq_false_iff_not) ∧ (type_of% @Bool.and_eq_true) ∧ (type_of% @Bool.and_eq_false_imp) ∧ (type_of% @Bool.or_eq_true) ∧ (type_of% @Bool.or_eq_false_iff) ∧ (type_of% @Bool.not_eq_true') ∧ (type_of% @Bool.not_eq_false') ∧ (type_of% @beq_iff_eq.{0}) ∧ (type_of% @beq_eq_false_iff_ne.{0}) ∧ (type_of% @bne_iff_ne.{0}) ∧ (type_of% @bne_eq_false_iff_eq.{0}) ∧ (type_of% @Int.not_lt) ∧ (type_of% @Int.not_le) ∧ (type_of% @Bool.cond_true_left) ∧ (type_of% @Bool.cond_false_right) ∧ (type_of% @Bool.cond_true_right) ∧ (type_of% @Bool.cond_false_left) ∧ (type_of% @beq_false) ∧ (type_of% @beq_true) ∧ (type_of% @Bool.not_not) ∧ (type_of% @Bool.and_true) ∧ (type_of% @Bool.true_and) ∧ (type_of% @Bool.or_false) ∧ (type_of% @Bool.false_or) ∧ (type_of% @and_true) ∧ (type_of% @true_and) ∧ (type_of% @Bool.false_eq_true) ∧ (type_of% @Bool.true_eq_false) ∧ (type_of% @ne_eq.{1}) ∧ (type_of% @not_true_eq_false) ∧ (type_of% @not_false_eq_true) ∧ (type_of% @or_self) ∧ (type_of% @or_false) ∧ (type_of% @false_or) ∧ (type_of% @and_false) ∧ (type_of% @false_and) := ⟨@decide_eq_true_eq, @decide_eq_false_iff_not, @Bool.and_eq_true, @Bool.and_eq_false_imp, @Bool.or_eq_true, @Bool.or_eq_false_iff, @Bool.not_eq_true', @Bool.not_eq_false', @beq_iff_eq.{0}, @beq_eq_false_iff_ne.{0}, @bne_iff_ne.{0}, @bne_eq_false_iff_eq.{0}, @Int.not_lt, @Int.not_le, @Bool.cond_true_left, @Bool.cond_false_right, @Bool.cond_true_right, @Bool.cond_false_left, @beq_false, @beq_true, @Bool.not_not, @Bool.and_true, @Bool.true_and, @Bool.or_false, @Bool.false_or, @and_true, @true_and, @Bool.false_eq_true, @Bool.true_eq_false, @ne_eq.{1}, @not_true_eq_false, @not_false_eq_true, @or_self, @or_false, @false_or, @and_false, @false_and⟩
end Go.Ab
