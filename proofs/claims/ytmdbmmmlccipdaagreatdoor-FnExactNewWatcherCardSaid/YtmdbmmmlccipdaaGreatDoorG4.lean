/-
  Part of a proof: AbY.
-/
import Derived.KernelRfl
import Derived.Test.YtmdbmmmlccipdaaGreatDoorG3
set_option linter.unusedSimpArgs false
set_option linter.unusedVariables false
namespace Go.Ab
/-- a rule of the walk, found by the goal's form: G follows from R -/
class Rl (G : Prop) (R : outParam Prop) : Prop where
  r : R → G
/-- the same for regions -/
class Rz (G : Prop) (R : outParam Prop) : Prop where
  r : R → G
/-- the same for ends -/
class Re (G : Prop) (R : outParam Prop) : Prop where
  r : R → G
theorem Y {G R : Prop} [h : Rl G R] (p : R) : G := h.r p
theorem Z {G R : Prop} [h : Rz G R] (p : R) : G := h.r p
theorem E {G R : Prop} [h : Re G R] (p : R) : G := h.r p

def exN : Exit → Nat → Bool
  | .exit j, i => Nat.beq j i
  | _, _ => true
theorem blockQ_ne {i : Nat} {e : Exit} {Q : Exit → AS → Prop} {s : AS} (hne : exN e i = false) (h : Q e s) : blockQ i Q e s := by
  cases e <;> simp only [exN, reduceCtorEq] at hne
  exact blockQ.ne hne h
section
variable {L : Nat → Nat} {P : Program} {n : Nat} {t : List (Nat × AV)} {o : Sto} {Q : Exit → AS → Prop} {id : Nat} {ops : Array Oper} {c x y : Code} {s : AS}
instance rSeq : Rl (AW L P (.seq x y) s Q) (AW L P x s (thenQ (fun s' => AW L P y s' Q) Q)) := ⟨AW.seq⟩
instance rBlock : Rl (AW L P (.block id c) s Q) (AW L P c s (blockQ id Q)) := ⟨AW.block⟩
instance rSkip : Rl (AW L P .skip s Q) (Q .normal s) := ⟨AW.skip⟩
instance rExit : Rl (AW L P (.exit id) s Q) (Q (.exit id) s) := ⟨AW.exit⟩
instance rThenN {next : AS → Prop} : Rl (thenQ next Q .normal s) (next s) := ⟨thenQ.n⟩
instance rThenE {next : AS → Prop} : Rl (thenQ next Q (.exit id) s) (Q (.exit id) s) := ⟨thenQ.e⟩
instance rThenR {next : AS → Prop} : Rl (thenQ next Q .ret s) (Q .ret s) := ⟨thenQ.r⟩
instance rBlockN : Rl (blockQ id Q .normal s) (Q .normal s) := ⟨blockQ.n⟩
instance rBlockR : Rl (blockQ id Q .ret s) (Q .ret s) := ⟨blockQ.r⟩
instance rBlockX {e : Exit} : Rl (blockQ id Q e s) (exN e id = false ∧ Q e s) := ⟨fun h => blockQ_ne h.1 h.2⟩
instance rBlockE : Rl (blockQ id Q (.exit id) s) (Q .normal s) := ⟨blockQ.eq⟩
instance rFinR {fn : Func} {R : AV → Sto → Prop} : Rl (finG L P fn R .ret s) (EndsG L P fn s R) := ⟨fun h => h⟩
instance eRet : Re (AW L P .ret s Q) (Q .ret s) := ⟨AW.ret⟩
instance rIdx {α : Type} [Inhabited α] {G : Bool} {f : α → AV} {l : List α} {n : Int} {sz : Nat} {K : AV → Prop} : Rl (idxVc G (l.map f) n sz (K := ⟨K⟩)) ((G = true → 0 ≤ n ∧ n.toNat < l.length) ∧ (f (at_ l n.toNat)).elem sz = true ∧ K (f (at_ l n.toNat))) := ⟨fun h => idxVc.map h.1 h.2.1 h.2.2⟩
instance rBs {sz : Nat} {l : List AV} {C : List Nat} {K : AV → List Nat → Prop} : Rl (bsK sz l C (K := ⟨K⟩)) (K (.sl true sz l) C) := ⟨.inl⟩
instance zRegn : Rz (AW L P (.region id ops false) ⟨n, t, o⟩ Q) (∀ K : List (Nat × AV) → Sto → Prop, (∀ t o, Q .normal ⟨n, t, o⟩ → K t o) → Wn L P ops n K (List.range ops.size) [] t o) := ⟨AW.regn⟩
instance zSregn : Rz (AW L P (.seq (.region id ops false) c) ⟨n, t, o⟩ Q) (∀ K : List (Nat × AV) → Sto → Prop, (∀ t o, AW L P c ⟨n, t, o⟩ Q → K t o) → Wn L P ops n K (List.range ops.size) [] t o) := ⟨AW.sregn⟩
instance zDrwn [MixOK P] : Rz (AW L P (.region id ops true) ⟨n, t, o⟩ Q) (∀ K : List (Nat × AV) → List (AV × List Nat) → Prop, (∀ t D, (drawOK ops (D.map Prod.snd) = true ∧ ∀ K' : List (Nat × AV) → Sto → Prop, (∀ t o, Q .normal ⟨n, t, o⟩ → K' t o) → Wn L P ops n K' (List.range' D.length (ops.size - D.length)) [] t o) → K t D) →
      W L P ops [] n o (fun t D _ => K t D) (List.range' 0 ops.size) t []) := ⟨AW.drwn⟩
instance zSdrwn [MixOK P] : Rz (AW L P (.seq (.region id ops true) c) ⟨n, t, o⟩ Q) (∀ K : List (Nat × AV) → List (AV × List Nat) → Prop, (∀ t D, (drawOK ops (D.map Prod.snd) = true ∧ ∀ K' : List (Nat × AV) → Sto → Prop, (∀ t o, AW L P c ⟨n, t, o⟩ Q → K' t o) → Wn L P ops n K' (List.range' D.length (ops.size - D.length)) [] t o) → K t D) →
      W L P ops [] n o (fun t D _ => K t D) (List.range' 0 ops.size) t []) := ⟨AW.sdrwn⟩
theorem AW.i {c : Operand} {x y : Code} {p : Bool} (hc : ev t c = .v (.bool p)) (ht : p = true → AW L P x ⟨n, t, o⟩ Q) (hf : p = false → AW L P y ⟨n, t, o⟩ Q) : AW L P (.cond c x y) ⟨n, t, o⟩ Q := AW.cond hc ht hf
end
section
variable {L : Nat → Nat} {P : Program} {os rs : Sto} {la : List AV} {bo : Option (Nat × Nat × List AV)} {rest : List AV} {f : FuncId} {args : List AV} {K : AV → Sto → Prop} {KB : Nat → Nat → List AV → AV → Prop} {KX : CallX}
instance cG {Q : AV → Sto → Prop} {pre : Prop} [h : GCtr L P f rs args Q pre] : Rl (CallN L P os rs la bo rest f args (K := ⟨K⟩) (KB := ⟨KB⟩) (KX := ⟨KX⟩)) (AV.nownL args = true ∧ pre ∧ GK os rs Q (K := ⟨K⟩)) := ⟨fun h => CallN.gctr h.1 h.2.1 h.2.2⟩
instance cZ {x0 : AV} {lar : List AV} {i sz : Nat} {l : List AV} {res : AV} {l' : List AV} {pre : Prop} [h : BCtr L P f sz l lar res l' pre] : Rl (CallN L P os rs (x0 :: lar) (some (i, sz, l)) rest f args (K := ⟨K⟩) (KB := ⟨KB⟩) (KX := ⟨KX⟩)) (AV.nownL lar = true ∧ pre ∧ KX.kb i sz l' res) := ⟨fun h => CallN.borF h.1 h.2.1 h.2.2⟩
instance cB {res : AV} {cs : List (Option (List AV))} {pre : Prop} [h : Ctr L P f [] la res cs pre] : Rl (CallN L P os rs la bo rest f args (K := ⟨K⟩) (KB := ⟨KB⟩) (KX := ⟨KX⟩)) (res.closed = true ∧ pre ∧ K res os) := ⟨fun h => CallN.low h.1 h.2.1 h.2.2⟩
instance cA {res : AV} {cs : List (Option (List AV))} {pre : Prop} [h : Ctr L P f rs args res cs pre] : Rl (CallN L P os rs la bo rest f args (K := ⟨K⟩) (KB := ⟨KB⟩) (KX := ⟨KX⟩)) (AV.nownL args = true ∧ pre ∧ K res (mergeO os (zipK rs cs))) := ⟨fun h => CallN.ctr h.1 h.2.1 h.2.2⟩
instance cF {res : AV} {pre : Prop} [h : FCtr L P f la res pre] : Rl (CallN L P os rs la bo rest f args (K := ⟨K⟩) (KB := ⟨KB⟩) (KX := ⟨KX⟩)) (pre ∧ KX.kf res) := ⟨fun h => CallN.fz h.1 h.2⟩
instance cP {G : Bool} {K : AV → Prop} {res : AV} {cs : List (Option (List AV))} {pre : Prop} [h : Ctr L P f [] args res cs pre] : Rl (CallP L P os la G f args (K := ⟨K⟩)) (AV.nownL args = true ∧ (G = true → pre) ∧ K res) := ⟨fun h => CallP.ctr h.1 h.2.1 h.2.2⟩
end
instance rBox {L : Nat → Nat} {P : Program} {os : Sto} {t : List (Nat × AV)} {d : Option Nat} {ty' : TypeId} {x : Operand} {K : List (Nat × AV) → Sto → Prop} : Rl (BoxVc L P os t d ty' x (K := ⟨K⟩)) (ovc L P os (ev t) true (.box ty' x) (fun x C => K (put (killL t C) d x) os)) := ⟨BoxVc.vp⟩
theorem xO {L : Nat → Nat} {P : Program} {os : Sto} {t : List (Nat × AV)} {d : Option Nat} {ty' : TypeId} {x : Operand} {K : List (Nat × AV) → Sto → Prop}
    (h : match ty P ty' with
      | some (_, m) => (ev t x).elem m = true ∧ ∀ b, nfO os b → K (put (killL t (kills t [x])) d (.ptr b 0)) ((b, some (ev t x).cells) :: os)
      | none => False) : BoxVc L P os t d ty' x (K := ⟨K⟩) := BoxVc.obj h
theorem eF {L : Nat → Nat} {P : Program} {n : Nat} {fn : Func} {t : List (Nat × AV)} {o o' : Sto} {rs : List ResultVar} {res : AV} (hr : fn.results = rs.toArray) (h : resW P n rs t o [] (fun xs os => oneA xs = res ∧ subO o' os)) : EndsG L P fn ⟨n, t, o⟩ (fun r os' => r = res ∧ os' = o') := EndsG.fin hr h
theorem hC : type_of% hCnd := hCnd
theorem gI {c : Bool} {p : Prop} (h : c = true → p) : Gd c (p := ⟨p⟩) := h
/-- a mark: contradictions of conditions are sought by grind -/
inductive GrOn : Prop
  | on
/-- what closes a side goal -/
theorem Cl {G : Prop} (h : G := by first | (with_reducible show List.Nodup _; decide) | (with_reducible show (_ : Bool) = false; first | rfl | (simp [*]; done)) | with_reducible exact at8_le _ _ | with_reducible exact at8_ge _ _ | (simp only [hC, reduceCtorEq]; omega) | omega | with_reducible assumption | (with_reducible show (_ : Bool) = true; first | (simp [*]; done) | (simp only [hC, reduceCtorEq]; (repeat' (first | assumption | apply And.intro)); done)) | ((with_reducible first | show False | show false = true); have := ‹GrOn›; grind)) : G := h
theorem Ct {G : Prop} (h : G := by first | exact trivial | rfl | (show drawOK _ _ = true; kernel_rfl)) : G := h
theorem gO {G : Prop} (h : G := by simp (maxSteps := 2000000) (disch := omega) only [go_sem]) : G := h
/-- a walk to the end -/
theorem uU {G : Prop} (h : G := by (repeat' first | (with_reducible first | refine Z ?_ | refine Y ?_ | (refine hK _ _ ?_; clear hK K) | refine And.intro ?_ ?_ | exact Ct | intro (K : _ → _ → Prop) hK | (refine gI fun hg => ?_; try simp only [hC, reduceCtorEq] at hg; try simp only [hg])) | (refine AW.i rfl (fun h => ?_) (fun h => ?_) <;> try simp only [hC, reduceCtorEq] at h) | ((with_reducible refine E ?_; repeat refine Y ?_); refine eF rfl ?_) | simp (maxSteps := 2000000) (disch := omega) only [go_sem] | (with_reducible intro hg; try simp only [hC, reduceCtorEq] at hg) | exact Cl | fail)) : G := h
attribute [go_sem] exN Nat.reduceBEq Nat.reduceAdd Nat.reduceMul Nat.reduceLeDiff Int.reduceEq
end Go.Ab
namespace Go.Ab
/-- a goal that waits for a walk of the kind k -/
def MV (_ : Nat) [p : Hd Prop] : Prop := p.v
end Go.Ab
