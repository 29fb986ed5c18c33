/-
  Part of a proof: AbIns, AbInc, AbFz, AbAnz, Dw4.
-/
import Derived.Orders
import Derived.WalkKit
import Derived.Deep.RegionLaw
import Derived.Deep.LoopGhost
import Derived.Lib.Walk
import Derived.Lib.SliceRun
import Derived.Lib.AppendZerosOnto
import Derived.Lib.Overlaps
import Derived.Laws.Externs
import Derived.Test.YtfglembdjbhanaaGreatDoorG0
import Derived.Test.YtfglembdjbhanaaGreatDoorG14
import Derived.Test.YtfglembdjbhanaaGreatDoorG16
set_option linter.unusedSimpArgs false
set_option linter.unusedVariables false
namespace Go.Ab
open Go.RowKit (Below)

def InsPost (w : World) (b : Option Nat) (sz len : Nat) (news : List Value) (e : Ending) (w' : World) : Prop :=
  ∃ (b' cap' : Nat) (c' : Array Value) (Ty' : TypeId), e = .returned (.slice (some ⟨b', 0, none⟩) len cap') ∧ len ≤ cap' ∧ w'.heap[b']? = some (.cells c' Ty' (0, 0)) ∧ cap' * sz ≤ c'.size ∧ (some b' = b ∨ w.heap.size ≤ b') ∧
    (∀ k, k < news.length → c'[k]? = news[k]?) ∧ w'.os = w.os ∧ w'.tape = w.tape ∧ w'.output = w.output ∧ Ext (fun k => k < w.heap.size ∧ some k ≠ b) w w'
def InsW (P : Program) (f : FuncId) (sz bytes : Nat) : Prop :=
  (∀ (w : World) (b n cap i vb vc : Nat) (c cx : Array Value) (Ty Tx : TypeId), w.heap[vb]? = some (.cells cx Tx (0, 0)) → 1 * sz ≤ cx.size → (∀ (k : Nat) (v : Value), k < 1 * sz → cx[k]? = some v → v.oneCell' = true) →
    w.heap[b]? = some (.cells c Ty (0, 0)) → n ≤ cap → cap * sz ≤ c.size → (∀ (k : Nat) (v : Value), k < n * sz → c[k]? = some v → v.oneCell' = true) → vb ≠ b → i ≤ n → (n + 1) * bytes ≤ 140737488355328 →
    Calls P f #[.slice (some ⟨b, 0, none⟩) n cap, .int .i64 i, .slice (some ⟨vb, 0, none⟩) 1 vc] w (InsPost w (some b) sz (n + 1) ((c.toList.take (n * sz)).take (i * sz) ++ (cx.toList.take (1 * sz) ++ (c.toList.take (n * sz)).drop (i * sz))))) ∧
  (∀ (w : World) (vb vc : Nat) (cx : Array Value) (Tx : TypeId), w.heap[vb]? = some (.cells cx Tx (0, 0)) → 1 * sz ≤ cx.size → (∀ (k : Nat) (v : Value), k < 1 * sz → cx[k]? = some v → v.oneCell' = true) →
    Calls P f #[.slice none 0 0, .int .i64 (0 : Nat), .slice (some ⟨vb, 0, none⟩) 1 vc] w (InsPost w none sz 1 (cx.toList.take (1 * sz))))
end Go.Ab
namespace Go.Ab
open Go.RowKit (Below)
def ConC (L : Nat → Nat) (P : Program) (f : FuncId) (args : List AV) (res : AV) : Prop :=
  ∀ (w : World) (F : Nat → Prop) (vs : List Value) (fp : List Nat), (∀ b, F b → b < w.heap.size) → RepL L F w args vs fp → fp.Nodup → (∀ b, b ∈ fp → b < w.heap.size ∧ ¬ F b) →
    Calls P f vs.toArray w fun e w' => ∃ v F' fp', e = .returned v ∧ Kp (fun b => b < w.heap.size ∧ b ∉ fp) w w' ∧ (∀ b, F b → F' b) ∧ (∀ b, F' b → F b ∨ (w.heap.size ≤ b ∧ b < w'.heap.size)) ∧
      Rep L F' w' res v fp' ∧ fp'.Nodup ∧ ∀ b, b ∈ fp' → ¬ F' b ∧ (b ∈ fp ∨ (w.heap.size ≤ b ∧ b < w'.heap.size))

section
variable {L : Nat → Nat} {P : Program}

end
end Go.Ab
namespace Go.Ab
open Go.RowKit (Below)
theorem Ctr.frz {L : Nat → Nat} {P : Program} {f : FuncId} {args : List AV} {res : AV} {cs : List (Option (List AV))} {pre : Prop} (h : Ctr L P f [] args res cs pre) : Ctr L P f [] args res.frz [] pre :=
  Ctr.of_pure h.en fun hp => (h.pure hp).frz

section
variable {L : Nat → Nat} {P : Program} {ops : Array Oper} {n : Nat} {K : AS → Prop}
def seeI (n f : Nat) (l : Array Bool) (Inv : Nat → Array Bool → AS → Prop) (t : List (Nat × AV)) (os : Sto) : Prop := ∃ live o0, subO o0 os ∧ Inv f l ⟨n, keepT t live, o0⟩
theorem seeI.mk {n f : Nat} {l : Array Bool} {Inv : Nat → Array Bool → AS → Prop} {t : List (Nat × AV)} {os : Sto} (live : List Nat) (o0 : Sto) (ho : subO o0 os) (h : Inv f l ⟨n, keepT t live, o0⟩) : seeI n f l Inv t os := ⟨live, o0, ho, h⟩
def allI (L : Nat → Nat) (P : Program) (ops : Array Oper) (n f : Nat) (l : Array Bool) (t : List (Nat × AV)) (os : Sto) (Inv : Nat → Array Bool → AS → Prop) : List Nat → Prop
  | [] => True
  | i :: rs => (match ops[i]? with
    | some o => (o.guard = none ∧ dstOK n o.dst = true) ∧ nvc L P os t o.dst o.op (fun t' os' => seeI n f (l.setIfInBounds i true) Inv t' os')
    | none => False) ∧ allI L P ops n f l t os Inv rs

theorem allI_allR {f : Nat} {l : Array Bool} {t : List (Nat × AV)} {os : Sto} {Inv : Nat → Array Bool → AS → Prop} (ih : ∀ l s, Inv f l s → AnyW L P ops f l s K) : ∀ {rs : List Nat}, allI L P ops n f l t os Inv rs →
    ∀ i, i ∈ rs → ∃ o, ops[i]? = some o ∧ o.guard = none ∧ dstOK n o.dst = true ∧ nvc L P os t o.dst o.op (fun t' os' => seeI n f (l.setIfInBounds i true) Inv t' os')
  | [], _, i, hi => by simp at hi
  | j :: rs, h, i, hi => by
    simp only [allI] at h
    rcases List.mem_cons.1 hi with rfl | hi
    · have h1 := h.1
      split at h1
      · rename_i o ho
        exact ⟨o, ho, h1.1.1, h1.1.2, h1.2⟩
      · exact h1.elim
    · exact allI_allR ih h.2 i hi

theorem AnyW.inv (Inv : Nat → Array Bool → AS → Prop) (h0 : ∀ l s, Inv 0 l s → Region.ready .any ops l = [] ∧ K s)
    (hs : ∀ f l s, Inv (f + 1) l s → ∃ rs, Region.ready .any ops l = rs ∧ rs ≠ [] ∧ allI L P ops s.n f l s.t s.o Inv rs) : ∀ f l s, Inv f l s → AnyW L P ops f l s K
  | 0, l, s, h => fun B F0 w0 a w R hd hR => wpAny_done (h0 l s h).1 ⟨rfl, hR _ _ _ (h0 l s h).2 hd⟩ 0
  | f + 1, l, s, h => by
    have ih := AnyW.inv Inv h0 hs f
    obtain ⟨rs, hr, hne, hall⟩ := hs f l s h
    obtain ⟨n, t, os⟩ := s
    intro B F0 w0 a w R hd hR
    refine wpAny_all hr hne fun i hi => ?_
    obtain ⟨o, ho, hg, hdst, hn⟩ := allI_allR (fun l s h => ih l s h) hall i hi
    unfold wpOp
    simp only [ho]
    have hw : Region.wanted o (yielded ops a.tmps) = true := by simp [Region.wanted, hg]
    rw [if_pos hw]
    refine .inl (nvc_sound hdst hn B F0 w0 a w _ _ hd fun s' a' w' hs' hd' => ?_)
    obtain ⟨hn', live, o0, hsub, hI⟩ := hs'
    obtain ⟨n', t', o'⟩ := s'
    simp only at hn' hsub hI
    subst hn'
    exact ih _ _ hI B F0 w0 a' w' R (hd'.weaken rfl (T_keep t' live) fun _ _ hb => subO_O hsub hb) hR
end
theorem AW.cut {L : Nat → Nat} {P : Program} {n : Nat} {t : List (Nat × AV)} {os : Sto} {Q : Exit → AS → Prop} {c : Code} (live : List Nat) (t0 : List (Nat × AV)) (o0 : Sto)
    (h1 : AW L P c ⟨n, t, os⟩ (fun e s' => e = .normal ∧ s'.n = n ∧ keepT s'.t live = t0 ∧ subO o0 s'.o)) (h2 : Q .normal ⟨n, t0, o0⟩) : AW L P c ⟨n, t, os⟩ Q := by
  refine AW.post (h1.mono ?_)
  rintro e ⟨n', t', o'⟩ ⟨rfl, hn, hT, ho⟩
  simp only at hn hT ho
  subst hn hT
  exact Imp.weak h2 (T_keep t' live) fun _ _ hb => subO_O ho hb
end Go.Ab
namespace Go.Ab
open Go.RowKit (Below)
section
variable {L : Nat → Nat} {P : Program} {ops : Array Oper} {n fuel : Nat} {listed : Array Bool} {t : List (Nat × AV)} {os : Sto} {K : AS → Prop}
theorem AnyW.takeG (i : Nat) {oi : Oper} {x : AV} {u : Value} (hi : ops[i]? = some oi) (hs : Region.noSelect ops = true) (hf : Region.free .any ops listed i = true) (hr : (Region.ready .any ops listed).contains i = true)
    (hg : oi.guard = none) (hd : dstOK n oi.dst = true)
    (hx : ∀ B F0 w0 F own fp fs a w, DenAt L B F0 w0 F own fp fs ⟨n, t, os⟩ a w → ∀ w' : World, (execOp a.eval oi).run P w' = .ok (.value u) w')
    (hrep : ∀ F' w', Rep L F' w' x u [])
    (h : AnyW L P ops fuel (listed.setIfInBounds i true) ⟨n, put t oi.dst x, os⟩ K) : AnyW L P ops (fuel + 1) listed ⟨n, t, os⟩ K := by
  intro B F0 w0 a w R hden hR
  have hw : Region.wanted oi (yielded ops a.tmps) = true := by simp [Region.wanted, hg]
  obtain ⟨F, own, fp, fs, hD⟩ := hden
  refine wpAny_take hi hs hf hr (fun c a w h => by cases h.1) (.inl ⟨hw, hx _ _ _ _ _ _ _ _ _ hD⟩) ?_
  refine h B F0 w0 _ w R ?_ hR
  have := hD.put (x := x) (v := u) (fx := []) [] oi.dst hd (w' := w) (F' := F) (Kp.refl _ _) (fun _ h => h) (fun b h => .inl h) (hrep F w) (by simp) (by simp)
  simpa [killL] using this
theorem AnyW.mvP (i : Nat) (hs : Region.noSelect ops = true) (hf : Region.free .any ops listed i = true) (hr : (Region.ready .any ops listed).contains i = true)
    (h : match ops[i]? with
      | some oi => (oi.guard = none ∧ dstOK n oi.dst = true) ∧ (match oi.op with
        | .move y => (match ev t y with
          | .ptr b o => AnyW L P ops fuel (listed.setIfInBounds i true) ⟨n, put t oi.dst (.ptr b o), os⟩ K
          | _ => False)
        | _ => False)
      | none => False) : AnyW L P ops (fuel + 1) listed ⟨n, t, os⟩ K := by
  split at h
  · rename_i oi hi
    obtain ⟨⟨hg, hd⟩, h⟩ := h
    split at h
    · rename_i y hop
      split at h
      · rename_i b o hy
        refine AnyW.takeG i hi hs hf hr hg hd (x := .ptr b o) (u := .pointer (some ⟨b, o, none⟩)) (fun B F0 w0 F own fp fs a w hD w' => ?_) (fun F' w' => by simp [Rep]) h
        have := hD.ev y
        rw [hy] at this
        simp only [Rep] at this
        simp [execOp, hop, this.1]
      · exact h.elim
    · exact h.elim
  · exact h.elim
theorem AnyW.cat (i : Nat) (hs : Region.noSelect ops = true) (hf : Region.free .any ops listed i = true) (hr : (Region.ready .any ops listed).contains i = true)
    (h : match ops[i]? with
      | some oi => (oi.guard = none ∧ dstOK n oi.dst = true) ∧ (match oi.op with
        | .binOp .add _ x y _ => (match ev t x, ev t y with
          | .str a, .str b => a.length + b.length ≤ 4611686018427387904 ∧ AnyW L P ops fuel (listed.setIfInBounds i true) ⟨n, put t oi.dst (.str (a ++ b)), os⟩ K
          | _, _ => False)
        | _ => False)
      | none => False) : AnyW L P ops (fuel + 1) listed ⟨n, t, os⟩ K := by
  split at h
  · rename_i oi hi
    obtain ⟨⟨hg, hd⟩, h⟩ := h
    split at h
    · rename_i ty x y ty' hop
      split at h
      · rename_i a b hx hy
        obtain ⟨hsz, h⟩ := h
        refine AnyW.takeG i hi hs hf hr hg hd (x := .str (a ++ b)) (u := .string ⟨(a ++ b).toArray⟩) (fun B F0 w0 F own fp fs act w hD w' => ?_) (fun F' w' => by simp only [Rep]; exact ⟨trivial, by simpa using hsz, trivial⟩) h
        have h1 : ¬ ((a.length : Int) + (b.length : Int) > IntKind.i64.max) := by simp [IntKind.max, IntKind.bits, IntKind.signed]; omega
        have hgd : (eqGuard .add ty x y (.string ⟨a.toArray⟩) (.string ⟨b.toArray⟩)).run P w' = .ok () w' := by simp [eqGuard]
        have hsl : ∀ l : List UInt8, (ByteArray.mk l.toArray).size = l.length := fun l => by simp [ByteArray.size]
        have hrn : (do eqGuard .add ty x y (.string ⟨a.toArray⟩) (.string ⟨b.toArray⟩); binOp .add ty (.string ⟨a.toArray⟩) (.string ⟨b.toArray⟩) : Sem Value).run P w' = .ok (.string ⟨(a ++ b).toArray⟩) w' := by
          rw [Sem.run_bind, hgd]
          simp only [Result.andThen_ok, binOp, Op.stringOp]
          rw [if_neg (by rw [hsl, hsl]; push_cast; exact h1)]
          simp only [Sem.run_pure]
          congr 2
        simp only [execOp, hop, (hD.sval hx).1, (hD.sval hy).1]
        rw [Sem.run_bind, hrn]
        rfl
      · exact h.elim
    · exact h.elim
  · exact h.elim
theorem AnyW.cst (i d : Nat) (x : AV) (u : Value) {oi : Oper} (hi : ops[i]? = some oi) (hdd : oi.dst = some d) (hs : Region.noSelect ops = true) (hf : Region.free .any ops listed i = true) (hr : (Region.ready .any ops listed).contains i = true)
    (hg : oi.guard = none) (hd : dstOK n (some d) = true) (hx : ∀ (a : Act) (w' : World), (execOp a.eval oi).run P w' = .ok (.value u) w') (hrep : ∀ F' w', Rep L F' w' x u [])
    (h : AnyW L P ops fuel (listed.setIfInBounds i true) ⟨n, put t (some d) x, os⟩ K) : AnyW L P ops (fuel + 1) listed ⟨n, t, os⟩ K :=
  AnyW.takeG i hi hs hf hr hg (by rw [hdd]; exact hd) (fun _ _ _ _ _ _ _ a _ _ w' => hx a w') hrep (by rw [hdd]; exact h)
end
theorem AW.anyE {L : Nat → Nat} {P : Program} [hM : MixOK P] {ops : Array Oper} {n id : Nat} {t : List (Nat × AV)} {os : Sto} {Q : Exit → AS → Prop} (K0 : AS → Prop)
    (h : AnyW L P ops ops.size (Array.replicate ops.size false) ⟨n, t, os⟩ K0) (h2 : ∀ s', K0 s' → Q .normal s') : AW L P (.region id ops true) ⟨n, t, os⟩ Q :=
  AW.any hM.h fun B F0 w0 a w R hd hR => h B F0 w0 a w R hd fun s' a' w' k hd' => hR s' a' w' (h2 s' k) hd'
end Go.Ab
namespace Go.Dt
open Go.Ab
def drQ (R : AV → Prop) : AV → Sto → Prop := fun r os => os = [] ∧ R r
def rTA : AV → Prop := fun r => ∃ (t : GTemplate) (l : List GArg), r = .tup [.agg [.str t.fName, .sl false 6 (t.fParams.map (encParam false)), .sl false 3 (t.fBody.map (encNode false))], .sl false 2 (l.map (encArg false))] ∧ (wt t.fBody ≤ 4096 ∧ t.fParams.length ≤ 2) ∧ l.length ≤ 3 ∧ ∀ a ∈ l, a.fName.length ≤ 64 ∧ a.fValue.length ≤ 64
def rXA : AV → Prop := fun r => ∃ (s : Str) (l : List GArg), r = .tup [.str s, .sl false 2 (l.map (encArg false))] ∧ s.length ≤ 32 ∧ l.length ≤ 2 ∧ ∀ a ∈ l, a.fName.length ≤ 64 ∧ a.fValue.length ≤ 64
theorem rTA_0 {nm : Str} {t : GTemplate} {l : List GArg} (h1 : wt t.fBody ≤ 4096 ∧ t.fParams.length ≤ 2) (h2 : l.length ≤ 3 ∧ ∀ a ∈ l, a.fName.length ≤ 64 ∧ a.fValue.length ≤ 64) : rTA (.tup [.agg [.str nm, .sl false 6 (t.fParams.map (encParam false)), .sl false 3 (t.fBody.map (encNode false))], .sl false 2 (l.map (encArg false))]) := ⟨⟨nm, t.fParams, t.fBody⟩, l, rfl, h1, h2⟩
theorem rTA_1 {nm : Str} {t : GTemplate} {l : List GArg} {n : Nat} (hn : l.length ≤ n) (h1 : wt t.fBody ≤ 4096 ∧ t.fParams.length ≤ 2) (h2 : l.length ≤ 3 ∧ ∀ a ∈ l, a.fName.length ≤ 64 ∧ a.fValue.length ≤ 64) : rTA (.tup [.agg [.str nm, .sl false 6 (t.fParams.map (encParam false)), .sl false 3 (t.fBody.map (encNode false))], .sl false 2 (List.drop (Int.toNat 1) (List.take n (l.map (encArg false))))]) := by
  rw [List.take_of_length_le (by simpa using hn), ← List.map_drop]
  refine rTA_0 h1 ⟨by rw [List.length_drop]; omega, fun a ha => h2.2 a (List.mem_of_mem_drop ha)⟩
end Go.Dt
namespace Go.Ab
open Go.Dt
section
variable {L : Nat → Nat} {P : Program} {n : Nat} {fn : Func} {t : List (Nat × AV)} {o : Sto} {rs : List ResultVar} {os : Sto} {K : AV → Sto → Prop}
theorem EndsG.dr {R : AV → Prop} (hr : fn.results = rs.toArray) (h : resW P n rs t o [] (fun xs _ => R (oneA xs))) : EndsG L P fn ⟨n, t, o⟩ (drQ R) := by
  have h2 : EndsG L P fn ⟨n, t, o⟩ (fun r _ => R r) := EndsG.res hr h
  intro B F0 w0 a w hd
  obtain ⟨v, res', os', F', own', fs', fp, h3, h4, h5, h6, h7, h8⟩ := h2 B F0 w0 a w hd
  exact ⟨v, res', [], F', own', fs', fp, h3, ⟨rfl, h4⟩, h5.sub (o' := []) trivial, h6, h7, h8⟩
instance gkTA : Rl (GK os [] (drQ rTA) (K := ⟨K⟩)) (∀ (t : GTemplate) (l : List GArg), ((wt t.fBody ≤ 4096 ∧ t.fParams.length ≤ 2) ∧ l.length ≤ 3 ∧ ∀ a ∈ l, a.fName.length ≤ 64 ∧ a.fValue.length ≤ 64) → K (.tup [.agg [.str t.fName, .sl false 6 (t.fParams.map (encParam false)), .sl false 3 (t.fBody.map (encNode false))], .sl false 2 (l.map (encArg false))]) os) :=
  ⟨fun k => by rintro res os' ⟨rfl, t, l, rfl, h⟩; exact ⟨rfl, k t l h⟩⟩
instance gkXA : Rl (GK os [] (drQ rXA) (K := ⟨K⟩)) (∀ (s : Str) (l : List GArg), (s.length ≤ 32 ∧ l.length ≤ 2 ∧ ∀ a ∈ l, a.fName.length ≤ 64 ∧ a.fValue.length ≤ 64) → K (.tup [.str s, .sl false 2 (l.map (encArg false))]) os) :=
  ⟨fun k => by rintro res os' ⟨rfl, t, l, rfl, h⟩; exact ⟨rfl, k t l h⟩⟩
end
end Go.Ab
namespace Go.Dt
open Go.Ab
def drA : List GArg := [⟨[119, 104, 111], [97, 110, 110]⟩, ⟨[108, 101, 118, 101, 108], [36]⟩]
theorem repA {L : Nat → Nat} {F : Nat → Prop} {w : World} (a b : Str) (ha : a.length ≤ 4611686018427387904 := by decide) (hb : b.length ≤ 4611686018427387904 := by decide) : Rep L F w (.agg [.str a, .str b]) (.agg #[.string ⟨a.toArray⟩, .string ⟨b.toArray⟩]) [] := by
  simp only [Rep, RepL]
  exact ⟨_, rfl, _, _, [], [], rfl, rfl, ⟨rfl, ha, rfl⟩, _, _, [], [], rfl, rfl, ⟨rfl, hb, rfl⟩, rfl, rfl⟩
def fTx (s' : AS) : Prop := ∃ (s1 s2 : Str) (x : Int), (s1.length ≤ 16 ∧ s2.length ≤ 16 ∧ 0 ≤ x ∧ x < 3) ∧ s' = ⟨18, [(2, .str (s1 ++ s2)), (3, .sl false 2 ((drA.take x.toNat).map (encArg false)))], []⟩
theorem fTx_mk {s1 s2 : Str} {x : Int} (h : s1.length ≤ 16 ∧ s2.length ≤ 16 ∧ 0 ≤ x ∧ x < 3) : fTx ⟨18, [(2, .str (s1 ++ s2)), (3, .sl false 2 (List.drop (Int.toNat 0) (List.take x.toNat [.agg [.str [119, 104, 111], .str [97, 110, 110]], .agg [.str [108, 101, 118, 101, 108], .str [36]]])))], []⟩ := ⟨s1, s2, x, h, by rw [List.map_take]; rfl⟩
theorem drA_ok : ∀ a ∈ drA, a.fName.length ≤ 64 ∧ a.fValue.length ≤ 64 := by simp [drA]
end Go.Dt
namespace Go.Proofs.YtfglembdjbhanaaGreatDoor
open Go.Ab Go.Dt
set_option maxRecDepth 20000
set_option maxHeartbeats 4000000
instance DrawFillTemplate_i (s : Str) : GCtr lim Tryz.prog 6 [] [.sl false 1 (bytesA s)] (drQ rTA) (s.length ≤ 4096) := by
  refine GCtr.of_body en6 Tryz.func6 rfl rfl fun hp => (?_); rw [Tryz.ntmps6]
  (refine vN ?_; with_reducible repeat' first | exact Le.l | refine Sw ?_ ?_ | intro (K : _ → _ → Prop) hK | intro h)
  refine Z ?_
  (refine vN ?_; with_reducible repeat' first | exact Le.l | refine Sw ?_ ?_ | intro (K : _ → _ → Prop) hK | intro h)
  refine Z ?_
  (refine vN ?_; with_reducible repeat' first | exact Le.l | refine Sw ?_ ?_ | intro (K : _ → _ → Prop) hK | intro h)
  refine Z ?_
  (refine vN ?_; with_reducible repeat' first | exact Le.l | refine Sw ?_ ?_ | intro (K : _ → _ → Prop) hK | intro h)
  refine Z ?_
  (refine vN ?_; with_reducible repeat' first | exact Le.l | refine Sw ?_ ?_ | intro (K : _ → _ → Prop) hK | intro h)
  · rename_i hh q1 q2 pp
    exact hh.2.2.2 _ h
  refine AW.imp (Imp.frz 6 ?_)
  simp (maxSteps := 2000000) (disch := omega) only [go_sem, encArgM_frz]
  rename_i hh _ _ _ _ l
  have hl := h
  have ht := And.intro hh.2.1 hh.2.2.1
  (repeat' first | (with_reducible first | refine Z ?_ | refine Y ?_ | (refine hK _ _ ?_; clear hK K) | refine And.intro ?_ ?_ | exact Ct | intro (K : _ → _ → Prop) hK | (refine gI fun hg => ?_; try simp only [hC, reduceCtorEq] at hg; try simp only [hg])) | (refine AW.i rfl (fun h => ?_) (fun h => ?_) <;> try simp only [hC, reduceCtorEq] at h) | ((with_reducible refine E ?_; repeat refine Y ?_); refine eF rfl ?_) | simp (disch := omega) only [go_sem, cond_true] | (with_reducible intro hg; try simp only [hC, reduceCtorEq] at hg) | exact Cl | fail)
  all_goals (refine AW.ret (EndsG.dr rfl ?_); simp (maxSteps := 2000000) (disch := omega) only [go_sem])
  · exact rTA_1 (by omega) ht hl.2
  · exact rTA_0 ht hl.2
  · exact rTA_1 (by omega) ht hl.2
  · exact rTA_0 ht hl.2
instance DrawFillText_i (s : Str) : GCtr lim Tryz.prog 8 [] [.sl false 1 (bytesA s)] (drQ rXA) (s.length ≤ 4096) := by
  refine GCtr.of_body en8 Tryz.func8 rfl rfl fun hp => (?_); rw [Tryz.ntmps8]
  haveI fz : ∀ (sz : Nat) (x : AV) (l : List AV) (C : List Nat) (K : AV → List Nat → Prop), Rl (bsK sz (x :: l) C (K := ⟨K⟩)) (K (.sl false sz (AV.frzL (x :: l))) C) := fun _ _ _ _ _ => ⟨.inr⟩
  (refine vN ?_; with_reducible repeat' first | exact Le.l | refine Sw ?_ ?_ | intro (K : _ → _ → Prop) hK | intro h)
  refine Z ?_
  (refine vN ?_; with_reducible repeat' first | exact Le.l | refine Sw ?_ ?_ | intro (K : _ → _ → Prop) hK | intro h)
  refine Z ?_
  (refine vN ?_; with_reducible repeat' first | exact Le.l | refine Sw ?_ ?_ | intro (K : _ → _ → Prop) hK | intro h)
  refine AW.anyE fTx ?_ ?_
  · change AnyW lim Tryz.prog _ 13 #[false, false, false, false, false, false, false, false, false, false, false, false, false] _ _
    refine AnyW.mvP (fuel := 12) 0 (by kernel_rfl) (by kernel_rfl) (by kernel_rfl) ?_
    simp (maxSteps := 2000000) (disch := omega) only [go_sem]
    refine AnyW.mvP (fuel := 11) 2 (by kernel_rfl) (by kernel_rfl) (by kernel_rfl) ?_
    simp (maxSteps := 2000000) (disch := omega) only [go_sem]
    refine AnyW.mvP (fuel := 10) 8 (by kernel_rfl) (by kernel_rfl) (by kernel_rfl) ?_
    simp (maxSteps := 2000000) (disch := omega) only [go_sem]
    refine AnyW.cst (fuel := 9) 5 12 (.agg [.str [119, 104, 111], .str [97, 110, 110]]) (.agg #[.string ⟨#[119, 104, 111]⟩, .string ⟨#[97, 110, 110]⟩]) rfl rfl (by kernel_rfl) (by kernel_rfl) (by kernel_rfl) rfl (by kernel_rfl) (fun a w => by kernel_rfl) (fun F w => repA _ _) ?_
    simp (maxSteps := 2000000) (disch := omega) only [go_sem]
    refine AnyW.cst (fuel := 8) 6 13 (.agg [.str [108, 101, 118, 101, 108], .str [36]]) (.agg #[.string ⟨#[108, 101, 118, 101, 108]⟩, .string ⟨#[36]⟩]) rfl rfl (by kernel_rfl) (by kernel_rfl) (by kernel_rfl) rfl (by kernel_rfl) (fun a w => by kernel_rfl) (fun F w => repA _ _) ?_
    simp (maxSteps := 2000000) (disch := omega) only [go_sem]
    refine AnyW.step [1, 7] (by kernel_rfl) (by simp) ?_
    simp (maxSteps := 2000000) (disch := omega) only [go_sem, allR]
    (refine vN ?_; with_reducible repeat' first | exact Le.l | refine Sw ?_ ?_ | intro (K : _ → _ → Prop) hK | intro h)
    · refine AnyW.step [3, 7] (by kernel_rfl) (by simp) ?_
      simp (maxSteps := 2000000) (disch := omega) only [go_sem, allR]
      (refine vN ?_; with_reducible repeat' first | exact Le.l | refine Sw ?_ ?_ | intro (K : _ → _ → Prop) hK | intro h)
      · refine AnyW.cat (fuel := 5) 4 (by kernel_rfl) (by kernel_rfl) (by kernel_rfl) ?_
        simp (maxSteps := 2000000) (disch := omega) only [go_sem]
        refine ⟨by omega, ?_⟩
        refine AnyW.step [7, 9] (by kernel_rfl) (by simp) ?_
        simp (maxSteps := 2000000) (disch := omega) only [go_sem, allR]
        (refine vN ?_; with_reducible repeat' first | exact Le.l | refine Sw ?_ ?_ | intro (K : _ → _ → Prop) hK | intro h)
        · refine AnyW.step [9] (by kernel_rfl) (by simp) ?_
          simp (maxSteps := 2000000) (disch := omega) only [go_sem, allR]
          (refine vN ?_; with_reducible repeat' first | exact Le.l | refine Sw ?_ ?_ | intro (K : _ → _ → Prop) hK | intro h)
          refine AnyW.step [10, 11] (by kernel_rfl) (by simp) ?_
          simp (maxSteps := 2000000) (disch := omega) only [go_sem, allR]
          (refine vN ?_; with_reducible repeat' first | exact Le.l | refine Sw ?_ ?_ | intro (K : _ → _ → Prop) hK | intro h)
          · refine AnyW.step [11] (by kernel_rfl) (by simp) ?_
            simp (maxSteps := 2000000) (disch := omega) only [go_sem, allR]
            (refine vN ?_; with_reducible repeat' first | exact Le.l | refine Sw ?_ ?_ | intro (K : _ → _ → Prop) hK | intro h)
            refine AnyW.step [12] (by kernel_rfl) (by simp) ?_
            simp (maxSteps := 2000000) (disch := omega) only [go_sem, allR]
            (refine vN ?_; with_reducible repeat' first | exact Le.l | refine Sw ?_ ?_ | intro (K : _ → _ → Prop) hK | intro h)
            refine AnyW.doneK [2, 3] [] (by kernel_rfl) trivial ?_
            simp (maxSteps := 2000000) (disch := omega) only [go_sem]
            exact fTx_mk (by omega)
          · refine AnyW.step [10] (by kernel_rfl) (by simp) ?_
            simp (maxSteps := 2000000) (disch := omega) only [go_sem, allR]
            (refine vN ?_; with_reducible repeat' first | exact Le.l | refine Sw ?_ ?_ | intro (K : _ → _ → Prop) hK | intro h)
            refine AnyW.step [12] (by kernel_rfl) (by simp) ?_
            simp (maxSteps := 2000000) (disch := omega) only [go_sem, allR]
            (refine vN ?_; with_reducible repeat' first | exact Le.l | refine Sw ?_ ?_ | intro (K : _ → _ → Prop) hK | intro h)
            refine AnyW.doneK [2, 3] [] (by kernel_rfl) trivial ?_
            simp (maxSteps := 2000000) (disch := omega) only [go_sem]
            exact fTx_mk (by omega)
        · refine AnyW.step [7, 11] (by kernel_rfl) (by simp) ?_
          simp (maxSteps := 2000000) (disch := omega) only [go_sem, allR]
          (refine vN ?_; with_reducible repeat' first | exact Le.l | refine Sw ?_ ?_ | intro (K : _ → _ → Prop) hK | intro h)
          · refine AnyW.step [10, 11] (by kernel_rfl) (by simp) ?_
            simp (maxSteps := 2000000) (disch := omega) only [go_sem, allR]
            (refine vN ?_; with_reducible repeat' first | exact Le.l | refine Sw ?_ ?_ | intro (K : _ → _ → Prop) hK | intro h)
            · refine AnyW.step [11] (by kernel_rfl) (by simp) ?_
              simp (maxSteps := 2000000) (disch := omega) only [go_sem, allR]
              (refine vN ?_; with_reducible repeat' first | exact Le.l | refine Sw ?_ ?_ | intro (K : _ → _ → Prop) hK | intro h)
              refine AnyW.step [12] (by kernel_rfl) (by simp) ?_
              simp (maxSteps := 2000000) (disch := omega) only [go_sem, allR]
              (refine vN ?_; with_reducible repeat' first | exact Le.l | refine Sw ?_ ?_ | intro (K : _ → _ → Prop) hK | intro h)
              refine AnyW.doneK [2, 3] [] (by kernel_rfl) trivial ?_
              simp (maxSteps := 2000000) (disch := omega) only [go_sem]
              exact fTx_mk (by omega)
            · refine AnyW.step [10] (by kernel_rfl) (by simp) ?_
              simp (maxSteps := 2000000) (disch := omega) only [go_sem, allR]
              (refine vN ?_; with_reducible repeat' first | exact Le.l | refine Sw ?_ ?_ | intro (K : _ → _ → Prop) hK | intro h)
              refine AnyW.step [12] (by kernel_rfl) (by simp) ?_
              simp (maxSteps := 2000000) (disch := omega) only [go_sem, allR]
              (refine vN ?_; with_reducible repeat' first | exact Le.l | refine Sw ?_ ?_ | intro (K : _ → _ → Prop) hK | intro h)
              refine AnyW.doneK [2, 3] [] (by kernel_rfl) trivial ?_
              simp (maxSteps := 2000000) (disch := omega) only [go_sem]
              exact fTx_mk (by omega)
          · refine AnyW.step [7] (by kernel_rfl) (by simp) ?_
            simp (maxSteps := 2000000) (disch := omega) only [go_sem, allR]
            (refine vN ?_; with_reducible repeat' first | exact Le.l | refine Sw ?_ ?_ | intro (K : _ → _ → Prop) hK | intro h)
            refine AnyW.step [10] (by kernel_rfl) (by simp) ?_
            simp (maxSteps := 2000000) (disch := omega) only [go_sem, allR]
            (refine vN ?_; with_reducible repeat' first | exact Le.l | refine Sw ?_ ?_ | intro (K : _ → _ → Prop) hK | intro h)
            refine AnyW.step [12] (by kernel_rfl) (by simp) ?_
            simp (maxSteps := 2000000) (disch := omega) only [go_sem, allR]
            (refine vN ?_; with_reducible repeat' first | exact Le.l | refine Sw ?_ ?_ | intro (K : _ → _ → Prop) hK | intro h)
            refine AnyW.doneK [2, 3] [] (by kernel_rfl) trivial ?_
            simp (maxSteps := 2000000) (disch := omega) only [go_sem]
            exact fTx_mk (by omega)
      · refine AnyW.step [3] (by kernel_rfl) (by simp) ?_
        simp (maxSteps := 2000000) (disch := omega) only [go_sem, allR]
        (refine vN ?_; with_reducible repeat' first | exact Le.l | refine Sw ?_ ?_ | intro (K : _ → _ → Prop) hK | intro h)
        refine AnyW.cat (fuel := 4) 4 (by kernel_rfl) (by kernel_rfl) (by kernel_rfl) ?_
        simp (maxSteps := 2000000) (disch := omega) only [go_sem]
        refine ⟨by omega, ?_⟩
        refine AnyW.step [9] (by kernel_rfl) (by simp) ?_
        simp (maxSteps := 2000000) (disch := omega) only [go_sem, allR]
        (refine vN ?_; with_reducible repeat' first | exact Le.l | refine Sw ?_ ?_ | intro (K : _ → _ → Prop) hK | intro h)
        refine AnyW.step [10, 11] (by kernel_rfl) (by simp) ?_
        simp (maxSteps := 2000000) (disch := omega) only [go_sem, allR]
        (refine vN ?_; with_reducible repeat' first | exact Le.l | refine Sw ?_ ?_ | intro (K : _ → _ → Prop) hK | intro h)
        · refine AnyW.step [11] (by kernel_rfl) (by simp) ?_
          simp (maxSteps := 2000000) (disch := omega) only [go_sem, allR]
          (refine vN ?_; with_reducible repeat' first | exact Le.l | refine Sw ?_ ?_ | intro (K : _ → _ → Prop) hK | intro h)
          refine AnyW.step [12] (by kernel_rfl) (by simp) ?_
          simp (maxSteps := 2000000) (disch := omega) only [go_sem, allR]
          (refine vN ?_; with_reducible repeat' first | exact Le.l | refine Sw ?_ ?_ | intro (K : _ → _ → Prop) hK | intro h)
          refine AnyW.doneK [2, 3] [] (by kernel_rfl) trivial ?_
          simp (maxSteps := 2000000) (disch := omega) only [go_sem]
          exact fTx_mk (by omega)
        · refine AnyW.step [10] (by kernel_rfl) (by simp) ?_
          simp (maxSteps := 2000000) (disch := omega) only [go_sem, allR]
          (refine vN ?_; with_reducible repeat' first | exact Le.l | refine Sw ?_ ?_ | intro (K : _ → _ → Prop) hK | intro h)
          refine AnyW.step [12] (by kernel_rfl) (by simp) ?_
          simp (maxSteps := 2000000) (disch := omega) only [go_sem, allR]
          (refine vN ?_; with_reducible repeat' first | exact Le.l | refine Sw ?_ ?_ | intro (K : _ → _ → Prop) hK | intro h)
          refine AnyW.doneK [2, 3] [] (by kernel_rfl) trivial ?_
          simp (maxSteps := 2000000) (disch := omega) only [go_sem]
          exact fTx_mk (by omega)
    · refine AnyW.step [1] (by kernel_rfl) (by simp) ?_
      simp (maxSteps := 2000000) (disch := omega) only [go_sem, allR]
      (refine vN ?_; with_reducible repeat' first | exact Le.l | refine Sw ?_ ?_ | intro (K : _ → _ → Prop) hK | intro h)
      refine AnyW.step [3] (by kernel_rfl) (by simp) ?_
      simp (maxSteps := 2000000) (disch := omega) only [go_sem, allR]
      (refine vN ?_; with_reducible repeat' first | exact Le.l | refine Sw ?_ ?_ | intro (K : _ → _ → Prop) hK | intro h)
      refine AnyW.cat (fuel := 4) 4 (by kernel_rfl) (by kernel_rfl) (by kernel_rfl) ?_
      simp (maxSteps := 2000000) (disch := omega) only [go_sem]
      refine ⟨by omega, ?_⟩
      refine AnyW.step [9] (by kernel_rfl) (by simp) ?_
      simp (maxSteps := 2000000) (disch := omega) only [go_sem, allR]
      (refine vN ?_; with_reducible repeat' first | exact Le.l | refine Sw ?_ ?_ | intro (K : _ → _ → Prop) hK | intro h)
      refine AnyW.step [10, 11] (by kernel_rfl) (by simp) ?_
      simp (maxSteps := 2000000) (disch := omega) only [go_sem, allR]
      (refine vN ?_; with_reducible repeat' first | exact Le.l | refine Sw ?_ ?_ | intro (K : _ → _ → Prop) hK | intro h)
      · refine AnyW.step [11] (by kernel_rfl) (by simp) ?_
        simp (maxSteps := 2000000) (disch := omega) only [go_sem, allR]
        (refine vN ?_; with_reducible repeat' first | exact Le.l | refine Sw ?_ ?_ | intro (K : _ → _ → Prop) hK | intro h)
        refine AnyW.step [12] (by kernel_rfl) (by simp) ?_
        simp (maxSteps := 2000000) (disch := omega) only [go_sem, allR]
        (refine vN ?_; with_reducible repeat' first | exact Le.l | refine Sw ?_ ?_ | intro (K : _ → _ → Prop) hK | intro h)
        refine AnyW.doneK [2, 3] [] (by kernel_rfl) trivial ?_
        simp (maxSteps := 2000000) (disch := omega) only [go_sem]
        exact fTx_mk (by omega)
      · refine AnyW.step [10] (by kernel_rfl) (by simp) ?_
        simp (maxSteps := 2000000) (disch := omega) only [go_sem, allR]
        (refine vN ?_; with_reducible repeat' first | exact Le.l | refine Sw ?_ ?_ | intro (K : _ → _ → Prop) hK | intro h)
        refine AnyW.step [12] (by kernel_rfl) (by simp) ?_
        simp (maxSteps := 2000000) (disch := omega) only [go_sem, allR]
        (refine vN ?_; with_reducible repeat' first | exact Le.l | refine Sw ?_ ?_ | intro (K : _ → _ → Prop) hK | intro h)
        refine AnyW.doneK [2, 3] [] (by kernel_rfl) trivial ?_
        simp (maxSteps := 2000000) (disch := omega) only [go_sem]
        exact fTx_mk (by omega)
  · rintro _ ⟨s1, s2, x, hx, rfl⟩
    (refine vU ?_; with_reducible repeat' first | exact Le.l | refine Sw ?_ ?_ | intro (K : _ → _ → Prop) hK | intro h)
    refine AW.ret (EndsG.dr rfl ?_)
    simp (maxSteps := 2000000) (disch := omega) only [go_sem]
    exact ⟨s1 ++ s2, drA.take x.toNat, rfl, by rw [List.length_append]; omega, by rw [List.length_take]; omega, fun a ha => drA_ok a (List.mem_of_mem_take ha)⟩
end Go.Proofs.YtfglembdjbhanaaGreatDoor
