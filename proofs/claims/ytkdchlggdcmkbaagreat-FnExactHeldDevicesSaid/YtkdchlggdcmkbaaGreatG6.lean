/-
  Part of a proof: AbN5, AbG.
-/
import Derived.Test.YtkdchlggdcmkbaaGreatG3
set_option linter.unusedSimpArgs false
set_option linter.unusedVariables false
namespace Go.Ab
open Go.RowKit (Below)
section
variable {L : Nat → Nat} {n : Nat} {t : List (Nat × AV)} {o : Sto} {Q : AS → Prop}
end

theorem EndsG.imp {L : Nat → Nat} {P : Program} {fn : Func} {s : AS} {Q : AV → Sto → Prop} (h : Imp L s (fun s' => EndsG L P fn s' Q)) : EndsG L P fn s Q := by
  intro B F0 w0 a w hd
  obtain ⟨s', h1, h2⟩ := h B F0 w0 a w hd
  exact h1 B F0 w0 a w h2

theorem mkC_at {α : Type} [Inhabited α] (f : α → AV) (zs : List Value) (sz : Nat) (hf : ∀ x, (f x).cells.length = sz) (hz : zs.length = sz) (l : List α) (k : Nat) (hk : k < l.length) :
    (mkC f zs l k).take (k * sz) ++ (f (at_ l k)).cells ++ (mkC f zs l k).drop (k * sz + sz) = mkC f zs l (k + 1) := by
  have : at_ l k = l[k] := by unfold at_; rw [List.getElem?_eq_getElem hk]; rfl
  rw [this]; exact mkC_step f zs sz hf hz l k hk

/-- a slice that was made and filled is owned -/
theorem AW.made {L : Nat → Nat} {P : Program} {c : Code} {n : Nat} {t : List (Nat × AV)} {Q : Exit → AS → Prop} {α : Type} {f : α → AV} {zs : List Value} {l : List α} {k b sz : Nat} (i : Nat) (hT : T t i = .arr b 0 l.length sz) (hk : ¬ k < l.length) (hkl : k ≤ l.length) (hel : ∀ x, (f x).elem sz = true)
    (h : AW L P c ⟨n, (i, .sl true sz (l.map f)) :: t, []⟩ Q) : AW L P c ⟨n, t, [(b, some (mkC f zs l k))]⟩ Q := by
  have hk' : k = l.length := by omega
  subst hk'
  rw [mkC_end]
  refine AW.imp (Imp.bind (Q := fun s' => s' = ⟨n, (i, .sl true sz (l.map f)) :: t, (b, none) :: [(b, some ((l.map f).flatMap AV.cells))]⟩) (Imp.fold i (b := b) (len := l.length) (sz := sz) (cells := (l.map f).flatMap AV.cells) (l := l.map f) hT (O_eq _ _ _) (by simp) ?_ ?_ rfl) ?_)
  · rw [List.take_of_length_le]
    rw [flat_elem_len (sz := sz) (by intro z hz; simp only [List.mem_map] at hz; obtain ⟨x, _, rfl⟩ := hz; exact hel x)]; simp
  · intro z hz; simp only [List.mem_map] at hz; obtain ⟨x, _, rfl⟩ := hz; exact hel x
  · rintro _ rfl
    exact Imp.weak h (fun _ => .inl rfl) (fun b cells hb => by simp [O] at hb)
theorem BCtr.of {L : Nat → Nat} {P : Program} {f : FuncId} {sz : Nat} {l rest : List AV} {res : AV} {l' : List AV} {pre : Prop} (he : enters P f = true) (h1 : ∀ b, Ctr L P f [(b, some (l.flatMap AV.cells))] (.arr b 0 l.length sz :: rest) res [some (l'.flatMap AV.cells)] pre)
    (h2 : l = [] → Ctr L P f [] (.sl false sz [] :: rest) res [] pre ∧ l' = []) (hlen : l'.length = l.length) (hel : ∀ x, x ∈ l → x.elem sz = true) (hel' : ∀ x, x ∈ l' → x.elem sz = true) : BCtr L P f sz l rest res l' pre :=
  ⟨he, fun hp => ⟨fun b => (h1 b).out hp, fun e => ⟨(h2 e).1.pure hp, (h2 e).2⟩, hlen, hel, hel'⟩⟩

theorem fl_str (l : List (List UInt8)) : (l.map AV.str).flatMap AV.cells = l.map AV.str := by
  induction l with
  | nil => rfl
  | cons c l ih => simp only [List.map_cons, List.flatMap_cons, ih]; rfl
theorem unb_nil : unb [] = some [] := rfl
theorem unb_cons {n : Int} {l : List AV} (h0 : 0 ≤ n) (h1 : n ≤ 255) : unb (.v (.int .u8 n) :: l) = (unb l).map (UInt8.ofNat n.toNat :: ·) := by
  simp only [unb]; rw [if_pos ⟨h0, h1⟩]
theorem tmod10 (n : Nat) : Int.tmod (n : Int) 10 = ((n % 10 : Nat) : Int) := by
  rw [Int.tmod_eq_emod_of_nonneg (by omega)]; omega
theorem tdiv10 (n : Nat) : Int.tdiv (n : Int) 10 = ((n / 10 : Nat) : Int) := by
  rw [Int.tdiv_eq_ediv_of_nonneg (by omega)]; omega
attribute [go_sem] fl_str unb_nil unb_cons tmod10 tdiv10
end Go.Ab
namespace Go.Ab
/-- a contract with a relation between what comes out -/
class GCtr (L : Nat → Nat) (P : Program) (f : FuncId) (os : Sto) (args : List AV) (Q : outParam (AV → Sto → Prop)) (pre : outParam Prop) : Prop where
  en : enters P f = true
  out : pre → GenC L P f os args Q

/-- what comes after a call of which only a relation is known -/
def GK (os rs : Sto) (Q : AV → Sto → Prop) [K : Hd (AV → Sto → Prop)] : Prop := ∀ res os', Q res os' → os'.map Prod.fst = rs.map Prod.fst ∧ K.v res (mergeO os os')

theorem GK.intro {os rs : Sto} {Q : AV → Sto → Prop} {K : AV → Sto → Prop} (h : ∀ res os', Q res os' → os'.map Prod.fst = rs.map Prod.fst ∧ K res (mergeO os os')) : GK os rs Q (K := ⟨K⟩) := h

theorem GCtr.of_body {L : Nat → Nat} {P : Program} {f : FuncId} {fn : Func} {c : Code} {os : Sto} {args : List AV} {Q : AV → Sto → Prop} {pre : Prop} (he : enters P f = true) (hf : P.funcs[f]? = some fn) (hb : fn.body = some c) (hn : Nat.ble args.length fn.ntmps = true)
    (h : pre → AW L P c ⟨fn.ntmps, zipT 0 args, os⟩ (finG L P fn Q)) : GCtr L P f os args Q pre :=
  ⟨he, fun hp => GenC.of_body hf hb hn (h hp)⟩
end Go.Ab
