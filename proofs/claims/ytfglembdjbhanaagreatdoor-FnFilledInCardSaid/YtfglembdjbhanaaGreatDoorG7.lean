/-
  Part of a proof: Dw0.
-/
import Derived.Test.YtfglembdjbhanaaGreatDoorG6
set_option linter.unusedSimpArgs false
set_option linter.unusedVariables false
namespace Go.Ab
/-! cursors over the bytes of a draw: what is known of them -/
def curQ (b : Nat) (code : List UInt8) (R : AV → Prop) : AV → Sto → Prop := fun r os => ∃ i h : Int, 0 ≤ i ∧ os = [(b, some [.sl false 1 (bytesA code), .v (.int .i64 i), .v (.int .i64 h)])] ∧ R r
def newQ (code : List UInt8) : List AV → Prop := fun c => ∃ h : Int, c = [.sl false 1 (bytesA code), .v (.int .i64 0), .v (.int .i64 h)]
def rI (n : Int) : AV → Prop := fun r => ∃ x : Int, r = .v (.int .i64 x) ∧ 0 ≤ x ∧ x < n
def rB : AV → Prop := fun r => ∃ v : Bool, r = .v (.bool v)
def rS (n : Nat) : AV → Prop := fun r => ∃ s : List UInt8, r = .str s ∧ s.length ≤ n
section
variable {os : Sto} {b : Nat} {c : Option (List AV)} {code : List UInt8} {K : AV → Sto → Prop}
instance gkI {n : Int} : Rl (GK os [(b, c)] (curQ b code (rI n)) (K := ⟨K⟩)) (∀ i h x : Int, (0 ≤ i ∧ 0 ≤ x ∧ x < n) → K (.v (.int .i64 x)) (mergeO os [(b, some [.sl false 1 (bytesA code), .v (.int .i64 i), .v (.int .i64 h)])])) :=
  ⟨fun k => by rintro res os' ⟨i, h, hi, rfl, x, rfl, hx⟩; exact ⟨rfl, k i h x ⟨hi, hx⟩⟩⟩
instance gkB : Rl (GK os [(b, c)] (curQ b code rB) (K := ⟨K⟩)) (∀ (i h : Int) (v : Bool), 0 ≤ i → K (.v (.bool v)) (mergeO os [(b, some [.sl false 1 (bytesA code), .v (.int .i64 i), .v (.int .i64 h)])])) :=
  ⟨fun k => by rintro res os' ⟨i, h, hi, rfl, x, rfl⟩; exact ⟨rfl, k i h x hi⟩⟩
instance gkS {n : Nat} : Rl (GK os [(b, c)] (curQ b code (rS n)) (K := ⟨K⟩)) (∀ (i h : Int) (s : List UInt8), (0 ≤ i ∧ s.length ≤ n) → K (.str s) (mergeO os [(b, some [.sl false 1 (bytesA code), .v (.int .i64 i), .v (.int .i64 h)])])) :=
  ⟨fun k => by rintro res os' ⟨i, h, hi, rfl, x, rfl, hx⟩; exact ⟨rfl, k i h x ⟨hi, hx⟩⟩⟩
instance nkC : Rl (NK os (newQ code) (K := ⟨K⟩)) (∀ (b : Nat) (h : Int), nfO os b → K (.ptr b 0) ((b, some [.sl false 1 (bytesA code), .v (.int .i64 0), .v (.int .i64 h)]) :: os)) :=
  ⟨fun k => by rintro b cells ⟨h, rfl⟩ hb; exact k b h hb⟩
end
@[go_sem] theorem ifneg_lt {α : Type} {a b : Int} {x y : α} (h : b ≤ a) : (if a < b then x else y) = y := if_neg (by omega)
@[go_sem] theorem ifneg_e0 {α : Type} {a : Int} {x y : α} (h : 0 < a) : (if a = 0 then x else y) = y := if_neg (by omega)
theorem tmod_in {x n : Int} (h0 : 0 ≤ x) (h : 0 < n) : 0 ≤ x.tmod n ∧ x.tmod n < n := ⟨Int.tmod_nonneg n h0, Int.tmod_lt_of_pos x h⟩
theorem and_255 (a : Int) : 0 ≤ andI .i64 a 255 ∧ andI .i64 a 255 < 256 := by
  unfold andI
  have h : (BitVec.ofInt IntKind.i64.bits a &&& BitVec.ofInt IntKind.i64.bits 255).toNat ≤ 255 := by
    rw [BitVec.toNat_and]
    refine Nat.le_trans Nat.and_le_right ?_
    decide
  generalize (BitVec.ofInt IntKind.i64.bits a &&& BitVec.ofInt IntKind.i64.bits 255).toNat = m at h
  have : IntKind.i64.wrap (m : Int) = m := wrap_i64 (by omega) (by omega)
  omega
@[go_sem] theorem rI_v (n x : Int) : rI n (.v (.int .i64 x)) = (0 ≤ x ∧ x < n) := propext ⟨fun ⟨_, e, h⟩ => by cases e; exact h, fun h => ⟨_, rfl, h⟩⟩
@[go_sem] theorem rB_v (v : Bool) : rB (.v (.bool v)) = True := propext ⟨fun _ => trivial, fun _ => ⟨_, rfl⟩⟩
@[go_sem] theorem rS_v (n : Nat) (s : List UInt8) : rS n (.str s) = (s.length ≤ n) := propext ⟨fun ⟨_, e, h⟩ => by cases e; exact h, fun h => ⟨_, rfl, h⟩⟩
@[go_sem] theorem newQ_v (s : List UInt8) (l : List AV) (h : Int) : newQ s [.sl false 1 l, .v (.int .i64 0), .v (.int .i64 h)] = (l = bytesA s) := propext ⟨fun ⟨_, e⟩ => by cases e; rfl, fun e => by rw [e]; exact ⟨_, rfl⟩⟩
@[go_sem] def curE (b : Nat) (s : List UInt8) (R : AV → Prop) (r : AV) (os : Sto) : Prop := match O os b with
  | some [.sl false 1 l, .v (.int .i64 i), .v (.int .i64 _)] => l = bytesA s ∧ 0 ≤ i ∧ R r
  | _ => False
@[go_sem] def newE (s : List UInt8) (r : AV) (os : Sto) : Prop := match r with
  | .ptr b 0 => (match O os b with
    | some cells => newQ s cells
    | none => False)
  | _ => False
section
variable {L : Nat → Nat} {P : Program} {n : Nat} {fn : Func} {t : List (Nat × AV)} {o : Sto} {rs : List ResultVar} {s : List UInt8}
theorem sto_one {B : Nat → Prop} {F0 : Nat → Prop} {w0 : World} {F : Nat → Prop} {own : Nat → Own} {fs : Nat → List Nat} {os : Sto} {w : World} {b : Nat} {cells : List AV} (h : StoAt L B F0 w0 F own fs os w) (hO : O os b = some cells) : StoAt L B F0 w0 F own fs [(b, some cells)] w := h.sub (o' := [(b, some cells)]) ⟨hO, trivial⟩
theorem EndsG.cur {b : Nat} {R : AV → Prop} (hr : fn.results = rs.toArray) (h : resW P n rs t o [] (fun xs os => curE b s R (oneA xs) os)) : EndsG L P fn ⟨n, t, o⟩ (curQ b s R) := by
  have h2 : EndsG L P fn ⟨n, t, o⟩ (fun r os => curE b s R r os) := EndsG.res hr h
  intro B F0 w0 a w hd
  obtain ⟨v, res', os', F', own', fs', fp, h3, h4, h5, h6, h7, h8⟩ := h2 B F0 w0 a w hd
  unfold curE at h4
  split at h4
  · rename_i l i h' hO
    obtain ⟨rfl, hi, hR⟩ := h4
    exact ⟨v, res', _, F', own', fs', fp, h3, ⟨i, h', hi, rfl, hR⟩, sto_one h5 hO, h6, h7, h8⟩
  · exact h4.elim
theorem EndsG.new (hr : fn.results = rs.toArray) (h : resW P n rs t o [] (fun xs os => newE s (oneA xs) os)) : EndsG L P fn ⟨n, t, o⟩ (fun res os' => ∃ b cells, res = .ptr b 0 ∧ os' = [(b, some cells)] ∧ newQ s cells) := by
  have h2 : EndsG L P fn ⟨n, t, o⟩ (fun r os => newE s r os) := EndsG.res hr h
  intro B F0 w0 a w hd
  obtain ⟨v, res', os', F', own', fs', fp, h3, h4, h5, h6, h7, h8⟩ := h2 B F0 w0 a w hd
  unfold newE at h4
  split at h4
  · rename_i b
    split at h4
    · rename_i cells hO
      exact ⟨v, .ptr b 0, _, F', own', fs', fp, h3, ⟨b, cells, rfl, rfl, h4⟩, sto_one h5 hO, h6, h7, h8⟩
    · exact h4.elim
  · exact h4.elim
end
instance rIdxB {G : Bool} {s : List UInt8} {n : Int} {K : AV → Prop} : Rl (idxVc G (bytesA s) n 1 (K := ⟨K⟩)) ((G = true → 0 ≤ n ∧ n.toNat < s.length) ∧ K (.v (.int .u8 (at_ s n.toNat).toNat))) :=
  ⟨fun h => by
    unfold bytesA
    exact idxVc.map h.1 rfl h.2⟩
end Go.Ab
