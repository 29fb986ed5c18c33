/-
  Part of a proof: AbByt, La16.
-/
import Derived.Test.YtfglembdjbhanaaGreatDoorG26
import Derived.Test.YtfglembdjbhanaaGreatDoorG27
import Derived.Test.YtfglembdjbhanaaGreatDoorG40
set_option linter.unusedSimpArgs false
set_option linter.unusedVariables false
namespace Go.Ab
open Go.RowKit (Below)
open Go.Dt
section
variable {H : Type} {enc : TypeId × Value → H} {P : Program} {W : World} {L : Nat → Nat}
theorem Opens.byte {n : Nat} {t : TypeId} (ht : P.underlying t = some (.int .u8)) : Opens enc P W L n t (fun c : UInt8 => [.v (.int .u8 c.toNat)]) (fun _ => True) := by
  intro m hm cs x hx hw
  obtain ⟨i, rfl, rfl, hi⟩ := DataW.trod_int ht hx
  have h : 0 ≤ i ∧ i ≤ 255 := by
    simp [Lit.wf, IntKind.min, IntKind.max, IntKind.bits, IntKind.signed] at hi
    omega
  refine ⟨UInt8.ofNat i.toNat, trivial, RepL.single ?_⟩
  have e : ((UInt8.ofNat i.toNat).toNat : Int) = i := by rw [UInt8.toNat_ofNat']; omega
  simp only [Rep, e]; exact ⟨trivial, trivial⟩
theorem Packs.byte : Packs L W (fun c : UInt8 => [.v (.int .u8 c.toNat)]) (fun c => AV.v (.int .u8 c.toNat)) 1 := Packs.one fun a y h => by
  simp only [Rep] at h; rw [h.1]; rfl
theorem fits_byte (s : List UInt8) (h : s.length ≤ 1048576) : AV.fitsL lim [.sl false 1 (bytesA s)] := by
  have hg := lim_ge 1
  have key : ∀ l : List UInt8, AV.fitsL lim (bytesA l) := by
    intro l
    induction l with
    | nil => simp [bytesA, AV.fitsL]
    | cons c l ih =>
      simp only [bytesA, List.map_cons] at ih ⊢
      simp only [AV.fitsL, AV.fits, true_and]
      exact ih
  simp only [AV.fitsL, AV.fits, and_true]
  exact ⟨by simp [bytesA]; omega, key s⟩
end
end Go.Ab
namespace Go.Proofs.YtfglembdjbhanaaGreatDoor
open Go.Ab Go.Dt
set_option maxRecDepth 20000
set_option maxHeartbeats 4000000
theorem lawFilledIn_A (s : Str) (h0 : 4096 < s.length) : Ctr rawL Tryz.prog 3 [] [.sl false 1 (bytesA s)] (.v (.bool true)) [] True := by
  refine Ctr.of_body en3 Tryz.func3 rfl rfl fun hp => (?_); rw [Tryz.ntmps3]
  (refine vK ?_; with_reducible repeat' first | exact Le.l | refine Sw ?_ ?_ | intro h)
  (refine AW.i rfl (fun h => ?_) (fun h => ?_) <;> try simp only [hC, reduceCtorEq] at h)
  · all_goals exact uU
  · omega
theorem lawFilledIn_c (s : Str) : LawC Tryz.prog 3 [.sl false 1 (bytesA s)] := by
  by_cases h0 : 4096 < s.length
  · exact .raw (lawFilledIn_A s h0) trivial
  · exact .fit (fits_byte s (by omega)) (lawFilledIn_B s h0) trivial
end Go.Proofs.YtfglembdjbhanaaGreatDoor
