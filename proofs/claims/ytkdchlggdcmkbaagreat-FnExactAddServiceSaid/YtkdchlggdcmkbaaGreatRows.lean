/-
  NARROWER THAN 'FOR EVERY INPUT', by the rows' own cells (each row's printed sentence says how): FnExactIsPlan: loops · FnExactRestartDevice: loops · FnExactHeldDevices: loops · FnExactAddService: loops.
  DERIVED. THE GIVEN ROWS OF THIS SEAT. 4 by the template 'for every input the law returns true; each argument reads behind the call as it read before'; 0 by the template 'total and deterministic' (their statements: YtkdchlggdcmkbaaGreatTotals.lean).
  GIVEN WITH THE SEED: the statements are not yours to turn. If you find one false, say at which input.
  Laid BY PROGRAM, IN A SANDBOX (cutbox-rows.mjs): the forced cells as the released guide's own fill.sh prints them over the translation b19d0bf2f7995b9c… (all of the seat's roots in one cut). By AI agents, Wed Nov 11 2026. No macro, syntax, notation, axiom, sorry.
-/
import Derived.Test.YtkdchlggdcmkbaaGreatChecked
import GoSem.Claim
import GoSem.ClaimJoined
import GoSem.ClaimMapViews
import Derived.JoinedTies
import Derived.KernelRfl
namespace Go.Proofs.YtkdchlggdcmkbaaGreat
/- THE CELL 'sum', in the pinned program and in every row, IS THE sha256 OF THE DUMP (.gsa) THAT YtkdchlggdcmkbaaGreatProg.lean LOADS. Nothing in Lean hashes anything: it is a label: what it is worth is what the hold of that sum in a sandbox is worth. -/
noncomputable def Tryz.pinned : Pinned := { name := "ytkdchlggdcmkbaagreat", sum := "b19d0bf2f7995b9c3a131d74da2be91ac8a00c80599a186670231dfff3091e77", checked := Tryz.checked }
namespace Rows
def none {H : Type} : Left H := { results := [], args := [] }

/-- 'laws.FnExactIsPlan': WHATEVER THE INPUT: true; the input reads as it did. -/
def fnExactIsPlanSpec : ChangeSpec := { name := "fnExactIsPlan", fn := fun _ => fun
  | [d] => { results := [.lit (.bool true)], args := [d] }
  | _ => none }
def fnExactIsPlanRow : OpenClaim := { program := "ytkdchlggdcmkbaagreat", sum := "b19d0bf2f7995b9c3a131d74da2be91ac8a00c80599a186670231dfff3091e77", func := "loop.example/g03013/laws.FnExactIsPlan", spec := "fnExactIsPlan", unfollowed := true, recurses := true, loops := true, apart := false }
def FnExactIsPlanSaid : Prop := fnExactIsPlanRow.holds Tryz.pinned (OpenSpec.ofChange fnExactIsPlanSpec)

/-- ITS FALSE NEIGHBOUR: 'it returns false'. Refute it at one input. -/
def fnExactIsPlanWrong : ChangeSpec := { name := "fnExactIsPlan", fn := fun _ => fun
  | [d] => { results := [.lit (.bool false)], args := [d] }
  | _ => none }
def FnExactIsPlanWrongFalsely : Prop := fnExactIsPlanRow.holds Tryz.pinned (OpenSpec.ofChange fnExactIsPlanWrong)

/-- 'laws.FnExactRestartDevice': WHATEVER THE INPUT: true; the input reads as it did. -/
def fnExactRestartDeviceSpec : ChangeSpec := { name := "fnExactRestartDevice", fn := fun _ => fun
  | [d] => { results := [.lit (.bool true)], args := [d] }
  | _ => none }
def fnExactRestartDeviceRow : OpenClaim := { program := "ytkdchlggdcmkbaagreat", sum := "b19d0bf2f7995b9c3a131d74da2be91ac8a00c80599a186670231dfff3091e77", func := "loop.example/g03013/laws.FnExactRestartDevice", spec := "fnExactRestartDevice", recurses := true, loops := true, apart := false }
def FnExactRestartDeviceSaid : Prop := fnExactRestartDeviceRow.holds Tryz.pinned (OpenSpec.ofChange fnExactRestartDeviceSpec)

/-- ITS FALSE NEIGHBOUR: 'it returns false'. Refute it at one input. -/
def fnExactRestartDeviceWrong : ChangeSpec := { name := "fnExactRestartDevice", fn := fun _ => fun
  | [d] => { results := [.lit (.bool false)], args := [d] }
  | _ => none }
def FnExactRestartDeviceWrongFalsely : Prop := fnExactRestartDeviceRow.holds Tryz.pinned (OpenSpec.ofChange fnExactRestartDeviceWrong)

/-- 'laws.FnExactHeldDevices': WHATEVER THE INPUT: true; the input reads as it did. -/
def fnExactHeldDevicesSpec : ChangeSpec := { name := "fnExactHeldDevices", fn := fun _ => fun
  | [d] => { results := [.lit (.bool true)], args := [d] }
  | _ => none }
def fnExactHeldDevicesRow : OpenClaim := { program := "ytkdchlggdcmkbaagreat", sum := "b19d0bf2f7995b9c3a131d74da2be91ac8a00c80599a186670231dfff3091e77", func := "loop.example/g03013/laws.FnExactHeldDevices", spec := "fnExactHeldDevices", recurses := true, loops := true, apart := false }
def FnExactHeldDevicesSaid : Prop := fnExactHeldDevicesRow.holds Tryz.pinned (OpenSpec.ofChange fnExactHeldDevicesSpec)

/-- ITS FALSE NEIGHBOUR: 'it returns false'. Refute it at one input. -/
def fnExactHeldDevicesWrong : ChangeSpec := { name := "fnExactHeldDevices", fn := fun _ => fun
  | [d] => { results := [.lit (.bool false)], args := [d] }
  | _ => none }
def FnExactHeldDevicesWrongFalsely : Prop := fnExactHeldDevicesRow.holds Tryz.pinned (OpenSpec.ofChange fnExactHeldDevicesWrong)

/-- 'laws.FnExactAddService': WHATEVER THE INPUT: true; the input reads as it did. -/
def fnExactAddServiceSpec : ChangeSpec := { name := "fnExactAddService", fn := fun _ => fun
  | [d1, d2] => { results := [.lit (.bool true)], args := [d1, d2] }
  | _ => none }
def fnExactAddServiceRow : OpenClaim := { program := "ytkdchlggdcmkbaagreat", sum := "b19d0bf2f7995b9c3a131d74da2be91ac8a00c80599a186670231dfff3091e77", func := "loop.example/g03013/laws.FnExactAddService", spec := "fnExactAddService", inPlace := ["slices.overlaps[loop.example/g03013/impl.Service]"], unfollowed := true, recurses := true, loops := true, apart := false }
def FnExactAddServiceSaid : Prop := fnExactAddServiceRow.holds Tryz.pinned (OpenSpec.ofChange fnExactAddServiceSpec)

/-- ITS FALSE NEIGHBOUR: 'it returns false'. Refute it at one input. -/
def fnExactAddServiceWrong : ChangeSpec := { name := "fnExactAddService", fn := fun _ => fun
  | [d1, d2] => { results := [.lit (.bool false)], args := [d1, d2] }
  | _ => none }
def FnExactAddServiceWrongFalsely : Prop := fnExactAddServiceRow.holds Tryz.pinned (OpenSpec.ofChange fnExactAddServiceWrong)

/- THE SECOND FORM. 'bulk': how many values and letters a reading holds, each counted each time it is reached (what is shared counts as often as it is met; a slice's spare places count too). A statement '..UptoSaid' is the law's where the arguments, and the package variables that the reading takes, are together of bulk at most 1048576: NARROWER than '..Said'. Prove '..Said' where nothing that the law and all that it calls make is longer than what came in: it says more and counts as full. Else prove '..UptoSaid'. A law counts once. -/
mutual
def uptoBulk {H : Type} : DataW H → Nat
  | .lit (.string bytes) => bytes.length + 1
  | .lit _ => 1
  | .nil => 1
  | .ptr d => uptoBulk d + 1
  | .slice elems spare => uptoBulkAll elems + uptoBulkAll spare + 1
  | .agg parts => uptoBulkAll parts + 1
  | .iface _ d => uptoBulk d + 1
  | .map entries => uptoBulkEntries entries + 1
  | .held _ => 1
def uptoBulkAll {H : Type} : List (DataW H) → Nat
  | [] => 0
  | d :: r => uptoBulk d + uptoBulkAll r
def uptoBulkEntries {H : Type} : List (Lit × DataW H) → Nat
  | [] => 0
  | x :: r => uptoBulkEntry x + uptoBulkEntries r
def uptoBulkEntry {H : Type} : Lit × DataW H → Nat
  | (.string bytes, d) => bytes.length + uptoBulk d + 1
  | (_, d) => uptoBulk d + 1
 end
def uptoSmall : (H : Type) → List (DataW H) → Bool := fun _ ds => decide (uptoBulkAll ds ≤ 1048576)
def OpenSpec.upto (s : _root_.Go.ChangeSpec) : _root_.Go.OpenSpec := { _root_.Go.OpenSpec.ofChange s with cond := some uptoSmall }

/-- 'laws.FnExactIsPlan', WHERE WHAT IT READS IS OF BULK AT MOST 1048576: true; the input reads as it did. -/
def fnExactIsPlanUptoRow : OpenClaim := { program := "ytkdchlggdcmkbaagreat", sum := "b19d0bf2f7995b9c3a131d74da2be91ac8a00c80599a186670231dfff3091e77", func := "loop.example/g03013/laws.FnExactIsPlan", spec := "fnExactIsPlan", unfollowed := true, recurses := true, loops := true, apart := false, narrowed := true }
def FnExactIsPlanUptoSaid : Prop := fnExactIsPlanUptoRow.holds Tryz.pinned (OpenSpec.upto fnExactIsPlanSpec)

/-- 'laws.FnExactRestartDevice', WHERE WHAT IT READS IS OF BULK AT MOST 1048576: true; the input reads as it did. -/
def fnExactRestartDeviceUptoRow : OpenClaim := { program := "ytkdchlggdcmkbaagreat", sum := "b19d0bf2f7995b9c3a131d74da2be91ac8a00c80599a186670231dfff3091e77", func := "loop.example/g03013/laws.FnExactRestartDevice", spec := "fnExactRestartDevice", recurses := true, loops := true, apart := false, narrowed := true }
def FnExactRestartDeviceUptoSaid : Prop := fnExactRestartDeviceUptoRow.holds Tryz.pinned (OpenSpec.upto fnExactRestartDeviceSpec)

/-- 'laws.FnExactHeldDevices', WHERE WHAT IT READS IS OF BULK AT MOST 1048576: true; the input reads as it did. -/
def fnExactHeldDevicesUptoRow : OpenClaim := { program := "ytkdchlggdcmkbaagreat", sum := "b19d0bf2f7995b9c3a131d74da2be91ac8a00c80599a186670231dfff3091e77", func := "loop.example/g03013/laws.FnExactHeldDevices", spec := "fnExactHeldDevices", recurses := true, loops := true, apart := false, narrowed := true }
def FnExactHeldDevicesUptoSaid : Prop := fnExactHeldDevicesUptoRow.holds Tryz.pinned (OpenSpec.upto fnExactHeldDevicesSpec)

/-- 'laws.FnExactAddService', WHERE WHAT IT READS IS OF BULK AT MOST 1048576: true; the input reads as it did. -/
def fnExactAddServiceUptoRow : OpenClaim := { program := "ytkdchlggdcmkbaagreat", sum := "b19d0bf2f7995b9c3a131d74da2be91ac8a00c80599a186670231dfff3091e77", func := "loop.example/g03013/laws.FnExactAddService", spec := "fnExactAddService", inPlace := ["slices.overlaps[loop.example/g03013/impl.Service]"], unfollowed := true, recurses := true, loops := true, apart := false, narrowed := true }
def FnExactAddServiceUptoSaid : Prop := fnExactAddServiceUptoRow.holds Tryz.pinned (OpenSpec.upto fnExactAddServiceSpec)

end Rows
end Go.Proofs.YtkdchlggdcmkbaaGreat
