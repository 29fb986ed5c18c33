/-
  Part of a proof: Opn2, Fa1, Fam5, Fam6.
-/
import Derived.Test.YtfglembdjbhanaaGreatDoorG1
import Derived.Test.YtfglembdjbhanaaGreatDoorG8
import Derived.Test.YtfglembdjbhanaaGreatDoorG13
import Derived.Test.YtfglembdjbhanaaGreatDoorG23
import Derived.Test.YtfglembdjbhanaaGreatDoorG25
import Derived.Test.YtfglembdjbhanaaGreatDoorG26
set_option linter.unusedSimpArgs false
set_option linter.unusedVariables false
namespace Go.Proofs.YtfglembdjbhanaaGreatDoor
open Go.Ab Go.Dt
variable {H : Type} {enc : TypeId × Value → H} {W : World}
theorem hreach (z : Nat) : reachBytes ≤ rawL z := by
  have := reachBytes_lt
  unfold rawL; omega

instance : Inhabited Dt.GRange := ⟨0, 0⟩
def celRange (x : Dt.GRange) : List AV := [.v (.int .i64 x.fLo), .v (.int .i64 x.fHi)]
instance : Inhabited Dt.GType := ⟨0, [], [], [], []⟩
def celType (x : Dt.GType) : List AV := [.v (.int .i64 x.fKind), .sl false 2 (x.fRanges.map (encRange false)), .sl false 1 (x.fNames.map AV.str), .str x.fPattern, .str x.fPath]
instance : Inhabited Dt.GNode := ⟨.mk [] [] []⟩
def celNode (x : Dt.GNode) : List AV := [.str x.fName, .str x.fValue, .sl false 3 (x.fKids.map (encNode false))]
instance : Inhabited Dt.GArg := ⟨[], []⟩
def celArg (x : Dt.GArg) : List AV := [.str x.fName, .str x.fValue]
instance : Inhabited Dt.GParam := ⟨[], default⟩
def celParam (x : Dt.GParam) : List AV := [.str x.fName, .v (.int .i64 x.fType.fKind), .sl false 2 (x.fType.fRanges.map (encRange false)), .sl false 1 (x.fType.fNames.map AV.str), .str x.fType.fPattern, .str x.fType.fPath]
instance : Inhabited Dt.GTemplate := ⟨[], [], []⟩
def celTemplate (x : Dt.GTemplate) : List AV := [.str x.fName, .sl false 6 (x.fParams.map (encParam false)), .sl false 3 (x.fBody.map (encNode false))]
end Go.Proofs.YtfglembdjbhanaaGreatDoor
namespace Go.Proofs.YtfglembdjbhanaaGreatDoor
open Go.Ab Go.Dt
set_option maxRecDepth 20000
set_option maxHeartbeats 2000000

end Go.Proofs.YtfglembdjbhanaaGreatDoor
namespace Go.Proofs.YtfglembdjbhanaaGreatDoor
open Go.Ab Go.Dt
set_option maxRecDepth 20000
set_option maxHeartbeats 4000000
end Go.Proofs.YtfglembdjbhanaaGreatDoor
namespace Go.Proofs.YtfglembdjbhanaaGreatDoor
open Go.Ab Go.Dt
set_option maxRecDepth 20000
set_option maxHeartbeats 4000000
end Go.Proofs.YtfglembdjbhanaaGreatDoor
