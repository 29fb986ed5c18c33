/-
  Part of a proof: Cp2, Cp3.
-/
import Derived.Test.YtkdchlggdcmkbaaGreatG17
import Derived.Test.YtkdchlggdcmkbaaGreatG19
import Derived.Test.YtkdchlggdcmkbaaGreatG21
set_option linter.unusedSimpArgs false
set_option linter.unusedVariables false
namespace Go.Proofs.YtkdchlggdcmkbaaGreat
open Go.Ab Go.Dt
set_option maxRecDepth 20000
set_option maxHeartbeats 4000000
def plS (s : Dt.GStep) : AV := .agg [.str s.fName, .v (.slice none 0 0)]
theorem plS_all (l : List Dt.GStep) : (l.map plS).all (AV.elem 2) = true := map_all_elem (fun _ => rfl) l
attribute [go_sem] plS plS_all
def stpC (l : List Dt.GStep) (k : Nat) : List AV := ((l.take k).map (encStep true)).flatMap AV.cells ++ ((l.drop k).map plS).flatMap AV.cells
end Go.Proofs.YtkdchlggdcmkbaaGreat
namespace Go.Proofs.YtkdchlggdcmkbaaGreat
open Go.Ab Go.Dt
set_option maxRecDepth 20000
set_option maxHeartbeats 4000000
end Go.Proofs.YtkdchlggdcmkbaaGreat
