/-
  Part of a proof: Sc5f.
-/
import Derived.Test.YtmcjbaafmjlblaaGreatDoorG13
import Derived.Test.YtmcjbaafmjlblaaGreatDoorG28
set_option linter.unusedSimpArgs false
set_option linter.unusedVariables false
namespace Go.Proofs.YtmcjbaafmjlblaaGreatDoor
open Go.Ab Go.Dt
instance iDataKidsF(l:List GSchema):FCtr lim Tryz.prog 152 [.sl false 19 (l.map (encSchema false))] (.sl false 19 ((dk l).map (encSchema false))) (cntS l≤1048576) :=
 ⟨en152,fun c=>by
  have:=((iDataKids_i l).pure c).frz
  simpa only [AV.frz,AV.frzL,schF,cond_true] using this⟩
end Go.Proofs.YtmcjbaafmjlblaaGreatDoor
