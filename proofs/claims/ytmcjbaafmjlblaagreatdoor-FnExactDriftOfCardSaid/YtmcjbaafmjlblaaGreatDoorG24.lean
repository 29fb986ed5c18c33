/-
  Part of a proof: La8.
-/
import Derived.Test.YtmcjbaafmjlblaaGreatDoorG14
import Derived.Test.YtmcjbaafmjlblaaGreatDoorG18
import Derived.Test.YtmcjbaafmjlblaaGreatDoorG21
import Derived.Test.YtmcjbaafmjlblaaGreatDoorG22
import Derived.Test.YtmcjbaafmjlblaaGreatDoorG23
set_option linter.unusedSimpArgs false
set_option linter.unusedVariables false
namespace Go.Ab
theorem CallP.low{L:Nat→Nat}{P:Program}{os:Sto}{la:List AV}{G:Bool}{f:FuncId}{args:List AV}{K:AV→Prop}{res:AV}{cs:List (Option (List AV))}{pre:Prop}[h:Ctr L P f [] la res cs pre](hl:LowL os args la)(hc:res.closed=true)(hp:G=true→pre)(hK:K res):CallP L P os la G f args (K:=⟨K⟩) :=
 ⟨res,fun hg=>⟨h.en,.inr ⟨la,hl,hc,h.pure (hp hg)⟩⟩,hK⟩
end Go.Ab
namespace Go.Proofs.YtmcjbaafmjlblaaGreatDoor
open Go.Ab Go.Dt
set_option maxRecDepth 20000
set_option maxHeartbeats 4000000
attribute [go_sem] encParamM_frz encNodeM_frz
instance iIsType_i(x:GType):Ctr lim Tryz.prog 232 [] [.agg [.v (.int .i64 x.fKind),.sl false 2 (x.fRanges.map (encRange false)),.sl false 1 (x.fNames.map AV.str),.str x.fPattern,.str x.fPath]] (.v (.bool (isType isPat x))) [] True:=iIsType_t isPat x
instance sIsType_i(x:GType):Ctr lim Tryz.prog 221 [] [.agg [.v (.int .i64 x.fKind),.sl false 2 (x.fRanges.map (encRange false)),.sl false 1 (x.fNames.map AV.str),.str x.fPattern,.str x.fPath]] (.v (.bool (isType isPat x))) [] True:=sIsType_t isPat x
end Go.Proofs.YtmcjbaafmjlblaaGreatDoor
