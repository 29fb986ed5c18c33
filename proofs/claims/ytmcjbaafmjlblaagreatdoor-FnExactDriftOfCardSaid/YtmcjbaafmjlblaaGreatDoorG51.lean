/-
  Part of a proof: La22.
-/
import Derived.Test.YtmcjbaafmjlblaaGreatDoorG21
import Derived.Test.YtmcjbaafmjlblaaGreatDoorG22
import Derived.Test.YtmcjbaafmjlblaaGreatDoorG30
import Derived.Test.YtmcjbaafmjlblaaGreatDoorG46
import Derived.Test.YtmcjbaafmjlblaaGreatDoorG48
import Derived.Test.YtmcjbaafmjlblaaGreatDoorG49
import Derived.Test.YtmcjbaafmjlblaaGreatDoorG50
set_option linter.unusedSimpArgs false
set_option linter.unusedVariables false
namespace Go.Proofs.YtmcjbaafmjlblaaGreatDoor
open Go.Ab Go.Dt
set_option maxRecDepth 20000
set_option maxHeartbeats 4000000
attribute [go_sem] encDeviceM_frz encVersionM_frz List.getElem?_nil enEdit_cl encEditM_frz encSchemaM_frz encNodeM_frz frzL_str
theorem lawDriftOf_A0(x0:Dt.GDevice)(x1:List Dt.GNode)(h0:szDevice x0 1048576<0):Ctr rawL Tryz.prog 3 [] [.agg [.str x0.fName,.sl false 19 (x0.fStore.fSchema.map (encSchema false)),.sl false 3 (x0.fStore.fRunning.map (encNode false)),.sl false 3 (x0.fStore.fDraft.map (encNode false)),.v (.int .i64 x0.fStore.fOwner),.sl false 3 (x0.fStore.fPast.map (encVersion false)),.v (.bool x0.fStore.fWait.fOn),.v (.int .i64 x0.fStore.fWait.fUntil),.v (.int .i64 x0.fStore.fWait.fBy),.str x0.fStore.fWait.fName,.sl false 3 (x0.fStore.fWait.fBack.map (encNode false)),.sl false 3 (x0.fBase.map (encNode false)),.v (.bool x0.fUp),.v (.int .i64 x0.fWeak),.v (.bool x0.fHeld)],.sl false 3 (x1.map (encNode false))] (.v (.bool true)) [] True:=by
 refine Ctr.of_body en3 Tryz.func3 rfl rfl fun hp=>(?_);rw [Tryz.ntmps3]
 all_goals exact uU
theorem lawDriftOf_A1(x0:Dt.GDevice)(x1:List Dt.GNode)(h0:¬ szDevice x0 1048576<0)(h1:szSl szNode x1 (szDevice x0 1048576)<0):Ctr rawL Tryz.prog 3 [] [.agg [.str x0.fName,.sl false 19 (x0.fStore.fSchema.map (encSchema false)),.sl false 3 (x0.fStore.fRunning.map (encNode false)),.sl false 3 (x0.fStore.fDraft.map (encNode false)),.v (.int .i64 x0.fStore.fOwner),.sl false 3 (x0.fStore.fPast.map (encVersion false)),.v (.bool x0.fStore.fWait.fOn),.v (.int .i64 x0.fStore.fWait.fUntil),.v (.int .i64 x0.fStore.fWait.fBy),.str x0.fStore.fWait.fName,.sl false 3 (x0.fStore.fWait.fBack.map (encNode false)),.sl false 3 (x0.fBase.map (encNode false)),.v (.bool x0.fUp),.v (.int .i64 x0.fWeak),.v (.bool x0.fHeld)],.sl false 3 (x1.map (encNode false))] (.v (.bool true)) [] True:=by
 have le0:=szDevice_le x0 1048576 (by omega)
 refine Ctr.of_body en3 Tryz.func3 rfl rfl fun hp=>(?_);rw [Tryz.ntmps3]
 all_goals exact uU
theorem lawDriftOf_B(x0:Dt.GDevice)(x1:List Dt.GNode)(h0:¬ szDevice x0 1048576<0)(h1:¬ szSl szNode x1 (szDevice x0 1048576)<0):Ctr lim Tryz.prog 3 [] [.agg [.str x0.fName,.sl false 19 (x0.fStore.fSchema.map (encSchema false)),.sl false 3 (x0.fStore.fRunning.map (encNode false)),.sl false 3 (x0.fStore.fDraft.map (encNode false)),.v (.int .i64 x0.fStore.fOwner),.sl false 3 (x0.fStore.fPast.map (encVersion false)),.v (.bool x0.fStore.fWait.fOn),.v (.int .i64 x0.fStore.fWait.fUntil),.v (.int .i64 x0.fStore.fWait.fBy),.str x0.fStore.fWait.fName,.sl false 3 (x0.fStore.fWait.fBack.map (encNode false)),.sl false 3 (x0.fBase.map (encNode false)),.v (.bool x0.fUp),.v (.int .i64 x0.fWeak),.v (.bool x0.fHeld)],.sl false 3 (x1.map (encNode false))] (.v (.bool true)) [] True:=by
 have le0:=szDevice_le x0 1048576 (by omega)
 have le1:=szSl_le szNode szNode_le x1 (szDevice x0 1048576) (by omega)
 have c0:=tpDevice_cap x0 1 1048576 (by omega) (by omega)
 have d0:=tpDevice_ge x0 1
 simp only [tpDevice] at c0 d0
 have c1:=mkL_cap szNode_le stNode_cap x1 ((mkL stNode x0.fBase ((mkL stNode x0.fStore.fWait.fBack ((mkL stVersion x0.fStore.fPast ((mkL stNode x0.fStore.fDraft ((mkL stNode x0.fStore.fRunning ((mkL stSchema x0.fStore.fSchema 1).2)).2)).2)).2)).2)).2) (szDevice x0 1048576) (by omega) (by omega)
 have d1:=mkL_up stNode_ge x1 ((mkL stNode x0.fBase ((mkL stNode x0.fStore.fWait.fBack ((mkL stVersion x0.fStore.fPast ((mkL stNode x0.fStore.fDraft ((mkL stNode x0.fStore.fRunning ((mkL stSchema x0.fStore.fSchema 1).2)).2)).2)).2)).2)).2)
 have hdv:=dev_fit (x:=x0) (r:=1048576) (by omega) (by omega) (by omega)
 have hwB:=wt_fit (l:=x1) (r:=szDevice x0 1048576) (by omega) (by omega)
 have hw1:=hdv.1
 have hw2:=hdv.2
 have cr:=difT_cap x0.fStore.fSchema x0.fStore.fRunning x1
 have dr:=mkL_up stEdit_ge (difT x0.fStore.fSchema x0.fStore.fRunning x1) 1
 have hneg2:decide ((mkL stEdit (difT x0.fStore.fSchema x0.fStore.fRunning x1) 1).2<0)=false:=decide_eq_false (by omega)
 have hneg:decide ((mkL stNode x1 ((mkL stNode x0.fBase ((mkL stNode x0.fStore.fWait.fBack ((mkL stVersion x0.fStore.fPast ((mkL stNode x0.fStore.fDraft ((mkL stNode x0.fStore.fRunning ((mkL stSchema x0.fStore.fSchema 1).2)).2)).2)).2)).2)).2)).2<0)=false:=decide_eq_false (by omega)
 refine Ctr.of_body en3 Tryz.func3 rfl rfl fun hp=>(?_);rw [Tryz.ntmps3]
 (repeat' first|(with_reducible first|(refine X fun hs=>?_)|refine Z ?_|refine Y ?_|(refine hK _ _ ?_;clear hK K)|refine And.intro ?_ ?_|exact Ct|intro (K:_→_→Prop) hK|(refine gI fun hg=>?_;try simp only [hC,reduceCtorEq] at hg;try simp only [hg]))|(refine AW.i rfl (fun h=>?_) (fun h=>?_)<;>try simp only [hC,reduceCtorEq] at h)|((with_reducible refine E ?_;repeat refine Y ?_);refine eF rfl ?_)|simp (disch:=omega) only [go_sem,hneg,hneg2]|(with_reducible intro hg;try simp only [hC,reduceCtorEq] at hg)|exact Cl|fail)
theorem lawDriftOf_c(x0:Dt.GDevice)(x1:List Dt.GNode):LawC Tryz.prog 3 [encDevice false x0,.sl false 3 (x1.map (encNode false))]:=by
 by_cases h0:szDevice x0 1048576<0
 ·exact .raw (lawDriftOf_A0 x0 x1 h0) trivial
 have le0:=szDevice_le x0 1048576 (by omega)
 by_cases h1:szSl szNode x1 (szDevice x0 1048576)<0
 ·exact .raw (lawDriftOf_A1 x0 x1 h0 h1) trivial
 have le1:=szSl_le szNode szNode_le x1 (szDevice x0 1048576) (by omega)
 exact .fit ⟨fitDevice x0 1048576 (by omega) (by omega) (by omega),fits_sl (f:=szNode) szNode_le x1 (szDevice x0 1048576) (by omega) (by omega) (by omega) fun y hy r' p q s=>fitNode y r' p q s,trivial⟩ (lawDriftOf_B x0 x1 h0 h1) trivial
end Go.Proofs.YtmcjbaafmjlblaaGreatDoor
