/-
  Part of a proof: La21.
-/
import Derived.Test.YtmcjbaafmjlblaaGreatDoorG21
import Derived.Test.YtmcjbaafmjlblaaGreatDoorG22
import Derived.Test.YtmcjbaafmjlblaaGreatDoorG27
import Derived.Test.YtmcjbaafmjlblaaGreatDoorG30
import Derived.Test.YtmcjbaafmjlblaaGreatDoorG47
import Derived.Test.YtmcjbaafmjlblaaGreatDoorG48
import Derived.Test.YtmcjbaafmjlblaaGreatDoorG50
set_option linter.unusedSimpArgs false
set_option linter.unusedVariables false
namespace Go.Proofs.YtmcjbaafmjlblaaGreatDoor
open Go.Ab Go.Dt
set_option maxRecDepth 20000
set_option maxHeartbeats 4000000
attribute [go_sem] List.getElem?_nil enEditS_cl enEdit_cl encEditSM_frz encSchemaM_frz encNodeM_frz encEditM_frz frzL_str
theorem lawTellWatcher_A0(x0:List Dt.GSchema)(x1:Dt.GWatcher)(x2:List Dt.GNode)(x3:List Dt.GNode)(h0:szSl szSchema x0 1048576<0):Ctr rawL Tryz.prog 4 [] [.sl false 19 (x0.map (encSchema false)),.agg [.sl false 1 (x1.fNames.map AV.str),.sl false 3 (x1.fSeen.map (encNode false)),.sl false 1 (x1.fNotices.map (encEditS false))],.sl false 3 (x2.map (encNode false)),.sl false 3 (x3.map (encNode false))] (.v (.bool true)) [] True:=by
 refine Ctr.of_body en4 Tryz.func4 rfl rfl fun hp=>(?_);rw [Tryz.ntmps4]
 all_goals exact uU
theorem lawTellWatcher_A1(x0:List Dt.GSchema)(x1:Dt.GWatcher)(x2:List Dt.GNode)(x3:List Dt.GNode)(h0:¬ szSl szSchema x0 1048576<0)(h1:szWatcher x1 (szSl szSchema x0 1048576)<0):Ctr rawL Tryz.prog 4 [] [.sl false 19 (x0.map (encSchema false)),.agg [.sl false 1 (x1.fNames.map AV.str),.sl false 3 (x1.fSeen.map (encNode false)),.sl false 1 (x1.fNotices.map (encEditS false))],.sl false 3 (x2.map (encNode false)),.sl false 3 (x3.map (encNode false))] (.v (.bool true)) [] True:=by
 have le0:=szSl_le szSchema szSchema_le x0 1048576 (by omega)
 refine Ctr.of_body en4 Tryz.func4 rfl rfl fun hp=>(?_);rw [Tryz.ntmps4]
 all_goals exact uU
theorem lawTellWatcher_A2(x0:List Dt.GSchema)(x1:Dt.GWatcher)(x2:List Dt.GNode)(x3:List Dt.GNode)(h0:¬ szSl szSchema x0 1048576<0)(h1:¬ szWatcher x1 (szSl szSchema x0 1048576)<0)(h2:szSl szNode x2 (szWatcher x1 (szSl szSchema x0 1048576))<0):Ctr rawL Tryz.prog 4 [] [.sl false 19 (x0.map (encSchema false)),.agg [.sl false 1 (x1.fNames.map AV.str),.sl false 3 (x1.fSeen.map (encNode false)),.sl false 1 (x1.fNotices.map (encEditS false))],.sl false 3 (x2.map (encNode false)),.sl false 3 (x3.map (encNode false))] (.v (.bool true)) [] True:=by
 have le0:=szSl_le szSchema szSchema_le x0 1048576 (by omega)
 have le1:=szWatcher_le x1 (szSl szSchema x0 1048576) (by omega)
 refine Ctr.of_body en4 Tryz.func4 rfl rfl fun hp=>(?_);rw [Tryz.ntmps4]
 all_goals exact uU
theorem lawTellWatcher_A3(x0:List Dt.GSchema)(x1:Dt.GWatcher)(x2:List Dt.GNode)(x3:List Dt.GNode)(h0:¬ szSl szSchema x0 1048576<0)(h1:¬ szWatcher x1 (szSl szSchema x0 1048576)<0)(h2:¬ szSl szNode x2 (szWatcher x1 (szSl szSchema x0 1048576))<0)(h3:szSl szNode x3 (szSl szNode x2 (szWatcher x1 (szSl szSchema x0 1048576)))<0):Ctr rawL Tryz.prog 4 [] [.sl false 19 (x0.map (encSchema false)),.agg [.sl false 1 (x1.fNames.map AV.str),.sl false 3 (x1.fSeen.map (encNode false)),.sl false 1 (x1.fNotices.map (encEditS false))],.sl false 3 (x2.map (encNode false)),.sl false 3 (x3.map (encNode false))] (.v (.bool true)) [] True:=by
 have le0:=szSl_le szSchema szSchema_le x0 1048576 (by omega)
 have le1:=szWatcher_le x1 (szSl szSchema x0 1048576) (by omega)
 have le2:=szSl_le szNode szNode_le x2 (szWatcher x1 (szSl szSchema x0 1048576)) (by omega)
 refine Ctr.of_body en4 Tryz.func4 rfl rfl fun hp=>(?_);rw [Tryz.ntmps4]
 all_goals exact uU
theorem lawTellWatcher_B(x0:List Dt.GSchema)(x1:Dt.GWatcher)(x2:List Dt.GNode)(x3:List Dt.GNode)(h0:¬ szSl szSchema x0 1048576<0)(h1:¬ szWatcher x1 (szSl szSchema x0 1048576)<0)(h2:¬ szSl szNode x2 (szWatcher x1 (szSl szSchema x0 1048576))<0)(h3:¬ szSl szNode x3 (szSl szNode x2 (szWatcher x1 (szSl szSchema x0 1048576)))<0):Ctr lim Tryz.prog 4 [] [.sl false 19 (x0.map (encSchema false)),.agg [.sl false 1 (x1.fNames.map AV.str),.sl false 3 (x1.fSeen.map (encNode false)),.sl false 1 (x1.fNotices.map (encEditS false))],.sl false 3 (x2.map (encNode false)),.sl false 3 (x3.map (encNode false))] (.v (.bool true)) [] True:=by
 have le0:=szSl_le szSchema szSchema_le x0 1048576 (by omega)
 have le1:=szWatcher_le x1 (szSl szSchema x0 1048576) (by omega)
 have le2:=szSl_le szNode szNode_le x2 (szWatcher x1 (szSl szSchema x0 1048576)) (by omega)
 have le3:=szSl_le szNode szNode_le x3 (szSl szNode x2 (szWatcher x1 (szSl szSchema x0 1048576))) (by omega)
 have c0:=mkL_cap szSchema_le stSchema_cap x0 1 1048576 (by omega) (by omega)
 have d0:=mkL_up stSchema_ge x0 1
 have c1:=tpWatcher_cap x1 ((mkL stSchema x0 1).2) (szSl szSchema x0 1048576) (by omega) (by omega)
 have d1:=tpWatcher_ge x1 ((mkL stSchema x0 1).2)
 simp only [tpWatcher] at c1 d1
 have c2:=mkL_cap szNode_le stNode_cap x2 ((mkL stEditS x1.fNotices ((mkL stNode x1.fSeen ((mkL stString x1.fNames ((mkL stSchema x0 1).2)).2)).2)).2) (szWatcher x1 (szSl szSchema x0 1048576)) (by omega) (by omega)
 have d2:=mkL_up stNode_ge x2 ((mkL stEditS x1.fNotices ((mkL stNode x1.fSeen ((mkL stString x1.fNames ((mkL stSchema x0 1).2)).2)).2)).2)
 have c3:=mkL_cap szNode_le stNode_cap x3 ((mkL stNode x2 ((mkL stEditS x1.fNotices ((mkL stNode x1.fSeen ((mkL stString x1.fNames ((mkL stSchema x0 1).2)).2)).2)).2)).2) (szSl szNode x2 (szWatcher x1 (szSl szSchema x0 1048576))) (by omega) (by omega)
 have d3:=mkL_up stNode_ge x3 ((mkL stNode x2 ((mkL stEditS x1.fNotices ((mkL stNode x1.fSeen ((mkL stString x1.fNames ((mkL stSchema x0 1).2)).2)).2)).2)).2)
 have hwS:=wtS_fit (l:=x0) (r:=1048576) (by omega) (by omega)
 have hwA:=wt_fit (l:=x2) (r:=szWatcher x1 (szSl szSchema x0 1048576)) (by omega) (by omega)
 have hwB:=wt_fit (l:=x3) (r:=szSl szNode x2 (szWatcher x1 (szSl szSchema x0 1048576))) (by omega) (by omega)
 have hnl:=szWatcher_len (x:=x1) (r:=szSl szSchema x0 1048576) (by omega) (by omega) (by omega)
 have htl:=telN_le (s:=x0) (a:=x2) (b:=x3) hnl
 have cr:=tellCap x0 x1 x2 x3 (r:=szSl szSchema x0 1048576) (by omega) (by omega) (by omega)
 have dr0:=mkL_up stString_ge x1.fNames 1
 have dr1:=mkL_up stNode_ge x1.fSeen (mkL stString x1.fNames 1).2
 have dr2:=mkL_mono (f:=stEditS) stEditS_ge0 (telN x0 x1 x2 x3) (mkL stNode x1.fSeen (mkL stString x1.fNames 1).2).2
 have hneg2:decide ((mkL stEditS (telN x0 x1 x2 x3) (mkL stNode x1.fSeen (mkL stString x1.fNames 1).2).2).2<0)=false:=decide_eq_false (by omega)
 have hneg:decide ((mkL stNode x3 ((mkL stNode x2 ((mkL stEditS x1.fNotices ((mkL stNode x1.fSeen ((mkL stString x1.fNames ((mkL stSchema x0 1).2)).2)).2)).2)).2)).2<0)=false:=decide_eq_false (by omega)
 refine Ctr.of_body en4 Tryz.func4 rfl rfl fun hp=>(?_);rw [Tryz.ntmps4]
 (repeat' first|(with_reducible first|(refine X fun hs=>?_)|refine Z ?_|refine Y ?_|(refine hK _ _ ?_;clear hK K)|refine And.intro ?_ ?_|exact Ct|intro (K:_→_→Prop) hK|(refine gI fun hg=>?_;try simp only [hC,reduceCtorEq] at hg;try simp only [hg]))|(refine AW.i rfl (fun h=>?_) (fun h=>?_)<;>try simp only [hC,reduceCtorEq] at h)|((with_reducible refine E ?_;repeat refine Y ?_);refine eF rfl ?_)|simp (disch:=omega) only [go_sem,hneg,hneg2]|(with_reducible intro hg;try simp only [hC,reduceCtorEq] at hg)|exact Cl|fail)
theorem lawTellWatcher_c(x0:List Dt.GSchema)(x1:Dt.GWatcher)(x2:List Dt.GNode)(x3:List Dt.GNode):LawC Tryz.prog 4 [.sl false 19 (x0.map (encSchema false)),encWatcher false x1,.sl false 3 (x2.map (encNode false)),.sl false 3 (x3.map (encNode false))]:=by
 by_cases h0:szSl szSchema x0 1048576<0
 ·exact .raw (lawTellWatcher_A0 x0 x1 x2 x3 h0) trivial
 have le0:=szSl_le szSchema szSchema_le x0 1048576 (by omega)
 by_cases h1:szWatcher x1 (szSl szSchema x0 1048576)<0
 ·exact .raw (lawTellWatcher_A1 x0 x1 x2 x3 h0 h1) trivial
 have le1:=szWatcher_le x1 (szSl szSchema x0 1048576) (by omega)
 by_cases h2:szSl szNode x2 (szWatcher x1 (szSl szSchema x0 1048576))<0
 ·exact .raw (lawTellWatcher_A2 x0 x1 x2 x3 h0 h1 h2) trivial
 have le2:=szSl_le szNode szNode_le x2 (szWatcher x1 (szSl szSchema x0 1048576)) (by omega)
 by_cases h3:szSl szNode x3 (szSl szNode x2 (szWatcher x1 (szSl szSchema x0 1048576)))<0
 ·exact .raw (lawTellWatcher_A3 x0 x1 x2 x3 h0 h1 h2 h3) trivial
 have le3:=szSl_le szNode szNode_le x3 (szSl szNode x2 (szWatcher x1 (szSl szSchema x0 1048576))) (by omega)
 exact .fit ⟨fits_sl (f:=szSchema) szSchema_le x0 1048576 (by omega) (by omega) (by omega) fun y hy r' p q s=>fitSchema y r' p q s,fitWatcher x1 (szSl szSchema x0 1048576) (by omega) (by omega) (by omega),fits_sl (f:=szNode) szNode_le x2 (szWatcher x1 (szSl szSchema x0 1048576)) (by omega) (by omega) (by omega) fun y hy r' p q s=>fitNode y r' p q s,fits_sl (f:=szNode) szNode_le x3 (szSl szNode x2 (szWatcher x1 (szSl szSchema x0 1048576))) (by omega) (by omega) (by omega) fun y hy r' p q s=>fitNode y r' p q s,trivial⟩ (lawTellWatcher_B x0 x1 x2 x3 h0 h1 h2 h3) trivial
end Go.Proofs.YtmcjbaafmjlblaaGreatDoor
