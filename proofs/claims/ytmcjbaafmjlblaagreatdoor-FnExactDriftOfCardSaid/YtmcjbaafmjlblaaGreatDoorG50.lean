/-
  Part of a proof: MkD, McD, AbUL, AbTab.
-/
import Derived.Lib.LaidTab
import Derived.Lay
import Derived.MakeChecks
import Derived.Test.YtmcjbaafmjlblaaGreatDoorG2
import Derived.Test.YtmcjbaafmjlblaaGreatDoorG11
import Derived.Test.YtmcjbaafmjlblaaGreatDoorG20
import Derived.Test.YtmcjbaafmjlblaaGreatDoorG21
import Derived.Test.YtmcjbaafmjlblaaGreatDoorG30
import Derived.Test.YtmcjbaafmjlblaaGreatDoorG47
import Derived.Test.YtmcjbaafmjlblaaGreatDoorG48
import Derived.Test.YtmcjbaafmjlblaaGreatDoorG49
set_option linter.unusedSimpArgs false
set_option linter.unusedVariables false
namespace Go.Proofs.YtmcjbaafmjlblaaGreatDoor
open Go.Ab Go.Dt
set_option maxRecDepth 20000
set_option maxHeartbeats 4000000
instance markVersionS_i(l:List GVersion)(k:Int):BCtr lim Tryz.prog 108 3 (l.map (encVersion true)) [.v (.int .i64 k)] (.v (.int .i64 (mkL stVersion l k).2)) ((mkL stVersion l k).1.map (encVersion true)) (0≤k∧(mkL stVersion l k).2≤1099511627776):=by
 refine BCtr.of en108 (fun b=>?_) (fun e=>?_) (by simp [mkL_len]) (map_elem (fun _=>rfl) _) (map_elem (fun _=>rfl) _)
 ·simp only [List.length_map]
  refine Ctr.of_body en108 Tryz.func108 rfl rfl fun hp=>(?_);rw [Tryz.ntmps108]
  have hup:=mkL_up stVersion_ge l k
  (refine vU ?_;with_reducible repeat' first|exact Le.l|refine Sw ?_ ?_|intro h)
  refine AW.loopW [1,5] [0] (fun m xs o=>∃ i:Nat,xs=[.v (.int .i64 (mkc stVersion l k i)),.v (.int .i64 i)]∧o=[(b,some (((mkp stVersion l k i).map (encVersion true)).flatMap AV.cells))]∧m=l.length - i∧i≤l.length) l.length [(b,some ((l.map (encVersion true)).flatMap AV.cells))] (subO_one rfl) ⟨0,rfl,?_,rfl,?_⟩ ?_
  ·rw [mkp_zero]
  ·omega
  rintro m xs o ⟨i,rfl,rfl,rfl,hi⟩
  have h1:=mkc_ge (up_ge stVersion_ge) l k i
  have h2:=mkc_le (up_ge stVersion_ge) l k i
  (refine vK ?_;with_reducible repeat' first|exact Le.l|refine Sw ?_ ?_|intro h)
  (refine AW.i rfl (fun h=>?_) (fun h=>?_)<;>try simp only [hC,reduceCtorEq] at h)
  ·have h3:=mkc_le (up_ge stVersion_ge) l k (i+1)
   rw [mkd_at h]
   rw [mkc_step h] at h3
   have hpre:=mkb_len (e:=encVersion true) (f:=stVersion) (sz:=3) (k:=k) (fun _=>rfl) hi
   have hpost:(((l.drop (i+1)).map (encVersion true)).flatMap AV.cells).length=(l.length - (i+1)) * 3:=by
    rw [fm_len (e:=encVersion true) (sz:=3) (fun _=>rfl),List.length_drop]
   have hnx:=mkd_next (e:=encVersion true) (f:=stVersion) (k:=k) h
   generalize mkb (encVersion true) stVersion l k i=pre at hpre hnx ⊢
   generalize ((l.drop (i+1)).map (encVersion true)).flatMap AV.cells=post at hnx hpost ⊢
   generalize e1:at_ l i=x at *
   generalize e2:mkc stVersion l k i=c at *
   refine AW.imp (Imp.pinE (b:=b) pre [_,_,_] post (O_eq _ _ _) fun hs=>?_)
   simp (maxSteps:=2000000) (disch:=omega) only [go_sem]
   have g0:=mkL_up stNode_ge x.fTree c
   simp only [stVersion] at h3
   (refine vK ?_;with_reducible repeat' first|exact Le.l|refine Sw ?_ ?_|intro h)
   refine Imp.unpE (b:=b) pre [_,_,_] post (O_eq _ _ _) ?_
   simp (maxSteps:=2000000) (disch:=omega) only [go_sem]
   exact ⟨_,[_,_],_,by omega,⟨i+1,by rw [mkc_step h,e1,e2];rfl,rfl,rfl,by omega⟩,rfl,subO_one hnx⟩
  ·rw [mkc_end h,mkp_end h]
   all_goals exact uU
 ·have:l=[]:=by simpa using e
  subst this
  refine ⟨?_,rfl⟩
  refine Ctr.of_body en108 Tryz.func108 rfl rfl fun hp=>(?_);rw [Tryz.ntmps108]
  (refine vU ?_;with_reducible repeat' first|exact Le.l|refine Sw ?_ ?_|intro h)
  refine AW.loopV [] [0,1,5] (fun m xs o=>xs=[]∧o=[]) 0 [] trivial ⟨rfl,rfl⟩ ?_
  rintro m xs o ⟨rfl,rfl⟩
  (refine vU ?_;with_reducible repeat' first|exact Le.l|refine Sw ?_ ?_|intro h)
  rfl
instance markPending_i(x:GPending)(k:Int):ICtr lim Tryz.prog 109 true [.v (.bool x.fOn),.v (.int .i64 x.fUntil),.v (.int .i64 x.fBy),.str x.fName,.sl true 3 (x.fBack.map (encNode true))] [.v (.int .i64 k)] (.v (.int .i64 (mkL stNode x.fBack k).2)) [.v (.bool x.fOn),.v (.int .i64 x.fUntil),.v (.int .i64 x.fBy),.str x.fName,.sl true 3 ((mkL stNode x.fBack k).1.map (encNode true))] (0≤k∧(mkL stNode x.fBack k).2≤1099511627776):=by
 refine ⟨en109,fun hp=>InC.of_body Tryz.func109 rfl rfl rfl (fun hs=>rfl) (fun hs=>rfl) (fun hs=>rfl) rfl fun hs=>?_⟩
 rw [Tryz.ntmps109]
 have g0:=mkL_up stNode_ge x.fBack k
 (refine bX ?_;with_reducible repeat' first|exact Le.l|refine Sw ?_ ?_|intro h)
 refine AW.ret (EndsG.inp h rfl ?_)
 simp (maxSteps:=2000000) (disch:=omega) only [go_sem]
instance markStore_i(x:GStore)(k:Int):ICtr lim Tryz.prog 56 true [.sl true 19 (x.fSchema.map (encSchema true)),.sl true 3 (x.fRunning.map (encNode true)),.sl true 3 (x.fDraft.map (encNode true)),.v (.int .i64 x.fOwner),.sl true 3 (x.fPast.map (encVersion true)),.v (.bool x.fWait.fOn),.v (.int .i64 x.fWait.fUntil),.v (.int .i64 x.fWait.fBy),.str x.fWait.fName,.sl true 3 (x.fWait.fBack.map (encNode true))] [.v (.int .i64 k)] (.v (.int .i64 (mkL stNode x.fWait.fBack (mkL stVersion x.fPast (mkL stNode x.fDraft (mkL stNode x.fRunning (mkL stSchema x.fSchema k).2).2).2).2).2)) [.sl true 19 ((mkL stSchema x.fSchema k).1.map (encSchema true)),.sl true 3 ((mkL stNode x.fRunning (mkL stSchema x.fSchema k).2).1.map (encNode true)),.sl true 3 ((mkL stNode x.fDraft (mkL stNode x.fRunning (mkL stSchema x.fSchema k).2).2).1.map (encNode true)),.v (.int .i64 x.fOwner),.sl true 3 ((mkL stVersion x.fPast (mkL stNode x.fDraft (mkL stNode x.fRunning (mkL stSchema x.fSchema k).2).2).2).1.map (encVersion true)),.v (.bool x.fWait.fOn),.v (.int .i64 x.fWait.fUntil),.v (.int .i64 x.fWait.fBy),.str x.fWait.fName,.sl true 3 ((mkL stNode x.fWait.fBack (mkL stVersion x.fPast (mkL stNode x.fDraft (mkL stNode x.fRunning (mkL stSchema x.fSchema k).2).2).2).2).1.map (encNode true))] (0≤k∧(mkL stNode x.fWait.fBack (mkL stVersion x.fPast (mkL stNode x.fDraft (mkL stNode x.fRunning (mkL stSchema x.fSchema k).2).2).2).2).2≤1099511627776):=by
 refine ⟨en56,fun hp=>InC.of_body Tryz.func56 rfl rfl rfl (fun hs=>rfl) (fun hs=>rfl) (fun hs=>rfl) rfl fun hs=>?_⟩
 rw [Tryz.ntmps56]
 have g0:=mkL_up stSchema_ge x.fSchema k
 have g1:=mkL_up stNode_ge x.fRunning (mkL stSchema x.fSchema k).2
 have g2:=mkL_up stNode_ge x.fDraft (mkL stNode x.fRunning (mkL stSchema x.fSchema k).2).2
 have g3:=mkL_up stVersion_ge x.fPast (mkL stNode x.fDraft (mkL stNode x.fRunning (mkL stSchema x.fSchema k).2).2).2
 have g4:=mkL_up stNode_ge x.fWait.fBack (mkL stVersion x.fPast (mkL stNode x.fDraft (mkL stNode x.fRunning (mkL stSchema x.fSchema k).2).2).2).2
 (refine bX ?_;with_reducible repeat' first|exact Le.l|refine Sw ?_ ?_|intro h)
 refine AW.ret (EndsG.inp h rfl ?_)
 simp (maxSteps:=2000000) (disch:=omega) only [go_sem]
instance markDevice_i(x:GDevice)(k:Int):ICtr lim Tryz.prog 18 true [.str x.fName,.sl true 19 (x.fStore.fSchema.map (encSchema true)),.sl true 3 (x.fStore.fRunning.map (encNode true)),.sl true 3 (x.fStore.fDraft.map (encNode true)),.v (.int .i64 x.fStore.fOwner),.sl true 3 (x.fStore.fPast.map (encVersion true)),.v (.bool x.fStore.fWait.fOn),.v (.int .i64 x.fStore.fWait.fUntil),.v (.int .i64 x.fStore.fWait.fBy),.str x.fStore.fWait.fName,.sl true 3 (x.fStore.fWait.fBack.map (encNode true)),.sl true 3 (x.fBase.map (encNode true)),.v (.bool x.fUp),.v (.int .i64 x.fWeak),.v (.bool x.fHeld)] [.v (.int .i64 k)] (.v (.int .i64 (mkL stNode x.fBase (mkL stNode x.fStore.fWait.fBack (mkL stVersion x.fStore.fPast (mkL stNode x.fStore.fDraft (mkL stNode x.fStore.fRunning (mkL stSchema x.fStore.fSchema k).2).2).2).2).2).2)) [.str x.fName,.sl true 19 ((mkL stSchema x.fStore.fSchema k).1.map (encSchema true)),.sl true 3 ((mkL stNode x.fStore.fRunning (mkL stSchema x.fStore.fSchema k).2).1.map (encNode true)),.sl true 3 ((mkL stNode x.fStore.fDraft (mkL stNode x.fStore.fRunning (mkL stSchema x.fStore.fSchema k).2).2).1.map (encNode true)),.v (.int .i64 x.fStore.fOwner),.sl true 3 ((mkL stVersion x.fStore.fPast (mkL stNode x.fStore.fDraft (mkL stNode x.fStore.fRunning (mkL stSchema x.fStore.fSchema k).2).2).2).1.map (encVersion true)),.v (.bool x.fStore.fWait.fOn),.v (.int .i64 x.fStore.fWait.fUntil),.v (.int .i64 x.fStore.fWait.fBy),.str x.fStore.fWait.fName,.sl true 3 ((mkL stNode x.fStore.fWait.fBack (mkL stVersion x.fStore.fPast (mkL stNode x.fStore.fDraft (mkL stNode x.fStore.fRunning (mkL stSchema x.fStore.fSchema k).2).2).2).2).1.map (encNode true)),.sl true 3 ((mkL stNode x.fBase (mkL stNode x.fStore.fWait.fBack (mkL stVersion x.fStore.fPast (mkL stNode x.fStore.fDraft (mkL stNode x.fStore.fRunning (mkL stSchema x.fStore.fSchema k).2).2).2).2).2).1.map (encNode true)),.v (.bool x.fUp),.v (.int .i64 x.fWeak),.v (.bool x.fHeld)] (0≤k∧(mkL stNode x.fBase (mkL stNode x.fStore.fWait.fBack (mkL stVersion x.fStore.fPast (mkL stNode x.fStore.fDraft (mkL stNode x.fStore.fRunning (mkL stSchema x.fStore.fSchema k).2).2).2).2).2).2≤1099511627776):=by
 refine ⟨en18,fun hp=>InC.of_body Tryz.func18 rfl rfl rfl (fun hs=>rfl) (fun hs=>rfl) (fun hs=>rfl) rfl fun hs=>?_⟩
 rw [Tryz.ntmps18]
 have g0:=mkL_up stSchema_ge x.fStore.fSchema k
 have g1:=mkL_up stNode_ge x.fStore.fRunning (mkL stSchema x.fStore.fSchema k).2
 have g2:=mkL_up stNode_ge x.fStore.fDraft (mkL stNode x.fStore.fRunning (mkL stSchema x.fStore.fSchema k).2).2
 have g3:=mkL_up stVersion_ge x.fStore.fPast (mkL stNode x.fStore.fDraft (mkL stNode x.fStore.fRunning (mkL stSchema x.fStore.fSchema k).2).2).2
 have g4:=mkL_up stNode_ge x.fStore.fWait.fBack (mkL stVersion x.fStore.fPast (mkL stNode x.fStore.fDraft (mkL stNode x.fStore.fRunning (mkL stSchema x.fStore.fSchema k).2).2).2).2
 have g5:=mkL_up stNode_ge x.fBase (mkL stNode x.fStore.fWait.fBack (mkL stVersion x.fStore.fPast (mkL stNode x.fStore.fDraft (mkL stNode x.fStore.fRunning (mkL stSchema x.fStore.fSchema k).2).2).2).2).2
 (refine bX ?_;with_reducible repeat' first|exact Le.l|refine Sw ?_ ?_|intro h)
 refine AW.ret (EndsG.inp h rfl ?_)
 simp (maxSteps:=2000000) (disch:=omega) only [go_sem]
end Go.Proofs.YtmcjbaafmjlblaaGreatDoor
namespace Go.Dt
open Go.Ab
theorem stVersion_cap(x:GVersion)(k r:Int)(h0:0≤r)(h:0≤szVersion x r):(stVersion x k).2≤k+32+32 * (r - szVersion x r):=by
 simp only [stVersion]
 unfold szVersion at h ⊢
 obtain ⟨a0,h⟩:=thn_get h
 rw [thn_posK a0]
 have q0:=mkL_cap szNode_le stNode_cap x.fTree k r h0 a0
 simp only [id]
 omega
def inPending(x:GPending)(k:Int):Int:=(mkL stNode x.fBack (k+1+1+1+1)).2
theorem tpPending_cap(x:GPending)(k r:Int)(h0:0≤r)(h:0≤szPending x r):(tpPending x k).2≤k+32 * (r - szPending x r):=by
 simp only [tpPending]
 unfold szPending at h ⊢
 obtain ⟨a0,h⟩:=thn_get h
 rw [thn_posK a0]
 have q0:=szStr_le x.fName r h0
 obtain ⟨a1,h⟩:=thn_get h
 rw [thn_posK a1]
 have q1:=mkL_cap szNode_le stNode_cap x.fBack k (szStr x.fName r) a0 a1
 simp only [id]
 omega
def inStore(x:GStore)(k:Int):Int:=(mkL stNode x.fWait.fBack ((mkL stVersion x.fPast ((mkL stNode x.fDraft ((mkL stNode x.fRunning ((mkL stSchema x.fSchema k).2)).2)).2+1)).2+1+1+1+1)).2
theorem tpStore_cap(x:GStore)(k r:Int)(h0:0≤r)(h:0≤szStore x r):(tpStore x k).2≤k+32 * (r - szStore x r):=by
 simp only [tpStore]
 unfold szStore at h ⊢
 obtain ⟨a0,h⟩:=thn_get h
 rw [thn_posK a0]
 have q0:=mkL_cap szSchema_le stSchema_cap x.fSchema k r h0 a0
 obtain ⟨a1,h⟩:=thn_get h
 rw [thn_posK a1]
 have q1:=mkL_cap szNode_le stNode_cap x.fRunning ((mkL stSchema x.fSchema k).2) (szSl szSchema x.fSchema r) a0 a1
 obtain ⟨a2,h⟩:=thn_get h
 rw [thn_posK a2]
 have q2:=mkL_cap szNode_le stNode_cap x.fDraft ((mkL stNode x.fRunning ((mkL stSchema x.fSchema k).2)).2) (szSl szNode x.fRunning (szSl szSchema x.fSchema r)) a1 a2
 obtain ⟨a3,h⟩:=thn_get h
 rw [thn_posK a3]
 have q3:=mkL_cap szVersion_le stVersion_cap x.fPast ((mkL stNode x.fDraft ((mkL stNode x.fRunning ((mkL stSchema x.fSchema k).2)).2)).2) (szSl szNode x.fDraft (szSl szNode x.fRunning (szSl szSchema x.fSchema r))) a2 a3
 obtain ⟨a4,h⟩:=thn_get h
 rw [thn_posK a4]
 have q4:=tpPending_cap x.fWait ((mkL stVersion x.fPast ((mkL stNode x.fDraft ((mkL stNode x.fRunning ((mkL stSchema x.fSchema k).2)).2)).2)).2) (szSl szVersion x.fPast (szSl szNode x.fDraft (szSl szNode x.fRunning (szSl szSchema x.fSchema r)))) a3 a4
 simp only [tpPending] at q4
 simp only [id]
 omega
theorem tpDevice_cap(x:GDevice)(k r:Int)(h0:0≤r)(h:0≤szDevice x r):(tpDevice x k).2≤k+32 * (r - szDevice x r):=by
 simp only [tpDevice]
 unfold szDevice at h ⊢
 obtain ⟨a0,h⟩:=thn_get h
 rw [thn_posK a0]
 have q0:=szStr_le x.fName r h0
 obtain ⟨a1,h⟩:=thn_get h
 rw [thn_posK a1]
 have q1:=tpStore_cap x.fStore k (szStr x.fName r) a0 a1
 simp only [tpStore] at q1
 obtain ⟨a2,h⟩:=thn_get h
 rw [thn_posK a2]
 have q2:=mkL_cap szNode_le stNode_cap x.fBase ((mkL stNode x.fStore.fWait.fBack ((mkL stVersion x.fStore.fPast ((mkL stNode x.fStore.fDraft ((mkL stNode x.fStore.fRunning ((mkL stSchema x.fStore.fSchema k).2)).2)).2)).2)).2) (szStore x.fStore (szStr x.fName r)) a1 a2
 simp only [id]
 omega
end Go.Dt
namespace Go.Ab
end Go.Ab
namespace Go.Ab
open Go.Dt
theorem tabIs_mem{P:Program}{W:World}{name:String}{k:IntKind}{zs:List Int}{g:Nat}{t e:TypeId}{n:Nat}
  (hg:P.globalNamed name=some g) (hty:(P.globals[g]?).map (·.type)=some t) (ht:P.underlying t=some (.array n e)) (he:P.underlying e=some (.int k)) (hce:P.cellsOf e=1) (hct:P.cellsOf t=n) :
  ∀ {l:List (String×DataW Unit)} {ps:List MemPlace},(name,Lib.tabData k zs)∈l→DataW.LaidVars P W l ps→Lib.TabIs P W name k zs
 | [],_,hm,_=>by cases hm
 | (nm,d)::r,ps,hm,h=>by
  obtain ⟨g',t',cs,fuel,p,q,hg',ht',hvar,hd,hr,_⟩:=h
  rcases List.mem_cons.1 hm with e1|hm
  ·obtain ⟨rfl,rfl⟩:=Prod.mk.inj e1
   obtain rfl:=Option.some.inj (hg.symm.trans hg')
   obtain rfl:=Option.some.inj (hty.symm.trans ht')
   unfold Lib.TabIs
   rw [hvar,← Lib.cells_of_tab ht he hce hct hd]
  ·exact tabIs_mem hg hty ht he hce hct hm hr
theorem laid_met{P:Program}{os:Os}{laid:List (String×DataW Unit)}(args:Array Value)(hp:(laid.all fun x=>x.2.handleName?.isNone)=true)
  (hf:(World.holding P os ⟨#[],#[],[]⟩).layFits P laid []=true)
  (hi:(World.holding P os ⟨#[],#[],[]⟩).layIfaces P laid (World.laidAll P os laid)=true) :
  laidMetH P laid ((World.laidAll P os laid).forCall (fun _ _=>0) ⟨#[],args,[]⟩).memory:=by
 rw [MakeChecks.laidMetH_plain _ _ _ hp];exact laidMet_laidAll args hf hi
end Go.Ab
