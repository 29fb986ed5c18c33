/- A part. -/
import Derived.Test.YtmcjbaafmjlblaaGreatDoorK1
set_option linter.all false
set_option maxRecDepth 20000
set_option maxHeartbeats 4000000
namespace Go.Proofs
open Go.Ab Go.Dt
attribute [go_sem] List.getElem?_nil I5 jz ub aI aS gf ba
theorem aad(x0:List Dt.ag)(x1:Dt.dm)(h0:aG aL x0 1048576<0):Ctr eW Tryz.prog 6 [] [.sl false 19 (x0.map (ak false)),.agg [.sl false 1 (x1.ax.map AV.str),.sl false 3 (x1.cL.map (aj false)),.sl false 1 (x1.bt.map (bD false))]] (.v (.bool true)) [] True:=by
 refine Ctr.bd Tryz.func6 Tryz.ntmps6 rfl rfl fun hp=>?_
 all_goals exact uU
theorem aae(x0:List Dt.ag)(x1:Dt.dm)(h0:¬ aG aL x0 1048576<0)(h1:fE x1 (aG aL x0 1048576)<0):Ctr eW Tryz.prog 6 [] [.sl false 19 (x0.map (ak false)),.agg [.sl false 1 (x1.ax.map AV.str),.sl false 3 (x1.cL.map (aj false)),.sl false 1 (x1.bt.map (bD false))]] (.v (.bool true)) [] True:=by
 have le0:=aZ aL cV x0 1048576 (by omega)
 refine Ctr.bd Tryz.func6 Tryz.ntmps6 rfl rfl fun hp=>?_
 all_goals exact uU
@[go_sem] def tn0(x0:List ag):AV:=.sl false 19 (x0.map (ak false))
@[go_sem] def tn1(x1:dm):List AV:=[.sl false 1 (x1.ax.map AV.str),.sl false 3 (x1.cL.map (aj false)),.sl false 1 (x1.bt.map (bD false))]
@[go_sem] def tn2(x0:List ag)(x1:dm):List AV:=[.sl false 1 (x1.ax.map AV.str),.sl false 3 ((tkS x0 x1).map (aj false)),.sl false 1 ((tkN x0 x1).map (bD false))]
@[go_sem] def tn3(x0:List ag)(x1:dm):AV:=.sl false 4 ((tkE x0 x1).map (aH false))
@[go_sem] def tn4(x0:List ag)(x1:dm):AV:=.v (.bool (tkB x0 x1))
@[go_sem] def tn5(x0:List ag)(x1:dm):AV:=.tup [.agg (tn2 x0 x1),tn3 x0 x1,tn4 x0 x1]
@[go_sem] def tnA(x0:List ag)(x1:dm)(l:List (Nat×AV)):List (Nat×AV):=(0,tn0 x0)::(3,.vp (tn1 x1))::l
@[go_sem] def tnZ:List AV:=[.v (.slice none 0 0),.v (.slice none 0 0),.v (.slice none 0 0)]
@[go_sem] def tn6(x0:List ag)(x1:dm)(hs:Nat->Value):List AV:=[.pin (hs 0) (.sl true 1 ((mkL ay x1.ax 1).1.map AV.str)),.pin (hs 1) (.sl true 3 ((mkL aT (tkS x0 x1) (mkL ay x1.ax 1).2).1.map (aj true))),.pin (hs 2) (.slo 1 ((mkL eJ (tkN x0 x1) (mkL aT (tkS x0 x1) (mkL ay x1.ax 1).2).2).1.map (bD true)))]
@[go_sem] def tnB(x0:List ag)(x1:dm)(b c:Nat):List (Nat×AV):=[(0,tn0 x0),(3,.vp (tn1 x1)),(6,.ptr b 0),(7,tn3 x0 x1),(8,tn4 x0 x1),(11,.ptr c 0),(12,.sl true 4 ((mkL cf (tkE x0 x1) (mkL eJ (tkN x0 x1) (mkL aT (tkS x0 x1) (mkL ay x1.ax 1).2).2).2).1.map (aH true))),(15,.v (.int .i64 (mkL cf (tkE x0 x1) (mkL eJ (tkN x0 x1) (mkL aT (tkS x0 x1) (mkL ay x1.ax 1).2).2).2).2))]
@[go_sem] def tnO(x0:List ag)(x1:dm)(b c:Nat)(hs:Nat->Value):Sto:=[(b,some (tn2 x0 x1)),(c,some (tn6 x0 x1 hs))]
def tnR:List (Nat×List Nat):=[(0,[0,2,9]),(1,[1,2,9]),(3,[2,9]),(4,[0,9]),(5,[1,9]),(7,[3,9]),(15,[4,9]),(31,[5,9]),(63,[6,7,8,9]),(127,[7,8,9]),(191,[6,8,9]),(255,[8,9]),(319,[6,7,9]),(383,[7,9]),(447,[6,9]),(511,[9]),(512,[0,2]),(513,[1,2]),(515,[2]),(516,[0]),(517,[1]),(519,[3]),(527,[4]),(543,[5]),(575,[6,7,8]),(639,[7,8,10]),(703,[6,8]),(767,[8,10]),(831,[6,7]),(895,[7,10]),(959,[6]),(1023,[10]),(1663,[7,8]),(1791,[8,11]),(1919,[7]),(2047,[11]),(3839,[8]),(4095,[12]),(8191,[])]
abbrev TnI(x0:List ag)(x1:dm):=aaa 13 156 tnR (fun _=>True) (tnA x0 x1 []) (fun d=>[(31,1,16,tn0 x0),(32,2,16,tn0 x0),(33,4,16,.agg (tn1 x1)),(34,8,16,.agg (tn1 x1)),(35,16,32,tn5 x0 x1),(30,32,64,tn5 x0 x1),(30,96,128,tn5 x0 x1),(30,224,256,tn5 x0 x1),(36,64,1024,.agg (tn2 x0 x1)),(37,128,2048,tn3 x0 x1),(38,256,4096,tn4 x0 x1),(6,512,0,.ptr d 0),(7,2048,0,tn3 x0 x1),(8,4096,0,tn4 x0 x1)]) (fun d m=>bif m &&& 512 == 0 then [] else (d,some (bif m &&& 1024 == 0 then tnZ else tn2 x0 x1))::[])
abbrev TnJ(x0:List ag)(x1:dm)(b c:Nat)(hs:Nat->Value):=aaa 13 156 tnR (fun d=>¬ b=d/\¬ c=d) (tnB x0 x1 b c) (fun d=>[(120,1,16,tn0 x0),(121,2,16,tn0 x0),(122,4,16,.agg (tn1 x1)),(123,8,16,.agg (tn1 x1)),(124,16,32,tn5 x0 x1),(119,32,64,tn5 x0 x1),(119,96,128,tn5 x0 x1),(119,224,256,tn5 x0 x1),(125,64,1024,.agg (tn2 x0 x1)),(126,128,2048,tn3 x0 x1),(127,256,4096,tn4 x0 x1),(17,512,0,.ptr d 0),(18,2048,0,tn3 x0 x1),(19,4096,0,tn4 x0 x1)]) (fun d m=>bif m &&& 512 == 0 then tnO x0 x1 b c hs else (d,some (bif m &&& 1024 == 0 then tnZ else tn2 x0 x1))::tnO x0 x1 b c hs)
theorem aag(x0:List Dt.ag)(x1:Dt.dm)(h0:¬ aG aL x0 1048576<0)(h1:¬ fE x1 (aG aL x0 1048576)<0):Ctr lim Tryz.prog 6 [] [.sl false 19 (x0.map (ak false)),.agg [.sl false 1 (x1.ax.map AV.str),.sl false 3 (x1.cL.map (aj false)),.sl false 1 (x1.bt.map (bD false))]] (.v (.bool true)) [] True:=by
 have le0:=aZ aL cV x0 1048576 (by omega)
 have le1:=um x1 (aG aL x0 1048576) (by omega)
 have c0:=fJ cV mW x0 1 1048576 (by omega) (by omega)
 have d0:=bG ib x0 1
 have c1:=Cp x1 ((mkL ct x0 1).2) (aG aL x0 1048576) (by omega) (by omega)
 have d1:=Dg x1 ((mkL ct x0 1).2)
 simp only [oh] at c1 d1
 have hwS:=Ad (l:=x0) (r:=1048576) (by omega) (by omega)
 have hwf:=Jj (w:=x1) (r:=aG aL x0 1048576) (by omega) (by omega) (by omega)
 have hw1:=hwf.1
 have hw2:=hwf.2
 have hnl:=Cq (x:=x1) (r:=aG aL x0 1048576) (by omega) (by omega) (by omega)
 have htl:=Nat.le_trans (aaw x0 x1) hnl
 have cr:=aaD x0 (w:=x1) (r:=aG aL x0 1048576) (by omega) (by omega) (by omega)
 have dr0:=bG iP x1.ax 1
 have dr1:=bG dO (tkS x0 x1) (mkL ay x1.ax 1).2
 have dr2:=nG (f:=eJ) kD (tkN x0 x1) (mkL aT (tkS x0 x1) (mkL ay x1.ax 1).2).2
 have dr3:=bG eT (tkE x0 x1) (mkL eJ (tkN x0 x1) (mkL aT (tkS x0 x1) (mkL ay x1.ax 1).2).2).2
 have zB:decide ((mkL eJ (tkN x0 x1) (mkL aT (tkS x0 x1) (mkL ay x1.ax 1).2).2).2<0)=false:=decide_eq_false (by omega)
 have aaj:decide ((mkL cf (tkE x0 x1) (mkL eJ (tkN x0 x1) (mkL aT (tkS x0 x1) (mkL ay x1.ax 1).2).2).2).2<0)=false:=decide_eq_false (by omega)
 have hneg:decide ((mkL eJ x1.bt ((mkL aT x1.cL ((mkL ay x1.ax ((mkL ct x0 1).2)).2)).2)).2<0)=false:=decide_eq_false (by omega)
 refine Ctr.bd Tryz.func6 Tryz.ntmps6 rfl rfl fun hp=>?_
 refine vO ?_;intros;refine AW.c (fun h=>?_) fun h=>?_
 ·omega
 refine vO ?_;intros;refine AW.c (fun h=>?_) fun h=>?_
 ·omega
 (refine vN ?_;with_reducible repeat' first|exact Le.l|apply Sw|intro h)
 refine AW.anyI (TnI x0 x1) [0,3] [] trivial (by kernel_rfl) ?_ ?_ ?_
 ·unfold TnI aaa
  exact ⟨0,[0,2,9],0,by decide,by decide,trivial,by kernel_rfl,by kernel_rfl,by kernel_rfl⟩
 ·intro l s h
  obtain ⟨rfl,b,_,rfl⟩:=aaa.last h 8191 (by kernel_rfl)
  refine ⟨by kernel_rfl,?_⟩
  simp only [tnA,aab,List.filterMap_cons,List.filterMap_nil,Nat.reduceAnd,Nat.reduceBEq,beq_self_eq_true,Bool.and_self,Bool.true_and,Bool.and_true,Bool.and_false,Bool.false_and,cond_true,cond_false,List.append_nil,List.cons_append,List.nil_append]
  haveI stop:∀ (ops:Array Oper) (c:Code) (t:List (Nat×AV)) (o:Sto) (Q:Exit->AS->Prop),Rz (AW lim Tryz.prog (.seq (.region 35 ops true) c) ⟨156,t,o⟩ Q) (MV 0 (p:=⟨AW lim Tryz.prog (.seq (.region 35 ops true) c) ⟨156,t,o⟩ Q⟩)):=fun _ _ _ _ _=>⟨fun h=>h⟩
  simp (maxSteps:=2000000) (disch:=omega) only [go_sem]
  (repeat' first|(with_reducible first|(refine X fun hs=>?_)|refine Z ?_|refine Y ?_|(refine hK _ _ ?_;clear hK K)|refine And.intro ?_ ?_|exact Ct|intro (K:_->_->Prop) hK|(refine gI fun hg=>?_;try simp only [hC,reduceCtorEq] at hg;try simp only [hg]))|(refine AW.i rfl (fun h=>?_) (fun h=>?_)<;>try simp only [hC,reduceCtorEq] at h)|((with_reducible refine E ?_;repeat refine Y ?_);refine eF rfl ?_)|simp (disch:=omega) only [go_sem,hneg,zB,aaj]|(with_reducible intro hg;try simp only [hC,reduceCtorEq] at hg)|exact Cl|fail)
  all_goals try exact hw2 _ (by assumption)
  refine aaA 0 ?_
  refine AW.seq ?_
  clear stop
  rename_i c2 q5 q4 q3 q2 q1 q0
  have hb2:¬ b=c2:=hg.2
  have hb3:=hg.1
  clear q0 q1 q2 q3 q4 q5
  refine AW.anyI (TnJ x0 x1 b c2 hs) [0,3,6,7,8,11,12,15] (tnO x0 x1 b c2 hs) gO (by kernel_rfl) ?_ ?_ ?_
  ·unfold TnJ aaa
   exact ⟨0,[0,2,9],b+c2+1,by decide,by decide,⟨by omega,by omega⟩,by kernel_rfl,by kernel_rfl,by kernel_rfl⟩
  ·intro l s h
   obtain ⟨rfl,d,hd,rfl⟩:=aaa.last h 8191 (by kernel_rfl)
   refine ⟨by kernel_rfl,?_⟩
   simp only [tnB,tnO,aab,List.filterMap_cons,List.filterMap_nil,Nat.reduceAnd,Nat.reduceBEq,beq_self_eq_true,Bool.and_self,Bool.true_and,Bool.and_true,Bool.and_false,Bool.false_and,cond_true,cond_false,List.append_nil,List.cons_append,List.nil_append]
   have hg:=hd
   simp (maxSteps:=2000000) (disch:=omega) only [go_sem]
   (repeat' first|(with_reducible first|(refine X fun hs=>?_)|refine Z ?_|refine Y ?_|(refine hK _ _ ?_;clear hK K)|refine And.intro ?_ ?_|exact Ct|intro (K:_->_->Prop) hK|(refine gI fun hg=>?_;try simp only [hC,reduceCtorEq] at hg;try simp only [hg]))|(refine AW.i rfl (fun h=>?_) (fun h=>?_)<;>try simp only [hC,reduceCtorEq] at h)|((with_reducible refine E ?_;repeat refine Y ?_);refine eF rfl ?_)|simp (disch:=omega) only [go_sem,hneg,zB,aaj]|(with_reducible intro hg;try simp only [hC,reduceCtorEq] at hg)|exact Cl|fail)
  ·intro f l s h
   obtain ⟨m,rs,d,hm,h2,hs2,hf,rfl,rfl⟩:=h
   clear hneg zB aaj cr dr0 dr1 dr2 dr3 c0 d0 c1 d1 le0 le1 hnl htl h0 h1 hwf
   haveI i1:Ctr lim Tryz.prog 25 [] [.sl false 19 (x0.map (ak false))] (.sl false 19 (x0.map (ak false))) [] True:=by
    have:=(St x0).frz
    simpa only [AV.frz,AV.bZ,cond_true,aI,aS,ub,gf,ba] using this
   haveI i2:Ctr lim Tryz.prog 26 [] [.agg [.sl false 1 (x1.ax.map AV.str),.sl false 3 (x1.cL.map (aj false)),.sl false 1 (x1.bt.map (bD false))]] (.agg [.sl false 1 (x1.ax.map AV.str),.sl false 3 (x1.cL.map (aj false)),.sl false 1 (x1.bt.map (bD false))]) [] True:=by
    have:=(Sr x1).frz
    simpa only [AV.frz,AV.bZ,cond_true,aI,aS,ub,gf,ba] using this
   haveI i3:Ctr lim Tryz.prog 37 [] [.sl false 19 (x0.map (ak false)),.agg [.sl false 1 (x1.ax.map AV.str),.sl false 3 (x1.cL.map (aj false)),.sl false 1 (x1.bt.map (bD false))]] (tn5 x0 x1) [] True:=by
    have:=(aas x0 x1).frz
    simp only [AV.frz,AV.bZ,cond_true,aI,aS,ub,gf,ba] at this
    exact ⟨this.en,fun _=>this.out ⟨by omega,hw1,hw2⟩⟩
   obtain rfl:f=13 - pcA 13 m - 1:=by omega
   refine ⟨rs,?_⟩
   simp only [tnR,List.mem_cons,List.not_mem_nil,or_false,Prod.mk.injEq] at hm
   rcases hm with ⟨rfl,rfl⟩|⟨rfl,rfl⟩|⟨rfl,rfl⟩|⟨rfl,rfl⟩|⟨rfl,rfl⟩|⟨rfl,rfl⟩|⟨rfl,rfl⟩|⟨rfl,rfl⟩|⟨rfl,rfl⟩|⟨rfl,rfl⟩|⟨rfl,rfl⟩|⟨rfl,rfl⟩|⟨rfl,rfl⟩|⟨rfl,rfl⟩|⟨rfl,rfl⟩|⟨rfl,rfl⟩|⟨rfl,rfl⟩|⟨rfl,rfl⟩|⟨rfl,rfl⟩|⟨rfl,rfl⟩|⟨rfl,rfl⟩|⟨rfl,rfl⟩|⟨rfl,rfl⟩|⟨rfl,rfl⟩|⟨rfl,rfl⟩|⟨rfl,rfl⟩|⟨rfl,rfl⟩|⟨rfl,rfl⟩|⟨rfl,rfl⟩|⟨rfl,rfl⟩|⟨rfl,rfl⟩|⟨rfl,rfl⟩|⟨rfl,rfl⟩|⟨rfl,rfl⟩|⟨rfl,rfl⟩|⟨rfl,rfl⟩|⟨rfl,rfl⟩|⟨rfl,rfl⟩|⟨rfl,rfl⟩
   all_goals first|(exfalso;revert hf;decide)|refine ⟨by kernel_rfl,by simp,?_⟩
   all_goals clear hf h2
   all_goals simp only [allI,tnA,tnB,tnO,aab,List.filterMap_cons,List.filterMap_nil,Nat.reduceAnd,Nat.reduceBEq,beq_self_eq_true,Bool.and_self,Bool.true_and,Bool.and_true,Bool.and_false,Bool.false_and,cond_true,cond_false,List.append_nil,List.cons_append,List.nil_append]
   all_goals (refine vN ?_;with_reducible repeat' first|exact Le.l|apply Sw|intro h)
   all_goals first|(refine aaa.next (b:=d) (by decide) (by decide) (by kernel_rfl) (by kernel_rfl) ?_ (by constructor<;>omega) ?_<;>simp (disch:=omega) only [go_sem,Nat.reducePow,Nat.reduceOr,aab,List.filterMap_cons,List.filterMap_nil,Nat.reduceAnd,Nat.reduceBEq,beq_self_eq_true,Bool.and_self,Bool.true_and,Bool.and_true,Bool.and_false,Bool.false_and,cond_true,cond_false,List.append_nil,List.cons_append,List.nil_append]<;>done)|(refine aaa.next (b:=h) (by decide) (by decide) (by kernel_rfl) (by kernel_rfl) ?_ (by constructor<;>omega) ?_<;>simp (disch:=omega) only [go_sem,Nat.reducePow,Nat.reduceOr,aab,List.filterMap_cons,List.filterMap_nil,Nat.reduceAnd,Nat.reduceBEq,beq_self_eq_true,Bool.and_self,Bool.true_and,Bool.and_true,Bool.and_false,Bool.false_and,cond_true,cond_false,List.append_nil,List.cons_append,List.nil_append]<;>done)|(rename_i d2;refine aaa.next (b:=d2) (by decide) (by decide) (by kernel_rfl) (by kernel_rfl) ?_ (by constructor<;>omega) ?_<;>simp (disch:=omega) only [go_sem,Nat.reducePow,Nat.reduceOr,aab,List.filterMap_cons,List.filterMap_nil,Nat.reduceAnd,Nat.reduceBEq,beq_self_eq_true,Bool.and_self,Bool.true_and,Bool.and_true,Bool.and_false,Bool.false_and,cond_true,cond_false,List.append_nil,List.cons_append,List.nil_append]<;>done)
 ·intro f l s h
  obtain ⟨m,rs,d,hm,h2,hs2,hf,rfl,rfl⟩:=h
  clear hneg zB aaj cr dr0 dr1 dr2 dr3 c0 d0 c1 d1 le0 le1 hnl htl h0 h1 hwf
  haveI i1:Ctr lim Tryz.prog 25 [] [.sl false 19 (x0.map (ak false))] (.sl false 19 (x0.map (ak false))) [] True:=by
   have:=(St x0).frz
   simpa only [AV.frz,AV.bZ,cond_true,aI,aS,ub,gf,ba] using this
  haveI i2:Ctr lim Tryz.prog 26 [] [.agg [.sl false 1 (x1.ax.map AV.str),.sl false 3 (x1.cL.map (aj false)),.sl false 1 (x1.bt.map (bD false))]] (.agg [.sl false 1 (x1.ax.map AV.str),.sl false 3 (x1.cL.map (aj false)),.sl false 1 (x1.bt.map (bD false))]) [] True:=by
   have:=(Sr x1).frz
   simpa only [AV.frz,AV.bZ,cond_true,aI,aS,ub,gf,ba] using this
  haveI i3:Ctr lim Tryz.prog 36 [] [.sl false 19 (x0.map (ak false)),.agg [.sl false 1 (x1.ax.map AV.str),.sl false 3 (x1.cL.map (aj false)),.sl false 1 (x1.bt.map (bD false))]] (tn5 x0 x1) [] True:=by
   have:=(aat x0 x1).frz
   simp only [AV.frz,AV.bZ,cond_true,aI,aS,ub,gf,ba] at this
   exact ⟨this.en,fun _=>this.out ⟨by omega,hw1,hw2⟩⟩
  obtain rfl:f=13 - pcA 13 m - 1:=by omega
  refine ⟨rs,?_⟩
  simp only [tnR,List.mem_cons,List.not_mem_nil,or_false,Prod.mk.injEq] at hm
  rcases hm with ⟨rfl,rfl⟩|⟨rfl,rfl⟩|⟨rfl,rfl⟩|⟨rfl,rfl⟩|⟨rfl,rfl⟩|⟨rfl,rfl⟩|⟨rfl,rfl⟩|⟨rfl,rfl⟩|⟨rfl,rfl⟩|⟨rfl,rfl⟩|⟨rfl,rfl⟩|⟨rfl,rfl⟩|⟨rfl,rfl⟩|⟨rfl,rfl⟩|⟨rfl,rfl⟩|⟨rfl,rfl⟩|⟨rfl,rfl⟩|⟨rfl,rfl⟩|⟨rfl,rfl⟩|⟨rfl,rfl⟩|⟨rfl,rfl⟩|⟨rfl,rfl⟩|⟨rfl,rfl⟩|⟨rfl,rfl⟩|⟨rfl,rfl⟩|⟨rfl,rfl⟩|⟨rfl,rfl⟩|⟨rfl,rfl⟩|⟨rfl,rfl⟩|⟨rfl,rfl⟩|⟨rfl,rfl⟩|⟨rfl,rfl⟩|⟨rfl,rfl⟩|⟨rfl,rfl⟩|⟨rfl,rfl⟩|⟨rfl,rfl⟩|⟨rfl,rfl⟩|⟨rfl,rfl⟩|⟨rfl,rfl⟩
  all_goals first|(exfalso;revert hf;decide)|refine ⟨by kernel_rfl,by simp,?_⟩
  all_goals clear hf h2
  all_goals simp only [allI,tnA,tnB,tnO,aab,List.filterMap_cons,List.filterMap_nil,Nat.reduceAnd,Nat.reduceBEq,beq_self_eq_true,Bool.and_self,Bool.true_and,Bool.and_true,Bool.and_false,Bool.false_and,cond_true,cond_false,List.append_nil,List.cons_append,List.nil_append]
  all_goals (refine vN ?_;with_reducible repeat' first|exact Le.l|apply Sw|intro h)
  all_goals first|(refine aaa.next (b:=d) (by decide) (by decide) (by kernel_rfl) (by kernel_rfl) ?_ trivial ?_<;>simp (disch:=omega) only [go_sem,Nat.reducePow,Nat.reduceOr,aab,List.filterMap_cons,List.filterMap_nil,Nat.reduceAnd,Nat.reduceBEq,beq_self_eq_true,Bool.and_self,Bool.true_and,Bool.and_true,Bool.and_false,Bool.false_and,cond_true,cond_false,List.append_nil,List.cons_append,List.nil_append]<;>done)|(refine aaa.next (b:=h) (by decide) (by decide) (by kernel_rfl) (by kernel_rfl) ?_ trivial ?_<;>simp (disch:=omega) only [go_sem,Nat.reducePow,Nat.reduceOr,aab,List.filterMap_cons,List.filterMap_nil,Nat.reduceAnd,Nat.reduceBEq,beq_self_eq_true,Bool.and_self,Bool.true_and,Bool.and_true,Bool.and_false,Bool.false_and,cond_true,cond_false,List.append_nil,List.cons_append,List.nil_append]<;>done)|(rename_i d2;refine aaa.next (b:=d2) (by decide) (by decide) (by kernel_rfl) (by kernel_rfl) ?_ trivial ?_<;>simp (disch:=omega) only [go_sem,Nat.reducePow,Nat.reduceOr,aab,List.filterMap_cons,List.filterMap_nil,Nat.reduceAnd,Nat.reduceBEq,beq_self_eq_true,Bool.and_self,Bool.true_and,Bool.and_true,Bool.and_false,Bool.false_and,cond_true,cond_false,List.append_nil,List.cons_append,List.nil_append]<;>done)
theorem aaf(x0:List Dt.ag)(x1:Dt.dm):tT Tryz.prog 6 [.sl false 19 (x0.map (ak false)),pF false x1]:=by
 by_cases h0:aG aL x0 1048576<0
 ·exact .raw (aad x0 x1 h0) trivial
 have le0:=aZ aL cV x0 1048576 (by omega)
 by_cases h1:fE x1 (aG aL x0 1048576)<0
 ·exact .raw (aae x0 x1 h0 h1) trivial
 have le1:=um x1 (aG aL x0 1048576) (by omega)
 exact .fit ⟨eM (f:=aL) cV x0 1048576 (by omega) (by omega) (by omega) fun y hy r' p q s=>vo y r' p q s,IQ x1 (aG aL x0 1048576) (by omega) (by omega) (by omega),trivial⟩ (aag x0 x1 h0 h1) trivial
end Go.Proofs
