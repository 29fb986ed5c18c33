/- A part. -/
import Derived.Test.YtmcjbaafmjlblaaGreatDoorK0
set_option linter.all false
set_option maxRecDepth 20000
set_option maxHeartbeats 4000000
namespace Go.Proofs
open Go.Ab Go.Dt
section
attribute [-instance] cz F4 Ji cPf
attribute [local go_sem] bD gf ub vz vw gV gU Xr VG ba aI aS cU cT dy fZ gH
@[go_sem] def tkm(s:List ag)(w:dm):AV:=.sl true 3 ((mdT s w.cL (at_ w.bt 0)).1.map (aj true))
@[go_sem] def tkc(s:List ag)(w:dm):AV:=.v (.int .i64 (mdT s w.cL (at_ w.bt 0)).2)
@[go_sem] def tkd:AV:=.dead
@[go_sem] def tks(s:List ag):AV:=.sl false 19 (s.map (ak false))
@[go_sem] def tk1(w:dm):AV:=.vp [.sl false 3 (w.cL.map (aj false)),.sl false 1 (w.bt.map (bD false))]
@[go_sem] def tk2(w:dm):AV:=.sl false 3 (w.cL.map (aj false))
@[go_sem] def tk3(w:dm):AV:=.vp [.sl false 1 (w.bt.map (bD false))]
@[go_sem] def tk4(w:dm):AV:=.sl false 1 (w.bt.map (bD false))
@[go_sem] def tk5(w:dm):AV:=.vp [.sl false 4 ((at_ w.bt 0).map (aH false))]
@[go_sem] def tk6(w:dm):AV:=.sl false 4 ((at_ w.bt 0).map (aH false))
@[go_sem] def tk7(w:dm):AV:=.sl true 4 ((at_ w.bt 0).map (aH true))
@[go_sem] def tk8(s:List ag)(w:dm):List AV:=[.sl true 1 (w.ax.map AV.str),tkm s w,.slo 1 ((w.bt.drop 1).map (bD true))]
@[go_sem] def tkA(s:List ag)(w:dm)(b1 b2:Nat)(l:List (Nat×AV)):List (Nat×AV):=(0,tks s)::(3,.vp [.sl false 1 (w.ax.map AV.str),.sl false 3 (w.cL.map (aj false)),.sl false 1 (w.bt.map (bD false))])::(4,.ptr b1 0)::(7,.ptr b2 0)::l
@[go_sem] def tkZ:List AV:=[.v (.slice none 0 0),.v (.slice none 0 0),.v (.slice none 0 0)]
@[go_sem] def tkO(w:dm)(b1 b2:Nat):Sto:=[(b2,some [.sl true 1 (w.ax.map AV.str),.sl true 3 (w.cL.map (aj true)),.sl true 1 (w.bt.map (bD true))]),(b1,some tkZ)]
@[go_sem] def tkP(x y:List AV)(b1 b2:Nat):Sto:=[(b2,some x),(b1,some y)]
def aap:List (Nat×List Nat):=[(0,[0,1,3]),(1,[1,3]),(2,[0,2,3]),(3,[2,3]),(6,[0,3]),(7,[3]),(8,[0,1,4]),(9,[1,4]),(10,[0,2,4]),(11,[2,4]),(14,[0,4]),(15,[4]),(24,[0,1,5]),(25,[1,5]),(26,[0,2,5]),(27,[2,5]),(30,[0,5]),(31,[5]),(56,[0,1,6]),(57,[1,6]),(58,[0,2,6]),(59,[2,6]),(62,[0,6]),(63,[6]),(120,[0,1]),(121,[1]),(122,[0,2]),(123,[2]),(126,[0]),(127,[7]),(255,[8]),(511,[9,10]),(1023,[10,11]),(1535,[9]),(2047,[11]),(3071,[10]),(4095,[12]),(8191,[])]
def aaq:List (Nat×List Nat):=[(0,[0,1]),(1,[1]),(2,[0,2]),(3,[2]),(6,[0,3]),(7,[3]),(14,[0,4]),(15,[4]),(30,[0,5]),(31,[5]),(62,[0]),(63,[6]),(127,[7]),(255,[8]),(511,[])]
abbrev TkI(s:List ag)(w:dm)(b1 b2:Nat):=aaa 13 45 aap (fun _=>True) (tkA s w b1 b2 []) (fun _=>[(19,1,128,tks s),(20,2,128,tk1 w),(21,4,128,tk2 w),(22,8,128,tk3 w),(23,16,128,tk4 w),(24,32,128,tk5 w),(25,64,128,tk6 w),(26,128,256,.tup [tkm s w,tkc s w]),(18,256,512,.tup [tkm s w,tkc s w]),(18,768,1024,.tup [tkd,tkc s w]),(27,512,2048,tkm s w),(28,1024,4096,tkc s w),(8,2048,0,tkm s w),(9,4096,0,tkc s w)]) (fun _ _=>tkO w b1 b2)
abbrev TkJ(s:List ag)(w:dm)(b1 b2:Nat):=aaa 9 45 aaq (fun _=>True) (tkA s w b1 b2 []) (fun _=>[(39,1,64,.agg (tk8 s w)),(40,2,32,tk3 w),(41,4,32,tk4 w),(42,8,32,tk5 w),(43,16,32,tk6 w),(44,32,128,tk7 w),(5,128,0,tk7 w),(6,256,0,.v (.bool true))]) (fun _ m=>tkP (bif m &&& 1 == 0 then tk8 s w else [tkd,tkd,tkd]) (bif m &&& 64 == 0 then tkZ else tk8 s w) b1 b2)
instance aas(s:List ag)(w:dm):Ctr lim Tryz.prog 37 [] [.sl false 19 (s.map (ak false)),.agg [.sl false 1 (w.ax.map AV.str),.sl false 3 (w.cL.map (aj false)),.sl false 1 (w.bt.map (bD false))]] (.tup [.agg [.sl true 1 (w.ax.map AV.str),.sl true 3 ((tkS s w).map (aj true)),.slo 1 ((tkN s w).map (bD true))],.sl true 4 ((tkE s w).map (aH true)),.v (.bool (tkB s w))]) [] (wtS s<=1048576/\wt w.cL<=1048576/\∀ e∈w.bt,wtE e<=1048576):=by
 refine Ctr.bd Tryz.func37 Tryz.ntmps37 rfl rfl fun hp=>?_
 have gOn:=bA.on
 obtain ⟨h1,h2,h3⟩:=hp
 refine AW.kU 1 rfl (xs:=w.bt.map (bD false)) (own:=false) (sz:=1) (by simp) fun hf=>?_
 simp (disch:=omega) only [go_sem] at hf
 (refine vK ?_;with_reducible repeat' first|exact Le.l|apply Sw|intro h)
 rename_i b1 b2
 have hb:=h
 clear h
 refine AW.c (fun h=>?_) fun h=>?_
 ·have hB:tkB s w=false:=aal (by omega)
  obtain ⟨e1,e2,e3⟩:=aak hB
  rw [e1,e2,e3,hB]
  refine AW.imp (Imp.VQ (b:=b2) (sz:=1) (l:=w.bt.map (bD true)) [.sl true 1 (w.ax.map AV.str),.sl true 3 (w.cL.map (aj true))] [] gO ?_)
  all_goals exact uU
 have hlk:0<w.bt.length:=by omega
 have hwe:=h3 _ (at_mem hlk)
 clear h
 haveI stop:∀ (ops:Array Oper) (c:Code) (t:List (Nat×AV)) (o:Sto) (Q:Exit->AS->Prop),Rz (AW lim Tryz.prog (.seq (.region 4 ops true) c) ⟨45,t,o⟩ Q) (MV 0 (p:=⟨AW lim Tryz.prog (.seq (.region 4 ops true) c) ⟨45,t,o⟩ Q⟩)):=fun _ _ _ _ _=>⟨fun h=>h⟩
 (refine vK ?_;with_reducible repeat' first|exact Le.l|apply Sw|intro h)
 refine aaA 0 ?_
 refine AW.seq ?_
 clear stop
 refine AW.anyI (TkI s w b1 b2) [0,3,4,7] (tkO w b1 b2) gO (by kernel_rfl) ?_ ?_ ?_
 ·unfold TkI aaa
  exact ⟨0,[0,1,3],0,by decide,by decide,trivial,by kernel_rfl,by kernel_rfl,by kernel_rfl⟩
 ·intro l s' h
  obtain ⟨rfl,_,_,rfl⟩:=aaa.last h 8191 (by kernel_rfl)
  refine ⟨by kernel_rfl,?_⟩
  simp only [tkA,aab,List.filterMap_cons,List.filterMap_nil,Nat.reduceAnd,Nat.reduceBEq,beq_self_eq_true,Bool.and_self,Bool.true_and,Bool.and_true,Bool.and_false,Bool.false_and,cond_true,cond_false,List.append_nil,List.cons_append,List.nil_append]
  simp (maxSteps:=2000000) (disch:=omega) only [go_sem]
  refine vO ?_;intros;refine AW.c (fun h=>?_) fun h=>?_
  ·have hB:tkB s w=false:=aam h
   obtain ⟨e1,e2,e3⟩:=aak hB
   rw [e1,e2,e3,hB]
   refine AW.imp (Imp.VQ (b:=b2) (sz:=1) (l:=w.bt.map (bD true)) [.sl true 1 (w.ax.map AV.str),.sl true 3 (w.cL.map (aj true))] [] gO ?_)
   all_goals exact uU
  have hB:tkB s w=true:=aar hlk (by omega)
  obtain ⟨e1,e2,e3⟩:=tk_y hB
  rw [e1,e2,e3,hB]
  clear h e1 e2 e3
  haveI stop:∀ (ops:Array Oper) (c:Code) (t:List (Nat×AV)) (o:Sto) (Q:Exit->AS->Prop),Rz (AW lim Tryz.prog (.seq (.region 9 ops true) c) ⟨45,t,o⟩ Q) (MV 0 (p:=⟨AW lim Tryz.prog (.seq (.region 9 ops true) c) ⟨45,t,o⟩ Q⟩)):=fun _ _ _ _ _=>⟨fun h=>h⟩
  (refine vK ?_;with_reducible repeat' first|exact Le.l|apply Sw|intro h)
  refine aaA 0 ?_
  refine AW.seq ?_
  clear stop
  refine AW.anyI (TkJ s w b1 b2) [0,3,4,7] (tkP (tk8 s w) tkZ b1 b2) (by simp (maxSteps:=2000000) (disch:=omega) only [go_sem];simp [List.take_of_length_le]) (by kernel_rfl) ?_ ?_ ?_
  ·unfold TkJ aaa
   exact ⟨0,[0,1],0,by decide,by decide,trivial,by kernel_rfl,by kernel_rfl,by kernel_rfl⟩
  ·intro l s' h
   obtain ⟨rfl,_,_,rfl⟩:=aaa.last h 511 (by kernel_rfl)
   refine ⟨by kernel_rfl,?_⟩
   simp only [tkA,aab,List.filterMap_cons,List.filterMap_nil,Nat.reduceAnd,Nat.reduceBEq,beq_self_eq_true,Bool.and_self,Bool.true_and,Bool.and_true,Bool.and_false,Bool.false_and,cond_true,cond_false,List.append_nil,List.cons_append,List.nil_append]
   simp (maxSteps:=2000000) (disch:=omega) only [go_sem]
   all_goals exact uU
  ·intro f l s' h
   obtain ⟨m,rs,b,hm,h2,hs,hf,rfl,rfl⟩:=h
   obtain rfl:f=9 - pcA 9 m - 1:=by omega
   refine ⟨rs,?_⟩
   simp only [aaq,List.mem_cons,List.not_mem_nil,or_false,Prod.mk.injEq] at hm
   rcases hm with ⟨rfl,rfl⟩|⟨rfl,rfl⟩|⟨rfl,rfl⟩|⟨rfl,rfl⟩|⟨rfl,rfl⟩|⟨rfl,rfl⟩|⟨rfl,rfl⟩|⟨rfl,rfl⟩|⟨rfl,rfl⟩|⟨rfl,rfl⟩|⟨rfl,rfl⟩|⟨rfl,rfl⟩|⟨rfl,rfl⟩|⟨rfl,rfl⟩|⟨rfl,rfl⟩
   all_goals first|(exfalso;revert hf;decide)|refine ⟨by kernel_rfl,by simp,?_⟩
   all_goals clear hf h2
   all_goals simp only [allI,tkA,tkO,tkP,aab,List.filterMap_cons,List.filterMap_nil,Nat.reduceAnd,Nat.reduceBEq,beq_self_eq_true,Bool.and_self,Bool.true_and,Bool.and_true,Bool.and_false,Bool.false_and,cond_true,cond_false,List.append_nil,List.cons_append,List.nil_append]
   all_goals (refine vN ?_;with_reducible repeat' first|exact Le.l|apply Sw|intro h)
   all_goals exact aaa.next (b:=b) (by decide) (by decide) (by kernel_rfl) (by kernel_rfl) (by kernel_rfl) hs (by simp (disch:=omega) only [go_sem,Nat.reducePow,Nat.reduceOr,Nat.reduceAnd,Nat.reduceBEq])
 ·intro f l s' h
  obtain ⟨m,rs,b,hm,h2,hs,hf,rfl,rfl⟩:=h
  obtain rfl:f=13 - pcA 13 m - 1:=by omega
  refine ⟨rs,?_⟩
  simp only [aap,List.mem_cons,List.not_mem_nil,or_false,Prod.mk.injEq] at hm
  rcases hm with ⟨rfl,rfl⟩|⟨rfl,rfl⟩|⟨rfl,rfl⟩|⟨rfl,rfl⟩|⟨rfl,rfl⟩|⟨rfl,rfl⟩|⟨rfl,rfl⟩|⟨rfl,rfl⟩|⟨rfl,rfl⟩|⟨rfl,rfl⟩|⟨rfl,rfl⟩|⟨rfl,rfl⟩|⟨rfl,rfl⟩|⟨rfl,rfl⟩|⟨rfl,rfl⟩|⟨rfl,rfl⟩|⟨rfl,rfl⟩|⟨rfl,rfl⟩|⟨rfl,rfl⟩|⟨rfl,rfl⟩|⟨rfl,rfl⟩|⟨rfl,rfl⟩|⟨rfl,rfl⟩|⟨rfl,rfl⟩|⟨rfl,rfl⟩|⟨rfl,rfl⟩|⟨rfl,rfl⟩|⟨rfl,rfl⟩|⟨rfl,rfl⟩|⟨rfl,rfl⟩|⟨rfl,rfl⟩|⟨rfl,rfl⟩|⟨rfl,rfl⟩|⟨rfl,rfl⟩|⟨rfl,rfl⟩|⟨rfl,rfl⟩|⟨rfl,rfl⟩|⟨rfl,rfl⟩
  all_goals first|(exfalso;revert hf;decide)|refine ⟨by kernel_rfl,by simp,?_⟩
  all_goals clear hf h2
  all_goals simp only [allI,tkA,tkO,tkP,aab,List.filterMap_cons,List.filterMap_nil,Nat.reduceAnd,Nat.reduceBEq,beq_self_eq_true,Bool.and_self,Bool.true_and,Bool.and_true,Bool.and_false,Bool.false_and,cond_true,cond_false,List.append_nil,List.cons_append,List.nil_append]
  all_goals (refine vN ?_;with_reducible repeat' first|exact Le.l|apply Sw|intro h)
  all_goals exact aaa.next (b:=b) (by decide) (by decide) (by kernel_rfl) (by kernel_rfl) (by kernel_rfl) hs (by simp (disch:=omega) only [go_sem,Nat.reducePow,Nat.reduceOr,Nat.reduceAnd,Nat.reduceBEq])
end
section
attribute [-instance] cz F4 Ji cPf
attribute [local go_sem] bD gf ub vz vw gV gU Xr VG ba aI aS cU cT dy fZ gH
instance aat(s:List ag)(w:dm):Ctr lim Tryz.prog 36 [] [.sl false 19 (s.map (ak false)),.agg [.sl false 1 (w.ax.map AV.str),.sl false 3 (w.cL.map (aj false)),.sl false 1 (w.bt.map (bD false))]] (.tup [.agg [.sl true 1 (w.ax.map AV.str),.sl true 3 ((tkS s w).map (aj true)),.slo 1 ((tkN s w).map (bD true))],.sl true 4 ((tkE s w).map (aH true)),.v (.bool (tkB s w))]) [] (wtS s<=1048576/\wt w.cL<=1048576/\∀ e∈w.bt,wtE e<=1048576):=by
 refine Ctr.bd Tryz.func36 Tryz.ntmps36 rfl rfl fun hp=>?_
 have gOn:=bA.on
 obtain ⟨h1,h2,h3⟩:=hp
 refine AW.kU 1 rfl (xs:=w.bt.map (bD false)) (own:=false) (sz:=1) (by simp) fun hf=>?_
 simp (disch:=omega) only [go_sem] at hf
 (refine vK ?_;with_reducible repeat' first|exact Le.l|apply Sw|intro h)
 rename_i b1 b2
 have hb:=h
 clear h
 refine AW.c (fun h=>?_) fun h=>?_
 ·have hB:tkB s w=false:=aal (by omega)
  obtain ⟨e1,e2,e3⟩:=aak hB
  rw [e1,e2,e3,hB]
  refine AW.imp (Imp.VQ (b:=b2) (sz:=1) (l:=w.bt.map (bD true)) [.sl true 1 (w.ax.map AV.str),.sl true 3 (w.cL.map (aj true))] [] gO ?_)
  all_goals exact uU
 have hlk:0<w.bt.length:=by omega
 have hwe:=h3 _ (at_mem hlk)
 clear h
 haveI stop:∀ (ops:Array Oper) (c:Code) (t:List (Nat×AV)) (o:Sto) (Q:Exit->AS->Prop),Rz (AW lim Tryz.prog (.seq (.region 4 ops true) c) ⟨45,t,o⟩ Q) (MV 0 (p:=⟨AW lim Tryz.prog (.seq (.region 4 ops true) c) ⟨45,t,o⟩ Q⟩)):=fun _ _ _ _ _=>⟨fun h=>h⟩
 (refine vK ?_;with_reducible repeat' first|exact Le.l|apply Sw|intro h)
 refine aaA 0 ?_
 refine AW.seq ?_
 clear stop
 refine AW.anyI (TkI s w b1 b2) [0,3,4,7] (tkO w b1 b2) gO (by kernel_rfl) ?_ ?_ ?_
 ·unfold TkI aaa
  exact ⟨0,[0,1,3],0,by decide,by decide,trivial,by kernel_rfl,by kernel_rfl,by kernel_rfl⟩
 ·intro l s' h
  obtain ⟨rfl,_,_,rfl⟩:=aaa.last h 8191 (by kernel_rfl)
  refine ⟨by kernel_rfl,?_⟩
  simp only [tkA,aab,List.filterMap_cons,List.filterMap_nil,Nat.reduceAnd,Nat.reduceBEq,beq_self_eq_true,Bool.and_self,Bool.true_and,Bool.and_true,Bool.and_false,Bool.false_and,cond_true,cond_false,List.append_nil,List.cons_append,List.nil_append]
  simp (maxSteps:=2000000) (disch:=omega) only [go_sem]
  refine vO ?_;intros;refine AW.c (fun h=>?_) fun h=>?_
  ·have hB:tkB s w=false:=aam h
   obtain ⟨e1,e2,e3⟩:=aak hB
   rw [e1,e2,e3,hB]
   refine AW.imp (Imp.VQ (b:=b2) (sz:=1) (l:=w.bt.map (bD true)) [.sl true 1 (w.ax.map AV.str),.sl true 3 (w.cL.map (aj true))] [] gO ?_)
   all_goals exact uU
  have hB:tkB s w=true:=aar hlk (by omega)
  obtain ⟨e1,e2,e3⟩:=tk_y hB
  rw [e1,e2,e3,hB]
  clear h e1 e2 e3
  haveI stop:∀ (ops:Array Oper) (c:Code) (t:List (Nat×AV)) (o:Sto) (Q:Exit->AS->Prop),Rz (AW lim Tryz.prog (.seq (.region 9 ops true) c) ⟨45,t,o⟩ Q) (MV 0 (p:=⟨AW lim Tryz.prog (.seq (.region 9 ops true) c) ⟨45,t,o⟩ Q⟩)):=fun _ _ _ _ _=>⟨fun h=>h⟩
  (refine vK ?_;with_reducible repeat' first|exact Le.l|apply Sw|intro h)
  refine aaA 0 ?_
  refine AW.seq ?_
  clear stop
  refine AW.anyI (TkJ s w b1 b2) [0,3,4,7] (tkP (tk8 s w) tkZ b1 b2) (by simp (maxSteps:=2000000) (disch:=omega) only [go_sem];simp [List.take_of_length_le]) (by kernel_rfl) ?_ ?_ ?_
  ·unfold TkJ aaa
   exact ⟨0,[0,1],0,by decide,by decide,trivial,by kernel_rfl,by kernel_rfl,by kernel_rfl⟩
  ·intro l s' h
   obtain ⟨rfl,_,_,rfl⟩:=aaa.last h 511 (by kernel_rfl)
   refine ⟨by kernel_rfl,?_⟩
   simp only [tkA,aab,List.filterMap_cons,List.filterMap_nil,Nat.reduceAnd,Nat.reduceBEq,beq_self_eq_true,Bool.and_self,Bool.true_and,Bool.and_true,Bool.and_false,Bool.false_and,cond_true,cond_false,List.append_nil,List.cons_append,List.nil_append]
   simp (maxSteps:=2000000) (disch:=omega) only [go_sem]
   all_goals exact uU
  ·intro f l s' h
   obtain ⟨m,rs,b,hm,h2,hs,hf,rfl,rfl⟩:=h
   obtain rfl:f=9 - pcA 9 m - 1:=by omega
   refine ⟨rs,?_⟩
   simp only [aaq,List.mem_cons,List.not_mem_nil,or_false,Prod.mk.injEq] at hm
   rcases hm with ⟨rfl,rfl⟩|⟨rfl,rfl⟩|⟨rfl,rfl⟩|⟨rfl,rfl⟩|⟨rfl,rfl⟩|⟨rfl,rfl⟩|⟨rfl,rfl⟩|⟨rfl,rfl⟩|⟨rfl,rfl⟩|⟨rfl,rfl⟩|⟨rfl,rfl⟩|⟨rfl,rfl⟩|⟨rfl,rfl⟩|⟨rfl,rfl⟩|⟨rfl,rfl⟩
   all_goals first|(exfalso;revert hf;decide)|refine ⟨by kernel_rfl,by simp,?_⟩
   all_goals clear hf h2
   all_goals simp only [allI,tkA,tkO,tkP,aab,List.filterMap_cons,List.filterMap_nil,Nat.reduceAnd,Nat.reduceBEq,beq_self_eq_true,Bool.and_self,Bool.true_and,Bool.and_true,Bool.and_false,Bool.false_and,cond_true,cond_false,List.append_nil,List.cons_append,List.nil_append]
   all_goals (refine vN ?_;with_reducible repeat' first|exact Le.l|apply Sw|intro h)
   all_goals exact aaa.next (b:=b) (by decide) (by decide) (by kernel_rfl) (by kernel_rfl) (by kernel_rfl) hs (by simp (disch:=omega) only [go_sem,Nat.reducePow,Nat.reduceOr,Nat.reduceAnd,Nat.reduceBEq])
 ·intro f l s' h
  obtain ⟨m,rs,b,hm,h2,hs,hf,rfl,rfl⟩:=h
  obtain rfl:f=13 - pcA 13 m - 1:=by omega
  refine ⟨rs,?_⟩
  simp only [aap,List.mem_cons,List.not_mem_nil,or_false,Prod.mk.injEq] at hm
  rcases hm with ⟨rfl,rfl⟩|⟨rfl,rfl⟩|⟨rfl,rfl⟩|⟨rfl,rfl⟩|⟨rfl,rfl⟩|⟨rfl,rfl⟩|⟨rfl,rfl⟩|⟨rfl,rfl⟩|⟨rfl,rfl⟩|⟨rfl,rfl⟩|⟨rfl,rfl⟩|⟨rfl,rfl⟩|⟨rfl,rfl⟩|⟨rfl,rfl⟩|⟨rfl,rfl⟩|⟨rfl,rfl⟩|⟨rfl,rfl⟩|⟨rfl,rfl⟩|⟨rfl,rfl⟩|⟨rfl,rfl⟩|⟨rfl,rfl⟩|⟨rfl,rfl⟩|⟨rfl,rfl⟩|⟨rfl,rfl⟩|⟨rfl,rfl⟩|⟨rfl,rfl⟩|⟨rfl,rfl⟩|⟨rfl,rfl⟩|⟨rfl,rfl⟩|⟨rfl,rfl⟩|⟨rfl,rfl⟩|⟨rfl,rfl⟩|⟨rfl,rfl⟩|⟨rfl,rfl⟩|⟨rfl,rfl⟩|⟨rfl,rfl⟩|⟨rfl,rfl⟩|⟨rfl,rfl⟩
  all_goals first|(exfalso;revert hf;decide)|refine ⟨by kernel_rfl,by simp,?_⟩
  all_goals clear hf h2
  all_goals simp only [allI,tkA,tkO,tkP,aab,List.filterMap_cons,List.filterMap_nil,Nat.reduceAnd,Nat.reduceBEq,beq_self_eq_true,Bool.and_self,Bool.true_and,Bool.and_true,Bool.and_false,Bool.false_and,cond_true,cond_false,List.append_nil,List.cons_append,List.nil_append]
  all_goals (refine vN ?_;with_reducible repeat' first|exact Le.l|apply Sw|intro h)
  all_goals exact aaa.next (b:=b) (by decide) (by decide) (by kernel_rfl) (by kernel_rfl) (by kernel_rfl) hs (by simp (disch:=omega) only [go_sem,Nat.reducePow,Nat.reduceOr,Nat.reduceAnd,Nat.reduceBEq])
end
end Go.Proofs
