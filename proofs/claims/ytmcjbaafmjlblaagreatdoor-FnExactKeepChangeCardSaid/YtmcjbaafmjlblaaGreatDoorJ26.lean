/- A part. -/
import Derived.Test.YtmcjbaafmjlblaaGreatDoorJ24
set_option linter.all false
set_option maxRecDepth 20000
set_option maxHeartbeats 4000000
namespace Go.Proofs
open Go.Ab Go.Dt
section
attribute [local go_sem] ba aI cU cT
theorem u4(l:List ag)(n:Str):Ctr lim Tryz.prog 203 [] [.sl false 19 (l.map (ak false)),.str n] (.tup [ak false (at_ l (idx (ed n) l).toNat),.v (.bool true)]) [] (0<=idx (ed n) l):=by
 refine Ctr.bd Tryz.func203 Tryz.ntmps203 rfl rfl fun hp=>?_
 have gOn:=bA.on
 refine AW.fact 0 fun hf=>?_
 simp (disch:=omega) only [go_sem] at hf
 (refine bU ?_;with_reducible repeat' first|exact Le.l|apply Sw|intro h)
 refine AW.aA [10] [1,4,8,9] (fun m xs o=>∃ k:Nat,xs=[.v (.int .i64 k)]/\o=[(h,some cZe)]/\m=l.length - k/\k<=l.length/\∀ x∈l.take k,ed n x=false) l.length [(h,some cZe)] gO ⟨0,rfl,rfl,rfl,by omega,by simp⟩ ?_
 rintro m xs o ⟨k,rfl,rfl,rfl,hk,hR⟩
 (refine vU ?_;with_reducible repeat' first|exact Le.l|apply Sw|intro h)
 ·rw [kI (p:=ed n) (by assumption) hR (by simp [ed];grind)];try rfl
 ·exact ⟨_,[_],_,by omega,⟨k+1,rfl,rfl,rfl,by omega,bJ (by assumption) hR (by simp [ed];grind)⟩,rfl,by simp (maxSteps:=2000000) (disch:=omega) only [go_sem]⟩
 ·exact absurd hp (by rw [nL (by assumption) hR];decide)
theorem Ex(l:List ag)(n:Str):Ctr lim Tryz.prog 203 [] [.sl false 19 (l.map (ak false)),.str n] (.tup [.agg cZe,.v (.bool false)]) [] (idx (ed n) l<0):=by
 refine Ctr.bd Tryz.func203 Tryz.ntmps203 rfl rfl fun hp=>?_
 have gOn:=bA.on
 refine AW.fact 0 fun hf=>?_
 simp (disch:=omega) only [go_sem] at hf
 (refine bU ?_;with_reducible repeat' first|exact Le.l|apply Sw|intro h)
 refine AW.aA [10] [1,4,8,9] (fun m xs o=>∃ k:Nat,xs=[.v (.int .i64 k)]/\o=[(h,some cZe)]/\m=l.length - k/\k<=l.length/\∀ x∈l.take k,ed n x=false) l.length [(h,some cZe)] gO ⟨0,rfl,rfl,rfl,by omega,by simp⟩ ?_
 rintro m xs o ⟨k,rfl,rfl,rfl,hk,hR⟩
 (refine vU ?_;with_reducible repeat' first|exact Le.l|apply Sw|intro h)
 ·exact absurd hp (by rw [kI (p:=ed n) (by assumption) hR (by simp [ed];grind)];omega)
 ·exact ⟨_,[_],_,by omega,⟨k+1,rfl,rfl,rfl,by omega,bJ (by assumption) hR (by simp [ed];grind)⟩,rfl,by simp (maxSteps:=2000000) (disch:=omega) only [go_sem]⟩
theorem Gk:∀ (n:Nat) (l:List ag) (r:Int),Ctr lim Tryz.prog 162 [] [.sl false 19 (l.map (ak false)),.v (.int .i64 r)] (.v (.int .i64 (fw l (r - l.length)))) [] (SizeOf.sizeOf l<n/\bE l<=1048576/\0<=r/\r<=1048576)
 | 0,l,r=>⟨(aM 162),fun h=>absurd h.1 (Nat.not_lt_zero _)⟩
 | n+1,l,r=>by
  have ih:=Gk n
  refine Ctr.bd Tryz.func162 Tryz.ntmps162 rfl rfl fun hp=>?_
  have hl:=mq l
  (refine vU ?_;with_reducible repeat' first|exact Le.l|apply Sw|intro h)
  refine AW.aA [1,5] [0] (fun m xs o=>∃ (k:Nat) (q:Int),xs=[.v (.int .i64 q),.v (.int .i64 k)]/\o=[]/\m=l.length - k/\k<=l.length/\-4611686018427387904<=q/\q<=1048576/\fw (l.drop k) q=fw l (r - l.length)) l.length [] trivial ⟨0,r - l.length,?_,rfl,rfl,?_,?_,?_,rfl⟩ ?_
  ·rfl
  ·omega
  ·omega
  ·omega
  rintro m xs o ⟨k,q,rfl,rfl,rfl,hk,h0,h1,hR⟩
  have hw:k<l.length->SizeOf.sizeOf (at_ l k).af<n/\bE (at_ l k).af<=1048576:=fun h=>by
   have:=qj (at_mem h);have:=ag.cd (at_mem h);omega
  have h2:=mq (at_ l k).af
  have h3:=xZ (at_ l k).af (q - (at_ l k).af.length)
  (refine vU ?_;with_reducible repeat' first|exact Le.l|apply Sw|intro h)
  ·have h4:-4611686018427387904<=fw (at_ l k).af (q - (at_ l k).af.length):=yc _ _ (by have:=hw h.1;omega) (by have:=hw h.1;omega)
   refine ⟨_,[_,_],[],by omega,⟨k+1,_,rfl,rfl,rfl,by omega,h4,by omega,?_⟩,rfl,trivial⟩
   rw [<- hR,Ml h.1,if_neg (by omega)]
  ·rw [<- hR]
   by_cases e:k<l.length
   ·rw [oq _ (h e)]
   ·rw [dh e,fw]
instance XN(l:List ag)(r:Int):Ctr lim Tryz.prog 162 [] [.sl false 19 (l.map (ak false)),.v (.int .i64 r)] (.v (.int .i64 (fw l (r - l.length)))) [] (bE l<=1048576/\0<=r/\r<=1048576):=⟨(aM 162),fun c=>(Gk (SizeOf.sizeOf l+1) l r).out ⟨Nat.lt_succ_self _,c⟩⟩
instance VU(l:List Str):Ctr lim Tryz.prog 243 [] [.sl false 1 (l.map AV.str)] (.v (.bool (cn l && decide (l.length<=3)))) [] True:=by
 refine Ctr.bd Tryz.func243 Tryz.ntmps243 rfl rfl fun hp=>?_
 have gOn:=bA.on
 refine AW.fact 0 fun hf=>?_
 simp (disch:=omega) only [go_sem] at hf
 (refine vU ?_;with_reducible repeat' first|exact Le.l|apply Sw|intro h)
 refine AW.aA [3] [0] (fun m xs o=>∃ k:Nat,xs=[.v (.int .i64 k)]/\o=[]/\m=l.length - k/\k<=l.length/\cO (fun j=>!cont (l.take j) (at_ l j)) k=true) l.length [] trivial ⟨0,?_,rfl,rfl,?_,rfl⟩ ?_
 ·rfl
 ·omega
 rintro m xs o ⟨k,rfl,rfl,rfl,hk,hQ⟩
 refine vO ?_;intros;refine AW.c (fun h=>?_) fun h=>?_
 ·(refine vK ?_;with_reducible repeat' first|exact Le.l|apply Sw|intro h)
  refine AW.aA [4] [0,3] (fun m xs o=>∃ j:Nat,xs=[.v (.int .i64 j)]/\o=[]/\m=k - j/\j<=k/\∀ y∈(l.take k).take j,(y == at_ l k)=false) k [] trivial ⟨0,?_,rfl,rfl,?_,?_⟩ ?_
  ·rfl
  ·omega
  ·simp
  rintro m xs o ⟨j,rfl,rfl,rfl,hj,hS⟩
  (refine vU ?_;with_reducible repeat' first|exact Le.l|apply Sw|intro h)
  ·rw [show cn l=false from dU (by assumption) (by rw [tF (by assumption) (by assumption) h];try rfl)];try rfl
  ·exact ⟨_,[_],[],by omega,⟨j+1,rfl,rfl,rfl,by omega,bJ (by rw [List.length_take];omega) hS (by rw [Bp (by assumption)];simpa using h)⟩,rfl,trivial⟩
  ·rw [show j=k by omega,List.take_take,Nat.min_self] at hS
   exact ⟨_,[_],[],by omega,⟨k+1,rfl,rfl,rfl,by omega,dA hQ (by rw [qN hS];try rfl)⟩,rfl,trivial⟩
 ·(refine vU ?_;with_reducible repeat' first|exact Le.l|apply Sw|intro h)
  rw [show k=l.length by omega] at hQ
  rw [show cn l=true from hQ,Bool.true_and,show decide ((l.length:Int)<=3)=decide (l.length<=3) from decide_eq_decide.2 (by omega)]
end
section
instance TQ(x:dx)(s:Str):Ctr lim Tryz.prog 204 [] [.agg [.v (.int .i64 x.ai),.sl false 2 (x.aB.map (aR false)),.sl false 1 (x.ax.map AV.str),.str x.aW,.str x.aE],.str s] (.v (.bool (isVal x s))) [] (s.length<=1048576):=by
 refine Ctr.bd Tryz.func204 Tryz.ntmps204 rfl rfl fun hp=>?_
 (refine vU ?_;with_reducible repeat' first|exact Le.l|apply Sw|intro h)
 all_goals first|rfl|(rw [isVal];done)
instance Tr(x:dx)(s:Str):Ctr lim Tryz.prog 189 [] [.agg [.v (.int .i64 x.ai),.sl false 2 (x.aB.map (aR false)),.sl false 1 (x.ax.map AV.str),.str x.aW,.str x.aE],.str s] (.v (.bool (isVal x s))) [] (s.length<=1048576):=by
 refine Ctr.bd Tryz.func189 Tryz.ntmps189 rfl rfl fun hp=>?_
 (refine vU ?_;with_reducible repeat' first|exact Le.l|apply Sw|intro h)
 all_goals first|rfl|(rw [isVal];done)
end
end Go.Proofs
namespace Go.Dt
open Go Go.Ab
theorem jo{α:Type}(l:List α):l.isEmpty=decide (l.length=0):=by cases l<;>simp
section
variable {x : ag}
theorem LJ(h:(((((((¬x.ai=3/\¬x.ai=4)/\lW x.fType=false\/¬x.ai=2/\0<((x.aw.length+x.aD.length:Nat):Int))\/¬x.ai=3/\((¬x.bh=[]\/x.cm=true)\/x.dF=true))\/(¬x.ai=3/\¬x.ai=5)/\x.cC=true)\/¬x.ai=1/\x.bF=true)\/(¬x.ai=2/\¬x.ai=4)/\(¬x.gF=0\/¬x.gG=0))\/di x.ai=false/\0<(x.bY.length:Int))\/(x.ai=3\/x.ai=4)/\0<(x.af.length:Int)):ju x=false:=by
 rw [ju,dX,jo x.aw,jo x.aD,jo x.bY,jo x.af]
 rcases h with ((((((h|h)|h)|h)|h)|h)|h)|h<;>grind
theorem Jt(h:(((((((¬x.ai=3/\¬x.ai=4->lW x.fType=true)/\(¬x.ai=2->((x.aw.length+x.aD.length:Nat):Int)<=0))/\(¬x.ai=3->(x.bh=[]/\x.cm=false)/\x.dF=false))/\(¬x.ai=3/\¬x.ai=5->x.cC=false))/\(¬x.ai=1->x.bF=false))/\(¬x.ai=2/\¬x.ai=4->x.gF=0/\x.gG=0))/\(di x.ai=false->(x.bY.length:Int)<=0))/\(x.ai=3\/x.ai=4->(x.af.length:Int)<=0)):ju x=true:=by
 rw [ju,dX,jo x.aw,jo x.aD,jo x.bY,jo x.af]
 obtain ⟨⟨⟨⟨⟨⟨⟨h1,h2⟩,h3⟩,h4⟩,h5⟩,h6⟩,h7⟩,h8⟩:=h
 simp only [Bool.and_eq_true,Bool.or_eq_true,decide_eq_true_eq,Bool.not_eq_true']
 refine ⟨⟨⟨⟨⟨⟨⟨?_,?_⟩,?_⟩,?_⟩,?_⟩,?_⟩,?_⟩,?_⟩<;>grind
theorem Uq(n:Nat):decide (1<=(n:Int))=decide (1<=n):=decide_eq_decide.2 (by omega)
theorem Oe(n:Nat):decide ((n:Int)<=3)=decide (n<=3):=decide_eq_decide.2 (by omega)
theorem We(h:x.ai=1\/x.ai=5\/x.ai=6):true=gT x:=by rw [gT,if_pos h]
theorem Wj(h:x.ai=2):(decide (1<=(x.aw.length:Int)) && decide ((x.aw.length:Int)<=3) && cn x.aw && names x.aw && decide ((x.aD.length:Int)<=3) && cn x.aD && names x.aD && mX x)=gT x:=by
 rw [gT,if_neg (by omega),if_pos h,Uq,Oe,Oe]
theorem Wi(h:x.ai=3):(isType j8 x.fType && !(x.cm && (x.cC || decide (0<(x.bz.length:Int)))) && (x.cm && isVal x.fType x.bh || !x.cm && x.bh == []))=gT x:=by
 rw [gT,if_neg (by omega),if_neg (by omega),if_pos h,qi,py,kK];rfl
theorem Wh(h:x.ai=4):(isType j8 x.fType && mX x)=gT x:=by
 rw [gT,if_neg (by omega),if_neg (by omega),if_neg (by omega),if_pos h];rfl
theorem Wg(h:x.ai=7):((x.bz.length:Int) == 0 && (x.af.length:Int) == 0)=gT x:=by
 rw [gT,if_neg (by omega),if_neg (by omega),if_neg (by omega),if_neg (by omega),if_pos h,jv,jv]
theorem Wf(h1:¬ x.ai=1)(h5:¬ x.ai=5)(h6:¬ x.ai=6)(h2:¬ x.ai=2)(h3:¬ x.ai=3)(h4:¬ x.ai=4)(h7:¬ x.ai=7):false=gT x:=by
 rw [gT,if_neg (by omega),if_neg h2,if_neg h3,if_neg h4,if_neg h7]
end
end Go.Dt
namespace Go.Proofs
open Go.Ab Go.Dt
attribute [local go_sem] ba aI cU cT
instance WB(x:ag):Ctr lim Tryz.prog 202 [] [.agg (cSc x)] (.v (.bool (j0 x))) [] (dH x.bz<=1048576/\dH x.bY<=1048576/\x.bh.length<=1048576):=by
 refine Ctr.bd Tryz.func202 Tryz.ntmps202 rfl rfl fun hp=>?_
 have gOn:=bA.on
 obtain ⟨hw,hm,hd⟩:=hp
 refine AW.fact 0 fun hf=>?_
 simp (disch:=omega) only [go_sem] at hf
 have hfk:x.aw.length+x.aD.length<=4294967296000:=by omega
 clear hf
 refine vO ?_;intros;refine AW.c (fun h=>?_) fun h=>?_
 ·(refine vU ?_;with_reducible repeat' first|exact Le.l|apply Sw|intro h)
  refine congrArg (fun b=>AV.v (.bool b)) ?_
  rw [j0,ml];grind
 have hbase:ml x=true:=by rw [ml];grind
 clear h
 (refine vN ?_;with_reducible repeat' first|exact Le.l|apply Sw|intro h)
 refine Z ?_
 intro K hK
 simp only [List.append_eq,List.cons_append,List.nil_append]
 (refine vN ?_;with_reducible repeat' first|exact Le.l|apply Sw|intro h)
 refine AW.c (fun h=>?_) fun h=>?_
 ·(refine vU ?_;with_reducible repeat' first|exact Le.l|apply Sw|intro h)
  refine congrArg (fun b=>AV.v (.bool b)) ?_
  rw [j0,hbase,Bool.true_and,LJ h];try rfl
 have hsh:=Jt h
 clear h
 (refine vU ?_;with_reducible repeat' first|exact Le.l|apply Sw|intro h)
 all_goals refine congrArg (fun b=>AV.v (.bool b)) ?_
 all_goals rw [j0,hbase,hsh,Bool.true_and,Bool.true_and]
 all_goals first|exact We (by omega)|exact Wj (by assumption)|exact Wi (by assumption)|exact Wh (by assumption)|exact Wg (by assumption)|exact Wf (by assumption) (by assumption) (by assumption) (by assumption) (by assumption) (by assumption) (by assumption)
end Go.Proofs
namespace Go.Dt
open Go Go.Ab
section
variable {l : List ag} {k : Nat} {kind : Int} {bd : Bool} {x : ag}
theorem CQ(h:k<l.length)(hR:kA (l.drop k) kind bd=kA l kind bd)(e:iE kind bd (at_ l k)=false):kR l kind bd=false:=by
 rw [Ij h,e] at hR;rw [kR,<- hR];simp
theorem Rk(h:k<l.length)(hR:kA (l.drop k) kind bd=kA l kind bd)(e:kR (at_ l k).af (at_ l k).ai (bd || !(at_ l k).bz.isEmpty || decide ((at_ l k).ai=6))=false):kR l kind bd=false:=by
 rw [Ij h] at hR;rw [kR] at e;rw [kR,<- hR,e];simp
theorem PA(h:k<l.length)(hR:kA (l.drop k) kind bd=kA l kind bd)(e1:iE kind bd (at_ l k)=true)(e2:kR (at_ l k).af (at_ l k).ai (bd || !(at_ l k).bz.isEmpty || decide ((at_ l k).ai=6))=true):kA (l.drop (k+1)) kind bd=kA l kind bd:=by
 rw [Ij h,e1] at hR;rw [kR] at e2;rw [<- hR,e2];simp
theorem Rm(hd:kg l kind=true)(h:¬ k<l.length)(hR:kA (l.drop k) kind bd=kA l kind bd):kR l kind bd=true:=by
 rw [dh h,kA] at hR;rw [kR,<- hR,hd];rfl
theorem GD{j:Nat}(h:j<x.aw.length)(e:nJ x.af (at_ x.aw j)=false):iE kind bd x=false:=by
 rw [iE,iL h e];simp
theorem O4{j:Nat}(h:j<x.aD.length)(e:qU x.af (at_ x.aD j)=false):iE kind bd x=false:=by
 rw [iE,iL h e];simp
theorem O3{i j:Nat}(e:(j0 x && !decide (x.ai=7) && (decide (x.ai=6) == decide (kind=5)) && !(x.cm && bd))=true)(h1:¬ i<x.aw.length)(e1:∀ y∈x.aw.take i,(!nJ x.af y)=false)(h2:¬ j<x.aD.length)(e2:∀ y∈x.aD.take j,(!qU x.af y)=false):iE kind bd x=true:=by
 rw [iE,e,eA h1 e1,eA h2 e2];rfl
theorem QY(e:(j0 x && !decide (x.ai=7) && (decide (x.ai=6) == decide (kind=5)) && !(x.cm && bd))=false):iE kind bd x=false:=by
 rw [iE,e];rfl
end
end Go.Dt
