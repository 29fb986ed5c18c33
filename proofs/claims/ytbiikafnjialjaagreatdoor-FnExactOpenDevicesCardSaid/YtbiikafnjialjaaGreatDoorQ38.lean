/- Part of a proof. -/
import Derived.Test.YtbiikafnjialjaaGreatDoorQ19
import Derived.Test.YtbiikafnjialjaaGreatDoorQ34
import Derived.Test.YtbiikafnjialjaaGreatDoorQ36
set_option linter.all false
set_option maxRecDepth 20000
set_option maxHeartbeats 4000000
open Go.Proofs.Tryz
open List
namespace Go.Dt
open Go Go.Ab
section
abbrev dW:=(Int×ah)×List Value
@[go_sem] def rkC(r:dW):List AV:=[.v (.int .i64 r.1.1),.str r.1.2.ae,.str r.1.2.aq,.pin ((r.2[3]?).getD undef) (.sl false 3 (r.1.2.af.map (ai false)))]
def rws(l:List dW):List AV:=l.flatMap rkC
def uI(a b:List dW):rws (a++b)=rws a++rws b:=flatMap_append
def mT(a:dW)(b:List dW):rws (a::b)=rkC a++rws b:=flatMap_cons
def SP:rws []=[]:=rfl
def uH(l:List dW):(rws l).length=l.length * 4:=by
 induction l with
 | nil=>rfl
 | cons x l ih=>rw[mT,length_append,ih,length_cons];simp only[rkC,length_cons,length_nil];omega
def SN{l:List dW}{i:Nat}(h:i<l.length):rws l=rws (l.take i)++(rkC (at_ l i)++rws (l.drop (i+1))):=by rw[<- mT,<- bT h,<- uI,take_append_drop]
def SrQ(b:Nat)(R:List dW->Prop)(res:AV)(os:Sto):Prop:=∃l,res=.tup []/\os=[(b,some (rws l))]/\R l
instance{os:Sto}{b:Nat}{c:Option (List AV)}{R:List dW->Prop}{K:AV->Sto->Prop}:Rl (GK os [(b,c)] (SrQ b R) (K:=⟨K⟩)) (∀l,R l->K (.tup []) (mergeO os [(b,some (rws l))])) :=
 ⟨λk=>by rintro res os' ⟨l,rfl,rfl,h⟩;exact⟨rfl,k l h⟩⟩
def EndsG.sr{L:gaa}{P:Program}{n:Nat}{fn:Func}{t:faa}{o:Sto}{b:Nat}{R:List dW->Prop}(l:List dW)(hr:fn.results=#[])(h:R l)(ho:j5 [(b,some (rws l))] o):EndsG L P fn ⟨n,t,o⟩ (SrQ b R) :=
 EndsG.fq (rs:=[]) hr ⟨l,rfl,rfl,h⟩ ⟨rfl,ho⟩
def ada(d:List ag):AV:=.vp [.sl false 19 (d.map (ak false))]
attribute [go_sem] ada
def cfV(d:List ag)(a b:dW):Int:=cfR d a.1 b.1
def ltV(d:List ag)(a b:dW):Bool:=ltR d a.1 b.1
def yN(d:List ag):Orr (ltV d):=⟨λx y=>(Dk d).IJ x.1 y.1,λx y z=>(Dk d).trn x.1 y.1 z.1⟩
def oR(d:List ag)(a b:dW):ltV d a b=decide (cfV d a b<0):=rfl
def jS(d:List ag)(r:dW):Prop:=0<=r.1.1/\r.1.1<d.length/\d.length<=1048576
end
def rN{l:List dW}{k:Nat}(h:k<l.length):l.drop k=at_ l k::l.drop (k+1):=bT h
def vD{l:List dW}{k:Nat}(h:k<l.length):l.take (k+1)=l.take k++[at_ l k]:=by rw[take_succ_eq_append_getElem h];unfold at_;rw[getElem?_eq_getElem h];rfl
def Sx{A X M Y C:List dW}{t:Nat}(hX:t<X.length)(hY:t<Y.length):∃p m q,
  rws (A++(Y.take t++(X.drop t++(M++(X.take t++(Y.drop t++C))))))=p++(rkC (at_ X t)++(m++(rkC (at_ Y t)++q))) /\
  rws (A++(Y.take (t+1)++(X.drop (t+1)++(M++(X.take (t+1)++(Y.drop (t+1)++C))))))=p++(rkC (at_ Y t)++(m++(rkC (at_ X t)++q))) /\
  p.length=(A.length+t) * 4/\m.length=(X.length+M.length - 1) * 4:=by
 refine⟨rws (A++Y.take t),rws (X.drop (t+1)++(M++X.take t)),rws (Y.drop (t+1)++C),?_,?_,?_,?_⟩
 ·rw[rN hX,rN hY];simp only[uI,mT,append_assoc,cons_append]
 ·rw[vD hX,vD hY];simp only[uI,mT,SP,append_assoc,append_nil]
 ·rw[uH,length_append,length_take];omega
 ·rw[uH,length_append,length_append,length_take,length_drop];omega
def BI(P S:List dW)(x y:dW):∃p q,rws (P++(x::y::S))=p++(rkC x++(rkC y++q))/\rws (P++(y::x::S))=p++(rkC y++(rkC x++q))/\p.length=P.length * 4 :=
 ⟨rws P,rws S,by simp only[uI,mT],by simp only[uI,mT],uH P⟩
def DR{i j:Int}(h:0<=i)(hij:i<j):i<=(i+j) / 2/\(i+j) / 2<j:=by omega
@[go_sem] def ady{a:Int}:Ld .u64 a 1=a / 2:=by unfold Ld;rw[show (2:Int) ^ min (1:Int).toNat IntKind.u64.bits=2 from rfl,Int.fdiv_eq_ediv_of_nonneg _ Yt]
@[go_sem] def Z6{n:Int}(h1:0<=n)(h2:n<18446744073709551616):IntKind.u64.wrap n=n:=by unfold IntKind.wrap;simp[IntKind.signed,IntKind.bits];omega
def CI{p q:List AV}{n:Nat}(h:p.length<=n):(p++q).drop n=q.drop (n - p.length):=by rw[drop_append,drop_eq_nil_of_le h,nil_append]
def CH{q:List AV}{n:Nat}(h:n=0):q.drop n=q:=by rw[h];rfl
def CJ{x:AV}{q:List AV}{n:Nat}(h:0<n):(x::q).drop n=q.drop (n - 1):=by
 obtain⟨k,rfl⟩:∃k,n=k+1:=⟨n - 1,Yt⟩
 rfl
def BB{p q:List AV}{n:Nat}(h:p.length<=n):(p++q).take n=p++q.take (n - p.length):=by rw[take_append,take_of_length_le h]
def BA{q:List AV}{n:Nat}(h:n=0):q.take n=[]:=by rw[h];rfl
def BC{x:AV}{q:List AV}{n:Nat}(h:0<n):(x::q).take n=x::q.take (n - 1):=by
 obtain⟨k,rfl⟩:∃k,n=k+1:=⟨n - 1,Yt⟩
 rfl
def EH:∀(a b:List AV),AV.iT (a++b)=AV.iT a++AV.iT b
 | [],b=>rfl
 | x::a,b=>by rw[cons_append,AV.iT,AV.iT,EH a b,append_assoc]
@[go_sem] def abD(l:List dW):AV.iT (rws l)=[]:=by
 induction l with
 | nil=>rfl
 | cons x l ih=>rw[mT,EH,ih];rfl
def BV{l:List dW}{t:Nat}(h:t<l.length):(rws l).drop (t * 4)=rkC (at_ l t)++rws (l.drop (t+1)):=by rw[SN h,drop_append,drop_eq_nil_of_le (by rw[uH,length_take];omega),nil_append,uH,length_take,show t * 4 - min t l.length * 4=0 by rw[Nat.min_eq_left Yt];omega];rfl
@[go_sem] def adV:((1:Int)<0)=False:=by simp
end Go.Dt
namespace Go.Proofs
open Go.Ab Go.Dt
theorem ZR(d:List ag)(x y:Int×ah):Ctr lim prog 200 [] [.agg [.aa x.1,.str x.2.ae,.str x.2.aq,.ab 3 ai x.2.af],.agg [.aa y.1,.str y.2.ae,.str y.2.aq,.ab 3 ai y.2.af],.vp [.ab 19 ak d]] (.aa (cfR d x y)) [] ((0<=x.1/\x.1<d.length/\d.length<=1048576)/\(0<=y.1/\y.1<d.length)):=by
 refine Ctr.bd func200 ntmps200 λhp=>?_;have gOn:=bM.on;obtain⟨⟨h1,h2,h3⟩,h4,h5⟩:=hp
 (refine vU2 ?_ ?_<;>intro h)
 ·rw[cfR,if_neg Yt]
 ·rw[cfR,if_pos Yt]
instance(d:List ag)(x y:dW):Ctr lim prog 200 [] [.agg [.aa x.1.1,.str x.1.2.ae,.str x.1.2.aq,.pin ((x.2[3]?).getD undef) (.ab 3 ai x.1.2.af)],.agg [.aa y.1.1,.str y.1.2.ae,.str y.1.2.aq,.pin ((y.2[3]?).getD undef) (.ab 3 ai y.1.2.af)],.vp [.ab 19 ak d]] (.aa (cfV d x y)) [] (jS d x/\jS d y) :=
 Ctr.ld (aU 200) λhp=>gF.pins ((ZR d x.1 y.1).pure ⟨hp.1,hp.2.1,hp.2.2.1⟩) λF w vs hr=>by
  simp only[au]at hr ⊢;obtain⟨y1,v1,f1,g1,rfl,e1,h1,y2,v2,f2,g2,rfl,e2,h2,r⟩:=hr;refine⟨y1,_,f1,g1,rfl,e1,?_,y2,_,f2,g2,rfl,e2,?_,r⟩
  ·simp only[Rep]at h1 ⊢;obtain⟨us,e,h⟩:=h1;exact⟨us,e,by simpa only[jd,AV.unp]using h.unp⟩
  ·simp only[Rep]at h2 ⊢;obtain⟨us,e,h⟩:=h2;exact⟨us,e,by simpa only[jd,AV.unp]using h.unp⟩
section
attribute [local go_sem] CI CH CJ BB BA BC
theorem Py(d:List ag)(b:Nat)(la lx lm ly lc:List dW)(n:Nat)(i j k:Int):Ctr lim prog 342 [(b,some (rws (la++(lx++(lm++(ly++lc))))))] [.arr b 0 n 4,.aa i,.aa j,.aa k,.fn 200 [.vp [.ab 19 ak d]]] (.tup []) [some (rws (la++(ly++(lm++(lx++lc)))))] (n=la.length+lx.length+lm.length+ly.length+lc.length/\i=la.length/\j=la.length+lx.length+lm.length/\k=lx.length/\lx.length=ly.length/\n<=1048576):=by
 refine Ctr.bd func342 ntmps342 λhp=>?_;have gOn:=bM.on;obtain⟨hn,hi,hj,hk,hXY,hb⟩:=hp;refine vU1 ?_;refine AW.aw [10] [0,1,2,3,4] (λm xs o=>∃t:Nat,xs=[.aa t]/\o=[(b,some (rws (la++(ly.take t++(lx.drop t++(lm++(lx.take t++(ly.drop t++lc))))))))]/\m=lx.length - t/\t<=lx.length) lx.length [(b,some (rws (la++(lx++(lm++(ly++lc))))))] (aF rfl) ⟨0,?_,?_,rfl,?_⟩ ?_
 ·rfl
 ·simp
 ·omega
 rintro m xs o ⟨t,rfl,rfl,rfl,ht⟩;refine vK1 ?_;refine AW.c (λh=>?_) λh=>?_
 ·obtain⟨p,mm,q,e1,e2,hp1,hp2⟩:=Sx (A:=la) (X:=lx) (M:=lm) (Y:=ly) (C:=lc) (t:=t) Yt Yt;rw[e1];simp only[rkC]at e1 e2 ⊢
  repeat refine Y ?_
  refine AW.pQ [(0,.arr b 0 n 4),(1,.aa i),(2,.aa j),(3,.aa k),(4,.fn 200 [.vp [.ab 19 ak d]]),(10,.aa t)] [(b,some (rws (la++(ly.take (t+1)++(lx.drop (t+1)++(lm++(lx.take (t+1)++(ly.drop (t+1)++lc))))))))] (jl.h (P:=prog)) (λK hK=>?_) ?_
  ·refine aD.fxs (fuel:=6) caa [0,1,2,3,4,5,6,7,8,9,10,11,12,14,15,16,17,18] caa ?_;refine gS ?_;refine⟨Yt,Yt,?_⟩;clear e1;refine aD.sp 5 [13,19] (gT ?_);refine And.intro ?_ ?_
   ·refine aD.sp 4 [19] (gT ?_);refine aD.sp 3 [20] (gT ?_);refine vN1 ?_;refine aD.sp 2 [21] (gT ?_);refine vN1 ?_;refine aD.sp 1 [22] (gT ?_);refine vN1 ?_;refine aD.sp 0 [23] (gT ?_);refine vN1 ?_;refine aD.ib [0,1,2,3,4,10] [(b,some (rws (la++(ly.take (t+1)++(lx.drop (t+1)++(lm++(lx.take (t+1)++(ly.drop (t+1)++lc))))))))] caa (aF ?_) ?_
    ·rw[e2];simp only[append_assoc,cons_append,nil_append]
     all_goals simp(maxSteps:=2000000) (disch:=omega)only[go_sem]
     all_goals simp only[append_assoc,cons_append,nil_append]
    ·refine gS ?_;exact hK
   ·refine aD.sp 4 [13] (gT ?_);refine aD.sp 3 [20] (gT ?_);refine vN1 ?_;refine aD.sp 2 [21] (gT ?_);refine vN1 ?_;refine aD.sp 1 [22] (gT ?_);refine vN1 ?_;refine aD.sp 0 [23] (gT ?_);refine vN1 ?_;refine aD.ib [0,1,2,3,4,10] [(b,some (rws (la++(ly.take (t+1)++(lx.drop (t+1)++(lm++(lx.take (t+1)++(ly.drop (t+1)++lc))))))))] caa (aF ?_) ?_
    ·rw[e2];simp only[append_assoc,cons_append,nil_append]
     all_goals simp(maxSteps:=2000000) (disch:=omega)only[go_sem]
     all_goals simp only[append_assoc,cons_append,nil_append]
    ·refine gS ?_;exact hK
  ·refine vK1 ?_;exact⟨_,[_],_,Yt,⟨t+1,rfl,rfl,rfl,Yt⟩,rfl,aF rfl⟩
 ·obtain rfl:t=lx.length:=by omega
  rw[hXY,take_length,drop_length,<- hXY,take_length,drop_length,nil_append,nil_append]
  all_goals exact uU
end
theorem abE(d:List ag)(b:Nat)(la lx ly lc:List dW)(n:Nat)(a m e:Int):Ctr lim prog 320 [(b,some (rws (la++(lx++(ly++lc)))))] [.arr b 0 n 4,.aa a,.aa m,.aa e,.fn 200 [.vp [.ab 19 ak d]]] (.tup []) [some (rws (la++(ly++(lx++lc))))] (n=la.length+lx.length+ly.length+lc.length/\a=la.length/\m=la.length+lx.length/\e=la.length+lx.length+ly.length/\0<lx.length/\0<ly.length/\n<=1048576):=by
 refine Ctr.bd func320 ntmps320 λhp=>?_;have gOn:=bM.on;obtain⟨hn,rfl,rfl,rfl,hX0,hY0,hb⟩:=hp;refine vU1 ?_;refine AW.aw [10,11] [0,2,4] (λm xs o=>∃(lp lx' ly' ls:List dW) (i j:Int),xs=[.aa i,.aa j]/\o=[(b,some (rws (la++(lp++(lx'++(ly'++(ls++lc)))))))]/\m=lx'.length+ly'.length/\i=lx'.length/\j=ly'.length/\0<lx'.length/\0<ly'.length/\lp++(ly'++(lx'++ls))=ly++lx/\lp.length+lx'.length=lx.length/\ly'.length+ls.length=ly.length) (lx.length+ly.length) [(b,some (rws (la++(lx++(ly++lc)))))] (aF rfl) ⟨[],lx,ly,[],_,_,rfl,rfl,rfl,?_,?_,hX0,hY0,?_,?_,?_⟩ ?_
 ·omega
 ·omega
 ·simp
 ·simp
 ·simp
 rintro k xs o ⟨lp,lx',ly',ls,i,j,rfl,rfl,rfl,hi,hj,hX,hY,hR,hPX,hYS⟩;refine vK1 ?_;refine AW.c (λh=>?_) λh=>?_
 ·refine vK1 ?_;refine AW.c (λh=>?_) λh=>?_
  ·obtain⟨x1,x2,rfl,hX1⟩:∃x1 x2,lx'=x1++x2/\x1.length=ly'.length:=⟨lx'.take ly'.length,lx'.drop ly'.length,(take_append_drop _ _).symm,by rw[length_take];omega⟩
   simp only[length_append]at hi hX hPX;rw[show rws (la++(lp++((x1++x2)++(ly'++(ls++lc)))))=rws ((la++lp)++(x1++(x2++(ly'++(ls++lc))))) by simp only[append_assoc]];have hsw:=λi j k=>Py d b (la++lp) x1 x2 ly' (ls++lc) n i j k;refine vK1 ?_;exact⟨_,[_,_],_,by(try simp only[length_append]);omega,⟨lp++ly',x2,x1,ls,_,_,rfl,rfl,rfl,Yt,Yt,Yt,Yt,by rw[<- hR];simp only[append_assoc],by simp only[length_append];omega,Yt⟩,rfl,aF (by simp only[append_assoc])⟩
  ·obtain⟨y1,y2,rfl,hY2⟩:∃y1 y2,ly'=y1++y2/\y2.length=lx'.length:=⟨ly'.take (ly'.length - lx'.length),ly'.drop (ly'.length - lx'.length),(take_append_drop _ _).symm,by rw[length_drop];omega⟩
   simp only[length_append]at hj hY hYS;rw[show rws (la++(lp++(lx'++((y1++y2)++(ls++lc)))))=rws ((la++lp)++(lx'++(y1++(y2++(ls++lc))))) by simp only[append_assoc]];haveI:=λi j k=>Py d b (la++lp) lx' y1 y2 (ls++lc) n i j k;refine vK1 ?_;exact⟨_,[_,_],_,by(try simp only[length_append]);omega,⟨lp,y2,y1,lx'++ls,_,_,rfl,rfl,rfl,Yt,Yt,Yt,Yt,by rw[<- hR];simp only[append_assoc],Yt,by simp only[length_append];omega⟩,rfl,aF (by simp only[append_assoc])⟩
 ·have hl:lx'.length=ly'.length:=by omega
  have hsw:=λi j k=>Py d b (la++lp) lx' [] ly' (ls++lc) n i j k;simp only[nil_append]at hsw
  have he:la++lp++(ly'++(lx'++(ls++lc)))=la++(ly++(lx++lc)):=by
   rw[<- append_assoc ly lx lc,<- hR];simp only[append_assoc]
  rw[he]at hsw;rw[show rws (la++(lp++(lx'++(ly'++(ls++lc)))))=rws ((la++lp)++(lx'++(ly'++(ls++lc)))) by simp only[append_assoc]]
  all_goals exact uU
section
attribute [local go_sem] CI CH CJ BB BA BC
theorem ab4(d:List ag)(b:Nat)(l:List dW)(n:Nat)(a e:Int):fC lim prog 294 [(b,some (rws l))] [.arr b 0 n 4,.aa a,.aa e,.fn 200 [.vp [.ab 19 ak d]]] (SrQ b (Part (ltV d) a.toNat e.toNat l)) (n=l.length/\0<=a/\a<=e/\e<=n/\n<=1048576/\∀r∈l,jS d r):=by
 refine fC.gb (aU 294) func294 rfl rfl λhp=>(?_);rw[ntmps294];have gOn:=bM.on;obtain⟨rfl,ha,hae,hen,hb,hrb⟩:=hp;obtain⟨la,lx,lc,rfl,hA,hX⟩:=Xp (l:=l) (a:=a.toNat) (b:=e.toNat) Yt Yt;have ho:=yN d;simp only[length_append]at hen hb;refine vK1 ?_;refine AW.aw [8] [0,1,2,3] (λm xs o=>∃(ls lr:List dW) (i:Int),xs=[.aa i]/\o=[(b,some (rws (la++(ls++(lr++lc)))))]/\m=lr.length/\(ls++lr).Perm lx/\Srt (ltV d) ls/\(i=la.length+ls.length\/(lr=[]/\la.length+ls.length<=i))) (lx.length - 1) [(b,some (rws (la++(lx++lc))))] (aF rfl) ?_ ?_
 ·have hA':a=la.length:=by omega
  rcases lx with _|⟨x,xs⟩
  ·exact⟨[],[],a+1,rfl,rfl,rfl,.refl _,Srt.nil,.inr ⟨rfl,by simp only[length_nil];omega⟩⟩
  ·exact⟨[x],xs,a+1,rfl,rfl,zH,.refl _,Srt.one _,.inl (by rw[hA'];rfl)⟩
 rintro m xs o ⟨ls,lr,i,rfl,rfl,rfl,hp,hs,hi⟩;have hpl:=hp.length_eq;simp only[length_append]at hpl;refine vK1 ?_;refine AW.c (λh=>?_) λh=>?_
 ·obtain⟨x,lr,rfl⟩:∃x lr',lr=x::lr':=by
   rcases lr with _|⟨x,lr'⟩
   ·simp only[length_nil]at hpl;rcases hi with hi|hi<;>omega
   ·exact⟨x,lr',rfl⟩
  have hi:i=la.length+ls.length:=by
   rcases hi with hi|hi
   ·exact hi
   ·exact absurd hi.1 zH
  simp only[length_cons]at hpl;refine vK1 ?_;refine AW.aw [9] [0,1,2,3,8] (λm xs o=>∃(s1 s2:List dW) (j:Int),xs=[.aa j]/\o=[(b,some (rws (la++(s1++(x::(s2++(lr++lc)))))))]/\m=s1.length/\s1++s2=ls/\(∀y∈s2,ltV d x y=true)/\j=la.length+s1.length) ls.length [(b,some (rws (la++(ls++(x::lr++lc)))))] (aF rfl) ⟨ls,[],i,rfl,rfl,rfl,zH,zH,hi⟩ ?_;rintro m xs o ⟨s1,s2,j,rfl,rfl,rfl,hss,hlt,hj⟩;rcases BP s1 with rfl|⟨s1,z,rfl⟩
  ·have hj:j=la.length:=by simpa using hj
   have hg:decide (a<j)=false:=by simp;omega
   have hL:(la++x::(s2++(lr++lc))).length=la.length+1+s2.length+lr.length+lc.length:=by simp;omega
   rw[nil_append]at hss;subst hss
   (repeat' first|(with_reducible first|refine Z ?_|refine Y ?_|(refine hK _ _ ?_;clear hK K)|refine And.intro ?_ ?_|exact Ct|intro(K:_->_->Prop) hK|(refine gI λhg=>?_;try simp only[hC,reduceCtorEq]at hg;try simp only[hg]))|((with_reducible refine E ?_;repeat refine Y ?_);refine eF rfl ?_)|simp(disch:=omega)only[go_sem,hg,BV]|(with_reducible intro hg;try simp only[hC,reduceCtorEq]at hg)|exact Cl|fail)
   refine AW.e λh=>?_;refine vK1 ?_;exact⟨_,[_],_,by(try simp only[length_cons]);omega,⟨x::s2,lr,i+1,rfl,rfl,rfl,(List.perm_middle.symm.trans hp),HB (S1:=[]) ho hs hlt zH,.inl (by(try simp only[length_cons]);omega)⟩,rfl,aF rfl⟩
  ·have hg:decide (a<j)=true:=by simp at hj;simp;omega
   obtain⟨p,q,e1,e2,hp1⟩:=BI (la++s1) (s2++(lr++lc)) z x;have e3:la++((s1++[z])++(x::(s2++(lr++lc))))=la++s1++(z::x::(s2++(lr++lc))):=by simp
   have e4:la++(s1++(x::(z::s2++(lr++lc))))=la++s1++(x::z::(s2++(lr++lc))):=by simp
   rw[e3,e1];simp only[rkC]at e1 e2 ⊢;simp only[length_append,length_cons,length_nil]at hj hp1;have hsl:s1.length+1+s2.length=ls.length:=by rw[<- hss];simp;omega
   have hrx:jS d x:=hrb x (by rw[mem_append,mem_append];exact .inr (.inl (hp.mem_iff.1 zH)))
   have hrz:jS d z:=hrb z (by rw[mem_append,mem_append];exact .inr (.inl (hp.mem_iff.1 (by rw[<- hss];simp))))
   (refine vQ1 hg ?_;with_reducible repeat first|intro(K:_->_->Prop) hK|intro h)
   refine AW.c (λh=>?_) λh=>?_
   ·repeat refine Y ?_
    refine AW.pQ [(0,.arr b 0 (la.length+(lx.length+lc.length)) 4),(1,.aa a),(2,.aa e),(3,.fn 200 [.vp [.ab 19 ak d]]),(8,.aa i),(9,.aa j)] [(b,some (rws (la++(s1++(x::(z::s2++(lr++lc)))))))] (jl.h (P:=prog)) (λK hK=>?_) ?_
    ·refine aD.fxs (fuel:=6) caa [0,1,2,3,4,5,6,7,8,10,11,12] caa ?_;refine gS ?_;refine⟨Yt,Yt,?_⟩;clear e1;refine aD.sp 5 [9,13] (gT ?_);refine And.intro ?_ ?_
     ·refine aD.sp 4 [13] (gT ?_);refine aD.sp 3 [14] (gT ?_);refine vN1 ?_;refine aD.sp 2 [15] (gT ?_);refine vN1 ?_;refine aD.sp 1 [16] (gT ?_);refine vN1 ?_;refine aD.sp 0 [17] (gT ?_);refine vN1 ?_;refine aD.ib [0,1,2,3,8,9] [(b,some (rws (la++(s1++(x::(z::s2++(lr++lc)))))))] caa (aF ?_) ?_
      ·rw[e4,e2];simp only[append_assoc,cons_append,nil_append];exact gO
       try simp only[append_assoc,cons_append,nil_append]
      ·refine gS ?_;exact hK
     ·refine aD.sp 4 [9] (gT ?_);refine aD.sp 3 [14] (gT ?_);refine vN1 ?_;refine aD.sp 2 [15] (gT ?_);refine vN1 ?_;refine aD.sp 1 [16] (gT ?_);refine vN1 ?_;refine aD.sp 0 [17] (gT ?_);refine vN1 ?_;refine aD.ib [0,1,2,3,8,9] [(b,some (rws (la++(s1++(x::(z::s2++(lr++lc)))))))] caa (aF ?_) ?_
      ·rw[e4,e2];simp only[append_assoc,cons_append,nil_append];exact gO
       try simp only[append_assoc,cons_append,nil_append]
      ·refine gS ?_;exact hK
    ·refine vK1 ?_
     exact⟨_,[_],_,by(try simp only[length_append,length_cons,length_nil]);omega,⟨s1,z::s2,j - 1,rfl,rfl,rfl,by rw[<- hss];simp,λy hy=>by
      rcases List.mem_cons.1 hy with rfl|hy
      ·rw[oR];simpa using h
      ·exact hlt y hy,Yt⟩,rfl,aF zH⟩
   ·refine vK1 ?_
    have hp':((s1++[z])++(x::s2)++lr).Perm lx:=by
     refine List.Perm.trans ?_ hp;rw[<- hss];simp only[append_assoc,cons_append,nil_append];exact((List.perm_middle.symm).cons z).append_left s1
    exact⟨_,[_],_,by(try simp only[length_cons]);omega,⟨(s1++[z])++(x::s2),lr,i+1,rfl,rfl,rfl,hp',HB ho (by rw[hss];exact hs) hlt (by
     intro y hy;have:y=z:=by simpa using hy.symm
     rw[this,oR];simpa using h),.inl (by(try simp only[length_append,length_cons,length_nil]);omega)⟩,rfl,aF (by rw[show la++(s1++[z]++x::s2++(lr++lc))=la++s1++(z::x::(s2++(lr++lc))) by simp];exact e1)⟩
 ·refine vK1 ?_
  obtain rfl:lr=[]:=by
   rcases hi with hi|hi
   ·exact List.length_eq_zero_iff.1 Yt
   ·exact hi.1
  rw[append_nil]at hp;exact finG.n (EndsG.sr _ rfl ⟨la,lx,ls,lc,rfl,rfl,hA,hX,hp,hs⟩ (aF rfl))
end
section
attribute [local go_sem] CI CH CJ BB BA BC
theorem YH(d:List ag)(b:Nat)(l:List dW)(n:Nat)(a m e:Int)(hma:m - a=1)(hp:n=l.length/\0<=a/\a<m/\m<e/\e<=n/\n<=1048576/\(∀r∈l,jS d r)/\ic (ltV d) a.toNat m.toNat l/\ic (ltV d) m.toNat e.toNat l) :
  fC lim prog 295 [(b,some (rws l))] [.arr b 0 n 4,.aa a,.aa m,.aa e,.fn 200 [.vp [.ab 19 ak d]]] (SrQ b (Part (ltV d) a.toNat e.toNat l)) True:=by
 obtain⟨hn,ha,ham,hme,hen,hb,hrb,hsX,hsY⟩:=hp;refine fC.gb (aU 295) func295 rfl rfl λhp=>(?_);rw[ntmps295];have gOn:=bM.on
 have ho:=yN d;obtain⟨la,lx,ly,lc,rfl,hA,hX,hY⟩:=Rf (l:=l) (a:=a.toNat) (m:=m.toNat) (b:=e.toNat) Yt Yt Yt;rw[kr hA hX]at hsX;rw[<- append_assoc,kr (by rw[length_append];exact hX) (by rw[length_append];exact hY)]at hsY;have hrY:∀r∈ly,jS d r:=λr hr=>hrb r (by simp[hr]);obtain⟨x,rfl⟩:∃x,lx=[x]:=List.length_eq_one_iff.1 Yt;have hrx:jS d x:=hrb x zH
 have hL:(la++([x]++(ly++lc))).length=la.length+(1+(ly.length+lc.length)):=by simp;omega
 have hL':(la++x::(ly++lc)).length=la.length+(1+(ly.length+lc.length)):=by simp;omega
 simp only[length_cons,length_nil]at hX hY;have ex:at_ (la++x::(ly++lc)) a.toNat=x:=by rw[o4 Yt,show a.toNat - la.length=0 by omega];rfl
 have ey:∀t:Int,m<=t->t<e->at_ (la++x::(ly++lc)) t.toNat=at_ ly (t - m).toNat:=λt h1 h2=>by
  rw[show la++x::(ly++lc)=(la++[x])++(ly++lc) by simp,o4 (by simp;omega),zn (by simp;omega)]
  congr 1;simp;omega
 rw[hL]at hn;clear hL
 (refine vQ1 hma ?_;with_reducible repeat first|intro(K:_->_->Prop) hK|intro h)
 refine AW.e λh=>?_
 ·refine vK1 ?_;refine AW.aw [10,11] [0,1,4] (λk xs o=>∃i j:Int,xs=[.aa i,.aa j]/\o=[(b,some (rws (la++x::(ly++lc))))]/\k=(j - i).toNat/\m<=i/\i<=j/\j<=e/\(∀t:Nat,t<i - m->ltV d (at_ ly t) x=true)/\∀t:Nat,j - m<=t->t<ly.length->ltV d (at_ ly t) x=false) (e - m).toNat [(b,some (rws (la++x::(ly++lc))))] (aF rfl) ⟨m,e,rfl,rfl,rfl,Yt,Yt,Yt,λt ht=>by omega,λt ht1 ht2=>by omega⟩ ?_;rintro k xs o ⟨i,j,rfl,rfl,rfl,hi,hij,hj,hLo,hHi⟩;refine vK1 ?_;refine AW.c (λh=>?_) λh=>?_
  ·have hh:=DR (i:=i) (j:=j) Yt h
   have ew:=ey ((i+j) / 2) Yt Yt
   have hrw:jS d (at_ ly ((i+j) / 2 - m).toNat):=hrY _ (at_mem Yt)
   (repeat' first|(with_reducible first|refine Z ?_|refine Y ?_|(refine hK _ _ ?_;clear hK K)|refine And.intro ?_ ?_|exact Ct|intro(K:_->_->Prop) hK|(refine gI λhg=>?_;try simp only[hC,reduceCtorEq]at hg;try simp only[hg]))|((with_reducible refine E ?_;repeat refine Y ?_);refine eF rfl ?_)|simp(disch:=omega)only[go_sem,BV,ex,ew]|(with_reducible intro hg;try simp only[hC,reduceCtorEq]at hg)|exact Cl|fail)
   refine AW.c (λh=>?_) λh=>?_
   ·refine vK1 ?_;have hlt:ltV d (at_ ly ((i+j) / 2 - m).toNat) x=true:=by rw[oR];simpa using h
    exact⟨_,[_,_],_,Yt,⟨(i+j) / 2+1,j,rfl,rfl,rfl,Yt,Yt,hj,λt ht=>adg ho hsY Yt hlt Yt,hHi⟩,rfl,aF rfl⟩
   ·refine vK1 ?_;have hge:ltV d (at_ ly ((i+j) / 2 - m).toNat) x=false:=by rw[oR];simpa using h
    exact⟨_,[_,_],_,Yt,⟨i,(i+j) / 2,rfl,rfl,rfl,hi,Yt,Yt,hLo,λt h1 h2=>adf ho hsY h2 hge Yt⟩,rfl,aF rfl⟩
  ·obtain rfl:i=j:=by omega
   refine vK1 ?_;refine AW.aw [13] [0,10] (λq xs o=>∃k:Int,xs=[.aa k]/\o=[(b,some (rws (la++(ly.take (k - a).toNat++(x::(ly.drop (k - a).toNat++lc))))))]/\q=(i - 1 - k).toNat/\a<=k/\k<=i - 1) (i - 1 - a).toNat [(b,some (rws (la++x::(ly++lc))))] (aF rfl) ⟨a,rfl,by rw[Int.sub_self];rfl,rfl,Yt,Yt⟩ ?_;rintro q xs o ⟨k,rfl,rfl,rfl,hak,hki⟩;refine vK1 ?_;refine AW.c (λh=>?_) λh=>?_
   ·have hkl:(k - a).toNat<ly.length:=by omega
    obtain⟨p,q,e1,e2,hp1⟩:=BI (la++ly.take (k - a).toNat) (ly.drop ((k - a).toNat+1)++lc) x (at_ ly (k - a).toNat);have e3:la++(ly.take (k - a).toNat++(x::(ly.drop (k - a).toNat++lc)))=la++ly.take (k - a).toNat++(x::at_ ly (k - a).toNat::(ly.drop ((k - a).toNat+1)++lc)):=by rw[rN hkl];simp
    have e4:la++(ly.take (k+1 - a).toNat++(x::(ly.drop (k+1 - a).toNat++lc)))=la++ly.take (k - a).toNat++(at_ ly (k - a).toNat::x::(ly.drop ((k - a).toNat+1)++lc)):=by rw[show (k+1 - a).toNat=(k - a).toNat+1 by omega,vD hkl];simp
    rw[e3,e1];simp only[rkC]at e1 e2 ⊢;rw[length_append,length_take]at hp1
    repeat refine Y ?_
    refine AW.pQ [(0,.arr b 0 n 4),(10,.aa i),(13,.aa k)] [(b,some (rws (la++(ly.take (k+1 - a).toNat++(x::(ly.drop (k+1 - a).toNat++lc))))))] (jl.h (P:=prog)) (λK hK=>?_) ?_
    ·refine aD.fxs (fuel:=6) caa [0,1,2,3,4,5,6,7,8,10,11,12] caa ?_;refine gS ?_;refine⟨Yt,Yt,?_⟩;clear e1;refine aD.sp 5 [9,13] (gT ?_);refine And.intro ?_ ?_
     ·refine aD.sp 4 [13] (gT ?_);refine aD.sp 3 [14] (gT ?_);refine vN1 ?_;refine aD.sp 2 [15] (gT ?_);refine vN1 ?_;refine aD.sp 1 [16] (gT ?_);refine vN1 ?_;refine aD.sp 0 [17] (gT ?_);refine vN1 ?_;refine aD.ib [0,10,13] [(b,some (rws (la++(ly.take (k+1 - a).toNat++(x::(ly.drop (k+1 - a).toNat++lc))))))] caa (aF ?_) ?_
      ·rw[e4,e2];simp only[append_assoc,cons_append,nil_append];refine gS ?_
       try simp only[append_assoc,cons_append,nil_append]
      ·refine gS ?_;exact hK
     ·refine aD.sp 4 [9] (gT ?_);refine aD.sp 3 [14] (gT ?_);refine vN1 ?_;refine aD.sp 2 [15] (gT ?_);refine vN1 ?_;refine aD.sp 1 [16] (gT ?_);refine vN1 ?_;refine aD.sp 0 [17] (gT ?_);refine vN1 ?_;refine aD.ib [0,10,13] [(b,some (rws (la++(ly.take (k+1 - a).toNat++(x::(ly.drop (k+1 - a).toNat++lc))))))] caa (aF ?_) ?_
      ·rw[e4,e2];simp only[append_assoc,cons_append,nil_append];refine gS ?_
       try simp only[append_assoc,cons_append,nil_append]
      ·refine gS ?_;exact hK
    ·refine vK1 ?_;exact⟨_,[_],_,Yt,⟨k+1,rfl,rfl,rfl,Yt,Yt⟩,rfl,aF rfl⟩
   ·obtain rfl:k=i - 1:=by omega
    refine vK1 ?_;refine AW.ret ?_
    repeat refine Y ?_
    refine EndsG.sr _ rfl ⟨la,[x]++ly,ly.take (i - 1 - a).toNat++x::ly.drop (i - 1 - a).toNat,lc,zH,rfl,hA,by simp;omega,?_,?_⟩ (aF zH)
    ·refine List.perm_middle.trans ?_;rw[take_append_drop];exact .refl _
    ·refine SX ho (by rw[take_append_drop];exact hsY) (λy hy=>?_) (λy hy=>?_)
     ·obtain⟨t,h1,h2,rfl⟩:=zL hy;exact hLo t Yt
     ·obtain⟨t,h1,h2,rfl⟩:=zM hy;exact hHi t Yt h2
end
section
attribute [local go_sem] CI CH CJ BB BA BC
theorem YG(d:List ag)(b:Nat)(l:List dW)(n:Nat)(a m e:Int)(hma:¬m - a=1)(hem:e - m=1)(hp:n=l.length/\0<=a/\a<m/\m<e/\e<=n/\n<=1048576/\(∀r∈l,jS d r)/\ic (ltV d) a.toNat m.toNat l/\ic (ltV d) m.toNat e.toNat l) :
  fC lim prog 295 [(b,some (rws l))] [.arr b 0 n 4,.aa a,.aa m,.aa e,.fn 200 [.vp [.ab 19 ak d]]] (SrQ b (Part (ltV d) a.toNat e.toNat l)) True:=by
 obtain⟨hn,ha,ham,hme,hen,hb,hrb,hsX,hsY⟩:=hp;refine fC.gb (aU 295) func295 rfl rfl λhp=>(?_);rw[ntmps295];have gOn:=bM.on
 have ho:=yN d
 have DL:decide (m - a=1)=false:=decide_eq_false hma;obtain⟨la,lx,ly,lc,rfl,hA,hX,hY⟩:=Rf (l:=l) (a:=a.toNat) (m:=m.toNat) (b:=e.toNat) Yt Yt Yt;rw[kr hA hX]at hsX;have hrX:∀r∈lx,jS d r:=λr hr=>hrb r (by simp[hr]);obtain⟨y,rfl⟩:∃y,ly=[y]:=List.length_eq_one_iff.1 Yt;have hry:jS d y:=hrb y zH
 have hL:(la++(lx++([y]++lc))).length=la.length+(lx.length+(lc.length+1)):=by simp
 have hL':(la++(lx++y::lc)).length=la.length+(lx.length+(lc.length+1)):=by simp
 simp only[length_cons,length_nil]at hX hY;have ey:at_ (la++(lx++y::lc)) m.toNat=y:=by rw[o4 Yt,o4 Yt,show m.toNat - la.length - lx.length=0 by omega];rfl
 have ex:∀t:Int,a<=t->t<m->at_ (la++(lx++y::lc)) t.toNat=at_ lx (t - a).toNat:=λt h1 h2=>by
  rw[o4 Yt,zn Yt]
  congr 1;omega
 rw[hL]at hn;clear hL
 (repeat' first|(with_reducible first|refine Z ?_|refine Y ?_|(refine hK _ _ ?_;clear hK K)|refine And.intro ?_ ?_|exact Ct|intro(K:_->_->Prop) hK|(refine gI λhg=>?_;try simp only[hC,reduceCtorEq]at hg;try simp only[hg]))|((with_reducible refine E ?_;repeat refine Y ?_);refine eF rfl ?_)|simp(disch:=omega)only[go_sem,DL,hem]|(with_reducible intro hg;try simp only[hC,reduceCtorEq]at hg)|exact Cl|fail)
 refine AW.c (λh=>?_) λh=>?_
 (repeat' first|(with_reducible first|refine Z ?_|refine Y ?_|(refine hK _ _ ?_;clear hK K)|refine And.intro ?_ ?_|exact Ct|intro(K:_->_->Prop) hK|(refine gI λhg=>?_;try simp only[hC,reduceCtorEq]at hg;try simp only[hg]))|((with_reducible refine E ?_;repeat refine Y ?_);refine eF rfl ?_)|simp(disch:=omega)only[go_sem,DL,hem]|(with_reducible intro hg;try simp only[hC,reduceCtorEq]at hg)|exact Cl|fail)
 refine AW.e λh=>?_;refine vK1 ?_;refine AW.aw [14,15] [0,2,4] (λk xs o=>∃i j:Int,xs=[.aa i,.aa j]/\o=[(b,some (rws (la++(lx++y::lc))))]/\k=(j - i).toNat/\a<=i/\i<=j/\j<=m/\(∀t:Nat,t<i - a->ltV d y (at_ lx t)=false)/\∀t:Nat,j - a<=t->t<lx.length->ltV d y (at_ lx t)=true) (m - a).toNat [(b,some (rws (la++(lx++y::lc))))] (aF rfl) ⟨a,m,rfl,rfl,rfl,Yt,Yt,Yt,λt ht=>by omega,λt ht1 ht2=>by omega⟩ ?_;rintro k xs o ⟨i,j,rfl,rfl,rfl,hi,hij,hj,hLo,hHi⟩;refine vK1 ?_;refine AW.c (λh=>?_) λh=>?_
 ·have hh:=DR (i:=i) (j:=j) Yt h
  have ew:=ex ((i+j) / 2) Yt Yt
  have hrw:jS d (at_ lx ((i+j) / 2 - a).toNat):=hrX _ (at_mem Yt)
  (repeat' first|(with_reducible first|refine Z ?_|refine Y ?_|(refine hK _ _ ?_;clear hK K)|refine And.intro ?_ ?_|exact Ct|intro(K:_->_->Prop) hK|(refine gI λhg=>?_;try simp only[hC,reduceCtorEq]at hg;try simp only[hg]))|((with_reducible refine E ?_;repeat refine Y ?_);refine eF rfl ?_)|simp(disch:=omega)only[go_sem,BV,ey,ew]|(with_reducible intro hg;try simp only[hC,reduceCtorEq]at hg)|exact Cl|fail)
  refine AW.c (λh=>?_) λh=>?_
  ·refine vK1 ?_;have hge:ltV d y (at_ lx ((i+j) / 2 - a).toNat)=false:=by rw[oR];simpa using h
   exact⟨_,[_,_],_,Yt,⟨(i+j) / 2+1,j,rfl,rfl,rfl,Yt,Yt,hj,λt ht=>ade ho hsX Yt hge Yt,hHi⟩,rfl,aF rfl⟩
  ·refine vK1 ?_;have hlt:ltV d y (at_ lx ((i+j) / 2 - a).toNat)=true:=by rw[oR];simpa using h
   exact⟨_,[_,_],_,Yt,⟨i,(i+j) / 2,rfl,rfl,rfl,hi,Yt,Yt,hLo,λt h1 h2=>adb ho hsX h2 hlt Yt⟩,rfl,aF rfl⟩
 ·obtain rfl:i=j:=by omega
  refine vK1 ?_;have hxl:(m - a).toNat=lx.length:=by omega
  refine AW.aw [17] [0,14] (λq xs o=>∃k:Int,xs=[.aa k]/\o=[(b,some (rws (la++(lx.take (k - a).toNat++(y::(lx.drop (k - a).toNat++lc))))))]/\q=(k - i).toNat/\i<=k/\k<=m) (m - i).toNat [(b,some (rws (la++(lx++y::lc))))] (aF rfl) ⟨m,rfl,by rw[hxl,take_length,drop_length,nil_append],rfl,Yt,Yt⟩ ?_;rintro q xs o ⟨k,rfl,rfl,rfl,hak,hki⟩;refine vK1 ?_;refine AW.c (λh=>?_) λh=>?_
  ·have hkl:(k - 1 - a).toNat<lx.length:=by omega
   have hk1:(k - a).toNat=(k - 1 - a).toNat+1:=by omega
   obtain⟨p,q,e1,e2,hp1⟩:=BI (la++lx.take (k - 1 - a).toNat) (lx.drop ((k - 1 - a).toNat+1)++lc) (at_ lx (k - 1 - a).toNat) y;have e3:la++(lx.take (k - a).toNat++(y::(lx.drop (k - a).toNat++lc)))=la++lx.take (k - 1 - a).toNat++(at_ lx (k - 1 - a).toNat::y::(lx.drop ((k - 1 - a).toNat+1)++lc)):=by rw[hk1,vD hkl];simp
   have e4:la++(lx.take (k - 1 - a).toNat++(y::(lx.drop (k - 1 - a).toNat++lc)))=la++lx.take (k - 1 - a).toNat++(y::at_ lx (k - 1 - a).toNat::(lx.drop ((k - 1 - a).toNat+1)++lc)):=by rw[rN hkl];simp
   rw[e3,e1];simp only[rkC]at e1 e2 ⊢;rw[length_append,length_take]at hp1
   repeat refine Y ?_
   refine AW.pQ [(0,.arr b 0 n 4),(14,.aa i),(17,.aa k)] [(b,some (rws (la++(lx.take (k - 1 - a).toNat++(y::(lx.drop (k - 1 - a).toNat++lc))))))] (jl.h (P:=prog)) (λK hK=>?_) ?_
   ·refine aD.fxs (fuel:=6) caa [0,1,2,3,4,5,6,7,8,10,11,12] caa ?_;refine gS ?_;refine⟨Yt,Yt,?_⟩;clear e1;refine aD.sp 5 [9,13] (gT ?_);refine And.intro ?_ ?_
    ·refine aD.sp 4 [13] (gT ?_);refine aD.sp 3 [14] (gT ?_);refine vN1 ?_;refine aD.sp 2 [15] (gT ?_);refine vN1 ?_;refine aD.sp 1 [16] (gT ?_);refine vN1 ?_;refine aD.sp 0 [17] (gT ?_);refine vN1 ?_;refine aD.ib [0,14,17] [(b,some (rws (la++(lx.take (k - 1 - a).toNat++(y::(lx.drop (k - 1 - a).toNat++lc))))))] caa (aF ?_) ?_
     ·rw[e4,e2];simp only[append_assoc,cons_append,nil_append];exact gO
      try simp only[append_assoc,cons_append,nil_append]
     ·refine gS ?_;exact hK
    ·refine aD.sp 4 [9] (gT ?_);refine aD.sp 3 [14] (gT ?_);refine vN1 ?_;refine aD.sp 2 [15] (gT ?_);refine vN1 ?_;refine aD.sp 1 [16] (gT ?_);refine vN1 ?_;refine aD.sp 0 [17] (gT ?_);refine vN1 ?_;refine aD.ib [0,14,17] [(b,some (rws (la++(lx.take (k - 1 - a).toNat++(y::(lx.drop (k - 1 - a).toNat++lc))))))] caa (aF ?_) ?_
     ·rw[e4,e2];simp only[append_assoc,cons_append,nil_append];exact gO
      try simp only[append_assoc,cons_append,nil_append]
     ·refine gS ?_;exact hK
   ·refine vK1 ?_;exact⟨_,[_],_,Yt,⟨k - 1,rfl,rfl,rfl,Yt,Yt⟩,rfl,aF rfl⟩
  ·obtain rfl:k=i:=by omega
   refine vK1 ?_;refine AW.ret ?_
   repeat refine Y ?_
   refine EndsG.sr _ rfl ⟨la,lx++[y],lx.take (k - a).toNat++y::lx.drop (k - a).toNat,lc,zH,rfl,hA,by simp;omega,?_,?_⟩ (aF zH)
   ·refine List.perm_middle.trans ?_;rw[take_append_drop];exact(perm_append_comm (l₁:=[y]) (l₂:=lx))
   ·refine SW ho (by rw[take_append_drop];exact hsX) (λx hx=>?_) (λx hx=>?_)
    ·obtain⟨t,h1,h2,rfl⟩:=zL hx;exact hLo t Yt
    ·obtain⟨t,h1,h2,rfl⟩:=zM hx;exact hHi t Yt h2
end
theorem YF(d:List ag)(nn:Nat)(ih:∀(b:Nat) (l:List dW) (n:Nat) (a m e:Int),fC lim prog 295 [(b,some (rws l))] [.arr b 0 n 4,.aa a,.aa m,.aa e,.fn 200 [.vp [.ab 19 ak d]]] (SrQ b (Part (ltV d) a.toNat e.toNat l)) (n=l.length/\0<=a/\a<m/\m<e/\e<=n/\n<=1048576/\(e - a).toNat<nn/\(∀r∈l,jS d r)/\ic (ltV d) a.toNat m.toNat l/\ic (ltV d) m.toNat e.toNat l))
  (b:Nat) (l:List dW) (n:Nat) (a m e:Int) (hma:¬m - a=1) (hem:¬e - m=1) (hp:n=l.length/\0<=a/\a<m/\m<e/\e<=n/\n<=1048576/\(e - a).toNat<nn+1/\(∀r∈l,jS d r)/\ic (ltV d) a.toNat m.toNat l/\ic (ltV d) m.toNat e.toNat l) :
  fC lim prog 295 [(b,some (rws l))] [.arr b 0 n 4,.aa a,.aa m,.aa e,.fn 200 [.vp [.ab 19 ak d]]] (SrQ b (Part (ltV d) a.toNat e.toNat l)) True:=by
 obtain⟨hn,ha,ham,hme,hen,hb,hN,hrb,hsX,hsY⟩:=hp;refine fC.gb (aU 295) func295 rfl rfl λhp=>(?_);rw[ntmps295];have gOn:=bM.on
 have ho:=yN d
 have DL:decide (m - a=1)=false:=decide_eq_false hma
 have QN:decide (e - m=1)=false:=decide_eq_false hem;obtain⟨la,lx,ly,lc,rfl,hA,hX,hY⟩:=Rf (l:=l) (a:=a.toNat) (m:=m.toNat) (b:=e.toNat) Yt Yt Yt;rw[kr hA hX]at hsX;rw[<- append_assoc,kr (by rw[length_append];exact hX) (by rw[length_append];exact hY)]at hsY;have hrX:∀r∈lx,jS d r:=λr hr=>hrb r (by simp[hr])
 have hrY:∀r∈ly,jS d r:=λr hr=>hrb r (by simp[hr])
 have hL:(la++(lx++(ly++lc))).length=la.length+(lx.length+(ly.length+lc.length)):=by simp
 have ex:∀t:Int,a<=t->t<m->at_ (la++(lx++(ly++lc))) t.toNat=at_ lx (t - a).toNat:=λt h1 h2=>by
  rw[o4 Yt,zn Yt]
  congr 1;omega
 have ey:∀t:Int,m<=t->t<e->at_ (la++(lx++(ly++lc))) t.toNat=at_ ly (t - m).toNat:=λt h1 h2=>by
  rw[o4 Yt,o4 Yt,zn Yt]
  congr 1;omega
 (repeat' first|(with_reducible first|refine Z ?_|refine Y ?_|(refine hK _ _ ?_;clear hK K)|refine And.intro ?_ ?_|exact Ct|intro(K:_->_->Prop) hK|(refine gI λhg=>?_;try simp only[hC,reduceCtorEq]at hg;try simp only[hg]))|((with_reducible refine E ?_;repeat refine Y ?_);refine eF rfl ?_)|simp(disch:=omega)only[go_sem,DL,QN]|(with_reducible intro hg;try simp only[hC,reduceCtorEq]at hg)|exact Cl|fail)
 refine AW.c (λh=>?_) λh=>?_
 ·exact absurd h hma
 (repeat' first|(with_reducible first|refine Z ?_|refine Y ?_|(refine hK _ _ ?_;clear hK K)|refine And.intro ?_ ?_|exact Ct|intro(K:_->_->Prop) hK|(refine gI λhg=>?_;try simp only[hC,reduceCtorEq]at hg;try simp only[hg]))|((with_reducible refine E ?_;repeat refine Y ?_);refine eF rfl ?_)|simp(disch:=omega)only[go_sem,DL,QN]|(with_reducible intro hg;try simp only[hC,reduceCtorEq]at hg)|exact Cl|fail)
 refine AW.c (λh=>?_) λh=>?_
 ·exact absurd h hem
 refine vK1 ?_;generalize HV:(a+e) / 2=mid
 obtain⟨s0,r0,hF⟩:∃s0 r0:Int,(mid<m->s0=mid+m - e/\r0=mid)/\(m<=mid->s0=a/\r0=m):=by
  by_cases h:mid<m
  ·exact⟨_,_,λ_=>⟨rfl,rfl⟩,λh'=>absurd h Yt⟩
  ·exact⟨_,_,λh'=>absurd h' h,λ_=>⟨rfl,rfl⟩⟩
 have aco:s0<=r0/\a<=s0/\r0<=m/\r0<=mid/\mid - s0<=e - m:=by
  rcases Int.lt_or_le mid m with h|h
  ·have:=hF.1 h;omega
  ·have:=hF.2 h;omega
 refine AW.cut [0,1,2,3,4,18,19,20,21] [(0,.arr b 0 n 4),(1,.aa a),(2,.aa m),(3,.aa e),(4,.fn 200 [.vp [.ab 19 ak d]]),(18,.aa mid),(19,.aa (mid+m)),(20,.aa s0),(21,.aa r0)] [(b,some (rws (la++(lx++(ly++lc)))))] ?_ ?_
 ·refine AW.c (λh=>?_) λh=>?_
  ·have:=hF.1 h;refine vK1 ?_;rw[this.1,this.2]
  ·have:=hF.2 h;refine vK1 ?_;rw[this.1,this.2]
 refine vK1 ?_;refine AW.aw [20,21] [0,1,2,3,4,18,19,22] (λk xs o=>∃s r:Int,xs=[.aa s,.aa r]/\o=[(b,some (rws (la++(lx++(ly++lc)))))]/\k=(r - s).toNat/\s0<=s/\s<=r/\r<=r0/\(s0<s->ltV d (at_ ly (mid - s).toNat) (at_ lx (s - 1 - a).toNat)=false)/\(r<r0->ltV d (at_ ly (mid - 1 - r).toNat) (at_ lx (r - a).toNat)=true)) (r0 - s0).toNat [(b,some (rws (la++(lx++(ly++lc)))))] (aF rfl) ⟨s0,r0,rfl,rfl,rfl,Yt,Yt,Yt,λh=>by omega,λh=>by omega⟩ ?_;rintro k xs o ⟨s,r,rfl,rfl,rfl,hs0,hsr,hr0,hLo,hHi⟩;refine vK1 ?_;refine AW.c (λh=>?_) λh=>?_
 ·have hh:=DR (i:=s) (j:=r) Yt h
  have ew1:=ex ((s+r) / 2) Yt Yt
  have ew2:=ey (mid+m - 1 - (s+r) / 2) Yt Yt
  have hi1:(mid+m - 1 - (s+r) / 2 - m).toNat=(mid - 1 - (s+r) / 2).toNat:=by congr 1;omega
  rw[hi1]at ew2;have hr1:jS d (at_ lx ((s+r) / 2 - a).toNat):=hrX _ (at_mem Yt)
  have hr2:jS d (at_ ly (mid - 1 - (s+r) / 2).toNat):=hrY _ (at_mem Yt)
  (repeat' first|(with_reducible first|refine Z ?_|refine Y ?_|(refine hK _ _ ?_;clear hK K)|refine And.intro ?_ ?_|exact Ct|intro(K:_->_->Prop) hK|(refine gI λhg=>?_;try simp only[hC,reduceCtorEq]at hg;try simp only[hg]))|((with_reducible refine E ?_;repeat refine Y ?_);refine eF rfl ?_)|simp(disch:=omega)only[go_sem,BV,ew1,ew2]|(with_reducible intro hg;try simp only[hC,reduceCtorEq]at hg)|exact Cl|fail)
  refine AW.c (λh=>?_) λh=>?_
  ·refine vK1 ?_;have hge:ltV d (at_ ly (mid - 1 - (s+r) / 2).toNat) (at_ lx ((s+r) / 2 - a).toNat)=false:=by rw[oR];simpa using h
   exact⟨_,[_,_],_,Yt,⟨(s+r) / 2+1,r,rfl,rfl,rfl,Yt,Yt,hr0,λ_=>by
    rw[show mid - ((s+r) / 2+1)=mid - 1 - (s+r) / 2 by omega,show (s+r) / 2+1 - 1=(s+r) / 2 by omega];exact hge,hHi⟩,rfl,aF rfl⟩
  ·refine vK1 ?_;have hlt:ltV d (at_ ly (mid - 1 - (s+r) / 2).toNat) (at_ lx ((s+r) / 2 - a).toNat)=true:=by rw[oR];simpa using h
   exact⟨_,[_,_],_,Yt,⟨s,(s+r) / 2,rfl,rfl,rfl,hs0,Yt,Yt,hLo,λ_=>hlt⟩,rfl,aF rfl⟩
 obtain rfl:s=r:=by omega
 have hd1:(s - 1 - a).toNat=(s - a).toNat - 1:=by omega
 have hd2:(mid - 1 - s).toNat=(mid - s).toNat - 1:=by omega
 rw[hd1]at hLo;rw[hd2]at hHi
 have hap:∀u∈lx.take (s - a).toNat++ly.take (mid - s).toNat,∀v∈lx.drop (s - a).toNat++ly.drop (mid - s).toNat,ltV d v u=false:=by
  refine MG ho (by rw[take_append_drop];exact hsX) (by rw[take_append_drop];exact hsY) (λx hx y hy=>?_) (λy hy x hx=>?_)
  ·obtain⟨h1,rfl⟩:=EE hx Yt;obtain⟨h2,rfl⟩:=zS hy;refine hLo ?_;rcases Int.lt_or_le mid m with h|h
   ·have:=hF.1 h;omega
   ·have:=hF.2 h;omega
  ·obtain⟨h1,rfl⟩:=EE hy Yt;obtain⟨h2,rfl⟩:=zS hx;refine hHi ?_;rcases Int.lt_or_le mid m with h|h
   ·have:=hF.1 h;omega
   ·have:=hF.2 h;omega
 obtain⟨x1,x2,HO,hx1⟩:∃x1 x2,lx=x1++x2/\x1.length=(s - a).toNat:=⟨lx.take (s - a).toNat,lx.drop (s - a).toNat,(take_append_drop _ _).symm,by rw[length_take];omega⟩
 obtain⟨y1,y2,HN,hy1⟩:∃y1 y2,ly=y1++y2/\y1.length=(mid - s).toNat:=⟨ly.take (mid - s).toNat,ly.drop (mid - s).toNat,(take_append_drop _ _).symm,by rw[length_take];omega⟩
 rw[HO,HN,<- hx1,<- hy1,take_left,take_left,drop_left,drop_left]at hap;rw[HO]at hsX;rw[HN]at hsY;have hlx:x1.length+x2.length=lx.length:=by rw[HO,length_append]
 have hly:y1.length+y2.length=ly.length:=by rw[HN,length_append]
 have hpm:(la++(x1++(y1++(x2++(y2++lc))))).Perm (la++(lx++(ly++lc))):=by
  rw[HO,HN];refine List.Perm.append_left la ?_;simp only[append_assoc];refine List.Perm.append_left x1 ?_;exact perm_append_comm_assoc _ _ _
 rw[show la++(lx++(ly++lc))=la++x1++(x2++(y1++(y2++lc))) by rw[HO,HN];simp only[append_assoc]];have has:a<=s/\s<=m/\s<=mid/\mid - s<=e - m:=by omega
 rw[hL]at hn;clear hLo hHi ex ey hr0 hs0 hF aco hL hrX hrY hd1 hd2 hma hem DL QN;refine vK1 ?_;refine AW.cut [0,1,3,4,18,20,24] [(0,.arr b 0 n 4),(1,.aa a),(3,.aa e),(4,.fn 200 [.vp [.ab 19 ak d]]),(18,.aa mid),(20,.aa s),(24,.aa (mid+m - s))] [(b,some (rws (la++(x1++(y1++(x2++(y2++lc)))))))] ?_ ?_
 ·have hro:=abE d b (la++x1) x2 y1 (y2++lc) n;refine AW.c (λh=>?_) λh=>?_
  ·refine vK1 ?_;simp only[append_assoc]
  ·refine vK1 ?_
   have hz:x2=[]\/y1=[]:=by
    rcases Int.lt_or_le s m with q|q
    ·exact .inr (List.length_eq_zero_iff.1 (by have:=h q;omega))
    ·exact .inl (List.length_eq_zero_iff.1 Yt)
   rcases hz with rfl|rfl<;>simp
 refine Y ?_;refine Y ?_;refine AW.ac7 [0,3,4,18,24] [(0,.arr b 0 n 4),(3,.aa e),(4,.fn 200 [.vp [.ab 19 ak d]]),(18,.aa mid),(24,.aa (mid+m - s))] (λz1=>[(b,some (rws (la++(z1++(x2++(y2++lc))))))]) (λz1=>z1.Perm (x1++y1)/\Srt (ltV d) z1) ?_ ?_
 ·refine vK1 ?_;refine AW.c (λh=>?_) λh=>?_
  ·(refine vK4 ?_ ?_ ?_ ?_<;>with_reducible repeat intro h)
   ·exact hrb _ (hpm.mem_iff.1 baa)
   ·exact(kr hA Yt).2 hsX.l
   ·rw[<- append_assoc];exact(kr (by rw[length_append];omega) (by rw[length_append];omega)).2 hsY.l
   ·have hP:=h;rw[<- append_assoc x1]at hP;obtain⟨z,rfl,h1,h2⟩:=hP.mid hA (by rw[length_append];omega);exact⟨z,⟨h1,h2⟩,rfl⟩
  ·refine vK1 ?_;refine⟨x1++y1,⟨.refl _,?_⟩,by simp only[append_assoc]⟩
   have hz:x1=[]\/y1=[]:=by
    rcases Int.lt_or_le a s with q|q
    ·exact .inr (List.length_eq_zero_iff.1 (by have:=h q;omega))
    ·exact .inl (List.length_eq_zero_iff.1 Yt)
   rcases hz with rfl|rfl
   ·exact hsY.l
   ·rw[append_nil];exact hsX.l
 ·rintro z1 ⟨hz1,ach⟩;have hzl:=hz1.length_eq;rw[length_append]at hzl
  have acr:(la++(z1++(x2++(y2++lc)))).Perm (la++(lx++(ly++lc))):=by
   refine List.Perm.trans ((hz1.append_right _).append_left la) ?_;rw[append_assoc];exact hpm
  have hfin:∀z2:List dW,z2.Perm (x2++y2)->Srt (ltV d) z2->Part (ltV d) a.toNat e.toNat (la++x1++(x2++(y1++(y2++lc)))) (la++z1++(z2++lc)):=λz2 hz2 acg=>by
   refine⟨la,x1++(x2++(y1++y2)),z1++z2,lc,by simp only[append_assoc],by simp only[append_assoc],hA,by simp only[length_append];omega,?_,Srt.app ach acg λu hu v hv=>hap u (hz1.mem_iff.1 hu) v (hz2.mem_iff.1 hv)⟩;refine(hz1.append hz2).trans ?_;rw[append_assoc];exact(perm_append_comm_assoc _ _ _).append_left x1
  refine vK1 ?_;refine AW.c (λh=>?_) λh=>?_
  ·(refine vK4 ?_ ?_ ?_ ?_<;>with_reducible repeat intro h)
   ·exact hrb _ (acr.mem_iff.1 baa)
   ·rw[<- append_assoc];exact(kr (by rw[length_append];omega) (by rw[length_append];omega)).2 hsX.r
   ·rw[<- append_assoc,<- append_assoc];exact(kr (by simp only[length_append];omega) (by simp only[length_append];omega)).2 hsY.r
   ·have hP:=h;rw[<- append_assoc,<- append_assoc x2]at hP;obtain⟨z,rfl,h1,h2⟩:=hP.mid (by rw[length_append];omega) (by simp only[length_append];omega);exact finG.n (EndsG.sr _ rfl (hfin z h1 h2) (aF rfl))
  ·refine vK1 ?_;refine finG.n (EndsG.sr _ rfl (hfin (x2++y2) (.refl _) ?_) (aF (by simp only[append_assoc])))
   have hz:x2=[]\/y2=[]:=by
    rcases Int.lt_or_le mid (mid+m - s)with q|q
    ·exact .inr (List.length_eq_zero_iff.1 (by have:=h q;omega))
    ·exact .inl (List.length_eq_zero_iff.1 Yt)
   rcases hz with rfl|rfl
   ·exact hsY.r
   ·rw[append_nil];exact hsX.r
theorem Vr(d:List ag):∀(nn:Nat) (b:Nat) (l:List dW) (n:Nat) (a m e:Int),fC lim prog 295 [(b,some (rws l))] [.arr b 0 n 4,.aa a,.aa m,.aa e,.fn 200 [.vp [.ab 19 ak d]]] (SrQ b (Part (ltV d) a.toNat e.toNat l)) (n=l.length/\0<=a/\a<m/\m<e/\e<=n/\n<=1048576/\(e - a).toNat<nn/\(∀r∈l,jS d r)/\ic (ltV d) a.toNat m.toNat l/\ic (ltV d) m.toNat e.toNat l)
 | 0,b,l,n,a,m,e=>⟨(aU 295),λh=>absurd h.2.2.2.2.2.2.1 (Nat.not_lt_zero _)⟩
 | nn+1,b,l,n,a,m,e=>by
  have ih:=Vr d nn;refine⟨(aU 295),λhp=>?_⟩;by_cases h1:m - a=1
  ·exact(YH d b l n a m e h1 ⟨hp.1,hp.2.1,hp.2.2.1,hp.2.2.2.1,hp.2.2.2.2.1,hp.2.2.2.2.2.1,hp.2.2.2.2.2.2.2⟩).out trivial
  by_cases h2:e - m=1
  ·exact(YG d b l n a m e h1 h2 ⟨hp.1,hp.2.1,hp.2.2.1,hp.2.2.2.1,hp.2.2.2.2.1,hp.2.2.2.2.2.1,hp.2.2.2.2.2.2.2⟩).out trivial
  exact(YF d nn ih b l n a m e h1 h2 hp).out trivial
end Go.Proofs
namespace Go.Dt
section
variable {α : Type} {lt : α -> α -> Bool} {l l' : List α} {a b p q : Nat}
def Part.before(h:Part lt a b l l')(hq:q<=a)(hs:ic lt p q l):ic lt p q l':=by obtain⟨A,X,Z,C,rfl,rfl,h1,h2,hp,_⟩:=h;unfold ic at *;rw[take_append_of_le_length Yt]at hs ⊢;exact hs
def Part.after(h:Part lt a b l l')(hb:b<=p)(hs:ic lt p q l):ic lt p q l':=by
 obtain⟨A,X,Z,C,rfl,rfl,h1,h2,hp,_⟩:=h;have hl:=hp.length_eq;unfold ic at *;rw[drop_take]at hs ⊢
 have e:∀W:List α,W.length=X.length->(A++(W++C)).drop p=C.drop (p - (A.length+X.length)):=λW hW=>by
  rw[<- append_assoc,drop_append,drop_eq_nil_of_le (by rw[length_append];omega),nil_append,length_append,hW]
 rw[e X rfl]at hs;rw[e Z hl];exact hs
def MO(h:l.length<=p):ic lt p q l:=by unfold ic;rw[drop_eq_nil_of_le (by rw[length_take];omega)];exact List.Pairwise.nil
def MP(h:l.length<=q):ic lt 0 q l↔Srt lt l:=by unfold ic;rw[drop_zero,take_of_length_le h]
def wD{d x y:Nat}(h1:d ∣ x)(h2:d ∣ y)(h:x<y):x+d<=y:=by
 obtain⟨i,rfl⟩:=h1;obtain⟨j,rfl⟩:=h2;have:i<j:=Nat.lt_of_mul_lt_mul_left h
 calc d * i+d=d * (i+1):=by rw[Nat.mul_add,Nat.mul_one]
  _<=d * j:=Nat.mul_le_mul_left d this
def Bs(lt:α->α->Bool)(w:Nat)(l:List α):Prop:=∀p,w ∣ p->ic lt p (min (p+w) l.length) l
def qc(lt:α->α->Bool)(d a:Nat)(l:List α):Prop:=∀p,d ∣ p->p+d<=a->ic lt p (p+d) l
def qc.step{d:Nat}(h:qc lt d a l)(hd:d ∣ a)(hp:Part lt a (a+d) l l'):qc lt d (a+d) l':=λp h1 h2=>by
 rcases Nat.lt_or_ge p a with q|q
 ·exact hp.before (wD h1 hd q) (h p h1 (wD h1 hd q))
 ·obtain rfl:p=a:=by omega
  exact hp.srt
def qc.all{d:Nat}(h:qc lt d a l)(hd:d ∣ a)(h0:0<d)(hl:l.length<a+d)(hs:ic lt a l.length l):Bs lt d l:=λp h1=>by
 rcases Nat.lt_trichotomy p a with q|q|q
 ·have:=wD h1 hd q;rcases Nat.lt_or_ge l.length (p+d)with r|r
  ·rw[Nat.min_eq_right Yt];have:=h p h1 this;unfold ic at this ⊢;rw[take_of_length_le Yt]at this ⊢;exact this
  ·rw[Nat.min_eq_left r];exact h p h1 this
 ·subst q;rw[Nat.min_eq_right Yt];exact hs
 ·have:=wD hd h1 q;exact MO Yt
def Bs.one{w:Nat}(h:Bs lt w l)(hw:l.length<=w):Srt lt l:=by have:=h 0 (Nat.dvd_zero _);rw[Nat.zero_add,Nat.min_eq_right hw]at this;exact(MP (Nat.le_refl _)).1 this
def CW(lt:α->α->Bool)(w a:Nat)(l:List α):Prop:=∀p,w ∣ p->a<=p->ic lt p (min (p+w) l.length) l
def Bs.post{w:Nat}(h:Bs lt w l):CW lt w 0 l:=λp h1 _=>h p h1
def qc.zero{d:Nat}(h0:0<d):qc lt d 0 l:=λp _ h=>by omega
def CW.step{w:Nat}(h:CW lt w a l)(hp:Part lt a (a+2 * w) l l'):CW lt w (a+2 * w) l':=λp h1 h2=>by
 rw[hp.len];exact hp.after h2 (h p h1 Yt)
end
end Go.Dt
namespace Go.Proofs
open Go.Ab Go.Dt
theorem ab3(d:List ag):Ctr lim prog 294 [] [.v (.slice none 0 0),.aa 0,.aa 0,.fn 200 [.vp [.ab 19 ak d]]] (.tup []) [] True:=by
 refine Ctr.bd func294 ntmps294 λhp=>?_;refine vK1 ?_;refine AW.aw [] [2,8] (λm xs o=>xs=[]/\o=[]) 0 [] trivial ⟨rfl,rfl⟩ ?_;rintro m xs o ⟨rfl,rfl⟩
 all_goals exact uU
theorem YK(d:List ag):Ctr lim prog 257 [] [.v (.slice none 0 0),.aa 0,.fn 200 [.vp [.ab 19 ak d]]] (.tup []) [] True:=by
 refine Ctr.bd func257 ntmps257 λhp=>?_;have hi:=ab3 d;refine vK1 ?_;refine AW.aw [7,8] [0,1,2,6] (λm xs o=>xs=[.aa 0,.aa 20]/\o=[]) 0 [] trivial ⟨rfl,rfl⟩ ?_;rintro m xs o ⟨rfl,rfl⟩;refine vK1 ?_;refine AW.c (λh=>?_) λh=>?_
 ·exact absurd h daa
 refine vK1 ?_;refine AW.aw [6] [0,1,2] (λm xs o=>xs=[.aa 20]/\o=[]) 0 [] trivial ⟨?_,rfl⟩ ?_
 ·rfl
 rintro m xs o ⟨rfl,rfl⟩;refine vK1 ?_;refine AW.c (λh=>?_) λh=>?_
 ·exact absurd h daa
 ·all_goals exact uU
theorem YJ(d:List ag)(b:Nat)(l:List dW)(n:Nat)(m:Int):fC lim prog 257 [(b,some (rws l))] [.arr b 0 n 4,.aa m,.fn 200 [.vp [.ab 19 ak d]]] (SrQ b (λl'=>l'.Perm l/\Srt (ltV d) l')) (n=l.length/\m=n/\n<=1048576/\∀r∈l,jS d r):=by
 refine fC.gb (aU 257) func257 rfl rfl λhp=>(?_);rw[ntmps257];have gOn:=bM.on;obtain⟨hn,rfl,hb,hrb⟩:=hp;have afP:=λb l n a e=>ab4 d b l n a e
 have afF:=λb l n a m e=>Vr d 1048577 b l n a m e;refine vK1 ?_;refine AW.aw [7,8] [0,1,2,6] (λk xs o=>∃(a:Nat) (l1:List dW) (i j:Int),xs=[.aa i,.aa j]/\o=[(b,some (rws l1))]/\k=n - a/\i=a/\j=a+20/\a<=n/\20 ∣ a/\l1.Perm l/\qc (ltV d) 20 a l1) n [(b,some (rws l))] (aF rfl) ⟨0,l,0,20,rfl,rfl,rfl,rfl,rfl,Yt,Nat.dvd_zero _,.refl _,qc.zero Yt⟩ ?_;rintro k xs o ⟨a,l1,i,j,rfl,rfl,rfl,hi,hj,han,hda,hp1,hpre⟩;have hl1:=hp1.length_eq;refine vK1 ?_;refine AW.c (λh=>?_) λh=>?_
 ·(refine vK2 ?_ ?_<;>with_reducible repeat intro h)
  ·exact hrb _ (hp1.mem_iff.1 baa)
  ·rename List dW=>l2
   rw[show i.toNat=a by omega,show j.toNat=a+20 by omega]at h;exact⟨_,[_,_],_,Yt,⟨a+20,l2,j,j+20,rfl,rfl,rfl,Yt,Yt,Yt,Nat.dvd_add hda (Nat.dvd_refl _),h.perm.trans hp1,hpre.step hda h⟩,rfl,aF rfl⟩
 (refine vK2 ?_ ?_<;>with_reducible repeat intro h)
 ·exact hrb _ (hp1.mem_iff.1 baa)
 rename List dW=>l2
 rw[show i.toNat=a by omega]at h;have hp2:=h.perm.trans hp1
 have hall:Bs (ltV d) 20 l2:=qc.all (λp h1 h2=>h.before h2 (hpre p h1 h2)) hda Yt (by rw[hp2.length_eq];omega) (by rw[hp2.length_eq,<- hn];exact h.srt);clear h hpre hp1 hl1;refine AW.aw [6] [0,1,2] (λk xs o=>∃(w:Nat) (l1:List dW) (i:Int),xs=[.aa i]/\o=[(b,some (rws l1))]/\k=n - w/\i=w/\0<w/\w<=2097172/\l1.Perm l/\Bs (ltV d) w l1) (n - 20) [(b,some (rws l2))] (aF rfl) ⟨20,l2,20,rfl,rfl,rfl,rfl,Yt,Yt,hp2,hall⟩ ?_;rintro k xs o ⟨w,l1,v,rfl,rfl,rfl,rfl,hw0,hwb,hp1,hall⟩;have hl1:=hp1.length_eq;refine vK1 ?_;refine AW.c (λh=>?_) λh=>?_
 ·refine vK1 ?_;refine AW.aw [7,8] [0,1,2,6] (λk xs o=>∃(a:Nat) (l2:List dW) (i j:Int),xs=[.aa i,.aa j]/\o=[(b,some (rws l2))]/\k=n - a/\i=a/\j=a+2 * w/\a<=n/\2 * w ∣ a/\l2.Perm l/\qc (ltV d) (2 * w) a l2/\CW (ltV d) w a l2) n [(b,some (rws l1))] (aF rfl) ⟨0,l1,0,2 * w,?_,rfl,rfl,rfl,Yt,Yt,Nat.dvd_zero _,hp1,qc.zero Yt,hall.post⟩ ?_
  ·rfl
  rintro k xs o ⟨a,l2,i,j,rfl,rfl,rfl,hi,hj,han,hda,hp2,hpre,hpost⟩;have hl2:=hp2.length_eq
  have hdw:w ∣ a:=Nat.dvd_trans (Nat.dvd_mul_left w 2) hda
  have acL:w ∣ a+w:=Nat.dvd_add hdw (Nat.dvd_refl _)
  have hs1:=hpost a hdw (Nat.le_refl _)
  have hs2:=hpost (a+w) acL Yt;refine vK1 ?_;refine AW.c (λh=>?_) λh=>?_
  ·rw[Nat.min_eq_left Yt]at hs1 hs2
   (refine vK4 ?_ ?_ ?_ ?_<;>with_reducible repeat intro h)
   ·exact hrb _ (hp2.mem_iff.1 baa)
   ·rw[show i.toNat=a by omega,show (i+(w:Int)).toNat=a+w by omega];exact hs1
   ·rw[show (i+(w:Int)).toNat=a+w by omega,show j.toNat=a+w+w by omega];exact hs2
   ·rename List dW=>l3
    rw[show i.toNat=a by omega,show j.toNat=a+2 * w by omega]at h;exact⟨_,[_,_],_,Yt,⟨a+2 * w,l3,j,j+2 * w,rfl,rfl,rfl,Yt,Yt,Yt,Nat.dvd_add hda (Nat.dvd_refl _),h.perm.trans hp2,hpre.step hda h,hpost.step h⟩,rfl,aF rfl⟩
  refine vK1 ?_;refine AW.c (λh=>?_) λh=>?_
  ·rw[Nat.min_eq_left Yt]at hs1;rw[Nat.min_eq_right Yt]at hs2
   (refine vK4 ?_ ?_ ?_ ?_<;>with_reducible repeat intro h)
   ·exact hrb _ (hp2.mem_iff.1 baa)
   ·rw[show i.toNat=a by omega,show (i+(w:Int)).toNat=a+w by omega];exact hs1
   ·rw[show (i+(w:Int)).toNat=a+w by omega,hn,<- hl2];exact hs2
   ·rename List dW=>l3
    rw[show i.toNat=a by omega]at h;have hp3:=h.perm.trans hp2;exact⟨_,[_],_,Yt,⟨2 * w,l3,_,rfl,rfl,rfl,Yt,Yt,Yt,hp3,qc.all (λp h1 h2=>h.before h2 (hpre p h1 h2)) hda Yt (by rw[hp3.length_eq];omega) (by rw[hp3.length_eq,<- hn];exact h.srt)⟩,rfl,aF rfl⟩
  ·refine vK1 ?_;rw[Nat.min_eq_right Yt]at hs1;exact⟨_,[_],_,Yt,⟨2 * w,l2,_,rfl,rfl,rfl,Yt,Yt,Yt,hp2,hpre.all hda Yt Yt hs1⟩,rfl,aF rfl⟩
 ·refine vK1 ?_;exact finG.n (EndsG.sr _ rfl ⟨hp1,hall.one Yt⟩ (aF rfl))
instance(d:List ag)(b:Nat)(l:List dW)(n:Nat):fC lim prog 199 [(b,some (rws l))] [.arr b 0 n 4,.fn 200 [.vp [.ab 19 ak d]]] (SrQ b (λl'=>l'.Perm l/\Srt (ltV d) l')) (n=l.length/\n<=1048576/\∀r∈l,jS d r):=by
 refine fC.gb (aU 199) func199 rfl rfl λhp=>(?_);rw[ntmps199];obtain⟨hn,hb,hrb⟩:=hp;have hst:=λb l n m=>YJ d b l n m
 (refine vK2 ?_ ?_<;>with_reducible repeat intro h)
 ·exact hrb _ baa
 ·exact finG.n (EndsG.sr _ rfl h (aF rfl))
instance(d:List ag):Ctr lim prog 199 [] [.v (.slice none 0 0),.fn 200 [.vp [.ab 19 ak d]]] (.tup []) [] True:=by
 refine Ctr.bd func199 ntmps199 λhp=>?_;have hst:=YK d
 all_goals exact uU
