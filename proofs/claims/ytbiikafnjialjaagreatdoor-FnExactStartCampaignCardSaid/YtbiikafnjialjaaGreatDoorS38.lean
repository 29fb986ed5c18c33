/- Part of a proof. -/
import Derived.Test.YtbiikafnjialjaaGreatDoorS19
import Derived.Test.YtbiikafnjialjaaGreatDoorS34
import Derived.Test.YtbiikafnjialjaaGreatDoorS36
set_option linter.all false
set_option maxRecDepth 20000
set_option maxHeartbeats 4000000
open Go.Proofs.Tryz
open List
namespace Go.Dt
open Go Go.Ab
section
abbrev dO:=(Int×ah)×List Value
@[go_sem] def rkC(r:dO):List AV:=[.v (.int .i64 r.1.1),.str r.1.2.ae,.str r.1.2.aq,.pin ((r.2[3]?).getD undef) (.sl false 3 (r.1.2.af.map (ai false)))]
def rws(l:List dO):List AV:=l.flatMap rkC
def ub(a b:List dO):rws (a++b)=rws a++rws b:=flatMap_append
def mK(a:dO)(b:List dO):rws (a::b)=rkC a++rws b:=flatMap_cons
def R3:rws []=[]:=rfl
def tZ(l:List dO):(rws l).length=l.length * 4:=by
 induction l with
 | nil=>rfl
 | cons x l ih=>rw[mK,length_append,ih,length_cons];simp only[rkC,length_cons,length_nil];omega
def R2{l:List dO}{i:Nat}(h:i<l.length):rws l=rws (l.take i)++(rkC (at_ l i)++rws (l.drop (i+1))):=by rw[<- mK,<- bA h,<- ub,take_append_drop]
def SrQ(b:Nat)(R:List dO->Prop)(res:AV)(os:Sto):Prop:=∃l,res=.tup []/\os=[(b,some (rws l))]/\R l
instance{os:Sto}{b:Nat}{c:Option (List AV)}{R:List dO->Prop}{K:AV->Sto->Prop}:Rl (GK os [(b,c)] (SrQ b R) (K:=⟨K⟩)) (∀l,R l->K (.tup []) (mergeO os [(b,some (rws l))])) :=
 ⟨λk=>by rintro res os' ⟨l,rfl,rfl,h⟩;exact⟨rfl,k l h⟩⟩
def EndsG.sr{L:gaa}{P:Program}{n:Nat}{fn:Func}{t:faa}{o:Sto}{b:Nat}{R:List dO->Prop}(l:List dO)(hr:fn.results=#[])(h:R l)(ho:jM [(b,some (rws l))] o):EndsG L P fn ⟨n,t,o⟩ (SrQ b R) :=
 EndsG.eW (rs:=[]) hr ⟨l,rfl,rfl,h⟩ ⟨rfl,ho⟩
def acB(d:List ag):AV:=.vp [.sl false 19 (d.map (ak false))]
attribute [go_sem] acB
def cfV(d:List ag)(a b:dO):Int:=cfR d a.1 b.1
def ltV(d:List ag)(a b:dO):Bool:=ltR d a.1 b.1
def ym(d:List ag):Orr (ltV d):=⟨λx y=>(CH d).HL x.1 y.1,λx y z=>(CH d).trn x.1 y.1 z.1⟩
def oF(d:List ag)(a b:dO):ltV d a b=decide (cfV d a b<0):=rfl
def jC(d:List ag)(r:dO):Prop:=0<=r.1.1/\r.1.1<d.length/\d.length<=1048576
end
def rf{l:List dO}{k:Nat}(h:k<l.length):l.drop k=at_ l k::l.drop (k+1):=bA h
def uT{l:List dO}{k:Nat}(h:k<l.length):l.take (k+1)=l.take k++[at_ l k]:=by rw[take_succ_eq_append_getElem h];unfold at_;rw[getElem?_eq_getElem h];rfl
def RM{A X M Y C:List dO}{t:Nat}(hX:t<X.length)(hY:t<Y.length):∃p m q,
  rws (A++(Y.take t++(X.drop t++(M++(X.take t++(Y.drop t++C))))))=p++(rkC (at_ X t)++(m++(rkC (at_ Y t)++q))) /\
  rws (A++(Y.take (t+1)++(X.drop (t+1)++(M++(X.take (t+1)++(Y.drop (t+1)++C))))))=p++(rkC (at_ Y t)++(m++(rkC (at_ X t)++q))) /\
  p.length=(A.length+t) * 4/\m.length=(X.length+M.length - 1) * 4:=by
 refine⟨rws (A++Y.take t),rws (X.drop (t+1)++(M++X.take t)),rws (Y.drop (t+1)++C),?_,?_,?_,?_⟩
 ·rw[rf hX,rf hY];simp only[ub,mK,append_assoc,cons_append]
 ·rw[uT hX,uT hY];simp only[ub,mK,R3,append_assoc,append_nil]
 ·rw[tZ,length_append,length_take];omega
 ·rw[tZ,length_append,length_append,length_take,length_drop];omega
def AY(P S:List dO)(x y:dO):∃p q,rws (P++(x::y::S))=p++(rkC x++(rkC y++q))/\rws (P++(y::x::S))=p++(rkC y++(rkC x++q))/\p.length=P.length * 4 :=
 ⟨rws P,rws S,by simp only[ub,mK],by simp only[ub,mK],tZ P⟩
def C6{i j:Int}(h:0<=i)(hij:i<j):i<=(i+j) / 2/\(i+j) / 2<j:=by omega
@[go_sem] def acX{a:Int}:Kk .u64 a 1=a / 2:=by unfold Kk;rw[show (2:Int) ^ min (1:Int).toNat IntKind.u64.bits=2 from rfl,Int.fdiv_eq_ediv_of_nonneg _ Um]
@[go_sem] def Zv{n:Int}(h1:0<=n)(h2:n<18446744073709551616):IntKind.u64.wrap n=n:=by unfold IntKind.wrap;simp[IntKind.signed,IntKind.bits];omega
def BW{p q:List AV}{n:Nat}(h:p.length<=n):(p++q).drop n=q.drop (n - p.length):=by rw[drop_append,drop_eq_nil_of_le h,nil_append]
def BV{q:List AV}{n:Nat}(h:n=0):q.drop n=q:=by rw[h];rfl
def BX{x:AV}{q:List AV}{n:Nat}(h:0<n):(x::q).drop n=q.drop (n - 1):=by
 obtain⟨k,rfl⟩:∃k,n=k+1:=⟨n - 1,Um⟩
 rfl
def AP{p q:List AV}{n:Nat}(h:p.length<=n):(p++q).take n=p++q.take (n - p.length):=by rw[take_append,take_of_length_le h]
def AO{q:List AV}{n:Nat}(h:n=0):q.take n=[]:=by rw[h];rfl
def AQ{x:AV}{q:List AV}{n:Nat}(h:0<n):(x::q).take n=x::q.take (n - 1):=by
 obtain⟨k,rfl⟩:∃k,n=k+1:=⟨n - 1,Um⟩
 rfl
def D0:∀(a b:List AV),AV.iN (a++b)=AV.iN a++AV.iN b
 | [],b=>rfl
 | x::a,b=>by rw[cons_append,AV.iN,AV.iN,D0 a b,append_assoc]
@[go_sem] def aa1(l:List dO):AV.iN (rws l)=[]:=by
 induction l with
 | nil=>rfl
 | cons x l ih=>rw[mK,D0,ih];rfl
def Bk{l:List dO}{t:Nat}(h:t<l.length):(rws l).drop (t * 4)=rkC (at_ l t)++rws (l.drop (t+1)):=by rw[R2 h,drop_append,drop_eq_nil_of_le (by rw[tZ,length_take];omega),nil_append,tZ,length_take,show t * 4 - min t l.length * 4=0 by rw[Nat.min_eq_left Um];omega];rfl
@[go_sem] def adl:((1:Int)<0)=False:=by simp
end Go.Dt
namespace Go.Proofs
open Go.Ab Go.Dt
theorem Zf(d:List ag)(x y:Int×ah):Ctr lim prog 200 [] [.agg [.aa x.1,.str x.2.ae,.str x.2.aq,.ab 3 ai x.2.af],.agg [.aa y.1,.str y.2.ae,.str y.2.aq,.ab 3 ai y.2.af],.vp [.ab 19 ak d]] (.aa (cfR d x y)) [] ((0<=x.1/\x.1<d.length/\d.length<=1048576)/\(0<=y.1/\y.1<d.length)):=by
 refine Ctr.bd func200 ntmps200 λhp=>?_;have gOn:=bI.on;obtain⟨⟨h1,h2,h3⟩,h4,h5⟩:=hp
 (refine vU2 ?_ ?_<;>intro h)
 ·rw[cfR,if_neg Um]
 ·rw[cfR,if_pos Um]
instance(d:List ag)(x y:dO):Ctr lim prog 200 [] [.agg [.aa x.1.1,.str x.1.2.ae,.str x.1.2.aq,.pin ((x.2[3]?).getD undef) (.ab 3 ai x.1.2.af)],.agg [.aa y.1.1,.str y.1.2.ae,.str y.1.2.aq,.pin ((y.2[3]?).getD undef) (.ab 3 ai y.1.2.af)],.vp [.ab 19 ak d]] (.aa (cfV d x y)) [] (jC d x/\jC d y) :=
 Ctr.kK (aT 200) λhp=>gj.pins ((Zf d x.1 y.1).pure ⟨hp.1,hp.2.1,hp.2.2.1⟩) λF w vs hr=>by
  simp only[au]at hr ⊢;obtain⟨y1,v1,f1,g1,rfl,e1,h1,y2,v2,f2,g2,rfl,e2,h2,r⟩:=hr;refine⟨y1,_,f1,g1,rfl,e1,?_,y2,_,f2,g2,rfl,e2,?_,r⟩
  ·simp only[Rep]at h1 ⊢;obtain⟨us,e,h⟩:=h1;exact⟨us,e,by simpa only[iW,AV.unp]using h.unp⟩
  ·simp only[Rep]at h2 ⊢;obtain⟨us,e,h⟩:=h2;exact⟨us,e,by simpa only[iW,AV.unp]using h.unp⟩
section
attribute [local go_sem] BW BV BX AP AO AQ
theorem OC(d:List ag)(b:Nat)(la lx lm ly lc:List dO)(n:Nat)(i j k:Int):Ctr lim prog 342 [(b,some (rws (la++(lx++(lm++(ly++lc))))))] [.arr b 0 n 4,.aa i,.aa j,.aa k,.fn 200 [.vp [.ab 19 ak d]]] (.tup []) [some (rws (la++(ly++(lm++(lx++lc)))))] (n=la.length+lx.length+lm.length+ly.length+lc.length/\i=la.length/\j=la.length+lx.length+lm.length/\k=lx.length/\lx.length=ly.length/\n<=1048576):=by
 refine Ctr.bd func342 ntmps342 λhp=>?_;have gOn:=bI.on;obtain⟨hn,hi,hj,hk,hXY,hb⟩:=hp;refine vU1 ?_;refine AW.aw [10] [0,1,2,3,4] (λm xs o=>∃t:Nat,xs=[.aa t]/\o=[(b,some (rws (la++(ly.take t++(lx.drop t++(lm++(lx.take t++(ly.drop t++lc))))))))]/\m=lx.length - t/\t<=lx.length) lx.length [(b,some (rws (la++(lx++(lm++(ly++lc))))))] (aE rfl) ⟨0,?_,?_,rfl,?_⟩ ?_
 ·rfl
 ·simp
 ·omega
 rintro m xs o ⟨t,rfl,rfl,rfl,ht⟩;refine vK1 ?_;refine AW.c (λh=>?_) λh=>?_
 ·obtain⟨p,mm,q,e1,e2,hp1,hp2⟩:=RM (A:=la) (X:=lx) (M:=lm) (Y:=ly) (C:=lc) (t:=t) Um Um;rw[e1];simp only[rkC]at e1 e2 ⊢
  repeat refine Y ?_
  refine AW.ot [(0,.arr b 0 n 4),(1,.aa i),(2,.aa j),(3,.aa k),(4,.fn 200 [.vp [.ab 19 ak d]]),(10,.aa t)] [(b,some (rws (la++(ly.take (t+1)++(lx.drop (t+1)++(lm++(lx.take (t+1)++(ly.drop (t+1)++lc))))))))] (iS.h (P:=prog)) (λK hK=>?_) ?_
  ·refine az.fxs (fuel:=6) caa [0,1,2,3,4,5,6,7,8,9,10,11,12,14,15,16,17,18] caa ?_;refine gS ?_;refine⟨Um,Um,?_⟩;clear e1;refine az.sp 5 [13,19] (gT ?_);refine And.intro ?_ ?_
   ·refine az.sp 4 [19] (gT ?_);refine az.sp 3 [20] (gT ?_);refine vN1 ?_;refine az.sp 2 [21] (gT ?_);refine vN1 ?_;refine az.sp 1 [22] (gT ?_);refine vN1 ?_;refine az.sp 0 [23] (gT ?_);refine vN1 ?_;refine az.fR [0,1,2,3,4,10] [(b,some (rws (la++(ly.take (t+1)++(lx.drop (t+1)++(lm++(lx.take (t+1)++(ly.drop (t+1)++lc))))))))] caa (aE ?_) ?_
    ·rw[e2];simp only[append_assoc,cons_append,nil_append]
     all_goals simp(maxSteps:=2000000) (disch:=omega)only[go_sem]
     all_goals simp only[append_assoc,cons_append,nil_append]
    ·refine gS ?_;exact hK
   ·refine az.sp 4 [13] (gT ?_);refine az.sp 3 [20] (gT ?_);refine vN1 ?_;refine az.sp 2 [21] (gT ?_);refine vN1 ?_;refine az.sp 1 [22] (gT ?_);refine vN1 ?_;refine az.sp 0 [23] (gT ?_);refine vN1 ?_;refine az.fR [0,1,2,3,4,10] [(b,some (rws (la++(ly.take (t+1)++(lx.drop (t+1)++(lm++(lx.take (t+1)++(ly.drop (t+1)++lc))))))))] caa (aE ?_) ?_
    ·rw[e2];simp only[append_assoc,cons_append,nil_append]
     all_goals simp(maxSteps:=2000000) (disch:=omega)only[go_sem]
     all_goals simp only[append_assoc,cons_append,nil_append]
    ·refine gS ?_;exact hK
  ·refine vK1 ?_;exact⟨_,[_],_,Um,⟨t+1,rfl,rfl,rfl,Um⟩,rfl,aE rfl⟩
 ·obtain rfl:t=lx.length:=by omega
  rw[hXY,take_length,drop_length,<- hXY,take_length,drop_length,nil_append,nil_append]
  all_goals exact uU
end
theorem aa2(d:List ag)(b:Nat)(la lx ly lc:List dO)(n:Nat)(a m e:Int):Ctr lim prog 320 [(b,some (rws (la++(lx++(ly++lc)))))] [.arr b 0 n 4,.aa a,.aa m,.aa e,.fn 200 [.vp [.ab 19 ak d]]] (.tup []) [some (rws (la++(ly++(lx++lc))))] (n=la.length+lx.length+ly.length+lc.length/\a=la.length/\m=la.length+lx.length/\e=la.length+lx.length+ly.length/\0<lx.length/\0<ly.length/\n<=1048576):=by
 refine Ctr.bd func320 ntmps320 λhp=>?_;have gOn:=bI.on;obtain⟨hn,rfl,rfl,rfl,hX0,hY0,hb⟩:=hp;refine vU1 ?_;refine AW.aw [10,11] [0,2,4] (λm xs o=>∃(lp lx' ly' ls:List dO) (i j:Int),xs=[.aa i,.aa j]/\o=[(b,some (rws (la++(lp++(lx'++(ly'++(ls++lc)))))))]/\m=lx'.length+ly'.length/\i=lx'.length/\j=ly'.length/\0<lx'.length/\0<ly'.length/\lp++(ly'++(lx'++ls))=ly++lx/\lp.length+lx'.length=lx.length/\ly'.length+ls.length=ly.length) (lx.length+ly.length) [(b,some (rws (la++(lx++(ly++lc)))))] (aE rfl) ⟨[],lx,ly,[],_,_,rfl,rfl,rfl,?_,?_,hX0,hY0,?_,?_,?_⟩ ?_
 ·omega
 ·omega
 ·simp
 ·simp
 ·simp
 rintro k xs o ⟨lp,lx',ly',ls,i,j,rfl,rfl,rfl,hi,hj,hX,hY,hR,hPX,hYS⟩;refine vK1 ?_;refine AW.c (λh=>?_) λh=>?_
 ·refine vK1 ?_;refine AW.c (λh=>?_) λh=>?_
  ·obtain⟨x1,x2,rfl,hX1⟩:∃x1 x2,lx'=x1++x2/\x1.length=ly'.length:=⟨lx'.take ly'.length,lx'.drop ly'.length,(take_append_drop _ _).symm,by rw[length_take];omega⟩
   simp only[length_append]at hi hX hPX;rw[show rws (la++(lp++((x1++x2)++(ly'++(ls++lc)))))=rws ((la++lp)++(x1++(x2++(ly'++(ls++lc))))) by simp only[append_assoc]];have hsw:=λi j k=>OC d b (la++lp) x1 x2 ly' (ls++lc) n i j k;refine vK1 ?_;exact⟨_,[_,_],_,by(try simp only[length_append]);omega,⟨lp++ly',x2,x1,ls,_,_,rfl,rfl,rfl,Um,Um,Um,Um,by rw[<- hR];simp only[append_assoc],by simp only[length_append];omega,Um⟩,rfl,aE (by simp only[append_assoc])⟩
  ·obtain⟨y1,y2,rfl,hY2⟩:∃y1 y2,ly'=y1++y2/\y2.length=lx'.length:=⟨ly'.take (ly'.length - lx'.length),ly'.drop (ly'.length - lx'.length),(take_append_drop _ _).symm,by rw[length_drop];omega⟩
   simp only[length_append]at hj hY hYS;rw[show rws (la++(lp++(lx'++((y1++y2)++(ls++lc)))))=rws ((la++lp)++(lx'++(y1++(y2++(ls++lc))))) by simp only[append_assoc]];haveI:=λi j k=>OC d b (la++lp) lx' y1 y2 (ls++lc) n i j k;refine vK1 ?_;exact⟨_,[_,_],_,by(try simp only[length_append]);omega,⟨lp,y2,y1,lx'++ls,_,_,rfl,rfl,rfl,Um,Um,Um,Um,by rw[<- hR];simp only[append_assoc],Um,by simp only[length_append];omega⟩,rfl,aE (by simp only[append_assoc])⟩
 ·have hl:lx'.length=ly'.length:=by omega
  have hsw:=λi j k=>OC d b (la++lp) lx' [] ly' (ls++lc) n i j k;simp only[nil_append]at hsw
  have he:la++lp++(ly'++(lx'++(ls++lc)))=la++(ly++(lx++lc)):=by
   rw[<- append_assoc ly lx lc,<- hR];simp only[append_assoc]
  rw[he]at hsw;rw[show rws (la++(lp++(lx'++(ly'++(ls++lc)))))=rws ((la++lp)++(lx'++(ly'++(ls++lc)))) by simp only[append_assoc]]
  all_goals exact uU
section
attribute [local go_sem] BW BV BX AP AO AQ
theorem abu(d:List ag)(b:Nat)(l:List dO)(n:Nat)(a e:Int):fe lim prog 294 [(b,some (rws l))] [.arr b 0 n 4,.aa a,.aa e,.fn 200 [.vp [.ab 19 ak d]]] (SrQ b (Part (ltV d) a.toNat e.toNat l)) (n=l.length/\0<=a/\a<=e/\e<=n/\n<=1048576/\∀r∈l,jC d r):=by
 refine fe.fX (aT 294) func294 rfl rfl λhp=>(?_);rw[ntmps294];have gOn:=bI.on;obtain⟨rfl,ha,hae,hen,hb,hrb⟩:=hp;obtain⟨la,lx,lc,rfl,hA,hX⟩:=WD (l:=l) (a:=a.toNat) (b:=e.toNat) Um Um;have ho:=ym d;simp only[length_append]at hen hb;refine vK1 ?_;refine AW.aw [8] [0,1,2,3] (λm xs o=>∃(ls lr:List dO) (i:Int),xs=[.aa i]/\o=[(b,some (rws (la++(ls++(lr++lc)))))]/\m=lr.length/\(ls++lr).Perm lx/\Srt (ltV d) ls/\(i=la.length+ls.length\/(lr=[]/\la.length+ls.length<=i))) (lx.length - 1) [(b,some (rws (la++(lx++lc))))] (aE rfl) ?_ ?_
 ·have hA':a=la.length:=by omega
  rcases lx with _|⟨x,xs⟩
  ·exact⟨[],[],a+1,rfl,rfl,rfl,.refl _,Srt.nil,.inr ⟨rfl,by simp only[length_nil];omega⟩⟩
  ·exact⟨[x],xs,a+1,rfl,rfl,Xp,.refl _,Srt.one _,.inl (by rw[hA'];rfl)⟩
 rintro m xs o ⟨ls,lr,i,rfl,rfl,rfl,hp,hs,hi⟩;have hpl:=hp.length_eq;simp only[length_append]at hpl;refine vK1 ?_;refine AW.c (λh=>?_) λh=>?_
 ·obtain⟨x,lr,rfl⟩:∃x lr',lr=x::lr':=by
   rcases lr with _|⟨x,lr'⟩
   ·simp only[length_nil]at hpl;rcases hi with hi|hi<;>omega
   ·exact⟨x,lr',rfl⟩
  have hi:i=la.length+ls.length:=by
   rcases hi with hi|hi
   ·exact hi
   ·exact absurd hi.1 Xp
  simp only[length_cons]at hpl;refine vK1 ?_;refine AW.aw [9] [0,1,2,3,8] (λm xs o=>∃(s1 s2:List dO) (j:Int),xs=[.aa j]/\o=[(b,some (rws (la++(s1++(x::(s2++(lr++lc)))))))]/\m=s1.length/\s1++s2=ls/\(∀y∈s2,ltV d x y=true)/\j=la.length+s1.length) ls.length [(b,some (rws (la++(ls++(x::lr++lc)))))] (aE rfl) ⟨ls,[],i,rfl,rfl,rfl,Xp,Xp,hi⟩ ?_;rintro m xs o ⟨s1,s2,j,rfl,rfl,rfl,hss,hlt,hj⟩;rcases Bf s1 with rfl|⟨s1,z,rfl⟩
  ·have hj:j=la.length:=by simpa using hj
   have hg:decide (a<j)=false:=by simp;omega
   have hL:(la++x::(s2++(lr++lc))).length=la.length+1+s2.length+lr.length+lc.length:=by simp;omega
   rw[nil_append]at hss;subst hss
   (repeat' first|(with_reducible first|refine Z ?_|refine Y ?_|(refine hK _ _ ?_;clear hK K)|refine And.intro ?_ ?_|exact Ct|intro(K:_->_->Prop) hK|(refine gI λhg=>?_;try simp only[hC,reduceCtorEq]at hg;try simp only[hg]))|((with_reducible refine E ?_;repeat refine Y ?_);refine eF rfl ?_)|simp(disch:=omega)only[go_sem,hg,Bk]|(with_reducible intro hg;try simp only[hC,reduceCtorEq]at hg)|exact Cl|fail)
   refine AW.e λh=>?_;refine vK1 ?_;exact⟨_,[_],_,by(try simp only[length_cons]);omega,⟨x::s2,lr,i+1,rfl,rfl,rfl,(List.perm_middle.symm.trans hp),GD (S1:=[]) ho hs hlt Xp,.inl (by(try simp only[length_cons]);omega)⟩,rfl,aE rfl⟩
  ·have hg:decide (a<j)=true:=by simp at hj;simp;omega
   obtain⟨p,q,e1,e2,hp1⟩:=AY (la++s1) (s2++(lr++lc)) z x;have e3:la++((s1++[z])++(x::(s2++(lr++lc))))=la++s1++(z::x::(s2++(lr++lc))):=by simp
   have e4:la++(s1++(x::(z::s2++(lr++lc))))=la++s1++(x::z::(s2++(lr++lc))):=by simp
   rw[e3,e1];simp only[rkC]at e1 e2 ⊢;simp only[length_append,length_cons,length_nil]at hj hp1;have hsl:s1.length+1+s2.length=ls.length:=by rw[<- hss];simp;omega
   have hrx:jC d x:=hrb x (by rw[mem_append,mem_append];exact .inr (.inl (hp.mem_iff.1 Xp)))
   have hrz:jC d z:=hrb z (by rw[mem_append,mem_append];exact .inr (.inl (hp.mem_iff.1 (by rw[<- hss];simp))))
   (refine vQ1 hg ?_;with_reducible repeat first|intro(K:_->_->Prop) hK|intro h)
   refine AW.c (λh=>?_) λh=>?_
   ·repeat refine Y ?_
    refine AW.ot [(0,.arr b 0 (la.length+(lx.length+lc.length)) 4),(1,.aa a),(2,.aa e),(3,.fn 200 [.vp [.ab 19 ak d]]),(8,.aa i),(9,.aa j)] [(b,some (rws (la++(s1++(x::(z::s2++(lr++lc)))))))] (iS.h (P:=prog)) (λK hK=>?_) ?_
    ·refine az.fxs (fuel:=6) caa [0,1,2,3,4,5,6,7,8,10,11,12] caa ?_;refine gS ?_;refine⟨Um,Um,?_⟩;clear e1;refine az.sp 5 [9,13] (gT ?_);refine And.intro ?_ ?_
     ·refine az.sp 4 [13] (gT ?_);refine az.sp 3 [14] (gT ?_);refine vN1 ?_;refine az.sp 2 [15] (gT ?_);refine vN1 ?_;refine az.sp 1 [16] (gT ?_);refine vN1 ?_;refine az.sp 0 [17] (gT ?_);refine vN1 ?_;refine az.fR [0,1,2,3,8,9] [(b,some (rws (la++(s1++(x::(z::s2++(lr++lc)))))))] caa (aE ?_) ?_
      ·rw[e4,e2];simp only[append_assoc,cons_append,nil_append];exact gO
       try simp only[append_assoc,cons_append,nil_append]
      ·refine gS ?_;exact hK
     ·refine az.sp 4 [9] (gT ?_);refine az.sp 3 [14] (gT ?_);refine vN1 ?_;refine az.sp 2 [15] (gT ?_);refine vN1 ?_;refine az.sp 1 [16] (gT ?_);refine vN1 ?_;refine az.sp 0 [17] (gT ?_);refine vN1 ?_;refine az.fR [0,1,2,3,8,9] [(b,some (rws (la++(s1++(x::(z::s2++(lr++lc)))))))] caa (aE ?_) ?_
      ·rw[e4,e2];simp only[append_assoc,cons_append,nil_append];exact gO
       try simp only[append_assoc,cons_append,nil_append]
      ·refine gS ?_;exact hK
    ·refine vK1 ?_
     exact⟨_,[_],_,by(try simp only[length_append,length_cons,length_nil]);omega,⟨s1,z::s2,j - 1,rfl,rfl,rfl,by rw[<- hss];simp,λy hy=>by
      rcases List.mem_cons.1 hy with rfl|hy
      ·rw[oF];simpa using h
      ·exact hlt y hy,Um⟩,rfl,aE Xp⟩
   ·refine vK1 ?_
    have hp':((s1++[z])++(x::s2)++lr).Perm lx:=by
     refine List.Perm.trans ?_ hp;rw[<- hss];simp only[append_assoc,cons_append,nil_append];exact((List.perm_middle.symm).cons z).append_left s1
    exact⟨_,[_],_,by(try simp only[length_cons]);omega,⟨(s1++[z])++(x::s2),lr,i+1,rfl,rfl,rfl,hp',GD ho (by rw[hss];exact hs) hlt (by
     intro y hy;have:y=z:=by simpa using hy.symm
     rw[this,oF];simpa using h),.inl (by(try simp only[length_append,length_cons,length_nil]);omega)⟩,rfl,aE (by rw[show la++(s1++[z]++x::s2++(lr++lc))=la++s1++(z::x::(s2++(lr++lc))) by simp];exact e1)⟩
 ·refine vK1 ?_
  obtain rfl:lr=[]:=by
   rcases hi with hi|hi
   ·exact List.length_eq_zero_iff.1 Um
   ·exact hi.1
  rw[append_nil]at hp;exact finG.n (EndsG.sr _ rfl ⟨la,lx,ls,lc,rfl,rfl,hA,hX,hp,hs⟩ (aE rfl))
end
section
attribute [local go_sem] BW BV BX AP AO AQ
theorem X8(d:List ag)(b:Nat)(l:List dO)(n:Nat)(a m e:Int)(hma:m - a=1)(hp:n=l.length/\0<=a/\a<m/\m<e/\e<=n/\n<=1048576/\(∀r∈l,jC d r)/\gL (ltV d) a.toNat m.toNat l/\gL (ltV d) m.toNat e.toNat l) :
  fe lim prog 295 [(b,some (rws l))] [.arr b 0 n 4,.aa a,.aa m,.aa e,.fn 200 [.vp [.ab 19 ak d]]] (SrQ b (Part (ltV d) a.toNat e.toNat l)) True:=by
 obtain⟨hn,ha,ham,hme,hen,hb,hrb,hsX,hsY⟩:=hp;refine fe.fX (aT 295) func295 rfl rfl λhp=>(?_);rw[ntmps295];have gOn:=bI.on
 have ho:=ym d;obtain⟨la,lx,ly,lc,rfl,hA,hX,hY⟩:=Qw (l:=l) (a:=a.toNat) (m:=m.toNat) (b:=e.toNat) Um Um Um;rw[jV hA hX]at hsX;rw[<- append_assoc,jV (by rw[length_append];exact hX) (by rw[length_append];exact hY)]at hsY;have hrY:∀r∈ly,jC d r:=λr hr=>hrb r (by simp[hr]);obtain⟨x,rfl⟩:∃x,lx=[x]:=List.length_eq_one_iff.1 Um;have hrx:jC d x:=hrb x Xp
 have hL:(la++([x]++(ly++lc))).length=la.length+(1+(ly.length+lc.length)):=by simp;omega
 have hL':(la++x::(ly++lc)).length=la.length+(1+(ly.length+lc.length)):=by simp;omega
 simp only[length_cons,length_nil]at hX hY;have ex:at_ (la++x::(ly++lc)) a.toNat=x:=by rw[oN Um,show a.toNat - la.length=0 by omega];rfl
 have ey:∀t:Int,m<=t->t<e->at_ (la++x::(ly++lc)) t.toNat=at_ ly (t - m).toNat:=λt h1 h2=>by
  rw[show la++x::(ly++lc)=(la++[x])++(ly++lc) by simp,oN (by simp;omega),yT (by simp;omega)]
  congr 1;simp;omega
 rw[hL]at hn;clear hL
 (refine vQ1 hma ?_;with_reducible repeat first|intro(K:_->_->Prop) hK|intro h)
 refine AW.e λh=>?_
 ·refine vK1 ?_;refine AW.aw [10,11] [0,1,4] (λk xs o=>∃i j:Int,xs=[.aa i,.aa j]/\o=[(b,some (rws (la++x::(ly++lc))))]/\k=(j - i).toNat/\m<=i/\i<=j/\j<=e/\(∀t:Nat,t<i - m->ltV d (at_ ly t) x=true)/\∀t:Nat,j - m<=t->t<ly.length->ltV d (at_ ly t) x=false) (e - m).toNat [(b,some (rws (la++x::(ly++lc))))] (aE rfl) ⟨m,e,rfl,rfl,rfl,Um,Um,Um,λt ht=>by omega,λt ht1 ht2=>by omega⟩ ?_;rintro k xs o ⟨i,j,rfl,rfl,rfl,hi,hij,hj,hLo,hHi⟩;refine vK1 ?_;refine AW.c (λh=>?_) λh=>?_
  ·have hh:=C6 (i:=i) (j:=j) Um h
   have ew:=ey ((i+j) / 2) Um Um
   have hrw:jC d (at_ ly ((i+j) / 2 - m).toNat):=hrY _ (at_mem Um)
   (repeat' first|(with_reducible first|refine Z ?_|refine Y ?_|(refine hK _ _ ?_;clear hK K)|refine And.intro ?_ ?_|exact Ct|intro(K:_->_->Prop) hK|(refine gI λhg=>?_;try simp only[hC,reduceCtorEq]at hg;try simp only[hg]))|((with_reducible refine E ?_;repeat refine Y ?_);refine eF rfl ?_)|simp(disch:=omega)only[go_sem,Bk,ex,ew]|(with_reducible intro hg;try simp only[hC,reduceCtorEq]at hg)|exact Cl|fail)
   refine AW.c (λh=>?_) λh=>?_
   ·refine vK1 ?_;have hlt:ltV d (at_ ly ((i+j) / 2 - m).toNat) x=true:=by rw[oF];simpa using h
    exact⟨_,[_,_],_,Um,⟨(i+j) / 2+1,j,rfl,rfl,rfl,Um,Um,hj,λt ht=>acF ho hsY Um hlt Um,hHi⟩,rfl,aE rfl⟩
   ·refine vK1 ?_;have hge:ltV d (at_ ly ((i+j) / 2 - m).toNat) x=false:=by rw[oF];simpa using h
    exact⟨_,[_,_],_,Um,⟨i,(i+j) / 2,rfl,rfl,rfl,hi,Um,Um,hLo,λt h1 h2=>acE ho hsY h2 hge Um⟩,rfl,aE rfl⟩
  ·obtain rfl:i=j:=by omega
   refine vK1 ?_;refine AW.aw [13] [0,10] (λq xs o=>∃k:Int,xs=[.aa k]/\o=[(b,some (rws (la++(ly.take (k - a).toNat++(x::(ly.drop (k - a).toNat++lc))))))]/\q=(i - 1 - k).toNat/\a<=k/\k<=i - 1) (i - 1 - a).toNat [(b,some (rws (la++x::(ly++lc))))] (aE rfl) ⟨a,rfl,by rw[Int.sub_self];rfl,rfl,Um,Um⟩ ?_;rintro q xs o ⟨k,rfl,rfl,rfl,hak,hki⟩;refine vK1 ?_;refine AW.c (λh=>?_) λh=>?_
   ·have hkl:(k - a).toNat<ly.length:=by omega
    obtain⟨p,q,e1,e2,hp1⟩:=AY (la++ly.take (k - a).toNat) (ly.drop ((k - a).toNat+1)++lc) x (at_ ly (k - a).toNat);have e3:la++(ly.take (k - a).toNat++(x::(ly.drop (k - a).toNat++lc)))=la++ly.take (k - a).toNat++(x::at_ ly (k - a).toNat::(ly.drop ((k - a).toNat+1)++lc)):=by rw[rf hkl];simp
    have e4:la++(ly.take (k+1 - a).toNat++(x::(ly.drop (k+1 - a).toNat++lc)))=la++ly.take (k - a).toNat++(at_ ly (k - a).toNat::x::(ly.drop ((k - a).toNat+1)++lc)):=by rw[show (k+1 - a).toNat=(k - a).toNat+1 by omega,uT hkl];simp
    rw[e3,e1];simp only[rkC]at e1 e2 ⊢;rw[length_append,length_take]at hp1
    repeat refine Y ?_
    refine AW.ot [(0,.arr b 0 n 4),(10,.aa i),(13,.aa k)] [(b,some (rws (la++(ly.take (k+1 - a).toNat++(x::(ly.drop (k+1 - a).toNat++lc))))))] (iS.h (P:=prog)) (λK hK=>?_) ?_
    ·refine az.fxs (fuel:=6) caa [0,1,2,3,4,5,6,7,8,10,11,12] caa ?_;refine gS ?_;refine⟨Um,Um,?_⟩;clear e1;refine az.sp 5 [9,13] (gT ?_);refine And.intro ?_ ?_
     ·refine az.sp 4 [13] (gT ?_);refine az.sp 3 [14] (gT ?_);refine vN1 ?_;refine az.sp 2 [15] (gT ?_);refine vN1 ?_;refine az.sp 1 [16] (gT ?_);refine vN1 ?_;refine az.sp 0 [17] (gT ?_);refine vN1 ?_;refine az.fR [0,10,13] [(b,some (rws (la++(ly.take (k+1 - a).toNat++(x::(ly.drop (k+1 - a).toNat++lc))))))] caa (aE ?_) ?_
      ·rw[e4,e2];simp only[append_assoc,cons_append,nil_append];refine gS ?_
       try simp only[append_assoc,cons_append,nil_append]
      ·refine gS ?_;exact hK
     ·refine az.sp 4 [9] (gT ?_);refine az.sp 3 [14] (gT ?_);refine vN1 ?_;refine az.sp 2 [15] (gT ?_);refine vN1 ?_;refine az.sp 1 [16] (gT ?_);refine vN1 ?_;refine az.sp 0 [17] (gT ?_);refine vN1 ?_;refine az.fR [0,10,13] [(b,some (rws (la++(ly.take (k+1 - a).toNat++(x::(ly.drop (k+1 - a).toNat++lc))))))] caa (aE ?_) ?_
      ·rw[e4,e2];simp only[append_assoc,cons_append,nil_append];refine gS ?_
       try simp only[append_assoc,cons_append,nil_append]
      ·refine gS ?_;exact hK
    ·refine vK1 ?_;exact⟨_,[_],_,Um,⟨k+1,rfl,rfl,rfl,Um,Um⟩,rfl,aE rfl⟩
   ·obtain rfl:k=i - 1:=by omega
    refine vK1 ?_;refine AW.ret ?_
    repeat refine Y ?_
    refine EndsG.sr _ rfl ⟨la,[x]++ly,ly.take (i - 1 - a).toNat++x::ly.drop (i - 1 - a).toNat,lc,Xp,rfl,hA,by simp;omega,?_,?_⟩ (aE Xp)
    ·refine List.perm_middle.trans ?_;rw[take_append_drop];exact .refl _
    ·refine Sa ho (by rw[take_append_drop];exact hsY) (λy hy=>?_) (λy hy=>?_)
     ·obtain⟨t,h1,h2,rfl⟩:=zh hy;exact hLo t Um
     ·obtain⟨t,h1,h2,rfl⟩:=zi hy;exact hHi t Um h2
end
section
attribute [local go_sem] BW BV BX AP AO AQ
theorem X7(d:List ag)(b:Nat)(l:List dO)(n:Nat)(a m e:Int)(hma:¬m - a=1)(hem:e - m=1)(hp:n=l.length/\0<=a/\a<m/\m<e/\e<=n/\n<=1048576/\(∀r∈l,jC d r)/\gL (ltV d) a.toNat m.toNat l/\gL (ltV d) m.toNat e.toNat l) :
  fe lim prog 295 [(b,some (rws l))] [.arr b 0 n 4,.aa a,.aa m,.aa e,.fn 200 [.vp [.ab 19 ak d]]] (SrQ b (Part (ltV d) a.toNat e.toNat l)) True:=by
 obtain⟨hn,ha,ham,hme,hen,hb,hrb,hsX,hsY⟩:=hp;refine fe.fX (aT 295) func295 rfl rfl λhp=>(?_);rw[ntmps295];have gOn:=bI.on
 have ho:=ym d
 have C0:decide (m - a=1)=false:=decide_eq_false hma;obtain⟨la,lx,ly,lc,rfl,hA,hX,hY⟩:=Qw (l:=l) (a:=a.toNat) (m:=m.toNat) (b:=e.toNat) Um Um Um;rw[jV hA hX]at hsX;have hrX:∀r∈lx,jC d r:=λr hr=>hrb r (by simp[hr]);obtain⟨y,rfl⟩:∃y,ly=[y]:=List.length_eq_one_iff.1 Um;have hry:jC d y:=hrb y Xp
 have hL:(la++(lx++([y]++lc))).length=la.length+(lx.length+(lc.length+1)):=by simp
 have hL':(la++(lx++y::lc)).length=la.length+(lx.length+(lc.length+1)):=by simp
 simp only[length_cons,length_nil]at hX hY;have ey:at_ (la++(lx++y::lc)) m.toNat=y:=by rw[oN Um,oN Um,show m.toNat - la.length - lx.length=0 by omega];rfl
 have ex:∀t:Int,a<=t->t<m->at_ (la++(lx++y::lc)) t.toNat=at_ lx (t - a).toNat:=λt h1 h2=>by
  rw[oN Um,yT Um]
  congr 1;omega
 rw[hL]at hn;clear hL
 (repeat' first|(with_reducible first|refine Z ?_|refine Y ?_|(refine hK _ _ ?_;clear hK K)|refine And.intro ?_ ?_|exact Ct|intro(K:_->_->Prop) hK|(refine gI λhg=>?_;try simp only[hC,reduceCtorEq]at hg;try simp only[hg]))|((with_reducible refine E ?_;repeat refine Y ?_);refine eF rfl ?_)|simp(disch:=omega)only[go_sem,C0,hem]|(with_reducible intro hg;try simp only[hC,reduceCtorEq]at hg)|exact Cl|fail)
 refine AW.c (λh=>?_) λh=>?_
 (repeat' first|(with_reducible first|refine Z ?_|refine Y ?_|(refine hK _ _ ?_;clear hK K)|refine And.intro ?_ ?_|exact Ct|intro(K:_->_->Prop) hK|(refine gI λhg=>?_;try simp only[hC,reduceCtorEq]at hg;try simp only[hg]))|((with_reducible refine E ?_;repeat refine Y ?_);refine eF rfl ?_)|simp(disch:=omega)only[go_sem,C0,hem]|(with_reducible intro hg;try simp only[hC,reduceCtorEq]at hg)|exact Cl|fail)
 refine AW.e λh=>?_;refine vK1 ?_;refine AW.aw [14,15] [0,2,4] (λk xs o=>∃i j:Int,xs=[.aa i,.aa j]/\o=[(b,some (rws (la++(lx++y::lc))))]/\k=(j - i).toNat/\a<=i/\i<=j/\j<=m/\(∀t:Nat,t<i - a->ltV d y (at_ lx t)=false)/\∀t:Nat,j - a<=t->t<lx.length->ltV d y (at_ lx t)=true) (m - a).toNat [(b,some (rws (la++(lx++y::lc))))] (aE rfl) ⟨a,m,rfl,rfl,rfl,Um,Um,Um,λt ht=>by omega,λt ht1 ht2=>by omega⟩ ?_;rintro k xs o ⟨i,j,rfl,rfl,rfl,hi,hij,hj,hLo,hHi⟩;refine vK1 ?_;refine AW.c (λh=>?_) λh=>?_
 ·have hh:=C6 (i:=i) (j:=j) Um h
  have ew:=ex ((i+j) / 2) Um Um
  have hrw:jC d (at_ lx ((i+j) / 2 - a).toNat):=hrX _ (at_mem Um)
  (repeat' first|(with_reducible first|refine Z ?_|refine Y ?_|(refine hK _ _ ?_;clear hK K)|refine And.intro ?_ ?_|exact Ct|intro(K:_->_->Prop) hK|(refine gI λhg=>?_;try simp only[hC,reduceCtorEq]at hg;try simp only[hg]))|((with_reducible refine E ?_;repeat refine Y ?_);refine eF rfl ?_)|simp(disch:=omega)only[go_sem,Bk,ey,ew]|(with_reducible intro hg;try simp only[hC,reduceCtorEq]at hg)|exact Cl|fail)
  refine AW.c (λh=>?_) λh=>?_
  ·refine vK1 ?_;have hge:ltV d y (at_ lx ((i+j) / 2 - a).toNat)=false:=by rw[oF];simpa using h
   exact⟨_,[_,_],_,Um,⟨(i+j) / 2+1,j,rfl,rfl,rfl,Um,Um,hj,λt ht=>acD ho hsX Um hge Um,hHi⟩,rfl,aE rfl⟩
  ·refine vK1 ?_;have hlt:ltV d y (at_ lx ((i+j) / 2 - a).toNat)=true:=by rw[oF];simpa using h
   exact⟨_,[_,_],_,Um,⟨i,(i+j) / 2,rfl,rfl,rfl,hi,Um,Um,hLo,λt h1 h2=>acC ho hsX h2 hlt Um⟩,rfl,aE rfl⟩
 ·obtain rfl:i=j:=by omega
  refine vK1 ?_;have hxl:(m - a).toNat=lx.length:=by omega
  refine AW.aw [17] [0,14] (λq xs o=>∃k:Int,xs=[.aa k]/\o=[(b,some (rws (la++(lx.take (k - a).toNat++(y::(lx.drop (k - a).toNat++lc))))))]/\q=(k - i).toNat/\i<=k/\k<=m) (m - i).toNat [(b,some (rws (la++(lx++y::lc))))] (aE rfl) ⟨m,rfl,by rw[hxl,take_length,drop_length,nil_append],rfl,Um,Um⟩ ?_;rintro q xs o ⟨k,rfl,rfl,rfl,hak,hki⟩;refine vK1 ?_;refine AW.c (λh=>?_) λh=>?_
  ·have hkl:(k - 1 - a).toNat<lx.length:=by omega
   have hk1:(k - a).toNat=(k - 1 - a).toNat+1:=by omega
   obtain⟨p,q,e1,e2,hp1⟩:=AY (la++lx.take (k - 1 - a).toNat) (lx.drop ((k - 1 - a).toNat+1)++lc) (at_ lx (k - 1 - a).toNat) y;have e3:la++(lx.take (k - a).toNat++(y::(lx.drop (k - a).toNat++lc)))=la++lx.take (k - 1 - a).toNat++(at_ lx (k - 1 - a).toNat::y::(lx.drop ((k - 1 - a).toNat+1)++lc)):=by rw[hk1,uT hkl];simp
   have e4:la++(lx.take (k - 1 - a).toNat++(y::(lx.drop (k - 1 - a).toNat++lc)))=la++lx.take (k - 1 - a).toNat++(y::at_ lx (k - 1 - a).toNat::(lx.drop ((k - 1 - a).toNat+1)++lc)):=by rw[rf hkl];simp
   rw[e3,e1];simp only[rkC]at e1 e2 ⊢;rw[length_append,length_take]at hp1
   repeat refine Y ?_
   refine AW.ot [(0,.arr b 0 n 4),(14,.aa i),(17,.aa k)] [(b,some (rws (la++(lx.take (k - 1 - a).toNat++(y::(lx.drop (k - 1 - a).toNat++lc))))))] (iS.h (P:=prog)) (λK hK=>?_) ?_
   ·refine az.fxs (fuel:=6) caa [0,1,2,3,4,5,6,7,8,10,11,12] caa ?_;refine gS ?_;refine⟨Um,Um,?_⟩;clear e1;refine az.sp 5 [9,13] (gT ?_);refine And.intro ?_ ?_
    ·refine az.sp 4 [13] (gT ?_);refine az.sp 3 [14] (gT ?_);refine vN1 ?_;refine az.sp 2 [15] (gT ?_);refine vN1 ?_;refine az.sp 1 [16] (gT ?_);refine vN1 ?_;refine az.sp 0 [17] (gT ?_);refine vN1 ?_;refine az.fR [0,14,17] [(b,some (rws (la++(lx.take (k - 1 - a).toNat++(y::(lx.drop (k - 1 - a).toNat++lc))))))] caa (aE ?_) ?_
     ·rw[e4,e2];simp only[append_assoc,cons_append,nil_append];exact gO
      try simp only[append_assoc,cons_append,nil_append]
     ·refine gS ?_;exact hK
    ·refine az.sp 4 [9] (gT ?_);refine az.sp 3 [14] (gT ?_);refine vN1 ?_;refine az.sp 2 [15] (gT ?_);refine vN1 ?_;refine az.sp 1 [16] (gT ?_);refine vN1 ?_;refine az.sp 0 [17] (gT ?_);refine vN1 ?_;refine az.fR [0,14,17] [(b,some (rws (la++(lx.take (k - 1 - a).toNat++(y::(lx.drop (k - 1 - a).toNat++lc))))))] caa (aE ?_) ?_
     ·rw[e4,e2];simp only[append_assoc,cons_append,nil_append];exact gO
      try simp only[append_assoc,cons_append,nil_append]
     ·refine gS ?_;exact hK
   ·refine vK1 ?_;exact⟨_,[_],_,Um,⟨k - 1,rfl,rfl,rfl,Um,Um⟩,rfl,aE rfl⟩
  ·obtain rfl:k=i:=by omega
   refine vK1 ?_;refine AW.ret ?_
   repeat refine Y ?_
   refine EndsG.sr _ rfl ⟨la,lx++[y],lx.take (k - a).toNat++y::lx.drop (k - a).toNat,lc,Xp,rfl,hA,by simp;omega,?_,?_⟩ (aE Xp)
   ·refine List.perm_middle.trans ?_;rw[take_append_drop];exact(perm_append_comm (l₁:=[y]) (l₂:=lx))
   ·refine R9 ho (by rw[take_append_drop];exact hsX) (λx hx=>?_) (λx hx=>?_)
    ·obtain⟨t,h1,h2,rfl⟩:=zh hx;exact hLo t Um
    ·obtain⟨t,h1,h2,rfl⟩:=zi hx;exact hHi t Um h2
end
theorem X6(d:List ag)(nn:Nat)(ih:∀(b:Nat) (l:List dO) (n:Nat) (a m e:Int),fe lim prog 295 [(b,some (rws l))] [.arr b 0 n 4,.aa a,.aa m,.aa e,.fn 200 [.vp [.ab 19 ak d]]] (SrQ b (Part (ltV d) a.toNat e.toNat l)) (n=l.length/\0<=a/\a<m/\m<e/\e<=n/\n<=1048576/\(e - a).toNat<nn/\(∀r∈l,jC d r)/\gL (ltV d) a.toNat m.toNat l/\gL (ltV d) m.toNat e.toNat l))
  (b:Nat) (l:List dO) (n:Nat) (a m e:Int) (hma:¬m - a=1) (hem:¬e - m=1) (hp:n=l.length/\0<=a/\a<m/\m<e/\e<=n/\n<=1048576/\(e - a).toNat<nn+1/\(∀r∈l,jC d r)/\gL (ltV d) a.toNat m.toNat l/\gL (ltV d) m.toNat e.toNat l) :
  fe lim prog 295 [(b,some (rws l))] [.arr b 0 n 4,.aa a,.aa m,.aa e,.fn 200 [.vp [.ab 19 ak d]]] (SrQ b (Part (ltV d) a.toNat e.toNat l)) True:=by
 obtain⟨hn,ha,ham,hme,hen,hb,hN,hrb,hsX,hsY⟩:=hp;refine fe.fX (aT 295) func295 rfl rfl λhp=>(?_);rw[ntmps295];have gOn:=bI.on
 have ho:=ym d
 have C0:decide (m - a=1)=false:=decide_eq_false hma
 have P2:decide (e - m=1)=false:=decide_eq_false hem;obtain⟨la,lx,ly,lc,rfl,hA,hX,hY⟩:=Qw (l:=l) (a:=a.toNat) (m:=m.toNat) (b:=e.toNat) Um Um Um;rw[jV hA hX]at hsX;rw[<- append_assoc,jV (by rw[length_append];exact hX) (by rw[length_append];exact hY)]at hsY;have hrX:∀r∈lx,jC d r:=λr hr=>hrb r (by simp[hr])
 have hrY:∀r∈ly,jC d r:=λr hr=>hrb r (by simp[hr])
 have hL:(la++(lx++(ly++lc))).length=la.length+(lx.length+(ly.length+lc.length)):=by simp
 have ex:∀t:Int,a<=t->t<m->at_ (la++(lx++(ly++lc))) t.toNat=at_ lx (t - a).toNat:=λt h1 h2=>by
  rw[oN Um,yT Um]
  congr 1;omega
 have ey:∀t:Int,m<=t->t<e->at_ (la++(lx++(ly++lc))) t.toNat=at_ ly (t - m).toNat:=λt h1 h2=>by
  rw[oN Um,oN Um,yT Um]
  congr 1;omega
 (repeat' first|(with_reducible first|refine Z ?_|refine Y ?_|(refine hK _ _ ?_;clear hK K)|refine And.intro ?_ ?_|exact Ct|intro(K:_->_->Prop) hK|(refine gI λhg=>?_;try simp only[hC,reduceCtorEq]at hg;try simp only[hg]))|((with_reducible refine E ?_;repeat refine Y ?_);refine eF rfl ?_)|simp(disch:=omega)only[go_sem,C0,P2]|(with_reducible intro hg;try simp only[hC,reduceCtorEq]at hg)|exact Cl|fail)
 refine AW.c (λh=>?_) λh=>?_
 ·exact absurd h hma
 (repeat' first|(with_reducible first|refine Z ?_|refine Y ?_|(refine hK _ _ ?_;clear hK K)|refine And.intro ?_ ?_|exact Ct|intro(K:_->_->Prop) hK|(refine gI λhg=>?_;try simp only[hC,reduceCtorEq]at hg;try simp only[hg]))|((with_reducible refine E ?_;repeat refine Y ?_);refine eF rfl ?_)|simp(disch:=omega)only[go_sem,C0,P2]|(with_reducible intro hg;try simp only[hC,reduceCtorEq]at hg)|exact Cl|fail)
 refine AW.c (λh=>?_) λh=>?_
 ·exact absurd h hem
 refine vK1 ?_;generalize GX:(a+e) / 2=mid
 obtain⟨s0,r0,hF⟩:∃s0 r0:Int,(mid<m->s0=mid+m - e/\r0=mid)/\(m<=mid->s0=a/\r0=m):=by
  by_cases h:mid<m
  ·exact⟨_,_,λ_=>⟨rfl,rfl⟩,λh'=>absurd h Um⟩
  ·exact⟨_,_,λh'=>absurd h' h,λ_=>⟨rfl,rfl⟩⟩
 have abN:s0<=r0/\a<=s0/\r0<=m/\r0<=mid/\mid - s0<=e - m:=by
  rcases Int.lt_or_le mid m with h|h
  ·have:=hF.1 h;omega
  ·have:=hF.2 h;omega
 refine AW.cut [0,1,2,3,4,18,19,20,21] [(0,.arr b 0 n 4),(1,.aa a),(2,.aa m),(3,.aa e),(4,.fn 200 [.vp [.ab 19 ak d]]),(18,.aa mid),(19,.aa (mid+m)),(20,.aa s0),(21,.aa r0)] [(b,some (rws (la++(lx++(ly++lc)))))] ?_ ?_
 ·refine AW.c (λh=>?_) λh=>?_
  ·have:=hF.1 h;refine vK1 ?_;rw[this.1,this.2]
  ·have:=hF.2 h;refine vK1 ?_;rw[this.1,this.2]
 refine vK1 ?_;refine AW.aw [20,21] [0,1,2,3,4,18,19,22] (λk xs o=>∃s r:Int,xs=[.aa s,.aa r]/\o=[(b,some (rws (la++(lx++(ly++lc)))))]/\k=(r - s).toNat/\s0<=s/\s<=r/\r<=r0/\(s0<s->ltV d (at_ ly (mid - s).toNat) (at_ lx (s - 1 - a).toNat)=false)/\(r<r0->ltV d (at_ ly (mid - 1 - r).toNat) (at_ lx (r - a).toNat)=true)) (r0 - s0).toNat [(b,some (rws (la++(lx++(ly++lc)))))] (aE rfl) ⟨s0,r0,rfl,rfl,rfl,Um,Um,Um,λh=>by omega,λh=>by omega⟩ ?_;rintro k xs o ⟨s,r,rfl,rfl,rfl,hs0,hsr,hr0,hLo,hHi⟩;refine vK1 ?_;refine AW.c (λh=>?_) λh=>?_
 ·have hh:=C6 (i:=s) (j:=r) Um h
  have ew1:=ex ((s+r) / 2) Um Um
  have ew2:=ey (mid+m - 1 - (s+r) / 2) Um Um
  have hi1:(mid+m - 1 - (s+r) / 2 - m).toNat=(mid - 1 - (s+r) / 2).toNat:=by congr 1;omega
  rw[hi1]at ew2;have hr1:jC d (at_ lx ((s+r) / 2 - a).toNat):=hrX _ (at_mem Um)
  have hr2:jC d (at_ ly (mid - 1 - (s+r) / 2).toNat):=hrY _ (at_mem Um)
  (repeat' first|(with_reducible first|refine Z ?_|refine Y ?_|(refine hK _ _ ?_;clear hK K)|refine And.intro ?_ ?_|exact Ct|intro(K:_->_->Prop) hK|(refine gI λhg=>?_;try simp only[hC,reduceCtorEq]at hg;try simp only[hg]))|((with_reducible refine E ?_;repeat refine Y ?_);refine eF rfl ?_)|simp(disch:=omega)only[go_sem,Bk,ew1,ew2]|(with_reducible intro hg;try simp only[hC,reduceCtorEq]at hg)|exact Cl|fail)
  refine AW.c (λh=>?_) λh=>?_
  ·refine vK1 ?_;have hge:ltV d (at_ ly (mid - 1 - (s+r) / 2).toNat) (at_ lx ((s+r) / 2 - a).toNat)=false:=by rw[oF];simpa using h
   exact⟨_,[_,_],_,Um,⟨(s+r) / 2+1,r,rfl,rfl,rfl,Um,Um,hr0,λ_=>by
    rw[show mid - ((s+r) / 2+1)=mid - 1 - (s+r) / 2 by omega,show (s+r) / 2+1 - 1=(s+r) / 2 by omega];exact hge,hHi⟩,rfl,aE rfl⟩
  ·refine vK1 ?_;have hlt:ltV d (at_ ly (mid - 1 - (s+r) / 2).toNat) (at_ lx ((s+r) / 2 - a).toNat)=true:=by rw[oF];simpa using h
   exact⟨_,[_,_],_,Um,⟨s,(s+r) / 2,rfl,rfl,rfl,hs0,Um,Um,hLo,λ_=>hlt⟩,rfl,aE rfl⟩
 obtain rfl:s=r:=by omega
 have hd1:(s - 1 - a).toNat=(s - a).toNat - 1:=by omega
 have hd2:(mid - 1 - s).toNat=(mid - s).toNat - 1:=by omega
 rw[hd1]at hLo;rw[hd2]at hHi
 have hap:∀u∈lx.take (s - a).toNat++ly.take (mid - s).toNat,∀v∈lx.drop (s - a).toNat++ly.drop (mid - s).toNat,ltV d v u=false:=by
  refine LK ho (by rw[take_append_drop];exact hsX) (by rw[take_append_drop];exact hsY) (λx hx y hy=>?_) (λy hy x hx=>?_)
  ·obtain⟨h1,rfl⟩:=DX hx Um;obtain⟨h2,rfl⟩:=zo hy;refine hLo ?_;rcases Int.lt_or_le mid m with h|h
   ·have:=hF.1 h;omega
   ·have:=hF.2 h;omega
  ·obtain⟨h1,rfl⟩:=DX hy Um;obtain⟨h2,rfl⟩:=zo hx;refine hHi ?_;rcases Int.lt_or_le mid m with h|h
   ·have:=hF.1 h;omega
   ·have:=hF.2 h;omega
 obtain⟨x1,x2,GR,hx1⟩:∃x1 x2,lx=x1++x2/\x1.length=(s - a).toNat:=⟨lx.take (s - a).toNat,lx.drop (s - a).toNat,(take_append_drop _ _).symm,by rw[length_take];omega⟩
 obtain⟨y1,y2,GQ,hy1⟩:∃y1 y2,ly=y1++y2/\y1.length=(mid - s).toNat:=⟨ly.take (mid - s).toNat,ly.drop (mid - s).toNat,(take_append_drop _ _).symm,by rw[length_take];omega⟩
 rw[GR,GQ,<- hx1,<- hy1,take_left,take_left,drop_left,drop_left]at hap;rw[GR]at hsX;rw[GQ]at hsY;have hlx:x1.length+x2.length=lx.length:=by rw[GR,length_append]
 have hly:y1.length+y2.length=ly.length:=by rw[GQ,length_append]
 have hpm:(la++(x1++(y1++(x2++(y2++lc))))).Perm (la++(lx++(ly++lc))):=by
  rw[GR,GQ];refine List.Perm.append_left la ?_;simp only[append_assoc];refine List.Perm.append_left x1 ?_;exact perm_append_comm_assoc _ _ _
 rw[show la++(lx++(ly++lc))=la++x1++(x2++(y1++(y2++lc))) by rw[GR,GQ];simp only[append_assoc]];have has:a<=s/\s<=m/\s<=mid/\mid - s<=e - m:=by omega
 rw[hL]at hn;clear hLo hHi ex ey hr0 hs0 hF abN hL hrX hrY hd1 hd2 hma hem C0 P2;refine vK1 ?_;refine AW.cut [0,1,3,4,18,20,24] [(0,.arr b 0 n 4),(1,.aa a),(3,.aa e),(4,.fn 200 [.vp [.ab 19 ak d]]),(18,.aa mid),(20,.aa s),(24,.aa (mid+m - s))] [(b,some (rws (la++(x1++(y1++(x2++(y2++lc)))))))] ?_ ?_
 ·have hro:=aa2 d b (la++x1) x2 y1 (y2++lc) n;refine AW.c (λh=>?_) λh=>?_
  ·refine vK1 ?_;simp only[append_assoc]
  ·refine vK1 ?_
   have hz:x2=[]\/y1=[]:=by
    rcases Int.lt_or_le s m with q|q
    ·exact .inr (List.length_eq_zero_iff.1 (by have:=h q;omega))
    ·exact .inl (List.length_eq_zero_iff.1 Um)
   rcases hz with rfl|rfl<;>simp
 refine Y ?_;refine Y ?_;refine AW.acy [0,3,4,18,24] [(0,.arr b 0 n 4),(3,.aa e),(4,.fn 200 [.vp [.ab 19 ak d]]),(18,.aa mid),(24,.aa (mid+m - s))] (λz1=>[(b,some (rws (la++(z1++(x2++(y2++lc))))))]) (λz1=>z1.Perm (x1++y1)/\Srt (ltV d) z1) ?_ ?_
 ·refine vK1 ?_;refine AW.c (λh=>?_) λh=>?_
  ·(refine vK4 ?_ ?_ ?_ ?_<;>with_reducible repeat intro h)
   ·exact hrb _ (hpm.mem_iff.1 baa)
   ·exact(jV hA Um).2 hsX.l
   ·rw[<- append_assoc];exact(jV (by rw[length_append];omega) (by rw[length_append];omega)).2 hsY.l
   ·have hP:=h;rw[<- append_assoc x1]at hP;obtain⟨z,rfl,h1,h2⟩:=hP.mid hA (by rw[length_append];omega);exact⟨z,⟨h1,h2⟩,rfl⟩
  ·refine vK1 ?_;refine⟨x1++y1,⟨.refl _,?_⟩,by simp only[append_assoc]⟩
   have hz:x1=[]\/y1=[]:=by
    rcases Int.lt_or_le a s with q|q
    ·exact .inr (List.length_eq_zero_iff.1 (by have:=h q;omega))
    ·exact .inl (List.length_eq_zero_iff.1 Um)
   rcases hz with rfl|rfl
   ·exact hsY.l
   ·rw[append_nil];exact hsX.l
 ·rintro z1 ⟨hz1,abH⟩;have hzl:=hz1.length_eq;rw[length_append]at hzl
  have abQ:(la++(z1++(x2++(y2++lc)))).Perm (la++(lx++(ly++lc))):=by
   refine List.Perm.trans ((hz1.append_right _).append_left la) ?_;rw[append_assoc];exact hpm
  have hfin:∀z2:List dO,z2.Perm (x2++y2)->Srt (ltV d) z2->Part (ltV d) a.toNat e.toNat (la++x1++(x2++(y1++(y2++lc)))) (la++z1++(z2++lc)):=λz2 hz2 abG=>by
   refine⟨la,x1++(x2++(y1++y2)),z1++z2,lc,by simp only[append_assoc],by simp only[append_assoc],hA,by simp only[length_append];omega,?_,Srt.app abH abG λu hu v hv=>hap u (hz1.mem_iff.1 hu) v (hz2.mem_iff.1 hv)⟩;refine(hz1.append hz2).trans ?_;rw[append_assoc];exact(perm_append_comm_assoc _ _ _).append_left x1
  refine vK1 ?_;refine AW.c (λh=>?_) λh=>?_
  ·(refine vK4 ?_ ?_ ?_ ?_<;>with_reducible repeat intro h)
   ·exact hrb _ (abQ.mem_iff.1 baa)
   ·rw[<- append_assoc];exact(jV (by rw[length_append];omega) (by rw[length_append];omega)).2 hsX.r
   ·rw[<- append_assoc,<- append_assoc];exact(jV (by simp only[length_append];omega) (by simp only[length_append];omega)).2 hsY.r
   ·have hP:=h;rw[<- append_assoc,<- append_assoc x2]at hP;obtain⟨z,rfl,h1,h2⟩:=hP.mid (by rw[length_append];omega) (by simp only[length_append];omega);exact finG.n (EndsG.sr _ rfl (hfin z h1 h2) (aE rfl))
  ·refine vK1 ?_;refine finG.n (EndsG.sr _ rfl (hfin (x2++y2) (.refl _) ?_) (aE (by simp only[append_assoc])))
   have hz:x2=[]\/y2=[]:=by
    rcases Int.lt_or_le mid (mid+m - s)with q|q
    ·exact .inr (List.length_eq_zero_iff.1 (by have:=h q;omega))
    ·exact .inl (List.length_eq_zero_iff.1 Um)
   rcases hz with rfl|rfl
   ·exact hsY.r
   ·rw[append_nil];exact hsX.r
theorem UM(d:List ag):∀(nn:Nat) (b:Nat) (l:List dO) (n:Nat) (a m e:Int),fe lim prog 295 [(b,some (rws l))] [.arr b 0 n 4,.aa a,.aa m,.aa e,.fn 200 [.vp [.ab 19 ak d]]] (SrQ b (Part (ltV d) a.toNat e.toNat l)) (n=l.length/\0<=a/\a<m/\m<e/\e<=n/\n<=1048576/\(e - a).toNat<nn/\(∀r∈l,jC d r)/\gL (ltV d) a.toNat m.toNat l/\gL (ltV d) m.toNat e.toNat l)
 | 0,b,l,n,a,m,e=>⟨(aT 295),λh=>absurd h.2.2.2.2.2.2.1 (Nat.not_lt_zero _)⟩
 | nn+1,b,l,n,a,m,e=>by
  have ih:=UM d nn;refine⟨(aT 295),λhp=>?_⟩;by_cases h1:m - a=1
  ·exact(X8 d b l n a m e h1 ⟨hp.1,hp.2.1,hp.2.2.1,hp.2.2.2.1,hp.2.2.2.2.1,hp.2.2.2.2.2.1,hp.2.2.2.2.2.2.2⟩).out trivial
  by_cases h2:e - m=1
  ·exact(X7 d b l n a m e h1 h2 ⟨hp.1,hp.2.1,hp.2.2.1,hp.2.2.2.1,hp.2.2.2.2.1,hp.2.2.2.2.2.1,hp.2.2.2.2.2.2.2⟩).out trivial
  exact(X6 d nn ih b l n a m e h1 h2 hp).out trivial
end Go.Proofs
namespace Go.Dt
section
variable {α : Type} {lt : α -> α -> Bool} {l l' : List α} {a b p q : Nat}
def Part.before(h:Part lt a b l l')(hq:q<=a)(hs:gL lt p q l):gL lt p q l':=by obtain⟨A,X,Z,C,rfl,rfl,h1,h2,hp,_⟩:=h;unfold gL at *;rw[take_append_of_le_length Um]at hs ⊢;exact hs
def Part.after(h:Part lt a b l l')(hb:b<=p)(hs:gL lt p q l):gL lt p q l':=by
 obtain⟨A,X,Z,C,rfl,rfl,h1,h2,hp,_⟩:=h;have hl:=hp.length_eq;unfold gL at *;rw[drop_take]at hs ⊢
 have e:∀W:List α,W.length=X.length->(A++(W++C)).drop p=C.drop (p - (A.length+X.length)):=λW hW=>by
  rw[<- append_assoc,drop_append,drop_eq_nil_of_le (by rw[length_append];omega),nil_append,length_append,hW]
 rw[e X rfl]at hs;rw[e Z hl];exact hs
def LS(h:l.length<=p):gL lt p q l:=by unfold gL;rw[drop_eq_nil_of_le (by rw[length_take];omega)];exact List.Pairwise.nil
def LU(h:l.length<=q):gL lt 0 q l↔Srt lt l:=by unfold gL;rw[drop_zero,take_of_length_le h]
def vS{d x y:Nat}(h1:d ∣ x)(h2:d ∣ y)(h:x<y):x+d<=y:=by
 obtain⟨i,rfl⟩:=h1;obtain⟨j,rfl⟩:=h2;have:i<j:=Nat.lt_of_mul_lt_mul_left h
 calc d * i+d=d * (i+1):=by rw[Nat.mul_add,Nat.mul_one]
  _<=d * j:=Nat.mul_le_mul_left d this
def AF(lt:α->α->Bool)(w:Nat)(l:List α):Prop:=∀p,w ∣ p->gL lt p (min (p+w) l.length) l
def pQ(lt:α->α->Bool)(d a:Nat)(l:List α):Prop:=∀p,d ∣ p->p+d<=a->gL lt p (p+d) l
def pQ.step{d:Nat}(h:pQ lt d a l)(hd:d ∣ a)(hp:Part lt a (a+d) l l'):pQ lt d (a+d) l':=λp h1 h2=>by
 rcases Nat.lt_or_ge p a with q|q
 ·exact hp.before (vS h1 hd q) (h p h1 (vS h1 hd q))
 ·obtain rfl:p=a:=by omega
  exact hp.srt
def pQ.all{d:Nat}(h:pQ lt d a l)(hd:d ∣ a)(h0:0<d)(hl:l.length<a+d)(hs:gL lt a l.length l):AF lt d l:=λp h1=>by
 rcases Nat.lt_trichotomy p a with q|q|q
 ·have:=vS h1 hd q;rcases Nat.lt_or_ge l.length (p+d)with r|r
  ·rw[Nat.min_eq_right Um];have:=h p h1 this;unfold gL at this ⊢;rw[take_of_length_le Um]at this ⊢;exact this
  ·rw[Nat.min_eq_left r];exact h p h1 this
 ·subst q;rw[Nat.min_eq_right Um];exact hs
 ·have:=vS hd h1 q;exact LS Um
def AF.one{w:Nat}(h:AF lt w l)(hw:l.length<=w):Srt lt l:=by have:=h 0 (Nat.dvd_zero _);rw[Nat.zero_add,Nat.min_eq_right hw]at this;exact(LU (Nat.le_refl _)).1 this
def Ci(lt:α->α->Bool)(w a:Nat)(l:List α):Prop:=∀p,w ∣ p->a<=p->gL lt p (min (p+w) l.length) l
def AF.post{w:Nat}(h:AF lt w l):Ci lt w 0 l:=λp h1 _=>h p h1
def pQ.zero{d:Nat}(h0:0<d):pQ lt d 0 l:=λp _ h=>by omega
def Ci.step{w:Nat}(h:Ci lt w a l)(hp:Part lt a (a+2 * w) l l'):Ci lt w (a+2 * w) l':=λp h1 h2=>by
 rw[hp.len];exact hp.after h2 (h p h1 Um)
end
end Go.Dt
namespace Go.Proofs
open Go.Ab Go.Dt
theorem abt(d:List ag):Ctr lim prog 294 [] [.v (.slice none 0 0),.aa 0,.aa 0,.fn 200 [.vp [.ab 19 ak d]]] (.tup []) [] True:=by
 refine Ctr.bd func294 ntmps294 λhp=>?_;refine vK1 ?_;refine AW.aw [] [2,8] (λm xs o=>xs=[]/\o=[]) 0 [] trivial ⟨rfl,rfl⟩ ?_;rintro m xs o ⟨rfl,rfl⟩
 all_goals exact uU
theorem Yb(d:List ag):Ctr lim prog 257 [] [.v (.slice none 0 0),.aa 0,.fn 200 [.vp [.ab 19 ak d]]] (.tup []) [] True:=by
 refine Ctr.bd func257 ntmps257 λhp=>?_;have hi:=abt d;refine vK1 ?_;refine AW.aw [7,8] [0,1,2,6] (λm xs o=>xs=[.aa 0,.aa 20]/\o=[]) 0 [] trivial ⟨rfl,rfl⟩ ?_;rintro m xs o ⟨rfl,rfl⟩;refine vK1 ?_;refine AW.c (λh=>?_) λh=>?_
 ·exact absurd h daa
 refine vK1 ?_;refine AW.aw [6] [0,1,2] (λm xs o=>xs=[.aa 20]/\o=[]) 0 [] trivial ⟨?_,rfl⟩ ?_
 ·rfl
 rintro m xs o ⟨rfl,rfl⟩;refine vK1 ?_;refine AW.c (λh=>?_) λh=>?_
 ·exact absurd h daa
 ·all_goals exact uU
theorem Ya(d:List ag)(b:Nat)(l:List dO)(n:Nat)(m:Int):fe lim prog 257 [(b,some (rws l))] [.arr b 0 n 4,.aa m,.fn 200 [.vp [.ab 19 ak d]]] (SrQ b (λl'=>l'.Perm l/\Srt (ltV d) l')) (n=l.length/\m=n/\n<=1048576/\∀r∈l,jC d r):=by
 refine fe.fX (aT 257) func257 rfl rfl λhp=>(?_);rw[ntmps257];have gOn:=bI.on;obtain⟨hn,rfl,hb,hrb⟩:=hp;have afh:=λb l n a e=>abu d b l n a e
 have ae7:=λb l n a m e=>UM d 1048577 b l n a m e;refine vK1 ?_;refine AW.aw [7,8] [0,1,2,6] (λk xs o=>∃(a:Nat) (l1:List dO) (i j:Int),xs=[.aa i,.aa j]/\o=[(b,some (rws l1))]/\k=n - a/\i=a/\j=a+20/\a<=n/\20 ∣ a/\l1.Perm l/\pQ (ltV d) 20 a l1) n [(b,some (rws l))] (aE rfl) ⟨0,l,0,20,rfl,rfl,rfl,rfl,rfl,Um,Nat.dvd_zero _,.refl _,pQ.zero Um⟩ ?_;rintro k xs o ⟨a,l1,i,j,rfl,rfl,rfl,hi,hj,han,hda,hp1,hpre⟩;have hl1:=hp1.length_eq;refine vK1 ?_;refine AW.c (λh=>?_) λh=>?_
 ·(refine vK2 ?_ ?_<;>with_reducible repeat intro h)
  ·exact hrb _ (hp1.mem_iff.1 baa)
  ·rename List dO=>l2
   rw[show i.toNat=a by omega,show j.toNat=a+20 by omega]at h;exact⟨_,[_,_],_,Um,⟨a+20,l2,j,j+20,rfl,rfl,rfl,Um,Um,Um,Nat.dvd_add hda (Nat.dvd_refl _),h.perm.trans hp1,hpre.step hda h⟩,rfl,aE rfl⟩
 (refine vK2 ?_ ?_<;>with_reducible repeat intro h)
 ·exact hrb _ (hp1.mem_iff.1 baa)
 rename List dO=>l2
 rw[show i.toNat=a by omega]at h;have hp2:=h.perm.trans hp1
 have hall:AF (ltV d) 20 l2:=pQ.all (λp h1 h2=>h.before h2 (hpre p h1 h2)) hda Um (by rw[hp2.length_eq];omega) (by rw[hp2.length_eq,<- hn];exact h.srt);clear h hpre hp1 hl1;refine AW.aw [6] [0,1,2] (λk xs o=>∃(w:Nat) (l1:List dO) (i:Int),xs=[.aa i]/\o=[(b,some (rws l1))]/\k=n - w/\i=w/\0<w/\w<=2097172/\l1.Perm l/\AF (ltV d) w l1) (n - 20) [(b,some (rws l2))] (aE rfl) ⟨20,l2,20,rfl,rfl,rfl,rfl,Um,Um,hp2,hall⟩ ?_;rintro k xs o ⟨w,l1,v,rfl,rfl,rfl,rfl,hw0,hwb,hp1,hall⟩;have hl1:=hp1.length_eq;refine vK1 ?_;refine AW.c (λh=>?_) λh=>?_
 ·refine vK1 ?_;refine AW.aw [7,8] [0,1,2,6] (λk xs o=>∃(a:Nat) (l2:List dO) (i j:Int),xs=[.aa i,.aa j]/\o=[(b,some (rws l2))]/\k=n - a/\i=a/\j=a+2 * w/\a<=n/\2 * w ∣ a/\l2.Perm l/\pQ (ltV d) (2 * w) a l2/\Ci (ltV d) w a l2) n [(b,some (rws l1))] (aE rfl) ⟨0,l1,0,2 * w,?_,rfl,rfl,rfl,Um,Um,Nat.dvd_zero _,hp1,pQ.zero Um,hall.post⟩ ?_
  ·rfl
  rintro k xs o ⟨a,l2,i,j,rfl,rfl,rfl,hi,hj,han,hda,hp2,hpre,hpost⟩;have hl2:=hp2.length_eq
  have hdw:w ∣ a:=Nat.dvd_trans (Nat.dvd_mul_left w 2) hda
  have ab9:w ∣ a+w:=Nat.dvd_add hdw (Nat.dvd_refl _)
  have hs1:=hpost a hdw (Nat.le_refl _)
  have hs2:=hpost (a+w) ab9 Um;refine vK1 ?_;refine AW.c (λh=>?_) λh=>?_
  ·rw[Nat.min_eq_left Um]at hs1 hs2
   (refine vK4 ?_ ?_ ?_ ?_<;>with_reducible repeat intro h)
   ·exact hrb _ (hp2.mem_iff.1 baa)
   ·rw[show i.toNat=a by omega,show (i+(w:Int)).toNat=a+w by omega];exact hs1
   ·rw[show (i+(w:Int)).toNat=a+w by omega,show j.toNat=a+w+w by omega];exact hs2
   ·rename List dO=>l3
    rw[show i.toNat=a by omega,show j.toNat=a+2 * w by omega]at h;exact⟨_,[_,_],_,Um,⟨a+2 * w,l3,j,j+2 * w,rfl,rfl,rfl,Um,Um,Um,Nat.dvd_add hda (Nat.dvd_refl _),h.perm.trans hp2,hpre.step hda h,hpost.step h⟩,rfl,aE rfl⟩
  refine vK1 ?_;refine AW.c (λh=>?_) λh=>?_
  ·rw[Nat.min_eq_left Um]at hs1;rw[Nat.min_eq_right Um]at hs2
   (refine vK4 ?_ ?_ ?_ ?_<;>with_reducible repeat intro h)
   ·exact hrb _ (hp2.mem_iff.1 baa)
   ·rw[show i.toNat=a by omega,show (i+(w:Int)).toNat=a+w by omega];exact hs1
   ·rw[show (i+(w:Int)).toNat=a+w by omega,hn,<- hl2];exact hs2
   ·rename List dO=>l3
    rw[show i.toNat=a by omega]at h;have hp3:=h.perm.trans hp2;exact⟨_,[_],_,Um,⟨2 * w,l3,_,rfl,rfl,rfl,Um,Um,Um,hp3,pQ.all (λp h1 h2=>h.before h2 (hpre p h1 h2)) hda Um (by rw[hp3.length_eq];omega) (by rw[hp3.length_eq,<- hn];exact h.srt)⟩,rfl,aE rfl⟩
  ·refine vK1 ?_;rw[Nat.min_eq_right Um]at hs1;exact⟨_,[_],_,Um,⟨2 * w,l2,_,rfl,rfl,rfl,Um,Um,Um,hp2,hpre.all hda Um Um hs1⟩,rfl,aE rfl⟩
 ·refine vK1 ?_;exact finG.n (EndsG.sr _ rfl ⟨hp1,hall.one Um⟩ (aE rfl))
instance(d:List ag)(b:Nat)(l:List dO)(n:Nat):fe lim prog 199 [(b,some (rws l))] [.arr b 0 n 4,.fn 200 [.vp [.ab 19 ak d]]] (SrQ b (λl'=>l'.Perm l/\Srt (ltV d) l')) (n=l.length/\n<=1048576/\∀r∈l,jC d r):=by
 refine fe.fX (aT 199) func199 rfl rfl λhp=>(?_);rw[ntmps199];obtain⟨hn,hb,hrb⟩:=hp;have hst:=λb l n m=>Ya d b l n m
 (refine vK2 ?_ ?_<;>with_reducible repeat intro h)
 ·exact hrb _ baa
 ·exact finG.n (EndsG.sr _ rfl h (aE rfl))
instance(d:List ag):Ctr lim prog 199 [] [.v (.slice none 0 0),.fn 200 [.vp [.ab 19 ak d]]] (.tup []) [] True:=by
 refine Ctr.bd func199 ntmps199 λhp=>?_;have hst:=Yb d
 all_goals exact uU
