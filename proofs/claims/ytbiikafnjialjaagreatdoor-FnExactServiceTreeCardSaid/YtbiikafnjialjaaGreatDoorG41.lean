/- Part of a proof. -/
import Derived.Test.YtbiikafnjialjaaGreatDoorG21
import Derived.Test.YtbiikafnjialjaaGreatDoorG42
set_option linter.all false
set_option maxRecDepth 20000
set_option maxHeartbeats 4000000
namespace Go.Dt
open Go Go.Ab
section
abbrev da:=(Int×ah)×List Value
@[go_sem] def rkC(r:da):List AV:=[.v (.int .i64 r.1.1),.str r.1.2.af,.str r.1.2.ax,.pin ((r.2[3]?).getD undef) (.sl false 3 (r.1.2.ag.map (ak false)))]
def rws(l:List da):List AV:=l.flatMap rkC
theorem qZ(a b:List da):rws (a++b)=rws a++rws b:=List.flatMap_append
theorem kF(a:da)(b:List da):rws (a::b)=rkC a++rws b:=List.flatMap_cons
theorem LA:rws []=[]:=rfl
theorem qY(l:List da):(rws l).length=l.length * 4:=by
 induction l with
 | nil=>rfl
 | cons x l ih=>rw [kF,List.length_append,ih,List.length_cons];simp only [rkC,List.length_cons,List.length_nil];omega
theorem Lz{l:List da}{i:Nat}(h:i<l.length):rws l=rws (l.take i)++(rkC (at_ l i)++rws (l.drop (i+1))):=by
 rw [<- kF,<- ct h,<- qZ,List.take_append_drop]
def SrQ(b:Nat)(R:List da->Prop)(res:AV)(os:Sto):Prop:=∃ l,res=.tup []/\os=[(b,some (rws l))]/\R l
instance Xj{os:Sto}{b:Nat}{c:Option (List AV)}{R:List da->Prop}{K:AV->Sto->Prop}:Rl (GK os [(b,c)] (SrQ b R) (K:=⟨K⟩)) (∀ l,R l->K (.tup []) (gJ os [(b,some (rws l))])) :=
 ⟨fun k=>by rintro res os' ⟨l,rfl,rfl,h⟩;exact ⟨rfl,k l h⟩⟩
theorem aF.sr{L:Nat->Nat}{P:Program}{n:Nat}{fn:Func}{t:List (Nat×AV)}{o:Sto}{b:Nat}{R:List da->Prop}(l:List da)(hr:fn.results=#[])(h:R l)(ho:iz [(b,some (rws l))] o):aF L P fn ⟨n,t,o⟩ (SrQ b R) :=
 aF.dO (rs:=[]) hr ⟨l,rfl,rfl,h⟩ ⟨rfl,ho⟩
def UN(d:List ae):AV:=.vp [.sl false 19 (d.map (aq false))]
attribute [go_sem] UN
def cfV(d:List ae)(a b:da):Int:=cfR d a.1 b.1
def ltV(d:List ae)(a b:da):Bool:=ltR d a.1 b.1
theorem uM(d:List ae):Orr (ltV d):=⟨fun x y=>(y5 d).DR x.1 y.1,fun x y z=>(y5 d).trn x.1 y.1 z.1⟩
theorem ml(d:List ae)(a b:da):ltV d a b=decide (cfV d a b<0):=rfl
def ij(d:List ae)(r:da):Prop:=0<=r.1.1/\r.1.1<d.length/\d.length<=1048576
end
section
theorem oT{l:List da}{k:Nat}(h:k<l.length):l.drop k=at_ l k::l.drop (k+1):=ct h
theorem rN{l:List da}{k:Nat}(h:k<l.length):l.take (k+1)=l.take k++[at_ l k]:=by
 rw [List.take_succ_eq_append_getElem h]
 unfold at_;rw [List.getElem?_eq_getElem h];rfl
theorem Lm{A X M Y C:List da}{t:Nat}(hX:t<X.length)(hY:t<Y.length):∃ p m q,
  rws (A++(Y.take t++(X.drop t++(M++(X.take t++(Y.drop t++C))))))=p++(rkC (at_ X t)++(m++(rkC (at_ Y t)++q))) /\
  rws (A++(Y.take (t+1)++(X.drop (t+1)++(M++(X.take (t+1)++(Y.drop (t+1)++C))))))=p++(rkC (at_ Y t)++(m++(rkC (at_ X t)++q))) /\
  p.length=(A.length+t) * 4/\m.length=(X.length+M.length - 1) * 4:=by
 refine ⟨rws (A++Y.take t),rws (X.drop (t+1)++(M++X.take t)),rws (Y.drop (t+1)++C),?_,?_,?_,?_⟩
 ·rw [oT hX,oT hY];simp only [qZ,kF,List.append_assoc,List.cons_append]
 ·rw [rN hX,rN hY];simp only [qZ,kF,LA,List.append_assoc,List.append_nil]
 ·rw [qY,List.length_append,List.length_take];omega
 ·rw [qY,List.length_append,List.length_append,List.length_take,List.length_drop];omega
theorem xA(P S:List da)(x y:da):∃ p q,rws (P++(x::y::S))=p++(rkC x++(rkC y++q))/\rws (P++(y::x::S))=p++(rkC y++(rkC x++q))/\p.length=P.length * 4 :=
 ⟨rws P,rws S,by simp only [qZ,kF],by simp only [qZ,kF],qY P⟩
end
section
theorem zu{i j:Int}(h:0<=i)(hij:i<j):i<=(i+j) / 2/\(i+j) / 2<j:=by omega
@[go_sem] theorem Va{a:Int}:FV .u64 a 1=a / 2:=by
 unfold FV
 rw [show (2:Int) ^ min (1:Int).toNat IntKind.u64.bits=2 from rfl,Int.fdiv_eq_ediv_of_nonneg _ (by omega)]
@[go_sem] theorem RP{n:Int}(h1:0<=n)(h2:n<18446744073709551616):IntKind.u64.wrap n=n:=by
 unfold IntKind.wrap
 simp [IntKind.signed,IntKind.bits]
 omega
end
section
theorem yD{p q:List AV}{n:Nat}(h:p.length<=n):(p++q).drop n=q.drop (n - p.length):=by rw [List.drop_append,List.drop_eq_nil_of_le h,List.nil_append]
theorem yC{q:List AV}{n:Nat}(h:n=0):q.drop n=q:=by rw [h];rfl
theorem yE{x:AV}{q:List AV}{n:Nat}(h:0<n):(x::q).drop n=q.drop (n - 1):=by
 obtain ⟨k,rfl⟩:∃ k,n=k+1:=⟨n - 1,by omega⟩
 rfl
theorem xu{p q:List AV}{n:Nat}(h:p.length<=n):(p++q).take n=p++q.take (n - p.length):=by rw [List.take_append,List.take_of_length_le h]
theorem xq{q:List AV}{n:Nat}(h:n=0):q.take n=[]:=by rw [h];rfl
theorem xw{x:AV}{q:List AV}{n:Nat}(h:0<n):(x::q).take n=x::q.take (n - 1):=by
 obtain ⟨k,rfl⟩:∃ k,n=k+1:=⟨n - 1,by omega⟩
 rfl
end
section
theorem Ay:∀ (a b:List AV),AV.iC (a++b)=AV.iC a++AV.iC b
 | [],b=>rfl
 | x::a,b=>by rw [List.cons_append,AV.iC,AV.iC,Ay a b,List.append_assoc]
@[go_sem] theorem Tg(l:List da):AV.iC (rws l)=[]:=by
 induction l with
 | nil=>rfl
 | cons x l ih=>rw [kF,Ay,ih];rfl
end
section
theorem xM{l:List da}{t:Nat}(h:t<l.length):(rws l).drop (t * 4)=rkC (at_ l t)++rws (l.drop (t+1)):=by
 rw [Lz h,List.drop_append,List.drop_eq_nil_of_le (by rw [qY,List.length_take];omega),List.nil_append,qY,List.length_take,show t * 4 - min t l.length * 4=0 by rw [Nat.min_eq_left (by omega)];omega]
 rfl
end
end Go.Dt
namespace Go.Dt
@[go_sem] theorem Vq:((1:Int)<0)=False:=by simp
end Go.Dt
namespace Go.Proofs
open Go.Ab Go.Dt
section
theorem Ry(d:List ae)(x y:Int×ah):Ctr lim Tryz.prog 200 [] [.agg [.v (.int .i64 x.1),.str x.2.af,.str x.2.ax,.sl false 3 (x.2.ag.map (ak false))],.agg [.v (.int .i64 y.1),.str y.2.af,.str y.2.ax,.sl false 3 (y.2.ag.map (ak false))],.vp [.sl false 19 (d.map (aq false))]] (.v (.int .i64 (cfR d x y))) [] ((0<=x.1/\x.1<d.length/\d.length<=1048576)/\(0<=y.1/\y.1<d.length)):=by
 refine Ctr.bd Tryz.func200 Tryz.ntmps200 rfl rfl fun hp=>?_
 have gOn:=cY.on
 obtain ⟨⟨h1,h2,h3⟩,h4,h5⟩:=hp
 (refine vU ?_;with_reducible repeat' first|exact Le.l|apply Sw|intro h)
 ·rw [cfR,if_neg (by omega)]
 ·rw [cfR,if_pos (by omega)]
instance Wj(d:List ae)(x y:da):Ctr lim Tryz.prog 200 [] [.agg [.v (.int .i64 x.1.1),.str x.1.2.af,.str x.1.2.ax,.pin ((x.2[3]?).getD undef) (.sl false 3 (x.1.2.ag.map (ak false)))],.agg [.v (.int .i64 y.1.1),.str y.1.2.af,.str y.1.2.ax,.pin ((y.2[3]?).getD undef) (.sl false 3 (y.1.2.ag.map (ak false)))],.vp [.sl false 19 (d.map (aq false))]] (.v (.int .i64 (cfV d x y))) [] (ij d x/\ij d y) :=
 Ctr.jH (aW 200) fun hp=>eS.pins ((Ry d x.1 y.1).pure ⟨hp.1,hp.2.1,hp.2.2.1⟩) fun F w vs hr=>by
  simp only [aj] at hr ⊢
  obtain ⟨y1,v1,f1,g1,rfl,e1,h1,y2,v2,f2,g2,rfl,e2,h2,r⟩:=hr
  refine ⟨y1,_,f1,g1,rfl,e1,?_,y2,_,f2,g2,rfl,e2,?_,r⟩
  ·simp only [Rep] at h1 ⊢
   obtain ⟨us,e,h⟩:=h1
   exact ⟨us,e,by simpa only [gL,AV.unp] using h.unp⟩
  ·simp only [Rep] at h2 ⊢
   obtain ⟨us,e,h⟩:=h2
   exact ⟨us,e,by simpa only [gL,AV.unp] using h.unp⟩
end
section
attribute [local go_sem] yD yC yE xu xq xw
theorem Jk(d:List ae)(b:Nat)(la lx lm ly lc:List da)(n:Nat)(i j k:Int):Ctr lim Tryz.prog 342 [(b,some (rws (la++(lx++(lm++(ly++lc))))))] [.arr b 0 n 4,.v (.int .i64 i),.v (.int .i64 j),.v (.int .i64 k),.fn 200 [.vp [.sl false 19 (d.map (aq false))]]] (.tup []) [some (rws (la++(ly++(lm++(lx++lc)))))] (n=la.length+lx.length+lm.length+ly.length+lc.length/\i=la.length/\j=la.length+lx.length+lm.length/\k=lx.length/\lx.length=ly.length/\n<=1048576):=by
 refine Ctr.bd Tryz.func342 Tryz.ntmps342 rfl rfl fun hp=>?_
 have gOn:=cY.on
 obtain ⟨hn,hi,hj,hk,hXY,hb⟩:=hp
 (refine vU ?_;with_reducible repeat' first|exact Le.l|apply Sw|intro h)
 refine AW.aw [10] [0,1,2,3,4] (fun m xs o=>∃ t:Nat,xs=[.v (.int .i64 t)]/\o=[(b,some (rws (la++(ly.take t++(lx.drop t++(lm++(lx.take t++(ly.drop t++lc))))))))]/\m=lx.length - t/\t<=lx.length) lx.length [(b,some (rws (la++(lx++(lm++(ly++lc))))))] (aE rfl) ⟨0,?_,?_,rfl,?_⟩ ?_
 ·rfl
 ·simp
 ·omega
 rintro m xs o ⟨t,rfl,rfl,rfl,ht⟩
 (refine vK ?_;with_reducible repeat' first|exact Le.l|apply Sw|intro h)
 (refine AW.i rfl (fun h=>?_) (fun h=>?_)<;>try simp only [hC,reduceCtorEq] at h)
 ·obtain ⟨p,mm,q,e1,e2,hp1,hp2⟩:=Lm (A:=la) (X:=lx) (M:=lm) (Y:=ly) (C:=lc) (t:=t) (by omega) (by omega)
  rw [e1]
  simp only [rkC] at e1 e2 ⊢
  repeat refine Y ?_
  refine AW.oB [(0,.arr b 0 n 4),(1,.v (.int .i64 i)),(2,.v (.int .i64 j)),(3,.v (.int .i64 k)),(4,.fn 200 [.vp [.sl false 19 (d.map (aq false))]]),(10,.v (.int .i64 t))] [(b,some (rws (la++(ly.take (t+1)++(lx.drop (t+1)++(lm++(lx.take (t+1)++(ly.drop (t+1)++lc))))))))] (gH.h (P:=Tryz.prog)) (fun K hK=>?_) ?_
  ·refine aH.fxs (fuel:=6) (by kernel_rfl) [0,1,2,3,4,5,6,7,8,9,10,11,12,14,15,16,17,18] (by kernel_rfl) ?_
   simp (maxSteps:=2000000) (disch:=omega) only [go_sem]
   refine ⟨by omega,by omega,?_⟩
   clear e1
   refine aH.step (fuel:=5) [13,19] (by kernel_rfl) (by simp) ?_
   simp (maxSteps:=2000000) (disch:=omega) only [go_sem,bk]
   refine And.intro ?_ ?_
   ·refine aH.step (fuel:=4) [19] (by kernel_rfl) (by simp) ?_
    simp (maxSteps:=2000000) (disch:=omega) only [go_sem,bk]
    refine aH.step (fuel:=3) [20] (by kernel_rfl) (by simp) ?_
    simp (maxSteps:=2000000) (disch:=omega) only [go_sem,bk]
    (refine vN ?_;with_reducible repeat' first|exact Le.l|apply Sw|intro h)
    refine aH.step (fuel:=2) [21] (by kernel_rfl) (by simp) ?_
    simp (maxSteps:=2000000) (disch:=omega) only [go_sem,bk]
    (refine vN ?_;with_reducible repeat' first|exact Le.l|apply Sw|intro h)
    refine aH.step (fuel:=1) [22] (by kernel_rfl) (by simp) ?_
    simp (maxSteps:=2000000) (disch:=omega) only [go_sem,bk]
    (refine vN ?_;with_reducible repeat' first|exact Le.l|apply Sw|intro h)
    refine aH.step (fuel:=0) [23] (by kernel_rfl) (by simp) ?_
    simp (maxSteps:=2000000) (disch:=omega) only [go_sem,bk]
    (refine vN ?_;with_reducible repeat' first|exact Le.l|apply Sw|intro h)
    refine aH.jD [0,1,2,3,4,10] [(b,some (rws (la++(ly.take (t+1)++(lx.drop (t+1)++(lm++(lx.take (t+1)++(ly.drop (t+1)++lc))))))))] (by kernel_rfl) (aE ?_) ?_
    ·rw [e2]
     simp only [List.append_assoc,List.cons_append,List.nil_append]
     all_goals simp (maxSteps:=2000000) (disch:=omega) only [go_sem]
     all_goals simp only [List.append_assoc,List.cons_append,List.nil_append]
    ·simp (maxSteps:=2000000) (disch:=omega) only [go_sem]
     exact hK
   ·refine aH.step (fuel:=4) [13] (by kernel_rfl) (by simp) ?_
    simp (maxSteps:=2000000) (disch:=omega) only [go_sem,bk]
    refine aH.step (fuel:=3) [20] (by kernel_rfl) (by simp) ?_
    simp (maxSteps:=2000000) (disch:=omega) only [go_sem,bk]
    (refine vN ?_;with_reducible repeat' first|exact Le.l|apply Sw|intro h)
    refine aH.step (fuel:=2) [21] (by kernel_rfl) (by simp) ?_
    simp (maxSteps:=2000000) (disch:=omega) only [go_sem,bk]
    (refine vN ?_;with_reducible repeat' first|exact Le.l|apply Sw|intro h)
    refine aH.step (fuel:=1) [22] (by kernel_rfl) (by simp) ?_
    simp (maxSteps:=2000000) (disch:=omega) only [go_sem,bk]
    (refine vN ?_;with_reducible repeat' first|exact Le.l|apply Sw|intro h)
    refine aH.step (fuel:=0) [23] (by kernel_rfl) (by simp) ?_
    simp (maxSteps:=2000000) (disch:=omega) only [go_sem,bk]
    (refine vN ?_;with_reducible repeat' first|exact Le.l|apply Sw|intro h)
    refine aH.jD [0,1,2,3,4,10] [(b,some (rws (la++(ly.take (t+1)++(lx.drop (t+1)++(lm++(lx.take (t+1)++(ly.drop (t+1)++lc))))))))] (by kernel_rfl) (aE ?_) ?_
    ·rw [e2]
     simp only [List.append_assoc,List.cons_append,List.nil_append]
     all_goals simp (maxSteps:=2000000) (disch:=omega) only [go_sem]
     all_goals simp only [List.append_assoc,List.cons_append,List.nil_append]
    ·simp (maxSteps:=2000000) (disch:=omega) only [go_sem]
     exact hK
  ·(refine vK ?_;with_reducible repeat' first|exact Le.l|apply Sw|intro h)
   exact ⟨_,[_],_,by omega,⟨t+1,rfl,rfl,rfl,by omega⟩,rfl,aE rfl⟩
 ·obtain rfl:t=lx.length:=by omega
  rw [hXY,List.take_length,List.drop_length,<- hXY,List.take_length,List.drop_length,List.nil_append,List.nil_append]
  all_goals exact uU
end
section
theorem Th(d:List ae)(b:Nat)(la lx ly lc:List da)(n:Nat)(a m e:Int):Ctr lim Tryz.prog 320 [(b,some (rws (la++(lx++(ly++lc)))))] [.arr b 0 n 4,.v (.int .i64 a),.v (.int .i64 m),.v (.int .i64 e),.fn 200 [.vp [.sl false 19 (d.map (aq false))]]] (.tup []) [some (rws (la++(ly++(lx++lc))))] (n=la.length+lx.length+ly.length+lc.length/\a=la.length/\m=la.length+lx.length/\e=la.length+lx.length+ly.length/\0<lx.length/\0<ly.length/\n<=1048576):=by
 refine Ctr.bd Tryz.func320 Tryz.ntmps320 rfl rfl fun hp=>?_
 have gOn:=cY.on
 obtain ⟨hn,rfl,rfl,rfl,hX0,hY0,hb⟩:=hp
 (refine vU ?_;with_reducible repeat' first|exact Le.l|apply Sw|intro h)
 refine AW.aw [10,11] [0,2,4] (fun m xs o=>∃ (lp lx' ly' ls:List da) (i j:Int),xs=[.v (.int .i64 i),.v (.int .i64 j)]/\o=[(b,some (rws (la++(lp++(lx'++(ly'++(ls++lc)))))))]/\m=lx'.length+ly'.length/\i=lx'.length/\j=ly'.length/\0<lx'.length/\0<ly'.length/\lp++(ly'++(lx'++ls))=ly++lx/\lp.length+lx'.length=lx.length/\ly'.length+ls.length=ly.length) (lx.length+ly.length) [(b,some (rws (la++(lx++(ly++lc)))))] (aE rfl) ⟨[],lx,ly,[],_,_,rfl,rfl,rfl,?_,?_,hX0,hY0,?_,?_,?_⟩ ?_
 ·omega
 ·omega
 ·simp
 ·simp
 ·simp
 rintro k xs o ⟨lp,lx',ly',ls,i,j,rfl,rfl,rfl,hi,hj,hX,hY,hR,hPX,hYS⟩
 (refine vK ?_;with_reducible repeat' first|exact Le.l|apply Sw|intro h)
 (refine AW.i rfl (fun h=>?_) (fun h=>?_)<;>try simp only [hC,reduceCtorEq] at h)
 ·(refine vK ?_;with_reducible repeat' first|exact Le.l|apply Sw|intro h)
  (refine AW.i rfl (fun h=>?_) (fun h=>?_)<;>try simp only [hC,reduceCtorEq] at h)
  ·obtain ⟨x1,x2,rfl,hX1⟩:∃ x1 x2,lx'=x1++x2/\x1.length=ly'.length:=⟨lx'.take ly'.length,lx'.drop ly'.length,(List.take_append_drop _ _).symm,by rw [List.length_take];omega⟩
   simp only [List.length_append] at hi hX hPX
   rw [show rws (la++(lp++((x1++x2)++(ly'++(ls++lc)))))=rws ((la++lp)++(x1++(x2++(ly'++(ls++lc))))) by simp only [List.append_assoc]]
   have hsw:=fun i j k=>Jk d b (la++lp) x1 x2 ly' (ls++lc) n i j k
   (refine vK ?_;with_reducible repeat' first|exact Le.l|apply Sw|intro h)
   exact ⟨_,[_,_],_,by (try simp only [List.length_append]);omega,⟨lp++ly',x2,x1,ls,_,_,rfl,rfl,rfl,by omega,by omega,by omega,by omega,by rw [<- hR];simp only [List.append_assoc],by simp only [List.length_append];omega,by omega⟩,rfl,aE (by simp only [List.append_assoc])⟩
  ·obtain ⟨y1,y2,rfl,hY2⟩:∃ y1 y2,ly'=y1++y2/\y2.length=lx'.length:=⟨ly'.take (ly'.length - lx'.length),ly'.drop (ly'.length - lx'.length),(List.take_append_drop _ _).symm,by rw [List.length_drop];omega⟩
   simp only [List.length_append] at hj hY hYS
   rw [show rws (la++(lp++(lx'++((y1++y2)++(ls++lc)))))=rws ((la++lp)++(lx'++(y1++(y2++(ls++lc))))) by simp only [List.append_assoc]]
   haveI:=fun i j k=>Jk d b (la++lp) lx' y1 y2 (ls++lc) n i j k
   (refine vK ?_;with_reducible repeat' first|exact Le.l|apply Sw|intro h)
   exact ⟨_,[_,_],_,by (try simp only [List.length_append]);omega,⟨lp,y2,y1,lx'++ls,_,_,rfl,rfl,rfl,by omega,by omega,by omega,by omega,by rw [<- hR];simp only [List.append_assoc],by omega,by simp only [List.length_append];omega⟩,rfl,aE (by simp only [List.append_assoc])⟩
 ·have hl:lx'.length=ly'.length:=by omega
  have hsw:=fun i j k=>Jk d b (la++lp) lx' [] ly' (ls++lc) n i j k
  simp only [List.nil_append] at hsw
  have he:la++lp++(ly'++(lx'++(ls++lc)))=la++(ly++(lx++lc)):=by
   rw [<- List.append_assoc ly lx lc,<- hR];simp only [List.append_assoc]
  rw [he] at hsw
  rw [show rws (la++(lp++(lx'++(ly'++(ls++lc)))))=rws ((la++lp)++(lx'++(ly'++(ls++lc)))) by simp only [List.append_assoc]]
  (refine vK ?_;with_reducible repeat' first|exact Le.l|apply Sw|intro h)
end
end Go.Proofs
