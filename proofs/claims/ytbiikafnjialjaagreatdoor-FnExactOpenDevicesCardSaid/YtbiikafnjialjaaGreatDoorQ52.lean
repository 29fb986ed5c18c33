/- Part of a proof. -/
import Derived.Test.YtbiikafnjialjaaGreatDoorQ42
import Derived.Test.YtbiikafnjialjaaGreatDoorQ47
set_option linter.all false
set_option maxRecDepth 20000
set_option maxHeartbeats 4000000
open Go.Proofs.Tryz
open List
namespace Go.Dt
open Go.Ab
def cW(x:fQ)(k:Int):fQ×Int:=(⟨(mkL aQ x.eS k).1,(mkL aQ x.eS k).2,(mkL aQ x.eS k).2+1⟩,(mkL aQ x.eS k).2+1+1)
def lZ(x:fQ)(k:Int):k+1<=(cW x k).2:=by have g0:=bD dO x.eS k;unfold cW;simp only;omega
def dQ(x:dI)(k:Int):dI×Int:=let a:=mkL bH x.av.bg (k+1);let b:=mkL aQ x.av.bk a.2;let c:=mkL aQ x.av.cD b.2;let d:=mkL cW x.av.dL (c.2+1);let e:=mkL aQ x.av.bh.dS (d.2+1+1+1+1);let f:=mkL aQ x.fJ e.2;(⟨mkT k,⟨a.1,b.1,c.1,c.2,d.1,⟨((d.2).tmod 3 == 0),d.2+1,d.2+1+1,mkT (d.2+1+1+1),e.1⟩⟩,f.1,((f.2).tmod 3 == 0),f.2+1,((f.2+1+1).tmod 3 == 0)⟩,f.2+1+1+1)
def mG(x:dI)(k:Int):k+1<=(dQ x k).2:=by
 have g0:=bD jw x.av.bg (k+1)
 have g1:=bD dO x.av.bk ((mkL bH x.av.bg (k+1)).2)
 have g2:=bD dO x.av.cD ((mkL aQ x.av.bk ((mkL bH x.av.bg (k+1)).2)).2)
 have g3:=bD lZ x.av.dL ((mkL aQ x.av.cD ((mkL aQ x.av.bk ((mkL bH x.av.bg (k+1)).2)).2)).2+1)
 have g4:=bD dO x.av.bh.dS ((mkL cW x.av.dL ((mkL aQ x.av.cD ((mkL aQ x.av.bk ((mkL bH x.av.bg (k+1)).2)).2)).2+1)).2+1+1+1+1)
 have g5:=bD dO x.fJ ((mkL aQ x.av.bh.dS ((mkL cW x.av.dL ((mkL aQ x.av.cD ((mkL aQ x.av.bk ((mkL bH x.av.bg (k+1)).2)).2)).2+1)).2+1+1+1+1)).2);unfold dQ;simp only;omega
def eu(x:jA)(k:Int):jA×Int:=(⟨mkT k,(mkL aQ x.eS (k+1)).1,(mkL aQ x.eS (k+1)).2⟩,(mkL aQ x.eS (k+1)).2+1)
def lu(x:jA)(k:Int):k+1<=(eu x k).2:=by have g0:=bD dO x.eS (k+1);unfold eu;simp only;omega
def rr(x:gB)(k:Int):gB×Int:=(⟨x.dx,(mkL eu x.ck k).1⟩,(mkL eu x.ck k).2)
def qo(x:fB)(k:Int):fB×Int:=(⟨⟨(mkL bq x.aY.aC k).1,(mkL cg x.aY.aO ((mkL bq x.aY.aC k).2)).1⟩,(mkL dQ x.bz ((mkL cg x.aY.aO ((mkL bq x.aY.aC k).2)).2)).1,⟨x.bQ.dx,(mkL eu x.bQ.ck ((mkL dQ x.bz ((mkL cg x.aY.aO ((mkL bq x.aY.aC k).2)).2)).2)).1⟩,⟨x.eU.dx,(mkL eu x.eU.ck ((mkL eu x.bQ.ck ((mkL dQ x.bz ((mkL cg x.aY.aO ((mkL bq x.aY.aC k).2)).2)).2)).2)).1⟩,x.pI⟩,(mkL eu x.eU.ck ((mkL eu x.bQ.ck ((mkL dQ x.bz ((mkL cg x.aY.aO ((mkL bq x.aY.aC k).2)).2)).2)).2)).2)
def FZ(x:fB)(k:Int):k<=(qo x k).2:=by
 have g0:=bD jc x.aY.aC k
 have g1:=bD jE x.aY.aO ((mkL bq x.aY.aC k).2)
 have g2:=bD mG x.bz ((mkL cg x.aY.aO ((mkL bq x.aY.aC k).2)).2)
 have g3:=bD lu x.bQ.ck ((mkL dQ x.bz ((mkL cg x.aY.aO ((mkL bq x.aY.aC k).2)).2)).2)
 have g4:=bD lu x.eU.ck ((mkL eu x.bQ.ck ((mkL dQ x.bz ((mkL cg x.aY.aO ((mkL bq x.aY.aC k).2)).2)).2)).2);unfold qo;simp only;omega
open Go Go.Ab
def Rc{l:List dI}{r:Int}(h0:0<=r)(h1:r<=1048576)(h:0<=aM dE l r):∀y∈l,wtS y.av.bg<=1048576/\wt y.fJ<=1048576:=by intro y hy;obtain⟨r',p,q,s⟩:=(Ae dE jv l r h0 h).2 y hy;exact⟨(KE p Yt s).1,Io p Yt s⟩
def TC{x:fB}(h:¬iL x 1048576<0):¬cw x.aY 1048576<0/\(∀y∈x.bz,wtS y.av.bg<=1048576/\wt y.fJ<=1048576)/\x.bz.length<=1048576:=by have h:=Int.not_lt.1 h;unfold iL at h;obtain⟨a,h⟩:=aH h;have e1:=jD x.aY 1048576 Yt;obtain⟨b,_⟩:=aH h;have:=xg b;exact⟨Yt,Rc a Yt b,Yt⟩
end Go.Dt
namespace Go.Proofs
open Go.Ab Go.Dt
section
def oz(T:List aE)(S:List bt)(l:List dI):List Str:=(l.filter λx=>!vG T S x).map dI.ae
def Dd(T:List aE)(S:List bt)(l:List dI):(oz T S l).length<=l.length:=by rw[oz,length_map];exact length_filter_le _ _
def GG{T:List aE}{S:List bt}{l:List dI}{k:Nat}(h:k<l.length):oz T S (l.take (k+1))=oz T S (l.take k)++(if vG T S (at_ l k)=false then [(at_ l k).ae] else []):=by
 have e:l.take (k+1)=l.take k++[at_ l k]:=by
  rw[take_succ_eq_append_getElem h];unfold at_;rw[getElem?_eq_getElem h];rfl
 rw[e,oz,oz,filter_append,map_append];cases hq:vG T S (at_ l k)<;>simp[hq]
def Y3(T:List aE)(S:List bt){l:List dI}(h:l.length<=1048576):(mkL ay (oz T S l) 1).2<=1048577:=by
 have key:∀(l:List Str) (k:Int),(mkL ay l k).2=k+l.length:=by
  intro l
  induction l with
  | nil=>intro k;simp[mkL]
  | cons x xs ih=>intro k;rw[mkL];simp only[ih,ay,length_cons];omega
 rw[key];have:=Dd T S l;omega
attribute [-instance] lV mP
attribute [local go_sem] bL aV bu jI jf
instance(x:fB):Ctr lim prog 46 [] [.agg [.ab 3 aK x.aY.aC,.ab 4 aP x.aY.aO,.ab 15 cm x.bz,.aa x.bQ.dx,.ab 3 bO x.bQ.ck,.aa x.eU.dx,.ab 3 bO x.eU.ck,.aa x.pI]] (.am (oz x.aY.aC x.aY.aO x.bz)) [] (nG x.aY.aC/\(∀y∈x.aY.aO,y.fArgs.length<=1048576/\eD y.fArgs)/\∀y∈x.bz,wtS y.av.bg<=1048576/\wt y.fJ<=1048576):=by
 refine Ctr.bd func46 ntmps46 λhp=>?_;have gOn:=bM.on;obtain⟨ht,hS,hD⟩:=hp;refine AW.f1 0 λhf=>?_;refine vK1 ?_;refine AW.aw [3,10] [1,8,9] (λm xs o=>∃k:Nat,xs=[.am (oz x.aY.aC x.aY.aO (x.bz.take k)),.aa k]/\o=[]/\m=x.bz.length - k/\k<=x.bz.length) x.bz.length [] trivial ⟨0,rfl,rfl,rfl,Yt⟩ ?_;rintro m xs o ⟨k,rfl,rfl,rfl,hk⟩;have hlen:=Dd x.aY.aC x.aY.aO (x.bz.take k);rw[length_take]at hlen;refine vK1 ?_;refine AW.c (λh=>?_) λh=>?_
 ·have hlk:=h
  have hd:=hD _ (at_mem h)
  have hst:=GG (T:=x.aY.aC) (S:=x.aY.aO) h;clear h
  (refine vK3 ?_ ?_ ?_<;>with_reducible repeat intro h)
  ·exact(hS _ baa).1
  ·exact(hS _ baa).2
  refine AW.c (λh=>?_) λh=>?_
  ·refine vU1 ?_;exact⟨_,[_,_],_,Yt,⟨k+1,by rw[hst,h,map_append];rfl,rfl,rfl,Yt⟩,rfl,gO⟩
  ·refine vU1 ?_;exact⟨_,[_,_],_,Yt,⟨k+1,by rw[hst,h];simp,rfl,rfl,Yt⟩,rfl,gO⟩
 ·refine vU1 ?_;rw[take_of_length_le Yt]
instance(x:fB):Ctr lim prog 44 [] [.agg [.ab 3 aK x.aY.aC,.ab 4 aP x.aY.aO,.ab 15 cm x.bz,.aa x.bQ.dx,.ab 3 bO x.bQ.ck,.aa x.eU.dx,.ab 3 bO x.eU.ck,.aa x.pI]] (.am (oz x.aY.aC x.aY.aO x.bz)) [] (nG x.aY.aC/\(∀y∈x.aY.aO,y.fArgs.length<=1048576/\eD y.fArgs)/\∀y∈x.bz,wtS y.av.bg<=1048576/\wt y.fJ<=1048576):=by
 refine Ctr.bd func44 ntmps44 λhp=>?_;have gOn:=bM.on;obtain⟨ht,hS,hD⟩:=hp;refine AW.f1 0 λhf=>?_;refine vK1 ?_;refine AW.aw [3,4] [1] (λm xs o=>∃k:Nat,xs=[.am (oz x.aY.aC x.aY.aO (x.bz.take k)),.aa k]/\o=[]/\m=x.bz.length - k/\k<=x.bz.length) x.bz.length [] trivial ⟨0,rfl,rfl,rfl,Yt⟩ ?_;rintro m xs o ⟨k,rfl,rfl,rfl,hk⟩;have hlen:=Dd x.aY.aC x.aY.aO (x.bz.take k);rw[length_take]at hlen;refine vK1 ?_;refine AW.c (λh=>?_) λh=>?_
 ·have hlk:=h
  have hd:=hD _ (at_mem h)
  have hst:=GG (T:=x.aY.aC) (S:=x.aY.aO) h;clear h
  (refine vK3 ?_ ?_ ?_<;>with_reducible repeat intro h)
  ·exact(hS _ baa).1
  ·exact(hS _ baa).2
  refine AW.c (λh=>?_) λh=>?_
  ·refine vU1 ?_;exact⟨_,[_,_],_,Yt,⟨k+1,by rw[hst,h,map_append];rfl,rfl,rfl,Yt⟩,rfl,gO⟩
  ·refine vU1 ?_;exact⟨_,[_,_],_,Yt,⟨k+1,by rw[hst,h];simp,rfl,rfl,Yt⟩,rfl,gO⟩
 ·refine vU1 ?_;rw[take_of_length_le Yt]
end
section
attribute [-instance] lV mP cPf
instance(l:List fQ)(k:Int):fU lim prog 99 3 (l.map (bF true)) [.aa k] (.aa (mkL cW l k).2) ((mkL cW l k).1.map (bF true)) (0<=k/\(mkL cW l k).2<=1099511627776):=by
 refine fU.of (aU 99) (λb=>?_) (λe=>?_) (by simp[iB]) (ct (λ_=>rfl) _) (ct (λ_=>rfl) _)
 ·simp only[length_map];refine Ctr.bd func99 ntmps99 λhp=>?_;have hup:=bD lZ l k;refine vU1 ?_;refine AW.lU [1,5] [0] (λm xs o=>∃i:Nat,xs=[.aa (mkc cW l k i),.aa i]/\o=[(b,some (((mkp cW l k i).map (bF true)).flatMap AV.cells))]/\m=l.length - i/\i<=l.length) l.length [(b,some ((l.map (bF true)).flatMap AV.cells))] (aF rfl) ⟨0,rfl,?_,rfl,?_⟩ ?_
  ·rw[jo]
  ·omega
  rintro m xs o ⟨i,rfl,rfl,rfl,hi⟩;have h1:=lA (eE lZ) l k i
  have h2:=fT (eE lZ) l k i;refine vK1 ?_;refine AW.c (λh=>?_) λh=>?_
  ·have h3:=fT (eE lZ) l k (i+1);rw[l9 h];rw[ep h]at h3;have hpre:=kE (e:=bF true) (f:=cW) (sz:=3) (k:=k) (λ_=>rfl) hi
   have hpost:(((l.drop (i+1)).map (bF true)).flatMap AV.cells).length=(l.length - (i+1)) * 3:=by
    rw[lE (e:=bF true) (sz:=3) (λ_=>rfl),length_drop]
   have hnx:=jq (e:=bF true) (f:=cW) (k:=k) h;generalize mkb (bF true) cW l k i=pre at hpre hnx ⊢;generalize ((l.drop (i+1)).map (bF true)).flatMap AV.cells=post at hnx hpost ⊢;generalize e1:at_ l i=x at *;generalize e2:mkc cW l k i=c at *;refine AW.imp (Imp.sB (b:=b) pre [_,_,_] post (fj _ _ _) λhs=>?_);refine gS ?_;have g0:=bD dO x.eS c;simp only[cW]at h3;refine vK1 ?_;refine Imp.rX (b:=b) pre [_,_,_] post (fj _ _ _) ?_;refine gS ?_;exact⟨_,[_,_],_,Yt,⟨i+1,by rw[ep h,e1,e2];rfl,rfl,rfl,Yt⟩,rfl,aF hnx⟩
  ·rw[jM h,kD h]
   all_goals exact uU
 ·have:l=[]:=by simpa using e
  subst this;refine⟨?_,rfl⟩;refine Ctr.bd func99 ntmps99 λhp=>?_;refine vU1 ?_;refine AW.aw [] [0,1,5] (λm xs o=>xs=[]/\o=[]) 0 [] trivial ⟨rfl,rfl⟩ ?_;rintro m xs o ⟨rfl,rfl⟩
  (refine vU1 ?_;intro h)
  rfl
instance(l:List dI)(k:Int):fU lim prog 40 15 (l.map (cm true)) [.aa k] (.aa (mkL dQ l k).2) ((mkL dQ l k).1.map (cm true)) (0<=k/\(mkL dQ l k).2<=1099511627776):=by
 refine fU.of (aU 40) (λb=>?_) (λe=>?_) (by simp[iB]) (ct (λ_=>rfl) _) (ct (λ_=>rfl) _)
 ·simp only[length_map];refine Ctr.bd func40 ntmps40 λhp=>?_;have hup:=bD mG l k;refine vU1 ?_;refine AW.lU [1,5] [0] (λm xs o=>∃i:Nat,xs=[.aa (mkc dQ l k i),.aa i]/\o=[(b,some (((mkp dQ l k i).map (cm true)).flatMap AV.cells))]/\m=l.length - i/\i<=l.length) l.length [(b,some ((l.map (cm true)).flatMap AV.cells))] (aF rfl) ⟨0,rfl,?_,rfl,?_⟩ ?_
  ·rw[jo]
  ·omega
  rintro m xs o ⟨i,rfl,rfl,rfl,hi⟩;have h1:=lA (eE mG) l k i
  have h2:=fT (eE mG) l k i;refine vK1 ?_;refine AW.c (λh=>?_) λh=>?_
  ·have h3:=fT (eE mG) l k (i+1);rw[l9 h];rw[ep h]at h3;have hpre:=kE (e:=cm true) (f:=dQ) (sz:=15) (k:=k) (λ_=>rfl) hi
   have hpost:(((l.drop (i+1)).map (cm true)).flatMap AV.cells).length=(l.length - (i+1)) * 15:=by
    rw[lE (e:=cm true) (sz:=15) (λ_=>rfl),length_drop]
   have hnx:=jq (e:=cm true) (f:=dQ) (k:=k) h;generalize mkb (cm true) dQ l k i=pre at hpre hnx ⊢;generalize ((l.drop (i+1)).map (cm true)).flatMap AV.cells=post at hnx hpost ⊢;generalize e1:at_ l i=x at *;generalize e2:mkc dQ l k i=c at *;refine AW.imp (Imp.sB (b:=b) pre [_,_,_,_,_,_,_,_,_,_,_,_,_,_,_] post (fj _ _ _) λhs=>?_);refine gS ?_;have g0:=bD jw x.av.bg (c+1)
   have g1:=bD dO x.av.bk ((mkL bH x.av.bg (c+1)).2)
   have g2:=bD dO x.av.cD ((mkL aQ x.av.bk ((mkL bH x.av.bg (c+1)).2)).2)
   have g3:=bD lZ x.av.dL ((mkL aQ x.av.cD ((mkL aQ x.av.bk ((mkL bH x.av.bg (c+1)).2)).2)).2+1)
   have g4:=bD dO x.av.bh.dS ((mkL cW x.av.dL ((mkL aQ x.av.cD ((mkL aQ x.av.bk ((mkL bH x.av.bg (c+1)).2)).2)).2+1)).2+1+1+1+1)
   have g5:=bD dO x.fJ ((mkL aQ x.av.bh.dS ((mkL cW x.av.dL ((mkL aQ x.av.cD ((mkL aQ x.av.bk ((mkL bH x.av.bg (c+1)).2)).2)).2+1)).2+1+1+1+1)).2);simp only[dQ]at h3;refine vK1 ?_;refine Imp.rX (b:=b) pre [_,_,_,_,_,_,_,_,_,_,_,_,_,_,_] post (fj _ _ _) ?_;refine gS ?_;exact⟨_,[_,_],_,Yt,⟨i+1,by rw[ep h,e1,e2];rfl,rfl,rfl,Yt⟩,rfl,aF hnx⟩
  ·rw[jM h,kD h]
   all_goals exact uU
 ·have:l=[]:=by simpa using e
  subst this;refine⟨?_,rfl⟩;refine Ctr.bd func40 ntmps40 λhp=>?_;refine vU1 ?_;refine AW.aw [] [0,1,5] (λm xs o=>xs=[]/\o=[]) 0 [] trivial ⟨rfl,rfl⟩ ?_;rintro m xs o ⟨rfl,rfl⟩
  (refine vU1 ?_;intro h)
  rfl
instance(l:List jA)(k:Int):fU lim prog 100 3 (l.map (bO true)) [.aa k] (.aa (mkL eu l k).2) ((mkL eu l k).1.map (bO true)) (0<=k/\(mkL eu l k).2<=1099511627776):=by
 refine fU.of (aU 100) (λb=>?_) (λe=>?_) (by simp[iB]) (ct (λ_=>rfl) _) (ct (λ_=>rfl) _)
 ·simp only[length_map];refine Ctr.bd func100 ntmps100 λhp=>?_;have hup:=bD lu l k;refine vU1 ?_;refine AW.lU [1,5] [0] (λm xs o=>∃i:Nat,xs=[.aa (mkc eu l k i),.aa i]/\o=[(b,some (((mkp eu l k i).map (bO true)).flatMap AV.cells))]/\m=l.length - i/\i<=l.length) l.length [(b,some ((l.map (bO true)).flatMap AV.cells))] (aF rfl) ⟨0,rfl,?_,rfl,?_⟩ ?_
  ·rw[jo]
  ·omega
  rintro m xs o ⟨i,rfl,rfl,rfl,hi⟩;have h1:=lA (eE lu) l k i
  have h2:=fT (eE lu) l k i;refine vK1 ?_;refine AW.c (λh=>?_) λh=>?_
  ·have h3:=fT (eE lu) l k (i+1);rw[l9 h];rw[ep h]at h3;have hpre:=kE (e:=bO true) (f:=eu) (sz:=3) (k:=k) (λ_=>rfl) hi
   have hpost:(((l.drop (i+1)).map (bO true)).flatMap AV.cells).length=(l.length - (i+1)) * 3:=by
    rw[lE (e:=bO true) (sz:=3) (λ_=>rfl),length_drop]
   have hnx:=jq (e:=bO true) (f:=eu) (k:=k) h;generalize mkb (bO true) eu l k i=pre at hpre hnx ⊢;generalize ((l.drop (i+1)).map (bO true)).flatMap AV.cells=post at hnx hpost ⊢;generalize e1:at_ l i=x at *;generalize e2:mkc eu l k i=c at *;refine AW.imp (Imp.sB (b:=b) pre [_,_,_] post (fj _ _ _) λhs=>?_);refine gS ?_;have g0:=bD dO x.eS (c+1);simp only[eu]at h3;refine vK1 ?_;refine Imp.rX (b:=b) pre [_,_,_] post (fj _ _ _) ?_;refine gS ?_;exact⟨_,[_,_],_,Yt,⟨i+1,by rw[ep h,e1,e2];rfl,rfl,rfl,Yt⟩,rfl,aF hnx⟩
  ·rw[jM h,kD h]
   all_goals exact uU
 ·have:l=[]:=by simpa using e
  subst this;refine⟨?_,rfl⟩;refine Ctr.bd func100 ntmps100 λhp=>?_;refine vU1 ?_;refine AW.aw [] [0,1,5] (λm xs o=>xs=[]/\o=[]) 0 [] trivial ⟨rfl,rfl⟩ ?_;rintro m xs o ⟨rfl,rfl⟩
  (refine vU1 ?_;intro h)
  rfl
instance(x:gB)(k:Int):rm lim prog 41 true [.aa x.dx,.ad 3 bO x.ck] [.aa k] (.aa (mkL eu x.ck k).2) [.aa x.dx,.sl true 3 ((mkL eu x.ck k).1.map (bO true))] (0<=k/\(mkL eu x.ck k).2<=1099511627776):=by
 refine⟨(aU 41),λhp=>InC.gb func41 rfl rfl rfl (λhs=>rfl) (λhs=>rfl) (λhs=>rfl) rfl λhs=>?_⟩;rw[ntmps41];have g0:=bD lu x.ck k
 (refine bX1 ?_;intro h)
 refine AW.ret (EndsG.inp h rfl ?_);exact gO
instance(x:fB)(k:Int):rm lim prog 49 true [.ad 3 aK x.aY.aC,.ad 4 aP x.aY.aO,.ad 15 cm x.bz,.aa x.bQ.dx,.ad 3 bO x.bQ.ck,.aa x.eU.dx,.ad 3 bO x.eU.ck,.aa x.pI] [.aa k] (.aa (mkL eu x.eU.ck (mkL eu x.bQ.ck (mkL dQ x.bz (mkL cg x.aY.aO (mkL bq x.aY.aC k).2).2).2).2).2) [.sl true 3 ((mkL bq x.aY.aC k).1.map (aK true)),.sl true 4 ((mkL cg x.aY.aO (mkL bq x.aY.aC k).2).1.map (aP true)),.sl true 15 ((mkL dQ x.bz (mkL cg x.aY.aO (mkL bq x.aY.aC k).2).2).1.map (cm true)),.aa x.bQ.dx,.sl true 3 ((mkL eu x.bQ.ck (mkL dQ x.bz (mkL cg x.aY.aO (mkL bq x.aY.aC k).2).2).2).1.map (bO true)),.aa x.eU.dx,.sl true 3 ((mkL eu x.eU.ck (mkL eu x.bQ.ck (mkL dQ x.bz (mkL cg x.aY.aO (mkL bq x.aY.aC k).2).2).2).2).1.map (bO true)),.aa x.pI] (0<=k/\(mkL eu x.eU.ck (mkL eu x.bQ.ck (mkL dQ x.bz (mkL cg x.aY.aO (mkL bq x.aY.aC k).2).2).2).2).2<=1099511627776):=by
 refine⟨(aU 49),λhp=>InC.gb func49 rfl rfl rfl (λhs=>rfl) (λhs=>rfl) (λhs=>rfl) rfl λhs=>?_⟩;rw[ntmps49];have g0:=bD jc x.aY.aC k
 have g1:=bD jE x.aY.aO (mkL bq x.aY.aC k).2
 have g2:=bD mG x.bz (mkL cg x.aY.aO (mkL bq x.aY.aC k).2).2
 have g3:=bD lu x.bQ.ck (mkL dQ x.bz (mkL cg x.aY.aO (mkL bq x.aY.aC k).2).2).2
 have g4:=bD lu x.eU.ck (mkL eu x.bQ.ck (mkL dQ x.bz (mkL cg x.aY.aO (mkL bq x.aY.aC k).2).2).2).2
 (refine bX1 ?_;intro h)
 refine AW.ret (EndsG.inp h rfl ?_);exact gO
end
end Go.Proofs
namespace Go.Dt
open Go.Ab
def E7(x:fQ)(k r:Int)(h0:0<=r)(h:0<=fu x r):(cW x k).2<=k+32+32 * (r - fu x r):=by simp only[cW];unfold fu at h ⊢;obtain⟨a0,h⟩:=aH h;rw[bS a0];have q0:=fA cf j6 x.eS k r h0 a0;simp only[id];omega
def xU(x:iZ)(k:Int):Int:=(mkL aQ x.dS (k+1+1+1+1)).2
def Fo(x:iZ)(k r:Int)(h0:0<=r)(h:0<=lj x r):xU x k<=k+4+32 * (r - lj x r):=by unfold xU;unfold lj at h ⊢;obtain⟨a0,h⟩:=aH h;rw[bS a0];have q0:=aT x.ae r h0;obtain⟨a1,h⟩:=aH h;rw[bS a1];have q1:=fA cf j6 x.dS (k+1+1+1+1) (aA x.ae r) a0 a1;simp only[id];omega
def Z8(x:iZ)(k:Int):Unit×Int:=((),(mkL aQ x.dS k).2)
def DI(x:lM)(k:Int):Int:=(mkL aQ x.bh.dS ((mkL cW x.dL ((mkL aQ x.cD ((mkL aQ x.bk ((mkL bH x.bg k).2)).2)).2+1)).2+1+1+1+1)).2
def Je(x:lM)(k r:Int)(h0:0<=r)(h:0<=jL x r):DI x k<=k+5+32 * (r - jL x r):=by unfold DI;unfold jL at h ⊢;obtain⟨a0,h⟩:=aH h;rw[bS a0];have q0:=fA fe sj x.bg k r h0 a0;obtain⟨a1,h⟩:=aH h;rw[bS a1];have q1:=fA cf j6 x.bk ((mkL bH x.bg k).2) (aM bG x.bg r) a0 a1;obtain⟨a2,h⟩:=aH h;rw[bS a2];have q2:=fA cf j6 x.cD ((mkL aQ x.bk ((mkL bH x.bg k).2)).2) (aM bA x.bk (aM bG x.bg r)) a1 a2;obtain⟨a3,h⟩:=aH h;rw[bS a3];have q3:=fA lY E7 x.dL ((mkL aQ x.cD ((mkL aQ x.bk ((mkL bH x.bg k).2)).2)).2+1) (aM bA x.cD (aM bA x.bk (aM bG x.bg r))) a2 a3;obtain⟨a4,h⟩:=aH h;rw[bS a4];have q4:=Fo x.bh ((mkL cW x.dL ((mkL aQ x.cD ((mkL aQ x.bk ((mkL bH x.bg k).2)).2)).2+1)).2) (aM fu x.dL (aM bA x.cD (aM bA x.bk (aM bG x.bg r)))) a3 a4;simp only[xU]at q4;simp only[id];omega
def adq(x:lM)(k:Int):Unit×Int:=((),(mkL aQ x.bh.dS ((mkL cW x.dL ((mkL aQ x.cD ((mkL aQ x.bk ((mkL bH x.bg k).2)).2)).2)).2)).2)
def Ge(x:dI)(k r:Int)(h0:0<=r)(h:0<=dE x r):(dQ x k).2<=k+32+32 * (r - dE x r):=by simp only[dQ];unfold dE at h ⊢;obtain⟨a0,h⟩:=aH h;rw[bS a0];have q0:=aT x.ae r h0;obtain⟨a1,h⟩:=aH h;rw[bS a1];have q1:=Je x.av (k+1) (aA x.ae r) a0 a1;simp only[DI]at q1;obtain⟨a2,h⟩:=aH h;rw[bS a2];have q2:=fA cf j6 x.fJ ((mkL aQ x.av.bh.dS ((mkL cW x.av.dL ((mkL aQ x.av.cD ((mkL aQ x.av.bk ((mkL bH x.av.bg (k+1)).2)).2)).2+1)).2+1+1+1+1)).2) (jL x.av (aA x.ae r)) a1 a2;simp only[id];omega
def K9(x:jA)(k r:Int)(h0:0<=r)(h:0<=jZ x r):(eu x k).2<=k+32+32 * (r - jZ x r):=by simp only[eu];unfold jZ at h ⊢;obtain⟨a0,h⟩:=aH h;rw[bS a0];have q0:=aT x.jt r h0;obtain⟨a1,h⟩:=aH h;rw[bS a1];have q1:=fA cf j6 x.eS (k+1) (aA x.jt r) a0 a1;simp only[id];omega
def Zi(x:gB)(k:Int):Int:=(mkL eu x.ck (k+1)).2
def uA(x:gB)(k r:Int)(h0:0<=r)(h:0<=gV x r):(rr x k).2<=k+32 * (r - gV x r):=by simp only[rr];unfold gV at h ⊢;obtain⟨a0,h⟩:=aH h;rw[bS a0];have q0:=fA oL K9 x.ck k r h0 a0;simp only[id];omega
def E6(x:fB)(k r:Int)(h0:0<=r)(h:0<=iL x r):(qo x k).2<=k+32 * (r - iL x r):=by simp only[qo];unfold iL at h ⊢;obtain⟨a0,h⟩:=aH h;rw[bS a0];have q0:=Bw x.aY k r h0 a0;simp only[uz]at q0;obtain⟨a1,h⟩:=aH h;rw[bS a1];have q1:=fA jv Ge x.bz ((mkL cg x.aY.aO ((mkL bq x.aY.aC k).2)).2) (cw x.aY r) a0 a1;obtain⟨a2,h⟩:=aH h;rw[bS a2];have q2:=uA x.bQ ((mkL dQ x.bz ((mkL cg x.aY.aO ((mkL bq x.aY.aC k).2)).2)).2) (aM dE x.bz (cw x.aY r)) a1 a2;simp only[rr]at q2;obtain⟨a3,h⟩:=aH h;rw[bS a3];have q3:=uA x.eU ((mkL eu x.bQ.ck ((mkL dQ x.bz ((mkL cg x.aY.aO ((mkL bq x.aY.aC k).2)).2)).2)).2) (gV x.bQ (aM dE x.bz (cw x.aY r))) a2 a3;simp only[rr]at q3;simp only[id];omega
