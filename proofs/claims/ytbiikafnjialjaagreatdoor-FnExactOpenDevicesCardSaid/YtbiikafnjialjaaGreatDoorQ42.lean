/- Part of a proof. -/
import Derived.Test.YtbiikafnjialjaaGreatDoorQ21
set_option linter.all false
set_option maxRecDepth 20000
set_option maxHeartbeats 4000000
open Go.Proofs.Tryz
open List
namespace Go.Proofs
open Go.Ab Go.Dt
instance(l:List ed)(k:Int):fU lim prog 76 2 (l.map (aW true)) [.aa k] (.aa (mkL bw l k).2) ((mkL bw l k).1.map (aW true)) (0<=k/\(mkL bw l k).2<=1099511627776):=by
 refine fU.of (aU 76) (λb=>?_) (λe=>?_) (by simp[iB]) (ct (λ_=>rfl) _) (ct (λ_=>rfl) _)
 ·simp only[length_map];refine Ctr.bd func76 ntmps76 λhp=>?_;have hup:=bD lv l k;refine vU1 ?_;refine AW.aw [1,5] [0] (λm xs o=>∃i:Nat,xs=[.aa (mkc bw l k i),.aa i]/\o=[(b,some (((mkp bw l k i).map (aW true)).flatMap AV.cells))]/\m=l.length - i/\i<=l.length) l.length [(b,some ((l.map (aW true)).flatMap AV.cells))] (aF rfl) ⟨0,rfl,?_,rfl,?_⟩ ?_
  ·rw[jo]
  ·omega
  rintro m xs o ⟨i,rfl,rfl,rfl,hi⟩;have h1:=lA (eE lv) l k i
  have h2:=fT (eE lv) l k i;refine vK1 ?_;refine AW.c (λh=>?_) λh=>?_
  ·have h3:=fT (eE lv) l k (i+1);rw[l9 h];rw[ep h]at h3;have hpre:=kE (e:=aW true) (f:=bw) (sz:=2) (k:=k) (λ_=>rfl) hi
   have hpost:(((l.drop (i+1)).map (aW true)).flatMap AV.cells).length=(l.length - (i+1)) * 2:=by
    rw[lE (e:=aW true) (sz:=2) (λ_=>rfl),length_drop]
   have hnx:=jq (e:=aW true) (f:=bw) (k:=k) h;generalize mkb (aW true) bw l k i=pre at hpre hnx ⊢;generalize ((l.drop (i+1)).map (aW true)).flatMap AV.cells=post at hnx hpost ⊢;generalize e1:at_ l i=x at *;generalize e2:mkc bw l k i=c at *;simp only[bw]at h3;refine vK1 ?_;exact⟨_,[_,_],_,Yt,⟨i+1,by rw[ep h,e1,e2];rfl,rfl,rfl,Yt⟩,rfl,aF hnx⟩
  ·rw[jM h,kD h]
   all_goals exact uU
 ·have:l=[]:=by simpa using e
  subst this;refine⟨?_,rfl⟩;refine Ctr.bd func76 ntmps76 λhp=>?_;refine vU1 ?_;refine AW.aw [] [0,1,5] (λm xs o=>xs=[]/\o=[]) 0 [] trivial ⟨rfl,rfl⟩ ?_;rintro m xs o ⟨rfl,rfl⟩
  (refine vU1 ?_;intro h)
  rfl
instance(l:List fS)(k:Int):fU lim prog 205 2 (l.map (cY true)) [.aa k] (.aa (mkL j1 l k).2) ((mkL j1 l k).1.map (cY true)) (0<=k/\(mkL j1 l k).2<=1099511627776):=by
 refine fU.of (aU 205) (λb=>?_) (λe=>?_) (by simp[iB]) (ct (λ_=>rfl) _) (ct (λ_=>rfl) _)
 ·simp only[length_map];refine Ctr.bd func205 ntmps205 λhp=>?_;have hup:=bD oN l k;refine vU1 ?_;refine AW.aw [1,5] [0] (λm xs o=>∃i:Nat,xs=[.aa (mkc j1 l k i),.aa i]/\o=[(b,some (((mkp j1 l k i).map (cY true)).flatMap AV.cells))]/\m=l.length - i/\i<=l.length) l.length [(b,some ((l.map (cY true)).flatMap AV.cells))] (aF rfl) ⟨0,rfl,?_,rfl,?_⟩ ?_
  ·rw[jo]
  ·omega
  rintro m xs o ⟨i,rfl,rfl,rfl,hi⟩;have h1:=lA (eE oN) l k i
  have h2:=fT (eE oN) l k i;refine vK1 ?_;refine AW.c (λh=>?_) λh=>?_
  ·have h3:=fT (eE oN) l k (i+1);rw[l9 h];rw[ep h]at h3;have hpre:=kE (e:=cY true) (f:=j1) (sz:=2) (k:=k) (λ_=>rfl) hi
   have hpost:(((l.drop (i+1)).map (cY true)).flatMap AV.cells).length=(l.length - (i+1)) * 2:=by
    rw[lE (e:=cY true) (sz:=2) (λ_=>rfl),length_drop]
   have hnx:=jq (e:=cY true) (f:=j1) (k:=k) h;generalize mkb (cY true) j1 l k i=pre at hpre hnx ⊢;generalize ((l.drop (i+1)).map (cY true)).flatMap AV.cells=post at hnx hpost ⊢;generalize e1:at_ l i=x at *;generalize e2:mkc j1 l k i=c at *;simp only[j1]at h3;refine vK1 ?_;exact⟨_,[_,_],_,Yt,⟨i+1,by rw[ep h,e1,e2];rfl,rfl,rfl,Yt⟩,rfl,aF hnx⟩
  ·rw[jM h,kD h]
   all_goals exact uU
 ·have:l=[]:=by simpa using e
  subst this;refine⟨?_,rfl⟩;refine Ctr.bd func205 ntmps205 λhp=>?_;refine vU1 ?_;refine AW.aw [] [0,1,5] (λm xs o=>xs=[]/\o=[]) 0 [] trivial ⟨rfl,rfl⟩ ?_;rintro m xs o ⟨rfl,rfl⟩
  (refine vU1 ?_;intro h)
  rfl
instance(l:List Dt.GStep)(k:Int):fU lim prog 138 2 (l.map (bp true)) [.aa k] (.aa (mkL gH l k).2) ((mkL gH l k).1.map (bp true)) (0<=k/\(mkL gH l k).2<=1099511627776):=by
 refine fU.of (aU 138) (λb=>?_) (λe=>?_) (by simp[iB]) (ct (λ_=>rfl) _) (ct (λ_=>rfl) _)
 ·simp only[length_map];refine Ctr.bd func138 ntmps138 λhp=>?_;have hup:=bD oO l k;refine vU1 ?_;refine AW.lU [1,5] [0] (λm xs o=>∃i:Nat,xs=[.aa (mkc gH l k i),.aa i]/\o=[(b,some (((mkp gH l k i).map (bp true)).flatMap AV.cells))]/\m=l.length - i/\i<=l.length) l.length [(b,some ((l.map (bp true)).flatMap AV.cells))] (aF rfl) ⟨0,rfl,?_,rfl,?_⟩ ?_
  ·rw[jo]
  ·omega
  rintro m xs o ⟨i,rfl,rfl,rfl,hi⟩;have h1:=lA (eE oO) l k i
  have h2:=fT (eE oO) l k i;refine vK1 ?_;refine AW.c (λh=>?_) λh=>?_
  ·have h3:=fT (eE oO) l k (i+1);rw[l9 h];rw[ep h]at h3;have hpre:=kE (e:=bp true) (f:=gH) (sz:=2) (k:=k) (λ_=>rfl) hi
   have hpost:(((l.drop (i+1)).map (bp true)).flatMap AV.cells).length=(l.length - (i+1)) * 2:=by
    rw[lE (e:=bp true) (sz:=2) (λ_=>rfl),length_drop]
   have hnx:=jq (e:=bp true) (f:=gH) (k:=k) h;generalize mkb (bp true) gH l k i=pre at hpre hnx ⊢;generalize ((l.drop (i+1)).map (bp true)).flatMap AV.cells=post at hnx hpost ⊢;generalize e1:at_ l i=x at *;generalize e2:mkc gH l k i=c at *;refine AW.imp (Imp.sB (b:=b) pre [_,_] post (fj _ _ _) λhs=>?_);refine gS ?_;have g0:=bD oN x.cU (c+1);simp only[gH]at h3;refine vK1 ?_;refine Imp.rX (b:=b) pre [_,_] post (fj _ _ _) ?_;refine gS ?_;exact⟨_,[_,_],_,Yt,⟨i+1,by rw[ep h,e1,e2];rfl,rfl,rfl,Yt⟩,rfl,aF hnx⟩
  ·rw[jM h,kD h]
   all_goals exact uU
 ·have:l=[]:=by simpa using e
  subst this;refine⟨?_,rfl⟩;refine Ctr.bd func138 ntmps138 λhp=>?_;refine vU1 ?_;refine AW.aw [] [0,1,5] (λm xs o=>xs=[]/\o=[]) 0 [] trivial ⟨rfl,rfl⟩ ?_;rintro m xs o ⟨rfl,rfl⟩
  (refine vU1 ?_;intro h)
  rfl
theorem zO:∀(n:Nat) (l:List bf) (k:Int),fU lim prog 77 7 (l.map (aS true)) [.aa k] (.aa (mkL di l k).2) ((mkL di l k).1.map (aS true)) (SizeOf.sizeOf l<n/\0<=k/\(mkL di l k).2<=1099511627776)
 | 0,l,k=>⟨(aU 77),λh=>absurd h.1 (Nat.not_lt_zero _)⟩
 | n+1,l,k=>by
  have ih:=zO n;refine fU.of (aU 77) (λb=>?_) (λe=>?_) (by simp[iB]) (ct (λx=>by rw[dM];rfl) _) (ct (λx=>by rw[dM];rfl) _)
  ·simp only[length_map];refine Ctr.bd func77 ntmps77 λhp=>?_;have hup:=bD ko l k;refine vU1 ?_;refine AW.lU [1,5] [0] (λm xs o=>∃i:Nat,xs=[.aa (mkc di l k i),.aa i]/\o=[(b,some (((mkp di l k i).map (aS true)).flatMap AV.cells))]/\m=l.length - i/\i<=l.length) l.length [(b,some ((l.map (aS true)).flatMap AV.cells))] (aF rfl) ⟨0,rfl,?_,rfl,?_⟩ ?_
   ·rw[jo]
   ·omega
   rintro m xs o ⟨i,rfl,rfl,rfl,hi⟩;have h1:=lA (eE ko) l k i
   have h2:=fT (eE ko) l k i;refine vK1 ?_;refine AW.c (λh=>?_) λh=>?_
   ·have h3:=fT (eE ko) l k (i+1);rw[l9 h];rw[ep h]at h3;have hpre:=kE (e:=aS true) (f:=di) (sz:=7) (k:=k) (λx=>by rw[dM];rfl) hi
    have hpost:(((l.drop (i+1)).map (aS true)).flatMap AV.cells).length=(l.length - (i+1)) * 7:=by
     rw[lE (e:=aS true) (sz:=7) (λx=>by rw[dM];rfl),length_drop]
    have hnx:=jq (e:=aS true) (f:=di) (k:=k) h
    have hkk:SizeOf.sizeOf (at_ l i).af<n:=by have:=bf.dH (at_mem h);omega
    rw[tg]at hnx;generalize mkb (aS true) di l k i=pre at hpre hnx ⊢;generalize ((l.drop (i+1)).map (aS true)).flatMap AV.cells=post at hnx hpost ⊢;generalize e1:at_ l i=x at *;generalize e2:mkc di l k i=c at *;rw[dM];simp only[dM]at hnx;refine AW.imp (Imp.sB (b:=b) pre [_,_,_,_,_,_,_] post (fj _ _ _) λhs=>?_);refine gS ?_;have g0:=bD oO x.aG.aX (c+1+1+1+1+1)
    have g1:=bD ko x.af ((mkL gH x.aG.aX (c+1+1+1+1+1)).2);rw[tg]at h3;simp only at h3;refine vK1 ?_;refine Imp.rX (b:=b) pre [_,_,_,_,_,_,_] post (fj _ _ _) ?_;refine gS ?_;exact⟨_,[_,_],_,Yt,⟨i+1,by rw[ep h,e1,e2,tg],rfl,rfl,Yt⟩,rfl,aF hnx⟩
   ·rw[jM h,kD h]
    all_goals exact uU
  ·have:l=[]:=by simpa using e
   subst this;refine⟨?_,rfl⟩;refine Ctr.bd func77 ntmps77 λhp=>?_;refine vU1 ?_;refine AW.aw [] [0,1,5] (λm xs o=>xs=[]/\o=[]) 0 [] trivial ⟨rfl,rfl⟩ ?_;rintro m xs o ⟨rfl,rfl⟩
   (refine vU1 ?_;intro h)
   rfl
instance(l:List bf)(k:Int):fU lim prog 77 7 (l.map (aS true)) [.aa k] (.aa (mkL di l k).2) ((mkL di l k).1.map (aS true)) (0<=k/\(mkL di l k).2<=1099511627776):=⟨(aU 77),λh=>(zO (SizeOf.sizeOf l+1) l k).out ⟨Nat.lt_succ_self _,h⟩⟩
theorem wX:∀(n:Nat) (l:List ag) (k:Int),fU lim prog 21 19 (l.map (ak true)) [.aa k] (.aa (mkL bH l k).2) ((mkL bH l k).1.map (ak true)) (SizeOf.sizeOf l<n/\0<=k/\(mkL bH l k).2<=1099511627776)
 | 0,l,k=>⟨(aU 21),λh=>absurd h.1 (Nat.not_lt_zero _)⟩
 | n+1,l,k=>by
  have ih:=wX n;refine fU.of (aU 21) (λb=>?_) (λe=>?_) (by simp[iB]) (ct (λx=>by rw[dK];rfl) _) (ct (λx=>by rw[dK];rfl) _)
  ·simp only[length_map];refine Ctr.bd func21 ntmps21 λhp=>?_;have hup:=bD jw l k;refine vU1 ?_;refine AW.lU [1,5] [0] (λm xs o=>∃i:Nat,xs=[.aa (mkc bH l k i),.aa i]/\o=[(b,some (((mkp bH l k i).map (ak true)).flatMap AV.cells))]/\m=l.length - i/\i<=l.length) l.length [(b,some ((l.map (ak true)).flatMap AV.cells))] (aF rfl) ⟨0,rfl,?_,rfl,?_⟩ ?_
   ·rw[jo]
   ·omega
   rintro m xs o ⟨i,rfl,rfl,rfl,hi⟩;have h1:=lA (eE jw) l k i
   have h2:=fT (eE jw) l k i;refine vK1 ?_;refine AW.c (λh=>?_) λh=>?_
   ·have h3:=fT (eE jw) l k (i+1);rw[l9 h];rw[ep h]at h3;have hpre:=kE (e:=ak true) (f:=bH) (sz:=19) (k:=k) (λx=>by rw[dK];rfl) hi
    have hpost:(((l.drop (i+1)).map (ak true)).flatMap AV.cells).length=(l.length - (i+1)) * 19:=by
     rw[lE (e:=ak true) (sz:=19) (λx=>by rw[dK];rfl),length_drop]
    have hnx:=jq (e:=ak true) (f:=bH) (k:=k) h
    have hkk:SizeOf.sizeOf (at_ l i).af<n:=by have:=ag.dH (at_mem h);omega
    rw[qe]at hnx;generalize mkb (ak true) bH l k i=pre at hpre hnx ⊢;generalize ((l.drop (i+1)).map (ak true)).flatMap AV.cells=post at hnx hpost ⊢;generalize e1:at_ l i=x at *;generalize e2:mkc bH l k i=c at *;rw[dK];simp only[dK]at hnx;refine AW.imp (Imp.sB (b:=b) pre [_,_,_,_,_,_,_,_,_,_,_,_,_,_,_,_,_,_,_] post (fj _ _ _) λhs=>?_);refine gS ?_;have g0:=bD lv x.fType.az (c+1+1+1)
    have g1:=bD iD x.fType.aB ((mkL bw x.fType.az (c+1+1+1)).2)
    have g2:=bD iD x.ax ((mkL ay x.fType.aB ((mkL bw x.fType.az (c+1+1+1)).2)).2+1+1)
    have g3:=bD iD x.aJ ((mkL ay x.ax ((mkL ay x.fType.aB ((mkL bw x.fType.az (c+1+1+1)).2)).2+1+1)).2)
    have g4:=bD ko x.bY ((mkL ay x.aJ ((mkL ay x.ax ((mkL ay x.fType.aB ((mkL bw x.fType.az (c+1+1+1)).2)).2+1+1)).2)).2+1+1+1+1+1+1+1)
    have g5:=bD ko x.cS ((mkL di x.bY ((mkL ay x.aJ ((mkL ay x.ax ((mkL ay x.fType.aB ((mkL bw x.fType.az (c+1+1+1)).2)).2+1+1)).2)).2+1+1+1+1+1+1+1)).2)
    have g6:=bD jw x.af ((mkL di x.cS ((mkL di x.bY ((mkL ay x.aJ ((mkL ay x.ax ((mkL ay x.fType.aB ((mkL bw x.fType.az (c+1+1+1)).2)).2+1+1)).2)).2+1+1+1+1+1+1+1)).2)).2);rw[qe]at h3;simp only at h3;refine vK1 ?_;refine Imp.rX (b:=b) pre [_,_,_,_,_,_,_,_,_,_,_,_,_,_,_,_,_,_,_] post (fj _ _ _) ?_;refine gS ?_;exact⟨_,[_,_],_,Yt,⟨i+1,by rw[ep h,e1,e2,qe],rfl,rfl,Yt⟩,rfl,aF hnx⟩
   ·rw[jM h,kD h]
    all_goals exact uU
  ·have:l=[]:=by simpa using e
   subst this;refine⟨?_,rfl⟩;refine Ctr.bd func21 ntmps21 λhp=>?_;refine vU1 ?_;refine AW.aw [] [0,1,5] (λm xs o=>xs=[]/\o=[]) 0 [] trivial ⟨rfl,rfl⟩ ?_;rintro m xs o ⟨rfl,rfl⟩
   (refine vU1 ?_;intro h)
   rfl
instance(l:List ag)(k:Int):fU lim prog 21 19 (l.map (ak true)) [.aa k] (.aa (mkL bH l k).2) ((mkL bH l k).1.map (ak true)) (0<=k/\(mkL bH l k).2<=1099511627776):=⟨(aU 21),λh=>(wX (SizeOf.sizeOf l+1) l k).out ⟨Nat.lt_succ_self _,h⟩⟩
theorem zN:∀(n:Nat) (l:List ah) (k:Int),fU lim prog 23 3 (l.map (ai true)) [.aa k] (.aa (mkL aQ l k).2) ((mkL aQ l k).1.map (ai true)) (SizeOf.sizeOf l<n/\0<=k/\(mkL aQ l k).2<=1099511627776)
 | 0,l,k=>⟨(aU 23),λh=>absurd h.1 (Nat.not_lt_zero _)⟩
 | n+1,l,k=>by
  have ih:=zN n;refine fU.of (aU 23) (λb=>?_) (λe=>?_) (by simp[iB]) (ct (λx=>by rw[bW];rfl) _) (ct (λx=>by rw[bW];rfl) _)
  ·simp only[length_map];refine Ctr.bd func23 ntmps23 λhp=>?_;have hup:=bD dO l k;refine vU1 ?_;refine AW.lU [1,5] [0] (λm xs o=>∃i:Nat,xs=[.aa (mkc aQ l k i),.aa i]/\o=[(b,some (((mkp aQ l k i).map (ai true)).flatMap AV.cells))]/\m=l.length - i/\i<=l.length) l.length [(b,some ((l.map (ai true)).flatMap AV.cells))] (aF rfl) ⟨0,rfl,?_,rfl,?_⟩ ?_
   ·rw[jo]
   ·omega
   rintro m xs o ⟨i,rfl,rfl,rfl,hi⟩;have h1:=lA (eE dO) l k i
   have h2:=fT (eE dO) l k i;refine vK1 ?_;refine AW.c (λh=>?_) λh=>?_
   ·have h3:=fT (eE dO) l k (i+1);rw[l9 h];rw[ep h]at h3;have hpre:=kE (e:=ai true) (f:=aQ) (sz:=3) (k:=k) (λx=>by rw[bW];rfl) hi
    have hpost:(((l.drop (i+1)).map (ai true)).flatMap AV.cells).length=(l.length - (i+1)) * 3:=by
     rw[lE (e:=ai true) (sz:=3) (λx=>by rw[bW];rfl),length_drop]
    have hnx:=jq (e:=ai true) (f:=aQ) (k:=k) h
    have hkk:SizeOf.sizeOf (at_ l i).af<n:=by have:=ah.dH (at_mem h);omega
    rw[oP]at hnx;generalize mkb (ai true) aQ l k i=pre at hpre hnx ⊢;generalize ((l.drop (i+1)).map (ai true)).flatMap AV.cells=post at hnx hpost ⊢;generalize e1:at_ l i=x at *;generalize e2:mkc aQ l k i=c at *;rw[bW];simp only[bW]at hnx;refine AW.imp (Imp.sB (b:=b) pre [_,_,_] post (fj _ _ _) λhs=>?_);refine gS ?_;have g0:=bD dO x.af (c+1+1);rw[oP]at h3;simp only at h3;refine vK1 ?_;refine Imp.rX (b:=b) pre [_,_,_] post (fj _ _ _) ?_;refine gS ?_;exact⟨_,[_,_],_,Yt,⟨i+1,by rw[ep h,e1,e2,oP],rfl,rfl,Yt⟩,rfl,aF hnx⟩
   ·rw[jM h,kD h]
    all_goals exact uU
  ·have:l=[]:=by simpa using e
   subst this;refine⟨?_,rfl⟩;refine Ctr.bd func23 ntmps23 λhp=>?_;refine vU1 ?_;refine AW.aw [] [0,1,5] (λm xs o=>xs=[]/\o=[]) 0 [] trivial ⟨rfl,rfl⟩ ?_;rintro m xs o ⟨rfl,rfl⟩
   (refine vU1 ?_;intro h)
   rfl
instance(l:List ah)(k:Int):fU lim prog 23 3 (l.map (ai true)) [.aa k] (.aa (mkL aQ l k).2) ((mkL aQ l k).1.map (ai true)) (0<=k/\(mkL aQ l k).2<=1099511627776):=⟨(aU 23),λh=>(zN (SizeOf.sizeOf l+1) l k).out ⟨Nat.lt_succ_self _,h⟩⟩
theorem zR:∀(n:Nat) (l:List ah) (k:Int),Ctr lim prog 24 [] [.sl false 3 ((mkL aQ l k).1.map (ai false)),.aa k] (.aa (mkL aQ l k).2) [] (SizeOf.sizeOf l<n/\0<=k/\(mkL aQ l k).2<=1099511627776)
 | 0,l,k=>⟨(aU 24),λh=>absurd h.1 (Nat.not_lt_zero _)⟩
 | n+1,l,k=>by
  have ih:=zR n;refine Ctr.bd func24 ntmps24 λhp=>?_;have hup:=bD dO l k
  have hml:=iB (f:=aQ) l k;refine vU1 ?_;refine AW.aw [1,5] [0] (λm xs o=>∃i:Nat,xs=[.aa (mkc aQ l k i),.aa i]/\o=[]/\m=l.length - i/\i<=l.length) l.length [] trivial ⟨0,rfl,rfl,rfl,?_⟩ ?_
  ·omega
  rintro m xs o ⟨i,rfl,rfl,rfl,hi⟩;have h1:=lA (eE dO) l k i
  have h2:=fT (eE dO) l k i;refine vK1 ?_;refine AW.c (λh=>?_) λh=>?_
  ·rw[hml]at h;have h3:=fT (eE dO) l k (i+1)
   have hat:=V8 (f:=aQ) (k:=k) h;rw[ep h]at h3;have hlt:=h
   have hkk:SizeOf.sizeOf (at_ l i).af<n:=by have:=ah.dH (at_mem h);omega
   rw[oP]at h3 hat;simp only at h3 hat;have g0:=bD dO (at_ l i).af ((mkc aQ l k i)+1+1)
   have acR:(at_ (mkL aQ l k).1 i).ae=mkT ((mkc aQ l k i)):=by rw[hat];rfl
   have sI:(at_ (mkL aQ l k).1 i).aq=mkT ((mkc aQ l k i)+1):=by rw[hat];rfl
   have DQ:(at_ (mkL aQ l k).1 i).af=(mkL aQ (at_ l i).af ((mkc aQ l k i)+1+1)).1:=by rw[hat];rfl
   (repeat' first|(with_reducible first|refine Z ?_|refine Y ?_|(refine hK _ _ ?_;clear hK K)|refine And.intro ?_ ?_|exact Ct|intro(K:_->_->Prop) hK|(refine gI λhg=>?_;try simp only[hC,reduceCtorEq]at hg;try simp only[hg]))|(refine AW.i rfl (λh=>?_) (λh=>?_)<;>try simp only[hC,reduceCtorEq]at h)|((with_reducible refine E ?_;repeat refine Y ?_);refine eF rfl ?_)|simp(disch:=omega)only[go_sem,acR,sI,DQ,beq_self_eq_true,bne_self_eq_false,Bool.not_true]|(with_reducible intro hg;try simp only[hC,reduceCtorEq]at hg)|exact Cl|fail)
   exact⟨_,[_,_],[],Yt,⟨i+1,by rw[ep hlt,oP],rfl,rfl,Yt⟩,rfl,trivial⟩
  ·rw[hml]at h;rw[jM h]
   all_goals exact uU
instance(l:List ah)(k:Int):Ctr lim prog 24 [] [.sl false 3 ((mkL aQ l k).1.map (ai false)),.aa k] (.aa (mkL aQ l k).2) [] (0<=k/\(mkL aQ l k).2<=1099511627776):=⟨(aU 24),λh=>(zR (SizeOf.sizeOf l+1) l k).out ⟨Nat.lt_succ_self _,h⟩⟩
end Go.Proofs
namespace Go.Dt
open Go.Ab
def ia(x:bR)(k:Int):bR×Int:=(⟨mkT k,⟨k+1,(mkL bw x.fType.az (k+1+1)).1,(mkL ay x.fType.aB ((mkL bw x.fType.az (k+1+1)).2)).1,mkT ((mkL ay x.fType.aB ((mkL bw x.fType.az (k+1+1)).2)).2),mkT ((mkL ay x.fType.aB ((mkL bw x.fType.az (k+1+1)).2)).2+1)⟩⟩,(mkL ay x.fType.aB ((mkL bw x.fType.az (k+1+1)).2)).2+1+1)
def nH(x:bR)(k:Int):k+1<=(ia x k).2:=by
 have g0:=bD lv x.fType.az (k+1+1)
 have g1:=bD iD x.fType.aB ((mkL bw x.fType.az (k+1+1)).2);unfold ia;simp only;omega
def bq(x:aE)(k:Int):aE×Int:=(⟨mkT k,(mkL ia x.aI (k+1)).1,(mkL aQ x.dq ((mkL ia x.aI (k+1)).2)).1⟩,(mkL aQ x.dq ((mkL ia x.aI (k+1)).2)).2)
def jc(x:aE)(k:Int):k+1<=(bq x k).2:=by
 have g0:=bD nH x.aI (k+1)
 have g1:=bD dO x.dq ((mkL ia x.aI (k+1)).2);unfold bq;simp only;omega
def iR(x:cM)(k:Int):cM×Int:=(⟨mkT k,mkT (k+1)⟩,k+1+1)
def pT(x:cM)(k:Int):k+1<=(iR x k).2:=by unfold iR;simp only;omega
def cg(x:bt)(k:Int):bt×Int:=(⟨mkT k,mkT (k+1),(mkL iR x.fArgs (k+1+1)).1,(mkL ay x.cq ((mkL iR x.fArgs (k+1+1)).2)).1⟩,(mkL ay x.cq ((mkL iR x.fArgs (k+1+1)).2)).2)
def jE(x:bt)(k:Int):k+1<=(cg x k).2:=by
 have g0:=bD pT x.fArgs (k+1+1)
 have g1:=bD iD x.cq ((mkL iR x.fArgs (k+1+1)).2);unfold cg;simp only;omega
def Z7(x:bt)(k:Int):bt×Int:=(⟨x.ae,x.bJ,(mkL iR x.fArgs k).1,(mkL ay x.cq ((mkL iR x.fArgs k).2)).1⟩,(mkL ay x.cq ((mkL iR x.fArgs k).2)).2)
def uz(x:gN)(k:Int):gN×Int:=(⟨(mkL bq x.aC k).1,(mkL cg x.aO ((mkL bq x.aC k).2)).1⟩,(mkL cg x.aO ((mkL bq x.aC k).2)).2)
def MC(x:gN)(k:Int):k<=(uz x k).2:=by
 have g0:=bD jc x.aC k
 have g1:=bD jE x.aO ((mkL bq x.aC k).2);unfold uz;simp only;omega
end Go.Dt
namespace Go.Proofs
open Go.Ab Go.Dt
instance(l:List bR)(k:Int):fU lim prog 137 6 (l.map (bB true)) [.aa k] (.aa (mkL ia l k).2) ((mkL ia l k).1.map (bB true)) (0<=k/\(mkL ia l k).2<=1099511627776):=by
 refine fU.of (aU 137) (λb=>?_) (λe=>?_) (by simp[iB]) (ct (λ_=>rfl) _) (ct (λ_=>rfl) _)
 ·simp only[length_map];refine Ctr.bd func137 ntmps137 λhp=>?_;have hup:=bD nH l k;refine vU1 ?_;refine AW.lU [1,5] [0] (λm xs o=>∃i:Nat,xs=[.aa (mkc ia l k i),.aa i]/\o=[(b,some (((mkp ia l k i).map (bB true)).flatMap AV.cells))]/\m=l.length - i/\i<=l.length) l.length [(b,some ((l.map (bB true)).flatMap AV.cells))] (aF rfl) ⟨0,rfl,?_,rfl,?_⟩ ?_
  ·rw[jo]
  ·omega
  rintro m xs o ⟨i,rfl,rfl,rfl,hi⟩;have h1:=lA (eE nH) l k i
  have h2:=fT (eE nH) l k i;refine vK1 ?_;refine AW.c (λh=>?_) λh=>?_
  ·have h3:=fT (eE nH) l k (i+1);rw[l9 h];rw[ep h]at h3;have hpre:=kE (e:=bB true) (f:=ia) (sz:=6) (k:=k) (λ_=>rfl) hi
   have hpost:(((l.drop (i+1)).map (bB true)).flatMap AV.cells).length=(l.length - (i+1)) * 6:=by
    rw[lE (e:=bB true) (sz:=6) (λ_=>rfl),length_drop]
   have hnx:=jq (e:=bB true) (f:=ia) (k:=k) h;generalize mkb (bB true) ia l k i=pre at hpre hnx ⊢;generalize ((l.drop (i+1)).map (bB true)).flatMap AV.cells=post at hnx hpost ⊢;generalize e1:at_ l i=x at *;generalize e2:mkc ia l k i=c at *;refine AW.imp (Imp.sB (b:=b) pre [_,_,_,_,_,_] post (fj _ _ _) λhs=>?_);refine gS ?_;have g0:=bD lv x.fType.az (c+1+1)
   have g1:=bD iD x.fType.aB ((mkL bw x.fType.az (c+1+1)).2);simp only[ia]at h3;refine vK1 ?_;refine Imp.rX (b:=b) pre [_,_,_,_,_,_] post (fj _ _ _) ?_;refine gS ?_;exact⟨_,[_,_],_,Yt,⟨i+1,by rw[ep h,e1,e2];rfl,rfl,rfl,Yt⟩,rfl,aF hnx⟩
  ·rw[jM h,kD h]
   all_goals exact uU
 ·have:l=[]:=by simpa using e
  subst this;refine⟨?_,rfl⟩;refine Ctr.bd func137 ntmps137 λhp=>?_;refine vU1 ?_;refine AW.aw [] [0,1,5] (λm xs o=>xs=[]/\o=[]) 0 [] trivial ⟨rfl,rfl⟩ ?_;rintro m xs o ⟨rfl,rfl⟩
  (refine vU1 ?_;intro h)
  rfl
instance(l:List aE)(k:Int):fU lim prog 73 3 (l.map (aK true)) [.aa k] (.aa (mkL bq l k).2) ((mkL bq l k).1.map (aK true)) (0<=k/\(mkL bq l k).2<=1099511627776):=by
 refine fU.of (aU 73) (λb=>?_) (λe=>?_) (by simp[iB]) (ct (λ_=>rfl) _) (ct (λ_=>rfl) _)
 ·simp only[length_map];refine Ctr.bd func73 ntmps73 λhp=>?_;have hup:=bD jc l k;refine vU1 ?_;refine AW.lU [1,5] [0] (λm xs o=>∃i:Nat,xs=[.aa (mkc bq l k i),.aa i]/\o=[(b,some (((mkp bq l k i).map (aK true)).flatMap AV.cells))]/\m=l.length - i/\i<=l.length) l.length [(b,some ((l.map (aK true)).flatMap AV.cells))] (aF rfl) ⟨0,rfl,?_,rfl,?_⟩ ?_
  ·rw[jo]
  ·omega
  rintro m xs o ⟨i,rfl,rfl,rfl,hi⟩;have h1:=lA (eE jc) l k i
  have h2:=fT (eE jc) l k i;refine vK1 ?_;refine AW.c (λh=>?_) λh=>?_
  ·have h3:=fT (eE jc) l k (i+1);rw[l9 h];rw[ep h]at h3;have hpre:=kE (e:=aK true) (f:=bq) (sz:=3) (k:=k) (λ_=>rfl) hi
   have hpost:(((l.drop (i+1)).map (aK true)).flatMap AV.cells).length=(l.length - (i+1)) * 3:=by
    rw[lE (e:=aK true) (sz:=3) (λ_=>rfl),length_drop]
   have hnx:=jq (e:=aK true) (f:=bq) (k:=k) h;generalize mkb (aK true) bq l k i=pre at hpre hnx ⊢;generalize ((l.drop (i+1)).map (aK true)).flatMap AV.cells=post at hnx hpost ⊢;generalize e1:at_ l i=x at *;generalize e2:mkc bq l k i=c at *;refine AW.imp (Imp.sB (b:=b) pre [_,_,_] post (fj _ _ _) λhs=>?_);refine gS ?_;have g0:=bD nH x.aI (c+1)
   have g1:=bD dO x.dq ((mkL ia x.aI (c+1)).2);simp only[bq]at h3;refine vK1 ?_;refine Imp.rX (b:=b) pre [_,_,_] post (fj _ _ _) ?_;refine gS ?_;exact⟨_,[_,_],_,Yt,⟨i+1,by rw[ep h,e1,e2];rfl,rfl,rfl,Yt⟩,rfl,aF hnx⟩
  ·rw[jM h,kD h]
   all_goals exact uU
 ·have:l=[]:=by simpa using e
  subst this;refine⟨?_,rfl⟩;refine Ctr.bd func73 ntmps73 λhp=>?_;refine vU1 ?_;refine AW.aw [] [0,1,5] (λm xs o=>xs=[]/\o=[]) 0 [] trivial ⟨rfl,rfl⟩ ?_;rintro m xs o ⟨rfl,rfl⟩
  (refine vU1 ?_;intro h)
  rfl
instance(l:List cM)(k:Int):fU lim prog 78 2 (l.map (cn true)) [.aa k] (.aa (mkL iR l k).2) ((mkL iR l k).1.map (cn true)) (0<=k/\(mkL iR l k).2<=1099511627776):=by
 refine fU.of (aU 78) (λb=>?_) (λe=>?_) (by simp[iB]) (ct (λ_=>rfl) _) (ct (λ_=>rfl) _)
 ·simp only[length_map];refine Ctr.bd func78 ntmps78 λhp=>?_;have hup:=bD pT l k;refine vU1 ?_;refine AW.aw [1,5] [0] (λm xs o=>∃i:Nat,xs=[.aa (mkc iR l k i),.aa i]/\o=[(b,some (((mkp iR l k i).map (cn true)).flatMap AV.cells))]/\m=l.length - i/\i<=l.length) l.length [(b,some ((l.map (cn true)).flatMap AV.cells))] (aF rfl) ⟨0,rfl,?_,rfl,?_⟩ ?_
  ·rw[jo]
  ·omega
  rintro m xs o ⟨i,rfl,rfl,rfl,hi⟩;have h1:=lA (eE pT) l k i
  have h2:=fT (eE pT) l k i;refine vK1 ?_;refine AW.c (λh=>?_) λh=>?_
  ·have h3:=fT (eE pT) l k (i+1);rw[l9 h];rw[ep h]at h3;have hpre:=kE (e:=cn true) (f:=iR) (sz:=2) (k:=k) (λ_=>rfl) hi
   have hpost:(((l.drop (i+1)).map (cn true)).flatMap AV.cells).length=(l.length - (i+1)) * 2:=by
    rw[lE (e:=cn true) (sz:=2) (λ_=>rfl),length_drop]
   have hnx:=jq (e:=cn true) (f:=iR) (k:=k) h;generalize mkb (cn true) iR l k i=pre at hpre hnx ⊢;generalize ((l.drop (i+1)).map (cn true)).flatMap AV.cells=post at hnx hpost ⊢;generalize e1:at_ l i=x at *;generalize e2:mkc iR l k i=c at *;simp only[iR]at h3;refine vK1 ?_;exact⟨_,[_,_],_,Yt,⟨i+1,by rw[ep h,e1,e2];rfl,rfl,rfl,Yt⟩,rfl,aF hnx⟩
  ·rw[jM h,kD h]
   all_goals exact uU
 ·have:l=[]:=by simpa using e
  subst this;refine⟨?_,rfl⟩;refine Ctr.bd func78 ntmps78 λhp=>?_;refine vU1 ?_;refine AW.aw [] [0,1,5] (λm xs o=>xs=[]/\o=[]) 0 [] trivial ⟨rfl,rfl⟩ ?_;rintro m xs o ⟨rfl,rfl⟩
  (refine vU1 ?_;intro h)
  rfl
instance(l:List bt)(k:Int):fU lim prog 74 4 (l.map (aP true)) [.aa k] (.aa (mkL cg l k).2) ((mkL cg l k).1.map (aP true)) (0<=k/\(mkL cg l k).2<=1099511627776):=by
 refine fU.of (aU 74) (λb=>?_) (λe=>?_) (by simp[iB]) (ct (λ_=>rfl) _) (ct (λ_=>rfl) _)
 ·simp only[length_map];refine Ctr.bd func74 ntmps74 λhp=>?_;have hup:=bD jE l k;refine vU1 ?_;refine AW.lU [1,5] [0] (λm xs o=>∃i:Nat,xs=[.aa (mkc cg l k i),.aa i]/\o=[(b,some (((mkp cg l k i).map (aP true)).flatMap AV.cells))]/\m=l.length - i/\i<=l.length) l.length [(b,some ((l.map (aP true)).flatMap AV.cells))] (aF rfl) ⟨0,rfl,?_,rfl,?_⟩ ?_
  ·rw[jo]
  ·omega
  rintro m xs o ⟨i,rfl,rfl,rfl,hi⟩;have h1:=lA (eE jE) l k i
  have h2:=fT (eE jE) l k i;refine vK1 ?_;refine AW.c (λh=>?_) λh=>?_
  ·have h3:=fT (eE jE) l k (i+1);rw[l9 h];rw[ep h]at h3;have hpre:=kE (e:=aP true) (f:=cg) (sz:=4) (k:=k) (λ_=>rfl) hi
   have hpost:(((l.drop (i+1)).map (aP true)).flatMap AV.cells).length=(l.length - (i+1)) * 4:=by
    rw[lE (e:=aP true) (sz:=4) (λ_=>rfl),length_drop]
   have hnx:=jq (e:=aP true) (f:=cg) (k:=k) h;generalize mkb (aP true) cg l k i=pre at hpre hnx ⊢;generalize ((l.drop (i+1)).map (aP true)).flatMap AV.cells=post at hnx hpost ⊢;generalize e1:at_ l i=x at *;generalize e2:mkc cg l k i=c at *;refine AW.imp (Imp.sB (b:=b) pre [_,_,_,_] post (fj _ _ _) λhs=>?_);refine gS ?_;have g0:=bD pT x.fArgs (c+1+1)
   have g1:=bD iD x.cq ((mkL iR x.fArgs (c+1+1)).2);simp only[cg]at h3;refine vK1 ?_;refine Imp.rX (b:=b) pre [_,_,_,_] post (fj _ _ _) ?_;refine gS ?_;exact⟨_,[_,_],_,Yt,⟨i+1,by rw[ep h,e1,e2];rfl,rfl,rfl,Yt⟩,rfl,aF hnx⟩
  ·rw[jM h,kD h]
   all_goals exact uU
 ·have:l=[]:=by simpa using e
  subst this;refine⟨?_,rfl⟩;refine Ctr.bd func74 ntmps74 λhp=>?_;refine vU1 ?_;refine AW.aw [] [0,1,5] (λm xs o=>xs=[]/\o=[]) 0 [] trivial ⟨rfl,rfl⟩ ?_;rintro m xs o ⟨rfl,rfl⟩
  (refine vU1 ?_;intro h)
  rfl
instance(x:gN)(k:Int):rm lim prog 20 true [.ad 3 aK x.aC,.ad 4 aP x.aO] [.aa k] (.aa (mkL cg x.aO (mkL bq x.aC k).2).2) [.sl true 3 ((mkL bq x.aC k).1.map (aK true)),.sl true 4 ((mkL cg x.aO (mkL bq x.aC k).2).1.map (aP true))] (0<=k/\(mkL cg x.aO (mkL bq x.aC k).2).2<=1099511627776):=by
 refine⟨(aU 20),λhp=>InC.gb func20 rfl rfl rfl (λhs=>rfl) (λhs=>rfl) (λhs=>rfl) rfl λhs=>?_⟩;rw[ntmps20];have g0:=bD jc x.aC k
 have g1:=bD jE x.aO (mkL bq x.aC k).2
 (refine bX1 ?_;intro h)
 refine AW.ret (EndsG.inp h rfl ?_);exact gO
end Go.Proofs
namespace Go.Dt
open Go.Ab
def I3(x:bR)(k r:Int)(h0:0<=r)(h:0<=gQ x r):(ia x k).2<=k+32+32 * (r - gQ x r):=by simp only[ia];unfold gQ at h ⊢;obtain⟨a0,h⟩:=aH h;rw[bS a0];have q0:=aT x.ae r h0;obtain⟨a1,h⟩:=aH h;rw[bS a1];have q1:=Cy x.fType (k+1) (aA x.ae r) a0 a1;simp only[Cz]at q1;simp only[id];omega
def C5(x:aE)(k r:Int)(h0:0<=r)(h:0<=dU x r):(bq x k).2<=k+32+32 * (r - dU x r):=by simp only[bq];unfold dU at h ⊢;obtain⟨a0,h⟩:=aH h;rw[bS a0];have q0:=aT x.ae r h0;obtain⟨a1,h⟩:=aH h;rw[bS a1];have q1:=fA mi I3 x.aI (k+1) (aA x.ae r) a0 a1;obtain⟨a2,h⟩:=aH h;rw[bS a2];have q2:=fA cf j6 x.dq ((mkL ia x.aI (k+1)).2) (aM gQ x.aI (aA x.ae r)) a1 a2;simp only[id];omega
def MM(x:cM)(k r:Int)(h0:0<=r)(h:0<=iQ x r):(iR x k).2<=k+32+32 * (r - iQ x r):=by simp only[iR];unfold iQ at h ⊢;obtain⟨a0,h⟩:=aH h;rw[bS a0];have q0:=aT x.ae r h0;obtain⟨a1,h⟩:=aH h;rw[bS a1];have q1:=aT x.aq (aA x.ae r) a0;simp only[id];omega
def E8(x:bt)(k r:Int)(h0:0<=r)(h:0<=fE x r):(cg x k).2<=k+32+32 * (r - fE x r):=by simp only[cg];unfold fE at h ⊢;obtain⟨a0,h⟩:=aH h;rw[bS a0];have q0:=aT x.ae r h0;obtain⟨a1,h⟩:=aH h;rw[bS a1];have q1:=aT x.bJ (aA x.ae r) a0;obtain⟨a2,h⟩:=aH h;rw[bS a2];have q2:=fA oy MM x.fArgs (k+1+1) (aA x.bJ (aA x.ae r)) a1 a2;obtain⟨a3,h⟩:=aH h;rw[bS a3];have q3:=fA aT o8 x.cq ((mkL iR x.fArgs (k+1+1)).2) (aM iQ x.fArgs (aA x.bJ (aA x.ae r))) a2 a3;simp only[id];omega
def Bw(x:gN)(k r:Int)(h0:0<=r)(h:0<=cw x r):(uz x k).2<=k+32 * (r - cw x r):=by simp only[uz];unfold cw at h ⊢;obtain⟨a0,h⟩:=aH h;rw[bS a0];have q0:=fA jb C5 x.aC k r h0 a0;obtain⟨a1,h⟩:=aH h;rw[bS a1];have q1:=fA kI E8 x.aO ((mkL bq x.aC k).2) (aM dU x.aC r) a0 a1;simp only[id];omega
