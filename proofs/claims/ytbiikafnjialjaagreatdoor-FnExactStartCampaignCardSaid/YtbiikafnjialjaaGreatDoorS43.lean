/- Part of a proof. -/
import Derived.Lay
import Derived.MakeChecks
import Derived.Test.YtbiikafnjialjaaGreatDoorS41
set_option linter.all false
set_option maxRecDepth 20000
set_option maxHeartbeats 4000000
open Go.Proofs.Tryz
open List
namespace Go.Proofs
open Go.Ab Go.Dt
section
attribute [-instance] ju kO cPf
instance(l:List bH)(k:Int):fI lim prog 137 6 (l.map (bt true)) [.aa k] (.aa (mkL gK l k).2) ((mkL gK l k).1.map (bt true)) (0<=k/\(mkL gK l k).2<=1099511627776):=by
 refine fI.of (aT 137) (λb=>?_) (λe=>?_) (by simp[gU]) (bW (λ_=>rfl) _) (bW (λ_=>rfl) _)
 ·simp only[length_map];refine Ctr.bd func137 ntmps137 λhp=>?_;have hup:=bJ nu l k;refine vU1 ?_;refine AW.lJ [1,5] [0] (λm xs o=>∃i:Nat,xs=[.aa (mkc gK l k i),.aa i]/\o=[(b,some (((mkp gK l k i).map (bt true)).flatMap AV.cells))]/\m=l.length - i/\i<=l.length) l.length [(b,some ((l.map (bt true)).flatMap AV.cells))] (aE rfl) ⟨0,rfl,?_,rfl,?_⟩ ?_
  ·rw[jd]
  ·omega
  rintro m xs o ⟨i,rfl,rfl,rfl,hi⟩;have h1:=ke (dW nu) l k i
  have h2:=eZ (dW nu) l k i;refine vK1 ?_;refine AW.c (λh=>?_) λh=>?_
  ·have h3:=eZ (dW nu) l k (i+1);rw[lS h];rw[dI h]at h3;have hpre:=j1 (e:=bt true) (f:=gK) (sz:=6) (k:=k) (λ_=>rfl) hi
   have hpost:(((l.drop (i+1)).map (bt true)).flatMap AV.cells).length=(l.length - (i+1)) * 6:=by
    rw[ld (e:=bt true) (sz:=6) (λ_=>rfl),length_drop]
   have hnx:=je (e:=bt true) (f:=gK) (k:=k) h;generalize mkb (bt true) gK l k i=pre at hpre hnx ⊢;generalize ((l.drop (i+1)).map (bt true)).flatMap AV.cells=post at hnx hpost ⊢;generalize e1:at_ l i=x at *;generalize e2:mkc gK l k i=c at *;refine AW.imp (Imp.rI (b:=b) pre [_,_,_,_,_,_] post (eM _ _ _) λhs=>?_);refine gS ?_;have g0:=bJ kW x.fType.ay (c+1+1)
   have g1:=bJ iJ x.fType.aB ((mkL bq x.fType.ay (c+1+1)).2);simp only[gK]at h3;refine vK1 ?_;refine Imp.rz (b:=b) pre [_,_,_,_,_,_] post (eM _ _ _) ?_;refine gS ?_;exact⟨_,[_,_],_,Um,⟨i+1,by rw[dI h,e1,e2];rfl,rfl,rfl,Um⟩,rfl,aE hnx⟩
  ·rw[jf h,j0 h]
   all_goals exact uU
 ·have:l=[]:=by simpa using e
  subst this;refine⟨?_,rfl⟩;refine Ctr.bd func137 ntmps137 λhp=>?_;refine vU1 ?_;refine AW.aw [] [0,1,5] (λm xs o=>xs=[]/\o=[]) 0 [] trivial ⟨rfl,rfl⟩ ?_;rintro m xs o ⟨rfl,rfl⟩
  (refine vU1 ?_;intro h)
  rfl
instance(l:List aD)(k:Int):fI lim prog 73 3 (l.map (aR true)) [.aa k] (.aa (mkL cD l k).2) ((mkL cD l k).1.map (aR true)) (0<=k/\(mkL cD l k).2<=1099511627776):=by
 refine fI.of (aT 73) (λb=>?_) (λe=>?_) (by simp[gU]) (bW (λ_=>rfl) _) (bW (λ_=>rfl) _)
 ·simp only[length_map];refine Ctr.bd func73 ntmps73 λhp=>?_;have hup:=bJ kJ l k;refine vU1 ?_;refine AW.lJ [1,5] [0] (λm xs o=>∃i:Nat,xs=[.aa (mkc cD l k i),.aa i]/\o=[(b,some (((mkp cD l k i).map (aR true)).flatMap AV.cells))]/\m=l.length - i/\i<=l.length) l.length [(b,some ((l.map (aR true)).flatMap AV.cells))] (aE rfl) ⟨0,rfl,?_,rfl,?_⟩ ?_
  ·rw[jd]
  ·omega
  rintro m xs o ⟨i,rfl,rfl,rfl,hi⟩;have h1:=ke (dW kJ) l k i
  have h2:=eZ (dW kJ) l k i;refine vK1 ?_;refine AW.c (λh=>?_) λh=>?_
  ·have h3:=eZ (dW kJ) l k (i+1);rw[lS h];rw[dI h]at h3;have hpre:=j1 (e:=aR true) (f:=cD) (sz:=3) (k:=k) (λ_=>rfl) hi
   have hpost:(((l.drop (i+1)).map (aR true)).flatMap AV.cells).length=(l.length - (i+1)) * 3:=by
    rw[ld (e:=aR true) (sz:=3) (λ_=>rfl),length_drop]
   have hnx:=je (e:=aR true) (f:=cD) (k:=k) h;generalize mkb (aR true) cD l k i=pre at hpre hnx ⊢;generalize ((l.drop (i+1)).map (aR true)).flatMap AV.cells=post at hnx hpost ⊢;generalize e1:at_ l i=x at *;generalize e2:mkc cD l k i=c at *;refine AW.imp (Imp.rI (b:=b) pre [_,_,_] post (eM _ _ _) λhs=>?_);refine gS ?_;have g0:=bJ nu x.aG (c+1)
   have g1:=bJ dL x.dh ((mkL gK x.aG (c+1)).2);simp only[cD]at h3;refine vK1 ?_;refine Imp.rz (b:=b) pre [_,_,_] post (eM _ _ _) ?_;refine gS ?_;exact⟨_,[_,_],_,Um,⟨i+1,by rw[dI h,e1,e2];rfl,rfl,rfl,Um⟩,rfl,aE hnx⟩
  ·rw[jf h,j0 h]
   all_goals exact uU
 ·have:l=[]:=by simpa using e
  subst this;refine⟨?_,rfl⟩;refine Ctr.bd func73 ntmps73 λhp=>?_;refine vU1 ?_;refine AW.aw [] [0,1,5] (λm xs o=>xs=[]/\o=[]) 0 [] trivial ⟨rfl,rfl⟩ ?_;rintro m xs o ⟨rfl,rfl⟩
  (refine vU1 ?_;intro h)
  rfl
instance(l:List cu)(k:Int):fI lim prog 78 2 (l.map (bS true)) [.aa k] (.aa (mkL iL l k).2) ((mkL iL l k).1.map (bS true)) (0<=k/\(mkL iL l k).2<=1099511627776):=by
 refine fI.of (aT 78) (λb=>?_) (λe=>?_) (by simp[gU]) (bW (λ_=>rfl) _) (bW (λ_=>rfl) _)
 ·simp only[length_map];refine Ctr.bd func78 ntmps78 λhp=>?_;have hup:=bJ pq l k;refine vU1 ?_;refine AW.aw [1,5] [0] (λm xs o=>∃i:Nat,xs=[.aa (mkc iL l k i),.aa i]/\o=[(b,some (((mkp iL l k i).map (bS true)).flatMap AV.cells))]/\m=l.length - i/\i<=l.length) l.length [(b,some ((l.map (bS true)).flatMap AV.cells))] (aE rfl) ⟨0,rfl,?_,rfl,?_⟩ ?_
  ·rw[jd]
  ·omega
  rintro m xs o ⟨i,rfl,rfl,rfl,hi⟩;have h1:=ke (dW pq) l k i
  have h2:=eZ (dW pq) l k i;refine vK1 ?_;refine AW.c (λh=>?_) λh=>?_
  ·have h3:=eZ (dW pq) l k (i+1);rw[lS h];rw[dI h]at h3;have hpre:=j1 (e:=bS true) (f:=iL) (sz:=2) (k:=k) (λ_=>rfl) hi
   have hpost:(((l.drop (i+1)).map (bS true)).flatMap AV.cells).length=(l.length - (i+1)) * 2:=by
    rw[ld (e:=bS true) (sz:=2) (λ_=>rfl),length_drop]
   have hnx:=je (e:=bS true) (f:=iL) (k:=k) h;generalize mkb (bS true) iL l k i=pre at hpre hnx ⊢;generalize ((l.drop (i+1)).map (bS true)).flatMap AV.cells=post at hnx hpost ⊢;generalize e1:at_ l i=x at *;generalize e2:mkc iL l k i=c at *;simp only[iL]at h3;refine vK1 ?_;exact⟨_,[_,_],_,Um,⟨i+1,by rw[dI h,e1,e2];rfl,rfl,rfl,Um⟩,rfl,aE hnx⟩
  ·rw[jf h,j0 h]
   all_goals exact uU
 ·have:l=[]:=by simpa using e
  subst this;refine⟨?_,rfl⟩;refine Ctr.bd func78 ntmps78 λhp=>?_;refine vU1 ?_;refine AW.aw [] [0,1,5] (λm xs o=>xs=[]/\o=[]) 0 [] trivial ⟨rfl,rfl⟩ ?_;rintro m xs o ⟨rfl,rfl⟩
  (refine vU1 ?_;intro h)
  rfl
instance(l:List bp)(k:Int):fI lim prog 74 4 (l.map (aX true)) [.aa k] (.aa (mkL dU l k).2) ((mkL dU l k).1.map (aX true)) (0<=k/\(mkL dU l k).2<=1099511627776):=by
 refine fI.of (aT 74) (λb=>?_) (λe=>?_) (by simp[gU]) (bW (λ_=>rfl) _) (bW (λ_=>rfl) _)
 ·simp only[length_map];refine Ctr.bd func74 ntmps74 λhp=>?_;have hup:=bJ lQ l k;refine vU1 ?_;refine AW.lJ [1,5] [0] (λm xs o=>∃i:Nat,xs=[.aa (mkc dU l k i),.aa i]/\o=[(b,some (((mkp dU l k i).map (aX true)).flatMap AV.cells))]/\m=l.length - i/\i<=l.length) l.length [(b,some ((l.map (aX true)).flatMap AV.cells))] (aE rfl) ⟨0,rfl,?_,rfl,?_⟩ ?_
  ·rw[jd]
  ·omega
  rintro m xs o ⟨i,rfl,rfl,rfl,hi⟩;have h1:=ke (dW lQ) l k i
  have h2:=eZ (dW lQ) l k i;refine vK1 ?_;refine AW.c (λh=>?_) λh=>?_
  ·have h3:=eZ (dW lQ) l k (i+1);rw[lS h];rw[dI h]at h3;have hpre:=j1 (e:=aX true) (f:=dU) (sz:=4) (k:=k) (λ_=>rfl) hi
   have hpost:(((l.drop (i+1)).map (aX true)).flatMap AV.cells).length=(l.length - (i+1)) * 4:=by
    rw[ld (e:=aX true) (sz:=4) (λ_=>rfl),length_drop]
   have hnx:=je (e:=aX true) (f:=dU) (k:=k) h;generalize mkb (aX true) dU l k i=pre at hpre hnx ⊢;generalize ((l.drop (i+1)).map (aX true)).flatMap AV.cells=post at hnx hpost ⊢;generalize e1:at_ l i=x at *;generalize e2:mkc dU l k i=c at *;refine AW.imp (Imp.rI (b:=b) pre [_,_,_,_] post (eM _ _ _) λhs=>?_);refine gS ?_;have g0:=bJ pq x.fArgs (c+1+1)
   have g1:=bJ iJ x.bV ((mkL iL x.fArgs (c+1+1)).2);simp only[dU]at h3;refine vK1 ?_;refine Imp.rz (b:=b) pre [_,_,_,_] post (eM _ _ _) ?_;refine gS ?_;exact⟨_,[_,_],_,Um,⟨i+1,by rw[dI h,e1,e2];rfl,rfl,rfl,Um⟩,rfl,aE hnx⟩
  ·rw[jf h,j0 h]
   all_goals exact uU
 ·have:l=[]:=by simpa using e
  subst this;refine⟨?_,rfl⟩;refine Ctr.bd func74 ntmps74 λhp=>?_;refine vU1 ?_;refine AW.aw [] [0,1,5] (λm xs o=>xs=[]/\o=[]) 0 [] trivial ⟨rfl,rfl⟩ ?_;rintro m xs o ⟨rfl,rfl⟩
  (refine vU1 ?_;intro h)
  rfl
instance(x:iC)(k:Int):sj lim prog 20 true [.ad 3 aR x.aL,.ad 4 aX x.ba] [.aa k] (.aa (mkL dU x.ba (mkL cD x.aL k).2).2) [.sl true 3 ((mkL cD x.aL k).1.map (aR true)),.sl true 4 ((mkL dU x.ba (mkL cD x.aL k).2).1.map (aX true))] (0<=k/\(mkL dU x.ba (mkL cD x.aL k).2).2<=1099511627776):=by
 refine⟨(aT 20),λhp=>InC.fX func20 rfl rfl rfl (λhs=>rfl) (λhs=>rfl) (λhs=>rfl) rfl λhs=>?_⟩;rw[ntmps20];have g0:=bJ kJ x.aL k
 have g1:=bJ lQ x.ba (mkL cD x.aL k).2
 (refine bX1 ?_;intro h)
 refine AW.ret (EndsG.inp h rfl ?_);exact gO
end
section
attribute [-instance] ju kO cPf
instance(l:List fE)(k:Int):fI lim prog 99 3 (l.map (bM true)) [.aa k] (.aa (mkL cO l k).2) ((mkL cO l k).1.map (bM true)) (0<=k/\(mkL cO l k).2<=1099511627776):=by
 refine fI.of (aT 99) (λb=>?_) (λe=>?_) (by simp[gU]) (bW (λ_=>rfl) _) (bW (λ_=>rfl) _)
 ·simp only[length_map];refine Ctr.bd func99 ntmps99 λhp=>?_;have hup:=bJ lP l k;refine vU1 ?_;refine AW.lJ [1,5] [0] (λm xs o=>∃i:Nat,xs=[.aa (mkc cO l k i),.aa i]/\o=[(b,some (((mkp cO l k i).map (bM true)).flatMap AV.cells))]/\m=l.length - i/\i<=l.length) l.length [(b,some ((l.map (bM true)).flatMap AV.cells))] (aE rfl) ⟨0,rfl,?_,rfl,?_⟩ ?_
  ·rw[jd]
  ·omega
  rintro m xs o ⟨i,rfl,rfl,rfl,hi⟩;have h1:=ke (dW lP) l k i
  have h2:=eZ (dW lP) l k i;refine vK1 ?_;refine AW.c (λh=>?_) λh=>?_
  ·have h3:=eZ (dW lP) l k (i+1);rw[lS h];rw[dI h]at h3;have hpre:=j1 (e:=bM true) (f:=cO) (sz:=3) (k:=k) (λ_=>rfl) hi
   have hpost:(((l.drop (i+1)).map (bM true)).flatMap AV.cells).length=(l.length - (i+1)) * 3:=by
    rw[ld (e:=bM true) (sz:=3) (λ_=>rfl),length_drop]
   have hnx:=je (e:=bM true) (f:=cO) (k:=k) h;generalize mkb (bM true) cO l k i=pre at hpre hnx ⊢;generalize ((l.drop (i+1)).map (bM true)).flatMap AV.cells=post at hnx hpost ⊢;generalize e1:at_ l i=x at *;generalize e2:mkc cO l k i=c at *;refine AW.imp (Imp.rI (b:=b) pre [_,_,_] post (eM _ _ _) λhs=>?_);refine gS ?_;have g0:=bJ dL x.fc c;simp only[cO]at h3;refine vK1 ?_;refine Imp.rz (b:=b) pre [_,_,_] post (eM _ _ _) ?_;refine gS ?_;exact⟨_,[_,_],_,Um,⟨i+1,by rw[dI h,e1,e2];rfl,rfl,rfl,Um⟩,rfl,aE hnx⟩
  ·rw[jf h,j0 h]
   all_goals exact uU
 ·have:l=[]:=by simpa using e
  subst this;refine⟨?_,rfl⟩;refine Ctr.bd func99 ntmps99 λhp=>?_;refine vU1 ?_;refine AW.aw [] [0,1,5] (λm xs o=>xs=[]/\o=[]) 0 [] trivial ⟨rfl,rfl⟩ ?_;rintro m xs o ⟨rfl,rfl⟩
  (refine vU1 ?_;intro h)
  rfl
instance(l:List dx)(k:Int):fI lim prog 40 15 (l.map (cn true)) [.aa k] (.aa (mkL fB l k).2) ((mkL fB l k).1.map (cn true)) (0<=k/\(mkL fB l k).2<=1099511627776):=by
 refine fI.of (aT 40) (λb=>?_) (λe=>?_) (by simp[gU]) (bW (λ_=>rfl) _) (bW (λ_=>rfl) _)
 ·simp only[length_map];refine Ctr.bd func40 ntmps40 λhp=>?_;have hup:=bJ nP l k;refine vU1 ?_;refine AW.lJ [1,5] [0] (λm xs o=>∃i:Nat,xs=[.aa (mkc fB l k i),.aa i]/\o=[(b,some (((mkp fB l k i).map (cn true)).flatMap AV.cells))]/\m=l.length - i/\i<=l.length) l.length [(b,some ((l.map (cn true)).flatMap AV.cells))] (aE rfl) ⟨0,rfl,?_,rfl,?_⟩ ?_
  ·rw[jd]
  ·omega
  rintro m xs o ⟨i,rfl,rfl,rfl,hi⟩;have h1:=ke (dW nP) l k i
  have h2:=eZ (dW nP) l k i;refine vK1 ?_;refine AW.c (λh=>?_) λh=>?_
  ·have h3:=eZ (dW nP) l k (i+1);rw[lS h];rw[dI h]at h3;have hpre:=j1 (e:=cn true) (f:=fB) (sz:=15) (k:=k) (λ_=>rfl) hi
   have hpost:(((l.drop (i+1)).map (cn true)).flatMap AV.cells).length=(l.length - (i+1)) * 15:=by
    rw[ld (e:=cn true) (sz:=15) (λ_=>rfl),length_drop]
   have hnx:=je (e:=cn true) (f:=fB) (k:=k) h;generalize mkb (cn true) fB l k i=pre at hpre hnx ⊢;generalize ((l.drop (i+1)).map (cn true)).flatMap AV.cells=post at hnx hpost ⊢;generalize e1:at_ l i=x at *;generalize e2:mkc fB l k i=c at *;refine AW.imp (Imp.rI (b:=b) pre [_,_,_,_,_,_,_,_,_,_,_,_,_,_,_] post (eM _ _ _) λhs=>?_);refine gS ?_;have g0:=bJ jT x.av.aP (c+1)
   have g1:=bJ dL x.av.bf ((mkL bB x.av.aP (c+1)).2)
   have g2:=bJ dL x.av.cw ((mkL aM x.av.bf ((mkL bB x.av.aP (c+1)).2)).2)
   have g3:=bJ lP x.av.dS ((mkL aM x.av.cw ((mkL aM x.av.bf ((mkL bB x.av.aP (c+1)).2)).2)).2+1)
   have g4:=bJ dL x.av.bG.dZ ((mkL cO x.av.dS ((mkL aM x.av.cw ((mkL aM x.av.bf ((mkL bB x.av.aP (c+1)).2)).2)).2+1)).2+1+1+1+1)
   have g5:=bJ dL x.dF ((mkL aM x.av.bG.dZ ((mkL cO x.av.dS ((mkL aM x.av.cw ((mkL aM x.av.bf ((mkL bB x.av.aP (c+1)).2)).2)).2+1)).2+1+1+1+1)).2);simp only[fB]at h3;refine vK1 ?_;refine Imp.rz (b:=b) pre [_,_,_,_,_,_,_,_,_,_,_,_,_,_,_] post (eM _ _ _) ?_;refine gS ?_;exact⟨_,[_,_],_,Um,⟨i+1,by rw[dI h,e1,e2];rfl,rfl,rfl,Um⟩,rfl,aE hnx⟩
  ·rw[jf h,j0 h]
   all_goals exact uU
 ·have:l=[]:=by simpa using e
  subst this;refine⟨?_,rfl⟩;refine Ctr.bd func40 ntmps40 λhp=>?_;refine vU1 ?_;refine AW.aw [] [0,1,5] (λm xs o=>xs=[]/\o=[]) 0 [] trivial ⟨rfl,rfl⟩ ?_;rintro m xs o ⟨rfl,rfl⟩
  (refine vU1 ?_;intro h)
  rfl
instance(l:List iw)(k:Int):fI lim prog 100 3 (l.map (cz true)) [.aa k] (.aa (mkL dJ l k).2) ((mkL dJ l k).1.map (cz true)) (0<=k/\(mkL dJ l k).2<=1099511627776):=by
 refine fI.of (aT 100) (λb=>?_) (λe=>?_) (by simp[gU]) (bW (λ_=>rfl) _) (bW (λ_=>rfl) _)
 ·simp only[length_map];refine Ctr.bd func100 ntmps100 λhp=>?_;have hup:=bJ jo l k;refine vU1 ?_;refine AW.lJ [1,5] [0] (λm xs o=>∃i:Nat,xs=[.aa (mkc dJ l k i),.aa i]/\o=[(b,some (((mkp dJ l k i).map (cz true)).flatMap AV.cells))]/\m=l.length - i/\i<=l.length) l.length [(b,some ((l.map (cz true)).flatMap AV.cells))] (aE rfl) ⟨0,rfl,?_,rfl,?_⟩ ?_
  ·rw[jd]
  ·omega
  rintro m xs o ⟨i,rfl,rfl,rfl,hi⟩;have h1:=ke (dW jo) l k i
  have h2:=eZ (dW jo) l k i;refine vK1 ?_;refine AW.c (λh=>?_) λh=>?_
  ·have h3:=eZ (dW jo) l k (i+1);rw[lS h];rw[dI h]at h3;have hpre:=j1 (e:=cz true) (f:=dJ) (sz:=3) (k:=k) (λ_=>rfl) hi
   have hpost:(((l.drop (i+1)).map (cz true)).flatMap AV.cells).length=(l.length - (i+1)) * 3:=by
    rw[ld (e:=cz true) (sz:=3) (λ_=>rfl),length_drop]
   have hnx:=je (e:=cz true) (f:=dJ) (k:=k) h;generalize mkb (cz true) dJ l k i=pre at hpre hnx ⊢;generalize ((l.drop (i+1)).map (cz true)).flatMap AV.cells=post at hnx hpost ⊢;generalize e1:at_ l i=x at *;generalize e2:mkc dJ l k i=c at *;refine AW.imp (Imp.rI (b:=b) pre [_,_,_] post (eM _ _ _) λhs=>?_);refine gS ?_;have g0:=bJ dL x.fc (c+1);simp only[dJ]at h3;refine vK1 ?_;refine Imp.rz (b:=b) pre [_,_,_] post (eM _ _ _) ?_;refine gS ?_;exact⟨_,[_,_],_,Um,⟨i+1,by rw[dI h,e1,e2];rfl,rfl,rfl,Um⟩,rfl,aE hnx⟩
  ·rw[jf h,j0 h]
   all_goals exact uU
 ·have:l=[]:=by simpa using e
  subst this;refine⟨?_,rfl⟩;refine Ctr.bd func100 ntmps100 λhp=>?_;refine vU1 ?_;refine AW.aw [] [0,1,5] (λm xs o=>xs=[]/\o=[]) 0 [] trivial ⟨rfl,rfl⟩ ?_;rintro m xs o ⟨rfl,rfl⟩
  (refine vU1 ?_;intro h)
  rfl
instance(l:List iw)(k:Int):Ctr lim prog 101 [] [.sl false 3 ((mkL dJ l k).1.map (cz false)),.aa k] (.aa (mkL dJ l k).2) [] (0<=k/\(mkL dJ l k).2<=1099511627776):=by
 refine Ctr.bd func101 ntmps101 λhp=>?_;have hup:=bJ jo l k
 have hml:=gU (f:=dJ) l k;refine vU1 ?_;refine AW.aw [1,5] [0] (λm xs o=>∃i:Nat,xs=[.aa (mkc dJ l k i),.aa i]/\o=[]/\m=l.length - i/\i<=l.length) l.length [] trivial ⟨0,rfl,rfl,rfl,?_⟩ ?_
 ·omega
 rintro m xs o ⟨i,rfl,rfl,rfl,hi⟩;have h1:=ke (dW jo) l k i
 have h2:=eZ (dW jo) l k i;refine vK1 ?_;refine AW.c (λh=>?_) λh=>?_
 ·rw[hml]at h;have h3:=eZ (dW jo) l k (i+1)
  have hat:=ML (f:=dJ) (k:=k) h;rw[dI h]at h3;have hlt:=h;simp only[dJ]at h3 hat;have g0:=bJ dL (at_ l i).fc ((mkc dJ l k i)+1)
  (repeat' first|(with_reducible first|refine Z ?_|refine Y ?_|(refine hK _ _ ?_;clear hK K)|refine And.intro ?_ ?_|exact Ct|intro(K:_->_->Prop) hK|(refine gI λhg=>?_;try simp only[hC,reduceCtorEq]at hg;try simp only[hg]))|(refine AW.i rfl (λh=>?_) (λh=>?_)<;>try simp only[hC,reduceCtorEq]at h)|((with_reducible refine E ?_;repeat refine Y ?_);refine eF rfl ?_)|simp(disch:=omega)only[go_sem,hat,beq_self_eq_true,bne_self_eq_false,Bool.not_true]|(with_reducible intro hg;try simp only[hC,reduceCtorEq]at hg)|exact Cl|fail)
  exact⟨_,[_,_],[],Um,⟨i+1,by rw[dI hlt];rfl,rfl,rfl,Um⟩,rfl,trivial⟩
 ·rw[hml]at h;rw[jf h]
  all_goals exact uU
instance(x:ib)(k:Int):sj lim prog 41 true [.aa x.ik,.ad 3 cz x.eu] [.aa k] (.aa (mkL dJ x.eu k).2) [.aa x.ik,.sl true 3 ((mkL dJ x.eu k).1.map (cz true))] (0<=k/\(mkL dJ x.eu k).2<=1099511627776):=by
 refine⟨(aT 41),λhp=>InC.fX func41 rfl rfl rfl (λhs=>rfl) (λhs=>rfl) (λhs=>rfl) rfl λhs=>?_⟩;rw[ntmps41];have g0:=bJ jo x.eu k
 (refine bX1 ?_;intro h)
 refine AW.ret (EndsG.inp h rfl ?_);exact gO
instance(x:ib)(k:Int):Ctr lim prog 42 [] [.agg [.aa x.ik,.sl false 3 ((mkL dJ x.eu k).1.map (cz false))],.aa k] (.aa (mkL dJ x.eu k).2) [] (0<=k/\(mkL dJ x.eu k).2<=1099511627776):=by
 refine Ctr.bd func42 ntmps42 λhp=>?_;have g0:=bJ jo x.eu k
 all_goals exact uU
end
end Go.Proofs
namespace Go.Dt
open Go.Ab
def H3(x:bH)(k r:Int)(h0:0<=r)(h:0<=gC x r):(gK x k).2<=k+32+32 * (r - gC x r):=by simp only[gK];unfold gC at h ⊢;obtain⟨a0,h⟩:=aK h;rw[bT a0];have q0:=aQ x.ae r h0;obtain⟨a1,h⟩:=aK h;rw[bT a1];have q1:=BK x.fType (k+1) (aC x.ae r) a0 a1;simp only[BL]at q1;simp only[id];omega
def Cu(x:aD)(k r:Int)(h0:0<=r)(h:0<=dH x r):(cD x k).2<=k+32+32 * (r - dH x r):=by simp only[cD];unfold dH at h ⊢;obtain⟨a0,h⟩:=aK h;rw[bT a0];have q0:=aQ x.ae r h0;obtain⟨a1,h⟩:=aK h;rw[bT a1];have q1:=fZ lZ H3 x.aG (k+1) (aC x.ae r) a0 a1;obtain⟨a2,h⟩:=aK h;rw[bT a2];have q2:=fZ cy l8 x.dh ((mkL gK x.aG (k+1)).2) (aJ gC x.aG (aC x.ae r)) a1 a2;simp only[id];omega
def LQ(x:cu)(k r:Int)(h0:0<=r)(h:0<=iK x r):(iL x k).2<=k+32+32 * (r - iK x r):=by simp only[iL];unfold iK at h ⊢;obtain⟨a0,h⟩:=aK h;rw[bT a0];have q0:=aQ x.ae r h0;obtain⟨a1,h⟩:=aK h;rw[bT a1];have q1:=aQ x.aq (aC x.ae r) a0;simp only[id];omega
def En(x:bp)(k r:Int)(h0:0<=r)(h:0<=fk x r):(dU x k).2<=k+32+32 * (r - fk x r):=by simp only[dU];unfold fk at h ⊢;obtain⟨a0,h⟩:=aK h;rw[bT a0];have q0:=aQ x.ae r h0;obtain⟨a1,h⟩:=aK h;rw[bT a1];have q1:=aQ x.bz (aC x.ae r) a0;obtain⟨a2,h⟩:=aK h;rw[bT a2];have q2:=fZ nY LQ x.fArgs (k+1+1) (aC x.bz (aC x.ae r)) a1 a2;obtain⟨a3,h⟩:=aK h;rw[bT a3];have q3:=fZ aQ oT x.bV ((mkL iL x.fArgs (k+1+1)).2) (aJ iK x.fArgs (aC x.bz (aC x.ae r))) a2 a3;simp only[id];omega
def J7(x:iC)(k r:Int)(h0:0<=r)(h:0<=kP x r):(wL x k).2<=k+32 * (r - kP x r):=by simp only[wL];unfold kP at h ⊢;obtain⟨a0,h⟩:=aK h;rw[bT a0];have q0:=fZ iV Cu x.aL k r h0 a0;obtain⟨a1,h⟩:=aK h;rw[bT a1];have q1:=fZ j8 En x.ba ((mkL cD x.aL k).2) (aJ dH x.aL r) a0 a1;simp only[id];omega
def Em(x:fE)(k r:Int)(h0:0<=r)(h:0<=eY x r):(cO x k).2<=k+32+32 * (r - eY x r):=by simp only[cO];unfold eY at h ⊢;obtain⟨a0,h⟩:=aK h;rw[bT a0];have q0:=fZ cy l8 x.fc k r h0 a0;simp only[id];omega
def xz(x:iT)(k:Int):Int:=(mkL aM x.dZ (k+1+1+1+1)).2
def Ez(x:iT)(k r:Int)(h0:0<=r)(h:0<=kQ x r):xz x k<=k+4+32 * (r - kQ x r):=by unfold xz;unfold kQ at h ⊢;obtain⟨a0,h⟩:=aK h;rw[bT a0];have q0:=aQ x.ae r h0;obtain⟨a1,h⟩:=aK h;rw[bT a1];have q1:=fZ cy l8 x.dZ (k+1+1+1+1) (aC x.ae r) a0 a1;simp only[id];omega
def Zx(x:iT)(k:Int):Unit×Int:=((),(mkL aM x.dZ k).2)
def CX(x:lA)(k:Int):Int:=(mkL aM x.bG.dZ ((mkL cO x.dS ((mkL aM x.cw ((mkL aM x.bf ((mkL bB x.aP k).2)).2)).2+1)).2+1+1+1+1)).2
def Ig(x:lA)(k r:Int)(h0:0<=r)(h:0<=jw x r):CX x k<=k+5+32 * (r - jw x r):=by unfold CX;unfold jw at h ⊢;obtain⟨a0,h⟩:=aK h;rw[bT a0];have q0:=fZ gQ wV x.aP k r h0 a0;obtain⟨a1,h⟩:=aK h;rw[bT a1];have q1:=fZ cy l8 x.bf ((mkL bB x.aP k).2) (aJ ck x.aP r) a0 a1;obtain⟨a2,h⟩:=aK h;rw[bT a2];have q2:=fZ cy l8 x.cw ((mkL aM x.bf ((mkL bB x.aP k).2)).2) (aJ bF x.bf (aJ ck x.aP r)) a1 a2;obtain⟨a3,h⟩:=aK h;rw[bT a3];have q3:=fZ lO Em x.dS ((mkL aM x.cw ((mkL aM x.bf ((mkL bB x.aP k).2)).2)).2+1) (aJ bF x.cw (aJ bF x.bf (aJ ck x.aP r))) a2 a3;obtain⟨a4,h⟩:=aK h;rw[bT a4];have q4:=Ez x.bG ((mkL cO x.dS ((mkL aM x.cw ((mkL aM x.bf ((mkL bB x.aP k).2)).2)).2+1)).2) (aJ eY x.dS (aJ bF x.cw (aJ bF x.bf (aJ ck x.aP r)))) a3 a4;simp only[xz]at q4;simp only[id];omega
def acP(x:lA)(k:Int):Unit×Int:=((),(mkL aM x.bG.dZ ((mkL cO x.dS ((mkL aM x.cw ((mkL aM x.bf ((mkL bB x.aP k).2)).2)).2)).2)).2)
def Fp(x:dx)(k r:Int)(h0:0<=r)(h:0<=da x r):(fB x k).2<=k+32+32 * (r - da x r):=by simp only[fB];unfold da at h ⊢;obtain⟨a0,h⟩:=aK h;rw[bT a0];have q0:=aQ x.ae r h0;obtain⟨a1,h⟩:=aK h;rw[bT a1];have q1:=Ig x.av (k+1) (aC x.ae r) a0 a1;simp only[CX]at q1;obtain⟨a2,h⟩:=aK h;rw[bT a2];have q2:=fZ cy l8 x.dF ((mkL aM x.av.bG.dZ ((mkL cO x.av.dS ((mkL aM x.av.cw ((mkL aM x.av.bf ((mkL bB x.av.aP (k+1)).2)).2)).2+1)).2+1+1+1+1)).2) (jw x.av (aC x.ae r)) a1 a2;simp only[id];omega
def YE(x:ib)(k:Int):Int:=(mkL dJ x.eu (k+1)).2
end Go.Dt
namespace Go.Ab
open Go.Dt
def Dy{P:Program}{W:World}{name:String}{k:IntKind}{zs:List Int}{g:Nat}{t e:TypeId}{n:Nat}
  (hg:P.globalNamed name=some g) (hty:(P.globals[g]?).map (·.type)=some t) (ht:P.underlying t=some (.array n e)) (he:P.underlying e=some (.int k)) (hce:P.cellsOf e=1) (hct:P.cellsOf t=n) :
  ∀ {l:List (String×DataW Unit)} {ps:List MemPlace},(name,Lib.tabData k zs)∈l->DataW.LaidVars P W l ps->Lib.TabIs P W name k zs
 | [],_,hm,_=>by cases hm
 | (nm,d)::r,ps,hm,h=>by
  obtain⟨g',t',cs,fuel,p,q,hg',ht',hvar,hd,hr,_⟩:=h;rcases List.mem_cons.1 hm with e1|hm
  ·obtain⟨rfl,rfl⟩:=Prod.mk.inj e1;obtain rfl:=Option.some.inj (hg.symm.trans hg');obtain rfl:=Option.some.inj (hty.symm.trans ht');unfold Lib.TabIs;rw[hvar,<- Lib.cells_of_tab ht he hce hct hd]
  ·exact Dy hg hty ht he hce hct hm hr
def Px{P:Program}{os:Os}{laid:List (String×DataW Unit)}(args:Array Value)(hp:(laid.all λx=>x.2.handleName?.isNone)=true)
  (hf:(World.holding P os ⟨#[],#[],[]⟩).layFits P laid []=true)
  (hi:(World.holding P os ⟨#[],#[],[]⟩).layIfaces P laid (World.laidAll P os laid)=true) :
  laidMetH P laid ((World.laidAll P os laid).forCall (λ_ _=>0) ⟨#[],args,[]⟩).memory:=by
 rw[MakeChecks.laidMetH_plain _ _ _ hp];exact laidMet_laidAll args hf hi
