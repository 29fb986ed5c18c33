/- Part of a proof. -/
import Derived.Lay
import Derived.MakeChecks
import Derived.Test.YtbiikafnjialjaaGreatDoorG33
set_option linter.all false
set_option maxRecDepth 20000
set_option maxHeartbeats 4000000
namespace Go.Proofs
open Go.Ab Go.Dt
instance Oq(l:List df)(k:Int):fu lim Tryz.prog 76 2 (l.map (aI true)) [.v (.int .i64 k)] (.v (.int .i64 (mkL aU l k).2)) ((mkL aU l k).1.map (aI true)) (0<=k/\(mkL aU l k).2<=1099511627776):=by
 refine fu.of (aW 76) (fun b=>?_) (fun e=>?_) (by simp [gN]) (bO (fun _=>rfl) _) (bO (fun _=>rfl) _)
 ·simp only [List.length_map]
  refine Ctr.bd Tryz.func76 Tryz.ntmps76 rfl rfl fun hp=>?_
  have hup:=bM jg l k
  (refine vU ?_;with_reducible repeat' first|exact Le.l|apply Sw|intro h)
  refine AW.aw [1,5] [0] (fun m xs o=>∃ i:Nat,xs=[.v (.int .i64 (mkc aU l k i)),.v (.int .i64 i)]/\o=[(b,some (((mkp aU l k i).map (aI true)).flatMap AV.cells))]/\m=l.length - i/\i<=l.length) l.length [(b,some ((l.map (aI true)).flatMap AV.cells))] (aE rfl) ⟨0,rfl,?_,rfl,?_⟩ ?_
  ·rw [jx]
  ·omega
  rintro m xs o ⟨i,rfl,rfl,rfl,hi⟩
  have h1:=kM (ez jg) l k i
  have h2:=fG (ez jg) l k i
  (refine vK ?_;with_reducible repeat' first|exact Le.l|apply Sw|intro h)
  (refine AW.i rfl (fun h=>?_) (fun h=>?_)<;>try simp only [hC,reduceCtorEq] at h)
  ·have h3:=fG (ez jg) l k (i+1)
   rw [lO h]
   rw [dR h] at h3
   have hpre:=j5 (e:=aI true) (f:=aU) (sz:=2) (k:=k) (fun _=>rfl) hi
   have hpost:(((l.drop (i+1)).map (aI true)).flatMap AV.cells).length=(l.length - (i+1)) * 2:=by
    rw [kV (e:=aI true) (sz:=2) (fun _=>rfl),List.length_drop]
   have hnx:=jy (e:=aI true) (f:=aU) (k:=k) h
   generalize mkb (aI true) aU l k i=pre at hpre hnx ⊢
   generalize ((l.drop (i+1)).map (aI true)).flatMap AV.cells=post at hnx hpost ⊢
   generalize e1:at_ l i=x at *
   generalize e2:mkc aU l k i=c at *
   simp only [aU] at h3
   (refine vK ?_;with_reducible repeat' first|exact Le.l|apply Sw|intro h)
   exact ⟨_,[_,_],_,by omega,⟨i+1,by rw [dR h,e1,e2];rfl,rfl,rfl,by omega⟩,rfl,aE hnx⟩
  ·rw [jI h,j4 h]
   all_goals exact uU
 ·have:l=[]:=by simpa using e
  subst this
  refine ⟨?_,rfl⟩
  refine Ctr.bd Tryz.func76 Tryz.ntmps76 rfl rfl fun hp=>?_
  (refine vU ?_;with_reducible repeat' first|exact Le.l|apply Sw|intro h)
  refine AW.aw [] [0,1,5] (fun m xs o=>xs=[]/\o=[]) 0 [] trivial ⟨rfl,rfl⟩ ?_
  rintro m xs o ⟨rfl,rfl⟩
  (refine vU ?_;with_reducible repeat' first|exact Le.l|apply Sw|intro h)
  rfl
instance PX(l:List ed)(k:Int):fu lim Tryz.prog 205 2 (l.map (bZ true)) [.v (.int .i64 k)] (.v (.int .i64 (mkL iw l k).2)) ((mkL iw l k).1.map (bZ true)) (0<=k/\(mkL iw l k).2<=1099511627776):=by
 refine fu.of (aW 205) (fun b=>?_) (fun e=>?_) (by simp [gN]) (bO (fun _=>rfl) _) (bO (fun _=>rfl) _)
 ·simp only [List.length_map]
  refine Ctr.bd Tryz.func205 Tryz.ntmps205 rfl rfl fun hp=>?_
  have hup:=bM mg l k
  (refine vU ?_;with_reducible repeat' first|exact Le.l|apply Sw|intro h)
  refine AW.aw [1,5] [0] (fun m xs o=>∃ i:Nat,xs=[.v (.int .i64 (mkc iw l k i)),.v (.int .i64 i)]/\o=[(b,some (((mkp iw l k i).map (bZ true)).flatMap AV.cells))]/\m=l.length - i/\i<=l.length) l.length [(b,some ((l.map (bZ true)).flatMap AV.cells))] (aE rfl) ⟨0,rfl,?_,rfl,?_⟩ ?_
  ·rw [jx]
  ·omega
  rintro m xs o ⟨i,rfl,rfl,rfl,hi⟩
  have h1:=kM (ez mg) l k i
  have h2:=fG (ez mg) l k i
  (refine vK ?_;with_reducible repeat' first|exact Le.l|apply Sw|intro h)
  (refine AW.i rfl (fun h=>?_) (fun h=>?_)<;>try simp only [hC,reduceCtorEq] at h)
  ·have h3:=fG (ez mg) l k (i+1)
   rw [lO h]
   rw [dR h] at h3
   have hpre:=j5 (e:=bZ true) (f:=iw) (sz:=2) (k:=k) (fun _=>rfl) hi
   have hpost:(((l.drop (i+1)).map (bZ true)).flatMap AV.cells).length=(l.length - (i+1)) * 2:=by
    rw [kV (e:=bZ true) (sz:=2) (fun _=>rfl),List.length_drop]
   have hnx:=jy (e:=bZ true) (f:=iw) (k:=k) h
   generalize mkb (bZ true) iw l k i=pre at hpre hnx ⊢
   generalize ((l.drop (i+1)).map (bZ true)).flatMap AV.cells=post at hnx hpost ⊢
   generalize e1:at_ l i=x at *
   generalize e2:mkc iw l k i=c at *
   simp only [iw] at h3
   (refine vK ?_;with_reducible repeat' first|exact Le.l|apply Sw|intro h)
   exact ⟨_,[_,_],_,by omega,⟨i+1,by rw [dR h,e1,e2];rfl,rfl,rfl,by omega⟩,rfl,aE hnx⟩
  ·rw [jI h,j4 h]
   all_goals exact uU
 ·have:l=[]:=by simpa using e
  subst this
  refine ⟨?_,rfl⟩
  refine Ctr.bd Tryz.func205 Tryz.ntmps205 rfl rfl fun hp=>?_
  (refine vU ?_;with_reducible repeat' first|exact Le.l|apply Sw|intro h)
  refine AW.aw [] [0,1,5] (fun m xs o=>xs=[]/\o=[]) 0 [] trivial ⟨rfl,rfl⟩ ?_
  rintro m xs o ⟨rfl,rfl⟩
  (refine vU ?_;with_reducible repeat' first|exact Le.l|apply Sw|intro h)
  rfl
instance PY(l:List Dt.GStep)(k:Int):fu lim Tryz.prog 138 2 (l.map (aS true)) [.v (.int .i64 k)] (.v (.int .i64 (mkL eU l k).2)) ((mkL eU l k).1.map (aS true)) (0<=k/\(mkL eU l k).2<=1099511627776):=by
 refine fu.of (aW 138) (fun b=>?_) (fun e=>?_) (by simp [gN]) (bO (fun _=>rfl) _) (bO (fun _=>rfl) _)
 ·simp only [List.length_map]
  refine Ctr.bd Tryz.func138 Tryz.ntmps138 rfl rfl fun hp=>?_
  have hup:=bM mh l k
  (refine vU ?_;with_reducible repeat' first|exact Le.l|apply Sw|intro h)
  refine AW.mI [1,5] [0] (fun m xs o=>∃ i:Nat,xs=[.v (.int .i64 (mkc eU l k i)),.v (.int .i64 i)]/\o=[(b,some (((mkp eU l k i).map (aS true)).flatMap AV.cells))]/\m=l.length - i/\i<=l.length) l.length [(b,some ((l.map (aS true)).flatMap AV.cells))] (aE rfl) ⟨0,rfl,?_,rfl,?_⟩ ?_
  ·rw [jx]
  ·omega
  rintro m xs o ⟨i,rfl,rfl,rfl,hi⟩
  have h1:=kM (ez mh) l k i
  have h2:=fG (ez mh) l k i
  (refine vK ?_;with_reducible repeat' first|exact Le.l|apply Sw|intro h)
  (refine AW.i rfl (fun h=>?_) (fun h=>?_)<;>try simp only [hC,reduceCtorEq] at h)
  ·have h3:=fG (ez mh) l k (i+1)
   rw [lO h]
   rw [dR h] at h3
   have hpre:=j5 (e:=aS true) (f:=eU) (sz:=2) (k:=k) (fun _=>rfl) hi
   have hpost:(((l.drop (i+1)).map (aS true)).flatMap AV.cells).length=(l.length - (i+1)) * 2:=by
    rw [kV (e:=aS true) (sz:=2) (fun _=>rfl),List.length_drop]
   have hnx:=jy (e:=aS true) (f:=eU) (k:=k) h
   generalize mkb (aS true) eU l k i=pre at hpre hnx ⊢
   generalize ((l.drop (i+1)).map (aS true)).flatMap AV.cells=post at hnx hpost ⊢
   generalize e1:at_ l i=x at *
   generalize e2:mkc eU l k i=c at *
   refine AW.imp (Imp.tQ (b:=b) pre [_,_] post (eI _ _ _) fun hs=>?_)
   simp (maxSteps:=2000000) (disch:=omega) only [go_sem]
   have g0:=bM mg x.bT (c+1)
   simp only [eU] at h3
   (refine vK ?_;with_reducible repeat' first|exact Le.l|apply Sw|intro h)
   refine Imp.tv (b:=b) pre [_,_] post (eI _ _ _) ?_
   simp (maxSteps:=2000000) (disch:=omega) only [go_sem]
   exact ⟨_,[_,_],_,by omega,⟨i+1,by rw [dR h,e1,e2];rfl,rfl,rfl,by omega⟩,rfl,aE hnx⟩
  ·rw [jI h,j4 h]
   all_goals exact uU
 ·have:l=[]:=by simpa using e
  subst this
  refine ⟨?_,rfl⟩
  refine Ctr.bd Tryz.func138 Tryz.ntmps138 rfl rfl fun hp=>?_
  (refine vU ?_;with_reducible repeat' first|exact Le.l|apply Sw|intro h)
  refine AW.aw [] [0,1,5] (fun m xs o=>xs=[]/\o=[]) 0 [] trivial ⟨rfl,rfl⟩ ?_
  rintro m xs o ⟨rfl,rfl⟩
  (refine vU ?_;with_reducible repeat' first|exact Le.l|apply Sw|intro h)
  rfl
theorem vY:∀ (n:Nat) (l:List aO) (k:Int),fu lim Tryz.prog 77 7 (l.map (aG true)) [.v (.int .i64 k)] (.v (.int .i64 (mkL cv l k).2)) ((mkL cv l k).1.map (aG true)) (SizeOf.sizeOf l<n/\0<=k/\(mkL cv l k).2<=1099511627776)
 | 0,l,k=>⟨(aW 77),fun h=>absurd h.1 (Nat.not_lt_zero _)⟩
 | n+1,l,k=>by
  have ih:=vY n
  refine fu.of (aW 77) (fun b=>?_) (fun e=>?_) (by simp [gN]) (bO (fun x=>by rw [cV];rfl) _) (bO (fun x=>by rw [cV];rfl) _)
  ·simp only [List.length_map]
   refine Ctr.bd Tryz.func77 Tryz.ntmps77 rfl rfl fun hp=>?_
   have hup:=bM iE l k
   (refine vU ?_;with_reducible repeat' first|exact Le.l|apply Sw|intro h)
   refine AW.mI [1,5] [0] (fun m xs o=>∃ i:Nat,xs=[.v (.int .i64 (mkc cv l k i)),.v (.int .i64 i)]/\o=[(b,some (((mkp cv l k i).map (aG true)).flatMap AV.cells))]/\m=l.length - i/\i<=l.length) l.length [(b,some ((l.map (aG true)).flatMap AV.cells))] (aE rfl) ⟨0,rfl,?_,rfl,?_⟩ ?_
   ·rw [jx]
   ·omega
   rintro m xs o ⟨i,rfl,rfl,rfl,hi⟩
   have h1:=kM (ez iE) l k i
   have h2:=fG (ez iE) l k i
   (refine vK ?_;with_reducible repeat' first|exact Le.l|apply Sw|intro h)
   (refine AW.i rfl (fun h=>?_) (fun h=>?_)<;>try simp only [hC,reduceCtorEq] at h)
   ·have h3:=fG (ez iE) l k (i+1)
    rw [lO h]
    rw [dR h] at h3
    have hpre:=j5 (e:=aG true) (f:=cv) (sz:=7) (k:=k) (fun x=>by rw [cV];rfl) hi
    have hpost:(((l.drop (i+1)).map (aG true)).flatMap AV.cells).length=(l.length - (i+1)) * 7:=by
     rw [kV (e:=aG true) (sz:=7) (fun x=>by rw [cV];rfl),List.length_drop]
    have hnx:=jy (e:=aG true) (f:=cv) (k:=k) h
    have hkk:SizeOf.sizeOf (at_ l i).ag<n:=by have:=aO.dM (at_mem h);omega
    rw [p5] at hnx
    generalize mkb (aG true) cv l k i=pre at hpre hnx ⊢
    generalize ((l.drop (i+1)).map (aG true)).flatMap AV.cells=post at hnx hpost ⊢
    generalize e1:at_ l i=x at *
    generalize e2:mkc cv l k i=c at *
    rw [cV]
    simp only [cV] at hnx
    refine AW.imp (Imp.tQ (b:=b) pre [_,_,_,_,_,_,_] post (eI _ _ _) fun hs=>?_)
    simp (maxSteps:=2000000) (disch:=omega) only [go_sem]
    have g0:=bM mh x.aA.aK (c+1+1+1+1+1)
    have g1:=bM iE x.ag ((mkL eU x.aA.aK (c+1+1+1+1+1)).2)
    rw [p5] at h3;simp only at h3
    (refine vK ?_;with_reducible repeat' first|exact Le.l|apply Sw|intro h)
    refine Imp.tv (b:=b) pre [_,_,_,_,_,_,_] post (eI _ _ _) ?_
    simp (maxSteps:=2000000) (disch:=omega) only [go_sem]
    exact ⟨_,[_,_],_,by omega,⟨i+1,by rw [dR h,e1,e2,p5],rfl,rfl,by omega⟩,rfl,aE hnx⟩
   ·rw [jI h,j4 h]
    all_goals exact uU
  ·have:l=[]:=by simpa using e
   subst this
   refine ⟨?_,rfl⟩
   refine Ctr.bd Tryz.func77 Tryz.ntmps77 rfl rfl fun hp=>?_
   (refine vU ?_;with_reducible repeat' first|exact Le.l|apply Sw|intro h)
   refine AW.aw [] [0,1,5] (fun m xs o=>xs=[]/\o=[]) 0 [] trivial ⟨rfl,rfl⟩ ?_
   rintro m xs o ⟨rfl,rfl⟩
   (refine vU ?_;with_reducible repeat' first|exact Le.l|apply Sw|intro h)
   rfl
instance P0(l:List aO)(k:Int):fu lim Tryz.prog 77 7 (l.map (aG true)) [.v (.int .i64 k)] (.v (.int .i64 (mkL cv l k).2)) ((mkL cv l k).1.map (aG true)) (0<=k/\(mkL cv l k).2<=1099511627776):=⟨(aW 77),fun h=>(vY (SizeOf.sizeOf l+1) l k).out ⟨Nat.lt_succ_self _,h⟩⟩
theorem sZ:∀ (n:Nat) (l:List ae) (k:Int),fu lim Tryz.prog 21 19 (l.map (aq true)) [.v (.int .i64 k)] (.v (.int .i64 (mkL du l k).2)) ((mkL du l k).1.map (aq true)) (SizeOf.sizeOf l<n/\0<=k/\(mkL du l k).2<=1099511627776)
 | 0,l,k=>⟨(aW 21),fun h=>absurd h.1 (Nat.not_lt_zero _)⟩
 | n+1,l,k=>by
  have ih:=sZ n
  refine fu.of (aW 21) (fun b=>?_) (fun e=>?_) (by simp [gN]) (bO (fun x=>by rw [cT];rfl) _) (bO (fun x=>by rw [cT];rfl) _)
  ·simp only [List.length_map]
   refine Ctr.bd Tryz.func21 Tryz.ntmps21 rfl rfl fun hp=>?_
   have hup:=bM jw l k
   (refine vU ?_;with_reducible repeat' first|exact Le.l|apply Sw|intro h)
   refine AW.mI [1,5] [0] (fun m xs o=>∃ i:Nat,xs=[.v (.int .i64 (mkc du l k i)),.v (.int .i64 i)]/\o=[(b,some (((mkp du l k i).map (aq true)).flatMap AV.cells))]/\m=l.length - i/\i<=l.length) l.length [(b,some ((l.map (aq true)).flatMap AV.cells))] (aE rfl) ⟨0,rfl,?_,rfl,?_⟩ ?_
   ·rw [jx]
   ·omega
   rintro m xs o ⟨i,rfl,rfl,rfl,hi⟩
   have h1:=kM (ez jw) l k i
   have h2:=fG (ez jw) l k i
   (refine vK ?_;with_reducible repeat' first|exact Le.l|apply Sw|intro h)
   (refine AW.i rfl (fun h=>?_) (fun h=>?_)<;>try simp only [hC,reduceCtorEq] at h)
   ·have h3:=fG (ez jw) l k (i+1)
    rw [lO h]
    rw [dR h] at h3
    have hpre:=j5 (e:=aq true) (f:=du) (sz:=19) (k:=k) (fun x=>by rw [cT];rfl) hi
    have hpost:(((l.drop (i+1)).map (aq true)).flatMap AV.cells).length=(l.length - (i+1)) * 19:=by
     rw [kV (e:=aq true) (sz:=19) (fun x=>by rw [cT];rfl),List.length_drop]
    have hnx:=jy (e:=aq true) (f:=du) (k:=k) h
    have hkk:SizeOf.sizeOf (at_ l i).ag<n:=by have:=ae.dM (at_mem h);omega
    rw [nz] at hnx
    generalize mkb (aq true) du l k i=pre at hpre hnx ⊢
    generalize ((l.drop (i+1)).map (aq true)).flatMap AV.cells=post at hnx hpost ⊢
    generalize e1:at_ l i=x at *
    generalize e2:mkc du l k i=c at *
    rw [cT]
    simp only [cT] at hnx
    refine AW.imp (Imp.tQ (b:=b) pre [_,_,_,_,_,_,_,_,_,_,_,_,_,_,_,_,_,_,_] post (eI _ _ _) fun hs=>?_)
    simp (maxSteps:=2000000) (disch:=omega) only [go_sem]
    have g0:=bM jg x.fType.av (c+1+1+1)
    have g1:=bM fE x.fType.ay ((mkL aU x.fType.av (c+1+1+1)).2)
    have g2:=bM fE x.aD ((mkL au x.fType.ay ((mkL aU x.fType.av (c+1+1+1)).2)).2+1+1)
    have g3:=bM fE x.aB ((mkL au x.aD ((mkL au x.fType.ay ((mkL aU x.fType.av (c+1+1+1)).2)).2+1+1)).2)
    have g4:=bM iE x.bq ((mkL au x.aB ((mkL au x.aD ((mkL au x.fType.ay ((mkL aU x.fType.av (c+1+1+1)).2)).2+1+1)).2)).2+1+1+1+1+1+1+1)
    have g5:=bM iE x.bR ((mkL cv x.bq ((mkL au x.aB ((mkL au x.aD ((mkL au x.fType.ay ((mkL aU x.fType.av (c+1+1+1)).2)).2+1+1)).2)).2+1+1+1+1+1+1+1)).2)
    have g6:=bM jw x.ag ((mkL cv x.bR ((mkL cv x.bq ((mkL au x.aB ((mkL au x.aD ((mkL au x.fType.ay ((mkL aU x.fType.av (c+1+1+1)).2)).2+1+1)).2)).2+1+1+1+1+1+1+1)).2)).2)
    rw [nz] at h3;simp only at h3
    (refine vK ?_;with_reducible repeat' first|exact Le.l|apply Sw|intro h)
    refine Imp.tv (b:=b) pre [_,_,_,_,_,_,_,_,_,_,_,_,_,_,_,_,_,_,_] post (eI _ _ _) ?_
    simp (maxSteps:=2000000) (disch:=omega) only [go_sem]
    exact ⟨_,[_,_],_,by omega,⟨i+1,by rw [dR h,e1,e2,nz],rfl,rfl,by omega⟩,rfl,aE hnx⟩
   ·rw [jI h,j4 h]
    all_goals exact uU
  ·have:l=[]:=by simpa using e
   subst this
   refine ⟨?_,rfl⟩
   refine Ctr.bd Tryz.func21 Tryz.ntmps21 rfl rfl fun hp=>?_
   (refine vU ?_;with_reducible repeat' first|exact Le.l|apply Sw|intro h)
   refine AW.aw [] [0,1,5] (fun m xs o=>xs=[]/\o=[]) 0 [] trivial ⟨rfl,rfl⟩ ?_
   rintro m xs o ⟨rfl,rfl⟩
   (refine vU ?_;with_reducible repeat' first|exact Le.l|apply Sw|intro h)
   rfl
instance Nf(l:List ae)(k:Int):fu lim Tryz.prog 21 19 (l.map (aq true)) [.v (.int .i64 k)] (.v (.int .i64 (mkL du l k).2)) ((mkL du l k).1.map (aq true)) (0<=k/\(mkL du l k).2<=1099511627776):=⟨(aW 21),fun h=>(sZ (SizeOf.sizeOf l+1) l k).out ⟨Nat.lt_succ_self _,h⟩⟩
theorem vW:∀ (n:Nat) (l:List ah) (k:Int),fu lim Tryz.prog 23 3 (l.map (ak true)) [.v (.int .i64 k)] (.v (.int .i64 (mkL cm l k).2)) ((mkL cm l k).1.map (ak true)) (SizeOf.sizeOf l<n/\0<=k/\(mkL cm l k).2<=1099511627776)
 | 0,l,k=>⟨(aW 23),fun h=>absurd h.1 (Nat.not_lt_zero _)⟩
 | n+1,l,k=>by
  have ih:=vW n
  refine fu.of (aW 23) (fun b=>?_) (fun e=>?_) (by simp [gN]) (bO (fun x=>by rw [cH];rfl) _) (bO (fun x=>by rw [cH];rfl) _)
  ·simp only [List.length_map]
   refine Ctr.bd Tryz.func23 Tryz.ntmps23 rfl rfl fun hp=>?_
   have hup:=bM fM l k
   (refine vU ?_;with_reducible repeat' first|exact Le.l|apply Sw|intro h)
   refine AW.mI [1,5] [0] (fun m xs o=>∃ i:Nat,xs=[.v (.int .i64 (mkc cm l k i)),.v (.int .i64 i)]/\o=[(b,some (((mkp cm l k i).map (ak true)).flatMap AV.cells))]/\m=l.length - i/\i<=l.length) l.length [(b,some ((l.map (ak true)).flatMap AV.cells))] (aE rfl) ⟨0,rfl,?_,rfl,?_⟩ ?_
   ·rw [jx]
   ·omega
   rintro m xs o ⟨i,rfl,rfl,rfl,hi⟩
   have h1:=kM (ez fM) l k i
   have h2:=fG (ez fM) l k i
   (refine vK ?_;with_reducible repeat' first|exact Le.l|apply Sw|intro h)
   (refine AW.i rfl (fun h=>?_) (fun h=>?_)<;>try simp only [hC,reduceCtorEq] at h)
   ·have h3:=fG (ez fM) l k (i+1)
    rw [lO h]
    rw [dR h] at h3
    have hpre:=j5 (e:=ak true) (f:=cm) (sz:=3) (k:=k) (fun x=>by rw [cH];rfl) hi
    have hpost:(((l.drop (i+1)).map (ak true)).flatMap AV.cells).length=(l.length - (i+1)) * 3:=by
     rw [kV (e:=ak true) (sz:=3) (fun x=>by rw [cH];rfl),List.length_drop]
    have hnx:=jy (e:=ak true) (f:=cm) (k:=k) h
    have hkk:SizeOf.sizeOf (at_ l i).ag<n:=by have:=ah.dM (at_mem h);omega
    rw [mi] at hnx
    generalize mkb (ak true) cm l k i=pre at hpre hnx ⊢
    generalize ((l.drop (i+1)).map (ak true)).flatMap AV.cells=post at hnx hpost ⊢
    generalize e1:at_ l i=x at *
    generalize e2:mkc cm l k i=c at *
    rw [cH]
    simp only [cH] at hnx
    refine AW.imp (Imp.tQ (b:=b) pre [_,_,_] post (eI _ _ _) fun hs=>?_)
    simp (maxSteps:=2000000) (disch:=omega) only [go_sem]
    have g0:=bM fM x.ag (c+1+1)
    rw [mi] at h3;simp only at h3
    (refine vK ?_;with_reducible repeat' first|exact Le.l|apply Sw|intro h)
    refine Imp.tv (b:=b) pre [_,_,_] post (eI _ _ _) ?_
    simp (maxSteps:=2000000) (disch:=omega) only [go_sem]
    exact ⟨_,[_,_],_,by omega,⟨i+1,by rw [dR h,e1,e2,mi],rfl,rfl,by omega⟩,rfl,aE hnx⟩
   ·rw [jI h,j4 h]
    all_goals exact uU
  ·have:l=[]:=by simpa using e
   subst this
   refine ⟨?_,rfl⟩
   refine Ctr.bd Tryz.func23 Tryz.ntmps23 rfl rfl fun hp=>?_
   (refine vU ?_;with_reducible repeat' first|exact Le.l|apply Sw|intro h)
   refine AW.aw [] [0,1,5] (fun m xs o=>xs=[]/\o=[]) 0 [] trivial ⟨rfl,rfl⟩ ?_
   rintro m xs o ⟨rfl,rfl⟩
   (refine vU ?_;with_reducible repeat' first|exact Le.l|apply Sw|intro h)
   rfl
instance PZ(l:List ah)(k:Int):fu lim Tryz.prog 23 3 (l.map (ak true)) [.v (.int .i64 k)] (.v (.int .i64 (mkL cm l k).2)) ((mkL cm l k).1.map (ak true)) (0<=k/\(mkL cm l k).2<=1099511627776):=⟨(aW 23),fun h=>(vW (SizeOf.sizeOf l+1) l k).out ⟨Nat.lt_succ_self _,h⟩⟩
theorem wg:∀ (n:Nat) (l:List ah) (k:Int),Ctr lim Tryz.prog 24 [] [.sl false 3 ((mkL cm l k).1.map (ak false)),.v (.int .i64 k)] (.v (.int .i64 (mkL cm l k).2)) [] (SizeOf.sizeOf l<n/\0<=k/\(mkL cm l k).2<=1099511627776)
 | 0,l,k=>⟨(aW 24),fun h=>absurd h.1 (Nat.not_lt_zero _)⟩
 | n+1,l,k=>by
  have ih:=wg n
  refine Ctr.bd Tryz.func24 Tryz.ntmps24 rfl rfl fun hp=>?_
  have hup:=bM fM l k
  have hml:=gN (f:=cm) l k
  (refine vU ?_;with_reducible repeat' first|exact Le.l|apply Sw|intro h)
  refine AW.aw [1,5] [0] (fun m xs o=>∃ i:Nat,xs=[.v (.int .i64 (mkc cm l k i)),.v (.int .i64 i)]/\o=[]/\m=l.length - i/\i<=l.length) l.length [] trivial ⟨0,rfl,rfl,rfl,?_⟩ ?_
  ·omega
  rintro m xs o ⟨i,rfl,rfl,rfl,hi⟩
  have h1:=kM (ez fM) l k i
  have h2:=fG (ez fM) l k i
  (refine vK ?_;with_reducible repeat' first|exact Le.l|apply Sw|intro h)
  (refine AW.i rfl (fun h=>?_) (fun h=>?_)<;>try simp only [hC,reduceCtorEq] at h)
  ·rw [hml] at h
   have h3:=fG (ez fM) l k (i+1)
   have hat:=Oo (f:=cm) (k:=k) h
   rw [dR h] at h3
   have hlt:=h
   have hkk:SizeOf.sizeOf (at_ l i).ag<n:=by have:=ah.dM (at_mem h);omega
   rw [mi] at h3 hat
   simp only at h3 hat
   have g0:=bM fM (at_ l i).ag ((mkc cm l k i)+1+1)
   have Ur:(at_ (mkL cm l k).1 i).af=mkT ((mkc cm l k i)):=by rw [hat];rfl
   have Uq:(at_ (mkL cm l k).1 i).ax=mkT ((mkc cm l k i)+1):=by rw [hat];rfl
   have Uo:(at_ (mkL cm l k).1 i).ag=(mkL cm (at_ l i).ag ((mkc cm l k i)+1+1)).1:=by rw [hat];rfl
   (repeat' first|(with_reducible first|refine Z ?_|refine Y ?_|(refine hK _ _ ?_;clear hK K)|refine And.intro ?_ ?_|exact Ct|intro (K:_->_->Prop) hK|(refine gI fun hg=>?_;try simp only [hC,reduceCtorEq] at hg;try simp only [hg]))|(refine AW.i rfl (fun h=>?_) (fun h=>?_)<;>try simp only [hC,reduceCtorEq] at h)|((with_reducible refine E ?_;repeat refine Y ?_);refine eF rfl ?_)|simp (disch:=omega) only [go_sem,Ur,Uq,Uo,beq_self_eq_true,bne_self_eq_false,Bool.not_true]|(with_reducible intro hg;try simp only [hC,reduceCtorEq] at hg)|exact Cl|fail)
   exact ⟨_,[_,_],[],by omega,⟨i+1,by rw [dR hlt,mi],rfl,rfl,by omega⟩,rfl,trivial⟩
  ·rw [hml] at h
   rw [jI h]
   all_goals exact uU
instance P7(l:List ah)(k:Int):Ctr lim Tryz.prog 24 [] [.sl false 3 ((mkL cm l k).1.map (ak false)),.v (.int .i64 k)] (.v (.int .i64 (mkL cm l k).2)) [] (0<=k/\(mkL cm l k).2<=1099511627776):=⟨(aW 24),fun h=>(wg (SizeOf.sizeOf l+1) l k).out ⟨Nat.lt_succ_self _,h⟩⟩
end Go.Proofs
namespace Go.Dt
open Go.Ab
def fA(x:bh)(k:Int):bh×Int:=(⟨mkT k,⟨k+1,(mkL aU x.fType.av (k+1+1)).1,(mkL au x.fType.ay ((mkL aU x.fType.av (k+1+1)).2)).1,mkT ((mkL au x.fType.ay ((mkL aU x.fType.av (k+1+1)).2)).2),mkT ((mkL au x.fType.ay ((mkL aU x.fType.av (k+1+1)).2)).2+1)⟩⟩,(mkL au x.fType.ay ((mkL aU x.fType.av (k+1+1)).2)).2+1+1)
theorem lq(x:bh)(k:Int):k+1<=(fA x k).2:=by
 have g0:=bM jg x.fType.av (k+1+1)
 have g1:=bM fE x.fType.ay ((mkL aU x.fType.av (k+1+1)).2)
 unfold fA;simp only;omega
def cg(x:aL)(k:Int):aL×Int:=(⟨mkT k,(mkL fA x.aC (k+1)).1,(mkL cm x.cD ((mkL fA x.aC (k+1)).2)).1⟩,(mkL cm x.cD ((mkL fA x.aC (k+1)).2)).2)
theorem iY(x:aL)(k:Int):k+1<=(cg x k).2:=by
 have g0:=bM lq x.aC (k+1)
 have g1:=bM fM x.cD ((mkL fA x.aC (k+1)).2)
 unfold cg;simp only;omega
def eQ(x:bI)(k:Int):bI×Int:=(⟨mkT k,mkT (k+1)⟩,k+1+1)
theorem kE(x:bI)(k:Int):k+1<=(eQ x k).2:=by
 unfold eQ;simp only;omega
def dn(x:bt)(k:Int):bt×Int:=(⟨mkT k,mkT (k+1),(mkL eQ x.fArgs (k+1+1)).1,(mkL au x.ck ((mkL eQ x.fArgs (k+1+1)).2)).1⟩,(mkL au x.ck ((mkL eQ x.fArgs (k+1+1)).2)).2)
theorem jF(x:bt)(k:Int):k+1<=(dn x k).2:=by
 have g0:=bM kE x.fArgs (k+1+1)
 have g1:=bM fE x.ck ((mkL eQ x.fArgs (k+1+1)).2)
 unfold dn;simp only;omega
def nJ(x:bt)(k:Int):bt×Int:=(⟨x.af,x.aX,(mkL eQ x.fArgs k).1,(mkL au x.ck ((mkL eQ x.fArgs k).2)).1⟩,(mkL au x.ck ((mkL eQ x.fArgs k).2)).2)
theorem BV(x:bt)(k:Int):k<=(nJ x k).2:=by
 have g0:=bM kE x.fArgs k
 have g1:=bM fE x.ck ((mkL eQ x.fArgs k).2)
 unfold nJ;simp only;omega
def tw(x:gz)(k:Int):gz×Int:=(⟨(mkL cg x.bf k).1,(mkL dn x.bV ((mkL cg x.bf k).2)).1⟩,(mkL dn x.bV ((mkL cg x.bf k).2)).2)
theorem G9(x:gz)(k:Int):k<=(tw x k).2:=by
 have g0:=bM iY x.bf k
 have g1:=bM jF x.bV ((mkL cg x.bf k).2)
 unfold tw;simp only;omega
end Go.Dt
namespace Go.Proofs
open Go.Ab Go.Dt
instance Ot(l:List bh)(k:Int):fu lim Tryz.prog 137 6 (l.map (aV true)) [.v (.int .i64 k)] (.v (.int .i64 (mkL fA l k).2)) ((mkL fA l k).1.map (aV true)) (0<=k/\(mkL fA l k).2<=1099511627776):=by
 refine fu.of (aW 137) (fun b=>?_) (fun e=>?_) (by simp [gN]) (bO (fun _=>rfl) _) (bO (fun _=>rfl) _)
 ·simp only [List.length_map]
  refine Ctr.bd Tryz.func137 Tryz.ntmps137 rfl rfl fun hp=>?_
  have hup:=bM lq l k
  (refine vU ?_;with_reducible repeat' first|exact Le.l|apply Sw|intro h)
  refine AW.mI [1,5] [0] (fun m xs o=>∃ i:Nat,xs=[.v (.int .i64 (mkc fA l k i)),.v (.int .i64 i)]/\o=[(b,some (((mkp fA l k i).map (aV true)).flatMap AV.cells))]/\m=l.length - i/\i<=l.length) l.length [(b,some ((l.map (aV true)).flatMap AV.cells))] (aE rfl) ⟨0,rfl,?_,rfl,?_⟩ ?_
  ·rw [jx]
  ·omega
  rintro m xs o ⟨i,rfl,rfl,rfl,hi⟩
  have h1:=kM (ez lq) l k i
  have h2:=fG (ez lq) l k i
  (refine vK ?_;with_reducible repeat' first|exact Le.l|apply Sw|intro h)
  (refine AW.i rfl (fun h=>?_) (fun h=>?_)<;>try simp only [hC,reduceCtorEq] at h)
  ·have h3:=fG (ez lq) l k (i+1)
   rw [lO h]
   rw [dR h] at h3
   have hpre:=j5 (e:=aV true) (f:=fA) (sz:=6) (k:=k) (fun _=>rfl) hi
   have hpost:(((l.drop (i+1)).map (aV true)).flatMap AV.cells).length=(l.length - (i+1)) * 6:=by
    rw [kV (e:=aV true) (sz:=6) (fun _=>rfl),List.length_drop]
   have hnx:=jy (e:=aV true) (f:=fA) (k:=k) h
   generalize mkb (aV true) fA l k i=pre at hpre hnx ⊢
   generalize ((l.drop (i+1)).map (aV true)).flatMap AV.cells=post at hnx hpost ⊢
   generalize e1:at_ l i=x at *
   generalize e2:mkc fA l k i=c at *
   refine AW.imp (Imp.tQ (b:=b) pre [_,_,_,_,_,_] post (eI _ _ _) fun hs=>?_)
   simp (maxSteps:=2000000) (disch:=omega) only [go_sem]
   have g0:=bM jg x.fType.av (c+1+1)
   have g1:=bM fE x.fType.ay ((mkL aU x.fType.av (c+1+1)).2)
   simp only [fA] at h3
   (refine vK ?_;with_reducible repeat' first|exact Le.l|apply Sw|intro h)
   refine Imp.tv (b:=b) pre [_,_,_,_,_,_] post (eI _ _ _) ?_
   simp (maxSteps:=2000000) (disch:=omega) only [go_sem]
   exact ⟨_,[_,_],_,by omega,⟨i+1,by rw [dR h,e1,e2];rfl,rfl,rfl,by omega⟩,rfl,aE hnx⟩
  ·rw [jI h,j4 h]
   all_goals exact uU
 ·have:l=[]:=by simpa using e
  subst this
  refine ⟨?_,rfl⟩
  refine Ctr.bd Tryz.func137 Tryz.ntmps137 rfl rfl fun hp=>?_
  (refine vU ?_;with_reducible repeat' first|exact Le.l|apply Sw|intro h)
  refine AW.aw [] [0,1,5] (fun m xs o=>xs=[]/\o=[]) 0 [] trivial ⟨rfl,rfl⟩ ?_
  rintro m xs o ⟨rfl,rfl⟩
  (refine vU ?_;with_reducible repeat' first|exact Le.l|apply Sw|intro h)
  rfl
instance KP(l:List aL)(k:Int):fu lim Tryz.prog 73 3 (l.map (aQ true)) [.v (.int .i64 k)] (.v (.int .i64 (mkL cg l k).2)) ((mkL cg l k).1.map (aQ true)) (0<=k/\(mkL cg l k).2<=1099511627776):=by
 refine fu.of (aW 73) (fun b=>?_) (fun e=>?_) (by simp [gN]) (bO (fun _=>rfl) _) (bO (fun _=>rfl) _)
 ·simp only [List.length_map]
  refine Ctr.bd Tryz.func73 Tryz.ntmps73 rfl rfl fun hp=>?_
  have hup:=bM iY l k
  (refine vU ?_;with_reducible repeat' first|exact Le.l|apply Sw|intro h)
  refine AW.mI [1,5] [0] (fun m xs o=>∃ i:Nat,xs=[.v (.int .i64 (mkc cg l k i)),.v (.int .i64 i)]/\o=[(b,some (((mkp cg l k i).map (aQ true)).flatMap AV.cells))]/\m=l.length - i/\i<=l.length) l.length [(b,some ((l.map (aQ true)).flatMap AV.cells))] (aE rfl) ⟨0,rfl,?_,rfl,?_⟩ ?_
  ·rw [jx]
  ·omega
  rintro m xs o ⟨i,rfl,rfl,rfl,hi⟩
  have h1:=kM (ez iY) l k i
  have h2:=fG (ez iY) l k i
  (refine vK ?_;with_reducible repeat' first|exact Le.l|apply Sw|intro h)
  (refine AW.i rfl (fun h=>?_) (fun h=>?_)<;>try simp only [hC,reduceCtorEq] at h)
  ·have h3:=fG (ez iY) l k (i+1)
   rw [lO h]
   rw [dR h] at h3
   have hpre:=j5 (e:=aQ true) (f:=cg) (sz:=3) (k:=k) (fun _=>rfl) hi
   have hpost:(((l.drop (i+1)).map (aQ true)).flatMap AV.cells).length=(l.length - (i+1)) * 3:=by
    rw [kV (e:=aQ true) (sz:=3) (fun _=>rfl),List.length_drop]
   have hnx:=jy (e:=aQ true) (f:=cg) (k:=k) h
   generalize mkb (aQ true) cg l k i=pre at hpre hnx ⊢
   generalize ((l.drop (i+1)).map (aQ true)).flatMap AV.cells=post at hnx hpost ⊢
   generalize e1:at_ l i=x at *
   generalize e2:mkc cg l k i=c at *
   refine AW.imp (Imp.tQ (b:=b) pre [_,_,_] post (eI _ _ _) fun hs=>?_)
   simp (maxSteps:=2000000) (disch:=omega) only [go_sem]
   have g0:=bM lq x.aC (c+1)
   have g1:=bM fM x.cD ((mkL fA x.aC (c+1)).2)
   simp only [cg] at h3
   (refine vK ?_;with_reducible repeat' first|exact Le.l|apply Sw|intro h)
   refine Imp.tv (b:=b) pre [_,_,_] post (eI _ _ _) ?_
   simp (maxSteps:=2000000) (disch:=omega) only [go_sem]
   exact ⟨_,[_,_],_,by omega,⟨i+1,by rw [dR h,e1,e2];rfl,rfl,rfl,by omega⟩,rfl,aE hnx⟩
  ·rw [jI h,j4 h]
   all_goals exact uU
 ·have:l=[]:=by simpa using e
  subst this
  refine ⟨?_,rfl⟩
  refine Ctr.bd Tryz.func73 Tryz.ntmps73 rfl rfl fun hp=>?_
  (refine vU ?_;with_reducible repeat' first|exact Le.l|apply Sw|intro h)
  refine AW.aw [] [0,1,5] (fun m xs o=>xs=[]/\o=[]) 0 [] trivial ⟨rfl,rfl⟩ ?_
  rintro m xs o ⟨rfl,rfl⟩
  (refine vU ?_;with_reducible repeat' first|exact Le.l|apply Sw|intro h)
  rfl
instance QP(l:List bI)(k:Int):fu lim Tryz.prog 78 2 (l.map (bp true)) [.v (.int .i64 k)] (.v (.int .i64 (mkL eQ l k).2)) ((mkL eQ l k).1.map (bp true)) (0<=k/\(mkL eQ l k).2<=1099511627776):=by
 refine fu.of (aW 78) (fun b=>?_) (fun e=>?_) (by simp [gN]) (bO (fun _=>rfl) _) (bO (fun _=>rfl) _)
 ·simp only [List.length_map]
  refine Ctr.bd Tryz.func78 Tryz.ntmps78 rfl rfl fun hp=>?_
  have hup:=bM kE l k
  (refine vU ?_;with_reducible repeat' first|exact Le.l|apply Sw|intro h)
  refine AW.aw [1,5] [0] (fun m xs o=>∃ i:Nat,xs=[.v (.int .i64 (mkc eQ l k i)),.v (.int .i64 i)]/\o=[(b,some (((mkp eQ l k i).map (bp true)).flatMap AV.cells))]/\m=l.length - i/\i<=l.length) l.length [(b,some ((l.map (bp true)).flatMap AV.cells))] (aE rfl) ⟨0,rfl,?_,rfl,?_⟩ ?_
  ·rw [jx]
  ·omega
  rintro m xs o ⟨i,rfl,rfl,rfl,hi⟩
  have h1:=kM (ez kE) l k i
  have h2:=fG (ez kE) l k i
  (refine vK ?_;with_reducible repeat' first|exact Le.l|apply Sw|intro h)
  (refine AW.i rfl (fun h=>?_) (fun h=>?_)<;>try simp only [hC,reduceCtorEq] at h)
  ·have h3:=fG (ez kE) l k (i+1)
   rw [lO h]
   rw [dR h] at h3
   have hpre:=j5 (e:=bp true) (f:=eQ) (sz:=2) (k:=k) (fun _=>rfl) hi
   have hpost:(((l.drop (i+1)).map (bp true)).flatMap AV.cells).length=(l.length - (i+1)) * 2:=by
    rw [kV (e:=bp true) (sz:=2) (fun _=>rfl),List.length_drop]
   have hnx:=jy (e:=bp true) (f:=eQ) (k:=k) h
   generalize mkb (bp true) eQ l k i=pre at hpre hnx ⊢
   generalize ((l.drop (i+1)).map (bp true)).flatMap AV.cells=post at hnx hpost ⊢
   generalize e1:at_ l i=x at *
   generalize e2:mkc eQ l k i=c at *
   simp only [eQ] at h3
   (refine vK ?_;with_reducible repeat' first|exact Le.l|apply Sw|intro h)
   exact ⟨_,[_,_],_,by omega,⟨i+1,by rw [dR h,e1,e2];rfl,rfl,rfl,by omega⟩,rfl,aE hnx⟩
  ·rw [jI h,j4 h]
   all_goals exact uU
 ·have:l=[]:=by simpa using e
  subst this
  refine ⟨?_,rfl⟩
  refine Ctr.bd Tryz.func78 Tryz.ntmps78 rfl rfl fun hp=>?_
  (refine vU ?_;with_reducible repeat' first|exact Le.l|apply Sw|intro h)
  refine AW.aw [] [0,1,5] (fun m xs o=>xs=[]/\o=[]) 0 [] trivial ⟨rfl,rfl⟩ ?_
  rintro m xs o ⟨rfl,rfl⟩
  (refine vU ?_;with_reducible repeat' first|exact Le.l|apply Sw|intro h)
  rfl
instance L3(l:List bt)(k:Int):fu lim Tryz.prog 74 4 (l.map (aT true)) [.v (.int .i64 k)] (.v (.int .i64 (mkL dn l k).2)) ((mkL dn l k).1.map (aT true)) (0<=k/\(mkL dn l k).2<=1099511627776):=by
 refine fu.of (aW 74) (fun b=>?_) (fun e=>?_) (by simp [gN]) (bO (fun _=>rfl) _) (bO (fun _=>rfl) _)
 ·simp only [List.length_map]
  refine Ctr.bd Tryz.func74 Tryz.ntmps74 rfl rfl fun hp=>?_
  have hup:=bM jF l k
  (refine vU ?_;with_reducible repeat' first|exact Le.l|apply Sw|intro h)
  refine AW.mI [1,5] [0] (fun m xs o=>∃ i:Nat,xs=[.v (.int .i64 (mkc dn l k i)),.v (.int .i64 i)]/\o=[(b,some (((mkp dn l k i).map (aT true)).flatMap AV.cells))]/\m=l.length - i/\i<=l.length) l.length [(b,some ((l.map (aT true)).flatMap AV.cells))] (aE rfl) ⟨0,rfl,?_,rfl,?_⟩ ?_
  ·rw [jx]
  ·omega
  rintro m xs o ⟨i,rfl,rfl,rfl,hi⟩
  have h1:=kM (ez jF) l k i
  have h2:=fG (ez jF) l k i
  (refine vK ?_;with_reducible repeat' first|exact Le.l|apply Sw|intro h)
  (refine AW.i rfl (fun h=>?_) (fun h=>?_)<;>try simp only [hC,reduceCtorEq] at h)
  ·have h3:=fG (ez jF) l k (i+1)
   rw [lO h]
   rw [dR h] at h3
   have hpre:=j5 (e:=aT true) (f:=dn) (sz:=4) (k:=k) (fun _=>rfl) hi
   have hpost:(((l.drop (i+1)).map (aT true)).flatMap AV.cells).length=(l.length - (i+1)) * 4:=by
    rw [kV (e:=aT true) (sz:=4) (fun _=>rfl),List.length_drop]
   have hnx:=jy (e:=aT true) (f:=dn) (k:=k) h
   generalize mkb (aT true) dn l k i=pre at hpre hnx ⊢
   generalize ((l.drop (i+1)).map (aT true)).flatMap AV.cells=post at hnx hpost ⊢
   generalize e1:at_ l i=x at *
   generalize e2:mkc dn l k i=c at *
   refine AW.imp (Imp.tQ (b:=b) pre [_,_,_,_] post (eI _ _ _) fun hs=>?_)
   simp (maxSteps:=2000000) (disch:=omega) only [go_sem]
   have g0:=bM kE x.fArgs (c+1+1)
   have g1:=bM fE x.ck ((mkL eQ x.fArgs (c+1+1)).2)
   simp only [dn] at h3
   (refine vK ?_;with_reducible repeat' first|exact Le.l|apply Sw|intro h)
   refine Imp.tv (b:=b) pre [_,_,_,_] post (eI _ _ _) ?_
   simp (maxSteps:=2000000) (disch:=omega) only [go_sem]
   exact ⟨_,[_,_],_,by omega,⟨i+1,by rw [dR h,e1,e2];rfl,rfl,rfl,by omega⟩,rfl,aE hnx⟩
  ·rw [jI h,j4 h]
   all_goals exact uU
 ·have:l=[]:=by simpa using e
  subst this
  refine ⟨?_,rfl⟩
  refine Ctr.bd Tryz.func74 Tryz.ntmps74 rfl rfl fun hp=>?_
  (refine vU ?_;with_reducible repeat' first|exact Le.l|apply Sw|intro h)
  refine AW.aw [] [0,1,5] (fun m xs o=>xs=[]/\o=[]) 0 [] trivial ⟨rfl,rfl⟩ ?_
  rintro m xs o ⟨rfl,rfl⟩
  (refine vU ?_;with_reducible repeat' first|exact Le.l|apply Sw|intro h)
  rfl
instance Nd(x:bt)(k:Int):pT lim Tryz.prog 22 true [.str x.af,.str x.aX,.sl true 2 (x.fArgs.map (bp true)),.sl true 1 (x.ck.map AV.str)] [.v (.int .i64 k)] (.v (.int .i64 (mkL au x.ck (mkL eQ x.fArgs k).2).2)) [.str x.af,.str x.aX,.sl true 2 ((mkL eQ x.fArgs k).1.map (bp true)),.sl true 1 ((mkL au x.ck (mkL eQ x.fArgs k).2).1.map AV.str)] (0<=k/\(mkL au x.ck (mkL eQ x.fArgs k).2).2<=1099511627776):=by
 refine ⟨(aW 22),fun hp=>InC.eO Tryz.func22 rfl rfl rfl (fun hs=>rfl) (fun hs=>rfl) (fun hs=>rfl) rfl fun hs=>?_⟩
 rw [Tryz.ntmps22]
 have g0:=bM kE x.fArgs k
 have g1:=bM fE x.ck (mkL eQ x.fArgs k).2
 (refine bX ?_;with_reducible repeat' first|exact Le.l|apply Sw|intro h)
 refine AW.ret (aF.inp h rfl ?_)
 simp (maxSteps:=2000000) (disch:=omega) only [go_sem]
instance QO(x:gz)(k:Int):pT lim Tryz.prog 20 true [.sl true 3 (x.bf.map (aQ true)),.sl true 4 (x.bV.map (aT true))] [.v (.int .i64 k)] (.v (.int .i64 (mkL dn x.bV (mkL cg x.bf k).2).2)) [.sl true 3 ((mkL cg x.bf k).1.map (aQ true)),.sl true 4 ((mkL dn x.bV (mkL cg x.bf k).2).1.map (aT true))] (0<=k/\(mkL dn x.bV (mkL cg x.bf k).2).2<=1099511627776):=by
 refine ⟨(aW 20),fun hp=>InC.eO Tryz.func20 rfl rfl rfl (fun hs=>rfl) (fun hs=>rfl) (fun hs=>rfl) rfl fun hs=>?_⟩
 rw [Tryz.ntmps20]
 have g0:=bM iY x.bf k
 have g1:=bM jF x.bV (mkL cg x.bf k).2
 (refine bX ?_;with_reducible repeat' first|exact Le.l|apply Sw|intro h)
 refine AW.ret (aF.inp h rfl ?_)
 simp (maxSteps:=2000000) (disch:=omega) only [go_sem]
end Go.Proofs
namespace Go.Dt
open Go.Ab
theorem D5(x:bh)(k r:Int)(h0:0<=r)(h:0<=eZ x r):(fA x k).2<=k+32+32 * (r - eZ x r):=by
 simp only [fA]
 unfold eZ at h ⊢
 obtain ⟨a0,h⟩:=aP h
 rw [bJ a0]
 have q0:=aJ x.af r h0
 obtain ⟨a1,h⟩:=aP h
 rw [bJ a1]
 have q1:=yj x.fType (k+1) (az x.af r) a0 a1
 simp only [yl] at q1
 simp only [id]
 omega
theorem yS(x:aL)(k r:Int)(h0:0<=r)(h:0<=dh x r):(cg x k).2<=k+32+32 * (r - dh x r):=by
 simp only [cg]
 unfold dh at h ⊢
 obtain ⟨a0,h⟩:=aP h
 rw [bJ a0]
 have q0:=aJ x.af r h0
 obtain ⟨a1,h⟩:=aP h
 rw [bJ a1]
 have q1:=gh jO D5 x.aC (k+1) (az x.af r) a0 a1
 obtain ⟨a2,h⟩:=aP h
 rw [bJ a2]
 have q2:=gh gX xC x.cD ((mkL fA x.aC (k+1)).2) (aM eZ x.aC (az x.af r)) a1 a2
 simp only [id]
 omega
theorem zY(x:bI)(k r:Int)(h0:0<=r)(h:0<=gm x r):(eQ x k).2<=k+32+32 * (r - gm x r):=by
 simp only [eQ]
 unfold gm at h ⊢
 obtain ⟨a0,h⟩:=aP h
 rw [bJ a0]
 have q0:=aJ x.af r h0
 obtain ⟨a1,h⟩:=aP h
 rw [bJ a1]
 have q1:=aJ x.ax (az x.af r) a0
 simp only [id]
 omega
theorem Bf(x:bt)(k r:Int)(h0:0<=r)(h:0<=dm x r):(dn x k).2<=k+32+32 * (r - dm x r):=by
 simp only [dn]
 unfold dm at h ⊢
 obtain ⟨a0,h⟩:=aP h
 rw [bJ a0]
 have q0:=aJ x.af r h0
 obtain ⟨a1,h⟩:=aP h
 rw [bJ a1]
 have q1:=aJ x.aX (az x.af r) a0
 obtain ⟨a2,h⟩:=aP h
 rw [bJ a2]
 have q2:=gh kz zY x.fArgs (k+1+1) (az x.aX (az x.af r)) a1 a2
 obtain ⟨a3,h⟩:=aP h
 rw [bJ a3]
 have q3:=gh aJ kD x.ck ((mkL eQ x.fArgs (k+1+1)).2) (aM gm x.fArgs (az x.aX (az x.af r))) a2 a3
 simp only [id]
 omega
theorem Be(x:bt)(k r:Int)(h0:0<=r)(h:0<=dm x r):(nJ x k).2<=k+32 * (r - dm x r):=by
 simp only [nJ]
 unfold dm at h ⊢
 obtain ⟨a0,h⟩:=aP h
 rw [bJ a0]
 have q0:=aJ x.af r h0
 obtain ⟨a1,h⟩:=aP h
 rw [bJ a1]
 have q1:=aJ x.aX (az x.af r) a0
 obtain ⟨a2,h⟩:=aP h
 rw [bJ a2]
 have q2:=gh kz zY x.fArgs k (az x.aX (az x.af r)) a1 a2
 obtain ⟨a3,h⟩:=aP h
 rw [bJ a3]
 have q3:=gh aJ kD x.ck ((mkL eQ x.fArgs k).2) (aM gm x.fArgs (az x.aX (az x.af r))) a2 a3
 simp only [id]
 omega
theorem FI(x:gz)(k r:Int)(h0:0<=r)(h:0<=dz x r):(tw x k).2<=k+32 * (r - dz x r):=by
 simp only [tw]
 unfold dz at h ⊢
 obtain ⟨a0,h⟩:=aP h
 rw [bJ a0]
 have q0:=gh ic yS x.bf k r h0 a0
 obtain ⟨a1,h⟩:=aP h
 rw [bJ a1]
 have q1:=gh gW Bf x.bV ((mkL cg x.bf k).2) (aM dh x.bf r) a0 a1
 simp only [id]
 omega
end Go.Dt
namespace Go.Ab
open Go.Dt
theorem zT{P:Program}{W:World}{name:String}{k:IntKind}{zs:List Int}{g:Nat}{t e:TypeId}{n:Nat}
  (hg:P.globalNamed name=some g) (hty:(P.globals[g]?).map (·.type)=some t) (ht:P.underlying t=some (.array n e)) (he:P.underlying e=some (.int k)) (hce:P.cellsOf e=1) (hct:P.cellsOf t=n) :
  ∀ {l:List (String×DataW Unit)} {ps:List MemPlace},(name,Lib.tabData k zs)∈l->DataW.LaidVars P W l ps->Lib.TabIs P W name k zs
 | [],_,hm,_=>by cases hm
 | (nm,d)::r,ps,hm,h=>by
  obtain ⟨g',t',cs,fuel,p,q,hg',ht',hvar,hd,hr,_⟩:=h
  rcases List.mem_cons.1 hm with e1|hm
  ·obtain ⟨rfl,rfl⟩:=Prod.mk.inj e1
   obtain rfl:=Option.some.inj (hg.symm.trans hg')
   obtain rfl:=Option.some.inj (hty.symm.trans ht')
   unfold Lib.TabIs
   rw [hvar,<- Lib.cells_of_tab ht he hce hct hd]
  ·exact zT hg hty ht he hce hct hm hr
theorem JO{P:Program}{os:Os}{laid:List (String×DataW Unit)}(args:Array Value)(hp:(laid.all fun x=>x.2.handleName?.isNone)=true)
  (hf:(World.holding P os ⟨#[],#[],[]⟩).layFits P laid []=true)
  (hi:(World.holding P os ⟨#[],#[],[]⟩).layIfaces P laid (World.laidAll P os laid)=true) :
  laidMetH P laid ((World.laidAll P os laid).forCall (fun _ _=>0) ⟨#[],args,[]⟩).memory:=by
 rw [MakeChecks.laidMetH_plain _ _ _ hp];exact laidMet_laidAll args hf hi
end Go.Ab
