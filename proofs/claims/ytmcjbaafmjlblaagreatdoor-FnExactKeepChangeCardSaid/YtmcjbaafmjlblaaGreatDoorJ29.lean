/- A part. -/
import Derived.Test.YtmcjbaafmjlblaaGreatDoorJ28
set_option linter.all false
set_option maxRecDepth 20000
set_option maxHeartbeats 4000000
namespace Go.Proofs
open Go.Ab Go.Dt
section
def plS(s:Dt.GStep):AV:=.agg [.str s.ae,.v (.slice none 0 0)]
theorem OU(l:List Dt.GStep):(l.map plS).all (AV.elem 2)=true:=cX (fun _=>rfl) l
attribute [go_sem] plS OU
def ZC(l:List Dt.GStep)(k:Nat):List AV:=((l.take k).map (aU true)).flatMap AV.cells++((l.drop k).map plS).flatMap AV.cells
end
section
instance UU(x:eO):Ctr lim Tryz.prog 223 [] [.agg [.v (.bool x.cH),.v (.int .i64 x.dq),.sl false 2 (x.aN.map (aU false))]] (.agg [.v (.bool x.cH),.v (.int .i64 x.dq),.sl true 2 (x.aN.map (aU true))]) [] True:=by
 refine Ctr.bd Tryz.func223 Tryz.ntmps223 rfl rfl fun hp=>?_
 refine AW.fact 0 fun hf=>?_
 simp (disch:=omega) only [go_sem] at hf
 (refine vU ?_;with_reducible repeat' first|exact Le.l|apply Sw|intro h)
 rename_i b2 b3
 refine AW.imp (Imp.nZ (b:=b3) 2 [_,_] [] (eQ _ _ _) ?_)
 simp (maxSteps:=2000000) (disch:=omega) only [go_sem]
 refine AW.iA [4] [1,2,3] (fun m xs o=>∃ k:Nat,xs=[.v (.int .i64 k)]/\o=[(b3,some [.v (.bool x.cH),.v (.int .i64 x.dq),.sl true 2 ((x.aN.take k).map (aU true))]),(b2,some [.v (.bool false),.v (.int .i64 0),.v (.slice none 0 0)])]/\m=x.aN.length - k/\k<=x.aN.length) x.aN.length [(b3,some [.v (.bool x.cH),.v (.int .i64 x.dq),.sl true 2 ((x.aN.take 0).map (aU true))]),(b2,some [.v (.bool false),.v (.int .i64 0),.v (.slice none 0 0)])] gO ⟨0,rfl,rfl,rfl,by omega⟩ ?_
 rintro m xs o ⟨k,rfl,rfl,rfl,hk⟩
 have hlt:(x.aN.take k).length=k:=by rw [List.length_take];omega
 refine vO ?_;intros;refine AW.c (fun h=>?_) fun h=>?_
 ·refine AW.Ug 12 rfl (x:=aU false (at_ x.aN k)) (List.mem_map_of_mem (at_mem h)) fun hfe=>?_
  simp (disch:=omega) only [go_sem] at hfe
  refine AW.imp (Imp.iZ (b0:=b3) (k:=2) (sz:=2) (l:=(x.aN.take k).map (aU true)) (eQ _ _ _) rfl (bB (fun _=>rfl) _) (fun b hb=>?_) (fun hnil=>?_))
  ·have hb1:=hb.nf
   simp only [go_sem] at hb1
   simp only [List.set_cons_zero,List.set_cons_succ,List.length_map]
   (refine vU ?_;with_reducible repeat' first|exact Le.l|apply Sw|intro h)
   ·rw [bH (sz:=2) (bB (fun _=>rfl) _),List.length_map]
   rename_i g
   refine Imp.tq (b0:=b3) (k:=2) (b:=g) (sz:=2) (cells0:=[.v (.bool x.cH),.v (.int .i64 x.dq),.arr g 0 ((x.aN.take k).length+1) 2]) (l:=(x.aN.take k).map (aU true)) (aU true (at_ x.aN k)) gO (by rw [List.length_map];rfl) (by simp (maxSteps:=2000000) (disch:=omega) only [go_sem];rfl) (by omega) (bB (fun _=>rfl) _) rfl ?_
   simp only [List.set_cons_zero,List.set_cons_succ]
   exact ⟨trivial,_,[_],_,by omega,⟨k+1,rfl,rfl,rfl,by omega⟩,rfl,by rw [db (by assumption),List.map_append];simp (maxSteps:=2000000) (disch:=omega) only [go_sem]⟩
  ·simp only [List.set_cons_zero,List.set_cons_succ,hnil]
   (refine vU ?_;with_reducible repeat' first|exact Le.l|apply Sw|intro h)
   have hk0:k=0:=by rw [List.map_eq_nil_iff] at hnil;rw [hnil] at hlt;exact hlt.symm
   subst hk0
   refine Imp.id ?_
   simp (maxSteps:=2000000) (disch:=omega) only [go_sem]
   exact ⟨_,[_],_,by omega,⟨1,rfl,rfl,rfl,by omega⟩,rfl,by rw [db (by assumption)];simp (maxSteps:=2000000) (disch:=omega) only [go_sem];rfl⟩
 ·rw [show k=x.aN.length by omega,List.take_length]
  all_goals exact uU
end
section
instance Q5(l:List du)(k:Int):fS lim Tryz.prog 73 2 (l.map (aR true)) [.v (.int .i64 k)] (.v (.int .i64 (mkL bg l k).2)) ((mkL bg l k).1.map (aR true)) (0<=k/\(mkL bg l k).2<=1099511627776):=by
 refine fS.of (aM 73) (fun b=>?_) (fun e=>?_) (by simp [gB]) (bB (fun _=>rfl) _) (bB (fun _=>rfl) _)
 ·simp only [List.length_map]
  refine Ctr.bd Tryz.func73 Tryz.ntmps73 rfl rfl fun hp=>?_
  have hup:=bG lG l k
  (refine vU ?_;with_reducible repeat' first|exact Le.l|apply Sw|intro h)
  refine AW.aA [1,5] [0] (fun m xs o=>∃ i:Nat,xs=[.v (.int .i64 (mkc bg l k i)),.v (.int .i64 i)]/\o=[(b,some (((mkp bg l k i).map (aR true)).flatMap AV.cells))]/\m=l.length - i/\i<=l.length) l.length [(b,some ((l.map (aR true)).flatMap AV.cells))] (bw rfl) ⟨0,rfl,?_,rfl,?_⟩ ?_
  ·rw [jL]
  ·omega
  rintro m xs o ⟨i,rfl,rfl,rfl,hi⟩
  have h1:=jV (dV lG) l k i
  have h2:=eV (dV lG) l k i
  refine vO ?_;intros;refine AW.c (fun h=>?_) fun h=>?_
  ·have h3:=eV (dV lG) l k (i+1)
   rw [l8 h]
   rw [dD h] at h3
   have hpre:=kG (e:=aR true) (f:=bg) (sz:=2) (k:=k) (fun _=>rfl) hi
   have hpost:(((l.drop (i+1)).map (aR true)).flatMap AV.cells).length=(l.length - (i+1)) * 2:=by
    rw [lq (e:=aR true) (sz:=2) (fun _=>rfl),List.length_drop]
   have hnx:=jM (e:=aR true) (f:=bg) (k:=k) h
   generalize mkb (aR true) bg l k i=pre at hpre hnx ⊢
   generalize ((l.drop (i+1)).map (aR true)).flatMap AV.cells=post at hnx hpost ⊢
   generalize e1:at_ l i=x at *
   generalize e2:mkc bg l k i=c at *
   simp only [bg] at h3
   (refine vK ?_;with_reducible repeat' first|exact Le.l|apply Sw|intro h)
   exact ⟨_,[_,_],_,by omega,⟨i+1,by rw [dD h,e1,e2];rfl,rfl,rfl,by omega⟩,rfl,bw hnx⟩
  ·rw [iW h,kF h]
   all_goals exact uU
 ·have:l=[]:=by simpa using e
  subst this
  refine ⟨?_,rfl⟩
  refine Ctr.bd Tryz.func73 Tryz.ntmps73 rfl rfl fun hp=>?_
  (refine vU ?_;with_reducible repeat' first|exact Le.l|apply Sw|intro h)
  refine AW.aA [] [0,1,5] (fun m xs o=>xs=[]/\o=[]) 0 [] trivial ⟨rfl,rfl⟩ ?_
  rintro m xs o ⟨rfl,rfl⟩
  (refine vU ?_;with_reducible repeat' first|exact Le.l|apply Sw|intro h)
  rfl
instance SH(l:List eC)(k:Int):fS lim Tryz.prog 160 2 (l.map (cj true)) [.v (.int .i64 k)] (.v (.int .i64 (mkL iJ l k).2)) ((mkL iJ l k).1.map (cj true)) (0<=k/\(mkL iJ l k).2<=1099511627776):=by
 refine fS.of (aM 160) (fun b=>?_) (fun e=>?_) (by simp [gB]) (bB (fun _=>rfl) _) (bB (fun _=>rfl) _)
 ·simp only [List.length_map]
  refine Ctr.bd Tryz.func160 Tryz.ntmps160 rfl rfl fun hp=>?_
  have hup:=bG mH l k
  (refine vU ?_;with_reducible repeat' first|exact Le.l|apply Sw|intro h)
  refine AW.aA [1,5] [0] (fun m xs o=>∃ i:Nat,xs=[.v (.int .i64 (mkc iJ l k i)),.v (.int .i64 i)]/\o=[(b,some (((mkp iJ l k i).map (cj true)).flatMap AV.cells))]/\m=l.length - i/\i<=l.length) l.length [(b,some ((l.map (cj true)).flatMap AV.cells))] (bw rfl) ⟨0,rfl,?_,rfl,?_⟩ ?_
  ·rw [jL]
  ·omega
  rintro m xs o ⟨i,rfl,rfl,rfl,hi⟩
  have h1:=jV (dV mH) l k i
  have h2:=eV (dV mH) l k i
  refine vO ?_;intros;refine AW.c (fun h=>?_) fun h=>?_
  ·have h3:=eV (dV mH) l k (i+1)
   rw [l8 h]
   rw [dD h] at h3
   have hpre:=kG (e:=cj true) (f:=iJ) (sz:=2) (k:=k) (fun _=>rfl) hi
   have hpost:(((l.drop (i+1)).map (cj true)).flatMap AV.cells).length=(l.length - (i+1)) * 2:=by
    rw [lq (e:=cj true) (sz:=2) (fun _=>rfl),List.length_drop]
   have hnx:=jM (e:=cj true) (f:=iJ) (k:=k) h
   generalize mkb (cj true) iJ l k i=pre at hpre hnx ⊢
   generalize ((l.drop (i+1)).map (cj true)).flatMap AV.cells=post at hnx hpost ⊢
   generalize e1:at_ l i=x at *
   generalize e2:mkc iJ l k i=c at *
   simp only [iJ] at h3
   (refine vK ?_;with_reducible repeat' first|exact Le.l|apply Sw|intro h)
   exact ⟨_,[_,_],_,by omega,⟨i+1,by rw [dD h,e1,e2];rfl,rfl,rfl,by omega⟩,rfl,bw hnx⟩
  ·rw [iW h,kF h]
   all_goals exact uU
 ·have:l=[]:=by simpa using e
  subst this
  refine ⟨?_,rfl⟩
  refine Ctr.bd Tryz.func160 Tryz.ntmps160 rfl rfl fun hp=>?_
  (refine vU ?_;with_reducible repeat' first|exact Le.l|apply Sw|intro h)
  refine AW.aA [] [0,1,5] (fun m xs o=>xs=[]/\o=[]) 0 [] trivial ⟨rfl,rfl⟩ ?_
  rintro m xs o ⟨rfl,rfl⟩
  (refine vU ?_;with_reducible repeat' first|exact Le.l|apply Sw|intro h)
  rfl
instance SI(l:List Dt.GStep)(k:Int):fS lim Tryz.prog 124 2 (l.map (aU true)) [.v (.int .i64 k)] (.v (.int .i64 (mkL eZ l k).2)) ((mkL eZ l k).1.map (aU true)) (0<=k/\(mkL eZ l k).2<=1099511627776):=by
 refine fS.of (aM 124) (fun b=>?_) (fun e=>?_) (by simp [gB]) (bB (fun _=>rfl) _) (bB (fun _=>rfl) _)
 ·simp only [List.length_map]
  refine Ctr.bd Tryz.func124 Tryz.ntmps124 rfl rfl fun hp=>?_
  have hup:=bG mI l k
  (refine vU ?_;with_reducible repeat' first|exact Le.l|apply Sw|intro h)
  refine AW.iA [1,5] [0] (fun m xs o=>∃ i:Nat,xs=[.v (.int .i64 (mkc eZ l k i)),.v (.int .i64 i)]/\o=[(b,some (((mkp eZ l k i).map (aU true)).flatMap AV.cells))]/\m=l.length - i/\i<=l.length) l.length [(b,some ((l.map (aU true)).flatMap AV.cells))] (bw rfl) ⟨0,rfl,?_,rfl,?_⟩ ?_
  ·rw [jL]
  ·omega
  rintro m xs o ⟨i,rfl,rfl,rfl,hi⟩
  have h1:=jV (dV mI) l k i
  have h2:=eV (dV mI) l k i
  refine vO ?_;intros;refine AW.c (fun h=>?_) fun h=>?_
  ·have h3:=eV (dV mI) l k (i+1)
   rw [l8 h]
   rw [dD h] at h3
   have hpre:=kG (e:=aU true) (f:=eZ) (sz:=2) (k:=k) (fun _=>rfl) hi
   have hpost:(((l.drop (i+1)).map (aU true)).flatMap AV.cells).length=(l.length - (i+1)) * 2:=by
    rw [lq (e:=aU true) (sz:=2) (fun _=>rfl),List.length_drop]
   have hnx:=jM (e:=aU true) (f:=eZ) (k:=k) h
   generalize mkb (aU true) eZ l k i=pre at hpre hnx ⊢
   generalize ((l.drop (i+1)).map (aU true)).flatMap AV.cells=post at hnx hpost ⊢
   generalize e1:at_ l i=x at *
   generalize e2:mkc eZ l k i=c at *
   refine AW.imp (Imp.sO (b:=b) pre [_,_] post (eQ _ _ _) fun hs=>?_)
   simp (maxSteps:=2000000) (disch:=omega) only [go_sem]
   have g0:=bG mH x.b8 (c+1)
   simp only [eZ] at h3
   (refine vK ?_;with_reducible repeat' first|exact Le.l|apply Sw|intro h)
   refine Imp.uf (b:=b) pre [_,_] post (eQ _ _ _) ?_
   simp (maxSteps:=2000000) (disch:=omega) only [go_sem]
   exact ⟨_,[_,_],_,by omega,⟨i+1,by rw [dD h,e1,e2];rfl,rfl,rfl,by omega⟩,rfl,bw hnx⟩
  ·rw [iW h,kF h]
   all_goals exact uU
 ·have:l=[]:=by simpa using e
  subst this
  refine ⟨?_,rfl⟩
  refine Ctr.bd Tryz.func124 Tryz.ntmps124 rfl rfl fun hp=>?_
  (refine vU ?_;with_reducible repeat' first|exact Le.l|apply Sw|intro h)
  refine AW.aA [] [0,1,5] (fun m xs o=>xs=[]/\o=[]) 0 [] trivial ⟨rfl,rfl⟩ ?_
  rintro m xs o ⟨rfl,rfl⟩
  (refine vU ?_;with_reducible repeat' first|exact Le.l|apply Sw|intro h)
  rfl
theorem xk:∀ (n:Nat) (l:List aO) (k:Int),fS lim Tryz.prog 75 7 (l.map (aK true)) [.v (.int .i64 k)] (.v (.int .i64 (mkL cu l k).2)) ((mkL cu l k).1.map (aK true)) (SizeOf.sizeOf l<n/\0<=k/\(mkL cu l k).2<=1099511627776)
 | 0,l,k=>⟨(aM 75),fun h=>absurd h.1 (Nat.not_lt_zero _)⟩
 | n+1,l,k=>by
  have ih:=xk n
  refine fS.of (aM 75) (fun b=>?_) (fun e=>?_) (by simp [gB]) (bB (fun x=>by rw [cM];rfl) _) (bB (fun x=>by rw [cM];rfl) _)
  ·simp only [List.length_map]
   refine Ctr.bd Tryz.func75 Tryz.ntmps75 rfl rfl fun hp=>?_
   have hup:=bG iR l k
   (refine vU ?_;with_reducible repeat' first|exact Le.l|apply Sw|intro h)
   refine AW.iA [1,5] [0] (fun m xs o=>∃ i:Nat,xs=[.v (.int .i64 (mkc cu l k i)),.v (.int .i64 i)]/\o=[(b,some (((mkp cu l k i).map (aK true)).flatMap AV.cells))]/\m=l.length - i/\i<=l.length) l.length [(b,some ((l.map (aK true)).flatMap AV.cells))] (bw rfl) ⟨0,rfl,?_,rfl,?_⟩ ?_
   ·rw [jL]
   ·omega
   rintro m xs o ⟨i,rfl,rfl,rfl,hi⟩
   have h1:=jV (dV iR) l k i
   have h2:=eV (dV iR) l k i
   refine vO ?_;intros;refine AW.c (fun h=>?_) fun h=>?_
   ·have h3:=eV (dV iR) l k (i+1)
    rw [l8 h]
    rw [dD h] at h3
    have hpre:=kG (e:=aK true) (f:=cu) (sz:=7) (k:=k) (fun x=>by rw [cM];rfl) hi
    have hpost:(((l.drop (i+1)).map (aK true)).flatMap AV.cells).length=(l.length - (i+1)) * 7:=by
     rw [lq (e:=aK true) (sz:=7) (fun x=>by rw [cM];rfl),List.length_drop]
    have hnx:=jM (e:=aK true) (f:=cu) (k:=k) h
    have hkk:SizeOf.sizeOf (at_ l i).af<n:=by have:=aO.cd (at_mem h);omega
    rw [qv] at hnx
    generalize mkb (aK true) cu l k i=pre at hpre hnx ⊢
    generalize ((l.drop (i+1)).map (aK true)).flatMap AV.cells=post at hnx hpost ⊢
    generalize e1:at_ l i=x at *
    generalize e2:mkc cu l k i=c at *
    rw [cM]
    simp only [cM] at hnx
    refine AW.imp (Imp.sO (b:=b) pre [_,_,_,_,_,_,_] post (eQ _ _ _) fun hs=>?_)
    simp (maxSteps:=2000000) (disch:=omega) only [go_sem]
    have g0:=bG mI x.aE.aN (c+1+1+1+1+1)
    have g1:=bG iR x.af ((mkL eZ x.aE.aN (c+1+1+1+1+1)).2)
    rw [qv] at h3;simp only at h3
    (refine vK ?_;with_reducible repeat' first|exact Le.l|apply Sw|intro h)
    refine Imp.uf (b:=b) pre [_,_,_,_,_,_,_] post (eQ _ _ _) ?_
    simp (maxSteps:=2000000) (disch:=omega) only [go_sem]
    exact ⟨_,[_,_],_,by omega,⟨i+1,by rw [dD h,e1,e2,qv],rfl,rfl,by omega⟩,rfl,bw hnx⟩
   ·rw [iW h,kF h]
    all_goals exact uU
  ·have:l=[]:=by simpa using e
   subst this
   refine ⟨?_,rfl⟩
   refine Ctr.bd Tryz.func75 Tryz.ntmps75 rfl rfl fun hp=>?_
   (refine vU ?_;with_reducible repeat' first|exact Le.l|apply Sw|intro h)
   refine AW.aA [] [0,1,5] (fun m xs o=>xs=[]/\o=[]) 0 [] trivial ⟨rfl,rfl⟩ ?_
   rintro m xs o ⟨rfl,rfl⟩
   (refine vU ?_;with_reducible repeat' first|exact Le.l|apply Sw|intro h)
   rfl
instance SK(l:List aO)(k:Int):fS lim Tryz.prog 75 7 (l.map (aK true)) [.v (.int .i64 k)] (.v (.int .i64 (mkL cu l k).2)) ((mkL cu l k).1.map (aK true)) (0<=k/\(mkL cu l k).2<=1099511627776):=⟨(aM 75),fun h=>(xk (SizeOf.sizeOf l+1) l k).out ⟨Nat.lt_succ_self _,h⟩⟩
theorem tX:∀ (n:Nat) (l:List ag) (k:Int),fS lim Tryz.prog 30 19 (l.map (ak true)) [.v (.int .i64 k)] (.v (.int .i64 (mkL ct l k).2)) ((mkL ct l k).1.map (ak true)) (SizeOf.sizeOf l<n/\0<=k/\(mkL ct l k).2<=1099511627776)
 | 0,l,k=>⟨(aM 30),fun h=>absurd h.1 (Nat.not_lt_zero _)⟩
 | n+1,l,k=>by
  have ih:=tX n
  refine fS.of (aM 30) (fun b=>?_) (fun e=>?_) (by simp [gB]) (bB (fun x=>by rw [cK];rfl) _) (bB (fun x=>by rw [cK];rfl) _)
  ·simp only [List.length_map]
   refine Ctr.bd Tryz.func30 Tryz.ntmps30 rfl rfl fun hp=>?_
   have hup:=bG ib l k
   (refine vU ?_;with_reducible repeat' first|exact Le.l|apply Sw|intro h)
   refine AW.iA [1,5] [0] (fun m xs o=>∃ i:Nat,xs=[.v (.int .i64 (mkc ct l k i)),.v (.int .i64 i)]/\o=[(b,some (((mkp ct l k i).map (ak true)).flatMap AV.cells))]/\m=l.length - i/\i<=l.length) l.length [(b,some ((l.map (ak true)).flatMap AV.cells))] (bw rfl) ⟨0,rfl,?_,rfl,?_⟩ ?_
   ·rw [jL]
   ·omega
   rintro m xs o ⟨i,rfl,rfl,rfl,hi⟩
   have h1:=jV (dV ib) l k i
   have h2:=eV (dV ib) l k i
   refine vO ?_;intros;refine AW.c (fun h=>?_) fun h=>?_
   ·have h3:=eV (dV ib) l k (i+1)
    rw [l8 h]
    rw [dD h] at h3
    have hpre:=kG (e:=ak true) (f:=ct) (sz:=19) (k:=k) (fun x=>by rw [cK];rfl) hi
    have hpost:(((l.drop (i+1)).map (ak true)).flatMap AV.cells).length=(l.length - (i+1)) * 19:=by
     rw [lq (e:=ak true) (sz:=19) (fun x=>by rw [cK];rfl),List.length_drop]
    have hnx:=jM (e:=ak true) (f:=ct) (k:=k) h
    have hkk:SizeOf.sizeOf (at_ l i).af<n:=by have:=ag.cd (at_mem h);omega
    rw [nV] at hnx
    generalize mkb (ak true) ct l k i=pre at hpre hnx ⊢
    generalize ((l.drop (i+1)).map (ak true)).flatMap AV.cells=post at hnx hpost ⊢
    generalize e1:at_ l i=x at *
    generalize e2:mkc ct l k i=c at *
    rw [cK]
    simp only [cK] at hnx
    refine AW.imp (Imp.sO (b:=b) pre [_,_,_,_,_,_,_,_,_,_,_,_,_,_,_,_,_,_,_] post (eQ _ _ _) fun hs=>?_)
    simp (maxSteps:=2000000) (disch:=omega) only [go_sem]
    have g0:=bG lG x.fType.aB (c+1+1+1)
    have g1:=bG iP x.fType.ax ((mkL bg x.fType.aB (c+1+1+1)).2)
    have g2:=bG iP x.aw ((mkL ay x.fType.ax ((mkL bg x.fType.aB (c+1+1+1)).2)).2+1+1)
    have g3:=bG iP x.aD ((mkL ay x.aw ((mkL ay x.fType.ax ((mkL bg x.fType.aB (c+1+1+1)).2)).2+1+1)).2)
    have g4:=bG iR x.bz ((mkL ay x.aD ((mkL ay x.aw ((mkL ay x.fType.ax ((mkL bg x.fType.aB (c+1+1+1)).2)).2+1+1)).2)).2+1+1+1+1+1+1+1)
    have g5:=bG iR x.bY ((mkL cu x.bz ((mkL ay x.aD ((mkL ay x.aw ((mkL ay x.fType.ax ((mkL bg x.fType.aB (c+1+1+1)).2)).2+1+1)).2)).2+1+1+1+1+1+1+1)).2)
    have g6:=bG ib x.af ((mkL cu x.bY ((mkL cu x.bz ((mkL ay x.aD ((mkL ay x.aw ((mkL ay x.fType.ax ((mkL bg x.fType.aB (c+1+1+1)).2)).2+1+1)).2)).2+1+1+1+1+1+1+1)).2)).2)
    rw [nV] at h3;simp only at h3
    (refine vK ?_;with_reducible repeat' first|exact Le.l|apply Sw|intro h)
    refine Imp.uf (b:=b) pre [_,_,_,_,_,_,_,_,_,_,_,_,_,_,_,_,_,_,_] post (eQ _ _ _) ?_
    simp (maxSteps:=2000000) (disch:=omega) only [go_sem]
    exact ⟨_,[_,_],_,by omega,⟨i+1,by rw [dD h,e1,e2,nV],rfl,rfl,by omega⟩,rfl,bw hnx⟩
   ·rw [iW h,kF h]
    all_goals exact uU
  ·have:l=[]:=by simpa using e
   subst this
   refine ⟨?_,rfl⟩
   refine Ctr.bd Tryz.func30 Tryz.ntmps30 rfl rfl fun hp=>?_
   (refine vU ?_;with_reducible repeat' first|exact Le.l|apply Sw|intro h)
   refine AW.aA [] [0,1,5] (fun m xs o=>xs=[]/\o=[]) 0 [] trivial ⟨rfl,rfl⟩ ?_
   rintro m xs o ⟨rfl,rfl⟩
   (refine vU ?_;with_reducible repeat' first|exact Le.l|apply Sw|intro h)
   rfl
instance Qc(l:List ag)(k:Int):fS lim Tryz.prog 30 19 (l.map (ak true)) [.v (.int .i64 k)] (.v (.int .i64 (mkL ct l k).2)) ((mkL ct l k).1.map (ak true)) (0<=k/\(mkL ct l k).2<=1099511627776):=⟨(aM 30),fun h=>(tX (SizeOf.sizeOf l+1) l k).out ⟨Nat.lt_succ_self _,h⟩⟩
theorem xj:∀ (n:Nat) (l:List ah) (k:Int),fS lim Tryz.prog 19 3 (l.map (aj true)) [.v (.int .i64 k)] (.v (.int .i64 (mkL aT l k).2)) ((mkL aT l k).1.map (aj true)) (SizeOf.sizeOf l<n/\0<=k/\(mkL aT l k).2<=1099511627776)
 | 0,l,k=>⟨(aM 19),fun h=>absurd h.1 (Nat.not_lt_zero _)⟩
 | n+1,l,k=>by
  have ih:=xj n
  refine fS.of (aM 19) (fun b=>?_) (fun e=>?_) (by simp [gB]) (bB (fun x=>by rw [bR];rfl) _) (bB (fun x=>by rw [bR];rfl) _)
  ·simp only [List.length_map]
   refine Ctr.bd Tryz.func19 Tryz.ntmps19 rfl rfl fun hp=>?_
   have hup:=bG dO l k
   (refine vU ?_;with_reducible repeat' first|exact Le.l|apply Sw|intro h)
   refine AW.iA [1,5] [0] (fun m xs o=>∃ i:Nat,xs=[.v (.int .i64 (mkc aT l k i)),.v (.int .i64 i)]/\o=[(b,some (((mkp aT l k i).map (aj true)).flatMap AV.cells))]/\m=l.length - i/\i<=l.length) l.length [(b,some ((l.map (aj true)).flatMap AV.cells))] (bw rfl) ⟨0,rfl,?_,rfl,?_⟩ ?_
   ·rw [jL]
   ·omega
   rintro m xs o ⟨i,rfl,rfl,rfl,hi⟩
   have h1:=jV (dV dO) l k i
   have h2:=eV (dV dO) l k i
   refine vO ?_;intros;refine AW.c (fun h=>?_) fun h=>?_
   ·have h3:=eV (dV dO) l k (i+1)
    rw [l8 h]
    rw [dD h] at h3
    have hpre:=kG (e:=aj true) (f:=aT) (sz:=3) (k:=k) (fun x=>by rw [bR];rfl) hi
    have hpost:(((l.drop (i+1)).map (aj true)).flatMap AV.cells).length=(l.length - (i+1)) * 3:=by
     rw [lq (e:=aj true) (sz:=3) (fun x=>by rw [bR];rfl),List.length_drop]
    have hnx:=jM (e:=aj true) (f:=aT) (k:=k) h
    have hkk:SizeOf.sizeOf (at_ l i).af<n:=by have:=ah.cd (at_mem h);omega
    rw [mJ] at hnx
    generalize mkb (aj true) aT l k i=pre at hpre hnx ⊢
    generalize ((l.drop (i+1)).map (aj true)).flatMap AV.cells=post at hnx hpost ⊢
    generalize e1:at_ l i=x at *
    generalize e2:mkc aT l k i=c at *
    rw [bR]
    simp only [bR] at hnx
    refine AW.imp (Imp.sO (b:=b) pre [_,_,_] post (eQ _ _ _) fun hs=>?_)
    simp (maxSteps:=2000000) (disch:=omega) only [go_sem]
    have g0:=bG dO x.af (c+1+1)
    rw [mJ] at h3;simp only at h3
    (refine vK ?_;with_reducible repeat' first|exact Le.l|apply Sw|intro h)
    refine Imp.uf (b:=b) pre [_,_,_] post (eQ _ _ _) ?_
    simp (maxSteps:=2000000) (disch:=omega) only [go_sem]
    exact ⟨_,[_,_],_,by omega,⟨i+1,by rw [dD h,e1,e2,mJ],rfl,rfl,by omega⟩,rfl,bw hnx⟩
   ·rw [iW h,kF h]
    all_goals exact uU
  ·have:l=[]:=by simpa using e
   subst this
   refine ⟨?_,rfl⟩
   refine Ctr.bd Tryz.func19 Tryz.ntmps19 rfl rfl fun hp=>?_
   (refine vU ?_;with_reducible repeat' first|exact Le.l|apply Sw|intro h)
   refine AW.aA [] [0,1,5] (fun m xs o=>xs=[]/\o=[]) 0 [] trivial ⟨rfl,rfl⟩ ?_
   rintro m xs o ⟨rfl,rfl⟩
   (refine vU ?_;with_reducible repeat' first|exact Le.l|apply Sw|intro h)
   rfl
instance SJ(l:List ah)(k:Int):fS lim Tryz.prog 19 3 (l.map (aj true)) [.v (.int .i64 k)] (.v (.int .i64 (mkL aT l k).2)) ((mkL aT l k).1.map (aj true)) (0<=k/\(mkL aT l k).2<=1099511627776):=⟨(aM 19),fun h=>(xj (SizeOf.sizeOf l+1) l k).out ⟨Nat.lt_succ_self _,h⟩⟩
theorem xn:∀ (n:Nat) (l:List ah) (k:Int),Ctr lim Tryz.prog 35 [] [.sl false 3 ((mkL aT l k).1.map (aj false)),.v (.int .i64 k)] (.v (.int .i64 (mkL aT l k).2)) [] (SizeOf.sizeOf l<n/\0<=k/\(mkL aT l k).2<=1099511627776)
 | 0,l,k=>⟨(aM 35),fun h=>absurd h.1 (Nat.not_lt_zero _)⟩
 | n+1,l,k=>by
  have ih:=xn n
  refine Ctr.bd Tryz.func35 Tryz.ntmps35 rfl rfl fun hp=>?_
  have hup:=bG dO l k
  have hml:=gB (f:=aT) l k
  (refine vU ?_;with_reducible repeat' first|exact Le.l|apply Sw|intro h)
  refine AW.aA [1,5] [0] (fun m xs o=>∃ i:Nat,xs=[.v (.int .i64 (mkc aT l k i)),.v (.int .i64 i)]/\o=[]/\m=l.length - i/\i<=l.length) l.length [] trivial ⟨0,rfl,rfl,rfl,?_⟩ ?_
  ·omega
  rintro m xs o ⟨i,rfl,rfl,rfl,hi⟩
  have h1:=jV (dV dO) l k i
  have h2:=eV (dV dO) l k i
  refine vO ?_;intros;refine AW.c (fun h=>?_) fun h=>?_
  ·rw [hml] at h
   have h3:=eV (dV dO) l k (i+1)
   have hat:=DW (f:=aT) (k:=k) h
   rw [dD h] at h3
   have hlt:=h
   have hkk:SizeOf.sizeOf (at_ l i).af<n:=by have:=ah.cd (at_mem h);omega
   rw [mJ] at h3 hat
   simp only at h3 hat
   have g0:=bG dO (at_ l i).af ((mkc aT l k i)+1+1)
   have MT:(at_ (mkL aT l k).1 i).ae=mkT ((mkc aT l k i)):=by rw [hat];rfl
   have nO:(at_ (mkL aT l k).1 i).av=mkT ((mkc aT l k i)+1):=by rw [hat];rfl
   have vl:(at_ (mkL aT l k).1 i).af=(mkL aT (at_ l i).af ((mkc aT l k i)+1+1)).1:=by rw [hat];rfl
   (repeat' first|(with_reducible first|refine Z ?_|refine Y ?_|(refine hK _ _ ?_;clear hK K)|refine And.intro ?_ ?_|exact Ct|intro (K:_->_->Prop) hK|(refine gI fun hg=>?_;try simp only [hC,reduceCtorEq] at hg;try simp only [hg]))|(refine AW.i rfl (fun h=>?_) (fun h=>?_)<;>try simp only [hC,reduceCtorEq] at h)|((with_reducible refine E ?_;repeat refine Y ?_);refine eF rfl ?_)|simp (disch:=omega) only [go_sem,MT,nO,vl,beq_self_eq_true,bne_self_eq_false,Bool.not_true]|(with_reducible intro hg;try simp only [hC,reduceCtorEq] at hg)|exact Cl|fail)
   exact ⟨_,[_,_],[],by omega,⟨i+1,by rw [dD hlt,mJ],rfl,rfl,by omega⟩,rfl,trivial⟩
  ·rw [hml] at h
   rw [iW h]
   all_goals exact uU
instance SU(l:List ah)(k:Int):Ctr lim Tryz.prog 35 [] [.sl false 3 ((mkL aT l k).1.map (aj false)),.v (.int .i64 k)] (.v (.int .i64 (mkL aT l k).2)) [] (0<=k/\(mkL aT l k).2<=1099511627776):=⟨(aM 35),fun h=>(xn (SizeOf.sizeOf l+1) l k).out ⟨Nat.lt_succ_self _,h⟩⟩
end
end Go.Proofs
