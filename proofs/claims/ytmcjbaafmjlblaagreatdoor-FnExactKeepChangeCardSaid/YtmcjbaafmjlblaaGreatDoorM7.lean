/- A part. -/
import Derived.Test.YtmcjbaafmjlblaaGreatDoorM6
import Derived.Test.YtmcjbaafmjlblaaGreatDoorJ50
set_option linter.all false
set_option maxRecDepth 20000
set_option maxHeartbeats 4000000
namespace Go.Proofs
open Go.Ab Go.Dt
attribute [-instance] F4 Ji cPf
instance Qe(l:List bV)(k:Int):fS lim Tryz.prog 98 3 (l.map (az true)) [.v (.int .i64 k)] (.v (.int .i64 (mkL aV l k).2)) ((mkL aV l k).1.map (az true)) (0<=k/\(mkL aV l k).2<=1099511627776):=by
 refine fS.of (aM 98) (fun b=>?_) (fun e=>?_) (by simp [gB]) (bB (fun _=>rfl) _) (bB (fun _=>rfl) _)
 ·simp only [List.length_map]
  refine Ctr.bd Tryz.func98 Tryz.ntmps98 rfl rfl fun hp=>?_
  have hup:=bG dJ l k
  (refine vU ?_;with_reducible repeat' first|exact Le.l|apply Sw|intro h)
  refine AW.iA [1,5] [0] (fun m xs o=>∃ i:Nat,xs=[.v (.int .i64 (mkc aV l k i)),.v (.int .i64 i)]/\o=[(b,some (((mkp aV l k i).map (az true)).flatMap AV.cells))]/\m=l.length - i/\i<=l.length) l.length [(b,some ((l.map (az true)).flatMap AV.cells))] (bw rfl) ⟨0,rfl,?_,rfl,?_⟩ ?_
  ·rw [jL]
  ·omega
  rintro m xs o ⟨i,rfl,rfl,rfl,hi⟩
  have h1:=jV (dV dJ) l k i
  have h2:=eV (dV dJ) l k i
  refine vO ?_;intros;refine AW.c (fun h=>?_) fun h=>?_
  ·have h3:=eV (dV dJ) l k (i+1)
   rw [l8 h]
   rw [dD h] at h3
   have hpre:=kG (e:=az true) (f:=aV) (sz:=3) (k:=k) (fun _=>rfl) hi
   have hpost:(((l.drop (i+1)).map (az true)).flatMap AV.cells).length=(l.length - (i+1)) * 3:=by
    rw [lq (e:=az true) (sz:=3) (fun _=>rfl),List.length_drop]
   have hnx:=jM (e:=az true) (f:=aV) (k:=k) h
   generalize mkb (az true) aV l k i=pre at hpre hnx ⊢
   generalize ((l.drop (i+1)).map (az true)).flatMap AV.cells=post at hnx hpost ⊢
   generalize e1:at_ l i=x at *
   generalize e2:mkc aV l k i=c at *
   refine AW.imp (Imp.sO (b:=b) pre [_,_,_] post (eQ _ _ _) fun hs=>?_)
   simp (maxSteps:=2000000) (disch:=omega) only [go_sem]
   have g0:=bG eT x.dG (c+1+1)
   simp only [aV] at h3
   (refine vK ?_;with_reducible repeat' first|exact Le.l|apply Sw|intro h)
   refine Imp.uf (b:=b) pre [_,_,_] post (eQ _ _ _) ?_
   simp (maxSteps:=2000000) (disch:=omega) only [go_sem]
   exact ⟨_,[_,_],_,by omega,⟨i+1,by rw [dD h,e1,e2];rfl,rfl,rfl,by omega⟩,rfl,bw hnx⟩
  ·rw [iW h,kF h]
   all_goals exact uU
 ·have:l=[]:=by simpa using e
  subst this
  refine ⟨?_,rfl⟩
  refine Ctr.bd Tryz.func98 Tryz.ntmps98 rfl rfl fun hp=>?_
  (refine vU ?_;with_reducible repeat' first|exact Le.l|apply Sw|intro h)
  refine AW.aA [] [0,1,5] (fun m xs o=>xs=[]/\o=[]) 0 [] trivial ⟨rfl,rfl⟩ ?_
  rintro m xs o ⟨rfl,rfl⟩
  (refine vU ?_;with_reducible repeat' first|exact Le.l|apply Sw|intro h)
  rfl
instance Qg(l:List bV)(k:Int):Ctr lim Tryz.prog 99 [] [.sl false 3 ((mkL aV l k).1.map (az false)),.v (.int .i64 k)] (.v (.int .i64 (mkL aV l k).2)) [] (0<=k/\(mkL aV l k).2<=1099511627776):=by
 refine Ctr.bd Tryz.func99 Tryz.ntmps99 rfl rfl fun hp=>?_
 have hup:=bG dJ l k
 have hml:=gB (f:=aV) l k
 (refine vU ?_;with_reducible repeat' first|exact Le.l|apply Sw|intro h)
 refine AW.aA [1,5] [0] (fun m xs o=>∃ i:Nat,xs=[.v (.int .i64 (mkc aV l k i)),.v (.int .i64 i)]/\o=[]/\m=l.length - i/\i<=l.length) l.length [] trivial ⟨0,rfl,rfl,rfl,?_⟩ ?_
 ·omega
 rintro m xs o ⟨i,rfl,rfl,rfl,hi⟩
 have h1:=jV (dV dJ) l k i
 have h2:=eV (dV dJ) l k i
 refine vO ?_;intros;refine AW.c (fun h=>?_) fun h=>?_
 ·rw [hml] at h
  have h3:=eV (dV dJ) l k (i+1)
  have hat:=DW (f:=aV) (k:=k) h
  rw [dD h] at h3
  have hlt:=h
  simp only [aV] at h3 hat
  have g0:=bG eT (at_ l i).dG ((mkc aV l k i)+1+1)
  (repeat' first|(with_reducible first|refine Z ?_|refine Y ?_|(refine hK _ _ ?_;clear hK K)|refine And.intro ?_ ?_|exact Ct|intro (K:_->_->Prop) hK|(refine gI fun hg=>?_;try simp only [hC,reduceCtorEq] at hg;try simp only [hg]))|(refine AW.i rfl (fun h=>?_) (fun h=>?_)<;>try simp only [hC,reduceCtorEq] at h)|((with_reducible refine E ?_;repeat refine Y ?_);refine eF rfl ?_)|simp (disch:=omega) only [go_sem,hat,beq_self_eq_true,bne_self_eq_false,Bool.not_true]|(with_reducible intro hg;try simp only [hC,reduceCtorEq] at hg)|exact Cl|fail)
  exact ⟨_,[_,_],[],by omega,⟨i+1,by rw [dD hlt];rfl,rfl,rfl,by omega⟩,rfl,trivial⟩
 ·rw [hml] at h
  rw [iW h]
  all_goals exact uU
instance Cv(x:bu)(k:Int):nF lim Tryz.prog 43 true [.sl true 3 (x.aQ.map (aj true)),.sl true 3 (x.aF.map (az true))] [.v (.int .i64 k)] (.v (.int .i64 (mkL aV x.aF (mkL aT x.aQ k).2).2)) [.sl true 3 ((mkL aT x.aQ k).1.map (aj true)),.sl true 3 ((mkL aV x.aF (mkL aT x.aQ k).2).1.map (az true))] (0<=k/\(mkL aV x.aF (mkL aT x.aQ k).2).2<=1099511627776):=by
 refine ⟨(aM 43),fun hp=>InC.gA Tryz.func43 rfl rfl rfl (fun hs=>rfl) (fun hs=>rfl) (fun hs=>rfl) rfl fun hs=>?_⟩
 rw [Tryz.ntmps43]
 have g0:=bG dO x.aQ k
 have g1:=bG dJ x.aF (mkL aT x.aQ k).2
 (refine bX ?_;with_reducible repeat' first|exact Le.l|apply Sw|intro h)
 refine AW.ret (aJ.inp h rfl ?_)
 simp (maxSteps:=2000000) (disch:=omega) only [go_sem]
instance CF(x:bu)(k:Int):Ctr lim Tryz.prog 44 [] [.agg [.sl false 3 ((mkL aT x.aQ k).1.map (aj false)),.sl false 3 ((mkL aV x.aF (mkL aT x.aQ k).2).1.map (az false))],.v (.int .i64 k)] (.v (.int .i64 (mkL aV x.aF (mkL aT x.aQ k).2).2)) [] (0<=k/\(mkL aV x.aF (mkL aT x.aQ k).2).2<=1099511627776):=by
 refine Ctr.bd Tryz.func44 Tryz.ntmps44 rfl rfl fun hp=>?_
 have g0:=bG dO x.aQ k
 have g1:=bG dJ x.aF (mkL aT x.aQ k).2
 all_goals exact uU
end Go.Proofs
namespace Go.Dt
open Go Go.Ab
theorem uR{j:bu}{r:Int}(h0:0<=r)(h1:r<=1048576)(h:0<=cW j r):wt j.aQ<=1048576/\∀ c∈j.aF,wtE c.dG<=1048576:=by
 unfold cW at h
 obtain ⟨a0,h⟩:=aX h
 obtain ⟨a1,h⟩:=aX h
 have l0:=aZ bM dC j.aQ r h0
 have e1:=C6 h0 a0
 refine ⟨by omega,fun c hc=>?_⟩
 obtain ⟨r',p,q,s⟩:=(xE fo jJ j.aF _ a0 a1).2 c hc
 unfold fo at s
 obtain ⟨b0,s⟩:=aX s
 have:=F6 p b0
 omega
theorem TJ(s:List ag)(j:bu)(l:List ah)(b t:Int){r:Int}(h0:0<=r)(h1:r<=1048576)(h:0<=cW j r):(mkL aV (kcL s j l b t) (mkL aT j.aQ 1).2).2<=134217728:=by
 have c:=mc j 1 r h0 h
 simp only [j1] at c
 rw [kcL]
 split
 ·rw [nH]
  have d:=E2 s (eE s j) l
  rw [rH] at d
  simp only [mkL,aV,rH,kcE]
  omega
 ·omega
end Go.Dt
namespace Go.Proofs
open Go.Ab Go.Dt
attribute [-instance] F4 Ji cPf
theorem xx(l:List bV):AV.ck (l.map (az true))=true:=dz l fun x _=>by simp only [az,AV.closed,AV.ck,jz,Bool.and_self]
instance Zu(L:Nat->Nat)[hL:Lok L](a:List ah)(c:List bV):Ctr L Tryz.prog 42 [] [.agg [.sl false 3 (a.map (aj false)),.sl false 3 (c.map (az false))],.agg [.sl false 3 (a.map (aj false)),.sl false 3 (c.map (az false))]] (.v (.bool true)) [] True:=FO L ⟨a,c⟩
instance X1(a:List ah)(c:List bV)(k:Int):nF lim Tryz.prog 43 true [.sl true 3 (a.map (aj true)),.sl true 3 (c.map (az true))] [.v (.int .i64 k)] (.v (.int .i64 (mkL aV c (mkL aT a k).2).2)) [.sl true 3 ((mkL aT a k).1.map (aj true)),.sl true 3 ((mkL aV c (mkL aT a k).2).1.map (az true))] (0<=k/\(mkL aV c (mkL aT a k).2).2<=1099511627776):=Cv ⟨a,c⟩ k
instance Yk(a:List ah)(c:List bV)(k:Int):Ctr lim Tryz.prog 44 [] [.agg [.sl false 3 ((mkL aT a k).1.map (aj false)),.sl false 3 ((mkL aV c (mkL aT a k).2).1.map (az false))],.v (.int .i64 k)] (.v (.int .i64 (mkL aV c (mkL aT a k).2).2)) [] (0<=k/\(mkL aV c (mkL aT a k).2).2<=1099511627776):=CF ⟨a,c⟩ k
end Go.Proofs
