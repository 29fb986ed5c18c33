/- Part of a proof. -/
import Derived.Test.YtbiikafnjialjaaGreatDoorG26
import Derived.Test.YtbiikafnjialjaaGreatDoorG42
set_option linter.all false
set_option maxRecDepth 20000
set_option maxHeartbeats 4000000
namespace Go.Proofs
open Go.Ab Go.Dt
attribute [local go_sem] dF cM eH
theorem CQ(l:List ah):l.length<=wt l:=by induction l<;>simp [wt]<;>omega
theorem p9{d:List ae}(x:ah):∀ (acc out:List ah),gM d x acc=some out->out.Perm (x::acc)
 | [],out,h=>by simp only [gM,Option.some.injEq] at h;subst h;exact .refl _
 | y::ys,out,h=>by
  rw [gM] at h
  split at h
  ·rw [Option.map_eq_some_iff] at h
   obtain ⟨o,ho,rfl⟩:=h
   exact ((p9 x ys o ho).cons y).trans (.swap x y ys)
  ·split at h
   ·simp only [Option.some.injEq] at h;subst h;exact .refl _
   ·cases h
theorem EE:∀ (n:Nat) (d:List ae) (l:List ah),Ctr lim Tryz.prog 115 [] [.sl false 19 (d.map (aq false)),.sl false 3 (l.map (ak false))] (srF (gb d [] l)) [] (SizeOf.sizeOf l<n/\(∀ y∈d,wtS y.ag<=1048576)/\wt l<=1048576)
 | 0,_,l=>⟨(aW 115),fun h=>absurd h.1 (Nat.not_lt_zero _)⟩
 | n+1,d,l=>by
  have ih:=EE n
  refine Ctr.bd Tryz.func115 Tryz.ntmps115 rfl rfl fun hp=>?_
  have gOn:=cY.on
  obtain ⟨hs,hb,hv⟩:=hp
  refine AW.fact 1 fun hf=>?_
  simp (disch:=omega) only [go_sem] at hf
  (refine vU ?_;with_reducible repeat' first|exact Le.l|apply Sw|intro h)
  refine AW.imp (Imp.frz 6 ?_)
  simp (maxSteps:=2000000) (disch:=omega) only [go_sem]
  refine AW.aw [6,7] [0,1] (fun m xs o=>∃ (k:Nat) (acc:List ah),xs=[.sl false 3 (acc.map (ak false)),.v (.int .i64 k)]/\o=[]/\m=l.length - k/\k<=l.length/\acc.length<=k/\gb d acc (l.drop k)=gb d [] l/\(∀ y∈acc,0<=idx (nmP y.af) d/\kyB (at_ d (idx (nmP y.af) d).toNat) y=true)) l.length [] trivial ⟨0,[],rfl,rfl,rfl,?_,?_,rfl,?_⟩ ?_
  ·omega
  ·simp
  ·simp
  rintro m xs o ⟨k,acc,rfl,rfl,rfl,hk,ha,hR,O6⟩
  (refine vK ?_;with_reducible repeat' first|exact Le.l|apply Sw|intro h)
  (refine AW.i rfl (fun h=>?_) (fun h=>?_)<;>try simp only [hC,reduceCtorEq] at h)
  ·have hw:=kr (l:=l) h
   have hsz:=ah.dM (at_mem h)
   have hky:=fun hq=>(ja (p:=nmP (at_ l k).af) (l:=d) hq).1
   have hkx:=fun hq=>hb _ (ja (p:=nmP (at_ l k).af) (l:=d) hq).2.2
   rw [ct h,p7] at hR
   (refine vK ?_;with_reducible repeat' first|exact Le.l|apply Sw|intro h)
   (refine AW.i rfl (fun h=>?_) (fun h=>?_)<;>try simp only [hC,reduceCtorEq] at h)
   ·(refine vK ?_;with_reducible repeat' first|exact Le.l|apply Sw|intro h)
    rw [<- hR,jP,if_pos h];rfl
   have h0:0<=idx (nmP (at_ l k).af) d:=by omega
   clear h
   (refine vK ?_;with_reducible repeat' first|exact Le.l|apply Sw|intro h)
   rename Nat=>b
   refine AW.sN [0,1,6,7,8,9,10] (fun p:Str×List ah×Bool=>[(0,.sl false 19 (d.map (aq false))),(1,.sl false 3 (l.map (ak false))),(6,.sl false 3 (acc.map (ak false))),(7,.v (.int .i64 k)),(8,.v (.int .i64 (idx (nmP (at_ l k).af) d))),(9,.ptr b 0),(10,.v (.bool p.2.2))]) (fun p=>[(b,some [.str (at_ l k).af,.str p.1,.sl false 3 (p.2.1.map (ak false))])]) (fun p=>qI d (at_ l k) p.1 p.2.1 p.2.2/\cE (at_ d (idx (nmP (at_ l k).af) d).toNat).ag<=1048576) ?_ ?_
   ·have hcn:=lC (at_ d (idx (nmP (at_ l k).af) d).toNat).ag
    have Ue:=hkx h0
    have hz:(((at_ l k).ag.length:Int) == 0)=(at_ l k).ag.isEmpty:=by cases (at_ l k).ag<;>simp<;>omega
    (refine AW.i rfl (fun h=>?_) (fun h=>?_)<;>try simp only [hC,reduceCtorEq] at h)
    ·have hone:=Am h0 h
     rw [<- hz] at hone
     clear hR ih
     repeat refine Y ?_
     refine AW.oB [(0,.sl false 19 (d.map (aq false))),(1,.sl false 3 (l.map (ak false))),(6,.sl false 3 (acc.map (ak false))),(7,.v (.int .i64 k)),(8,.v (.int .i64 (idx (nmP (at_ l k).af) d))),(9,.ptr b 0),(10,.v (.bool (cvB (at_ d (idx (nmP (at_ l k).af) d).toNat).fType (at_ l k).ax)))] [(b,some [.str (at_ l k).af,.str (cvS (at_ d (idx (nmP (at_ l k).af) d).toNat).fType (at_ l k).ax),.v (.slice none 0 0)])] (gH.h (P:=Tryz.prog)) (fun K hK=>?_) ?_
     ·refine aH.fxs (fuel:=9) (by kernel_rfl) [0,1,2,3,5,6,7,8] (by kernel_rfl) ?_
      simp (maxSteps:=2000000) (disch:=omega) only [go_sem]
      refine aH.step (fuel:=8) [4,9] (by kernel_rfl) (by simp) ?_
      simp (maxSteps:=2000000) (disch:=omega) only [go_sem,bk]
      refine And.intro ?_ ?_
      ·refine aH.step (fuel:=7) [9] (by kernel_rfl) (by simp) ?_
       simp (maxSteps:=2000000) (disch:=omega) only [go_sem,bk]
       refine aH.step (fuel:=6) [10] (by kernel_rfl) (by simp) ?_
       simp (maxSteps:=2000000) (disch:=omega) only [go_sem,bk]
       (refine vN ?_;with_reducible repeat' first|exact Le.l|apply Sw|intro h)
       refine aH.step (fuel:=5) [11] (by kernel_rfl) (by simp) ?_
       simp (maxSteps:=2000000) (disch:=omega) only [go_sem,bk]
       refine aH.fxs (fuel:=4) (by kernel_rfl) [13] (by kernel_rfl) ?_
       simp (maxSteps:=2000000) (disch:=omega) only [go_sem]
       refine aH.step (fuel:=3) [12] (by kernel_rfl) (by simp) ?_
       simp (maxSteps:=2000000) (disch:=omega) only [go_sem,bk]
       refine aH.step (fuel:=2) [14] (by kernel_rfl) (by simp) ?_
       simp (maxSteps:=2000000) (disch:=omega) only [go_sem,bk]
       refine aH.step (fuel:=1) [15] (by kernel_rfl) (by simp) ?_
       simp (maxSteps:=2000000) (disch:=omega) only [go_sem,bk]
       refine aH.step (fuel:=0) [16] (by kernel_rfl) (by simp) ?_
       simp (maxSteps:=2000000) (disch:=omega) only [go_sem,bk]
       refine aH.jD [0,1,6,7,8,9,10] [(b,some [.str (at_ l k).af,.str (cvS (at_ d (idx (nmP (at_ l k).af) d).toNat).fType (at_ l k).ax),.v (.slice none 0 0)])] (by kernel_rfl) ?_ ?_
       ·simp (maxSteps:=2000000) (disch:=omega) only [go_sem]
       ·simp (maxSteps:=2000000) (disch:=omega) only [go_sem]
        exact hK
      ·refine aH.step (fuel:=7) [4] (by kernel_rfl) (by simp) ?_
       simp (maxSteps:=2000000) (disch:=omega) only [go_sem,bk]
       refine aH.step (fuel:=6) [10] (by kernel_rfl) (by simp) ?_
       simp (maxSteps:=2000000) (disch:=omega) only [go_sem,bk]
       (refine vN ?_;with_reducible repeat' first|exact Le.l|apply Sw|intro h)
       refine aH.step (fuel:=5) [11] (by kernel_rfl) (by simp) ?_
       simp (maxSteps:=2000000) (disch:=omega) only [go_sem,bk]
       refine aH.fxs (fuel:=4) (by kernel_rfl) [13] (by kernel_rfl) ?_
       simp (maxSteps:=2000000) (disch:=omega) only [go_sem]
       refine aH.step (fuel:=3) [12] (by kernel_rfl) (by simp) ?_
       simp (maxSteps:=2000000) (disch:=omega) only [go_sem,bk]
       refine aH.step (fuel:=2) [14] (by kernel_rfl) (by simp) ?_
       simp (maxSteps:=2000000) (disch:=omega) only [go_sem,bk]
       refine aH.step (fuel:=1) [15] (by kernel_rfl) (by simp) ?_
       simp (maxSteps:=2000000) (disch:=omega) only [go_sem,bk]
       refine aH.step (fuel:=0) [16] (by kernel_rfl) (by simp) ?_
       simp (maxSteps:=2000000) (disch:=omega) only [go_sem,bk]
       refine aH.jD [0,1,6,7,8,9,10] [(b,some [.str (at_ l k).af,.str (cvS (at_ d (idx (nmP (at_ l k).af) d).toNat).fType (at_ l k).ax),.v (.slice none 0 0)])] (by kernel_rfl) ?_ ?_
       ·simp (maxSteps:=2000000) (disch:=omega) only [go_sem]
       ·simp (maxSteps:=2000000) (disch:=omega) only [go_sem]
        exact hK
     (refine vK ?_;with_reducible repeat' first|exact Le.l|apply Sw|intro h)
     refine Imp.jR (b:=b) 3 [_,_] [] (eI _ _ _) ?_
     exact .inl ⟨(cvS (at_ d (idx (nmP (at_ l k).af) d).toNat).fType (at_ l k).ax,[],cvB (at_ d (idx (nmP (at_ l k).af) d).toNat).fType (at_ l k).ax && (((at_ l k).ag.length:Int) == 0)),⟨hone,by omega⟩,rfl,by simp (maxSteps:=2000000) (disch:=omega) only [go_sem]⟩
    ·have hi:=ih (dk (at_ d (idx (nmP (at_ l k).af) d).toNat).ag) (at_ l k).ag
     clear hR ih
     cases hks:gb (dk (at_ d (idx (nmP (at_ l k).af) d).toNat).ag) [] (at_ l k).ag with
     | none =>
      have hone:=Al h0 h hks
      rw [hks] at hi
      simp only [srF] at hi
      repeat refine Y ?_
      refine AW.oB [(0,.sl false 19 (d.map (aq false))),(1,.sl false 3 (l.map (ak false))),(6,.sl false 3 (acc.map (ak false))),(7,.v (.int .i64 k)),(8,.v (.int .i64 (idx (nmP (at_ l k).af) d))),(9,.ptr b 0),(10,.v (.bool false))] [(b,some [.str (at_ l k).af,.str [],.v (.slice none 0 0)])] (gH.h (P:=Tryz.prog)) (fun K hK=>?_) ?_
      ·refine aH.fxs (fuel:=10) (by kernel_rfl) [0,1,2,3,6,7,8,9] (by kernel_rfl) ?_
       simp (maxSteps:=2000000) (disch:=omega) only [go_sem]
       refine aH.step (fuel:=9) [4,10] (by kernel_rfl) (by simp) ?_
       simp (maxSteps:=2000000) (disch:=omega) only [go_sem,bk]
       refine And.intro ?_ ?_
       ·refine aH.step (fuel:=8) [5,10] (by kernel_rfl) (by simp) ?_
        simp (maxSteps:=2000000) (disch:=omega) only [go_sem,bk]
        (refine vN ?_;with_reducible repeat' first|exact Le.l|apply Sw|intro h)
        ·refine aH.step (fuel:=7) [10] (by kernel_rfl) (by simp) ?_
         simp (maxSteps:=2000000) (disch:=omega) only [go_sem,bk]
         refine aH.step (fuel:=6) [11] (by kernel_rfl) (by simp) ?_
         simp (maxSteps:=2000000) (disch:=omega) only [go_sem,bk]
         (refine vN ?_;with_reducible repeat' first|exact Le.l|apply Sw|intro h)
         ·have:=nF _ _ h;omega
         refine aH.step (fuel:=5) [12] (by kernel_rfl) (by simp) ?_
         simp (maxSteps:=2000000) (disch:=omega) only [go_sem,bk]
         refine aH.fxs (fuel:=4) (by kernel_rfl) [14] (by kernel_rfl) ?_
         simp (maxSteps:=2000000) (disch:=omega) only [go_sem]
         refine aH.step (fuel:=3) [13] (by kernel_rfl) (by simp) ?_
         simp (maxSteps:=2000000) (disch:=omega) only [go_sem,bk]
         refine aH.step (fuel:=2) [15] (by kernel_rfl) (by simp) ?_
         simp (maxSteps:=2000000) (disch:=omega) only [go_sem,bk]
         refine aH.step (fuel:=1) [16] (by kernel_rfl) (by simp) ?_
         simp (maxSteps:=2000000) (disch:=omega) only [go_sem,bk]
         refine aH.step (fuel:=0) [17] (by kernel_rfl) (by simp) ?_
         simp (maxSteps:=2000000) (disch:=omega) only [go_sem,bk]
         refine aH.jD [0,1,6,7,8,9,10] [(b,some [.str (at_ l k).af,.str [],.v (.slice none 0 0)])] (by kernel_rfl) ?_ ?_
         ·simp (maxSteps:=2000000) (disch:=omega) only [go_sem]
         ·simp (maxSteps:=2000000) (disch:=omega) only [go_sem]
          exact hK
        ·refine aH.step (fuel:=7) [5] (by kernel_rfl) (by simp) ?_
         simp (maxSteps:=2000000) (disch:=omega) only [go_sem,bk]
         (refine vN ?_;with_reducible repeat' first|exact Le.l|apply Sw|intro h)
         refine aH.step (fuel:=6) [11] (by kernel_rfl) (by simp) ?_
         simp (maxSteps:=2000000) (disch:=omega) only [go_sem,bk]
         (refine vN ?_;with_reducible repeat' first|exact Le.l|apply Sw|intro h)
         ·have:=nF _ _ h;omega
         refine aH.step (fuel:=5) [12] (by kernel_rfl) (by simp) ?_
         simp (maxSteps:=2000000) (disch:=omega) only [go_sem,bk]
         refine aH.fxs (fuel:=4) (by kernel_rfl) [14] (by kernel_rfl) ?_
         simp (maxSteps:=2000000) (disch:=omega) only [go_sem]
         refine aH.step (fuel:=3) [13] (by kernel_rfl) (by simp) ?_
         simp (maxSteps:=2000000) (disch:=omega) only [go_sem,bk]
         refine aH.step (fuel:=2) [15] (by kernel_rfl) (by simp) ?_
         simp (maxSteps:=2000000) (disch:=omega) only [go_sem,bk]
         refine aH.step (fuel:=1) [16] (by kernel_rfl) (by simp) ?_
         simp (maxSteps:=2000000) (disch:=omega) only [go_sem,bk]
         refine aH.step (fuel:=0) [17] (by kernel_rfl) (by simp) ?_
         simp (maxSteps:=2000000) (disch:=omega) only [go_sem,bk]
         refine aH.jD [0,1,6,7,8,9,10] [(b,some [.str (at_ l k).af,.str [],.v (.slice none 0 0)])] (by kernel_rfl) ?_ ?_
         ·simp (maxSteps:=2000000) (disch:=omega) only [go_sem]
         ·simp (maxSteps:=2000000) (disch:=omega) only [go_sem]
          exact hK
       ·refine aH.step (fuel:=8) [4] (by kernel_rfl) (by simp) ?_
        simp (maxSteps:=2000000) (disch:=omega) only [go_sem,bk]
        refine aH.step (fuel:=7) [5] (by kernel_rfl) (by simp) ?_
        simp (maxSteps:=2000000) (disch:=omega) only [go_sem,bk]
        (refine vN ?_;with_reducible repeat' first|exact Le.l|apply Sw|intro h)
        refine aH.step (fuel:=6) [11] (by kernel_rfl) (by simp) ?_
        simp (maxSteps:=2000000) (disch:=omega) only [go_sem,bk]
        (refine vN ?_;with_reducible repeat' first|exact Le.l|apply Sw|intro h)
        ·have:=nF _ _ h;omega
        refine aH.step (fuel:=5) [12] (by kernel_rfl) (by simp) ?_
        simp (maxSteps:=2000000) (disch:=omega) only [go_sem,bk]
        refine aH.fxs (fuel:=4) (by kernel_rfl) [14] (by kernel_rfl) ?_
        simp (maxSteps:=2000000) (disch:=omega) only [go_sem]
        refine aH.step (fuel:=3) [13] (by kernel_rfl) (by simp) ?_
        simp (maxSteps:=2000000) (disch:=omega) only [go_sem,bk]
        refine aH.step (fuel:=2) [15] (by kernel_rfl) (by simp) ?_
        simp (maxSteps:=2000000) (disch:=omega) only [go_sem,bk]
        refine aH.step (fuel:=1) [16] (by kernel_rfl) (by simp) ?_
        simp (maxSteps:=2000000) (disch:=omega) only [go_sem,bk]
        refine aH.step (fuel:=0) [17] (by kernel_rfl) (by simp) ?_
        simp (maxSteps:=2000000) (disch:=omega) only [go_sem,bk]
        refine aH.jD [0,1,6,7,8,9,10] [(b,some [.str (at_ l k).af,.str [],.v (.slice none 0 0)])] (by kernel_rfl) ?_ ?_
        ·simp (maxSteps:=2000000) (disch:=omega) only [go_sem]
        ·simp (maxSteps:=2000000) (disch:=omega) only [go_sem]
         exact hK
      (refine vK ?_;with_reducible repeat' first|exact Le.l|apply Sw|intro h)
      refine Imp.jR (b:=b) 3 [_,_] [] (eI _ _ _) ?_
      exact .inl ⟨([],[],false),⟨hone,by omega⟩,rfl,by simp (maxSteps:=2000000) (disch:=omega) only [go_sem]⟩
     | some ks =>
      have hone:=Ak h0 h hks
      rw [hks] at hi
      simp only [srF] at hi
      repeat refine Y ?_
      refine AW.oB [(0,.sl false 19 (d.map (aq false))),(1,.sl false 3 (l.map (ak false))),(6,.sl false 3 (acc.map (ak false))),(7,.v (.int .i64 k)),(8,.v (.int .i64 (idx (nmP (at_ l k).af) d))),(9,.ptr b 0),(10,.v (.bool true))] [(b,some [.str (at_ l k).af,.str [],.sl false 3 (ks.map (ak false))])] (gH.h (P:=Tryz.prog)) (fun K hK=>?_) ?_
      ·refine aH.fxs (fuel:=10) (by kernel_rfl) [0,1,2,3,6,7,8,9] (by kernel_rfl) ?_
       simp (maxSteps:=2000000) (disch:=omega) only [go_sem]
       refine aH.step (fuel:=9) [4,10] (by kernel_rfl) (by simp) ?_
       simp (maxSteps:=2000000) (disch:=omega) only [go_sem,bk]
       refine And.intro ?_ ?_
       ·refine aH.step (fuel:=8) [5,10] (by kernel_rfl) (by simp) ?_
        simp (maxSteps:=2000000) (disch:=omega) only [go_sem,bk]
        (refine vN ?_;with_reducible repeat' first|exact Le.l|apply Sw|intro h)
        ·refine aH.step (fuel:=7) [10] (by kernel_rfl) (by simp) ?_
         simp (maxSteps:=2000000) (disch:=omega) only [go_sem,bk]
         refine aH.step (fuel:=6) [11] (by kernel_rfl) (by simp) ?_
         simp (maxSteps:=2000000) (disch:=omega) only [go_sem,bk]
         (refine vN ?_;with_reducible repeat' first|exact Le.l|apply Sw|intro h)
         ·have:=nF _ _ h;omega
         refine aH.step (fuel:=5) [12] (by kernel_rfl) (by simp) ?_
         simp (maxSteps:=2000000) (disch:=omega) only [go_sem,bk]
         refine aH.fxs (fuel:=4) (by kernel_rfl) [14] (by kernel_rfl) ?_
         simp (maxSteps:=2000000) (disch:=omega) only [go_sem]
         refine aH.step (fuel:=3) [13] (by kernel_rfl) (by simp) ?_
         simp (maxSteps:=2000000) (disch:=omega) only [go_sem,bk]
         refine aH.step (fuel:=2) [15] (by kernel_rfl) (by simp) ?_
         simp (maxSteps:=2000000) (disch:=omega) only [go_sem,bk]
         refine aH.step (fuel:=1) [16] (by kernel_rfl) (by simp) ?_
         simp (maxSteps:=2000000) (disch:=omega) only [go_sem,bk]
         refine aH.step (fuel:=0) [17] (by kernel_rfl) (by simp) ?_
         simp (maxSteps:=2000000) (disch:=omega) only [go_sem,bk]
         refine aH.jD [0,1,6,7,8,9,10] [(b,some [.str (at_ l k).af,.str [],.sl false 3 (ks.map (ak false))])] (by kernel_rfl) ?_ ?_
         ·simp (maxSteps:=2000000) (disch:=omega) only [go_sem]
         ·simp (maxSteps:=2000000) (disch:=omega) only [go_sem]
          exact hK
        ·refine aH.step (fuel:=7) [5] (by kernel_rfl) (by simp) ?_
         simp (maxSteps:=2000000) (disch:=omega) only [go_sem,bk]
         (refine vN ?_;with_reducible repeat' first|exact Le.l|apply Sw|intro h)
         refine aH.step (fuel:=6) [11] (by kernel_rfl) (by simp) ?_
         simp (maxSteps:=2000000) (disch:=omega) only [go_sem,bk]
         (refine vN ?_;with_reducible repeat' first|exact Le.l|apply Sw|intro h)
         ·have:=nF _ _ h;omega
         refine aH.step (fuel:=5) [12] (by kernel_rfl) (by simp) ?_
         simp (maxSteps:=2000000) (disch:=omega) only [go_sem,bk]
         refine aH.fxs (fuel:=4) (by kernel_rfl) [14] (by kernel_rfl) ?_
         simp (maxSteps:=2000000) (disch:=omega) only [go_sem]
         refine aH.step (fuel:=3) [13] (by kernel_rfl) (by simp) ?_
         simp (maxSteps:=2000000) (disch:=omega) only [go_sem,bk]
         refine aH.step (fuel:=2) [15] (by kernel_rfl) (by simp) ?_
         simp (maxSteps:=2000000) (disch:=omega) only [go_sem,bk]
         refine aH.step (fuel:=1) [16] (by kernel_rfl) (by simp) ?_
         simp (maxSteps:=2000000) (disch:=omega) only [go_sem,bk]
         refine aH.step (fuel:=0) [17] (by kernel_rfl) (by simp) ?_
         simp (maxSteps:=2000000) (disch:=omega) only [go_sem,bk]
         refine aH.jD [0,1,6,7,8,9,10] [(b,some [.str (at_ l k).af,.str [],.sl false 3 (ks.map (ak false))])] (by kernel_rfl) ?_ ?_
         ·simp (maxSteps:=2000000) (disch:=omega) only [go_sem]
         ·simp (maxSteps:=2000000) (disch:=omega) only [go_sem]
          exact hK
       ·refine aH.step (fuel:=8) [4] (by kernel_rfl) (by simp) ?_
        simp (maxSteps:=2000000) (disch:=omega) only [go_sem,bk]
        refine aH.step (fuel:=7) [5] (by kernel_rfl) (by simp) ?_
        simp (maxSteps:=2000000) (disch:=omega) only [go_sem,bk]
        (refine vN ?_;with_reducible repeat' first|exact Le.l|apply Sw|intro h)
        refine aH.step (fuel:=6) [11] (by kernel_rfl) (by simp) ?_
        simp (maxSteps:=2000000) (disch:=omega) only [go_sem,bk]
        (refine vN ?_;with_reducible repeat' first|exact Le.l|apply Sw|intro h)
        ·have:=nF _ _ h;omega
        refine aH.step (fuel:=5) [12] (by kernel_rfl) (by simp) ?_
        simp (maxSteps:=2000000) (disch:=omega) only [go_sem,bk]
        refine aH.fxs (fuel:=4) (by kernel_rfl) [14] (by kernel_rfl) ?_
        simp (maxSteps:=2000000) (disch:=omega) only [go_sem]
        refine aH.step (fuel:=3) [13] (by kernel_rfl) (by simp) ?_
        simp (maxSteps:=2000000) (disch:=omega) only [go_sem,bk]
        refine aH.step (fuel:=2) [15] (by kernel_rfl) (by simp) ?_
        simp (maxSteps:=2000000) (disch:=omega) only [go_sem,bk]
        refine aH.step (fuel:=1) [16] (by kernel_rfl) (by simp) ?_
        simp (maxSteps:=2000000) (disch:=omega) only [go_sem,bk]
        refine aH.step (fuel:=0) [17] (by kernel_rfl) (by simp) ?_
        simp (maxSteps:=2000000) (disch:=omega) only [go_sem,bk]
        refine aH.jD [0,1,6,7,8,9,10] [(b,some [.str (at_ l k).af,.str [],.sl false 3 (ks.map (ak false))])] (by kernel_rfl) ?_ ?_
        ·simp (maxSteps:=2000000) (disch:=omega) only [go_sem]
        ·simp (maxSteps:=2000000) (disch:=omega) only [go_sem]
         exact hK
      (refine vK ?_;with_reducible repeat' first|exact Le.l|apply Sw|intro h)
      exact Imp.id (.inl ⟨([],ks,_),⟨hone,by omega⟩,rfl,by simp (maxSteps:=2000000) (disch:=omega) only [go_sem]⟩)
   ·rintro ⟨v,ks,ok⟩ ⟨hone,hcn⟩
    unfold qI at hone
    simp only at hone ⊢
    rw [hone] at hR
    have hput:=NM d acc (.mk (at_ l k).af v ks)
    cases Dd:kyB (at_ d (idx (nmP (at_ l k).af) d).toNat) (.mk (at_ l k).af v ks) with
    | true =>
     have hkf:=Cg (at_ d (idx (nmP (at_ l k).af) d).toNat) (.mk (at_ l k).af v ks)
     simp only [cNo,cSc,Ki,Kh,Kj,Dd] at hkf hput
     rw [Dd] at hR
     (refine vK ?_;with_reducible repeat' first|exact Le.l|apply Sw|intro h)
     (refine AW.i rfl (fun h=>?_) (fun h=>?_)<;>try simp only [hC,reduceCtorEq] at h)
     ·(refine vK ?_;with_reducible repeat' first|exact Le.l|apply Sw|intro h)
      rw [<- hR,if_neg (by rw [h];simp)];rfl
     have hok:ok=true:=h
     subst hok
     rw [if_pos ⟨rfl,rfl⟩] at hR
     clear h
     (refine vK ?_;with_reducible repeat' first|exact Le.l|apply Sw|intro h)
     (refine AW.i rfl (fun h=>?_) (fun h=>?_)<;>try simp only [hC,reduceCtorEq] at h)
     ·(refine vK ?_;with_reducible repeat' first|exact Le.l|apply Sw|intro h)
      have hks:ks=[]:=List.length_eq_zero_iff.1 (by omega)
      rw [if_pos ⟨h.1.1,h.1.2,hks⟩] at hR
      exact ⟨_,[_,_],[],by omega,⟨k+1,acc,rfl,rfl,rfl,by omega,by omega,hR,O6⟩,rfl,trivial⟩
     ·rw [if_neg (by rintro ⟨h1,h2,h3⟩;exact h ⟨h1,h2⟩ (by rw [h3];rfl))] at hR
      simp only at hR
      clear h
      have hwl:=CQ l
      have K2:∀ y,y=ah.mk (at_ l k).af v ks\/y∈acc->0<=idx (nmP y.af) d/\kyB (at_ d (idx (nmP y.af) d).toNat) y=true:=by
       rintro y (rfl|hy)
       ·exact ⟨h0,Dd⟩
       ·exact O6 y hy
      have hpl:=fun out hq=>p9 (d:=d) (ah.mk (at_ l k).af v ks) acc out hq
      (refine vK ?_;with_reducible repeat' first|exact Le.l|apply Sw|intro h)
      ·exact (K2 _ h).1
      (refine AW.i rfl (fun h=>?_) (fun h=>?_)<;>try simp only [hC,reduceCtorEq] at h)
      ·(refine vK ?_;with_reducible repeat' first|exact Le.l|apply Sw|intro h)
       rw [<- hR,Option.not_isSome_iff_eq_none.1 (show ¬ (gM d (ah.mk (at_ l k).af v ks) acc).isSome=true by rw [h];simp)];rfl
      ·(refine vK ?_;with_reducible repeat' first|exact Le.l|apply Sw|intro h)
       obtain ⟨out,hout⟩:=Option.isSome_iff_exists.1 (by simpa using h)
       have hpm:=hpl out hout
       rw [hout] at hR
       rw [hout]
       have hle:=hpm.length_eq
       rw [List.length_cons] at hle
       exact ⟨_,[_,_],[],by omega,⟨k+1,out,rfl,rfl,rfl,by omega,by omega,hR,fun y hy=>K2 y (List.mem_cons.1 (hpm.mem_iff.1 hy))⟩,rfl,trivial⟩
    | false =>
     have hkf:=NQ (at_ d (idx (nmP (at_ l k).af) d).toNat) (.mk (at_ l k).af v ks)
     simp only [cNo,cSc,Ki,Kh,Kj,Dd] at hkf hput
     rw [Dd] at hR
     (refine vK ?_;with_reducible repeat' first|exact Le.l|apply Sw|intro h)
     (refine AW.i rfl (fun h=>?_) (fun h=>?_)<;>try simp only [hC,reduceCtorEq] at h)
     ·(refine vK ?_;with_reducible repeat' first|exact Le.l|apply Sw|intro h)
      rw [<- hR,if_neg (by simp)];rfl
  ·have e:k=l.length:=by omega
   subst e
   rw [List.drop_length,rT] at hR
   (refine vK ?_;with_reducible repeat' first|exact Le.l|apply Sw|intro h)
   rw [<- hR];rfl
end Go.Proofs
