/- Part of a proof. -/
import Derived.Test.YtbiikafnjialjaaGreatDoorS35
import Derived.Test.YtbiikafnjialjaaGreatDoorS36
set_option linter.all false
set_option maxRecDepth 20000
set_option maxHeartbeats 4000000
open Go.Proofs.Tryz
open List
namespace Go.Proofs
open Go.Ab Go.Dt
attribute [local go_sem] bD aS bk
def Gm(l:List ah):l.length<=wt l:=by induction l<;>simp[wt]<;>omega
def sG{d:List ag}(x:ah):∀(acc out:List ah),jc d x acc=some out->out.Perm (x::acc)
 | [],out,h=>by simp only[jc,Option.some.injEq]at h;subst h;exact .refl _
 | y::ys,out,h=>by
  rw[jc]at h;split at h
  ·rw[Option.map_eq_some_iff]at h;obtain⟨o,ho,rfl⟩:=h;exact((sG x ys o ho).cons y).trans (.swap x y ys)
  ·split at h
   ·simp only[Option.some.injEq]at h;subst h;exact .refl _
   ·cases h
theorem IM:∀(n:Nat) (d:List ag) (l:List ah),Ctr lim prog 115 [] [.ab 19 ak d,.ab 3 ai l] (srF (iz d [] l)) [] (SizeOf.sizeOf l<n/\(∀y∈d,wtS y.af<=1048576)/\wt l<=1048576)
 | 0,_,l=>⟨(aT 115),λh=>absurd h.1 (Nat.not_lt_zero _)⟩
 | n+1,d,l=>by
  have ih:=IM n;refine Ctr.bd func115 ntmps115 λhp=>?_;have gOn:=bI.on;obtain⟨hs,hb,hv⟩:=hp;refine AW.f1 1 λhf=>?_;refine vU1 ?_;refine AW.imp (Imp.frz 6 ?_);refine gS ?_;refine AW.aw [6,7] [0,1] (λm xs o=>∃(k:Nat) (acc:List ah),xs=[.ab 3 ai acc,.aa k]/\o=[]/\m=l.length - k/\k<=l.length/\acc.length<=k/\iz d acc (l.drop k)=iz d [] l/\(∀y∈acc,0<=idx (nmP y.ae) d/\kyB (at_ d (idx (nmP y.ae) d).toNat) y=true)) l.length [] trivial ⟨0,[],rfl,rfl,rfl,?_,?_,rfl,?_⟩ ?_
  ·omega
  ·simp
  ·simp
  rintro m xs o ⟨k,acc,rfl,rfl,rfl,hk,ha,hR,Wh⟩;refine vK1 ?_;refine AW.c (λh=>?_) λh=>?_
  ·have hw:=lM (l:=l) h
   have hsz:=ah.dA (at_mem h)
   have hky:=λhq=>(gb (p:=nmP (at_ l k).ae) (l:=d) hq).1
   have hkx:=λhq=>hb _ (gb (p:=nmP (at_ l k).ae) (l:=d) hq).2.2;rw[bA h,sD]at hR;refine vK1 ?_;refine AW.c (λh=>?_) λh=>?_
   ·refine vK1 ?_;rw[<- hR,ma,if_pos h];rfl
   have h0:0<=idx (nmP (at_ l k).ae) d:=by omega
   clear h
   (refine vK1 ?_;intro h)
   rename Nat=>b
   refine AW.vY [0,1,6,7,8,9,10] (λp:Str×List ah×Bool=>[(0,.ab 19 ak d),(1,.ab 3 ai l),(6,.ab 3 ai acc),(7,.aa k),(8,.aa (idx (nmP (at_ l k).ae) d)),(9,.ptr b 0),(10,.ac p.2.2)]) (λp=>[(b,some [.str (at_ l k).ae,.str p.1,.ab 3 ai p.2.1])]) (λp=>tG d (at_ l k) p.1 p.2.1 p.2.2/\bR (at_ d (idx (nmP (at_ l k).ae) d).toNat).af<=1048576) ?_ ?_
   ·have hcn:=gV (at_ d (idx (nmP (at_ l k).ae) d).toNat).af
    have abY:=hkx h0
    have hz:(((at_ l k).af.length:Int) == 0)=(at_ l k).af.isEmpty:=by cases (at_ l k).af<;>simp<;>omega
    refine AW.c (λh=>?_) λh=>?_
    ·have hone:=DR h0 h;rw[<- hz]at hone;clear hR ih
     repeat refine Y ?_
     refine AW.ot [(0,.ab 19 ak d),(1,.ab 3 ai l),(6,.ab 3 ai acc),(7,.aa k),(8,.aa (idx (nmP (at_ l k).ae) d)),(9,.ptr b 0),(10,.ac (cvB (at_ d (idx (nmP (at_ l k).ae) d).toNat).fType (at_ l k).aq))] [(b,some [.str (at_ l k).ae,.str (cvS (at_ d (idx (nmP (at_ l k).ae) d).toNat).fType (at_ l k).aq),.v (.slice none 0 0)])] (iS.h (P:=prog)) (λK hK=>?_) ?_
     ·refine az.fxs (fuel:=9) caa [0,1,2,3,5,6,7,8] caa ?_;refine gS ?_;refine az.sp 8 [4,9] (gT ?_);refine And.intro ?_ ?_
      ·refine az.sp 7 [9] (gT ?_);refine az.sp 6 [10] (gT ?_);refine vN1 ?_;refine az.sp 5 [11] (gT ?_);refine az.fxs (fuel:=4) caa [13] caa ?_;refine gS ?_;refine az.sp 3 [12] (gT ?_);refine az.sp 2 [14] (gT ?_);refine az.sp 1 [15] (gT ?_);refine az.sp 0 [16] (gT ?_);refine az.fR [0,1,6,7,8,9,10] [(b,some [.str (at_ l k).ae,.str (cvS (at_ d (idx (nmP (at_ l k).ae) d).toNat).fType (at_ l k).aq),.v (.slice none 0 0)])] caa ?_ ?_
       ·exact gO
       ·refine gS ?_;exact hK
      ·refine az.sp 7 [4] (gT ?_);refine az.sp 6 [10] (gT ?_);refine vN1 ?_;refine az.sp 5 [11] (gT ?_);refine az.fxs (fuel:=4) caa [13] caa ?_;refine gS ?_;refine az.sp 3 [12] (gT ?_);refine az.sp 2 [14] (gT ?_);refine az.sp 1 [15] (gT ?_);refine az.sp 0 [16] (gT ?_);refine az.fR [0,1,6,7,8,9,10] [(b,some [.str (at_ l k).ae,.str (cvS (at_ d (idx (nmP (at_ l k).ae) d).toNat).fType (at_ l k).aq),.v (.slice none 0 0)])] caa ?_ ?_
       ·exact gO
       ·refine gS ?_;exact hK
     refine vK1 ?_;refine Imp.j9 (b:=b) 3 [_,_] [] (eM _ _ _) ?_;exact .inl ⟨(cvS (at_ d (idx (nmP (at_ l k).ae) d).toNat).fType (at_ l k).aq,[],cvB (at_ d (idx (nmP (at_ l k).ae) d).toNat).fType (at_ l k).aq && (((at_ l k).af.length:Int) == 0)),⟨hone,Um⟩,rfl,gO⟩
    ·have hi:=ih (dk (at_ d (idx (nmP (at_ l k).ae) d).toNat).af) (at_ l k).af;clear hR ih
     cases hks:iz (dk (at_ d (idx (nmP (at_ l k).ae) d).toNat).af) [] (at_ l k).af with
     | none =>
      have hone:=DQ h0 h hks;rw[hks]at hi;simp only[srF]at hi
      repeat refine Y ?_
      refine AW.ot [(0,.ab 19 ak d),(1,.ab 3 ai l),(6,.ab 3 ai acc),(7,.aa k),(8,.aa (idx (nmP (at_ l k).ae) d)),(9,.ptr b 0),(10,.ac false)] [(b,some [.str (at_ l k).ae,.str [],.v (.slice none 0 0)])] (iS.h (P:=prog)) (λK hK=>?_) ?_
      ·refine az.fxs (fuel:=10) caa [0,1,2,3,6,7,8,9] caa ?_;refine gS ?_;refine az.sp 9 [4,10] (gT ?_);refine And.intro ?_ ?_
       ·refine az.sp 8 [5,10] (gT ?_);refine vN2 ?_ ?_
        ·refine az.sp 7 [10] (gT ?_);refine az.sp 6 [11] (gT ?_)
         (refine vN2 ?_ ?_<;>with_reducible repeat intro h)
         ·have:=jR _ _ h;omega
         refine az.sp 5 [12] (gT ?_);refine az.fxs (fuel:=4) caa [14] caa ?_;refine gS ?_;refine az.sp 3 [13] (gT ?_);refine az.sp 2 [15] (gT ?_);refine az.sp 1 [16] (gT ?_);refine az.sp 0 [17] (gT ?_);refine az.fR [0,1,6,7,8,9,10] [(b,some [.str (at_ l k).ae,.str [],.v (.slice none 0 0)])] caa ?_ ?_
         ·exact gO
         ·refine gS ?_;exact hK
        ·refine az.sp 7 [5] (gT ?_);refine vN1 ?_;refine az.sp 6 [11] (gT ?_)
         (refine vN2 ?_ ?_<;>with_reducible repeat intro h)
         ·have:=jR _ _ h;omega
         refine az.sp 5 [12] (gT ?_);refine az.fxs (fuel:=4) caa [14] caa ?_;refine gS ?_;refine az.sp 3 [13] (gT ?_);refine az.sp 2 [15] (gT ?_);refine az.sp 1 [16] (gT ?_);refine az.sp 0 [17] (gT ?_);refine az.fR [0,1,6,7,8,9,10] [(b,some [.str (at_ l k).ae,.str [],.v (.slice none 0 0)])] caa ?_ ?_
         ·exact gO
         ·refine gS ?_;exact hK
       ·refine az.sp 8 [4] (gT ?_);refine az.sp 7 [5] (gT ?_);refine vN1 ?_;refine az.sp 6 [11] (gT ?_)
        (refine vN2 ?_ ?_<;>with_reducible repeat intro h)
        ·have:=jR _ _ h;omega
        refine az.sp 5 [12] (gT ?_);refine az.fxs (fuel:=4) caa [14] caa ?_;refine gS ?_;refine az.sp 3 [13] (gT ?_);refine az.sp 2 [15] (gT ?_);refine az.sp 1 [16] (gT ?_);refine az.sp 0 [17] (gT ?_);refine az.fR [0,1,6,7,8,9,10] [(b,some [.str (at_ l k).ae,.str [],.v (.slice none 0 0)])] caa ?_ ?_
        ·exact gO
        ·refine gS ?_;exact hK
      refine vK1 ?_;refine Imp.j9 (b:=b) 3 [_,_] [] (eM _ _ _) ?_;exact .inl ⟨([],[],false),⟨hone,Um⟩,rfl,gO⟩
     | some ks =>
      have hone:=DP h0 h hks;rw[hks]at hi;simp only[srF]at hi
      repeat refine Y ?_
      refine AW.ot [(0,.ab 19 ak d),(1,.ab 3 ai l),(6,.ab 3 ai acc),(7,.aa k),(8,.aa (idx (nmP (at_ l k).ae) d)),(9,.ptr b 0),(10,.ac true)] [(b,some [.str (at_ l k).ae,.str [],.ab 3 ai ks])] (iS.h (P:=prog)) (λK hK=>?_) ?_
      ·refine az.fxs (fuel:=10) caa [0,1,2,3,6,7,8,9] caa ?_;refine gS ?_;refine az.sp 9 [4,10] (gT ?_);refine And.intro ?_ ?_
       ·refine az.sp 8 [5,10] (gT ?_);refine vN2 ?_ ?_
        ·refine az.sp 7 [10] (gT ?_);refine az.sp 6 [11] (gT ?_)
         (refine vN2 ?_ ?_<;>with_reducible repeat intro h)
         ·have:=jR _ _ h;omega
         refine az.sp 5 [12] (gT ?_);refine az.fxs (fuel:=4) caa [14] caa ?_;refine gS ?_;refine az.sp 3 [13] (gT ?_);refine az.sp 2 [15] (gT ?_);refine az.sp 1 [16] (gT ?_);refine az.sp 0 [17] (gT ?_);refine az.fR [0,1,6,7,8,9,10] [(b,some [.str (at_ l k).ae,.str [],.ab 3 ai ks])] caa ?_ ?_
         ·exact gO
         ·refine gS ?_;exact hK
        ·refine az.sp 7 [5] (gT ?_);refine vN1 ?_;refine az.sp 6 [11] (gT ?_)
         (refine vN2 ?_ ?_<;>with_reducible repeat intro h)
         ·have:=jR _ _ h;omega
         refine az.sp 5 [12] (gT ?_);refine az.fxs (fuel:=4) caa [14] caa ?_;refine gS ?_;refine az.sp 3 [13] (gT ?_);refine az.sp 2 [15] (gT ?_);refine az.sp 1 [16] (gT ?_);refine az.sp 0 [17] (gT ?_);refine az.fR [0,1,6,7,8,9,10] [(b,some [.str (at_ l k).ae,.str [],.ab 3 ai ks])] caa ?_ ?_
         ·exact gO
         ·refine gS ?_;exact hK
       ·refine az.sp 8 [4] (gT ?_);refine az.sp 7 [5] (gT ?_);refine vN1 ?_;refine az.sp 6 [11] (gT ?_)
        (refine vN2 ?_ ?_<;>with_reducible repeat intro h)
        ·have:=jR _ _ h;omega
        refine az.sp 5 [12] (gT ?_);refine az.fxs (fuel:=4) caa [14] caa ?_;refine gS ?_;refine az.sp 3 [13] (gT ?_);refine az.sp 2 [15] (gT ?_);refine az.sp 1 [16] (gT ?_);refine az.sp 0 [17] (gT ?_);refine az.fR [0,1,6,7,8,9,10] [(b,some [.str (at_ l k).ae,.str [],.ab 3 ai ks])] caa ?_ ?_
        ·exact gO
        ·refine gS ?_;exact hK
      refine vK1 ?_;exact Imp.id (.inl ⟨([],ks,_),⟨hone,Um⟩,rfl,gO⟩)
   ·rintro⟨v,ks,ok⟩ ⟨hone,hcn⟩;unfold tG at hone;simp only at hone ⊢;rw[hone]at hR;have hput:=RY d acc (.mk (at_ l k).ae v ks)
    cases GY:kyB (at_ d (idx (nmP (at_ l k).ae) d).toNat) (.mk (at_ l k).ae v ks)with
    | true =>
     have hkf:=wY (at_ d (idx (nmP (at_ l k).ae) d).toNat) (.mk (at_ l k).ae v ks);simp only[cNo,cSc,Qd,Qc,Qe,GY]at hkf hput;rw[GY]at hR;refine vK1 ?_;refine AW.c (λh=>?_) λh=>?_
     ·refine vK1 ?_;rw[<- hR,if_neg (by rw[h];simp)];rfl
     have hok:ok=true:=h;subst hok;rw[if_pos ⟨rfl,rfl⟩]at hR;clear h;refine vK1 ?_;refine AW.c (λh=>?_) λh=>?_
     ·refine vK1 ?_;have hks:ks=[]:=List.length_eq_zero_iff.1 Um;rw[if_pos ⟨h.1.1,h.1.2,hks⟩]at hR;exact⟨_,[_,_],[],Um,⟨k+1,acc,rfl,rfl,rfl,Um,Um,hR,Wh⟩,rfl,trivial⟩
     ·rw[if_neg (by rintro⟨h1,h2,h3⟩;exact h ⟨h1,h2⟩ (by rw[h3];rfl))]at hR;simp only at hR;clear h;have hwl:=Gm l
      have Rp:∀y,y=ah.mk (at_ l k).ae v ks\/y∈acc->0<=idx (nmP y.ae) d/\kyB (at_ d (idx (nmP y.ae) d).toNat) y=true:=by
       rintro y (rfl|hy)
       ·exact⟨h0,GY⟩
       ·exact Wh y hy
      have hpl:=λout hq=>sG (d:=d) (ah.mk (at_ l k).ae v ks) acc out hq
      (refine vK2 ?_ ?_<;>with_reducible repeat intro h)
      ·exact(Rp _ h).1
      refine AW.c (λh=>?_) λh=>?_
      ·refine vK1 ?_;rw[<- hR,Option.not_isSome_iff_eq_none.1 (show ¬(jc d (ah.mk (at_ l k).ae v ks) acc).isSome=true by rw[h];simp)];rfl
      ·refine vK1 ?_;obtain⟨out,hout⟩:=Option.isSome_iff_exists.1 (by simpa using h);have hpm:=hpl out hout;rw[hout]at hR;rw[hout];have hle:=hpm.length_eq;rw[length_cons]at hle;exact⟨_,[_,_],[],Um,⟨k+1,out,rfl,rfl,rfl,Um,Um,hR,λy hy=>Rp y (List.mem_cons.1 (hpm.mem_iff.1 hy))⟩,rfl,trivial⟩
    | false =>
     have hkf:=L3 (at_ d (idx (nmP (at_ l k).ae) d).toNat) (.mk (at_ l k).ae v ks);simp only[cNo,cSc,Qd,Qc,Qe,GY]at hkf hput;rw[GY]at hR;refine vK1 ?_;refine AW.e λh=>?_
     ·refine vK1 ?_;rw[<- hR,if_neg Xp];rfl
  ·have e:k=l.length:=by omega
   subst e;rw[drop_length,u6]at hR;refine vK1 ?_;rw[<- hR];rfl
