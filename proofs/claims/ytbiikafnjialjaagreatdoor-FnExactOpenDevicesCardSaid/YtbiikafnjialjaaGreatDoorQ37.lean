/- Part of a proof. -/
import Derived.Test.YtbiikafnjialjaaGreatDoorQ35
import Derived.Test.YtbiikafnjialjaaGreatDoorQ36
set_option linter.all false
set_option maxRecDepth 20000
set_option maxHeartbeats 4000000
open Go.Proofs.Tryz
open List
namespace Go.Proofs
open Go.Ab Go.Dt
attribute [local go_sem] bL aV bu
def Hl(l:List ah):l.length<=wt l:=by induction l<;>simp[wt]<;>omega
def tu{d:List ag}(x:ah):∀(acc out:List ah),jn d x acc=some out->out.Perm (x::acc)
 | [],out,h=>by simp only[jn,Option.some.injEq]at h;subst h;exact .refl _
 | y::ys,out,h=>by
  rw[jn]at h;split at h
  ·rw[Option.map_eq_some_iff]at h;obtain⟨o,ho,rfl⟩:=h;exact((tu x ys o ho).cons y).trans (.swap x y ys)
  ·split at h
   ·simp only[Option.some.injEq]at h;subst h;exact .refl _
   ·cases h
theorem JG:∀(n:Nat) (d:List ag) (l:List ah),Ctr lim prog 115 [] [.ab 19 ak d,.ab 3 ai l] (srF (iJ d [] l)) [] (SizeOf.sizeOf l<n/\(∀y∈d,wtS y.af<=1048576)/\wt l<=1048576)
 | 0,_,l=>⟨(aU 115),λh=>absurd h.1 (Nat.not_lt_zero _)⟩
 | n+1,d,l=>by
  have ih:=JG n;refine Ctr.bd func115 ntmps115 λhp=>?_;have gOn:=bM.on;obtain⟨hs,hb,hv⟩:=hp;refine AW.f1 1 λhf=>?_;refine vU1 ?_;refine AW.imp (Imp.frz 6 ?_);refine gS ?_;refine AW.aw [6,7] [0,1] (λm xs o=>∃(k:Nat) (acc:List ah),xs=[.ab 3 ai acc,.aa k]/\o=[]/\m=l.length - k/\k<=l.length/\acc.length<=k/\iJ d acc (l.drop k)=iJ d [] l/\(∀y∈acc,0<=idx (nmP y.ae) d/\kyB (at_ d (idx (nmP y.ae) d).toNat) y=true)) l.length [] trivial ⟨0,[],rfl,rfl,rfl,?_,?_,rfl,?_⟩ ?_
  ·omega
  ·simp
  ·simp
  rintro m xs o ⟨k,acc,rfl,rfl,rfl,hk,ha,hR,WY⟩;refine vK1 ?_;refine AW.c (λh=>?_) λh=>?_
  ·have hw:=lW (l:=l) h
   have hsz:=ah.dH (at_mem h)
   have hky:=λhq=>(gD (p:=nmP (at_ l k).ae) (l:=d) hq).1
   have hkx:=λhq=>hb _ (gD (p:=nmP (at_ l k).ae) (l:=d) hq).2.2;rw[bT h,tj]at hR;refine vK1 ?_;refine AW.c (λh=>?_) λh=>?_
   ·refine vK1 ?_;rw[<- hR,mn,if_pos h];rfl
   have h0:0<=idx (nmP (at_ l k).ae) d:=by omega
   clear h
   (refine vK1 ?_;intro h)
   rename Nat=>b
   refine AW.wH [0,1,6,7,8,9,10] (λp:Str×List ah×Bool=>[(0,.ab 19 ak d),(1,.ab 3 ai l),(6,.ab 3 ai acc),(7,.aa k),(8,.aa (idx (nmP (at_ l k).ae) d)),(9,.ptr b 0),(10,.ac p.2.2)]) (λp=>[(b,some [.str (at_ l k).ae,.str p.1,.ab 3 ai p.2.1])]) (λp=>ug d (at_ l k) p.1 p.2.1 p.2.2/\cl (at_ d (idx (nmP (at_ l k).ae) d).toNat).af<=1048576) ?_ ?_
   ·have hcn:=iq (at_ d (idx (nmP (at_ l k).ae) d).toNat).af
    have acA:=hkx h0
    have hz:(((at_ l k).af.length:Int) == 0)=(at_ l k).af.isEmpty:=by cases (at_ l k).af<;>simp<;>omega
    refine AW.c (λh=>?_) λh=>?_
    ·have hone:=Ey h0 h;rw[<- hz]at hone;clear hR ih
     repeat refine Y ?_
     refine AW.pQ [(0,.ab 19 ak d),(1,.ab 3 ai l),(6,.ab 3 ai acc),(7,.aa k),(8,.aa (idx (nmP (at_ l k).ae) d)),(9,.ptr b 0),(10,.ac (cvB (at_ d (idx (nmP (at_ l k).ae) d).toNat).fType (at_ l k).aq))] [(b,some [.str (at_ l k).ae,.str (cvS (at_ d (idx (nmP (at_ l k).ae) d).toNat).fType (at_ l k).aq),.v (.slice none 0 0)])] (jl.h (P:=prog)) (λK hK=>?_) ?_
     ·refine aD.fxs (fuel:=9) caa [0,1,2,3,5,6,7,8] caa ?_;refine gS ?_;refine aD.sp 8 [4,9] (gT ?_);refine And.intro ?_ ?_
      ·refine aD.sp 7 [9] (gT ?_);refine aD.sp 6 [10] (gT ?_);refine vN1 ?_;refine aD.sp 5 [11] (gT ?_);refine aD.fxs (fuel:=4) caa [13] caa ?_;refine gS ?_;refine aD.sp 3 [12] (gT ?_);refine aD.sp 2 [14] (gT ?_);refine aD.sp 1 [15] (gT ?_);refine aD.sp 0 [16] (gT ?_);refine aD.ib [0,1,6,7,8,9,10] [(b,some [.str (at_ l k).ae,.str (cvS (at_ d (idx (nmP (at_ l k).ae) d).toNat).fType (at_ l k).aq),.v (.slice none 0 0)])] caa ?_ ?_
       ·exact gO
       ·refine gS ?_;exact hK
      ·refine aD.sp 7 [4] (gT ?_);refine aD.sp 6 [10] (gT ?_);refine vN1 ?_;refine aD.sp 5 [11] (gT ?_);refine aD.fxs (fuel:=4) caa [13] caa ?_;refine gS ?_;refine aD.sp 3 [12] (gT ?_);refine aD.sp 2 [14] (gT ?_);refine aD.sp 1 [15] (gT ?_);refine aD.sp 0 [16] (gT ?_);refine aD.ib [0,1,6,7,8,9,10] [(b,some [.str (at_ l k).ae,.str (cvS (at_ d (idx (nmP (at_ l k).ae) d).toNat).fType (at_ l k).aq),.v (.slice none 0 0)])] caa ?_ ?_
       ·exact gO
       ·refine gS ?_;exact hK
     refine vK1 ?_;refine Imp.kW (b:=b) 3 [_,_] [] (fj _ _ _) ?_;exact .inl ⟨(cvS (at_ d (idx (nmP (at_ l k).ae) d).toNat).fType (at_ l k).aq,[],cvB (at_ d (idx (nmP (at_ l k).ae) d).toNat).fType (at_ l k).aq && (((at_ l k).af.length:Int) == 0)),⟨hone,Yt⟩,rfl,gO⟩
    ·have hi:=ih (dk (at_ d (idx (nmP (at_ l k).ae) d).toNat).af) (at_ l k).af;clear hR ih
     cases hks:iJ (dk (at_ d (idx (nmP (at_ l k).ae) d).toNat).af) [] (at_ l k).af with
     | none =>
      have hone:=Ex h0 h hks;rw[hks]at hi;simp only[srF]at hi
      repeat refine Y ?_
      refine AW.pQ [(0,.ab 19 ak d),(1,.ab 3 ai l),(6,.ab 3 ai acc),(7,.aa k),(8,.aa (idx (nmP (at_ l k).ae) d)),(9,.ptr b 0),(10,.ac false)] [(b,some [.str (at_ l k).ae,.str [],.v (.slice none 0 0)])] (jl.h (P:=prog)) (λK hK=>?_) ?_
      ·refine aD.fxs (fuel:=10) caa [0,1,2,3,6,7,8,9] caa ?_;refine gS ?_;refine aD.sp 9 [4,10] (gT ?_);refine And.intro ?_ ?_
       ·refine aD.sp 8 [5,10] (gT ?_);refine vN2 ?_ ?_
        ·refine aD.sp 7 [10] (gT ?_);refine aD.sp 6 [11] (gT ?_)
         (refine vN2 ?_ ?_<;>with_reducible repeat intro h)
         ·have:=ke _ _ h;omega
         refine aD.sp 5 [12] (gT ?_);refine aD.fxs (fuel:=4) caa [14] caa ?_;refine gS ?_;refine aD.sp 3 [13] (gT ?_);refine aD.sp 2 [15] (gT ?_);refine aD.sp 1 [16] (gT ?_);refine aD.sp 0 [17] (gT ?_);refine aD.ib [0,1,6,7,8,9,10] [(b,some [.str (at_ l k).ae,.str [],.v (.slice none 0 0)])] caa ?_ ?_
         ·exact gO
         ·refine gS ?_;exact hK
        ·refine aD.sp 7 [5] (gT ?_);refine vN1 ?_;refine aD.sp 6 [11] (gT ?_)
         (refine vN2 ?_ ?_<;>with_reducible repeat intro h)
         ·have:=ke _ _ h;omega
         refine aD.sp 5 [12] (gT ?_);refine aD.fxs (fuel:=4) caa [14] caa ?_;refine gS ?_;refine aD.sp 3 [13] (gT ?_);refine aD.sp 2 [15] (gT ?_);refine aD.sp 1 [16] (gT ?_);refine aD.sp 0 [17] (gT ?_);refine aD.ib [0,1,6,7,8,9,10] [(b,some [.str (at_ l k).ae,.str [],.v (.slice none 0 0)])] caa ?_ ?_
         ·exact gO
         ·refine gS ?_;exact hK
       ·refine aD.sp 8 [4] (gT ?_);refine aD.sp 7 [5] (gT ?_);refine vN1 ?_;refine aD.sp 6 [11] (gT ?_)
        (refine vN2 ?_ ?_<;>with_reducible repeat intro h)
        ·have:=ke _ _ h;omega
        refine aD.sp 5 [12] (gT ?_);refine aD.fxs (fuel:=4) caa [14] caa ?_;refine gS ?_;refine aD.sp 3 [13] (gT ?_);refine aD.sp 2 [15] (gT ?_);refine aD.sp 1 [16] (gT ?_);refine aD.sp 0 [17] (gT ?_);refine aD.ib [0,1,6,7,8,9,10] [(b,some [.str (at_ l k).ae,.str [],.v (.slice none 0 0)])] caa ?_ ?_
        ·exact gO
        ·refine gS ?_;exact hK
      refine vK1 ?_;refine Imp.kW (b:=b) 3 [_,_] [] (fj _ _ _) ?_;exact .inl ⟨([],[],false),⟨hone,Yt⟩,rfl,gO⟩
     | some ks =>
      have hone:=Ew h0 h hks;rw[hks]at hi;simp only[srF]at hi
      repeat refine Y ?_
      refine AW.pQ [(0,.ab 19 ak d),(1,.ab 3 ai l),(6,.ab 3 ai acc),(7,.aa k),(8,.aa (idx (nmP (at_ l k).ae) d)),(9,.ptr b 0),(10,.ac true)] [(b,some [.str (at_ l k).ae,.str [],.ab 3 ai ks])] (jl.h (P:=prog)) (λK hK=>?_) ?_
      ·refine aD.fxs (fuel:=10) caa [0,1,2,3,6,7,8,9] caa ?_;refine gS ?_;refine aD.sp 9 [4,10] (gT ?_);refine And.intro ?_ ?_
       ·refine aD.sp 8 [5,10] (gT ?_);refine vN2 ?_ ?_
        ·refine aD.sp 7 [10] (gT ?_);refine aD.sp 6 [11] (gT ?_)
         (refine vN2 ?_ ?_<;>with_reducible repeat intro h)
         ·have:=ke _ _ h;omega
         refine aD.sp 5 [12] (gT ?_);refine aD.fxs (fuel:=4) caa [14] caa ?_;refine gS ?_;refine aD.sp 3 [13] (gT ?_);refine aD.sp 2 [15] (gT ?_);refine aD.sp 1 [16] (gT ?_);refine aD.sp 0 [17] (gT ?_);refine aD.ib [0,1,6,7,8,9,10] [(b,some [.str (at_ l k).ae,.str [],.ab 3 ai ks])] caa ?_ ?_
         ·exact gO
         ·refine gS ?_;exact hK
        ·refine aD.sp 7 [5] (gT ?_);refine vN1 ?_;refine aD.sp 6 [11] (gT ?_)
         (refine vN2 ?_ ?_<;>with_reducible repeat intro h)
         ·have:=ke _ _ h;omega
         refine aD.sp 5 [12] (gT ?_);refine aD.fxs (fuel:=4) caa [14] caa ?_;refine gS ?_;refine aD.sp 3 [13] (gT ?_);refine aD.sp 2 [15] (gT ?_);refine aD.sp 1 [16] (gT ?_);refine aD.sp 0 [17] (gT ?_);refine aD.ib [0,1,6,7,8,9,10] [(b,some [.str (at_ l k).ae,.str [],.ab 3 ai ks])] caa ?_ ?_
         ·exact gO
         ·refine gS ?_;exact hK
       ·refine aD.sp 8 [4] (gT ?_);refine aD.sp 7 [5] (gT ?_);refine vN1 ?_;refine aD.sp 6 [11] (gT ?_)
        (refine vN2 ?_ ?_<;>with_reducible repeat intro h)
        ·have:=ke _ _ h;omega
        refine aD.sp 5 [12] (gT ?_);refine aD.fxs (fuel:=4) caa [14] caa ?_;refine gS ?_;refine aD.sp 3 [13] (gT ?_);refine aD.sp 2 [15] (gT ?_);refine aD.sp 1 [16] (gT ?_);refine aD.sp 0 [17] (gT ?_);refine aD.ib [0,1,6,7,8,9,10] [(b,some [.str (at_ l k).ae,.str [],.ab 3 ai ks])] caa ?_ ?_
        ·exact gO
        ·refine gS ?_;exact hK
      refine vK1 ?_;exact Imp.id (.inl ⟨([],ks,_),⟨hone,Yt⟩,rfl,gO⟩)
   ·rintro⟨v,ks,ok⟩ ⟨hone,hcn⟩;unfold ug at hone;simp only at hone ⊢;rw[hone]at hR;have hput:=SJ d acc (.mk (at_ l k).ae v ks)
    cases HW:kyB (at_ d (idx (nmP (at_ l k).ae) d).toNat) (.mk (at_ l k).ae v ks)with
    | true =>
     have hkf:=xu (at_ d (idx (nmP (at_ l k).ae) d).toNat) (.mk (at_ l k).ae v ks);simp only[cNo,cSc,QY,QX,QZ,HW]at hkf hput;rw[HW]at hR;refine vK1 ?_;refine AW.c (λh=>?_) λh=>?_
     ·refine vK1 ?_;rw[<- hR,if_neg (by rw[h];simp)];rfl
     have hok:ok=true:=h;subst hok;rw[if_pos ⟨rfl,rfl⟩]at hR;clear h;refine vK1 ?_;refine AW.c (λh=>?_) λh=>?_
     ·refine vK1 ?_;have hks:ks=[]:=List.length_eq_zero_iff.1 Yt;rw[if_pos ⟨h.1.1,h.1.2,hks⟩]at hR;exact⟨_,[_,_],[],Yt,⟨k+1,acc,rfl,rfl,rfl,Yt,Yt,hR,WY⟩,rfl,trivial⟩
     ·rw[if_neg (by rintro⟨h1,h2,h3⟩;exact h ⟨h1,h2⟩ (by rw[h3];rfl))]at hR;simp only at hR;clear h;have hwl:=Hl l
      have Sb:∀y,y=ah.mk (at_ l k).ae v ks\/y∈acc->0<=idx (nmP y.ae) d/\kyB (at_ d (idx (nmP y.ae) d).toNat) y=true:=by
       rintro y (rfl|hy)
       ·exact⟨h0,HW⟩
       ·exact WY y hy
      have hpl:=λout hq=>tu (d:=d) (ah.mk (at_ l k).ae v ks) acc out hq
      (refine vK2 ?_ ?_<;>with_reducible repeat intro h)
      ·exact(Sb _ h).1
      refine AW.c (λh=>?_) λh=>?_
      ·refine vK1 ?_;rw[<- hR,Option.not_isSome_iff_eq_none.1 (show ¬(jn d (ah.mk (at_ l k).ae v ks) acc).isSome=true by rw[h];simp)];rfl
      ·refine vK1 ?_;obtain⟨out,hout⟩:=Option.isSome_iff_exists.1 (by simpa using h);have hpm:=hpl out hout;rw[hout]at hR;rw[hout];have hle:=hpm.length_eq;rw[length_cons]at hle;exact⟨_,[_,_],[],Yt,⟨k+1,out,rfl,rfl,rfl,Yt,Yt,hR,λy hy=>Sb y (List.mem_cons.1 (hpm.mem_iff.1 hy))⟩,rfl,trivial⟩
    | false =>
     have hkf:=MX (at_ d (idx (nmP (at_ l k).ae) d).toNat) (.mk (at_ l k).ae v ks);simp only[cNo,cSc,QY,QX,QZ,HW]at hkf hput;rw[HW]at hR;refine vK1 ?_;refine AW.e λh=>?_
     ·refine vK1 ?_;rw[<- hR,if_neg zH];rfl
  ·have e:k=l.length:=by omega
   subst e;rw[drop_length,vO]at hR;refine vK1 ?_;rw[<- hR];rfl
