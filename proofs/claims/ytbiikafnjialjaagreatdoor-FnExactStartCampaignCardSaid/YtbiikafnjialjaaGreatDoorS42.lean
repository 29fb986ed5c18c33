/- Part of a proof. -/
import Derived.Test.YtbiikafnjialjaaGreatDoorS41
set_option linter.all false
set_option maxRecDepth 20000
set_option maxHeartbeats 4000000
open Go.Proofs.Tryz
open List
namespace Go.Proofs
open Go.Ab Go.Dt
section
def iD(T:List aD)(S:List bp):List dx->List iw->ib×Int
 | [],ts=>(⟨1,ts⟩,0)
 | x::xs,ts =>
  if ¬(inT T S x.av.aP x.ae x.dF).2=0 then (⟨0,[]⟩,(inT T S x.av.aP x.ae x.dF).2)
  else if smT (inT T S x.av.aP x.ae x.dF).1 x.av.bf=true then iD T S xs ts
  else iD T S xs (ts++[⟨x.ae,(inT T S x.av.aP x.ae x.dF).1,0⟩])
section
variable {T : List aD} {S : List bp} {l : List dx} {ts : List iw} {k : Nat}
def Fm(h:k<l.length)(h1:¬(inT T S (at_ l k).av.aP (at_ l k).ae (at_ l k).dF).2=0):iD T S (l.drop k) ts=(⟨0,[]⟩,(inT T S (at_ l k).av.aP (at_ l k).ae (at_ l k).dF).2):=by rw[bA h,iD,if_pos h1]
def Fl(h:k<l.length)(h1:¬ ¬(inT T S (at_ l k).av.aP (at_ l k).ae (at_ l k).dF).2=0)(h2:smT (inT T S (at_ l k).av.aP (at_ l k).ae (at_ l k).dF).1 (at_ l k).av.bf=true):iD T S (l.drop k) ts=iD T S (l.drop (k+1)) ts:=by rw[bA h,iD,if_neg h1,if_pos h2]
def Fk(h:k<l.length)(h1:¬ ¬(inT T S (at_ l k).av.aP (at_ l k).ae (at_ l k).dF).2=0)(h2:¬smT (inT T S (at_ l k).av.aP (at_ l k).ae (at_ l k).dF).1 (at_ l k).av.bf=true):iD T S (l.drop k) ts=iD T S (l.drop (k+1)) (ts++[⟨(at_ l k).ae,(inT T S (at_ l k).av.aP (at_ l k).ae (at_ l k).dF).1,0⟩]):=by rw[bA h,iD,if_neg h1,if_neg h2]
end
@[go_sem] def adR(l:List iw):(l.map (cz true)).all (AV.elem 3)=true:=by rw[all_eq_true];intro x hx;obtain⟨r,_,rfl⟩:=List.mem_map.1 hx;rfl
attribute [-instance] ju kO
attribute [local go_sem] bD aS bk iM iE
instance(l:List dx)(x:iC):Ctr lim prog 37 [] [.ab 15 cn l,.agg [.ab 3 aR x.aL,.ab 4 aX x.ba]] (.tup [.agg [.aa (iD x.aL x.ba l []).1.ik,.sl true 3 ((iD x.aL x.ba l []).1.eu.map (cz true))],.aa (iD x.aL x.ba l []).2]) [] (oP x.aL/\(∀y∈x.ba,y.fArgs.length<=1048576/\eO y.fArgs)/\∀y∈l,wtS y.av.aP<=1048576/\wt y.dF<=1048576):=by
 refine Ctr.bd func37 ntmps37 λhp=>?_;have gOn:=bI.on;obtain⟨ht,hS,hD⟩:=hp;refine AW.f1 0 λhf=>?_
 (refine vK1 ?_;intro h h h)
 rename_i b4 b6;have hb:=h;clear h;refine AW.imp (Imp.nA (b:=b6) 3 [_] [] (eM _ _ _) ?_);refine AW.aw [14] [3,4,6,12,13] (λm xs o=>∃(k:Nat) (ts:List iw),xs=[.aa k]/\o=[(b6,some [.aa 1,.ad 3 cz ts]),(b4,some [.aa 0,.v (.slice none 0 0)])]/\m=l.length - k/\k<=l.length/\ts.length<=k/\iD x.aL x.ba (l.drop k) ts=iD x.aL x.ba l []) l.length [(b6,some [.aa 1,.sl true 3 []]),(b4,some [.aa 0,.v (.slice none 0 0)])] gO ⟨0,[],rfl,rfl,rfl,Um,Xp,rfl⟩ ?_;rintro m xs o ⟨k,ts,rfl,rfl,rfl,hk,hts,hR⟩;refine vK1 ?_;refine AW.c (λh=>?_) λh=>?_
 ·have hlk:=h
  have hd:=hD _ (at_mem h);clear h
  (refine vK3 ?_ ?_ ?_<;>with_reducible repeat intro h)
  ·exact(hS _ baa).1
  ·exact(hS _ baa).2
  refine AW.c (λh=>?_) λh=>?_
  ·refine vX1 ?_;refine AW.imp (Imp.nA (b:=b4) 3 [.aa 0] [] gO ?_);refine vU1 ?_;rw[<- hR,Fm hlk h];rfl
  have hc1:¬ ¬(inT x.aL x.ba (at_ l k).av.aP (at_ l k).ae (at_ l k).dF).2=0:=λc=>c h;clear h;refine vK1 ?_;refine AW.c (λh=>?_) λh=>?_
  ·have hsm:¬smT (inT x.aL x.ba (at_ l k).av.aP (at_ l k).ae (at_ l k).dF).1 (at_ l k).av.bf=true:=by rw[h];simp
   clear h;refine vU1 ?_;exact⟨_,[_],_,Um,⟨k+1,ts++[⟨(at_ l k).ae,(inT x.aL x.ba (at_ l k).av.aP (at_ l k).ae (at_ l k).dF).1,0⟩],rfl,rfl,rfl,Um,by rw[length_append,length_singleton];omega,by rw[<- hR,Fk hlk hc1 hsm]⟩,rfl,by rw[map_append];simp(maxSteps:=2000000) (disch:=omega)only[go_sem]⟩
  ·refine vU1 ?_;exact⟨_,[_],_,Um,⟨k+1,ts,rfl,rfl,rfl,Um,Um,by rw[<- hR,Fl hlk hc1 h]⟩,rfl,gO⟩
 ·refine vU1 ?_;rw[cT h,iD]at hR;rw[<- hR]
end
section
@[go_sem] def acO(l:List iw):(l.map (cz false)).all (AV.elem 3)=true:=by rw[all_eq_true];intro x hx;obtain⟨r,_,rfl⟩:=List.mem_map.1 hx;rfl
def aaz(l:List iw):AV.cl (l.map (cz false))=l.map (cz false):=by rw[AV.pK,map_map];refine map_congr_left λx _=>?_;simp only[Function.comp,cz,AV.frz,AV.cl,cond_false,iM]
attribute [-instance] ju kO
attribute [local go_sem] bD aS bk iM iE aaz
instance(l:List dx)(x:iC):Ctr lim prog 35 [] [.ab 15 cn l,.agg [.ab 3 aR x.aL,.ab 4 aX x.ba]] (.tup [.agg [.aa (iD x.aL x.ba l []).1.ik,.sl false 3 ((iD x.aL x.ba l []).1.eu.map (cz false))],.aa (iD x.aL x.ba l []).2]) [] (oP x.aL/\(∀y∈x.ba,y.fArgs.length<=1048576/\eO y.fArgs)/\∀y∈l,wtS y.av.aP<=1048576/\wt y.dF<=1048576):=by
 refine Ctr.bd func35 ntmps35 λhp=>?_;have gOn:=bI.on;obtain⟨ht,hS,hD⟩:=hp;refine AW.f1 0 λhf=>?_
 (refine vK1 ?_;intro h h h)
 rename_i b4 b6;have hb:=h;clear h;refine AW.imp (Imp.nA (b:=b6) 3 [_] [] (eM _ _ _) ?_);refine AW.aw [7] [0,3,4,6] (λm xs o=>∃(k:Nat) (ts:List iw),xs=[.aa k]/\o=[(b6,some [.aa 1,.sl true 3 (ts.map (cz false))]),(b4,some [.aa 0,.v (.slice none 0 0)])]/\m=l.length - k/\k<=l.length/\ts.length<=k/\iD x.aL x.ba (l.drop k) ts=iD x.aL x.ba l []) l.length [(b6,some [.aa 1,.sl true 3 []]),(b4,some [.aa 0,.v (.slice none 0 0)])] gO ⟨0,[],rfl,rfl,rfl,Um,Xp,rfl⟩ ?_;rintro m xs o ⟨k,ts,rfl,rfl,rfl,hk,hts,hR⟩;refine vK1 ?_;refine AW.c (λh=>?_) λh=>?_
 ·have hlk:=h
  have hd:=hD _ (at_mem h);clear h
  (refine vK3 ?_ ?_ ?_<;>with_reducible repeat intro h)
  ·exact(hS _ baa).1
  ·exact(hS _ baa).2
  refine AW.c (λh=>?_) λh=>?_
  ·refine vX1 ?_;refine AW.imp (Imp.j9 (b:=b4) 3 [.aa 0] [] gO ?_);refine vU1 ?_;rw[<- hR,Fm hlk h];rfl
  have hc1:¬ ¬(inT x.aL x.ba (at_ l k).av.aP (at_ l k).ae (at_ l k).dF).2=0:=λc=>c h;clear h;refine vK1 ?_;refine AW.c (λh=>?_) λh=>?_
  ·have hsm:¬smT (inT x.aL x.ba (at_ l k).av.aP (at_ l k).ae (at_ l k).dF).1 (at_ l k).av.bf=true:=by rw[h];simp
   clear h hD hS hd
   repeat refine Y ?_
   refine AW.imp (Imp.frz 8 ?_);refine gS ?_;refine AW.ot [(0,.ab 15 cn l),(3,.vp [.ab 3 aR x.aL,.ab 4 aX x.ba]),(4,.ptr b4 0),(6,.ptr b6 0),(7,.aa k)] [(b6,some [.aa 1,.sl true 3 (ts.map (cz false)++[.agg [.str (at_ l k).ae,.sl false 3 ((inT x.aL x.ba (at_ l k).av.aP (at_ l k).ae (at_ l k).dF).1.map (ai false)),.aa 0]])]),(b4,some [.aa 0,.v (.slice none 0 0)])] (iS.h (P:=prog)) (λK hK=>?_) ?_
   ·refine az.fxs (fuel:=7) caa [0,2,3,4,5,7] caa ?_;refine gS ?_;refine az.sp 6 [1,6] (gT ?_);refine And.intro ?_ ?_
    ·refine vN1 ?_;refine az.sp 5 [6] (gT ?_);refine vN1 ?_;refine az.sp 4 [8] (gT ?_);refine vN1 ?_;refine az.sp 3 [9] (gT ?_);refine vN1 ?_;refine az.sp 2 [10] (gT ?_);refine vN1 ?_;refine az.sp 1 [11] (gT ?_);refine vN1 ?_;refine az.sp 0 [12] (gT ?_);refine vN1 ?_;refine az.fR [0,3,4,6,7] [(b6,some [.aa 1,.sl true 3 (ts.map (cz false)++[.agg [.str (at_ l k).ae,.sl false 3 ((inT x.aL x.ba (at_ l k).av.aP (at_ l k).ae (at_ l k).dF).1.map (ai false)),.aa 0]])]),(b4,some [.aa 0,.v (.slice none 0 0)])] caa ?_ ?_
     ·exact gO
     ·refine gS ?_;exact hK
    ·refine vN1 ?_;refine az.sp 5 [1,8] (gT ?_);refine And.intro ?_ ?_
     ·refine vN1 ?_;refine az.sp 4 [8] (gT ?_);refine vN1 ?_;refine az.sp 3 [9] (gT ?_);refine vN1 ?_;refine az.sp 2 [10] (gT ?_);refine vN1 ?_;refine az.sp 1 [11] (gT ?_);refine vN1 ?_;refine az.sp 0 [12] (gT ?_);refine vN1 ?_;refine az.fR [0,3,4,6,7] [(b6,some [.aa 1,.sl true 3 (ts.map (cz false)++[.agg [.str (at_ l k).ae,.sl false 3 ((inT x.aL x.ba (at_ l k).av.aP (at_ l k).ae (at_ l k).dF).1.map (ai false)),.aa 0]])]),(b4,some [.aa 0,.v (.slice none 0 0)])] caa ?_ ?_
      ·exact gO
      ·refine gS ?_;exact hK
     ·refine vN1 ?_;refine az.sp 4 [1,9] (gT ?_);refine And.intro ?_ ?_
      ·refine vN1 ?_;refine az.sp 3 [9] (gT ?_);refine vN1 ?_;refine az.sp 2 [10] (gT ?_);refine vN1 ?_;refine az.sp 1 [11] (gT ?_);refine vN1 ?_;refine az.sp 0 [12] (gT ?_);refine vN1 ?_;refine az.fR [0,3,4,6,7] [(b6,some [.aa 1,.sl true 3 (ts.map (cz false)++[.agg [.str (at_ l k).ae,.sl false 3 ((inT x.aL x.ba (at_ l k).av.aP (at_ l k).ae (at_ l k).dF).1.map (ai false)),.aa 0]])]),(b4,some [.aa 0,.v (.slice none 0 0)])] caa ?_ ?_
       ·exact gO
       ·refine gS ?_;exact hK
      ·refine vN1 ?_;refine az.sp 3 [1] (gT ?_);refine vN1 ?_;refine az.sp 2 [10] (gT ?_);refine vN1 ?_;refine az.sp 1 [11] (gT ?_);refine vN1 ?_;refine az.sp 0 [12] (gT ?_);refine vN1 ?_;refine az.fR [0,3,4,6,7] [(b6,some [.aa 1,.sl true 3 (ts.map (cz false)++[.agg [.str (at_ l k).ae,.sl false 3 ((inT x.aL x.ba (at_ l k).av.aP (at_ l k).ae (at_ l k).dF).1.map (ai false)),.aa 0]])]),(b4,some [.aa 0,.v (.slice none 0 0)])] caa ?_ ?_
       ·exact gO
       ·refine gS ?_;exact hK
   refine vK1 ?_;exact⟨_,[_],_,Um,⟨k+1,ts++[⟨(at_ l k).ae,(inT x.aL x.ba (at_ l k).av.aP (at_ l k).ae (at_ l k).dF).1,0⟩],rfl,rfl,rfl,Um,by rw[length_append,length_singleton];omega,by rw[<- hR,Fk hlk hc1 hsm]⟩,rfl,by rw[map_append];simp(maxSteps:=2000000) (disch:=omega)only[go_sem]⟩
  ·refine vU1 ?_;exact⟨_,[_],_,Um,⟨k+1,ts,rfl,rfl,rfl,Um,Um,by rw[<- hR,Fl hlk hc1 h]⟩,rfl,gO⟩
 ·refine vX1 ?_;refine AW.imp (Imp.fQ (b:=b4) (cells:=[.aa 1,.sl true 3 (ts.map (cz false))]) gO ?_);refine gS ?_;refine vU1 ?_;rw[cT h,iD]at hR;rw[<- hR]
end
end Go.Proofs
namespace Go.Dt
open Go Go.Ab
def Mg{x:iC}{r:Int}(h0:0<=r)(h1:r<=1048576)(h:0<=kP x r):oP x.aL/\∀y∈x.ba,y.fArgs.length<=1048576/\eO y.fArgs:=by
 unfold kP at h;obtain⟨a0,h⟩:=aK h;have l0:=bh dH iV x.aL r h0;obtain⟨a1,h⟩:=aK h;constructor
 ·intro t ht;obtain⟨r',b,c,d⟩:=(uV dH iV x.aL _ h0 a0).2 t ht;have:=Y4 b d;omega
 ·intro y hy;obtain⟨r',p,q,s⟩:=(uV fk j8 x.ba _ a0 a1).2 y hy;have:=OV p Um s;exact⟨this.2,this.1⟩
@[go_sem] def adQ(l:List iw):AV.cL (l.map (cz true))=true:=clL l λx _=>by simp only[cz,AV.closed,AV.cL,clL x.fc (λy _=>ndC y),Bool.true_and,Bool.and_true]
def E8{s:List ag}{l:List ah}(h:cW s l=true):cnt l<=120:=by simp only[cW,Bool.and_eq_true,decide_eq_true_eq]at h;exact h.1.2
def Fc:∀(ts:List iw) (k:Int),(∀t∈ts,cnt t.fc<=120)->(mkL dJ ts k).2<=k+242 * ts.length
 | [],k,_=>by simp[mkL]
 | t::ts,k,h=>by
  have h1:=h t Xp
  have ih:=Fc ts (dJ t k).2 λx hx=>h x (by simp[hx]);rw[mkL];simp only[length_cons]
  have e:(dJ t k).2<=k+242:=by
   unfold dJ;simp only[SE];omega
  omega
end Go.Dt
namespace Go.Proofs
open Go.Ab Go.Dt
def SG{s:List ag}{a b:List ah}(h:¬ ¬(mgT s a b).2=0):cnt (mgT s a b).1<=120:=by
 unfold mgT at h ⊢;split at h
 ·exact absurd Xp h
 ·rename_i h1;rw[if_neg h1];exact E8 ((MN s a (edO 1 b)).2 (by simpa using h)).1
def CW{T:List aD}{s:List ag}{dev:Str}:∀ {S:List bp} {c:List ah},cnt c<=120->cnt (jP T s dev S c).1<=120
 | [],c,h=>by rw[jP];exact h
 | x::xs,c,h=>by
  rw[jP];split
  ·exact CW h
  ·split
   ·rw[j5];omega
   ·split
    ·rw[j5];omega
    ·rename_i h3;split
     ·rw[j5];omega
     ·exact CW (SG h3)
def Tl{T:List aD}{S:List bp}{s:List ag}{dev:Str}{l:List ah}:cnt (inT T S s dev l).1<=120:=by
 unfold inT;split
 ·rename_i h;exact CW (E8 h.2)
 ·rw[j5];omega
def Cr{T:List aD}{S:List bp}:∀(l:List dx) (ts:List iw),(∀t∈ts,cnt t.fc<=120)->(∀t∈(iD T S l ts).1.eu,cnt t.fc<=120)/\(iD T S l ts).1.eu.length<=ts.length+l.length
 | [],ts,h=>by rw[iD];exact⟨h,Xp⟩
 | x::xs,ts,h=>by
  rw[iD];split
  ·exact⟨λt ht=>by simp at ht,Xp⟩
  ·split
   ·have:=Cr (T:=T) (S:=S) xs ts h;exact⟨this.1,by have:=this.2;simp only[length_cons];omega⟩
   ·have:=Cr (T:=T) (S:=S) xs (ts++[⟨x.ae,(inT T S x.av.aP x.ae x.dF).1,0⟩]) (λt ht=>by
     rcases List.mem_append.1 ht with ht|ht
     ·exact h t ht
     ·rw[List.mem_singleton.1 ht];exact Tl)
    refine⟨this.1,?_⟩;have:=this.2;simp only[length_append,length_cons,length_nil]at *;omega
def UO(T:List aD)(S:List bp){l:List dx}(h:l.length<=1048576):(mkL dJ (iD T S l []).1.eu 1).2<=1000000000:=by
 have h1:=Cr (T:=T) (S:=S) l [] Xp
 have h2:=Fc (iD T S l []).1.eu 1 h1.1
 have h3:=h1.2;simp only[length_nil]at h3;omega
