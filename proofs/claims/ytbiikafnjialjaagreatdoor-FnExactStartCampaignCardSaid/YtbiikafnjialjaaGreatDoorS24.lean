/- Part of a proof. -/
import Derived.Test.YtbiikafnjialjaaGreatDoorS22
import Derived.Test.YtbiikafnjialjaaGreatDoorS23
set_option linter.all false
set_option maxRecDepth 20000
set_option maxHeartbeats 4000000
open Go.Proofs.Tryz
open List
namespace Go.Proofs
open Go.Ab Go.Dt
def aZ.BG{x y:aZ}(h:y∈x.af):SizeOf.sizeOf y<SizeOf.sizeOf x:=by have:=sizeOf_lt_of_mem h;cases x;simp[aZ.af]at *;omega
theorem za:∀(n:Nat) (x:aZ),Ctr lim prog 235 [] [.agg [.aa x.fOp,.aa x.gJ,.str x.cS,.ac x.aF.dB,.aa x.aF.dQ,.ab 2 bg x.aF.aW,.ab 7 aN x.af]] (.agg [.aa x.fOp,.aa x.gJ,.str x.cS,.ac x.aF.dB,.aa x.aF.dQ,.ad 2 bg x.aF.aW,.ad 7 aN x.af]) [] (SizeOf.sizeOf x<n)
 | 0,x=>⟨(aT 235),λh=>absurd h (Nat.not_lt_zero _)⟩
 | n+1,x=>by
  have ih:=za n;refine Ctr.bd func235 ntmps235 λhp=>?_;refine AW.f1 0 λhf=>?_
  (refine Z ?_;refine λ(K:_->_->Prop) hK=>?_;refine gS ?_)
  (refine vN1 ?_;intro h)
  first|refine AW.Fv ?_|refine AW.Lp ?_
  (refine vU1 ?_;intro h h)
  rename_i b2 b3;refine AW.imp (Imp.nA (b:=b3) 7 [_,_,_,_,_,_] [] (eM _ _ _) ?_);refine gS ?_;refine AW.lJ [4] [1,2,3] (λm xs o=>∃k:Nat,xs=[.aa k]/\o=[(b3,some [.aa x.fOp,.aa x.gJ,.str x.cS,.ac x.aF.dB,.aa x.aF.dQ,.ad 2 bg x.aF.aW,.ad 7 aN (x.af.take k)]),(b2,some [.aa 0,.aa 0,.str [],.ac false,.aa 0,.v (.slice none 0 0),.v (.slice none 0 0)])]/\m=x.af.length - k/\k<=x.af.length) x.af.length [(b3,some [.aa x.fOp,.aa x.gJ,.str x.cS,.ac x.aF.dB,.aa x.aF.dQ,.ad 2 bg x.aF.aW,.ad 7 aN (x.af.take 0)]),(b2,some [.aa 0,.aa 0,.str [],.ac false,.aa 0,.v (.slice none 0 0),.v (.slice none 0 0)])] gO ⟨0,rfl,rfl,rfl,Um⟩ ?_;rintro m xs o ⟨k,rfl,rfl,rfl,hk⟩;have hlt:(x.af.take k).length=k:=by rw[length_take];omega
  have hkk:k<x.af.length->SizeOf.sizeOf (at_ x.af k)<n:=λh=>by have:=aZ.BG (at_mem h);omega
  refine vK1 ?_;refine AW.c (λh=>?_) λh=>?_
  ·refine AW.imp (Imp.mH (b0:=b3) (k:=6) (sz:=7) (l:=(x.af.take k).map (aN true)) (eM _ _ _) rfl (bW (λx=>by rw[dD];rfl) _) (λb hb=>?_) (λhnil=>?_))
   ·have hb1:=hb.nf;simp only[go_sem]at hb1;simp only[set_cons_zero,set_cons_succ,length_map]
    (refine vU2 ?_ ?_<;>with_reducible repeat intro h)
    ·rw[dw (sz:=7) (bW (λx=>by rw[dD];rfl) _),length_map]
    rename_i g;refine Imp.BQ (b0:=b3) (k:=6) (b:=g) (sz:=7) (cells0:=[.aa x.fOp,.aa x.gJ,.str x.cS,.ac x.aF.dB,.aa x.aF.dQ,.ad 2 bg x.aF.aW,.arr g 0 ((x.af.take k).length+1) 7]) (l:=(x.af.take k).map (aN true)) (aN true (at_ x.af k)) gO (by rw[length_map];rfl) (by simp(maxSteps:=2000000) (disch:=omega)only[go_sem];try rfl) Um (bW (λx=>by rw[dD];rfl) _) (by rw[dD];rfl) ?_;simp only[set_cons_zero,set_cons_succ];exact⟨trivial,_,[_],_,Um,⟨k+1,rfl,rfl,rfl,Um⟩,rfl,by rw[eV baa,map_append];exact gO;try rfl⟩
   ·simp only[set_cons_zero,set_cons_succ,hnil];refine vU1 ?_;have hk0:k=0:=by rw[map_eq_nil_iff]at hnil;rw[hnil]at hlt;exact hlt.symm
    subst hk0;refine Imp.id ?_;refine gS ?_;exact⟨_,[_],_,Um,⟨1,rfl,rfl,rfl,Um⟩,rfl,by rw[eV baa];exact gO;try rfl⟩
  ·rw[show k=x.af.length by omega,take_length]
   all_goals exact uU
instance(x:aZ):Ctr lim prog 235 [] [.agg [.aa x.fOp,.aa x.gJ,.str x.cS,.ac x.aF.dB,.aa x.aF.dQ,.ab 2 bg x.aF.aW,.ab 7 aN x.af]] (.agg [.aa x.fOp,.aa x.gJ,.str x.cS,.ac x.aF.dB,.aa x.aF.dQ,.ad 2 bg x.aF.aW,.ad 7 aN x.af]) [] True:=⟨(aT 235),λ_=>(za (SizeOf.sizeOf x+1) x).out (Nat.lt_succ_self _)⟩
theorem wy(n:Nat)(ih:∀l:List ag,Ctr lim prog 236 [] [.ab 19 ak l] (.ad 19 ak l) [] (SizeOf.sizeOf l<n))(x:ag):Ctr lim prog 180 [] [.agg (cSc x)] (.agg [.aa x.aj,.str x.ae,.aa x.fType.aj,.ad 2 aU x.fType.ay,.am x.fType.aB,.str x.fType.aY,.str x.fType.aF,.am x.ax,.am x.aH,.str x.bw,.ac x.cX,.ac x.dm,.ac x.bQ,.ac x.ez,.aa x.iH,.aa x.iI,.ad 7 aN x.bP,.ad 7 aN x.cE,.ad 19 ak x.af]) [] (SizeOf.sizeOf x.af<n):=by
 refine Ctr.bd func180 ntmps180 λhp=>?_;refine AW.f1 0 λhf=>?_
 (refine vU1 ?_;intro h h h)
 rename_i b2 b3;refine AW.imp (Imp.nA (b:=b3) 7 [_,_,_,_,_,_,_,_,_,_,_,_,_,_,_,_] [_,_] (eM _ _ _) ?_);refine gS ?_;refine AW.lJ [4] [1,2,3] (λm xs o=>∃k:Nat,xs=[.aa k]/\o=[(b3,some [.aa x.aj,.str x.ae,.aa x.fType.aj,.ad 2 aU x.fType.ay,.am x.fType.aB,.str x.fType.aY,.str x.fType.aF,.am x.ax,.am x.aH,.str x.bw,.ac x.cX,.ac x.dm,.ac x.bQ,.ac x.ez,.aa x.iH,.aa x.iI,.ad 7 aN (x.bP.take k),.v (.slice none 0 0),.ab 19 ak x.af]),(b2,some cZe)]/\m=x.bP.length - k/\k<=x.bP.length) x.bP.length [(b3,some [.aa x.aj,.str x.ae,.aa x.fType.aj,.ad 2 aU x.fType.ay,.am x.fType.aB,.str x.fType.aY,.str x.fType.aF,.am x.ax,.am x.aH,.str x.bw,.ac x.cX,.ac x.dm,.ac x.bQ,.ac x.ez,.aa x.iH,.aa x.iI,.ad 7 aN (x.bP.take 0),.v (.slice none 0 0),.ab 19 ak x.af]),(b2,some cZe)] gO ⟨0,rfl,rfl,rfl,Um⟩ ?_;rintro m xs o ⟨k,rfl,rfl,rfl,hk⟩;have hlt:(x.bP.take k).length=k:=by rw[length_take];omega
 refine vK1 ?_;refine AW.c (λh=>?_) λh=>?_
 ·refine AW.imp (Imp.mH (b0:=b3) (k:=16) (sz:=7) (l:=(x.bP.take k).map (aN true)) (eM _ _ _) rfl (bW (λx=>by rw[dD];rfl) _) (λb hb=>?_) (λhnil=>?_))
  ·have hb1:=hb.nf;simp only[go_sem]at hb1;simp only[set_cons_zero,set_cons_succ,length_map]
   (refine vU2 ?_ ?_<;>with_reducible repeat intro h)
   ·rw[dw (sz:=7) (bW (λx=>by rw[dD];rfl) _),length_map]
   rename_i g;refine Imp.BQ (b0:=b3) (k:=16) (b:=g) (sz:=7) (cells0:=[.aa x.aj,.str x.ae,.aa x.fType.aj,.ad 2 aU x.fType.ay,.am x.fType.aB,.str x.fType.aY,.str x.fType.aF,.am x.ax,.am x.aH,.str x.bw,.ac x.cX,.ac x.dm,.ac x.bQ,.ac x.ez,.aa x.iH,.aa x.iI,.arr g 0 ((x.bP.take k).length+1) 7,.v (.slice none 0 0),.ab 19 ak x.af]) (l:=(x.bP.take k).map (aN true)) (aN true (at_ x.bP k)) gO (by rw[length_map];rfl) (by simp(maxSteps:=2000000) (disch:=omega)only[go_sem];try rfl) Um (bW (λx=>by rw[dD];rfl) _) (by rw[dD];rfl) ?_;simp only[set_cons_zero,set_cons_succ];exact⟨trivial,_,[_],_,Um,⟨k+1,rfl,rfl,rfl,Um⟩,rfl,by rw[eV baa,map_append];exact gO;try rfl⟩
  ·simp only[set_cons_zero,set_cons_succ,hnil];refine vU1 ?_;have hk0:k=0:=by rw[map_eq_nil_iff]at hnil;rw[hnil]at hlt;exact hlt.symm
   subst hk0;refine Imp.id ?_;refine gS ?_;exact⟨_,[_],_,Um,⟨1,rfl,rfl,rfl,Um⟩,rfl,by rw[eV baa];exact gO;try rfl⟩
 ·rw[show k=x.bP.length by omega,take_length];refine vU1 ?_;refine AW.imp (Imp.nA (b:=b3) 7 [_,_,_,_,_,_,_,_,_,_,_,_,_,_,_,_,_] [_] (eM _ _ _) ?_);refine gS ?_;refine AW.lJ [5] [1,2,3] (λm xs o=>∃k:Nat,xs=[.aa k]/\o=[(b3,some [.aa x.aj,.str x.ae,.aa x.fType.aj,.ad 2 aU x.fType.ay,.am x.fType.aB,.str x.fType.aY,.str x.fType.aF,.am x.ax,.am x.aH,.str x.bw,.ac x.cX,.ac x.dm,.ac x.bQ,.ac x.ez,.aa x.iH,.aa x.iI,.ad 7 aN x.bP,.ad 7 aN (x.cE.take k),.ab 19 ak x.af]),(b2,some cZe)]/\m=x.cE.length - k/\k<=x.cE.length) x.cE.length [(b3,some [.aa x.aj,.str x.ae,.aa x.fType.aj,.ad 2 aU x.fType.ay,.am x.fType.aB,.str x.fType.aY,.str x.fType.aF,.am x.ax,.am x.aH,.str x.bw,.ac x.cX,.ac x.dm,.ac x.bQ,.ac x.ez,.aa x.iH,.aa x.iI,.ad 7 aN x.bP,.ad 7 aN (x.cE.take 0),.ab 19 ak x.af]),(b2,some cZe)] gO ⟨0,rfl,rfl,rfl,Um⟩ ?_;rintro m xs o ⟨k,rfl,rfl,rfl,hk⟩;have hlt:(x.cE.take k).length=k:=by rw[length_take];omega
  refine vK1 ?_;refine AW.c (λh=>?_) λh=>?_
  ·refine AW.imp (Imp.mH (b0:=b3) (k:=17) (sz:=7) (l:=(x.cE.take k).map (aN true)) (eM _ _ _) rfl (bW (λx=>by rw[dD];rfl) _) (λb hb=>?_) (λhnil=>?_))
   ·have hb1:=hb.nf;simp only[go_sem]at hb1;simp only[set_cons_zero,set_cons_succ,length_map]
    (refine vU2 ?_ ?_<;>with_reducible repeat intro h)
    ·rw[dw (sz:=7) (bW (λx=>by rw[dD];rfl) _),length_map]
    rename_i g;refine Imp.BQ (b0:=b3) (k:=17) (b:=g) (sz:=7) (cells0:=[.aa x.aj,.str x.ae,.aa x.fType.aj,.ad 2 aU x.fType.ay,.am x.fType.aB,.str x.fType.aY,.str x.fType.aF,.am x.ax,.am x.aH,.str x.bw,.ac x.cX,.ac x.dm,.ac x.bQ,.ac x.ez,.aa x.iH,.aa x.iI,.ad 7 aN x.bP,.arr g 0 ((x.cE.take k).length+1) 7,.ab 19 ak x.af]) (l:=(x.cE.take k).map (aN true)) (aN true (at_ x.cE k)) gO (by rw[length_map];rfl) (by simp(maxSteps:=2000000) (disch:=omega)only[go_sem];try rfl) Um (bW (λx=>by rw[dD];rfl) _) (by rw[dD];rfl) ?_;simp only[set_cons_zero,set_cons_succ];exact⟨trivial,_,[_],_,Um,⟨k+1,rfl,rfl,rfl,Um⟩,rfl,by rw[eV baa,map_append];exact gO;try rfl⟩
   ·simp only[set_cons_zero,set_cons_succ,hnil];refine vU1 ?_;have hk0:k=0:=by rw[map_eq_nil_iff]at hnil;rw[hnil]at hlt;exact hlt.symm
    subst hk0;refine Imp.id ?_;refine gS ?_;exact⟨_,[_],_,Um,⟨1,rfl,rfl,rfl,Um⟩,rfl,by rw[eV baa];exact gO;try rfl⟩
  ·rw[show k=x.cE.length by omega,take_length]
   all_goals exact uU
theorem tY:∀(n:Nat) (l:List ag),Ctr lim prog 236 [] [.ab 19 ak l] (.ad 19 ak l) [] (SizeOf.sizeOf l<n)
 | 0,l=>⟨(aT 236),λh=>absurd h (Nat.not_lt_zero _)⟩
 | n+1,l=>by
  have ih:=wy n (tY n);refine Ctr.bd func236 ntmps236 λhp=>?_;refine AW.f1 0 λhf=>?_;refine vU1 ?_;refine AW.aw [3,4] [0] (λm xs o=>∃k:Nat,xs=[.ad 19 ak (l.take k),.aa k]/\o=[]/\m=l.length - k/\k<=l.length) l.length [] trivial ⟨0,?_,rfl,rfl,?_⟩ ?_
  ·rfl
  ·omega
  rintro m xs o ⟨k,rfl,rfl,rfl,hk⟩;have hlt:(l.take k).length=k:=by rw[length_take];omega
  have hkk:k<l.length->SizeOf.sizeOf (at_ l k).af<n:=λh=>by have:=ag.dA (at_mem h);omega
  (refine vU2 ?_ ?_<;>intro h)
  ·exact⟨_,[_,_],[],Um,⟨k+1,by rw[eV baa,map_append,map_cons,map_nil,dC],rfl,rfl,Um⟩,rfl,trivial⟩
  ·rw[show k=l.length by omega,take_length]
instance(x:ag):Ctr lim prog 180 [] [.agg (cSc x)] (.agg [.aa x.aj,.str x.ae,.aa x.fType.aj,.ad 2 aU x.fType.ay,.am x.fType.aB,.str x.fType.aY,.str x.fType.aF,.am x.ax,.am x.aH,.str x.bw,.ac x.cX,.ac x.dm,.ac x.bQ,.ac x.ez,.aa x.iH,.aa x.iI,.ad 7 aN x.bP,.ad 7 aN x.cE,.ad 19 ak x.af]) [] True:=⟨(aT 180),λ_=>(wy (SizeOf.sizeOf x.af+1) (tY _) x).out (Nat.lt_succ_self _)⟩
section
def RW(l:List ag):(l.map (ak true)).all (AV.elem 19)=true:=dX (λx=>by rw[dC];try rfl) l
def RV(l:List ag):((l.map (ak true)).flatMap AV.cells).all AV.one=true:=eD (λx=>by rw[dC];try rfl) l
attribute [local go_sem] bD aS eI eH RW RV
theorem pT:∀(n:Nat) (l:List ag),Ctr lim prog 116 [] [.ab 19 ak l] (.ad 19 ak (dk l)) [] (SizeOf.sizeOf l<n/\bR l<=1048576)
 | 0,l=>⟨(aT 116),λh=>absurd h.1 (Nat.not_lt_zero _)⟩
 | n+1,l=>by
  have ih:=pT n;refine Ctr.bd func116 ntmps116 λhp=>?_;have gOn:=bI.on;obtain⟨hs,hb⟩:=hp;refine AW.f1 0 λhf=>?_;refine vU1 ?_;refine AW.aw [3,4] [0] (λm xs o=>∃k:Nat,xs=[.ad 19 ak (dk (l.take k)),.aa k]/\o=[]/\m=l.length - k/\k<=l.length) l.length [] trivial ⟨0,?_,rfl,rfl,?_⟩ ?_
  ·rw[take_zero,dk];try rfl
  ·omega
  rintro m xs o ⟨k,rfl,rfl,rfl,hk⟩;have h1:=nQ (l.take k)
  have h3:=JS (l:=l) (k:=k)
  have h4:k<l.length->SizeOf.sizeOf (at_ l k).af<n/\bR (at_ l k).af<=1048576:=λh=>by
   have:=rX (at_mem h);have:=ag.dA (at_mem h);omega
  have h6:=nQ (at_ l k).af
  have h7:=nQ (l.take (k+1))
  (refine vU5 ?_ ?_ ?_ ?_ ?_<;>with_reducible repeat intro h)
  ·rename_i hd;rw[dK]at hd;simp at hd;omega
  ·rename_i hk1 hd;exact⟨_,[_,_],[],Um,⟨k+1,rfl,rfl,rfl,Um⟩,by rw[rl hk1,if_pos hd,map_append,map_cons,map_nil,dC];try rfl,trivial⟩
  ·rename_i hk1 hd;exact⟨_,[_,_],[],Um,⟨k+1,rfl,rfl,rfl,Um⟩,by rw[rl hk1,if_neg (by rw[hd];simp),if_pos h,map_append];try rfl,trivial⟩
  ·rename_i hk1 hd;exact⟨_,[_,_],[],Um,⟨k+1,rfl,rfl,rfl,Um⟩,by rw[rl hk1,if_neg (by rw[hd];simp),if_neg Um,append_nil];try rfl,trivial⟩
  ·rw[take_of_length_le Um]
instance(l:List ag):xX lim prog 116 [.ab 19 ak l] (.ab 19 ak (dk l)) (bR l<=1048576) :=
 ⟨(aT 116),λc=>by
  have:=((pT (SizeOf.sizeOf l+1) l).pure ⟨Nat.lt_succ_self _,c⟩).frz
  simpa only[AV.frz,AV.cl,aS,cond_true]using this⟩
end
section
attribute [local go_sem] bD aS eI eH
def VI{l:List ag}{k:Nat}(h:k<l.length)(e:¬idx (nmP (at_ l k).ae) l=k)(kind:Int)(fr:Bool)(p:Nat):kT l kind fr p=false:=by rw[kT,Mm h e];try rfl
def VK{l:List ag}{k:Nat}(h:k<(dk l).length)(e:¬idx (nmP (at_ (dk l) k).ae) (dk l)=k)(kind:Int)(fr:Bool)(p:Nat):kT l kind fr p=false:=by rw[kT,Mm h e];simp
def CR{l:List ag}{k:Nat}{kind:Int}{fr:Bool}{p:Nat}(h:kS (l.drop k) kind fr p=false)(e:kS (l.drop k) kind fr p=kS l kind fr p):kT l kind fr p=false:=by rw[kT,<- e,h];simp
def Jd{l:List ag}(h:∀k<l.length,idx (nmP (at_ l k).ae) l=k):cm (nmS l)=true:=by
 have:∀n,n<=l.length->cg (λj=>!cont ((nmS l).take j) (at_ (nmS l) j)) n=true:=by
  intro n
  induction n with
  | zero=>intro _;rfl
  | succ n ih =>
   intro hn;exact cf (ih Um) (by rw[(Jc Um).1 (h n Um)];try rfl)
 rw[cm,nmS,length_map,<- nmS];exact this _ (Nat.le_refl _)
def VJ{l:List ag}{kind:Int}{fr:Bool}{p:Nat}(h1:∀k<l.length,idx (nmP (at_ l k).ae) l=k)(h2:∀k<(dk l).length,idx (nmP (at_ (dk l) k).ae) (dk l)=k)(h3:kS l kind fr p=true):kT l kind fr p=(decide (p<=8) || l.isEmpty):=by rw[kT,Jd h1,Jd h2,h3];simp
def FL{P:haa}{k:Nat}(h:∀j<k,P j)(e:P k):∀j<k+1,P j:=λj hj=>by
 rcases Nat.lt_or_ge j k with q|q
 ·exact h j q
 ·rw[show j=k by omega];exact e
theorem IW:∀(n:Nat) (l:List ag) (kind:Int) (fr:Bool) (p:Nat),Ctr lim prog 175 [] [.ab 19 ak l,.aa kind,.ac fr,.aa p] (.ac (kT l kind fr p)) [] (SizeOf.sizeOf l<n/\wtS l<=1048576/\p+fw l<=2097152)
 | 0,l,_,_,_=>⟨(aT 175),λh=>absurd h.1 (Nat.not_lt_zero _)⟩
 | n+1,l,kind,fr,p=>by
  have ih:=IW n;refine Ctr.bd func175 ntmps175 λhp=>?_;have gOn:=bI.on;obtain⟨hs,hb,hq⟩:=hp;have hc:=gV l
  have hdl:=nQ l;refine AW.f1 0 λhf=>?_;refine vU1 ?_;refine AW.aw [10] [0,1,2,3,9] (λm xs o=>∃k:Nat,xs=[.aa k]/\o=[]/\m=l.length - k/\k<=l.length/\(∀j<k,idx (nmP (at_ l j).ae) l=j)/\kS (l.drop k) kind fr p=kS l kind fr p) l.length [] trivial ⟨0,?_,rfl,rfl,?_,?_,rfl⟩ ?_
  ·rfl
  ·omega
  ·intro j hj;omega
  rintro m xs o ⟨k,rfl,rfl,rfl,hk,hW,hR⟩;have hi:=p8 (nmP (at_ l k).ae) l
  have hj:=fV (p:=nmP (at_ l k).ae) l;refine vK1 ?_;refine AW.c (λh=>?_) λh=>?_
  ·have hw:=Cm (at_mem h)
   have hsz:=ag.dA (at_mem h)
   have hS:=YC h kind fr p
   have hdp:=Ar (at_mem h)
   (refine vU2 ?_ ?_<;>intro h)
   ·simp only[kY]at h;simp only[bne,j6]at h;rcases h with((h|h)|h)|h
    ·rw[VI baa h]
    ·rw[CR (k:=k) (by rw[hS];grind) hR]
    ·rw[CR (k:=k) (by rw[hS,h];simp) hR]
    ·rw[CR (k:=k) (by rw[hS,h];simp) hR]
   ·simp only[kY]at h;simp only[bne,j6]at h;refine⟨_,[_],[],Um,⟨k+1,rfl,rfl,rfl,Um,FL hW h.1.1.1,?_⟩,rfl,trivial⟩;rw[<- hR,hS];grind
  ·refine vU1 ?_;refine AW.aw [12] [0,3,9] (λm xs o=>∃k:Nat,xs=[.aa k]/\o=[]/\m=(dk l).length - k/\k<=(dk l).length/\(∀j<k,idx (nmP (at_ (dk l) j).ae) (dk l)=j)) (dk l).length [] trivial ⟨0,?_,rfl,rfl,?_,?_⟩ ?_
   ·rfl
   ·omega
   ·intro j hj;omega
   rintro m xs o ⟨i,rfl,rfl,rfl,hi,hV⟩
   (refine vU3 ?_ ?_ ?_<;>with_reducible repeat intro h)
   ·rw[VK baa h]
   ·exact⟨_,[_],[],Um,⟨i+1,rfl,rfl,rfl,Um,FL hV h⟩,rfl,trivial⟩
   ·rw[VJ (λj hj=>hW j Um) (λj hj=>hV j Um) (by rw[<- hR,cT baa,kS]),kY,show decide ((p:Int)<=8)=decide (p<=8)from decide_eq_decide.2 Um]
end
instance(l:List ag)(kind:Int)(bd:Bool):Ctr lim prog 195 [] [.ab 19 ak l,.aa kind,.ac bd] (.ac (kR l kind bd)) [] (wtS l<=1048576):=⟨(aT 195),λh=>(Jv (SizeOf.sizeOf l+1) l kind bd).out ⟨Nat.lt_succ_self _,h⟩⟩
instance(l:List ag)(kind:Int)(fr:Bool):Ctr lim prog 175 [] [.ab 19 ak l,.aa kind,.ac fr,.aa 1] (.ac (kT l kind fr 1)) [] (wtS l<=1048576):=⟨(aT 175),λh=>(IW (SizeOf.sizeOf l+1) l kind fr 1).out ⟨Nat.lt_succ_self _,h,by have:=yJ l;omega⟩⟩
instance(l:List ag):Ctr lim prog 130 [] [.ab 19 ak l] (.ac (kg l)) [] (wtS l<=1048576):=by
 refine Ctr.bd func130 ntmps130 λhp=>?_;have gOn:=bI.on
 have h1:=gV l
 have h2:=yJ l;refine vU1 ?_;refine congrArg (λb=>AV.ac b) ?_;rw[kg,show decide ((bR l:Int)<=60)=decide (bR l<=60)from decide_eq_decide.2 Um,show decide ((fw l:Int)<=8)=decide (fw l<=8)from decide_eq_decide.2 Um]
instance(l:List ag):Ctr lim prog 113 [] [.ab 19 ak l] (.ac (kg l)) [] (wtS l<=1048576):=by
 refine Ctr.bd func113 ntmps113 λhp=>?_;have gOn:=bI.on
 have h1:=gV l;refine vU1 ?_;rw[Ew]
section
attribute [-instance] eQ
attribute [local go_sem] bD aS bk eI eH fY iE iM
theorem Nq(n:Nat)(ih:∀(s:List ag) (l:List ah),Ctr lim prog 147 [] [.ab 19 ak s,.ab 3 ai l] (.ac (okL (dk s) none l)) [] (SizeOf.sizeOf l<n/\wtS s<=1048576/\wt l<=1048576))(c:ag)(x:ah):Ctr lim prog 212 [] [.agg (cSc c),.agg (cNo x)] (.ac (okN c x)) [] (dK c.aj=true/\SizeOf.sizeOf x.af<n/\wtS c.af<=1048576/\wt x.af<=1048576/\x.aq.length<=1048576):=by
 refine Ctr.bd func212 ntmps212 λhp=>?_;have gOn:=bI.on;obtain⟨h1,h2,h3,h4,h5⟩:=hp
 (refine vU4 ?_ ?_ ?_ ?_<;>with_reducible repeat intro h)
 all_goals refine congrArg (λb=>AV.ac b) ?_
 ·rw[okN,if_pos Um,kY]
 ·rw[okN,if_pos Um,kY]
 ·rw[okN,if_neg Um,if_neg Um,rW,qN,mz,Bool.and_right_comm]
 ·have:c.aj=2:=by rw[dK]at h1;simp at h1;omega
  rw[okN,if_neg Um,if_pos this,mz]
theorem GJ:∀(n:Nat) (s:List ag) (l:List ah),Ctr lim prog 147 [] [.ab 19 ak s,.ab 3 ai l] (.ac (okL (dk s) none l)) [] (SizeOf.sizeOf l<n/\wtS s<=1048576/\wt l<=1048576)
 | 0,_,l=>⟨(aT 147),λh=>absurd h.1 (Nat.not_lt_zero _)⟩
 | n+1,s,l=>by
  have ih:=Nq n (GJ n);refine Ctr.bd func147 ntmps147 λhp=>?_;have gOn:=bI.on;obtain⟨hs,hb,hv⟩:=hp;have hc:=gV s;refine AW.f1 1 λhf=>?_;refine vU1 ?_;refine AW.aw [7,18] [1,5,6,16,17] (λm xs o=>∃k:Nat,xs=[.aa (jx (dk s) l k),.aa k]/\o=[]/\m=l.length - k/\k<=l.length/\okL (dk s) (prv l k) (l.drop k)=okL (dk s) none l) l.length [] trivial ⟨0,?_,rfl,rfl,?_,rfl⟩ ?_
  ·rfl
  ·omega
  rintro m xs o ⟨k,rfl,rfl,rfl,hk,hR⟩;refine vK1 ?_;refine AW.c (λh=>?_) λh=>?_
  ·have hw:=lM (l:=l) h
   have hsz:=ah.dA (at_mem h)
   have hkx:=λhq=>yI _ _ (gb (p:=nmP (at_ l k).ae) (l:=dk s) hq).2.2
   have hkv:=λhq=>jR _ _ (gb (p:=nmP (at_ l k).ae) (l:=dk s) hq).2.2
   have hkz:=fV (p:=nmP (at_ l k).ae) (dk s)
   have hl1:=Pw (d:=dk s) (l:=l) (k:=k)
   have hl2:=Pv (d:=dk s) (l:=l) (k:=k)
   have hl0:k=0->jx (dk s) l k = -1:=λe=>by subst e;rfl
   (refine vU3 ?_ ?_ ?_<;>with_reducible repeat intro h)
   ·rw[<- hR,Sz baa h]
   ·rw[<- hR,Pc baa Um h]
   ·exact⟨_,[_,_],[],Um,⟨k+1,rfl,rfl,rfl,Um,by rw[<- hR,Pb baa Um Um h.1 h.2]⟩,rfl,gO⟩
  ·refine vU1 ?_;rw[<- hR,cT h,okL]
end
section
attribute [local go_sem] bD aS bk eI eH fY
instance(l:List ag):Ctr lim prog 116 [] [.ab 19 ak l] (.ab 19 ak (dk l)) [] (bR l<=1048576) :=
 Ctr.kK (aT 116) λc=>by
  have:=((pT (SizeOf.sizeOf l+1) l).pure ⟨Nat.lt_succ_self _,c⟩).frz;simpa only[AV.frz,AV.cl,aS,cond_true]using this
theorem RZ(n:Nat)(ih:∀(d:List ag) (l:List ah),Ctr lim prog 140 [] [.ab 19 ak d,.ab 3 ai l] (.ac (okL d none l)) [] (SizeOf.sizeOf l<n/\(∀y∈d,wtS y.af<=1048576)/\wt l<=1048576))(c:ag)(x:ah):Ctr lim prog 206 [] [.agg (cSc c),.agg (cNo x)] (.ac (okN c x)) [] (SizeOf.sizeOf x.af<n/\wtS c.af<=1048576/\wt x.af<=1048576/\x.aq.length<=1048576):=by
 refine Ctr.bd func206 ntmps206 λhp=>?_;have gOn:=bI.on;obtain⟨h2,h3,h4,h5⟩:=hp;have hc:=gV c.af
 have hd:∀y∈dk c.af,wtS y.af<=1048576:=λy hy=>by have:=jR _ y hy;omega
 cases hk:kyB c x
 ·haveI:=L3 c x
  (refine vU5 ?_ ?_ ?_ ?_ ?_<;>with_reducible repeat intro h)
  all_goals try refine congrArg (λb=>AV.ac b) ?_
  ·rw[okN,if_pos Um,kY]
  ·rw[okN,if_pos Um,kY]
  ·rw[okN,if_neg Um,if_pos h,hk];try rfl
  ·exact hd _ h
  ·rw[okN,if_neg Um,if_neg Um,rW,qN,mz]
 ·haveI:=L0 c x
  (refine vU6 ?_ ?_ ?_ ?_ ?_ ?_<;>with_reducible repeat intro h)
  all_goals try refine congrArg (λb=>AV.ac b) ?_
  ·rw[okN,if_pos Um,kY]
  ·rw[okN,if_pos Um,kY]
  ·exact hd _ h
  ·rw[okN,if_neg Um,if_pos h,hk,mz];try rfl
  ·exact hd _ h
  ·rw[okN,if_neg Um,if_neg Um,rW,qN,mz]
theorem Fx:∀(n:Nat) (d:List ag) (l:List ah),Ctr lim prog 140 [] [.ab 19 ak d,.ab 3 ai l] (.ac (okL d none l)) [] (SizeOf.sizeOf l<n/\(∀y∈d,wtS y.af<=1048576)/\wt l<=1048576)
 | 0,_,l=>⟨(aT 140),λh=>absurd h.1 (Nat.not_lt_zero _)⟩
 | n+1,d,l=>by
  have ih:=RZ n (Fx n);refine Ctr.bd func140 ntmps140 λhp=>?_;have gOn:=bI.on;obtain⟨hs,hb,hv⟩:=hp;refine AW.f1 1 λhf=>?_;refine vU1 ?_;refine AW.aw [5] [0,1] (λm xs o=>∃k:Nat,xs=[.aa k]/\o=[]/\m=l.length - k/\k<=l.length/\(∀j<k,okX d (at_ l j))/\okL d (prv l k) (l.drop k)=okL d none l) l.length [] trivial ⟨0,?_,rfl,rfl,?_,?_,rfl⟩ ?_
  ·rfl
  ·omega
  ·intro j hj;omega
  rintro m xs o ⟨k,rfl,rfl,rfl,hk,hW,hR⟩;refine vK1 ?_;refine AW.c (λh=>?_) λh=>?_
  ·have hw:=lM (l:=l) h
   have hkx:=λhq=>hb _ (gb (p:=nmP (at_ l k).ae) (l:=d) hq).2.2
   have hky:=λhq=>(gb (p:=nmP (at_ l k).ae) (l:=d) hq).1
   have hsz:=ah.dA (at_mem h)
   (refine vU5 ?_ ?_ ?_ ?_ ?_<;>with_reducible repeat intro h)
   ·exact(hW _ Um).1
   ·exact uh (hW _ Um).2
   ·rw[h];exact uh (by grind)
   ·rw[<- hR];rcases h with(h|h)|⟨h1,h2⟩
    ·rw[Vq baa h]
    ·rw[Sy baa h]
    ·rw[Sx baa Um (by rw[<- h2];congr 2;omega)]
   ·obtain⟨⟨h1,h2⟩,h3⟩:=h;refine⟨_,[_],[],Um,⟨k+1,rfl,rfl,rfl,Um,λj hj=>?_,?_⟩,rfl,trivial⟩
    ·rcases Nat.lt_or_ge j k with q|q
     ·exact hW j q
     ·rw[show j=k by omega];exact⟨h1,h2⟩
    ·rw[<- hR,Pa baa h1 h2 λq=>by rw[<- h3 Um];congr 2;omega]
  ·refine vU1 ?_;rw[<- hR,cT h,okL]
end
section
attribute [local go_sem] bD aS
instance(s:List ag)(l:List ah):Ctr lim prog 147 [] [.ab 19 ak s,.ab 3 ai l] (.ac (okL (dk s) none l)) [] (wtS s<=1048576/\wt l<=1048576):=⟨(aT 147),λh=>(GJ (SizeOf.sizeOf l+1) s l).out ⟨Nat.lt_succ_self _,h⟩⟩
instance(d:List ag)(l:List ah):Ctr lim prog 140 [] [.ab 19 ak d,.ab 3 ai l] (.ac (okL d none l)) [] ((∀y∈d,wtS y.af<=1048576)/\wt l<=1048576):=⟨(aT 140),λh=>(Fx (SizeOf.sizeOf l+1) d l).out ⟨Nat.lt_succ_self _,h⟩⟩
instance(s:List ag)(l:List ah):Ctr lim prog 88 [] [.ab 19 ak s,.ab 3 ai l] (.ac (cW s l)) [] (wtS s<=1048576/\wt l<=1048576):=by refine Ctr.bd func88 ntmps88 λhp=>?_;have gOn:=bI.on;obtain⟨h1,h2⟩:=hp;refine vU1 ?_;refine congrArg (λb=>AV.ac b) ?_;rw[cW,show decide ((cnt l:Int)<=120)=decide (cnt l<=120)from decide_eq_decide.2 Um]
instance(s:List ag)(l:List ah):Ctr lim prog 81 [] [.ab 19 ak s,.ab 3 ai l] (.ac (cW s l)) [] (wtS s<=1048576/\wt l<=1048576):=by
 refine Ctr.bd func81 ntmps81 λhp=>?_;have gOn:=bI.on;obtain⟨h1,h2⟩:=hp;have hc:=gV s
 have hd:∀y∈dk s,wtS y.af<=1048576:=λy hy=>by have:=jR _ y hy;omega
 have e1:decide (0<=fN l (120 - l.length))=decide (cnt l<=120):=by
  apply decide_eq_decide.2;unfold cnt;rcases Int.lt_or_le (120 - (l.length:Int)) 0 with h|h
  ·rw[mb l h];omega
  ·have:=(qZ l _ h).1;omega
 (refine vU2 ?_ ?_<;>with_reducible repeat intro h)
 ·exact hd _ h
 ·refine congrArg (λb=>AV.ac b) ?_;rw[cW,e1]
end
end Go.Proofs
namespace Go.Ab
def au.QX{L:gaa}{F:haa}{w:World}:∀ {l:List AV} {vs:List Value} {fp:List Nat} {own:Bool} {sz:Nat} {xs:List AV},au L F w l vs fp->.sl own sz xs∈l->xs.length<=L sz
 | [],_,_,_,_,_,_,h=>by cases h
 | x::xs,vs,fp,own,sz,ys,r,h=>by
  simp only[au]at r;obtain⟨y,vs',f1,f2,_,_,hx,hxs⟩:=r;rcases List.mem_cons.1 h with rfl|h
  ·simp only[Rep]at hx;rcases hx with⟨_,rfl,_⟩|⟨b,off,cap,vals,fp',_,_,h2,_⟩
   ·simp
   ·exact h2
  ·exact au.QX hxs h
def AW.RA{L:gaa}{P:Program}{c:Code}{n:Nat}{t:faa}{o:List (Nat×Option (List AV))}{Q:Exit->AS->Prop}(i:Nat){l xs:List AV}{own:Bool}{sz:Nat}(hi:T t i=.agg l)(hm:.sl own sz xs∈l)(h:xs.length<=L sz->AW L P c ⟨n,t,o⟩ Q):AW L P c ⟨n,t,o⟩ Q:=by intro B F0 w0 a w hd;refine h ?_ B F0 w0 a w hd;obtain⟨F,ow,fp,fs,h⟩:=hd;have hr:=h.slots i;simp only at hr;rw[hi]at hr;simp only[Rep]at hr;obtain⟨vs,_,hl⟩:=hr;exact hl.QX hm
def au.Rw{L:gaa}{F:haa}{w:World}{x x':AV}{xs xs':List AV}(h:∀y fp,Rep L F w x y fp->Rep L F w x' y fp)(hs:∀vs fp,au L F w xs vs fp->au L F w xs' vs fp):∀vs fp,au L F w (x::xs) vs fp->au L F w (x'::xs') vs fp:=by intro vs fp r;simp only[au]at r ⊢;obtain⟨y,vs',f1,f2,e1,e2,hx,hxs⟩:=r;exact⟨y,vs',f1,f2,e1,e2,h _ _ hx,hs _ _ hxs⟩
def Rep.fL{L:gaa}{F:haa}{w:World}{o:Bool}{sz:Nat}(y:Value)(fp:List Nat)(h:Rep L F w (.v (.slice none 0 0)) y fp):Rep L F w (.sl o sz []) y fp:=by simp only[Rep]at h ⊢;exact .inl ⟨.inl h.1,trivial,h.2⟩
theorem Ctr.view{L:gaa}{P:Program}{f:FuncId}{args args':List AV}{res:AV}{cs:List (Option (List AV))}{pre:Prop}(h:Ctr L P f [] args res cs pre)(ha:∀F w vs fp,au L F w args' vs fp->au L F w args vs fp):Ctr L P f [] args' res [] pre :=
 Ctr.kK h.en λhp w F vs a b r=>h.pure hp w F vs a b (ha _ _ _ _ r)
section
variable {L : Nat -> Nat} {F : Nat -> Prop} {w : World} {x x' : AV}
def bY.at{sz:Nat}(hx:∀y fp,Rep L F w x y fp->Rep L F w x' y fp):∀(l l2:List AV) (vs:List Value) (fp:List Nat),bY L F w sz (l++x::l2) vs fp->bY L F w sz (l++x'::l2) vs fp
 | [],l2,vs,fp,h=>by
  simp only[nil_append,bY]at h ⊢;obtain⟨y,vs',f1,f2,e1,e2,e3,h1,h2⟩:=h;exact⟨y,vs',f1,f2,e1,e2,e3,hx _ _ h1,h2⟩
 | z::l,l2,vs,fp,h=>by
  simp only[cons_append,bY]at h ⊢;obtain⟨y,vs',f1,f2,e1,e2,e3,h1,h2⟩:=h;exact⟨y,vs',f1,f2,e1,e2,e3,h1,bY.at hx l l2 _ _ h2⟩
def au.at(hx:∀y fp,Rep L F w x y fp->Rep L F w x' y fp):∀(l l2:List AV) (vs:List Value) (fp:List Nat),au L F w (l++x::l2) vs fp->au L F w (l++x'::l2) vs fp
 | [],l2,vs,fp,h=>au.Rw hx (λ_ _ h=>h) vs fp h
 | z::l,l2,vs,fp,h=>au.Rw (λ_ _ h=>h) (au.at hx l l2) vs fp h
def Rep.aaQ{own:Bool}{sz:Nat}{l l2:List AV}(hx:∀y fp,Rep L F w x y fp->Rep L F w x' y fp)(y:Value)(fp:List Nat)(h:Rep L F w (.sl own sz (l++x::l2)) y fp):Rep L F w (.sl own sz (l++x'::l2)) y fp:=by
 simp only[Rep]at h ⊢;rcases h with⟨_,h,_⟩|⟨b,off,cap,vals,fp',h1,h2,h3,h4,h5,h6⟩
 ·simp at h
 ·exact .inr ⟨b,off,cap,vals,fp',by simpa using h1,by simpa using h2,by simpa using h3,h4,bY.at hx l l2 _ _ h5,h6⟩
def Rep.Zo{l l2:List AV}(hx:∀y fp,Rep L F w x y fp->Rep L F w x' y fp)(y:Value)(fp:List Nat)(h:Rep L F w (.agg (l++x::l2)) y fp):Rep L F w (.agg (l++x'::l2)) y fp:=by simp only[Rep]at h ⊢;obtain⟨vs,e,h⟩:=h;exact⟨vs,e,au.at hx l l2 _ _ h⟩
end
def Imp.iB{L:gaa}{n:Nat}{t:faa}{o:Sto}{Q:AS->Prop}(i:Nat){x x':AV}(hT:T t i=x)(hx:∀F w y fp,Rep L F w x y fp->Rep L F w x' y fp)(h:Q ⟨n,(i,x')::t,o⟩):Imp L ⟨n,t,o⟩ Q:=by
 intro B F0 w0 a w hd;refine⟨_,h,?_⟩;obtain⟨F,own,fp,fs,hd⟩:=hd;refine⟨F,own,fp,fs,{ hd with slots:=λj=>?_ }⟩;have hj:=hd.slots j;simp only[T]at hj ⊢;by_cases e:i=j
 ·subst e;simp only[beq_self_eq_true,cond_true];rw[hT]at hj;exact hx _ _ _ _ hj
 ·rw[show (i == j)=false by simpa using e];exact hj
end Go.Ab
namespace Go.Proofs
open Go.Ab Go.Dt
section
attribute [local go_sem] bD aS bk eI eH
theorem Jt:∀(n:Nat) (a b:List ah),Ctr lim prog 96 [] [.ab 3 ai a,.ab 3 ai b] (.ac (smT a b)) [] (SizeOf.sizeOf a<n)
 | 0,a,_=>⟨(aT 96),λh=>absurd h (Nat.not_lt_zero _)⟩
 | n+1,a,b=>by
  have ih:=Jt n;refine Ctr.bd func96 ntmps96 λhp=>?_;have gOn:=bI.on;refine AW.f1 0 λhf=>?_;refine vK1 ?_;refine AW.c (λh=>?_) λh=>?_
  ·refine vU1 ?_;rw[IJ h]
  have hle:a.length=b.length:=by omega
  clear h;refine vK1 ?_;refine AW.aw [13] [0,1,12] (λm xs o=>∃k:Nat,xs=[.aa k]/\o=[]/\m=a.length - k/\k<=a.length/\smT (a.drop k) (b.drop k)=smT a b) a.length [] trivial ⟨0,?_,rfl,rfl,?_,rfl⟩ ?_
  ·rfl
  ·omega
  rintro m xs o ⟨k,rfl,rfl,rfl,hk,hR⟩;have hkk:k<a.length->SizeOf.sizeOf (at_ a k).af<n:=λh=>by have:=ah.dA (at_mem h);omega
  (refine vU3 ?_ ?_ ?_<;>with_reducible repeat intro h)
  ·rw[<- hR,Bg baa Um];grind
  ·exact⟨_,[_],_,Um,⟨k+1,rfl,rfl,rfl,Um,by rw[<- hR,Bg (k:=k) baa Um];grind⟩,rfl,gO⟩
  ·rw[<- hR,IK h Um]
theorem IP:∀(n:Nat) (a b:List ah),Ctr lim prog 94 [] [.ab 3 ai a,.ab 3 ai b] (.ac (smT a b)) [] (SizeOf.sizeOf a<n)
 | 0,a,_=>⟨(aT 94),λh=>absurd h (Nat.not_lt_zero _)⟩
 | n+1,a,b=>by
  have ih:=IP n;refine Ctr.bd func94 ntmps94 λhp=>?_;have gOn:=bI.on;refine AW.f1 0 λhf=>?_;refine vK1 ?_;refine AW.c (λh=>?_) λh=>?_
  ·refine vU1 ?_;rw[IJ h]
  have hle:a.length=b.length:=by omega
  clear h;refine vK1 ?_;refine AW.aw [5] [0,1] (λm xs o=>∃k:Nat,xs=[.aa k]/\o=[]/\m=a.length - k/\k<=a.length/\smT (a.drop k) (b.drop k)=smT a b) a.length [] trivial ⟨0,?_,rfl,rfl,?_,rfl⟩ ?_
  ·rfl
  ·omega
  rintro m xs o ⟨k,rfl,rfl,rfl,hk,hR⟩;have hkk:k<a.length->SizeOf.sizeOf (at_ a k).af<n:=λh=>by have:=ah.dA (at_mem h);omega
  (refine vU3 ?_ ?_ ?_<;>with_reducible repeat intro h)
  ·rw[<- hR,Bg baa Um];grind
  ·exact⟨_,[_],_,Um,⟨k+1,rfl,rfl,rfl,Um,by rw[<- hR,Bg (k:=k) baa Um];grind⟩,rfl,gO⟩
  ·rw[<- hR,IK h Um]
end
section
attribute [local go_sem] bD aS bk eI eH
instance(a b:List ah):Ctr lim prog 96 [] [.ab 3 ai a,.ab 3 ai b] (.ac (smT a b)) [] True:=⟨(aT 96),λ_=>(Jt (SizeOf.sizeOf a+1) a b).out (Nat.lt_succ_self _)⟩
instance(a b:List ah):Ctr lim prog 94 [] [.ab 3 ai a,.ab 3 ai b] (.ac (smT a b)) [] True:=⟨(aT 94),λ_=>(IP (SizeOf.sizeOf a+1) a b).out (Nat.lt_succ_self _)⟩
instance(a b:List Str):Ctr lim prog 306 [] [.al a,.al b] (.ac (a == b)) [] True:=by
 refine Ctr.bd func306 ntmps306 λhp=>?_;have gOn:=bI.on;refine AW.f1 0 λhf=>?_;refine vK1 ?_;refine AW.c (λh=>?_) λh=>?_
 ·refine vU1 ?_;rw[show (a == b)=false by rw[beq_eq_false_iff_ne];intro e;rw[e]at h;exact h rfl]
 have hle:a.length=b.length:=by omega
 clear h;refine vK1 ?_;refine AW.aw [13] [0,1,12] (λm xs o=>∃k:Nat,xs=[.aa k]/\o=[]/\m=a.length - k/\k<=a.length/\(a.drop k == b.drop k)=(a == b)) a.length [] trivial ⟨0,?_,rfl,rfl,?_,rfl⟩ ?_
 ·rfl
 ·omega
 rintro m xs o ⟨k,rfl,rfl,rfl,hk,hR⟩
 (refine vU3 ?_ ?_ ?_<;>with_reducible repeat intro h)
 ·rw[<- hR,bA baa,bA (l:=b) Um];have:(at_ a k == at_ b k)=false:=by simpa using h
  rw[cons_beq_cons,this];try rfl
 ·exact⟨_,[_],_,Um,⟨k+1,rfl,rfl,rfl,Um,by rw[<- hR,bA (l:=a) (k:=k) baa,bA (l:=b) (k:=k) Um,cons_beq_cons,h,beq_self_eq_true,Bool.true_and]⟩,rfl,gO⟩
 ·rw[<- hR,cT h,cT Um];try rfl
instance(n:ag)(x y:ah):Ctr lim prog 270 [] [.agg (cSc n),.agg (cNo x),.agg (cNo y)] (.ac (skB n x y)) [] True:=by
 refine Ctr.bd func270 ntmps270 λhp=>?_;have gOn:=bI.on
 (refine vU4 ?_ ?_ ?_ ?_<;>with_reducible repeat intro h)
 ·rw[skB,show gM n.aj=false by rw[gM];simp;grind];try rfl
 ·rename_i h';rw[skB,show gM n.aj=true by rw[gM];simp;grind,h.1,h.2];try rfl
 ·exfalso;grind
 ·rename_i h' h2;refine congrArg (λb=>AV.ac b) ?_;rw[skB,show gM n.aj=true by rw[gM];simp;grind];grind
instance(n:ag)(l:List ah)(x:ah):Ctr lim prog 215 [] [.agg (cSc n),.ab 3 ai l,.agg (cNo x)] (.aa (fnd n l x)) [] True:=by
 refine Ctr.bd func215 ntmps215 λhp=>?_;have gOn:=bI.on;refine AW.f1 1 λhf=>?_;refine vK1 ?_;refine AW.aw [11] [3,5,9,10] (λm xs o=>∃k:Nat,xs=[.aa k]/\o=[]/\m=l.length - k/\k<=l.length/\∀y∈l.take k,fiP n x y=false) l.length [] trivial ⟨0,?_,rfl,rfl,?_,?_⟩ ?_
 ·rfl
 ·omega
 ·simp
 rintro m xs o ⟨k,rfl,rfl,rfl,hk,hR⟩
 (refine vU3 ?_ ?_ ?_<;>with_reducible repeat intro h)
 ·rw[fnd,gD (p:=fiP n x) baa hR (by rw[fiP];grind)]
 ·exact⟨_,[_],_,Um,⟨k+1,rfl,rfl,rfl,Um,bL baa hR (by rw[fiP];grind)⟩,rfl,gO⟩
 ·rw[fnd,jh h hR]
end
section
def Ww(l:List aI):(l.map (dE true)).all (AV.elem 4)=true:=dX (λx=>by rw[qQ];try rfl) l
def Wv(l:List aI):((l.map (dE true)).flatMap AV.cells).all AV.one=true:=eD (λx=>by rw[qQ];try rfl) l
attribute [local go_sem] bD aS bk eI eH Ww Wv
instance(n:ag)(l:List ah)(v:Str)(key:List Str):Ctr lim prog 266 [] [.agg (cSc n),.ab 3 ai l,.str v,.al key] (.aa (idx (fsP n v key) l)) [] (∀y∈l,y.ae=n.ae->kyB n y=true):=by
 refine Ctr.bd func266 ntmps266 λhp=>?_;have gOn:=bI.on;refine AW.f1 1 λhf=>?_;refine vK1 ?_;refine AW.aw [9] [1,2,3,4] (λm xs o=>∃k:Nat,xs=[.aa k]/\o=[]/\m=l.length - k/\k<=l.length/\∀y∈l.take k,fsP n v key y=false) l.length [] trivial ⟨0,?_,rfl,rfl,?_,?_⟩ ?_
 ·rfl
 ·omega
 ·simp
 rintro m xs o ⟨k,rfl,rfl,rfl,hk,hR⟩;have hky:k<l.length->(at_ l k).ae=n.ae->kyB n (at_ l k)=true:=λh=>hp _ (at_mem h)
 haveI:=wY n (at_ l k)
 (refine vU5 ?_ ?_ ?_ ?_ ?_<;>with_reducible repeat intro h)
 ·exact⟨_,[_],_,Um,⟨k+1,rfl,rfl,rfl,Um,bL baa hR (by rw[fsP];grind)⟩,rfl,gO⟩
 ·rename_i h';rw[gD (p:=fsP n v key) baa hR (by rw[fsP];grind)]
 ·rename_i h' h2;rw[gD (p:=fsP n v key) baa hR (by rw[fsP];grind)]
 ·rename_i h' h2;exact⟨_,[_],_,Um,⟨k+1,rfl,rfl,rfl,Um,bL baa hR (by rw[fsP];grind)⟩,rfl,gO⟩
 ·rw[jh h hR]
instance(n:ag)(l:List ah)(x:ah):Ctr lim prog 209 [] [.agg (cSc n),.ab 3 ai l,.agg (cNo x)] (.aa (fnd n l x)) [] (kyB n x=true/\∀y∈l,y.ae=n.ae->kyB n y=true):=by refine Ctr.bd func209 ntmps209 λhp=>?_;have gOn:=bI.on;obtain⟨h1,h2⟩:=hp;haveI:=wY n x;refine vU1 ?_;rw[NH h1 h2]
theorem Nv:∀(n:Nat) (op:Int) (l:List ah),Ctr lim prog 150 [] [.aa op,.ab 3 ai l] (.ad 4 dE (edO op l)) [] (SizeOf.sizeOf l<n)
 | 0,_,l=>⟨(aT 150),λh=>absurd h (Nat.not_lt_zero _)⟩
 | n+1,op,l=>by
  have ih:=Nv n;refine Ctr.bd func150 ntmps150 λhp=>?_;have gOn:=bI.on;refine AW.f1 1 λhf=>?_;refine vK1 ?_;refine AW.aw [5,11] [0,9,10] (λm xs o=>∃k:Nat,xs=[.ad 4 dE (edO op (l.take k)),.aa k]/\o=[]/\m=l.length - k/\k<=l.length) l.length [] trivial ⟨0,?_,rfl,rfl,?_⟩ ?_
  ·rw[take_zero,edO];try rfl
  ·omega
  rintro m xs o ⟨k,rfl,rfl,rfl,hk⟩;have hlt:(edO op (l.take k)).length=k:=by rw[JI,length_take];omega
  have hkk:k<l.length->SizeOf.sizeOf (at_ l k).af<n:=λh=>by have:=ah.dA (at_mem h);omega
  (refine vU2 ?_ ?_<;>with_reducible repeat intro h)
  ·exact⟨_,[_,_],_,Um,⟨k+1,by rw[Hu baa,map_append,map_cons,map_nil,qQ];try rfl,rfl,rfl,Um⟩,rfl,gO⟩
  ·rw[take_of_length_le Um]
theorem L8:∀(n:Nat) (op:Int) (l:List ah),Ctr lim prog 142 [] [.aa op,.ab 3 ai l] (.ad 4 dE (edO op l)) [] (SizeOf.sizeOf l<n)
 | 0,_,l=>⟨(aT 142),λh=>absurd h (Nat.not_lt_zero _)⟩
 | n+1,op,l=>by
  have ih:=L8 n;refine Ctr.bd func142 ntmps142 λhp=>?_;have gOn:=bI.on;refine AW.f1 1 λhf=>?_;refine vK1 ?_;refine AW.aw [5,6] [0,1] (λm xs o=>∃k:Nat,xs=[.ad 4 dE (edO op (l.take k)),.aa k]/\o=[]/\m=l.length - k/\k<=l.length) l.length [] trivial ⟨0,?_,rfl,rfl,?_⟩ ?_
  ·rw[take_zero,edO];try rfl
  ·omega
  rintro m xs o ⟨k,rfl,rfl,rfl,hk⟩;have hlt:(edO op (l.take k)).length=k:=by rw[JI,length_take];omega
  have hkk:k<l.length->SizeOf.sizeOf (at_ l k).af<n:=λh=>by have:=ah.dA (at_mem h);omega
  refine vK1 ?_;refine AW.c (λh=>?_) λh=>?_
  ·refine vN1 ?_;refine Z ?_;intro K hK;refine gS ?_;refine Y ?_;refine gS ?_;refine And.intro (hkk h) (And.intro daa (And.intro daa ?_));refine Y ?_;simp(maxSteps:=2000000) (disch:=omega)only[go_sem];refine And.intro ⟨Um,Um,Um⟩ ?_;refine hK _ _ ⟨Ct,?_⟩;clear hK K;intro K hK;refine gS ?_;refine hK _ _ ?_;clear hK K;refine vU1 ?_;exact⟨_,[_,_],_,Um,⟨k+1,by rw[Hu baa,map_append,map_cons,map_nil,qQ];try rfl,rfl,rfl,Um⟩,rfl,gO⟩
  ·refine vU1 ?_;rw[take_of_length_le Um]
end
section
attribute [local go_sem] bD aS bk eI eH fY iE iM
theorem Ju:∀(n:Nat) (s:List ag) (a b:List ah),Ctr lim prog 151 [] [.ab 19 ak s,.ab 3 ai a,.ab 3 ai b] (.ac (prt s a b)) [] (SizeOf.sizeOf a<n/\wtS s<=1048576/\(∀x∈a,okX (dk s) x)/\(∀x∈b,okX (dk s) x))
 | 0,_,a,_=>⟨(aT 151),λh=>absurd h.1 (Nat.not_lt_zero _)⟩
 | n+1,s,a,b=>by
  have ih:=Ju n;refine Ctr.bd func151 ntmps151 λhp=>?_;have gOn:=bI.on;obtain⟨hs,h1,ha,hb⟩:=hp;have hc:=gV s
  haveI fz:∀(sz:Nat) (x:AV) (l:List AV) (C:List Nat) (K:AV->List Nat->Prop),Rl (bsK sz (x::l) C (K:=⟨K⟩)) (K (.sl false sz (AV.cl (x::l))) C):=λ_ _ _ _ _=>⟨.inr⟩
  refine AW.f1 1 λhf=>?_;refine vU1 ?_;refine AW.aw [14] [0,2,12,13] (λm xs o=>∃k:Nat,xs=[.aa k]/\o=[]/\m=a.length - k/\k<=a.length/\prt s (a.drop k) b=prt s a b) a.length [] trivial ⟨0,rfl,rfl,rfl,Um,rfl⟩ ?_;rintro m xs o ⟨k,rfl,rfl,rfl,hk,hR⟩;refine vK1 ?_;refine AW.c (λh=>?_) λh=>?_
  ·have hlk:=h
   have hx:=ha _ (at_mem h)
   have hx0:=hx.1
   have hx1:=fV (p:=nmP (at_ a k).ae) (dk s)
   have hsz:=ah.dA (at_mem h)
   have hnp:=jR _ _ (ug hx).2
   have hka:=yp hx
   have hfo:=λhq=>NG (s:=s) (a:=b) (y:=(at_ a k)) hq hx;rw[Md h,Kq]at hR;dsimp only[nd]at hfo hR hka;clear h;have ih:=ih (at_ (dk s) (idx (nmP (at_ a k).ae) (dk s)).toNat).af (at_ a k).af (at_ b (fnd (at_ (dk s) (idx (nmP (at_ a k).ae) (dk s)).toNat) b (at_ a k)).toNat).af;by_cases hj:(fnd (at_ (dk s) (idx (nmP (at_ a k).ae) (dk s)).toNat) b (at_ a k))<0
   ·have ej:decide ((fnd (at_ (dk s) (idx (nmP (at_ a k).ae) (dk s)).toNat) b (at_ a k))<0)=true:=by simpa using hj
    clear hka hfo
    (refine vQ1 ej ?_;with_reducible repeat first|intro(K:_->_->Prop) hK|intro h)
    refine AW.e λh=>?_;refine vU1 ?_;rw[<- hR];simp[hj]
   have ej:decide ((fnd (at_ (dk s) (idx (nmP (at_ a k).ae) (dk s)).toNat) b (at_ a k))<0)=false:=by simpa using hj
   obtain⟨hj1,hj2,hj3⟩:=hfo Um;have hy:=hb _ hj3
   have hkb:=yp hy;dsimp only[nd]at hkb;rw[hj2]at hkb;by_cases h3:(at_ (dk s) (idx (nmP (at_ a k).ae) (dk s)).toNat).aj=3
   ·have e3:((at_ (dk s) (idx (nmP (at_ a k).ae) (dk s)).toNat).aj == 3)=true:=by simpa using h3
    by_cases hv:(at_ b (fnd (at_ (dk s) (idx (nmP (at_ a k).ae) (dk s)).toNat) b (at_ a k)).toNat).aq=(at_ a k).aq
    ·have ev:((at_ b (fnd (at_ (dk s) (idx (nmP (at_ a k).ae) (dk s)).toNat) b (at_ a k)).toNat).aq == (at_ a k).aq)=true:=by simpa using hv
     have hR2:(prt (at_ (dk s) (idx (nmP (at_ a k).ae) (dk s)).toNat).af (at_ a k).af (at_ b (fnd (at_ (dk s) (idx (nmP (at_ a k).ae) (dk s)).toNat) b (at_ a k)).toNat).af && prt s (a.drop (k+1)) b)=prt s a b:=by rw[<- hR];simp[hj,h3,hv]
     clear hR
     (refine vQ3 (And.intro ej (And.intro e3 ev)) ?_ ?_ ?_<;>with_reducible repeat first|intro(K:_->_->Prop) hK|intro h)
     ·exact hka _ baa
     ·exact hkb _ baa
     clear hka hkb hb ha;refine AW.c (λh=>?_) λh=>?_
     ·refine vU1 ?_;rw[<- hR2,h];rfl
     ·refine vU1 ?_;exact⟨_,[_],[],Um,⟨k+1,rfl,rfl,rfl,Um,by rw[<- hR2,h];rfl⟩,rfl,gO⟩
    ·have ev:((at_ b (fnd (at_ (dk s) (idx (nmP (at_ a k).ae) (dk s)).toNat) b (at_ a k)).toNat).aq == (at_ a k).aq)=false:=by simpa using hv
     clear hka hkb
     (refine vQ1 (And.intro ej (And.intro e3 ev)) ?_;with_reducible repeat first|intro(K:_->_->Prop) hK|intro h)
     refine AW.e λh=>?_;refine vU1 ?_;rw[<- hR];simp[h3,hv]
   ·have e3:((at_ (dk s) (idx (nmP (at_ a k).ae) (dk s)).toNat).aj == 3)=false:=by simpa using h3
    have hR2:(prt (at_ (dk s) (idx (nmP (at_ a k).ae) (dk s)).toNat).af (at_ a k).af (at_ b (fnd (at_ (dk s) (idx (nmP (at_ a k).ae) (dk s)).toNat) b (at_ a k)).toNat).af && prt s (a.drop (k+1)) b)=prt s a b:=by rw[<- hR];simp[hj,h3]
    clear hR
    (refine vQ3 (And.intro ej e3) ?_ ?_ ?_<;>with_reducible repeat first|intro(K:_->_->Prop) hK|intro h)
    ·exact hka _ baa
    ·exact hkb _ baa
    clear hka hkb hb ha;refine AW.c (λh=>?_) λh=>?_
    ·refine vU1 ?_;rw[<- hR2,h];rfl
    ·refine vU1 ?_;exact⟨_,[_],[],Um,⟨k+1,rfl,rfl,rfl,Um,by rw[<- hR2,h];rfl⟩,rfl,gO⟩
  ·refine vU1 ?_;rw[<- hR,cT h,I4]
end
theorem xE:∀(n:Nat) (l:List ah),Ctr lim prog 89 [] [.ab 3 ai l] (.ad 3 ai l) [] (SizeOf.sizeOf l<n)
 | 0,l=>⟨(aT 89),λh=>absurd h (Nat.not_lt_zero _)⟩
 | n+1,l=>by
  have ih:=xE n;refine Ctr.bd func89 ntmps89 λhp=>?_;refine AW.f1 0 λhf=>?_;refine vU1 ?_;refine AW.aw [3,9] [7,8] (λm xs o=>∃k:Nat,xs=[.ad 3 ai (l.take k),.aa k]/\o=[]/\m=l.length - k/\k<=l.length) l.length [] trivial ⟨0,?_,rfl,rfl,?_⟩ ?_
  ·rfl
  ·omega
  rintro m xs o ⟨k,rfl,rfl,rfl,hk⟩;have hlt:(l.take k).length=k:=by rw[length_take];omega
  have hkk:k<l.length->SizeOf.sizeOf (at_ l k).af<n:=λh=>by have:=ah.dA (at_mem h);omega
  (refine vU2 ?_ ?_<;>with_reducible repeat intro h)
  ·exact⟨_,[_,_],[],Um,⟨k+1,by rw[eV baa,map_append,map_cons,map_nil,bO],rfl,rfl,Um⟩,rfl,trivial⟩
  ·rw[show k=l.length by omega,take_length]
theorem wZ:∀(n:Nat) (l:List ah),Ctr lim prog 82 [] [.ab 3 ai l] (.ad 3 ai l) [] (SizeOf.sizeOf l<n)
 | 0,l=>⟨(aT 82),λh=>absurd h (Nat.not_lt_zero _)⟩
 | n+1,l=>by
  have ih:=wZ n;refine Ctr.bd func82 ntmps82 λhp=>?_;refine AW.f1 0 λhf=>?_;refine vU1 ?_;refine AW.aw [3,4] [0] (λm xs o=>∃k:Nat,xs=[.ad 3 ai (l.take k),.aa k]/\o=[]/\m=l.length - k/\k<=l.length) l.length [] trivial ⟨0,?_,rfl,rfl,?_⟩ ?_
  ·rfl
  ·omega
  rintro m xs o ⟨k,rfl,rfl,rfl,hk⟩;have hlt:(l.take k).length=k:=by rw[length_take];omega
  have hkk:k<l.length->SizeOf.sizeOf (at_ l k).af<n:=λh=>by have:=ah.dA (at_mem h);omega
  refine vK1 ?_;refine AW.c (λh=>?_) λh=>?_
  ·refine vN1 ?_;refine Z ?_;intro K hK;refine gS ?_;refine Y ?_;refine gS ?_;refine And.intro (hkk h) (And.intro daa (And.intro daa ?_));refine Y ?_;simp(maxSteps:=2000000) (disch:=omega)only[go_sem];refine And.intro ⟨Um,Um,Um⟩ ?_;refine hK _ _ ⟨Ct,?_⟩;clear hK K;intro K hK;refine gS ?_;refine hK _ _ ?_;clear hK K;refine vU1 ?_;exact⟨_,[_,_],[],Um,⟨k+1,by rw[eV baa,map_append,map_cons,map_nil,bO],rfl,rfl,Um⟩,rfl,trivial⟩
  ·refine vU1 ?_;rw[show k=l.length by omega,take_length]
instance(l:List ah):Ctr lim prog 89 [] [.ab 3 ai l] (.ad 3 ai l) [] True:=⟨(aT 89),λ_=>(xE (SizeOf.sizeOf l+1) l).out (Nat.lt_succ_self _)⟩
instance(l:List ah):Ctr lim prog 82 [] [.ab 3 ai l] (.ad 3 ai l) [] True:=⟨(aT 82),λ_=>(wZ (SizeOf.sizeOf l+1) l).out (Nat.lt_succ_self _)⟩
end Go.Proofs
namespace Go.Dt
open Go Go.Ab
section
variable {d : List ag} {x : ah} {cs ks : List Str}
end
theorem OM{α:Type}[Inhabited α]{f:α->AV}{l:List α}{k:Nat}(h:k<l.length):List.drop k (take (k+1) (l.map f))=[f (at_ l k)]:=by rw[<- map_take,eV h,map_append,drop_append_of_le_length (by rw[length_map,length_take];omega),drop_of_length_le (by rw[length_map,length_take];omega)];rfl
end Go.Dt
namespace Go.Proofs
open Go.Ab Go.Dt
section
def OH(cs:List Str):List.drop (Int.toNat 1) (take cs.length (cs.map AV.str))=(cs.drop 1).map AV.str:=by rw[take_of_length_le Xp,map_drop];rfl
attribute [local go_sem] bD aS bk eI eH fY iE iM OH OM
end
section
attribute [local go_sem] bD aS bk eI eH fY iE iM
theorem IQ:∀(n:Nat) (s:List ag) (a b:List ah),Ctr lim prog 143 [] [.ab 19 ak s,.ab 3 ai a,.ab 3 ai b] (.ac (prt s a b)) [] (SizeOf.sizeOf a<n/\wtS s<=1048576/\(∀x∈a,okX (dk s) x)/\(∀x∈b,okX (dk s) x))
 | 0,_,a,_=>⟨(aT 143),λh=>absurd h.1 (Nat.not_lt_zero _)⟩
 | n+1,s,a,b=>by
  have ih:=IQ n;refine Ctr.bd func143 ntmps143 λhp=>?_;have gOn:=bI.on;obtain⟨hs,h1,ha,hb⟩:=hp;have hc:=gV s;refine AW.f1 1 λhf=>?_;refine vU1 ?_;refine AW.aw [8] [1,2,7] (λm xs o=>∃k:Nat,xs=[.aa k]/\o=[]/\m=a.length - k/\k<=a.length/\prt s (a.drop k) b=prt s a b) a.length [] trivial ⟨0,rfl,rfl,rfl,Um,rfl⟩ ?_;rintro m xs o ⟨k,rfl,rfl,rfl,hk,hR⟩;refine vK1 ?_;refine AW.c (λh=>?_) λh=>?_
  ·have hlk:=h
   have hx:=ha _ (at_mem h)
   have hx0:=hx.1
   have hx1:=fV (p:=nmP (at_ a k).ae) (dk s)
   have hsz:=ah.dA (at_mem h)
   have hnp:=jR _ _ (ug hx).2
   have hka:=yp hx
   have afg:=uh hx.2
   have hkl:=VC (s:=s) hb hx
   have hfo:=λhq=>NG (s:=s) (a:=b) (y:=(at_ a k)) hq hx;rw[Md h,Kq]at hR;dsimp only[nd]at hfo hR hka;clear h;have ih:=ih (at_ (dk s) (idx (nmP (at_ a k).ae) (dk s)).toNat).af (at_ a k).af (at_ b (fnd (at_ (dk s) (idx (nmP (at_ a k).ae) (dk s)).toNat) b (at_ a k)).toNat).af;by_cases hj:(fnd (at_ (dk s) (idx (nmP (at_ a k).ae) (dk s)).toNat) b (at_ a k))<0
   ·have ej:decide ((fnd (at_ (dk s) (idx (nmP (at_ a k).ae) (dk s)).toNat) b (at_ a k))<0)=true:=by simpa using hj
    clear hka hfo
    (refine vQ1 ej ?_;with_reducible repeat first|intro(K:_->_->Prop) hK|intro h)
    refine AW.e λh=>?_;refine vU1 ?_;rw[<- hR];simp[hj]
   have ej:decide ((fnd (at_ (dk s) (idx (nmP (at_ a k).ae) (dk s)).toNat) b (at_ a k))<0)=false:=by simpa using hj
   obtain⟨hj1,hj2,hj3⟩:=hfo Um;have hy:=hb _ hj3
   have hkb:=yp hy;dsimp only[nd]at hkb;rw[hj2]at hkb;by_cases h3:(at_ (dk s) (idx (nmP (at_ a k).ae) (dk s)).toNat).aj=3
   ·have e3:((at_ (dk s) (idx (nmP (at_ a k).ae) (dk s)).toNat).aj == 3)=true:=by simpa using h3
    by_cases hv:(at_ b (fnd (at_ (dk s) (idx (nmP (at_ a k).ae) (dk s)).toNat) b (at_ a k)).toNat).aq=(at_ a k).aq
    ·have ev:((at_ b (fnd (at_ (dk s) (idx (nmP (at_ a k).ae) (dk s)).toNat) b (at_ a k)).toNat).aq == (at_ a k).aq)=true:=by simpa using hv
     have hR2:(prt (at_ (dk s) (idx (nmP (at_ a k).ae) (dk s)).toNat).af (at_ a k).af (at_ b (fnd (at_ (dk s) (idx (nmP (at_ a k).ae) (dk s)).toNat) b (at_ a k)).toNat).af && prt s (a.drop (k+1)) b)=prt s a b:=by rw[<- hR];simp[hj,h3,hv]
     clear hR
     (refine vQ3 (And.intro ej (And.intro e3 ev)) ?_ ?_ ?_<;>with_reducible repeat first|intro(K:_->_->Prop) hK|intro h)
     ·exact hka _ baa
     ·exact hkb _ baa
     clear hka hkb hb ha;refine AW.c (λh=>?_) λh=>?_
     ·refine vU1 ?_;rw[<- hR2,h];rfl
     ·refine vU1 ?_;exact⟨_,[_],[],Um,⟨k+1,rfl,rfl,rfl,Um,by rw[<- hR2,h];rfl⟩,rfl,gO⟩
    ·have ev:((at_ b (fnd (at_ (dk s) (idx (nmP (at_ a k).ae) (dk s)).toNat) b (at_ a k)).toNat).aq == (at_ a k).aq)=false:=by simpa using hv
     clear hka hkb
     (refine vQ1 (And.intro ej (And.intro e3 ev)) ?_;with_reducible repeat first|intro(K:_->_->Prop) hK|intro h)
     refine AW.e λh=>?_;refine vU1 ?_;rw[<- hR];simp[h3,hv]
   ·have e3:((at_ (dk s) (idx (nmP (at_ a k).ae) (dk s)).toNat).aj == 3)=false:=by simpa using h3
    have hR2:(prt (at_ (dk s) (idx (nmP (at_ a k).ae) (dk s)).toNat).af (at_ a k).af (at_ b (fnd (at_ (dk s) (idx (nmP (at_ a k).ae) (dk s)).toNat) b (at_ a k)).toNat).af && prt s (a.drop (k+1)) b)=prt s a b:=by rw[<- hR];simp[hj,h3]
    clear hR
    (refine vQ3 (And.intro ej e3) ?_ ?_ ?_<;>with_reducible repeat first|intro(K:_->_->Prop) hK|intro h)
    ·exact hka _ baa
    ·exact hkb _ baa
    clear hka hkb hb ha;refine AW.c (λh=>?_) λh=>?_
    ·refine vU1 ?_;rw[<- hR2,h];rfl
    ·refine vU1 ?_;exact⟨_,[_],[],Um,⟨k+1,rfl,rfl,rfl,Um,by rw[<- hR2,h];rfl⟩,rfl,gO⟩
  ·refine vU1 ?_;rw[<- hR,cT h,I4]
end
section
attribute [local go_sem] bD aS bk eI eH fY iE iM
instance(n:ag)(e:aI):Ctr lim prog 301 [] [.agg (cSc n),.ac true,.agg (cEd e)] (.aa (wrg n e)) [] (e.aq.length<=1048576):=by
 refine Ctr.bd func301 ntmps301 λhp=>?_;have gOn:=bI.on;refine AW.f1 2 λhf=>?_
 have hk:e.af=[]↔¬(0:Int)<e.af.length:=by
  cases e.af with
  | nil=>simp
  | cons x xs=>simp only[length_cons];constructor<;>intro h<;>first|cases h|(exfalso;omega)
 (refine vU5 ?_ ?_ ?_ ?_ ?_<;>with_reducible repeat intro h)
 all_goals (refine congrArg (λz=>AV.aa z) ?_;unfold wrg;grind)
theorem Np(e:aI):Ctr lim prog 301 [] [.agg cZe,.ac false,.agg (cEd e)] (.aa 2) [] True:=by
 refine Ctr.bd func301 ntmps301 λhp=>?_;have gOn:=bI.on
 all_goals exact uU
end
section
attribute [local go_sem] bD aS bk eI eH fY iE iM
theorem Nr:∀(n:Nat) (s:List ag) (nm:Str),Ctr lim prog 326 [] [.ab 19 ak s,.str nm] (.tup [.am (jq s nm),.ac (oth s nm).isSome]) [] (SizeOf.sizeOf s<n/\bR s<=1048576)
 | 0,_,_=>⟨(aT 326),λh=>absurd h.1 (Nat.not_lt_zero _)⟩
 | n+1,s,nm=>by
  have ih:=Nr n;refine Ctr.bd func326 ntmps326 λhp=>?_;have gOn:=bI.on;obtain⟨hn,hc⟩:=hp;refine AW.f1 0 λhf=>?_;refine vK1 ?_;refine AW.aw [16] [1,14,15] (λm xs o=>∃k:Nat,xs=[.aa k]/\o=[]/\m=s.length - k/\k<=s.length/\oth (s.drop k) nm=oth s nm) s.length [] trivial ⟨0,?_,rfl,rfl,?_,rfl⟩ ?_
  ·rfl
  ·omega
  rintro m xs o ⟨k,rfl,rfl,rfl,hk,hR⟩;refine vK1 ?_;refine AW.c (λh=>?_) λh=>?_
  ·have hlk:=h
   have hsk:=yz (at_mem h)
   have hck:=rq (at_mem h);rw[bA h,zK]at hR;clear h
   (refine vK1 ?_;intro h)
   refine AW.c (λh=>?_) λh=>?_
   ·have hR2:=hR;rw[if_pos (by grind)]at hR2;refine vX1 ?_;refine AW.imp (Imp.fL 4 1 gO ?_);refine vU1 ?_;rw[jq,<- hR2];try rfl
   have h1:¬(dK (at_ s k).aj=true/\(at_ s k).ae=nm):=by grind
   rw[if_neg h1]at hR;clear h;refine vK1 ?_;refine AW.c (λh=>?_) λh=>?_
   ·rw[if_neg h]at hR;refine vU1 ?_;exact⟨_,[_],_,Um,⟨k+1,rfl,rfl,rfl,Um,hR⟩,rfl,gO⟩
   rw[if_pos Um]at hR;clear h
   rename Nat=>b1
   refine vK1 ?_;refine AW.fact 33 λhf2=>?_;simp(disch:=omega)only[go_sem]at hf2;refine AW.aw [35] [1,7,14,15,16,33,34] (λm xs o=>∃i:Nat,xs=[.aa i]/\o=[(b1,some (cSc (at_ s k)))]/\m=(at_ s k).af.length - i/\i<=(at_ s k).af.length/\lF (at_ s k).af i ((at_ s k).af.drop i) nm=lF (at_ s k).af 0 (at_ s k).af nm) (at_ s k).af.length [(b1,some (cSc (at_ s k)))] gO ⟨0,rfl,rfl,rfl,Um,rfl⟩ ?_;rintro m xs o ⟨i,rfl,rfl,rfl,hi,hR3⟩;refine vK1 ?_;refine AW.c (λh=>?_) λh=>?_
   ·have hik:=h
    have hsi:=yz (at_mem h)
    have hci:=rq (at_mem h);rw[bA h,DM]at hR3;clear h
    (refine vK1 ?_;intro h h)
    refine AW.c (λh=>?_) λh=>?_
    ·have e0:oth (at_ (at_ s k).af i).af nm=none:=by grind
     rw[e0]at hR3;refine vU1 ?_;exact⟨_,[_],_,Um,⟨i+1,rfl,rfl,rfl,Um,hR3⟩,rfl,gO⟩
    obtain⟨o1,e0⟩:∃o1,oth (at_ (at_ s k).af i).af nm=some o1:=by
     cases e:oth (at_ (at_ s k).af i).af nm with
     | none=>rw[e]at h;cases h
     | some o1=>exact⟨o1,rfl⟩
    rw[e0]at hR3;have hR4:oth s nm=some (o1++l9 (at_ s k).af i (at_ s k).af.length):=by rw[<- hR,<- hR3]
    clear h;rename_i b2;have e1:jq (at_ (at_ s k).af i).af nm=o1:=by rw[jq,e0];rfl
    rw[e1];refine vK1 ?_;refine AW.fact 50 λhf3=>?_;simp(disch:=omega)only[go_sem]at hf3;refine AW.aw [10,52] [8,50,51] (λm xs o=>∃j:Nat,xs=[.am (o1++l9 (at_ s k).af i j),.aa j]/\o=[]/\m=(at_ s k).af.length - j/\j<=(at_ s k).af.length) (at_ s k).af.length [] trivial ⟨0,?_,rfl,rfl,?_⟩ ?_
    ·rw[show l9 (at_ s k).af i 0=[] by simp[l9],append_nil];rfl
    ·omega
    rintro m xs o ⟨j,rfl,rfl,rfl,hj⟩;refine vK1 ?_;refine AW.c (λh=>?_) λh=>?_
    ·have hjk:=h
     have hcj:=rq (at_mem h)
     have hst:=xe (at_ s k).af i j
     have hl:=yj (at_ s k).af i j Um
     have hl3:=Au (at_ s k).af j
     have hl2:=qW _ _ _ e0
     have hl4:(nmS (dk (at_ (at_ s k).af j).af)).length<=bR (at_ (at_ s k).af j).af:=by rw[nmS,length_map];exact xK _
     clear h
     (refine vU2 ?_ ?_<;>with_reducible repeat intro h)
     ·exact⟨_,[_,_],_,Um,⟨j+1,by rw[hst,if_neg Um];simp only[map_append,append_assoc],rfl,rfl,Um⟩,rfl,gO⟩
     ·exact⟨_,[_,_],_,Um,⟨j+1,by rw[hst,if_pos Um,append_nil],rfl,rfl,Um⟩,rfl,gO⟩
    ·have ej:j=(at_ s k).af.length:=by omega
     subst ej;refine vU1 ?_;rw[jq,hR4];try rfl
   ·rw[cT h,lF]at hR3;rw[<- hR3]at hR;refine vU1 ?_;exact⟨_,[_],_,Um,⟨k+1,rfl,rfl,rfl,Um,hR⟩,rfl,gO⟩
  ·rw[cT h,oth]at hR;refine vX1 ?_;refine AW.imp (Imp.fL 4 1 gO ?_);refine vU1 ?_;rw[jq,<- hR];try rfl
instance(s:List ag)(nm:Str):Ctr lim prog 326 [] [.ab 19 ak s,.str nm] (.tup [.am (jq s nm),.ac (oth s nm).isSome]) [] (bR s<=1048576):=⟨(aT 326),λh=>(Nr (SizeOf.sizeOf s+1) s nm).out ⟨Nat.lt_succ_self _,h⟩⟩
