/- Part of a proof. -/
import Derived.Test.YtpelkkfkecfmbaaGreatDoorH24
set_option linter.all false
set_option maxRecDepth 20000
set_option maxHeartbeats 4000000
open Go.Proofs.Tryz
namespace Go.Proofs
open Go.Ab Go.Dt
section
def plS(s:Dt.GStep):AV:=.agg [.str s.ag,.v (.slice none 0 0)]
def Sd(l:List Dt.GStep):(l.map plS).all (AV.elem 2)=true:=bL (fun _=>rfl) l
attribute [go_sem] plS Sd
instance VS(x:bP):Ctr lim prog 272 [] [.agg [.ac x.bR,.aa x.bG,.sl false 2 (x.av.map (aA false))]] (.agg [.ac x.bR,.aa x.bG,.sl true 2 (x.av.map plS)]) [] True:=by
 refine Ctr.bd func272 ntmps272 fun hp=>?_;refine AW.f1 0 fun hf=>?_
 (refine vU1 ?_;intro h h h)
 rename_i b2 b3;refine AW.imp (Imp.nG (b:=b3) 2 [_,_] [] (fq _ _ _) ?_);refine gS ?_;refine AW.aw [14] [1,2,3,12,13] (fun m xs o=>∃ k:Nat,xs=[.aa k]/\o=[(b3,some [.ac x.bR,.aa x.bG,.sl true 2 ((x.av.take k).map plS)]),(b2,some [.ac false,.aa 0,.v (.slice none 0 0)])]/\m=x.av.length - k/\k<=x.av.length) x.av.length _ (iA (Ne.symm yG) rfl rfl) ⟨0,?_,rfl,rfl,?_⟩ ?_
 ·rfl
 ·omega
 rintro m xs o ⟨k,rfl,rfl,rfl,hk⟩;have hlt:(x.av.take k).length=k:=by rw [List.length_take];omega
 (refine vU2 ?_ ?_<;>with_reducible repeat intro h)
 ·exact ⟨_,[_],_,Ir,⟨k+1,rfl,rfl,rfl,Ir⟩,rfl,by rw [gB yG,List.map_append];simp (maxSteps:=2000000) (disch:=omega) only [go_sem]⟩
 ·rw [show k=x.av.length by omega,List.take_length]
def n9(l:List Dt.GStep)(k:Nat):List AV:=((l.take k).map (aA true)).flatMap AV.cells++((l.drop k).map plS).flatMap AV.cells
def RG{l:List Dt.GStep}{k:Nat}(h:k<l.length):n9 l k=((l.take k).map (aA true)).flatMap AV.cells++(.str (at_ l k).ag::.v (.slice none 0 0)::((l.drop (k+1)).map plS).flatMap AV.cells):=by unfold n9;rw [bq h];rfl
def L9{l:List Dt.GStep}{k:Nat}(h:k<l.length):n9 l (k+1)=((l.take k).map (aA true)).flatMap AV.cells++(.str (at_ l k).ag::.sl true 2 ((at_ l k).aT.map (ct false))::((l.drop (k+1)).map plS).flatMap AV.cells):=by unfold n9;rw [gB h,List.map_append,List.flatMap_append,List.append_assoc];rfl
def Fe(l:List Dt.GStep)(k:Nat):(n9 l k).length=l.length * 2:=by unfold n9;rw [List.length_append,db (sz:=2) (by intro z hz;obtain ⟨y,_,rfl⟩:=List.mem_map.1 hz;rfl),db (sz:=2) (by intro z hz;obtain ⟨y,_,rfl⟩:=List.mem_map.1 hz;rfl)];simp only [List.length_map,List.length_take,List.length_drop];omega
def L8(l:List Dt.GStep):n9 l 0=(l.map plS).flatMap AV.cells:=by simp [n9]
def OO{l:List Dt.GStep}{k:Nat}(h:k=l.length):(l.map (aA true)).flatMap AV.cells=(n9 l k).take (l.length * 2):=by rw [List.take_of_length_le (by rw [Fe];exact Nat.le_refl _)];subst h;simp [n9]
instance Xt(x:bP):Ctr lim prog 236 [] [.agg [.ac x.bR,.aa x.bG,.sl false 2 (x.av.map (aA false))]] (.agg [.ac x.bR,.aa x.bG,.sl true 2 (x.av.map (aA true))]) [] True:=by
 refine Ctr.bd func236 ntmps236 fun hp=>?_;refine AW.f1 0 fun hf=>?_
 (refine vU1 ?_;intro h h h)
 rename_i b2 b3;refine AW.imp (Imp.nX (b0:=b3) (k:=2) (sz:=2) (l:=x.av.map plS) (fq _ _ _) rfl (fI (fun _=>rfl) _) (fun b hb=>?_) (fun hnil=>?_))
 ·have hb1:=hb.nf;simp only [go_sem] at hb1;simp only [List.set_cons_zero,List.set_cons_succ,List.length_map];refine AW.aw [11] [1,2,3,9,10] (fun m xs o=>∃ k:Nat,xs=[.aa k]/\o=[(b,some (n9 x.av k)),(b3,some [.ac x.bR,.aa x.bG,.arr b 0 x.av.length 2]),(b2,some [.ac false,.aa 0,.v (.slice none 0 0)])]/\m=x.av.length - k/\k<=x.av.length) x.av.length [(b,some (n9 x.av 0)),(b3,some [.ac x.bR,.aa x.bG,.arr b 0 x.av.length 2]),(b2,some [.ac false,.aa 0,.v (.slice none 0 0)])] (by rw [L8];exact gO) ⟨0,rfl,rfl,rfl,Ir⟩ ?_;rintro m xs o ⟨k,rfl,rfl,rfl,hk⟩;have hlc:=Fe x.av k;refine vK1 ?_;refine AW.c (fun h=>?_) fun h=>?_
  ·refine AW.Q9 9 rfl (x:=aA false (at_ x.av k)) (List.mem_map_of_mem (at_mem h)) fun hfe=>?_;simp (disch:=omega) only [go_sem] at hfe;have hnx:=L9 h;rw [RG h] at hlc ⊢
   have hpre:(((x.av.take k).map (aA true)).flatMap AV.cells).length=k * 2:=by
    rw [db (sz:=2) (fI (fun _=>rfl) _),List.length_map,List.length_take];omega
   generalize ((x.av.take k).map (aA true)).flatMap AV.cells=pre at hpre hnx hlc ⊢;generalize ((x.av.drop (k+1)).map plS).flatMap AV.cells=post at hnx hlc ⊢
   (refine vU1 ?_;intro h h)
   exact ⟨_,[_],_,Ir,⟨k+1,rfl,rfl,rfl,Ir⟩,rfl,by rw [hnx];simp (maxSteps:=2000000) (disch:=omega) only [go_sem]⟩
  ·refine AW.imp (Imp.Lb (b0:=b3) (k:=2) (b:=b) (len:=x.av.length) (sz:=2) (cells0:=[.ac x.bR,.aa x.bG,.arr b 0 x.av.length 2]) (cells:=n9 x.av k) (l:=x.av.map (aA true)) gO rfl gO Ir QC (OO Ir) (fI (fun _=>rfl) _) ?_);simp only [List.set_cons_zero,List.set_cons_succ]
   all_goals exact uU
 ·have hx:x.av=[]:=by simpa using hnil
  simp only [List.set_cons_zero,List.set_cons_succ,hx,List.map_nil,List.length_nil];refine AW.aw [11] [1,2,3,9,10] (fun m xs o=>xs=[.aa (0:Nat)]/\o=[(b3,some [.ac x.bR,.aa x.bG,.v (.slice none 0 0)]),(b2,some [.ac false,.aa 0,.v (.slice none 0 0)])]) 0 [(b3,some [.ac x.bR,.aa x.bG,.v (.slice none 0 0)]),(b2,some [.ac false,.aa 0,.v (.slice none 0 0)])] gO ⟨rfl,rfl⟩ ?_;rintro m xs o ⟨rfl,rfl⟩;refine vK1 ?_;refine AW.imp (Imp.nG (b:=b3) 2 [_,_] [] (fq _ _ _) ?_);refine gS ?_
  all_goals exact uU
end
section
instance Y6(x:bP):Ctr lim prog 210 [] [.agg [.ac x.bR,.aa x.bG,.sl false 2 (x.av.map (aA false))]] (.agg [.ac x.bR,.aa x.bG,.sl true 2 (x.av.map (aA true))]) [] True:=by
 refine Ctr.bd func210 ntmps210 fun hp=>?_;refine AW.f1 0 fun hf=>?_
 (refine vU1 ?_;intro h h h)
 rename_i b2 b3;refine AW.imp (Imp.nG (b:=b3) 2 [_,_] [] (fq _ _ _) ?_);refine gS ?_;refine AW.rF [4] [1,2,3] (fun m xs o=>∃ k:Nat,xs=[.aa k]/\o=[(b3,some [.ac x.bR,.aa x.bG,.sl true 2 ((x.av.take k).map (aA true))]),(b2,some [.ac false,.aa 0,.v (.slice none 0 0)])]/\m=x.av.length - k/\k<=x.av.length) x.av.length [(b3,some [.ac x.bR,.aa x.bG,.sl true 2 ((x.av.take 0).map (aA true))]),(b2,some [.ac false,.aa 0,.v (.slice none 0 0)])] gO ⟨0,rfl,rfl,rfl,Ir⟩ ?_;rintro m xs o ⟨k,rfl,rfl,rfl,hk⟩;have hlt:(x.av.take k).length=k:=by rw [List.length_take];omega
 refine vK1 ?_;refine AW.c (fun h=>?_) fun h=>?_
 ·refine AW.Q9 12 rfl (x:=aA false (at_ x.av k)) (List.mem_map_of_mem (at_mem h)) fun hfe=>?_;simp (disch:=omega) only [go_sem] at hfe;refine AW.imp (Imp.nX (b0:=b3) (k:=2) (sz:=2) (l:=(x.av.take k).map (aA true)) (fq _ _ _) rfl (fI (fun _=>rfl) _) (fun b hb=>?_) (fun hnil=>?_))
  ·have hb1:=hb.nf;simp only [go_sem] at hb1;simp only [List.set_cons_zero,List.set_cons_succ,List.length_map]
   (refine vU2 ?_ ?_<;>with_reducible repeat intro h)
   ·rw [db (sz:=2) (fI (fun _=>rfl) _),List.length_map]
   rename_i g;refine Imp.ED (b0:=b3) (k:=2) (b:=g) (sz:=2) (cells0:=[.ac x.bR,.aa x.bG,.arr g 0 ((x.av.take k).length+1) 2]) (l:=(x.av.take k).map (aA true)) (aA true (at_ x.av k)) gO (by rw [List.length_map];rfl) caa Ir (fI (fun _=>rfl) _) rfl ?_;simp only [List.set_cons_zero,List.set_cons_succ];exact ⟨trivial,_,[_],_,Ir,⟨k+1,rfl,rfl,rfl,Ir⟩,rfl,by rw [gB yG,List.map_append];simp (maxSteps:=2000000) (disch:=omega) only [go_sem]⟩
  ·simp only [List.set_cons_zero,List.set_cons_succ,hnil];refine vU1 ?_;have hk0:k=0:=by rw [List.map_eq_nil_iff] at hnil;rw [hnil] at hlt;exact hlt.symm
   subst hk0;refine Imp.id ?_;refine gS ?_;exact ⟨_,[_],_,Ir,⟨1,rfl,rfl,rfl,Ir⟩,rfl,by rw [gB yG];refine gS ?_;rfl⟩
 ·rw [show k=x.av.length by omega,List.take_length]
  all_goals exact uU
end
end Go.Proofs
namespace Go.Dt
open Go Go.Ab
section
def FF:∀ (n:Nat) (e:aB),vE e=true->dG e<=n->(fH e).length<=2 ^ n
 | 0,e,_,h=>by cases e;simp [dG] at h
 | n+1,e,hv,hd=>by
  obtain ⟨op,num,tx,p,ks⟩:=e;rw [vE,Bool.and_eq_true] at hv;obtain ⟨h1,h2⟩:=hv;rw [dG] at hd
  have hk:ks.length=ek op:=by
   simp only [exN,Bool.and_eq_true,decide_eq_true_eq] at h1;exact h1.1.1.1.1.2
  have ih:∀ x∈ks,(fH x).length<=2 ^ n:=fun x hx=>by
   have hx1:vE x=true:=by rw [xy,List.all_eq_true] at h2;exact h2 x hx
   exact FF n x hx1 (by have:=lP hx;omega)
  rw [fH,uD,List.length_append];have hp:1<=2 ^ n:=Nat.one_le_two_pow;rw [Nat.pow_succ]
  match ks,hk,ih with
  | [],_,_=>split<;>simp<;>omega
  | [a],hk,ih =>
   have:=ih a QC
   have:¬ (op=3\/op=4):=by
    intro e;rw [ek] at hk;simp only [List.length_cons,List.length_nil] at hk;rw [if_neg Ir,if_pos Ir] at hk;omega
   rw [if_neg this];simp;omega
  | [a,b],hk,ih =>
   have:=ih a QC;have:=ih b QC
   have:¬ (op=3\/op=4):=by
    intro e;rw [ek] at hk;simp only [List.length_cons,List.length_nil] at hk;rw [if_neg Ir,if_pos Ir] at hk;omega
   rw [if_neg this];simp;omega
  | a::b::c::r,hk,_ =>
   exfalso;simp only [List.length_cons,ek] at hk
   repeat' split at hk
   all_goals omega
def jW(e:aB)(k:Nat):List bP:=(if e.fOp=3\/e.fOp=4 then [e.az] else [])++(e.af.take k).flatMap fH
def kg{e:aB}{k:Nat}(h:k<e.af.length):jW e (k+1)=jW e k++fH (at_ e.af k):=by rw [jW,jW,tk1 h,List.flatMap_append,List.append_assoc];simp
def uB{e:aB}{k:Nat}(h:¬ k<e.af.length):jW e k=fH e:=by rw [I6,jW,List.take_of_length_le Ir]
def na(e:aB)(k:Nat):(jW e k).length<=(fH e).length:=by
 rw [I6,jW,List.length_append,List.length_append];have h:(e.af.flatMap fH).length=((e.af.take k).flatMap fH).length+((e.af.drop k).flatMap fH).length:=by rw [<- List.length_append,<- List.flatMap_append,List.take_append_drop]
 omega
def zA{e:aB}(h:vE e=true):e.af.length=ek e.fOp/\e.af.length<=2:=by
 obtain ⟨op,num,tx,p,ks⟩:=e;rw [vE,Bool.and_eq_true] at h;have h1:=h.1;simp only [exN,Bool.and_eq_true,decide_eq_true_eq] at h1;have h2:ks.length=ek op:=h1.1.1.1.1.2;refine ⟨h2,?_⟩;simp only [aB.af];rw [h2,ek]
 repeat' split
 all_goals omega
def qh{e:aB}{n k:Nat}(h:vE e=true)(hd:dG e<=n+1)(hk:k<e.af.length):vE (at_ e.af k)=true/\dG (at_ e.af k)<=n:=by obtain ⟨op,num,tx,p,ks⟩:=e;have hm:=at_mem hk;rw [vE,Bool.and_eq_true] at h;rw [dG] at hd;have h2:=h.2;rw [xy,List.all_eq_true] at h2;have:=lP hm;exact ⟨h2 _ hm,by simp only [aB.af] at this ⊢;omega⟩
def uC{n:Nat}{e:aB}(h:vE e=true)(hd:dG e<=n)(hn:n<=8):(fH e).length<=256 :=
 Nat.le_trans (FF n e h hd) (Nat.pow_le_pow_right baa hn)
end
section
def R5(l:List bP):(l.map (cH true)).all (AV.elem 3)=true:=bL (fun _=>rfl) l
def R3(l:List bP):((l.map (cH true)).flatMap AV.cells).all AV.one=true:=cf (fun _=>rfl) l
end
end Go.Dt
namespace Go.Proofs
open Go.Ab Go.Dt
attribute [local go_sem] R5 R3 xd
theorem Bq:∀ (n:Nat) (e:aB),n<=8->Ctr lim prog 191 [] [.agg (cEx e)] (.sl true 3 ((fH e).map (cH true))) [] (vE e=true/\dG e<=n)
 | 0,e,_=>⟨(aU 191),fun h=>absurd h.2 (by cases e;simp [dG])⟩
 | n+1,e,hn=>by
  have ih:=fun e=>Bq n e Ir;refine Ctr.bd func191 ntmps191 fun hp=>?_;have gOn:=aD.on
  have h0:=uC hp.1 hp.2 hn
  have h02:=(zA hp.1).2
  (refine vU2 ?_ ?_<;>intro h)
  ·refine AW.aw [3,24] [22,23] (fun m xs o=>∃ k:Nat,xs=[.sl true 3 ((jW e k).map (cH true)),.aa k]/\o=[]/\m=e.af.length - k/\k<=e.af.length) e.af.length [] trivial ⟨0,?_,rfl,rfl,Nat.zero_le _⟩ ?_
   ·rw [show (jW e 0).map (cH true)=[cH true e.az] by simp [jW,h]];rfl
   clear h;rintro m xs o ⟨k,rfl,rfl,rfl,hk⟩;have h1:=na e k
   have h2:=na e (k+1)
   have h3:k<e.af.length->_:=fun h=>congrArg List.length (kg h)
   have h4:k<e.af.length->_:=fun h=>qh hp.1 hp.2 h;simp only [List.length_append] at h3
   (refine vU2 ?_ ?_<;>with_reducible repeat intro h)
   ·exact ⟨_,[_,_],[],Ir,⟨k+1,rfl,rfl,rfl,Ir⟩,by rw [kg yG,List.map_append];try rfl,trivial⟩
   ·rw [uB h]
  ·refine AW.aw [3,24] [22,23] (fun m xs o=>∃ k:Nat,xs=[.sl true 3 ((jW e k).map (cH true)),.aa k]/\o=[]/\m=e.af.length - k/\k<=e.af.length) e.af.length [] trivial ⟨0,?_,rfl,rfl,Nat.zero_le _⟩ ?_
   ·rw [show (jW e 0).map (cH true)=[] by simp [jW,h]];rfl
   clear h;rintro m xs o ⟨k,rfl,rfl,rfl,hk⟩;have h1:=na e k
   have h2:=na e (k+1)
   have h3:k<e.af.length->_:=fun h=>congrArg List.length (kg h)
   have h4:k<e.af.length->_:=fun h=>qh hp.1 hp.2 h;simp only [List.length_append] at h3
   (refine vU2 ?_ ?_<;>with_reducible repeat intro h)
   ·exact ⟨_,[_,_],[],Ir,⟨k+1,rfl,rfl,rfl,Ir⟩,by rw [kg yG,List.map_append];try rfl,trivial⟩
   ·rw [uB h]
theorem Aw:∀ (n:Nat) (e:aB),n<=8->Ctr lim prog 177 [] [.agg (cEx e)] (.sl true 3 ((fH e).map (cH true))) [] (vE e=true/\dG e<=n)
 | 0,e,_=>⟨(aU 177),fun h=>absurd h.2 (by cases e;simp [dG])⟩
 | n+1,e,hn=>by
  have ih:=fun e=>Aw n e Ir;refine Ctr.bd func177 ntmps177 fun hp=>?_;have gOn:=aD.on
  have h0:=uC hp.1 hp.2 hn
  have h02:=(zA hp.1).2
  (refine vU2 ?_ ?_<;>intro h)
  ·refine AW.aw [3,4] [1] (fun m xs o=>∃ k:Nat,xs=[.sl true 3 ((jW e k).map (cH true)),.aa k]/\o=[]/\m=e.af.length - k/\k<=e.af.length) e.af.length [] trivial ⟨0,?_,rfl,rfl,Nat.zero_le _⟩ ?_
   ·rw [show (jW e 0).map (cH true)=[cH true e.az] by simp [jW,h]];rfl
   clear h;rintro m xs o ⟨k,rfl,rfl,rfl,hk⟩;have h1:=na e k
   have h2:=na e (k+1)
   have h3:k<e.af.length->_:=fun h=>congrArg List.length (kg h)
   have h4:k<e.af.length->_:=fun h=>qh hp.1 hp.2 h;simp only [List.length_append] at h3
   (refine vU2 ?_ ?_<;>intro h)
   ·exact ⟨_,[_,_],[],Ir,⟨k+1,rfl,rfl,rfl,Ir⟩,by rw [kg yG,List.map_append];try rfl,trivial⟩
   ·rw [uB h]
  ·refine AW.aw [3,4] [1] (fun m xs o=>∃ k:Nat,xs=[.sl true 3 ((jW e k).map (cH true)),.aa k]/\o=[]/\m=e.af.length - k/\k<=e.af.length) e.af.length [] trivial ⟨0,?_,rfl,rfl,Nat.zero_le _⟩ ?_
   ·rw [show (jW e 0).map (cH true)=[] by simp [jW,h]];rfl
   clear h;rintro m xs o ⟨k,rfl,rfl,rfl,hk⟩;have h1:=na e k
   have h2:=na e (k+1)
   have h3:k<e.af.length->_:=fun h=>congrArg List.length (kg h)
   have h4:k<e.af.length->_:=fun h=>qh hp.1 hp.2 h;simp only [List.length_append] at h3
   (refine vU2 ?_ ?_<;>intro h)
   ·exact ⟨_,[_,_],[],Ir,⟨k+1,rfl,rfl,rfl,Ir⟩,by rw [kg yG,List.map_append];try rfl,trivial⟩
   ·rw [uB h]
def lM{e:aB}(h:fj e=true):vE e=true/\dG e<=8:=by simp only [fj,Bool.and_eq_true,decide_eq_true_eq] at h;exact ⟨h.2,h.1⟩
instance Zt(e:aB):iM lim prog 191 [.agg (cEx e)] (.sl false 3 ((fH e).map (cH false))) (fj e=true) :=
 ⟨(aU 191),fun c=>by
  have:=((Bq 8 e (Nat.le_refl _)).pure (lM c)).frz
  simpa only [AV.frz,AV.bg,xc,cond_true] using this⟩
instance Y4(e:aB):iM lim prog 177 [.agg (cEx e)] (.sl false 3 ((fH e).map (cH false))) (fj e=true) :=
 ⟨(aU 177),fun c=>by
  have:=((Aw 8 e (Nat.le_refl _)).pure (lM c)).frz
  simpa only [AV.frz,AV.bg,xc,cond_true] using this⟩
end Go.Proofs
