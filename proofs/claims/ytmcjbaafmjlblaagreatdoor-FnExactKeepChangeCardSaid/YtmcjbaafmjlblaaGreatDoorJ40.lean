/- A part. -/
import Derived.Test.YtmcjbaafmjlblaaGreatDoorJ39
set_option linter.all false
set_option maxRecDepth 20000
set_option maxHeartbeats 4000000
namespace Go.Proofs
open Go.Ab Go.Dt
section
attribute [-instance] F4 Ji cPf
attribute [-instance] cz
attribute [local go_sem] ba aI aS cU cT dy fZ gH
theorem ME(s:List ag)(nm:Str):Ctr lim Tryz.prog 118 [] [.sl false 19 (s.map (ak false)),.sl false 1 [.str nm]] (.tup [.agg cZe,.v (.bool false)]) [] (idx (nmP nm) (dk s)<0/\bE s<=1048576):=by
 refine Ctr.bd Tryz.func118 Tryz.ntmps118 rfl rfl fun hp=>?_
 have gOn:=bA.on
 obtain ⟨hi,hc⟩:=hp
 have hj:=gJ (p:=nmP nm) (dk s)
 refine AW.fact 0 fun hf=>?_
 simp (disch:=omega) only [go_sem] at hf
 (refine bU ?_;with_reducible repeat' first|exact Le.l|apply Sw|intro h)
 rename_i a b
 refine AW.aA [0,14] [1,4,5,6,12,13] (fun m xs o=>xs=[.sl false 19 (s.map (ak false)),.v (.int .i64 0)]/\o=[(b,some cZe),(a,some cZe)]/\m=1) 1 [(b,some cZe),(a,some cZe)] gO ⟨rfl,rfl,rfl⟩ ?_
 rintro m xs o ⟨rfl,rfl,rfl⟩
 (refine vU ?_;with_reducible repeat' first|exact Le.l|apply Sw|intro h)
 refine ⟨.str nm,fun _=>⟨by decide,rfl,rfl⟩,?_⟩
 (refine vU ?_;with_reducible repeat' first|exact Le.l|apply Sw|intro h)
 refine h _ _ ?_
 all_goals exact uU
def KyP(n:ag)(e:au):Prop:=(n.ai=2->∀ q∈n.aw,0<=idx (ed q) n.af)/\n.aw.length<=3/\e.av.length<=1048576/\e.af.length<=1048576/\∀ x∈e.af,x.av.length<=1048576
instance Wv(n:ag)(e:au):Ctr lim Tryz.prog 197 [] [.agg (cSc n),.agg (cEd e)] (.tup [.agg [.str (lX n e).ae,.str (lX n e).av,.sl true 3 ((lX n e).af.map (aj false))],.v (.int .i64 (Eo n e))]) [] (KyP n e):=Rv n e
attribute [local go_sem] mL
theorem Rt(N:Nat)(ih:∀ (s:List ag) (l:List ah) (es:List au),Ctr lim Tryz.prog 130 [] [.sl false 19 (s.map (ak false)),.sl false 3 ((l).map (aj false)),.sl false 4 ((es).map (aH false))] (.tup [.sl false 3 (((mdE es s l).1).map (aj false)),.v (.int .i64 (mdE es s l).2)]) [] (SizeOf.sizeOf es<N/\gdS s/\wtS s<=1048576/\cnt l+cY es<=4194304/\wtE es<=1048576))(s:List ag)(l:List ah)(e:au):Ctr lim Tryz.prog 168 [] [.sl false 19 (s.map (ak false)),.sl false 3 ((l).map (aj false)),.agg (cEd e)] (.tup [.sl false 3 (((one (mdE e.af) s l e).1).map (aj false)),.v (.int .i64 (one (mdE e.af) s l e).2)]) [] (SizeOf.sizeOf e.af<N/\gdS s/\wtS s<=1048576/\cnt l+(1+cY e.af)<=4194304/\(e.ae.length<=1048576/\e.av.length<=1048576/\wtE e.af<=1048576)):=by
 haveI mg:=MD N ih
 haveI cr:=KL N ih
 refine Ctr.bd Tryz.func168 Tryz.ntmps168 rfl rfl fun hp=>?_
 have gOn:=bA.on
 obtain ⟨hN,hg,hs,hc,hw0⟩:=hp
 have hcs:=gM s
 have hll:=Ee l
 have hel:=Ef e.af
 have oY:=tG e.af
 have hex:∀ x∈e.af,x.av.length<=1048576:=fun x hx=>by have:=vY hx;omega
 haveI fz:∀ (sz:Nat) (x:AV) (l:List AV) (C:List Nat) (K:AV->List Nat->Prop),Rl (bsK sz (x::l) C (K:=⟨K⟩)) (K (.sl false sz (AV.bZ (x::l))) C):=fun _ _ _ _ _=>⟨.inr⟩
 by_cases h0:idx (nmP e.ae) (dk s)<0
 ·haveI:=ME s e.ae
  haveI:=KE e
  refine vO ?_;intros;refine AW.c (fun h=>?_) fun h=>?_
  ·(refine vX ?_;with_reducible repeat' first|exact Le.l|apply Sw|intro h)
   refine AW.imp (Imp.fU 6 (x:=.v (.slice none 0 0)) (x':=.sl false 3 []) gO (fun _ _ _ _ r=>Rep.dY _ _ r) ?_)
   (refine vU ?_;with_reducible repeat' first|exact Le.l|apply Sw|intro h)
   rw [JS h0];try rfl
  ·exfalso;omega
 have hnm:((at_ (dk s) (idx (nmP e.ae) (dk s)).toNat)).ae=e.ae/\(at_ (dk s) (idx (nmP e.ae) (dk s)).toNat)∈dk s:=fI (by omega)
 have hgk:=(kz hg hnm.2).1
 have hwk:=nr _ _ hnm.2
 have hk3:=mN hg hnm.2
 have hkq:((at_ (dk s) (idx (nmP e.ae) (dk s)).toNat)).ai=2->∀ q∈((at_ (dk s) (idx (nmP e.ae) (dk s)).toNat)).aw,0<=idx (ed q) ((at_ (dk s) (idx (nmP e.ae) (dk s)).toNat)).af:=fun _ q hq=>(AX hg hnm.2 q hq).2.2
 have hni:0<=idx (nmP ((at_ (dk s) (idx (nmP e.ae) (dk s)).toNat)).ae) (dk s):=by rw [hnm.1];omega
 have hnn:((at_ (dk s) (idx (nmP e.ae) (dk s)).toNat)).ae=(nd s ((at_ (dk s) (idx (nmP e.ae) (dk s)).toNat)).ae).ae:=by
  have:=(fI hni).1;exact this.symm
 have hkp:KyP (at_ (dk s) (idx (nmP e.ae) (dk s)).toNat) e:=⟨hkq,hk3,by omega,by omega,hex⟩
 refine vO ?_;intros;refine AW.c (fun h=>?_) fun h=>?_
 ·(refine vX ?_;with_reducible repeat' first|exact Le.l|apply Sw|intro h)
  refine AW.imp (Imp.fU 6 (x:=.v (.slice none 0 0)) (x':=.sl false 3 []) gO (fun _ _ _ _ r=>Rep.dY _ _ r) ?_)
  (refine vU ?_;with_reducible repeat' first|exact Le.l|apply Sw|intro h)
  rw [JQ h0 h];try rfl
 have hw:wrg (nd s e.ae) e=0:=h
 have hop:=Nt hw
 clear h
 clear fz
 refine vO ?_;intros;refine AW.c (fun h=>?_) fun h=>?_
 ·have hk:(nd s e.ae).ai=2/\dE (nd s e.ae) e.af=false:=Classical.byContradiction fun c=>h (mM c).1
  rw [(nI hk).1]
  (refine vX ?_;with_reducible repeat' first|exact Le.l|apply Sw|intro h)
  refine AW.imp (Imp.fU 6 (x:=.v (.slice none 0 0)) (x':=.sl false 3 []) gO (fun _ _ _ _ r=>Rep.dY _ _ r) ?_)
  (refine vU ?_;with_reducible repeat' first|exact Le.l|apply Sw|intro h)
  rw [JV h0 hw hk];try rfl
 have hk:¬ ((nd s e.ae).ai=2/\dE (nd s e.ae) e.af=false):=fun c=>by
  have:=(nI c).1
  have h':Eo (nd s e.ae) e=0:=h
  omega
 clear h
 have hkr:lX (at_ (dk s) (idx (nmP e.ae) (dk s)).toNat) e=bQ (at_ (dk s) (idx (nmP e.ae) (dk s)).toNat) e:=(mM hk).2
 rw [hkr]
 (refine vK ?_;with_reducible repeat' first|exact Le.l|apply Sw|intro h)
 by_cases hfn:fnd (at_ (dk s) (idx (nmP e.ae) (dk s)).toNat) l (bQ (at_ (dk s) (idx (nmP e.ae) (dk s)).toNat) e)<0
 ·refine AW.c (fun h=>?_) fun h=>?_
  ·exfalso;omega
  clear h
  refine vO ?_;intros;refine AW.c (fun h=>?_) fun h=>?_
  ·have ho:e.fOp=4:=by omega
   (refine vX ?_;with_reducible repeat' first|exact Le.l|apply Sw|intro h)
   refine AW.imp (Imp.fU 6 (x:=.v (.slice none 0 0)) (x':=.sl false 3 []) gO (fun _ _ _ _ r=>Rep.dY _ _ r) ?_)
   (refine vU ?_;with_reducible repeat' first|exact Le.l|apply Sw|intro h)
   rw [JU h0 hw hk hfn ho];try rfl
  have ho4:¬ e.fOp=4:=by omega
  clear h
  refine vO ?_;intros;refine AW.c (fun h=>?_) fun h=>?_
  ·have ho:e.fOp=5:=by omega
   (refine vU ?_;with_reducible repeat' first|exact Le.l|apply Sw|intro h)
   rw [JT h0 hw hk hfn ho];try rfl
  have ho5:¬ e.fOp=5:=by omega
  clear h
  refine vO ?_;intros;refine AW.c (fun h=>?_) fun h=>?_
  ·exfalso;omega
  clear h
  refine vO ?_;intros;refine AW.c (fun h=>?_) fun h=>?_
  ·exfalso;omega
  clear h
  refine vO ?_;intros;refine AW.c (fun h=>?_) fun h=>?_
  ·exfalso;omega
  clear h
  (refine vU ?_;with_reducible repeat' first|exact Le.l|apply Sw|intro h)
  rw [NA h0 hw hk hfn ho4 ho5];try rfl
 obtain ⟨k,hf⟩:∃ k:Nat,fnd (at_ (dk s) (idx (nmP e.ae) (dk s)).toNat) l (bQ (at_ (dk s) (idx (nmP e.ae) (dk s)).toNat) e)=k:=⟨(fnd (at_ (dk s) (idx (nmP e.ae) (dk s)).toNat) l (bQ (at_ (dk s) (idx (nmP e.ae) (dk s)).toNat) e)).toNat,by omega⟩
 have hkl:k<l.length:=by
  have:=gJ (p:=fiP (nd s e.ae) (bQ (nd s e.ae) e)) l
  have h2:idx (fiP (nd s e.ae) (bQ (nd s e.ae) e)) l=k:=hf
  omega
 have hck:=Bl (at_mem hkl)
 have ZV:(l.eraseIdx k).length<=l.length:=(List.eraseIdx_sublist ..).length_le
 simp only [hf]
 refine AW.c (fun h=>?_) fun h=>?_
 ·have ho:e.fOp=3:=by omega
  (refine vX ?_;with_reducible repeat' first|exact Le.l|apply Sw|intro h)
  refine AW.imp (Imp.fU 6 (x:=.v (.slice none 0 0)) (x':=.sl false 3 []) gO (fun _ _ _ _ r=>Rep.dY _ _ r) ?_)
  (refine vU ?_;with_reducible repeat' first|exact Le.l|apply Sw|intro h)
  rw [JW h0 hw hk hf ho];try rfl
 have ho3:¬ e.fOp=3:=by omega
 clear h
 refine vO ?_;intros;refine AW.c (fun h=>?_) fun h=>?_
 ·exfalso;omega
 clear h
 refine vO ?_;intros;refine AW.c (fun h=>?_) fun h=>?_
 ·exfalso;omega
 clear h
 refine vO ?_;intros;refine AW.c (fun h=>?_) fun h=>?_
 ·have ho:e.fOp=1:=by omega
  (refine vU ?_;with_reducible repeat' first|exact Le.l|apply Sw|intro h)
  rw [JX h0 hw hk hf ho];try rfl
 have ho1:¬ e.fOp=1:=by omega
 clear h
 (refine vK ?_;with_reducible repeat' first|exact Le.l|apply Sw|intro h)
 (refine AW.i rfl (fun h=>?_) (fun h=>?_)<;>try simp only [hC,reduceCtorEq] at h)
 refine AW.V3 [0,1,2] [3,4,5,6,7] (by rfl) ?_
 (refine vN ?_;with_reducible repeat' first|exact Le.l|apply Sw|intro h)
 refine Imp.pJ 86 (sz:=3) (l:=l.map (aj false)) gO (eU _) (fun b hb=>?_) (fun hnil=>?_)
 rotate_left
 ·rw [List.map_eq_nil_iff] at hnil;rw [hnil] at hkl;exact absurd hkl (Nat.not_lt_zero _)
 have hb1:=hb.nf
 simp only [go_sem] at hb1
 rw [List.length_map]
 refine gK.wn ?_
 (refine vN ?_;with_reducible repeat' first|exact Le.l|apply Sw|intro h)
 refine AW.imp (Imp.frz 1 ?_)
 rw [<- rX]
 simp (maxSteps:=2000000) (disch:=omega) only [go_sem]
 refine vO ?_;intros;refine AW.c (fun h=>?_) fun h=>?_
 ·have ho:e.fOp=4\/e.fOp=5:=by omega
  (refine vU ?_;with_reducible repeat' first|exact Le.l|apply Sw|intro h)
  rw [O5 h0 hw hk hf ho];try rfl
 have ho2:e.fOp=2:=by omega
 clear h
 (refine vU ?_;with_reducible repeat' first|exact Le.l|apply Sw|intro h)
 rw [QZ h0 hw hk hf ho2];try rfl
end
section
attribute [-instance] F4 Ji cPf
theorem u7:∀ (n:Nat) (l:List ah),Ctr lim Tryz.prog 82 [] [.sl false 3 (l.map (aj false))] (.sl true 3 (l.map (aj true))) [] (SizeOf.sizeOf l<n)
 | 0,l=>⟨(aM 82),fun h=>absurd h (Nat.not_lt_zero _)⟩
 | n+1,l=>by
  have ih:=u7 n
  refine Ctr.bd Tryz.func82 Tryz.ntmps82 rfl rfl fun hp=>?_
  refine AW.fact 0 fun hf=>?_
  simp (disch:=omega) only [go_sem] at hf
  (refine vU ?_;with_reducible repeat' first|exact Le.l|apply Sw|intro h)
  refine AW.aA [3,9] [7,8] (fun m xs o=>∃ k:Nat,xs=[.sl true 3 ((l.take k).map (aj true)),.v (.int .i64 k)]/\o=[]/\m=l.length - k/\k<=l.length) l.length [] trivial ⟨0,?_,rfl,rfl,?_⟩ ?_
  ·rfl
  ·omega
  rintro m xs o ⟨k,rfl,rfl,rfl,hk⟩
  have hlt:(l.take k).length=k:=by rw [List.length_take];omega
  have hkk:k<l.length->SizeOf.sizeOf (at_ l k).af<n:=fun h=>by have:=ah.cd (at_mem h);omega
  (refine vU ?_;with_reducible repeat' first|exact Le.l|apply Sw|intro h)
  ·exact ⟨_,[_,_],[],by omega,⟨k+1,by rw [db (by assumption),List.map_append,List.map_cons,List.map_nil,bR],rfl,rfl,by omega⟩,rfl,trivial⟩
  ·rw [show k=l.length by omega,List.take_length]
theorem uD:∀ (n:Nat) (l:List ah),Ctr lim Tryz.prog 79 [] [.sl false 3 (l.map (aj false))] (.sl true 3 (l.map (aj true))) [] (SizeOf.sizeOf l<n)
 | 0,l=>⟨(aM 79),fun h=>absurd h (Nat.not_lt_zero _)⟩
 | n+1,l=>by
  have ih:=uD n
  refine Ctr.bd Tryz.func79 Tryz.ntmps79 rfl rfl fun hp=>?_
  refine AW.fact 0 fun hf=>?_
  simp (disch:=omega) only [go_sem] at hf
  (refine vU ?_;with_reducible repeat' first|exact Le.l|apply Sw|intro h)
  refine AW.aA [3,4] [0] (fun m xs o=>∃ k:Nat,xs=[.sl true 3 ((l.take k).map (aj true)),.v (.int .i64 k)]/\o=[]/\m=l.length - k/\k<=l.length) l.length [] trivial ⟨0,?_,rfl,rfl,?_⟩ ?_
  ·rfl
  ·omega
  rintro m xs o ⟨k,rfl,rfl,rfl,hk⟩
  have hlt:(l.take k).length=k:=by rw [List.length_take];omega
  have hkk:k<l.length->SizeOf.sizeOf (at_ l k).af<n:=fun h=>by have:=ah.cd (at_mem h);omega
  refine vO ?_;intros;refine AW.c (fun h=>?_) fun h=>?_
  ·(refine vN ?_;with_reducible repeat' first|exact Le.l|apply Sw|intro h)
   refine Z ?_
   intro K hK
   simp (maxSteps:=2000000) (disch:=omega) only [go_sem]
   refine Y ?_
   simp (maxSteps:=2000000) (disch:=omega) only [go_sem]
   refine And.intro (hkk h) (And.intro (by decide) (And.intro (by decide) ?_))
   refine Y ?_
   simp (maxSteps:=2000000) (disch:=omega) only [go_sem]
   refine And.intro ⟨by omega,by omega,by omega⟩ ?_
   refine hK _ _ ⟨Ct,?_⟩
   clear hK K
   intro K hK
   simp (maxSteps:=2000000) (disch:=omega) only [go_sem]
   refine hK _ _ ?_
   clear hK K
   (refine vU ?_;with_reducible repeat' first|exact Le.l|apply Sw|intro h)
   exact ⟨_,[_,_],[],by omega,⟨k+1,by rw [db (by assumption),List.map_append,List.map_cons,List.map_nil,bR],rfl,rfl,by omega⟩,rfl,trivial⟩
  ·(refine vU ?_;with_reducible repeat' first|exact Le.l|apply Sw|intro h)
   rw [show k=l.length by omega,List.take_length]
instance RC(l:List ah):Ctr lim Tryz.prog 82 [] [.sl false 3 (l.map (aj false))] (.sl true 3 (l.map (aj true))) [] True:=⟨(aM 82),fun _=>(u7 (SizeOf.sizeOf l+1) l).out (Nat.lt_succ_self _)⟩
instance QH(l:List ah):Ctr lim Tryz.prog 79 [] [.sl false 3 (l.map (aj false))] (.sl true 3 (l.map (aj true))) [] True:=⟨(aM 79),fun _=>(uD (SizeOf.sizeOf l+1) l).out (Nat.lt_succ_self _)⟩
end
section
attribute [-instance] F4 Ji cPf
attribute [-instance] cz
attribute [local go_sem] ba aI aS cU cT dy fZ gH
theorem KM:∀ (N:Nat) (s:List ag) (l:List ah) (es:List au),Ctr lim Tryz.prog 130 [] [.sl false 19 (s.map (ak false)),.sl false 3 ((l).map (aj false)),.sl false 4 ((es).map (aH false))] (.tup [.sl false 3 (((mdE es s l).1).map (aj false)),.v (.int .i64 (mdE es s l).2)]) [] (SizeOf.sizeOf es<N/\gdS s/\wtS s<=1048576/\cnt l+cY es<=4194304/\wtE es<=1048576)
 | 0,_,_,_=>⟨(aM 130),fun h=>absurd h.1 (Nat.not_lt_zero _)⟩
 | N+1,s,l,es=>by
  haveI on:=Rt N (KM N)
  refine Ctr.bd Tryz.func130 Tryz.ntmps130 rfl rfl fun hp=>?_
  have gOn:=bA.on
  obtain ⟨hN,hg,hs,hc,hw⟩:=hp
  refine AW.fact 2 fun hf=>?_
  simp (disch:=omega) only [go_sem] at hf
  (refine vK ?_;with_reducible repeat' first|exact Le.l|apply Sw|intro h)
  refine AW.aA [1,14] [0,12,13] (fun m xs o=>∃ (k:Nat) (l':List ah),xs=[.sl false 3 ((l').map (aj false)),.v (.int .i64 k)]/\o=[]/\m=es.length - k/\k<=es.length/\mdE (es.drop k) s l'=mdE es s l/\cnt l'+cY (es.drop k)<=4194304) es.length [] trivial ⟨0,l,rfl,rfl,rfl,by omega,rfl,hc⟩ ?_
  rintro m xs o ⟨k,l',rfl,rfl,rfl,hk,hR,hcl⟩
  refine vO ?_;intros;refine AW.c (fun h=>?_) fun h=>?_
  ·have hlk:=h
   have hwm:=vY (at_mem h)
   have hsz:=Hb (at_mem h)
   rw [D3 h] at hR
   have hcd:=Cj h
   have h1c:=Ap (R:=mdE (at_ es k).af) (c:=cY (at_ es k).af) (fun s l=>rJ _ s l) s l' (at_ es k)
   clear h
   refine vO ?_;intros;refine AW.c (fun h=>?_) fun h=>?_
   ·(refine vX ?_;with_reducible repeat' first|exact Le.l|apply Sw|intro h)
    refine AW.imp (Imp.fU 6 (x:=.v (.slice none 0 0)) (x':=.sl false 3 []) gO (fun _ _ _ _ r=>Rep.dY _ _ r) ?_)
    (refine vU ?_;with_reducible repeat' first|exact Le.l|apply Sw|intro h)
    rw [<- hR,if_pos h];try rfl
   ·rw [if_neg (fun c=>c h)] at hR
    (refine vU ?_;with_reducible repeat' first|exact Le.l|apply Sw|intro h)
    exact ⟨_,[_,_],_,by omega,⟨k+1,_,rfl,rfl,rfl,by omega,hR,by omega⟩,rfl,by simp (maxSteps:=2000000) (disch:=omega) only [go_sem]⟩
  ·rw [dh h,mdE] at hR
   (refine vU ?_;with_reducible repeat' first|exact Le.l|apply Sw|intro h)
   rw [<- hR];try rfl
instance KN(s:List ag)(l:List ah)(es:List au):Ctr lim Tryz.prog 130 [] [.sl false 19 (s.map (ak false)),.sl false 3 ((l).map (aj false)),.sl false 4 ((es).map (aH false))] (.tup [.sl false 3 (((mdE es s l).1).map (aj false)),.v (.int .i64 (mdE es s l).2)]) [] (gdS s/\wtS s<=1048576/\cnt l+cY es<=4194304/\wtE es<=1048576):=⟨(aM 130),fun h=>(KM (SizeOf.sizeOf es+1) s l es).out ⟨Nat.lt_succ_self _,h⟩⟩
theorem Ez:∀ (n:Nat) (l:List ah),Ctr lim Tryz.prog 132 [] [.sl false 3 ((l).map (aj false))] (.v (.int .i64 (cnt l))) [] (cnt l<n/\n<=4194305)
 | 0,l=>⟨(aM 132),fun h=>absurd h.1 (Nat.not_lt_zero _)⟩
 | n+1,l=>by
  have ih:=Ez n
  refine Ctr.bd Tryz.func132 Tryz.ntmps132 rfl rfl fun hp=>?_
  have hl:l.length<=cnt l:=by unfold cnt;omega
  (refine vU ?_;with_reducible repeat' first|exact Le.l|apply Sw|intro h)
  refine AW.aA [3,10] [0,8,9] (fun m xs o=>∃ k q:Nat,xs=[.v (.int .i64 q),.v (.int .i64 k)]/\o=[]/\m=l.length - k/\k<=l.length/\q+kc (l.drop k)=cnt l) l.length [] trivial ⟨0,l.length,?_,rfl,rfl,?_,rfl⟩ ?_
  ·rfl
  ·omega
  rintro m xs o ⟨k,q,rfl,rfl,rfl,hk,hR⟩
  have h1:k<l.length->_:=K9 (l:=l) (k:=k)
  have h2:k<l.length->_:=ND (l:=l) (k:=k)
  have h3:cnt (at_ l k).af=(at_ l k).af.length+kc (at_ l k).af:=rfl
  (refine vU ?_;with_reducible repeat' first|exact Le.l|apply Sw|intro h)
  ·exact ⟨_,[_,_],[],by omega,⟨k+1,q+cnt (at_ l k).af,rfl,rfl,rfl,by omega,by omega⟩,rfl,trivial⟩
  ·rw [dh h,kc] at hR;rw [<- hR,Nat.add_zero]
theorem KI(s:List ag)(l:List ah):Ctr lim Tryz.prog 84 [] [.sl false 19 (s.map (ak false)),.sl false 3 ((l).map (aj false))] (.v (.bool (bp s l))) [] (wtS s<=1048576/\cnt l<=4194304/\(cnt l<=120->wt l<=1048576)):=by
 haveI hC:Ctr lim Tryz.prog 132 [] [.sl false 3 ((l).map (aj false))] (.v (.int .i64 (cnt l))) [] (cnt l<=4194304):=⟨(aM 132),fun h=>(Ez 4194305 l).out ⟨by omega,by omega⟩⟩
 refine Ctr.bd Tryz.func84 Tryz.ntmps84 rfl rfl fun hp=>?_
 have gOn:=bA.on
 obtain ⟨h1,h2,h3⟩:=hp
 (refine vU ?_;with_reducible repeat' first|exact Le.l|apply Sw|intro h)
 ·simp only [Bool.and_eq_true,decide_eq_true_eq] at h
  exact h3 (by omega)
 refine congrArg (fun b=>AV.v (.bool b)) ?_
 rw [bp,show decide ((cnt l:Int)<=120)=decide (cnt l<=120) from decide_eq_decide.2 (by omega)]
instance YV(s:List ag)(l:List ah)(es:List au):vS lim Tryz.prog 130 [.sl false 19 (s.map (ak false)),.sl false 3 ((l).map (aj false)),.sl false 4 ((es).map (aH false))] (.tup [.sl false 3 (((mdE es s l).1).map (aj false)),.v (.int .i64 (mdE es s l).2)]) (gdS s/\wtS s<=1048576/\cnt l+cY es<=4194304/\wtE es<=1048576):=⟨(aM 130),fun hp=>(KN s l es).pure hp⟩
attribute [-instance] KN
instance Yd(s:List ag)(l:List ah)(es:List au):Ctr lim Tryz.prog 83 [] [.sl false 19 (s.map (ak false)),.sl false 3 ((l).map (aj false)),.sl false 4 ((es).map (aH false))] (.tup [.sl true 3 ((mdT s l es).1.map (aj true)),.v (.int .i64 (mdT s l es).2)]) [] (wtS s<=1048576/\wt l<=1048576/\wtE es<=1048576):=by
 refine Ctr.bd Tryz.func83 Tryz.ntmps83 rfl rfl fun hp=>?_
 have gOn:=bA.on
 obtain ⟨h1,h2,h3⟩:=hp
 have hce:=tG es
 refine vO ?_;intros;refine AW.c (fun h=>?_) fun h=>?_
 ·(refine vU ?_;with_reducible repeat' first|exact Le.l|apply Sw|intro h)
  rw [DX h];try rfl
 have ht:bp s l=true:=by simpa using h
 have hg:=De ht
 have hfit:=Ay es ht
 have hcl:=(qG ht).2
 clear h
 refine vO ?_;intros;refine AW.c (fun h=>?_) fun h=>?_
 ·(refine vU ?_;with_reducible repeat' first|exact Le.l|apply Sw|intro h)
  rw [D0 ht h];try rfl
 have h0:(mdE es s l).2=0:=h
 clear h
 have hf1:=hfit.1
 haveI hT:Ctr lim Tryz.prog 84 [] [.sl false 19 (s.map (ak false)),.sl false 3 (((mdE es s l).1).map (aj false))] (.v (.bool (bp s (mdE es s l).1))) [] True:=⟨(aM 84),fun _=>(KI s _).out ⟨h1,by omega,fun c=>by have:=hfit.2 c;omega⟩⟩
 refine vO ?_;intros;refine AW.c (fun h=>?_) fun h=>?_
 ·(refine vU ?_;with_reducible repeat' first|exact Le.l|apply Sw|intro h)
  rw [DY ht h0 h];try rfl
 ·(refine vU ?_;with_reducible repeat' first|exact Le.l|apply Sw|intro h)
  rw [DZ ht h0 (by simpa using h)];try rfl
end
section
attribute [-instance] cz
attribute [local go_sem] ba aI aS cU cT dy fZ gH
theorem JC:∀ (N:Nat) (s:List ag) (l:List ah) (es:List au),Ctr lim Tryz.prog 125 [] [.sl false 19 (s.map (ak false)),.sl false 3 ((l).map (aj false)),.sl false 4 ((es).map (aH false))] (.tup [.sl false 3 (((mdE es s l).1).map (aj false)),.v (.int .i64 (mdE es s l).2)]) [] (SizeOf.sizeOf es<N/\gdS s/\wtS s<=1048576/\cnt l+cY es<=4194304/\wtE es<=1048576/\J s l)
 | 0,_,_,_=>⟨(aM 125),fun h=>absurd h.1 (Nat.not_lt_zero _)⟩
 | N+1,s,l,es=>by
  haveI on:=QA N (JC N)
  refine Ctr.bd Tryz.func125 Tryz.ntmps125 rfl rfl fun hp=>?_
  have gOn:=bA.on
  obtain ⟨hN,hg,hs,hc,hw,hJ⟩:=hp
  refine AW.fact 2 fun hf=>?_
  simp (disch:=omega) only [go_sem] at hf
  (refine vK ?_;with_reducible repeat' first|exact Le.l|apply Sw|intro h)
  refine AW.aA [1,8] [0,2] (fun m xs o=>∃ (k:Nat) (l':List ah),xs=[.sl false 3 ((l').map (aj false)),.v (.int .i64 k)]/\o=[]/\m=es.length - k/\k<=es.length/\mdE (es.drop k) s l'=mdE es s l/\cnt l'+cY (es.drop k)<=4194304/\J s l') es.length [] trivial ⟨0,l,rfl,rfl,rfl,by omega,rfl,hc,hJ⟩ ?_
  rintro m xs o ⟨k,l',rfl,rfl,rfl,hk,hR,hcl,hJl⟩
  refine vO ?_;intros;refine AW.c (fun h=>?_) fun h=>?_
  ·have hlk:=h
   have hwm:=vY (at_mem h)
   have hsz:=Hb (at_mem h)
   rw [D3 h] at hR
   have hcd:=Cj h
   have h1c:=Ap (R:=mdE (at_ es k).af) (c:=cY (at_ es k).af) (fun s l=>rJ _ s l) s l' (at_ es k)
   clear h
   refine vO ?_;intros;refine AW.c (fun h=>?_) fun h=>?_
   ·(refine vX ?_;with_reducible repeat' first|exact Le.l|apply Sw|intro h)
    refine AW.imp (Imp.fU 6 (x:=.v (.slice none 0 0)) (x':=.sl false 3 []) gO (fun _ _ _ _ r=>Rep.dY _ _ r) ?_)
    (refine vU ?_;with_reducible repeat' first|exact Le.l|apply Sw|intro h)
    rw [<- hR,if_pos h];try rfl
   ·have hJ2:=(JR (R:=mdE (at_ es k).af) hg hJl (fun n hn=>rok _ (kz hg hn).1) h).1
    rw [if_neg (fun c=>c h)] at hR
    (refine vU ?_;with_reducible repeat' first|exact Le.l|apply Sw|intro h)
    exact ⟨_,[_,_],_,by omega,⟨k+1,_,rfl,rfl,rfl,by omega,hR,by omega,hJ2⟩,rfl,by simp (maxSteps:=2000000) (disch:=omega) only [go_sem]⟩
  ·rw [dh h,mdE] at hR
   (refine vU ?_;with_reducible repeat' first|exact Le.l|apply Sw|intro h)
   rw [<- hR];try rfl
instance YI(s:List ag)(l:List ah)(es:List au):vS lim Tryz.prog 125 [.sl false 19 (s.map (ak false)),.sl false 3 ((l).map (aj false)),.sl false 4 ((es).map (aH false))] (.tup [.sl false 3 (((mdE es s l).1).map (aj false)),.v (.int .i64 (mdE es s l).2)]) (gdS s/\wtS s<=1048576/\cnt l+cY es<=4194304/\wtE es<=1048576/\J s l):=⟨(aM 125),fun hp=>(JC (SizeOf.sizeOf es+1) s l es).pure ⟨Nat.lt_succ_self _,hp⟩⟩
theorem Gl:∀ (n:Nat) (l:List ah) (r:Int),Ctr lim Tryz.prog 127 [] [.sl false 3 ((l).map (aj false)),.v (.int .i64 r)] (.v (.int .i64 (fe l (r - l.length)))) [] (cnt l<n/\n<=4194305/\0<=r/\r<=1048576)
 | 0,l,r=>⟨(aM 127),fun h=>absurd h.1 (Nat.not_lt_zero _)⟩
 | n+1,l,r=>by
  have ih:=Gl n
  refine Ctr.bd Tryz.func127 Tryz.ntmps127 rfl rfl fun hp=>?_
  have hl:l.length<=cnt l:=by unfold cnt;omega
  (refine vU ?_;with_reducible repeat' first|exact Le.l|apply Sw|intro h)
  refine AW.aA [1,5] [0] (fun m xs o=>∃ (k:Nat) (q:Int),xs=[.v (.int .i64 q),.v (.int .i64 k)]/\o=[]/\m=l.length - k/\k<=l.length/\-4611686018427387904<=q/\q<=1048576/\fe (l.drop k) q=fe l (r - l.length)) l.length [] trivial ⟨0,r - l.length,?_,rfl,rfl,?_,?_,?_,rfl⟩ ?_
  ·rfl
  ·omega
  ·omega
  ·omega
  rintro m xs o ⟨k,q,rfl,rfl,rfl,hk,h0,h1,hR⟩
  have hw:k<l.length->_:=K9 (l:=l) (k:=k)
  have hw2:(at_ l k).af.length<=cnt (at_ l k).af:=by unfold cnt;omega
  have h3:=wm (at_ l k).af (q - (at_ l k).af.length)
  (refine vU ?_;with_reducible repeat' first|exact Le.l|apply Sw|intro h)
  ·have h4:-4611686018427387904<=fe (at_ l k).af (q - (at_ l k).af.length):=yn _ _ (by have:=hw h.1;omega) (by have:=hw h.1;omega)
   refine ⟨_,[_,_],[],by omega,⟨k+1,_,rfl,rfl,rfl,by omega,h4,by omega,?_⟩,rfl,trivial⟩
   rw [<- hR,GM h.1,if_neg (by omega)]
  ·rw [<- hR]
   by_cases e:k<l.length
   ·rw [mr _ (h e)]
   ·rw [dh e,fe]
theorem Jz(s:List ag)(l:List ah):Ctr lim Tryz.prog 81 [] [.sl false 19 (s.map (ak false)),.sl false 3 ((l).map (aj false))] (.v (.bool (bp s l))) [] (wtS s<=1048576/\cnt l<=4194304/\(cnt l<=120->wt l<=1048576)):=by
 haveI hL:∀ r:Int,Ctr lim Tryz.prog 127 [] [.sl false 3 ((l).map (aj false)),.v (.int .i64 r)] (.v (.int .i64 (fe l (r - l.length)))) [] (cnt l<=4194304/\0<=r/\r<=1048576):=fun r=>⟨(aM 127),fun h=>(Gl 4194305 l r).out ⟨by omega,by omega,h.2⟩⟩
 refine Ctr.bd Tryz.func81 Tryz.ntmps81 rfl rfl fun hp=>?_
 have gOn:=bA.on
 obtain ⟨h1,h2,h3⟩:=hp
 have hc:=gM s
 have hd:∀ y∈dk s,wtS y.af<=1048576:=fun y hy=>by have:=nr _ y hy;omega
 have e1:decide (0<=fe l (120 - l.length))=decide (cnt l<=120):=by
  apply decide_eq_decide.2
  unfold cnt
  rcases Int.lt_or_le (120 - (l.length:Int)) 0 with h|h
  ·rw [mr l h];omega
  ·have:=(wq l _ h).1;omega
 (refine vU ?_;with_reducible repeat' first|exact Le.l|apply Sw|intro h)
 ·exact hd _ h
 ·have:=h.2
  exact h3 (by have:=of_decide_eq_true (p:=cnt l<=120) (by rw [<- e1];simpa using h.2);exact this)
 ·refine congrArg (fun b=>AV.v (.bool b)) ?_
  rw [bp,e1]
instance XK(s:List ag)(l:List ah)(es:List au):Ctr lim Tryz.prog 80 [] [.sl false 19 (s.map (ak false)),.sl false 3 ((l).map (aj false)),.sl false 4 ((es).map (aH false))] (.tup [.sl true 3 ((mdT s l es).1.map (aj true)),.v (.int .i64 (mdT s l es).2)]) [] (wtS s<=1048576/\wt l<=1048576/\wtE es<=1048576):=by
 refine Ctr.bd Tryz.func80 Tryz.ntmps80 rfl rfl fun hp=>?_
 have gOn:=bA.on
 obtain ⟨h1,h2,h3⟩:=hp
 have hce:=tG es
 refine vO ?_;intros;refine AW.c (fun h=>?_) fun h=>?_
 ·(refine vU ?_;with_reducible repeat' first|exact Le.l|apply Sw|intro h)
  rw [DX h];try rfl
 have ht:bp s l=true:=by simpa using h
 have hg:=De ht
 have hJ:=My ht
 have hfit:=Ay es ht
 have hcl:=(qG ht).2
 clear h
 refine vO ?_;intros;refine AW.c (fun h=>?_) fun h=>?_
 ·(refine vU ?_;with_reducible repeat' first|exact Le.l|apply Sw|intro h)
  rw [D0 ht h];try rfl
 have h0:(mdE es s l).2=0:=h
 clear h
 have hf1:=hfit.1
 haveI hT:Ctr lim Tryz.prog 81 [] [.sl false 19 (s.map (ak false)),.sl false 3 (((mdE es s l).1).map (aj false))] (.v (.bool (bp s (mdE es s l).1))) [] True:=⟨(aM 81),fun _=>(Jz s _).out ⟨h1,by omega,fun c=>by have:=hfit.2 c;omega⟩⟩
 refine vO ?_;intros;refine AW.c (fun h=>?_) fun h=>?_
 ·(refine vU ?_;with_reducible repeat' first|exact Le.l|apply Sw|intro h)
  rw [DY ht h0 h];try rfl
 ·(refine vU ?_;with_reducible repeat' first|exact Le.l|apply Sw|intro h)
  rw [DZ ht h0 (by simpa using h)];try rfl
end
end Go.Proofs
namespace Go.Dt
open Go Go.Ab
section
def oh(x:dm)(k:Int):dm×Int:=(⟨(mkL ay x.ax k).1,(mkL aT x.cL (mkL ay x.ax k).2).1,(mkL eJ x.bt (mkL aT x.cL (mkL ay x.ax k).2).2).1⟩,(mkL eJ x.bt (mkL aT x.cL (mkL ay x.ax k).2).2).2)
theorem Dg(x:dm)(k:Int):k<=(oh x k).2:=by
 have g0:=bG iP x.ax k
 have g1:=bG dO x.cL (mkL ay x.ax k).2
 have g2:=nG (f:=eJ) kD x.bt (mkL aT x.cL (mkL ay x.ax k).2).2
 simp only [oh];omega
theorem Cp(x:dm)(k r:Int)(h0:0<=r)(h:0<=fE x r):(oh x k).2<=k+32 * (r - fE x r):=by
 simp only [oh]
 unfold fE at h ⊢
 obtain ⟨a0,h⟩:=aX h
 rw [cE a0]
 have q0:=fJ aY mV x.ax k r h0 a0
 obtain ⟨a1,h⟩:=aX h
 rw [cE a1]
 have q1:=fJ dC pj x.cL (mkL ay x.ax k).2 (aG aC x.ax r) a0 a1
 obtain ⟨a2,h⟩:=aX h
 rw [cE a2]
 have q2:=fJ j5 FE x.bt (mkL aT x.cL (mkL ay x.ax k).2).2 (aG bM x.cL (aG aC x.ax r)) a1 a2
 simp only [id]
 omega
theorem Cq{x:dm}{r:Int}(h0:0<=r)(h1:r<=1048576)(h:0<=fE x r):x.bt.length<=1048576:=by
 unfold fE at h
 obtain ⟨a0,h⟩:=aX h
 obtain ⟨a1,h⟩:=aX h
 obtain ⟨a2,h⟩:=aX h
 have l0:=aZ aC aY x.ax r h0
 have l1:=aZ bM dC x.cL (aG aC x.ax r) a0
 rcases Int.lt_or_le (aG bM x.cL (aG aC x.ax r) - x.bt.length) 0 with h2|h2
 ·rw [fQ h2] at a2;omega
 ·omega
end
section
def eu(s:List ag):List ah->List (List au)->List ah×Bool
 | l,[]=>(l,true)
 | l,e::es=>if ¬ (mdT s l e).2=0 then ([],false) else eu s (mdT s l e).1 es
theorem DC{s:List ag}:∀ (es:List (List au)) (l:List ah),wt l<=1048576->wt (eu s l es).1<=1048576
 | [],l,h=>by rw [eu];exact h
 | e::es,l,h=>by
  rw [eu]
  split
  ·rw [C5];omega
  ·rename_i c
   have:=((uK s l e).2 (by omega)).2
   exact DC es _ (by omega)
theorem y8{s:List ag}{l:List ah}{es:List (List au)}{k:Nat}(h:k<es.length):eu s l (es.drop k)=if ¬ (mdT s l (at_ es k)).2=0 then ([],false) else eu s (mdT s l (at_ es k)).1 (es.drop (k+1)):=by rw [da h,eu]
def oR(s:List ag)(w:dm):List ah:=(eu s w.cL w.bt).1
def AJ(s:List ag)(w:dm):Bool:=(eu s w.cL w.bt).2 && bp s (oR s w)
theorem C9:∀ (l:List au) (r:Int),0<=r->0<=jI l r->jI l r+(cY l+mxE l:Nat)<=r+l.length
 | [],r,_,_=>by simp [jI,fR,iz]
 | .mk o n v ks::xs,r,h0,h=>by
  rw [jI] at h ⊢
  have hx:∀ q,0<=dM (.mk o n v ks) q->0<=q->dM (.mk o n v ks) q+(n.length+v.length+cY ks+mxE ks:Nat)<=q:=by
   intro q hq h0
   rw [dM] at hq ⊢
   obtain ⟨h1,e1⟩:=eY hq
   rw [e1] at hq ⊢
   obtain ⟨h2,e2⟩:=eY hq
   rw [e2] at hq ⊢
   obtain ⟨h3,e3⟩:=eY hq
   rw [e3] at hq ⊢
   simp only [id] at h3 ⊢
   obtain ⟨h4,e4⟩:=eY h3
   rw [e4] at h3 ⊢
   have:=C9 ks _ h4 h3
   unfold aC at *
   omega
  obtain ⟨h1,e1⟩:=eY h
  rw [e1] at h ⊢
  have h3:=hx r h1 h0
  have h2:=C9 xs _ h1 h
  rw [cY,mxE,List.length_cons]
  omega
theorem F6{l:List au}{r:Int}(h0:0<=r)(h:0<=aG dM l r):(wtE l:Int)<=r:=by
 rcases Int.lt_or_le (r - l.length) 0 with h2|h2
 ·rw [fQ h2] at h;omega
 ·rw [gr h2,<- q8] at h
  have:=C9 l _ h2 h
  unfold wtE
  omega
theorem Jj{w:dm}{r:Int}(h0:0<=r)(h1:r<=1048576)(h:0<=fE w r):wt w.cL<=1048576/\∀ e∈w.bt,wtE e<=1048576:=by
 unfold fE at h
 obtain ⟨a0,h⟩:=aX h
 obtain ⟨a1,h⟩:=aX h
 obtain ⟨a2,h⟩:=aX h
 have l0:=aZ aC aY w.ax r h0
 have l1:=aZ bM dC w.cL (aG aC w.ax r) a0
 have e1:=C6 a0 a1
 refine ⟨by omega,fun e he=>?_⟩
 obtain ⟨r',p,q,s⟩:=(xE gW j5 w.bt _ a1 a2).2 e he
 have:=F6 p s
 omega
theorem Rg(s:List ag){w:dm}(h:wt w.cL<=1048576):(mkL aT (oR s w) 1).2<=2097153:=by
 rw [Av]
 have h1:=DC (s:=s) w.bt w.cL h
 have h2:=Fa (oR s w)
 unfold oR at *
 omega
end
end Go.Dt
