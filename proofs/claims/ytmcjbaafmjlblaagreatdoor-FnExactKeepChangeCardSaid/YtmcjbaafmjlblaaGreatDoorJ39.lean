/- A part. -/
import Derived.Test.YtmcjbaafmjlblaaGreatDoorJ36
import Derived.Test.YtmcjbaafmjlblaaGreatDoorJ38
set_option linter.all false
set_option maxRecDepth 20000
set_option maxHeartbeats 4000000
namespace Go.Proofs
open Go.Ab Go.Dt
section
attribute [-instance] F4 Ji cPf
theorem gV(l:List au):(l.map (aH true)).all (AV.elem 4)=true:=cX (fun x=>by rw [bS];try rfl) l
theorem gU(l:List au):((l.map (aH true)).flatMap AV.cells).all AV.one=true:=dw (fun x=>by rw [bS];try rfl) l
attribute [local go_sem] ba aI aS cU cT gV gU
instance XQ(n:ag)(l:List ah)(v:Str)(key:List Str):Ctr lim Tryz.prog 174 [] [.agg (cSc n),.sl false 3 (l.map (aj false)),.str v,.sl false 1 (key.map AV.str)] (.v (.int .i64 (idx (fsP n v key) l))) [] (∀ y∈l,y.ae=n.ae->kyB n y=true):=by
 refine Ctr.bd Tryz.func174 Tryz.ntmps174 rfl rfl fun hp=>?_
 have gOn:=bA.on
 refine AW.fact 1 fun hf=>?_
 simp (disch:=omega) only [go_sem] at hf
 (refine vK ?_;with_reducible repeat' first|exact Le.l|apply Sw|intro h)
 refine AW.aA [9] [1,2,3,4] (fun m xs o=>∃ k:Nat,xs=[.v (.int .i64 k)]/\o=[]/\m=l.length - k/\k<=l.length/\∀ y∈l.take k,fsP n v key y=false) l.length [] trivial ⟨0,?_,rfl,rfl,?_,?_⟩ ?_
 ·rfl
 ·omega
 ·simp
 rintro m xs o ⟨k,rfl,rfl,rfl,hk,hR⟩
 have hky:k<l.length->(at_ l k).ae=n.ae->kyB n (at_ l k)=true:=fun h=>hp _ (at_mem h)
 haveI:=y4 n (at_ l k)
 (refine vU ?_;with_reducible repeat' first|exact Le.l|apply Sw|intro h)
 ·exact ⟨_,[_],_,by omega,⟨k+1,rfl,rfl,rfl,by omega,bJ (by assumption) hR (by rw [fsP];grind)⟩,rfl,by simp (maxSteps:=2000000) (disch:=omega) only [go_sem]⟩
 ·rename_i h'
  rw [kI (p:=fsP n v key) (by assumption) hR (by rw [fsP];grind)]
 ·rename_i h' h2
  rw [kI (p:=fsP n v key) (by assumption) hR (by rw [fsP];grind)]
 ·rename_i h' h2
  exact ⟨_,[_],_,by omega,⟨k+1,rfl,rfl,rfl,by omega,bJ (by assumption) hR (by rw [fsP];grind)⟩,rfl,by simp (maxSteps:=2000000) (disch:=omega) only [go_sem]⟩
 ·rw [nL h hR]
instance VX(n:ag)(l:List ah)(x:ah):Ctr lim Tryz.prog 139 [] [.agg (cSc n),.sl false 3 (l.map (aj false)),.agg (cNo x)] (.v (.int .i64 (fnd n l x))) [] (kyB n x=true/\∀ y∈l,y.ae=n.ae->kyB n y=true):=by
 refine Ctr.bd Tryz.func139 Tryz.ntmps139 rfl rfl fun hp=>?_
 have gOn:=bA.on
 obtain ⟨h1,h2⟩:=hp
 haveI:=y4 n x
 (refine vU ?_;with_reducible repeat' first|exact Le.l|apply Sw|intro h)
 rw [KS h1 h2]
instance Ww(n:ag)(x:ah):Ctr lim Tryz.prog 120 [] [.agg (cSc n),.agg (cNo x)] (.sl true 4 ((kyE n x).map (aH true))) [] (kyB n x=true/\n.aw.length<=3):=by
 refine Ctr.bd Tryz.func120 Tryz.ntmps120 rfl rfl fun hp=>?_
 have gOn:=bA.on
 obtain ⟨hp,hk3⟩:=hp
 refine vO ?_;intros;refine AW.c (fun h=>?_) fun h=>?_
 ·(refine vU ?_;with_reducible repeat' first|exact Le.l|apply Sw|intro h)
  rw [kyE,if_neg h];try rfl
 have hk2:=h
 clear h
 (refine vK ?_;with_reducible repeat' first|exact Le.l|apply Sw|intro h)
 refine AW.imp (Imp.frz 6 ?_)
 simp only [go_sem]
 refine AW.iA [5,24] [6,22,23] (fun m xs o=>∃ k:Nat,xs=[.sl true 4 (((kyE n x).take k).map (aH true)),.v (.int .i64 k)]/\o=[]/\m=n.aw.length - k/\k<=n.aw.length) n.aw.length [] trivial ⟨0,?_,rfl,rfl,?_⟩ ?_
 ·rfl
 ·omega
 rintro m xs o ⟨k,rfl,rfl,rfl,hk⟩
 have hlen:((kyE n x).take k).length<=k:=by rw [List.length_take];omega
 refine vO ?_;intros;refine AW.c (fun h=>?_) fun h=>?_
 ·obtain ⟨hat,hal⟩:=TG (x:=x) hk2 hp h
  (refine vU ?_;with_reducible repeat' first|exact Le.l|apply Sw|intro h)
  refine Imp.zj 5 [.v (.int .i64 1),.str (at_ n.aw k),.str (at_ (kyL n x) k)] [] true 4 (by rfl) ?_
  simp (maxSteps:=2000000) (disch:=omega) only [go_sem]
  exact ⟨_,[_,_],_,by omega,⟨k+1,by rw [Ek hk2 h,List.map_append,List.map_cons,List.map_nil,bS,<- hat];try rfl,rfl,rfl,by omega⟩,rfl,by simp (maxSteps:=2000000) (disch:=omega) only [go_sem]⟩
 ·(refine vU ?_;with_reducible repeat' first|exact Le.l|apply Sw|intro h)
  rw [GP h]
instance VW(n:ag)(x:ah):Ctr lim Tryz.prog 140 [] [.agg (cSc n),.agg (cNo x)] (.sl true 4 ((kyE n x).map (aH true))) [] (kyB n x=true/\n.aw.length<=3):=by
 refine Ctr.bd Tryz.func140 Tryz.ntmps140 rfl rfl fun hp=>?_
 have gOn:=bA.on
 obtain ⟨hp,hk3⟩:=hp
 (refine vK ?_;with_reducible repeat' first|exact Le.l|apply Sw|intro h)
 refine AW.iA [5,6] [2,3] (fun m xs o=>∃ k:Nat,xs=[.sl true 4 (((kyE n x).take k).map (aH true)),.v (.int .i64 k)]/\o=[]/\m=n.aw.length - k/\k<=n.aw.length) n.aw.length [] trivial ⟨0,?_,rfl,rfl,?_⟩ ?_
 ·rfl
 ·omega
 rintro m xs o ⟨k,rfl,rfl,rfl,hk⟩
 have hlen:((kyE n x).take k).length<=k:=by rw [List.length_take];omega
 have hat:n.ai=2->k<n.aw.length->_:=fun q=>Ra (x:=x) q hp (k:=k)
 refine vO ?_;intros;refine AW.c (fun h=>?_) fun h=>?_
 ·have hat:=hat h.2 h.1
  (refine vU ?_;with_reducible repeat' first|exact Le.l|apply Sw|intro h)
  refine Imp.zj 5 [.v (.int .i64 1),.str (at_ n.aw k),.str (kyT x (at_ n.aw k))] [] true 4 (by rfl) ?_
  simp (maxSteps:=2000000) (disch:=omega) only [go_sem]
  exact ⟨_,[_,_],_,by omega,⟨k+1,by rw [Ek h.2 h.1,List.map_append,List.map_cons,List.map_nil,bS];try rfl,rfl,rfl,by omega⟩,rfl,by simp (maxSteps:=2000000) (disch:=omega) only [go_sem]⟩
 ·(refine vU ?_;with_reducible repeat' first|exact Le.l|apply Sw|intro h)
  by_cases q:k<n.aw.length
  ·rw [Pw (h q)]
  ·rw [GP q]
theorem KJ:∀ (n:Nat) (op:Int) (l:List ah),Ctr lim Tryz.prog 121 [] [.v (.int .i64 op),.sl false 3 (l.map (aj false))] (.sl true 4 ((edO op l).map (aH true))) [] (SizeOf.sizeOf l<n)
 | 0,_,l=>⟨(aM 121),fun h=>absurd h (Nat.not_lt_zero _)⟩
 | n+1,op,l=>by
  have ih:=KJ n
  refine Ctr.bd Tryz.func121 Tryz.ntmps121 rfl rfl fun hp=>?_
  have gOn:=bA.on
  refine AW.fact 1 fun hf=>?_
  simp (disch:=omega) only [go_sem] at hf
  (refine vK ?_;with_reducible repeat' first|exact Le.l|apply Sw|intro h)
  refine AW.aA [5,11] [0,9,10] (fun m xs o=>∃ k:Nat,xs=[.sl true 4 ((edO op (l.take k)).map (aH true)),.v (.int .i64 k)]/\o=[]/\m=l.length - k/\k<=l.length) l.length [] trivial ⟨0,?_,rfl,rfl,?_⟩ ?_
  ·rw [List.take_zero,edO];try rfl
  ·omega
  rintro m xs o ⟨k,rfl,rfl,rfl,hk⟩
  have hlt:(edO op (l.take k)).length=k:=by rw [wG,List.length_take];omega
  have hkk:k<l.length->SizeOf.sizeOf (at_ l k).af<n:=fun h=>by have:=ah.cd (at_mem h);omega
  (refine vU ?_;with_reducible repeat' first|exact Le.l|apply Sw|intro h)
  ·exact ⟨_,[_,_],_,by omega,⟨k+1,by rw [E1 (by assumption),List.map_append,List.map_cons,List.map_nil,bS];try rfl,rfl,rfl,by omega⟩,rfl,by simp (maxSteps:=2000000) (disch:=omega) only [go_sem]⟩
  ·rw [List.take_of_length_le (by omega)]
theorem JA:∀ (n:Nat) (op:Int) (l:List ah),Ctr lim Tryz.prog 141 [] [.v (.int .i64 op),.sl false 3 (l.map (aj false))] (.sl true 4 ((edO op l).map (aH true))) [] (SizeOf.sizeOf l<n)
 | 0,_,l=>⟨(aM 141),fun h=>absurd h (Nat.not_lt_zero _)⟩
 | n+1,op,l=>by
  have ih:=JA n
  refine Ctr.bd Tryz.func141 Tryz.ntmps141 rfl rfl fun hp=>?_
  have gOn:=bA.on
  refine AW.fact 1 fun hf=>?_
  simp (disch:=omega) only [go_sem] at hf
  (refine vK ?_;with_reducible repeat' first|exact Le.l|apply Sw|intro h)
  refine AW.aA [5,6] [0,1] (fun m xs o=>∃ k:Nat,xs=[.sl true 4 ((edO op (l.take k)).map (aH true)),.v (.int .i64 k)]/\o=[]/\m=l.length - k/\k<=l.length) l.length [] trivial ⟨0,?_,rfl,rfl,?_⟩ ?_
  ·rw [List.take_zero,edO];try rfl
  ·omega
  rintro m xs o ⟨k,rfl,rfl,rfl,hk⟩
  have hlt:(edO op (l.take k)).length=k:=by rw [wG,List.length_take];omega
  have hkk:k<l.length->SizeOf.sizeOf (at_ l k).af<n:=fun h=>by have:=ah.cd (at_mem h);omega
  refine vO ?_;intros;refine AW.c (fun h=>?_) fun h=>?_
  ·(refine vN ?_;with_reducible repeat' first|exact Le.l|apply Sw|intro h)
   refine Z ?_
   intro K hK
   simp (maxSteps:=2000000) (disch:=omega) only [go_sem]
   refine Y ?_
   simp (maxSteps:=2000000) (disch:=omega) only [go_sem]
   refine And.intro (hkk h) (And.intro (by decide) (And.intro (by decide) ?_))
   refine Y ?_
   simp (maxSteps:=2000000) (disch:=omega) only [go_sem]
   refine And.intro ⟨by omega,by omega,by omega⟩ ?_
   refine hK _ _ ⟨Ct,?_⟩
   clear hK K
   intro K hK
   simp (maxSteps:=2000000) (disch:=omega) only [go_sem]
   refine hK _ _ ?_
   clear hK K
   (refine vU ?_;with_reducible repeat' first|exact Le.l|apply Sw|intro h)
   exact ⟨_,[_,_],_,by omega,⟨k+1,by rw [E1 (by assumption),List.map_append,List.map_cons,List.map_nil,bS];try rfl,rfl,rfl,by omega⟩,rfl,by simp (maxSteps:=2000000) (disch:=omega) only [go_sem]⟩
  ·(refine vU ?_;with_reducible repeat' first|exact Le.l|apply Sw|intro h)
   rw [List.take_of_length_le (by omega)]
end
section
attribute [-instance] cz F4 Ji
attribute [local go_sem] ba aI aS cU cT dy fZ gH
theorem R7{R:Rec}{s:List ag}{l:List ah}{e:au}(h0:¬ idx (nmP e.ae) (dk s)<0)(h:¬ chC (nd s e.ae) e=0):one R s l e=([],chC (nd s e.ae) e):=by
 by_cases hw:wrg (nd s e.ae) e=0
 ·by_cases hk:(nd s e.ae).ai=2/\dE (nd s e.ae) e.af=false
  ·rw [JV h0 hw hk,chC,if_neg (fun c=>c hw),if_pos hk]
  ·exact absurd (by rw [chC,if_neg (fun c=>c hw),if_neg hk]) h
 ·rw [JQ h0 hw,zR hw]
theorem Ur{n:ag}{e:au}(h:chC n e=0):wrg n e=0/\¬ (n.ai=2/\dE n e.af=false):=by
 by_cases hw:wrg n e=0
 ·refine ⟨hw,fun c=>?_⟩
  rw [chC,if_neg (fun c=>c hw),if_pos c] at h
  exact absurd h (by decide)
 ·rw [zR hw] at h;exact absurd h hw
attribute [local go_sem] NC
theorem QA(N:Nat)(ih:∀ (s:List ag) (l:List ah) (es:List au),Ctr lim Tryz.prog 125 [] [.sl false 19 (s.map (ak false)),.sl false 3 ((l).map (aj false)),.sl false 4 ((es).map (aH false))] (.tup [.sl false 3 (((mdE es s l).1).map (aj false)),.v (.int .i64 (mdE es s l).2)]) [] (SizeOf.sizeOf es<N/\gdS s/\wtS s<=1048576/\cnt l+cY es<=4194304/\wtE es<=1048576/\J s l))(s:List ag)(l:List ah)(e:au):Ctr lim Tryz.prog 161 [] [.sl false 19 (s.map (ak false)),.sl false 3 ((l).map (aj false)),.agg (cEd e)] (.tup [.sl false 3 (((one (mdE e.af) s l e).1).map (aj false)),.v (.int .i64 (one (mdE e.af) s l e).2)]) [] (SizeOf.sizeOf e.af<N/\gdS s/\wtS s<=1048576/\cnt l+(1+cY e.af)<=4194304/\(e.ae.length<=1048576/\e.av.length<=1048576/\wtE e.af<=1048576)/\J s l):=by
 haveI ad:=QJ N ih
 refine Ctr.bd Tryz.func161 Tryz.ntmps161 rfl rfl fun hp=>?_
 have gOn:=bA.on
 obtain ⟨hN,hg,hs,hc,hw0,hJ⟩:=hp
 have hcs:=gM s
 have hll:=Ee l
 have hel:=Ef e.af
 have oY:=tG e.af
 have hex:∀ x∈e.af,x.av.length<=1048576:=fun x hx=>by have:=vY hx;omega
 have hix:=gJ (p:=nmP e.ae) (dk s)
 refine vO ?_;intros;refine AW.c (fun h=>?_) fun h=>?_
 ·(refine vX ?_;with_reducible repeat' first|exact Le.l|apply Sw|intro h)
  refine AW.imp (Imp.fU 6 (x:=.v (.slice none 0 0)) (x':=.sl false 3 []) gO (fun _ _ _ _ r=>Rep.dY _ _ r) ?_)
  (refine vU ?_;with_reducible repeat' first|exact Le.l|apply Sw|intro h)
  rw [JS h];try rfl
 have h0:¬ idx (nmP e.ae) (dk s)<0:=by omega
 clear h
 have hi:0<=idx (nmP e.ae) (dk s):=by omega
 have hnm:((at_ (dk s) (idx (nmP e.ae) (dk s)).toNat)).ae=e.ae/\(at_ (dk s) (idx (nmP e.ae) (dk s)).toNat)∈dk s:=fI (by omega)
 have hgk:gdS ((at_ (dk s) (idx (nmP e.ae) (dk s)).toNat)).af:=(kz hg hnm.2).1
 have hwk:wtS ((at_ (dk s) (idx (nmP e.ae) (dk s)).toNat)).af<=1048576:=by
  have:=nr _ _ hnm.2;omega
 have hk3:=mN hg hnm.2
 have hks:((at_ (dk s) (idx (nmP e.ae) (dk s)).toNat)).ai=2->KyS (at_ (dk s) (idx (nmP e.ae) (dk s)).toNat):=fun _=>⟨RW hg hnm.2,hk3,fun q hq=>(AX hg hnm.2 q hq).2.2⟩
 have hkd:((at_ (dk s) (idx (nmP e.ae) (dk s)).toNat)).ai=1\/((at_ (dk s) (idx (nmP e.ae) (dk s)).toNat)).ai=2\/((at_ (dk s) (idx (nmP e.ae) (dk s)).toNat)).ai=3\/((at_ (dk s) (idx (nmP e.ae) (dk s)).toNat)).ai=4:=AK hi
 have ZU:1<=((at_ (dk s) (idx (nmP e.ae) (dk s)).toNat)).ai:=by omega
 have ZT:((at_ (dk s) (idx (nmP e.ae) (dk s)).toNat)).ai<=4:=by omega
 have hjy:∀ y∈l,y.ae=((at_ (dk s) (idx (nmP e.ae) (dk s)).toNat)).ae->kyB (at_ (dk s) (idx (nmP e.ae) (dk s)).toNat) y=true:=fun y hy c=>by
  have:=((mo.1 hJ).1 y hy).2.1
  rw [c,hnm.1] at this;exact this
 (refine vK ?_;with_reducible repeat' first|exact Le.l|apply Sw|intro h)
 ·exact hks h
 ·exact hex _ (by assumption)
 refine AW.c (fun h=>?_) fun h=>?_
 ·(refine vX ?_;with_reducible repeat' first|exact Le.l|apply Sw|intro h)
  refine AW.imp (Imp.fU 6 (x:=.v (.slice none 0 0)) (x':=.sl false 3 []) gO (fun _ _ _ _ r=>Rep.dY _ _ r) ?_)
  (refine vU ?_;with_reducible repeat' first|exact Le.l|apply Sw|intro h)
  rw [R7 h0 h];try rfl
 have hch:chC (nd s e.ae) e=0:=h
 obtain ⟨hw,hk⟩:=Ur hch
 have hop:=Nt hw
 clear h
 have hk2:(nd s e.ae).ai=2->dE (nd s e.ae) e.af=true:=fun c=>by
  cases z:dE (nd s e.ae) e.af with
  | true=>rfl
  | false=>exact absurd ⟨c,z⟩ hk
 have hfs:idx (fsP (at_ (dk s) (idx (nmP e.ae) (dk s)).toNat) (chV (at_ (dk s) (idx (nmP e.ae) (dk s)).toNat) e) (chK (at_ (dk s) (idx (nmP e.ae) (dk s)).toNat) e)) l=fnd (at_ (dk s) (idx (nmP e.ae) (dk s)).toNat) l (bQ (at_ (dk s) (idx (nmP e.ae) (dk s)).toNat) e):=by
  refine RX (uQ hk2) hjy (fun c=>?_) (fun c=>?_)
  ·rw [chV,if_pos ⟨hch,.inl c⟩,sX c]
  ·rw [chK,if_pos ⟨hch,c⟩,Pz c (hk2 c)]
 (refine vK ?_;with_reducible repeat' first|exact Le.l|apply Sw|intro h)
 simp only [hfs]
 have hjd:J s (dl l (fnd (at_ (dk s) (idx (nmP e.ae) (dk s)).toNat) l (bQ (at_ (dk s) (idx (nmP e.ae) (dk s)).toNat) e))):=z8 (zN _ _) hJ
 have hfr:∀ y∈dl l (fnd (at_ (dk s) (idx (nmP e.ae) (dk s)).toNat) l (bQ (at_ (dk s) (idx (nmP e.ae) (dk s)).toNat) e)),¬ same s (bQ (nd s e.ae) e) y:=fun y hy=>fresh hg hJ hi hk2 y hy
 have hdl:(dl l (fnd (at_ (dk s) (idx (nmP e.ae) (dk s)).toNat) l (bQ (at_ (dk s) (idx (nmP e.ae) (dk s)).toNat) e))).length<=l.length:=(zN _ _).length_le
 have hfl:fnd (at_ (dk s) (idx (nmP e.ae) (dk s)).toNat) l (bQ (at_ (dk s) (idx (nmP e.ae) (dk s)).toNat) e)<l.length:=gJ _
 have hva:(nd s e.ae).ai=3\/(nd s e.ae).ai=4->e.fOp<4->chV (at_ (dk s) (idx (nmP e.ae) (dk s)).toNat) e=cvS (nd s e.ae).fType e.av:=fun c d=>by
  show chV (nd s e.ae) e=_
  rw [chV,if_pos ⟨hch,by omega⟩]
 have hvb:¬ ((nd s e.ae).ai=3\/(nd s e.ae).ai=4)->chV (at_ (dk s) (idx (nmP e.ae) (dk s)).toNat) e=[]:=fun c=>by
  show chV (nd s e.ae) e=_
  rw [chV,if_neg (by rintro ⟨_,d⟩;omega)]
 by_cases hf0:fnd (at_ (dk s) (idx (nmP e.ae) (dk s)).toNat) l (bQ (at_ (dk s) (idx (nmP e.ae) (dk s)).toNat) e)<0
 ·have W6:dl l (fnd (at_ (dk s) (idx (nmP e.ae) (dk s)).toNat) l (bQ (at_ (dk s) (idx (nmP e.ae) (dk s)).toNat) e))=l:=by rw [dl,if_neg (by omega)]
  refine AW.c (fun h=>?_) fun h=>?_
  ·exfalso;omega
  clear h
  refine vO ?_;intros;refine AW.c (fun h=>?_) fun h=>?_
  ·have ho:e.fOp=4:=by omega
   (refine vX ?_;with_reducible repeat' first|exact Le.l|apply Sw|intro h)
   refine AW.imp (Imp.fU 6 (x:=.v (.slice none 0 0)) (x':=.sl false 3 []) gO (fun _ _ _ _ r=>Rep.dY _ _ r) ?_)
   (refine vU ?_;with_reducible repeat' first|exact Le.l|apply Sw|intro h)
   rw [JU h0 hw hk hf0 ho];try rfl
  have ho4:¬ e.fOp=4:=by omega
  clear h
  refine vO ?_;intros;refine AW.c (fun h=>?_) fun h=>?_
  ·(refine vU ?_;with_reducible repeat' first|exact Le.l|apply Sw|intro h)
   rw [JZ h0 hw hk (.inr (by omega))];try rfl
  have ho5:¬ e.fOp=5:=by omega
  have hv1:(nd s e.ae).ai=3\/(nd s e.ae).ai=4->chV (at_ (dk s) (idx (nmP e.ae) (dk s)).toNat) e=cvS (nd s e.ae).fType e.av:=fun c=>hva c (by omega)
  clear h
  refine vO ?_;intros;refine AW.c (fun h=>?_) fun h=>?_
  ·(refine vU ?_;with_reducible repeat' first|exact Le.l|apply Sw|intro h)
   ·exact hfr _ (by assumption)
   ·exact hv1 (by assumption)
   ·exact hvb (by assumption)
   rw [NB h0 hw hk (by omega)];try rfl
  clear h
  rw [W6] at hjd hfr
  refine vO ?_;intros;refine AW.c (fun h=>?_) fun h=>?_
  ·(refine vU ?_;with_reducible repeat' first|exact Le.l|apply Sw|intro h)
   ·exact hfr _ (by assumption)
   ·exact hv1 (by assumption)
   ·exact hvb (by assumption)
   rw [NA h0 hw hk hf0 ho4 ho5];try rfl
  ·exfalso;omega
 obtain ⟨k,hf⟩:∃ k:Nat,fnd (at_ (dk s) (idx (nmP e.ae) (dk s)).toNat) l (bQ (at_ (dk s) (idx (nmP e.ae) (dk s)).toNat) e)=k:=⟨(fnd (at_ (dk s) (idx (nmP e.ae) (dk s)).toNat) l (bQ (at_ (dk s) (idx (nmP e.ae) (dk s)).toNat) e)).toNat,by omega⟩
 have hkl:k<l.length:=by omega
 have hck:=Bl (at_mem hkl)
 refine AW.c (fun h=>?_) fun h=>?_
 ·have ho:e.fOp=3:=by omega
  (refine vX ?_;with_reducible repeat' first|exact Le.l|apply Sw|intro h)
  refine AW.imp (Imp.fU 6 (x:=.v (.slice none 0 0)) (x':=.sl false 3 []) gO (fun _ _ _ _ r=>Rep.dY _ _ r) ?_)
  (refine vU ?_;with_reducible repeat' first|exact Le.l|apply Sw|intro h)
  rw [JW h0 hw hk hf ho];try rfl
 have ho3:¬ e.fOp=3:=by omega
 clear h
 refine vO ?_;intros;refine AW.c (fun h=>?_) fun h=>?_
 ·exfalso;omega
 clear h
 refine vO ?_;intros;refine AW.c (fun h=>?_) fun h=>?_
 ·(refine vU ?_;with_reducible repeat' first|exact Le.l|apply Sw|intro h)
  rw [JZ h0 hw hk (by show e.fOp=4/\¬ fnd (at_ (dk s) (idx (nmP e.ae) (dk s)).toNat) l (bQ (at_ (dk s) (idx (nmP e.ae) (dk s)).toNat) e)<0\/e.fOp=5;omega)];try rfl
 have ZN:¬ (e.fOp=4\/e.fOp=5):=by omega
 have hv1:(nd s e.ae).ai=3\/(nd s e.ae).ai=4->chV (at_ (dk s) (idx (nmP e.ae) (dk s)).toNat) e=cvS (nd s e.ae).fType e.av:=fun c=>hva c (by omega)
 clear h
 refine vO ?_;intros;refine AW.c (fun h=>?_) fun h=>?_
 ·(refine vU ?_;with_reducible repeat' first|exact Le.l|apply Sw|intro h)
  ·exact hfr _ (by assumption)
  ·exact hv1 (by assumption)
  ·exact hvb (by assumption)
  rw [NB h0 hw hk (by omega)];try rfl
 have ho1:e.fOp=1:=by omega
 clear h
 refine vO ?_;intros;refine AW.c (fun h=>?_) fun h=>?_
 ·exfalso;omega
 clear h
 simp only [hf]
 have hhit:=AZ hg hJ hi hk2 (by show 0<=fnd (at_ (dk s) (idx (nmP e.ae) (dk s)).toNat) l (bQ (at_ (dk s) (idx (nmP e.ae) (dk s)).toNat) e);omega)
 have hsm:same s (bQ (at_ (dk s) (idx (nmP e.ae) (dk s)).toNat) e) (at_ l k):=by
  have:=hhit.2
  have e2:(fnd (nd s e.ae) l (bQ (nd s e.ae) e)).toNat=k:=by
   show (fnd (at_ (dk s) (idx (nmP e.ae) (dk s)).toNat) l (bQ (at_ (dk s) (idx (nmP e.ae) (dk s)).toNat) e)).toNat=k
   omega
  rw [e2] at this;exact this
 have hna:((at_ (dk s) (idx (nmP e.ae) (dk s)).toNat)).ae=(at_ l k).ae:=hsm.1
 have hjx:=(mo.1 hJ).1 _ (at_mem hkl)
 have hnd:nd s (at_ l k).ae=(at_ (dk s) (idx (nmP e.ae) (dk s)).toNat):=by rw [<- hna,hnm.1]
 have hjk:((at_ (dk s) (idx (nmP e.ae) (dk s)).toNat)).ai=1\/((at_ (dk s) (idx (nmP e.ae) (dk s)).toNat)).ai=2->(at_ l k).av=[]/\J ((at_ (dk s) (idx (nmP e.ae) (dk s)).toNat)).af (at_ l k).af:=fun c=>by
  have:=hjx.2.2 (by rw [hnd];exact c)
  rw [hnd] at this;exact this
 have hmg:=JX (R:=mdE e.af) h0 hw hk hf ho1
 (refine vN ?_;with_reducible repeat' first|exact Le.l|apply Sw|intro h)
 first|refine AW.rB ?_|refine AW.wH ?_
 (refine vN ?_;with_reducible repeat' first|exact Le.l|apply Sw|intro h)
 rename Nat=>bx
 refine vO ?_;intros;refine AW.c (fun h=>?_) fun h=>?_
 ·have hbk:((at_ (dk s) (idx (nmP e.ae) (dk s)).toNat)).ai=1\/((at_ (dk s) (idx (nmP e.ae) (dk s)).toNat)).ai=2:=h
  obtain ⟨hav,hJk⟩:=hjk hbk
  have h3:¬ ((at_ (dk s) (idx (nmP e.ae) (dk s)).toNat)).ai=3:=by omega
  have hvv:chV (at_ (dk s) (idx (nmP e.ae) (dk s)).toNat) e=[]:=hvb (by show ¬ (((at_ (dk s) (idx (nmP e.ae) (dk s)).toNat)).ai=3\/((at_ (dk s) (idx (nmP e.ae) (dk s)).toNat)).ai=4);omega)
  clear h
  refine vO ?_;intros;refine AW.c (fun h=>?_) fun h=>?_
  ·(refine vX ?_;with_reducible repeat' first|exact Le.l|apply Sw|intro h)
   refine AW.imp (Imp.fU 6 (x:=.v (.slice none 0 0)) (x':=.sl false 3 []) gO (fun _ _ _ _ r=>Rep.dY _ _ r) ?_)
   (refine vU ?_;with_reducible repeat' first|exact Le.l|apply Sw|intro h)
   rw [hmg,mrg,if_neg h3,if_pos hbk,if_pos h];try rfl
  have hr0:(mdE e.af (at_ (dk s) (idx (nmP e.ae) (dk s)).toNat).af (at_ l k).af).2=0:=h
  clear h
  have hz:(mdE e.af (at_ (dk s) (idx (nmP e.ae) (dk s)).toNat).af (at_ l k).af).1=[]↔((mdE e.af (at_ (dk s) (idx (nmP e.ae) (dk s)).toNat).af (at_ l k).af).1.length:Int)=0:=by
   rw [<- List.length_eq_zero_iff];omega
  refine vO ?_;intros;refine AW.c (fun h=>?_) fun h=>?_
  ·(refine vU ?_;with_reducible repeat' first|exact Le.l|apply Sw|intro h)
   rw [hmg,mrg,if_neg h3,if_pos hbk,if_neg (fun c=>c hr0),if_pos (by grind),dl,if_pos (by omega)];try rfl
  ·have hcn:¬ (((at_ (dk s) (idx (nmP e.ae) (dk s)).toNat)).ai=1/\((at_ (dk s) (idx (nmP e.ae) (dk s)).toNat)).bF=false/\(mdE e.af (at_ (dk s) (idx (nmP e.ae) (dk s)).toNat).af (at_ l k).af).1=[]):=by grind
   clear h
   (refine vN ?_;with_reducible repeat' first|exact Le.l|apply Sw|intro h)
   (refine Z ?_;refine fun (K:_->_->Prop) hK=>?_;simp (maxSteps:=2000000) (disch:=omega) only [go_sem])
   (refine vN ?_;with_reducible repeat' first|exact Le.l|apply Sw|intro h)
   refine AW.imp (Imp.pJ 18 (sz:=3) (l:=l.map (aj false)) gO (eU _) (fun b hb=>?_) (fun hnil=>?_))
   rotate_left
   ·rw [List.map_eq_nil_iff] at hnil;rw [hnil] at hkl;exact absurd hkl (Nat.not_lt_zero _)
   have hb1:=hb.nf
   simp only [go_sem] at hb1
   rw [List.length_map,tP hkl]
   have hpl:(((l.take k).map (aj false)).flatMap AV.cells).length=k * 3:=by rw [rT,List.length_take];congr 1;omega
   have hql:=rT (l.drop (k+1))
   generalize hpre:((l.take k).map (aj false)).flatMap AV.cells=pre at *
   generalize hpost:((l.drop (k+1)).map (aj false)).flatMap AV.cells=post at *
   simp (maxSteps:=2000000) (disch:=omega) only [go_sem]
   have hset:((l.set k (.mk (at_ (dk s) (idx (nmP e.ae) (dk s)).toNat).ae (chV (at_ (dk s) (idx (nmP e.ae) (dk s)).toNat) e) (mdE e.af (at_ (dk s) (idx (nmP e.ae) (dk s)).toNat).af (at_ l k).af).1)).map (aj false)).flatMap AV.cells=(pre++.str (at_ (dk s) (idx (nmP e.ae) (dk s)).toNat).ae::.str (chV (at_ (dk s) (idx (nmP e.ae) (dk s)).toNat) e)::.sl false 3 (((mdE e.af (at_ (dk s) (idx (nmP e.ae) (dk s)).toNat).af (at_ l k).af).1).map (aj false))::post):=by rw [uC hkl,hpre,hpost];rfl
   have hlen:(pre++.str (at_ (dk s) (idx (nmP e.ae) (dk s)).toNat).ae::.str (chV (at_ (dk s) (idx (nmP e.ae) (dk s)).toNat) e)::.sl false 3 (((mdE e.af (at_ (dk s) (idx (nmP e.ae) (dk s)).toNat).af (at_ l k).af).1).map (aj false))::post).length=l.length * 3:=by
    simp only [List.length_append,List.length_cons,hpl,hql,List.length_drop];omega
   (refine vX ?_;with_reducible repeat' first|exact Le.l|apply Sw|intro h)
   refine AW.imp (Imp.fold 6 (b:=b) (len:=l.length) (sz:=3) (cells:=(pre++.str (at_ (dk s) (idx (nmP e.ae) (dk s)).toNat).ae::.str (chV (at_ (dk s) (idx (nmP e.ae) (dk s)).toNat) e)::.sl false 3 (((mdE e.af (at_ (dk s) (idx (nmP e.ae) (dk s)).toNat).af (at_ l k).af).1).map (aj false))::post)) (l:=(l.set k (.mk (at_ (dk s) (idx (nmP e.ae) (dk s)).toNat).ae (chV (at_ (dk s) (idx (nmP e.ae) (dk s)).toNat) e) (mdE e.af (at_ (dk s) (idx (nmP e.ae) (dk s)).toNat).af (at_ l k).af).1)).map (aj false)) gO (by simp (maxSteps:=2000000) (disch:=omega) only [go_sem];rw [List.take_left' hpl]) (by simp) (by rw [List.take_of_length_le (by rw [hlen];exact Nat.le_refl _)];exact hset) (eU _) ?_)
   refine AW.imp (Imp.frz 6 ?_)
   simp (maxSteps:=2000000) (disch:=omega) only [go_sem]
   (refine vU ?_;with_reducible repeat' first|exact Le.l|apply Sw|intro h)
   rw [hmg,mrg,if_neg h3,if_pos hbk,if_neg (fun c=>c hr0),if_neg hcn,hvv,hna,hav];try rfl
 ·have hbk:¬ (((at_ (dk s) (idx (nmP e.ae) (dk s)).toNat)).ai=1\/((at_ (dk s) (idx (nmP e.ae) (dk s)).toNat)).ai=2):=by omega
  clear h
  refine vO ?_;intros;refine AW.c (fun h=>?_) fun h=>?_
  ·exfalso;omega
  clear h
  (refine vN ?_;with_reducible repeat' first|exact Le.l|apply Sw|intro h)
  (refine Z ?_;refine fun (K:_->_->Prop) hK=>?_;simp (maxSteps:=2000000) (disch:=omega) only [go_sem])
  (refine vN ?_;with_reducible repeat' first|exact Le.l|apply Sw|intro h)
  refine AW.imp (Imp.pJ 18 (sz:=3) (l:=l.map (aj false)) gO (eU _) (fun b hb=>?_) (fun hnil=>?_))
  rotate_left
  ·rw [List.map_eq_nil_iff] at hnil;rw [hnil] at hkl;exact absurd hkl (Nat.not_lt_zero _)
  have hb1:=hb.nf
  simp only [go_sem] at hb1
  rw [List.length_map,tP hkl]
  have hpl:(((l.take k).map (aj false)).flatMap AV.cells).length=k * 3:=by rw [rT,List.length_take];congr 1;omega
  have hql:=rT (l.drop (k+1))
  generalize hpre:((l.take k).map (aj false)).flatMap AV.cells=pre at *
  generalize hpost:((l.drop (k+1)).map (aj false)).flatMap AV.cells=post at *
  simp (maxSteps:=2000000) (disch:=omega) only [go_sem]
  have hset:((l.set k (.mk (at_ (dk s) (idx (nmP e.ae) (dk s)).toNat).ae (chV (at_ (dk s) (idx (nmP e.ae) (dk s)).toNat) e) (at_ l k).af)).map (aj false)).flatMap AV.cells=(pre++.str (at_ (dk s) (idx (nmP e.ae) (dk s)).toNat).ae::.str (chV (at_ (dk s) (idx (nmP e.ae) (dk s)).toNat) e)::.sl false 3 (((at_ l k).af).map (aj false))::post):=by rw [uC hkl,hpre,hpost];rfl
  have hlen:(pre++.str (at_ (dk s) (idx (nmP e.ae) (dk s)).toNat).ae::.str (chV (at_ (dk s) (idx (nmP e.ae) (dk s)).toNat) e)::.sl false 3 (((at_ l k).af).map (aj false))::post).length=l.length * 3:=by
   simp only [List.length_append,List.length_cons,hpl,hql,List.length_drop];omega
  (refine vX ?_;with_reducible repeat' first|exact Le.l|apply Sw|intro h)
  refine AW.imp (Imp.fold 6 (b:=b) (len:=l.length) (sz:=3) (cells:=(pre++.str (at_ (dk s) (idx (nmP e.ae) (dk s)).toNat).ae::.str (chV (at_ (dk s) (idx (nmP e.ae) (dk s)).toNat) e)::.sl false 3 (((at_ l k).af).map (aj false))::post)) (l:=(l.set k (.mk (at_ (dk s) (idx (nmP e.ae) (dk s)).toNat).ae (chV (at_ (dk s) (idx (nmP e.ae) (dk s)).toNat) e) (at_ l k).af)).map (aj false)) gO (by simp (maxSteps:=2000000) (disch:=omega) only [go_sem];rw [List.take_left' hpl]) (by simp) (by rw [List.take_of_length_le (by rw [hlen];exact Nat.le_refl _)];exact hset) (eU _) ?_)
  refine AW.imp (Imp.frz 6 ?_)
  simp (maxSteps:=2000000) (disch:=omega) only [go_sem]
  (refine vU ?_;with_reducible repeat' first|exact Le.l|apply Sw|intro h)
  by_cases h3:(at_ (dk s) (idx (nmP e.ae) (dk s)).toNat).ai=3
  ·rw [hmg,mrg,if_pos h3,<- hna,hv1 (.inl h3)];try rfl
  ·have h4:(at_ (dk s) (idx (nmP e.ae) (dk s)).toNat).ai=4:=by omega
   have enk:nd s (bQ (at_ (dk s) (idx (nmP e.ae) (dk s)).toNat) e).ae=(at_ (dk s) (idx (nmP e.ae) (dk s)).toNat):=by rw [iT,hnm.1]
   have hval:chV (at_ (dk s) (idx (nmP e.ae) (dk s)).toNat) e=(at_ l k).av:=by
    have q:=hsm.2 (by rw [enk,gu,h4];rfl)
    rw [enk,(gC (by omega)).1,(gC (by omega)).1,sX h4] at q
    injection q with q
    rw [hv1 (.inr h4)];exact q
   rw [hmg,mrg,if_neg h3,if_neg hbk,O9 hna hval rfl,LL hkl];try rfl
end
end Go.Proofs
namespace Go.Ab
section
variable {L : Nat -> Nat} {P : Program} {ops : Array Oper} {Q : Exit -> Act -> World -> Prop}
def H8(R:Act->World->Prop):Exit->Act->World->Prop:=fun e a w=>e=.normal/\R a w
theorem Qj{R:Act->World->Prop}{o:Oper}{a:Act}{w:World}{K K':Act->World->Prop}(h:∀ a w,K a w->K' a w)(hh:o.wp P a w K (H8 R)):o.wp P a w K' Q:=by
 have hl:¬ LetsOut (H8 R):=by rintro ⟨_,_,h,_⟩;cases h
 unfold Oper.wp at *
 generalize (execOp a.eval o).run P w=r at *
 cases r with
 | ok n w' =>
  cases n<;>simp only [Oper.upon] at hh ⊢ <;>
   first
    | exact h _ _ hh
    | exact Calls.mono hh (fun e w'' he=>by cases e<;>first|exact h _ _ he|exact absurd he hl|exact absurd he.1 (by simp))
    | exact Rows.mono hh (fun _ _ he=>h _ _ he)
 | halt x w'=>cases x<;>simp only [Oper.upon] at hh ⊢<;>first|exact hh|exact absurd hh hl|exact absurd hh.1 (by simp)|exact hh.elim
theorem qo(l2:List Nat):∀ (l1:List Nat) (a:Act) (w:World),wpOps P ops (H8 (wpOps P ops Q l2)) l1 a w->wpOps P ops Q (l1++l2) a w
 | [],a,w,h=>h.2
 | i::l1,a,w,h=>by
  have hl:¬ LetsOut (H8 (wpOps P ops Q l2)):=by rintro ⟨_,_,h,_⟩;cases h
  simp only [List.cons_append,wpOps] at h ⊢
  split at h
  ·exact qo l2 l1 a w h
  ·split at h
   ·rename_i hw
    rw [if_pos hw]
    rcases h with h|⟨_,h⟩
    ·exact .inl (Qj (qo l2 l1) h)
    ·exact absurd h hl
   ·rename_i hw
    rw [if_neg hw]
    exact qo l2 l1 _ w h
theorem gK.app{s:AS}{K:AS->Prop}(l1 l2:List Nat)(h:gK L P ops l1 s (fun s'=>gK L P ops l2 s' K)):gK L P ops (l1++l2) s K:=by
 intro B F0 w0 a w Q hd hQ
 exact qo l2 l1 a w (h B F0 w0 a w _ hd fun s' a' w' h1 h2=>⟨rfl,h1 B F0 w0 a' w' Q h2 hQ⟩)
theorem AW.V3{n:Nat}{t:List (Nat×AV)}{o:Sto}{Q:Exit->AS->Prop}{id:Nat}(l1 l2:List Nat)(hl:List.range ops.size=l1++l2)
  (h:∀ K:List (Nat×AV)->Sto->Prop,(∀ t o,Imp L ⟨n,t,o⟩ (fun s'=>gK L P ops l2 s' (fun s'=>Q .normal s'))->K t o)->Wn L P ops n K l1 [] t o):AW L P (.region id ops false) ⟨n,t,o⟩ Q :=
 AW.region (by
  rw [hl]
  exact gK.app l1 l2 (Wn.nU (K:=fun t o=>Imp L ⟨n,t,o⟩ (fun s'=>gK L P ops l2 s' (fun s'=>Q .normal s'))) (fun _ _ h=>gK.imp h) _ _ _ (h _ (fun _ _ h=>h))))
theorem gK.wn{n:Nat}{t:List (Nat×AV)}{o:Sto}{K':AS->Prop}{l:List Nat}(h:∀ K:List (Nat×AV)->Sto->Prop,(∀ t o,K' ⟨n,t,o⟩->K t o)->Wn L P ops n K l [] t o):gK L P ops l ⟨n,t,o⟩ K' :=
 Wn.nU (K:=fun t o=>K' ⟨n,t,o⟩) (fun _ _ h=>h) _ _ _ (h _ (fun _ _ h=>h))
end
end Go.Ab
