/- Part of a proof. -/
import Derived.Test.YtpelkkfkecfmbaaGreatDoorH30
set_option linter.all false
set_option maxRecDepth 20000
set_option maxHeartbeats 4000000
open Go.Proofs.Tryz
namespace Go.Dt
open Go Go.Ab
def fbL:List ae->List ah->List ah->Bool
 | _,[],_=>false
 | s,.mk nm v ks::xs,b=>(decide (0<=fnd (nd s nm) b (.mk nm v ks)) && ((nd s nm).cU && !((at_ b (fnd (nd s nm) b (.mk nm v ks)).toNat).ax == v) || fbL (nd s nm).af ks (at_ b (fnd (nd s nm) b (.mk nm v ks)).toNat).af)) || fbL s xs b
def fbX(s:List ae)(b:List ah)(x:ah):Bool:=decide (0<=fnd (nd s x.ag) b x) && ((nd s x.ag).cU && !((at_ b (fnd (nd s x.ag) b x).toNat).ax == x.ax) || fbL (nd s x.ag).af x.af (at_ b (fnd (nd s x.ag) b x).toNat).af)
def CO:∀ (a:List ah) (s:List ae) (b:List ah),fbL s a b=a.any (fbX s b)
 | [],s,b=>by rw [fbL];rfl
 | .mk nm v ks::xs,s,b=>by rw [fbL,List.any_cons,CO xs];rfl
def ql{s:List ae}{a b:List ah}{k:Nat}(hk:k<a.length)(h:fbX s b (at_ a k)=true):fbL s a b=true:=by rw [CO,List.any_eq_true];exact ⟨_,at_mem hk,h⟩
def NQ{s:List ae}{a b:List ah}{k:Nat}(hk:¬ k<a.length)(h:∀ x∈a.take k,fbX s b x=false):fbL s a b=false:=by rw [List.take_of_length_le Ir] at h;rw [CO,List.any_eq_false];intro x hx;rw [h x hx];simp
def fbT(s:List ae)(a b:List ah):Bool:=bV s a && bV s b && fbL s a b
def xQ{s:List ae}{x:ah}(hx:okX (dk s) x):∀ k∈x.af,okX (dk (nd s x.ag).af) k:=by
 by_cases h:(nd s x.ag).aj=3\/(nd s x.ag).aj=4
 ·intro k hk;rw [Pc hx.2 h] at hk;simp at hk
 ·exact VC hx h
end Go.Dt
namespace Go.Proofs
open Go.Ab Go.Dt
section
attribute [local go_sem] aM aC dr dq jY iB
attribute [-instance] mD
instance acB(s:List ae)(nm:Str):Ctr lim prog 119 [] [.sl false 19 (s.map (aq false)),.sl false 1 [.str nm]] (.tup [aq false (at_ (dk s) (idx (nmP nm) (dk s)).toNat),.ac true]) [] (0<=idx (nmP nm) (dk s)/\aH s<=1048576):=by
 refine Ctr.bd func119 ntmps119 fun hp=>?_;have gOn:=aD.on;obtain ⟨hi,hc⟩:=hp;have hj:=eO (p:=nmP nm) (dk s);refine AW.f1 0 fun hf=>?_
 (refine bU1 ?_;intro h h h)
 rename_i a b;refine AW.aw [0,14] [1,4,5,6,12,13] (fun m xs o=>(xs=[.sl false 19 (s.map (aq false)),.aa 0]/\o=[(b,some cZe),(a,some cZe)]/\m=1)\/(xs=[.sl false 19 ((at_ (dk s) (idx (nmP nm) (dk s)).toNat).af.map (aq false)),.aa 1]/\o=[(b,some (cSc (at_ (dk s) (idx (nmP nm) (dk s)).toNat))),(a,some cZe)]/\m=0)) 1 [(b,some cZe),(a,some cZe)] gO (.inl ⟨rfl,rfl,rfl⟩) ?_;rintro m xs o (⟨rfl,rfl,rfl⟩|⟨rfl,rfl,rfl⟩)
 ·(refine vU1 ?_;intro h h h)
  refine ⟨.str nm,fun _=>⟨baa,rfl,rfl⟩,?_⟩;refine vU1 ?_;refine h _ _ ?_
  (refine vU1 ?_;intro h)
  exact ⟨_,_,_,Nat.zero_lt_one,.inr ⟨rfl,rfl,rfl⟩,rfl,gO⟩
 ·(refine vU1 ?_;intro h)
  rfl
end
section
attribute [local go_sem] aM aC aR dr dq
end
section
attribute [local go_sem] aM aC aR dr dq
instance acW(a b:List Str):Ctr lim prog 208 [] [.sl false 1 (a.map AV.str),.sl false 1 (b.map AV.str)] (.ac (a == b)) [] True:=by
 refine Ctr.bd func208 ntmps208 fun hp=>?_;have gOn:=aD.on;refine AW.f1 0 fun hf=>?_;refine vK1 ?_;refine AW.c (fun h=>?_) fun h=>?_
 ·refine vU1 ?_;rw [show (a == b)=false by rw [beq_eq_false_iff_ne];intro e;rw [e] at h;exact h rfl]
 have hle:a.length=b.length:=by omega
 clear h;refine vK1 ?_;refine AW.aw [13] [0,1,12] (fun m xs o=>∃ k:Nat,xs=[.aa k]/\o=[]/\m=a.length - k/\k<=a.length/\(a.drop k == b.drop k)=(a == b)) a.length [] trivial ⟨0,?_,rfl,rfl,?_,rfl⟩ ?_
 ·rfl
 ·omega
 rintro m xs o ⟨k,rfl,rfl,rfl,hk,hR⟩
 (refine vU3 ?_ ?_ ?_<;>with_reducible repeat intro h)
 ·rw [<- hR,bq yG,bq (l:=b) Ir];have:(at_ a k == at_ b k)=false:=by simpa using h
  rw [List.cons_beq_cons,this];try rfl
 ·exact ⟨_,[_],_,Ir,⟨k+1,rfl,rfl,rfl,Ir,by rw [<- hR,bq (l:=a) (k:=k) yG,bq (l:=b) (k:=k) Ir,List.cons_beq_cons,h,beq_self_eq_true,Bool.true_and]⟩,rfl,gO⟩
 ·rw [<- hR,fY h,fY Ir];try rfl
instance Yj(n:ae)(x y:ah):Ctr lim prog 166 [] [.agg (cSc n),.agg (cNo x),.agg (cNo y)] (.ac (skB n x y)) [] True:=by
 refine Ctr.bd func166 ntmps166 fun hp=>?_;have gOn:=aD.on
 (refine vU4 ?_ ?_ ?_ ?_<;>with_reducible repeat intro h)
 ·rw [skB,show fG n.aj=false by rw [fG];simp;grind];try rfl
 ·rename_i h';rw [skB,show fG n.aj=true by rw [fG];simp;grind,h.1,h.2];try rfl
 ·exfalso;grind
 ·rename_i h' h2;refine congrArg (fun b=>AV.ac b) ?_;rw [skB,show fG n.aj=true by rw [fG];simp;grind];grind
instance ZE(n:ae)(l:List ah)(x:ah):Ctr lim prog 120 [] [.agg (cSc n),.sl false 3 (l.map (ak false)),.agg (cNo x)] (.aa (fnd n l x)) [] True:=by
 refine Ctr.bd func120 ntmps120 fun hp=>?_;have gOn:=aD.on;refine AW.f1 1 fun hf=>?_;refine vK1 ?_;refine AW.aw [11] [3,5,9,10] (fun m xs o=>∃ k:Nat,xs=[.aa k]/\o=[]/\m=l.length - k/\k<=l.length/\∀ y∈l.take k,fiP n x y=false) l.length [] trivial ⟨0,?_,rfl,rfl,?_,?_⟩ ?_
 ·rfl
 ·omega
 ·simp
 rintro m xs o ⟨k,rfl,rfl,rfl,hk,hR⟩
 (refine vU3 ?_ ?_ ?_<;>with_reducible repeat intro h)
 ·rw [fnd,gV (p:=fiP n x) yG hR (by rw [fiP];grind)]
 ·exact ⟨_,[_],_,Ir,⟨k+1,rfl,rfl,rfl,Ir,aL yG hR (by rw [fiP];grind)⟩,rfl,gO⟩
 ·rw [fnd,jo h hR]
end
section
def Wz(l:List bA):(l.map (j6 true)).all (AV.elem 4)=true:=bL (fun x=>by rw [Bv];try rfl) l
def Wy(l:List bA):((l.map (j6 true)).flatMap AV.cells).all AV.one=true:=cf (fun x=>by rw [Bv];try rfl) l
attribute [local go_sem] aM aC aR dr dq Wz Wy
instance ab8(n:ae)(l:List ah)(v:Str)(key:List Str):Ctr lim prog 165 [] [.agg (cSc n),.sl false 3 (l.map (ak false)),.str v,.sl false 1 (key.map AV.str)] (.aa (idx (fsP n v key) l)) [] (∀ y∈l,y.ag=n.ag->kyB n y=true):=by
 refine Ctr.bd func165 ntmps165 fun hp=>?_;have gOn:=aD.on;refine AW.f1 1 fun hf=>?_;refine vK1 ?_;refine AW.aw [9] [1,2,3,4] (fun m xs o=>∃ k:Nat,xs=[.aa k]/\o=[]/\m=l.length - k/\k<=l.length/\∀ y∈l.take k,fsP n v key y=false) l.length [] trivial ⟨0,?_,rfl,rfl,?_,?_⟩ ?_
 ·rfl
 ·omega
 ·simp
 rintro m xs o ⟨k,rfl,rfl,rfl,hk,hR⟩;have hky:k<l.length->(at_ l k).ag=n.ag->kyB n (at_ l k)=true:=fun h=>hp _ (at_mem h)
 haveI:=Ax n (at_ l k)
 (refine vU5 ?_ ?_ ?_ ?_ ?_<;>with_reducible repeat intro h)
 ·exact ⟨_,[_],_,Ir,⟨k+1,rfl,rfl,rfl,Ir,aL yG hR (by rw [fsP];grind)⟩,rfl,gO⟩
 ·rename_i h';rw [gV (p:=fsP n v key) yG hR (by rw [fsP];grind)]
 ·rename_i h' h2;rw [gV (p:=fsP n v key) yG hR (by rw [fsP];grind)]
 ·rename_i h' h2;exact ⟨_,[_],_,Ir,⟨k+1,rfl,rfl,rfl,Ir,aL yG hR (by rw [fsP];grind)⟩,rfl,gO⟩
 ·rw [jo h hR]
instance aaf(n:ae)(l:List ah)(x:ah):Ctr lim prog 118 [] [.agg (cSc n),.sl false 3 (l.map (ak false)),.agg (cNo x)] (.aa (fnd n l x)) [] (kyB n x=true/\∀ y∈l,y.ag=n.ag->kyB n y=true):=by refine Ctr.bd func118 ntmps118 fun hp=>?_;have gOn:=aD.on;obtain ⟨h1,h2⟩:=hp;haveI:=Ax n x;refine vU1 ?_;rw [Wq h1 h2]
end
section
set_option maxHeartbeats 1000000
attribute [local go_sem] aM aC aR dr dq jY iB oq
theorem Q3:∀ (n:Nat) (s:List ae) (a b:List ah),Ctr lim prog 80 [] [.sl false 19 (s.map (aq false)),.sl false 3 (a.map (ak false)),.sl false 3 (b.map (ak false))] (.ac (fbL s a b)) [] (SizeOf.sizeOf a<n/\wtS s<=1048576/\(∀ x∈a,okX (dk s) x)/\(∀ x∈b,okX (dk s) x))
 | 0,_,a,_=>⟨(aU 80),fun h=>absurd h.1 (Nat.not_lt_zero _)⟩
 | n+1,s,a,b=>by
  have ih:=Q3 n;refine Ctr.bd func80 ntmps80 fun hp=>?_;have gOn:=aD.on;obtain ⟨hs,h1,ha,hb⟩:=hp;have hc:=j7 s
  haveI fz:∀ (sz:Nat) (x:AV) (l:List AV) (C:List Nat) (K:AV->List Nat->Prop),Rl (bsK sz (x::l) C (K:=⟨K⟩)) (K (.sl false sz (AV.bg (x::l))) C):=fun _ _ _ _ _=>⟨.inr⟩
  refine AW.f1 1 fun hf=>?_;refine vU1 ?_;refine AW.aw [14] [0,2,12,13] (fun m xs o=>∃ k:Nat,xs=[.aa k]/\o=[]/\m=a.length - k/\k<=a.length/\∀ x∈a.take k,fbX s b x=false) a.length [] trivial ⟨0,rfl,rfl,rfl,Ir,QC⟩ ?_;rintro m xs o ⟨k,rfl,rfl,rfl,hk,hR⟩;refine vK1 ?_;refine AW.c (fun h=>?_) fun h=>?_
  ·have hlk:k<a.length:=by simpa using h
   have hx:=ha _ (at_mem hlk)
   have hx0:=hx.1
   have hx1:=eO (p:=nmP (at_ a k).ag) (dk s)
   have hsz:=ah.du (at_mem hlk)
   have hnp:=u6 _ _ (AY hx).2
   have hka:=xQ hx
   have hfo:=fun hq=>NI (s:=s) (a:=b) (y:=(at_ a k)) hq hx
   have hX:fbX s b (at_ a k)=_:=rfl;rw [fbX] at hX;dsimp only [nd] at hfo hX hka;clear h;have ih:=ih (at_ (dk s) (idx (nmP (at_ a k).ag) (dk s)).toNat).af (at_ a k).af (at_ b (fnd (at_ (dk s) (idx (nmP (at_ a k).ag) (dk s)).toNat) b (at_ a k)).toNat).af;by_cases hj:(fnd (at_ (dk s) (idx (nmP (at_ a k).ag) (dk s)).toNat) b (at_ a k))<0
   ·have ej:decide ((fnd (at_ (dk s) (idx (nmP (at_ a k).ag) (dk s)).toNat) b (at_ a k))<0)=true:=by simp;omega
    have hR2:fbX s b (at_ a k)=false:=by rw [fbX];dsimp only [nd];rw [decide_eq_false (by omega:¬ 0<=(fnd (at_ (dk s) (idx (nmP (at_ a k).ag) (dk s)).toNat) b (at_ a k)))];rfl
    clear hka hfo hX
    (refine vP1 ej ?_;with_reducible repeat first|intro (K:_->_->Prop) hK|intro h)
    exact ⟨_,[_],[],Ir,⟨k+1,rfl,rfl,rfl,Ir,aL (p:=fbX s b) hlk hR hR2⟩,rfl,gO⟩
   have ej:decide ((fnd (at_ (dk s) (idx (nmP (at_ a k).ag) (dk s)).toNat) b (at_ a k))<0)=false:=by simp;omega
   obtain ⟨hj1,hj2,hj3⟩:=hfo Ir;have hy:=hb _ hj3
   have hkb:=xQ hy;dsimp only [nd] at hkb;rw [hj2] at hkb;have hX2:fbX s b (at_ a k)=((at_ (dk s) (idx (nmP (at_ a k).ag) (dk s)).toNat).cU && !((at_ b (fnd (at_ (dk s) (idx (nmP (at_ a k).ag) (dk s)).toNat) b (at_ a k)).toNat).ax == (at_ a k).ax) || fbL (at_ (dk s) (idx (nmP (at_ a k).ag) (dk s)).toNat).af (at_ a k).af (at_ b (fnd (at_ (dk s) (idx (nmP (at_ a k).ag) (dk s)).toNat) b (at_ a k)).toNat).af):=by rw [fbX];dsimp only [nd];rw [decide_eq_true (by omega:0<=(fnd (at_ (dk s) (idx (nmP (at_ a k).ag) (dk s)).toNat) b (at_ a k))),Bool.true_and]
   clear hX hfo
   (refine vQ1 ej ?_;with_reducible repeat first|intro (K:_->_->Prop) hK|intro h)
   refine AW.e fun h=>?_;refine vN1 ?_
   cases e3:(at_ (dk s) (idx (nmP (at_ a k).ag) (dk s)).toNat).cU with
   | true =>
    by_cases hv:(at_ b (fnd (at_ (dk s) (idx (nmP (at_ a k).ag) (dk s)).toNat) b (at_ a k)).toNat).ax=(at_ a k).ax
    ·have ev:((at_ b (fnd (at_ (dk s) (idx (nmP (at_ a k).ag) (dk s)).toNat) b (at_ a k)).toNat).ax == (at_ a k).ax)=true:=by simp [hv]
     have hR2:fbX s b (at_ a k)=fbL (at_ (dk s) (idx (nmP (at_ a k).ag) (dk s)).toNat).af (at_ a k).af (at_ b (fnd (at_ (dk s) (idx (nmP (at_ a k).ag) (dk s)).toNat) b (at_ a k)).toNat).af:=by rw [hX2,e3];simp [hv]
     clear hX2
     (refine vQ3 (And.intro ej (And.intro e3 ev)) ?_ ?_ ?_<;>with_reducible repeat first|intro (K:_->_->Prop) hK|intro h)
     ·exact hka _ yG
     ·exact hkb _ yG
     clear hka hkb hb ha;refine AW.c (fun h=>?_) fun h=>?_
     ·refine vU1 ?_;rw [ql hlk (by rw [hR2];exact h)]
     ·refine vU1 ?_;exact ⟨_,[_],[],Ir,⟨k+1,rfl,rfl,rfl,Ir,aL (p:=fbX s b) hlk hR (by rw [hR2];exact h)⟩,rfl,gO⟩
    ·have ev:((at_ b (fnd (at_ (dk s) (idx (nmP (at_ a k).ag) (dk s)).toNat) b (at_ a k)).toNat).ax == (at_ a k).ax)=false:=by simp;first|exact hv|exact fun e=>hv e.symm
     have hR2:fbX s b (at_ a k)=true:=by rw [hX2,e3];simp [hv]
     clear hka hkb hX2
     (refine vP1 (And.intro ej (And.intro e3 ev)) ?_;with_reducible repeat first|intro (K:_->_->Prop) hK|intro h)
     rw [ql hlk hR2]
   | false =>
     have hR2:fbX s b (at_ a k)=fbL (at_ (dk s) (idx (nmP (at_ a k).ag) (dk s)).toNat).af (at_ a k).af (at_ b (fnd (at_ (dk s) (idx (nmP (at_ a k).ag) (dk s)).toNat) b (at_ a k)).toNat).af:=by rw [hX2,e3];simp
     clear hX2
     (refine vQ3 (And.intro ej e3) ?_ ?_ ?_<;>with_reducible repeat first|intro (K:_->_->Prop) hK|intro h)
     ·exact hka _ yG
     ·exact hkb _ yG
     clear hka hkb hb ha;refine AW.c (fun h=>?_) fun h=>?_
     ·refine vU1 ?_;rw [ql hlk (by rw [hR2];exact h)]
     ·refine vU1 ?_;exact ⟨_,[_],[],Ir,⟨k+1,rfl,rfl,rfl,Ir,aL (p:=fbX s b) hlk hR (by rw [hR2];exact h)⟩,rfl,gO⟩
  ·have hn:¬ k<a.length:=by simpa using h
   refine vU1 ?_;rw [NQ hn hR]
end
end Go.Proofs
