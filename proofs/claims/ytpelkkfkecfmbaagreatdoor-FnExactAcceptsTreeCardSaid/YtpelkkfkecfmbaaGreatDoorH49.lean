/- Part of a proof. -/
import Derived.Test.YtpelkkfkecfmbaaGreatDoorH43
import Derived.Test.YtpelkkfkecfmbaaGreatDoorH48
set_option linter.all false
set_option maxRecDepth 20000
set_option maxHeartbeats 4000000
open Go.Proofs.Tryz
namespace Go.Proofs
open Go.Ab Go.Dt
attribute [-instance] cK dh cPf
set_option maxHeartbeats 1000000
attribute [local go_sem] aM aC aR dr dq jY iB oq
theorem QX:∀ (n:Nat) (s:List ae) (a b:List ah),Ctr lim prog 79 [] [.sl false 19 (s.map (aq false)),.sl false 3 (a.map (ak false)),.sl false 3 (b.map (ak false))] (.ac (fbL s a b)) [] (SizeOf.sizeOf a<n/\wtS s<=1048576/\(∀ x∈a,okX (dk s) x)/\(∀ x∈b,okX (dk s) x))
 | 0,_,a,_=>⟨(aU 79),fun h=>absurd h.1 (Nat.not_lt_zero _)⟩
 | n+1,s,a,b=>by
  have ih:=QX n;refine Ctr.bd func79 ntmps79 fun hp=>?_;have gOn:=aD.on;obtain ⟨hs,h1,ha,hb⟩:=hp;have hc:=j7 s;refine AW.f1 1 fun hf=>?_;refine vU1 ?_;refine AW.aw [8] [1,2,7] (fun m xs o=>∃ k:Nat,xs=[.aa k]/\o=[]/\m=a.length - k/\k<=a.length/\∀ x∈a.take k,fbX s b x=false) a.length [] trivial ⟨0,rfl,rfl,rfl,Ir,QC⟩ ?_;rintro m xs o ⟨k,rfl,rfl,rfl,hk,hR⟩;refine vK1 ?_;refine AW.c (fun h=>?_) fun h=>?_
  ·have hlk:k<a.length:=by simpa using h
   have hx:=ha _ (at_mem hlk)
   have hx0:=hx.1
   have hx1:=eO (p:=nmP (at_ a k).ag) (dk s)
   have hsz:=ah.du (at_mem hlk)
   have hnp:=u6 _ _ (AY hx).2
   have hka:=xQ hx
   have aeG:=xK hx.2
   have hkl:=VB (s:=s) hb hx
   have hfo:=fun hq=>NI (s:=s) (a:=b) (y:=(at_ a k)) hq hx
   have hX:fbX s b (at_ a k)=_:=rfl;rw [fbX] at hX;dsimp only [nd] at hfo hX hka;clear h;have ih:=ih (at_ (dk s) (idx (nmP (at_ a k).ag) (dk s)).toNat).af (at_ a k).af (at_ b (fnd (at_ (dk s) (idx (nmP (at_ a k).ag) (dk s)).toNat) b (at_ a k)).toNat).af;by_cases hj:(fnd (at_ (dk s) (idx (nmP (at_ a k).ag) (dk s)).toNat) b (at_ a k))<0
   ·have ej:decide (0<=(fnd (at_ (dk s) (idx (nmP (at_ a k).ag) (dk s)).toNat) b (at_ a k)))=false:=by simp;omega
    have hR2:fbX s b (at_ a k)=false:=by rw [fbX];dsimp only [nd];rw [decide_eq_false (by omega:¬ 0<=(fnd (at_ (dk s) (idx (nmP (at_ a k).ag) (dk s)).toNat) b (at_ a k)))];rfl
    clear hka hfo hX
    (refine vP1 ej ?_;with_reducible repeat first|intro (K:_->_->Prop) hK|intro h)
    exact ⟨_,[_],[],Ir,⟨k+1,rfl,rfl,rfl,Ir,aL (p:=fbX s b) hlk hR hR2⟩,rfl,gO⟩
   have ej:decide (0<=(fnd (at_ (dk s) (idx (nmP (at_ a k).ag) (dk s)).toNat) b (at_ a k)))=true:=by simp;omega
   obtain ⟨hj1,hj2,hj3⟩:=hfo Ir;have hy:=hb _ hj3
   have hkb:=xQ hy;dsimp only [nd] at hkb;rw [hj2] at hkb;have hX2:fbX s b (at_ a k)=((at_ (dk s) (idx (nmP (at_ a k).ag) (dk s)).toNat).cU && !((at_ b (fnd (at_ (dk s) (idx (nmP (at_ a k).ag) (dk s)).toNat) b (at_ a k)).toNat).ax == (at_ a k).ax) || fbL (at_ (dk s) (idx (nmP (at_ a k).ag) (dk s)).toNat).af (at_ a k).af (at_ b (fnd (at_ (dk s) (idx (nmP (at_ a k).ag) (dk s)).toNat) b (at_ a k)).toNat).af):=by rw [fbX];dsimp only [nd];rw [decide_eq_true (by omega:0<=(fnd (at_ (dk s) (idx (nmP (at_ a k).ag) (dk s)).toNat) b (at_ a k))),Bool.true_and]
   clear hX hfo
   haveI stop:∀ (ops:Array Oper) (t:daa) (o:Sto) (Q:Exit->AS->Prop),Rz (AW lim prog (.region 7 ops true) ⟨70,t,o⟩ Q) (MV 0 (p:=⟨AW lim prog (.region 7 ops true) ⟨70,t,o⟩ Q⟩)):=fun _ _ _ _=>⟨fun h=>h⟩
   haveI XL:∀ (ops:Array Oper) (c:Code) (t:daa) (o:Sto) (Q:Exit->AS->Prop),Rz (AW lim prog (.seq (.region 7 ops true) c) ⟨70,t,o⟩ Q) (MV 0 (p:=⟨AW lim prog (.seq (.region 7 ops true) c) ⟨70,t,o⟩ Q⟩)):=fun _ _ _ _ _=>⟨fun h=>h⟩
   (refine vK1 ?_;intro h)
   refine uV 0 ?_;clear stop XL
   cases e3:(at_ (dk s) (idx (nmP (at_ a k).ag) (dk s)).toNat).cU with
   | true =>
    by_cases hv:(at_ b (fnd (at_ (dk s) (idx (nmP (at_ a k).ag) (dk s)).toNat) b (at_ a k)).toNat).ax=(at_ a k).ax
    ·have ev:((at_ a k).ax == (at_ b (fnd (at_ (dk s) (idx (nmP (at_ a k).ag) (dk s)).toNat) b (at_ a k)).toNat).ax)=true:=by simp [hv]
     have hR2:fbX s b (at_ a k)=fbL (at_ (dk s) (idx (nmP (at_ a k).ag) (dk s)).toNat).af (at_ a k).af (at_ b (fnd (at_ (dk s) (idx (nmP (at_ a k).ag) (dk s)).toNat) b (at_ a k)).toNat).af:=by rw [hX2,e3];simp [hv]
     clear hX2
     (refine vQ3 (And.intro ej (And.intro e3 ev)) ?_ ?_ ?_<;>with_reducible repeat first|intro (K:_->_->Prop) hK|intro h)
     ·exact hka _ yG
     ·exact hkb _ yG
     clear hka hkb hb ha;refine AW.c (fun h=>?_) fun h=>?_
     ·refine vU1 ?_;rw [ql hlk (by rw [hR2];exact h)]
     ·refine vU1 ?_;exact ⟨_,[_],[],Ir,⟨k+1,rfl,rfl,rfl,Ir,aL (p:=fbX s b) hlk hR (by rw [hR2];exact h)⟩,rfl,gO⟩
    ·have ev:((at_ a k).ax == (at_ b (fnd (at_ (dk s) (idx (nmP (at_ a k).ag) (dk s)).toNat) b (at_ a k)).toNat).ax)=false:=by simp;first|exact hv|exact fun e=>hv e.symm
     have hR2:fbX s b (at_ a k)=true:=by rw [hX2,e3];simp [hv]
     clear hka hkb hX2
     (refine vP1 (And.intro ej (And.intro e3 ev)) ?_;with_reducible repeat first|intro (K:_->_->Prop) hK|intro h)
     rw [ql hlk hR2]
   | false =>
     have hR2:fbX s b (at_ a k)=fbL (at_ (dk s) (idx (nmP (at_ a k).ag) (dk s)).toNat).af (at_ a k).af (at_ b (fnd (at_ (dk s) (idx (nmP (at_ a k).ag) (dk s)).toNat) b (at_ a k)).toNat).af:=by rw [hX2,e3];simp
     clear hX2
     (refine vQ3 (And.intro ej e3) ?_ ?_ ?_<;>with_reducible repeat first|intro (K:_->_->Prop) hK|intro h)
     ·exact hka _ yG
     ·exact hkb _ yG
     clear hka hkb hb ha;refine AW.c (fun h=>?_) fun h=>?_
     ·refine vU1 ?_;rw [ql hlk (by rw [hR2];exact h)]
     ·refine vU1 ?_;exact ⟨_,[_],[],Ir,⟨k+1,rfl,rfl,rfl,Ir,aL (p:=fbX s b) hlk hR (by rw [hR2];exact h)⟩,rfl,gO⟩
  ·have hn:¬ k<a.length:=by simpa using h
   refine vU1 ?_;rw [NQ hn hR]
end Go.Proofs
namespace Go.Dt
open Go Go.Ab
def xJ{s:List ae}{l:List ah}(h:bV s l=true):∀ x∈l,okX (dk s) x:=by simp only [bV,Bool.and_eq_true] at h;exact om h.2
def LL(fmt:Int->Str)(d:bJ)(l:List ah):Bool:=d.fUp && decide (d.xY=0) && (decide (d.bH.lK=0) || decide (d.bH.lK=1)) && !d.bH.cO.fOn && nW fmt d.bH.bW l && !fbT d.bH.bW d.bH.cY l
end Go.Dt
namespace Go.Proofs
open Go.Ab Go.Dt
set_option maxHeartbeats 1000000
attribute [local go_sem] aM aC aR oq iB
attribute [-instance] cK dh
instance ZC(s:List ae)(a b:List ah):Ctr lim prog 44 [] [.sl false 19 (s.map (aq false)),.sl false 3 (a.map (ak false)),.sl false 3 (b.map (ak false))] (.ac (fbT s a b)) [] (wtS s<=1048576/\wt a<=1048576/\wt b<=1048576):=by
 have hq:=Q3 (SizeOf.sizeOf a+1) s a b;refine Ctr.bd func44 ntmps44 fun hp=>?_;have gOn:=aD.on;obtain ⟨h1,h2,h3⟩:=hp
 cases e1:bV s a with
 | false =>
  rw [show fbT s a b=false by rw [fbT,e1];rfl];exact vP0 e1
 | true =>
  cases e2:bV s b with
  | false =>
   rw [show fbT s a b=false by rw [fbT,e1,e2];rfl];exact vP0 (And.intro e1 e2)
  | true =>
   rw [show fbT s a b=fbL s a b by rw [fbT,e1,e2];rfl];have ha:=xJ e1
   have hb:=xJ e2
   (refine vP2 (And.intro e1 e2) ?_ ?_<;>with_reducible repeat first|intro (K:_->_->Prop) hK|intro h)
   all_goals first|exact ha _ yG|exact hb _ yG|rfl
instance Zh(s:List ae)(a b:List ah):Ctr lim prog 42 [] [.sl false 19 (s.map (aq false)),.sl false 3 (a.map (ak false)),.sl false 3 (b.map (ak false))] (.ac (fbT s a b)) [] (wtS s<=1048576/\wt a<=1048576/\wt b<=1048576):=by
 have hq:=QX (SizeOf.sizeOf a+1) s a b;refine Ctr.bd func42 ntmps42 fun hp=>?_;have gOn:=aD.on;obtain ⟨h1,h2,h3⟩:=hp
 cases e1:bV s a with
 | false =>
  rw [show fbT s a b=false by rw [fbT,e1];rfl];exact vP0 e1
 | true =>
  cases e2:bV s b with
  | false =>
   rw [show fbT s a b=false by rw [fbT,e1,e2];rfl];exact vP0 (And.intro e1 e2)
  | true =>
   rw [show fbT s a b=fbL s a b by rw [fbT,e1,e2];rfl];have ha:=xJ e1
   have hb:=xJ e2
   (refine vP2 (And.intro e1 e2) ?_ ?_<;>with_reducible repeat first|intro (K:_->_->Prop) hK|intro h)
   all_goals first|exact ha _ yG|exact hb _ yG|rfl
instance adz(x:bJ)(l:List ah):Ctr lim prog 15 [] [.agg (cDe x),.sl false 3 (l.map (ak false))] (.ac (LL Lib.itoa x l)) [] (q4 x/\wt l<=1048576):=by
 refine Ctr.bd func15 ntmps15 fun hp=>?_;have gOn:=aD.on;obtain ⟨⟨⟨h1,h2,h3,h4,h5⟩,hb⟩,hl⟩:=hp
 (refine vU1 ?_;intro h)
 all_goals first|rfl|(refine congrArg (fun b=>AV.ac b) ?_;rw [Bool.eq_iff_iff];simp [LL];try (intros;omega))
instance ac7(x:bJ)(l:List ah):Ctr lim prog 13 [] [.agg (cDe x),.sl false 3 (l.map (ak false))] (.ac (LL Lib.itoa x l)) [] (q4 x/\wt l<=1048576):=by
 refine Ctr.bd func13 ntmps13 fun hp=>?_;have gOn:=aD.on;obtain ⟨⟨⟨h1,h2,h3,h4,h5⟩,hb⟩,hl⟩:=hp
 (refine vU1 ?_;intro h)
 all_goals first|rfl|(refine congrArg (fun b=>AV.ac b) ?_;rw [Bool.eq_iff_iff];simp [LL];try (intros;omega))
end Go.Proofs
