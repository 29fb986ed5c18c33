/- Part of a proof. -/
import Derived.Deep.LoopGhost
import Derived.Lib.AppendZerosOnto
import Derived.Lib.Overlaps
import Derived.Test.YtpelkkfkecfmbaaGreatDoorH33
set_option linter.all false
set_option maxRecDepth 20000
set_option maxHeartbeats 4000000
open Go.Proofs.Tryz
namespace Go.Proofs
open Go.Ab Go.Dt
attribute [local go_sem] aM dS aR qu FW KL
theorem DI(l:List ah)(q:List Int)(x:ah):Ctr lim prog 290 [] [.sl false 3 (l.map (ak false)),.sl false 1 (q.map iV)] (.tup [.agg (FW x),.ac true]) [] (iJ l q=some x):=by
 refine Ctr.bd func290 ntmps290 fun hp=>?_;have gOn:=aD.on;rw [Cd] at hp;refine AW.f1 1 fun hf=>?_
 (refine vU1 ?_;intro h h h)
 rename_i a c;refine AW.aw [0,12] [1,4,6,10,11] (fun m xs o=>∃ (k:Nat) (cur:List ah) (last:Option ah),xs=[.sl false 3 (cur.map (ak false)),.aa k]/\o=[(c,some (KL last)),(a,some qu)]/\m=q.length - k/\k<=q.length/\last.isSome=decide (0<k)/\mO cur (q.drop k) last=some x) q.length [(c,some qu),(a,some qu)] gO ⟨0,l,none,rfl,rfl,rfl,Nat.zero_le _,rfl,hp⟩ ?_;rintro m xs o ⟨k,cur,last,rfl,rfl,rfl,hk,hk0,hR⟩;have hst:=fun a b=>Dv (l:=cur) (q:=q) (k:=k) (last:=last) a b
 have hbd:=fun a b=>FY (l:=cur) (q:=q) (k:=k) (last:=last) a b
 have hen:=fun a=>FX (l:=cur) (q:=q) (k:=k) (last:=last) a
 cases last with
 | none =>
  (refine vU3 ?_ ?_ ?_<;>with_reducible repeat intro h)
  ·exact absurd ((hbd yG h).symm.trans hR) QC
  ·exact ⟨_,[_,_],_,Ir,⟨k+1,(at_ cur (at_ q k).toNat).af,some (at_ cur (at_ q k).toNat),rfl,rfl,rfl,Ir,QC,by rw [<- hR,hst yG Ir]⟩,rfl,gO⟩
  ·exact absurd ((hen h).symm.trans hR) QC
 | some y =>
  simp only [Option.isSome_some] at hk0;refine vK1 ?_;refine AW.c (fun h=>?_) fun h=>?_
  ·(refine vU2 ?_ ?_<;>with_reducible repeat intro h)
   ·exact absurd ((hbd yG h).symm.trans hR) QC
   ·exact ⟨_,[_,_],_,Ir,⟨k+1,(at_ cur (at_ q k).toNat).af,some (at_ cur (at_ q k).toNat),rfl,rfl,rfl,Ir,QC,by rw [<- hR,hst yG Ir]⟩,rfl,gO⟩
  ·have e:=(hen h).symm.trans hR;cases e;have h0:=of_decide_eq_true hk0.symm
   have hd:decide (0<(q.length:Int))=true:=decide_eq_true Ir
   have hd2:0<(q.length:Int):=by omega
   exact vP0 hd
theorem Gt(l:List ah)(q:List Int):Ctr lim prog 290 [] [.sl false 3 (l.map (ak false)),.sl false 1 (q.map iV)] (.tup [.agg qu,.ac false]) [] (iJ l q=none):=by
 refine Ctr.bd func290 ntmps290 fun hp=>?_;have gOn:=aD.on;rw [Cd] at hp;refine AW.f1 1 fun hf=>?_
 (refine vU1 ?_;intro h h h)
 rename_i a c;refine AW.aw [0,12] [1,4,6,10,11] (fun m xs o=>∃ (k:Nat) (cur:List ah) (last:Option ah),xs=[.sl false 3 (cur.map (ak false)),.aa k]/\o=[(c,some (KL last)),(a,some qu)]/\m=q.length - k/\k<=q.length/\last.isSome=decide (0<k)/\mO cur (q.drop k) last=none) q.length [(c,some qu),(a,some qu)] gO ⟨0,l,none,rfl,rfl,rfl,Nat.zero_le _,rfl,hp⟩ ?_;rintro m xs o ⟨k,cur,last,rfl,rfl,rfl,hk,hk0,hR⟩;have hst:=fun a b=>Dv (l:=cur) (q:=q) (k:=k) (last:=last) a b
 have hbd:=fun a b=>FY (l:=cur) (q:=q) (k:=k) (last:=last) a b
 have hen:=fun a=>FX (l:=cur) (q:=q) (k:=k) (last:=last) a
 cases last with
 | none =>
  simp only [Option.isSome_none] at hk0;refine vK1 ?_;refine AW.c (fun h=>?_) fun h=>?_
  ·(refine vU1 ?_;intro h)
   exact ⟨_,[_,_],_,Ir,⟨k+1,(at_ cur (at_ q k).toNat).af,some (at_ cur (at_ q k).toNat),rfl,rfl,rfl,Ir,QC,by rw [<- hR,hst yG Ir]⟩,rfl,gO⟩
  ·have h0:=of_decide_eq_false hk0.symm
   have hd:decide (0<(q.length:Int))=false:=decide_eq_false Ir;exact vP0 hd
 | some y =>
  (refine vU2 ?_ ?_<;>with_reducible repeat intro h)
  ·exact ⟨_,[_,_],_,Ir,⟨k+1,(at_ cur (at_ q k).toNat).af,some (at_ cur (at_ q k).toNat),rfl,rfl,rfl,Ir,QC,by rw [<- hR,hst yG Ir]⟩,rfl,gO⟩
  ·exact absurd ((hen yG).symm.trans hR) QC
theorem Nx(l:List ah)(q:List Int):Ctr lim prog 321 [] [.sl false 3 (l.map (ak false)),.sl false 1 (q.map iV)] (.sl false 3 ((cL l q).map (ak false))) [] True:=by
 refine Ctr.bd func321 ntmps321 fun hp=>?_;have gOn:=aD.on;refine vK1 ?_;refine AW.c (fun h=>?_) fun h=>?_
 ·have hq:q=[]:=List.eq_nil_of_length_eq_zero Ir;subst hq;rw [cL]
  all_goals exact uU
 ·have hq:0<q.length:=by omega
  cases hn:iJ l q with
  | some x =>
   haveI hi:=DI l q x;rw [Gl hq,hn]
   all_goals exact uU
  | none =>
   haveI hi:=Gt l q;rw [Gl hq,hn]
   (refine vX1 ?_;intro h)
   refine AW.ret (EndsG.imp (Imp.Kr 4 (x:=.v (.slice none 0 0)) (x':=.sl false 3 []) gO (fun _ _ _ _ r=>Rep.jf _ _ r) ?_));refine EndsG.fin rfl ?_;exact gO
theorem Mm(l:List ah)(q:List Int):Ctr lim prog 266 [] [.sl false 3 (l.map (ak false)),.sl false 1 (q.map iV)] (.sl false 3 ((cL l q).map (ak false))) [] True:=by
 refine Ctr.bd func266 ntmps266 fun hp=>?_;have gOn:=aD.on;refine AW.f1 1 fun hf=>?_;refine vU1 ?_;refine AW.aw [0,5] [1] (fun m xs o=>∃ (k:Nat) (cur:List ah),xs=[.sl false 3 (cur.map (ak false)),.aa k]/\o=[]/\m=q.length - k/\k<=q.length/\cL cur (q.drop k)=cL l q) q.length [] trivial ⟨0,l,rfl,rfl,rfl,Nat.zero_le _,rfl⟩ ?_;rintro m xs o ⟨k,cur,rfl,rfl,rfl,hk,hR⟩;refine AW.fact 0 fun hf2=>?_;simp (disch:=omega) only [go_sem] at hf2;have hst:=fun a b=>M6 (l:=cur) (q:=q) (k:=k) a b
 have hbd:=fun a b=>PD (l:=cur) (q:=q) (k:=k) a b
 have hen:=fun a=>PB (l:=cur) (q:=q) (k:=k) a;refine vK1 ?_;refine AW.c (fun h=>?_) fun h=>?_
 ·refine vK1 ?_;refine AW.c (fun h=>?_) fun h=>?_
  ·rw [<- hR,hbd yG Ir];refine vX1 ?_;refine AW.ret (EndsG.imp (Imp.Kr 4 (x:=.v (.slice none 0 0)) (x':=.sl false 3 []) gO (fun _ _ _ _ r=>Rep.jf _ _ r) ?_));refine EndsG.fin rfl ?_;exact gO
  ·refine vU1 ?_;exact ⟨_,[_,_],_,Ir,⟨k+1,_,rfl,rfl,rfl,Ir,by rw [<- hR,hst yG Ir]⟩,rfl,trivial⟩
 ·rw [<- hR,hen h]
  all_goals exact uU
instance aa4(l:List ah)(q:List Int):iM lim prog 321 [.sl false 3 (l.map (ak false)),.sl false 1 (q.map iV)] (.sl false 3 ((cL l q).map (ak false))) True :=
 ⟨(aU 321),fun c=>(Nx l q).pure c⟩
instance aae(l:List ah)(q:List Int):iM lim prog 266 [.sl false 3 (l.map (ak false)),.sl false 1 (q.map iV)] (.sl false 3 ((cL l q).map (ak false))) True :=
 ⟨(aU 266),fun c=>(Mm l q).pure c⟩
instance acx(x:ah)(t:cu):Ctr lim prog 343 [] [.agg (cNo x),.vp [.str t.ag,.str t.ax]] (.ac (x.ag == t.ag && x.ax == t.ax)) [] True:=by
 refine Ctr.bd func343 ntmps343 fun hp=>?_;have gOn:=aD.on
 all_goals exact uU
end Go.Proofs
namespace Go.Dt
open Go Go.Ab
def tsP(t:cu)(k:ah):Bool:=k.ag == t.ag && k.ax == t.ax
def zE{α:Type}{p:α->Bool}:∀ {l:List α},l.any p=true->0<=idx p l
 | [],h=>by simp at h
 | x::xs,h=>by
  unfold idx
  cases e:p x with
  | true=>simp
  | false =>
   rw [List.any_cons,e,Bool.false_or] at h;have:=zE h;simp
   first|omega|(split<;>omega)
def OC{x:ah}{t:cu}(h:0<=idx (tsP t) x.af):vO x t=true:=by obtain ⟨a,b,c⟩:=dF h;rw [vO,List.any_eq_true];exact ⟨_,c,by first|exact b|exact a⟩
def Ru{x:ah}{t:cu}(h:idx (tsP t) x.af<0):vO x t=false:=by
 rw [vO]
 cases e:x.af.any (fun k=>k.ag == t.ag && k.ax == t.ax) with
 | false=>rfl
 | true =>
  have:=zE (p:=tsP t) e;omega
def z8(x:ah)(t:cu)(k:Nat):Bool:=(x.af.take k).any (tsP t)
def Oo{x:ah}{t:cu}{k:Nat}(hk:k<x.af.length):z8 x t (k+1)=(z8 x t k || tsP t (at_ x.af k)):=by rw [z8,tk1 hk,List.any_append];simp [z8]
def HQ{x:ah}{t:cu}{k:Nat}(hk:¬ k<x.af.length):z8 x t k=vO x t:=by rw [z8,List.take_of_length_le Ir];rfl
end Go.Dt
namespace Go.Proofs
open Go.Ab Go.Dt
attribute [local go_sem] aM dS aR
instance Zn(l:List ah)(t:cu):Ctr lim prog 284 [] [.sl false 3 (l.map (ak false)),.fn 343 [.vp [.str t.ag,.str t.ax]]] (.aa (idx (tsP t) l)) [] True:=by
 refine Ctr.bd func284 ntmps284 fun hp=>?_;have gOn:=aD.on;refine AW.f1 0 fun hf=>?_;refine vU1 ?_;refine AW.aw [8] [0,1,7] (fun m xs o=>∃ k:Nat,xs=[.aa k]/\o=[]/\m=l.length - k/\k<=l.length/\∀ x∈l.take k,tsP t x=false) l.length [] trivial ⟨0,?_,rfl,rfl,?_,?_⟩ ?_
 ·rfl
 ·omega
 ·simp
 rintro m xs o ⟨k,rfl,rfl,rfl,hk,hR⟩
 (refine vU3 ?_ ?_ ?_<;>with_reducible repeat intro h)
 ·rw [gV (p:=tsP t) yG hR (by unfold tsP;grind)]
 ·exact ⟨_,[_],[],Ir,⟨k+1,rfl,rfl,rfl,Ir,aL (p:=tsP t) yG hR (by unfold tsP;grind)⟩,rfl,trivial⟩
 ·rw [jo (p:=tsP t) h hR]
instance ZR(l:List ah)(t:cu):Ctr lim prog 245 [] [.sl false 3 (l.map (ak false)),.fn 343 [.vp [.str t.ag,.str t.ax]]] (.ac (decide (0<=idx (tsP t) l))) [] True:=by
 refine Ctr.bd func245 ntmps245 fun hp=>?_
 all_goals exact uU
instance Zu(x:ah)(ts:List cu):Ctr lim prog 322 [] [.agg (cNo x),.sl false 2 (ts.map (ct false))] (.ac (uE x ts)) [] True:=by
 refine Ctr.bd func322 ntmps322 fun hp=>?_;have gOn:=aD.on;refine AW.f1 1 fun hf=>?_;refine vU1 ?_;refine AW.aw [9] [2,7,8] (fun m xs o=>∃ k:Nat,xs=[.aa k]/\o=[]/\m=ts.length - k/\k<=ts.length/\∀ y∈ts.take k,(!vO x y)=false) ts.length [] trivial ⟨0,?_,rfl,rfl,?_,?_⟩ ?_
 ·rfl
 ·omega
 ·simp
 rintro m xs o ⟨k,rfl,rfl,rfl,hk,hR⟩;refine vK1 ?_;refine AW.c (fun h=>?_) fun h=>?_
 ·have hk1:=h;refine vN1 ?_;refine Z ?_
  (refine vN1 ?_;intro h)
  refine AW.imp (Imp.vpO 6 (b:=h) (off:=0) (cells:=[.str (at_ ts k).ag,.str (at_ ts k).ax]) gO gO rfl ?_);by_cases hx:0<=idx (tsP (at_ ts k)) x.af
  ·have e1:=OC hx
   have hd:decide (0<=idx (tsP (at_ ts k)) x.af)=true:=decide_eq_true hx
   (refine vP1 hd ?_;with_reducible repeat first|intro (K:_->_->Prop) hK|intro h)
   exact ⟨_,[_],_,Ir,⟨k+1,rfl,rfl,rfl,Ir,aL hk1 hR (by rw [e1];rfl)⟩,rfl,trivial⟩
  ·have e1:=Ru (Int.not_le.1 hx)
   have hd:decide (0<=idx (tsP (at_ ts k)) x.af)=false:=decide_eq_false hx
   (refine vP1 hd ?_;with_reducible repeat first|intro (K:_->_->Prop) hK|intro h)
   rw [uE,eQ hk1 e1]
 ·refine vU1 ?_;rw [uE,cM h hR]
instance Y5(x:ah)(ts:List cu):Ctr lim prog 267 [] [.agg (cNo x),.sl false 2 (ts.map (ct false))] (.ac (uE x ts)) [] True:=by
 refine Ctr.bd func267 ntmps267 fun hp=>?_;have gOn:=aD.on;refine AW.f1 1 fun hf=>?_;refine vU1 ?_;refine AW.aw [5] [1,2] (fun m xs o=>∃ k:Nat,xs=[.aa k]/\o=[]/\m=ts.length - k/\k<=ts.length/\∀ y∈ts.take k,(!vO x y)=false) ts.length [] trivial ⟨0,?_,rfl,rfl,?_,?_⟩ ?_
 ·rfl
 ·omega
 ·simp
 rintro m xs o ⟨k,rfl,rfl,rfl,hk,hR⟩;refine vK1 ?_;refine AW.c (fun h=>?_) fun h=>?_
 ·have hk1:=h;refine vK1 ?_;refine AW.aw [6,7] [1,2,5] (fun m xs o=>∃ j:Nat,xs=[.ac (z8 x (at_ ts k) j),.aa j]/\o=[]/\m=x.af.length - j/\j<=x.af.length) x.af.length [] trivial ⟨0,rfl,rfl,rfl,Nat.zero_le _⟩ ?_;rintro m xs o ⟨j,rfl,rfl,rfl,hj⟩;refine vK1 ?_;refine AW.fact 16 fun hf2=>?_;simp (disch:=omega) only [go_sem] at hf2
  (refine vU3 ?_ ?_ ?_<;>with_reducible repeat intro h)
  ·exact ⟨_,[_,_],_,Ir,⟨j+1,by rw [Oo yG];rfl,rfl,rfl,Ir⟩,rfl,trivial⟩
  ·rw [uE,eQ hk1 (by rw [<- HQ yG];exact h)]
  ·exact ⟨_,[_],_,Ir,⟨k+1,rfl,rfl,rfl,Ir,aL hk1 hR (by rw [<- HQ yG,h];rfl)⟩,rfl,trivial⟩
 ·refine vU1 ?_;rw [uE,cM h hR]
end Go.Proofs
namespace Go.Dt
open Go Go.Ab
theorem ym{α:Type}[Inhabited α]{p:α->Bool}(l:List α):decide (0<=idx p l)=l.any p:=by
 cases h:l.any p with
 | true=>exact decide_eq_true (zE h)
 | false =>
  refine decide_eq_false fun e=>?_;obtain ⟨_,b,c⟩:=dF e;exact absurd b (by rw [List.any_eq_false] at h;exact h _ c)
def Ht(l:List Str)(s:Str):cont l s=l.contains s:=by rw [cont,ym,List.contains_eq_any_beq];refine List.any_congr rfl fun x=>?_;rw [Bool.eq_iff_iff];simp only [beq_iff_eq];exact ⟨fun e=>e.symm,fun e=>e.symm⟩
def Ti(s:List ae)(l:List ah):decide (0<=idx (naP (nmS (dk s))) l)=mR s l:=by rw [ym,mR];exact List.any_congr rfl fun x=>Ht _ _
end Go.Dt
namespace Go.Proofs
open Go.Ab Go.Dt
attribute [local go_sem] aM aC aR
attribute [-instance] mD
instance adu(s:List ae)(l:List ah):Ctr lim prog 202 [] [.sl false 19 (s.map (aq false)),.sl false 3 (l.map (ak false))] (.ac (mR s l)) [] (aH s<=1048576):=by
 refine Ctr.bd func202 ntmps202 fun hp=>?_;have gOn:=aD.on;refine vN1 ?_;refine Z ?_;refine vN1 ?_;refine Z ?_
 (refine vN1 ?_;intro h)
 rename Nat=>a
 refine AW.imp (Imp.dB (b:=a) caa ?_);refine gS ?_;refine AW.imp (Imp.vpO 5 (b:=a) (off:=0) (cells:=[.sl false 1 ((nmS (dk s)).map AV.str)]) gO gO rfl ?_);refine vU1 ?_;rw [Ti]
end Go.Proofs
namespace Go.Ab
section
variable {L : Nat -> Nat} {n : Nat} {t : List (Nat × AV)} {o : Sto} {Q : AS -> Prop}
end
end Go.Ab
namespace Go.Ab
open Go.RowKit (Below)
section
def aen(P:Program)(f:FuncId)(sz:Nat):Prop :=
 ∀ (w:World) (b n cap i j:Nat) (c:Array Value) (Ty:TypeId),w.heap[b]? = some (.cells c Ty (0,0))->n<=cap->cap * sz<=c.size->n<=4611686018427387904->i<j->j<=n->(∀ (k:Nat) (v:Value),k<n * sz->c[k]? = some v->v.oneCell'=true) ->
  Calls P f #[.slice (some ⟨b,0,none⟩) n cap,.int .i64 i,.int .i64 j] w fun e w'=>e=.returned (.slice (some ⟨b,0,none⟩) (n - (j - i)) cap) /\
   ∃ c':Array Value,w'.heap[b]? = some (.cells c' Ty (0,0))/\c'.size=c.size/\(∀ k,k<i * sz->c'[k]? = c[k]?)/\(∀ k,k<(n - j) * sz->c'[i * sz+k]? = c[j * sz+k]?)/\Kp (fun k=>k<w.heap.size/\k≠b) w w'
end
section
def nrm(R:Act->World->Prop):Exit->Act->World->Prop:=fun e a w=>e=.normal/\R a w
def aK(L:eaa)(P:Program)(ops:Array Oper)(fuel:Nat)(listed:Array Bool)(s:AS)(K:AS->Prop):Prop :=
 ∀ B F0 w0 a w (R:Act->World->Prop),Den L B F0 w0 s a w->(∀ s' a' w',K s'->Den L B F0 w0 s' a' w'->R a' w')->wpAny P .any ops (nrm R) fuel listed a w
section
variable {L : Nat -> Nat} {P : Program} {ops : Array Oper} {n fuel : Nat} {listed : Array Bool} {t : List (Nat × AV)} {os : Sto} {K : AS -> Prop}
def aK.jw(live:List Nat)(o0:Sto)(hr:Region.ready .any ops listed=[])(ho:jk o0 os)(h:K ⟨n,dP t live,o0⟩):aK L P ops fuel listed ⟨n,t,os⟩ K :=
 fun B F0 w0 a w R hd hR=>wpAny_done hr ⟨rfl,hR _ _ _ h (hd.weaken rfl (tZ t live) fun _ _ hb=>nB ho hb)⟩ fuel
def C6(L:eaa)(P:Program)(ops:Array Oper)(n fuel:Nat)(listed:Array Bool)(t:daa)(os:Sto)(K:AS->Prop):List Nat->Prop
 | []=>True
 | i::rs=>(match ops[i]? with
  | some o=>(o.guard=none/\cz n o.dst=true)/\nvc L P os t o.dst o.op (fun t' os'=>aK L P ops fuel (listed.setIfInBounds i true) ⟨n,t',os'⟩ K)
  | none=>False)/\C6 L P ops n fuel listed t os K rs
def HU:∀ {rs:List Nat},C6 L P ops n fuel listed t os K rs->∀ i,i∈rs->∃ o,ops[i]? = some o/\o.guard=none/\cz n o.dst=true/\nvc L P os t o.dst o.op (fun t' os'=>aK L P ops fuel (listed.setIfInBounds i true) ⟨n,t',os'⟩ K)
 | [],_,i,hi=>by simp at hi
 | j::rs,h,i,hi=>by
  simp only [C6] at h;rcases List.mem_cons.1 hi with rfl|hi
  ·have h1:=h.1;split at h1
   ·rename_i o ho;exact ⟨o,ho,h1.1.1,h1.1.2,h1.2⟩
   ·exact h1.elim
  ·exact HU h.2 i hi
def aK.step(rs:List Nat)(hr:Region.ready .any ops listed=rs)(hne:rs≠[])(h:C6 L P ops n fuel listed t os K rs):aK L P ops (fuel+1) listed ⟨n,t,os⟩ K:=by
 intro B F0 w0 a w R hd hR;refine wpAny_all hr hne fun i hi=>?_;obtain ⟨o,ho,hg,mQ,hn⟩:=HU h i hi;unfold wpOp;simp only [ho];have hw:Region.wanted o (yielded ops a.tmps)=true:=by simp [Region.wanted,hg]
 rw [if_pos hw];refine .inl (wq mQ hn B F0 w0 a w _ _ hd fun s' a' w' hs hd'=>?_);obtain ⟨hn',hK⟩:=hs;obtain ⟨n',t',o'⟩:=s';simp only at hn' hK;subst hn';exact hK B F0 w0 a' w' R hd' hR
def aK.sp(fuel:Nat)(rs:List Nat)(h:C6 L P ops n fuel listed t os K rs)(hr:Region.ready .any ops listed=rs:=by kernel_rfl)(hne:rs≠[]:=by simp):aK L P ops (fuel+1) listed ⟨n,t,os⟩ K:=aK.step rs hr hne h
def aeK(P:Program)(t:daa):Op->Option (AV×Value)
 | .fieldAddr xt x k=>match ev t x,fld P xt k with
  | .ptr b o,some (off,_,m)=>bif Nat.blt 0 m then some (.ptr b (o+off),.pointer (some ⟨b,o+off,none⟩)) else none
  | _,_=>none
 | .move x=>match ev t x with
  | .v u=>some (.v u,u)
  | _=>none
 | _=>none
end
def AW.any{L:eaa}{P:Program}{ops:Array Oper}{n id:Nat}{t:daa}{os:Sto}{Q:Exit->AS->Prop}(hm:P.follows .mixedOrders=true)
  (h:aK L P ops ops.size (Array.replicate ops.size false) ⟨n,t,os⟩ (fun s'=>Q .normal s')):AW L P (.region id ops true) ⟨n,t,os⟩ Q:=by
 intro B F0 w0 a w hd;refine wp_mono (wp_region_any (id:=id) hm (h B F0 w0 a _ (fun a' w'=>∃ s',Q .normal s'/\Den L B F0 w0 s' a' w') hd.drew fun s' a' w' h1 h2=>⟨s',h1,h2⟩)) ?_;rintro e a' w' ⟨rfl,h⟩;exact h
def AW.nT{L:eaa}{P:Program}{ops:Array Oper}{n id:Nat}{t:daa}{os:Sto}{Q:Exit->AS->Prop}(t0:daa)(o0:Sto)(hm:P.follows .mixedOrders=true)
  (h:∀ K:AS->Prop,K ⟨n,t0,o0⟩->aK L P ops ops.size (Array.replicate ops.size false) ⟨n,t,os⟩ K) (h2:Q .normal ⟨n,t0,o0⟩):AW L P (.region id ops true) ⟨n,t,os⟩ Q :=
 AW.any hm (h _ h2)
end
section
def Kb(w:World)(b:Option Nat)(sz len:Nat)(news:List Value)(e:Ending)(w':World):Prop :=
 ∃ (b' cap':Nat) (c':Array Value) (Ty':TypeId),e=.returned (.slice (some ⟨b',0,none⟩) len cap')/\len<=cap'/\w'.heap[b']? = some (.cells c' Ty' (0,0))/\cap' * sz<=c'.size/\(some b'=b\/w.heap.size<=b') /\
  (∀ k,k<news.length->c'[k]? = news[k]?)/\w'.os=w.os/\w'.tape=w.tape/\w'.output=w.output/\Ext (fun k=>k<w.heap.size/\some k≠b) w w'
def aeR(P:Program)(f:FuncId)(sz bytes:Nat):Prop :=
 (∀ (w:World) (b n cap i vb vc:Nat) (c cx:Array Value) (Ty Tx:TypeId),w.heap[vb]? = some (.cells cx Tx (0,0))->1 * sz<=cx.size->(∀ (k:Nat) (v:Value),k<1 * sz->cx[k]? = some v->v.oneCell'=true) ->
  w.heap[b]? = some (.cells c Ty (0,0))->n<=cap->cap * sz<=c.size->(∀ (k:Nat) (v:Value),k<n * sz->c[k]? = some v->v.oneCell'=true)->vb≠b->i<=n->(n+1) * bytes<=140737488355328 ->
  Calls P f #[.slice (some ⟨b,0,none⟩) n cap,.int .i64 i,.slice (some ⟨vb,0,none⟩) 1 vc] w (Kb w (some b) sz (n+1) ((c.toList.take (n * sz)).take (i * sz)++(cx.toList.take (1 * sz)++(c.toList.take (n * sz)).drop (i * sz))))) /\
 (∀ (w:World) (vb vc:Nat) (cx:Array Value) (Tx:TypeId),w.heap[vb]? = some (.cells cx Tx (0,0))->1 * sz<=cx.size->(∀ (k:Nat) (v:Value),k<1 * sz->cx[k]? = some v->v.oneCell'=true) ->
  Calls P f #[.slice none 0 0,.int .i64 (0:Nat),.slice (some ⟨vb,0,none⟩) 1 vc] w (Kb w none sz 1 (cx.toList.take (1 * sz))))
end
section
def aeT(L:eaa)(P:Program)(f:FuncId)(args:List AV)(res:AV):Prop :=
 ∀ (w:World) (F:faa) (vs:List Value) (fp:List Nat),(∀ b,F b->b<w.heap.size)->au L F w args vs fp->fp.Nodup->(∀ b,b∈fp->b<w.heap.size/\¬ F b) ->
  Calls P f vs.toArray w fun e w'=>∃ v F' fp',e=.returned v/\Kp (fun b=>b<w.heap.size/\b ∉ fp) w w'/\(∀ b,F b->F' b)/\(∀ b,F' b->F b\/(w.heap.size<=b/\b<w'.heap.size)) /\
   Rep L F' w' res v fp'/\fp'.Nodup/\∀ b,b∈fp'->¬ F' b/\(b∈fp\/(w.heap.size<=b/\b<w'.heap.size))
section
variable {L : Nat -> Nat} {P : Program}
end
end
section
section
variable {L : Nat -> Nat} {P : Program} {ops : Array Oper} {n : Nat} {K : AS -> Prop}
def OV(n f:Nat)(l:Array Bool)(Inv:Nat->Array Bool->AS->Prop)(t:daa)(os:Sto):Prop:=∃ live o0,jk o0 os/\Inv f l ⟨n,dP t live,o0⟩
def allI(L:eaa)(P:Program)(ops:Array Oper)(n f:Nat)(l:Array Bool)(t:daa)(os:Sto)(Inv:Nat->Array Bool->AS->Prop):List Nat->Prop
 | []=>True
 | i::rs=>(match ops[i]? with
  | some o=>(o.guard=none/\cz n o.dst=true)/\nvc L P os t o.dst o.op (fun t' os'=>OV n f (l.setIfInBounds i true) Inv t' os')
  | none=>False)/\allI L P ops n f l t os Inv rs
def D6{f:Nat}{l:Array Bool}{t:daa}{os:Sto}{Inv:Nat->Array Bool->AS->Prop}(ih:∀ l s,Inv f l s->aK L P ops f l s K):∀ {rs:List Nat},allI L P ops n f l t os Inv rs ->
  ∀ i,i∈rs->∃ o,ops[i]? = some o/\o.guard=none/\cz n o.dst=true/\nvc L P os t o.dst o.op (fun t' os'=>OV n f (l.setIfInBounds i true) Inv t' os')
 | [],_,i,hi=>by simp at hi
 | j::rs,h,i,hi=>by
  simp only [allI] at h;rcases List.mem_cons.1 hi with rfl|hi
  ·have h1:=h.1;split at h1
   ·rename_i o ho;exact ⟨o,ho,h1.1.1,h1.1.2,h1.2⟩
   ·exact h1.elim
  ·exact D6 ih h.2 i hi
def aK.inv(Inv:Nat->Array Bool->AS->Prop)(h0:∀ l s,Inv 0 l s->Region.ready .any ops l=[]/\K s)
  (hs:∀ f l s,Inv (f+1) l s->∃ rs,Region.ready .any ops l=rs/\rs≠[]/\allI L P ops s.n f l s.t s.o Inv rs):∀ f l s,Inv f l s->aK L P ops f l s K
 | 0,l,s,h=>fun B F0 w0 a w R hd hR=>wpAny_done (h0 l s h).1 ⟨rfl,hR _ _ _ (h0 l s h).2 hd⟩ 0
 | f+1,l,s,h=>by
  have ih:=aK.inv Inv h0 hs f;obtain ⟨rs,hr,hne,hall⟩:=hs f l s h;obtain ⟨n,t,os⟩:=s;intro B F0 w0 a w R hd hR;refine wpAny_all hr hne fun i hi=>?_;obtain ⟨o,ho,hg,mQ,hn⟩:=D6 (fun l s h=>ih l s h) hall i hi;unfold wpOp;simp only [ho];have hw:Region.wanted o (yielded ops a.tmps)=true:=by simp [Region.wanted,hg]
  rw [if_pos hw];refine .inl (wq mQ hn B F0 w0 a w _ _ hd fun s' a' w' hs' hd'=>?_);obtain ⟨hn',live,o0,hsub,hI⟩:=hs';obtain ⟨n',t',o'⟩:=s';simp only at hn' hsub hI;subst hn';exact ih _ _ hI B F0 w0 a' w' R (hd'.weaken rfl (tZ t' live) fun _ _ hb=>nB hsub hb) hR
end
end
section
section
variable {L : Nat -> Nat} {P : Program} {ops : Array Oper} {n fuel : Nat} {listed : Array Bool} {t : List (Nat × AV)} {os : Sto} {K : AS -> Prop}
def aK.QQ(i:Nat){oi:Oper}{x:AV}{u:Value}(hi:ops[i]? = some oi)(hs:Region.noSelect ops=true)(hf:Region.free .any ops listed i=true)(hr:(Region.ready .any ops listed).contains i=true)
  (hg:oi.guard=none) (hd:cz n oi.dst=true)
  (hx:∀ B F0 w0 F own fp fs a w,cv L B F0 w0 F own fp fs ⟨n,t,os⟩ a w->∀ w':World,(execOp a.eval oi).run P w'=.ok (.value u) w')
  (gF:∀ F' w',Rep L F' w' x u [])
  (h:aK L P ops fuel (listed.setIfInBounds i true) ⟨n,put t oi.dst x,os⟩ K):aK L P ops (fuel+1) listed ⟨n,t,os⟩ K:=by
 intro B F0 w0 a w R cr hR;have hw:Region.wanted oi (yielded ops a.tmps)=true:=by simp [Region.wanted,hg]
 obtain ⟨F,own,fp,fs,hD⟩:=cr;refine wpAny_take hi hs hf hr (fun c a w h=>by cases h.1) (.inl ⟨hw,hx _ _ _ _ _ _ _ _ _ hD⟩) ?_;refine h B F0 w0 _ w R ?_ hR;have:=hD.put (x:=x) (v:=u) (fx:=[]) [] oi.dst hd (w':=w) (F':=F) (Kp.refl _ _) (fun _ h=>h) (fun b h=>.inl h) (gF F w) QC QC;simpa [killL] using this
end
end
end Go.Ab
namespace Go.Ab
section
variable {L : Nat -> Nat} {P : Program} {ops : Array Oper} {n fuel : Nat} {listed : Array Bool} {t : List (Nat × AV)} {os : Sto} {K : AS -> Prop}
def aK.mvN(i:Nat)(hs:Region.noSelect ops=true)(hf:Region.free .any ops listed i=true)(hr:(Region.ready .any ops listed).contains i=true)
  (h:match ops[i]? with
   | some oi=>(oi.guard=none/\cz n oi.dst=true)/\(match oi.op with
    | .move y=>(ev t y).cW=true/\aK L P ops fuel (listed.setIfInBounds i true) ⟨n,put t oi.dst (ev t y),os⟩ K
    | _=>False)
   | none=>False):aK L P ops (fuel+1) listed ⟨n,t,os⟩ K:=by
 split at h
 ·rename_i oi hi;obtain ⟨⟨hg,hd⟩,h⟩:=h;split at h
  ·rename_i y hop;obtain ⟨hno,h⟩:=h;intro B F0 w0 a w R cr hR;have hw:Region.wanted oi (yielded ops a.tmps)=true:=by simp [Region.wanted,hg]
   obtain ⟨F,own,fp,fs,hD⟩:=cr;have hrp:=hD.ev y
   have hfp:fpo fp y=[]:=by
    exact Rep.dX hno hrp
   rw [hfp] at hrp;refine wpAny_take (v:=a.eval y) (a:=a) (w:=w) hi hs hf hr (fun c a w h=>by cases h.1) (.inl ⟨hw,fun w'=>by simp [execOp,hop]⟩) ?_;refine h B F0 w0 _ w R ?_ hR;have:=hD.put (x:=ev t y) (v:=a.eval y) (fx:=[]) [] oi.dst hd (w':=w) (F':=F) (Kp.refl _ _) (fun _ h=>h) (fun b h=>.inl h) hrp QC QC;simpa [killL] using this
  ·exact h.elim
 ·exact h.elim
end
end Go.Ab
