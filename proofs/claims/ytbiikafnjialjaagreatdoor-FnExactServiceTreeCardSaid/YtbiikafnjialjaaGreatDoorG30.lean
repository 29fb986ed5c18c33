/- Part of a proof. -/
import Derived.Test.YtbiikafnjialjaaGreatDoorG28
import Derived.Test.YtbiikafnjialjaaGreatDoorG29
set_option linter.all false
set_option maxRecDepth 20000
set_option maxHeartbeats 4000000
namespace Go.Proofs
open Go.Ab Go.Dt
section
instance Q3(l:List ae):zP lim Tryz.prog 196 [.sl false 19 (l.map (aq false))] (.sl false 19 ((dk l).map (aq false))) (cE l<=1048576) :=
 ⟨(aW 196),fun c=>by
  have:=((v8 l).pure c).frz
  simpa only [AV.frz,AV.bS,FW,cond_true] using this⟩
end
end Go.Proofs
namespace Go.Dt
open Go Go.Ab
def rkE(r:Int×ah):AV:=.agg [.v (.int .i64 r.1),.str r.2.af,.str r.2.ax,.sl true 3 (r.2.ag.map (ak true))]
@[go_sem] theorem Tj(R:List (Int×ah)):(R.map rkE).all (AV.elem 4)=true:=by
 rw [List.all_eq_true];intro x hx;obtain ⟨r,_,rfl⟩:=List.mem_map.1 hx;rfl
theorem o9{d:List ae}{l:List ah}{R:List (Int×ah)}{k:Nat}(hR:dW d l=(dW d (l.drop k)).map (R++·))(h:k<l.length)(h1:jP d (at_ l k)=none):gb d [] l=none:=by
 refine wC ?_
 rw [hR,ct h,dW,h1];rfl
theorem Ac{d:List ae}{l:List ah}{R:List (Int×ah)}{k:Nat}(hR:dW d l=(dW d (l.drop k)).map (R++·))(h:k<l.length)(h1:jP d (at_ l k)=some none):dW d l=(dW d (l.drop (k+1))).map (R++·):=by
 rw [hR,ct h,dW,h1]
theorem Ci{d:List ae}{l:List ah}{R:List (Int×ah)}{k:Nat}{y:ah}(hR:dW d l=(dW d (l.drop k)).map (R++·))(h:k<l.length)(h1:jP d (at_ l k)=some (some y)):dW d l=(dW d (l.drop (k+1))).map ((R++[(idx (nmP (at_ l k).af) d,y)])++·):=by
 rw [hR,ct h,dW,h1]
 simp only [Option.map_map]
 congr 1
 funext z
 simp
def F6(d:List ae)(x:ah)(v:Str)(ks:List ah):Prop :=
 jP d x=if (at_ d (idx (nmP x.af) d).toNat).ai=1/\(at_ d (idx (nmP x.af) d).toNat).bw=false/\ks=[] then some none else some (some (.mk x.af v ks))
theorem Cz{d:List ae}{x:ah}{v:Str}{ks:List ah}{ok:Bool}(h:qI d x v ks ok)(h1:ok=true)(h2:kyB (at_ d (idx (nmP x.af) d).toNat) (.mk x.af v ks)=true):F6 d x v ks:=by
 unfold F6;rw [h,if_pos ⟨h1,h2⟩]
theorem uL{d:List ae}{x:ah}{v:Str}{ks:List ah}{ok:Bool}(h:qI d x v ks ok)(h1:¬ (ok=true/\kyB (at_ d (idx (nmP x.af) d).toNat) (.mk x.af v ks)=true)):jP d x=none:=by
 rw [h,if_neg h1]
end Go.Dt
namespace Go.Proofs
open Go.Ab Go.Dt
attribute [-instance] v8
attribute [local go_sem] yD yC yE xu xq xw dF cM eH lN lM E0 FW JB
theorem Ob{r:Int×ah}{vs:List Value}(h:vs.length=4):pfz (AV.v (.int .i64 r.1)::[.str r.2.af,.str r.2.ax,.sl true 3 (r.2.ag.map (ak true))]) vs=rkC (r,vs):=by
 match vs,h with
 | [a,b,c,e],_=>simp [pfz,rkC,AV.cS,AV.frz,eH]
theorem NZ{m:List da}(h:∀ p∈m,p.2.length=4):(m.map fun p=>AV.agg (pfz (AV.v (.int .i64 p.1.1)::[.str p.1.2.af,.str p.1.2.ax,.sl true 3 (p.1.2.ag.map (ak true))]) p.2))=m.map fun p=>AV.agg (rkC p) :=
 List.map_congr_left fun p hp=>by rw [Ob (h p hp)]
theorem LD(m:List da):∀ x,x∈(m.map fun p=>AV.agg (rkC p))->x.elem 4=true:=by
 intro x hx;obtain ⟨r,_,rfl⟩:=List.mem_map.1 hx;rfl
theorem Js(m:List da):(m.map fun p=>AV.agg (rkC p)).flatMap AV.cells=rws m:=by
 rw [List.flatMap_map];rfl
theorem NW{d:List ae}{l:List ah}{R:List (Int×ah)}{r:da}(h:dW d l=some R)(hr:r.1∈R)(hd:d.length<=1048576):ij d r:=by
 have h1:=pd h _ hr
 refine ⟨h1.1,?_,hd⟩
 have h2:=ja (p:=nmP r.1.2.af) (l:=d) (by rw [<- h1.2.1];exact h1.1)
 rw [<- h1.2.1] at h2
 have:=h1.1
 omega
def rkN(r:da):AV:=.agg [.str r.1.2.af,.str r.1.2.ax,.pin ((r.2[3]?).getD undef) (.sl false 3 (r.1.2.ag.map (ak false)))]
@[go_sem] theorem Ti(R:List da):(R.map rkN).all (AV.elem 3)=true:=by
 rw [List.all_eq_true];intro x hx;obtain ⟨r,_,rfl⟩:=List.mem_map.1 hx;rfl
instance V2(n:ae)(x y:da):Ctr lim Tryz.prog 201 [] [.agg (cSc n),.agg [.str x.1.2.af,.str x.1.2.ax,.pin ((x.2[3]?).getD undef) (.sl false 3 (x.1.2.ag.map (ak false)))],.agg [.str y.1.2.af,.str y.1.2.ax,.pin ((y.2[3]?).getD undef) (.sl false 3 (y.1.2.ag.map (ak false)))]] (.v (.int .i64 (j7 n x.1.2 y.1.2))) [] True :=
 Ctr.jH (aW 201) fun _=>eS.pins ((JZ n x.1.2 y.1.2).pure trivial) fun F w vs hr=>by
  simp only [aj] at hr ⊢
  obtain ⟨y0,v0,f0,g0,rfl,e0,h0,y1,v1,f1,g1,rfl,e1,h1,y2,v2,f2,g2,rfl,e2,h2,r⟩:=hr
  refine ⟨y0,_,f0,g0,rfl,e0,h0,y1,_,f1,g1,rfl,e1,?_,y2,_,f2,g2,rfl,e2,?_,r⟩
  ·simp only [Rep] at h1 ⊢
   obtain ⟨us,e,h⟩:=h1
   exact ⟨us,e,by simpa only [gL,AV.unp] using h.unp⟩
  ·simp only [Rep] at h2 ⊢
   obtain ⟨us,e,h⟩:=h2
   exact ⟨us,e,by simpa only [gL,AV.unp] using h.unp⟩
theorem Hq{l:List da}{t:Nat}(h:t+1<l.length):∃ P x y S,l=P++(x::y::S)/\P.length=t :=
 ⟨l.take t,at_ l t,at_ l (t+1),l.drop (t+1+1),by rw [<- oT h,<- oT (by omega),List.take_append_drop],by rw [List.length_take];omega⟩
theorem xR{t:List (Nat×AV)}{a:Nat}{x:Value}(h:T t a=.v x):tP [(a,.v x)] t:=fun j=>by
 by_cases e:j=a
 ·subst e;exact .inr ⟨by rw [h];simp [T],_,h⟩
 ·have e':(a == j)=false:=by simpa using Ne.symm e
  exact .inl (by simp [T,e'])
theorem F3{t:List (Nat×AV)}{a b:Nat}{x y:Value}(h:T t a=.v x)(h2:T t b=.v y):tP [(a,.v x),(b,.v y)] t:=fun j=>by
 by_cases e:j=a
 ·subst e;exact .inr ⟨by rw [h];simp [T],_,h⟩
 ·have e':(a == j)=false:=by simpa using Ne.symm e
  by_cases e2:j=b
  ·subst e2;exact .inr ⟨by rw [h2];simp [T,e'],_,h2⟩
  ·have e2':(b == j)=false:=by simpa using Ne.symm e2
   exact .inl (by simp [T,e',e2'])
theorem Kt{D:da->da->Prop}{ps:List da}{x y:da}(h1:∀ P a c S,ps++[x]=P++(a::c::S)->¬ D a c)(h2:¬ D x y):∀ P a c S,ps++[x,y]=P++(a::c::S)->¬ D a c:=by
 intro P a c S e
 rcases xI S with rfl|⟨S,z,rfl⟩
 ·have:=List.append_inj' e rfl
  have h3:=this.2
  simp only [List.cons.injEq,and_true] at h3
  rw [<- h3.1,<- h3.2];exact h2
 ·have e':(ps++[x])++[y]=(P++(a::c::S))++[z]:=by simpa using e
  exact h1 P a c S (List.append_inj' e' rfl).1
theorem L5{m:List da}{P S:List (Int×ah)}{a c:Int×ah}(e:m.map Prod.fst=P++(a::c::S)):∃ P' a' c' S',m=P'++(a'::c'::S')/\a'.1=a/\c'.1=c:=by
 obtain ⟨P',Q,rfl,_,e2⟩:=List.map_eq_append_iff.1 e
 obtain ⟨a',Q,rfl,ea,e3⟩:=List.map_eq_cons_iff.1 e2
 obtain ⟨c',Q,rfl,ec,_⟩:=List.map_eq_cons_iff.1 e3
 exact ⟨P',a',c',Q,rfl,ea,ec⟩
theorem LF{m:List da}(h:∀ p∈m,p.2.length=4):m.map rkN=m.map fun p=>AV.agg (pfz [.str p.1.2.af,.str p.1.2.ax,.sl true 3 (p.1.2.ag.map (ak true))] p.2.tail):=by
 refine List.map_congr_left fun p hp=>?_
 obtain ⟨r,vs⟩:=p
 have h4:=h _ hp
 match vs,h4 with
 | [a,b,c,e],_=>simp [pfz,rkN,AV.cS,AV.frz,eH]
theorem wz{d:List ae}:∀ {l acc out:List ah},gb d acc l=some out->out.length<=acc.length+l.length
 | [],acc,out,h=>by
  rw [rT] at h;cases h;exact Nat.le_refl _
 | x::xs,acc,out,h=>by
  rw [p7] at h
  split at h
  ·cases h
  ·have:=wz h;simp only [List.length_cons];omega
  ·split at h
   ·cases h
   ·rename_i hp
    have:=wz h
    have:=(p9 _ _ _ hp).length_eq
    simp only [List.length_cons] at *;omega
theorem Co:∀ (n:Nat) (s:List ae) (l:List ah),Ctr lim Tryz.prog 132 [] [.sl false 19 (s.map (aq false)),.sl false 3 (l.map (ak false))] (srO (gb (dk s) [] l)) [] (SizeOf.sizeOf l<n/\wtS s<=1048576/\wt l<=1048576)
 | 0,_,l=>⟨(aW 132),fun h=>absurd h.1 (Nat.not_lt_zero _)⟩
 | n+1,s,l=>by
  have ih:=Co n
  refine Ctr.bd Tryz.func132 Tryz.ntmps132 rfl rfl fun hp=>?_
  have gOn:=cY.on
  obtain ⟨hs,hb,hv⟩:=hp
  have hc:=lC s
  refine AW.fact 1 fun hf=>?_
  simp (disch:=omega) only [go_sem] at hf
  (refine vK ?_;with_reducible repeat' first|exact Le.l|apply Sw|intro h)
  rename Nat=>b
  refine AW.imp (Imp.vpO 6 (b:=b) (off:=0) (cells:=[.sl false 19 ((dk s).map (aq false))]) rfl (eI _ _ _) rfl ?_)
  refine AW.aw [8,30] [1,6,7,28,29] (fun m xs o=>∃ (k:Nat) (R:List (Int×ah)),xs=[.sl true 4 (R.map rkE),.v (.int .i64 k)]/\o=[]/\m=l.length - k/\k<=l.length/\R.length<=k/\dW (dk s) l=(dW (dk s) (l.drop k)).map (R++·)) l.length [] trivial ⟨0,[],rfl,rfl,rfl,by omega,by simp,by simp⟩ ?_
  rintro m xs o ⟨k,R,rfl,rfl,rfl,hk,hRl,hR⟩
  (refine vK ?_;with_reducible repeat' first|exact Le.l|apply Sw|intro h)
  (refine AW.i rfl (fun h=>?_) (fun h=>?_)<;>try simp only [hC,reduceCtorEq] at h)
  ·have hw:=kr (l:=l) h
   have hsz:=ah.dM (at_mem h)
   have hky:=fun hq=>(ja (p:=nmP (at_ l k).af) (l:=dk s) hq).1
   have hkx:=fun hq=>nF _ _ (ja (p:=nmP (at_ l k).af) (l:=dk s) hq).2.2
   have hkl:=h
   clear h
   (refine vK ?_;with_reducible repeat' first|exact Le.l|apply Sw|intro h)
   (refine AW.i rfl (fun h=>?_) (fun h=>?_)<;>try simp only [hC,reduceCtorEq] at h)
   ·(refine vK ?_;with_reducible repeat' first|exact Le.l|apply Sw|intro h)
    rw [o9 hR hkl (by rw [jP,if_pos h])];rfl
   have h0:0<=idx (nmP (at_ l k).af) (dk s):=by omega
   clear h
   (refine vK ?_;with_reducible repeat' first|exact Le.l|apply Sw|intro h)
   rename_i b1 b2 hb1 b3
   have hb2:=h
   clear h
   refine AW.sN [1,6,7,8,11,12,13,28,29,30] (fun p:Str×List ah=>[(1,.sl false 3 (l.map (ak false))),(6,.vp [.sl false 19 ((dk s).map (aq false))]),(7,.sl true 1 ((nmS (dk s)).map AV.str)),(8,.sl true 4 (R.map rkE)),(11,.v (.int .i64 (idx (nmP (at_ l k).af) (dk s)))),(12,.ptr b2 0),(13,.ptr b3 0),(28,.sl false 3 (l.map (ak false))),(29,.v (.int .i64 l.length)),(30,.v (.int .i64 k))]) (fun p=>[(b3,some [.str (at_ l k).af,.str p.1,.sl true 3 (p.2.map (ak true))]),(b2,some (cSc (at_ (dk s) (idx (nmP (at_ l k).af) (dk s)).toNat)))]) (fun p=>F6 (dk s) (at_ l k) p.1 p.2/\p.2.length<=1048576) ?_ ?_
   ·have Ue:=hkx h0
    (refine AW.i rfl (fun h=>?_) (fun h=>?_)<;>try simp only [hC,reduceCtorEq] at h)
    ·have hone:=Am h0 h
     have Ud:=(nM (n:=(at_ (dk s) (idx (nmP (at_ l k).af) (dk s)).toNat)) (x:=.mk (at_ l k).af (cvS (at_ (dk s) (idx (nmP (at_ l k).af) (dk s)).toNat).fType (at_ l k).ax) []) (by omega)).2
     clear ih
     (refine vK ?_;with_reducible repeat' first|exact Le.l|apply Sw|intro h)
     (refine AW.i rfl (fun h=>?_) (fun h=>?_)<;>try simp only [hC,reduceCtorEq] at h)
     ·(refine vK ?_;with_reducible repeat' first|exact Le.l|apply Sw|intro h)
      refine AW.ret (Imp.id (.inr ⟨by simp,?_⟩))
      (refine vK ?_;with_reducible repeat' first|exact Le.l|apply Sw|intro h)
      refine eF rfl ?_
      simp (maxSteps:=2000000) (disch:=omega) only [go_sem]
      rw [o9 hR hkl (uL hone (by
       rintro ⟨h1,_⟩
       rw [Bool.and_eq_true] at h1
       rcases h with h|h
       ·rw [h] at h1;exact absurd h1.1 (by simp)
       ·rw [List.isEmpty_iff.1 h1.2] at h;exact absurd h (by simp)))];rfl
     ·(refine vK ?_;with_reducible repeat' first|exact Le.l|apply Sw|intro h)
      refine Imp.si (b:=b3) 3 [_,_] [] (eI _ _ _) ?_
      have hkn:(at_ l k).ag=[]:=List.length_eq_zero_iff.1 (by omega)
      exact .inl ⟨(cvS (at_ (dk s) (idx (nmP (at_ l k).af) (dk s)).toNat).fType (at_ l k).ax,[]),⟨Cz hone (by rw [h.1,hkn];rfl) Ud,by simp⟩,rfl,by simp (maxSteps:=2000000) (disch:=omega) only [go_sem]⟩
    ·have hi:=ih (at_ (dk s) (idx (nmP (at_ l k).af) (dk s)).toNat).ag (at_ l k).ag
     clear ih
     cases hks:gb (dk (at_ (dk s) (idx (nmP (at_ l k).af) (dk s)).toNat).ag) [] (at_ l k).ag with
     | none =>
      have hone:=Al h0 h hks
      rw [hks] at hi
      simp only [srO] at hi
      (refine vK ?_;with_reducible repeat' first|exact Le.l|apply Sw|intro h)
      (refine AW.i rfl (fun h=>?_) (fun h=>?_)<;>try simp only [hC,reduceCtorEq] at h)
      (refine vK ?_;with_reducible repeat' first|exact Le.l|apply Sw|intro h)
      refine AW.ret (Imp.id (.inr ⟨by simp,?_⟩))
      (refine vK ?_;with_reducible repeat' first|exact Le.l|apply Sw|intro h)
      refine eF rfl ?_
      simp (maxSteps:=2000000) (disch:=omega) only [go_sem]
      rw [o9 hR hkl (uL hone (by simp))];rfl
     | some ks =>
      have hone:=Ak h0 h hks
      rw [hks] at hi
      simp only [srO] at hi
      have hkf:=OO (at_ (dk s) (idx (nmP (at_ l k).af) (dk s)).toNat) (.mk (at_ l k).af [] ks)
      simp only [cNo,cSc,Ki,Kh,Kj] at hkf
      have Uf:=wz hks
      have hwl:=CQ (at_ l k).ag
      (refine vK ?_;with_reducible repeat' first|exact Le.l|apply Sw|intro h)
      (refine AW.i rfl (fun h=>?_) (fun h=>?_)<;>try simp only [hC,reduceCtorEq] at h)
      ·(refine vK ?_;with_reducible repeat' first|exact Le.l|apply Sw|intro h)
       refine AW.ret (Imp.id (.inr ⟨by simp,?_⟩))
       (refine vK ?_;with_reducible repeat' first|exact Le.l|apply Sw|intro h)
       refine eF rfl ?_
       simp (maxSteps:=2000000) (disch:=omega) only [go_sem]
       rw [o9 hR hkl (uL hone (by rintro ⟨h1,_⟩;exact h (by simpa using h1)))];rfl
      ·have hval:=h
       clear h
       repeat refine Y ?_
       (refine Z ?_;refine fun (K:_->_->Prop) hK=>?_;simp (maxSteps:=2000000) (disch:=omega) only [go_sem])
       (refine vN ?_;with_reducible repeat' first|exact Le.l|apply Sw|intro h)
       refine AW.imp (Imp.QJ (b:=b3) [_,_] [] (eI _ _ _) fun q1 q2 q3=>?_)
       simp (maxSteps:=2000000) (disch:=omega) only [go_sem]
       (refine Z ?_;refine fun (K:_->_->Prop) hK=>?_;simp (maxSteps:=2000000) (disch:=omega) only [go_sem])
       (refine vN ?_;with_reducible repeat' first|exact Le.l|apply Sw|intro h)
       (refine vK ?_;with_reducible repeat' first|exact Le.l|apply Sw|intro h)
       (refine AW.i rfl (fun h=>?_) (fun h=>?_)<;>try simp only [hC,reduceCtorEq] at h)
       ·(refine vK ?_;with_reducible repeat' first|exact Le.l|apply Sw|intro h)
        refine AW.ret (Imp.id (.inr ⟨by simp,?_⟩))
        (refine vK ?_;with_reducible repeat' first|exact Le.l|apply Sw|intro h)
        refine eF rfl ?_
        simp (maxSteps:=2000000) (disch:=omega) only [go_sem]
        rw [o9 hR hkl (uL hone (by rintro ⟨_,h1⟩;rw [h] at h1;cases h1))];rfl
       ·(refine vK ?_;with_reducible repeat' first|exact Le.l|apply Sw|intro h)
        refine Imp.tv (b:=b3) [_,_] [_] [] (eI _ _ _) ?_
        exact .inl ⟨([],ks),⟨Cz hone (by simpa using hval) h,by show ks.length<=_;simp only [List.length_nil] at Uf;omega⟩,rfl,by simp (maxSteps:=2000000) (disch:=omega) only [go_sem]⟩
   ·rintro ⟨v,ks⟩ ⟨hone,Xf⟩
    unfold F6 at hone
    simp only at hone ⊢
    clear hs hsz hw hky hkx hc ih
    refine AW.imp (Imp.lV (b0:=b3) (k:=2) (sz:=3) (l:=ks.map (ak true)) (eI _ _ _) rfl (bO (fun x=>by rw [cH];rfl) _) (fun b4 hb4=>?_) (fun hnil=>?_))
    ·have hb:=hb4.nf
     simp only [go_sem] at hb
     simp only [List.set_cons_zero,List.set_cons_succ,List.length_map]
     (refine vK ?_;with_reducible repeat' first|exact Le.l|apply Sw|intro h)
     (refine AW.i rfl (fun h=>?_) (fun h=>?_)<;>try simp only [hC,reduceCtorEq] at h)
     ·(refine vK ?_;with_reducible repeat' first|exact Le.l|apply Sw|intro h)
      rw [if_pos ⟨h.1.1,h.1.2,List.length_eq_zero_iff.1 (by omega)⟩] at hone
      exact ⟨_,[_,_],[],by omega,⟨k+1,R,rfl,rfl,rfl,by omega,by omega,Ac hR hkl hone⟩,rfl,trivial⟩
     ·refine AW.imp (Imp.BF (b0:=b3) (k:=2) (b:=b4) (sz:=3) (len:=ks.length) (cells0:=[.str (at_ l k).af,.str v,.arr b4 0 ks.length 3]) (cells:=(ks.map (ak true)).flatMap AV.cells) (l:=ks.map (ak true)) gO rfl gO (by grind) (by rw [List.length_map]) (by rw [List.take_of_length_le];rw [dU (sz:=3) (bO (fun x=>by rw [cH];rfl) _),List.length_map];exact Nat.le_refl _) (bO (fun x=>by rw [cH];rfl) _) ?_)
      simp only [List.set_cons_zero,List.set_cons_succ]
      (refine vK ?_;with_reducible repeat' first|exact Le.l|apply Sw|intro h)
      rw [if_neg (by rintro ⟨g1,g2,g3⟩;exact h ⟨g1,g2⟩ (by rw [g3];rfl))] at hone
      exact ⟨_,[_,_],[],by omega,⟨k+1,R++[(idx (nmP (at_ l k).af) (dk s),.mk (at_ l k).af v ks)],rfl,rfl,rfl,by omega,by rw [List.length_append,List.length_singleton];omega,Ci hR hkl (by rw [hone])⟩,by rw [List.map_append];rfl,trivial⟩
    ·simp only [List.set_cons_zero,List.set_cons_succ]
     have hkn:ks=[]:=by simpa using hnil
     (refine vK ?_;with_reducible repeat' first|exact Le.l|apply Sw|intro h)
     (refine AW.i rfl (fun h=>?_) (fun h=>?_)<;>try simp only [hC,reduceCtorEq] at h)
     ·(refine vK ?_;with_reducible repeat' first|exact Le.l|apply Sw|intro h)
      rw [if_pos ⟨h.1.1,h.1.2,hkn⟩] at hone
      exact ⟨_,[_,_],[],by omega,⟨k+1,R,rfl,rfl,rfl,by omega,by omega,Ac hR hkl hone⟩,rfl,trivial⟩
     ·refine AW.imp (Imp.si (b:=b3) 3 [_,_] [] (eI _ _ _) ?_)
      simp (maxSteps:=2000000) (disch:=omega) only [go_sem]
      (refine vK ?_;with_reducible repeat' first|exact Le.l|apply Sw|intro h)
      rw [if_neg (by rintro ⟨g1,g2,g3⟩;exact h ⟨g1,g2⟩ rfl)] at hone
      exact ⟨_,[_,_],[],by omega,⟨k+1,R++[(idx (nmP (at_ l k).af) (dk s),.mk (at_ l k).af v [])],rfl,rfl,rfl,by omega,by rw [List.length_append,List.length_singleton];omega,Ci hR hkl (by rw [hone,hkn])⟩,by rw [List.map_append];rfl,trivial⟩
  ·have e:k=l.length:=by omega
   subst e
   have hRR:dW (dk s) l=some R:=by rw [hR,List.drop_length];simp [dW]
   clear h hs ih hR
   iterate 5 refine Y ?_
   refine AW.Tq 8 (sz:=3) (x0:=fun r=>.v (.int .i64 r.1)) (e1:=fun r=>[.str r.2.af,.str r.2.ax,.sl true 3 (r.2.ag.map (ak true))]) R rfl (fun _=>rfl) (fun r=>rfl) fun m hm1 hm2=>?_
   rw [NZ hm2]
   have hml:m.length=R.length:=by rw [<- hm1,List.length_map]
   have hwl:=CQ l
   have hrB:∀ r∈m,ij (dk s) r:=fun r hr=>NW hRR (hm1 ▸ List.mem_map_of_mem hr) (by have:=lP s;omega)
   refine AW.imp (Imp.yP 8 rfl (LD m) (fun b hb=>?_) (fun hnil=>?_))
   ·simp only [List.length_map,Js]
    (refine vK ?_;with_reducible repeat' first|exact Le.l|apply Sw|intro h)
    ·exact hrB _ (by assumption)
    rename List da=>m1
    obtain ⟨hpm,hsm⟩:=h
    have hl1:=hpm.length_eq
    rw [show AV.arr b 0 m.length 4=AV.arr b 0 m1.length 4 by rw [hl1],show AV.v (.int .i64 m.length)=AV.v (.int .i64 m1.length) by rw [hl1]]
    refine AW.aw [20,125] [6,8,123,124] (fun q xs o=>∃ t:Nat,xs=[.sl true 3 ((m1.take t).map rkN),.v (.int .i64 t)]/\o=[(b,some (rws m1))]/\q=m1.length - t/\t<=m1.length/\∀ P a c S,m1.take t=P++(a::c::S)->¬ zE (dk s) a.1 c.1) m1.length [(b,some (rws m1))] (aE rfl) ⟨0,rfl,rfl,rfl,by omega,fun P a c S e=>by simp at e⟩ ?_
    rintro q xs o ⟨t,rfl,rfl,rfl,ht,Df⟩
    (refine vK ?_;with_reducible repeat' first|exact Le.l|apply Sw|intro h)
    (refine AW.i rfl (fun h=>?_) (fun h=>?_)<;>try simp only [hC,reduceCtorEq] at h)
    ·rcases t with _|t
     ·obtain ⟨x,ms,rfl⟩:∃ x ms,m1=x::ms:=by
       rcases m1 with _|⟨x,ms⟩
       ·exact absurd h (by simp)
       ·exact ⟨x,ms,rfl⟩
      rw [kF]
      simp only [rkC]
      clear hpm hsm Df hRR hm1 hm2 hrB
      (refine vK ?_;with_reducible repeat' first|exact Le.l|apply Sw|intro h)
      (refine AW.i rfl (fun h=>?_) (fun h=>?_)<;>try simp only [hC,reduceCtorEq] at h)
      ·exact absurd h.1 (by simp)
      (refine vK ?_;with_reducible repeat' first|exact Le.l|apply Sw|intro h)
      exact ⟨_,[_,_],_,by (try simp only [List.length_cons]);omega,⟨0+1,rfl,rfl,rfl,by (try simp only [List.length_cons]);omega,fun P a c S e=>by
       have:=congrArg List.length e
       simp at this;omega⟩,rfl,by simp (maxSteps:=2000000) (disch:=omega) only [go_sem]⟩
     ·obtain ⟨ps,x,y,ms,rfl,hps⟩:=Hq h
      obtain ⟨p,cs,e1,_,hp1⟩:=xA ps ms x y
      have e2:=e1
      rw [e1]
      simp only [rkC] at e1 ⊢
      have hx:=hrB x (hpm.mem_iff.1 (by simp))
      have hy:=hrB y (hpm.mem_iff.1 (by simp))
      unfold ij at hx hy
      have ht1:(ps++x::y::ms).take (t+1)=ps++[x]:=by rw [<- hps,List.take_append,List.take_of_length_le (by omega)];simp
      have ht2:(ps++x::y::ms).take (t+1+1)=ps++[x,y]:=by rw [<- hps,List.take_append,List.take_of_length_le (by omega),show ps.length+1+1 - ps.length=2 by omega];simp
      rw [ht1] at Df ⊢
      have hpf:((ps++x::y::ms).map Prod.fst).Perm R:=hm1 ▸ hpm.map _
      have hno:=fun g=>Lt (P:=ps.map Prod.fst) (S:=ms.map Prod.fst) (a:=x.1) (b:=y.1) hRR hpf (by simp) g
      clear hrB hm1 hm2 hpm hsm
      (refine vK ?_;with_reducible repeat' first|exact Le.l|apply Sw|intro h)
      (refine AW.i rfl (fun h=>?_) (fun h=>?_)<;>try simp only [hC,reduceCtorEq] at h)
      ·(refine vK ?_;with_reducible repeat' first|exact Le.l|apply Sw|intro h)
       refine AW.ret ⟨rfl,.inl ⟨[(4,.v (.slice none 0 0)),(5,.v (.bool false))],F3 rfl rfl,?_⟩⟩
       (refine vK ?_;with_reducible repeat' first|exact Le.l|apply Sw|intro h)
       refine eF rfl ?_
       simp (maxSteps:=2000000) (disch:=omega) only [go_sem]
       rw [hno ⟨h.1.2,by rw [h.1.2];exact h.2⟩];rfl
      ·(refine vK ?_;with_reducible repeat' first|exact Le.l|apply Sw|intro h)
       have hd2:=Kt (y:=y) Df fun g=>by
        refine h ⟨by omega,g.1⟩ ?_
        rw [<- g.1];exact g.2
       exact ⟨_,[_,_],_,by omega,⟨t+1+1,by rw [ht2,List.map_append,List.map_append,List.append_assoc];rfl,rfl,rfl,by omega,by rw [ht2];exact hd2⟩,rfl,by simp (maxSteps:=2000000) (disch:=omega) only [go_sem]⟩
    ·(refine vK ?_;with_reducible repeat' first|exact Le.l|apply Sw|intro h)
     have et:t=m1.length:=by omega
     subst et
     rw [List.take_length] at Df
     rw [List.take_length]
     refine AW.ret ⟨rfl,.inr ⟨4,m1,[(5,.v (.bool true))],hpm,?_,xR rfl,?_⟩⟩
     ·exact congrArg (AV.sl true 3) (LF fun p hp=>hm2 p (hpm.mem_iff.1 hp))
     ·(refine vK ?_;with_reducible repeat' first|exact Le.l|apply Sw|intro h)
      refine eF rfl ?_
      simp (maxSteps:=2000000) (disch:=omega) only [go_sem]
      rw [Cc hRR (m:=m1.map Prod.fst) (hm1 ▸ hpm.map _) (List.pairwise_map.2 hsm) (fun P a c S e=>by
       obtain ⟨P',a',c',S',e1,rfl,rfl⟩:=L5 e
       exact Df P' a' c' S' e1)]
      simp only [srO,List.map_map]
      refine congrArg (fun z=>AV.tup [AV.sl true 3 z,AV.v (.bool true)]) (List.map_congr_left fun p _=>?_)
      simp only [Function.comp,cH]
   ·have hm0:m=[]:=by simpa using hnil
    subst hm0
    (refine vK ?_;with_reducible repeat' first|exact Le.l|apply Sw|intro h)
    refine AW.aw [20,125] [6,8,123,124] (fun q xs o=>xs=[.sl true 3 [],.v (.int .i64 0)]/\o=[]) 0 [] trivial ⟨rfl,rfl⟩ ?_
    rintro q xs o ⟨rfl,rfl⟩
    (refine vK ?_;with_reducible repeat' first|exact Le.l|apply Sw|intro h)
    (refine AW.i rfl (fun h=>?_) (fun h=>?_)<;>try simp only [hC,reduceCtorEq] at h)
    ·exact absurd h (by simp)
    ·(refine vK ?_;with_reducible repeat' first|exact Le.l|apply Sw|intro h)
     refine AW.ret ⟨rfl,.inr ⟨4,[],[(5,.v (.bool true))],.refl _,rfl,xR rfl,?_⟩⟩
     (refine vK ?_;with_reducible repeat' first|exact Le.l|apply Sw|intro h)
     refine eF rfl ?_
     simp (maxSteps:=2000000) (disch:=omega) only [go_sem]
     have hR0:R=[]:=by simpa using hm1.symm
     rw [Cc hRR (m:=[]) (by rw [hR0]) List.Pairwise.nil (fun P a b S e=>by simp at e)];rfl
end Go.Proofs
namespace Go.Dt
open Go Go.Ab
theorem jd{α:Type}(l:List α):l.isEmpty=decide (l.length=0):=by cases l<;>simp
section
variable {x : ae}
theorem Jo(h:(((((((¬x.ai=3/\¬x.ai=4)/\lH x.fType=false\/¬x.ai=2/\0<((x.aD.length+x.aB.length:Nat):Int))\/¬x.ai=3/\((¬x.ba=[]\/x.cn=true)\/x.dC=true))\/(¬x.ai=3/\¬x.ai=5)/\x.cy=true)\/¬x.ai=1/\x.bw=true)\/(¬x.ai=2/\¬x.ai=4)/\(¬x.gr=0\/¬x.gu=0))\/eD x.ai=false/\0<(x.bR.length:Int))\/(x.ai=3\/x.ai=4)/\0<(x.ag.length:Int)):jZ x=false:=by
 rw [jZ,dV,jd x.aD,jd x.aB,jd x.bR,jd x.ag]
 rcases h with ((((((h|h)|h)|h)|h)|h)|h)|h<;>grind
theorem Hs(h:(((((((¬x.ai=3/\¬x.ai=4->lH x.fType=true)/\(¬x.ai=2->((x.aD.length+x.aB.length:Nat):Int)<=0))/\(¬x.ai=3->(x.ba=[]/\x.cn=false)/\x.dC=false))/\(¬x.ai=3/\¬x.ai=5->x.cy=false))/\(¬x.ai=1->x.bw=false))/\(¬x.ai=2/\¬x.ai=4->x.gr=0/\x.gu=0))/\(eD x.ai=false->(x.bR.length:Int)<=0))/\(x.ai=3\/x.ai=4->(x.ag.length:Int)<=0)):jZ x=true:=by
 rw [jZ,dV,jd x.aD,jd x.aB,jd x.bR,jd x.ag]
 obtain ⟨⟨⟨⟨⟨⟨⟨h1,h2⟩,h3⟩,h4⟩,h5⟩,h6⟩,h7⟩,h8⟩:=h
 simp only [Bool.and_eq_true,Bool.or_eq_true,decide_eq_true_eq,Bool.not_eq_true']
 refine ⟨⟨⟨⟨⟨⟨⟨?_,?_⟩,?_⟩,?_⟩,?_⟩,?_⟩,?_⟩,?_⟩<;>grind
theorem Rw(n:Nat):decide (1<=(n:Int))=decide (1<=n):=decide_eq_decide.2 (by omega)
theorem K7(n:Nat):decide ((n:Int)<=3)=decide (n<=3):=decide_eq_decide.2 (by omega)
theorem TA(h:x.ai=1\/x.ai=5\/x.ai=6):true=gS x:=by rw [gS,if_pos h]
theorem TF(h:x.ai=2):(decide (1<=(x.aD.length:Int)) && decide ((x.aD.length:Int)<=3) && cl x.aD && names x.aD && decide ((x.aB.length:Int)<=3) && cl x.aB && names x.aB && mF x)=gS x:=by
 rw [gS,if_neg (by omega),if_pos h,Rw,K7,K7]
theorem TE(h:x.ai=3):(isType dB x.fType && !(x.cn && (x.cy || decide (0<(x.bq.length:Int)))) && (x.cn && isVal x.fType x.ba || !x.cn && x.ba == []))=gS x:=by
 rw [gS,if_neg (by omega),if_neg (by omega),if_pos h,uz,uO,rA];rfl
theorem TD(h:x.ai=4):(isType dB x.fType && mF x)=gS x:=by
 rw [gS,if_neg (by omega),if_neg (by omega),if_neg (by omega),if_pos h];rfl
theorem TC(h:x.ai=7):((x.bq.length:Int) == 0 && (x.ag.length:Int) == 0)=gS x:=by
 rw [gS,if_neg (by omega),if_neg (by omega),if_neg (by omega),if_neg (by omega),if_pos h,mJ,mJ]
theorem TB(h1:¬ x.ai=1)(h5:¬ x.ai=5)(h6:¬ x.ai=6)(h2:¬ x.ai=2)(h3:¬ x.ai=3)(h4:¬ x.ai=4)(h7:¬ x.ai=7):false=gS x:=by
 rw [gS,if_neg (by omega),if_neg h2,if_neg h3,if_neg h4,if_neg h7]
end
end Go.Dt
namespace Go.Proofs
open Go.Ab Go.Dt
attribute [local go_sem] dF cM lN lM
instance TQ(x:ae):Ctr lim Tryz.prog 253 [] [.agg (cSc x)] (.v (.bool (lQ x))) [] (dD x.bq<=1048576/\dD x.bR<=1048576/\x.ba.length<=1048576):=by
 refine Ctr.bd Tryz.func253 Tryz.ntmps253 rfl rfl fun hp=>?_
 have gOn:=cY.on
 obtain ⟨hw,hm,hd⟩:=hp
 refine AW.fact 0 fun hf=>?_
 simp (disch:=omega) only [go_sem] at hf
 have hfk:x.aD.length+x.aB.length<=4294967296000:=by omega
 clear hf
 (refine vK ?_;with_reducible repeat' first|exact Le.l|apply Sw|intro h)
 (refine AW.i rfl (fun h=>?_) (fun h=>?_)<;>try simp only [hC,reduceCtorEq] at h)
 ·(refine vU ?_;with_reducible repeat' first|exact Le.l|apply Sw|intro h)
  refine congrArg (fun b=>AV.v (.bool b)) ?_
  rw [lQ,mR];grind
 have hbase:mR x=true:=by rw [mR];grind
 clear h
 (refine vN ?_;with_reducible repeat' first|exact Le.l|apply Sw|intro h)
 refine Z ?_
 intro K hK
 simp only [List.append_eq,List.cons_append,List.nil_append]
 (refine vN ?_;with_reducible repeat' first|exact Le.l|apply Sw|intro h)
 (refine AW.i rfl (fun h=>?_) (fun h=>?_)<;>try simp only [hC,reduceCtorEq] at h)
 ·(refine vU ?_;with_reducible repeat' first|exact Le.l|apply Sw|intro h)
  refine congrArg (fun b=>AV.v (.bool b)) ?_
  rw [lQ,hbase,Bool.true_and,Jo h];try rfl
 have hsh:=Hs h
 clear h
 (refine vU ?_;with_reducible repeat' first|exact Le.l|apply Sw|intro h)
 all_goals refine congrArg (fun b=>AV.v (.bool b)) ?_
 all_goals rw [lQ,hbase,hsh,Bool.true_and,Bool.true_and]
 all_goals first|exact TA (by omega)|exact TF (by assumption)|exact TE (by assumption)|exact TD (by assumption)|exact TC (by assumption)|exact TB (by assumption) (by assumption) (by assumption) (by assumption) (by assumption) (by assumption) (by assumption)
end Go.Proofs
namespace Go.Dt
open Go Go.Ab
section
variable {l : List ae} {k : Nat} {kind : Int} {bd : Bool} {x : ae}
theorem Bz(h:k<l.length)(hR:kA (l.drop k) kind bd=kA l kind bd)(e:jQ kind bd (at_ l k)=false):kR l kind bd=false:=by
 rw [Gj h,e] at hR;rw [kR,<- hR];simp
theorem OC(h:k<l.length)(hR:kA (l.drop k) kind bd=kA l kind bd)(e:kR (at_ l k).ag (at_ l k).ai (bd || !(at_ l k).bq.isEmpty || decide ((at_ l k).ai=6))=false):kR l kind bd=false:=by
 rw [Gj h] at hR;rw [kR] at e;rw [kR,<- hR,e];simp
theorem Mm(h:k<l.length)(hR:kA (l.drop k) kind bd=kA l kind bd)(e1:jQ kind bd (at_ l k)=true)(e2:kR (at_ l k).ag (at_ l k).ai (bd || !(at_ l k).bq.isEmpty || decide ((at_ l k).ai=6))=true):kA (l.drop (k+1)) kind bd=kA l kind bd:=by
 rw [Gj h,e1] at hR;rw [kR] at e2;rw [<- hR,e2];simp
theorem OD(hd:lT l kind=true)(h:¬ k<l.length)(hR:kA (l.drop k) kind bd=kA l kind bd):kR l kind bd=true:=by
 rw [fK h,kA] at hR;rw [kR,<- hR,hd];rfl
theorem EY{j:Nat}(h:j<x.aD.length)(e:pE x.ag (at_ x.aD j)=false):jQ kind bd x=false:=by
 rw [jQ,jq h e];simp
theorem LV{j:Nat}(h:j<x.aB.length)(e:qB x.ag (at_ x.aB j)=false):jQ kind bd x=false:=by
 rw [jQ,jq h e];simp
theorem LU{i j:Nat}(e:(lQ x && !decide (x.ai=7) && (decide (x.ai=6) == decide (kind=5)) && !(x.cn && bd))=true)(h1:¬ i<x.aD.length)(e1:∀ y∈x.aD.take i,(!pE x.ag y)=false)(h2:¬ j<x.aB.length)(e2:∀ y∈x.aB.take j,(!qB x.ag y)=false):jQ kind bd x=true:=by
 rw [jQ,e,eP h1 e1,eP h2 e2];rfl
theorem Oj(e:(lQ x && !decide (x.ai=7) && (decide (x.ai=6) == decide (kind=5)) && !(x.cn && bd))=false):jQ kind bd x=false:=by
 rw [jQ,e];rfl
end
end Go.Dt
