/- Part of a proof. -/
import Derived.Test.YtbiikafnjialjaaGreatDoorQ37
import Derived.Test.YtbiikafnjialjaaGreatDoorQ38
import Derived.Test.YtbiikafnjialjaaGreatDoorQ39
set_option linter.all false
set_option maxRecDepth 20000
set_option maxHeartbeats 4000000
open Go.Proofs.Tryz
open List
namespace Go.Dt
open Go Go.Ab
def rkE(r:Int×ah):AV:=.agg [.v (.int .i64 r.1),.str r.2.ae,.str r.2.aq,.sl true 3 (r.2.af.map (ai true))]
@[go_sem] def abG(R:List (Int×ah)):(R.map rkE).all (AV.elem 4)=true:=by rw[all_eq_true];intro x hx;obtain⟨r,_,rfl⟩:=List.mem_map.1 hx;rfl
def sw{d:List ag}{l:List ah}{R:List (Int×ah)}{k:Nat}(hR:fF d l=(fF d (l.drop k)).map (R++·))(h:k<l.length)(h1:mn d (at_ l k)=none):iJ d [] l=none:=by refine Ah ?_;rw[hR,bT h,fF,h1];rfl
def En{d:List ag}{l:List ah}{R:List (Int×ah)}{k:Nat}(hR:fF d l=(fF d (l.drop k)).map (R++·))(h:k<l.length)(h1:mn d (at_ l k)=some none):fF d l=(fF d (l.drop (k+1))).map (R++·):=by rw[hR,bT h,fF,h1]
def Gn{d:List ag}{l:List ah}{R:List (Int×ah)}{k:Nat}{y:ah}(hR:fF d l=(fF d (l.drop k)).map (R++·))(h:k<l.length)(h1:mn d (at_ l k)=some (some y)):fF d l=(fF d (l.drop (k+1))).map ((R++[(idx (nmP (at_ l k).ae) d,y)])++·):=by
 rw[hR,bT h,fF,h1];simp only[Option.map_map]
 congr 1
 funext z
 simp
def Lq(d:List ag)(x:ah)(v:Str)(ks:List ah):Prop :=
 mn d x=if (at_ d (idx (nmP x.ae) d).toNat).aj=1/\(at_ d (idx (nmP x.ae) d).toNat).bZ=false/\ks=[] then some none else some (some (.mk x.ae v ks))
def GL{d:List ag}{x:ah}{v:Str}{ks:List ah}{ok:Bool}(h:ug d x v ks ok)(h1:ok=true)(h2:kyB (at_ d (idx (nmP x.ae) d).toNat) (.mk x.ae v ks)=true):Lq d x v ks:=by unfold Lq;rw[h,if_pos ⟨h1,h2⟩]
def yL{d:List ag}{x:ah}{v:Str}{ks:List ah}{ok:Bool}(h:ug d x v ks ok)(h1:¬(ok=true/\kyB (at_ d (idx (nmP x.ae) d).toNat) (.mk x.ae v ks)=true)):mn d x=none:=by rw[h,if_neg h1]
end Go.Dt
namespace Go.Proofs
open Go.Ab Go.Dt
section
attribute [-instance] fg
attribute [local go_sem] CI CH CJ BB BA BC bL aV bu eW eV gC jf jI
def VV{r:Int×ah}{vs:List Value}(h:vs.length=4):pfz (AV.aa r.1::[.str r.2.ae,.str r.2.aq,.ad 3 ai r.2.af]) vs=rkC (r,vs):=by
 match vs,h with
 | [a,b,c,e],_=>simp[pfz,rkC,AV.dC,AV.frz,bu]
def VP{m:List dW}(h:∀p∈m,p.2.length=4):(m.map λp=>AV.agg (pfz (AV.aa p.1.1::[.str p.1.2.ae,.str p.1.2.aq,.ad 3 ai p.1.2.af]) p.2))=m.map λp=>AV.agg (rkC p) :=
 map_congr_left λp hp=>by rw[VV (h p hp)]
def SS(m:List dW):∀x,x∈(m.map λp=>AV.agg (rkC p))->x.elem 4=true:=by intro x hx;obtain⟨r,_,rfl⟩:=List.mem_map.1 hx;rfl
def PQ(m:List dW):(m.map λp=>AV.agg (rkC p)).flatMap AV.cells=rws m:=by rw[flatMap_map];rfl
def VM{d:List ag}{l:List ah}{R:List (Int×ah)}{r:dW}(h:fF d l=some R)(hr:r.1∈R)(hd:d.length<=1048576):jS d r:=by have h1:=sx h _ hr;refine⟨h1.1,?_,hd⟩;have h2:=gD (p:=nmP r.1.2.ae) (l:=d) (by rw[<- h1.2.1];exact h1.1);rw[<- h1.2.1]at h2;have:=h1.1;omega
def rkN(r:dW):AV:=.agg [.str r.1.2.ae,.str r.1.2.aq,.pin ((r.2[3]?).getD undef) (.sl false 3 (r.1.2.af.map (ai false)))]
@[go_sem] def abF(R:List dW):(R.map rkN).all (AV.elem 3)=true:=by rw[all_eq_true];intro x hx;obtain⟨r,_,rfl⟩:=List.mem_map.1 hx;rfl
instance(n:ag)(x y:dW):Ctr lim prog 201 [] [.agg (cSc n),.agg [.str x.1.2.ae,.str x.1.2.aq,.pin ((x.2[3]?).getD undef) (.ab 3 ai x.1.2.af)],.agg [.str y.1.2.ae,.str y.1.2.aq,.pin ((y.2[3]?).getD undef) (.ab 3 ai y.1.2.af)]] (.aa (jH n x.1.2 y.1.2)) [] True :=
 Ctr.ld (aU 201) λ_=>gF.pins ((QB n x.1.2 y.1.2).pure trivial) λF w vs hr=>by
  simp only[au]at hr ⊢;obtain⟨y0,v0,f0,g0,rfl,e0,h0,y1,v1,f1,g1,rfl,e1,h1,y2,v2,f2,g2,rfl,e2,h2,r⟩:=hr;refine⟨y0,_,f0,g0,rfl,e0,h0,y1,_,f1,g1,rfl,e1,?_,y2,_,f2,g2,rfl,e2,?_,r⟩
  ·simp only[Rep]at h1 ⊢;obtain⟨us,e,h⟩:=h1;exact⟨us,e,by simpa only[jd,AV.unp]using h.unp⟩
  ·simp only[Rep]at h2 ⊢;obtain⟨us,e,h⟩:=h2;exact⟨us,e,by simpa only[jd,AV.unp]using h.unp⟩
def MR{l:List dW}{t:Nat}(h:t+1<l.length):∃P x y S,l=P++(x::y::S)/\P.length=t :=
 ⟨l.take t,at_ l t,at_ l (t+1),l.drop (t+1+1),by rw[<- rN h,<- rN Yt,take_append_drop],by rw[length_take];omega⟩
def B0{t:faa}{a:Nat}{x:Value}(h:T t a=.v x):xD [(a,.v x)] t:=λj=>by
 by_cases e:j=a
 ·subst e;exact .inr ⟨by rw[h];simp[T],_,h⟩
 ·have e':(a == j)=false:=by simpa using Ne.symm e
  exact .inl (by simp[T,e'])
def Lm{t:faa}{a b:Nat}{x y:Value}(h:T t a=.v x)(h2:T t b=.v y):xD [(a,.v x),(b,.v y)] t:=λj=>by
 by_cases e:j=a
 ·subst e;exact .inr ⟨by rw[h];simp[T],_,h⟩
 ·have e':(a == j)=false:=by simpa using Ne.symm e
  by_cases e2:j=b
  ·subst e2;exact .inr ⟨by rw[h2];simp[T,e'],_,h2⟩
  ·have e2':(b == j)=false:=by simpa using Ne.symm e2
   exact .inl (by simp[T,e',e2'])
def Q9{D:dW->dW->Prop}{ps:List dW}{x y:dW}(h1:∀P a c S,ps++[x]=P++(a::c::S)->¬D a c)(h2:¬D x y):∀P a c S,ps++[x,y]=P++(a::c::S)->¬D a c:=by
 intro P a c S e;rcases BP S with rfl|⟨S,z,rfl⟩
 ·have:=append_inj' e rfl
  have h3:=this.2;simp only[List.cons.injEq,and_true]at h3;rw[<- h3.1,<- h3.2];exact h2
 ·have e':(ps++[x])++[y]=(P++(a::c::S))++[z]:=by simpa using e
  exact h1 P a c S (append_inj' e' rfl).1
def TB{m:List dW}{P S:List (Int×ah)}{a c:Int×ah}(e:m.map Prod.fst=P++(a::c::S)):∃P' a' c' S',m=P'++(a'::c'::S')/\a'.1=a/\c'.1=c:=by obtain⟨P',Q,rfl,_,e2⟩:=List.map_eq_append_iff.1 e;obtain⟨a',Q,rfl,ea,e3⟩:=List.map_eq_cons_iff.1 e2;obtain⟨c',Q,rfl,ec,_⟩:=List.map_eq_cons_iff.1 e3;exact⟨P',a',c',Q,rfl,ea,ec⟩
def SU{m:List dW}(h:∀p∈m,p.2.length=4):m.map rkN=m.map λp=>AV.agg (pfz [.str p.1.2.ae,.str p.1.2.aq,.ad 3 ai p.1.2.af] p.2.tail):=by
 refine map_congr_left λp hp=>?_;obtain⟨r,vs⟩:=p;have h4:=h _ hp
 match vs,h4 with
 | [a,b,c,e],_=>simp[pfz,rkN,AV.dC,AV.frz,bu]
def Ag{d:List ag}:∀ {l acc out:List ah},iJ d acc l=some out->out.length<=acc.length+l.length
 | [],acc,out,h=>by
  rw[vO]at h;cases h;exact Nat.le_refl _
 | x::xs,acc,out,h=>by
  rw[tj]at h;split at h
  ·cases h
  ·have:=Ag h;simp only[length_cons];omega
  ·split at h
   ·cases h
   ·rename_i hp;have:=Ag h
    have:=(tu _ _ _ hp).length_eq;simp only[length_cons]at *;omega
theorem Gu:∀(n:Nat) (s:List ag) (l:List ah),Ctr lim prog 132 [] [.ab 19 ak s,.ab 3 ai l] (srO (iJ (dk s) [] l)) [] (SizeOf.sizeOf l<n/\wtS s<=1048576/\wt l<=1048576)
 | 0,_,l=>⟨(aU 132),λh=>absurd h.1 (Nat.not_lt_zero _)⟩
 | n+1,s,l=>by
  have ih:=Gu n;refine Ctr.bd func132 ntmps132 λhp=>?_;have gOn:=bM.on;obtain⟨hs,hb,hv⟩:=hp;have hc:=iq s;refine AW.f1 1 λhf=>?_
  (refine vK1 ?_;intro h)
  rename Nat=>b
  refine AW.imp (Imp.vpO 6 (b:=b) (off:=0) (cells:=[.ab 19 ak (dk s)]) rfl (fj _ _ _) rfl ?_);refine AW.aw [8,30] [1,6,7,28,29] (λm xs o=>∃(k:Nat) (R:List (Int×ah)),xs=[.sl true 4 (R.map rkE),.aa k]/\o=[]/\m=l.length - k/\k<=l.length/\R.length<=k/\fF (dk s) l=(fF (dk s) (l.drop k)).map (R++·)) l.length [] trivial ⟨0,[],rfl,rfl,rfl,Yt,zH,zH⟩ ?_;rintro m xs o ⟨k,R,rfl,rfl,rfl,hk,hRl,hR⟩;refine vK1 ?_;refine AW.c (λh=>?_) λh=>?_
  ·have hw:=lW (l:=l) h
   have hsz:=ah.dH (at_mem h)
   have hky:=λhq=>(gD (p:=nmP (at_ l k).ae) (l:=dk s) hq).1
   have hkx:=λhq=>ke _ _ (gD (p:=nmP (at_ l k).ae) (l:=dk s) hq).2.2
   have hkl:=h;clear h
   (refine vK1 ?_;intro h)
   refine AW.c (λh=>?_) λh=>?_
   ·refine vK1 ?_;rw[sw hR hkl (by rw[mn,if_pos h])];rfl
   have h0:0<=idx (nmP (at_ l k).ae) (dk s):=by omega
   clear h
   (refine vK1 ?_;intro h h h h)
   rename_i b1 b2 hb1 b3;have hb2:=h;clear h;refine AW.wH [1,6,7,8,11,12,13,28,29,30] (λp:Str×List ah=>[(1,.ab 3 ai l),(6,.vp [.ab 19 ak (dk s)]),(7,.am (nmS (dk s))),(8,.sl true 4 (R.map rkE)),(11,.aa (idx (nmP (at_ l k).ae) (dk s))),(12,.ptr b2 0),(13,.ptr b3 0),(28,.ab 3 ai l),(29,.aa l.length),(30,.aa k)]) (λp=>[(b3,some [.str (at_ l k).ae,.str p.1,.ad 3 ai p.2]),(b2,some (cSc (at_ (dk s) (idx (nmP (at_ l k).ae) (dk s)).toNat)))]) (λp=>Lq (dk s) (at_ l k) p.1 p.2/\p.2.length<=1048576) ?_ ?_
   ·have acA:=hkx h0;refine AW.c (λh=>?_) λh=>?_
    ·have hone:=Ey h0 h
     have acz:=(ij (n:=(at_ (dk s) (idx (nmP (at_ l k).ae) (dk s)).toNat)) (x:=.mk (at_ l k).ae (cvS (at_ (dk s) (idx (nmP (at_ l k).ae) (dk s)).toNat).fType (at_ l k).aq) []) Yt).2;clear ih;refine vK1 ?_;refine AW.c (λh=>?_) λh=>?_
     ·refine vK1 ?_;refine AW.ret (Imp.id (.inr ⟨zH,?_⟩));refine vK1 ?_;refine eF rfl ?_;refine gS ?_
      rw[sw hR hkl (yL hone (by
       rintro⟨h1,_⟩;rw[Bool.and_eq_true]at h1;rcases h with h|h
       ·rw[h]at h1;exact absurd h1.1 zH
       ·rw[List.isEmpty_iff.1 h1.2]at h;exact absurd h zH))];rfl
     ·refine vK1 ?_;refine Imp.qi (b:=b3) 3 [_,_] [] (fj _ _ _) ?_;have hkn:(at_ l k).af=[]:=List.length_eq_zero_iff.1 Yt;exact .inl ⟨(cvS (at_ (dk s) (idx (nmP (at_ l k).ae) (dk s)).toNat).fType (at_ l k).aq,[]),⟨GL hone (by rw[h.1,hkn];rfl) acz,zH⟩,rfl,gO⟩
    ·have hi:=ih (at_ (dk s) (idx (nmP (at_ l k).ae) (dk s)).toNat).af (at_ l k).af;clear ih
     cases hks:iJ (dk (at_ (dk s) (idx (nmP (at_ l k).ae) (dk s)).toNat).af) [] (at_ l k).af with
     | none =>
      have hone:=Ex h0 h hks;rw[hks]at hi;simp only[srO]at hi;refine vK1 ?_;refine AW.e λh=>?_;refine vK1 ?_;refine AW.ret (Imp.id (.inr ⟨zH,?_⟩));refine vK1 ?_;refine eF rfl ?_;refine gS ?_;rw[sw hR hkl (yL hone zH)];rfl
     | some ks =>
      have hone:=Ew h0 h hks;rw[hks]at hi;simp only[srO]at hi;have hkf:=WA (at_ (dk s) (idx (nmP (at_ l k).ae) (dk s)).toNat) (.mk (at_ l k).ae [] ks);simp only[cNo,cSc,QY,QX,QZ]at hkf;have acB:=Ag hks
      have hwl:=Hl (at_ l k).af;refine vK1 ?_;refine AW.c (λh=>?_) λh=>?_
      ·refine vK1 ?_;refine AW.ret (Imp.id (.inr ⟨zH,?_⟩));refine vK1 ?_;refine eF rfl ?_;refine gS ?_;rw[sw hR hkl (yL hone (by rintro⟨h1,_⟩;exact h (by simpa using h1)))];rfl
      ·have hval:=h;clear h
       repeat refine Y ?_
       (refine Z ?_;refine λ(K:_->_->Prop) hK=>?_;refine gS ?_)
       refine vN1 ?_;refine AW.imp (Imp.Y0 (b:=b3) [_,_] [] (fj _ _ _) λq1 q2 q3=>?_);refine gS ?_
       (refine Z ?_;refine λ(K:_->_->Prop) hK=>?_;refine gS ?_)
       refine vN1 ?_;refine vK1 ?_;refine AW.c (λh=>?_) λh=>?_
       ·refine vK1 ?_;refine AW.ret (Imp.id (.inr ⟨zH,?_⟩));refine vK1 ?_;refine eF rfl ?_;refine gS ?_;rw[sw hR hkl (yL hone (by rintro⟨_,h1⟩;rw[h]at h1;cases h1))];rfl
       ·refine vK1 ?_;refine Imp.rX (b:=b3) [_,_] [_] [] (fj _ _ _) ?_;exact .inl ⟨([],ks),⟨GL hone (by simpa using hval) h,by show ks.length<=_;simp only[length_nil]at acB;omega⟩,rfl,gO⟩
   ·rintro⟨v,ks⟩ ⟨hone,acC⟩;unfold Lq at hone;simp only at hone ⊢;clear hs hsz hw hky hkx hc ih;refine AW.imp (Imp.mQ (b0:=b3) (k:=2) (sz:=3) (l:=ks.map (ai true)) (fj _ _ _) rfl (ct (λx=>by rw[bW];rfl) _) (λb4 hb4=>?_) (λhnil=>?_))
    ·have hb:=hb4.nf;simp only[go_sem]at hb;simp only[set_cons_zero,set_cons_succ,length_map];refine vK1 ?_;refine AW.c (λh=>?_) λh=>?_
     ·refine vK1 ?_;rw[if_pos ⟨h.1.1,h.1.2,List.length_eq_zero_iff.1 Yt⟩]at hone;exact⟨_,[_,_],[],Yt,⟨k+1,R,rfl,rfl,rfl,Yt,Yt,En hR hkl hone⟩,rfl,trivial⟩
     ·refine AW.imp (Imp.FH (b0:=b3) (k:=2) (b:=b4) (sz:=3) (len:=ks.length) (cells0:=[.str (at_ l k).ae,.str v,.arr b4 0 ks.length 3]) (cells:=(ks.map (ai true)).flatMap AV.cells) (l:=ks.map (ai true)) gO rfl gO (by grind) (by rw[length_map]) (by rw[take_of_length_le];rw[dD (sz:=3) (ct (λx=>by rw[bW];rfl) _),length_map];exact Nat.le_refl _) (ct (λx=>by rw[bW];rfl) _) ?_);simp only[set_cons_zero,set_cons_succ];refine vK1 ?_;rw[if_neg (by rintro⟨g1,g2,g3⟩;exact h ⟨g1,g2⟩ (by rw[g3];rfl))]at hone;exact⟨_,[_,_],[],Yt,⟨k+1,R++[(idx (nmP (at_ l k).ae) (dk s),.mk (at_ l k).ae v ks)],rfl,rfl,rfl,Yt,by rw[length_append,length_singleton];omega,Gn hR hkl (by rw[hone])⟩,by rw[map_append];rfl,trivial⟩
    ·simp only[set_cons_zero,set_cons_succ];have hkn:ks=[]:=by simpa using hnil
     refine vK1 ?_;refine AW.c (λh=>?_) λh=>?_
     ·refine vK1 ?_;rw[if_pos ⟨h.1.1,h.1.2,hkn⟩]at hone;exact⟨_,[_,_],[],Yt,⟨k+1,R,rfl,rfl,rfl,Yt,Yt,En hR hkl hone⟩,rfl,trivial⟩
     ·refine AW.imp (Imp.qi (b:=b3) 3 [_,_] [] (fj _ _ _) ?_);refine gS ?_;refine vK1 ?_;rw[if_neg (by rintro⟨g1,g2,g3⟩;exact h ⟨g1,g2⟩ rfl)]at hone;exact⟨_,[_,_],[],Yt,⟨k+1,R++[(idx (nmP (at_ l k).ae) (dk s),.mk (at_ l k).ae v [])],rfl,rfl,rfl,Yt,by rw[length_append,length_singleton];omega,Gn hR hkl (by rw[hone,hkn])⟩,by rw[map_append];rfl,trivial⟩
  ·have e:k=l.length:=by omega
   subst e;have hRR:fF (dk s) l=some R:=by rw[hR,drop_length];simp[fF]
   clear h hs ih hR
   iterate 5 refine Y ?_
   refine AW.abM 8 (sz:=3) (x0:=λr=>.aa r.1) (e1:=λr=>[.str r.2.ae,.str r.2.aq,.ad 3 ai r.2.af]) R rfl (λ_=>rfl) (λr=>rfl) λm hm1 hm2=>?_;rw[VP hm2];have hml:m.length=R.length:=by rw[<- hm1,length_map]
   have hwl:=Hl l
   have hrB:∀r∈m,jS (dk s) r:=λr hr=>VM hRR (hm1 ▸ mem_map_of_mem hr) (by have:=n8 s;omega);refine AW.imp (Imp.pS 8 rfl (SS m) (λb hb=>?_) (λhnil=>?_))
   ·simp only[length_map,PQ]
    (refine vK2 ?_ ?_<;>with_reducible repeat intro h)
    ·exact hrB _ baa
    rename List dW=>m1
    obtain⟨hpm,hsm⟩:=h;have hl1:=hpm.length_eq;rw[show AV.arr b 0 m.length 4=AV.arr b 0 m1.length 4 by rw[hl1],show AV.v (.int .i64 m.length)=AV.v (.int .i64 m1.length) by rw[hl1]];refine AW.aw [20,125] [6,8,123,124] (λq xs o=>∃t:Nat,xs=[.sl true 3 ((m1.take t).map rkN),.aa t]/\o=[(b,some (rws m1))]/\q=m1.length - t/\t<=m1.length/\∀P a c S,m1.take t=P++(a::c::S)->¬D3 (dk s) a.1 c.1) m1.length [(b,some (rws m1))] (aF rfl) ⟨0,rfl,rfl,rfl,Yt,λP a c S e=>by simp at e⟩ ?_;rintro q xs o ⟨t,rfl,rfl,rfl,ht,HY⟩;refine vK1 ?_;refine AW.c (λh=>?_) λh=>?_
    ·rcases t with _|t
     ·obtain⟨x,ms,rfl⟩:∃x ms,m1=x::ms:=by
       rcases m1 with _|⟨x,ms⟩
       ·exact absurd h zH
       ·exact⟨x,ms,rfl⟩
      rw[mT];simp only[rkC];clear hpm hsm HY hRR hm1 hm2 hrB
      (refine vK1 ?_;intro h h)
      refine AW.c (λh=>?_) λh=>?_
      ·exact absurd h.1 zH
      refine vK1 ?_
      exact⟨_,[_,_],_,by(try simp only[length_cons]);omega,⟨0+1,rfl,rfl,rfl,by(try simp only[length_cons]);omega,λP a c S e=>by
       have:=congrArg List.length e
       simp at this;omega⟩,rfl,gO⟩
     ·obtain⟨ps,x,y,ms,rfl,hps⟩:=MR h;obtain⟨p,cs,e1,_,hp1⟩:=BI ps ms x y;have e2:=e1;rw[e1];simp only[rkC]at e1 ⊢;have hx:=hrB x (hpm.mem_iff.1 zH)
      have hy:=hrB y (hpm.mem_iff.1 zH);unfold jS at hx hy;have ht1:(ps++x::y::ms).take (t+1)=ps++[x]:=by rw[<- hps,take_append,take_of_length_le Yt];simp
      have ht2:(ps++x::y::ms).take (t+1+1)=ps++[x,y]:=by rw[<- hps,take_append,take_of_length_le Yt,show ps.length+1+1 - ps.length=2 by omega];simp
      rw[ht1]at HY ⊢;have hpf:((ps++x::y::ms).map Prod.fst).Perm R:=hm1 ▸ hpm.map _
      have hno:=λg=>SE (P:=ps.map Prod.fst) (S:=ms.map Prod.fst) (a:=x.1) (b:=y.1) hRR hpf zH g;clear hrB hm1 hm2 hpm hsm
      (refine vK1 ?_;intro h h)
      refine AW.c (λh=>?_) λh=>?_
      ·refine vK1 ?_;refine AW.ret ⟨rfl,.inl ⟨[(4,.v (.slice none 0 0)),(5,.ac false)],Lm rfl rfl,?_⟩⟩;refine vK1 ?_;refine eF rfl ?_;refine gS ?_;rw[hno ⟨h.1.2,by rw[h.1.2];exact h.2⟩];rfl
      ·refine vK1 ?_
       have hd2:=Q9 (y:=y) HY λg=>by
        refine h ⟨Yt,g.1⟩ ?_;rw[<- g.1];exact g.2
       exact⟨_,[_,_],_,Yt,⟨t+1+1,by rw[ht2,map_append,map_append,append_assoc];rfl,rfl,rfl,Yt,by rw[ht2];exact hd2⟩,rfl,gO⟩
    ·refine vK1 ?_;have et:t=m1.length:=by omega
     subst et;rw[take_length]at HY;rw[take_length];refine AW.ret ⟨rfl,.inr ⟨4,m1,[(5,.ac true)],hpm,?_,B0 rfl,?_⟩⟩
     ·exact congrArg (AV.sl true 3) (SU λp hp=>hm2 p (hpm.mem_iff.1 hp))
     ·refine vK1 ?_;refine eF rfl ?_;refine gS ?_
      rw[Gf hRR (m:=m1.map Prod.fst) (hm1 ▸ hpm.map _) (List.pairwise_map.2 hsm) (λP a c S e=>by
       obtain⟨P',a',c',S',e1,rfl,rfl⟩:=TB e
       exact HY P' a' c' S' e1)]
      simp only[AV.ad,srO,map_map];refine congrArg (λz=>AV.tup [AV.sl true 3 z,AV.ac true]) (map_congr_left λp _=>?_);simp only[Function.comp,bW]
   ·have hm0:m=[]:=by simpa using hnil
    subst hm0;refine vK1 ?_;refine AW.aw [20,125] [6,8,123,124] (λq xs o=>xs=[.sl true 3 [],.aa 0]/\o=[]) 0 [] trivial ⟨rfl,rfl⟩ ?_;rintro q xs o ⟨rfl,rfl⟩;refine vK1 ?_;refine AW.c (λh=>?_) λh=>?_
    ·exact absurd h zH
    ·refine vK1 ?_;refine AW.ret ⟨rfl,.inr ⟨4,[],[(5,.ac true)],.refl _,rfl,B0 rfl,?_⟩⟩;refine vK1 ?_;refine eF rfl ?_;refine gS ?_;have hR0:R=[]:=by simpa using hm1.symm
     rw[Gf hRR (m:=[]) (by rw[hR0]) List.Pairwise.nil (λP a b S e=>by simp at e)];rfl
end
instance(l:List cM)(n:Str):Ctr lim prog 110 [] [.ab 2 cn l,.str n] (.aa (idx (iF n) l)) [] True:=by
 refine Ctr.bd func110 ntmps110 λhp=>?_;refine AW.f0 0 λhf=>?_;refine vU1 ?_;refine AW.aw [5] [0,1] (λm xs o=>∃k:Nat,xs=[.aa k]/\o=[]/\m=l.length - k/\k<=l.length/\∀x∈l.take k,iF n x=false) l.length [] trivial ⟨0,?_,rfl,rfl,?_,?_⟩ ?_
 ·rfl
 ·omega
 ·simp
 rintro m xs o ⟨k,rfl,rfl,rfl,hk,hR⟩
 (refine vU3 ?_ ?_ ?_<;>with_reducible repeat intro h)
 ·rw[gR baa hR (by simpa[iF]using h)]
 ·exact⟨_,[_],[],Yt,⟨k+1,rfl,rfl,rfl,Yt,bV baa hR (by simpa[iF]using h)⟩,rfl,trivial⟩
 ·rw[jr h hR]
instance(s:Str)(l:List cM):Ctr lim prog 173 [] [.str s,.ab 2 cn l] (.tup [.str (flS l (tk s)),.ac (flB l (tk s))]) [] (s.length<=1048576/\eD l):=by
 refine Ctr.bd func173 ntmps173 λhp=>?_;refine AW.f0 1 λhf=>?_;refine vU1 ?_;refine AW.aw [8,9] [0,1,7] (λm xs o=>∃(k:Nat) (d:List Tok),xs=[.str (jh l d),.aa k]/\o=[]/\m=s.length - k/\k<=s.length/\d.length<=k/\jC s k d/\kY l d=true/\((tk s).2=false->d=[])) s.length [] trivial ⟨0,[],?_,rfl,rfl,?_,?_,sX s,rfl,λ_=>rfl⟩ ?_
 ·rfl
 ·omega
 ·simp
 rintro m xs o ⟨k,d,rfl,rfl,rfl,hk,ha,hR,hall,hd⟩;have he:=rz s (k+1)
 have hol:=pU hp.2 d
 have DN:=@ac8 s k
 have hmore:=hR.more
 have acF:=gu (p:=iF ((s.take (dP s (k+1))).drop (k+1))) l
 have hval:=Ec hp.2 ((s.take (dP s (k+1))).drop (k+1))
 (refine vU ?_;with_reducible repeat' first|exact Le.l|apply Sw|intro(K:_->_->Prop) hK|intro h)
 ·rw[DN Yt];simp;omega
 ·rename_i hc;exact⟨_,[_,_],[],Yt,⟨k+1,d++[_],by rw[mV],rfl,rfl,Yt,by simp;omega,hR.next (vC hc.1 h),by simp[mz,kY,hall],λe=>by rw[hc.2]at e;cases e⟩,by rw[DN hc.1];rfl,trivial⟩
 ·rename_i hc;exact(hmore hc.2 hc.1 h).1
 ·rename_i hc h36;have:=hmore hc.2 hc.1 h36;exact⟨_,[_,_],[],Yt,⟨k+1+1,d++[_],by rw[mV];rfl,rfl,rfl,Yt,by simp;omega,hR.next (Bx this.1 h36 h),by simp[mz,kY,hall],λe=>by rw[hc.2]at e;cases e⟩,rfl,trivial⟩
 ·rename_i hc h36 hn;have:=hmore hc.2 hc.1 h36
  have hb:=Un (l:=l) hR (uB hc.1 h36 (λ_=>hn) (this.2 hn)) h;simp[flS,hb]
 ·rw[nD,if_neg Yt]at hval;simp at hval;omega
 ·rename_i hc h36 hn;have:=hmore hc.2 hc.1 h36
  have hne:=this.2 hn;refine⟨_,[_,_],[],?_,⟨dP s (k+1),d++[.inr ((s.take (dP s (k+1))).drop (k+1))],rfl,rfl,rfl,Yt,by simp;omega,hR.next (uB hc.1 h36 (λ_=>hn) hne),?_,λe=>by rw[hc.2]at e;cases e⟩,?_,trivial⟩
  ·omega
  ·rw[mz,hall];simp[kY,nD];omega
  ·rw[Nat.sub_add_cancel Yt,mV];simp only[jh,nD];rw[if_neg Yt];simp
 ·obtain⟨e1,e2⟩:=Um hR hk h hall hd;rw[e1,<- e2]
def O8(l:List UInt8){n:Int}(h:0<=n/\n<=255):cL l++[.v (.int .u8 n)]=cL (l++[UInt8.ofNat n.toNat]):=by
 have:((UInt8.ofNat n.toNat).toNat:Int)=n:=by rw[UInt8.toNat_ofNat'];omega
 simp only[cL,map_append,map_cons,map_nil,this]
instance(b:Nat)(n:Int)(out:Str):Ctr lim prog 249 [(b,some [.sl true 1 (cL out)])] [.v (.int .u8 n),.ptr b 0] (.tup []) [some [.sl true 1 (cL (out++[UInt8.ofNat n.toNat]))]] ((0<=n/\n<=255)/\out.length<1099511627776):=by refine Ctr.bd func249 ntmps249 λhp=>?_;refine vU1 ?_;rw[O8 out hp.1]
instance(L:gaa)(a v n:Str):Ctr L prog 252 [] [.agg [.str a,.str v],.vp [.str n]] (.ac (a == n)) [] True:=by
 refine Ctr.bd func252 ntmps252 λhp=>?_
 all_goals exact uU
instance(l:List cM)(n:Str):Ctr lim prog 251 [] [.ab 2 cn l,.fn 252 [.vp [.str n]]] (.aa (idx (iF n) l)) [] True:=by
 refine Ctr.bd func251 ntmps251 λhp=>?_;refine AW.f0 0 λhf=>?_;refine vU1 ?_;refine AW.aw [8] [0,1,7] (λm xs o=>∃k:Nat,xs=[.aa k]/\o=[]/\m=l.length - k/\k<=l.length/\∀x∈l.take k,iF n x=false) l.length [] trivial ⟨0,?_,rfl,rfl,?_,?_⟩ ?_
 ·rfl
 ·omega
 ·simp
 rintro m xs o ⟨k,rfl,rfl,rfl,hk,hR⟩
 (refine vU3 ?_ ?_ ?_<;>with_reducible repeat intro h)
 ·rw[gR baa hR (by simpa[iF]using h)]
 ·exact⟨_,[_],[],Yt,⟨k+1,rfl,rfl,rfl,Yt,bV baa hR (by simpa[iF]using h)⟩,rfl,trivial⟩
 ·rw[jr h hR]
instance(b1 b2:Nat)(n:Str)(f:Bool)(out:Str)(l:List cM):Ctr lim prog 250 [(b2,some [.ac f]),(b1,some [.sl true 1 (cL out)])] [.str n,.vp [.ab 2 cn l],.ptr b2 0,.ptr b1 0] (.tup [])
  [some [.ac (f && (nD l n).isSome)],some [.sl true 1 (cL (out++(nD l n).getD []))]] (b2≠b1/\eD l/\out.length<=1099510579200):=by
 refine Ctr.bd func250 ntmps250 λhp=>?_;have acF:=gu (p:=iF n) l
 have hval:=Ec hp.2.1 n
 have hne:=hp.1
 have hlen:=hp.2.2
 have hv:0<=idx (iF n) l->(nD l n).getD []=(at_ l (idx (iF n) l).toNat).aq/\(nD l n).isSome=true:=λh=>by
  rw[nD,if_neg Yt];exact⟨rfl,rfl⟩
 refine vK1 ?_;refine AW.c (λh=>?_) λh=>?_
 ·refine vU2 ?_ ?_
  ·rw[nD,if_pos h];simp
  ·rw[nD,if_pos h];simp
 have hv':=hv h;rw[hv'.1]at hval;refine AW.imp (Imp.mQ (b0:=b1) (k:=0) (cells0:=[.sl true 1 (cL out)]) (sz:=1) (l:=cL out) gO rfl (by simpa[all_eq_true]using Bp out) (λb hb=>?_) (λhnil=>?_))
 ·have hb1:=hb.nf;simp only[go_sem]at hb1;simp only[Bc,wO,set_cons_zero]
  (refine vX1 ?_;intro h h)
  rename_i b3;refine finG.n (EndsG.imp (Imp.FH (b0:=b1) (k:=0) (b:=b3) (len:=out.length+(at_ l (idx (iF n) l).toNat).aq.length) (sz:=1) (cells0:=[.arr b3 0 (out.length+(at_ l (idx (iF n) l).toNat).aq.length) 1]) (cells:=cL out++cL (at_ l (idx (iF n) l).toNat).aq) (l:=cL (out++(at_ l (idx (iF n) l).toNat).aq)) gO rfl (by simp(maxSteps:=2000000) (disch:=omega)only[go_sem,Bc]) Yt (by simp[wO]) ?_ (by simpa[all_eq_true]using Bp _) ?_))
  ·rw[Bc,O7,take_of_length_le (by simp[wO])]
  ·refine EndsG.fin rfl ?_;refine gS ?_;rw[hv'.1,hv'.2];simp
 ·refine vU2 ?_ ?_
  ·rw[hv'.2];simp
  ·have:out=[]:=by cases out with|nil=>rfl|cons c r=>simp[cL]at hnil
   rw[this,hv'.1];rfl
instance(b1 b2:Nat)(s:Str)(l:List cM)(c3:List AV):Ctr lim prog 248 [(b1,some [.sl true 1 []]),(b2,some [.ac true]),(b1,some c3)] [.str s,.fn 249 [.ptr b1 0],.fn 250 [.vp [.ab 2 cn l],.ptr b2 0,.ptr b1 0]] (.ac (tk s).2)
  [some [.sl true 1 (cL (jh l (tk s).1))],some [.ac (kY l (tk s).1)],some [.sl true 1 (cL (jh l (tk s).1))]] (b2≠b1/\eD l/\s.length<=1048576):=by
 refine Ctr.bd func248 ntmps248 λhp=>?_;have hne:=hp.1
 have hls:=hp.2.2
 have hao:=hp.2.1;refine vU1 ?_;refine AW.aw [7] [0,1,2] (λm xs o=>∃(k:Nat) (d:List Tok),xs=[.aa k]/\o=[(b1,some [.sl true 1 (cL (jh l d))]),(b2,some [.ac (kY l d)])]/\m=s.length - k/\k<=s.length/\d.length<=k/\jC s k d) s.length [(b1,some [.sl true 1 []]),(b2,some [.ac true])] ?_ ⟨0,[],?_,rfl,rfl,?_,?_,sX s⟩ ?_
 ·exact gO
 ·rfl
 ·omega
 ·simp
 rintro m xs o ⟨k,d,rfl,rfl,rfl,hk,ha,hR⟩;have hol:=pU hp.2.1 d
 (refine vU ?_;with_reducible repeat' first|exact Le.l|apply Sw|intro(K:_->_->Prop) hK|intro h)
 ·exact⟨_,[_],_,Yt,⟨k+1,d++[_],rfl,rfl,rfl,Yt,by simp;omega,hR.next (vC baa h)⟩,rfl,iw hne.symm (by simp[mV,jh,II]) (by simp[mz,kY])⟩
 ·exact⟨_,[_],_,Yt,⟨k+1+1,d++[_],rfl,rfl,rfl,Yt,by simp;omega,hR.next (Bx h.1 baa h.2)⟩,rfl,iw hne.symm (by simp[mV,jh]) (by simp[mz,kY])⟩
 ·have hq:dP s (k+1)=k+1+1+((s.drop (k+1+1)).takeWhile nmU).length:=by rw[dP,if_pos (by simp only[h.2,Bool.and_true,decide_eq_true_eq];omega),nY h.1 (mY h.2)];omega
  have hle:=rz s (k+1) Yt;refine AW.aw [7] [0,1,2,8] (λm xs o=>∃j:Nat,xs=[.aa j]/\o=[(b1,some [.sl true 1 (cL (jh l d))]),(b2,some [.ac (kY l d)])]/\m=s.length - j/\k+1<=j/\j<=s.length/\j+((s.drop j).takeWhile nmU).length=dP s (k+1)) (s.length - (k+1)) [(b1,some [.sl true 1 (cL (jh l d))]),(b2,some [.ac (kY l d)])] (iw hne.symm rfl rfl) ⟨k+1,?_,rfl,rfl,?_,?_,?_⟩ ?_
  ·rfl
  ·omega
  ·omega
  ·rw[nY h.1 (mY h.2)];omega
  have h3:dP s (k+1)≠k+1:=by omega
  rintro m xs o ⟨j,rfl,rfl,rfl,hj0,hj,hQ⟩
  (refine vU2 ?_ ?_<;>intro h)
  ·rw[nY h.1 h.2]at hQ;exact⟨_,[_],_,Yt,⟨j+1,rfl,rfl,rfl,Yt,Yt,Yt⟩,rfl,iw hne.symm rfl rfl⟩
  ·rw[KY h]at hQ;have hj:j=dP s (k+1):=by simpa using hQ
   subst hj;exact⟨_,[_],_,Yt,⟨_,d++[_],rfl,rfl,rfl,Yt,by simp;omega,hR.next (uB baa baa baa h3)⟩,rfl,iw hne.symm (by simp[mV,jh]) (by simp[mz,kY])⟩
 all_goals first|rw[hR.bad (uD baa baa baa h)]|rw[hR.fin h]
instance(s:Str)(l:List cM):Ctr lim prog 192 [] [.str s,.ab 2 cn l] (.tup [.str (flS l (tk s)),.ac (flB l (tk s))]) [] (s.length<=1048576/\eD l):=by
 refine Ctr.bd func192 ntmps192 λhp=>?_;have h1:=hp.2
 have h2:=pU h1 (tk s).1
 have h3:=Bz s
 (refine vU2 ?_ ?_<;>with_reducible repeat intro h)
 ·have:flB l (tk s)=false:=by rcases h with h|h<;>simp[flB,h]
  simp[flS,this]
 ·simp[flS,flB,h]
end Go.Proofs
namespace Go.Dt
open Go.Ab
mutual
def lF(a:List cM):ah->ah
 | .mk n v ks=>.mk n (flS a (tk v)) (wy a ks)
def wy(a:List cM):List ah->List ah
 | []=>[]
 | x::xs=>lF a x::wy a xs
end
def tP(a:List cM):∀l:List ah,wy a l=l.map (lF a)
 | []=>rfl
 | x::xs=>by simp only[wy,map_cons,tP a xs]
def H6(a:List cM)(x:ah):lF a x=.mk x.ae (flS a (tk x.aq)) (x.af.map (lF a)):=by cases x;simp only[lF,tP];rfl
theorem rZ{α:Type}[Inhabited α]{l:List α}{k:Nat}(h:k<l.length):l.take (k+1)=l.take k++[at_ l k]:=by rw[take_succ_eq_append_getElem h];unfold at_;rw[getElem?_eq_getElem h];rfl
def OO{a:List cM}{s:Str}(h:eD a)(hs:s.length<=1048576):(flS a (tk s)).length<=1099511627776:=by
 have h1:=pU h (tk s).1
 have h2:=Bz s;unfold flS
 cases flB a (tk s)with
 | false=>simp
 | true=>simp only[cond_true];omega
end Go.Dt
namespace Go.Proofs
open Go.Ab Go.Dt
theorem Ol(n:Nat)(ih:∀(l:List ah) (a:List cM),Ctr lim prog 129 [] [.ab 3 ai l,.ab 2 cn a] (.ad 3 ai (l.map (lF a))) [] (wt l<n/\n<=1048577/\eD a))(l:List ah)(a:List cM):Ctr lim prog 129 [] [.ab 3 ai l,.ab 2 cn a] (.ad 3 ai (l.map (lF a))) [] (wt l<n+1/\n+1<=1048577/\eD a):=by
 refine Ctr.bd func129 ntmps129 λhp=>?_;have hl:l.length<=wt l:=by unfold wt;omega
 have ha:=hp.2.2;refine vU1 ?_;refine AW.aw [5,13] [1,11,12] (λm xs o=>∃k:Nat,xs=[.ad 3 ai ((l.take k).map (lF a)),.aa k]/\o=[]/\m=l.length - k/\k<=l.length) l.length [] trivial ⟨0,?_,rfl,rfl,?_⟩ ?_
 ·rfl
 ·omega
 rintro m xs o ⟨k,rfl,rfl,rfl,hk⟩;have hlt:(l.take k).length=k:=by rw[length_take];omega
 have h1:k<l.length->_:=lW (l:=l) (k:=k)
 have h2:k<l.length->(flS a (tk (at_ l k).aq)).length<=1099511627776:=λh=>OO ha (by have:=h1 h;omega);refine vK1 ?_;refine AW.c (λh=>?_) λh=>?_
 ·(refine vK1 ?_;with_reducible repeat intro h)
  ·exact⟨_,[_,_],[],Yt,⟨k+1,by rw[rZ baa,map_append,map_append,map_cons,map_nil,map_cons,map_nil,bW,H6];rfl,rfl,rfl,Yt⟩,rfl,trivial⟩
 ·refine vK1 ?_;rw[show k=l.length by omega,take_length]
theorem EM:∀(n:Nat) (l:List ah) (a:List cM),Ctr lim prog 129 [] [.ab 3 ai l,.ab 2 cn a] (.ad 3 ai (l.map (lF a))) [] (wt l<n/\n<=1048577/\eD a)
 | 0,l,a=>⟨(aU 129),λh=>absurd h.1 (Nat.not_lt_zero _)⟩
 | n+1,l,a=>Ol n (EM n) l a
theorem SL(n:Nat)(ih:∀(l:List ah) (a:List cM),Ctr lim prog 112 [] [.ab 3 ai l,.ab 2 cn a] (.ad 3 ai (l.map (lF a))) [] (wt l<n/\n<=1048577/\eD a))(l:List ah)(a:List cM):Ctr lim prog 112 [] [.ab 3 ai l,.ab 2 cn a] (.ad 3 ai (l.map (lF a))) [] (wt l<n+1/\n+1<=1048577/\eD a):=by
 refine Ctr.bd func112 ntmps112 λhp=>?_;have hl:l.length<=wt l:=by unfold wt;omega
 have ha:=hp.2.2;refine vU1 ?_;refine AW.aw [5,6] [0,1] (λm xs o=>∃k:Nat,xs=[.ad 3 ai ((l.take k).map (lF a)),.aa k]/\o=[]/\m=l.length - k/\k<=l.length) l.length [] trivial ⟨0,?_,rfl,rfl,?_⟩ ?_
 ·rfl
 ·omega
 rintro m xs o ⟨k,rfl,rfl,rfl,hk⟩;have hlt:(l.take k).length=k:=by rw[length_take];omega
 have h1:k<l.length->_:=lW (l:=l) (k:=k)
 have h2:k<l.length->(flS a (tk (at_ l k).aq)).length<=1099511627776:=λh=>OO ha (by have:=h1 h;omega);refine vK1 ?_;refine AW.c (λh=>?_) λh=>?_
 ·(refine vK1 ?_;with_reducible repeat intro h)
  ·exact⟨_,[_,_],[],Yt,⟨k+1,by rw[rZ baa,map_append,map_append,map_cons,map_nil,map_cons,map_nil,bW,H6];rfl,rfl,rfl,Yt⟩,rfl,trivial⟩
 ·refine vK1 ?_;rw[show k=l.length by omega,take_length]
theorem JM:∀(n:Nat) (l:List ah) (a:List cM),Ctr lim prog 112 [] [.ab 3 ai l,.ab 2 cn a] (.ad 3 ai (l.map (lF a))) [] (wt l<n/\n<=1048577/\eD a)
 | 0,l,a=>⟨(aU 112),λh=>absurd h.1 (Nat.not_lt_zero _)⟩
 | n+1,l,a=>SL n (JM n) l a
instance(l:List ah)(a:List cM):Ctr lim prog 129 [] [.ab 3 ai l,.ab 2 cn a] (.ad 3 ai (l.map (lF a))) [] (wt l<=1048576/\eD a):=⟨(aU 129),λh=>(EM 1048577 l a).out ⟨Yt,Yt,h.2⟩⟩
instance(l:List ah)(a:List cM):Ctr lim prog 112 [] [.ab 3 ai l,.ab 2 cn a] (.ad 3 ai (l.map (lF a))) [] (wt l<=1048576/\eD a):=⟨(aU 112),λh=>(JM 1048577 l a).out ⟨Yt,Yt,h.2⟩⟩
end Go.Proofs
namespace Go.Dt
open Go.Ab
theorem HF{α:Type}[Inhabited α]{p:α->Bool}:∀ {l:List α} {j:Nat},j<l.length->p (at_ l j)=true->idx p l<=j/\0<=idx p l
 | [],_,h,_=>by simp at h
 | x::xs,0,_,h=>by
  have:p x=true:=h;simp[idx,this]
 | x::xs,j+1,h,e=>by
  have e':p (at_ xs j)=true:=by simpa[at_]using e
  have:=HF (l:=xs) (j:=j) (by simpa using h) e';simp only[idx];split
  ·omega
  ·split<;>omega
def Pf{l:List cM}{k:Nat}(hk:k<l.length):cont ((l.take k).map cM.ae) (at_ l k).ae=!decide (idx (iF (at_ l k).ae) l=k):=by
 have yT:iF (at_ l k).ae (at_ l k)=true:=by simp[iF]
 have hle:=HF hk yT
 cases hc:cont ((l.take k).map cM.ae) (at_ l k).ae with
 | true =>
  have hm:=(iW _ _).1 hc;obtain⟨x,hx,e⟩:=List.mem_map.1 hm;obtain⟨j,hj,e1⟩:=getElem_of_mem hx;rw[length_take]at hj
  have e2:iF (at_ l k).ae (at_ l j)=true:=by
   have:at_ l j=x:=by
    unfold at_;rw[getElem_take]at e1;rw[getElem?_eq_getElem Yt,e1];rfl
   rw[this,iF,e];simp
  have:=HF (show j<l.length by omega) e2
  have:decide (idx (iF (at_ l k).ae) l=k)=false:=decide_eq_false Yt;rw[this];rfl
 | false =>
  have:idx (iF (at_ l k).ae) l=k:=by
   refine gR hk (λy hy=>?_) yT;rw[iF,beq_eq_false_iff_ne];intro e;rw[(iW _ _).2 (List.mem_map.2 ⟨y,hy,e⟩)]at hc;cases hc
  rw[decide_eq_true this];rfl
def nR(ps:List bR)(l:List cM)(j:Nat):Bool:=decide (0<=j7 ps (at_ l j).ae) && decide (idx (iF (at_ l j).ae) l=j)
def lL(ps:List bR)(l:List cM):Bool:=cz (nR ps l) l.length && decide (l.length=ps.length)
def prT(ps:List bR)(x:cM):dB:=(at_ ps (j7 ps x.ae).toNat).fType
section
variable (ip : Str -> Bool) (cb : dB -> Str -> Bool) (cs : dB -> Str -> Str)
def cnB(ps:List bR)(x:cM):Bool:=cb (prT ps x) x.aq
def cnA(ps:List bR)(x:cM):cM:=⟨x.ae,cs (prT ps x) x.aq⟩
def oB(t:aE)(l:List cM):Bool:=dF ip t && lL t.aI l && cz (λj=>cnB cb t.aI (at_ l j)) l.length
def ftC(t:aE)(l:List cM):Int:=if dF ip t=false then 1 else if lL t.aI l=false then 2 else if cz (λj=>cnB cb t.aI (at_ l j)) l.length=false then 3 else 0
def ftN(t:aE)(l:List cM):List ah:=bif oB ip cb t l then t.dq.map (lF (l.map (cnA cs t.aI))) else []
end
def M9(ps:List bR)(n:Str):j7 ps n<ps.length:=gu ps
def IM{ps:List bR}{l:List cM}{k:Nat}(hk:k<l.length)(h:nR ps l k=false):lL ps l=false:=by rw[lL,cV hk h];rfl
def E4{ps:List bR}{l:List cM}{k:Nat}(h:lL ps l=true)(hk:k<l.length):0<=j7 ps (at_ l k).ae:=by rw[lL,Bool.and_eq_true]at h;have:=o5 h.1 hk;rw[nR,Bool.and_eq_true,decide_eq_true_eq]at this;exact this.1
def clL{α:Type}{f:α->AV}:∀(l:List α),(∀x∈l,(f x).closed=true)->AV.df (l.map f)=true
 | [],_=>rfl
 | x::xs,h=>by simp only[map_cons,AV.df,h x zH,clL xs λy hy=>h y (by simp[hy]),Bool.true_and]
def ndC(x:ah):(ai true x).closed=true:=by rw[bW];simp only[AV.closed,AV.df,clL x.af (λy hy=>ndC y),Bool.true_and,Bool.and_true]
termination_by SizeOf.sizeOf x
decreasing_by have:=sizeOf_lt_of_mem hy;cases x;simp[ah.af]at *;omega
@[go_sem] def Kw(f:ah->ah)(l:List ah):AV.df (l.map (ai true ∘ f))=true:=clL l λx _=>ndC (f x)
