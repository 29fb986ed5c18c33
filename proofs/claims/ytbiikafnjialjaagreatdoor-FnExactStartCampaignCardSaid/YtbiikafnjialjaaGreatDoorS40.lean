/- Part of a proof. -/
import Derived.Test.YtbiikafnjialjaaGreatDoorS37
import Derived.Test.YtbiikafnjialjaaGreatDoorS38
import Derived.Test.YtbiikafnjialjaaGreatDoorS39
set_option linter.all false
set_option maxRecDepth 20000
set_option maxHeartbeats 4000000
open Go.Proofs.Tryz
open List
namespace Go.Dt
open Go Go.Ab
def rkE(r:Int×ah):AV:=.agg [.v (.int .i64 r.1),.str r.2.ae,.str r.2.aq,.sl true 3 (r.2.af.map (ai true))]
@[go_sem] def aa4(R:List (Int×ah)):(R.map rkE).all (AV.elem 4)=true:=by rw[all_eq_true];intro x hx;obtain⟨r,_,rfl⟩:=List.mem_map.1 hx;rfl
def rE{d:List ag}{l:List ah}{R:List (Int×ah)}{k:Nat}(hR:fo d l=(fo d (l.drop k)).map (R++·))(h:k<l.length)(h1:ma d (at_ l k)=none):iz d [] l=none:=by refine zF ?_;rw[hR,bA h,fo,h1];rfl
def DF{d:List ag}{l:List ah}{R:List (Int×ah)}{k:Nat}(hR:fo d l=(fo d (l.drop k)).map (R++·))(h:k<l.length)(h1:ma d (at_ l k)=some none):fo d l=(fo d (l.drop (k+1))).map (R++·):=by rw[hR,bA h,fo,h1]
def Fz{d:List ag}{l:List ah}{R:List (Int×ah)}{k:Nat}{y:ah}(hR:fo d l=(fo d (l.drop k)).map (R++·))(h:k<l.length)(h1:ma d (at_ l k)=some (some y)):fo d l=(fo d (l.drop (k+1))).map ((R++[(idx (nmP (at_ l k).ae) d,y)])++·):=by
 rw[hR,bA h,fo,h1];simp only[Option.map_map]
 congr 1
 funext z
 simp
def Kv(d:List ag)(x:ah)(v:Str)(ks:List ah):Prop :=
 ma d x=if (at_ d (idx (nmP x.ae) d).toNat).aj=1/\(at_ d (idx (nmP x.ae) d).toNat).bQ=false/\ks=[] then some none else some (some (.mk x.ae v ks))
def FP{d:List ag}{x:ah}{v:Str}{ks:List ah}{ok:Bool}(h:tG d x v ks ok)(h1:ok=true)(h2:kyB (at_ d (idx (nmP x.ae) d).toNat) (.mk x.ae v ks)=true):Kv d x v ks:=by unfold Kv;rw[h,if_pos ⟨h1,h2⟩]
def yl{d:List ag}{x:ah}{v:Str}{ks:List ah}{ok:Bool}(h:tG d x v ks ok)(h1:¬(ok=true/\kyB (at_ d (idx (nmP x.ae) d).toNat) (.mk x.ae v ks)=true)):ma d x=none:=by rw[h,if_neg h1]
end Go.Dt
namespace Go.Proofs
open Go.Ab Go.Dt
section
attribute [-instance] eQ
attribute [local go_sem] BW BV BX AP AO AQ bD aS bk eI eH fY iE iM
def Vi{r:Int×ah}{vs:List Value}(h:vs.length=4):pfz (AV.aa r.1::[.str r.2.ae,.str r.2.aq,.ad 3 ai r.2.af]) vs=rkC (r,vs):=by
 match vs,h with
 | [a,b,c,e],_=>simp[pfz,rkC,AV.du,AV.frz,bk]
def Vd{m:List dO}(h:∀p∈m,p.2.length=4):(m.map λp=>AV.agg (pfz (AV.aa p.1.1::[.str p.1.2.ae,.str p.1.2.aq,.ad 3 ai p.1.2.af]) p.2))=m.map λp=>AV.agg (rkC p) :=
 map_congr_left λp hp=>by rw[Vi (h p hp)]
def R6(m:List dO):∀x,x∈(m.map λp=>AV.agg (rkC p))->x.elem 4=true:=by intro x hx;obtain⟨r,_,rfl⟩:=List.mem_map.1 hx;rfl
def OX(m:List dO):(m.map λp=>AV.agg (rkC p)).flatMap AV.cells=rws m:=by rw[flatMap_map];rfl
def Va{d:List ag}{l:List ah}{R:List (Int×ah)}{r:dO}(h:fo d l=some R)(hr:r.1∈R)(hd:d.length<=1048576):jC d r:=by have h1:=rF h _ hr;refine⟨h1.1,?_,hd⟩;have h2:=gb (p:=nmP r.1.2.ae) (l:=d) (by rw[<- h1.2.1];exact h1.1);rw[<- h1.2.1]at h2;have:=h1.1;omega
def rkN(r:dO):AV:=.agg [.str r.1.2.ae,.str r.1.2.aq,.pin ((r.2[3]?).getD undef) (.sl false 3 (r.1.2.af.map (ai false)))]
@[go_sem] def aa3(R:List dO):(R.map rkN).all (AV.elem 3)=true:=by rw[all_eq_true];intro x hx;obtain⟨r,_,rfl⟩:=List.mem_map.1 hx;rfl
instance(n:ag)(x y:dO):Ctr lim prog 201 [] [.agg (cSc n),.agg [.str x.1.2.ae,.str x.1.2.aq,.pin ((x.2[3]?).getD undef) (.ab 3 ai x.1.2.af)],.agg [.str y.1.2.ae,.str y.1.2.aq,.pin ((y.2[3]?).getD undef) (.ab 3 ai y.1.2.af)]] (.aa (jr n x.1.2 y.1.2)) [] True :=
 Ctr.kK (aT 201) λ_=>gj.pins ((PQ n x.1.2 y.1.2).pure trivial) λF w vs hr=>by
  simp only[au]at hr ⊢;obtain⟨y0,v0,f0,g0,rfl,e0,h0,y1,v1,f1,g1,rfl,e1,h1,y2,v2,f2,g2,rfl,e2,h2,r⟩:=hr;refine⟨y0,_,f0,g0,rfl,e0,h0,y1,_,f1,g1,rfl,e1,?_,y2,_,f2,g2,rfl,e2,?_,r⟩
  ·simp only[Rep]at h1 ⊢;obtain⟨us,e,h⟩:=h1;exact⟨us,e,by simpa only[iW,AV.unp]using h.unp⟩
  ·simp only[Rep]at h2 ⊢;obtain⟨us,e,h⟩:=h2;exact⟨us,e,by simpa only[iW,AV.unp]using h.unp⟩
def LW{l:List dO}{t:Nat}(h:t+1<l.length):∃P x y S,l=P++(x::y::S)/\P.length=t :=
 ⟨l.take t,at_ l t,at_ l (t+1),l.drop (t+1+1),by rw[<- rf h,<- rf Um,take_append_drop],by rw[length_take];omega⟩
def Bo{t:faa}{a:Nat}{x:Value}(h:T t a=.v x):xc [(a,.v x)] t:=λj=>by
 by_cases e:j=a
 ·subst e;exact .inr ⟨by rw[h];simp[T],_,h⟩
 ·have e':(a == j)=false:=by simpa using Ne.symm e
  exact .inl (by simp[T,e'])
def Kr{t:faa}{a b:Nat}{x y:Value}(h:T t a=.v x)(h2:T t b=.v y):xc [(a,.v x),(b,.v y)] t:=λj=>by
 by_cases e:j=a
 ·subst e;exact .inr ⟨by rw[h];simp[T],_,h⟩
 ·have e':(a == j)=false:=by simpa using Ne.symm e
  by_cases e2:j=b
  ·subst e2;exact .inr ⟨by rw[h2];simp[T,e'],_,h2⟩
  ·have e2':(b == j)=false:=by simpa using Ne.symm e2
   exact .inl (by simp[T,e',e2'])
def Qq{D:dO->dO->Prop}{ps:List dO}{x y:dO}(h1:∀P a c S,ps++[x]=P++(a::c::S)->¬D a c)(h2:¬D x y):∀P a c S,ps++[x,y]=P++(a::c::S)->¬D a c:=by
 intro P a c S e;rcases Bf S with rfl|⟨S,z,rfl⟩
 ·have:=append_inj' e rfl
  have h3:=this.2;simp only[List.cons.injEq,and_true]at h3;rw[<- h3.1,<- h3.2];exact h2
 ·have e':(ps++[x])++[y]=(P++(a::c::S))++[z]:=by simpa using e
  exact h1 P a c S (append_inj' e' rfl).1
def SK{m:List dO}{P S:List (Int×ah)}{a c:Int×ah}(e:m.map Prod.fst=P++(a::c::S)):∃P' a' c' S',m=P'++(a'::c'::S')/\a'.1=a/\c'.1=c:=by obtain⟨P',Q,rfl,_,e2⟩:=List.map_eq_append_iff.1 e;obtain⟨a',Q,rfl,ea,e3⟩:=List.map_eq_cons_iff.1 e2;obtain⟨c',Q,rfl,ec,_⟩:=List.map_eq_cons_iff.1 e3;exact⟨P',a',c',Q,rfl,ea,ec⟩
def R7{m:List dO}(h:∀p∈m,p.2.length=4):m.map rkN=m.map λp=>AV.agg (pfz [.str p.1.2.ae,.str p.1.2.aq,.ad 3 ai p.1.2.af] p.2.tail):=by
 refine map_congr_left λp hp=>?_;obtain⟨r,vs⟩:=p;have h4:=h _ hp
 match vs,h4 with
 | [a,b,c,e],_=>simp[pfz,rkN,AV.du,AV.frz,bk]
def zE{d:List ag}:∀ {l acc out:List ah},iz d acc l=some out->out.length<=acc.length+l.length
 | [],acc,out,h=>by
  rw[u6]at h;cases h;exact Nat.le_refl _
 | x::xs,acc,out,h=>by
  rw[sD]at h;split at h
  ·cases h
  ·have:=zE h;simp only[length_cons];omega
  ·split at h
   ·cases h
   ·rename_i hp;have:=zE h
    have:=(sG _ _ _ hp).length_eq;simp only[length_cons]at *;omega
theorem FF:∀(n:Nat) (s:List ag) (l:List ah),Ctr lim prog 132 [] [.ab 19 ak s,.ab 3 ai l] (srO (iz (dk s) [] l)) [] (SizeOf.sizeOf l<n/\wtS s<=1048576/\wt l<=1048576)
 | 0,_,l=>⟨(aT 132),λh=>absurd h.1 (Nat.not_lt_zero _)⟩
 | n+1,s,l=>by
  have ih:=FF n;refine Ctr.bd func132 ntmps132 λhp=>?_;have gOn:=bI.on;obtain⟨hs,hb,hv⟩:=hp;have hc:=gV s;refine AW.f1 1 λhf=>?_
  (refine vK1 ?_;intro h)
  rename Nat=>b
  refine AW.imp (Imp.vpO 6 (b:=b) (off:=0) (cells:=[.ab 19 ak (dk s)]) rfl (eM _ _ _) rfl ?_);refine AW.aw [8,30] [1,6,7,28,29] (λm xs o=>∃(k:Nat) (R:List (Int×ah)),xs=[.sl true 4 (R.map rkE),.aa k]/\o=[]/\m=l.length - k/\k<=l.length/\R.length<=k/\fo (dk s) l=(fo (dk s) (l.drop k)).map (R++·)) l.length [] trivial ⟨0,[],rfl,rfl,rfl,Um,Xp,Xp⟩ ?_;rintro m xs o ⟨k,R,rfl,rfl,rfl,hk,hRl,hR⟩;refine vK1 ?_;refine AW.c (λh=>?_) λh=>?_
  ·have hw:=lM (l:=l) h
   have hsz:=ah.dA (at_mem h)
   have hky:=λhq=>(gb (p:=nmP (at_ l k).ae) (l:=dk s) hq).1
   have hkx:=λhq=>jR _ _ (gb (p:=nmP (at_ l k).ae) (l:=dk s) hq).2.2
   have hkl:=h;clear h
   (refine vK1 ?_;intro h)
   refine AW.c (λh=>?_) λh=>?_
   ·refine vK1 ?_;rw[rE hR hkl (by rw[ma,if_pos h])];rfl
   have h0:0<=idx (nmP (at_ l k).ae) (dk s):=by omega
   clear h
   (refine vK1 ?_;intro h h h h)
   rename_i b1 b2 hb1 b3;have hb2:=h;clear h;refine AW.vY [1,6,7,8,11,12,13,28,29,30] (λp:Str×List ah=>[(1,.ab 3 ai l),(6,.vp [.ab 19 ak (dk s)]),(7,.am (nmS (dk s))),(8,.sl true 4 (R.map rkE)),(11,.aa (idx (nmP (at_ l k).ae) (dk s))),(12,.ptr b2 0),(13,.ptr b3 0),(28,.ab 3 ai l),(29,.aa l.length),(30,.aa k)]) (λp=>[(b3,some [.str (at_ l k).ae,.str p.1,.ad 3 ai p.2]),(b2,some (cSc (at_ (dk s) (idx (nmP (at_ l k).ae) (dk s)).toNat)))]) (λp=>Kv (dk s) (at_ l k) p.1 p.2/\p.2.length<=1048576) ?_ ?_
   ·have abY:=hkx h0;refine AW.c (λh=>?_) λh=>?_
    ·have hone:=DR h0 h
     have abX:=(gN (n:=(at_ (dk s) (idx (nmP (at_ l k).ae) (dk s)).toNat)) (x:=.mk (at_ l k).ae (cvS (at_ (dk s) (idx (nmP (at_ l k).ae) (dk s)).toNat).fType (at_ l k).aq) []) Um).2;clear ih;refine vK1 ?_;refine AW.c (λh=>?_) λh=>?_
     ·refine vK1 ?_;refine AW.ret (Imp.id (.inr ⟨Xp,?_⟩));refine vK1 ?_;refine eF rfl ?_;refine gS ?_
      rw[rE hR hkl (yl hone (by
       rintro⟨h1,_⟩;rw[Bool.and_eq_true]at h1;rcases h with h|h
       ·rw[h]at h1;exact absurd h1.1 Xp
       ·rw[List.isEmpty_iff.1 h1.2]at h;exact absurd h Xp))];rfl
     ·refine vK1 ?_;refine Imp.nA (b:=b3) 3 [_,_] [] (eM _ _ _) ?_;have hkn:(at_ l k).af=[]:=List.length_eq_zero_iff.1 Um;exact .inl ⟨(cvS (at_ (dk s) (idx (nmP (at_ l k).ae) (dk s)).toNat).fType (at_ l k).aq,[]),⟨FP hone (by rw[h.1,hkn];rfl) abX,Xp⟩,rfl,gO⟩
    ·have hi:=ih (at_ (dk s) (idx (nmP (at_ l k).ae) (dk s)).toNat).af (at_ l k).af;clear ih
     cases hks:iz (dk (at_ (dk s) (idx (nmP (at_ l k).ae) (dk s)).toNat).af) [] (at_ l k).af with
     | none =>
      have hone:=DQ h0 h hks;rw[hks]at hi;simp only[srO]at hi;refine vK1 ?_;refine AW.e λh=>?_;refine vK1 ?_;refine AW.ret (Imp.id (.inr ⟨Xp,?_⟩));refine vK1 ?_;refine eF rfl ?_;refine gS ?_;rw[rE hR hkl (yl hone Xp)];rfl
     | some ks =>
      have hone:=DP h0 h hks;rw[hks]at hi;simp only[srO]at hi;have hkf:=VU (at_ (dk s) (idx (nmP (at_ l k).ae) (dk s)).toNat) (.mk (at_ l k).ae [] ks);simp only[cNo,cSc,Qd,Qc,Qe]at hkf;have abZ:=zE hks
      have hwl:=Gm (at_ l k).af;refine vK1 ?_;refine AW.c (λh=>?_) λh=>?_
      ·refine vK1 ?_;refine AW.ret (Imp.id (.inr ⟨Xp,?_⟩));refine vK1 ?_;refine eF rfl ?_;refine gS ?_;rw[rE hR hkl (yl hone (by rintro⟨h1,_⟩;exact h (by simpa using h1)))];rfl
      ·have hval:=h;clear h
       repeat refine Y ?_
       (refine Z ?_;refine λ(K:_->_->Prop) hK=>?_;refine gS ?_)
       refine vN1 ?_;refine AW.imp (Imp.Yq (b:=b3) [_,_] [] (eM _ _ _) λq1 q2 q3=>?_);refine gS ?_
       (refine Z ?_;refine λ(K:_->_->Prop) hK=>?_;refine gS ?_)
       refine vN1 ?_;refine vK1 ?_;refine AW.c (λh=>?_) λh=>?_
       ·refine vK1 ?_;refine AW.ret (Imp.id (.inr ⟨Xp,?_⟩));refine vK1 ?_;refine eF rfl ?_;refine gS ?_;rw[rE hR hkl (yl hone (by rintro⟨_,h1⟩;rw[h]at h1;cases h1))];rfl
       ·refine vK1 ?_;refine Imp.rz (b:=b3) [_,_] [_] [] (eM _ _ _) ?_;exact .inl ⟨([],ks),⟨FP hone (by simpa using hval) h,by show ks.length<=_;simp only[length_nil]at abZ;omega⟩,rfl,gO⟩
   ·rintro⟨v,ks⟩ ⟨hone,ab0⟩;unfold Kv at hone;simp only at hone ⊢;clear hs hsz hw hky hkx hc ih;refine AW.imp (Imp.mH (b0:=b3) (k:=2) (sz:=3) (l:=ks.map (ai true)) (eM _ _ _) rfl (bW (λx=>by rw[bO];rfl) _) (λb4 hb4=>?_) (λhnil=>?_))
    ·have hb:=hb4.nf;simp only[go_sem]at hb;simp only[set_cons_zero,set_cons_succ,length_map];refine vK1 ?_;refine AW.c (λh=>?_) λh=>?_
     ·refine vK1 ?_;rw[if_pos ⟨h.1.1,h.1.2,List.length_eq_zero_iff.1 Um⟩]at hone;exact⟨_,[_,_],[],Um,⟨k+1,R,rfl,rfl,rfl,Um,Um,DF hR hkl hone⟩,rfl,trivial⟩
     ·refine AW.imp (Imp.ER (b0:=b3) (k:=2) (b:=b4) (sz:=3) (len:=ks.length) (cells0:=[.str (at_ l k).ae,.str v,.arr b4 0 ks.length 3]) (cells:=(ks.map (ai true)).flatMap AV.cells) (l:=ks.map (ai true)) gO rfl gO (by grind) (by rw[length_map]) (by rw[take_of_length_le];rw[dw (sz:=3) (bW (λx=>by rw[bO];rfl) _),length_map];exact Nat.le_refl _) (bW (λx=>by rw[bO];rfl) _) ?_);simp only[set_cons_zero,set_cons_succ];refine vK1 ?_;rw[if_neg (by rintro⟨g1,g2,g3⟩;exact h ⟨g1,g2⟩ (by rw[g3];rfl))]at hone;exact⟨_,[_,_],[],Um,⟨k+1,R++[(idx (nmP (at_ l k).ae) (dk s),.mk (at_ l k).ae v ks)],rfl,rfl,rfl,Um,by rw[length_append,length_singleton];omega,Fz hR hkl (by rw[hone])⟩,by rw[map_append];rfl,trivial⟩
    ·simp only[set_cons_zero,set_cons_succ];have hkn:ks=[]:=by simpa using hnil
     refine vK1 ?_;refine AW.c (λh=>?_) λh=>?_
     ·refine vK1 ?_;rw[if_pos ⟨h.1.1,h.1.2,hkn⟩]at hone;exact⟨_,[_,_],[],Um,⟨k+1,R,rfl,rfl,rfl,Um,Um,DF hR hkl hone⟩,rfl,trivial⟩
     ·refine AW.imp (Imp.nA (b:=b3) 3 [_,_] [] (eM _ _ _) ?_);refine gS ?_;refine vK1 ?_;rw[if_neg (by rintro⟨g1,g2,g3⟩;exact h ⟨g1,g2⟩ rfl)]at hone;exact⟨_,[_,_],[],Um,⟨k+1,R++[(idx (nmP (at_ l k).ae) (dk s),.mk (at_ l k).ae v [])],rfl,rfl,rfl,Um,by rw[length_append,length_singleton];omega,Fz hR hkl (by rw[hone,hkn])⟩,by rw[map_append];rfl,trivial⟩
  ·have e:k=l.length:=by omega
   subst e;have hRR:fo (dk s) l=some R:=by rw[hR,drop_length];simp[fo]
   clear h hs ih hR
   iterate 5 refine Y ?_
   refine AW.aba 8 (sz:=3) (x0:=λr=>.aa r.1) (e1:=λr=>[.str r.2.ae,.str r.2.aq,.ad 3 ai r.2.af]) R rfl (λ_=>rfl) (λr=>rfl) λm hm1 hm2=>?_;rw[Vd hm2];have hml:m.length=R.length:=by rw[<- hm1,length_map]
   have hwl:=Gm l
   have hrB:∀r∈m,jC (dk s) r:=λr hr=>Va hRR (hm1 ▸ mem_map_of_mem hr) (by have:=nQ s;omega);refine AW.imp (Imp.pj 8 rfl (R6 m) (λb hb=>?_) (λhnil=>?_))
   ·simp only[length_map,OX]
    (refine vK2 ?_ ?_<;>with_reducible repeat intro h)
    ·exact hrB _ baa
    rename List dO=>m1
    obtain⟨hpm,hsm⟩:=h;have hl1:=hpm.length_eq;rw[show AV.arr b 0 m.length 4=AV.arr b 0 m1.length 4 by rw[hl1],show AV.v (.int .i64 m.length)=AV.v (.int .i64 m1.length) by rw[hl1]];refine AW.aw [20,125] [6,8,123,124] (λq xs o=>∃t:Nat,xs=[.sl true 3 ((m1.take t).map rkN),.aa t]/\o=[(b,some (rws m1))]/\q=m1.length - t/\t<=m1.length/\∀P a c S,m1.take t=P++(a::c::S)->¬Di (dk s) a.1 c.1) m1.length [(b,some (rws m1))] (aE rfl) ⟨0,rfl,rfl,rfl,Um,λP a c S e=>by simp at e⟩ ?_;rintro q xs o ⟨t,rfl,rfl,rfl,ht,G4⟩;refine vK1 ?_;refine AW.c (λh=>?_) λh=>?_
    ·rcases t with _|t
     ·obtain⟨x,ms,rfl⟩:∃x ms,m1=x::ms:=by
       rcases m1 with _|⟨x,ms⟩
       ·exact absurd h Xp
       ·exact⟨x,ms,rfl⟩
      rw[mK];simp only[rkC];clear hpm hsm G4 hRR hm1 hm2 hrB
      (refine vK1 ?_;intro h h)
      refine AW.c (λh=>?_) λh=>?_
      ·exact absurd h.1 Xp
      refine vK1 ?_
      exact⟨_,[_,_],_,by(try simp only[length_cons]);omega,⟨0+1,rfl,rfl,rfl,by(try simp only[length_cons]);omega,λP a c S e=>by
       have:=congrArg List.length e
       simp at this;omega⟩,rfl,gO⟩
     ·obtain⟨ps,x,y,ms,rfl,hps⟩:=LW h;obtain⟨p,cs,e1,_,hp1⟩:=AY ps ms x y;have e2:=e1;rw[e1];simp only[rkC]at e1 ⊢;have hx:=hrB x (hpm.mem_iff.1 Xp)
      have hy:=hrB y (hpm.mem_iff.1 Xp);unfold jC at hx hy;have ht1:(ps++x::y::ms).take (t+1)=ps++[x]:=by rw[<- hps,take_append,take_of_length_le Um];simp
      have ht2:(ps++x::y::ms).take (t+1+1)=ps++[x,y]:=by rw[<- hps,take_append,take_of_length_le Um,show ps.length+1+1 - ps.length=2 by omega];simp
      rw[ht1]at G4 ⊢;have hpf:((ps++x::y::ms).map Prod.fst).Perm R:=hm1 ▸ hpm.map _
      have hno:=λg=>RT (P:=ps.map Prod.fst) (S:=ms.map Prod.fst) (a:=x.1) (b:=y.1) hRR hpf Xp g;clear hrB hm1 hm2 hpm hsm
      (refine vK1 ?_;intro h h)
      refine AW.c (λh=>?_) λh=>?_
      ·refine vK1 ?_;refine AW.ret ⟨rfl,.inl ⟨[(4,.v (.slice none 0 0)),(5,.ac false)],Kr rfl rfl,?_⟩⟩;refine vK1 ?_;refine eF rfl ?_;refine gS ?_;rw[hno ⟨h.1.2,by rw[h.1.2];exact h.2⟩];rfl
      ·refine vK1 ?_
       have hd2:=Qq (y:=y) G4 λg=>by
        refine h ⟨Um,g.1⟩ ?_;rw[<- g.1];exact g.2
       exact⟨_,[_,_],_,Um,⟨t+1+1,by rw[ht2,map_append,map_append,append_assoc];rfl,rfl,rfl,Um,by rw[ht2];exact hd2⟩,rfl,gO⟩
    ·refine vK1 ?_;have et:t=m1.length:=by omega
     subst et;rw[take_length]at G4;rw[take_length];refine AW.ret ⟨rfl,.inr ⟨4,m1,[(5,.ac true)],hpm,?_,Bo rfl,?_⟩⟩
     ·exact congrArg (AV.sl true 3) (R7 λp hp=>hm2 p (hpm.mem_iff.1 hp))
     ·refine vK1 ?_;refine eF rfl ?_;refine gS ?_
      rw[Fq hRR (m:=m1.map Prod.fst) (hm1 ▸ hpm.map _) (List.pairwise_map.2 hsm) (λP a c S e=>by
       obtain⟨P',a',c',S',e1,rfl,rfl⟩:=SK e
       exact G4 P' a' c' S' e1)]
      simp only[AV.ad,srO,map_map];refine congrArg (λz=>AV.tup [AV.sl true 3 z,AV.ac true]) (map_congr_left λp _=>?_);simp only[Function.comp,bO]
   ·have hm0:m=[]:=by simpa using hnil
    subst hm0;refine vK1 ?_;refine AW.aw [20,125] [6,8,123,124] (λq xs o=>xs=[.sl true 3 [],.aa 0]/\o=[]) 0 [] trivial ⟨rfl,rfl⟩ ?_;rintro q xs o ⟨rfl,rfl⟩;refine vK1 ?_;refine AW.c (λh=>?_) λh=>?_
    ·exact absurd h Xp
    ·refine vK1 ?_;refine AW.ret ⟨rfl,.inr ⟨4,[],[(5,.ac true)],.refl _,rfl,Bo rfl,?_⟩⟩;refine vK1 ?_;refine eF rfl ?_;refine gS ?_;have hR0:R=[]:=by simpa using hm1.symm
     rw[Fq hRR (m:=[]) (by rw[hR0]) List.Pairwise.nil (λP a b S e=>by simp at e)];rfl
end
instance(l:List cu)(n:Str):Ctr lim prog 110 [] [.ab 2 bS l,.str n] (.aa (idx (il n) l)) [] True:=by
 refine Ctr.bd func110 ntmps110 λhp=>?_;refine AW.f0 0 λhf=>?_;refine vU1 ?_;refine AW.aw [5] [0,1] (λm xs o=>∃k:Nat,xs=[.aa k]/\o=[]/\m=l.length - k/\k<=l.length/\∀x∈l.take k,il n x=false) l.length [] trivial ⟨0,?_,rfl,rfl,?_,?_⟩ ?_
 ·rfl
 ·omega
 ·simp
 rintro m xs o ⟨k,rfl,rfl,rfl,hk,hR⟩
 (refine vU3 ?_ ?_ ?_<;>with_reducible repeat intro h)
 ·rw[gD baa hR (by simpa[il]using h)]
 ·exact⟨_,[_],[],Um,⟨k+1,rfl,rfl,rfl,Um,bL baa hR (by simpa[il]using h)⟩,rfl,trivial⟩
 ·rw[jh h hR]
instance(s:Str)(l:List cu):Ctr lim prog 173 [] [.str s,.ab 2 bS l] (.tup [.str (flS l (tk s)),.ac (flB l (tk s))]) [] (s.length<=1048576/\eO l):=by
 refine Ctr.bd func173 ntmps173 λhp=>?_;refine AW.f0 1 λhf=>?_;refine vU1 ?_;refine AW.aw [8,9] [0,1,7] (λm xs o=>∃(k:Nat) (d:List Tok),xs=[.str (iZ l d),.aa k]/\o=[]/\m=s.length - k/\k<=s.length/\d.length<=k/\jn s k d/\kI l d=true/\((tk s).2=false->d=[])) s.length [] trivial ⟨0,[],?_,rfl,rfl,?_,?_,sx s,rfl,λ_=>rfl⟩ ?_
 ·rfl
 ·omega
 ·simp
 rintro m xs o ⟨k,d,rfl,rfl,rfl,hk,ha,hR,hall,hd⟩;have he:=qM s (k+1)
 have hol:=pz hp.2 d
 have C3:=@acz s k
 have hmore:=hR.more
 have ab3:=fV (p:=il ((s.take (dG s (k+1))).drop (k+1))) l
 have hval:=Dr hp.2 ((s.take (dG s (k+1))).drop (k+1))
 (refine vU ?_;with_reducible repeat' first|exact Le.l|apply Sw|intro(K:_->_->Prop) hK|intro h)
 ·rw[C3 Um];simp;omega
 ·rename_i hc;exact⟨_,[_,_],[],Um,⟨k+1,d++[_],by rw[mM],rfl,rfl,Um,by simp;omega,hR.next (uS hc.1 h),by simp[mi,kI,hall],λe=>by rw[hc.2]at e;cases e⟩,by rw[C3 hc.1];rfl,trivial⟩
 ·rename_i hc;exact(hmore hc.2 hc.1 h).1
 ·rename_i hc h36;have:=hmore hc.2 hc.1 h36;exact⟨_,[_,_],[],Um,⟨k+1+1,d++[_],by rw[mM];rfl,rfl,rfl,Um,by simp;omega,hR.next (AK this.1 h36 h),by simp[mi,kI,hall],λe=>by rw[hc.2]at e;cases e⟩,rfl,trivial⟩
 ·rename_i hc h36 hn;have:=hmore hc.2 hc.1 h36
  have hb:=TA (l:=l) hR (tT hc.1 h36 (λ_=>hn) (this.2 hn)) h;simp[flS,hb]
 ·rw[nj,if_neg Um]at hval;simp at hval;omega
 ·rename_i hc h36 hn;have:=hmore hc.2 hc.1 h36
  have hne:=this.2 hn;refine⟨_,[_,_],[],?_,⟨dG s (k+1),d++[.inr ((s.take (dG s (k+1))).drop (k+1))],rfl,rfl,rfl,Um,by simp;omega,hR.next (tT hc.1 h36 (λ_=>hn) hne),?_,λe=>by rw[hc.2]at e;cases e⟩,?_,trivial⟩
  ·omega
  ·rw[mi,hall];simp[kI,nj];omega
  ·rw[Nat.sub_add_cancel Um,mM];simp only[iZ,nj];rw[if_neg Um];simp
 ·obtain⟨e1,e2⟩:=Tz hR hk h hall hd;rw[e1,<- e2]
def Oc(l:List UInt8){n:Int}(h:0<=n/\n<=255):ct l++[.v (.int .u8 n)]=ct (l++[UInt8.ofNat n.toNat]):=by
 have:((UInt8.ofNat n.toNat).toNat:Int)=n:=by rw[UInt8.toNat_ofNat'];omega
 simp only[ct,map_append,map_cons,map_nil,this]
instance(b:Nat)(n:Int)(out:Str):Ctr lim prog 249 [(b,some [.sl true 1 (ct out)])] [.v (.int .u8 n),.ptr b 0] (.tup []) [some [.sl true 1 (ct (out++[UInt8.ofNat n.toNat]))]] ((0<=n/\n<=255)/\out.length<1099511627776):=by refine Ctr.bd func249 ntmps249 λhp=>?_;refine vU1 ?_;rw[Oc out hp.1]
instance(L:gaa)(a v n:Str):Ctr L prog 252 [] [.agg [.str a,.str v],.vp [.str n]] (.ac (a == n)) [] True:=by
 refine Ctr.bd func252 ntmps252 λhp=>?_
 all_goals exact uU
instance(l:List cu)(n:Str):Ctr lim prog 251 [] [.ab 2 bS l,.fn 252 [.vp [.str n]]] (.aa (idx (il n) l)) [] True:=by
 refine Ctr.bd func251 ntmps251 λhp=>?_;refine AW.f0 0 λhf=>?_;refine vU1 ?_;refine AW.aw [8] [0,1,7] (λm xs o=>∃k:Nat,xs=[.aa k]/\o=[]/\m=l.length - k/\k<=l.length/\∀x∈l.take k,il n x=false) l.length [] trivial ⟨0,?_,rfl,rfl,?_,?_⟩ ?_
 ·rfl
 ·omega
 ·simp
 rintro m xs o ⟨k,rfl,rfl,rfl,hk,hR⟩
 (refine vU3 ?_ ?_ ?_<;>with_reducible repeat intro h)
 ·rw[gD baa hR (by simpa[il]using h)]
 ·exact⟨_,[_],[],Um,⟨k+1,rfl,rfl,rfl,Um,bL baa hR (by simpa[il]using h)⟩,rfl,trivial⟩
 ·rw[jh h hR]
instance(b1 b2:Nat)(n:Str)(f:Bool)(out:Str)(l:List cu):Ctr lim prog 250 [(b2,some [.ac f]),(b1,some [.sl true 1 (ct out)])] [.str n,.vp [.ab 2 bS l],.ptr b2 0,.ptr b1 0] (.tup [])
  [some [.ac (f && (nj l n).isSome)],some [.sl true 1 (ct (out++(nj l n).getD []))]] (b2≠b1/\eO l/\out.length<=1099510579200):=by
 refine Ctr.bd func250 ntmps250 λhp=>?_;have ab3:=fV (p:=il n) l
 have hval:=Dr hp.2.1 n
 have hne:=hp.1
 have hlen:=hp.2.2
 have hv:0<=idx (il n) l->(nj l n).getD []=(at_ l (idx (il n) l).toNat).aq/\(nj l n).isSome=true:=λh=>by
  rw[nj,if_neg Um];exact⟨rfl,rfl⟩
 refine vK1 ?_;refine AW.c (λh=>?_) λh=>?_
 ·refine vU2 ?_ ?_
  ·rw[nj,if_pos h];simp
  ·rw[nj,if_pos h];simp
 have hv':=hv h;rw[hv'.1]at hval;refine AW.imp (Imp.mH (b0:=b1) (k:=0) (cells0:=[.sl true 1 (ct out)]) (sz:=1) (l:=ct out) gO rfl (by simpa[all_eq_true]using Az out) (λb hb=>?_) (λhnil=>?_))
 ·have hb1:=hb.nf;simp only[go_sem]at hb1;simp only[Ai,wj,set_cons_zero]
  (refine vX1 ?_;intro h h)
  rename_i b3;refine finG.n (EndsG.imp (Imp.ER (b0:=b1) (k:=0) (b:=b3) (len:=out.length+(at_ l (idx (il n) l).toNat).aq.length) (sz:=1) (cells0:=[.arr b3 0 (out.length+(at_ l (idx (il n) l).toNat).aq.length) 1]) (cells:=ct out++ct (at_ l (idx (il n) l).toNat).aq) (l:=ct (out++(at_ l (idx (il n) l).toNat).aq)) gO rfl (by simp(maxSteps:=2000000) (disch:=omega)only[go_sem,Ai]) Um (by simp[wj]) ?_ (by simpa[all_eq_true]using Az _) ?_))
  ·rw[Ai,Ob,take_of_length_le (by simp[wj])]
  ·refine EndsG.fin rfl ?_;refine gS ?_;rw[hv'.1,hv'.2];simp
 ·refine vU2 ?_ ?_
  ·rw[hv'.2];simp
  ·have:out=[]:=by cases out with|nil=>rfl|cons c r=>simp[ct]at hnil
   rw[this,hv'.1];rfl
instance(b1 b2:Nat)(s:Str)(l:List cu)(c3:List AV):Ctr lim prog 248 [(b1,some [.sl true 1 []]),(b2,some [.ac true]),(b1,some c3)] [.str s,.fn 249 [.ptr b1 0],.fn 250 [.vp [.ab 2 bS l],.ptr b2 0,.ptr b1 0]] (.ac (tk s).2)
  [some [.sl true 1 (ct (iZ l (tk s).1))],some [.ac (kI l (tk s).1)],some [.sl true 1 (ct (iZ l (tk s).1))]] (b2≠b1/\eO l/\s.length<=1048576):=by
 refine Ctr.bd func248 ntmps248 λhp=>?_;have hne:=hp.1
 have hls:=hp.2.2
 have hao:=hp.2.1;refine vU1 ?_;refine AW.aw [7] [0,1,2] (λm xs o=>∃(k:Nat) (d:List Tok),xs=[.aa k]/\o=[(b1,some [.sl true 1 (ct (iZ l d))]),(b2,some [.ac (kI l d)])]/\m=s.length - k/\k<=s.length/\d.length<=k/\jn s k d) s.length [(b1,some [.sl true 1 []]),(b2,some [.ac true])] ?_ ⟨0,[],?_,rfl,rfl,?_,?_,sx s⟩ ?_
 ·exact gO
 ·rfl
 ·omega
 ·simp
 rintro m xs o ⟨k,d,rfl,rfl,rfl,hk,ha,hR⟩;have hol:=pz hp.2.1 d
 (refine vU ?_;with_reducible repeat' first|exact Le.l|apply Sw|intro(K:_->_->Prop) hK|intro h)
 ·exact⟨_,[_],_,Um,⟨k+1,d++[_],rfl,rfl,rfl,Um,by simp;omega,hR.next (uS baa h)⟩,rfl,gX hne.symm (by simp[mM,iZ,HK]) (by simp[mi,kI])⟩
 ·exact⟨_,[_],_,Um,⟨k+1+1,d++[_],rfl,rfl,rfl,Um,by simp;omega,hR.next (AK h.1 baa h.2)⟩,rfl,gX hne.symm (by simp[mM,iZ]) (by simp[mi,kI])⟩
 ·have hq:dG s (k+1)=k+1+1+((s.drop (k+1+1)).takeWhile nmU).length:=by rw[dG,if_pos (by simp only[h.2,Bool.and_true,decide_eq_true_eq];omega),nO h.1 (mP h.2)];omega
  have hle:=qM s (k+1) Um;refine AW.aw [7] [0,1,2,8] (λm xs o=>∃j:Nat,xs=[.aa j]/\o=[(b1,some [.sl true 1 (ct (iZ l d))]),(b2,some [.ac (kI l d)])]/\m=s.length - j/\k+1<=j/\j<=s.length/\j+((s.drop j).takeWhile nmU).length=dG s (k+1)) (s.length - (k+1)) [(b1,some [.sl true 1 (ct (iZ l d))]),(b2,some [.ac (kI l d)])] (gX hne.symm rfl rfl) ⟨k+1,?_,rfl,rfl,?_,?_,?_⟩ ?_
  ·rfl
  ·omega
  ·omega
  ·rw[nO h.1 (mP h.2)];omega
  have h3:dG s (k+1)≠k+1:=by omega
  rintro m xs o ⟨j,rfl,rfl,rfl,hj0,hj,hQ⟩
  (refine vU2 ?_ ?_<;>intro h)
  ·rw[nO h.1 h.2]at hQ;exact⟨_,[_],_,Um,⟨j+1,rfl,rfl,rfl,Um,Um,Um⟩,rfl,gX hne.symm rfl rfl⟩
  ·rw[J6 h]at hQ;have hj:j=dG s (k+1):=by simpa using hQ
   subst hj;exact⟨_,[_],_,Um,⟨_,d++[_],rfl,rfl,rfl,Um,by simp;omega,hR.next (tT baa baa baa h3)⟩,rfl,gX hne.symm (by simp[mM,iZ]) (by simp[mi,kI])⟩
 all_goals first|rw[hR.bad (tV baa baa baa h)]|rw[hR.fin h]
instance(s:Str)(l:List cu):Ctr lim prog 192 [] [.str s,.ab 2 bS l] (.tup [.str (flS l (tk s)),.ac (flB l (tk s))]) [] (s.length<=1048576/\eO l):=by
 refine Ctr.bd func192 ntmps192 λhp=>?_;have h1:=hp.2
 have h2:=pz h1 (tk s).1
 have h3:=AL s
 (refine vU2 ?_ ?_<;>with_reducible repeat intro h)
 ·have:flB l (tk s)=false:=by rcases h with h|h<;>simp[flB,h]
  simp[flS,this]
 ·simp[flS,flB,h]
end Go.Proofs
namespace Go.Dt
open Go.Ab
mutual
def lf(a:List cu):ah->ah
 | .mk n v ks=>.mk n (flS a (tk v)) (vM a ks)
def vM(a:List cu):List ah->List ah
 | []=>[]
 | x::xs=>lf a x::vM a xs
end
def sW(a:List cu):∀l:List ah,vM a l=l.map (lf a)
 | []=>rfl
 | x::xs=>by simp only[vM,map_cons,sW a xs]
def Hb(a:List cu)(x:ah):lf a x=.mk x.ae (flS a (tk x.aq)) (x.af.map (lf a)):=by cases x;simp only[lf,sW];rfl
theorem rB{α:Type}[Inhabited α]{l:List α}{k:Nat}(h:k<l.length):l.take (k+1)=l.take k++[at_ l k]:=by rw[take_succ_eq_append_getElem h];unfold at_;rw[getElem?_eq_getElem h];rfl
def NJ{a:List cu}{s:Str}(h:eO a)(hs:s.length<=1048576):(flS a (tk s)).length<=1099511627776:=by
 have h1:=pz h (tk s).1
 have h2:=AL s;unfold flS
 cases flB a (tk s)with
 | false=>simp
 | true=>simp only[cond_true];omega
end Go.Dt
namespace Go.Proofs
open Go.Ab Go.Dt
theorem Nk(n:Nat)(ih:∀(l:List ah) (a:List cu),Ctr lim prog 129 [] [.ab 3 ai l,.ab 2 bS a] (.ad 3 ai (l.map (lf a))) [] (wt l<n/\n<=1048577/\eO a))(l:List ah)(a:List cu):Ctr lim prog 129 [] [.ab 3 ai l,.ab 2 bS a] (.ad 3 ai (l.map (lf a))) [] (wt l<n+1/\n+1<=1048577/\eO a):=by
 refine Ctr.bd func129 ntmps129 λhp=>?_;have hl:l.length<=wt l:=by unfold wt;omega
 have ha:=hp.2.2;refine vU1 ?_;refine AW.aw [5,13] [1,11,12] (λm xs o=>∃k:Nat,xs=[.ad 3 ai ((l.take k).map (lf a)),.aa k]/\o=[]/\m=l.length - k/\k<=l.length) l.length [] trivial ⟨0,?_,rfl,rfl,?_⟩ ?_
 ·rfl
 ·omega
 rintro m xs o ⟨k,rfl,rfl,rfl,hk⟩;have hlt:(l.take k).length=k:=by rw[length_take];omega
 have h1:k<l.length->_:=lM (l:=l) (k:=k)
 have h2:k<l.length->(flS a (tk (at_ l k).aq)).length<=1099511627776:=λh=>NJ ha (by have:=h1 h;omega);refine vK1 ?_;refine AW.c (λh=>?_) λh=>?_
 ·(refine vK1 ?_;with_reducible repeat intro h)
  ·exact⟨_,[_,_],[],Um,⟨k+1,by rw[rB baa,map_append,map_append,map_cons,map_nil,map_cons,map_nil,bO,Hb];rfl,rfl,rfl,Um⟩,rfl,trivial⟩
 ·refine vK1 ?_;rw[show k=l.length by omega,take_length]
theorem D5:∀(n:Nat) (l:List ah) (a:List cu),Ctr lim prog 129 [] [.ab 3 ai l,.ab 2 bS a] (.ad 3 ai (l.map (lf a))) [] (wt l<n/\n<=1048577/\eO a)
 | 0,l,a=>⟨(aT 129),λh=>absurd h.1 (Nat.not_lt_zero _)⟩
 | n+1,l,a=>Nk n (D5 n) l a
theorem R1(n:Nat)(ih:∀(l:List ah) (a:List cu),Ctr lim prog 112 [] [.ab 3 ai l,.ab 2 bS a] (.ad 3 ai (l.map (lf a))) [] (wt l<n/\n<=1048577/\eO a))(l:List ah)(a:List cu):Ctr lim prog 112 [] [.ab 3 ai l,.ab 2 bS a] (.ad 3 ai (l.map (lf a))) [] (wt l<n+1/\n+1<=1048577/\eO a):=by
 refine Ctr.bd func112 ntmps112 λhp=>?_;have hl:l.length<=wt l:=by unfold wt;omega
 have ha:=hp.2.2;refine vU1 ?_;refine AW.aw [5,6] [0,1] (λm xs o=>∃k:Nat,xs=[.ad 3 ai ((l.take k).map (lf a)),.aa k]/\o=[]/\m=l.length - k/\k<=l.length) l.length [] trivial ⟨0,?_,rfl,rfl,?_⟩ ?_
 ·rfl
 ·omega
 rintro m xs o ⟨k,rfl,rfl,rfl,hk⟩;have hlt:(l.take k).length=k:=by rw[length_take];omega
 have h1:k<l.length->_:=lM (l:=l) (k:=k)
 have h2:k<l.length->(flS a (tk (at_ l k).aq)).length<=1099511627776:=λh=>NJ ha (by have:=h1 h;omega);refine vK1 ?_;refine AW.c (λh=>?_) λh=>?_
 ·(refine vK1 ?_;with_reducible repeat intro h)
  ·exact⟨_,[_,_],[],Um,⟨k+1,by rw[rB baa,map_append,map_append,map_cons,map_nil,map_cons,map_nil,bO,Hb];rfl,rfl,rfl,Um⟩,rfl,trivial⟩
 ·refine vK1 ?_;rw[show k=l.length by omega,take_length]
theorem IX:∀(n:Nat) (l:List ah) (a:List cu),Ctr lim prog 112 [] [.ab 3 ai l,.ab 2 bS a] (.ad 3 ai (l.map (lf a))) [] (wt l<n/\n<=1048577/\eO a)
 | 0,l,a=>⟨(aT 112),λh=>absurd h.1 (Nat.not_lt_zero _)⟩
 | n+1,l,a=>R1 n (IX n) l a
instance(l:List ah)(a:List cu):Ctr lim prog 129 [] [.ab 3 ai l,.ab 2 bS a] (.ad 3 ai (l.map (lf a))) [] (wt l<=1048576/\eO a):=⟨(aT 129),λh=>(D5 1048577 l a).out ⟨Um,Um,h.2⟩⟩
instance(l:List ah)(a:List cu):Ctr lim prog 112 [] [.ab 3 ai l,.ab 2 bS a] (.ad 3 ai (l.map (lf a))) [] (wt l<=1048576/\eO a):=⟨(aT 112),λh=>(IX 1048577 l a).out ⟨Um,Um,h.2⟩⟩
end Go.Proofs
namespace Go.Dt
open Go.Ab
theorem GH{α:Type}[Inhabited α]{p:α->Bool}:∀ {l:List α} {j:Nat},j<l.length->p (at_ l j)=true->idx p l<=j/\0<=idx p l
 | [],_,h,_=>by simp at h
 | x::xs,0,_,h=>by
  have:p x=true:=h;simp[idx,this]
 | x::xs,j+1,h,e=>by
  have e':p (at_ xs j)=true:=by simpa[at_]using e
  have:=GH (l:=xs) (j:=j) (by simpa using h) e';simp only[idx];split
  ·omega
  ·split<;>omega
def Oi{l:List cu}{k:Nat}(hk:k<l.length):cont ((l.take k).map cu.ae) (at_ l k).ae=!decide (idx (il (at_ l k).ae) l=k):=by
 have yu:il (at_ l k).ae (at_ l k)=true:=by simp[il]
 have hle:=GH hk yu
 cases hc:cont ((l.take k).map cu.ae) (at_ l k).ae with
 | true =>
  have hm:=(iP _ _).1 hc;obtain⟨x,hx,e⟩:=List.mem_map.1 hm;obtain⟨j,hj,e1⟩:=getElem_of_mem hx;rw[length_take]at hj
  have e2:il (at_ l k).ae (at_ l j)=true:=by
   have:at_ l j=x:=by
    unfold at_;rw[getElem_take]at e1;rw[getElem?_eq_getElem Um,e1];rfl
   rw[this,il,e];simp
  have:=GH (show j<l.length by omega) e2
  have:decide (idx (il (at_ l k).ae) l=k)=false:=decide_eq_false Um;rw[this];rfl
 | false =>
  have:idx (il (at_ l k).ae) l=k:=by
   refine gD hk (λy hy=>?_) yu;rw[il,beq_eq_false_iff_ne];intro e;rw[(iP _ _).2 (List.mem_map.2 ⟨y,hy,e⟩)]at hc;cases hc
  rw[decide_eq_true this];rfl
def nG(ps:List bH)(l:List cu)(j:Nat):Bool:=decide (0<=jN ps (at_ l j).ae) && decide (idx (il (at_ l j).ae) l=j)
def lz(ps:List bH)(l:List cu):Bool:=cg (nG ps l) l.length && decide (l.length=ps.length)
def prT(ps:List bH)(x:cu):dq:=(at_ ps (jN ps x.ae).toNat).fType
section
variable (ip : Str -> Bool) (cb : dq -> Str -> Bool) (cs : dq -> Str -> Str)
def cnB(ps:List bH)(x:cu):Bool:=cb (prT ps x) x.aq
def cnA(ps:List bH)(x:cu):cu:=⟨x.ae,cs (prT ps x) x.aq⟩
def n8(t:aD)(l:List cu):Bool:=dz ip t && lz t.aG l && cg (λj=>cnB cb t.aG (at_ l j)) l.length
def ftC(t:aD)(l:List cu):Int:=if dz ip t=false then 1 else if lz t.aG l=false then 2 else if cg (λj=>cnB cb t.aG (at_ l j)) l.length=false then 3 else 0
def ftN(t:aD)(l:List cu):List ah:=bif n8 ip cb t l then t.dh.map (lf (l.map (cnA cs t.aG))) else []
end
def Me(ps:List bH)(n:Str):jN ps n<ps.length:=fV ps
def HO{ps:List bH}{l:List cu}{k:Nat}(hk:k<l.length)(h:nG ps l k=false):lz ps l=false:=by rw[lz,cM hk h];rfl
def Ek{ps:List bH}{l:List cu}{k:Nat}(h:lz ps l=true)(hk:k<l.length):0<=jN ps (at_ l k).ae:=by rw[lz,Bool.and_eq_true]at h;have:=oO h.1 hk;rw[nG,Bool.and_eq_true,decide_eq_true_eq]at this;exact this.1
def clL{α:Type}{f:α->AV}:∀(l:List α),(∀x∈l,(f x).closed=true)->AV.cL (l.map f)=true
 | [],_=>rfl
 | x::xs,h=>by simp only[map_cons,AV.cL,h x Xp,clL xs λy hy=>h y (by simp[hy]),Bool.true_and]
def ndC(x:ah):(ai true x).closed=true:=by rw[bO];simp only[AV.closed,AV.cL,clL x.af (λy hy=>ndC y),Bool.true_and,Bool.and_true]
termination_by SizeOf.sizeOf x
decreasing_by have:=sizeOf_lt_of_mem hy;cases x;simp[ah.af]at *;omega
@[go_sem] def JF(f:ah->ah)(l:List ah):AV.cL (l.map (ai true ∘ f))=true:=clL l λx _=>ndC (f x)
