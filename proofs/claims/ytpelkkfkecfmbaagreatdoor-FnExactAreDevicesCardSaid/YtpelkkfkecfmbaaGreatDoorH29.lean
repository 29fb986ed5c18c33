/- Part of a proof. -/
import Derived.Test.YtpelkkfkecfmbaaGreatDoorH28
set_option linter.all false
set_option maxRecDepth 20000
set_option maxHeartbeats 4000000
open Go.Proofs.Tryz
namespace Go.Dt
open Go Go.Ab
def tP:∀ (s:List ae),∀ n∈dk s,1+aH n.af<=aH s
 | [],n,h=>by simp [dk] at h
 | .mk k a b c d e f g h i j l m nn ks::xs,n,hn=>by
  rw [dk,List.mem_append] at hn;rw [aH];rcases hn with hn|hn
  ·split at hn
   ·rw [List.mem_singleton] at hn;subst hn;exact Nat.le_add_right _ _
   ·split at hn
    ·have:=tP ks n hn;omega
    ·simp at hn
  ·have:=tP xs n hn;omega
def fd1(s:List ae)(nm:Str):Option ae:=if 0<=idx (nmP nm) (dk s) then some (at_ (dk s) (idx (nmP nm) (dk s)).toNat) else none
def mq:List ae->List Str->Option ae->Option ae
 | _,[],last=>last
 | s,n::r,_=>match fd1 s n with
  | some c=>mq c.af r (some c)
  | none=>none
def xW:∀ (ns:List Str) (s:List ae),dM s ns=mq s ns none
 | [],s=>by rw [dM,mq]
 | [n],s=>by
  rw [dM,mq,fd1];split<;>simp [mq]
 | n::m::r,s=>by
  rw [dM,mq,fd1];split
  ·rw [xW (m::r)];rfl
  ·rfl
def GR(s:List ae)(n:Str):dM s [n]=fd1 s n:=rfl
def GQ{s:List ae}{n m:Str}{r:List Str}{c:ae}(h:fd1 s n=some c):dM s (n::m::r)=dM c.af (m::r):=by
 rw [fd1] at h;split at h
 ·rename_i e;rw [dM,if_pos e];cases h;rfl
 ·cases h
def GS{s:List ae}{n:Str}{r:List Str}(h:fd1 s n=none):dM s (n::r)=none:=by rw [xW,mq,h]
def CN{s:List ae}{n:Str}(h:0<=idx (nmP n) (dk s)):fd1 s n=some (at_ (dk s) (idx (nmP n) (dk s)).toNat):=by rw [fd1,if_pos h]
def NP{s:List ae}{n:Str}(h:idx (nmP n) (dk s)<0):fd1 s n=none:=by rw [fd1,if_neg Ir]
def qk{s:List ae}{n:Str}(h:0<=idx (nmP n) (dk s)):1+aH (at_ (dk s) (idx (nmP n) (dk s)).toNat).af<=aH s:=tP s _ (dF h).2.2
def DK{s:List ae}{ns:List Str}{k:Nat}{last:Option ae}(hk:k<ns.length)(h:0<=idx (nmP (at_ ns k)) (dk s)):mq s (ns.drop k) last=mq (at_ (dk s) (idx (nmP (at_ ns k)) (dk s)).toNat).af (ns.drop (k+1)) (some (at_ (dk s) (idx (nmP (at_ ns k)) (dk s)).toNat)):=by rw [bq hk,mq,CN h]
def GP{s:List ae}{ns:List Str}{k:Nat}{last:Option ae}(hk:k<ns.length)(h:idx (nmP (at_ ns k)) (dk s)<0):mq s (ns.drop k) last=none:=by rw [bq hk,mq,NP h]
def GN{s:List ae}{ns:List Str}{k:Nat}{last:Option ae}(hk:¬ k<ns.length):mq s (ns.drop k) last=last:=by rw [List.drop_eq_nil_of_le Ir,mq]
def qJ:∀ l:List Str,AV.jN (l.map AV.str)=[]
 | []=>rfl
 | x::l=>by rw [List.map_cons,AV.jN,qJ l,List.append_nil];simp [AV.keys]
def jh:List AV:=cZe
def jU(n:ae):List AV:=(cSc n)
end Go.Dt
namespace Go.Proofs
open Go.Ab Go.Dt
section
attribute [local go_sem] aM aC dr dq jY iB jh jU
attribute [-instance] mD
def tf{l:List Str}{k:Nat}(h:k<l.length):((l.map AV.str).drop k).head? = some (.str (at_ l k)):=by rw [<- List.map_drop,bq h];rfl
attribute [local go_sem] tf
def KM:Option ae->List AV
 | none=>jh
 | some x=>jU x
attribute [local go_sem] KM
theorem wK(b:Nat)(s:List ae)(ns:List Str)(n:ae):Ctr lim prog 119 [(b,some (ns.map AV.str))] [.sl false 19 (s.map (aq false)),.arr b 0 ns.length 1] (.tup [.agg (jU n),.ac true]) [some (ns.map AV.str)] (dM s ns=some n/\aH s<=1048576/\ns.length<=1048576):=by
 refine Ctr.bd func119 ntmps119 fun hp=>?_;have gOn:=aD.on;obtain ⟨hi,hc,hn⟩:=hp;rw [xW] at hi;refine AW.f1 0 fun hf=>?_
 (refine vU1 ?_;intro h h h h)
 rename_i c _ a;obtain ⟨n1,n2⟩:=h;refine AW.aw [0,14] [1,4,6,12,13] (fun m xs o=>∃ (k:Nat) (cur:List ae) (last:Option ae),xs=[.sl false 19 (cur.map (aq false)),.aa k]/\o=[(a,some (KM last)),(c,some jh),(b,some (ns.map AV.str))]/\m=ns.length - k/\k<=ns.length/\aH cur<=1048576/\last.isSome=decide (0<k)/\mq cur (ns.drop k) last=some n) ns.length [(a,some jh),(c,some jh),(b,some (ns.map AV.str))] gO ⟨0,s,none,rfl,rfl,rfl,Nat.zero_le _,hc,rfl,hi⟩ ?_;clear hi hc;rintro m xs o ⟨k,cur,last,rfl,rfl,rfl,hk,hc,hk0,hR⟩;have h1:=fun h=>qk (s:=cur) (n:=at_ ns k) h
 have h2:=eO (p:=nmP (at_ ns k)) (dk cur)
 have hst:=fun a b=>DK (s:=cur) (ns:=ns) (k:=k) (last:=last) a b
 have hbd:=fun a b=>GP (s:=cur) (ns:=ns) (k:=k) (last:=last) a b
 have hen:=fun a=>GN (s:=cur) (ns:=ns) (k:=k) (last:=last) a
 cases last with
 | none =>
  (refine vU3 ?_ ?_ ?_<;>with_reducible repeat intro h)
  ·exact absurd ((hbd yG h).symm.trans hR) QC
  ·exact ⟨_,[_,_],_,Ir,⟨k+1,(at_ (dk cur) (idx (nmP (at_ ns k)) (dk cur)).toNat).af,some (at_ (dk cur) (idx (nmP (at_ ns k)) (dk cur)).toNat),rfl,rfl,rfl,Ir,by have:=h1 Ir;omega,QC,by rw [<- hR,hst yG Ir]⟩,rfl,gO⟩
  ·exact absurd ((hen h).symm.trans hR) QC
 | some x =>
  simp only [Option.isSome_some] at hk0
  (refine vU3 ?_ ?_ ?_<;>with_reducible repeat intro h)
  ·exact absurd ((hbd yG h).symm.trans hR) QC
  ·exact ⟨_,[_,_],_,Ir,⟨k+1,(at_ (dk cur) (idx (nmP (at_ ns k)) (dk cur)).toNat).af,some (at_ (dk cur) (idx (nmP (at_ ns k)) (dk cur)).toNat),rfl,rfl,rfl,Ir,by have:=h1 Ir;omega,QC,by rw [<- hR,hst yG Ir]⟩,rfl,gO⟩
  ·have e:=(hen h).symm.trans hR;cases e;have h0:=of_decide_eq_true hk0.symm;rw [decide_eq_true (show 0<(ns.length:Int) by omega)]
theorem zF(b:Nat)(s:List ae)(ns:List Str):Ctr lim prog 119 [(b,some (ns.map AV.str))] [.sl false 19 (s.map (aq false)),.arr b 0 ns.length 1] (.tup [.agg jh,.ac false]) [some (ns.map AV.str)] (dM s ns=none/\aH s<=1048576/\ns.length<=1048576):=by
 refine Ctr.bd func119 ntmps119 fun hp=>?_;have gOn:=aD.on;obtain ⟨hi,hc,hn⟩:=hp;rw [xW] at hi;refine AW.f1 0 fun hf=>?_
 (refine vU1 ?_;intro h h h h)
 rename_i c _ a;obtain ⟨n1,n2⟩:=h;refine AW.aw [0,14] [1,4,6,12,13] (fun m xs o=>∃ (k:Nat) (cur:List ae) (last:Option ae),xs=[.sl false 19 (cur.map (aq false)),.aa k]/\o=[(a,some (KM last)),(c,some jh),(b,some (ns.map AV.str))]/\m=ns.length - k/\k<=ns.length/\aH cur<=1048576/\last.isSome=decide (0<k)/\mq cur (ns.drop k) last=none) ns.length [(a,some jh),(c,some jh),(b,some (ns.map AV.str))] gO ⟨0,s,none,rfl,rfl,rfl,Nat.zero_le _,hc,rfl,hi⟩ ?_;clear hi hc;rintro m xs o ⟨k,cur,last,rfl,rfl,rfl,hk,hc,hk0,hR⟩;have h1:=fun h=>qk (s:=cur) (n:=at_ ns k) h
 have h2:=eO (p:=nmP (at_ ns k)) (dk cur)
 have hst:=fun a b=>DK (s:=cur) (ns:=ns) (k:=k) (last:=last) a b
 have hbd:=fun a b=>GP (s:=cur) (ns:=ns) (k:=k) (last:=last) a b
 have hen:=fun a=>GN (s:=cur) (ns:=ns) (k:=k) (last:=last) a
 cases last with
 | none =>
  simp only [Option.isSome_none] at hk0
  (refine vU2 ?_ ?_<;>with_reducible repeat intro h)
  ·exact ⟨_,[_,_],_,Ir,⟨k+1,(at_ (dk cur) (idx (nmP (at_ ns k)) (dk cur)).toNat).af,some (at_ (dk cur) (idx (nmP (at_ ns k)) (dk cur)).toNat),rfl,rfl,rfl,Ir,by have:=h1 Ir;omega,QC,by rw [<- hR,hst yG Ir]⟩,rfl,gO⟩
  ·have h0:=of_decide_eq_false hk0.symm;rw [decide_eq_false (show ¬ 0<(ns.length:Int) by omega)]
 | some x =>
  (refine vU2 ?_ ?_<;>with_reducible repeat intro h)
  ·exact ⟨_,[_,_],_,Ir,⟨k+1,(at_ (dk cur) (idx (nmP (at_ ns k)) (dk cur)).toNat).af,some (at_ (dk cur) (idx (nmP (at_ ns k)) (dk cur)).toNat),rfl,rfl,rfl,Ir,by have:=h1 Ir;omega,QC,by rw [<- hR,hst yG Ir]⟩,rfl,gO⟩
  ·exact absurd ((hen h).symm.trans hR) QC
end
section
attribute [local go_sem] aM aC aR
def Kx(a:List ah)(n v:Str)(k:List ah):(a++[ah.mk n v k]).map (ak true)=a.map (ak true)++[.agg [.str n,.str v,.sl true 3 (k.map (ak true))]]:=by rw [List.map_append];exact congrArg (a.map (ak true)++·) (congrArg (fun x=>[x]) (dD true (ah.mk n v k)))
theorem IU:∀ (f:Nat) (s:List ae) (l:List ah),Ctr lim prog 140 [] [.sl false 19 (s.map (aq false)),.sl false 3 (l.map (ak false))] (.sl true 3 ((gW f s l).map (ak true))) [] (aW s<f/\cnt l<=1000/\aH s<=1000)
 | 0,s,l=>⟨(aU 140),fun h=>absurd h.1 (Nat.not_lt_zero _)⟩
 | f+1,s,l=>by
  have ih:=IU f;refine Ctr.bd func140 ntmps140 fun hp=>?_;have gOn:=aD.on;obtain ⟨hd,hc,hs⟩:=hp;have hl:=Nat.le_trans (xP l) hc
  have hdl:=Nat.le_trans (tQ s) hs;refine vK1 ?_;refine AW.aw [6,7] [0,1,5] (fun m xs o=>∃ i:Nat,xs=[.sl true 3 ((flG f s l i).map (ak true)),.aa i]/\o=[]/\m=(dk s).length - i/\i<=(dk s).length) (dk s).length [] trivial ⟨0,by rw [Qa];rfl,rfl,rfl,Nat.zero_le _⟩ ?_;rintro m xs o ⟨i,rfl,rfl,rfl,hi⟩;have hrl:=TA f s l i
  have hil:i * (l.length+1)<=1000 * 1001:=Nat.mul_le_mul Ir Ir;refine vK1 ?_;refine AW.c (fun h=>?_) fun h=>?_
  ·have hi1:=h
   have hm:=at_mem hi1
   have hkc:=Nat.le_trans (Nat.le_trans (Nat.le_add_left _ _) (tP s _ hm)) hs
   have hkd:=Bz s _ hm;refine vK1 ?_;refine AW.aw [6,8,9] [0,1,5,7] (fun m xs o=>∃ k:Nat,xs=[.sl true 3 ((flG f s l i++fkG f (at_ (dk s) i) l k).map (ak true)),.ac (anG (at_ (dk s) i) l k),.aa k]/\o=[]/\m=l.length - k/\k<=l.length) l.length [] trivial ⟨0,by rw [Qb,List.append_nil,QA];rfl,rfl,rfl,Nat.zero_le _⟩ ?_;rintro m xs o ⟨k,rfl,rfl,rfl,hk⟩;have hfl:=TC f (at_ (dk s) i) l k;refine vK1 ?_;refine AW.c (fun h=>?_) fun h=>?_
   ·have hk1:=h;refine vK1 ?_;refine AW.c (fun h=>?_) fun h=>?_
    ·refine vU1 ?_;exact ⟨_,[_,_,_],_,Ir,⟨k+1,by rw [Wt hk1 yG,WS hk1 yG],rfl,rfl,Ir⟩,rfl,trivial⟩
    ·have hnm:=h
     have hkk:=Nat.le_trans (CW (at_mem hk1)) hc
     have e8:=Uh (n:=at_ (dk s) i) hk1 hnm
     have e6:=TB (f:=f) (n:=at_ (dk s) i) hk1 hnm;refine vN1 ?_;refine Z ?_;refine vN1 ?_
     first|refine AW.Mh ?_|refine AW.Rb ?_
     (refine vK1 ?_;intro h)
     refine AW.c (fun h=>?_) fun h=>?_
     ·have hne:(at_ (dk s) i).af.isEmpty=false:=by
       cases e:(at_ (dk s) i).af with
       | nil=>rw [e] at h;simp at h
       | cons=>rfl
      rw [BU,hne,if_neg QC] at e6;refine vU1 ?_;exact ⟨_,[_,_,_],_,Ir,⟨k+1,by rw [e6,e8,<- List.append_assoc,Kx],rfl,rfl,Ir⟩,rfl,gO⟩
     ·have hne:(at_ (dk s) i).af.isEmpty=true:=by
       cases e:(at_ (dk s) i).af with
       | nil=>rfl
       | cons=>rw [e] at h;simp at h;omega
      rw [BU,hne,if_pos rfl] at e6;refine vN1 ?_;refine Z ?_;refine vN1 ?_;refine AW.imp (Imp.F2 6 (own:=true) (sz:=3) (l:=(flG f s l i++fkG f (at_ (dk s) i) l k).map (ak true)) [.str (at_ l k).ag,.str (at_ l k).ax] [] true 3 gO ?_);refine vU1 ?_;exact ⟨_,[_,_,_],_,Ir,⟨k+1,by rw [e6,e8,<- List.append_assoc,Kx];rfl,rfl,rfl,Ir⟩,rfl,gO⟩
   ·have hke:=h
    cases han:anG (at_ (dk s) i) l k with
    | true =>
     rw [Tr hke han,<- GY]
     (refine vU1 ?_;intro h)
     exact ⟨_,[_,_],_,Ir,⟨i+1,rfl,rfl,rfl,Ir⟩,rfl,trivial⟩
    | false =>
     obtain ⟨g1,g2⟩:=Ts (f:=f) hke han;rw [g1,List.append_nil];have gs:=GY f s l i;rw [g2] at gs;have ihZ:∀ s:List ae,Ctr lim prog 140 [] [.sl false 19 (s.map (aq false)),.v (.slice none 0 0)] (.sl true 3 ((gW f s []).map (ak true))) [] (aW s<f/\cnt []<=1000/\aH s<=1000):=fun s=>(ih s []).view fun F w=>au.ep (fun _ _ h=>h) (au.ep Rep.jf fun _ _ h=>h)
     have hz:cnt []<=1000:=by simp [cnt,kc]
     refine vK1 ?_;refine AW.e fun h=>?_;refine vK1 ?_;refine AW.c (fun h=>?_) fun h=>?_
     ·rw [gkE,if_pos (by first|exact h|(simpa using h))] at gs;refine vN1 ?_;refine Z ?_;refine vN1 ?_;refine AW.imp (Imp.F2 6 (own:=true) (sz:=3) (l:=(flG f s l i).map (ak true)) [.str (at_ (dk s) i).ag,.str (at_ (dk s) i).aV] [] true 3 gO ?_);refine vU1 ?_;exact ⟨_,[_,_],_,Ir,⟨i+1,by rw [gs,Kx];rfl,rfl,rfl,Ir⟩,rfl,gO⟩
     ·have hA:=h;refine vK1 ?_;refine AW.c (fun h=>?_) fun h=>?_
      ·have hB:=h;refine vK1 ?_;refine AW.c (fun h=>?_) fun h=>?_
       ·have he:(gW f (at_ (dk s) i).af []).isEmpty=false:=by
         cases e:gW f (at_ (dk s) i).af [] with
         | nil=>rw [e] at h;simp at h
         | cons=>rfl
        rw [gkE,if_neg (by clear gs ihZ ih;grind),if_pos (by clear gs ihZ ih;grind),if_neg (by rw [he];simp)] at gs;refine vU1 ?_;exact ⟨_,[_,_],_,Ir,⟨i+1,by rw [gs,Kx],rfl,rfl,Ir⟩,rfl,gO⟩
       ·have he:(gW f (at_ (dk s) i).af []).isEmpty=true:=by
         cases e:gW f (at_ (dk s) i).af [] with
         | nil=>rfl
         | cons=>rw [e] at h;simp at h;omega
        rw [gkE,if_neg (by clear gs ihZ ih;grind),if_pos (by clear gs ihZ ih;grind),if_pos he,List.append_nil] at gs;refine vU1 ?_;exact ⟨_,[_,_],_,Ir,⟨i+1,by rw [gs],rfl,rfl,Ir⟩,rfl,gO⟩
      ·rw [gkE,if_neg (by clear gs ihZ ih;grind),if_neg (by clear gs ihZ ih;grind),List.append_nil] at gs;refine vU1 ?_;exact ⟨_,[_,_],_,Ir,⟨i+1,by rw [gs],rfl,rfl,Ir⟩,rfl,gO⟩
  ·refine vU1 ?_;rw [TI,show i=(dk s).length by omega]
end
end Go.Proofs
namespace Go.Dt
open Go Go.Ab
def jr{α:Type}(l:List α):l.isEmpty=decide (l.length=0):=by cases l<;>simp
section
variable {x : ae}
def OT(h:(((((((¬x.aj=3/\¬x.aj=4)/\lD x.fType=false\/¬x.aj=2/\0<((x.aE.length+x.ay.length:Nat):Int))\/¬x.aj=3/\((¬x.aV=[]\/x.bS=true)\/x.cU=true))\/(¬x.aj=3/\¬x.aj=5)/\x.bD=true)\/¬x.aj=1/\x.aZ=true)\/(¬x.aj=2/\¬x.aj=4)/\(¬x.eJ=0\/¬x.dU=0))\/cg x.aj=false/\0<(x.bO.length:Int))\/(x.aj=3\/x.aj=4)/\0<(x.af.length:Int)):iT x=false:=by rw [iT,dN,jr x.aE,jr x.ay,jr x.bO,jr x.af];rcases h with ((((((h|h)|h)|h)|h)|h)|h)|h<;>grind
def Mf(h:(((((((¬x.aj=3/\¬x.aj=4->lD x.fType=true)/\(¬x.aj=2->((x.aE.length+x.ay.length:Nat):Int)<=0))/\(¬x.aj=3->(x.aV=[]/\x.bS=false)/\x.cU=false))/\(¬x.aj=3/\¬x.aj=5->x.bD=false))/\(¬x.aj=1->x.aZ=false))/\(¬x.aj=2/\¬x.aj=4->x.eJ=0/\x.dU=0))/\(cg x.aj=false->(x.bO.length:Int)<=0))/\(x.aj=3\/x.aj=4->(x.af.length:Int)<=0)):iT x=true:=by rw [iT,dN,jr x.aE,jr x.ay,jr x.bO,jr x.af];obtain ⟨⟨⟨⟨⟨⟨⟨h1,h2⟩,h3⟩,h4⟩,h5⟩,h6⟩,h7⟩,h8⟩:=h;simp only [Bool.and_eq_true,Bool.or_eq_true,decide_eq_true_eq,Bool.not_eq_true'];refine ⟨⟨⟨⟨⟨⟨⟨?_,?_⟩,?_⟩,?_⟩,?_⟩,?_⟩,?_⟩,?_⟩<;>grind
def YE(n:Nat):decide (1<=(n:Int))=decide (1<=n):=decide_eq_decide.2 Ir
def Rf(n:Nat):decide ((n:Int)<=3)=decide (n<=3):=decide_eq_decide.2 Ir
def aaN(h:x.aj=1\/x.aj=5\/x.aj=6):true=fw x:=by rw [fw,if_pos h]
def aaS(h:x.aj=2):(decide (1<=(x.aE.length:Int)) && decide ((x.aE.length:Int)<=3) && bT x.aE && names x.aE && decide ((x.ay.length:Int)<=3) && bT x.ay && names x.ay && lX x)=fw x:=by rw [fw,if_neg Ir,if_pos h,YE,Rf,Rf]
def aaR(h:x.aj=3):(isType jO x.fType && !(x.bS && (x.bD || decide (0<(x.aG.length:Int)))) && (x.bS && isVal x.fType x.aV || !x.bS && x.aV == []))=fw x:=by rw [fw,if_neg Ir,if_neg Ir,if_pos h,q9,p5,kU];rfl
def aaQ(h:x.aj=4):(isType jO x.fType && lX x)=fw x:=by rw [fw,if_neg Ir,if_neg Ir,if_neg Ir,if_pos h];rfl
def aaP(h:x.aj=7):((x.aG.length:Int) == 0 && (x.af.length:Int) == 0)=fw x:=by rw [fw,if_neg Ir,if_neg Ir,if_neg Ir,if_neg Ir,if_pos h,jt,jt]
def aaO(h1:¬ x.aj=1)(h5:¬ x.aj=5)(h6:¬ x.aj=6)(h2:¬ x.aj=2)(h3:¬ x.aj=3)(h4:¬ x.aj=4)(h7:¬ x.aj=7):false=fw x:=by rw [fw,if_neg Ir,if_neg h2,if_neg h3,if_neg h4,if_neg h7]
end
end Go.Dt
namespace Go.Proofs
open Go.Ab Go.Dt
attribute [local go_sem] aM aC dr dq
instance abd(x:ae):Ctr lim prog 189 [] [.agg (cSc x)] (.ac (j9 x)) [] (dw x.aG<=1048576/\dw x.bO<=1048576/\x.aV.length<=1048576):=by
 refine Ctr.bd func189 ntmps189 fun hp=>?_;have gOn:=aD.on;obtain ⟨hw,hm,hd⟩:=hp;refine AW.f1 0 fun hf=>?_;have hfk:x.aE.length+x.ay.length<=4294967296000:=by omega
 clear hf;refine vK1 ?_;refine AW.c (fun h=>?_) fun h=>?_
 ·refine vU1 ?_;refine congrArg (fun b=>AV.ac b) ?_;rw [j9,mJ];grind
 have hbase:mJ x=true:=by rw [mJ];grind
 clear h;refine vN1 ?_;refine Z ?_;intro K hK;simp only [List.append_eq,List.cons_append,List.nil_append];refine vN1 ?_;refine AW.c (fun h=>?_) fun h=>?_
 ·refine vU1 ?_;refine congrArg (fun b=>AV.ac b) ?_;rw [j9,hbase,Bool.true_and,OT h];try rfl
 have hsh:=Mf h;clear h
 (refine vU ?_;with_reducible repeat' first|exact Le.l|apply Sw|intro h)
 all_goals refine congrArg (fun b=>AV.ac b) ?_
 all_goals rw [j9,hbase,hsh,Bool.true_and,Bool.true_and]
 all_goals first|exact aaN Ir|exact aaS yG|exact aaR yG|exact aaQ yG|exact aaP yG|exact aaO yG yG yG yG yG yG yG
end Go.Proofs
namespace Go.Dt
open Go Go.Ab
section
variable {l : List ae} {k : Nat} {kind : Int} {bd : Bool} {x : ae}
def Ey(h:k<l.length)(hR:kA (l.drop k) kind bd=kA l kind bd)(e:gq kind bd (at_ l k)=false):kR l kind bd=false:=by rw [KP h,e] at hR;rw [kR,<- hR];simp
def VH(h:k<l.length)(hR:kA (l.drop k) kind bd=kA l kind bd)(e:kR (at_ l k).af (at_ l k).aj (bd || !(at_ l k).aG.isEmpty || decide ((at_ l k).aj=6))=false):kR l kind bd=false:=by rw [KP h] at hR;rw [kR] at e;rw [kR,<- hR,e];simp
def SX(h:k<l.length)(hR:kA (l.drop k) kind bd=kA l kind bd)(e1:gq kind bd (at_ l k)=true)(e2:kR (at_ l k).af (at_ l k).aj (bd || !(at_ l k).aG.isEmpty || decide ((at_ l k).aj=6))=true):kA (l.drop (k+1)) kind bd=kA l kind bd:=by rw [KP h,e1] at hR;rw [kR] at e2;rw [<- hR,e2];simp
def VI(hd:lp l kind=true)(h:¬ k<l.length)(hR:kA (l.drop k) kind bd=kA l kind bd):kR l kind bd=true:=by rw [fY h,kA] at hR;rw [kR,<- hR,hd];rfl
def Ji{j:Nat}(h:j<x.aE.length)(e:qL x.af (at_ x.aE j)=false):gq kind bd x=false:=by rw [gq,eQ h e];simp
def Sr{j:Nat}(h:j<x.ay.length)(e:sx x.af (at_ x.ay j)=false):gq kind bd x=false:=by rw [gq,eQ h e];simp
def Sq{i j:Nat}(e:(j9 x && !decide (x.aj=7) && (decide (x.aj=6) == decide (kind=5)) && !(x.bS && bd))=true)(h1:¬ i<x.aE.length)(e1:∀ y∈x.aE.take i,(!qL x.af y)=false)(h2:¬ j<x.ay.length)(e2:∀ y∈x.ay.take j,(!sx x.af y)=false):gq kind bd x=true:=by rw [gq,e,cM h1 e1,cM h2 e2];rfl
def Vm(e:(j9 x && !decide (x.aj=7) && (decide (x.aj=6) == decide (kind=5)) && !(x.bS && bd))=false):gq kind bd x=false:=by rw [gq,e];rfl
end
end Go.Dt
