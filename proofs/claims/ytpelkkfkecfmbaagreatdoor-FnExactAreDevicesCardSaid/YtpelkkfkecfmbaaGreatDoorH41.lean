/- Part of a proof. -/
import Derived.Test.YtpelkkfkecfmbaaGreatDoorH40
set_option linter.all false
set_option maxRecDepth 20000
set_option maxHeartbeats 4000000
open Go.Proofs.Tryz
namespace Go.Dt
open Go Go.Ab
section
def yd(all:List ae)(n:ae)(at0:List Str):rl all n at0=(if ml all (eX n at0) n.aG=false then (2,eX n at0) else if ml all (eX n at0) n.bO=false then (3,eX n at0) else if n.fType.aj=5/\nY all (eX n at0) n.fType=none then (4,eX n at0) else fB all n.af (eX n at0)):=by cases n;rw [rl];rfl
def ye{all k:List ae}{at0:List Str}{i:Nat}(hi:i<k.length)(h:(rl all (at_ k i) at0).1=0):fB all (k.drop i) at0=fB all (k.drop (i+1)) at0:=by rw [bq hi,fB,if_pos h]
def Hz{all k:List ae}{at0:List Str}{i:Nat}(hi:i<k.length)(h:¬ (rl all (at_ k i) at0).1=0):fB all (k.drop i) at0=rl all (at_ k i) at0:=by rw [bq hi,fB,if_neg h]
def Hy{all k:List ae}{at0:List Str}{i:Nat}(hi:¬ i<k.length):fB all (k.drop i) at0=(0,[]):=by rw [List.drop_eq_nil_of_le Ir,fB]
def EJ{all:List ae}{n:ae}{at0:List Str}(h:ml all (eX n at0) n.aG=false):rl all n at0=(2,eX n at0):=by rw [yd,if_pos h]
def EL{all:List ae}{n:ae}{at0:List Str}(h:ml all (eX n at0) n.aG=true)(h2:ml all (eX n at0) n.bO=false):rl all n at0=(3,eX n at0):=by rw [yd,if_neg (by rw [h];simp),if_pos h2]
def EK{all:List ae}{n:ae}{at0:List Str}(h:ml all (eX n at0) n.aG=true)(h2:ml all (eX n at0) n.bO=true)(h3:n.fType.aj=5)(h4:(nY all (eX n at0) n.fType).isSome=false):rl all n at0=(4,eX n at0):=by rw [yd,if_neg (by rw [h];simp),if_neg (by rw [h2];simp),if_pos ⟨h3,by cases e:nY all (eX n at0) n.fType with|none=>rfl|some x=>rw [e] at h4;cases h4⟩]
def rZ{all:List ae}{n:ae}{at0:List Str}(h:ml all (eX n at0) n.aG=true)(h2:ml all (eX n at0) n.bO=true)(h3:n.fType.aj=5->(nY all (eX n at0) n.fType).isSome=true):rl all n at0=fB all n.af (eX n at0):=by rw [yd,if_neg (by rw [h];simp),if_neg (by rw [h2];simp),if_neg];rintro ⟨h5,h6⟩;have:=h3 h5;rw [h6] at this;cases this
def GD(n:ae)(at0:List Str):(eX n at0).length<=at0.length+1:=by
 unfold eX;split
 ·simp
 ·omega
def mW:∀ {l:List ae} {n:ae},n∈l->1+aW n.af<=aW l
 | .mk k a b c d e f g h i j m nn o ks::xs,n,hn=>by
  rw [aW];rcases List.mem_cons.1 hn with e1|e1
  ·subst e1;exact Nat.le_max_left _ _
  ·have:=mW e1;omega
end
section
def Iy{t:cT}(h:isType jO t=true):t.az.length<=40:=by
 have key:t.az.isEmpty=true->t.az.length<=40:=fun e=>by
  cases e2:t.az with
  | nil=>simp
  | cons c l=>rw [e2] at e;cases e
 simp only [isType,Bool.or_eq_true,Bool.and_eq_true] at h;rcases h with (((h|h)|h)|h)|h
 ·exact key h.2
 ·exact key h.2
 ·exact key h.2
 ·have:=h.1.1.1.1.2;simp only [isText,Bool.and_eq_true,decide_eq_true_eq] at this;exact this.2
 ·exact key h.2
def Ss{kd:Int}{b:Bool}{n:ae}(h:gq kd b n=true):n.aG.all fj=true/\n.bO.all fj=true/\n.fType.az.length<=40:=by
 simp only [gq,j9,Bool.and_eq_true] at h;obtain ⟨⟨⟨⟨⟨⟨hb,hs,hk⟩,h7⟩,_⟩,_⟩,_⟩,_⟩:=h;simp only [mJ,exS,Bool.and_eq_true] at hb;refine ⟨hb.1.2.1,hb.2.1,?_⟩;simp only [iT,Bool.and_eq_true] at hs;have h1:=hs.1.1.1.1.1.1.1;simp only [Bool.or_eq_true,decide_eq_true_eq] at h1;rcases h1 with (h3|h4)|h0
 ·have e:fw n=true:=hk;rw [fw,if_neg Ir,if_neg Ir,if_pos h3] at e;simp only [Bool.and_eq_true] at e;exact Iy e.1.1
 ·have e:fw n=true:=hk;rw [fw,if_neg Ir,if_neg Ir,if_neg Ir,if_pos h4] at e;simp only [Bool.and_eq_true] at e;exact Iy e.1
 ·simp only [lD,Bool.and_eq_true] at h0;have e:=h0.2
  cases e2:n.fType.az with
  | nil=>simp
  | cons c l=>rw [e2] at e;cases e
def jG(k:List ae):Prop:=∃ kd bd,kA k kd bd=true
def qf{k:List ae}(h:jG k){n:ae}(hn:n∈k):(n.aG.all fj=true/\n.bO.all fj=true/\n.fType.az.length<=40)/\jG n.af:=by obtain ⟨kd,bd,h⟩:=h;obtain ⟨h1,b,h2⟩:=Bm k kd bd h n hn;exact ⟨Ss h1,_,b,h2⟩
end
end Go.Dt
namespace Go.Proofs
open Go.Ab Go.Dt
attribute [local go_sem] aM aC dr dq iB gC sX List.length_take jU
attribute [-instance] cK dh
theorem NB(all:List ae):∀ (m:Nat) (k:List ae) (at0:List Str),Ctr lim prog 111 [] [.sl false 19 (all.map (aq false)),.sl false 19 (k.map (aq false)),.sl false 1 (at0.map AV.str)] (.tup [.aa (fB all k at0).1,.sl false 1 ((fB all k at0).2.map AV.str)]) [] (SizeOf.sizeOf k<m/\aH all<=1048576/\jG k/\at0.length+aW k<=900)
 | 0,k,at0=>⟨(aU 111),fun h=>absurd h.1 (Nat.not_lt_zero _)⟩
 | m+1,k,at0=>by
  have ih:=NB all m;refine Ctr.bd func111 ntmps111 fun hp=>?_;have gOn:=aD.on;obtain ⟨hs,hc,hg,ha⟩:=hp;refine AW.f1 1 fun hf=>?_;refine vU1 ?_;refine AW.aw [17] [0,2,15,16] (fun m xs o=>∃ i:Nat,xs=[.aa i]/\o=[]/\m=k.length - i/\i<=k.length/\fB all (k.drop i) at0=fB all k at0) k.length [] trivial ⟨0,rfl,rfl,rfl,Nat.zero_le _,rfl⟩ ?_;rintro m xs o ⟨i,rfl,rfl,rfl,hi,hR⟩;refine vK1 ?_;refine AW.c (fun h=>?_) fun h=>?_
  ·have hi1:=h;obtain ⟨⟨hw,hm,hpt⟩,hgk⟩:=qf hg (at_mem hi1);have hsz:=ae.du (at_mem hi1)
   have hdp:=mW (at_mem hi1)
   have hhl:=GD (at_ k i) at0;refine vN1 ?_;refine Z ?_
   (refine vN1 ?_;intro h)
   refine Z ?_;refine vN1 ?_;refine AW.imp (Imp.frz 10 ?_);refine gS ?_;refine vK1 ?_
   rename Nat=>g
   refine AW.jL [0,2,9,10,15,16,17] (fun _:Unit=>[(0,.sl false 19 (all.map (aq false))),(2,.sl false 1 (at0.map AV.str)),(9,.ptr g 0),(10,.sl false 1 ((eX (at_ k i) at0).map AV.str)),(15,.sl false 19 (k.map (aq false))),(16,.aa k.length),(17,.aa i)]) (fun _=>[(g,some (jU (at_ k i)))]) (fun _=>True) ?_ ?_
   ·refine AW.c (fun h=>?_) fun h=>?_
    ·rw [eX,if_pos h];refine vK1 ?_;refine Imp.id (.inl ⟨(),rfl,?_⟩);exact gO
    ·rw [eX,if_neg (by rw [h];simp)];refine vK1 ?_;refine Imp.id (.inl ⟨(),rfl,?_⟩);exact gO
   intro _ _;have hcl:=fun h=>(Hz (all:=all) (at0:=at0) hi1 h).symm.trans hR
   (refine vU ?_;with_reducible repeat' first|exact Le.l|apply Sw|intro h)
   ·rw [<- hcl (by rw [EJ h];exact (by decide:¬ (2:Int)=0)),EJ h]
   ·rw [<- hcl (by rw [EL yG h];exact (by decide:¬ (3:Int)=0)),EL yG h]
   ·rw [<- hcl (by rw [EK yG yG yG h];exact (by decide:¬ (4:Int)=0)),EK yG yG yG h]
   ·have hk:=rZ (all:=all) (n:=at_ k i) (at0:=at0) yG yG (fun _=>by assumption);rw [<- hcl (by rw [hk];exact h),hk]
   ·have hk:=rZ (all:=all) (n:=at_ k i) (at0:=at0) yG yG (fun _=>by assumption);exact ⟨_,[_],_,Ir,⟨i+1,rfl,rfl,rfl,Ir,by rw [<- hR,ye hi1 (by rw [hk];exact h)]⟩,rfl,trivial⟩
   ·have hk:=rZ (all:=all) (n:=at_ k i) (at0:=at0) yG yG (fun e=>absurd e yG);rw [<- hcl (by rw [hk];exact h),hk]
   ·have hk:=rZ (all:=all) (n:=at_ k i) (at0:=at0) yG yG (fun e=>absurd e yG);exact ⟨_,[_],_,Ir,⟨i+1,rfl,rfl,rfl,Ir,by rw [<- hR,ye hi1 (by rw [hk];exact h)]⟩,rfl,trivial⟩
  ·rw [<- hR,Hy h];refine vX1 ?_;refine AW.ret (EndsG.imp (Imp.frz 7 ?_));refine gS ?_;refine EndsG.fin rfl ?_;exact gO
theorem Mq(all:List ae):∀ (m:Nat) (k:List ae) (at0:List Str),Ctr lim prog 102 [] [.sl false 19 (all.map (aq false)),.sl false 19 (k.map (aq false)),.sl false 1 (at0.map AV.str)] (.tup [.aa (Dt.fB all k at0).1,.sl false 1 ((Dt.fB all k at0).2.map AV.str)]) [] (SizeOf.sizeOf k<m/\aH all<=1048576/\jG k/\at0.length+aW k<=900/\gdF all)
 | 0,k,at0=>⟨(aU 102),fun h=>absurd h.1 (Nat.not_lt_zero _)⟩
 | m+1,k,at0=>by
  have ih:=Mq all m;refine Ctr.bd func102 ntmps102 fun hp=>?_;have gOn:=aD.on;obtain ⟨hs,hc,hg,ha,hga⟩:=hp;refine AW.f1 1 fun hf=>?_;refine vU1 ?_;refine AW.aw [8] [0,1,2] (fun m xs o=>∃ i:Nat,xs=[.aa i]/\o=[]/\m=k.length - i/\i<=k.length/\Dt.fB all (k.drop i) at0=Dt.fB all k at0) k.length [] trivial ⟨0,rfl,rfl,rfl,Nat.zero_le _,rfl⟩ ?_;rintro m xs o ⟨i,rfl,rfl,rfl,hi,hR⟩;refine vK1 ?_;refine AW.c (fun h=>?_) fun h=>?_
  ·have hi1:=h;obtain ⟨⟨hw,hm,hpt⟩,hgk⟩:=qf hg (at_mem hi1);have hsz:=ae.du (at_mem hi1)
   have hdp:=mW (at_mem hi1)
   have hhl:=GD (at_ k i) at0
   (refine vK1 ?_;intro h)
   rename Nat=>g
   refine AW.jL [0,1,2,8,9,10] (fun _:Unit=>[(0,.sl false 19 (all.map (aq false))),(1,.sl false 19 (k.map (aq false))),(2,.sl false 1 (at0.map AV.str)),(8,.aa i),(9,.ptr g 0),(10,.sl false 1 ((eX (at_ k i) at0).map AV.str))]) (fun _=>[(g,some (jU (at_ k i)))]) (fun _=>True) ?_ ?_
   ·refine AW.c (fun h=>?_) fun h=>?_
    ·rw [eX,if_pos h];refine vK1 ?_;refine Imp.frz 10 ?_;refine .inl ⟨(),rfl,?_⟩;refine gS ?_;rw [show at0.map AV.str++[AV.str (at_ k i).ag]=(at0++[(at_ k i).ag]).map AV.str by simp,aM]
    ·rw [eX,if_neg (by rw [h];simp)];refine vK1 ?_;refine Imp.id (.inl ⟨(),rfl,?_⟩);exact gO
   intro _ _;have hcl:=fun h=>(Hz (all:=all) (at0:=at0) hi1 h).symm.trans hR
   (refine vU ?_;with_reducible repeat' first|exact Le.l|apply Sw|intro h)
   ·rw [<- hcl (by rw [EJ h];exact (by decide:¬ (2:Int)=0)),EJ h]
   ·rw [<- hcl (by rw [EL yG h];exact (by decide:¬ (3:Int)=0)),EL yG h]
   ·rw [<- hcl (by rw [EK yG yG yG h];exact (by decide:¬ (4:Int)=0)),EK yG yG yG h]
   ·have hk:=rZ (all:=all) (n:=at_ k i) (at0:=at0) yG yG (fun _=>by assumption);rw [<- hcl (by rw [hk];exact h),hk]
   ·have hk:=rZ (all:=all) (n:=at_ k i) (at0:=at0) yG yG (fun _=>by assumption);exact ⟨_,[_],_,Ir,⟨i+1,rfl,rfl,rfl,Ir,by rw [<- hR,ye hi1 (by rw [hk];exact h)]⟩,rfl,trivial⟩
   ·have hk:=rZ (all:=all) (n:=at_ k i) (at0:=at0) yG yG (fun e=>absurd e yG);rw [<- hcl (by rw [hk];exact h),hk]
   ·have hk:=rZ (all:=all) (n:=at_ k i) (at0:=at0) yG yG (fun e=>absurd e yG);exact ⟨_,[_],_,Ir,⟨i+1,rfl,rfl,rfl,Ir,by rw [<- hR,ye hi1 (by rw [hk];exact h)]⟩,rfl,trivial⟩
  ·rw [<- hR,Hy h];refine vX1 ?_;refine AW.imp (Imp.jf 7 1 rfl ?_);refine AW.ret (EndsG.imp (Imp.frz 7 ?_));refine gS ?_;refine EndsG.fin rfl ?_;exact gO
def rJ{l:List ae}(h:fX l=true):jG l/\aH l<=60/\aW l<=8:=by simp only [fX,Bool.and_eq_true,decide_eq_true_eq,kR] at h;exact ⟨⟨_,_,h.2.2⟩,h.1.1,h.1.2⟩
instance VZ(all k:List ae)(at0:List Str):Ctr lim prog 111 [] [.sl false 19 (all.map (aq false)),.sl false 19 (k.map (aq false)),.sl false 1 (at0.map AV.str)] (.tup [.aa (Dt.fB all k at0).1,.sl false 1 ((Dt.fB all k at0).2.map AV.str)]) [] (aH all<=1048576/\jG k/\at0.length+aW k<=900):=⟨(aU 111),fun c=>(NB all (SizeOf.sizeOf k+1) k at0).out ⟨Nat.lt_succ_self _,c⟩⟩
instance U2(all k:List ae)(at0:List Str):Ctr lim prog 102 [] [.sl false 19 (all.map (aq false)),.sl false 19 (k.map (aq false)),.sl false 1 (at0.map AV.str)] (.tup [.aa (Dt.fB all k at0).1,.sl false 1 ((Dt.fB all k at0).2.map AV.str)]) [] (aH all<=1048576/\jG k/\at0.length+aW k<=900/\gdF all):=⟨(aU 102),fun c=>(Mq all (SizeOf.sizeOf k+1) k at0).out ⟨Nat.lt_succ_self _,c⟩⟩
instance aea(all k:List ae):Ctr lim prog 111 [] [.sl false 19 (all.map (aq false)),.sl false 19 (k.map (aq false)),.v (.slice none 0 0)] (.tup [.aa (Dt.fB all k []).1,.sl false 1 ((Dt.fB all k []).2.map AV.str)]) [] (aH all<=1048576/\jG k/\([]:List Str).length+aW k<=900) :=
 (VZ all k []).view fun F w=>au.ep (fun _ _ h=>h) (au.ep (fun _ _ h=>h) (au.ep Rep.jf fun _ _ h=>h))
instance adU(all k:List ae):Ctr lim prog 102 [] [.sl false 19 (all.map (aq false)),.sl false 19 (k.map (aq false)),.v (.slice none 0 0)] (.tup [.aa (Dt.fB all k []).1,.sl false 1 ((Dt.fB all k []).2.map AV.str)]) [] (aH all<=1048576/\jG k/\([]:List Str).length+aW k<=900/\gdF all) :=
 (U2 all k []).view fun F w=>au.ep (fun _ _ h=>h) (au.ep (fun _ _ h=>h) (au.ep Rep.jf fun _ _ h=>h))
end Go.Proofs
namespace Go.Dt
open Go Go.Ab
def Tz{fmt:Int->Str}{t:List ah}{f:Nat}{names:List Str}{at0:List Int}{l:List ah}{k:ae}(h:mR k.af l=false):pO fmt t f names at0 l k=[]:=by rw [pO,if_neg (by rw [h];simp)]
def P8{fmt:Int->Str}{t:List ah}{f:Nat}{names:List Str}{at0:List Int}{l:List ah}{k:ae}(h:mR k.af l=true):pO fmt t f names at0 l k=flt (!ck fmt t at0 k.aG) 6 names at0++gu fmt t f k.af names at0 l:=by rw [pO,if_pos h]
def ch1(t:List ah)(n:ae)(at0:List Int)(l:List ah):Bool:=decide (0<pT n l) && !ck Lib.itoa t at0 n.aG
def ch2(n:ae)(l:List ah):Bool:=decide (1<pT n l)
def ch3(t:List ah)(n:ae)(at0:List Int)(l:List ah):Bool:=decide (pT n l=0) && n.bD && ck Lib.itoa t at0 n.aG
def JL(t:List ah)(n:ae)(names:List Str)(at0:List Int)(l:List ah):Ld Lib.itoa t n names at0 l=flt (ch1 t n at0 l) 6 names at0++flt (ch2 n l) 3 names at0++flt (ch3 t n at0 l) 2 names at0:=rfl
end Go.Dt
namespace Go.Proofs
open Go.Ab Go.Dt
set_option maxHeartbeats 1000000
attribute [local go_sem] aM dS aC aR dr dq iB
attribute [-instance] cK dh
theorem NA(f:Nat)(kK:∀ (b:Nat) (t:List ah) (fs:List bB) (s:List ae) (names:List Str) (at0:List Int) (l:List ah),Ctr lim prog 115 [(b,some [.sl false 3 (t.map (ak false)),.sl true 3 (fs.map fW)])] [.ptr b 0,.sl false 19 (s.map (aq false)),.sl false 1 (names.map AV.str),.sl false 1 (at0.map iV),.sl false 3 (l.map (ak false))] (.tup []) [some [.sl false 3 (t.map (ak false)),.sl true 3 ((fs++gu Lib.itoa t f s names at0 l).map fW)]] (aW s<f/\jG s/\aH s<=1048576/\cnt t<=1048576/\names.length+aW s<=900/\at0.length+aW s<=900/\fs.length+(gu Lib.itoa t f s names at0 l).length<=1073741800))
  (b:Nat) (t:List ah) (fs:List bB) (n:ae) (names:List Str) (at0:List Int) (l:List ah):Ctr lim prog 162 [(b,some [.sl false 3 (t.map (ak false)),.sl true 3 (fs.map fW)])] [.ptr b 0,.agg (cSc n),.sl false 1 (names.map AV.str),.sl false 1 (at0.map iV),.sl false 3 (l.map (ak false))] (.tup []) [some [.sl false 3 (t.map (ak false)),.sl true 3 ((fs++uW Lib.itoa t f n names at0 l).map fW)]] (aW n.af<=f/\(n.aG.all fj=true/\jG n.af)/\aH n.af<=1048576/\cnt t<=1048576/\names.length+aW n.af<=900/\at0.length+aW n.af<=900/\fs.length+(uW Lib.itoa t f n names at0 l).length<=1073741800):=by
 refine Ctr.bd func162 ntmps162 fun hp=>?_;have gOn:=aD.on;obtain ⟨hd,⟨hw,hg⟩,hcs,hct,hn,ha,hfs⟩:=hp;have hlen:=TW n l
 have hR:fs++flt (ch1 t n at0 l) 6 names at0++flt (ch2 n l) 3 names at0++flt (ch3 t n at0 l) 2 names at0++n.af.flatMap (pO Lib.itoa t f names at0 l)=fs++uW Lib.itoa t f n names at0 l:=by
  rw [uW,JL];simp only [List.append_assoc]
 rw [uW,List.length_append] at hfs;have h1:=ju (ch1 t n at0 l) 6 names at0
 have h2:=ju (ch2 n l) 3 names at0;refine AW.vz 1 rfl (xs:=n.af.map (aq false)) (own:=false) (sz:=19) QC fun hf=>?_;simp (disch:=omega) only [go_sem] at hf;refine vN1 ?_;refine Z ?_;refine vN1 ?_;refine Z ?_;refine vN1 ?_;refine Z ?_;refine vN1 ?_;generalize fs++uW Lib.itoa t f n names at0 l=R at *;have hA:(fs++flt (ch1 t n at0 l) 6 names at0).length<=1073741810:=by rw [List.length_append];omega
 have hB:(fs++flt (ch1 t n at0 l) 6 names at0++flt (ch2 n l) 3 names at0).length<=1073741810:=by rw [List.length_append,List.length_append];omega
 have hC:(fs++flt (ch1 t n at0 l) 6 names at0++flt (ch2 n l) 3 names at0++flt (ch3 t n at0 l) 2 names at0).length+(n.af.flatMap (pO Lib.itoa t f names at0 l)).length<=1073741800:=by
  rw [JL] at hfs;simp only [List.length_append] at hfs ⊢;omega
 refine vK1 ?_;refine AW.jL [0,2,3,4,6,10,11] (fun _:Unit=>[(0,.ptr b 0),(2,.sl false 1 (names.map AV.str)),(3,.sl false 1 (at0.map iV)),(4,.sl false 3 (l.map (ak false))),(6,.vp (cSc n)),(10,.aa (pT n l)),(11,.ac (ck Lib.itoa t at0 n.aG))]) (fun _=>[(b,some [.sl false 3 (t.map (ak false)),.sl true 3 ((fs++flt (ch1 t n at0 l) 6 names at0).map fW)])]) (fun _=>True) ?_ ?_
 ·refine AW.c (fun h=>?_) fun h=>?_
  ·have e1:(ch1 t n at0 l)=true:=by simp only [ch1,ch2,ch3,Bool.and_eq_true,Bool.not_eq_true',decide_eq_true_eq];grind
   rw [aY e1];refine vK1 ?_;refine Imp.id (.inl ⟨(),rfl,?_⟩);exact gO
   try simp
  ·have e1:(ch1 t n at0 l)=false:=by rw [Bool.eq_false_iff];simp only [ch1,ch2,ch3,ne_eq,Bool.and_eq_true,Bool.not_eq_true',decide_eq_true_eq];grind
   rw [bw e1];refine vK1 ?_;refine Imp.id (.inl ⟨(),rfl,?_⟩);exact gO
   try simp
 intro _ _;refine vK1 ?_;refine AW.jL [0,2,3,4,6,10,11] (fun _:Unit=>[(0,.ptr b 0),(2,.sl false 1 (names.map AV.str)),(3,.sl false 1 (at0.map iV)),(4,.sl false 3 (l.map (ak false))),(6,.vp (cSc n)),(10,.aa (pT n l)),(11,.ac (ck Lib.itoa t at0 n.aG))]) (fun _=>[(b,some [.sl false 3 (t.map (ak false)),.sl true 3 ((fs++flt (ch1 t n at0 l) 6 names at0++flt (ch2 n l) 3 names at0).map fW)])]) (fun _=>True) ?_ ?_
 ·refine AW.c (fun h=>?_) fun h=>?_
  ·have e1:(ch2 n l)=true:=by simp only [ch1,ch2,ch3,Bool.and_eq_true,Bool.not_eq_true',decide_eq_true_eq];grind
   rw [aY e1];refine vK1 ?_;refine Imp.id (.inl ⟨(),rfl,?_⟩);exact gO
   try simp
  ·have e1:(ch2 n l)=false:=by rw [Bool.eq_false_iff];simp only [ch1,ch2,ch3,ne_eq,Bool.and_eq_true,Bool.not_eq_true',decide_eq_true_eq];grind
   rw [bw e1];refine vK1 ?_;refine Imp.id (.inl ⟨(),rfl,?_⟩);exact gO
   try simp
 intro _ _;refine vK1 ?_;refine AW.jL [0,2,3,4,6,10,11] (fun _:Unit=>[(0,.ptr b 0),(2,.sl false 1 (names.map AV.str)),(3,.sl false 1 (at0.map iV)),(4,.sl false 3 (l.map (ak false))),(6,.vp (cSc n)),(10,.aa (pT n l)),(11,.ac (ck Lib.itoa t at0 n.aG))]) (fun _=>[(b,some [.sl false 3 (t.map (ak false)),.sl true 3 ((fs++flt (ch1 t n at0 l) 6 names at0++flt (ch2 n l) 3 names at0++flt (ch3 t n at0 l) 2 names at0).map fW)])]) (fun _=>True) ?_ ?_
 ·refine AW.c (fun h=>?_) fun h=>?_
  ·have e1:(ch3 t n at0 l)=true:=by simp only [ch1,ch2,ch3,Bool.and_eq_true,Bool.not_eq_true',decide_eq_true_eq];grind
   rw [aY e1];refine vK1 ?_;refine Imp.id (.inl ⟨(),rfl,?_⟩);exact gO
   try simp
  ·have e1:(ch3 t n at0 l)=false:=by rw [Bool.eq_false_iff];simp only [ch1,ch2,ch3,ne_eq,Bool.and_eq_true,Bool.not_eq_true',decide_eq_true_eq];grind
   rw [bw e1];refine vK1 ?_;refine Imp.id (.inl ⟨(),rfl,?_⟩);exact gO
   try simp
 intro _ _;generalize fs++flt (ch1 t n at0 l) 6 names at0++flt (ch2 n l) 3 names at0++flt (ch3 t n at0 l) 2 names at0=fs1 at *;clear hA hB hfs h1 h2;refine vK1 ?_;refine AW.aw [54] [0,2,3,4,52,53] (fun m xs o=>∃ i:Nat,xs=[.aa i]/\o=[(b,some [.sl false 3 (t.map (ak false)),.sl true 3 ((fs1++fmT (pO Lib.itoa t f names at0 l) n.af i).map fW)])]/\m=n.af.length - i/\i<=n.af.length) n.af.length [(b,some [.sl false 3 (t.map (ak false)),.sl true 3 (fs1.map fW)])] gO ⟨0,rfl,by rw [uQ,List.append_nil],rfl,Nat.zero_le _⟩ ?_;rintro m xs o ⟨i,rfl,rfl,rfl,hi⟩;refine vK1 ?_;refine AW.c (fun h=>?_) fun h=>?_
 ·have hi1:i<n.af.length:=by simpa using h
  obtain ⟨⟨hkw,_,_⟩,hkg⟩:=qf hg (at_mem hi1);have hkd:=mW (at_mem hi1)
  have hkc:=jc (at_mem hi1)
  have hle:=Bt (g:=pO Lib.itoa t f names at0 l) hi1
  have hst:=qP (g:=pO Lib.itoa t f names at0 l) hi1
  cases e:mR (at_ n.af i).af l with
  | false =>
   rw [Tz e,List.append_nil] at hst
   (refine vP1 e ?_;with_reducible repeat first|intro (K:_->_->Prop) hK|intro h)
   exact ⟨_,[_],_,Ir,⟨i+1,rfl,rfl,rfl,Ir⟩,rfl,by rw [hst];simp (maxSteps:=2000000) (disch:=omega) only [go_sem]⟩
  | true =>
   rw [P8 e] at hst hle
   cases e2:ck Lib.itoa t at0 (at_ n.af i).aG with
   | true =>
    rw [e2,bw (b:=!true) rfl,List.nil_append] at hst hle
    (refine vP1 (And.intro e e2) ?_;with_reducible repeat first|intro (K:_->_->Prop) hK|intro h)
    exact ⟨_,[_],_,Ir,⟨i+1,rfl,rfl,rfl,Ir⟩,rfl,by rw [hst];simp (maxSteps:=2000000) (disch:=omega) only [go_sem]⟩
   | false =>
    rw [e2,aY (b:=!false) rfl] at hst hle;rw [List.length_append,List.length_singleton] at hle
    (refine vP1 (And.intro e e2) ?_;with_reducible repeat first|intro (K:_->_->Prop) hK|intro h)
    exact ⟨_,[_],_,Ir,⟨i+1,rfl,rfl,rfl,Ir⟩,rfl,by rw [hst];simp (maxSteps:=2000000) (disch:=omega) only [go_sem]⟩
 ·rw [xX (by simpa using h),hR]
  all_goals exact uU
end Go.Proofs
namespace Go.Ab
section
variable {L : Nat -> Nat} {P : Program} {n : Nat} {t : List (Nat × AV)} {o : Sto} {Q : Exit -> AS -> Prop} {id : Nat} {ops : Array Oper}
theorem AW.v8 [fQ P](eff:List Nat){c:Code} (h:∀ K:daa->List (AV×List Nat)->Prop,(∀ t D,(drawOK ops (D.map Prod.snd)=true/\∀ K':daa->Sto->Prop,(∀ t o,AW L P c ⟨n,t,o⟩ Q->K' t o)->Wn L P ops n K' (List.range' D.length (ops.size - D.length)) [] t o)->K t D) ->
   W L P ops eff n o (fun t D _=>K t D) (List.range' 0 ops.size) t []):AW L P (.seq (.region id ops true) c) ⟨n,t,o⟩ Q :=
 AW.seq (AW.draw (W.draw _ 0 _ _ rfl (h (fun t D=>drawOK ops (D.map Prod.snd)=true/\lU L P ops (List.range' D.length (ops.size - D.length)) ⟨n,t,o⟩ (fun s'=>AW L P c s' Q)) (fun t D h=>⟨h.1,Wn.oG (K:=fun t o=>AW L P c ⟨n,t,o⟩ Q) (fun _ _ h=>h) _ _ _ (h.2 _ (fun _ _ h=>h))⟩))))
theorem AW.oN [fQ P](eff:List Nat) (h:∀ K:daa->List (AV×List Nat)->Prop,(∀ t D,(drawOK ops (D.map Prod.snd)=true/\∀ K':daa->Sto->Prop,(∀ t o,Q .normal ⟨n,t,o⟩->K' t o)->Wn L P ops n K' (List.range' D.length (ops.size - D.length)) [] t o)->K t D) ->
   W L P ops eff n o (fun t D _=>K t D) (List.range' 0 ops.size) t []):AW L P (.region id ops true) ⟨n,t,o⟩ Q :=
 AW.draw (W.draw _ 0 _ _ rfl (h (fun t D=>drawOK ops (D.map Prod.snd)=true/\lU L P ops (List.range' D.length (ops.size - D.length)) ⟨n,t,o⟩ (fun s'=>Q .normal s')) (fun t D h=>⟨h.1,Wn.oG (K:=fun t o=>Q .normal ⟨n,t,o⟩) (fun _ _ h=>h) _ _ _ (h.2 _ (fun _ _ h=>h))⟩)))
end
end Go.Ab
