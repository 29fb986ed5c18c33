/- Part of a proof. -/
import Derived.Lay
import Derived.MakeChecks
import Derived.Test.YtpelkkfkecfmbaaGreatDoorH42
set_option linter.all false
set_option maxRecDepth 20000
set_option maxHeartbeats 4000000
open Go.Proofs.Tryz
namespace Go.Dt
open Go Go.Ab
def xl(n:ae)(l:List ah)(i:Nat):Nat:=((n.af.take i).filter fun k=>hasB k.af l).length
def DZ{n:ae}{l:List ah}{i:Nat}(h:i<n.af.length):xl n l (i+1)=xl n l i+if hasB (at_ n.af i).af l=true then 1 else 0:=by rw [xl,tk1 h,List.filter_append,List.length_append];congr 1;rw [List.filter_cons];split<;>rfl
def Qs{n:ae}{l:List ah}{i:Nat}(h:¬ i<n.af.length):xl n l i=rm n l:=by rw [xl,List.take_of_length_le Ir];rfl
def TU(n:ae)(l:List ah)(i:Nat):xl n l i<=n.af.length:=by rw [xl];exact Nat.le_trans (List.length_filter_le _ _) (by rw [List.length_take];omega)
def TX(n:ae)(l:List ah):rm n l<=n.af.length:=List.length_filter_le _ _
def hsP(l:List ah)(n:ae):Bool:=decide (0<=idx (ndP n.ag) l)
def P0{s:List ae}{l:List ah}{k:Nat}(hk:k<(dk s).length)(h:0<=idx (ndP (at_ (dk s) k).ag) l):hasB s l=true:=by rw [hasB,List.any_eq_true];exact ⟨_,at_mem hk,decide_eq_true h⟩
def Tj{s:List ae}{l:List ah}{k:Nat}(hk:¬ k<(dk s).length)(h:∀ n∈(dk s).take k,hsP l n=false):hasB s l=false:=by rw [List.take_of_length_le Ir] at h;rw [hasB,List.any_eq_false];intro n hn;have:=h n hn;rw [hsP] at this;rw [this];simp
def Tm{fmt:Int->Str}{t:List ah}{f:Nat}{names:List Str}{at0:List Int}{l:List ah}{k:ae}(h:hasB k.af l=false):sN fmt t f names at0 l k=[]:=by rw [sN,if_neg (by rw [h];simp)]
def P3{fmt:Int->Str}{t:List ah}{f:Nat}{names:List Str}{at0:List Int}{l:List ah}{k:ae}(h:hasB k.af l=true):sN fmt t f names at0 l k=flt (!ck fmt t at0 k.aG) 6 names at0++fL fmt t f k.af names at0 l:=by rw [sN,if_pos h]
def cg1(t:List ah)(n:ae)(at0:List Int)(l:List ah):Bool:=decide (0<rm n l) && !ck Lib.itoa t at0 n.aG
def cg2(n:ae)(l:List ah):Bool:=decide (1<rm n l)
def cg3(t:List ah)(n:ae)(at0:List Int)(l:List ah):Bool:=decide (rm n l=0) && n.bD && ck Lib.itoa t at0 n.aG
def JF(t:List ah)(n:ae)(names:List Str)(at0:List Int)(l:List ah):Wl Lib.itoa t n names at0 l=flt (cg1 t n at0 l) 6 names at0++flt (cg2 n l) 3 names at0++flt (cg3 t n at0 l) 2 names at0:=rfl
end Go.Dt
namespace Go.Proofs
open Go.Ab Go.Dt
set_option maxHeartbeats 1000000
attribute [local go_sem] aM dS aC aR dr dq iB
attribute [-instance] cK dh
instance aag(n:ae)(l:List ah):Ctr lim prog 184 [] [.agg (cSc n),.sl false 3 (l.map (ak false))] (.ac (hasB n.af l)) [] (aH n.af<=1048576):=by
 refine Ctr.bd func184 ntmps184 fun hp=>?_;have gOn:=aD.on
 have hdl:=Nat.le_trans (tQ n.af) hp;refine vK1 ?_;refine AW.aw [6] [1,5] (fun m xs o=>∃ k:Nat,xs=[.aa k]/\o=[]/\m=(dk n.af).length - k/\k<=(dk n.af).length/\∀ x∈(dk n.af).take k,hsP l x=false) (dk n.af).length [] trivial ⟨0,rfl,rfl,rfl,Nat.zero_le _,QC⟩ ?_;rintro m xs o ⟨k,rfl,rfl,rfl,hk,hR⟩
 (refine vU3 ?_ ?_ ?_<;>with_reducible repeat intro h)
 ·rw [P0 yG h]
 ·exact ⟨_,[_],[],Ir,⟨k+1,rfl,rfl,rfl,Ir,aL (p:=hsP l) yG hR (decide_eq_false Ir)⟩,rfl,trivial⟩
 ·rw [Tj h hR]
theorem Mp(f:Nat)(kK:∀ (b:Nat) (t:List ah) (fs:List bB) (s:List ae) (names:List Str) (at0:List Int) (l:List ah),Ctr lim prog 107 [(b,some [.sl false 3 (t.map (ak false)),.sl true 3 (fs.map fW)])] [.ptr b 0,.sl false 19 (s.map (aq false)),.sl false 3 (l.map (ak false)),.sl false 1 (names.map AV.str),.sl false 1 (at0.map iV)] (.tup []) [some [.sl false 3 (t.map (ak false)),.sl true 3 ((fs++fL Lib.itoa t f s names at0 l).map fW)]] (aW s<f/\jG s/\aH s<=1048576/\cnt t<=1048576/\names.length+aW s<=900/\at0.length+aW s<=900/\fs.length+(fL Lib.itoa t f s names at0 l).length<=1073741800))
  (b:Nat) (t:List ah) (fs:List bB) (n:ae) (names:List Str) (at0:List Int) (l:List ah):Ctr lim prog 142 [(b,some [.sl false 3 (t.map (ak false)),.sl true 3 (fs.map fW)])] [.ptr b 0,.agg (cSc n),.sl false 3 (l.map (ak false)),.sl false 1 (names.map AV.str),.sl false 1 (at0.map iV)] (.tup []) [some [.sl false 3 (t.map (ak false)),.sl true 3 ((fs++wW Lib.itoa t f n names at0 l).map fW)]] (aW n.af<=f/\(n.aG.all fj=true/\jG n.af)/\aH n.af<=1048576/\cnt t<=1048576/\names.length+aW n.af<=900/\at0.length+aW n.af<=900/\fs.length+(wW Lib.itoa t f n names at0 l).length<=1073741800):=by
 refine Ctr.bd func142 ntmps142 fun hp=>?_;have gOn:=aD.on;obtain ⟨hd,⟨hw,hg⟩,hcs,hct,hn,ha,hfs⟩:=hp;have hlen:=TX n l
 have hR:fs++flt (cg1 t n at0 l) 6 names at0++flt (cg2 n l) 3 names at0++flt (cg3 t n at0 l) 2 names at0++n.af.flatMap (sN Lib.itoa t f names at0 l)=fs++wW Lib.itoa t f n names at0 l:=by
  rw [wW,JF];simp only [List.append_assoc]
 rw [wW,List.length_append] at hfs;have h1:=ju (cg1 t n at0 l) 6 names at0
 have h2:=ju (cg2 n l) 3 names at0;refine AW.vz 1 rfl (xs:=n.af.map (aq false)) (own:=false) (sz:=19) QC fun hf=>?_;simp (disch:=omega) only [go_sem] at hf;generalize fs++wW Lib.itoa t f n names at0 l=R at *;have hA:(fs++flt (cg1 t n at0 l) 6 names at0).length<=1073741810:=by rw [List.length_append];omega
 have hB:(fs++flt (cg1 t n at0 l) 6 names at0++flt (cg2 n l) 3 names at0).length<=1073741810:=by rw [List.length_append,List.length_append];omega
 have hC:(fs++flt (cg1 t n at0 l) 6 names at0++flt (cg2 n l) 3 names at0++flt (cg3 t n at0 l) 2 names at0).length+(n.af.flatMap (sN Lib.itoa t f names at0 l)).length<=1073741800:=by
  rw [JF] at hfs;simp only [List.length_append] at hfs ⊢;omega
 refine vK1 ?_;refine AW.aw [10,11] [0,2,3,4,6] (fun m xs o=>∃ i:Nat,xs=[.aa (xl n l i),.aa i]/\o=[(b,some [.sl false 3 (t.map (ak false)),.sl true 3 (fs.map fW)])]/\m=n.af.length - i/\i<=n.af.length) n.af.length [(b,some [.sl false 3 (t.map (ak false)),.sl true 3 (fs.map fW)])] gO ⟨0,rfl,rfl,rfl,Nat.zero_le _⟩ ?_;rintro m xs o ⟨i,rfl,rfl,rfl,hi⟩;have hcl:=TU n l i;refine vK1 ?_;refine AW.c (fun h=>?_) fun h=>?_
 ·have hi1:i<n.af.length:=by simpa using h
  have hkc:=jc (at_mem hi1)
  cases e:hasB (at_ n.af i).af l with
  | true =>
   (refine vP1 e ?_;with_reducible repeat first|intro (K:_->_->Prop) hK|intro h)
   exact ⟨_,[_,_],_,Ir,⟨i+1,by rw [DZ hi1,if_pos e],rfl,rfl,Ir⟩,rfl,gO⟩
  | false =>
   (refine vP1 e ?_;with_reducible repeat first|intro (K:_->_->Prop) hK|intro h)
   exact ⟨_,[_,_],_,Ir,⟨i+1,by rw [DZ hi1,if_neg (by rw [e];simp)];rfl,rfl,rfl,Ir⟩,rfl,gO⟩
 rw [Qs (by simpa using h)];clear hcl h;refine vN1 ?_;refine Z ?_;refine vN1 ?_;refine vK1 ?_;refine AW.jL [0,2,3,4,6,10,12] (fun _:Unit=>[(0,.ptr b 0),(2,.sl false 3 (l.map (ak false))),(3,.sl false 1 (names.map AV.str)),(4,.sl false 1 (at0.map iV)),(6,.vp (cSc n)),(10,.aa (rm n l)),(12,.ac (ck Lib.itoa t at0 n.aG))]) (fun _=>[(b,some [.sl false 3 (t.map (ak false)),.sl true 3 ((fs++flt (cg1 t n at0 l) 6 names at0).map fW)])]) (fun _=>True) ?_ ?_
 ·refine AW.c (fun h=>?_) fun h=>?_
  ·have e1:(cg1 t n at0 l)=true:=by simp only [cg1,cg2,cg3,Bool.and_eq_true,Bool.not_eq_true',decide_eq_true_eq];grind
   rw [aY e1];refine vK1 ?_;refine Imp.id (.inl ⟨(),rfl,?_⟩);exact gO
   try simp
  ·have e1:(cg1 t n at0 l)=false:=by rw [Bool.eq_false_iff];simp only [cg1,cg2,cg3,ne_eq,Bool.and_eq_true,Bool.not_eq_true',decide_eq_true_eq];grind
   rw [bw e1];refine vK1 ?_;refine Imp.id (.inl ⟨(),rfl,?_⟩);exact gO
   try simp
 intro _ _;refine vK1 ?_;refine AW.jL [0,2,3,4,6,10,12] (fun _:Unit=>[(0,.ptr b 0),(2,.sl false 3 (l.map (ak false))),(3,.sl false 1 (names.map AV.str)),(4,.sl false 1 (at0.map iV)),(6,.vp (cSc n)),(10,.aa (rm n l)),(12,.ac (ck Lib.itoa t at0 n.aG))]) (fun _=>[(b,some [.sl false 3 (t.map (ak false)),.sl true 3 ((fs++flt (cg1 t n at0 l) 6 names at0++flt (cg2 n l) 3 names at0).map fW)])]) (fun _=>True) ?_ ?_
 ·refine AW.c (fun h=>?_) fun h=>?_
  ·have e1:(cg2 n l)=true:=by simp only [cg1,cg2,cg3,Bool.and_eq_true,Bool.not_eq_true',decide_eq_true_eq];grind
   rw [aY e1];refine vK1 ?_;refine Imp.id (.inl ⟨(),rfl,?_⟩);exact gO
   try simp
  ·have e1:(cg2 n l)=false:=by rw [Bool.eq_false_iff];simp only [cg1,cg2,cg3,ne_eq,Bool.and_eq_true,Bool.not_eq_true',decide_eq_true_eq];grind
   rw [bw e1];refine vK1 ?_;refine Imp.id (.inl ⟨(),rfl,?_⟩);exact gO
   try simp
 intro _ _;refine vK1 ?_;refine AW.jL [0,2,3,4,6,10,12] (fun _:Unit=>[(0,.ptr b 0),(2,.sl false 3 (l.map (ak false))),(3,.sl false 1 (names.map AV.str)),(4,.sl false 1 (at0.map iV)),(6,.vp (cSc n)),(10,.aa (rm n l)),(12,.ac (ck Lib.itoa t at0 n.aG))]) (fun _=>[(b,some [.sl false 3 (t.map (ak false)),.sl true 3 ((fs++flt (cg1 t n at0 l) 6 names at0++flt (cg2 n l) 3 names at0++flt (cg3 t n at0 l) 2 names at0).map fW)])]) (fun _=>True) ?_ ?_
 ·refine AW.c (fun h=>?_) fun h=>?_
  ·have e1:(cg3 t n at0 l)=true:=by simp only [cg1,cg2,cg3,Bool.and_eq_true,Bool.not_eq_true',decide_eq_true_eq];grind
   rw [aY e1];refine vK1 ?_;refine Imp.id (.inl ⟨(),rfl,?_⟩);exact gO
   try simp
  ·have e1:(cg3 t n at0 l)=false:=by rw [Bool.eq_false_iff];simp only [cg1,cg2,cg3,ne_eq,Bool.and_eq_true,Bool.not_eq_true',decide_eq_true_eq];grind
   rw [bw e1];refine vK1 ?_;refine Imp.id (.inl ⟨(),rfl,?_⟩);exact gO
   try simp
 intro _ _;generalize fs++flt (cg1 t n at0 l) 6 names at0++flt (cg2 n l) 3 names at0++flt (cg3 t n at0 l) 2 names at0=fs1 at *;clear hA hB hfs h1 h2 hi;refine vK1 ?_;refine AW.aw [13] [0,2,3,4,6] (fun m xs o=>∃ i:Nat,xs=[.aa i]/\o=[(b,some [.sl false 3 (t.map (ak false)),.sl true 3 ((fs1++fmT (sN Lib.itoa t f names at0 l) n.af i).map fW)])]/\m=n.af.length - i/\i<=n.af.length) n.af.length [(b,some [.sl false 3 (t.map (ak false)),.sl true 3 (fs1.map fW)])] gO ⟨0,rfl,by rw [uQ,List.append_nil],rfl,Nat.zero_le _⟩ ?_;rintro m xs o ⟨i,rfl,rfl,rfl,hi⟩;refine vK1 ?_;refine AW.c (fun h=>?_) fun h=>?_
 ·have hi1:i<n.af.length:=by simpa using h
  obtain ⟨⟨hkw,_,_⟩,hkg⟩:=qf hg (at_mem hi1);have hkd:=mW (at_mem hi1)
  have hkc:=jc (at_mem hi1)
  have hle:=Bt (g:=sN Lib.itoa t f names at0 l) hi1
  have hst:=qP (g:=sN Lib.itoa t f names at0 l) hi1
  cases e:hasB (at_ n.af i).af l with
  | false =>
   rw [Tm e,List.append_nil] at hst
   (refine vP1 e ?_;with_reducible repeat first|intro (K:_->_->Prop) hK|intro h)
   exact ⟨_,[_],_,Ir,⟨i+1,rfl,rfl,rfl,Ir⟩,rfl,by rw [hst];simp (maxSteps:=2000000) (disch:=omega) only [go_sem]⟩
  | true =>
   rw [P3 e] at hst hle
   cases e2:ck Lib.itoa t at0 (at_ n.af i).aG with
   | true =>
    rw [e2,bw (b:=!true) rfl,List.nil_append] at hst hle
    (refine vP1 (And.intro e e2) ?_;with_reducible repeat first|intro (K:_->_->Prop) hK|intro h)
    exact ⟨_,[_],_,Ir,⟨i+1,rfl,rfl,rfl,Ir⟩,rfl,by rw [hst];simp (maxSteps:=2000000) (disch:=omega) only [go_sem]⟩
   | false =>
    rw [e2,aY (b:=!false) rfl] at hst hle;rw [List.length_append,List.length_singleton] at hle
    (refine vP1 (And.intro e e2) ?_;with_reducible repeat first|intro (K:_->_->Prop) hK|intro h)
    exact ⟨_,[_],_,Ir,⟨i+1,rfl,rfl,rfl,Ir⟩,rfl,by rw [hst];simp (maxSteps:=2000000) (disch:=omega) only [go_sem]⟩
 ·rw [xX (by simpa using h),hR]
  all_goals exact uU
end Go.Proofs
namespace Go.Ab
theorem X7{os:Sto}{b:Nat}{cells:List AV}{xs ys:List AV}{sd:Prop}[h:vB ((b,some cells)::os) xs ys sd]:vB ((b,some cells)::os) (.ptr b 0::xs) (.vp (AV.bg cells)::ys) sd :=
 ⟨fun s=>.cons (.inr (.inr (.inr (.inr ⟨b,0,cells,rfl,fq _ _ _,by rw [List.drop_zero]⟩)))) (h.h s)⟩
end Go.Ab
namespace Go.Dt
open Go Go.Ab
def uqT(n:ae)(l:List ah)(k j:Nat):Bool:=(List.range j).any fun j=>ndP n.ag (at_ l j) && iC n (at_ l j) (at_ l k)
def Oy(n:ae)(l:List ah)(k j:Nat):uqT n l k (j+1)=(uqT n l k j || (ndP n.ag (at_ l j) && iC n (at_ l j) (at_ l k))):=by rw [uqT,List.range_succ,List.any_append];simp [uqT]
def Oz{n:ae}{l:List ah}{k j:Nat}(hj:j<k)(h1:ndP n.ag (at_ l j)=true)(h2:iC n (at_ l j) (at_ l k)=true):uqT n l k k=true:=by rw [uqT,List.any_eq_true];exact ⟨j,List.mem_range.2 hj,by rw [h1,h2];rfl⟩
def Tn{fmt:Int->Str}{t:List ah}{f:Nat}{n:ae}{nm:List Str}{at0:List Int}{l:List ah}{i:Nat}(h:ndP n.ag (at_ l i)=false):j4 fmt t f n nm at0 l i=[]:=by rw [j4,if_neg (by rw [h];simp)]
def P4{fmt:Int->Str}{t:List ah}{f:Nat}{n:ae}{nm:List Str}{at0:List Int}{l:List ah}{i:Nat}(h:ndP n.ag (at_ l i)=true):j4 fmt t f n nm at0 l i=ij fmt t n nm (at0++[(i:Int)]) (at_ l i)++flt (uqT n l i i) 5 nm (at0++[(i:Int)])++(if n.aj=2 then fL fmt t f n.af nm (at0++[(i:Int)]) (at_ l i).af else []):=by rw [j4,if_pos h,Sg];rfl
def jE(t:List ah)(n:ae)(at0:List Int)(l:List ah):Bool:=decide (((cJ n.ag l).length:Int)<n.eJ) && ck Lib.itoa t (at0++[-1]) n.aG || decide (0<n.dU) && decide (n.dU<((cJ n.ag l).length:Int))
def JE(t:List ah)(f:Nat)(n:ae)(nm:List Str)(at0:List Int)(l:List ah):zJ Lib.itoa t f n nm at0 l=flt (jE t n at0 l) 4 nm at0++fmR (j4 Lib.itoa t f n nm at0 l) l.length:=rfl
end Go.Dt
namespace Go.Proofs
open Go.Ab Go.Dt
set_option maxHeartbeats 1000000
attribute [local go_sem] aM dS CG aC aR dr dq iB
attribute [-instance] cK dh
instance acd(t:List ah)(fs:List bB)(es:List aB)(at0:List Int):Ctr lim prog 147 [] [.vp [.sl false 3 (t.map (ak false)),.sl false 3 (fs.map fF)],.sl false 7 (es.map (aO false)),.sl false 1 (at0.map iV)] (.ac (ck Lib.itoa t at0 es)) [] (es.all fj=true/\cnt t<=1048576/\at0.length<=1000):=by
 refine Ctr.bd func147 ntmps147 fun hp=>?_;have gOn:=aD.on;obtain ⟨hx,hc,ha⟩:=hp;refine AW.f1 1 fun hf=>?_;refine vU1 ?_;refine AW.aw [7] [0,1,2] (fun m xs o=>∃ i:Nat,xs=[.aa i]/\o=[]/\m=es.length - i/\i<=es.length/\ck Lib.itoa t at0 (es.drop i)=ck Lib.itoa t at0 es) es.length [] trivial ⟨0,rfl,rfl,rfl,Nat.zero_le _,rfl⟩ ?_;rintro m xs o ⟨i,rfl,rfl,rfl,hi,hR⟩;refine vK1 ?_;refine AW.c (fun h=>?_) fun h=>?_
 ·have hi1:=h
  have hx1:=HT hx hi1
  cases e:pK Lib.itoa t at0 (at_ es i) with
  | true =>
   (refine vP1 e ?_;with_reducible repeat first|intro (K:_->_->Prop) hK|intro h)
   all_goals first|exact ⟨_,[_],_,Ir,⟨i+1,rfl,rfl,rfl,Ir,wQ hi1 hR e⟩,rfl,gO⟩
  | false =>
   rw [CA hi1 hR e];exact vP0 e
 ·rw [zH h hR]
  all_goals exact uU
attribute [local instance] X7
theorem OW(f:Nat)(kK:∀ (b:Nat) (t:List ah) (fs:List bB) (s:List ae) (names:List Str) (at0:List Int) (l:List ah),Ctr lim prog 107 [(b,some [.sl false 3 (t.map (ak false)),.sl true 3 (fs.map fW)])] [.ptr b 0,.sl false 19 (s.map (aq false)),.sl false 3 (l.map (ak false)),.sl false 1 (names.map AV.str),.sl false 1 (at0.map iV)] (.tup []) [some [.sl false 3 (t.map (ak false)),.sl true 3 ((fs++fL Lib.itoa t f s names at0 l).map fW)]] (aW s<f/\jG s/\aH s<=1048576/\cnt t<=1048576/\names.length+aW s<=900/\at0.length+aW s<=900/\fs.length+(fL Lib.itoa t f s names at0 l).length<=1073741800))
  (b:Nat) (t:List ah) (fs:List bB) (n:ae) (nm:List Str) (at0:List Int) (l:List ah):Ctr lim prog 144 [(b,some [.sl false 3 (t.map (ak false)),.sl true 3 (fs.map fW)])] [.ptr b 0,.agg (cSc n),.sl false 3 (l.map (ak false)),.sl false 1 (nm.map AV.str),.sl false 1 (at0.map iV)] (.tup []) [some [.sl false 3 (t.map (ak false)),.sl true 3 ((fs++zJ Lib.itoa t f n nm at0 l).map fW)]] (aW n.af<f/\((n.aG.all fj=true/\n.bO.all fj=true/\n.fType.az.length<=40)/\jG n.af)/\aH n.af<=1048576/\cnt t<=1048576/\nm.length+aW n.af<=900/\at0.length+1+aW n.af<=900/\fs.length+(zJ Lib.itoa t f n nm at0 l).length<=1073741800):=by
 refine Ctr.bd func144 ntmps144 fun hp=>?_;have gOn:=aD.on;obtain ⟨hd,⟨⟨hw,hmu,hpt⟩,hg⟩,hcs,hct,hn,ha,hfs⟩:=hp
 have hR:fs++flt (jE t n at0 l) 4 nm at0++fmR (j4 Lib.itoa t f n nm at0 l) l.length=fs++zJ Lib.itoa t f n nm at0 l:=by
  rw [JE];simp only [List.append_assoc]
 rw [JE,List.length_append] at hfs;generalize fs++zJ Lib.itoa t f n nm at0 l=R at *;refine AW.f1 2 fun hf=>?_;have hpn:=FH n.ag l;refine vK1 ?_;refine AW.aw [10,11] [0,2,3,4,6] (fun m xs o=>∃ i:Nat,xs=[.aa (plN n.ag l i).length,.aa i]/\o=[(b,some [.sl false 3 (t.map (ak false)),.sl true 3 (fs.map fW)])]/\m=l.length - i/\i<=l.length) l.length [(b,some [.sl false 3 (t.map (ak false)),.sl true 3 (fs.map fW)])] gO ⟨0,rfl,rfl,rfl,Nat.zero_le _⟩ ?_;rintro m xs o ⟨i,rfl,rfl,rfl,hi⟩;have hpl:=FI n.ag l i;refine vK1 ?_;refine AW.c (fun h=>?_) fun h=>?_
 ·have hi1:i<l.length:=by simpa using h
  (refine vU2 ?_ ?_<;>with_reducible repeat intro h)
  ·exact ⟨_,[_,_],_,Ir,⟨i+1,by rw [I9 (by rw [ndP];first|exact h|simpa using h),List.length_append,List.length_singleton],rfl,rfl,Ir⟩,rfl,gO⟩
  ·exact ⟨_,[_,_],_,Ir,⟨i+1,by rw [ME (by rw [ndP];first|exact h|simpa using h)],rfl,rfl,Ir⟩,rfl,gO⟩
 have hpe:plN n.ag l i=cJ n.ag l:=BZ (by have:¬ i<l.length:=(by simpa using h);omega);rw [hpe];clear hpl hpe h hi
 haveI stop:∀ (ops:Array Oper) (c:Code) (t:daa) (o:Sto) (Q:Exit->AS->Prop),Rz (AW lim prog (.seq (.region 7 ops true) c) ⟨127,t,o⟩ Q) (MV 0 (p:=⟨AW lim prog (.seq (.region 7 ops true) c) ⟨127,t,o⟩ Q⟩)):=fun _ _ _ _ _=>⟨fun h=>h⟩
 refine vK1 ?_;refine uV 0 ?_;clear stop;refine AW.jL [0,2,3,4,6] (fun _:Unit=>[(0,.ptr b 0),(2,.sl false 3 (l.map (ak false))),(3,.sl false 1 (nm.map AV.str)),(4,.sl false 1 (at0.map iV)),(6,.vp (cSc n))]) (fun _=>[(b,some [.sl false 3 (t.map (ak false)),.sl true 3 ((fs++flt (jE t n at0 l) 4 nm at0).map fW)])]) (fun _=>True) ?_ ?_
 ·skip
  cases c1:decide (((cJ n.ag l).length:Int)<n.eJ) with
  | true =>
   (repeat' first|(with_reducible first|refine Z ?_|refine Y ?_|(refine hK _ _ ?_;clear hK K)|refine And.intro ?_ ?_|exact Ct|intro (K:_->_->Prop) hK|(refine gI fun hg=>?_;try simp only [hC,reduceCtorEq] at hg;try simp only [hg]))|(refine AW.i rfl (fun h=>?_) (fun h=>?_)<;>try simp only [hC,reduceCtorEq] at h)|((with_reducible refine E ?_;repeat refine Y ?_);refine eF rfl ?_)|simp (disch:=omega) only [go_sem,c1]|(with_reducible intro hg;try simp only [hC,reduceCtorEq] at hg)|exact Cl|fail)
   all_goals (refine Imp.id (.inl ⟨(),rfl,?_⟩);simp (maxSteps:=2000000) (disch:=omega) only [go_sem];clear hR kK hfs hpn hf;first|(first|(rw [aY];rotate_left;(simp only [jE,Bool.and_eq_true,Bool.or_eq_true,Bool.not_eq_true',decide_eq_true_eq,decide_eq_false_iff_not];grind);simp;done)|(rw [bw];rotate_left;(rw [Bool.eq_false_iff];simp only [ne_eq,jE,Bool.and_eq_true,Bool.or_eq_true,Bool.not_eq_true',decide_eq_true_eq,decide_eq_false_iff_not];grind);simp;done)|(rw [aY];rotate_left;(simp only [jE,Bool.and_eq_true,Bool.or_eq_true,Bool.not_eq_true',decide_eq_true_eq,decide_eq_false_iff_not];grind);done)|(rw [bw];rotate_left;(rw [Bool.eq_false_iff];simp only [ne_eq,jE,Bool.and_eq_true,Bool.or_eq_true,Bool.not_eq_true',decide_eq_true_eq,decide_eq_false_iff_not];grind);done))|(constructor;(simp only [hg]);(first|(rw [aY];rotate_left;(simp only [jE,Bool.and_eq_true,Bool.or_eq_true,Bool.not_eq_true',decide_eq_true_eq,decide_eq_false_iff_not];grind);simp;done)|(rw [bw];rotate_left;(rw [Bool.eq_false_iff];simp only [ne_eq,jE,Bool.and_eq_true,Bool.or_eq_true,Bool.not_eq_true',decide_eq_true_eq,decide_eq_false_iff_not];grind);simp;done)|(rw [aY];rotate_left;(simp only [jE,Bool.and_eq_true,Bool.or_eq_true,Bool.not_eq_true',decide_eq_true_eq,decide_eq_false_iff_not];grind);done)|(rw [bw];rotate_left;(rw [Bool.eq_false_iff];simp only [ne_eq,jE,Bool.and_eq_true,Bool.or_eq_true,Bool.not_eq_true',decide_eq_true_eq,decide_eq_false_iff_not];grind);done))))
  | false =>
   (repeat' first|(with_reducible first|refine Z ?_|refine Y ?_|(refine hK _ _ ?_;clear hK K)|refine And.intro ?_ ?_|exact Ct|intro (K:_->_->Prop) hK|(refine gI fun hg=>?_;try simp only [hC,reduceCtorEq] at hg;try simp only [hg]))|(refine AW.i rfl (fun h=>?_) (fun h=>?_)<;>try simp only [hC,reduceCtorEq] at h)|((with_reducible refine E ?_;repeat refine Y ?_);refine eF rfl ?_)|simp (disch:=omega) only [go_sem,c1]|(with_reducible intro hg;try simp only [hC,reduceCtorEq] at hg)|exact Cl|fail)
   all_goals (refine Imp.id (.inl ⟨(),rfl,?_⟩);simp (maxSteps:=2000000) (disch:=omega) only [go_sem];clear hR kK hfs hpn hf;first|(first|(rw [aY];rotate_left;(simp only [jE,Bool.and_eq_true,Bool.or_eq_true,Bool.not_eq_true',decide_eq_true_eq,decide_eq_false_iff_not];grind);simp;done)|(rw [bw];rotate_left;(rw [Bool.eq_false_iff];simp only [ne_eq,jE,Bool.and_eq_true,Bool.or_eq_true,Bool.not_eq_true',decide_eq_true_eq,decide_eq_false_iff_not];grind);simp;done)|(rw [aY];rotate_left;(simp only [jE,Bool.and_eq_true,Bool.or_eq_true,Bool.not_eq_true',decide_eq_true_eq,decide_eq_false_iff_not];grind);done)|(rw [bw];rotate_left;(rw [Bool.eq_false_iff];simp only [ne_eq,jE,Bool.and_eq_true,Bool.or_eq_true,Bool.not_eq_true',decide_eq_true_eq,decide_eq_false_iff_not];grind);done))|(constructor;(simp only [hg]);(first|(rw [aY];rotate_left;(simp only [jE,Bool.and_eq_true,Bool.or_eq_true,Bool.not_eq_true',decide_eq_true_eq,decide_eq_false_iff_not];grind);simp;done)|(rw [bw];rotate_left;(rw [Bool.eq_false_iff];simp only [ne_eq,jE,Bool.and_eq_true,Bool.or_eq_true,Bool.not_eq_true',decide_eq_true_eq,decide_eq_false_iff_not];grind);simp;done)|(rw [aY];rotate_left;(simp only [jE,Bool.and_eq_true,Bool.or_eq_true,Bool.not_eq_true',decide_eq_true_eq,decide_eq_false_iff_not];grind);done)|(rw [bw];rotate_left;(rw [Bool.eq_false_iff];simp only [ne_eq,jE,Bool.and_eq_true,Bool.or_eq_true,Bool.not_eq_true',decide_eq_true_eq,decide_eq_false_iff_not];grind);done))))
 intro _ _;have abv:(fs++flt (jE t n at0 l) 4 nm at0).length+(fmR (j4 Lib.itoa t f n nm at0 l) l.length).length<=1073741800:=by rw [List.length_append];omega
 clear hfs;generalize fs++flt (jE t n at0 l) 4 nm at0=fs1 at *;refine vK1 ?_;refine AW.aw [12] [0,2,3,4,6] (fun m xs o=>∃ k:Nat,xs=[.aa k]/\o=[(b,some [.sl false 3 (t.map (ak false)),.sl true 3 ((fs1++fmR (j4 Lib.itoa t f n nm at0 l) k).map fW)])]/\m=l.length - k/\k<=l.length) l.length [(b,some [.sl false 3 (t.map (ak false)),.sl true 3 (fs1.map fW)])] gO ⟨0,rfl,by rw [GV,List.append_nil],rfl,Nat.zero_le _⟩ ?_;rintro m xs o ⟨k,rfl,rfl,rfl,hk⟩;refine vK1 ?_;refine AW.c (fun h=>?_) fun h=>?_
 ·have hk1:k<l.length:=by simpa using h
  clear h;have hle:=NJ (g:=j4 Lib.itoa t f n nm at0 l) hk1
  have hst:fmR (j4 Lib.itoa t f n nm at0 l) (k+1)=_:=uR;refine vK1 ?_;refine AW.c (fun h=>?_) fun h=>?_
  ·have hno:ndP n.ag (at_ l k)=false:=by rw [ndP];simpa using h
   rw [Tn hno,List.append_nil] at hst;refine vU1 ?_;exact ⟨_,[_],_,Ir,⟨k+1,rfl,rfl,rfl,Ir⟩,rfl,by rw [hst];simp (maxSteps:=2000000) (disch:=omega) only [go_sem]⟩
  ·have hye:ndP n.ag (at_ l k)=true:=by rw [ndP];simpa using h
   rw [P4 hye] at hst hle;simp only [List.length_append] at hle;have hth:=xB Lib.itoa t n nm (at0++[(k:Int)]) (at_ l k);refine vN1 ?_;refine Z ?_;refine vN1 ?_;refine AW.imp (Imp.frz 13 ?_);refine gS ?_;have hpl:(at0++[(k:Int)]).length=at0.length+1:=by simp
   have hp1:(fs1++fmR (j4 Lib.itoa t f n nm at0 l) k).length<=1073741800:=by rw [List.length_append];omega
   have hp2:(fs1++fmR (j4 Lib.itoa t f n nm at0 l) k++ij Lib.itoa t n nm (at0++[(k:Int)]) (at_ l k)).length<=1073741810:=by rw [List.length_append];omega
   haveI z14:=fun (ops:Array Oper) (c:Code) (t:daa) (o:Sto) (Q:Exit->AS->Prop)=>(⟨AW.v8 [83]⟩:Rz (AW lim prog (.seq (.region 14 ops true) c) ⟨127,t,o⟩ Q) _)
   haveI aeq:=fun (ops:Array Oper) (t:daa) (o:Sto) (Q:Exit->AS->Prop)=>(⟨AW.oN [83]⟩:Rz (AW lim prog (.region 14 ops true) ⟨127,t,o⟩ Q) _)
   haveI z21:=fun (ops:Array Oper) (t:daa) (o:Sto) (Q:Exit->AS->Prop)=>(⟨AW.oN [126]⟩:Rz (AW lim prog (.region 21 ops true) ⟨127,t,o⟩ Q) _)
   haveI stop:∀ (ops:Array Oper) (c:Code) (t:daa) (o:Sto) (Q:Exit->AS->Prop),Rz (AW lim prog (.seq (.region 15 ops false) c) ⟨127,t,o⟩ Q) (MV 0 (p:=⟨AW lim prog (.seq (.region 15 ops false) c) ⟨127,t,o⟩ Q⟩)):=fun _ _ _ _ _=>⟨fun h=>h⟩
   refine vK1 ?_;refine uV 0 ?_;clear stop;refine AW.jL [0,2,3,4,6,12,13] (fun _:Unit=>[(0,.ptr b 0),(2,.sl false 3 (l.map (ak false))),(3,.sl false 1 (nm.map AV.str)),(4,.sl false 1 (at0.map iV)),(6,.vp (cSc n)),(12,.aa k),(13,.sl false 1 ((at0++[(k:Int)]).map iV))]) (fun _=>[(b,some [.sl false 3 (t.map (ak false)),.sl true 3 ((fs1++fmR (j4 Lib.itoa t f n nm at0 l) k++ij Lib.itoa t n nm (at0++[(k:Int)]) (at_ l k)++flt (uqT n l k k) 5 nm (at0++[(k:Int)])).map fW)])]) (fun _=>True) ?_ ?_
   ·refine vK1 ?_;refine AW.aw [14] [0,2,3,4,6,12,13] (fun m xs o=>∃ j:Nat,xs=[.aa j]/\o=[(b,some [.sl false 3 (t.map (ak false)),.sl true 3 ((fs1++fmR (j4 Lib.itoa t f n nm at0 l) k++ij Lib.itoa t n nm (at0++[(k:Int)]) (at_ l k)).map fW)])]/\m=k - j/\j<=k/\uqT n l k j=false) k [(b,some [.sl false 3 (t.map (ak false)),.sl true 3 ((fs1++fmR (j4 Lib.itoa t f n nm at0 l) k++ij Lib.itoa t n nm (at0++[(k:Int)]) (at_ l k)).map fW)])] gO ⟨0,rfl,rfl,rfl,Nat.zero_le _,rfl⟩ ?_;rintro m xs o ⟨j,rfl,rfl,rfl,hj,hR2⟩;refine vK1 ?_;refine AW.c (fun h=>?_) fun h=>?_
    ·have hj1:j<k:=by simpa using h
     have hjl:j<l.length:=by omega
     have hus:=Oy n l k j;clear h;refine vK1 ?_;refine AW.c (fun h=>?_) fun h=>?_
     ·rw [aY (Oz hj1 (by rw [ndP];simpa using h.1) h.2)];refine vK1 ?_;refine Imp.id (.inl ⟨(),rfl,?_⟩);exact gO
      try simp
     ·have hno:uqT n l k (j+1)=false:=by
       rw [hus,hR2,Bool.false_or,Bool.and_eq_false_iff,ndP];by_cases e:(at_ l j).ag=n.ag
       ·exact .inr (h e)
       ·exact .inl (by simpa using e)
      refine vU1 ?_;exact ⟨_,[_],_,Ir,⟨j+1,rfl,rfl,rfl,Ir,hno⟩,rfl,gO⟩
    ·have hjk:j=k:=by have:¬ j<k:=(by simpa using h);omega
     rw [hjk] at hR2;rw [bw hR2];refine vK1 ?_;refine Imp.id (.inl ⟨(),rfl,?_⟩);exact gO
     try simp
   intro _ _;have hp3:(fs1++fmR (j4 Lib.itoa t f n nm at0 l) k++ij Lib.itoa t n nm (at0++[(k:Int)]) (at_ l k)++flt (uqT n l k k) 5 nm (at0++[(k:Int)])).length+(if n.aj=2 then fL Lib.itoa t f n.af nm (at0++[(k:Int)]) (at_ l k).af else []).length<=1073741800:=by simp only [List.length_append];omega
   have KW:fs1++fmR (j4 Lib.itoa t f n nm at0 l) (k+1)=fs1++fmR (j4 Lib.itoa t f n nm at0 l) k++ij Lib.itoa t n nm (at0++[(k:Int)]) (at_ l k)++flt (uqT n l k k) 5 nm (at0++[(k:Int)])++(if n.aj=2 then fL Lib.itoa t f n.af nm (at0++[(k:Int)]) (at_ l k).af else []):=by rw [hst];simp only [List.append_assoc]
   clear hst hp1 hp2 hth;generalize fs1++fmR (j4 Lib.itoa t f n nm at0 l) k++ij Lib.itoa t n nm (at0++[(k:Int)]) (at_ l k)++flt (uqT n l k k) 5 nm (at0++[(k:Int)])=fs2 at *;by_cases k2:n.aj=2
   ·rw [if_pos k2] at KW hp3
    (repeat' first|(with_reducible first|refine Z ?_|refine Y ?_|(refine hK _ _ ?_;clear hK K)|refine And.intro ?_ ?_|exact Ct|intro (K:_->_->Prop) hK|(refine gI fun hg=>?_;try simp only [hC,reduceCtorEq] at hg;try simp only [hg]))|(refine AW.i rfl (fun h=>?_) (fun h=>?_)<;>try simp only [hC,reduceCtorEq] at h)|((with_reducible refine E ?_;repeat refine Y ?_);refine eF rfl ?_)|simp (disch:=omega) only [go_sem,k2]|(with_reducible intro hg;try simp only [hC,reduceCtorEq] at hg)|exact Cl|fail)
    exact ⟨_,[_],_,Ir,⟨k+1,rfl,rfl,rfl,Ir⟩,rfl,by rw [KW];simp (maxSteps:=2000000) (disch:=omega) only [go_sem]⟩
   ·rw [if_neg k2,List.append_nil] at KW
    (repeat' first|(with_reducible first|refine Z ?_|refine Y ?_|(refine hK _ _ ?_;clear hK K)|refine And.intro ?_ ?_|exact Ct|intro (K:_->_->Prop) hK|(refine gI fun hg=>?_;try simp only [hC,reduceCtorEq] at hg;try simp only [hg]))|(refine AW.i rfl (fun h=>?_) (fun h=>?_)<;>try simp only [hC,reduceCtorEq] at h)|((with_reducible refine E ?_;repeat refine Y ?_);refine eF rfl ?_)|simp (disch:=omega) only [go_sem,k2]|(with_reducible intro hg;try simp only [hC,reduceCtorEq] at hg)|exact Cl|fail)
    exact ⟨_,[_],_,Ir,⟨k+1,rfl,rfl,rfl,Ir⟩,rfl,by rw [KW];simp (maxSteps:=2000000) (disch:=omega) only [go_sem]⟩
 ·rw [show k=l.length by have:¬ k<l.length:=(by simpa using h);omega,hR]
  all_goals exact uU
end Go.Proofs
namespace Go.Dt
open Go Go.Ab
section
variable {fmt : Int -> Str} {t : List ah} {f : Nat} {names : List Str} {at0 : List Int} {l : List ah} {n : ae}
def Wi(h:n.aj=5):j3 fmt t f names at0 l n=wW fmt t f n names at0 l:=by rw [j3,if_pos h]
def We(h5:¬ n.aj=5)(h:fG n.aj=true):j3 fmt t f names at0 l n=zJ fmt t f n (names++[n.ag]) at0 l:=by rw [j3,if_neg h5,if_pos (by rw [fG] at h;simpa using h)]
def Wh(h5:¬ n.aj=5)(hr:fG n.aj=false)(h:0<=idx (ndP n.ag) l):j3 fmt t f names at0 l n=ij fmt t n (names++[n.ag]) (at0++[((idx (ndP n.ag) l).toNat:Int)]) (at_ l (idx (ndP n.ag) l).toNat) ++
  fL fmt t f n.af (names++[n.ag]) (at0++[((idx (ndP n.ag) l).toNat:Int)]) (at_ l (idx (ndP n.ag) l).toNat).af:=by
 rw [j3,if_neg h5,if_neg (by rw [fG] at hr;simpa using hr),if_pos h]
def Wg(h:¬ 0<=idx (ndP n.ag) l)(h3:n.aj=3):j3 fmt t f names at0 l n=flt (n.bD && ck fmt t (at0++[-1]) n.aG) 2 (names++[n.ag]) at0:=by rw [j3,if_neg Ir,if_neg Ir,if_neg h,if_pos h3]
def Wj(h:¬ 0<=idx (ndP n.ag) l)(h1:n.aj=1):j3 fmt t f names at0 l n=if (!n.aZ && ck fmt t (at0++[-1]) n.aG)=true then fL fmt t f n.af (names++[n.ag]) (at0++[-1]) [] else []:=by rw [j3,if_neg Ir,if_neg Ir,if_neg h,if_neg Ir,if_pos h1]
def Wf(h5:¬ n.aj=5)(hr:fG n.aj=false)(h:¬ 0<=idx (ndP n.ag) l)(h3:¬ n.aj=3)(h1:¬ n.aj=1):j3 fmt t f names at0 l n=[]:=by rw [j3,if_neg h5,if_neg (by rw [fG] at hr;simpa using hr),if_neg h,if_neg h3,if_neg h1]
end
end Go.Dt
namespace Go.Proofs
open Go.Ab Go.Dt
set_option maxHeartbeats 1000000
attribute [local go_sem] aM dS aC aR dr dq iB
attribute [-instance] cK dh
theorem xE:∀ (f:Nat) (b:Nat) (t:List ah) (fs:List bB) (s:List ae) (names:List Str) (at0:List Int) (l:List ah),Ctr lim prog 107 [(b,some [.sl false 3 (t.map (ak false)),.sl true 3 (fs.map fW)])] [.ptr b 0,.sl false 19 (s.map (aq false)),.sl false 3 (l.map (ak false)),.sl false 1 (names.map AV.str),.sl false 1 (at0.map iV)] (.tup []) [some [.sl false 3 (t.map (ak false)),.sl true 3 ((fs++fL Lib.itoa t f s names at0 l).map fW)]] (aW s<f/\jG s/\aH s<=1048576/\cnt t<=1048576/\names.length+aW s<=900/\at0.length+aW s<=900/\fs.length+(fL Lib.itoa t f s names at0 l).length<=1073741800)
 | 0,b,t,fs,s,names,at0,l=>⟨(aU 107),fun h=>absurd h.1 (Nat.not_lt_zero _)⟩
 | f+1,b,t,fs,s,names,at0,l=>by
  have kK:=xE f
  have kC:=Mp f (xE f)
  have kR:=OW f (xE f);refine Ctr.bd func107 ntmps107 fun hp=>?_;have gOn:=aD.on;obtain ⟨hd,hg,hcs,hct,hn,ha,hfs⟩:=hp;rw [JM] at hfs;have hR:fs++s.flatMap (j3 Lib.itoa t f names at0 l)=fs++fL Lib.itoa t (f+1) s names at0 l:=by rw [JM]
  generalize fs++fL Lib.itoa t (f+1) s names at0 l=R at *;refine AW.f1 1 fun hf=>?_;refine vK1 ?_;refine AW.aw [10] [0,1,2,3,4] (fun m xs o=>∃ i:Nat,xs=[.aa i]/\o=[(b,some [.sl false 3 (t.map (ak false)),.sl true 3 ((fs++fmT (j3 Lib.itoa t f names at0 l) s i).map fW)])]/\m=s.length - i/\i<=s.length) s.length [(b,some [.sl false 3 (t.map (ak false)),.sl true 3 (fs.map fW)])] gO ⟨0,rfl,by rw [uQ,List.append_nil],rfl,Nat.zero_le _⟩ ?_;rintro m xs o ⟨i,rfl,rfl,rfl,hi⟩;refine vK1 ?_;refine AW.c (fun h=>?_) fun h=>?_
  ·have hi1:i<s.length:=by simpa using h
   clear h;obtain ⟨⟨hk1,hk2,hk3⟩,hk4⟩:=qf hg (at_mem hi1);have hkd:=mW (at_mem hi1)
   have hkc:=jc (at_mem hi1)
   have hle:=Bt (g:=j3 Lib.itoa t f names at0 l) hi1
   have hst:=qP (g:=j3 Lib.itoa t f names at0 l) hi1
   have hnl:(names++[(at_ s i).ag]).length=names.length+1:=by simp
   have hal:∀ p:Int,(at0++[p]).length=at0.length+1:=fun p=>by simp
   have hil:=eO (p:=ndP (at_ s i).ag) l
   have hfl:(fs++fmT (j3 Lib.itoa t f names at0 l) s i).length=fs.length+(fmT (j3 Lib.itoa t f names at0 l) s i).length:=List.length_append
   have kZ:=fun (fs:List bB) (s:List ae) (names:List Str) (at0:List Int)=>(kK b t fs s names at0 []).En (args':=[.ptr b 0,.sl false 19 (s.map (aq false)),.v (.slice none 0 0),.sl false 1 (names.map AV.str),.sl false 1 (at0.map iV)]) fun F w=>au.ep (fun _ _ h=>h) (au.ep (fun _ _ h=>h) (au.ep Rep.jf (au.ep (fun _ _ h=>h) (au.ep (fun _ _ h=>h) fun _ _ h=>h))))
   haveI z11:=fun (ops:Array Oper) (c:Code) (t:daa) (o:Sto) (Q:Exit->AS->Prop)=>(⟨AW.v8 [68]⟩:Rz (AW lim prog (.seq (.region 11 ops true) c) ⟨126,t,o⟩ Q) _)
   haveI aes:=fun (ops:Array Oper) (t:daa) (o:Sto) (Q:Exit->AS->Prop)=>(⟨AW.oN [68]⟩:Rz (AW lim prog (.region 11 ops true) ⟨126,t,o⟩ Q) _)
   haveI z12:=fun (ops:Array Oper) (t:daa) (o:Sto) (Q:Exit->AS->Prop)=>(⟨AW.oN [81]⟩:Rz (AW lim prog (.region 12 ops true) ⟨126,t,o⟩ Q) _)
   haveI z13:=fun (ops:Array Oper) (c:Code) (t:daa) (o:Sto) (Q:Exit->AS->Prop)=>(⟨AW.v8 [96]⟩:Rz (AW lim prog (.seq (.region 13 ops true) c) ⟨126,t,o⟩ Q) _)
   haveI aer:=fun (ops:Array Oper) (t:daa) (o:Sto) (Q:Exit->AS->Prop)=>(⟨AW.oN [96]⟩:Rz (AW lim prog (.region 13 ops true) ⟨126,t,o⟩ Q) _)
   haveI z15:=fun (ops:Array Oper) (c:Code) (t:daa) (o:Sto) (Q:Exit->AS->Prop)=>(⟨AW.v8 [117]⟩:Rz (AW lim prog (.seq (.region 15 ops true) c) ⟨126,t,o⟩ Q) _)
   haveI aep:=fun (ops:Array Oper) (t:daa) (o:Sto) (Q:Exit->AS->Prop)=>(⟨AW.oN [117]⟩:Rz (AW lim prog (.region 15 ops true) ⟨126,t,o⟩ Q) _)
   haveI z16:=fun (ops:Array Oper) (t:daa) (o:Sto) (Q:Exit->AS->Prop)=>(⟨AW.oN [125]⟩:Rz (AW lim prog (.region 16 ops true) ⟨126,t,o⟩ Q) _)
   refine vN1 ?_;refine Z ?_
   (refine vN1 ?_;intro h h)
   refine Z ?_;refine vN1 ?_;refine AW.imp (Imp.frz 12 ?_);refine gS ?_;rw [show AV.bg (names.map AV.str++[AV.str (at_ s i).ag])=(names++[(at_ s i).ag]).map AV.str by rw [show names.map AV.str++[AV.str (at_ s i).ag]=(names++[(at_ s i).ag]).map AV.str by simp,aM]];refine vK1 ?_;refine AW.c (fun h=>?_) fun h=>?_
   ·have h5:=h;rw [Wi h5] at hle hst;refine vU1 ?_;exact ⟨_,[_],_,Ir,⟨i+1,rfl,rfl,rfl,Ir⟩,rfl,by rw [hst];simp (maxSteps:=2000000) (disch:=omega) only [go_sem]⟩
   ·have h5:=h;clear h;refine vK1 ?_;refine AW.c (fun h=>?_) fun h=>?_
    ·have hr:fG (at_ s i).aj=true:=by simpa using h
     rw [We h5 hr] at hle hst;refine vU1 ?_;exact ⟨_,[_],_,Ir,⟨i+1,rfl,rfl,rfl,Ir⟩,rfl,by rw [hst];simp (maxSteps:=2000000) (disch:=omega) only [go_sem]⟩
    ·have hr:fG (at_ s i).aj=false:=by simpa using h
     clear h;refine vK1 ?_;refine AW.c (fun h=>?_) fun h=>?_
     ·have hx:0<=idx (ndP (at_ s i).ag) l:=by simpa using h
      have hth:=xB Lib.itoa t (at_ s i) (names++[(at_ s i).ag]) (at0++[((idx (ndP (at_ s i).ag) l).toNat:Int)]) (at_ l (idx (ndP (at_ s i).ag) l).toNat);rw [Wh h5 hr hx,show ((idx (ndP (at_ s i).ag) l).toNat:Int)=idx (ndP (at_ s i).ag) l by omega] at hle hst;rw [show ((idx (ndP (at_ s i).ag) l).toNat:Int)=idx (ndP (at_ s i).ag) l by omega] at hth;rw [List.length_append] at hle;have hp2:(fs++fmT (j3 Lib.itoa t f names at0 l) s i++ij Lib.itoa t (at_ s i) (names++[(at_ s i).ag]) (at0++[idx (ndP (at_ s i).ag) l]) (at_ l (idx (ndP (at_ s i).ag) l).toNat)).length+(fL Lib.itoa t f (at_ s i).af (names++[(at_ s i).ag]) (at0++[idx (ndP (at_ s i).ag) l]) (at_ l (idx (ndP (at_ s i).ag) l).toNat).af).length<=1073741800:=by simp only [List.length_append];omega
      have abE:=hal (idx (ndP (at_ s i).ag) l);refine vU1 ?_;exact ⟨_,[_],_,Ir,⟨i+1,rfl,rfl,rfl,Ir⟩,rfl,by rw [hst];simp (maxSteps:=2000000) (disch:=omega) only [go_sem]⟩
     ·have hx:¬ 0<=idx (ndP (at_ s i).ag) l:=by simpa using h
      clear h;have abE:=hal (-1);by_cases k3:(at_ s i).aj=3
      ·rw [Wg hx k3] at hle hst
       cases nd:(at_ s i).bD with
       | true =>
        cases e:ck Lib.itoa t (at0++[-1]) (at_ s i).aG with
        | true =>
         rw [nd,e,aY (b:=true && true) rfl] at hst
         (repeat' first|(with_reducible first|refine Z ?_|refine Y ?_|(refine hK _ _ ?_;clear hK K)|refine And.intro ?_ ?_|exact Ct|intro (K:_->_->Prop) hK|(refine gI fun hg=>?_;try simp only [hC,reduceCtorEq] at hg;try simp only [hg]))|(refine AW.i rfl (fun h=>?_) (fun h=>?_)<;>try simp only [hC,reduceCtorEq] at h)|((with_reducible refine E ?_;repeat refine Y ?_);refine eF rfl ?_)|simp (disch:=omega) only [go_sem,k3,nd,e]|(with_reducible intro hg;try simp only [hC,reduceCtorEq] at hg)|exact Cl|fail)
         exact ⟨_,[_],_,Ir,⟨i+1,rfl,rfl,rfl,Ir⟩,rfl,by rw [hst];simp (maxSteps:=2000000) (disch:=omega) only [go_sem]⟩
        | false =>
         rw [nd,e,bw (b:=true && false) rfl,List.append_nil] at hst
         (repeat' first|(with_reducible first|refine Z ?_|refine Y ?_|(refine hK _ _ ?_;clear hK K)|refine And.intro ?_ ?_|exact Ct|intro (K:_->_->Prop) hK|(refine gI fun hg=>?_;try simp only [hC,reduceCtorEq] at hg;try simp only [hg]))|(refine AW.i rfl (fun h=>?_) (fun h=>?_)<;>try simp only [hC,reduceCtorEq] at h)|((with_reducible refine E ?_;repeat refine Y ?_);refine eF rfl ?_)|simp (disch:=omega) only [go_sem,k3,nd,e]|(with_reducible intro hg;try simp only [hC,reduceCtorEq] at hg)|exact Cl|fail)
         exact ⟨_,[_],_,Ir,⟨i+1,rfl,rfl,rfl,Ir⟩,rfl,by rw [hst];simp (maxSteps:=2000000) (disch:=omega) only [go_sem]⟩
       | false =>
        rw [nd,Bool.false_and,bw (b:=false) rfl,List.append_nil] at hst
        (repeat' first|(with_reducible first|refine Z ?_|refine Y ?_|(refine hK _ _ ?_;clear hK K)|refine And.intro ?_ ?_|exact Ct|intro (K:_->_->Prop) hK|(refine gI fun hg=>?_;try simp only [hC,reduceCtorEq] at hg;try simp only [hg]))|(refine AW.i rfl (fun h=>?_) (fun h=>?_)<;>try simp only [hC,reduceCtorEq] at h)|((with_reducible refine E ?_;repeat refine Y ?_);refine eF rfl ?_)|simp (disch:=omega) only [go_sem,k3,nd]|(with_reducible intro hg;try simp only [hC,reduceCtorEq] at hg)|exact Cl|fail)
        exact ⟨_,[_],_,Ir,⟨i+1,rfl,rfl,rfl,Ir⟩,rfl,by rw [hst];simp (maxSteps:=2000000) (disch:=omega) only [go_sem]⟩
      ·by_cases k1:(at_ s i).aj=1
       ·rw [Wj hx k1] at hle hst
        cases pr:(at_ s i).aZ with
        | false =>
         cases e:ck Lib.itoa t (at0++[-1]) (at_ s i).aG with
         | true =>
          rw [pr,e,if_pos (show (!false && true)=true from rfl)] at hst hle
          (repeat' first|(with_reducible first|refine Z ?_|refine Y ?_|(refine hK _ _ ?_;clear hK K)|refine And.intro ?_ ?_|exact Ct|intro (K:_->_->Prop) hK|(refine gI fun hg=>?_;try simp only [hC,reduceCtorEq] at hg;try simp only [hg]))|(refine AW.i rfl (fun h=>?_) (fun h=>?_)<;>try simp only [hC,reduceCtorEq] at h)|((with_reducible refine E ?_;repeat refine Y ?_);refine eF rfl ?_)|simp (disch:=omega) only [go_sem,k3,k1,pr,e]|(with_reducible intro hg;try simp only [hC,reduceCtorEq] at hg)|exact Cl|fail)
          exact ⟨_,[_],_,Ir,⟨i+1,rfl,rfl,rfl,Ir⟩,rfl,by rw [hst];simp (maxSteps:=2000000) (disch:=omega) only [go_sem]⟩
         | false =>
          rw [pr,e,if_neg (show ¬ (!false && false)=true by simp),List.append_nil] at hst
          (repeat' first|(with_reducible first|refine Z ?_|refine Y ?_|(refine hK _ _ ?_;clear hK K)|refine And.intro ?_ ?_|exact Ct|intro (K:_->_->Prop) hK|(refine gI fun hg=>?_;try simp only [hC,reduceCtorEq] at hg;try simp only [hg]))|(refine AW.i rfl (fun h=>?_) (fun h=>?_)<;>try simp only [hC,reduceCtorEq] at h)|((with_reducible refine E ?_;repeat refine Y ?_);refine eF rfl ?_)|simp (disch:=omega) only [go_sem,k3,k1,pr,e]|(with_reducible intro hg;try simp only [hC,reduceCtorEq] at hg)|exact Cl|fail)
          exact ⟨_,[_],_,Ir,⟨i+1,rfl,rfl,rfl,Ir⟩,rfl,by rw [hst];simp (maxSteps:=2000000) (disch:=omega) only [go_sem]⟩
        | true =>
         rw [pr,if_neg (show ¬ (!true && ck Lib.itoa t (at0++[-1]) (at_ s i).aG)=true by simp),List.append_nil] at hst
         (repeat' first|(with_reducible first|refine Z ?_|refine Y ?_|(refine hK _ _ ?_;clear hK K)|refine And.intro ?_ ?_|exact Ct|intro (K:_->_->Prop) hK|(refine gI fun hg=>?_;try simp only [hC,reduceCtorEq] at hg;try simp only [hg]))|(refine AW.i rfl (fun h=>?_) (fun h=>?_)<;>try simp only [hC,reduceCtorEq] at h)|((with_reducible refine E ?_;repeat refine Y ?_);refine eF rfl ?_)|simp (disch:=omega) only [go_sem,k3,k1,pr]|(with_reducible intro hg;try simp only [hC,reduceCtorEq] at hg)|exact Cl|fail)
         exact ⟨_,[_],_,Ir,⟨i+1,rfl,rfl,rfl,Ir⟩,rfl,by rw [hst];simp (maxSteps:=2000000) (disch:=omega) only [go_sem]⟩
       ·rw [Wf h5 hr hx k3 k1,List.append_nil] at hst
        (repeat' first|(with_reducible first|refine Z ?_|refine Y ?_|(refine hK _ _ ?_;clear hK K)|refine And.intro ?_ ?_|exact Ct|intro (K:_->_->Prop) hK|(refine gI fun hg=>?_;try simp only [hC,reduceCtorEq] at hg;try simp only [hg]))|(refine AW.i rfl (fun h=>?_) (fun h=>?_)<;>try simp only [hC,reduceCtorEq] at h)|((with_reducible refine E ?_;repeat refine Y ?_);refine eF rfl ?_)|simp (disch:=omega) only [go_sem,k3,k1]|(with_reducible intro hg;try simp only [hC,reduceCtorEq] at hg)|exact Cl|fail)
        exact ⟨_,[_],_,Ir,⟨i+1,rfl,rfl,rfl,Ir⟩,rfl,by rw [hst];simp (maxSteps:=2000000) (disch:=omega) only [go_sem]⟩
  ·rw [xX (by simpa using h),hR]
   all_goals exact uU
end Go.Proofs
namespace Go.Dt
open Go Go.Ab
def NL{s:List ae}{l:List ah}(h:(iF s).1=0/\bV s l=true):oz s l=(fL Lib.itoa (gW (aW s+1) s l) (aW s+1) s [] [] (gW (aW s+1) s l)).map fF:=by rw [oz,if_pos h,JK,Lc,if_pos h]
def P6{s:List ae}{l:List ah}(h:(iF s).1=0/\bV s l=true):(fL Lib.itoa (gW (aW s+1) s l) (aW s+1) s [] [] (gW (aW s+1) s l)).length<=2214300:=by have h1:=JK Lib.itoa s l;rw [uS,if_pos h,Lc,if_pos h] at h1;rw [<- h1];exact CJ h.2
end Go.Dt
namespace Go.Proofs
open Go.Ab Go.Dt
set_option maxHeartbeats 1000000
attribute [local go_sem] aM dS CG JG NS NR aC aR dr dq iB
attribute [-instance] cK dh
theorem XU(s:List ae)(l:List ah)(ht:bV s l=false):iM lim prog 106 [.sl false 19 (s.map (aq false)),.sl false 3 (l.map (ak false))] (.tup [.sl false 3 [],.ac false]) (wtS s<=1048576/\wt l<=1048576) :=
 ⟨(aU 106),fun c=>by
  have h:Ctr lim prog 106 [] [.sl false 19 (s.map (aq false)),.sl false 3 (l.map (ak false))] (.tup [.sl true 3 [],.ac false]) [] (wtS s<=1048576/\wt l<=1048576):=by
   refine Ctr.bd func106 ntmps106 fun hp=>?_;have gOn:=aD.on;obtain ⟨h2,h3⟩:=hp;exact vP0 ht
  have:=(h.pure c).frz
  simpa only [AV.frz,AV.bg,cond_false,cond_true] using this⟩
theorem OZ(b:Nat)(t:List ah)(s:List ae):Ctr lim prog 107 [(b,some [.sl false 3 (t.map (ak false)),.sl true 3 []])] [.ptr b 0,.sl false 19 (s.map (aq false)),.sl false 3 (t.map (ak false)),.v (.slice none 0 0),.v (.slice none 0 0)] (.tup []) [some [.sl false 3 (t.map (ak false)),.sl true 3 ((fL Lib.itoa t (aW s+1) s [] [] t).map fW)]] (aW s<=8/\jG s/\aH s<=60/\cnt t<=7380/\(fL Lib.itoa t (aW s+1) s [] [] t).length<=2214300) :=
 ⟨(aU 107),fun h=>((xE (aW s+1) b t [] s [] [] t).En (args':=[.ptr b 0,.sl false 19 (s.map (aq false)),.sl false 3 (t.map (ak false)),.v (.slice none 0 0),.v (.slice none 0 0)]) fun F w=>au.ep (fun _ _ h=>h) (au.ep (fun _ _ h=>h) (au.ep (fun _ _ h=>h) (au.ep Rep.jf (au.ep Rep.jf fun _ _ h=>h))))).out ⟨Nat.lt_succ_self _,h.2.1,Ir,Ir,by simp;omega,by simp;omega,by simp;omega⟩⟩
instance aaj(s:List ae)(l:List ah):Ctr lim prog 67 [] [.sl false 19 (s.map (aq false)),.sl false 3 (l.map (ak false))] (.sl false 3 (oz s l)) [] (wtS s<=1048576/\wt l<=1048576):=by
 refine Ctr.bd func67 ntmps67 fun hp=>?_;have gOn:=aD.on;obtain ⟨h1,h2⟩:=hp
 cases ht:bV s l with
 | false =>
  rw [tK (by rw [ht];simp)];have kN:=XU s l ht;refine vK1 ?_;refine AW.e fun h=>?_
  ·refine vX1 ?_;refine AW.ret (EndsG.imp (Imp.frz 4 ?_));refine gS ?_;refine EndsG.fin rfl ?_;exact gO
 | true =>
  have hk:=E4 ht;obtain ⟨hg,hcs,hds⟩:=rJ hk;have hfe:CE s l=gW (aW s+1) s l:=by rw [CE,if_pos ht]
  have hfc:=zN ht;rw [JP ht] at hfc;have kF:=U1 s l;rw [hfe,ht] at kF;have kT:=fun b=>OZ b (gW (aW s+1) s l) s;by_cases hc:(iF s).1=0
  ·rw [NL ⟨hc,ht⟩];have hfl:=P6 ⟨hc,ht⟩;refine vK1 ?_;refine AW.c (fun h=>?_) fun h=>?_
   ·exfalso;grind
   ·refine vN1 ?_;refine Z ?_
    (refine vN1 ?_;intro h)
    rename Nat=>c
    refine Z ?_;refine vN1 ?_;refine AW.imp (Imp.dB (b:=c) (fq _ _ _) ?_);refine gS ?_;refine vX1 ?_;refine AW.ret (EndsG.imp (Imp.frz 4 ?_));refine gS ?_;refine EndsG.fin rfl ?_;exact gO
  ·rw [tK (fun e=>hc e.1)];refine vK1 ?_;refine AW.c (fun h=>?_) fun h=>?_
   ·refine vX1 ?_;refine AW.ret (EndsG.imp (Imp.frz 4 ?_));refine gS ?_;refine EndsG.fin rfl ?_;exact gO
   ·exfalso;grind
instance abZ(s:List ae)(l:List ah):Ctr lim prog 34 [] [.sl false 19 (s.map (aq false)),.sl false 3 (l.map (ak false))] (.ac (nW Lib.itoa s l)) [] (wtS s<=1048576/\wt l<=1048576):=by
 refine Ctr.bd func34 ntmps34 fun hp=>?_;have gOn:=aD.on
 have hv:=JJ s l;refine vU1 ?_;rw [EV];simp only [Int.natCast_eq_zero,fC]
end Go.Proofs
namespace Go.Dt
open Go Go.Ab
section
end
section
def wtZ(w:gJ):Bool:=!w.fOn && decide (w.ik=0) && decide (w.fBy=0) && w.ag.isEmpty && w.fT.isEmpty
def Ke(fmt:Int->Str)(s:List ae)(w:gJ):Bool:=wtZ w || w.fOn && decide (1<=w.fBy) && isText w.ag && nW fmt s w.fT
def nC(fmt:Int->Str)(x:gR):Bool:=decide ((iF x.bW).1=0) && nW fmt x.bW x.cY && bV x.bW x.fg && decide (0<=x.lK) && decide (x.dm.length<=6)
def AK(fmt:Int->Str)(s:List ae)(l:List eK):Bool:=l.all fun v=>nW fmt s v.ib
def qy(fmt:Int->Str)(x:gR):Bool:=nC fmt x && (AK fmt x.bW x.dm && Ke fmt x.bW x.cO)
def Qm(fmt:Int->Str)(x:bJ):Bool:=isName x.ag && qy fmt x.bH && nW fmt x.bH.bW x.mH && decide (0<=x.xY)
def Al(x:gR):Prop:=wtS x.bW<=1048576/\wt x.cY<=1048576/\wt x.fg<=1048576/\(∀ v∈x.dm,wt v.ib<=1048576)/\wt x.cO.fT<=1048576
def q4(x:bJ):Prop:=Al x.bH/\wt x.mH<=1048576
def Ma{x:gR}{r:Int}(h0:0<=r)(h1:r<=1048576)(h:0<=jR x r):Al x:=by
 unfold jR at h;obtain ⟨a,h⟩:=bQ h;obtain ⟨b,h⟩:=bQ h;obtain ⟨c,h⟩:=bQ h;obtain ⟨d,h⟩:=bQ h;obtain ⟨e,_⟩:=bQ h;have e1:=Rn h0 a
 have e2:=bu bY gz x.bW r h0
 have e3:=sV a b
 have e4:=bu bz cw x.cY _ a
 have e5:=sV b c
 have e6:=bu bz cw x.fg _ b
 have e7:=bu dO iR x.dm _ c;refine ⟨Ir,Ir,Ir,fun v hv=>?_,?_⟩
 ·obtain ⟨r',p,q,s⟩:=(yY dO iR x.dm _ c d).2 v hv;unfold dO at s;obtain ⟨s,_⟩:=bQ s;have:=sV p s;omega
 ·unfold lq at e;obtain ⟨f,e⟩:=bQ e;obtain ⟨e,_⟩:=bQ e;have:=sV f e
  have:=bE x.cO.ag _ d;omega
def zT{x:bJ}{r:Int}(h0:0<=r)(h1:r<=1048576)(h:0<=cD x r):q4 x:=by
 unfold cD at h;obtain ⟨a,h⟩:=bQ h;obtain ⟨b,h⟩:=bQ h;obtain ⟨c,_⟩:=bQ h;have e1:=bE x.ag r h0
 have e2:=pY x.bH _ a
 have e3:=sV b c;exact ⟨Ma a Ir b,Ir⟩
end
end Go.Dt
namespace Go.Proofs
open Go.Ab Go.Dt
set_option maxHeartbeats 1000000
attribute [local go_sem] aM aC aR
attribute [-instance] cK dh
instance ado(w:gJ):Ctr lim prog 74 [] [.agg [.ac w.fOn,.aa w.ik,.aa w.fBy,.str w.ag,.sl false 3 (w.fT.map (ak false))]] (.ac (wtZ w)) [] True:=by refine Ctr.bd func74 ntmps74 fun hp=>?_;have gOn:=aD.on;refine vU1 ?_;refine congrArg (fun b=>AV.ac b) ?_;rw [Bool.eq_iff_iff];simp [wtZ,List.isEmpty_iff]
instance aa0(x:gR):Ctr lim prog 37 [] [.agg (cSo x)] (.ac (qy Lib.itoa x)) [] (Al x):=by
 refine Ctr.bd func37 ntmps37 fun hp=>?_;have gOn:=aD.on;obtain ⟨h1,h2,h3,h4,h5⟩:=hp;refine AW.vz 0 rfl (xs:=x.dm.map (cl false)) (own:=false) (sz:=3) QC fun hf=>?_;simp (disch:=omega) only [go_sem] at hf
 (refine vU2 ?_ ?_<;>with_reducible repeat intro h)
 ·have hb:nC Lib.itoa x=false:=by
   rw [Bool.eq_false_iff];simp only [nC,ne_eq,Bool.and_eq_true,decide_eq_true_eq];grind
  rw [qy,hb];rfl
 have hb:nC Lib.itoa x=true:=by
  simp only [nC,Bool.and_eq_true,decide_eq_true_eq];grind
 rw [qy,hb,Bool.true_and];clear hb h;refine AW.aw [46] [1,44,45] (fun m xs o=>∃ k:Nat,xs=[.aa k]/\o=[]/\m=x.dm.length - k/\k<=x.dm.length/\∀ v∈x.dm.take k,(!nW Lib.itoa x.bW v.ib)=false) x.dm.length [] trivial ⟨0,rfl,rfl,rfl,Nat.zero_le _,QC⟩ ?_;rintro m xs o ⟨k,rfl,rfl,rfl,hk,hR⟩;have hwt:k<x.dm.length->wt (at_ x.dm k).ib<=1048576:=fun h=>h4 _ (at_mem h);refine vK1 ?_;refine AW.c (fun h=>?_) fun h=>?_
 ·have hk1:k<x.dm.length:=by simpa using h
  have hw1:=hwt hk1;clear h hwt
  (refine vU2 ?_ ?_<;>with_reducible repeat intro h)
  ·rw [show AK Lib.itoa x.bW x.dm=false from eQ hk1 h]<;>rfl
  ·exact ⟨_,[_],[],Ir,⟨k+1,rfl,rfl,rfl,Ir,aL (p:=fun v:eK=>!nW Lib.itoa x.bW v.ib) hk1 hR (by rw [h];rfl)⟩,rfl,trivial⟩
 ·have hp1:AK Lib.itoa x.bW x.dm=true:=cM (by simpa using h) hR;rw [hp1,Bool.true_and];clear h hwt
  (refine vU1 ?_;intro h)
  all_goals first|rfl|(refine congrArg (fun b=>AV.ac b) ?_;rw [Bool.eq_iff_iff];simp [Ke,wtZ,h,List.isEmpty_iff])
instance Z8(x:gR):Ctr lim prog 33 [] [.agg (cSo x)] (.ac (qy Lib.itoa x)) [] (Al x):=by
 refine Ctr.bd func33 ntmps33 fun hp=>?_;have gOn:=aD.on;obtain ⟨h1,h2,h3,h4,h5⟩:=hp;refine AW.vz 0 rfl (xs:=x.dm.map (cl false)) (own:=false) (sz:=3) QC fun hf=>?_;simp (disch:=omega) only [go_sem] at hf
 (refine vU2 ?_ ?_<;>with_reducible repeat intro h)
 ·have hb:nC Lib.itoa x=false:=by
   rw [Bool.eq_false_iff];simp only [nC,ne_eq,Bool.and_eq_true,decide_eq_true_eq];grind
  rw [qy,hb];rfl
 have hb:nC Lib.itoa x=true:=by
  simp only [nC,Bool.and_eq_true,decide_eq_true_eq];grind
 rw [qy,hb,Bool.true_and];clear hb h;refine AW.aw [5] [1] (fun m xs o=>∃ k:Nat,xs=[.aa k]/\o=[]/\m=x.dm.length - k/\k<=x.dm.length/\∀ v∈x.dm.take k,(!nW Lib.itoa x.bW v.ib)=false) x.dm.length [] trivial ⟨0,rfl,rfl,rfl,Nat.zero_le _,QC⟩ ?_;rintro m xs o ⟨k,rfl,rfl,rfl,hk,hR⟩;have hwt:k<x.dm.length->wt (at_ x.dm k).ib<=1048576:=fun h=>h4 _ (at_mem h);refine vK1 ?_;refine AW.c (fun h=>?_) fun h=>?_
 ·have hk1:k<x.dm.length:=by simpa using h
  have hw1:=hwt hk1;clear h hwt
  (refine vU2 ?_ ?_<;>with_reducible repeat intro h)
  ·rw [show AK Lib.itoa x.bW x.dm=false from eQ hk1 h]<;>rfl
  ·exact ⟨_,[_],[],Ir,⟨k+1,rfl,rfl,rfl,Ir,aL (p:=fun v:eK=>!nW Lib.itoa x.bW v.ib) hk1 hR (by rw [h];rfl)⟩,rfl,trivial⟩
 ·have hp1:AK Lib.itoa x.bW x.dm=true:=cM (by simpa using h) hR;rw [hp1,Bool.true_and];clear h hwt
  (refine vU2 ?_ ?_<;>with_reducible repeat intro h)
  all_goals first|rfl|(refine congrArg (fun b=>AV.ac b) ?_;rw [Bool.eq_iff_iff];simp [Ke,wtZ,h,List.isEmpty_iff])
instance adx(x:bJ):Ctr lim prog 10 [] [.agg (cDe x)] (.ac (Qm Lib.itoa x)) [] (q4 x):=by refine Ctr.bd func10 ntmps10 fun hp=>?_;have gOn:=aD.on;obtain ⟨hs,hb⟩:=hp;have hsw:=hs;obtain ⟨h1,h2,h3,h4,h5⟩:=hs;refine vU1 ?_;rfl
instance ac4(x:bJ):Ctr lim prog 8 [] [.agg (cDe x)] (.ac (Qm Lib.itoa x)) [] (q4 x):=by refine Ctr.bd func8 ntmps8 fun hp=>?_;have gOn:=aD.on;obtain ⟨hs,hb⟩:=hp;have hsw:=hs;obtain ⟨h1,h2,h3,h4,h5⟩:=hs;refine vU1 ?_;rfl
end Go.Proofs
namespace Go.Ab
def wvL{A0 A1 A2 A3 A4 A5 A6 A7 A8 A9 A10 A11 G:Prop}(h:Wk A0 A1 A2 A3 A4 A5 A6 A7 A8 A9 A10 A11 G:=by
 constructor
 ·intro r0 r1 r2 r3 r4 r5 r6 r7 r8 r9 r10 r11 m
  (repeat' first|(with_reducible first|(refine X fun hg=>?_)|refine Z ?_|refine Y ?_|(refine hK _ _ ?_;try clear hK K)|refine And.intro ?_ ?_|exact Ct|intro (K:_->_->Prop) hK|(refine gI fun hg=>?_;try simp only [hC,reduceCtorEq] at hg;try simp only [hg]))|(refine AW.i rfl (fun hg=>?_) (fun hg=>?_)<;>try simp only [hC,reduceCtorEq] at hg)|((with_reducible refine E ?_;repeat refine Y ?_);refine eF rfl ?_)|simp (maxSteps:=2000000) (disch:=omega) only [go_sem]|(with_reducible intro hg;try simp only [hC,reduceCtorEq] at hg)|exact Cl|fail)
  all_goals (repeat' first|(with_reducible refine mkE ?_;with_reducible first|exact r0.r|exact r1.r|exact r2.r|exact r3.r|exact r4.r|exact r5.r|exact r6.r|exact r7.r|exact r8.r|exact r9.r|exact r10.r|exact r11.r)|revert ‹_›)
 all_goals first|exact Sl.d|exact Sl.x _):Wk A0 A1 A2 A3 A4 A5 A6 A7 A8 A9 A10 A11 G:=h
def vL{A0 A1 A2 A3 A4 A5 A6 A7 A8 A9 A10 A11 G:Prop}(r:(Lf A0 (Lf A1 (Lf A2 (Lf A3 (Lf A4 (Lf A5 (Lf A6 (Lf A7 (Lf A8 (Lf A9 (Lf A10 (Lf A11 Le)))))))))))))(h:Wk A0 A1 A2 A3 A4 A5 A6 A7 A8 A9 A10 A11 G:=by exact wvL):G:=h.go r
def vL0{G:Prop}(h:W0 G:=by exact wvL):G:=h.g0
def vL2{A B G:Prop}(a:A)(b:B)(h:W2 A B G:=by exact wvL):G:=h.g2 a b
end Go.Ab
namespace Go.Ab
open Go.Dt
def rp{P:Program}{W:World}{name:String}{k:IntKind}{zs:List Int}{g:Nat}{t e:TypeId}{n:Nat}
  (hg:P.globalNamed name=some g) (hty:(P.globals[g]?).map (·.type)=some t) (ht:P.underlying t=some (.array n e)) (he:P.underlying e=some (.int k)) (hce:P.cellsOf e=1) (hct:P.cellsOf t=n) :
  ∀ {l:List (String×DataW Unit)} {ps:List MemPlace},(name,Lib.tabData k zs)∈l->DataW.LaidVars P W l ps->Lib.TabIs P W name k zs
 | [],_,hm,_=>by cases hm
 | (nm,d)::r,ps,hm,h=>by
  obtain ⟨g',t',cs,fuel,p,q,hg',ht',hvar,hd,hr,_⟩:=h;rcases List.mem_cons.1 hm with e1|hm
  ·obtain ⟨rfl,rfl⟩:=Prod.mk.inj e1;obtain rfl:=Option.some.inj (hg.symm.trans hg');obtain rfl:=Option.some.inj (hty.symm.trans ht');unfold Lib.TabIs;rw [hvar,<- Lib.cells_of_tab ht he hce hct hd]
  ·exact rp hg hty ht he hce hct hm hr
def zy{P:Program}{os:Os}{laid:List (String×DataW Unit)}(args:Array Value)(hp:(laid.all fun x=>x.2.handleName?.isNone)=true)
  (hf:(World.holding P os ⟨#[],#[],[]⟩).layFits P laid []=true)
  (hi:(World.holding P os ⟨#[],#[],[]⟩).layIfaces P laid (World.laidAll P os laid)=true) :
  laidMetH P laid ((World.laidAll P os laid).forCall (fun _ _=>0) ⟨#[],args,[]⟩).memory:=by
 rw [MakeChecks.laidMetH_plain _ _ _ hp];exact laidMet_laidAll args hf hi
end Go.Ab
