/- Part of a proof. -/
import Derived.Test.YtpelkkfkecfmbaaGreatDoorH41
set_option linter.all false
set_option maxRecDepth 20000
set_option maxHeartbeats 4000000
open Go.Proofs.Tryz
namespace Go.Dt
open Go Go.Ab
def nV(j:Nat):AV:=.v (.int .i64 (j:Int))
@[go_sem] def ad3(j:Nat):nV j=.aa (j:Int):=rfl
def P5(l:List Nat):AV.bg (l.map nV)=l.map nV:=fK _ _ (fun _=>rfl) l
def SB(l:List Nat):(l.map nV).all (AV.elem 1)=true:=bL (fun _=>rfl) l
def SA(l:List Nat):((l.map nV).flatMap AV.cells).all AV.one=true:=cf (fun _=>rfl) l
def UE(l:List Nat)(k:Nat):(l.map nV).take k=(l.take k).map nV:=List.map_take.symm
def plN(nm:Str)(l:List ah)(i:Nat):List Nat:=plF (fun j=>ndP nm (at_ l j)) i
def BZ{nm:Str}{l:List ah}{i:Nat}(h:i=l.length):plN nm l i=cJ nm l:=by rw [h];rfl
def I9{nm:Str}{l:List ah}{i:Nat}(h:ndP nm (at_ l i)=true):plN nm l (i+1)=plN nm l i++[i]:=by rw [plN,zb,if_pos h];rfl
def ME{nm:Str}{l:List ah}{i:Nat}(h:ndP nm (at_ l i)=false):plN nm l (i+1)=plN nm l i:=by rw [plN,zb,if_neg (by rw [h];simp),List.append_nil];rfl
def FI(nm:Str)(l:List ah)(i:Nat):(plN nm l i).length<=i:=by rw [plN,plF];exact Nat.le_trans (List.length_filter_le _ _) QC
def Sc{nm:Str}{l:List ah}{k:Nat}(h:k<(cJ nm l).length):at_ (cJ nm l) k<l.length:=by have:=at_mem h;rw [cJ,List.mem_filter] at this;exact List.mem_range.1 this.1
def Sb{nm:Str}{l:List ah}{j:Nat}(h:j∈cJ nm l):j<l.length:=by rw [cJ,List.mem_filter] at h;exact List.mem_range.1 h.1
def FH(nm:Str)(l:List ah):(cJ nm l).length<=l.length:=by have:=FI nm l l.length;rwa [BZ rfl] at this
end Go.Dt
namespace Go.Proofs
open Go.Ab Go.Dt
set_option maxHeartbeats 1000000
attribute [local go_sem] aM dS P5 SB SA UE aC aR dr dq iB
attribute [-instance] cK dh
instance adq(n:ae)(l:List ah)(i j:Nat):Ctr lim prog 206 [] [.aa j,.vp (cSc n),.vp [.sl false 3 (l.map (ak false))],.vp [.aa i]] (.ac (iC n (at_ l j) (at_ l i))) [] (i<l.length/\j<l.length):=by
 refine Ctr.bd func206 ntmps206 fun hp=>?_;have gOn:=aD.on;obtain ⟨hi,hj⟩:=hp
 all_goals exact uU
instance adj(n:ae)(l:List ah)(i:Nat)(ps:List Nat):Ctr lim prog 248 [] [.sl false 1 (ps.map nV),.fn 206 [.vp (cSc n),.vp [.sl false 3 (l.map (ak false))],.vp [.aa i]]] (.aa (idx (fun j=>iC n (at_ l j) (at_ l i)) ps)) [] (i<l.length/\∀ j∈ps,j<l.length):=by
 refine Ctr.bd func248 ntmps248 fun hp=>?_;have gOn:=aD.on;obtain ⟨hi,hj⟩:=hp;refine AW.f1 0 fun hf=>?_;refine vU1 ?_;refine AW.aw [8] [0,1,7] (fun m xs o=>∃ k:Nat,xs=[.aa k]/\o=[]/\m=ps.length - k/\k<=ps.length/\∀ x∈ps.take k,iC n (at_ l x) (at_ l i)=false) ps.length [] trivial ⟨0,?_,rfl,rfl,?_,?_⟩ ?_
 ·rfl
 ·omega
 ·simp
 rintro m xs o ⟨k,rfl,rfl,rfl,hk,hR⟩;have hat:k<ps.length->at_ ps k<l.length:=fun h=>hj _ (at_mem h)
 (refine vU3 ?_ ?_ ?_<;>with_reducible repeat intro h)
 ·rw [gV (p:=fun j=>iC n (at_ l j) (at_ l i)) yG hR h]
 ·exact ⟨_,[_],[],Ir,⟨k+1,rfl,rfl,rfl,Ir,aL (p:=fun j=>iC n (at_ l j) (at_ l i)) yG hR h⟩,rfl,trivial⟩
 ·rw [jo h hR]
instance adE(n:ae)(l:List ah)(i:Nat)(ps:List Nat):Ctr lim prog 205 [] [.sl false 1 (ps.map nV),.fn 206 [.vp (cSc n),.vp [.sl false 3 (l.map (ak false))],.vp [.aa i]]] (.ac (ps.any fun j=>iC n (at_ l j) (at_ l i))) [] (i<l.length/\∀ j∈ps,j<l.length):=by
 refine Ctr.bd func205 ntmps205 fun hp=>?_;have gOn:=aD.on;obtain ⟨hi,hj⟩:=hp
 (refine vU2 ?_ ?_<;>with_reducible repeat intro h)
 ·exact hj _ h
 ·rw [ym]
theorem Th(f:Nat)(kK:∀ (b:Nat) (t:List ah) (fs:List bB) (s:List ae) (names:List Str) (at0:List Int) (l:List ah),Ctr lim prog 115 [(b,some [.sl false 3 (t.map (ak false)),.sl true 3 (fs.map fW)])] [.ptr b 0,.sl false 19 (s.map (aq false)),.sl false 1 (names.map AV.str),.sl false 1 (at0.map iV),.sl false 3 (l.map (ak false))] (.tup []) [some [.sl false 3 (t.map (ak false)),.sl true 3 ((fs++gu Lib.itoa t f s names at0 l).map fW)]] (aW s<f/\jG s/\aH s<=1048576/\cnt t<=1048576/\names.length+aW s<=900/\at0.length+aW s<=900/\fs.length+(gu Lib.itoa t f s names at0 l).length<=1073741800))
  (b:Nat) (t:List ah) (fs:List bB) (n:ae) (nm:List Str) (at0:List Int) (l:List ah):Ctr lim prog 163 [(b,some [.sl false 3 (t.map (ak false)),.sl true 3 (fs.map fW)])] [.ptr b 0,.agg (cSc n),.sl false 1 (nm.map AV.str),.sl false 1 (at0.map iV),.sl false 3 (l.map (ak false))] (.tup []) [some [.sl false 3 (t.map (ak false)),.sl true 3 ((fs++uT Lib.itoa t f n nm at0 l).map fW)]] (aW n.af<f/\((n.aG.all fj=true/\n.bO.all fj=true/\n.fType.az.length<=40)/\jG n.af)/\aH n.af<=1048576/\cnt t<=1048576/\nm.length+aW n.af<=900/\at0.length+1+aW n.af<=900/\fs.length+(uT Lib.itoa t f n nm at0 l).length<=1073741800):=by
 refine Ctr.bd func163 ntmps163 fun hp=>?_;have gOn:=aD.on;obtain ⟨hd,⟨⟨hw,hmu,hpt⟩,hg⟩,hcs,hct,hn,ha,hfs⟩:=hp
 have hR:fs++mS Lib.itoa t f n nm at0 l++fmR (qQ Lib.itoa t f n nm at0 l) (cJ n.ag l).length=fs++uT Lib.itoa t f n nm at0 l:=by
  rw [uT];simp only [List.append_assoc]
 rw [uT,List.length_append] at hfs;generalize fs++uT Lib.itoa t f n nm at0 l=R at *;refine AW.f1 4 fun hf=>?_;refine vN1 ?_;refine Z ?_;refine vN1 ?_;refine Z ?_;refine vN1 ?_;refine AW.imp (Imp.frz 10 ?_);refine gS ?_;refine vK1 ?_;refine AW.aw [11,23] [0,2,3,6,9,10,21,22] (fun m xs o=>∃ i:Nat,xs=[.sl true 1 ((plN n.ag l i).map nV),.aa i]/\o=[(b,some [.sl false 3 (t.map (ak false)),.sl true 3 (fs.map fW)])]/\m=l.length - i/\i<=l.length) l.length [(b,some [.sl false 3 (t.map (ak false)),.sl true 3 (fs.map fW)])] gO ⟨0,rfl,rfl,rfl,Nat.zero_le _⟩ ?_;rintro m xs o ⟨i,rfl,rfl,rfl,hi⟩;have hpl:=FI n.ag l i;refine vK1 ?_;refine AW.c (fun h=>?_) fun h=>?_
 ·have hi1:=h
  (refine vU2 ?_ ?_<;>with_reducible repeat intro h)
  ·exact ⟨_,[_,_],_,Ir,⟨i+1,by rw [I9 (by rw [ndP];first|exact h|simpa using h),List.map_append];rfl,rfl,rfl,Ir⟩,rfl,gO⟩
  ·exact ⟨_,[_,_],_,Ir,⟨i+1,by rw [ME (by rw [ndP];first|exact h|simpa using h)],rfl,rfl,Ir⟩,rfl,gO⟩
 have hpe:plN n.ag l i=cJ n.ag l:=BZ Ir;rw [hpe];have hpn:=FH n.ag l;clear hpl hpe;refine AW.imp (Imp.frz 11 ?_);refine gS ?_
 haveI stop:∀ (ops:Array Oper) (c:Code) (t:daa) (o:Sto) (Q:Exit->AS->Prop),Rz (AW lim prog (.seq (.region 10 ops false) c) ⟨165,t,o⟩ Q) (MV 0 (p:=⟨AW lim prog (.seq (.region 10 ops false) c) ⟨165,t,o⟩ Q⟩)):=fun _ _ _ _ _=>⟨fun h=>h⟩
 refine vK1 ?_;refine uV 0 ?_;clear stop;have kZ:=fun (fs:List bB) (s:List ae) (names:List Str) (at0:List Int)=>(kK b t fs s names at0 []).En (args':=[.ptr b 0,.sl false 19 (s.map (aq false)),.sl false 1 (names.map AV.str),.sl false 1 (at0.map iV),.v (.slice none 0 0)]) fun F w=>au.ep (fun _ _ h=>h) (au.ep (fun _ _ h=>h) (au.ep (fun _ _ h=>h) (au.ep (fun _ _ h=>h) (au.ep Rep.jf fun _ _ h=>h))));refine AW.jL [0,2,3,6,9,11] (fun _:Unit=>[(0,.ptr b 0),(2,.sl false 1 (nm.map AV.str)),(3,.sl false 1 (at0.map iV)),(6,.vp (cSc n)),(9,.vp [.sl false 3 (l.map (ak false))]),(11,.sl false 1 ((cJ n.ag l).map nV))]) (fun _=>[(b,some [.sl false 3 (t.map (ak false)),.sl true 3 ((fs++mS Lib.itoa t f n nm at0 l).map fW)])]) (fun _=>True) ?_ ?_
 ·by_cases k3:n.aj=3
  ·have e:mS Lib.itoa t f n nm at0 l=flt (decide ((cJ n.ag l).length=0) && n.bD && ck Lib.itoa t (at0++[-1]) n.aG) 2 nm at0:=by rw [mS,if_pos k3]
   (repeat' first|(with_reducible first|refine Z ?_|refine Y ?_|(refine hK _ _ ?_;clear hK K)|refine And.intro ?_ ?_|exact Ct|intro (K:_->_->Prop) hK|(refine gI fun hg=>?_;try simp only [hC,reduceCtorEq] at hg;try simp only [hg]))|(refine AW.i rfl (fun h=>?_) (fun h=>?_)<;>try simp only [hC,reduceCtorEq] at h)|((with_reducible refine E ?_;repeat refine Y ?_);refine eF rfl ?_)|simp (disch:=omega) only [go_sem,k3]|(with_reducible intro hg;try simp only [hC,reduceCtorEq] at hg)|exact Cl|fail)
   all_goals (refine Imp.id (.inl ⟨(),rfl,?_⟩);simp (maxSteps:=2000000) (disch:=omega) only [go_sem];rw [e];clear hR kZ kK hfs hpn hf;first|(first|(rw [aY];rotate_left;(simp only [Bool.and_eq_true,Bool.or_eq_true,Bool.not_eq_true',decide_eq_true_eq,decide_eq_false_iff_not];grind);simp;done)|(rw [bw];rotate_left;(rw [Bool.eq_false_iff];simp only [ne_eq,Bool.and_eq_true,Bool.or_eq_true,Bool.not_eq_true',decide_eq_true_eq,decide_eq_false_iff_not];grind);simp;done)|(rw [aY];rotate_left;(simp only [Bool.and_eq_true,Bool.or_eq_true,Bool.not_eq_true',decide_eq_true_eq,decide_eq_false_iff_not];grind);done)|(rw [bw];rotate_left;(rw [Bool.eq_false_iff];simp only [ne_eq,Bool.and_eq_true,Bool.or_eq_true,Bool.not_eq_true',decide_eq_true_eq,decide_eq_false_iff_not];grind);done))|(constructor;(simp only [hg]);(first|(rw [aY];rotate_left;(simp only [Bool.and_eq_true,Bool.or_eq_true,Bool.not_eq_true',decide_eq_true_eq,decide_eq_false_iff_not];grind);simp;done)|(rw [bw];rotate_left;(rw [Bool.eq_false_iff];simp only [ne_eq,Bool.and_eq_true,Bool.or_eq_true,Bool.not_eq_true',decide_eq_true_eq,decide_eq_false_iff_not];grind);simp;done)|(rw [aY];rotate_left;(simp only [Bool.and_eq_true,Bool.or_eq_true,Bool.not_eq_true',decide_eq_true_eq,decide_eq_false_iff_not];grind);done)|(rw [bw];rotate_left;(rw [Bool.eq_false_iff];simp only [ne_eq,Bool.and_eq_true,Bool.or_eq_true,Bool.not_eq_true',decide_eq_true_eq,decide_eq_false_iff_not];grind);done))))
  ·by_cases k24:n.aj=2\/n.aj=4
   ·have e:mS Lib.itoa t f n nm at0 l=flt (decide (((cJ n.ag l).length:Int)<n.eJ) && ck Lib.itoa t (at0++[-1]) n.aG || !decide (n.dU=0) && decide (n.dU<((cJ n.ag l).length:Int))) 4 nm at0:=by rw [mS,if_neg k3,if_pos k24]
    rcases k24 with k2|k4
    ·cases c1:decide (((cJ n.ag l).length:Int)<n.eJ) with
     | true =>
      (repeat' first|(with_reducible first|refine Z ?_|refine Y ?_|(refine hK _ _ ?_;clear hK K)|refine And.intro ?_ ?_|exact Ct|intro (K:_->_->Prop) hK|(refine gI fun hg=>?_;try simp only [hC,reduceCtorEq] at hg;try simp only [hg]))|(refine AW.i rfl (fun h=>?_) (fun h=>?_)<;>try simp only [hC,reduceCtorEq] at h)|((with_reducible refine E ?_;repeat refine Y ?_);refine eF rfl ?_)|simp (disch:=omega) only [go_sem,k2,c1]|(with_reducible intro hg;try simp only [hC,reduceCtorEq] at hg)|exact Cl|fail)
      all_goals (refine Imp.id (.inl ⟨(),rfl,?_⟩);simp (maxSteps:=2000000) (disch:=omega) only [go_sem];rw [e];clear hR kZ kK hfs hpn hf;first|(first|(rw [aY];rotate_left;(simp only [Bool.and_eq_true,Bool.or_eq_true,Bool.not_eq_true',decide_eq_true_eq,decide_eq_false_iff_not];grind);simp;done)|(rw [bw];rotate_left;(rw [Bool.eq_false_iff];simp only [ne_eq,Bool.and_eq_true,Bool.or_eq_true,Bool.not_eq_true',decide_eq_true_eq,decide_eq_false_iff_not];grind);simp;done)|(rw [aY];rotate_left;(simp only [Bool.and_eq_true,Bool.or_eq_true,Bool.not_eq_true',decide_eq_true_eq,decide_eq_false_iff_not];grind);done)|(rw [bw];rotate_left;(rw [Bool.eq_false_iff];simp only [ne_eq,Bool.and_eq_true,Bool.or_eq_true,Bool.not_eq_true',decide_eq_true_eq,decide_eq_false_iff_not];grind);done))|(constructor;(simp only [hg]);(first|(rw [aY];rotate_left;(simp only [Bool.and_eq_true,Bool.or_eq_true,Bool.not_eq_true',decide_eq_true_eq,decide_eq_false_iff_not];grind);simp;done)|(rw [bw];rotate_left;(rw [Bool.eq_false_iff];simp only [ne_eq,Bool.and_eq_true,Bool.or_eq_true,Bool.not_eq_true',decide_eq_true_eq,decide_eq_false_iff_not];grind);simp;done)|(rw [aY];rotate_left;(simp only [Bool.and_eq_true,Bool.or_eq_true,Bool.not_eq_true',decide_eq_true_eq,decide_eq_false_iff_not];grind);done)|(rw [bw];rotate_left;(rw [Bool.eq_false_iff];simp only [ne_eq,Bool.and_eq_true,Bool.or_eq_true,Bool.not_eq_true',decide_eq_true_eq,decide_eq_false_iff_not];grind);done))))
     | false =>
      (repeat' first|(with_reducible first|refine Z ?_|refine Y ?_|(refine hK _ _ ?_;clear hK K)|refine And.intro ?_ ?_|exact Ct|intro (K:_->_->Prop) hK|(refine gI fun hg=>?_;try simp only [hC,reduceCtorEq] at hg;try simp only [hg]))|(refine AW.i rfl (fun h=>?_) (fun h=>?_)<;>try simp only [hC,reduceCtorEq] at h)|((with_reducible refine E ?_;repeat refine Y ?_);refine eF rfl ?_)|simp (disch:=omega) only [go_sem,k2,c1]|(with_reducible intro hg;try simp only [hC,reduceCtorEq] at hg)|exact Cl|fail)
      all_goals (refine Imp.id (.inl ⟨(),rfl,?_⟩);simp (maxSteps:=2000000) (disch:=omega) only [go_sem];rw [e];clear hR kZ kK hfs hpn hf;first|(first|(rw [aY];rotate_left;(simp only [Bool.and_eq_true,Bool.or_eq_true,Bool.not_eq_true',decide_eq_true_eq,decide_eq_false_iff_not];grind);simp;done)|(rw [bw];rotate_left;(rw [Bool.eq_false_iff];simp only [ne_eq,Bool.and_eq_true,Bool.or_eq_true,Bool.not_eq_true',decide_eq_true_eq,decide_eq_false_iff_not];grind);simp;done)|(rw [aY];rotate_left;(simp only [Bool.and_eq_true,Bool.or_eq_true,Bool.not_eq_true',decide_eq_true_eq,decide_eq_false_iff_not];grind);done)|(rw [bw];rotate_left;(rw [Bool.eq_false_iff];simp only [ne_eq,Bool.and_eq_true,Bool.or_eq_true,Bool.not_eq_true',decide_eq_true_eq,decide_eq_false_iff_not];grind);done))|(constructor;(simp only [hg]);(first|(rw [aY];rotate_left;(simp only [Bool.and_eq_true,Bool.or_eq_true,Bool.not_eq_true',decide_eq_true_eq,decide_eq_false_iff_not];grind);simp;done)|(rw [bw];rotate_left;(rw [Bool.eq_false_iff];simp only [ne_eq,Bool.and_eq_true,Bool.or_eq_true,Bool.not_eq_true',decide_eq_true_eq,decide_eq_false_iff_not];grind);simp;done)|(rw [aY];rotate_left;(simp only [Bool.and_eq_true,Bool.or_eq_true,Bool.not_eq_true',decide_eq_true_eq,decide_eq_false_iff_not];grind);done)|(rw [bw];rotate_left;(rw [Bool.eq_false_iff];simp only [ne_eq,Bool.and_eq_true,Bool.or_eq_true,Bool.not_eq_true',decide_eq_true_eq,decide_eq_false_iff_not];grind);done))))
    ·cases c1:decide (((cJ n.ag l).length:Int)<n.eJ) with
     | true =>
      (repeat' first|(with_reducible first|refine Z ?_|refine Y ?_|(refine hK _ _ ?_;clear hK K)|refine And.intro ?_ ?_|exact Ct|intro (K:_->_->Prop) hK|(refine gI fun hg=>?_;try simp only [hC,reduceCtorEq] at hg;try simp only [hg]))|(refine AW.i rfl (fun h=>?_) (fun h=>?_)<;>try simp only [hC,reduceCtorEq] at h)|((with_reducible refine E ?_;repeat refine Y ?_);refine eF rfl ?_)|simp (disch:=omega) only [go_sem,k4,c1]|(with_reducible intro hg;try simp only [hC,reduceCtorEq] at hg)|exact Cl|fail)
      all_goals (refine Imp.id (.inl ⟨(),rfl,?_⟩);simp (maxSteps:=2000000) (disch:=omega) only [go_sem];rw [e];clear hR kZ kK hfs hpn hf;first|(first|(rw [aY];rotate_left;(simp only [Bool.and_eq_true,Bool.or_eq_true,Bool.not_eq_true',decide_eq_true_eq,decide_eq_false_iff_not];grind);simp;done)|(rw [bw];rotate_left;(rw [Bool.eq_false_iff];simp only [ne_eq,Bool.and_eq_true,Bool.or_eq_true,Bool.not_eq_true',decide_eq_true_eq,decide_eq_false_iff_not];grind);simp;done)|(rw [aY];rotate_left;(simp only [Bool.and_eq_true,Bool.or_eq_true,Bool.not_eq_true',decide_eq_true_eq,decide_eq_false_iff_not];grind);done)|(rw [bw];rotate_left;(rw [Bool.eq_false_iff];simp only [ne_eq,Bool.and_eq_true,Bool.or_eq_true,Bool.not_eq_true',decide_eq_true_eq,decide_eq_false_iff_not];grind);done))|(constructor;(simp only [hg]);(first|(rw [aY];rotate_left;(simp only [Bool.and_eq_true,Bool.or_eq_true,Bool.not_eq_true',decide_eq_true_eq,decide_eq_false_iff_not];grind);simp;done)|(rw [bw];rotate_left;(rw [Bool.eq_false_iff];simp only [ne_eq,Bool.and_eq_true,Bool.or_eq_true,Bool.not_eq_true',decide_eq_true_eq,decide_eq_false_iff_not];grind);simp;done)|(rw [aY];rotate_left;(simp only [Bool.and_eq_true,Bool.or_eq_true,Bool.not_eq_true',decide_eq_true_eq,decide_eq_false_iff_not];grind);done)|(rw [bw];rotate_left;(rw [Bool.eq_false_iff];simp only [ne_eq,Bool.and_eq_true,Bool.or_eq_true,Bool.not_eq_true',decide_eq_true_eq,decide_eq_false_iff_not];grind);done))))
     | false =>
      (repeat' first|(with_reducible first|refine Z ?_|refine Y ?_|(refine hK _ _ ?_;clear hK K)|refine And.intro ?_ ?_|exact Ct|intro (K:_->_->Prop) hK|(refine gI fun hg=>?_;try simp only [hC,reduceCtorEq] at hg;try simp only [hg]))|(refine AW.i rfl (fun h=>?_) (fun h=>?_)<;>try simp only [hC,reduceCtorEq] at h)|((with_reducible refine E ?_;repeat refine Y ?_);refine eF rfl ?_)|simp (disch:=omega) only [go_sem,k4,c1]|(with_reducible intro hg;try simp only [hC,reduceCtorEq] at hg)|exact Cl|fail)
      all_goals (refine Imp.id (.inl ⟨(),rfl,?_⟩);simp (maxSteps:=2000000) (disch:=omega) only [go_sem];rw [e];clear hR kZ kK hfs hpn hf;first|(first|(rw [aY];rotate_left;(simp only [Bool.and_eq_true,Bool.or_eq_true,Bool.not_eq_true',decide_eq_true_eq,decide_eq_false_iff_not];grind);simp;done)|(rw [bw];rotate_left;(rw [Bool.eq_false_iff];simp only [ne_eq,Bool.and_eq_true,Bool.or_eq_true,Bool.not_eq_true',decide_eq_true_eq,decide_eq_false_iff_not];grind);simp;done)|(rw [aY];rotate_left;(simp only [Bool.and_eq_true,Bool.or_eq_true,Bool.not_eq_true',decide_eq_true_eq,decide_eq_false_iff_not];grind);done)|(rw [bw];rotate_left;(rw [Bool.eq_false_iff];simp only [ne_eq,Bool.and_eq_true,Bool.or_eq_true,Bool.not_eq_true',decide_eq_true_eq,decide_eq_false_iff_not];grind);done))|(constructor;(simp only [hg]);(first|(rw [aY];rotate_left;(simp only [Bool.and_eq_true,Bool.or_eq_true,Bool.not_eq_true',decide_eq_true_eq,decide_eq_false_iff_not];grind);simp;done)|(rw [bw];rotate_left;(rw [Bool.eq_false_iff];simp only [ne_eq,Bool.and_eq_true,Bool.or_eq_true,Bool.not_eq_true',decide_eq_true_eq,decide_eq_false_iff_not];grind);simp;done)|(rw [aY];rotate_left;(simp only [Bool.and_eq_true,Bool.or_eq_true,Bool.not_eq_true',decide_eq_true_eq,decide_eq_false_iff_not];grind);done)|(rw [bw];rotate_left;(rw [Bool.eq_false_iff];simp only [ne_eq,Bool.and_eq_true,Bool.or_eq_true,Bool.not_eq_true',decide_eq_true_eq,decide_eq_false_iff_not];grind);done))))
   ·by_cases k1:n.aj=1
    ·have e:mS Lib.itoa t f n nm at0 l=if (decide ((cJ n.ag l).length=0) && !n.aZ && ck Lib.itoa t (at0++[-1]) n.aG)=true then gu Lib.itoa t f n.af nm (at0++[-1]) [] else []:=by rw [mS,if_neg k3,if_neg k24,if_pos k1]
     have hpre:(↑(cJ n.ag l).length:Int)=0->n.aZ=false->ck Lib.itoa t (at0++[-1]) n.aG=true->fs.length+(gu Lib.itoa t f n.af nm (at0++[-1]) []).length<=1073741800:=fun a1 a2 a3=>by
      rw [e,if_pos (by simp only [Bool.and_eq_true,Bool.or_eq_true,Bool.not_eq_true',decide_eq_true_eq,decide_eq_false_iff_not];exact ⟨⟨Ir,a2⟩,a3⟩)] at hfs;omega
     (repeat' first|(with_reducible first|refine Z ?_|refine Y ?_|(refine hK _ _ ?_;clear hK K)|refine And.intro ?_ ?_|exact Ct|intro (K:_->_->Prop) hK|(refine gI fun hg=>?_;try simp only [hC,reduceCtorEq] at hg;try simp only [hg]))|(refine AW.i rfl (fun h=>?_) (fun h=>?_)<;>try simp only [hC,reduceCtorEq] at h)|((with_reducible refine E ?_;repeat refine Y ?_);refine eF rfl ?_)|simp (disch:=omega) only [go_sem,k1]|(with_reducible intro hg;try simp only [hC,reduceCtorEq] at hg)|exact Cl|fail)
     ·exact hpre hg.1 hg.2 h
     all_goals (refine Imp.id (.inl ⟨(),rfl,?_⟩);simp (maxSteps:=2000000) (disch:=omega) only [go_sem];rw [e];clear hR kZ kK hfs hpn hf hpre;first|(first|(rw [if_pos];rotate_left;(simp only [Bool.and_eq_true,Bool.or_eq_true,Bool.not_eq_true',decide_eq_true_eq,decide_eq_false_iff_not];grind);done)|(rw [if_neg];rotate_left;(simp only [Bool.and_eq_true,Bool.or_eq_true,Bool.not_eq_true',decide_eq_true_eq,decide_eq_false_iff_not];grind);simp;done))|(constructor;(simp only [hg]);(first|(rw [if_pos];rotate_left;(simp only [Bool.and_eq_true,Bool.or_eq_true,Bool.not_eq_true',decide_eq_true_eq,decide_eq_false_iff_not];grind);done)|(rw [if_neg];rotate_left;(simp only [Bool.and_eq_true,Bool.or_eq_true,Bool.not_eq_true',decide_eq_true_eq,decide_eq_false_iff_not];grind);simp;done))))
    ·have e:mS Lib.itoa t f n nm at0 l=[]:=by rw [mS,if_neg k3,if_neg k24,if_neg k1]
     have k2:¬ n.aj=2:=fun h=>k24 (.inl h)
     have k4:¬ n.aj=4:=fun h=>k24 (.inr h)
     (repeat' first|(with_reducible first|refine Z ?_|refine Y ?_|(refine hK _ _ ?_;clear hK K)|refine And.intro ?_ ?_|exact Ct|intro (K:_->_->Prop) hK|(refine gI fun hg=>?_;try simp only [hC,reduceCtorEq] at hg;try simp only [hg]))|(refine AW.i rfl (fun h=>?_) (fun h=>?_)<;>try simp only [hC,reduceCtorEq] at h)|((with_reducible refine E ?_;repeat refine Y ?_);refine eF rfl ?_)|simp (disch:=omega) only [go_sem,k1,k2,k3,k4]|(with_reducible intro hg;try simp only [hC,reduceCtorEq] at hg)|exact Cl|fail)
     all_goals (refine Imp.id (.inl ⟨(),rfl,?_⟩);refine gS ?_;rw [e];simp)
 intro _ _;have abv:(fs++mS Lib.itoa t f n nm at0 l).length+(fmR (qQ Lib.itoa t f n nm at0 l) (cJ n.ag l).length).length<=1073741800:=by rw [List.length_append];omega
 clear hfs;generalize fs++mS Lib.itoa t f n nm at0 l=fs1 at *;refine vK1 ?_;refine AW.aw [114] [0,2,3,6,9,11,112,113] (fun m xs o=>∃ k:Nat,xs=[.aa k]/\o=[(b,some [.sl false 3 (t.map (ak false)),.sl true 3 ((fs1++fmR (qQ Lib.itoa t f n nm at0 l) k).map fW)])]/\m=(cJ n.ag l).length - k/\k<=(cJ n.ag l).length) (cJ n.ag l).length [(b,some [.sl false 3 (t.map (ak false)),.sl true 3 (fs1.map fW)])] gO ⟨0,rfl,by rw [GV,List.append_nil],rfl,Nat.zero_le _⟩ ?_;rintro m xs o ⟨k,rfl,rfl,rfl,hk⟩;refine vK1 ?_;refine AW.c (fun h=>?_) fun h=>?_
 ·have hk1:k<(cJ n.ag l).length:=by simpa using h
  clear h;have hpi:=Sc hk1
  have hle:=NJ (g:=qQ Lib.itoa t f n nm at0 l) hk1
  have hst:fmR (qQ Lib.itoa t f n nm at0 l) (k+1)=_:=uR
  have hth:=xB Lib.itoa t n nm (at0++[((at_ (cJ n.ag l) k:Nat):Int)]) (at_ l (at_ (cJ n.ag l) k))
  have hmem:∀ j∈(cJ n.ag l).take k,j<l.length:=fun j hj=>Sb (List.mem_of_mem_take hj);rw [qQ] at hst hle;simp only [List.length_append] at hle;refine vN1 ?_;refine Z ?_
  (refine vN1 ?_;intro h h)
  rename Nat=>bi
  refine AW.imp (Imp.vpO 16 (b:=bi) (off:=0) (cells:=[.aa (at_ (cJ n.ag l) k:Nat)]) gO gO rfl ?_);refine vN1 ?_;refine Z ?_;refine vN1 ?_;refine AW.imp (Imp.frz 17 ?_);refine gS ?_;generalize at_ (cJ n.ag l) k=p at *;have hpl:(at0++[(p:Int)]).length=at0.length+1:=by simp
  have hp1:(fs1++fmR (qQ Lib.itoa t f n nm at0 l) k).length<=1073741800:=by rw [List.length_append];omega
  have hp2:(fs1++fmR (qQ Lib.itoa t f n nm at0 l) k++ij Lib.itoa t n nm (at0++[(p:Int)]) (at_ l p)).length<=1073741810:=by rw [List.length_append];omega
  haveI z25:=fun (ops:Array Oper) (c:Code) (t:daa) (o:Sto) (Q:Exit->AS->Prop)=>(⟨AW.v8 [130]⟩:Rz (AW lim prog (.seq (.region 25 ops true) c) ⟨165,t,o⟩ Q) _)
  haveI aeo:=fun (ops:Array Oper) (t:daa) (o:Sto) (Q:Exit->AS->Prop)=>(⟨AW.oN [130]⟩:Rz (AW lim prog (.region 25 ops true) ⟨165,t,o⟩ Q) _)
  haveI z29:=fun (ops:Array Oper) (t:daa) (o:Sto) (Q:Exit->AS->Prop)=>(⟨AW.oN [163]⟩:Rz (AW lim prog (.region 29 ops true) ⟨165,t,o⟩ Q) _)
  (refine vK2 ?_ ?_<;>with_reducible repeat intro h)
  ·exact hmem _ yG
  ·skip
   by_cases k2:n.aj=2
   ·rw [if_pos (.inr k2)] at hst hle
    cases a:(List.take k (cJ n.ag l)).any fun j=>iC n (at_ l j) (at_ l p) with
    | true =>
     rw [aY (by rw [a,decide_eq_true k2];rfl)] at hst hle;simp only [List.length_singleton] at hle
     (repeat' first|(with_reducible first|refine Z ?_|refine Y ?_|(refine hK _ _ ?_;clear hK K)|refine And.intro ?_ ?_|exact Ct|intro (K:_->_->Prop) hK|(refine gI fun hg=>?_;try simp only [hC,reduceCtorEq] at hg;try simp only [hg]))|(refine AW.i rfl (fun h=>?_) (fun h=>?_)<;>try simp only [hC,reduceCtorEq] at h)|((with_reducible refine E ?_;repeat refine Y ?_);refine eF rfl ?_)|simp (disch:=omega) only [go_sem,k2,a]|(with_reducible intro hg;try simp only [hC,reduceCtorEq] at hg)|exact Cl|fail)
     exact ⟨_,[_],_,Ir,⟨k+1,rfl,rfl,rfl,Ir⟩,rfl,by rw [hst];simp (maxSteps:=2000000) (disch:=omega) only [go_sem]⟩
    | false =>
     rw [bw (by rw [a,Bool.and_false])] at hst hle;simp only [List.length_nil] at hle
     (repeat' first|(with_reducible first|refine Z ?_|refine Y ?_|(refine hK _ _ ?_;clear hK K)|refine And.intro ?_ ?_|exact Ct|intro (K:_->_->Prop) hK|(refine gI fun hg=>?_;try simp only [hC,reduceCtorEq] at hg;try simp only [hg]))|(refine AW.i rfl (fun h=>?_) (fun h=>?_)<;>try simp only [hC,reduceCtorEq] at h)|((with_reducible refine E ?_;repeat refine Y ?_);refine eF rfl ?_)|simp (disch:=omega) only [go_sem,k2,a]|(with_reducible intro hg;try simp only [hC,reduceCtorEq] at hg)|exact Cl|fail)
     exact ⟨_,[_],_,Ir,⟨k+1,rfl,rfl,rfl,Ir⟩,rfl,by rw [hst];simp (maxSteps:=2000000) (disch:=omega) only [go_sem]⟩
   ·rw [bw (by rw [decide_eq_false k2,Bool.false_and])] at hst hle;simp only [List.length_nil] at hle;by_cases k1:n.aj=1
    ·rw [if_pos (.inl k1)] at hst hle
     (repeat' first|(with_reducible first|refine Z ?_|refine Y ?_|(refine hK _ _ ?_;clear hK K)|refine And.intro ?_ ?_|exact Ct|intro (K:_->_->Prop) hK|(refine gI fun hg=>?_;try simp only [hC,reduceCtorEq] at hg;try simp only [hg]))|(refine AW.i rfl (fun h=>?_) (fun h=>?_)<;>try simp only [hC,reduceCtorEq] at h)|((with_reducible refine E ?_;repeat refine Y ?_);refine eF rfl ?_)|simp (disch:=omega) only [go_sem,k1]|(with_reducible intro hg;try simp only [hC,reduceCtorEq] at hg)|exact Cl|fail)
     exact ⟨_,[_],_,Ir,⟨k+1,rfl,rfl,rfl,Ir⟩,rfl,by rw [hst];simp (maxSteps:=2000000) (disch:=omega) only [go_sem]⟩
    ·rw [if_neg (by rintro (h|h)<;>contradiction)] at hst hle
     (repeat' first|(with_reducible first|refine Z ?_|refine Y ?_|(refine hK _ _ ?_;clear hK K)|refine And.intro ?_ ?_|exact Ct|intro (K:_->_->Prop) hK|(refine gI fun hg=>?_;try simp only [hC,reduceCtorEq] at hg;try simp only [hg]))|(refine AW.i rfl (fun h=>?_) (fun h=>?_)<;>try simp only [hC,reduceCtorEq] at h)|((with_reducible refine E ?_;repeat refine Y ?_);refine eF rfl ?_)|simp (disch:=omega) only [go_sem,k1,k2]|(with_reducible intro hg;try simp only [hC,reduceCtorEq] at hg)|exact Cl|fail)
     exact ⟨_,[_],_,Ir,⟨k+1,rfl,rfl,rfl,Ir⟩,rfl,by rw [hst];simp (maxSteps:=2000000) (disch:=omega) only [go_sem]⟩
 ·rw [show k=(cJ n.ag l).length by have:¬ k<(cJ n.ag l).length:=(by simpa using h);omega,hR]
  all_goals exact uU
end Go.Proofs
namespace Go.Dt
open Go Go.Ab
def Ws{fmt:Int->Str}{t:List ah}{f:Nat}{names:List Str}{at0:List Int}{l:List ah}{n:ae}(h:n.aj=5):pN fmt t f names at0 l n=uW fmt t f n names at0 l:=by rw [pN,if_pos h]
def Wr{fmt:Int->Str}{t:List ah}{f:Nat}{names:List Str}{at0:List Int}{l:List ah}{n:ae}(h:¬ n.aj=5):pN fmt t f names at0 l n=uT fmt t f n (names++[n.ag]) at0 l:=by rw [pN,if_neg h]
end Go.Dt
namespace Go.Proofs
open Go.Ab Go.Dt
set_option maxHeartbeats 1000000
attribute [local go_sem] aM dS aC aR dr dq iB
attribute [-instance] cK dh
theorem PN(at0:List Str)(nm:Str):Ctr lim prog 153 [] [.sl false 1 (at0.map AV.str),.str nm] (.sl true 1 ((at0++[nm]).map AV.str)) [] (at0.length<=1000):=by refine Ctr.bd func153 ntmps153 fun hp=>?_;refine vU1 ?_;rw [List.map_append];rfl
theorem Cy:∀ (f:Nat) (b:Nat) (t:List ah) (fs:List bB) (s:List ae) (names:List Str) (at0:List Int) (l:List ah),Ctr lim prog 115 [(b,some [.sl false 3 (t.map (ak false)),.sl true 3 (fs.map fW)])] [.ptr b 0,.sl false 19 (s.map (aq false)),.sl false 1 (names.map AV.str),.sl false 1 (at0.map iV),.sl false 3 (l.map (ak false))] (.tup []) [some [.sl false 3 (t.map (ak false)),.sl true 3 ((fs++gu Lib.itoa t f s names at0 l).map fW)]] (aW s<f/\jG s/\aH s<=1048576/\cnt t<=1048576/\names.length+aW s<=900/\at0.length+aW s<=900/\fs.length+(gu Lib.itoa t f s names at0 l).length<=1073741800)
 | 0,b,t,fs,s,names,at0,l=>⟨(aU 115),fun h=>absurd h.1 (Nat.not_lt_zero _)⟩
 | f+1,b,t,fs,s,names,at0,l=>by
  have kC:=NA f (Cy f)
  have kD:=Th f (Cy f);refine Ctr.bd func115 ntmps115 fun hp=>?_;have gOn:=aD.on;obtain ⟨hd,hg,hcs,hct,hn,ha,hfs⟩:=hp;rw [CK] at hfs;have hR:fs++s.flatMap (pN Lib.itoa t f names at0 l)=fs++gu Lib.itoa t (f+1) s names at0 l:=by rw [CK]
  generalize fs++gu Lib.itoa t (f+1) s names at0 l=R at *;refine AW.f1 1 fun hf=>?_;refine vK1 ?_;refine AW.aw [14] [0,2,3,4,12,13] (fun m xs o=>∃ i:Nat,xs=[.aa i]/\o=[(b,some [.sl false 3 (t.map (ak false)),.sl true 3 ((fs++fmT (pN Lib.itoa t f names at0 l) s i).map fW)])]/\m=s.length - i/\i<=s.length) s.length [(b,some [.sl false 3 (t.map (ak false)),.sl true 3 (fs.map fW)])] gO ⟨0,rfl,by rw [uQ,List.append_nil],rfl,Nat.zero_le _⟩ ?_;rintro m xs o ⟨i,rfl,rfl,rfl,hi⟩;refine vK1 ?_;refine AW.c (fun h=>?_) fun h=>?_
  ·have hi1:i<s.length:=by simpa using h
   clear h;obtain ⟨⟨hk1,hk2,hk3⟩,hk4⟩:=qf hg (at_mem hi1);have hkd:=mW (at_mem hi1)
   have hkc:=jc (at_mem hi1)
   have hle:=Bt (g:=pN Lib.itoa t f names at0 l) hi1
   have hst:=qP (g:=pN Lib.itoa t f names at0 l) hi1
   have hnl:(names++[(at_ s i).ag]).length=names.length+1:=by simp
   have hfl:(fs++fmT (pN Lib.itoa t f names at0 l) s i).length=fs.length+(fmT (pN Lib.itoa t f names at0 l) s i).length:=List.length_append
   haveI z5:=fun (ops:Array Oper) (t:daa) (o:Sto) (Q:Exit->AS->Prop)=>(⟨AW.oN [35]⟩:Rz (AW lim prog (.region 5 ops true) ⟨37,t,o⟩ Q) _)
   have sB:=PN names (at_ s i).ag
   (refine vK1 ?_;intro h h)
   refine AW.c (fun h=>?_) fun h=>?_
   ·rw [Ws h] at hle hst;refine vU1 ?_;exact ⟨_,[_],_,Ir,⟨i+1,rfl,rfl,rfl,Ir⟩,rfl,by rw [hst];simp (maxSteps:=2000000) (disch:=omega) only [go_sem]⟩
   ·rw [Wr h] at hle hst;refine vU1 ?_;exact ⟨_,[_],_,Ir,⟨i+1,rfl,rfl,rfl,Ir⟩,rfl,by rw [hst];simp (maxSteps:=2000000) (disch:=omega) only [go_sem]⟩
  ·rw [xX (by simpa using h),hR]
   all_goals exact uU
end Go.Proofs
namespace Go.Proofs
open Go.Ab Go.Dt
attribute [local go_sem] aM aC dr dq iB gC sX List.length_take jU
attribute [-instance] cK dh
instance aba(l:List ae):Ctr lim prog 72 [] [.sl false 19 (l.map (aq false))] (.tup [.aa (iF l).1,.sl false 1 ((iF l).2.map AV.str)]) [] (wtS l<=1048576):=by
 refine Ctr.bd func72 ntmps72 fun hp=>?_;have gOn:=aD.on;refine vK1 ?_;refine AW.c (fun h=>?_) fun h=>?_
 ·have e:iF l=(1,[]):=by rw [iF,if_neg (by rw [h];simp)]
  rw [e];refine vX1 ?_;refine AW.ret (EndsG.imp (Imp.frz 3 ?_));refine gS ?_;refine EndsG.fin rfl ?_;exact gO
 ·have e:iF l=Dt.fB l l []:=by rw [iF,if_pos h]
  obtain ⟨h1,h2,h3⟩:=rJ h;have h4:=th h
  have h5:([]:List Str).length=0:=rfl;rw [e];refine vX1 ?_;refine AW.ret (EndsG.imp (Imp.frz 3 ?_));refine gS ?_;refine EndsG.fin rfl ?_;exact gO
instance Zi(l:List ae):Ctr lim prog 64 [] [.sl false 19 (l.map (aq false))] (.tup [.aa (iF l).1,.sl false 1 ((iF l).2.map AV.str)]) [] (wtS l<=1048576):=by
 refine Ctr.bd func64 ntmps64 fun hp=>?_;have gOn:=aD.on;refine vK1 ?_;refine AW.c (fun h=>?_) fun h=>?_
 ·have e:iF l=(1,[]):=by rw [iF,if_neg (by rw [h];simp)]
  rw [e];refine vX1 ?_;refine AW.ret (EndsG.imp (Imp.frz 3 ?_));refine gS ?_;refine EndsG.fin rfl ?_;exact gO
 ·have e:iF l=Dt.fB l l []:=by rw [iF,if_pos h]
  obtain ⟨h1,h2,h3⟩:=rJ h;have h4:=th h
  have h5:([]:List Str).length=0:=rfl;rw [e];refine vN1 ?_;refine Z ?_;refine vN1 ?_;refine AW.f1 5 fun hf=>?_;refine vX1 ?_;refine AW.ret (EndsG.imp (Imp.frz 3 ?_));refine gS ?_;refine EndsG.fin rfl ?_;exact gO
end Go.Proofs
namespace Go.Dt
open Go Go.Ab
def oz(s:List ae)(l:List ah):List AV:=if (iF s).1=0/\bV s l=true then (uS Lib.itoa s l).map fF else [.agg [.v (.int .i64 1),.v (.slice none 0 0),.v (.slice none 0 0)]]
def GW{s:List ae}{l:List ah}(h:(iF s).1=0/\bV s l=true):oz s l=(gu Lib.itoa (lJ s l) (aW s+1) s [] [] (lJ s l)).map fF:=by rw [oz,if_pos h,uS,if_pos h]
def tK{s:List ae}{l:List ah}(h:¬ ((iF s).1=0/\bV s l=true)):oz s l=[.agg [.aa 1,.v (.slice none 0 0),.v (.slice none 0 0)]]:=by rw [oz,if_neg h]
def P7(s:List ae)(l:List ah):(oz s l).length=(uS Lib.itoa s l).length:=by
 by_cases h:(iF s).1=0/\bV s l=true
 ·rw [oz,if_pos h,List.length_map]
 ·rw [oz,if_neg h,uS,if_neg h]<;>rfl
def JJ(s:List ae)(l:List ah):(oz s l).length<=2214300:=by
 by_cases h:(iF s).1=0/\bV s l=true
 ·rw [GW h,List.length_map];exact CJ h.2
 ·rw [tK h];simp
def EV(s:List ae)(l:List ah):nW Lib.itoa s l=decide ((oz s l).length=0):=by rw [P7,nW];cases uS Lib.itoa s l<;>simp
def E4{s:List ae}{l:List ah}(h:bV s l=true):fX s=true:=by simp only [bV,Bool.and_eq_true] at h;exact h.1.1
end Go.Dt
namespace Go.Proofs
open Go.Ab Go.Dt
set_option maxHeartbeats 1000000
attribute [local go_sem] aM dS CG JG NS NR aC aR dr dq iB
attribute [-instance] cK dh
theorem Yo(s:List ae)(l:List ah)(ht:bV s l=false):iM lim prog 114 [.sl false 19 (s.map (aq false)),.sl false 3 (l.map (ak false))] (.tup [.sl false 3 [],.ac false]) (wtS s<=1048576/\wt l<=1048576) :=
 ⟨(aU 114),fun c=>by
  have h:Ctr lim prog 114 [] [.sl false 19 (s.map (aq false)),.sl false 3 (l.map (ak false))] (.tup [.sl false 3 [],.ac false]) [] (wtS s<=1048576/\wt l<=1048576):=by
   refine Ctr.bd func114 ntmps114 fun hp=>?_;have gOn:=aD.on;obtain ⟨h2,h3⟩:=hp
   (refine vQ1 ht ?_;with_reducible repeat first|intro (K:_->_->Prop) hK|intro h)
   refine AW.e fun h=>?_;refine vX1 ?_;refine AW.ret (EndsG.imp (Imp.frz 4 ?_));refine gS ?_;refine EndsG.fin rfl ?_;exact gO
  have:=(h.pure c).frz
  simpa only [AV.frz,AV.bg,cond_false] using this⟩
theorem PM(b:Nat)(t:List ah)(s:List ae):Ctr lim prog 115 [(b,some [.sl false 3 (t.map (ak false)),.sl true 3 []])] [.ptr b 0,.sl false 19 (s.map (aq false)),.v (.slice none 0 0),.v (.slice none 0 0),.sl false 3 (t.map (ak false))] (.tup []) [some [.sl false 3 (t.map (ak false)),.sl true 3 ((gu Lib.itoa t (aW s+1) s [] [] t).map fW)]] (aW s<=8/\jG s/\aH s<=60/\cnt t<=7380/\(gu Lib.itoa t (aW s+1) s [] [] t).length<=2214300) :=
 ⟨(aU 115),fun h=>((Cy (aW s+1) b t [] s [] [] t).En (args':=[.ptr b 0,.sl false 19 (s.map (aq false)),.v (.slice none 0 0),.v (.slice none 0 0),.sl false 3 (t.map (ak false))]) fun F w=>au.ep (fun _ _ h=>h) (au.ep (fun _ _ h=>h) (au.ep Rep.jf (au.ep Rep.jf fun _ _ h=>h)))).out ⟨Nat.lt_succ_self _,h.2.1,Ir,Ir,by simp;omega,by simp;omega,by simp;omega⟩⟩
instance aa9(s:List ae)(l:List ah):Ctr lim prog 76 [] [.sl false 19 (s.map (aq false)),.sl false 3 (l.map (ak false))] (.sl false 3 (oz s l)) [] (wtS s<=1048576/\wt l<=1048576):=by
 refine Ctr.bd func76 ntmps76 fun hp=>?_;have gOn:=aD.on;obtain ⟨h1,h2⟩:=hp
 cases ht:bV s l with
 | false =>
  rw [tK (by rw [ht];simp)];have kN:=Yo s l ht;refine vK1 ?_;refine AW.e fun h=>?_
  ·refine vX1 ?_;refine AW.ret (EndsG.imp (Imp.frz 4 ?_));refine gS ?_;refine EndsG.fin rfl ?_;exact gO
 | true =>
  have hk:=E4 ht;obtain ⟨hg,hcs,hds⟩:=rJ hk;have hfe:CF s l=lJ s l:=by rw [CF,if_pos ht]
  have hfc:=zN ht
  have hfl:=CJ (fmt:=Lib.itoa) ht
  have kF:=VX s l;rw [hfe,ht] at kF;have kT:=fun b=>PM b (lJ s l) s;by_cases hc:(iF s).1=0
  ·rw [GW ⟨hc,ht⟩];refine vK1 ?_;refine AW.c (fun h=>?_) fun h=>?_
   ·exfalso;grind
   ·refine vN1 ?_;refine Z ?_
    (refine vN1 ?_;intro h)
    rename Nat=>c
    refine AW.imp (Imp.nG (b:=c) 3 [_] [] (fq _ _ _) ?_);refine gS ?_;refine vN1 ?_;refine Z ?_;refine vN1 ?_;refine AW.imp (Imp.dB (b:=c) (fq _ _ _) ?_);refine gS ?_;refine vX1 ?_;refine AW.ret (EndsG.imp (Imp.frz 4 ?_));refine gS ?_;refine EndsG.fin rfl ?_;exact gO
  ·rw [tK (fun e=>hc e.1)];refine vK1 ?_;refine AW.c (fun h=>?_) fun h=>?_
   ·refine vX1 ?_;refine AW.ret (EndsG.imp (Imp.frz 4 ?_));refine gS ?_;refine EndsG.fin rfl ?_;exact gO
   ·exfalso;grind
instance acu(s:List ae)(l:List ah):Ctr lim prog 38 [] [.sl false 19 (s.map (aq false)),.sl false 3 (l.map (ak false))] (.ac (nW Lib.itoa s l)) [] (wtS s<=1048576/\wt l<=1048576):=by
 refine Ctr.bd func38 ntmps38 fun hp=>?_;have gOn:=aD.on
 have hv:=JJ s l;refine vU1 ?_;rw [EV];simp only [Int.natCast_eq_zero,fC]
end Go.Proofs
namespace Go.Dt
open Go Go.Ab
section
variable (fmt : Int -> Str) (t : List ah)
def rm(n:ae)(l:List ah):Nat:=(n.af.filter fun k=>hasB k.af l).length
def sN(f:Nat)(names:List Str)(at0:List Int)(l:List ah)(k:ae):List bB :=
 if hasB k.af l=true then flt (!ck fmt t at0 k.aG) 6 names at0++fL fmt t f k.af names at0 l else []
def Wl(n:ae)(names:List Str)(at0:List Int)(l:List ah):List bB :=
 flt (decide (0<rm n l) && !ck fmt t at0 n.aG) 6 names at0++flt (decide (1<rm n l)) 3 names at0++flt (decide (rm n l=0) && n.bD && ck fmt t at0 n.aG) 2 names at0
def wW(f:Nat)(n:ae)(names:List Str)(at0:List Int)(l:List ah):List bB :=
 Wl fmt t n names at0 l++n.af.flatMap (sN fmt t f names at0 l)
def j4(f:Nat)(n:ae)(nm:List Str)(at0:List Int)(l:List ah)(i:Nat):List bB :=
 if ndP n.ag (at_ l i)=true then
  ij fmt t n nm (at0++[(i:Int)]) (at_ l i) ++
  flt ((plF (fun j=>ndP n.ag (at_ l j)) i).any fun j=>iC n (at_ l j) (at_ l i)) 5 nm (at0++[(i:Int)]) ++
  (if n.aj=2 then fL fmt t f n.af nm (at0++[(i:Int)]) (at_ l i).af else []) else []
def zJ(f:Nat)(n:ae)(nm:List Str)(at0:List Int)(l:List ah):List bB :=
 flt (decide (((cJ n.ag l).length:Int)<n.eJ) && ck fmt t (at0++[-1]) n.aG || decide (0<n.dU) && decide (n.dU<((cJ n.ag l).length:Int))) 4 nm at0 ++
 fmR (j4 fmt t f n nm at0 l) l.length
def j3(f:Nat)(names:List Str)(at0:List Int)(l:List ah)(n:ae):List bB :=
 if n.aj=5 then wW fmt t f n names at0 l
 else if n.aj=2\/n.aj=4 then zJ fmt t f n (names++[n.ag]) at0 l
 else if 0<=idx (ndP n.ag) l then
  ij fmt t n (names++[n.ag]) (at0++[((idx (ndP n.ag) l).toNat:Int)]) (at_ l (idx (ndP n.ag) l).toNat) ++
  fL fmt t f n.af (names++[n.ag]) (at0++[((idx (ndP n.ag) l).toNat:Int)]) (at_ l (idx (ndP n.ag) l).toNat).af
 else if n.aj=3 then flt (n.bD && ck fmt t (at0++[-1]) n.aG) 2 (names++[n.ag]) at0
 else if n.aj=1 then (if (!n.aZ && ck fmt t (at0++[-1]) n.aG)=true then fL fmt t f n.af (names++[n.ag]) (at0++[-1]) [] else [])
 else []
theorem JM(f:Nat)(s:List ae)(names:List Str)(at0:List Int)(l:List ah):fL fmt t (f+1) s names at0 l=s.flatMap (j3 fmt t f names at0 l):=rfl
end
def Sg(p q:Nat->Bool)(i:Nat):(plF p i).any q=(List.range i).any fun j=>p j && q j:=by rw [plF,List.any_filter]
end Go.Dt
