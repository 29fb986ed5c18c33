/- Part of a proof. -/
import Derived.Test.YtbiikafnjialjaaGreatDoorG30
set_option linter.all false
set_option maxRecDepth 20000
set_option maxHeartbeats 4000000
namespace Go.Proofs
open Go.Ab Go.Dt
section
attribute [local go_sem] dF cM lN lM FW
theorem Fa:∀ (n:Nat) (l:List ae) (kind:Int) (bd:Bool),Ctr lim Tryz.prog 195 [] [.sl false 19 (l.map (aq false)),.v (.int .i64 kind),.v (.bool bd)] (.v (.bool (kR l kind bd))) [] (SizeOf.sizeOf l<n/\wtS l<=1048576)
 | 0,l,_,_=>⟨(aW 195),fun h=>absurd h.1 (Nat.not_lt_zero _)⟩
 | n+1,l,kind,bd=>by
  have ih:=Fa n
  refine Ctr.bd Tryz.func195 Tryz.ntmps195 rfl rfl fun hp=>?_
  have gOn:=cY.on
  obtain ⟨hs,hb⟩:=hp
  have hc:=lC l
  refine AW.fact 0 fun hf=>?_
  simp (disch:=omega) only [go_sem] at hf
  (refine vK ?_;with_reducible repeat' first|exact Le.l|apply Sw|intro h)
  (refine AW.i rfl (fun h=>?_) (fun h=>?_)<;>try simp only [hC,reduceCtorEq] at h)
  ·(refine vU ?_;with_reducible repeat' first|exact Le.l|apply Sw|intro h)
   refine congrArg (fun b=>AV.v (.bool b)) ?_
   rw [kR,lT];grind
  (refine vK ?_;with_reducible repeat' first|exact Le.l|apply Sw|intro h)
  have hd:lT l kind=true:=by rw [lT];grind
  clear h
  refine AW.aw [38] [0,1,2,36,37] (fun m xs o=>∃ k:Nat,xs=[.v (.int .i64 k)]/\o=[]/\m=l.length - k/\k<=l.length/\kA (l.drop k) kind bd=kA l kind bd) l.length [] trivial ⟨0,?_,rfl,rfl,?_,rfl⟩ ?_
  ·rfl
  ·omega
  rintro m xs o ⟨k,rfl,rfl,rfl,hk,hR⟩
  (refine vK ?_;with_reducible repeat' first|exact Le.l|apply Sw|intro h)
  (refine AW.i rfl (fun h=>?_) (fun h=>?_)<;>try simp only [hC,reduceCtorEq] at h)
  ·have hw:=yN (at_mem h)
   have hsz:=ae.dM (at_mem h)
   have hlk:=h
   clear h
   (refine vK ?_;with_reducible repeat' first|exact Le.l|apply Sw|intro h)
   (refine AW.i rfl (fun h=>?_) (fun h=>?_)<;>try simp only [hC,reduceCtorEq] at h)
   ·(refine vU ?_;with_reducible repeat' first|exact Le.l|apply Sw|intro h)
    rw [Bz hlk hR (Oj (by grind))]
   have ho:(lQ (at_ l k) && !decide ((at_ l k).ai=7) && (decide ((at_ l k).ai=6) == decide (kind=5)) && !((at_ l k).cn && bd))=true:=by grind
   clear h
   (refine vK ?_;with_reducible repeat' first|exact Le.l|apply Sw|intro h)
   rename Nat=>b
   refine AW.fact 66 fun Uk=>?_
   simp (disch:=omega) only [go_sem] at Uk
   refine AW.aw [68] [0,1,2,8,36,37,38,66,67] (fun m xs o=>∃ j:Nat,xs=[.v (.int .i64 j)]/\o=[(b,some (cSc (at_ l k)))]/\m=(at_ l k).aD.length - j/\j<=(at_ l k).aD.length/\∀ y∈(at_ l k).aD.take j,(!pE (at_ l k).ag y)=false) (at_ l k).aD.length [(b,some (cSc (at_ l k)))] gO ⟨0,rfl,rfl,rfl,by omega,by simp⟩ ?_
   rintro m xs o ⟨j,rfl,rfl,rfl,hj,hS⟩
   (refine vK ?_;with_reducible repeat' first|exact Le.l|apply Sw|intro h)
   (refine AW.i rfl (fun h=>?_) (fun h=>?_)<;>try simp only [hC,reduceCtorEq] at h)
   ·by_cases hq:0<=idx (fV (at_ (at_ l k).aD j)) (at_ l k).ag
    ·haveI:=AG (at_ l k).ag (at_ (at_ l k).aD j)
     (refine vU ?_;with_reducible repeat' first|exact Le.l|apply Sw|intro h)
     ·rw [Bz hlk hR (EY (by assumption) (by rw [pE,zg,jd];grind))]
     ·exact ⟨_,[_],_,by omega,⟨j+1,rfl,rfl,rfl,by omega,bD (by assumption) hS (by rw [pE,zg,jd];grind)⟩,rfl,by simp (maxSteps:=2000000) (disch:=omega) only [go_sem]⟩
    ·haveI:=C2 (at_ l k).ag (at_ (at_ l k).aD j)
     (refine vU ?_;with_reducible repeat' first|exact Le.l|apply Sw|intro h)
     rw [Bz hlk hR (EY (by assumption) (by rw [pE];grind))]
   have hj2:=h
   clear h
   (refine vK ?_;with_reducible repeat' first|exact Le.l|apply Sw|intro h)
   refine AW.fact 99 fun Q9=>?_
   simp (disch:=omega) only [go_sem] at Q9
   refine AW.aw [101] [0,1,2,8,36,37,38,99,100] (fun m xs o=>∃ i:Nat,xs=[.v (.int .i64 i)]/\o=[(b,some (cSc (at_ l k)))]/\m=(at_ l k).aB.length - i/\i<=(at_ l k).aB.length/\∀ y∈(at_ l k).aB.take i,(!qB (at_ l k).ag y)=false) (at_ l k).aB.length [(b,some (cSc (at_ l k)))] gO ⟨0,rfl,rfl,rfl,by omega,by simp⟩ ?_
   rintro m xs o ⟨i,rfl,rfl,rfl,hi,hT⟩
   (refine vK ?_;with_reducible repeat' first|exact Le.l|apply Sw|intro h)
   (refine AW.i rfl (fun h=>?_) (fun h=>?_)<;>try simp only [hC,reduceCtorEq] at h)
   ·by_cases hq:0<=idx (fV (at_ (at_ l k).aB i)) (at_ l k).ag
    ·haveI:=AG (at_ l k).ag (at_ (at_ l k).aB i)
     (refine vU ?_;with_reducible repeat' first|exact Le.l|apply Sw|intro h)
     exact ⟨_,[_],_,by omega,⟨i+1,rfl,rfl,rfl,by omega,bD (by assumption) hT (by rw [qB];grind)⟩,rfl,by simp (maxSteps:=2000000) (disch:=omega) only [go_sem]⟩
    ·haveI:=C2 (at_ l k).ag (at_ (at_ l k).aB i)
     (refine vU ?_;with_reducible repeat' first|exact Le.l|apply Sw|intro h)
     rw [Bz hlk hR (LV (by assumption) (by rw [qB];grind))]
   have hi2:=h
   clear h
   (refine vU ?_;with_reducible repeat' first|exact Le.l|apply Sw|intro h)
   ·rw [OC hlk hR (by rw [uz,uO,iJ] at h;exact h)]
   ·exact ⟨_,[_],_,by omega,⟨k+1,rfl,rfl,rfl,by omega,Mm hlk hR (LU ho hj2 hS hi2 hT) (by rw [uz,uO,iJ] at h;exact h)⟩,rfl,by simp (maxSteps:=2000000) (disch:=omega) only [go_sem]⟩
  ·(refine vU ?_;with_reducible repeat' first|exact Le.l|apply Sw|intro h)
   rw [OD hd h hR]
end
section
attribute [local go_sem] dF cM lN lM
theorem JK{x:ae}{k:Nat}(h:k<x.aD.length)(e:pz x.ag (at_ x.aD k)=false):nC x=false:=by
 rw [nC,jq h e];try rfl
theorem JJ{x:ae}{k:Nat}(h:k<x.aB.length)(e:o5 x.ag (at_ x.aB k)=false):nC x=false:=by
 rw [nC,jq h e];simp
theorem JL{x:ae}(h1:x.aD.all (pz x.ag)=true)(h2:x.aB.all (o5 x.ag)=true):nC x=(lH x.fType && !x.aD.isEmpty && (cl x.aD && decide (x.aD.length<=3)) && (cl x.aB && decide (x.aB.length<=3)) && mF x && !x.cn && !x.cy && !x.bw && !x.dC && x.ba.isEmpty):=by
 rw [nC,h1,h2];try rfl
instance Vf(x:ae):Ctr lim Tryz.prog 278 [] [.agg (cSc x)] (.v (.bool (nC x))) [] True:=by
 refine Ctr.bd Tryz.func278 Tryz.ntmps278 rfl rfl fun hp=>?_
 have gOn:=cY.on
 refine AW.fact 0 fun hf=>?_
 simp (disch:=omega) only [go_sem] at hf
 (refine vU ?_;with_reducible repeat' first|exact Le.l|apply Sw|intro h)
 refine AW.aw [3] [1] (fun m xs o=>∃ k:Nat,xs=[.v (.int .i64 k)]/\o=[]/\m=x.aD.length - k/\k<=x.aD.length/\∀ y∈x.aD.take k,(!pz x.ag y)=false) x.aD.length [] trivial ⟨0,?_,rfl,rfl,?_,?_⟩ ?_
 ·rfl
 ·omega
 ·simp
 rintro m xs o ⟨k,rfl,rfl,rfl,hk,hR⟩
 have hi:=pG (nmP (at_ x.aD k)) x.ag
 have hj:=iL (p:=nmP (at_ x.aD k)) x.ag
 (refine vK ?_;with_reducible repeat' first|exact Le.l|apply Sw|intro h)
 (refine AW.i rfl (fun h=>?_) (fun h=>?_)<;>try simp only [hC,reduceCtorEq] at h)
 ·(refine vU ?_;with_reducible repeat' first|exact Le.l|apply Sw|intro h)
  ·rw [JK (by assumption) (by rw [pz,zg,jd];grind)]
  ·exact ⟨_,[_],[],by omega,⟨k+1,rfl,rfl,rfl,by omega,bD (by assumption) hR (by rw [pz,zg,jd];grind)⟩,rfl,trivial⟩
 ·(refine vK ?_;with_reducible repeat' first|exact Le.l|apply Sw|intro h)
  refine AW.aw [5] [1] (fun m xs o=>∃ k:Nat,xs=[.v (.int .i64 k)]/\o=[]/\m=x.aB.length - k/\k<=x.aB.length/\∀ y∈x.aB.take k,(!o5 x.ag y)=false) x.aB.length [] trivial ⟨0,?_,rfl,rfl,?_,?_⟩ ?_
  ·rfl
  ·omega
  ·simp
  rintro m xs o ⟨j,rfl,rfl,rfl,hj,hS⟩
  have hi:=pG (nmP (at_ x.aB j)) x.ag
  have hj:=iL (p:=nmP (at_ x.aB j)) x.ag
  (refine vU ?_;with_reducible repeat' first|exact Le.l|apply Sw|intro h)
  ·rw [JJ (by assumption) (by rw [o5];grind)]
  ·exact ⟨_,[_],[],by omega,⟨j+1,rfl,rfl,rfl,by omega,bD (by assumption) hS (by rw [o5];grind)⟩,rfl,trivial⟩
  ·rw [JL (eP (by assumption) hR) (eP (by assumption) hS),uz,uO,rA]
end
section
attribute [local go_sem] dF cM lN lM
instance Vd(x:ae)(fr:Bool):Ctr lim Tryz.prog 232 [] [.agg (cSc x),.v (.bool fr)] (.v (.bool (oH x fr))) [] (dD x.bq<=1048576/\dD x.bR<=1048576/\x.ba.length<=1048576):=by
 refine Ctr.bd Tryz.func232 Tryz.ntmps232 rfl rfl fun hp=>?_
 have gOn:=cY.on
 obtain ⟨hw,hm,hd⟩:=hp
 (refine vU ?_;with_reducible repeat' first|exact Le.l|apply Sw|intro h)
 all_goals refine congrArg (fun b=>AV.v (.bool b)) ?_
 ·rw [oH,mR];grind
 all_goals have hb:mR x=true:=by rw [mR];grind
 all_goals rw [oH,hb,Gh,Bool.true_and]
 all_goals try simp only [mJ]
 all_goals try simp only [rA,iJ]
 all_goals repeat' split
 all_goals first|rfl|(exfalso;omega)|(exfalso;simp_all;done)
end
section
attribute [local go_sem] dF cM lN lM
theorem Oz{l:List ae}{k:Nat}(h:k<l.length)(e:¬ idx (nmP (at_ l k).af) l=k)(kind:Int)(fr:Bool)(p:Nat):kT l kind fr p=false:=by
 rw [kT,HE h e];try rfl
theorem OB{l:List ae}{k:Nat}(h:k<(dk l).length)(e:¬ idx (nmP (at_ (dk l) k).af) (dk l)=k)(kind:Int)(fr:Bool)(p:Nat):kT l kind fr p=false:=by
 rw [kT,HE h e];simp
theorem zh{l:List ae}{k:Nat}{kind:Int}{fr:Bool}{p:Nat}(h:kS (l.drop k) kind fr p=false)(e:kS (l.drop k) kind fr p=kS l kind fr p):kT l kind fr p=false:=by
 rw [kT,<- e,h];simp
theorem EW{l:List ae}(h:∀ k<l.length,idx (nmP (at_ l k).af) l=k):cl (nmS l)=true:=by
 have:∀ n,n<=l.length->bL (fun j=>!cont ((nmS l).take j) (at_ (nmS l) j)) n=true:=by
  intro n
  induction n with
  | zero=>intro _;rfl
  | succ n ih =>
   intro hn
   exact cj (ih (by omega)) (by rw [(EV (by omega)).1 (h n (by omega))];try rfl)
 rw [cl,nmS,List.length_map,<- nmS]
 exact this _ (Nat.le_refl _)
theorem OA{l:List ae}{kind:Int}{fr:Bool}{p:Nat}(h1:∀ k<l.length,idx (nmP (at_ l k).af) l=k)(h2:∀ k<(dk l).length,idx (nmP (at_ (dk l) k).af) (dk l)=k)(h3:kS l kind fr p=true):kT l kind fr p=(decide (p<=8) || l.isEmpty):=by
 rw [kT,EW h1,EW h2,h3];simp
theorem Cw{P:Nat->Prop}{k:Nat}(h:∀ j<k,P j)(e:P k):∀ j<k+1,P j:=fun j hj=>by
 rcases Nat.lt_or_ge j k with q|q
 ·exact h j q
 ·rw [show j=k by omega];exact e
theorem EG:∀ (n:Nat) (l:List ae) (kind:Int) (fr:Bool) (p:Nat),Ctr lim Tryz.prog 175 [] [.sl false 19 (l.map (aq false)),.v (.int .i64 kind),.v (.bool fr),.v (.int .i64 p)] (.v (.bool (kT l kind fr p))) [] (SizeOf.sizeOf l<n/\wtS l<=1048576/\p+dY l<=2097152)
 | 0,l,_,_,_=>⟨(aW 175),fun h=>absurd h.1 (Nat.not_lt_zero _)⟩
 | n+1,l,kind,fr,p=>by
  have ih:=EG n
  refine Ctr.bd Tryz.func175 Tryz.ntmps175 rfl rfl fun hp=>?_
  have gOn:=cY.on
  obtain ⟨hs,hb,hq⟩:=hp
  have hc:=lC l
  have hdl:=lP l
  refine AW.fact 0 fun hf=>?_
  simp (disch:=omega) only [go_sem] at hf
  (refine vU ?_;with_reducible repeat' first|exact Le.l|apply Sw|intro h)
  refine AW.aw [10] [0,1,2,3,9] (fun m xs o=>∃ k:Nat,xs=[.v (.int .i64 k)]/\o=[]/\m=l.length - k/\k<=l.length/\(∀ j<k,idx (nmP (at_ l j).af) l=j)/\kS (l.drop k) kind fr p=kS l kind fr p) l.length [] trivial ⟨0,?_,rfl,rfl,?_,?_,rfl⟩ ?_
  ·rfl
  ·omega
  ·intro j hj;omega
  rintro m xs o ⟨k,rfl,rfl,rfl,hk,hW,hR⟩
  have hi:=pG (nmP (at_ l k).af) l
  have hj:=iL (p:=nmP (at_ l k).af) l
  (refine vK ?_;with_reducible repeat' first|exact Le.l|apply Sw|intro h)
  (refine AW.i rfl (fun h=>?_) (fun h=>?_)<;>try simp only [hC,reduceCtorEq] at h)
  ·have hw:=yN (at_mem h)
   have hsz:=ae.dM (at_mem h)
   have hS:=QX h kind fr p
   have hdp:=xc (at_mem h)
   (refine vU ?_;with_reducible repeat' first|exact Le.l|apply Sw|intro h)
   ·simp only [mJ] at h
    simp only [bne,iJ] at h
    rcases h with ((h|h)|h)|h
    ·rw [Oz (by assumption) h]
    ·rw [zh (k:=k) (by rw [hS];grind) hR]
    ·rw [zh (k:=k) (by rw [hS,h];simp) hR]
    ·rw [zh (k:=k) (by rw [hS,h];simp) hR]
   ·simp only [mJ] at h
    simp only [bne,iJ] at h
    refine ⟨_,[_],[],by omega,⟨k+1,rfl,rfl,rfl,by omega,Cw hW h.1.1.1,?_⟩,rfl,trivial⟩
    rw [<- hR,hS];grind
  ·(refine vU ?_;with_reducible repeat' first|exact Le.l|apply Sw|intro h)
   refine AW.aw [12] [0,3,9] (fun m xs o=>∃ k:Nat,xs=[.v (.int .i64 k)]/\o=[]/\m=(dk l).length - k/\k<=(dk l).length/\(∀ j<k,idx (nmP (at_ (dk l) j).af) (dk l)=j)) (dk l).length [] trivial ⟨0,?_,rfl,rfl,?_,?_⟩ ?_
   ·rfl
   ·omega
   ·intro j hj;omega
   rintro m xs o ⟨i,rfl,rfl,rfl,hi,hV⟩
   (refine vU ?_;with_reducible repeat' first|exact Le.l|apply Sw|intro h)
   ·rw [OB (by assumption) h]
   ·exact ⟨_,[_],[],by omega,⟨i+1,rfl,rfl,rfl,by omega,Cw hV h⟩,rfl,trivial⟩
   ·rw [OA (fun j hj=>hW j (by omega)) (fun j hj=>hV j (by omega)) (by rw [<- hR,fK (by assumption),kS]),mJ,show decide ((p:Int)<=8)=decide (p<=8) from decide_eq_decide.2 (by omega)]
end
section
instance VA(l:List ae)(kind:Int)(bd:Bool):Ctr lim Tryz.prog 195 [] [.sl false 19 (l.map (aq false)),.v (.int .i64 kind),.v (.bool bd)] (.v (.bool (kR l kind bd))) [] (wtS l<=1048576):=⟨(aW 195),fun h=>(Fa (SizeOf.sizeOf l+1) l kind bd).out ⟨Nat.lt_succ_self _,h⟩⟩
instance Vi(l:List ae)(kind:Int)(fr:Bool):Ctr lim Tryz.prog 175 [] [.sl false 19 (l.map (aq false)),.v (.int .i64 kind),.v (.bool fr),.v (.int .i64 1)] (.v (.bool (kT l kind fr 1))) [] (wtS l<=1048576):=⟨(aW 175),fun h=>(EG (SizeOf.sizeOf l+1) l kind fr 1).out ⟨Nat.lt_succ_self _,h,by have:=u4 l;omega⟩⟩
instance P4(l:List ae):Ctr lim Tryz.prog 130 [] [.sl false 19 (l.map (aq false))] (.v (.bool (jS l))) [] (wtS l<=1048576):=by
 refine Ctr.bd Tryz.func130 Tryz.ntmps130 rfl rfl fun hp=>?_
 have gOn:=cY.on
 have h1:=lC l
 have h2:=u4 l
 (refine vU ?_;with_reducible repeat' first|exact Le.l|apply Sw|intro h)
 refine congrArg (fun b=>AV.v (.bool b)) ?_
 rw [jS,show decide ((cE l:Int)<=60)=decide (cE l<=60) from decide_eq_decide.2 (by omega),show decide ((dY l:Int)<=8)=decide (dY l<=8) from decide_eq_decide.2 (by omega)]
instance PN(l:List ae):Ctr lim Tryz.prog 113 [] [.sl false 19 (l.map (aq false))] (.v (.bool (jS l))) [] (wtS l<=1048576):=by
 refine Ctr.bd Tryz.func113 Tryz.ntmps113 rfl rfl fun hp=>?_
 have gOn:=cY.on
 have h1:=lC l
 (refine vU ?_;with_reducible repeat' first|exact Le.l|apply Sw|intro h)
 rw [Bn]
end
section
instance Tw(l:List bI)(n:Str):Ctr lim Tryz.prog 110 [] [.sl false 2 (l.map (bp false)),.str n] (.v (.int .i64 (idx (fU n) l))) [] True:=by
 refine Ctr.bd Tryz.func110 Tryz.ntmps110 rfl rfl fun hp=>?_
 refine AW.fact 0 fun hf=>?_
 simp (disch:=omega) only [go_sem,Nat.reduceBEq] at hf
 (refine vU ?_;with_reducible repeat' first|exact Le.l|apply Sw|intro (K:_->_->Prop) hK|intro h)
 refine AW.aw [5] [0,1] (fun m xs o=>∃ k:Nat,xs=[.v (.int .i64 k)]/\o=[]/\m=l.length - k/\k<=l.length/\∀ x∈l.take k,fU n x=false) l.length [] trivial ⟨0,?_,rfl,rfl,?_,?_⟩ ?_
 ·rfl
 ·omega
 ·simp
 rintro m xs o ⟨k,rfl,rfl,rfl,hk,hR⟩
 (refine vU ?_;with_reducible repeat' first|exact Le.l|apply Sw|intro (K:_->_->Prop) hK|intro h)
 ·rw [gB (by assumption) hR (by simpa [fU] using h)]
 ·exact ⟨_,[_],[],by omega,⟨k+1,rfl,rfl,rfl,by omega,bD (by assumption) hR (by simpa [fU] using h)⟩,rfl,trivial⟩
 ·rw [jb h hR]
instance PQ(s:Str)(l:List bI):Ctr lim Tryz.prog 173 [] [.str s,.sl false 2 (l.map (bp false))] (.tup [.str (flS l (tk s)),.v (.bool (flB l (tk s)))]) [] (s.length<=1048576/\ek l):=by
 refine Ctr.bd Tryz.func173 Tryz.ntmps173 rfl rfl fun hp=>?_
 refine AW.fact 1 fun hf=>?_
 simp (disch:=omega) only [go_sem,Nat.reduceBEq] at hf
 (refine vU ?_;with_reducible repeat' first|exact Le.l|apply Sw|intro (K:_->_->Prop) hK|intro h)
 refine AW.aw [8,9] [0,1,7] (fun m xs o=>∃ (k:Nat) (d:List Tok),xs=[.str (gF l d),.v (.int .i64 k)]/\o=[]/\m=s.length - k/\k<=s.length/\d.length<=k/\gV s k d/\iX l d=true/\((tk s).2=false->d=[])) s.length [] trivial ⟨0,[],?_,rfl,rfl,?_,?_,pX s,rfl,fun _=>rfl⟩ ?_
 ·rfl
 ·omega
 ·simp
 rintro m xs o ⟨k,d,rfl,rfl,rfl,hk,ha,hR,hall,hd⟩
 have he:=oI s (k+1)
 have hol:=mU hp.2 d
 have zr:=@UK s k
 have hmore:=hR.more
 have Uh:=iL (p:=fU ((s.take (cX s (k+1))).drop (k+1))) l
 have hval:=zN hp.2 ((s.take (cX s (k+1))).drop (k+1))
 (refine vU ?_;with_reducible repeat' first|exact Le.l|apply Sw|intro (K:_->_->Prop) hK|intro h)
 ·rw [zr (by omega)];simp;omega
 ·rename_i hc
  exact ⟨_,[_,_],[],by omega,⟨k+1,d++[_],by rw [kI],rfl,rfl,by omega,by simp;omega,hR.next (rM hc.1 h),by simp [jV,iX,hall],fun e=>by rw [hc.2] at e;cases e⟩,by rw [zr hc.1];rfl,trivial⟩
 ·rename_i hc
  exact (hmore hc.2 hc.1 h).1
 ·rename_i hc h36
  have:=hmore hc.2 hc.1 h36
  exact ⟨_,[_,_],[],by omega,⟨k+1+1,d++[_],by rw [kI];rfl,rfl,rfl,by omega,by simp;omega,hR.next (xo this.1 h36 h),by simp [jV,iX,hall],fun e=>by rw [hc.2] at e;cases e⟩,rfl,trivial⟩
 ·rename_i hc h36 hn
  have:=hmore hc.2 hc.1 h36
  have hb:=MF (l:=l) hR (qU hc.1 h36 (fun _=>hn) (this.2 hn)) h
  simp [flS,hb]
 ·rw [lg,if_neg (by omega)] at hval
  simp at hval;omega
 ·rename_i hc h36 hn
  have:=hmore hc.2 hc.1 h36
  have hne:=this.2 hn
  refine ⟨_,[_,_],[],?_,⟨cX s (k+1),d++[.inr ((s.take (cX s (k+1))).drop (k+1))],rfl,rfl,rfl,by omega,by simp;omega,hR.next (qU hc.1 h36 (fun _=>hn) hne),?_,fun e=>by rw [hc.2] at e;cases e⟩,?_,trivial⟩
  ·omega
  ·rw [jV,hall];simp [iX,lg];omega
  ·rw [Nat.sub_add_cancel (by omega),kI]
   simp only [gF,lg]
   rw [if_neg (by omega)]
   simp
 ·obtain ⟨e1,e2⟩:=ME hR hk h hall hd
  rw [e1,<- e2]
end
end Go.Proofs
