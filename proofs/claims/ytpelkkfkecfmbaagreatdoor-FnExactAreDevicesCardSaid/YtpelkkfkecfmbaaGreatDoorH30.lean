/- Part of a proof. -/
import Derived.Test.YtpelkkfkecfmbaaGreatDoorH29
set_option linter.all false
set_option maxRecDepth 20000
set_option maxHeartbeats 4000000
open Go.Proofs.Tryz
namespace Go.Proofs
open Go.Ab Go.Dt
section
attribute [local go_sem] aM aC dr dq iB
theorem Jy:∀ (n:Nat) (l:List ae) (kind:Int) (bd:Bool),Ctr lim prog 151 [] [.sl false 19 (l.map (aq false)),.aa kind,.ac bd] (.ac (kR l kind bd)) [] (SizeOf.sizeOf l<n/\wtS l<=1048576)
 | 0,l,_,_=>⟨(aU 151),fun h=>absurd h.1 (Nat.not_lt_zero _)⟩
 | n+1,l,kind,bd=>by
  have ih:=Jy n;refine Ctr.bd func151 ntmps151 fun hp=>?_;have gOn:=aD.on;obtain ⟨hs,hb⟩:=hp;have hc:=j7 l;refine AW.f1 0 fun hf=>?_;refine vK1 ?_;refine AW.c (fun h=>?_) fun h=>?_
  ·refine vU1 ?_;refine congrArg (fun b=>AV.ac b) ?_;rw [kR,lp];grind
  refine vK1 ?_;have hd:lp l kind=true:=by rw [lp];grind
  clear h;refine AW.aw [38] [0,1,2,36,37] (fun m xs o=>∃ k:Nat,xs=[.aa k]/\o=[]/\m=l.length - k/\k<=l.length/\kA (l.drop k) kind bd=kA l kind bd) l.length [] trivial ⟨0,?_,rfl,rfl,?_,rfl⟩ ?_
  ·rfl
  ·omega
  rintro m xs o ⟨k,rfl,rfl,rfl,hk,hR⟩;refine vK1 ?_;refine AW.c (fun h=>?_) fun h=>?_
  ·have hw:=BJ (at_mem h)
   have hsz:=ae.du (at_mem h)
   have hlk:=h;clear h
   (refine vK1 ?_;intro h)
   refine AW.c (fun h=>?_) fun h=>?_
   ·refine vU1 ?_;rw [Ey hlk hR (Vm (by grind))]
   have ho:(j9 (at_ l k) && !decide ((at_ l k).aj=7) && (decide ((at_ l k).aj=6) == decide (kind=5)) && !((at_ l k).bS && bd))=true:=by grind
   clear h;refine vK1 ?_
   rename Nat=>b
   refine AW.fact 66 fun abx=>?_;simp (disch:=omega) only [go_sem] at abx;refine AW.aw [68] [0,1,2,8,36,37,38,66,67] (fun m xs o=>∃ j:Nat,xs=[.aa j]/\o=[(b,some (cSc (at_ l k)))]/\m=(at_ l k).aE.length - j/\j<=(at_ l k).aE.length/\∀ y∈(at_ l k).aE.take j,(!qL (at_ l k).af y)=false) (at_ l k).aE.length [(b,some (cSc (at_ l k)))] gO ⟨0,rfl,rfl,rfl,Ir,QC⟩ ?_;rintro m xs o ⟨j,rfl,rfl,rfl,hj,hS⟩;refine vK1 ?_;refine AW.c (fun h=>?_) fun h=>?_
   ·by_cases hq:0<=idx (dW (at_ (at_ l k).aE j)) (at_ l k).af
    ·haveI:=rK (at_ l k).af (at_ (at_ l k).aE j)
     (refine vU2 ?_ ?_<;>with_reducible repeat intro h)
     ·rw [Ey hlk hR (Ji yG (by rw [qL,Cu,jr];grind))]
     ·exact ⟨_,[_],_,Ir,⟨j+1,rfl,rfl,rfl,Ir,aL yG hS (by rw [qL,Cu,jr];grind)⟩,rfl,gO⟩
    ·haveI:=uM (at_ l k).af (at_ (at_ l k).aE j)
     (refine vU1 ?_;intro h h h)
     rw [Ey hlk hR (Ji yG (by rw [qL];grind))]
   have hj2:=h;clear h;refine vK1 ?_;refine AW.fact 99 fun Yt=>?_;simp (disch:=omega) only [go_sem] at Yt;refine AW.aw [101] [0,1,2,8,36,37,38,99,100] (fun m xs o=>∃ i:Nat,xs=[.aa i]/\o=[(b,some (cSc (at_ l k)))]/\m=(at_ l k).ay.length - i/\i<=(at_ l k).ay.length/\∀ y∈(at_ l k).ay.take i,(!sx (at_ l k).af y)=false) (at_ l k).ay.length [(b,some (cSc (at_ l k)))] gO ⟨0,rfl,rfl,rfl,Ir,QC⟩ ?_;rintro m xs o ⟨i,rfl,rfl,rfl,hi,hT⟩;refine vK1 ?_;refine AW.c (fun h=>?_) fun h=>?_
   ·by_cases hq:0<=idx (dW (at_ (at_ l k).ay i)) (at_ l k).af
    ·haveI:=rK (at_ l k).af (at_ (at_ l k).ay i)
     (refine vU1 ?_;intro h h h)
     exact ⟨_,[_],_,Ir,⟨i+1,rfl,rfl,rfl,Ir,aL yG hT (by rw [sx];grind)⟩,rfl,gO⟩
    ·haveI:=uM (at_ l k).af (at_ (at_ l k).ay i)
     (refine vU1 ?_;intro h h h)
     rw [Ey hlk hR (Sr yG (by rw [sx];grind))]
   have hi2:=h;clear h
   (refine vU2 ?_ ?_<;>intro h)
   ·rw [VH hlk hR (by rw [q9,p5,fC] at h;exact h)]
   ·exact ⟨_,[_],_,Ir,⟨k+1,rfl,rfl,rfl,Ir,SX hlk hR (Sq ho hj2 hS hi2 hT) (by rw [q9,p5,fC] at h;exact h)⟩,rfl,gO⟩
  ·refine vU1 ?_;rw [VI hd h hR]
end
section
attribute [local go_sem] aM aC dr dq
def Ps{x:ae}{k:Nat}(h:k<x.aE.length)(e:qK x.af (at_ x.aE k)=false):oJ x=false:=by rw [oJ,eQ h e];try rfl
def Pr{x:ae}{k:Nat}(h:k<x.ay.length)(e:qv x.af (at_ x.ay k)=false):oJ x=false:=by rw [oJ,eQ h e];simp
def Pt{x:ae}(h1:x.aE.all (qK x.af)=true)(h2:x.ay.all (qv x.af)=true):oJ x=(lD x.fType && !x.aE.isEmpty && (bT x.aE && decide (x.aE.length<=3)) && (bT x.ay && decide (x.ay.length<=3)) && lX x && !x.bS && !x.bD && !x.aZ && !x.cU && x.aV.isEmpty):=by rw [oJ,h1,h2];try rfl
instance ab3(x:ae):Ctr lim prog 218 [] [.agg (cSc x)] (.ac (oJ x)) [] True:=by
 refine Ctr.bd func218 ntmps218 fun hp=>?_;have gOn:=aD.on;refine AW.f1 0 fun hf=>?_;refine vU1 ?_;refine AW.aw [3] [1] (fun m xs o=>∃ k:Nat,xs=[.aa k]/\o=[]/\m=x.aE.length - k/\k<=x.aE.length/\∀ y∈x.aE.take k,(!qK x.af y)=false) x.aE.length [] trivial ⟨0,?_,rfl,rfl,?_,?_⟩ ?_
 ·rfl
 ·omega
 ·simp
 rintro m xs o ⟨k,rfl,rfl,rfl,hk,hR⟩;have hi:=oY (nmP (at_ x.aE k)) x.af
 have hj:=eO (p:=nmP (at_ x.aE k)) x.af;refine vK1 ?_;refine AW.c (fun h=>?_) fun h=>?_
 ·(refine vU2 ?_ ?_<;>intro h)
  ·rw [Ps yG (by rw [qK,Cu,jr];grind)]
  ·exact ⟨_,[_],[],Ir,⟨k+1,rfl,rfl,rfl,Ir,aL yG hR (by rw [qK,Cu,jr];grind)⟩,rfl,trivial⟩
 ·refine vK1 ?_;refine AW.aw [5] [1] (fun m xs o=>∃ k:Nat,xs=[.aa k]/\o=[]/\m=x.ay.length - k/\k<=x.ay.length/\∀ y∈x.ay.take k,(!qv x.af y)=false) x.ay.length [] trivial ⟨0,?_,rfl,rfl,?_,?_⟩ ?_
  ·rfl
  ·omega
  ·simp
  rintro m xs o ⟨j,rfl,rfl,rfl,hj,hS⟩;have hi:=oY (nmP (at_ x.ay j)) x.af
  have hj:=eO (p:=nmP (at_ x.ay j)) x.af
  (refine vU3 ?_ ?_ ?_<;>with_reducible repeat intro h)
  ·rw [Pr yG (by rw [qv];grind)]
  ·exact ⟨_,[_],[],Ir,⟨j+1,rfl,rfl,rfl,Ir,aL yG hS (by rw [qv];grind)⟩,rfl,trivial⟩
  ·rw [Pt (cM yG hR) (cM yG hS),q9,p5,kU]
end
section
attribute [local go_sem] aM aC dr dq
instance ab1(x:ae)(fr:Bool):Ctr lim prog 176 [] [.agg (cSc x),.ac fr] (.ac (p4 x fr)) [] (dw x.aG<=1048576/\dw x.bO<=1048576/\x.aV.length<=1048576):=by
 refine Ctr.bd func176 ntmps176 fun hp=>?_;have gOn:=aD.on;obtain ⟨hw,hm,hd⟩:=hp
 (refine vU ?_;with_reducible repeat' first|exact Le.l|apply Sw|intro h)
 all_goals refine congrArg (fun b=>AV.ac b) ?_
 ·rw [p4,mJ];grind
 all_goals have hb:mJ x=true:=by rw [mJ];grind
 all_goals rw [p4,hb,KN,Bool.true_and]
 all_goals try simp only [jt]
 all_goals try simp only [kU,fC]
 all_goals repeat' split
 all_goals first|rfl|(exfalso;omega)|(exfalso;simp_all;done)
end
section
attribute [local go_sem] aM aC dr dq
def VE{l:List ae}{k:Nat}(h:k<l.length)(e:¬ idx (nmP (at_ l k).ag) l=k)(kind:Int)(fr:Bool)(p:Nat):kT l kind fr p=false:=by rw [kT,MI h e];try rfl
def VG{l:List ae}{k:Nat}(h:k<(dk l).length)(e:¬ idx (nmP (at_ (dk l) k).ag) (dk l)=k)(kind:Int)(fr:Bool)(p:Nat):kT l kind fr p=false:=by rw [kT,MI h e];simp
def Cv{l:List ae}{k:Nat}{kind:Int}{fr:Bool}{p:Nat}(h:kS (l.drop k) kind fr p=false)(e:kS (l.drop k) kind fr p=kS l kind fr p):kT l kind fr p=false:=by rw [kT,<- e,h];simp
def Jf{l:List ae}(h:∀ k<l.length,idx (nmP (at_ l k).ag) l=k):bT (nmS l)=true:=by
 have:∀ n,n<=l.length->cS (fun j=>!cont ((nmS l).take j) (at_ (nmS l) j)) n=true:=by
  intro n
  induction n with
  | zero=>intro _;rfl
  | succ n ih =>
   intro hn;exact dc (ih Ir) (by rw [(Je Ir).1 (h n Ir)];try rfl)
 rw [bT,nmS,List.length_map,<- nmS];exact this _ (Nat.le_refl _)
def VF{l:List ae}{kind:Int}{fr:Bool}{p:Nat}(h1:∀ k<l.length,idx (nmP (at_ l k).ag) l=k)(h2:∀ k<(dk l).length,idx (nmP (at_ (dk l) k).ag) (dk l)=k)(h3:kS l kind fr p=true):kT l kind fr p=(decide (p<=8) || l.isEmpty):=by rw [kT,Jf h1,Jf h2,h3];simp
def FO{P:faa}{k:Nat}(h:∀ j<k,P j)(e:P k):∀ j<k+1,P j:=fun j hj=>by
 rcases Nat.lt_or_ge j k with q|q
 ·exact h j q
 ·rw [show j=k by omega];exact e
theorem IQ:∀ (n:Nat) (l:List ae) (kind:Int) (fr:Bool) (p:Nat),Ctr lim prog 134 [] [.sl false 19 (l.map (aq false)),.aa kind,.ac fr,.aa p] (.ac (kT l kind fr p)) [] (SizeOf.sizeOf l<n/\wtS l<=1048576/\p+aW l<=2097152)
 | 0,l,_,_,_=>⟨(aU 134),fun h=>absurd h.1 (Nat.not_lt_zero _)⟩
 | n+1,l,kind,fr,p=>by
  have ih:=IQ n;refine Ctr.bd func134 ntmps134 fun hp=>?_;have gOn:=aD.on;obtain ⟨hs,hb,hq⟩:=hp;have hc:=j7 l
  have hdl:=nQ l;refine AW.f1 0 fun hf=>?_;refine vU1 ?_;refine AW.aw [10] [0,1,2,3,9] (fun m xs o=>∃ k:Nat,xs=[.aa k]/\o=[]/\m=l.length - k/\k<=l.length/\(∀ j<k,idx (nmP (at_ l j).ag) l=j)/\kS (l.drop k) kind fr p=kS l kind fr p) l.length [] trivial ⟨0,?_,rfl,rfl,?_,?_,rfl⟩ ?_
  ·rfl
  ·omega
  ·intro j hj;omega
  rintro m xs o ⟨k,rfl,rfl,rfl,hk,hW,hR⟩;have hi:=oY (nmP (at_ l k).ag) l
  have hj:=eO (p:=nmP (at_ l k).ag) l;refine vK1 ?_;refine AW.c (fun h=>?_) fun h=>?_
  ·have hw:=BJ (at_mem h)
   have hsz:=ae.du (at_mem h)
   have hS:=Yf h kind fr p
   have hdp:=zU (at_mem h)
   (refine vU2 ?_ ?_<;>intro h)
   ·simp only [jt] at h;simp only [bne,fC] at h;rcases h with ((h|h)|h)|h
    ·rw [VE yG h]
    ·rw [Cv (k:=k) (by rw [hS];grind) hR]
    ·rw [Cv (k:=k) (by rw [hS,h];simp) hR]
    ·rw [Cv (k:=k) (by rw [hS,h];simp) hR]
   ·simp only [jt] at h;simp only [bne,fC] at h;refine ⟨_,[_],[],Ir,⟨k+1,rfl,rfl,rfl,Ir,FO hW h.1.1.1,?_⟩,rfl,trivial⟩;rw [<- hR,hS];grind
  ·refine vU1 ?_;refine AW.aw [12] [0,3,9] (fun m xs o=>∃ k:Nat,xs=[.aa k]/\o=[]/\m=(dk l).length - k/\k<=(dk l).length/\(∀ j<k,idx (nmP (at_ (dk l) j).ag) (dk l)=j)) (dk l).length [] trivial ⟨0,?_,rfl,rfl,?_,?_⟩ ?_
   ·rfl
   ·omega
   ·intro j hj;omega
   rintro m xs o ⟨i,rfl,rfl,rfl,hi,hV⟩
   (refine vU3 ?_ ?_ ?_<;>with_reducible repeat intro h)
   ·rw [VG yG h]
   ·exact ⟨_,[_],[],Ir,⟨i+1,rfl,rfl,rfl,Ir,FO hV h⟩,rfl,trivial⟩
   ·rw [VF (fun j hj=>hW j Ir) (fun j hj=>hV j Ir) (by rw [<- hR,fY yG,kS]),jt,show decide ((p:Int)<=8)=decide (p<=8) from decide_eq_decide.2 Ir]
end
section
instance acz(l:List ae)(kind:Int)(bd:Bool):Ctr lim prog 151 [] [.sl false 19 (l.map (aq false)),.aa kind,.ac bd] (.ac (kR l kind bd)) [] (wtS l<=1048576):=⟨(aU 151),fun h=>(Jy (SizeOf.sizeOf l+1) l kind bd).out ⟨Nat.lt_succ_self _,h⟩⟩
instance ab6(l:List ae)(kind:Int)(fr:Bool):Ctr lim prog 134 [] [.sl false 19 (l.map (aq false)),.aa kind,.ac fr,.aa 1] (.ac (kT l kind fr 1)) [] (wtS l<=1048576):=⟨(aU 134),fun h=>(IQ (SizeOf.sizeOf l+1) l kind fr 1).out ⟨Nat.lt_succ_self _,h,by have:=x8 l;omega⟩⟩
instance Xr(l:List ae):Ctr lim prog 110 [] [.sl false 19 (l.map (aq false))] (.ac (fX l)) [] (wtS l<=1048576):=by
 refine Ctr.bd func110 ntmps110 fun hp=>?_;have gOn:=aD.on
 have h1:=j7 l
 have h2:=x8 l;refine vU1 ?_;refine congrArg (fun b=>AV.ac b) ?_;rw [fX,show decide ((aH l:Int)<=60)=decide (aH l<=60) from decide_eq_decide.2 Ir,show decide ((aW l:Int)<=8)=decide (aW l<=8) from decide_eq_decide.2 Ir]
instance Xe(l:List ae):Ctr lim prog 101 [] [.sl false 19 (l.map (aq false))] (.ac (fX l)) [] (wtS l<=1048576):=by
 refine Ctr.bd func101 ntmps101 fun hp=>?_;have gOn:=aD.on
 have h1:=j7 l;refine vU1 ?_;rw [Ed]
end
section
attribute [-instance] mD
attribute [local go_sem] aM aC aR dr dq jY iB oq
theorem Nv(n:Nat)(ih:∀ (s:List ae) (l:List ah),Ctr lim prog 113 [] [.sl false 19 (s.map (aq false)),.sl false 3 (l.map (ak false))] (.ac (okL (dk s) none l)) [] (SizeOf.sizeOf l<n/\wtS s<=1048576/\wt l<=1048576))(c:ae)(x:ah):Ctr lim prog 159 [] [.agg (cSc c),.agg (cNo x)] (.ac (okN c x)) [] (cg c.aj=true/\SizeOf.sizeOf x.af<n/\wtS c.af<=1048576/\wt x.af<=1048576/\x.ax.length<=1048576):=by
 refine Ctr.bd func159 ntmps159 fun hp=>?_;have gOn:=aD.on;obtain ⟨h1,h2,h3,h4,h5⟩:=hp
 (refine vU4 ?_ ?_ ?_ ?_<;>with_reducible repeat intro h)
 all_goals refine congrArg (fun b=>AV.ac b) ?_
 ·rw [okN,if_pos Ir,jt]
 ·rw [okN,if_pos Ir,jt]
 ·rw [okN,if_neg Ir,if_neg Ir,q9,p5,kU,Bool.and_right_comm]
 ·have:c.aj=2:=by rw [cg] at h1;simp at h1;omega
  rw [okN,if_neg Ir,if_pos this,kU]
theorem Gs:∀ (n:Nat) (s:List ae) (l:List ah),Ctr lim prog 113 [] [.sl false 19 (s.map (aq false)),.sl false 3 (l.map (ak false))] (.ac (okL (dk s) none l)) [] (SizeOf.sizeOf l<n/\wtS s<=1048576/\wt l<=1048576)
 | 0,_,l=>⟨(aU 113),fun h=>absurd h.1 (Nat.not_lt_zero _)⟩
 | n+1,s,l=>by
  have ih:=Nv n (Gs n);refine Ctr.bd func113 ntmps113 fun hp=>?_;have gOn:=aD.on;obtain ⟨hs,hb,hv⟩:=hp;have hc:=j7 s;refine AW.f1 1 fun hf=>?_;refine vU1 ?_;refine AW.aw [7,18] [1,5,6,16,17] (fun m xs o=>∃ k:Nat,xs=[.aa (il (dk s) l k),.aa k]/\o=[]/\m=l.length - k/\k<=l.length/\okL (dk s) (prv l k) (l.drop k)=okL (dk s) none l) l.length [] trivial ⟨0,?_,rfl,rfl,?_,rfl⟩ ?_
  ·rfl
  ·omega
  rintro m xs o ⟨k,rfl,rfl,rfl,hk,hR⟩;refine vK1 ?_;refine AW.c (fun h=>?_) fun h=>?_
  ·have hw:=Ac (l:=l) h
   have hsz:=ah.du (at_mem h)
   have hkx:=fun hq=>tO _ _ (dF (p:=nmP (at_ l k).ag) (l:=dk s) hq).2.2
   have hkv:=fun hq=>u6 _ _ (dF (p:=nmP (at_ l k).ag) (l:=dk s) hq).2.2
   have hkz:=eO (p:=nmP (at_ l k).ag) (dk s)
   have hl1:=Py (d:=dk s) (l:=l) (k:=k)
   have hl2:=Px (d:=dk s) (l:=l) (k:=k)
   have hl0:k=0->il (dk s) l k = -1:=fun e=>by subst e;rfl
   (refine vU3 ?_ ?_ ?_<;>with_reducible repeat intro h)
   ·rw [<- hR,Sx yG h]
   ·rw [<- hR,Ph yG Ir h]
   ·exact ⟨_,[_,_],[],Ir,⟨k+1,rfl,rfl,rfl,Ir,by rw [<- hR,Pg yG Ir Ir h.1 h.2]⟩,rfl,gO⟩
  ·refine vU1 ?_;rw [<- hR,fY h,okL]
end
section
attribute [local go_sem] aM aC
instance aa1(s:List ae)(l:List ah):Ctr lim prog 113 [] [.sl false 19 (s.map (aq false)),.sl false 3 (l.map (ak false))] (.ac (okL (dk s) none l)) [] (wtS s<=1048576/\wt l<=1048576):=⟨(aU 113),fun h=>(Gs (SizeOf.sizeOf l+1) s l).out ⟨Nat.lt_succ_self _,h⟩⟩
instance Z9(d:List ae)(l:List ah):Ctr lim prog 104 [] [.sl false 19 (d.map (aq false)),.sl false 3 (l.map (ak false))] (.ac (okL d none l)) [] ((∀ y∈d,wtS y.af<=1048576)/\wt l<=1048576):=⟨(aU 104),fun h=>(Fs (SizeOf.sizeOf l+1) d l).out ⟨Nat.lt_succ_self _,h⟩⟩
instance Zw(s:List ae)(l:List ah):Ctr lim prog 73 [] [.sl false 19 (s.map (aq false)),.sl false 3 (l.map (ak false))] (.ac (bV s l)) [] (wtS s<=1048576/\wt l<=1048576):=by refine Ctr.bd func73 ntmps73 fun hp=>?_;have gOn:=aD.on;obtain ⟨h1,h2⟩:=hp;refine vU1 ?_;refine congrArg (fun b=>AV.ac b) ?_;rw [bV,show decide ((cnt l:Int)<=120)=decide (cnt l<=120) from decide_eq_decide.2 Ir]
instance Za(s:List ae)(l:List ah):Ctr lim prog 65 [] [.sl false 19 (s.map (aq false)),.sl false 3 (l.map (ak false))] (.ac (bV s l)) [] (wtS s<=1048576/\wt l<=1048576):=by
 refine Ctr.bd func65 ntmps65 fun hp=>?_;have gOn:=aD.on;obtain ⟨h1,h2⟩:=hp;have hc:=j7 s
 have hd:∀ y∈dk s,wtS y.af<=1048576:=fun y hy=>by have:=u6 _ y hy;omega
 have e1:decide (0<=gP l (120 - l.length))=decide (cnt l<=120):=by
  apply decide_eq_decide.2;unfold cnt;rcases Int.lt_or_le (120 - (l.length:Int)) 0 with h|h
  ·rw [qI l h];omega
  ·have:=(Cq l _ h).1;omega
 (refine vU2 ?_ ?_<;>with_reducible repeat intro h)
 ·exact hd _ h
 ·refine congrArg (fun b=>AV.ac b) ?_;rw [bV,e1]
end
end Go.Proofs
namespace Go.Dt
open Go Go.Ab
def E5{s:List ae}{l:List ah}(h:bV s l=true):cnt l<=120:=by unfold bV at h;simp only [Bool.and_eq_true,decide_eq_true_eq] at h;omega
def CE(s:List ae)(l:List ah):List ah:=if bV s l=true then gW (aW s+1) s l else []
end Go.Dt
namespace Go.Proofs
open Go.Ab Go.Dt
attribute [local go_sem] aM aC aR
theorem RR(s:List ae)(l:List ah):Ctr lim prog 106 [] [.sl false 19 (s.map (aq false)),.sl false 3 (l.map (ak false))] (.tup [.sl true 3 ((CE s l).map (ak true)),.ac (bV s l)]) [] (aH s<=1000/\wtS s<=1048576/\wt l<=1048576):=by
 refine Ctr.bd func106 ntmps106 fun hp=>?_;have gOn:=aD.on;obtain ⟨h1,h2,h3⟩:=hp
 cases ht:bV s l with
 | false =>
  rw [CE,if_neg (by rw [ht];simp)];exact vP0 ht
 | true =>
  have hc:=E5 ht
  have k0:=IU (aW s+1) s l;rw [CE,if_pos ht];exact vP0 ht
instance U1(s:List ae)(l:List ah):iM lim prog 106 [.sl false 19 (s.map (aq false)),.sl false 3 (l.map (ak false))] (.tup [.sl false 3 ((CE s l).map (ak false)),.ac (bV s l)]) (aH s<=1000/\wtS s<=1048576/\wt l<=1048576) :=
 ⟨(aU 106),fun c=>by
  have:=((RR s l).pure c).frz
  simpa only [AV.frz,AV.bg,oq,aR,cond_true] using this⟩
end Go.Proofs
namespace Go.Dt
open Go Go.Ab
def dnF(f:Nat)(n:ae)(x:ah):ah:=.mk x.ag x.ax (ez f n.af x.af)
def rwF(f:Nat)(n:ae)(fd:List ah)(k:Nat):List ah:=(fd.take k).map (dnF f n)++fd.drop k
def Fv(f:Nat)(n:ae)(fd:List ah):rwF f n fd 0=fd:=rfl
def qe{f:Nat}{n:ae}{fd:List ah}{k:Nat}(h:k<=fd.length):(rwF f n fd k).length=fd.length:=by rw [rwF,List.length_append,List.length_map,List.length_take,List.length_drop];omega
def U4{f:Nat}{n:ae}{fd:List ah}{k:Nat}(h:k<=fd.length):(rwF f n fd k).take k=(fd.take k).map (dnF f n):=by
 have hl:((fd.take k).map (dnF f n)).length=k:=by rw [List.length_map,List.length_take];omega
 conv=>lhs;rw [rwF];arg 1;rw [<- hl]
 rw [List.take_left]
def Mr{f:Nat}{n:ae}{fd:List ah}{k:Nat}(h:k<=fd.length):(rwF f n fd k).drop k=fd.drop k:=by
 have hl:((fd.take k).map (dnF f n)).length=k:=by rw [List.length_map,List.length_take];omega
 conv=>lhs;rw [rwF];arg 1;rw [<- hl]
 rw [List.drop_left]
def Ms{f:Nat}{n:ae}{fd:List ah}{k:Nat}(h:k<fd.length):at_ (rwF f n fd k) k=at_ fd k:=by
 have h1:=bq (l:=rwF f n fd k) (k:=k) (by rw [qe Ir];exact h)
 have h2:=bq h;rw [Mr Ir,h2] at h1;exact (List.cons.inj h1).1.symm
def RU{f:Nat}{n:ae}{fd:List ah}{k:Nat}(h:k<fd.length):(rwF f n fd k).drop (k+1)=fd.drop (k+1):=by rw [<- List.drop_drop,Mr Ir,List.drop_drop]
def IX{f:Nat}{n:ae}{fd:List ah}{k:Nat}(h:k<fd.length):(rwF f n fd k).set k (dnF f n (at_ fd k))=rwF f n fd (k+1):=by rw [Mg (by rw [qe Ir];exact h),U4 Ir,RU h,rwF,tk1 h,List.map_append,List.append_assoc];rfl
def IY(f:Nat)(n:ae)(fd:List ah):rwF f n fd fd.length=fd.map (dnF f n):=by rw [rwF,List.take_length,List.drop_length,List.append_nil]
def DX{f:Nat}{s:List ae}{l fd:List ah}{n:ae}{i:Nat}(h3:¬ n.aj=3)(h:n.aj=1\/n.aj=2)(hfd:l.filter (ndP n.ag)=fd)(hne:fd.isEmpty=false):chk f s l n i=fd.map (dnF f n):=by rw [chk,if_neg h3,if_pos h,hfd,if_neg (by rw [hne];simp)];rfl
def DY{f:Nat}{s:List ae}{l:List ah}{n:ae}{i:Nat}(h3:¬ n.aj=3)(h:n.aj=1\/n.aj=2)(hfd:l.filter (ndP n.ag)=[]):chk f s l n i=(if n.aj=1/\n.aZ=false/\n.aG.isEmpty=true/\at_ (dkF s false) i=false then (if (ez f n.af []).isEmpty=true then [] else [.mk n.ag [] (ez f n.af [])]) else []):=by rw [chk,if_neg h3,if_pos h,hfd];rfl
end Go.Dt
