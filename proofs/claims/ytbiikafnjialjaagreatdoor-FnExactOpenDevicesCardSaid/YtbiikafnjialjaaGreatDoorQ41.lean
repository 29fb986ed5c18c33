/- Part of a proof. -/
import Derived.Lay
import Derived.MakeChecks
import Derived.Test.YtbiikafnjialjaaGreatDoorQ33
import Derived.Test.YtbiikafnjialjaaGreatDoorQ40
set_option linter.all false
set_option maxRecDepth 20000
set_option maxHeartbeats 4000000
open Go.Proofs.Tryz
open List
namespace Go.Proofs
open Go.Ab Go.Dt
attribute [-instance] lV mP cPf
attribute [local go_sem] nZ
instance(L:gaa)(p:bR)(n v:Str):Ctr L prog 125 [] [.agg [.str p.ae,.aa p.fType.aj,.ab 2 aW p.fType.az,.al p.fType.aB,.str p.fType.aZ,.str p.fType.aG],.vp [.str n,.str v]] (.ac (p.ae == n)) [] True:=by
 refine Ctr.bd func125 ntmps125 λhp=>?_
 all_goals exact uU
instance(L:gaa)(p:bR)(n v:Str):Ctr L prog 127 [] [.agg [.str p.ae,.aa p.fType.aj,.ab 2 aW p.fType.az,.al p.fType.aB,.str p.fType.aZ,.str p.fType.aG],.vp [.str n,.str v]] (.ac (p.ae == n)) [] True:=by
 refine Ctr.bd func127 ntmps127 λhp=>?_
 all_goals exact uU
instance(l:List bR)(n v:Str):Ctr lim prog 126 [] [.ab 6 bB l,.fn 125 [.vp [.str n,.str v]]] (.aa (j7 l n)) [] True:=by
 refine Ctr.bd func126 ntmps126 λhp=>?_;refine AW.f0 0 λhf=>?_;refine vU1 ?_;refine AW.aw [8] [0,1,7] (λm xs o=>∃k:Nat,xs=[.aa k]/\o=[]/\m=l.length - k/\k<=l.length/\∀x∈l.take k,(x.ae == n)=false) l.length [] trivial ⟨0,?_,rfl,rfl,?_,?_⟩ ?_
 ·rfl
 ·omega
 ·simp
 rintro m xs o ⟨k,rfl,rfl,rfl,hk,hR⟩
 (refine vU3 ?_ ?_ ?_<;>with_reducible repeat intro h)
 ·rw[j7,gR baa hR (by simpa using h)]
 ·exact⟨_,[_],[],Yt,⟨k+1,rfl,rfl,rfl,Yt,bV baa hR (by simpa using h)⟩,rfl,trivial⟩
 ·rw[j7,jr h hR]
instance(l:List bR)(n v:Str):Ctr lim prog 126 [] [.ab 6 bB l,.fn 127 [.vp [.str n,.str v]]] (.aa (j7 l n)) [] True:=by
 refine Ctr.bd func126 ntmps126 λhp=>?_;refine AW.f0 0 λhf=>?_;refine vU1 ?_;refine AW.aw [8] [0,1,7] (λm xs o=>∃k:Nat,xs=[.aa k]/\o=[]/\m=l.length - k/\k<=l.length/\∀x∈l.take k,(x.ae == n)=false) l.length [] trivial ⟨0,?_,rfl,rfl,?_,?_⟩ ?_
 ·rfl
 ·omega
 ·simp
 rintro m xs o ⟨k,rfl,rfl,rfl,hk,hR⟩
 (refine vU3 ?_ ?_ ?_<;>with_reducible repeat intro h)
 ·rw[j7,gR baa hR (by simpa using h)]
 ·exact⟨_,[_],[],Yt,⟨k+1,rfl,rfl,rfl,Yt,bV baa hR (by simpa using h)⟩,rfl,trivial⟩
 ·rw[j7,jr h hR]
instance(l:List bR)(n v:Str):Ctr lim prog 124 [] [.ab 6 bB l,.fn 125 [.vp [.str n,.str v]]] (.ac (decide (0<=j7 l n))) [] True:=by
 refine Ctr.bd func124 ntmps124 λhp=>?_
 all_goals exact uU
section
variable (ip : Str -> Bool) (cb : dB -> Str -> Bool) (cs : dB -> Str -> Str)
theorem CA(t:aE)(l:List cM)(hcs:∀x s,s.length<=1048576->(cs x s).length<=1048576)
  (hT:∀x:aE,Ctr lim prog 123 [] [.agg [.str x.ae,.ab 6 bB x.aI,.ab 3 ai x.dq]] (.ac (dF ip x)) [] (wt x.dq<=1048576/\x.aI.length<=1048576))
  (hC:∀(x:dB) (s:Str),Ctr lim prog 128 [] [.agg [.aa x.aj,.ab 2 aW x.az,.al x.aB,.str x.aZ,.str x.aG],.str s] (.tup [.str (cs x s),.ac (cb x s)]) [] (s.length<=1048576)) :
  Ctr lim prog 66 [] [.agg [.str t.ae,.ab 6 bB t.aI,.ab 3 ai t.dq],.ab 2 cn l] (.tup [.ad 3 ai (ftN ip cb cs t l),.aa (ftC ip cb t l)]) [] (wt t.dq<=1048576/\t.aI.length<=1048576/\l.length<=1048576/\eD l):=by
 refine Ctr.bd func66 ntmps66 λhp=>?_;have hA:=hp.2.2.2
 (refine vU2 ?_ ?_<;>intro h)
 ·have e:dF ip t=false:=by simpa using h
  simp[ftN,oB,ftC,e]
 have eT:dF ip t=true:=by simpa using h
 refine AW.aw [6,22] [1,2,20,21] (λm xs o=>∃k:Nat,xs=[.am ((l.take k).map cM.ae),.aa k]/\o=[]/\m=l.length - k/\k<=l.length/\cz (nR t.aI l) k=true) l.length [] trivial ⟨0,?_,rfl,rfl,?_,rfl⟩ ?_
 ·rfl
 ·omega
 rintro m xs o ⟨k,rfl,rfl,rfl,hk,hR⟩;have hlt:(l.take k).length=k:=by rw[length_take];omega
 refine vK1 ?_;refine AW.c (λh=>?_) λh=>?_
 ·have hk2:k<l.length:=by simpa using h
  refine vN1 ?_;refine AW.Gr λK hK=>?_
  (refine vN1 ?_;intro h)
  refine AW.imp (Imp.vpO 8 (b:=h) (off:=0) (cells:=[.str (at_ l k).ae,.str (at_ l k).aq]) gO gO rfl ?_);refine gS ?_;have hf:=Pf hk2
  (refine vU ?_;with_reducible repeat' first|exact Le.l|apply Sw|intro(K:_->_->Prop) hK|intro h)
  ·rw[h];rfl
  ·have e:nR t.aI l k=false:=by
    rw[nR];rw[hf]at h;revert h;cases decide (0<=j7 t.aI (at_ l k).ae)<;>cases decide (idx (iF (at_ l k).ae) l=k)<;>simp
   simp[ftN,oB,ftC,eT,IM hk2 e]
  ·have e:nR t.aI l k=true:=by
    rw[nR];rw[hf]at h;revert h;cases decide (0<=j7 t.aI (at_ l k).ae)<;>cases decide (idx (iF (at_ l k).ae) l=k)<;>simp
   exact⟨_,[_,_],[],Yt,⟨k+1,by rw[rZ hk2,map_append,map_append];rfl,rfl,rfl,Yt,cy hR e⟩,rfl,trivial⟩
 have hk3:¬k<l.length:=by simpa using h
 obtain rfl:k=l.length:=by omega
 (refine vU2 ?_ ?_<;>intro h)
 ·have e:lL t.aI l=false:=by rw[lL,decide_eq_false (by simp at h;omega),Bool.and_false]
  simp[ftN,oB,ftC,eT,e]
 have eA:lL t.aI l=true:=by rw[lL,hR,decide_eq_true (by simp at h;omega)];rfl
 have eN:eD (l.map (cnA cs t.aI)):=λa ha=>by
  obtain⟨x,hx,rfl⟩:=List.mem_map.1 ha;exact hcs _ _ (hA x hx)
 refine AW.aw [9,54] [2,52,53] (λm xs o=>∃k:Nat,xs=[.ad 2 cn ((l.take k).map (cnA cs t.aI)),.aa k]/\o=[]/\m=l.length - k/\k<=l.length/\cz (λj=>cnB cb t.aI (at_ l j)) k=true) l.length [] trivial ⟨0,?_,rfl,rfl,?_,rfl⟩ ?_
 ·rfl
 ·omega
 rintro m xs o ⟨k,rfl,rfl,rfl,hk,hQ⟩;have hlt:(l.take k).length=k:=by rw[length_take];omega
 refine vK1 ?_;refine AW.c (λh=>?_) λh=>?_
 ·have hk2:k<l.length:=by simpa using h
  refine vN1 ?_;refine AW.Gr λK hK=>?_
  (refine vN1 ?_;intro h)
  refine AW.imp (Imp.vpO 11 (b:=h) (off:=0) (cells:=[.str (at_ l k).ae,.str (at_ l k).aq]) gO gO rfl ?_);refine gS ?_;have h0:=E4 eA hk2
  have h1:=M9 t.aI (at_ l k).ae
  have h2:=hA _ (at_mem hk2)
  have h3:=hcs (at_ t.aI (j7 t.aI (at_ l k).ae).toNat).fType _ h2
  (refine vU ?_;with_reducible repeat' first|exact Le.l|apply Sw|intro(K:_->_->Prop) hK|intro h)
  ·have e:cz (λj=>cnB cb t.aI (at_ l j)) l.length=false:=cV hk2 (by simpa[cnB,prT]using h);simp[ftN,oB,ftC,eT,eA,e]
  ·exact⟨_,[_,_],[],Yt,⟨k+1,by rw[rZ hk2,map_append,map_append];rfl,rfl,rfl,Yt,cy hQ (by simpa[cnB,prT]using h)⟩,rfl,trivial⟩
 have hk3:¬k<l.length:=by simpa using h
 obtain rfl:k=l.length:=by omega
 rw[take_length]
 (refine vU ?_;with_reducible repeat' first|exact Le.l|apply Sw|intro(K:_->_->Prop) hK|intro h)
 ·simp[ftN,oB,ftC,eT,eA,hQ]
theorem BU(t:aE)(l:List cM)(hcs:∀x s,s.length<=1048576->(cs x s).length<=1048576)
  (hT:∀x:aE,Ctr lim prog 108 [] [.agg [.str x.ae,.ab 6 bB x.aI,.ab 3 ai x.dq]] (.ac (dF ip x)) [] (wt x.dq<=1048576/\x.aI.length<=1048576))
  (hC:∀(x:dB) (s:Str),Ctr lim prog 111 [] [.agg [.aa x.aj,.ab 2 aW x.az,.al x.aB,.str x.aZ,.str x.aG],.str s] (.tup [.str (cs x s),.ac (cb x s)]) [] (s.length<=1048576)) :
  Ctr lim prog 58 [] [.agg [.str t.ae,.ab 6 bB t.aI,.ab 3 ai t.dq],.ab 2 cn l] (.tup [.ad 3 ai (ftN ip cb cs t l),.aa (ftC ip cb t l)]) [] (wt t.dq<=1048576/\t.aI.length<=1048576/\l.length<=1048576/\eD l):=by
 refine Ctr.bd func58 ntmps58 λhp=>?_;have hA:=hp.2.2.2
 (refine vU2 ?_ ?_<;>intro h)
 ·have e:dF ip t=false:=by simpa using h
  simp[ftN,oB,ftC,e]
 have eT:dF ip t=true:=by simpa using h
 refine AW.aw [7] [1,2,6] (λm xs o=>∃k:Nat,xs=[.aa k]/\o=[]/\m=l.length - k/\k<=l.length/\cz (nR t.aI l) k=true) l.length [] trivial ⟨0,?_,rfl,rfl,?_,rfl⟩ ?_
 ·rfl
 ·omega
 rintro m xs o ⟨k,rfl,rfl,rfl,hk,hR⟩;refine vK1 ?_;refine AW.c (λh=>?_) λh=>?_
 ·have hk2:k<l.length:=by simpa using h
  (refine vU2 ?_ ?_<;>intro h)
  ·have e:nR t.aI l k=false:=by
    rw[nR];by_cases h9:j7 t.aI (at_ l k).ae<0
    ·rw[decide_eq_false Yt];rfl
    ·rw[decide_eq_false h9]at h;rw[decide_eq_false (p:=idx _ _=_) (by simpa using h),Bool.and_false]
   simp[ftN,oB,ftC,eT,IM hk2 e]
  ·have e:nR t.aI l k=true:=by
    rw[nR];by_cases h9:j7 t.aI (at_ l k).ae<0
    ·rw[decide_eq_true h9]at h;cases h
    ·rw[decide_eq_false h9]at h;rw[decide_eq_true (p:=idx _ _=_) (by simpa using h),decide_eq_true Yt];rfl
   exact⟨_,[_],[],Yt,⟨k+1,rfl,rfl,rfl,Yt,cy hR e⟩,rfl,trivial⟩
 have hk3:¬k<l.length:=by simpa using h
 obtain rfl:k=l.length:=by omega
 (refine vU2 ?_ ?_<;>intro h)
 ·have e:lL t.aI l=false:=by rw[lL,decide_eq_false (by simp at h;omega),Bool.and_false]
  simp[ftN,oB,ftC,eT,e]
 have eA:lL t.aI l=true:=by rw[lL,hR,decide_eq_true (by simp at h;omega)];rfl
 have eN:eD (l.map (cnA cs t.aI)):=λa ha=>by
  obtain⟨x,hx,rfl⟩:=List.mem_map.1 ha;exact hcs _ _ (hA x hx)
 refine AW.aw [8,9] [1,2,6] (λm xs o=>∃k:Nat,xs=[.ad 2 cn ((l.take k).map (cnA cs t.aI)),.aa k]/\o=[]/\m=l.length - k/\k<=l.length/\cz (λj=>cnB cb t.aI (at_ l j)) k=true) l.length [] trivial ⟨0,?_,rfl,rfl,?_,rfl⟩ ?_
 ·rfl
 ·omega
 rintro m xs o ⟨k,rfl,rfl,rfl,hk,hQ⟩;have hlt:(l.take k).length=k:=by rw[length_take];omega
 refine vK1 ?_;refine AW.c (λh=>?_) λh=>?_
 ·have hk2:k<l.length:=by simpa using h
  have h0:=E4 eA hk2
  have h1:=M9 t.aI (at_ l k).ae
  have h2:=hA _ (at_mem hk2)
  have h3:=hcs (at_ t.aI (j7 t.aI (at_ l k).ae).toNat).fType _ h2
  (refine vU ?_;with_reducible repeat' first|exact Le.l|apply Sw|intro(K:_->_->Prop) hK|intro h)
  ·have e:cz (λj=>cnB cb t.aI (at_ l j)) l.length=false:=cV hk2 (by simpa[cnB,prT]using h);simp[ftN,oB,ftC,eT,eA,e]
  ·exact⟨_,[_,_],[],Yt,⟨k+1,by rw[rZ hk2,map_append,map_append];rfl,rfl,rfl,Yt,cy hQ (by simpa[cnB,prT]using h)⟩,rfl,trivial⟩
 have hk3:¬k<l.length:=by simpa using h
 obtain rfl:k=l.length:=by omega
 rw[take_length]
 (refine vU ?_;with_reducible repeat' first|exact Le.l|apply Sw|intro(K:_->_->Prop) hK|intro h)
 ·simp[ftN,oB,ftC,eT,eA,hQ]
end
end Go.Proofs
namespace Go.Dt
open Go.Ab
def O0:∀(k u:Nat),u<10 ^ k->(dg u).length<=k
 | 0,u,h=>by
  have:u=0:=by simpa using h
  subst this;simp[dg]
 | k+1,u,h=>by
  by_cases e:u=0
  ·subst e;simp[dg]
  ·rw[D5 e,length_append];have:=O0 k (u / 10) (by rw[Nat.pow_succ]at h;omega);simp only[length_singleton];omega
def TZ{n:Int}(h:-1000000000<=n/\n<=1000000000):(Lib.itoa n).length<=11:=by
 by_cases e:n=0
 ·subst e;rw[EI];simp
 ·rw[DF e];have:=O0 10 n.natAbs Yt;split
  ·simp only[length_cons];omega
  ·omega
def O3(x:dB)(s:Str)(h:s.length<=1048576):(cvS x s).length<=1048576:=by
 have h1:=TZ (yI s);unfold cvS
 cases cvB x s with
 | false=>simp
 | true =>
  simp only[cond_true];unfold cvT tW
  repeat' split
  all_goals first|omega|(simp[vB,sJ])
end Go.Dt
namespace Go.Proofs
open Go.Ab Go.Dt
attribute [-instance] lV mP cPf
instance tK(t:aE)(l:List cM):Ctr lim prog 66 [] [.agg [.str t.ae,.ab 6 bB t.aI,.ab 3 ai t.dq],.ab 2 cn l] (.tup [.ad 3 ai (ftN dV cvB cvS t l),.aa (ftC dV cvB t l)]) [] (wt t.dq<=1048576/\t.aI.length<=1048576/\l.length<=1048576/\eD l) :=
 CA dV cvB cvS t l O3 (λ_=>inferInstance) (λ_ _=>inferInstance)
instance tr(t:aE)(l:List cM):Ctr lim prog 58 [] [.agg [.str t.ae,.ab 6 bB t.aI,.ab 3 ai t.dq],.ab 2 cn l] (.tup [.ad 3 ai (ftN dV cvB cvS t l),.aa (ftC dV cvB t l)]) [] (wt t.dq<=1048576/\t.aI.length<=1048576/\l.length<=1048576/\eD l) :=
 BU dV cvB cvS t l O3 (λ_=>inferInstance) (λ_ _=>inferInstance)
end Go.Proofs
namespace Go.Dt
open Go Go.Ab
def pd(s:List ag)(l:List ah):Option (List ah):=if kJ s=true/\cnt l<=120 then iJ (dk s) [] l else none
def Gh{s:List ag}{l:List ah}(h:¬(kJ s=true/\cnt l<=120)):pd s l=none:=if_neg h
def JC{s:List ag}{l:List ah}(h:kJ s=true/\cnt l<=120):pd s l=iJ (dk s) [] l:=if_pos h
def UK{a:List cM}(ha:∀x∈a,x.aq.length<=40)(n:Str):((nD a n).getD []).length<=40:=by
 unfold nD;have:=gu (p:=iF n) a;split
 ·simp
 ·exact ha _ (at_mem Yt)
def Da{a:List cM}(ha:∀x∈a,x.aq.length<=40):∀d:List Tok,(jh a d).length<=40 * d.length
 | []=>by simp[jh]
 | .inl c::d=>by
  have ih:=Da ha d;simp only[jh,length_cons];omega
 | .inr n::d=>by
  have ih:=Da ha d
  have h1:=UK ha n;simp only[jh,length_append,length_cons];omega
def Ul{a:List cM}(ha:∀x∈a,x.aq.length<=40){s:Str}(hs:s.length<=40):(flS a (tk s)).length<=1600:=by
 have h1:=Da ha (tk s).1
 have h2:=Bz s;unfold flS
 cases flB a (tk s)with
 | false=>simp
 | true=>rw[cond_true];omega
def y4{a:List cM}(ha:∀x∈a,x.aq.length<=40):∀l:List ah,frm l=true->wt (wy a l)<=1617 * cnt l
 | [],_=>by rw[wy,jB];omega
 | .mk n v ks::xs,h=>by
  rw[frm,Bool.and_eq_true,Bool.and_eq_true]at h;have h1:=y4 ha ks h.1.2
  have h2:=y4 ha xs h.2
  have h3:=h.1.1;rw[mX,Bool.and_eq_true,Bool.and_eq_true]at h3;have h4:=Au h3.1.1
  have h5:=Ul ha (Ac h3.1.2);rw[wy,lF,jK,iX];simp only[ah.ae,ah.aq,ah.af]at h4 h5 ⊢;omega
def OH(ip:Str->Bool)(cb:dB->Str->Bool)(t:aE)(l:List cM):wt (ftN ip cb cvS t l)<=1048576:=by
 unfold ftN
 cases h:oB ip cb t l with
 | false=>rw[cond_false,jB];omega
 | true =>
  rw[cond_true,<- tP];simp only[oB,dF,qu,Bool.and_eq_true,decide_eq_true_eq]at h
  have:=y4 (a:=l.map (cnA cvS t.aI)) (λx hx=>by
   obtain⟨y,_,rfl⟩:=List.mem_map.1 hx
   exact rR _ _) t.dq (by simp[h])
  have h2:cnt t.dq<=120:=by simp[h]
  omega
end Go.Dt
namespace Go.Proofs
open Go.Ab Go.Dt
attribute [-instance] lV mP cPf
def gG(T:List aE)(s:List ag)(x:bt):List ah×Int :=
 if tmI T x.bJ<0 then ([],2) else
 if ¬ftC dV cvB (at_ T (tmI T x.bJ).toNat) x.fArgs=0 then ([],2) else
 match pd s (ftN dV cvB cvS (at_ T (tmI T x.bJ).toNat) x.fArgs)with
 | none=>([],3)
 | some out=>(out,0)
attribute [local go_sem] bL aV bu jI jf
instance zQ(s:List ag)(l:List ah):Ctr lim prog 67 [] [.ab 19 ak s,.ab 3 ai l] (.tup [.ad 3 ai ((pd s l).getD []),.ac (pd s l).isSome]) [] (wtS s<=1048576/\wt l<=1048576):=by
 have hpl:=Gu (SizeOf.sizeOf l+1) s l;refine Ctr.bd func67 ntmps67 λhp=>?_;have gOn:=bM.on;obtain⟨h1,h2⟩:=hp;refine vK1 ?_;refine AW.c (λh=>?_) λh=>?_
 ·refine vU1 ?_;rw[Gh (λc=>by have:=c.2;rcases h with h|h<;>first|(rw[c.1]at h;cases h)|omega)];rfl
 ·rw[JC ⟨h.1,Yt⟩]
  cases hq:iJ (dk s) [] l with
  | none =>
   rw[hq]at hpl;simp only[srO]at hpl
   (refine vU1 ?_;intro h)
   try rfl
  | some out =>
   rw[hq]at hpl;simp only[srO]at hpl;exact vU0
   try rfl
instance zE(s:List ag)(l:List ah):Ctr lim prog 59 [] [.ab 19 ak s,.ab 3 ai l] (.tup [.ab 3 ai ((pd s l).getD []),.ac (pd s l).isSome]) [] (wtS s<=1048576/\wt l<=1048576):=by
 have hpl:=JG (SizeOf.sizeOf l+1) (dk s) l;refine Ctr.bd func59 ntmps59 λhp=>?_;have gOn:=bM.on;obtain⟨h1,h2⟩:=hp;have hc:=iq s
 have hd:∀y∈dk s,wtS y.af<=1048576:=λy hy=>by have:=ke _ y hy;omega
 have e1:0<=gf l (120 - l.length)↔cnt l<=120:=by
  unfold cnt;rcases Int.lt_or_le (120 - (l.length:Int)) 0 with h|h
  ·rw[mo l h];omega
  ·have:=(rK l _ h).1;omega
 refine vK1 ?_;refine AW.c (λh=>?_) λh=>?_
 ·refine vX1 ?_;refine AW.imp (Imp.frz 4 ?_);refine vU1 ?_;rw[Gh (λc=>by have:=c.2;rcases h with h|h<;>first|(rw[c.1]at h;cases h)|omega)];rfl
 ·rw[JC ⟨h.1,Yt⟩]
  cases hq:iJ (dk s) [] l with
  | none =>
   rw[hq]at hpl;simp only[srF]at hpl
   (refine vX2 ?_ ?_<;>with_reducible repeat intro h)
   ·exact hd _ baa
   ·refine AW.imp (Imp.frz 4 ?_);refine vU1 ?_
    try rfl
  | some out =>
   rw[hq]at hpl;simp only[srF]at hpl
   (refine vU1 ?_;intro h h h h)
   ·exact hd _ baa
instance(t:aE)(l:List cM):Ctr lim prog 66 [] [.agg [.str t.ae,.ab 6 bB t.aI,.ab 3 ai t.dq],.ab 2 cn l] (.tup [.ab 3 ai (ftN dV cvB cvS t l),.aa (ftC dV cvB t l)]) [] (wt t.dq<=1048576/\t.aI.length<=1048576/\l.length<=1048576/\eD l) :=
 Ctr.ld (aU 66) λc=>by
  have:=((tK t l).pure c).frz;simpa only[AV.frz,AV.cH,bu,cond_true]using this
instance(t:aE)(l:List cM):Ctr lim prog 58 [] [.agg [.str t.ae,.ab 6 bB t.aI,.ab 3 ai t.dq],.ab 2 cn l] (.tup [.ab 3 ai (ftN dV cvB cvS t l),.aa (ftC dV cvB t l)]) [] (wt t.dq<=1048576/\t.aI.length<=1048576/\l.length<=1048576/\eD l) :=
 Ctr.ld (aU 58) λc=>by
  have:=((tr t l).pure c).frz;simpa only[AV.frz,AV.cH,bu,cond_true]using this
attribute [-instance] tK tr
instance(T:List aE)(S:List bt)(s:List ag)(x:bt):Ctr lim prog 15 [] [.agg [.ab 3 aK T,.ab 4 aP S],.ab 19 ak s,.agg [.str x.ae,.str x.bJ,.ab 2 cn x.fArgs,.al x.cq]] (.tup [.sl true 3 ((gG T s x).1.map (ai true)),.aa (gG T s x).2]) [] (nG T/\wtS s<=1048576/\x.fArgs.length<=1048576/\eD x.fArgs):=by
 refine Ctr.bd func15 ntmps15 λhp=>?_;have gOn:=bM.on;obtain⟨ht,h1,h2,h3⟩:=hp;have hi:=gu (p:=λt:aE=>t.ae == x.bJ) T
 have hb:=λhq=>ht _ (at_mem (l:=T) (k:=(tmI T x.bJ).toNat) hq)
 have hw:=OH dV cvB (at_ T (tmI T x.bJ).toNat) x.fArgs;change tmI T x.bJ<_ at hi;refine vK1 ?_;refine AW.c (λh=>?_) λh=>?_
 ·refine vU1 ?_;rw[gG,if_pos h];rfl
 have h0:¬tmI T x.bJ<0:=by omega
 clear h;refine vK1 ?_;refine AW.c (λh=>?_) λh=>?_
 ·refine vU1 ?_;rw[gG,if_neg h0,if_pos h];rfl
 have h5:¬ ¬ftC dV cvB (at_ T (tmI T x.bJ).toNat) x.fArgs=0:=λc=>c h;clear h
 cases hq:pd s (ftN dV cvB cvS (at_ T (tmI T x.bJ).toNat) x.fArgs)with
 | none =>
  have hss:=zQ s (ftN dV cvB cvS (at_ T (tmI T x.bJ).toNat) x.fArgs);rw[hq]at hss;simp only[Option.getD_none,Option.isSome_none,map_nil]at hss
  (refine vU1 ?_;intro h)
  rw[gG,if_neg h0,if_neg h5,hq];rfl
 | some out =>
  have hss:=zQ s (ftN dV cvB cvS (at_ T (tmI T x.bJ).toNat) x.fArgs);rw[hq]at hss;simp only[Option.getD_some,Option.isSome_some]at hss
  (refine vU1 ?_;intro h)
  rw[gG,if_neg h0,if_neg h5,hq]
instance(T:List aE)(S:List bt)(s:List ag)(x:bt):Ctr lim prog 11 [] [.agg [.ab 3 aK T,.ab 4 aP S],.ab 19 ak s,.agg [.str x.ae,.str x.bJ,.ab 2 cn x.fArgs,.al x.cq]] (.tup [.sl false 3 ((gG T s x).1.map (ai false)),.aa (gG T s x).2]) [] (nG T/\wtS s<=1048576/\x.fArgs.length<=1048576/\eD x.fArgs):=by
 refine Ctr.bd func11 ntmps11 λhp=>?_;have gOn:=bM.on;obtain⟨ht,h1,h2,h3⟩:=hp;have hi:=gu (p:=λt:aE=>t.ae == x.bJ) T
 have hb:=λhq=>ht _ (at_mem (l:=T) (k:=(tmI T x.bJ).toNat) hq)
 have hw:=OH dV cvB (at_ T (tmI T x.bJ).toNat) x.fArgs;change tmI T x.bJ<_ at hi;refine vK1 ?_;refine AW.c (λh=>?_) λh=>?_
 ·refine vX1 ?_;refine AW.imp (Imp.frz 6 ?_);refine vU1 ?_;rw[gG,if_pos h];rfl
 have h0:¬tmI T x.bJ<0:=by omega
 clear h;refine vK1 ?_;refine AW.c (λh=>?_) λh=>?_
 ·refine vX1 ?_;refine AW.imp (Imp.frz 6 ?_);refine vU1 ?_;rw[gG,if_neg h0,if_pos h];rfl
 have h5:¬ ¬ftC dV cvB (at_ T (tmI T x.bJ).toNat) x.fArgs=0:=λc=>c h;clear h
 cases hq:pd s (ftN dV cvB cvS (at_ T (tmI T x.bJ).toNat) x.fArgs)with
 | none =>
  have hss:=zE s (ftN dV cvB cvS (at_ T (tmI T x.bJ).toNat) x.fArgs);rw[hq]at hss;simp only[Option.getD_none,Option.isSome_none,map_nil]at hss
  (refine vX1 ?_;intro h)
  refine AW.imp (Imp.frz 6 ?_);refine vU1 ?_;rw[gG,if_neg h0,if_neg h5,hq];rfl
 | some out =>
  have hss:=zE s (ftN dV cvB cvS (at_ T (tmI T x.bJ).toNat) x.fArgs);rw[hq]at hss;simp only[Option.getD_some,Option.isSome_some]at hss
  (refine vU1 ?_;intro h)
  rw[gG,if_neg h0,if_neg h5,hq]
end Go.Proofs
namespace Go.Dt
open Go Go.Ab
def Ut{l:List cM}{r:Int}(h0:0<=r)(h1:r<=1048576)(h:0<=aM iQ l r):eD l/\l.length<=1048576:=by
 have hl:=xg h;refine⟨?_,Yt⟩;rcases Int.lt_or_le (r - l.length) 0 with h2|h2
 ·rw[fM h2]at h;omega
 rw[fY h2]at h
 have key:∀(l:List cM) (q:Int),0<=q->q<=1048576->0<=eH iQ l q->eD l:=by
  intro l
  induction l with
  | nil=>intro _ _ _ _ a ha;cases ha
  | cons x xs ih =>
   intro q h0 h1 h a ha;rw[eH,thn]at h;split at h
   ·omega
   ·have hle:=oy x q h0;rcases List.mem_cons.1 ha with rfl|ha
    ·rename_i hx;simp only[iQ,thn,aA,id]at hx
     (repeat' split at hx)<;>omega
    ·exact ih _ Yt Yt h a ha
 exact key l _ h2 Yt h
def PN{x:bt}{r:Int}(h0:0<=r)(h1:r<=1048576)(h:0<=fE x r):eD x.fArgs/\x.fArgs.length<=1048576:=by unfold fE at h;obtain⟨a0,h⟩:=aH h;have l0:=aT x.ae r h0;obtain⟨a1,h⟩:=aH h;have l1:=aT x.bJ (aA x.ae r) a0;obtain⟨a2,h⟩:=aH h;exact Ut a1 Yt a2
end Go.Dt
namespace Go.Proofs
open Go.Ab Go.Dt
section
attribute [-instance] lV mP cPf
section
variable (ip : Str -> Bool)
variable [hs : ∀x : aE, Ctr lim prog 108 [] [.agg [.str x.ae, .sl false 6 (x.aI.map (bB false)), .sl false 3 (x.dq.map (ai false))]] (.v (.bool (dF ip x))) [] (wt x.dq <= 1048576 /\ x.aI.length <= 1048576)]
variable [hi : ∀x : aE, Ctr lim prog 123 [] [.agg [.str x.ae, .sl false 6 (x.aI.map (bB false)), .sl false 3 (x.dq.map (ai false))]] (.v (.bool (dF ip x))) [] (wt x.dq <= 1048576 /\ x.aI.length <= 1048576)]
omit hs in
include hi in
theorem Ox(T:List aE)(S:List bt):Ctr lim prog 87 [] [.agg [.ab 3 aK T,.ab 4 aP S]] (.ac (kK ip T S)) [] (nG T):=by
 refine Ctr.bd func87 ntmps87 λhp=>?_;refine AW.f1 0 λhf=>?_;refine vU1 ?_;refine AW.aw [3,12] [1,10,11] (λm xs o=>∃k:Nat,xs=[.am ((T.take k).map aE.ae),.aa k]/\o=[]/\m=T.length - k/\k<=T.length/\cz (λj=>dF ip (at_ T j)) k=true) T.length [] trivial ⟨0,?_,rfl,rfl,?_,rfl⟩ ?_
 ·rfl
 ·omega
 rintro m xs o ⟨k,rfl,rfl,rfl,hk,hR⟩;have hlt:(T.take k).length=k:=by rw[length_take];omega
 refine vK1 ?_;refine AW.c (λh=>?_) λh=>?_
 ·have hpk:=hp _ (at_mem (l:=T) (k:=k) Yt)
  have hkT:k<T.length:=by omega
  (refine vU2 ?_ ?_<;>with_reducible repeat intro h)
  ·rw[Hw hkT h]
  ·refine⟨_,[_,_],[],Yt,⟨k+1,?_,rfl,rfl,Yt,cy hR h⟩,rfl,trivial⟩;rw[fo hkT,map_append,map_append];rfl
 ·refine AW.imp (Imp.frz 3 ?_);simp(maxSteps:=2000000) (disch:=omega)only[go_sem,bL]
  (refine vU2 ?_ ?_<;>intro h)
  ·rw[show k=T.length by omega,take_length]at h;rw[Qw (by rcases h with(h|h)|h;exact .inl (.inl Yt);exact .inl (.inr h);exact .inr Yt)]
  ·refine AW.aw [42] [1,40,41] (λm xs o=>∃j:Nat,xs=[.aa j]/\o=[]/\m=S.length - j/\j<=S.length/\cz (qJ T S) j=true) S.length [] trivial ⟨0,?_,rfl,rfl,?_,rfl⟩ ?_
   ·rfl
   ·omega
   rintro m xs o ⟨j,rfl,rfl,rfl,hj,hQ⟩
   (refine vU3 ?_ ?_ ?_<;>with_reducible repeat intro h)
   ·rw[Hx baa (Sy h)]
   ·exact⟨_,[_],[],Yt,⟨j+1,rfl,rfl,rfl,Yt,cy hQ (Pz h)⟩,rfl,trivial⟩
   ·rename_i h8 h9;rw[show k=T.length by omega,take_length]at h9;rw[show k=T.length by omega]at hR;rw[show j=S.length by omega]at hQ;rw[kK,hR,hQ,h9.1.2,show decide (T.length<=8)=true from decide_eq_true Yt,show decide (S.length<=8)=true from decide_eq_true Yt];rfl
omit hi in
include hs in
theorem M0(T:List aE)(S:List bt):Ctr lim prog 80 [] [.agg [.ab 3 aK T,.ab 4 aP S]] (.ac (kK ip T S)) [] (nG T):=by
 refine Ctr.bd func80 ntmps80 λhp=>?_;refine AW.f1 0 λhf=>?_;refine vU1 ?_;refine AW.aw [3] [1] (λm xs o=>∃k:Nat,xs=[.aa k]/\o=[]/\m=T.length - k/\k<=T.length/\cz (λj=>dF ip (at_ T j)) k=true/\cz (λj=>!cont ((T.map aE.ae).take j) (at_ (T.map aE.ae) j)) k=true) T.length [] trivial ⟨0,?_,rfl,rfl,?_,rfl,rfl⟩ ?_
 ·rfl
 ·omega
 rintro m xs o ⟨k,rfl,rfl,rfl,hk,hR,hD⟩;refine vK1 ?_;refine AW.c (λh=>?_) λh=>?_
 ·have hpk:=hp _ (at_mem (l:=T) (k:=k) Yt)
  have hkT:k<T.length:=by omega
  (refine vU2 ?_ ?_<;>intro h)
  ·rcases h with h|h
   ·rw[Hw hkT h]
   ·rw[LF hkT h]
  ·exact⟨_,[_],[],Yt,⟨k+1,rfl,rfl,rfl,Yt,cy hR h.1,cy hD (by rw[(ES aE.ae hkT).1 h.2];rfl)⟩,rfl,trivial⟩
 ·refine vU1 ?_;refine AW.aw [4] [1] (λm xs o=>∃j:Nat,xs=[.aa j]/\o=[]/\m=S.length - j/\j<=S.length/\cz (qJ T S) j=true) S.length [] trivial ⟨0,?_,rfl,rfl,?_,rfl⟩ ?_
  ·rfl
  ·omega
  rintro m xs o ⟨j,rfl,rfl,rfl,hj,hQ⟩
  (refine vU3 ?_ ?_ ?_<;>with_reducible repeat intro h)
  ·rw[Hx baa (PA h)]
  ·exact⟨_,[_],[],Yt,⟨j+1,rfl,rfl,rfl,Yt,cy hQ (MK h)⟩,rfl,trivial⟩
  ·rw[show k=T.length by omega]at hR hD;rw[show j=S.length by omega]at hQ;have hd:cE (T.map aE.ae)=true:=by unfold cE;rw[length_map];exact hD
   rw[kK,hR,hQ,hd,show decide ((T.length:Int)<=8)=decide (T.length<=8)from decide_eq_decide.2 Yt,show decide ((S.length:Int)<=8)=decide (S.length<=8)from decide_eq_decide.2 Yt];simp
end
end
end Go.Proofs
namespace Go.Ab
def wvL{A0 A1 A2 A3 A4 A5 A6 A7 A8 A9 A10 A11 G:Prop}(h:Wk A0 A1 A2 A3 A4 A5 A6 A7 A8 A9 A10 A11 G:=by
 constructor
 ·intro r0 r1 r2 r3 r4 r5 r6 r7 r8 r9 r10 r11 m
  (repeat' first|(with_reducible first|(refine X λhg=>?_)|refine Z ?_|refine Y ?_|(refine hK _ _ ?_;try clear hK K)|refine And.intro ?_ ?_|exact Ct|intro(K:_->_->Prop) hK|(refine gI λhg=>?_;try simp only[hC,reduceCtorEq]at hg;try simp only[hg]))|(refine AW.i rfl (λhg=>?_) (λhg=>?_)<;>try simp only[hC,reduceCtorEq]at hg)|((with_reducible refine E ?_;repeat refine Y ?_);refine eF rfl ?_)|simp(maxSteps:=2000000) (disch:=omega)only[go_sem]|(with_reducible intro hg;try simp only[hC,reduceCtorEq]at hg)|exact Cl|fail)
  all_goals (repeat' first|(with_reducible refine mkE ?_;with_reducible first|exact r0.r|exact r1.r|exact r2.r|exact r3.r|exact r4.r|exact r5.r|exact r6.r|exact r7.r|exact r8.r|exact r9.r|exact r10.r|exact r11.r)|revert ‹_›)
 all_goals first|exact Sl.d|exact Sl.x _):Wk A0 A1 A2 A3 A4 A5 A6 A7 A8 A9 A10 A11 G:=h
def vL{A0 A1 A2 A3 A4 A5 A6 A7 A8 A9 A10 A11 G:Prop}(r:(Lf A0 (Lf A1 (Lf A2 (Lf A3 (Lf A4 (Lf A5 (Lf A6 (Lf A7 (Lf A8 (Lf A9 (Lf A10 (Lf A11 Le)))))))))))))(h:Wk A0 A1 A2 A3 A4 A5 A6 A7 A8 A9 A10 A11 G:=by exact wvL):G:=h.go r
def vL4{A B C D G:Prop}(a:A)(b:B)(c:C)(d:D)(h:W4 A B C D G:=by exact wvL):G:=h.g4 a b c d
end Go.Ab
namespace Go.Dt
open Go.Ab
def ZH{x:aE}{r:Int}(h0:0<=r)(h:0<=dU x r):(wt x.dq:Int)<=r/\(x.aI.length:Int)<=r:=by
 unfold dU at h;obtain⟨a0,h⟩:=aH h;obtain⟨a1,h⟩:=aH h;obtain⟨a2,h⟩:=aH h;have a0':aA x.ae r<=r:=aT _ _ h0
 have e2:=ba gQ mi x.aI _ a0
 have e3:=Bt a1 a2
 have e4:=K5 a1;exact⟨Yt,Yt⟩
def L7{x:gN}(h:¬cw x 1048576<0):nG x.aC:=by have h:=Int.not_lt.1 h;unfold cw at h;obtain⟨a0,h⟩:=aH h;intro t ht;obtain⟨r',b,c,d⟩:=Pv jb a0 ht;have:=ZH b d;omega
end Go.Dt
namespace Go.Proofs
open Go.Ab Go.Dt
attribute [-instance] lV mP cPf
instance(T:List aE)(S:List bt):Ctr lim prog 87 [] [.agg [.ab 3 aK T,.ab 4 aP S]] (.ac (kK dV T S)) [] (nG T):=Ox dV T S
instance(T:List aE)(S:List bt):Ctr lim prog 80 [] [.agg [.ab 3 aK T,.ab 4 aP S]] (.ac (kK dV T S)) [] (nG T):=M0 dV T S
end Go.Proofs
namespace Go.Dt
open Go Go.Ab
def mxG:List ah->Nat
 | []=>0
 | .mk n v ks::xs=>max (max n.length v.length) (max (mxG ks) (mxG xs))
def GS:∀l:List ah,mxG l<=wt l
 | []=>by rw[mxG];omega
 | .mk n v ks::xs=>by
  have:=GS ks;have:=GS xs;rw[mxG,jK];simp only[ah.ae,ah.aq,ah.af];omega
def Dh(op:Int):∀l:List ah,mxE (edO op l)=mxG l
 | []=>by rw[edO,Ts,mxG]
 | .mk n v ks::xs=>by rw[edO,GU,mxG,Dh op xs];simp only[aL.ae,aL.aq,aL.af];rw[Dh op ks]
def OW(b:List ah):wtE (edO 1 b)<=wt b:=by
 have h1:=Bl 1 b
 have h2:=Dh 1 b
 have h3:=GS b
 have h4:=Iw b;unfold wtE;omega
end Go.Dt
namespace Go.Proofs
open Go.Ab Go.Dt
attribute [local go_sem] bL aV bu Ie jI jf
def vT{s:List ag}{l:List ah}(h:dw s l=true):∀x∈l,okX (dk s) x:=by simp only[dw,Bool.and_eq_true]at h;exact uO h.2
instance(s:List ag)(a b:List ah):Ctr lim prog 92 [] [.ab 19 ak s,.ab 3 ai a,.ab 3 ai b] (.ac (ma s a b)) [] (wtS s<=1048576/\wt a<=1048576/\wt b<=1048576):=by
 have hq:=Kj (SizeOf.sizeOf a+1) s a b;refine Ctr.bd func92 ntmps92 λhp=>?_;have gOn:=bM.on;obtain⟨h1,h2,h3⟩:=hp
 cases ea:dw s a with
 | false =>
  (refine vP1 ea ?_;with_reducible repeat first|intro(K:_->_->Prop) hK|intro h)
  rw[ma,ea];rfl
 | true =>
  cases eb:dw s b with
  | false =>
   (refine vP1 (And.intro ea eb) ?_;with_reducible repeat first|intro(K:_->_->Prop) hK|intro h)
   rw[ma,ea,eb];rfl
  | true =>
   have ha:=vT ea
   have hb:=vT eb
   (refine vP3 (And.intro ea eb) ?_ ?_ ?_<;>with_reducible repeat first|intro(K:_->_->Prop) hK|intro h)
   ·exact ha _ baa
   ·exact hb _ baa
   ·rw[ma,ea,eb];rfl
instance(s:List ag)(a b:List ah):Ctr lim prog 85 [] [.ab 19 ak s,.ab 3 ai a,.ab 3 ai b] (.ac (ma s a b)) [] (wtS s<=1048576/\wt a<=1048576/\wt b<=1048576):=by
 have hq:=JI (SizeOf.sizeOf a+1) s a b;refine Ctr.bd func85 ntmps85 λhp=>?_;have gOn:=bM.on;obtain⟨h1,h2,h3⟩:=hp
 cases ea:dw s a with
 | false =>
  (refine vP1 ea ?_;with_reducible repeat first|intro(K:_->_->Prop) hK|intro h)
  rw[ma,ea];rfl
 | true =>
  cases eb:dw s b with
  | false =>
   (refine vP1 (And.intro ea eb) ?_;with_reducible repeat first|intro(K:_->_->Prop) hK|intro h)
   rw[ma,ea,eb];rfl
  | true =>
   have ha:=vT ea
   have hb:=vT eb
   (refine vP3 (And.intro ea eb) ?_ ?_ ?_<;>with_reducible repeat first|intro(K:_->_->Prop) hK|intro h)
   ·exact ha _ baa
   ·exact hb _ baa
   ·rw[ma,ea,eb];rfl
instance(s:List ag)(a b:List ah):Ctr lim prog 91 [] [.ab 19 ak s,.ab 3 ai a,.ab 3 ai b] (.tup [.sl true 3 ((mgT s a b).1.map (ai true)),.aa (mgT s a b).2]) [] (wtS s<=1048576/\wt a<=1048576/\wt b<=1048576):=by
 have he:=Oy (SizeOf.sizeOf b+1) 1 b;refine Ctr.bd func91 ntmps91 λhp=>?_;have gOn:=bM.on;obtain⟨h1,h2,h3⟩:=hp;have hw:=OW b;refine vK1 ?_;refine AW.c (λh=>?_) λh=>?_
 ·refine vU1 ?_;rw[show mgT s a b=(a,1)from if_pos h]
 ·have hbt:=h;clear h;refine vU1 ?_;rw[show mgT s a b=mdT s a (edO 1 b)from if_neg (by rw[hbt];simp)]
instance(s:List ag)(a b:List ah):Ctr lim prog 84 [] [.ab 19 ak s,.ab 3 ai a,.ab 3 ai b] (.tup [.sl true 3 ((mgT s a b).1.map (ai true)),.aa (mgT s a b).2]) [] (wtS s<=1048576/\wt a<=1048576/\wt b<=1048576):=by
 have he:=M3 (SizeOf.sizeOf b+1) 1 b;refine Ctr.bd func84 ntmps84 λhp=>?_;have gOn:=bM.on;obtain⟨h1,h2,h3⟩:=hp;have hw:=OW b;refine vK1 ?_;refine AW.c (λh=>?_) λh=>?_
 ·refine vU1 ?_;rw[show mgT s a b=(a,1)from if_pos h]
 ·have hbt:=h;clear h;refine vU1 ?_;rw[show mgT s a b=mdT s a (edO 1 b)from if_neg (by rw[hbt];simp)]
end Go.Proofs
namespace Go.Dt
open Go Go.Ab
def Sq{a b:List ah}(h:a.Perm b):wt a=wt b:=by
 induction h with
 | nil=>rfl
 | cons x _ ih=>rw[jK,jK,ih]
 | swap x y l=>rw[jK,jK,jK,jK];omega
 | trans _ _ h1 h2=>exact h1.trans h2
def Tk{n:ag}{nm v:Str}{e:Bool}{ks:Option (List ah)}{y:ah}{c:Nat}(h:vS n nm v e ks=some (some y))(hk:∀k,ks=some k->wt k<=c):wt [y]<=41+nm.length+c:=by
 unfold vS at h;split at h
 ·split at h
  ·cases h;have:=rR n.fType v;rw[jK,jB];simp only[ah.ae,ah.aq,ah.af];rw[jB];omega
  ·cases h
 ·split at h
  ·cases h
  ·rename_i k;split at h
   ·split at h
    ·cases h
    ·cases h;have:=hk _ rfl;rw[jK,jB];simp only[ah.ae,ah.aq,ah.af,length_nil];omega
   ·cases h
def yH:∀(l:List ah) (d:List ag) (acc out:List ah),iJ d acc l=some out->wt out<=wt acc+wt l+40 * cnt l
 | [],d,acc,out,h=>by
  rw[vO]at h;cases h;omega
 | .mk nm v ks::xs,d,acc,out,h=>by
  rw[iJ]at h;rw[iX,jK];simp only[ah.ae,ah.aq,ah.af];split at h
  ·cases h
  ·split at h
   ·cases h
   ·have:=yH xs d acc out h;omega
   ·rename_i y hy;split at h
    ·cases h
    ·rename_i acc' hp;have h1:=yH xs d acc' out h
     have h2:=Sq (Go.Proofs.tu _ _ _ hp)
     have h3:=Tk (c:=wt ks+40 * cnt ks) hy λk hk=>by have:=yH ks _ _ _ hk;rw[jB]at this;omega
     rw[jK]at h2;rw[jK,jB]at h3;omega
def Uk(ip:Str->Bool)(cb:dB->Str->Bool)(t:aE)(l:List cM):wt (ftN ip cb cvS t l)<=194040:=by
 unfold ftN
 cases h:oB ip cb t l with
 | false=>rw[cond_false,jB];omega
 | true =>
  rw[cond_true,<- tP];simp only[oB,dF,qu,Bool.and_eq_true,decide_eq_true_eq]at h
  have:=y4 (a:=l.map (cnA cvS t.aI)) (λx hx=>by
   obtain⟨y,_,rfl⟩:=List.mem_map.1 hx
   exact rR _ _) t.dq (by simp[h])
  have h2:cnt t.dq<=120:=by simp[h]
  omega
def PF{s:List ag}{l out:List ah}(h:pd s l=some out):wt out<=wt l+4800:=by
 unfold pd at h;split at h
 ·have:=yH _ _ _ _ h;rw[jB]at this;omega
 ·cases h
end Go.Dt
namespace Go.Proofs
open Go.Ab Go.Dt
def MH(T:List aE)(s:List ag)(x:bt):wt (gG T s x).1<=1048576:=by
 unfold gG;split
 ·rw[jB];omega
 ·split
  ·rw[jB];omega
  ·split
   ·rw[jB];omega
   ·rename_i h;have h1:=PF h
    have h2:=Uk dV cvB (at_ T (tmI T x.bJ).toNat) x.fArgs;simp only;omega
def j8(T:List aE)(s:List ag)(dev:Str):List bt->List ah->List ah×Int
 | [],c=>(c,0)
 | x::xs,c =>
  if cont x.cq dev=false then j8 T s dev xs c
  else if ¬(gG T s x).2=0 then ([],(gG T s x).2)
  else if ¬(mgT s c (gG T s x).1).2=0 then ([],3)
  else if ma s c (mgT s c (gG T s x).1).1=false then ([],4)
  else j8 T s dev xs (mgT s c (gG T s x).1).1
def inT(T:List aE)(S:List bt)(s:List ag)(dev:Str)(l:List ah):List ah×Int :=
 if kK dV T S=true/\dw s l=true then j8 T s dev S l else ([],1)
section
variable {T : List aE} {s : List ag} {dev : Str} {S : List bt} {k : Nat} {c : List ah}
def Hz(h:k<S.length)(h1:cont (at_ S k).cq dev=false):j8 T s dev (S.drop k) c=j8 T s dev (S.drop (k+1)) c:=by rw[bT h,j8,if_pos h1]
def HA(h:k<S.length)(h1:¬cont (at_ S k).cq dev=false)(h2:¬(gG T s (at_ S k)).2=0):j8 T s dev (S.drop k) c=([],(gG T s (at_ S k)).2):=by rw[bT h,j8,if_neg h1,if_pos h2]
def RZ(h:k<S.length)(h1:¬cont (at_ S k).cq dev=false)(h2:¬ ¬(gG T s (at_ S k)).2=0)(h3:¬(mgT s c (gG T s (at_ S k)).1).2=0):j8 T s dev (S.drop k) c=([],3):=by rw[bT h,j8,if_neg h1,if_neg h2,if_pos h3]
def RY(h:k<S.length)(h1:¬cont (at_ S k).cq dev=false)(h2:¬ ¬(gG T s (at_ S k)).2=0)(h3:¬ ¬(mgT s c (gG T s (at_ S k)).1).2=0)(h4:ma s c (mgT s c (gG T s (at_ S k)).1).1=false):j8 T s dev (S.drop k) c=([],4):=by rw[bT h,j8,if_neg h1,if_neg h2,if_neg h3,if_pos h4]
def Oi(h:k<S.length)(h1:¬cont (at_ S k).cq dev=false)(h2:¬ ¬(gG T s (at_ S k)).2=0)(h3:¬ ¬(mgT s c (gG T s (at_ S k)).1).2=0)(h4:¬ma s c (mgT s c (gG T s (at_ S k)).1).1=false):j8 T s dev (S.drop k) c=j8 T s dev (S.drop (k+1)) (mgT s c (gG T s (at_ S k)).1).1:=by rw[bT h,j8,if_neg h1,if_neg h2,if_neg h3,if_neg h4]
end
def Lu{s:List ag}{a b:List ah}(ha:wt a<=1048576)(h:¬ ¬(mgT s a b).2=0):wt (mgT s a b).1<=1048576:=by
 unfold mgT at h ⊢;split at h
 ·exact absurd zH h
 ·rename_i h1;rw[if_neg h1];have:=(V9 s a (edO 1 b)).2 (by simpa using h);omega
attribute [-instance] lV mP
attribute [local go_sem] bL aV bu jI jf
instance(T:List aE)(S:List bt)(s:List ag)(dev:Str)(l:List ah):Ctr lim prog 28 [] [.agg [.ab 3 aK T,.ab 4 aP S],.ab 19 ak s,.str dev,.ab 3 ai l] (.tup [.sl true 3 ((inT T S s dev l).1.map (ai true)),.aa (inT T S s dev l).2]) [] (nG T/\(∀x∈S,x.fArgs.length<=1048576/\eD x.fArgs)/\wtS s<=1048576/\wt l<=1048576):=by
 refine Ctr.bd func28 ntmps28 λhp=>?_;have gOn:=bM.on;obtain⟨ht,hS,h1,h2⟩:=hp;refine AW.f1 0 λhf=>?_;refine vK1 ?_;refine AW.c (λh=>?_) λh=>?_
 ·refine vU1 ?_;rw[inT,if_neg (by rintro⟨c1,c2⟩;rcases h with h|h<;>simp_all)];rfl
 have hI:inT T S s dev l=j8 T s dev S l:=if_pos h;clear h;refine vK1 ?_;refine AW.aw [10,32] [1,2,4,30,31] (λm xs o=>∃(k:Nat) (c:List ah),xs=[.ad 3 ai c,.aa k]/\o=[]/\m=S.length - k/\k<=S.length/\wt c<=1048576/\j8 T s dev (S.drop k) c=inT T S s dev l) S.length [] trivial ⟨0,l,rfl,rfl,rfl,Yt,h2,hI.symm⟩ ?_;rintro m xs o ⟨k,c,rfl,rfl,rfl,hk,hwc,hR⟩;refine vK1 ?_;refine AW.c (λh=>?_) λh=>?_
 ·have hlk:=h
  have hx:=hS _ (at_mem h)
  have hw1:=MH T s (at_ S k)
  have hw2:=λhq=>Lu (s:=s) (a:=c) (b:=(gG T s (at_ S k)).1) hwc hq;clear h
  (refine vK1 ?_;intro h)
  refine AW.c (λh=>?_) λh=>?_
  ·refine vU1 ?_;exact⟨_,[_,_],_,Yt,⟨k+1,c,rfl,rfl,rfl,Yt,hwc,by rw[<- hR,Hz hlk h]⟩,rfl,gO⟩
  have hct:¬cont (at_ S k).cq dev=false:=by rw[h];simp
  clear h
  (refine vK2 ?_ ?_<;>with_reducible repeat intro h)
  ·exact hx.2
  refine AW.c (λh=>?_) λh=>?_
  ·refine vU1 ?_;rw[<- hR,HA hlk hct h];rfl
  have hc1:¬ ¬(gG T s (at_ S k)).2=0:=λc=>c h;clear h;refine vK1 ?_;refine AW.c (λh=>?_) λh=>?_
  ·refine vU1 ?_;rw[<- hR,RZ hlk hct hc1 h];rfl
  have hc2:¬ ¬(mgT s c (gG T s (at_ S k)).1).2=0:=λc=>c h
  have hwm:=hw2 hc2;clear h;refine vK1 ?_;refine AW.c (λh=>?_) λh=>?_
  ·refine vU1 ?_;rw[<- hR,RY hlk hct hc1 hc2 h];rfl
  ·have hpt:¬ma s c (mgT s c (gG T s (at_ S k)).1).1=false:=by rw[h];simp
   clear h;refine vU1 ?_;exact⟨_,[_,_],_,Yt,⟨k+1,_,rfl,rfl,rfl,Yt,hwm,by rw[<- hR,Oi hlk hct hc1 hc2 hpt]⟩,rfl,gO⟩
 ·refine vU1 ?_;rw[dn h,j8]at hR;rw[<- hR]
instance(T:List aE)(S:List bt)(s:List ag)(dev:Str)(l:List ah):Ctr lim prog 26 [] [.agg [.ab 3 aK T,.ab 4 aP S],.ab 19 ak s,.str dev,.ab 3 ai l] (.tup [.sl true 3 ((inT T S s dev l).1.map (ai true)),.aa (inT T S s dev l).2]) [] (nG T/\(∀x∈S,x.fArgs.length<=1048576/\eD x.fArgs)/\wtS s<=1048576/\wt l<=1048576):=by
 refine Ctr.bd func26 ntmps26 λhp=>?_;have gOn:=bM.on;obtain⟨ht,hS,h1,h2⟩:=hp;refine AW.f1 0 λhf=>?_;refine vK1 ?_;refine AW.c (λh=>?_) λh=>?_
 ·refine vU1 ?_;rw[inT,if_neg (by rintro⟨c1,c2⟩;rcases h with h|h<;>simp_all)];rfl
 have hI:inT T S s dev l=j8 T s dev S l:=if_pos h;clear h;refine vK1 ?_;refine AW.aw [11,12] [1,2,4,10] (λm xs o=>∃(k:Nat) (c:List ah),xs=[.ad 3 ai c,.aa k]/\o=[]/\m=S.length - k/\k<=S.length/\wt c<=1048576/\j8 T s dev (S.drop k) c=inT T S s dev l) S.length [] trivial ⟨0,l,rfl,rfl,rfl,Yt,h2,hI.symm⟩ ?_;rintro m xs o ⟨k,c,rfl,rfl,rfl,hk,hwc,hR⟩;refine vK1 ?_;refine AW.c (λh=>?_) λh=>?_
 ·have hlk:=h
  have hx:=hS _ (at_mem h)
  have hw1:=MH T s (at_ S k)
  have hw2:=λhq=>Lu (s:=s) (a:=c) (b:=(gG T s (at_ S k)).1) hwc hq;clear h;refine vK1 ?_;refine AW.c (λh=>?_) λh=>?_
  ·refine vU1 ?_;exact⟨_,[_,_],_,Yt,⟨k+1,c,rfl,rfl,rfl,Yt,hwc,by rw[<- hR,Hz hlk h]⟩,rfl,gO⟩
  have hct:¬cont (at_ S k).cq dev=false:=by rw[h];simp
  clear h
  (refine vK2 ?_ ?_<;>with_reducible repeat intro h)
  ·exact hx.2
  refine AW.c (λh=>?_) λh=>?_
  ·refine vU1 ?_;rw[<- hR,HA hlk hct h];rfl
  have hc1:¬ ¬(gG T s (at_ S k)).2=0:=λc=>c h;clear h;refine vK1 ?_;refine AW.c (λh=>?_) λh=>?_
  ·refine vU1 ?_;rw[<- hR,RZ hlk hct hc1 h];rfl
  have hc2:¬ ¬(mgT s c (gG T s (at_ S k)).1).2=0:=λc=>c h
  have hwm:=hw2 hc2;clear h;refine vK1 ?_;refine AW.c (λh=>?_) λh=>?_
  ·refine vU1 ?_;rw[<- hR,RY hlk hct hc1 hc2 h];rfl
  ·have hpt:¬ma s c (mgT s c (gG T s (at_ S k)).1).1=false:=by rw[h];simp
   clear h;refine vU1 ?_;exact⟨_,[_,_],_,Yt,⟨k+1,_,rfl,rfl,rfl,Yt,hwm,by rw[<- hR,Oi hlk hct hc1 hc2 hpt]⟩,rfl,gO⟩
 ·refine vU1 ?_;rw[dn h,j8]at hR;rw[<- hR]
end Go.Proofs
namespace Go.Dt
open Go Go.Ab
def xC{x:gN}(h:¬cw x 1048576<0):∀y∈x.aO,y.fArgs.length<=1048576/\eD y.fArgs:=by have h:=Int.not_lt.1 h;unfold cw at h;obtain⟨a0,h⟩:=aH h;have l0:=ba dU jb x.aC 1048576 Yt;obtain⟨a1,h⟩:=aH h;intro y hy;obtain⟨r',p,q,s⟩:=(Ae fE kI x.aO _ a0 a1).2 y hy;have:=PN p Yt s;exact⟨this.2,this.1⟩
end Go.Dt
namespace Go.Proofs
open Go.Ab Go.Dt
def Hy{T:List aE}{s:List ag}{dev:Str}:∀ {S:List bt} {c:List ah},wt c<=1048576->wt (j8 T s dev S c).1<=1048576
 | [],c,h=>by rw[j8];exact h
 | x::xs,c,h=>by
  rw[j8];split
  ·exact Hy h
  ·split
   ·rw[jB];omega
   ·split
    ·rw[jB];omega
    ·rename_i h3;split
     ·rw[jB];omega
     ·exact Hy (Lu h h3)
def Zh{T:List aE}{S:List bt}{s:List ag}{dev:Str}{l:List ah}(h:wt l<=1048576):(mkL aQ (inT T S s dev l).1 1).2<=2097153:=by
 rw[Tu]
 have h2:wt (inT T S s dev l).1<=1048576:=by
  unfold inT;split
  ·exact Hy h
  ·rw[jB];omega
 have:=Iw (inT T S s dev l).1;omega
end Go.Proofs
namespace Go.Ab
open Go.Dt
def sY{P:Program}{W:World}{name:String}{k:IntKind}{zs:List Int}{g:Nat}{t e:TypeId}{n:Nat}
  (hg:P.globalNamed name=some g) (hty:(P.globals[g]?).map (·.type)=some t) (ht:P.underlying t=some (.array n e)) (he:P.underlying e=some (.int k)) (hce:P.cellsOf e=1) (hct:P.cellsOf t=n) :
  ∀ {l:List (String×DataW Unit)} {ps:List MemPlace},(name,Lib.tabData k zs)∈l->DataW.LaidVars P W l ps->Lib.TabIs P W name k zs
 | [],_,hm,_=>by cases hm
 | (nm,d)::r,ps,hm,h=>by
  obtain⟨g',t',cs,fuel,p,q,hg',ht',hvar,hd,hr,_⟩:=h;rcases List.mem_cons.1 hm with e1|hm
  ·obtain⟨rfl,rfl⟩:=Prod.mk.inj e1;obtain rfl:=Option.some.inj (hg.symm.trans hg');obtain rfl:=Option.some.inj (hty.symm.trans ht');unfold Lib.TabIs;rw[hvar,<- Lib.cells_of_tab ht he hce hct hd]
  ·exact sY hg hty ht he hce hct hm hr
def AP{P:Program}{os:Os}{laid:List (String×DataW Unit)}(args:Array Value)(hp:(laid.all λx=>x.2.handleName?.isNone)=true)
  (hf:(World.holding P os ⟨#[],#[],[]⟩).layFits P laid []=true)
  (hi:(World.holding P os ⟨#[],#[],[]⟩).layIfaces P laid (World.laidAll P os laid)=true) :
  laidMetH P laid ((World.laidAll P os laid).forCall (λ_ _=>0) ⟨#[],args,[]⟩).memory:=by
 rw[MakeChecks.laidMetH_plain _ _ _ hp];exact laidMet_laidAll args hf hi
