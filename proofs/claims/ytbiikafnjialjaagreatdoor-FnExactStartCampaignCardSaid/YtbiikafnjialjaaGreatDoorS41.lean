/- Part of a proof. -/
import Derived.Test.YtbiikafnjialjaaGreatDoorS33
import Derived.Test.YtbiikafnjialjaaGreatDoorS40
set_option linter.all false
set_option maxRecDepth 20000
set_option maxHeartbeats 4000000
open Go.Proofs.Tryz
open List
namespace Go.Proofs
open Go.Ab Go.Dt
attribute [-instance] ju kO cPf
attribute [local go_sem] tN
instance(L:gaa)(p:bH)(n v:Str):Ctr L prog 125 [] [.agg [.str p.ae,.aa p.fType.aj,.ab 2 aU p.fType.ay,.al p.fType.aB,.str p.fType.aY,.str p.fType.aF],.vp [.str n,.str v]] (.ac (p.ae == n)) [] True:=by
 refine Ctr.bd func125 ntmps125 λhp=>?_
 all_goals exact uU
instance(L:gaa)(p:bH)(n v:Str):Ctr L prog 127 [] [.agg [.str p.ae,.aa p.fType.aj,.ab 2 aU p.fType.ay,.al p.fType.aB,.str p.fType.aY,.str p.fType.aF],.vp [.str n,.str v]] (.ac (p.ae == n)) [] True:=by
 refine Ctr.bd func127 ntmps127 λhp=>?_
 all_goals exact uU
instance(l:List bH)(n v:Str):Ctr lim prog 126 [] [.ab 6 bt l,.fn 125 [.vp [.str n,.str v]]] (.aa (jN l n)) [] True:=by
 refine Ctr.bd func126 ntmps126 λhp=>?_;refine AW.f0 0 λhf=>?_;refine vU1 ?_;refine AW.aw [8] [0,1,7] (λm xs o=>∃k:Nat,xs=[.aa k]/\o=[]/\m=l.length - k/\k<=l.length/\∀x∈l.take k,(x.ae == n)=false) l.length [] trivial ⟨0,?_,rfl,rfl,?_,?_⟩ ?_
 ·rfl
 ·omega
 ·simp
 rintro m xs o ⟨k,rfl,rfl,rfl,hk,hR⟩
 (refine vU3 ?_ ?_ ?_<;>with_reducible repeat intro h)
 ·rw[jN,gD baa hR (by simpa using h)]
 ·exact⟨_,[_],[],Um,⟨k+1,rfl,rfl,rfl,Um,bL baa hR (by simpa using h)⟩,rfl,trivial⟩
 ·rw[jN,jh h hR]
instance(l:List bH)(n v:Str):Ctr lim prog 126 [] [.ab 6 bt l,.fn 127 [.vp [.str n,.str v]]] (.aa (jN l n)) [] True:=by
 refine Ctr.bd func126 ntmps126 λhp=>?_;refine AW.f0 0 λhf=>?_;refine vU1 ?_;refine AW.aw [8] [0,1,7] (λm xs o=>∃k:Nat,xs=[.aa k]/\o=[]/\m=l.length - k/\k<=l.length/\∀x∈l.take k,(x.ae == n)=false) l.length [] trivial ⟨0,?_,rfl,rfl,?_,?_⟩ ?_
 ·rfl
 ·omega
 ·simp
 rintro m xs o ⟨k,rfl,rfl,rfl,hk,hR⟩
 (refine vU3 ?_ ?_ ?_<;>with_reducible repeat intro h)
 ·rw[jN,gD baa hR (by simpa using h)]
 ·exact⟨_,[_],[],Um,⟨k+1,rfl,rfl,rfl,Um,bL baa hR (by simpa using h)⟩,rfl,trivial⟩
 ·rw[jN,jh h hR]
instance(l:List bH)(n v:Str):Ctr lim prog 124 [] [.ab 6 bt l,.fn 125 [.vp [.str n,.str v]]] (.ac (decide (0<=jN l n))) [] True:=by
 refine Ctr.bd func124 ntmps124 λhp=>?_
 all_goals exact uU
section
variable (ip : Str -> Bool) (cb : dq -> Str -> Bool) (cs : dq -> Str -> Str)
theorem BM(t:aD)(l:List cu)(hcs:∀x s,s.length<=1048576->(cs x s).length<=1048576)
  (hT:∀x:aD,Ctr lim prog 123 [] [.agg [.str x.ae,.ab 6 bt x.aG,.ab 3 ai x.dh]] (.ac (dz ip x)) [] (wt x.dh<=1048576/\x.aG.length<=1048576))
  (hC:∀(x:dq) (s:Str),Ctr lim prog 128 [] [.agg [.aa x.aj,.ab 2 aU x.ay,.al x.aB,.str x.aY,.str x.aF],.str s] (.tup [.str (cs x s),.ac (cb x s)]) [] (s.length<=1048576)) :
  Ctr lim prog 66 [] [.agg [.str t.ae,.ab 6 bt t.aG,.ab 3 ai t.dh],.ab 2 bS l] (.tup [.ad 3 ai (ftN ip cb cs t l),.aa (ftC ip cb t l)]) [] (wt t.dh<=1048576/\t.aG.length<=1048576/\l.length<=1048576/\eO l):=by
 refine Ctr.bd func66 ntmps66 λhp=>?_;have hA:=hp.2.2.2
 (refine vU2 ?_ ?_<;>intro h)
 ·have e:dz ip t=false:=by simpa using h
  simp[ftN,n8,ftC,e]
 have eT:dz ip t=true:=by simpa using h
 refine AW.aw [6,22] [1,2,20,21] (λm xs o=>∃k:Nat,xs=[.am ((l.take k).map cu.ae),.aa k]/\o=[]/\m=l.length - k/\k<=l.length/\cg (nG t.aG l) k=true) l.length [] trivial ⟨0,?_,rfl,rfl,?_,rfl⟩ ?_
 ·rfl
 ·omega
 rintro m xs o ⟨k,rfl,rfl,rfl,hk,hR⟩;have hlt:(l.take k).length=k:=by rw[length_take];omega
 refine vK1 ?_;refine AW.c (λh=>?_) λh=>?_
 ·have hk2:k<l.length:=by simpa using h
  refine vN1 ?_;refine AW.FC λK hK=>?_
  (refine vN1 ?_;intro h)
  refine AW.imp (Imp.vpO 8 (b:=h) (off:=0) (cells:=[.str (at_ l k).ae,.str (at_ l k).aq]) gO gO rfl ?_);refine gS ?_;have hf:=Oi hk2
  (refine vU ?_;with_reducible repeat' first|exact Le.l|apply Sw|intro(K:_->_->Prop) hK|intro h)
  ·rw[h];rfl
  ·have e:nG t.aG l k=false:=by
    rw[nG];rw[hf]at h;revert h;cases decide (0<=jN t.aG (at_ l k).ae)<;>cases decide (idx (il (at_ l k).ae) l=k)<;>simp
   simp[ftN,n8,ftC,eT,HO hk2 e]
  ·have e:nG t.aG l k=true:=by
    rw[nG];rw[hf]at h;revert h;cases decide (0<=jN t.aG (at_ l k).ae)<;>cases decide (idx (il (at_ l k).ae) l=k)<;>simp
   exact⟨_,[_,_],[],Um,⟨k+1,by rw[rB hk2,map_append,map_append];rfl,rfl,rfl,Um,cf hR e⟩,rfl,trivial⟩
 have hk3:¬k<l.length:=by simpa using h
 obtain rfl:k=l.length:=by omega
 (refine vU2 ?_ ?_<;>intro h)
 ·have e:lz t.aG l=false:=by rw[lz,decide_eq_false (by simp at h;omega),Bool.and_false]
  simp[ftN,n8,ftC,eT,e]
 have eA:lz t.aG l=true:=by rw[lz,hR,decide_eq_true (by simp at h;omega)];rfl
 have eN:eO (l.map (cnA cs t.aG)):=λa ha=>by
  obtain⟨x,hx,rfl⟩:=List.mem_map.1 ha;exact hcs _ _ (hA x hx)
 refine AW.aw [9,54] [2,52,53] (λm xs o=>∃k:Nat,xs=[.ad 2 bS ((l.take k).map (cnA cs t.aG)),.aa k]/\o=[]/\m=l.length - k/\k<=l.length/\cg (λj=>cnB cb t.aG (at_ l j)) k=true) l.length [] trivial ⟨0,?_,rfl,rfl,?_,rfl⟩ ?_
 ·rfl
 ·omega
 rintro m xs o ⟨k,rfl,rfl,rfl,hk,hQ⟩;have hlt:(l.take k).length=k:=by rw[length_take];omega
 refine vK1 ?_;refine AW.c (λh=>?_) λh=>?_
 ·have hk2:k<l.length:=by simpa using h
  refine vN1 ?_;refine AW.FC λK hK=>?_
  (refine vN1 ?_;intro h)
  refine AW.imp (Imp.vpO 11 (b:=h) (off:=0) (cells:=[.str (at_ l k).ae,.str (at_ l k).aq]) gO gO rfl ?_);refine gS ?_;have h0:=Ek eA hk2
  have h1:=Me t.aG (at_ l k).ae
  have h2:=hA _ (at_mem hk2)
  have h3:=hcs (at_ t.aG (jN t.aG (at_ l k).ae).toNat).fType _ h2
  (refine vU ?_;with_reducible repeat' first|exact Le.l|apply Sw|intro(K:_->_->Prop) hK|intro h)
  ·have e:cg (λj=>cnB cb t.aG (at_ l j)) l.length=false:=cM hk2 (by simpa[cnB,prT]using h);simp[ftN,n8,ftC,eT,eA,e]
  ·exact⟨_,[_,_],[],Um,⟨k+1,by rw[rB hk2,map_append,map_append];rfl,rfl,rfl,Um,cf hQ (by simpa[cnB,prT]using h)⟩,rfl,trivial⟩
 have hk3:¬k<l.length:=by simpa using h
 obtain rfl:k=l.length:=by omega
 rw[take_length]
 (refine vU ?_;with_reducible repeat' first|exact Le.l|apply Sw|intro(K:_->_->Prop) hK|intro h)
 ·simp[ftN,n8,ftC,eT,eA,hQ]
theorem Bj(t:aD)(l:List cu)(hcs:∀x s,s.length<=1048576->(cs x s).length<=1048576)
  (hT:∀x:aD,Ctr lim prog 108 [] [.agg [.str x.ae,.ab 6 bt x.aG,.ab 3 ai x.dh]] (.ac (dz ip x)) [] (wt x.dh<=1048576/\x.aG.length<=1048576))
  (hC:∀(x:dq) (s:Str),Ctr lim prog 111 [] [.agg [.aa x.aj,.ab 2 aU x.ay,.al x.aB,.str x.aY,.str x.aF],.str s] (.tup [.str (cs x s),.ac (cb x s)]) [] (s.length<=1048576)) :
  Ctr lim prog 58 [] [.agg [.str t.ae,.ab 6 bt t.aG,.ab 3 ai t.dh],.ab 2 bS l] (.tup [.ad 3 ai (ftN ip cb cs t l),.aa (ftC ip cb t l)]) [] (wt t.dh<=1048576/\t.aG.length<=1048576/\l.length<=1048576/\eO l):=by
 refine Ctr.bd func58 ntmps58 λhp=>?_;have hA:=hp.2.2.2
 (refine vU2 ?_ ?_<;>intro h)
 ·have e:dz ip t=false:=by simpa using h
  simp[ftN,n8,ftC,e]
 have eT:dz ip t=true:=by simpa using h
 refine AW.aw [7] [1,2,6] (λm xs o=>∃k:Nat,xs=[.aa k]/\o=[]/\m=l.length - k/\k<=l.length/\cg (nG t.aG l) k=true) l.length [] trivial ⟨0,?_,rfl,rfl,?_,rfl⟩ ?_
 ·rfl
 ·omega
 rintro m xs o ⟨k,rfl,rfl,rfl,hk,hR⟩;refine vK1 ?_;refine AW.c (λh=>?_) λh=>?_
 ·have hk2:k<l.length:=by simpa using h
  (refine vU2 ?_ ?_<;>intro h)
  ·have e:nG t.aG l k=false:=by
    rw[nG];by_cases h9:jN t.aG (at_ l k).ae<0
    ·rw[decide_eq_false Um];rfl
    ·rw[decide_eq_false h9]at h;rw[decide_eq_false (p:=idx _ _=_) (by simpa using h),Bool.and_false]
   simp[ftN,n8,ftC,eT,HO hk2 e]
  ·have e:nG t.aG l k=true:=by
    rw[nG];by_cases h9:jN t.aG (at_ l k).ae<0
    ·rw[decide_eq_true h9]at h;cases h
    ·rw[decide_eq_false h9]at h;rw[decide_eq_true (p:=idx _ _=_) (by simpa using h),decide_eq_true Um];rfl
   exact⟨_,[_],[],Um,⟨k+1,rfl,rfl,rfl,Um,cf hR e⟩,rfl,trivial⟩
 have hk3:¬k<l.length:=by simpa using h
 obtain rfl:k=l.length:=by omega
 (refine vU2 ?_ ?_<;>intro h)
 ·have e:lz t.aG l=false:=by rw[lz,decide_eq_false (by simp at h;omega),Bool.and_false]
  simp[ftN,n8,ftC,eT,e]
 have eA:lz t.aG l=true:=by rw[lz,hR,decide_eq_true (by simp at h;omega)];rfl
 have eN:eO (l.map (cnA cs t.aG)):=λa ha=>by
  obtain⟨x,hx,rfl⟩:=List.mem_map.1 ha;exact hcs _ _ (hA x hx)
 refine AW.aw [8,9] [1,2,6] (λm xs o=>∃k:Nat,xs=[.ad 2 bS ((l.take k).map (cnA cs t.aG)),.aa k]/\o=[]/\m=l.length - k/\k<=l.length/\cg (λj=>cnB cb t.aG (at_ l j)) k=true) l.length [] trivial ⟨0,?_,rfl,rfl,?_,rfl⟩ ?_
 ·rfl
 ·omega
 rintro m xs o ⟨k,rfl,rfl,rfl,hk,hQ⟩;have hlt:(l.take k).length=k:=by rw[length_take];omega
 refine vK1 ?_;refine AW.c (λh=>?_) λh=>?_
 ·have hk2:k<l.length:=by simpa using h
  have h0:=Ek eA hk2
  have h1:=Me t.aG (at_ l k).ae
  have h2:=hA _ (at_mem hk2)
  have h3:=hcs (at_ t.aG (jN t.aG (at_ l k).ae).toNat).fType _ h2
  (refine vU ?_;with_reducible repeat' first|exact Le.l|apply Sw|intro(K:_->_->Prop) hK|intro h)
  ·have e:cg (λj=>cnB cb t.aG (at_ l j)) l.length=false:=cM hk2 (by simpa[cnB,prT]using h);simp[ftN,n8,ftC,eT,eA,e]
  ·exact⟨_,[_,_],[],Um,⟨k+1,by rw[rB hk2,map_append,map_append];rfl,rfl,rfl,Um,cf hQ (by simpa[cnB,prT]using h)⟩,rfl,trivial⟩
 have hk3:¬k<l.length:=by simpa using h
 obtain rfl:k=l.length:=by omega
 rw[take_length]
 (refine vU ?_;with_reducible repeat' first|exact Le.l|apply Sw|intro(K:_->_->Prop) hK|intro h)
 ·simp[ftN,n8,ftC,eT,eA,hQ]
end
end Go.Proofs
namespace Go.Dt
open Go.Ab
def NX:∀(k u:Nat),u<10 ^ k->(dg u).length<=k
 | 0,u,h=>by
  have:u=0:=by simpa using h
  subst this;simp[dg]
 | k+1,u,h=>by
  by_cases e:u=0
  ·subst e;simp[dg]
  ·rw[Dk e,length_append];have:=NX k (u / 10) (by rw[Nat.pow_succ]at h;omega);simp only[length_singleton];omega
def Tg{n:Int}(h:-1000000000<=n/\n<=1000000000):(Lib.itoa n).length<=11:=by
 by_cases e:n=0
 ·subst e;rw[D1];simp
 ·rw[CU e];have:=NX 10 n.natAbs Um;split
  ·simp only[length_cons];omega
  ·omega
def N0(x:dq)(s:Str)(h:s.length<=1048576):(cvS x s).length<=1048576:=by
 have h1:=Tg (yg s);unfold cvS
 cases cvB x s with
 | false=>simp
 | true =>
  simp only[cond_true];unfold cvT tq
  repeat' split
  all_goals first|omega|(simp[uR,rQ])
end Go.Dt
namespace Go.Proofs
open Go.Ab Go.Dt
attribute [-instance] ju kO cPf
instance sR(t:aD)(l:List cu):Ctr lim prog 66 [] [.agg [.str t.ae,.ab 6 bt t.aG,.ab 3 ai t.dh],.ab 2 bS l] (.tup [.ad 3 ai (ftN dM cvB cvS t l),.aa (ftC dM cvB t l)]) [] (wt t.dh<=1048576/\t.aG.length<=1048576/\l.length<=1048576/\eO l) :=
 BM dM cvB cvS t l N0 (λ_=>inferInstance) (λ_ _=>inferInstance)
instance sF(t:aD)(l:List cu):Ctr lim prog 58 [] [.agg [.str t.ae,.ab 6 bt t.aG,.ab 3 ai t.dh],.ab 2 bS l] (.tup [.ad 3 ai (ftN dM cvB cvS t l),.aa (ftC dM cvB t l)]) [] (wt t.dh<=1048576/\t.aG.length<=1048576/\l.length<=1048576/\eO l) :=
 Bj dM cvB cvS t l N0 (λ_=>inferInstance) (λ_ _=>inferInstance)
end Go.Proofs
namespace Go.Dt
open Go Go.Ab
def oV(s:List ag)(l:List ah):Option (List ah):=if kg s=true/\cnt l<=120 then iz (dk s) [] l else none
def Ft{s:List ag}{l:List ah}(h:¬(kg s=true/\cnt l<=120)):oV s l=none:=if_neg h
def II{s:List ag}{l:List ah}(h:kg s=true/\cnt l<=120):oV s l=iz (dk s) [] l:=if_pos h
def TY{a:List cu}(ha:∀x∈a,x.aq.length<=40)(n:Str):((nj a n).getD []).length<=40:=by
 unfold nj;have:=fV (p:=il n) a;split
 ·simp
 ·exact ha _ (at_mem Um)
def Cy{a:List cu}(ha:∀x∈a,x.aq.length<=40):∀d:List Tok,(iZ a d).length<=40 * d.length
 | []=>by simp[iZ]
 | .inl c::d=>by
  have ih:=Cy ha d;simp only[iZ,length_cons];omega
 | .inr n::d=>by
  have ih:=Cy ha d
  have h1:=TY ha n;simp only[iZ,length_append,length_cons];omega
def Tw{a:List cu}(ha:∀x∈a,x.aq.length<=40){s:Str}(hs:s.length<=40):(flS a (tk s)).length<=1600:=by
 have h1:=Cy ha (tk s).1
 have h2:=AL s;unfold flS
 cases flB a (tk s)with
 | false=>simp
 | true=>rw[cond_true];omega
def yC{a:List cu}(ha:∀x∈a,x.aq.length<=40):∀l:List ah,frm l=true->wt (vM a l)<=1617 * cnt l
 | [],_=>by rw[vM,lL];omega
 | .mk n v ks::xs,h=>by
  rw[frm,Bool.and_eq_true,Bool.and_eq_true]at h;have h1:=yC ha ks h.1.2
  have h2:=yC ha xs h.2
  have h3:=h.1.1;rw[mO,Bool.and_eq_true,Bool.and_eq_true]at h3;have h4:=zO h3.1.1
  have h5:=Tw ha (zB h3.1.2);rw[vM,lf,jv,iQ];simp only[ah.ae,ah.aq,ah.af]at h4 h5 ⊢;omega
def ND(ip:Str->Bool)(cb:dq->Str->Bool)(t:aD)(l:List cu):wt (ftN ip cb cvS t l)<=1048576:=by
 unfold ftN
 cases h:n8 ip cb t l with
 | false=>rw[cond_false,lL];omega
 | true =>
  rw[cond_true,<- sW];simp only[n8,dz,p7,Bool.and_eq_true,decide_eq_true_eq]at h
  have:=yC (a:=l.map (cnA cvS t.aG)) (λx hx=>by
   obtain⟨y,_,rfl⟩:=List.mem_map.1 hx
   exact rp _ _) t.dh (by simp[h])
  have h2:cnt t.dh<=120:=by simp[h]
  omega
end Go.Dt
namespace Go.Proofs
open Go.Ab Go.Dt
attribute [-instance] ju kO cPf
def gm(T:List aD)(s:List ag)(x:bp):List ah×Int :=
 if tmI T x.bz<0 then ([],2) else
 if ¬ftC dM cvB (at_ T (tmI T x.bz).toNat) x.fArgs=0 then ([],2) else
 match oV s (ftN dM cvB cvS (at_ T (tmI T x.bz).toNat) x.fArgs)with
 | none=>([],3)
 | some out=>(out,0)
attribute [local go_sem] bD aS bk iM iE
instance zm(s:List ag)(l:List ah):Ctr lim prog 67 [] [.ab 19 ak s,.ab 3 ai l] (.tup [.ad 3 ai ((oV s l).getD []),.ac (oV s l).isSome]) [] (wtS s<=1048576/\wt l<=1048576):=by
 have hpl:=FF (SizeOf.sizeOf l+1) s l;refine Ctr.bd func67 ntmps67 λhp=>?_;have gOn:=bI.on;obtain⟨h1,h2⟩:=hp;refine vK1 ?_;refine AW.c (λh=>?_) λh=>?_
 ·refine vU1 ?_;rw[Ft (λc=>by have:=c.2;rcases h with h|h<;>first|(rw[c.1]at h;cases h)|omega)];rfl
 ·rw[II ⟨h.1,Um⟩]
  cases hq:iz (dk s) [] l with
  | none =>
   rw[hq]at hpl;simp only[srO]at hpl
   (refine vU1 ?_;intro h)
   try rfl
  | some out =>
   rw[hq]at hpl;simp only[srO]at hpl;exact vU0
   try rfl
instance y9(s:List ag)(l:List ah):Ctr lim prog 59 [] [.ab 19 ak s,.ab 3 ai l] (.tup [.ab 3 ai ((oV s l).getD []),.ac (oV s l).isSome]) [] (wtS s<=1048576/\wt l<=1048576):=by
 have hpl:=IM (SizeOf.sizeOf l+1) (dk s) l;refine Ctr.bd func59 ntmps59 λhp=>?_;have gOn:=bI.on;obtain⟨h1,h2⟩:=hp;have hc:=gV s
 have hd:∀y∈dk s,wtS y.af<=1048576:=λy hy=>by have:=jR _ y hy;omega
 have e1:0<=fN l (120 - l.length)↔cnt l<=120:=by
  unfold cnt;rcases Int.lt_or_le (120 - (l.length:Int)) 0 with h|h
  ·rw[mb l h];omega
  ·have:=(qZ l _ h).1;omega
 refine vK1 ?_;refine AW.c (λh=>?_) λh=>?_
 ·refine vX1 ?_;refine AW.imp (Imp.frz 4 ?_);refine vU1 ?_;rw[Ft (λc=>by have:=c.2;rcases h with h|h<;>first|(rw[c.1]at h;cases h)|omega)];rfl
 ·rw[II ⟨h.1,Um⟩]
  cases hq:iz (dk s) [] l with
  | none =>
   rw[hq]at hpl;simp only[srF]at hpl
   (refine vX2 ?_ ?_<;>with_reducible repeat intro h)
   ·exact hd _ baa
   ·refine AW.imp (Imp.frz 4 ?_);refine vU1 ?_
    try rfl
  | some out =>
   rw[hq]at hpl;simp only[srF]at hpl
   (refine vU1 ?_;intro h h h h)
   ·exact hd _ baa
instance(t:aD)(l:List cu):Ctr lim prog 66 [] [.agg [.str t.ae,.ab 6 bt t.aG,.ab 3 ai t.dh],.ab 2 bS l] (.tup [.ab 3 ai (ftN dM cvB cvS t l),.aa (ftC dM cvB t l)]) [] (wt t.dh<=1048576/\t.aG.length<=1048576/\l.length<=1048576/\eO l) :=
 Ctr.kK (aT 66) λc=>by
  have:=((sR t l).pure c).frz;simpa only[AV.frz,AV.cl,bk,cond_true]using this
instance(t:aD)(l:List cu):Ctr lim prog 58 [] [.agg [.str t.ae,.ab 6 bt t.aG,.ab 3 ai t.dh],.ab 2 bS l] (.tup [.ab 3 ai (ftN dM cvB cvS t l),.aa (ftC dM cvB t l)]) [] (wt t.dh<=1048576/\t.aG.length<=1048576/\l.length<=1048576/\eO l) :=
 Ctr.kK (aT 58) λc=>by
  have:=((sF t l).pure c).frz;simpa only[AV.frz,AV.cl,bk,cond_true]using this
attribute [-instance] sR sF
instance(T:List aD)(S:List bp)(s:List ag)(x:bp):Ctr lim prog 15 [] [.agg [.ab 3 aR T,.ab 4 aX S],.ab 19 ak s,.agg [.str x.ae,.str x.bz,.ab 2 bS x.fArgs,.al x.bV]] (.tup [.sl true 3 ((gm T s x).1.map (ai true)),.aa (gm T s x).2]) [] (oP T/\wtS s<=1048576/\x.fArgs.length<=1048576/\eO x.fArgs):=by
 refine Ctr.bd func15 ntmps15 λhp=>?_;have gOn:=bI.on;obtain⟨ht,h1,h2,h3⟩:=hp;have hi:=fV (p:=λt:aD=>t.ae == x.bz) T
 have hb:=λhq=>ht _ (at_mem (l:=T) (k:=(tmI T x.bz).toNat) hq)
 have hw:=ND dM cvB (at_ T (tmI T x.bz).toNat) x.fArgs;change tmI T x.bz<_ at hi;refine vK1 ?_;refine AW.c (λh=>?_) λh=>?_
 ·refine vU1 ?_;rw[gm,if_pos h];rfl
 have h0:¬tmI T x.bz<0:=by omega
 clear h;refine vK1 ?_;refine AW.c (λh=>?_) λh=>?_
 ·refine vU1 ?_;rw[gm,if_neg h0,if_pos h];rfl
 have h5:¬ ¬ftC dM cvB (at_ T (tmI T x.bz).toNat) x.fArgs=0:=λc=>c h;clear h
 cases hq:oV s (ftN dM cvB cvS (at_ T (tmI T x.bz).toNat) x.fArgs)with
 | none =>
  have hss:=zm s (ftN dM cvB cvS (at_ T (tmI T x.bz).toNat) x.fArgs);rw[hq]at hss;simp only[Option.getD_none,Option.isSome_none,map_nil]at hss
  (refine vU1 ?_;intro h)
  rw[gm,if_neg h0,if_neg h5,hq];rfl
 | some out =>
  have hss:=zm s (ftN dM cvB cvS (at_ T (tmI T x.bz).toNat) x.fArgs);rw[hq]at hss;simp only[Option.getD_some,Option.isSome_some]at hss
  (refine vU1 ?_;intro h)
  rw[gm,if_neg h0,if_neg h5,hq]
instance(T:List aD)(S:List bp)(s:List ag)(x:bp):Ctr lim prog 11 [] [.agg [.ab 3 aR T,.ab 4 aX S],.ab 19 ak s,.agg [.str x.ae,.str x.bz,.ab 2 bS x.fArgs,.al x.bV]] (.tup [.sl false 3 ((gm T s x).1.map (ai false)),.aa (gm T s x).2]) [] (oP T/\wtS s<=1048576/\x.fArgs.length<=1048576/\eO x.fArgs):=by
 refine Ctr.bd func11 ntmps11 λhp=>?_;have gOn:=bI.on;obtain⟨ht,h1,h2,h3⟩:=hp;have hi:=fV (p:=λt:aD=>t.ae == x.bz) T
 have hb:=λhq=>ht _ (at_mem (l:=T) (k:=(tmI T x.bz).toNat) hq)
 have hw:=ND dM cvB (at_ T (tmI T x.bz).toNat) x.fArgs;change tmI T x.bz<_ at hi;refine vK1 ?_;refine AW.c (λh=>?_) λh=>?_
 ·refine vX1 ?_;refine AW.imp (Imp.frz 6 ?_);refine vU1 ?_;rw[gm,if_pos h];rfl
 have h0:¬tmI T x.bz<0:=by omega
 clear h;refine vK1 ?_;refine AW.c (λh=>?_) λh=>?_
 ·refine vX1 ?_;refine AW.imp (Imp.frz 6 ?_);refine vU1 ?_;rw[gm,if_neg h0,if_pos h];rfl
 have h5:¬ ¬ftC dM cvB (at_ T (tmI T x.bz).toNat) x.fArgs=0:=λc=>c h;clear h
 cases hq:oV s (ftN dM cvB cvS (at_ T (tmI T x.bz).toNat) x.fArgs)with
 | none =>
  have hss:=y9 s (ftN dM cvB cvS (at_ T (tmI T x.bz).toNat) x.fArgs);rw[hq]at hss;simp only[Option.getD_none,Option.isSome_none,map_nil]at hss
  (refine vX1 ?_;intro h)
  refine AW.imp (Imp.frz 6 ?_);refine vU1 ?_;rw[gm,if_neg h0,if_neg h5,hq];rfl
 | some out =>
  have hss:=y9 s (ftN dM cvB cvS (at_ T (tmI T x.bz).toNat) x.fArgs);rw[hq]at hss;simp only[Option.getD_some,Option.isSome_some]at hss
  (refine vU1 ?_;intro h)
  rw[gm,if_neg h0,if_neg h5,hq]
end Go.Proofs
namespace Go.Dt
open Go Go.Ab
def TF{l:List cu}{r:Int}(h0:0<=r)(h1:r<=1048576)(h:0<=aJ iK l r):eO l/\l.length<=1048576:=by
 have hl:=wO h;refine⟨?_,Um⟩;rcases Int.lt_or_le (r - l.length) 0 with h2|h2
 ·rw[gf h2]at h;omega
 rw[gF h2]at h
 have key:∀(l:List cu) (q:Int),0<=q->q<=1048576->0<=eS iK l q->eO l:=by
  intro l
  induction l with
  | nil=>intro _ _ _ _ a ha;cases ha
  | cons x xs ih =>
   intro q h0 h1 h a ha;rw[eS,thn]at h;split at h
   ·omega
   ·have hle:=nY x q h0;rcases List.mem_cons.1 ha with rfl|ha
    ·rename_i hx;simp only[iK,thn,aC,id]at hx
     (repeat' split at hx)<;>omega
    ·exact ih _ Um Um h a ha
 exact key l _ h2 Um h
def OV{x:bp}{r:Int}(h0:0<=r)(h1:r<=1048576)(h:0<=fk x r):eO x.fArgs/\x.fArgs.length<=1048576:=by unfold fk at h;obtain⟨a0,h⟩:=aK h;have l0:=aQ x.ae r h0;obtain⟨a1,h⟩:=aK h;have l1:=aQ x.bz (aC x.ae r) a0;obtain⟨a2,h⟩:=aK h;exact TF a1 Um a2
end Go.Dt
namespace Go.Proofs
open Go.Ab Go.Dt
section
attribute [-instance] ju kO cPf
section
variable (ip : Str -> Bool)
variable [hs : ∀x : aD, Ctr lim prog 108 [] [.agg [.str x.ae, .sl false 6 (x.aG.map (bt false)), .sl false 3 (x.dh.map (ai false))]] (.v (.bool (dz ip x))) [] (wt x.dh <= 1048576 /\ x.aG.length <= 1048576)]
variable [hi : ∀x : aD, Ctr lim prog 123 [] [.agg [.str x.ae, .sl false 6 (x.aG.map (bt false)), .sl false 3 (x.dh.map (ai false))]] (.v (.bool (dz ip x))) [] (wt x.dh <= 1048576 /\ x.aG.length <= 1048576)]
omit hs in
include hi in
theorem Nu(T:List aD)(S:List bp):Ctr lim prog 87 [] [.agg [.ab 3 aR T,.ab 4 aX S]] (.ac (ko ip T S)) [] (oP T):=by
 refine Ctr.bd func87 ntmps87 λhp=>?_;refine AW.f1 0 λhf=>?_;refine vU1 ?_;refine AW.aw [3,12] [1,10,11] (λm xs o=>∃k:Nat,xs=[.am ((T.take k).map aD.ae),.aa k]/\o=[]/\m=T.length - k/\k<=T.length/\cg (λj=>dz ip (at_ T j)) k=true) T.length [] trivial ⟨0,?_,rfl,rfl,?_,rfl⟩ ?_
 ·rfl
 ·omega
 rintro m xs o ⟨k,rfl,rfl,rfl,hk,hR⟩;have hlt:(T.take k).length=k:=by rw[length_take];omega
 refine vK1 ?_;refine AW.c (λh=>?_) λh=>?_
 ·have hpk:=hp _ (at_mem (l:=T) (k:=k) Um)
  have hkT:k<T.length:=by omega
  (refine vU2 ?_ ?_<;>with_reducible repeat intro h)
  ·rw[Gx hkT h]
  ·refine⟨_,[_,_],[],Um,⟨k+1,?_,rfl,rfl,Um,cf hR h⟩,rfl,trivial⟩;rw[eV hkT,map_append,map_append];rfl
 ·refine AW.imp (Imp.frz 3 ?_);simp(maxSteps:=2000000) (disch:=omega)only[go_sem,bD]
  (refine vU2 ?_ ?_<;>intro h)
  ·rw[show k=T.length by omega,take_length]at h;rw[PK (by rcases h with(h|h)|h;exact .inl (.inl Um);exact .inl (.inr h);exact .inr Um)]
  ·refine AW.aw [42] [1,40,41] (λm xs o=>∃j:Nat,xs=[.aa j]/\o=[]/\m=S.length - j/\j<=S.length/\cg (ql T S) j=true) S.length [] trivial ⟨0,?_,rfl,rfl,?_,rfl⟩ ?_
   ·rfl
   ·omega
   rintro m xs o ⟨j,rfl,rfl,rfl,hj,hQ⟩
   (refine vU3 ?_ ?_ ?_<;>with_reducible repeat intro h)
   ·rw[Gy baa (RN h)]
   ·exact⟨_,[_],[],Um,⟨j+1,rfl,rfl,rfl,Um,cf hQ (OD h)⟩,rfl,trivial⟩
   ·rename_i h8 h9;rw[show k=T.length by omega,take_length]at h9;rw[show k=T.length by omega]at hR;rw[show j=S.length by omega]at hQ;rw[ko,hR,hQ,h9.1.2,show decide (T.length<=8)=true from decide_eq_true Um,show decide (S.length<=8)=true from decide_eq_true Um];rfl
omit hi in
include hs in
theorem L7(T:List aD)(S:List bp):Ctr lim prog 80 [] [.agg [.ab 3 aR T,.ab 4 aX S]] (.ac (ko ip T S)) [] (oP T):=by
 refine Ctr.bd func80 ntmps80 λhp=>?_;refine AW.f1 0 λhf=>?_;refine vU1 ?_;refine AW.aw [3] [1] (λm xs o=>∃k:Nat,xs=[.aa k]/\o=[]/\m=T.length - k/\k<=T.length/\cg (λj=>dz ip (at_ T j)) k=true/\cg (λj=>!cont ((T.map aD.ae).take j) (at_ (T.map aD.ae) j)) k=true) T.length [] trivial ⟨0,?_,rfl,rfl,?_,rfl,rfl⟩ ?_
 ·rfl
 ·omega
 rintro m xs o ⟨k,rfl,rfl,rfl,hk,hR,hD⟩;refine vK1 ?_;refine AW.c (λh=>?_) λh=>?_
 ·have hpk:=hp _ (at_mem (l:=T) (k:=k) Um)
  have hkT:k<T.length:=by omega
  (refine vU2 ?_ ?_<;>intro h)
  ·rcases h with h|h
   ·rw[Gx hkT h]
   ·rw[KK hkT h]
  ·exact⟨_,[_],[],Um,⟨k+1,rfl,rfl,rfl,Um,cf hR h.1,cf hD (by rw[(D8 aD.ae hkT).1 h.2];rfl)⟩,rfl,trivial⟩
 ·refine vU1 ?_;refine AW.aw [4] [1] (λm xs o=>∃j:Nat,xs=[.aa j]/\o=[]/\m=S.length - j/\j<=S.length/\cg (ql T S) j=true) S.length [] trivial ⟨0,?_,rfl,rfl,?_,rfl⟩ ?_
  ·rfl
  ·omega
  rintro m xs o ⟨j,rfl,rfl,rfl,hj,hQ⟩
  (refine vU3 ?_ ?_ ?_<;>with_reducible repeat intro h)
  ·rw[Gy baa (OE h)]
  ·exact⟨_,[_],[],Um,⟨j+1,rfl,rfl,rfl,Um,cf hQ (LO h)⟩,rfl,trivial⟩
  ·rw[show k=T.length by omega]at hR hD;rw[show j=S.length by omega]at hQ;have hd:cm (T.map aD.ae)=true:=by unfold cm;rw[length_map];exact hD
   rw[ko,hR,hQ,hd,show decide ((T.length:Int)<=8)=decide (T.length<=8)from decide_eq_decide.2 Um,show decide ((S.length:Int)<=8)=decide (S.length<=8)from decide_eq_decide.2 Um];simp
end
end
end Go.Proofs
namespace Go.Ab
end Go.Ab
namespace Go.Dt
open Go.Ab
def Y4{x:aD}{r:Int}(h0:0<=r)(h:0<=dH x r):(wt x.dh:Int)<=r/\(x.aG.length:Int)<=r:=by
 unfold dH at h;obtain⟨a0,h⟩:=aK h;obtain⟨a1,h⟩:=aK h;obtain⟨a2,h⟩:=aK h;have a0':aC x.ae r<=r:=aQ _ _ h0
 have e2:=bh gC lZ x.aG _ a0
 have e3:=E1 a1 a2
 have e4:=Kc a1;exact⟨Um,Um⟩
end Go.Dt
namespace Go.Proofs
open Go.Ab Go.Dt
attribute [-instance] ju kO cPf
instance(T:List aD)(S:List bp):Ctr lim prog 87 [] [.agg [.ab 3 aR T,.ab 4 aX S]] (.ac (ko dM T S)) [] (oP T):=Nu dM T S
instance(T:List aD)(S:List bp):Ctr lim prog 80 [] [.agg [.ab 3 aR T,.ab 4 aX S]] (.ac (ko dM T S)) [] (oP T):=L7 dM T S
end Go.Proofs
namespace Go.Dt
open Go Go.Ab
def mxG:List ah->Nat
 | []=>0
 | .mk n v ks::xs=>max (max n.length v.length) (max (mxG ks) (mxG xs))
def FW:∀l:List ah,mxG l<=wt l
 | []=>by rw[mxG];omega
 | .mk n v ks::xs=>by
  have:=FW ks;have:=FW xs;rw[mxG,jv];simp only[ah.ae,ah.aq,ah.af];omega
def CE(op:Int):∀l:List ah,mxE (edO op l)=mxG l
 | []=>by rw[edO,SC,mxG]
 | .mk n v ks::xs=>by rw[edO,FX,mxG,CE op xs];simp only[aI.ae,aI.aq,aI.af];rw[CE op ks]
def NT(b:List ah):wtE (edO 1 b)<=wt b:=by
 have h1:=Av 1 b
 have h2:=CE 1 b
 have h3:=FW b
 have h4:=N7 b;unfold wtE;omega
end Go.Dt
namespace Go.Proofs
open Go.Ab Go.Dt
attribute [local go_sem] bD aS bk Hm iM iE
def vl{s:List ag}{l:List ah}(h:cW s l=true):∀x∈l,okX (dk s) x:=by simp only[cW,Bool.and_eq_true]at h;exact ui h.2
instance(s:List ag)(a b:List ah):Ctr lim prog 92 [] [.ab 19 ak s,.ab 3 ai a,.ab 3 ai b] (.ac (lU s a b)) [] (wtS s<=1048576/\wt a<=1048576/\wt b<=1048576):=by
 have hq:=Ju (SizeOf.sizeOf a+1) s a b;refine Ctr.bd func92 ntmps92 λhp=>?_;have gOn:=bI.on;obtain⟨h1,h2,h3⟩:=hp
 cases ea:cW s a with
 | false =>
  (refine vP1 ea ?_;with_reducible repeat first|intro(K:_->_->Prop) hK|intro h)
  rw[lU,ea];rfl
 | true =>
  cases eb:cW s b with
  | false =>
   (refine vP1 (And.intro ea eb) ?_;with_reducible repeat first|intro(K:_->_->Prop) hK|intro h)
   rw[lU,ea,eb];rfl
  | true =>
   have ha:=vl ea
   have hb:=vl eb
   (refine vP3 (And.intro ea eb) ?_ ?_ ?_<;>with_reducible repeat first|intro(K:_->_->Prop) hK|intro h)
   ·exact ha _ baa
   ·exact hb _ baa
   ·rw[lU,ea,eb];rfl
instance(s:List ag)(a b:List ah):Ctr lim prog 85 [] [.ab 19 ak s,.ab 3 ai a,.ab 3 ai b] (.ac (lU s a b)) [] (wtS s<=1048576/\wt a<=1048576/\wt b<=1048576):=by
 have hq:=IQ (SizeOf.sizeOf a+1) s a b;refine Ctr.bd func85 ntmps85 λhp=>?_;have gOn:=bI.on;obtain⟨h1,h2,h3⟩:=hp
 cases ea:cW s a with
 | false =>
  (refine vP1 ea ?_;with_reducible repeat first|intro(K:_->_->Prop) hK|intro h)
  rw[lU,ea];rfl
 | true =>
  cases eb:cW s b with
  | false =>
   (refine vP1 (And.intro ea eb) ?_;with_reducible repeat first|intro(K:_->_->Prop) hK|intro h)
   rw[lU,ea,eb];rfl
  | true =>
   have ha:=vl ea
   have hb:=vl eb
   (refine vP3 (And.intro ea eb) ?_ ?_ ?_<;>with_reducible repeat first|intro(K:_->_->Prop) hK|intro h)
   ·exact ha _ baa
   ·exact hb _ baa
   ·rw[lU,ea,eb];rfl
instance(s:List ag)(a b:List ah):Ctr lim prog 91 [] [.ab 19 ak s,.ab 3 ai a,.ab 3 ai b] (.tup [.sl true 3 ((mgT s a b).1.map (ai true)),.aa (mgT s a b).2]) [] (wtS s<=1048576/\wt a<=1048576/\wt b<=1048576):=by
 have he:=Nv (SizeOf.sizeOf b+1) 1 b;refine Ctr.bd func91 ntmps91 λhp=>?_;have gOn:=bI.on;obtain⟨h1,h2,h3⟩:=hp;have hw:=NT b;refine vK1 ?_;refine AW.c (λh=>?_) λh=>?_
 ·refine vU1 ?_;rw[show mgT s a b=(a,1)from if_pos h]
 ·have hbt:=h;clear h;refine vU1 ?_;rw[show mgT s a b=mdT s a (edO 1 b)from if_neg (by rw[hbt];simp)]
instance(s:List ag)(a b:List ah):Ctr lim prog 84 [] [.ab 19 ak s,.ab 3 ai a,.ab 3 ai b] (.tup [.sl true 3 ((mgT s a b).1.map (ai true)),.aa (mgT s a b).2]) [] (wtS s<=1048576/\wt a<=1048576/\wt b<=1048576):=by
 have he:=L8 (SizeOf.sizeOf b+1) 1 b;refine Ctr.bd func84 ntmps84 λhp=>?_;have gOn:=bI.on;obtain⟨h1,h2,h3⟩:=hp;have hw:=NT b;refine vK1 ?_;refine AW.c (λh=>?_) λh=>?_
 ·refine vU1 ?_;rw[show mgT s a b=(a,1)from if_pos h]
 ·have hbt:=h;clear h;refine vU1 ?_;rw[show mgT s a b=mdT s a (edO 1 b)from if_neg (by rw[hbt];simp)]
end Go.Proofs
namespace Go.Dt
open Go Go.Ab
def RE{a b:List ah}(h:a.Perm b):wt a=wt b:=by
 induction h with
 | nil=>rfl
 | cons x _ ih=>rw[jv,jv,ih]
 | swap x y l=>rw[jv,jv,jv,jv];omega
 | trans _ _ h1 h2=>exact h1.trans h2
def Su{n:ag}{nm v:Str}{e:Bool}{ks:Option (List ah)}{y:ah}{c:Nat}(h:vk n nm v e ks=some (some y))(hk:∀k,ks=some k->wt k<=c):wt [y]<=41+nm.length+c:=by
 unfold vk at h;split at h
 ·split at h
  ·cases h;have:=rp n.fType v;rw[jv,lL];simp only[ah.ae,ah.aq,ah.af];rw[lL];omega
  ·cases h
 ·split at h
  ·cases h
  ·rename_i k;split at h
   ·split at h
    ·cases h
    ·cases h;have:=hk _ rfl;rw[jv,lL];simp only[ah.ae,ah.aq,ah.af,length_nil];omega
   ·cases h
def yf:∀(l:List ah) (d:List ag) (acc out:List ah),iz d acc l=some out->wt out<=wt acc+wt l+40 * cnt l
 | [],d,acc,out,h=>by
  rw[u6]at h;cases h;omega
 | .mk nm v ks::xs,d,acc,out,h=>by
  rw[iz]at h;rw[iQ,jv];simp only[ah.ae,ah.aq,ah.af];split at h
  ·cases h
  ·split at h
   ·cases h
   ·have:=yf xs d acc out h;omega
   ·rename_i y hy;split at h
    ·cases h
    ·rename_i acc' hp;have h1:=yf xs d acc' out h
     have h2:=RE (Go.Proofs.sG _ _ _ hp)
     have h3:=Su (c:=wt ks+40 * cnt ks) hy λk hk=>by have:=yf ks _ _ _ hk;rw[lL]at this;omega
     rw[jv]at h2;rw[jv,lL]at h3;omega
def Tv(ip:Str->Bool)(cb:dq->Str->Bool)(t:aD)(l:List cu):wt (ftN ip cb cvS t l)<=194040:=by
 unfold ftN
 cases h:n8 ip cb t l with
 | false=>rw[cond_false,lL];omega
 | true =>
  rw[cond_true,<- sW];simp only[n8,dz,p7,Bool.and_eq_true,decide_eq_true_eq]at h
  have:=yC (a:=l.map (cnA cvS t.aG)) (λx hx=>by
   obtain⟨y,_,rfl⟩:=List.mem_map.1 hx
   exact rp _ _) t.dh (by simp[h])
  have h2:cnt t.dh<=120:=by simp[h]
  omega
def OJ{s:List ag}{l out:List ah}(h:oV s l=some out):wt out<=wt l+4800:=by
 unfold oV at h;split at h
 ·have:=yf _ _ _ _ h;rw[lL]at this;omega
 ·cases h
end Go.Dt
namespace Go.Proofs
open Go.Ab Go.Dt
def LL(T:List aD)(s:List ag)(x:bp):wt (gm T s x).1<=1048576:=by
 unfold gm;split
 ·rw[lL];omega
 ·split
  ·rw[lL];omega
  ·split
   ·rw[lL];omega
   ·rename_i h;have h1:=OJ h
    have h2:=Tv dM cvB (at_ T (tmI T x.bz).toNat) x.fArgs;simp only;omega
def jP(T:List aD)(s:List ag)(dev:Str):List bp->List ah->List ah×Int
 | [],c=>(c,0)
 | x::xs,c =>
  if cont x.bV dev=false then jP T s dev xs c
  else if ¬(gm T s x).2=0 then ([],(gm T s x).2)
  else if ¬(mgT s c (gm T s x).1).2=0 then ([],3)
  else if lU s c (mgT s c (gm T s x).1).1=false then ([],4)
  else jP T s dev xs (mgT s c (gm T s x).1).1
def inT(T:List aD)(S:List bp)(s:List ag)(dev:Str)(l:List ah):List ah×Int :=
 if ko dM T S=true/\cW s l=true then jP T s dev S l else ([],1)
section
variable {T : List aD} {s : List ag} {dev : Str} {S : List bp} {k : Nat} {c : List ah}
def Gz(h:k<S.length)(h1:cont (at_ S k).bV dev=false):jP T s dev (S.drop k) c=jP T s dev (S.drop (k+1)) c:=by rw[bA h,jP,if_pos h1]
def GA(h:k<S.length)(h1:¬cont (at_ S k).bV dev=false)(h2:¬(gm T s (at_ S k)).2=0):jP T s dev (S.drop k) c=([],(gm T s (at_ S k)).2):=by rw[bA h,jP,if_neg h1,if_pos h2]
def Rb(h:k<S.length)(h1:¬cont (at_ S k).bV dev=false)(h2:¬ ¬(gm T s (at_ S k)).2=0)(h3:¬(mgT s c (gm T s (at_ S k)).1).2=0):jP T s dev (S.drop k) c=([],3):=by rw[bA h,jP,if_neg h1,if_neg h2,if_pos h3]
def Ra(h:k<S.length)(h1:¬cont (at_ S k).bV dev=false)(h2:¬ ¬(gm T s (at_ S k)).2=0)(h3:¬ ¬(mgT s c (gm T s (at_ S k)).1).2=0)(h4:lU s c (mgT s c (gm T s (at_ S k)).1).1=false):jP T s dev (S.drop k) c=([],4):=by rw[bA h,jP,if_neg h1,if_neg h2,if_neg h3,if_pos h4]
def Nh(h:k<S.length)(h1:¬cont (at_ S k).bV dev=false)(h2:¬ ¬(gm T s (at_ S k)).2=0)(h3:¬ ¬(mgT s c (gm T s (at_ S k)).1).2=0)(h4:¬lU s c (mgT s c (gm T s (at_ S k)).1).1=false):jP T s dev (S.drop k) c=jP T s dev (S.drop (k+1)) (mgT s c (gm T s (at_ S k)).1).1:=by rw[bA h,jP,if_neg h1,if_neg h2,if_neg h3,if_neg h4]
end
def Q5{s:List ag}{a b:List ah}(ha:wt a<=1048576)(h:¬ ¬(mgT s a b).2=0):wt (mgT s a b).1<=1048576:=by
 unfold mgT at h ⊢;split at h
 ·exact absurd Xp h
 ·rename_i h1;rw[if_neg h1];have:=(MN s a (edO 1 b)).2 (by simpa using h);omega
attribute [-instance] ju kO
attribute [local go_sem] bD aS bk iM iE
instance(T:List aD)(S:List bp)(s:List ag)(dev:Str)(l:List ah):Ctr lim prog 28 [] [.agg [.ab 3 aR T,.ab 4 aX S],.ab 19 ak s,.str dev,.ab 3 ai l] (.tup [.sl true 3 ((inT T S s dev l).1.map (ai true)),.aa (inT T S s dev l).2]) [] (oP T/\(∀x∈S,x.fArgs.length<=1048576/\eO x.fArgs)/\wtS s<=1048576/\wt l<=1048576):=by
 refine Ctr.bd func28 ntmps28 λhp=>?_;have gOn:=bI.on;obtain⟨ht,hS,h1,h2⟩:=hp;refine AW.f1 0 λhf=>?_;refine vK1 ?_;refine AW.c (λh=>?_) λh=>?_
 ·refine vU1 ?_;rw[inT,if_neg (by rintro⟨c1,c2⟩;rcases h with h|h<;>simp_all)];rfl
 have hI:inT T S s dev l=jP T s dev S l:=if_pos h;clear h;refine vK1 ?_;refine AW.aw [10,32] [1,2,4,30,31] (λm xs o=>∃(k:Nat) (c:List ah),xs=[.ad 3 ai c,.aa k]/\o=[]/\m=S.length - k/\k<=S.length/\wt c<=1048576/\jP T s dev (S.drop k) c=inT T S s dev l) S.length [] trivial ⟨0,l,rfl,rfl,rfl,Um,h2,hI.symm⟩ ?_;rintro m xs o ⟨k,c,rfl,rfl,rfl,hk,hwc,hR⟩;refine vK1 ?_;refine AW.c (λh=>?_) λh=>?_
 ·have hlk:=h
  have hx:=hS _ (at_mem h)
  have hw1:=LL T s (at_ S k)
  have hw2:=λhq=>Q5 (s:=s) (a:=c) (b:=(gm T s (at_ S k)).1) hwc hq;clear h
  (refine vK1 ?_;intro h)
  refine AW.c (λh=>?_) λh=>?_
  ·refine vU1 ?_;exact⟨_,[_,_],_,Um,⟨k+1,c,rfl,rfl,rfl,Um,hwc,by rw[<- hR,Gz hlk h]⟩,rfl,gO⟩
  have hct:¬cont (at_ S k).bV dev=false:=by rw[h];simp
  clear h
  (refine vK2 ?_ ?_<;>with_reducible repeat intro h)
  ·exact hx.2
  refine AW.c (λh=>?_) λh=>?_
  ·refine vU1 ?_;rw[<- hR,GA hlk hct h];rfl
  have hc1:¬ ¬(gm T s (at_ S k)).2=0:=λc=>c h;clear h;refine vK1 ?_;refine AW.c (λh=>?_) λh=>?_
  ·refine vU1 ?_;rw[<- hR,Rb hlk hct hc1 h];rfl
  have hc2:¬ ¬(mgT s c (gm T s (at_ S k)).1).2=0:=λc=>c h
  have hwm:=hw2 hc2;clear h;refine vK1 ?_;refine AW.c (λh=>?_) λh=>?_
  ·refine vU1 ?_;rw[<- hR,Ra hlk hct hc1 hc2 h];rfl
  ·have hpt:¬lU s c (mgT s c (gm T s (at_ S k)).1).1=false:=by rw[h];simp
   clear h;refine vU1 ?_;exact⟨_,[_,_],_,Um,⟨k+1,_,rfl,rfl,rfl,Um,hwm,by rw[<- hR,Nh hlk hct hc1 hc2 hpt]⟩,rfl,gO⟩
 ·refine vU1 ?_;rw[cT h,jP]at hR;rw[<- hR]
instance(T:List aD)(S:List bp)(s:List ag)(dev:Str)(l:List ah):Ctr lim prog 26 [] [.agg [.ab 3 aR T,.ab 4 aX S],.ab 19 ak s,.str dev,.ab 3 ai l] (.tup [.sl true 3 ((inT T S s dev l).1.map (ai true)),.aa (inT T S s dev l).2]) [] (oP T/\(∀x∈S,x.fArgs.length<=1048576/\eO x.fArgs)/\wtS s<=1048576/\wt l<=1048576):=by
 refine Ctr.bd func26 ntmps26 λhp=>?_;have gOn:=bI.on;obtain⟨ht,hS,h1,h2⟩:=hp;refine AW.f1 0 λhf=>?_;refine vK1 ?_;refine AW.c (λh=>?_) λh=>?_
 ·refine vU1 ?_;rw[inT,if_neg (by rintro⟨c1,c2⟩;rcases h with h|h<;>simp_all)];rfl
 have hI:inT T S s dev l=jP T s dev S l:=if_pos h;clear h;refine vK1 ?_;refine AW.aw [11,12] [1,2,4,10] (λm xs o=>∃(k:Nat) (c:List ah),xs=[.ad 3 ai c,.aa k]/\o=[]/\m=S.length - k/\k<=S.length/\wt c<=1048576/\jP T s dev (S.drop k) c=inT T S s dev l) S.length [] trivial ⟨0,l,rfl,rfl,rfl,Um,h2,hI.symm⟩ ?_;rintro m xs o ⟨k,c,rfl,rfl,rfl,hk,hwc,hR⟩;refine vK1 ?_;refine AW.c (λh=>?_) λh=>?_
 ·have hlk:=h
  have hx:=hS _ (at_mem h)
  have hw1:=LL T s (at_ S k)
  have hw2:=λhq=>Q5 (s:=s) (a:=c) (b:=(gm T s (at_ S k)).1) hwc hq;clear h;refine vK1 ?_;refine AW.c (λh=>?_) λh=>?_
  ·refine vU1 ?_;exact⟨_,[_,_],_,Um,⟨k+1,c,rfl,rfl,rfl,Um,hwc,by rw[<- hR,Gz hlk h]⟩,rfl,gO⟩
  have hct:¬cont (at_ S k).bV dev=false:=by rw[h];simp
  clear h
  (refine vK2 ?_ ?_<;>with_reducible repeat intro h)
  ·exact hx.2
  refine AW.c (λh=>?_) λh=>?_
  ·refine vU1 ?_;rw[<- hR,GA hlk hct h];rfl
  have hc1:¬ ¬(gm T s (at_ S k)).2=0:=λc=>c h;clear h;refine vK1 ?_;refine AW.c (λh=>?_) λh=>?_
  ·refine vU1 ?_;rw[<- hR,Rb hlk hct hc1 h];rfl
  have hc2:¬ ¬(mgT s c (gm T s (at_ S k)).1).2=0:=λc=>c h
  have hwm:=hw2 hc2;clear h;refine vK1 ?_;refine AW.c (λh=>?_) λh=>?_
  ·refine vU1 ?_;rw[<- hR,Ra hlk hct hc1 hc2 h];rfl
  ·have hpt:¬lU s c (mgT s c (gm T s (at_ S k)).1).1=false:=by rw[h];simp
   clear h;refine vU1 ?_;exact⟨_,[_,_],_,Um,⟨k+1,_,rfl,rfl,rfl,Um,hwm,by rw[<- hR,Nh hlk hct hc1 hc2 hpt]⟩,rfl,gO⟩
 ·refine vU1 ?_;rw[cT h,jP]at hR;rw[<- hR]
end Go.Proofs
namespace Go.Dt
open Go Go.Ab
end Go.Dt
namespace Go.Proofs
open Go.Ab Go.Dt
end Go.Proofs
namespace Go.Dt
open Go Go.Ab
def TJ{x:dx}{r:Int}(h0:0<=r)(h1:r<=1048576)(h:0<=da x r):wtS x.av.aP<=1048576/\wt x.av.bf<=1048576:=by
 unfold da at h;obtain⟨a,h⟩:=aK h;obtain⟨b,_⟩:=aK h;have e2:=aQ x.ae r h0;unfold jw at b;obtain⟨c,b⟩:=aK b;have e1:=RF a c;obtain⟨d,_⟩:=aK b;have e3:=E1 c d
 have e4:=bh ck gQ x.av.aP _ a;omega
def Qu{x:dx}{r:Int}(h0:0<=r)(h1:r<=1048576)(h:0<=da x r):wt x.dF<=1048576:=by
 unfold da at h;obtain⟨a,h⟩:=aK h;obtain⟨b,h⟩:=aK h;obtain⟨c,_⟩:=aK h;have e1:=aQ x.ae r h0
 have e2:=qK x.av _ a
 have e3:=E1 b c;omega
end Go.Dt
namespace Go.Proofs
open Go.Ab Go.Dt
def aaP(T:List aD)(S:List bp)(x:dx):Bool :=
 (inT T S x.av.aP x.ae x.dF).2 == 0 && smT (inT T S x.av.aP x.ae x.dF).1 x.av.bf
attribute [-instance] ju kO
attribute [local go_sem] bD aS bk iM iE
end Go.Proofs
namespace Go.Dt
open Go.Ab
def gK(x:bH)(k:Int):bH×Int:=(⟨mkT k,⟨k+1,(mkL bq x.fType.ay (k+1+1)).1,(mkL aA x.fType.aB ((mkL bq x.fType.ay (k+1+1)).2)).1,mkT ((mkL aA x.fType.aB ((mkL bq x.fType.ay (k+1+1)).2)).2),mkT ((mkL aA x.fType.aB ((mkL bq x.fType.ay (k+1+1)).2)).2+1)⟩⟩,(mkL aA x.fType.aB ((mkL bq x.fType.ay (k+1+1)).2)).2+1+1)
def nu(x:bH)(k:Int):k+1<=(gK x k).2:=by
 have g0:=bJ kW x.fType.ay (k+1+1)
 have g1:=bJ iJ x.fType.aB ((mkL bq x.fType.ay (k+1+1)).2);unfold gK;simp only;omega
def cD(x:aD)(k:Int):aD×Int:=(⟨mkT k,(mkL gK x.aG (k+1)).1,(mkL aM x.dh ((mkL gK x.aG (k+1)).2)).1⟩,(mkL aM x.dh ((mkL gK x.aG (k+1)).2)).2)
def kJ(x:aD)(k:Int):k+1<=(cD x k).2:=by
 have g0:=bJ nu x.aG (k+1)
 have g1:=bJ dL x.dh ((mkL gK x.aG (k+1)).2);unfold cD;simp only;omega
def iL(x:cu)(k:Int):cu×Int:=(⟨mkT k,mkT (k+1)⟩,k+1+1)
def pq(x:cu)(k:Int):k+1<=(iL x k).2:=by unfold iL;simp only;omega
def dU(x:bp)(k:Int):bp×Int:=(⟨mkT k,mkT (k+1),(mkL iL x.fArgs (k+1+1)).1,(mkL aA x.bV ((mkL iL x.fArgs (k+1+1)).2)).1⟩,(mkL aA x.bV ((mkL iL x.fArgs (k+1+1)).2)).2)
def lQ(x:bp)(k:Int):k+1<=(dU x k).2:=by
 have g0:=bJ pq x.fArgs (k+1+1)
 have g1:=bJ iJ x.bV ((mkL iL x.fArgs (k+1+1)).2);unfold dU;simp only;omega
def Zw(x:bp)(k:Int):bp×Int:=(⟨x.ae,x.bz,(mkL iL x.fArgs k).1,(mkL aA x.bV ((mkL iL x.fArgs k).2)).1⟩,(mkL aA x.bV ((mkL iL x.fArgs k).2)).2)
def wL(x:iC)(k:Int):iC×Int:=(⟨(mkL cD x.aL k).1,(mkL dU x.ba ((mkL cD x.aL k).2)).1⟩,(mkL dU x.ba ((mkL cD x.aL k).2)).2)
def LG(x:iC)(k:Int):k<=(wL x k).2:=by
 have g0:=bJ kJ x.aL k
 have g1:=bJ lQ x.ba ((mkL cD x.aL k).2);unfold wL;simp only;omega
def cO(x:fE)(k:Int):fE×Int:=(⟨(mkL aM x.fc k).1,(mkL aM x.fc k).2,(mkL aM x.fc k).2+1⟩,(mkL aM x.fc k).2+1+1)
def lP(x:fE)(k:Int):k+1<=(cO x k).2:=by have g0:=bJ dL x.fc k;unfold cO;simp only;omega
def fB(x:dx)(k:Int):dx×Int:=(⟨mkT k,⟨(mkL bB x.av.aP (k+1)).1,(mkL aM x.av.bf ((mkL bB x.av.aP (k+1)).2)).1,(mkL aM x.av.cw ((mkL aM x.av.bf ((mkL bB x.av.aP (k+1)).2)).2)).1,(mkL aM x.av.cw ((mkL aM x.av.bf ((mkL bB x.av.aP (k+1)).2)).2)).2,(mkL cO x.av.dS ((mkL aM x.av.cw ((mkL aM x.av.bf ((mkL bB x.av.aP (k+1)).2)).2)).2+1)).1,⟨(((mkL cO x.av.dS ((mkL aM x.av.cw ((mkL aM x.av.bf ((mkL bB x.av.aP (k+1)).2)).2)).2+1)).2).tmod 3 == 0),(mkL cO x.av.dS ((mkL aM x.av.cw ((mkL aM x.av.bf ((mkL bB x.av.aP (k+1)).2)).2)).2+1)).2+1,(mkL cO x.av.dS ((mkL aM x.av.cw ((mkL aM x.av.bf ((mkL bB x.av.aP (k+1)).2)).2)).2+1)).2+1+1,mkT ((mkL cO x.av.dS ((mkL aM x.av.cw ((mkL aM x.av.bf ((mkL bB x.av.aP (k+1)).2)).2)).2+1)).2+1+1+1),(mkL aM x.av.bG.dZ ((mkL cO x.av.dS ((mkL aM x.av.cw ((mkL aM x.av.bf ((mkL bB x.av.aP (k+1)).2)).2)).2+1)).2+1+1+1+1)).1⟩⟩,(mkL aM x.dF ((mkL aM x.av.bG.dZ ((mkL cO x.av.dS ((mkL aM x.av.cw ((mkL aM x.av.bf ((mkL bB x.av.aP (k+1)).2)).2)).2+1)).2+1+1+1+1)).2)).1,(((mkL aM x.dF ((mkL aM x.av.bG.dZ ((mkL cO x.av.dS ((mkL aM x.av.cw ((mkL aM x.av.bf ((mkL bB x.av.aP (k+1)).2)).2)).2+1)).2+1+1+1+1)).2)).2).tmod 3 == 0),(mkL aM x.dF ((mkL aM x.av.bG.dZ ((mkL cO x.av.dS ((mkL aM x.av.cw ((mkL aM x.av.bf ((mkL bB x.av.aP (k+1)).2)).2)).2+1)).2+1+1+1+1)).2)).2+1,(((mkL aM x.dF ((mkL aM x.av.bG.dZ ((mkL cO x.av.dS ((mkL aM x.av.cw ((mkL aM x.av.bf ((mkL bB x.av.aP (k+1)).2)).2)).2+1)).2+1+1+1+1)).2)).2+1+1).tmod 3 == 0)⟩,(mkL aM x.dF ((mkL aM x.av.bG.dZ ((mkL cO x.av.dS ((mkL aM x.av.cw ((mkL aM x.av.bf ((mkL bB x.av.aP (k+1)).2)).2)).2+1)).2+1+1+1+1)).2)).2+1+1+1)
def nP(x:dx)(k:Int):k+1<=(fB x k).2:=by
 have g0:=bJ jT x.av.aP (k+1)
 have g1:=bJ dL x.av.bf ((mkL bB x.av.aP (k+1)).2)
 have g2:=bJ dL x.av.cw ((mkL aM x.av.bf ((mkL bB x.av.aP (k+1)).2)).2)
 have g3:=bJ lP x.av.dS ((mkL aM x.av.cw ((mkL aM x.av.bf ((mkL bB x.av.aP (k+1)).2)).2)).2+1)
 have g4:=bJ dL x.av.bG.dZ ((mkL cO x.av.dS ((mkL aM x.av.cw ((mkL aM x.av.bf ((mkL bB x.av.aP (k+1)).2)).2)).2+1)).2+1+1+1+1)
 have g5:=bJ dL x.dF ((mkL aM x.av.bG.dZ ((mkL cO x.av.dS ((mkL aM x.av.cw ((mkL aM x.av.bf ((mkL bB x.av.aP (k+1)).2)).2)).2+1)).2+1+1+1+1)).2);unfold fB;simp only;omega
def dJ(x:iw)(k:Int):iw×Int:=(⟨mkT k,(mkL aM x.fc (k+1)).1,(mkL aM x.fc (k+1)).2⟩,(mkL aM x.fc (k+1)).2+1)
def jo(x:iw)(k:Int):k+1<=(dJ x k).2:=by have g0:=bJ dL x.fc (k+1);unfold dJ;simp only;omega
def XR(x:ib)(k:Int):ib×Int:=(⟨x.ik,(mkL dJ x.eu k).1⟩,(mkL dJ x.eu k).2)
def Zy(x:ox)(k:Int):ox×Int:=(⟨⟨(mkL cD x.lK.aL k).1,(mkL dU x.lK.ba ((mkL cD x.lK.aL k).2)).1⟩,(mkL fB x.n9 ((mkL dU x.lK.ba ((mkL cD x.lK.aL k).2)).2)).1,⟨x.lh.ik,(mkL dJ x.lh.eu ((mkL fB x.n9 ((mkL dU x.lK.ba ((mkL cD x.lK.aL k).2)).2)).2)).1⟩,⟨x.sX.ik,(mkL dJ x.sX.eu ((mkL dJ x.lh.eu ((mkL fB x.n9 ((mkL dU x.lK.ba ((mkL cD x.lK.aL k).2)).2)).2)).2)).1⟩,x.Qk⟩,(mkL dJ x.sX.eu ((mkL dJ x.lh.eu ((mkL fB x.n9 ((mkL dU x.lK.ba ((mkL cD x.lK.aL k).2)).2)).2)).2)).2)
open Go Go.Ab
def Qt{l:List dx}{r:Int}(h0:0<=r)(h1:r<=1048576)(h:0<=aJ da l r):∀y∈l,wtS y.av.aP<=1048576/\wt y.dF<=1048576:=by intro y hy;obtain⟨r',p,q,s⟩:=(uV da lE l r h0 h).2 y hy;exact⟨(TJ p Um s).1,Qu p Um s⟩
end Go.Dt
namespace Go.Proofs
open Go.Ab Go.Dt
def ae1(T:List aD)(S:List bp)(l:List dx):List Str:=(l.filter λx=>!aaP T S x).map dx.ae
attribute [-instance] ju kO
attribute [local go_sem] bD aS bk iM iE
