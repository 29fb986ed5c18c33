/- Part of a proof. -/
import Derived.Test.YtbiikafnjialjaaGreatDoorG31
set_option linter.all false
set_option maxRecDepth 20000
set_option maxHeartbeats 4000000
namespace Go.Proofs
open Go.Ab Go.Dt
theorem IV(l:List UInt8){n:Int}(h:0<=n/\n<=255):bG l++[.v (.int .u8 n)]=bG (l++[UInt8.ofNat n.toNat]):=by
 have:((UInt8.ofNat n.toNat).toNat:Int)=n:=by rw [UInt8.toNat_ofNat'];omega
 simp only [bG,List.map_append,List.map_cons,List.map_nil,this]
instance WT(b:Nat)(n:Int)(out:Str):Ctr lim Tryz.prog 249 [(b,some [.sl true 1 (bG out)])] [.v (.int .u8 n),.ptr b 0] (.tup []) [some [.sl true 1 (bG (out++[UInt8.ofNat n.toNat]))]] ((0<=n/\n<=255)/\out.length<1099511627776):=by
 refine Ctr.bd Tryz.func249 Tryz.ntmps249 rfl rfl fun hp=>?_
 (refine vU ?_;with_reducible repeat' first|exact Le.l|apply Sw|intro (K:_->_->Prop) hK|intro h)
 rw [IV out hp.1]
instance Wg(L:Nat->Nat)(a v n:Str):Ctr L Tryz.prog 252 [] [.agg [.str a,.str v],.vp [.str n]] (.v (.bool (a == n))) [] True:=by
 refine Ctr.bd Tryz.func252 Tryz.ntmps252 rfl rfl fun hp=>?_
 all_goals exact uU
instance Vw(l:List bI)(n:Str):Ctr lim Tryz.prog 251 [] [.sl false 2 (l.map (bp false)),.fn 252 [.vp [.str n]]] (.v (.int .i64 (idx (fU n) l))) [] True:=by
 refine Ctr.bd Tryz.func251 Tryz.ntmps251 rfl rfl fun hp=>?_
 refine AW.fact 0 fun hf=>?_
 simp (disch:=omega) only [go_sem,Nat.reduceBEq] at hf
 (refine vU ?_;with_reducible repeat' first|exact Le.l|apply Sw|intro (K:_->_->Prop) hK|intro h)
 refine AW.aw [8] [0,1,7] (fun m xs o=>∃ k:Nat,xs=[.v (.int .i64 k)]/\o=[]/\m=l.length - k/\k<=l.length/\∀ x∈l.take k,fU n x=false) l.length [] trivial ⟨0,?_,rfl,rfl,?_,?_⟩ ?_
 ·rfl
 ·omega
 ·simp
 rintro m xs o ⟨k,rfl,rfl,rfl,hk,hR⟩
 (refine vU ?_;with_reducible repeat' first|exact Le.l|apply Sw|intro (K:_->_->Prop) hK|intro h)
 ·rw [gB (by assumption) hR (by simpa [fU] using h)]
 ·exact ⟨_,[_],[],by omega,⟨k+1,rfl,rfl,rfl,by omega,bD (by assumption) hR (by simpa [fU] using h)⟩,rfl,trivial⟩
 ·rw [jb h hR]
instance WS(b1 b2:Nat)(n:Str)(f:Bool)(out:Str)(l:List bI):Ctr lim Tryz.prog 250 [(b2,some [.v (.bool f)]),(b1,some [.sl true 1 (bG out)])] [.str n,.vp [.sl false 2 (l.map (bp false))],.ptr b2 0,.ptr b1 0] (.tup [])
  [some [.v (.bool (f && (lg l n).isSome))],some [.sl true 1 (bG (out++(lg l n).getD []))]] (b2≠b1/\ek l/\out.length<=1099510579200):=by
 refine Ctr.bd Tryz.func250 Tryz.ntmps250 rfl rfl fun hp=>?_
 have Uh:=iL (p:=fU n) l
 have hval:=zN hp.2.1 n
 have hne:=hp.1
 have hlen:=hp.2.2
 have hv:0<=idx (fU n) l->(lg l n).getD []=(at_ l (idx (fU n) l).toNat).ax/\(lg l n).isSome=true:=fun h=>by
  rw [lg,if_neg (by omega)];exact ⟨rfl,rfl⟩
 (refine vK ?_;with_reducible repeat' first|exact Le.l|apply Sw|intro (K:_->_->Prop) hK|intro h)
 (refine AW.i rfl (fun h=>?_) (fun h=>?_)<;>try simp only [hC,reduceCtorEq] at h)
 ·(refine vU ?_;with_reducible repeat' first|exact Le.l|apply Sw|intro (K:_->_->Prop) hK|intro h)
  ·rw [lg,if_pos h];simp
  ·rw [lg,if_pos h];simp
 have hv':=hv h
 rw [hv'.1] at hval
 refine AW.imp (Imp.lV (b0:=b1) (k:=0) (cells0:=[.sl true 1 (bG out)]) (sz:=1) (l:=bG out) gO rfl (by simpa [List.all_eq_true] using xh out) (fun b hb=>?_) (fun hnil=>?_))
 ·have hb1:=hb.nf
  simp only [go_sem] at hb1
  simp only [wX,sU,List.set_cons_zero]
  (refine vX ?_;with_reducible repeat' first|exact Le.l|apply Sw|intro (K:_->_->Prop) hK|intro h)
  rename_i b3
  refine lI.n (aF.imp (Imp.BF (b0:=b1) (k:=0) (b:=b3) (len:=out.length+(at_ l (idx (fU n) l).toNat).ax.length) (sz:=1) (cells0:=[.arr b3 0 (out.length+(at_ l (idx (fU n) l).toNat).ax.length) 1]) (cells:=bG out++bG (at_ l (idx (fU n) l).toNat).ax) (l:=bG (out++(at_ l (idx (fU n) l).toNat).ax)) gO rfl (by simp (maxSteps:=2000000) (disch:=omega) only [go_sem,wX]) (by omega) (by simp [sU]) ?_ (by simpa [List.all_eq_true] using xh _) ?_))
  ·rw [wX,IU,List.take_of_length_le (by simp [sU])]
  ·refine aF.fin rfl ?_
   simp (maxSteps:=2000000) (disch:=omega) only [go_sem]
   rw [hv'.1,hv'.2]
   simp
 ·(refine vU ?_;with_reducible repeat' first|exact Le.l|apply Sw|intro (K:_->_->Prop) hK|intro h)
  ·rw [hv'.2];simp
  ·have:out=[]:=by cases out with|nil=>rfl|cons c r=>simp [bG] at hnil
   rw [this,hv'.1];rfl
instance Wi(b1 b2:Nat)(s:Str)(l:List bI)(c3:List AV):Ctr lim Tryz.prog 248 [(b1,some [.sl true 1 []]),(b2,some [.v (.bool true)]),(b1,some c3)] [.str s,.fn 249 [.ptr b1 0],.fn 250 [.vp [.sl false 2 (l.map (bp false))],.ptr b2 0,.ptr b1 0]] (.v (.bool (tk s).2))
  [some [.sl true 1 (bG (gF l (tk s).1))],some [.v (.bool (iX l (tk s).1))],some [.sl true 1 (bG (gF l (tk s).1))]] (b2≠b1/\ek l/\s.length<=1048576):=by
 refine Ctr.bd Tryz.func248 Tryz.ntmps248 rfl rfl fun hp=>?_
 have hne:=hp.1
 have hls:=hp.2.2
 have hao:=hp.2.1
 (refine vU ?_;with_reducible repeat' first|exact Le.l|apply Sw|intro (K:_->_->Prop) hK|intro h)
 refine AW.aw [7] [0,1,2] (fun m xs o=>∃ (k:Nat) (d:List Tok),xs=[.v (.int .i64 k)]/\o=[(b1,some [.sl true 1 (bG (gF l d))]),(b2,some [.v (.bool (iX l d))])]/\m=s.length - k/\k<=s.length/\d.length<=k/\gV s k d) s.length [(b1,some [.sl true 1 []]),(b2,some [.v (.bool true)])] ?_ ⟨0,[],?_,rfl,rfl,?_,?_,pX s⟩ ?_
 ·simp (maxSteps:=2000000) (disch:=omega) only [go_sem]
 ·rfl
 ·omega
 ·simp
 rintro m xs o ⟨k,d,rfl,rfl,rfl,hk,ha,hR⟩
 have hol:=mU hp.2.1 d
 (refine vU ?_;with_reducible repeat' first|exact Le.l|apply Sw|intro (K:_->_->Prop) hK|intro h)
 ·exact ⟨_,[_],_,by omega,⟨k+1,d++[_],rfl,rfl,rfl,by omega,by simp;omega,hR.next (rM (by assumption) h)⟩,rfl,fJ hne.symm (by simp [kI,gF,DQ]) (by simp [jV,iX])⟩
 ·exact ⟨_,[_],_,by omega,⟨k+1+1,d++[_],rfl,rfl,rfl,by omega,by simp;omega,hR.next (xo h.1 (by assumption) h.2)⟩,rfl,fJ hne.symm (by simp [kI,gF]) (by simp [jV,iX])⟩
 ·have hq:cX s (k+1)=k+1+1+((s.drop (k+1+1)).takeWhile nmU).length:=by rw [cX,if_pos (by simp only [h.2,Bool.and_true,decide_eq_true_eq];omega),lL h.1 (kL h.2)];omega
  have hle:=oI s (k+1) (by omega)
  refine AW.aw [7] [0,1,2,8] (fun m xs o=>∃ j:Nat,xs=[.v (.int .i64 j)]/\o=[(b1,some [.sl true 1 (bG (gF l d))]),(b2,some [.v (.bool (iX l d))])]/\m=s.length - j/\k+1<=j/\j<=s.length/\j+((s.drop j).takeWhile nmU).length=cX s (k+1)) (s.length - (k+1)) [(b1,some [.sl true 1 (bG (gF l d))]),(b2,some [.v (.bool (iX l d))])] (fJ hne.symm rfl rfl) ⟨k+1,?_,rfl,rfl,?_,?_,?_⟩ ?_
  ·rfl
  ·omega
  ·omega
  ·rw [lL h.1 (kL h.2)];omega
  have h3:cX s (k+1)≠k+1:=by omega
  rintro m xs o ⟨j,rfl,rfl,rfl,hj0,hj,hQ⟩
  (refine vU ?_;with_reducible repeat' first|exact Le.l|apply Sw|intro (K:_->_->Prop) hK|intro h)
  ·rw [lL h.1 h.2] at hQ
   exact ⟨_,[_],_,by omega,⟨j+1,rfl,rfl,rfl,by omega,by omega,by omega⟩,rfl,fJ hne.symm rfl rfl⟩
  ·rw [FH h] at hQ
   have hj:j=cX s (k+1):=by simpa using hQ
   subst hj
   exact ⟨_,[_],_,by omega,⟨_,d++[_],rfl,rfl,rfl,by omega,by simp;omega,hR.next (qU (by assumption) (by assumption) (by assumption) h3)⟩,rfl,fJ hne.symm (by simp [kI,gF]) (by simp [jV,iX])⟩
 all_goals first|rw [hR.bad (qW (by assumption) (by assumption) (by assumption) h)]|rw [hR.fin h]
instance P6(s:Str)(l:List bI):Ctr lim Tryz.prog 192 [] [.str s,.sl false 2 (l.map (bp false))] (.tup [.str (flS l (tk s)),.v (.bool (flB l (tk s)))]) [] (s.length<=1048576/\ek l):=by
 refine Ctr.bd Tryz.func192 Tryz.ntmps192 rfl rfl fun hp=>?_
 have h1:=hp.2
 have h2:=mU h1 (tk s).1
 have h3:=xp s
 (refine vU ?_;with_reducible repeat' first|exact Le.l|apply Sw|intro (K:_->_->Prop) hK|intro h)
 ·have:flB l (tk s)=false:=by rcases h with h|h<;>simp [flB,h]
  simp [flS,this]
 ·simp [flS,flB,h]
end Go.Proofs
namespace Go.Dt
open Go.Ab
mutual
def jh(a:List bI):ah->ah
 | .mk n v ks=>.mk n (flS a (tk v)) (sF a ks)
def sF(a:List bI):List ah->List ah
 | []=>[]
 | x::xs=>jh a x::sF a xs
end
theorem uq(a:List bI):∀ l:List ah,sF a l=l.map (jh a)
 | []=>rfl
 | x::xs=>by simp only [sF,List.map_cons,uq a xs]
theorem Dn(a:List bI)(x:ah):jh a x=.mk x.af (flS a (tk x.ax)) (x.ag.map (jh a)):=by
 cases x;simp only [jh,uq];rfl
theorem o7{α:Type}[Inhabited α]{l:List α}{k:Nat}(h:k<l.length):l.take (k+1)=l.take k++[at_ l k]:=by
 rw [List.take_succ_eq_append_getElem h]
 unfold at_;rw [List.getElem?_eq_getElem h];rfl
theorem Iw{a:List bI}{s:Str}(h:ek a)(hs:s.length<=1048576):(flS a (tk s)).length<=1099511627776:=by
 have h1:=mU h (tk s).1
 have h2:=xp s
 unfold flS
 cases flB a (tk s) with
 | false=>simp
 | true=>simp only [cond_true];omega
end Go.Dt
namespace Go.Proofs
open Go.Ab Go.Dt
theorem Ij(n:Nat)(ih:∀ (l:List ah) (a:List bI),Ctr lim Tryz.prog 129 [] [.sl false 3 (l.map (ak false)),.sl false 2 (a.map (bp false))] (.sl true 3 ((l.map (jh a)).map (ak true))) [] (wt l<n/\n<=1048577/\ek a))(l:List ah)(a:List bI):Ctr lim Tryz.prog 129 [] [.sl false 3 (l.map (ak false)),.sl false 2 (a.map (bp false))] (.sl true 3 ((l.map (jh a)).map (ak true))) [] (wt l<n+1/\n+1<=1048577/\ek a):=by
 refine Ctr.bd Tryz.func129 Tryz.ntmps129 rfl rfl fun hp=>?_
 have hl:l.length<=wt l:=by unfold wt;omega
 have ha:=hp.2.2
 (refine vU ?_;with_reducible repeat' first|exact Le.l|apply Sw|intro h)
 refine AW.aw [5,13] [1,11,12] (fun m xs o=>∃ k:Nat,xs=[.sl true 3 (((l.take k).map (jh a)).map (ak true)),.v (.int .i64 k)]/\o=[]/\m=l.length - k/\k<=l.length) l.length [] trivial ⟨0,?_,rfl,rfl,?_⟩ ?_
 ·rfl
 ·omega
 rintro m xs o ⟨k,rfl,rfl,rfl,hk⟩
 have hlt:(l.take k).length=k:=by rw [List.length_take];omega
 have h1:k<l.length->_:=kr (l:=l) (k:=k)
 have h2:k<l.length->(flS a (tk (at_ l k).ax)).length<=1099511627776:=fun h=>Iw ha (by have:=h1 h;omega)
 (refine vK ?_;with_reducible repeat' first|exact Le.l|apply Sw|intro h)
 (refine AW.i rfl (fun h=>?_) (fun h=>?_)<;>try simp only [hC,reduceCtorEq] at h)
 ·(refine vK ?_;with_reducible repeat' first|exact Le.l|apply Sw|intro h)
  ·exact ⟨_,[_,_],[],by omega,⟨k+1,by rw [o7 (by assumption),List.map_append,List.map_append,List.map_cons,List.map_nil,List.map_cons,List.map_nil,cH,Dn];rfl,rfl,rfl,by omega⟩,rfl,trivial⟩
 ·(refine vK ?_;with_reducible repeat' first|exact Le.l|apply Sw|intro h)
  rw [show k=l.length by omega,List.take_length]
theorem AF:∀ (n:Nat) (l:List ah) (a:List bI),Ctr lim Tryz.prog 129 [] [.sl false 3 (l.map (ak false)),.sl false 2 (a.map (bp false))] (.sl true 3 ((l.map (jh a)).map (ak true))) [] (wt l<n/\n<=1048577/\ek a)
 | 0,l,a=>⟨(aW 129),fun h=>absurd h.1 (Nat.not_lt_zero _)⟩
 | n+1,l,a=>Ij n (AF n) l a
theorem Ly(n:Nat)(ih:∀ (l:List ah) (a:List bI),Ctr lim Tryz.prog 112 [] [.sl false 3 (l.map (ak false)),.sl false 2 (a.map (bp false))] (.sl true 3 ((l.map (jh a)).map (ak true))) [] (wt l<n/\n<=1048577/\ek a))(l:List ah)(a:List bI):Ctr lim Tryz.prog 112 [] [.sl false 3 (l.map (ak false)),.sl false 2 (a.map (bp false))] (.sl true 3 ((l.map (jh a)).map (ak true))) [] (wt l<n+1/\n+1<=1048577/\ek a):=by
 refine Ctr.bd Tryz.func112 Tryz.ntmps112 rfl rfl fun hp=>?_
 have hl:l.length<=wt l:=by unfold wt;omega
 have ha:=hp.2.2
 (refine vU ?_;with_reducible repeat' first|exact Le.l|apply Sw|intro h)
 refine AW.aw [5,6] [0,1] (fun m xs o=>∃ k:Nat,xs=[.sl true 3 (((l.take k).map (jh a)).map (ak true)),.v (.int .i64 k)]/\o=[]/\m=l.length - k/\k<=l.length) l.length [] trivial ⟨0,?_,rfl,rfl,?_⟩ ?_
 ·rfl
 ·omega
 rintro m xs o ⟨k,rfl,rfl,rfl,hk⟩
 have hlt:(l.take k).length=k:=by rw [List.length_take];omega
 have h1:k<l.length->_:=kr (l:=l) (k:=k)
 have h2:k<l.length->(flS a (tk (at_ l k).ax)).length<=1099511627776:=fun h=>Iw ha (by have:=h1 h;omega)
 (refine vK ?_;with_reducible repeat' first|exact Le.l|apply Sw|intro h)
 (refine AW.i rfl (fun h=>?_) (fun h=>?_)<;>try simp only [hC,reduceCtorEq] at h)
 ·(refine vK ?_;with_reducible repeat' first|exact Le.l|apply Sw|intro h)
  ·exact ⟨_,[_,_],[],by omega,⟨k+1,by rw [o7 (by assumption),List.map_append,List.map_append,List.map_cons,List.map_nil,List.map_cons,List.map_nil,cH,Dn];rfl,rfl,rfl,by omega⟩,rfl,trivial⟩
 ·(refine vK ?_;with_reducible repeat' first|exact Le.l|apply Sw|intro h)
  rw [show k=l.length by omega,List.take_length]
theorem EH:∀ (n:Nat) (l:List ah) (a:List bI),Ctr lim Tryz.prog 112 [] [.sl false 3 (l.map (ak false)),.sl false 2 (a.map (bp false))] (.sl true 3 ((l.map (jh a)).map (ak true))) [] (wt l<n/\n<=1048577/\ek a)
 | 0,l,a=>⟨(aW 112),fun h=>absurd h.1 (Nat.not_lt_zero _)⟩
 | n+1,l,a=>Ly n (EH n) l a
instance Sn(l:List ah)(a:List bI):Ctr lim Tryz.prog 129 [] [.sl false 3 (l.map (ak false)),.sl false 2 (a.map (bp false))] (.sl true 3 ((l.map (jh a)).map (ak true))) [] (wt l<=1048576/\ek a):=⟨(aW 129),fun h=>(AF 1048577 l a).out ⟨by omega,by omega,h.2⟩⟩
instance Vj(l:List ah)(a:List bI):Ctr lim Tryz.prog 112 [] [.sl false 3 (l.map (ak false)),.sl false 2 (a.map (bp false))] (.sl true 3 ((l.map (jh a)).map (ak true))) [] (wt l<=1048576/\ek a):=⟨(aW 112),fun h=>(EH 1048577 l a).out ⟨by omega,by omega,h.2⟩⟩
end Go.Proofs
namespace Go.Dt
open Go.Ab
theorem CZ{α:Type}[Inhabited α]{p:α->Bool}:∀ {l:List α} {j:Nat},j<l.length->p (at_ l j)=true->idx p l<=j/\0<=idx p l
 | [],_,h,_=>by simp at h
 | x::xs,0,_,h=>by
  have:p x=true:=h
  simp [idx,this]
 | x::xs,j+1,h,e=>by
  have e':p (at_ xs j)=true:=by simpa [at_] using e
  have:=CZ (l:=xs) (j:=j) (by simpa using h) e'
  simp only [idx]
  split
  ·omega
  ·split<;>omega
theorem I1{l:List bI}{k:Nat}(hk:k<l.length):cont ((l.take k).map bI.af) (at_ l k).af=!decide (idx (fU (at_ l k).af) l=k):=by
 have BB:fU (at_ l k).af (at_ l k)=true:=by simp [fU]
 have hle:=CZ hk BB
 cases hc:cont ((l.take k).map bI.af) (at_ l k).af with
 | true =>
  have hm:=(iR _ _).1 hc
  obtain ⟨x,hx,e⟩:=List.mem_map.1 hm
  obtain ⟨j,hj,e1⟩:=List.getElem_of_mem hx
  rw [List.length_take] at hj
  have e2:fU (at_ l k).af (at_ l j)=true:=by
   have:at_ l j=x:=by
    unfold at_
    rw [List.getElem_take] at e1
    rw [List.getElem?_eq_getElem (by omega),e1];rfl
   rw [this,fU,e];simp
  have:=CZ (show j<l.length by omega) e2
  have:decide (idx (fU (at_ l k).af) l=k)=false:=decide_eq_false (by omega)
  rw [this];rfl
 | false =>
  have:idx (fU (at_ l k).af) l=k:=by
   refine gB hk (fun y hy=>?_) BB
   rw [fU,beq_eq_false_iff_ne]
   intro e
   rw [(iR _ _).2 (List.mem_map.2 ⟨y,hy,e⟩)] at hc
   cases hc
  rw [decide_eq_true this];rfl
def lE(ps:List bh)(l:List bI)(j:Nat):Bool:=decide (0<=iA ps (at_ l j).af) && decide (idx (fU (at_ l j).af) l=j)
def jo(ps:List bh)(l:List bI):Bool:=bL (lE ps l) l.length && decide (l.length=ps.length)
def prT(ps:List bh)(x:bI):cL:=(at_ ps (iA ps x.af).toNat).fType
section
variable (ip : Str -> Bool) (cb : cL -> Str -> Bool) (cs : cL -> Str -> Str)
def cnB(ps:List bh)(x:bI):Bool:=cb (prT ps x) x.ax
def cnA(ps:List bh)(x:bI):bI:=⟨x.af,cs (prT ps x) x.ax⟩
def mZ(t:aL)(l:List bI):Bool:=di ip t && jo t.aC l && bL (fun j=>cnB cb t.aC (at_ l j)) l.length
def ftC(t:aL)(l:List bI):Int:=if di ip t=false then 1 else if jo t.aC l=false then 2 else if bL (fun j=>cnB cb t.aC (at_ l j)) l.length=false then 3 else 0
def ftN(t:aL)(l:List bI):List ah:=bif mZ ip cb t l then t.cD.map (jh (l.map (cnA cs t.aC))) else []
end
theorem Hx(ps:List bh)(n:Str):iA ps n<ps.length:=iL ps
theorem DU{ps:List bh}{l:List bI}{k:Nat}(hk:k<l.length)(h:lE ps l k=false):jo ps l=false:=by rw [jo,cW hk h];rfl
theorem Bc{ps:List bh}{l:List bI}{k:Nat}(h:jo ps l=true)(hk:k<l.length):0<=iA ps (at_ l k).af:=by
 rw [jo,Bool.and_eq_true] at h
 have:=mA h.1 hk
 rw [lE,Bool.and_eq_true,decide_eq_true_eq] at this
 exact this.1
theorem clL{α:Type}{f:α->AV}:∀ (l:List α),(∀ x∈l,(f x).closed=true)->AV.cq (l.map f)=true
 | [],_=>rfl
 | x::xs,h=>by simp only [List.map_cons,AV.cq,h x (by simp),clL xs fun y hy=>h y (by simp [hy]),Bool.true_and]
theorem ndC(x:ah):(ak true x).closed=true:=by
 rw [cH]
 simp only [AV.closed,AV.cq,clL x.ag (fun y hy=>ndC y),Bool.true_and,Bool.and_true]
termination_by SizeOf.sizeOf x
decreasing_by have:=List.sizeOf_lt_of_mem hy;cases x;simp [ah.ag] at *;omega
@[go_sem] theorem Fj(f:ah->ah)(l:List ah):AV.cq (l.map (ak true ∘ f))=true:=clL l fun x _=>ndC (f x)
end Go.Dt
namespace Go.Proofs
open Go.Ab Go.Dt
attribute [local go_sem] qO
instance WQ(L:Nat->Nat)(p:bh)(n v:Str):Ctr L Tryz.prog 125 [] [.agg [.str p.af,.v (.int .i64 p.fType.ai),.sl false 2 (p.fType.av.map (aI false)),.sl false 1 (p.fType.ay.map AV.str),.str p.fType.aN,.str p.fType.aA],.vp [.str n,.str v]] (.v (.bool (p.af == n))) [] True:=by
 refine Ctr.bd Tryz.func125 Tryz.ntmps125 rfl rfl fun hp=>?_
 all_goals exact uU
instance WO(L:Nat->Nat)(p:bh)(n v:Str):Ctr L Tryz.prog 127 [] [.agg [.str p.af,.v (.int .i64 p.fType.ai),.sl false 2 (p.fType.av.map (aI false)),.sl false 1 (p.fType.ay.map AV.str),.str p.fType.aN,.str p.fType.aA],.vp [.str n,.str v]] (.v (.bool (p.af == n))) [] True:=by
 refine Ctr.bd Tryz.func127 Tryz.ntmps127 rfl rfl fun hp=>?_
 all_goals exact uU
instance V5(l:List bh)(n v:Str):Ctr lim Tryz.prog 126 [] [.sl false 6 (l.map (aV false)),.fn 125 [.vp [.str n,.str v]]] (.v (.int .i64 (iA l n))) [] True:=by
 refine Ctr.bd Tryz.func126 Tryz.ntmps126 rfl rfl fun hp=>?_
 refine AW.fact 0 fun hf=>?_
 simp (disch:=omega) only [go_sem,Nat.reduceBEq] at hf
 (refine vU ?_;with_reducible repeat' first|exact Le.l|apply Sw|intro (K:_->_->Prop) hK|intro h)
 refine AW.aw [8] [0,1,7] (fun m xs o=>∃ k:Nat,xs=[.v (.int .i64 k)]/\o=[]/\m=l.length - k/\k<=l.length/\∀ x∈l.take k,(x.af == n)=false) l.length [] trivial ⟨0,?_,rfl,rfl,?_,?_⟩ ?_
 ·rfl
 ·omega
 ·simp
 rintro m xs o ⟨k,rfl,rfl,rfl,hk,hR⟩
 (refine vU ?_;with_reducible repeat' first|exact Le.l|apply Sw|intro (K:_->_->Prop) hK|intro h)
 ·rw [iA,gB (by assumption) hR (by simpa using h)]
 ·exact ⟨_,[_],[],by omega,⟨k+1,rfl,rfl,rfl,by omega,bD (by assumption) hR (by simpa using h)⟩,rfl,trivial⟩
 ·rw [iA,jb h hR]
instance V4(l:List bh)(n v:Str):Ctr lim Tryz.prog 126 [] [.sl false 6 (l.map (aV false)),.fn 127 [.vp [.str n,.str v]]] (.v (.int .i64 (iA l n))) [] True:=by
 refine Ctr.bd Tryz.func126 Tryz.ntmps126 rfl rfl fun hp=>?_
 refine AW.fact 0 fun hf=>?_
 simp (disch:=omega) only [go_sem,Nat.reduceBEq] at hf
 (refine vU ?_;with_reducible repeat' first|exact Le.l|apply Sw|intro (K:_->_->Prop) hK|intro h)
 refine AW.aw [8] [0,1,7] (fun m xs o=>∃ k:Nat,xs=[.v (.int .i64 k)]/\o=[]/\m=l.length - k/\k<=l.length/\∀ x∈l.take k,(x.af == n)=false) l.length [] trivial ⟨0,?_,rfl,rfl,?_,?_⟩ ?_
 ·rfl
 ·omega
 ·simp
 rintro m xs o ⟨k,rfl,rfl,rfl,hk,hR⟩
 (refine vU ?_;with_reducible repeat' first|exact Le.l|apply Sw|intro (K:_->_->Prop) hK|intro h)
 ·rw [iA,gB (by assumption) hR (by simpa using h)]
 ·exact ⟨_,[_],[],by omega,⟨k+1,rfl,rfl,rfl,by omega,bD (by assumption) hR (by simpa using h)⟩,rfl,trivial⟩
 ·rw [iA,jb h hR]
instance WV(l:List bh)(n v:Str):Ctr lim Tryz.prog 124 [] [.sl false 6 (l.map (aV false)),.fn 125 [.vp [.str n,.str v]]] (.v (.bool (decide (0<=iA l n)))) [] True:=by
 refine Ctr.bd Tryz.func124 Tryz.ntmps124 rfl rfl fun hp=>?_
 all_goals exact uU
section
variable (ip : Str -> Bool) (cb : cL -> Str -> Bool) (cs : cL -> Str -> Str)
theorem yn(t:aL)(l:List bI)(hcs:∀ x s,s.length<=1048576->(cs x s).length<=1048576)
  (hT:∀ x:aL,Ctr lim Tryz.prog 123 [] [.agg [.str x.af,.sl false 6 (x.aC.map (aV false)),.sl false 3 (x.cD.map (ak false))]] (.v (.bool (di ip x))) [] (wt x.cD<=1048576/\x.aC.length<=1048576))
  (hC:∀ (x:cL) (s:Str),Ctr lim Tryz.prog 128 [] [.agg [.v (.int .i64 x.ai),.sl false 2 (x.av.map (aI false)),.sl false 1 (x.ay.map AV.str),.str x.aN,.str x.aA],.str s] (.tup [.str (cs x s),.v (.bool (cb x s))]) [] (s.length<=1048576)) :
  Ctr lim Tryz.prog 66 [] [.agg [.str t.af,.sl false 6 (t.aC.map (aV false)),.sl false 3 (t.cD.map (ak false))],.sl false 2 (l.map (bp false))] (.tup [.sl true 3 ((ftN ip cb cs t l).map (ak true)),.v (.int .i64 (ftC ip cb t l))]) [] (wt t.cD<=1048576/\t.aC.length<=1048576/\l.length<=1048576/\ek l):=by
 refine Ctr.bd Tryz.func66 Tryz.ntmps66 rfl rfl fun hp=>?_
 have hA:=hp.2.2.2
 (refine vU ?_;with_reducible repeat' first|exact Le.l|apply Sw|intro (K:_->_->Prop) hK|intro h)
 ·have e:di ip t=false:=by simpa using h
  simp [ftN,mZ,ftC,e]
 have eT:di ip t=true:=by simpa using h
 refine AW.aw [6,22] [1,2,20,21] (fun m xs o=>∃ k:Nat,xs=[.sl true 1 (((l.take k).map bI.af).map AV.str),.v (.int .i64 k)]/\o=[]/\m=l.length - k/\k<=l.length/\bL (lE t.aC l) k=true) l.length [] trivial ⟨0,?_,rfl,rfl,?_,rfl⟩ ?_
 ·rfl
 ·omega
 rintro m xs o ⟨k,rfl,rfl,rfl,hk,hR⟩
 have hlt:(l.take k).length=k:=by rw [List.length_take];omega
 (refine vK ?_;with_reducible repeat' first|exact Le.l|apply Sw|intro (K:_->_->Prop) hK|intro h)
 (refine AW.i rfl (fun h=>?_) (fun h=>?_)<;>try simp only [hC,reduceCtorEq] at h)
 ·have hk2:k<l.length:=by simpa using h
  (refine vN ?_;with_reducible repeat' first|exact Le.l|apply Sw|intro (K:_->_->Prop) hK|intro h)
  refine AW.Cm fun K hK=>?_
  (refine vN ?_;with_reducible repeat' first|exact Le.l|apply Sw|intro (K:_->_->Prop) hK|intro h)
  refine AW.imp (Imp.vpO 8 (b:=h) (off:=0) (cells:=[.str (at_ l k).af,.str (at_ l k).ax]) gO gO rfl ?_)
  simp (maxSteps:=2000000) (disch:=omega) only [go_sem]
  have hf:=I1 hk2
  (refine vU ?_;with_reducible repeat' first|exact Le.l|apply Sw|intro (K:_->_->Prop) hK|intro h)
  ·rw [h];rfl
  ·have e:lE t.aC l k=false:=by
    rw [lE];rw [hf] at h;revert h
    cases decide (0<=iA t.aC (at_ l k).af)<;>cases decide (idx (fU (at_ l k).af) l=k)<;>simp
   simp [ftN,mZ,ftC,eT,DU hk2 e]
  ·have e:lE t.aC l k=true:=by
    rw [lE];rw [hf] at h;revert h
    cases decide (0<=iA t.aC (at_ l k).af)<;>cases decide (idx (fU (at_ l k).af) l=k)<;>simp
   exact ⟨_,[_,_],[],by omega,⟨k+1,by rw [o7 hk2,List.map_append,List.map_append];rfl,rfl,rfl,by omega,cj hR e⟩,rfl,trivial⟩
 have hk3:¬ k<l.length:=by simpa using h
 obtain rfl:k=l.length:=by omega
 (refine vU ?_;with_reducible repeat' first|exact Le.l|apply Sw|intro (K:_->_->Prop) hK|intro h)
 ·have e:jo t.aC l=false:=by rw [jo,decide_eq_false (by simp at h;omega),Bool.and_false]
  simp [ftN,mZ,ftC,eT,e]
 have eA:jo t.aC l=true:=by rw [jo,hR,decide_eq_true (by simp at h;omega)];rfl
 have eN:ek (l.map (cnA cs t.aC)):=fun a ha=>by
  obtain ⟨x,hx,rfl⟩:=List.mem_map.1 ha
  exact hcs _ _ (hA x hx)
 refine AW.aw [9,54] [2,52,53] (fun m xs o=>∃ k:Nat,xs=[.sl true 2 (((l.take k).map (cnA cs t.aC)).map (bp true)),.v (.int .i64 k)]/\o=[]/\m=l.length - k/\k<=l.length/\bL (fun j=>cnB cb t.aC (at_ l j)) k=true) l.length [] trivial ⟨0,?_,rfl,rfl,?_,rfl⟩ ?_
 ·rfl
 ·omega
 rintro m xs o ⟨k,rfl,rfl,rfl,hk,hQ⟩
 have hlt:(l.take k).length=k:=by rw [List.length_take];omega
 (refine vK ?_;with_reducible repeat' first|exact Le.l|apply Sw|intro (K:_->_->Prop) hK|intro h)
 (refine AW.i rfl (fun h=>?_) (fun h=>?_)<;>try simp only [hC,reduceCtorEq] at h)
 ·have hk2:k<l.length:=by simpa using h
  (refine vN ?_;with_reducible repeat' first|exact Le.l|apply Sw|intro (K:_->_->Prop) hK|intro h)
  refine AW.Cm fun K hK=>?_
  (refine vN ?_;with_reducible repeat' first|exact Le.l|apply Sw|intro (K:_->_->Prop) hK|intro h)
  refine AW.imp (Imp.vpO 11 (b:=h) (off:=0) (cells:=[.str (at_ l k).af,.str (at_ l k).ax]) gO gO rfl ?_)
  simp (maxSteps:=2000000) (disch:=omega) only [go_sem]
  have h0:=Bc eA hk2
  have h1:=Hx t.aC (at_ l k).af
  have h2:=hA _ (at_mem hk2)
  have h3:=hcs (at_ t.aC (iA t.aC (at_ l k).af).toNat).fType _ h2
  (refine vU ?_;with_reducible repeat' first|exact Le.l|apply Sw|intro (K:_->_->Prop) hK|intro h)
  ·have e:bL (fun j=>cnB cb t.aC (at_ l j)) l.length=false:=cW hk2 (by simpa [cnB,prT] using h)
   simp [ftN,mZ,ftC,eT,eA,e]
  ·exact ⟨_,[_,_],[],by omega,⟨k+1,by rw [o7 hk2,List.map_append,List.map_append];rfl,rfl,rfl,by omega,cj hQ (by simpa [cnB,prT] using h)⟩,rfl,trivial⟩
 have hk3:¬ k<l.length:=by simpa using h
 obtain rfl:k=l.length:=by omega
 rw [List.take_length]
 (refine vU ?_;with_reducible repeat' first|exact Le.l|apply Sw|intro (K:_->_->Prop) hK|intro h)
 ·simp [ftN,mZ,ftC,eT,eA,hQ]
theorem xL(t:aL)(l:List bI)(hcs:∀ x s,s.length<=1048576->(cs x s).length<=1048576)
  (hT:∀ x:aL,Ctr lim Tryz.prog 108 [] [.agg [.str x.af,.sl false 6 (x.aC.map (aV false)),.sl false 3 (x.cD.map (ak false))]] (.v (.bool (di ip x))) [] (wt x.cD<=1048576/\x.aC.length<=1048576))
  (hC:∀ (x:cL) (s:Str),Ctr lim Tryz.prog 111 [] [.agg [.v (.int .i64 x.ai),.sl false 2 (x.av.map (aI false)),.sl false 1 (x.ay.map AV.str),.str x.aN,.str x.aA],.str s] (.tup [.str (cs x s),.v (.bool (cb x s))]) [] (s.length<=1048576)) :
  Ctr lim Tryz.prog 58 [] [.agg [.str t.af,.sl false 6 (t.aC.map (aV false)),.sl false 3 (t.cD.map (ak false))],.sl false 2 (l.map (bp false))] (.tup [.sl true 3 ((ftN ip cb cs t l).map (ak true)),.v (.int .i64 (ftC ip cb t l))]) [] (wt t.cD<=1048576/\t.aC.length<=1048576/\l.length<=1048576/\ek l):=by
 refine Ctr.bd Tryz.func58 Tryz.ntmps58 rfl rfl fun hp=>?_
 have hA:=hp.2.2.2
 (refine vU ?_;with_reducible repeat' first|exact Le.l|apply Sw|intro (K:_->_->Prop) hK|intro h)
 ·have e:di ip t=false:=by simpa using h
  simp [ftN,mZ,ftC,e]
 have eT:di ip t=true:=by simpa using h
 refine AW.aw [7] [1,2,6] (fun m xs o=>∃ k:Nat,xs=[.v (.int .i64 k)]/\o=[]/\m=l.length - k/\k<=l.length/\bL (lE t.aC l) k=true) l.length [] trivial ⟨0,?_,rfl,rfl,?_,rfl⟩ ?_
 ·rfl
 ·omega
 rintro m xs o ⟨k,rfl,rfl,rfl,hk,hR⟩
 (refine vK ?_;with_reducible repeat' first|exact Le.l|apply Sw|intro (K:_->_->Prop) hK|intro h)
 (refine AW.i rfl (fun h=>?_) (fun h=>?_)<;>try simp only [hC,reduceCtorEq] at h)
 ·have hk2:k<l.length:=by simpa using h
  (refine vU ?_;with_reducible repeat' first|exact Le.l|apply Sw|intro (K:_->_->Prop) hK|intro h)
  ·have e:lE t.aC l k=false:=by
    rw [lE]
    by_cases h9:iA t.aC (at_ l k).af<0
    ·rw [decide_eq_false (by omega)];rfl
    ·rw [decide_eq_false h9] at h
     rw [decide_eq_false (p:=idx _ _=_) (by simpa using h),Bool.and_false]
   simp [ftN,mZ,ftC,eT,DU hk2 e]
  ·have e:lE t.aC l k=true:=by
    rw [lE]
    by_cases h9:iA t.aC (at_ l k).af<0
    ·rw [decide_eq_true h9] at h;cases h
    ·rw [decide_eq_false h9] at h
     rw [decide_eq_true (p:=idx _ _=_) (by simpa using h),decide_eq_true (by omega)];rfl
   exact ⟨_,[_],[],by omega,⟨k+1,rfl,rfl,rfl,by omega,cj hR e⟩,rfl,trivial⟩
 have hk3:¬ k<l.length:=by simpa using h
 obtain rfl:k=l.length:=by omega
 (refine vU ?_;with_reducible repeat' first|exact Le.l|apply Sw|intro (K:_->_->Prop) hK|intro h)
 ·have e:jo t.aC l=false:=by rw [jo,decide_eq_false (by simp at h;omega),Bool.and_false]
  simp [ftN,mZ,ftC,eT,e]
 have eA:jo t.aC l=true:=by rw [jo,hR,decide_eq_true (by simp at h;omega)];rfl
 have eN:ek (l.map (cnA cs t.aC)):=fun a ha=>by
  obtain ⟨x,hx,rfl⟩:=List.mem_map.1 ha
  exact hcs _ _ (hA x hx)
 refine AW.aw [8,9] [1,2,6] (fun m xs o=>∃ k:Nat,xs=[.sl true 2 (((l.take k).map (cnA cs t.aC)).map (bp true)),.v (.int .i64 k)]/\o=[]/\m=l.length - k/\k<=l.length/\bL (fun j=>cnB cb t.aC (at_ l j)) k=true) l.length [] trivial ⟨0,?_,rfl,rfl,?_,rfl⟩ ?_
 ·rfl
 ·omega
 rintro m xs o ⟨k,rfl,rfl,rfl,hk,hQ⟩
 have hlt:(l.take k).length=k:=by rw [List.length_take];omega
 (refine vK ?_;with_reducible repeat' first|exact Le.l|apply Sw|intro (K:_->_->Prop) hK|intro h)
 (refine AW.i rfl (fun h=>?_) (fun h=>?_)<;>try simp only [hC,reduceCtorEq] at h)
 ·have hk2:k<l.length:=by simpa using h
  have h0:=Bc eA hk2
  have h1:=Hx t.aC (at_ l k).af
  have h2:=hA _ (at_mem hk2)
  have h3:=hcs (at_ t.aC (iA t.aC (at_ l k).af).toNat).fType _ h2
  (refine vU ?_;with_reducible repeat' first|exact Le.l|apply Sw|intro (K:_->_->Prop) hK|intro h)
  ·have e:bL (fun j=>cnB cb t.aC (at_ l j)) l.length=false:=cW hk2 (by simpa [cnB,prT] using h)
   simp [ftN,mZ,ftC,eT,eA,e]
  ·exact ⟨_,[_,_],[],by omega,⟨k+1,by rw [o7 hk2,List.map_append,List.map_append];rfl,rfl,rfl,by omega,cj hQ (by simpa [cnB,prT] using h)⟩,rfl,trivial⟩
 have hk3:¬ k<l.length:=by simpa using h
 obtain rfl:k=l.length:=by omega
 rw [List.take_length]
 (refine vU ?_;with_reducible repeat' first|exact Le.l|apply Sw|intro (K:_->_->Prop) hK|intro h)
 ·simp [ftN,mZ,ftC,eT,eA,hQ]
end
end Go.Proofs
namespace Go.Dt
open Go.Ab
theorem II:∀ (k u:Nat),u<10 ^ k->(dg u).length<=k
 | 0,u,h=>by
  have:u=0:=by simpa using h
  subst this;simp [dg]
 | k+1,u,h=>by
  by_cases e:u=0
  ·subst e;simp [dg]
  ·rw [zG e,List.length_append]
   have:=II k (u / 10) (by rw [Nat.pow_succ] at h;omega)
   simp only [List.length_singleton];omega
theorem Mp{n:Int}(h:-1000000000<=n/\n<=1000000000):(Lib.itoa n).length<=11:=by
 by_cases e:n=0
 ·subst e;rw [Az];simp
 ·rw [zk e]
  have:=II 10 n.natAbs (by omega)
  split
  ·simp only [List.length_cons];omega
  ·omega
theorem IK(x:cL)(s:Str)(h:s.length<=1048576):(cvS x s).length<=1048576:=by
 have h1:=Mp (uK s)
 unfold cvS
 cases cvB x s with
 | false=>simp
 | true =>
  simp only [cond_true]
  unfold cvT qx
  repeat' split
  all_goals first|omega|(simp [rL,pI])
end Go.Dt
namespace Go.Proofs
open Go.Ab Go.Dt
instance ql(t:aL)(l:List bI):Ctr lim Tryz.prog 66 [] [.agg [.str t.af,.sl false 6 (t.aC.map (aV false)),.sl false 3 (t.cD.map (ak false))],.sl false 2 (l.map (bp false))] (.tup [.sl true 3 ((ftN dB cvB cvS t l).map (ak true)),.v (.int .i64 (ftC dB cvB t l))]) [] (wt t.cD<=1048576/\t.aC.length<=1048576/\l.length<=1048576/\ek l) :=
 yn dB cvB cvS t l IK (fun _=>inferInstance) (fun _ _=>inferInstance)
instance p8(t:aL)(l:List bI):Ctr lim Tryz.prog 58 [] [.agg [.str t.af,.sl false 6 (t.aC.map (aV false)),.sl false 3 (t.cD.map (ak false))],.sl false 2 (l.map (bp false))] (.tup [.sl true 3 ((ftN dB cvB cvS t l).map (ak true)),.v (.int .i64 (ftC dB cvB t l))]) [] (wt t.cD<=1048576/\t.aC.length<=1048576/\l.length<=1048576/\ek l) :=
 xL dB cvB cvS t l IK (fun _=>inferInstance) (fun _ _=>inferInstance)
end Go.Proofs
