/- Part of a proof. -/
import Derived.Test.YtbiikafnjialjaaGreatDoorS24
import Derived.Test.YtbiikafnjialjaaGreatDoorS34
set_option linter.all false
set_option maxRecDepth 20000
set_option maxHeartbeats 4000000
open Go.Proofs.Tryz
open List
namespace Go.Proofs
open Go.Ab Go.Dt
attribute [local go_sem] bD aS bk
instance RY(d:List ag)(l:List ah)(x:ah):Ctr lim prog 178 [] [.ab 19 ak d,.ab 3 ai l,.agg (cNo x)] (.tup [.ab 3 ai ((jc d x l).getD l),.ac (jc d x l).isSome]) [] (l.length<=1048576/\∀y,y=x\/y∈l->0<=idx (nmP y.ae) d/\kyB (at_ d (idx (nmP y.ae) d).toNat) y=true):=by
 refine Ctr.bd func178 ntmps178 λhp=>?_;have gOn:=bI.on;obtain⟨hf,hp⟩:=hp;have hx:=hp x (.inl rfl);refine vU1 ?_;refine AW.aw [8] [0,1,5] (λm xs o=>∃k:Nat,xs=[.aa k]/\o=[]/\m=l.length - k/\k<=l.length/\∀j<k,dY d (at_ l j) x=true) l.length [] trivial ⟨0,?_,rfl,rfl,?_,?_⟩ ?_
 ·rfl
 ·omega
 ·omega
 rintro m xs o ⟨k,rfl,rfl,rfl,hk,hR⟩;have hy:=λhq:k<l.length=>hp (at_ l k) (.inr (at_mem hq))
 (refine vK2 ?_ ?_<;>with_reducible repeat intro h)
 ·exact(hy baa).2
 refine AW.c (λh=>?_) λh=>?_
 ·refine vK1 ?_
  exact⟨_,[_],[],Um,⟨k+1,rfl,rfl,rfl,Um,λj hj=>by
   rcases Nat.lt_or_ge j k with q|q
   ·exact hR j q
   ·rw[show j=k by omega];exact h.2⟩,rfl,trivial⟩
 ·have hc:=h;clear h
  (refine vK2 ?_ ?_<;>with_reducible repeat intro h)
  ·first|exact hx.2|(rw[h];exact(hy baa).2)
  refine AW.c (λh=>?_) λh=>?_
  ·refine vK1 ?_;rw[FD h.1 hR (hc h.1),if_neg (by rw[h.2];simp)];rfl
  ·have hres:(jc d x l)=some (l.take k++x::l.drop k):=by
    rcases Nat.lt_or_ge k l.length with q|q
    ·rw[FD q hR (hc q),if_pos (h q)]
    ·exact O0 Um hR
   rw[hres]
   repeat refine Y ?_
   refine AW.post ?_;have hel:∀l:List ah,(l.map (ai false)).all (AV.elem 3)=true:=λl=>by rw[all_eq_true];exact bW (λx=>by rw[bO];rfl) _
   have C2:∀l:List ah,((l.map (ai false)).flatMap AV.cells).all AV.one=true:=λl=>by
    rw[all_flatMap,all_map,all_eq_true];intro x _;simp only[Function.comp,bO,AV.cells];rfl
   have hlk:(l.take k).length<=l.length:=by rw[length_take];omega
   have ae9:(l.take k).length+(l.drop k).length=l.length:=by rw[length_take,length_drop];omega
   (repeat' first|(with_reducible first|refine Z ?_|refine Y ?_|(refine hK _ _ ?_;clear hK K)|refine And.intro ?_ ?_|exact Ct|intro(K:_->_->Prop) hK|(refine gI λhg=>?_;try simp only[hC,reduceCtorEq]at hg;try simp only[hg]))|((with_reducible refine E ?_;repeat refine Y ?_);refine eF rfl ?_)|simp(disch:=omega)only[go_sem,<- map_take,<- map_drop,take_length]|(with_reducible intro hg;try simp only[hC,reduceCtorEq]at hg)|exact Cl|fail)
   refine Imp.frz 6 ?_;refine gS ?_;refine vK1 ?_;rw[show List.map (ai false) (l.take k)++AV.agg (cNo x)::List.map (ai false) (l.drop k)=(l.take k++x::l.drop k).map (ai false) by rw[map_append,map_cons,bO],iM]
