/-
  Part of a proof: Tp1, Tp2, Tp3, Sc0.
-/
import Derived.Test.YtmcjbaafmjlblaaGreatDoorG4
import Derived.Test.YtmcjbaafmjlblaaGreatDoorG6
import Derived.Test.YtmcjbaafmjlblaaGreatDoorG8
set_option linter.unusedSimpArgs false
set_option linter.unusedVariables false
namespace Go.Proofs.YtmcjbaafmjlblaaGreatDoor
open Go.Ab Go.Dt
set_option maxRecDepth 20000
set_option maxHeartbeats 1000000
instance inNumbers_i(L:Nat→Nat)(n:Int):Ctr L Tryz.prog 273 [] [.v (.int .i64 n)] (.v (.bool (decide (-1000000000≤n) && decide (n≤1000000000)))) [] True:=by
 refine Ctr.of_body en273 Tryz.func273 rfl rfl fun hp=>(?_);rw [Tryz.ntmps273]
 all_goals exact uU
instance sAreRanges_i(L:Nat→Nat)[hL:Lok L](l:List GRange):Ctr L Tryz.prog 244 [] [.sl false 2 (l.map (encRange false))] (.v (.bool (areRanges l))) [] True:=by
 refine Ctr.of_body en244 Tryz.func244 rfl rfl fun hp=>(?_);rw [Tryz.ntmps244]
 refine AW.fact 0 fun hf=>?_
 simp (disch:=omega) only [go_sem,Nat.reduceBEq] at hf
 have hf:=Nat.le_trans hf (hL.le 2)
 (refine vU ?_;with_reducible repeat' first|exact Le.l|refine Sw ?_ ?_|intro h)
 refine AW.loopV [3] [0] (fun m xs o=>∃ k:Nat,xs=[.v (.int .i64 k)]∧o=[]∧m=l.length - k∧k≤l.length∧allTo (rgOk l) k=true) l.length [] trivial ⟨0,?_,rfl,rfl,?_,rfl⟩ ?_
 ·rfl
 ·omega
 rintro m xs o ⟨k,rfl,rfl,rfl,hk,hR⟩
 rcases k with _|k
 ·(refine vU ?_;with_reducible repeat' first|exact Le.l|refine Sw ?_ ?_|intro h)
  ·rw [areRanges_no (by assumption) (Bool.eq_false_iff.2 fun hc=>by have:=(rg0 l).1 hc;omega)]
  ·exact ⟨_,[_],[],by omega,⟨0+1,rfl,rfl,rfl,by omega,allTo_step hR ((rg0 l).2 (by omega))⟩,rfl,trivial⟩
  ·rw [areRanges_end hR (by omega)]
 ·have hh:=rgOk_hi (allTo_get hR (Nat.lt_succ_self k))
  (refine vU ?_;with_reducible repeat' first|exact Le.l|refine Sw ?_ ?_|intro h)
  ·rw [areRanges_no (by assumption) (Bool.eq_false_iff.2 fun hc=>by have:=(rgS l k).1 hc;omega)]
  ·exact ⟨_,[_],[],by omega,⟨k+1+1,rfl,rfl,rfl,by omega,allTo_step hR ((rgS l k).2 (by omega))⟩,rfl,trivial⟩
  ·rw [areRanges_end hR (by omega)]
instance iAreRanges_i(L:Nat→Nat)[hL:Lok L](l:List GRange):Ctr L Tryz.prog 255 [] [.sl false 2 (l.map (encRange false))] (.v (.bool (areRanges l))) [] True:=by
 refine Ctr.of_body en255 Tryz.func255 rfl rfl fun hp=>(?_);rw [Tryz.ntmps255]
 refine AW.fact 0 fun hf=>?_
 simp (disch:=omega) only [go_sem,Nat.reduceBEq] at hf
 have hf:=Nat.le_trans hf (hL.le 2)
 (refine vU ?_;with_reducible repeat' first|exact Le.l|refine Sw ?_ ?_|intro h)
 refine AW.loopV [7] [0,5,6] (fun m xs o=>∃ k:Nat,xs=[.v (.int .i64 k)]∧o=[]∧m=l.length - k∧k≤l.length∧allTo (rgOk l) k=true) l.length [] trivial ⟨0,?_,rfl,rfl,?_,rfl⟩ ?_
 ·rfl
 ·omega
 rintro m xs o ⟨k,rfl,rfl,rfl,hk,hR⟩
 rcases k with _|k
 ·(refine vU ?_;with_reducible repeat' first|exact Le.l|refine Sw ?_ ?_|intro h)
  ·rw [areRanges_no (by assumption) (Bool.eq_false_iff.2 fun hc=>by have:=(rg0 l).1 hc;omega)]
  ·exact ⟨_,[_],[],by omega,⟨0+1,rfl,rfl,rfl,by omega,allTo_step hR ((rg0 l).2 (by omega))⟩,rfl,trivial⟩
  ·rw [areRanges_end hR (by omega)]
 ·have hh:=rgOk_hi (allTo_get hR (Nat.lt_succ_self k))
  (refine vU ?_;with_reducible repeat' first|exact Le.l|refine Sw ?_ ?_|intro h)
  ·rw [areRanges_no (by assumption) (Bool.eq_false_iff.2 fun hc=>by have:=(rgS l k).1 hc;omega)]
  ·exact ⟨_,[_],[],by omega,⟨k+1+1,rfl,rfl,rfl,by omega,allTo_step hR ((rgS l k).2 (by omega))⟩,rfl,trivial⟩
  ·rw [areRanges_end hR (by omega)]
end Go.Proofs.YtmcjbaafmjlblaaGreatDoor
namespace Go.Proofs.YtmcjbaafmjlblaaGreatDoor
open Go.Ab Go.Dt
set_option maxRecDepth 20000
set_option maxHeartbeats 1000000
instance ixStr_i(L:Nat→Nat)[hL:Lok L](l:List Str)(n:Str):Ctr L Tryz.prog 153 [] [.sl false 1 (l.map AV.str),.str n] (.v (.int .i64 (idx (fun x=>x == n) l))) [] True:=by
 refine Ctr.of_body en153 Tryz.func153 rfl rfl fun hp=>(?_);rw [Tryz.ntmps153]
 refine AW.fact 0 fun hf=>?_
 simp (disch:=omega) only [go_sem,Nat.reduceBEq] at hf
 have hf:=Nat.le_trans hf (hL.le 1)
 (refine vU ?_;with_reducible repeat' first|exact Le.l|refine Sw ?_ ?_|intro h)
 refine AW.loopV [8] [0,1,6,7] (fun m xs o=>∃ k:Nat,xs=[.v (.int .i64 k)]∧o=[]∧m=l.length - k∧k≤l.length∧∀ x∈l.take k,(fun x:Str=>x == n) x=false) l.length [] trivial ⟨0,?_,rfl,rfl,?_,?_⟩ ?_
 ·rfl
 ·omega
 ·simp
 rintro m xs o ⟨k,rfl,rfl,rfl,hk,hR⟩
 (refine vU ?_;with_reducible repeat' first|exact Le.l|refine Sw ?_ ?_|intro h)
 ·rw [idx_at' (by assumption) hR (by simpa using eq_comm.1 h)]
 ·exact ⟨_,[_],[],by omega,⟨k+1,rfl,rfl,rfl,by omega,take_step' (by assumption) hR (by simpa using fun e=>h (Eq.symm e))⟩,rfl,trivial⟩
 ·rw [idx_end h hR]
instance contStr_i(L:Nat→Nat)[hL:Lok L](l:List Str)(n:Str):Ctr L Tryz.prog 151 [] [.sl false 1 (l.map AV.str),.str n] (.v (.bool (cont l n))) [] True:=by
 refine Ctr.of_body en151 Tryz.func151 rfl rfl fun hp=>(?_);rw [Tryz.ntmps151]
 (refine vU ?_;with_reducible repeat' first|exact Le.l|refine Sw ?_ ?_|intro h)
 rfl
instance differentTexts_i(L:Nat→Nat)[hL:Lok L](l:List Str):Ctr L Tryz.prog 201 [] [.sl false 1 (l.map AV.str)] (.v (.bool (diffs l))) [] True:=by
 refine Ctr.of_body en201 Tryz.func201 rfl rfl fun hp=>(?_);rw [Tryz.ntmps201]
 refine AW.fact 0 fun hf=>?_
 simp (disch:=omega) only [go_sem,Nat.reduceBEq] at hf
 have hf:=Nat.le_trans hf (hL.le 1)
 (refine vU ?_;with_reducible repeat' first|exact Le.l|refine Sw ?_ ?_|intro h)
 refine AW.loopV [6] [0,4,5] (fun m xs o=>∃ k:Nat,xs=[.v (.int .i64 k)]∧o=[]∧m=l.length - k∧k≤l.length∧allTo (fun j=>!cont (l.take j) (at_ l j)) k=true) l.length [] trivial ⟨0,?_,rfl,rfl,?_,rfl⟩ ?_
 ·rfl
 ·omega
 rintro m xs o ⟨k,rfl,rfl,rfl,hk,hR⟩
 (repeat' first|(with_reducible first|refine Z ?_|refine Y ?_|(refine hK _ _ ?_;clear hK K)|refine And.intro ?_ ?_|exact Ct|intro (K:_→_→Prop) hK|(refine gI fun hg=>?_;try simp only [hC,reduceCtorEq] at hg;try simp only [hg]))|(refine AW.i rfl (fun h=>?_) (fun h=>?_)<;>try simp only [hC,reduceCtorEq] at h)|((with_reducible refine E ?_;repeat refine Y ?_);refine eF rfl ?_)|simp (disch:=omega) only [go_sem,← List.map_take,Int.toNat_zero,List.drop_zero]|(with_reducible intro hg;try simp only [hC,reduceCtorEq] at hg)|exact Cl|fail)
 ·rw [diffs,allTo_false (by assumption) (by simp [h])]
 ·exact ⟨_,[_],[],by omega,⟨k+1,rfl,rfl,rfl,by omega,allTo_step hR (by simp [h])⟩,rfl,trivial⟩
 ·rw [show k=l.length by omega] at hR
  rw [diffs,hR]
instance areNames_i(L:Nat→Nat)[hL:Lok L](l:List Str):Ctr L Tryz.prog 230 [] [.sl false 1 (l.map AV.str)] (.v (.bool (names l))) [] True:=by
 refine Ctr.of_body en230 Tryz.func230 rfl rfl fun hp=>(?_);rw [Tryz.ntmps230]
 refine AW.fact 0 fun hf=>?_
 simp (disch:=omega) only [go_sem,Nat.reduceBEq] at hf
 have hf:=Nat.le_trans hf (hL.le 1)
 (refine vU ?_;with_reducible repeat' first|exact Le.l|refine Sw ?_ ?_|intro h)
 refine AW.loopV [7] [0,5,6] (fun m xs o=>∃ k:Nat,xs=[.v (.int .i64 k)]∧o=[]∧m=l.length - k∧k≤l.length∧allTo (fun j=>isName (at_ l j)) k=true) l.length [] trivial ⟨0,?_,rfl,rfl,?_,rfl⟩ ?_
 ·rfl
 ·omega
 rintro m xs o ⟨k,rfl,rfl,rfl,hk,hR⟩
 (refine vU ?_;with_reducible repeat' first|exact Le.l|refine Sw ?_ ?_|intro h)
 ·rw [names,allTo_false (by assumption) (by simp [h])]
 ·exact ⟨_,[_],[],by omega,⟨k+1,rfl,rfl,rfl,by omega,allTo_step hR (by simp [h])⟩,rfl,trivial⟩
 ·rw [show k=l.length by omega] at hR
  rw [names,hR]
end Go.Proofs.YtmcjbaafmjlblaaGreatDoor
namespace Go.Dt
open Go.Ab
def wtg:List GNode→Nat
 | []=>0
 | .mk n v ks::xs=>(n.length+v.length+ks.length+wtg ks)+wtg xs
def wt(l:List GNode):Nat:=l.length+wtg l
def kc:List GNode→Nat
 | []=>0
 | .mk _ _ ks::xs=>(ks.length+kc ks)+kc xs
def cnt(l:List GNode):Nat:=l.length+kc l
def dep:List GNode→Nat
 | []=>0
 | .mk _ _ ks::xs=>max (1+dep ks) (dep xs)
def nodeOk(x:GNode):Bool:=isName x.fName && isText x.fValue && (x.fValue == [] || x.fKids.length == 0)
def frm:List GNode→Bool
 | []=>true
 | .mk n v ks::xs=>(nodeOk (.mk n v ks) && frm ks) && frm xs
def lfr:List GNode→Nat→Bool
 | [],_=>true
 | .mk n v ks::xs,d=>(nodeOk (.mk n v ks) && (lfr ks (d+1) && (ks.length == 0 || decide (d+1≤10)))) && lfr xs d
def l13g:List GNode→Int→Int
 | [],q=>q
 | .mk _ _ ks::xs,q=>if q<0 then q else l13g xs (l13g ks (q - ks.length))
def bodyOk(ps:List Str):List GNode→Bool
 | []=>true
 | .mk _ v ks::xs=>(((tk v).2 && (nmL (tk v)).all (cont ps)) && bodyOk ps ks) && bodyOk ps xs
section
variable {l : List GNode} {k : Nat}
theorem wtg_at(h:k<l.length):wtg (l.drop k)=((at_ l k).fName.length+(at_ l k).fValue.length+(at_ l k).fKids.length+wtg (at_ l k).fKids)+wtg (l.drop (k+1)):=by
 rw [at_drop h];cases at_ l k;rw [wtg];rfl
theorem kc_at(h:k<l.length):kc (l.drop k)=((at_ l k).fKids.length+kc (at_ l k).fKids)+kc (l.drop (k+1)):=by
 rw [at_drop h];cases at_ l k;rw [kc];rfl
theorem l13g_at(h:k<l.length)(q:Int):l13g (l.drop k) q=if q<0 then q else l13g (l.drop (k+1)) (l13g (at_ l k).fKids (q - (at_ l k).fKids.length)):=by
 rw [at_drop h];cases at_ l k;rw [l13g];rfl
theorem wt_kid(h:k<l.length):wt (at_ l k).fKids<wt l∧(at_ l k).fName.length≤wt l∧(at_ l k).fValue.length≤wt l:=by
 have h1:=wtg_at h
 have h2:∀ j (l:List GNode),wtg (l.drop j)≤wtg l:=by
  intro j
  induction j with
  | zero=>intro l;simp
  | succ j ih =>
   intro l
   cases l with
   | nil=>simp
   | cons x xs=>cases x;simp only [List.drop_succ_cons,wtg];have:=ih xs;omega
 have h3:=h2 k l
 unfold wt
 omega
end
theorem idx_map{α β:Type}(f:α→β)(p:β→Bool):∀ l:List α,idx (fun x=>p (f x)) l=idx p (l.map f)
 | []=>rfl
 | x::xs=>by simp only [List.map_cons,idx,idx_map f p xs]
theorem drop_end{α:Type}{l:List α}{k:Nat}(h:¬ k<l.length):l.drop k=[]:=List.drop_eq_nil_of_le (by omega)
theorem kc_le:∀ l:List GNode,kc l≤wtg l
 | []=>by simp [kc]
 | .mk n v ks::xs=>by have:=kc_le ks;have:=kc_le xs;simp only [kc,wtg];omega
theorem cnt_le(l:List GNode):cnt l≤wt l:=by have:=kc_le l;unfold cnt wt;omega
theorem l13g_le:∀ (l:List GNode) (q:Int),l13g l q≤q
 | [],q=>by simp [l13g]
 | .mk n v ks::xs,q=>by
  have h1:=l13g_le ks (q - ks.length)
  have h2:=l13g_le xs (l13g ks (q - ks.length))
  simp only [l13g];split<;>omega
theorem l13g_neg(l:List GNode){q:Int}(h:q<0):l13g l q=q:=by
 cases l with
 | nil=>rw [l13g]
 | cons x xs=>cases x;simp only [l13g];rw [if_pos h]
theorem l13g_eq:∀ (l:List GNode) (q:Int),0≤q→(0≤l13g l q↔(kc l:Int)≤q)∧((kc l:Int)≤q→l13g l q=q - kc l)
 | [],q,h=>by simp only [l13g,kc];omega
 | .mk n v ks::xs,q,h=>by
  simp only [l13g,kc]
  rw [if_neg (by omega)]
  rcases Int.lt_or_le (q - ks.length) 0 with h1|h1
  ·rw [l13g_neg ks h1,l13g_neg xs h1]
   constructor
   ·omega
   ·omega
  ·have h2:=l13g_eq ks _ h1
   rcases Int.lt_or_le (l13g ks (q - ks.length)) 0 with h3|h3
   ·rw [l13g_neg xs h3]
    constructor
    ·omega
    ·omega
   ·have h4:=l13g_eq xs _ h3
    have h5:=h2.2 (h2.1.1 h3)
    rw [h5] at h3 h4 ⊢
    constructor
    ·omega
    ·omega
theorem l13g_ge:∀ (l:List GNode) (q:Int),-4611686018427387904≤q→(wt l:Int)≤1048576→-4611686018427387904≤l13g l q
 | [],q,h,_=>by simpa [l13g] using h
 | .mk n v ks::xs,q,h,hw=>by
  simp only [l13g]
  split
  ·exact h
  ·have e:(wt (.mk n v ks::xs):Nat)=(n.length+v.length+wt ks)+1+wt xs:=by simp only [wt,wtg,List.length_cons];omega
   have e2:ks.length≤wt ks:=by unfold wt;omega
   exact l13g_ge xs _ (l13g_ge ks _ (by omega) (by omega)) (by omega)
def isForm(l:List GNode):Bool:=decide (cnt l≤120) && decide (dep l≤10) && frm l
theorem thn_ge{a:Int}{k:Int→Int}(h:0≤thn a k):0≤a∧thn a k=k a:=by
 unfold thn at h ⊢
 split at h
 ·omega
 ·rw [if_neg (by assumption)];exact ⟨by omega,rfl⟩
theorem wt_of_sz:∀ (l:List GNode) (r:Int),0≤r→0≤szNodeGo l r→szNodeGo l r+wtg l=r
 | [],r,_,_=>by simp [szNodeGo,wtg]
 | .mk n v ks::xs,r,h0,h=>by
  rw [szNodeGo] at h ⊢
  have hx:∀ q,0≤szNode (.mk n v ks) q→0≤q→szNode (.mk n v ks) q+(n.length+v.length+ks.length+wtg ks:Nat)=q:=by
   intro q hq h0
   rw [szNode] at hq ⊢
   obtain ⟨h1,e1⟩:=thn_ge hq
   rw [e1] at hq ⊢
   obtain ⟨h2,e2⟩:=thn_ge hq
   rw [e2] at hq ⊢
   obtain ⟨h3,e3⟩:=thn_ge hq
   rw [e3] at hq ⊢
   simp only [id] at h3 ⊢
   obtain ⟨h4,e4⟩:=thn_ge h3
   rw [e4] at h3 ⊢
   have:=wt_of_sz ks _ h4 h3
   unfold szStr at *
   omega
  obtain ⟨h1,e1⟩:=thn_ge h
  rw [e1] at h ⊢
  have h3:=hx r h1 h0
  have h2:=wt_of_sz xs _ h1 h
  rw [wtg]
  omega
theorem wt_fit{l:List GNode}{r:Int}(h0:0≤r)(h:0≤szSl szNode l r):(wt l:Int)≤r:=by
 rcases Int.lt_or_le (r - l.length) 0 with h2|h2
 ·rw [szSl_neg h2] at h;omega
 ·rw [szSl_pos h2,← szNodeGo_eq] at h
  have:=wt_of_sz l _ h2 h
  unfold wt;omega
def isType(ip:Str→Bool)(x:GType):Bool :=
 (decide (x.fKind=1) && areRanges x.fRanges && x.fNames.isEmpty && x.fPattern.isEmpty && x.fPath.isEmpty) ||
 (decide (x.fKind=2) && areRanges x.fRanges && (x.fRanges.isEmpty || decide (0≤(at_ x.fRanges 0).fLo)) && (x.fPattern.isEmpty || ip x.fPattern) && x.fNames.isEmpty && x.fPath.isEmpty) ||
 (decide (x.fKind=4) && decide (1≤x.fNames.length) && decide (x.fNames.length≤6) && names x.fNames && diffs x.fNames && x.fRanges.isEmpty && x.fPattern.isEmpty && x.fPath.isEmpty) ||
 (decide (x.fKind=5) && isText x.fPath && !x.fPath.isEmpty && x.fRanges.isEmpty && x.fNames.isEmpty && x.fPattern.isEmpty) ||
 (decide (x.fKind=3∨x.fKind=6) && x.fRanges.isEmpty && x.fNames.isEmpty && x.fPattern.isEmpty && x.fPath.isEmpty)
section
variable {ip : Str → Bool} {x : GType}
theorem isType_k1(h:x.fKind=1):isType ip x=(areRanges x.fRanges && x.fNames.isEmpty && x.fPattern.isEmpty && x.fPath.isEmpty):=by simp [isType,h]
theorem isType_k2(h:x.fKind=2):isType ip x=(areRanges x.fRanges && (x.fRanges.isEmpty || decide (0≤(at_ x.fRanges 0).fLo)) && (x.fPattern.isEmpty || ip x.fPattern) && x.fNames.isEmpty && x.fPath.isEmpty):=by simp [isType,h]
theorem isType_k4(h:x.fKind=4):isType ip x=(decide (1≤x.fNames.length) && decide (x.fNames.length≤6) && names x.fNames && diffs x.fNames && x.fRanges.isEmpty && x.fPattern.isEmpty && x.fPath.isEmpty):=by simp [isType,h]
theorem isType_k5(h:x.fKind=5):isType ip x=(isText x.fPath && !x.fPath.isEmpty && x.fRanges.isEmpty && x.fNames.isEmpty && x.fPattern.isEmpty):=by simp [isType,h]
theorem isType_kz(h1:¬ x.fKind=1)(h2:¬ x.fKind=2)(h4:¬ x.fKind=4)(h5:¬ x.fKind=5):isType ip x=(decide (x.fKind=3∨x.fKind=6) && x.fRanges.isEmpty && x.fNames.isEmpty && x.fPattern.isEmpty && x.fPath.isEmpty):=by simp [isType,h1,h2,h4,h5]
theorem isType_no(h:(((¬x.fKind=1∧¬x.fKind=2)∧¬x.fRanges=[]∨¬x.fKind=4∧¬x.fNames=[])∨¬x.fKind=2∧¬x.fPattern=[])∨¬x.fKind=5∧¬x.fPath=[]):isType ip x=false:=by
 by_cases h1:x.fKind=1
 ·rw [isType_k1 h1];simp [h1] at h
  rcases h with (h|h)|h<;>simp [h]
 by_cases h2:x.fKind=2
 ·rw [isType_k2 h2];simp [h2] at h
  rcases h with h|h<;>simp [h]
 by_cases h4:x.fKind=4
 ·rw [isType_k4 h4];simp [h4] at h
  rcases h with (h|h)|h<;>simp [h]
 by_cases h5:x.fKind=5
 ·rw [isType_k5 h5];simp [h5] at h
  rcases h with (h|h)|h<;>simp [h]
 ·rw [isType_kz h1 h2 h4 h5];simp [h1,h2,h4,h5] at h
  rcases h with ((h|h)|h)|h<;>simp [h]
end
section
variable {ip : Str → Bool} {x : GType}
theorem nil_of{α:Type}{l:List α}(h:(l.length:Int)≤0):l=[]:=List.length_eq_zero_iff.1 (by omega)
theorem isE0{α:Type}(l:List α):((l.length:Int) == 0)=l.isEmpty:=by cases l<;>simp<;>omega
theorem isEn{α:Type}[BEq α](l:List α):(l == [])=l.isEmpty:=by cases l<;>rfl
theorem isType_w0(h:(((¬x.fKind=1∧¬x.fKind=2)∧(0:Int)<x.fRanges.length∨¬x.fKind=4∧(0:Int)<x.fNames.length)∨¬x.fKind=2∧¬x.fPattern=[])∨¬x.fKind=5∧¬x.fPath=[]):false=isType ip x:=by
 have e3:(0:Int)<x.fRanges.length↔¬ x.fRanges=[]:=by rw [← List.length_eq_zero_iff];omega
 have e4:(0:Int)<x.fNames.length↔¬ x.fNames=[]:=by rw [← List.length_eq_zero_iff];omega
 rw [e3,e4] at h
 exact (isType_no h).symm
section
variable (H : (((¬x.fKind = 1 ∧ ¬x.fKind = 2 → (x.fRanges.length : Int) ≤ 0) ∧ (¬x.fKind = 4 → (x.fNames.length : Int) ≤ 0)) ∧ (¬x.fKind = 2 → x.fPattern = [])) ∧ (¬x.fKind = 5 → x.fPath = []))
include H
theorem isType_w1(h:x.fKind=1):areRanges x.fRanges=isType ip x:=by
 rw [isType_k1 h,nil_of (H.1.1.2 (by omega)),H.1.2 (by omega),H.2 (by omega)];simp
theorem isType_w2(h:x.fKind=2):(areRanges x.fRanges && ((x.fRanges.length:Int) == 0 || decide (0≤(at_ x.fRanges 0).fLo)) && (x.fPattern == [] || ip x.fPattern))=isType ip x:=by
 rw [isType_k2 h,nil_of (H.1.1.2 (by omega)),H.2 (by omega),isE0,isEn];simp
theorem isType_w4(h:x.fKind=4):(decide ((1:Int)≤x.fNames.length) && decide ((x.fNames.length:Int)≤6) && names x.fNames && diffs x.fNames)=isType ip x:=by
 rw [isType_k4 h,nil_of (H.1.1.1 (by omega)),H.1.2 (by omega),H.2 (by omega)]
 rw [show decide ((1:Int)≤x.fNames.length)=decide (1≤x.fNames.length) from decide_eq_decide.2 (by omega),show decide ((x.fNames.length:Int)≤6)=decide (x.fNames.length≤6) from decide_eq_decide.2 (by omega)]
 simp
theorem isType_w5(h:x.fKind=5):(!x.fPath == [] && isText x.fPath)=isType ip x:=by
 rw [isType_k5 h,nil_of (H.1.1.1 (by omega)),nil_of (H.1.1.2 (by omega)),H.1.2 (by omega),isEn]
 cases x.fPath.isEmpty<;>simp
theorem isType_wz(h1:¬ x.fKind=1)(h2:¬ x.fKind=2)(h4:¬ x.fKind=4)(h5:¬ x.fKind=5):(x.fKind == 3 || x.fKind == 6)=isType ip x:=by
 rw [isType_kz h1 h2 h4 h5,nil_of (H.1.1.1 (by omega)),nil_of (H.1.1.2 (by omega)),H.1.2 (by omega),H.2 (by omega)]
 by_cases h3:x.fKind=3<;>by_cases h6:x.fKind=6<;>simp [h3,h6]
end
end
theorem isEp{α:Type}(l:List α):(!decide ((0:Int)<l.length))=l.isEmpty:=by
 cases l with
 | nil=>rfl
 | cons x xs=>simp
theorem idx_mem(s:Str):∀ l:List Str,0≤idx (fun x=>x == s) l↔s∈l
 | []=>by simp [idx]
 | x::xs=>by
  have ih:=idx_mem s xs
  have h0:=idx_ge (fun x=>x == s) xs
  by_cases e:x=s
  ·subst e;simp [idx]
  ·have e':(x == s)=false:=by simpa using e
   have e'':¬ s=x:=fun h=>e h.symm
   simp only [idx,e',Bool.false_eq_true,if_false,List.mem_cons,e'',false_or,← ih]
   split<;>omega
theorem cont_iff(l:List Str)(s:Str):cont l s=true↔s∈l:=by
 unfold cont
 rw [decide_eq_true_eq,idx_mem]
theorem at_take{α:Type}[Inhabited α]{l:List α}{j k:Nat}(h:j<k):at_ (l.take k) j=at_ l j:=by unfold at_;rw [List.getElem?_take,if_pos h]
theorem cont_dup{l:List Str}{j k:Nat}(hj:j<k)(hk:k<l.length)(h:at_ l j=at_ l k):cont (l.take k) (at_ l k)=true:=by
 rw [cont_iff,← h]
 have:(l.take k)[j]? = some (at_ l j):=by rw [List.getElem?_take,if_pos hj];exact at_get (by omega)
 exact List.mem_of_getElem? this
theorem cont_free{l:List Str}{k:Nat}{s:Str}(h:∀ y∈l.take k,(y == s)=false):cont (l.take k) s=false:=by
 rw [Bool.eq_false_iff]
 intro hc
 have:=h s ((cont_iff _ _).1 hc)
 simp at this
section
variable {ip : Str → Bool} {x : GType}
theorem isType_bad{k:Nat}(hk:k<x.fNames.length)(h:names x.fNames=false∨diffs x.fNames=false):false=isType ip x:=by
 have e:x.fNames.isEmpty=false:=by cases hx:x.fNames with|nil=>rw [hx] at hk;simp at hk|cons a b=>rfl
 unfold isType
 rw [e]
 rcases h with h|h<;>simp [h]
theorem isType_v1(h:x.fKind=1):(areRanges x.fRanges && !decide ((0:Int)<x.fNames.length) && x.fPattern == [] && x.fPath == [])=isType ip x:=by
 rw [isType_k1 h,isEp,isEn,isEn]
theorem isType_v2(h:x.fKind=2):(areRanges x.fRanges && (!decide ((0:Int)<x.fRanges.length) || decide (0≤(at_ x.fRanges 0).fLo)) && (x.fPattern == [] || ip x.fPattern) && !decide ((0:Int)<x.fNames.length) && x.fPath == [])=isType ip x:=by
 rw [isType_k2 h,isEp,isEp,isEn,isEn]
theorem isType_v4(h:x.fKind=4)(h1:names x.fNames=true)(h2:diffs x.fNames=true):(decide ((1:Int)≤x.fNames.length) && decide ((x.fNames.length:Int)≤6) && !decide ((0:Int)<x.fRanges.length) && x.fPattern == [] && x.fPath == [])=isType ip x:=by
 rw [isType_k4 h,isEp,isEn,isEn,h1,h2,Bool.and_true,Bool.and_true]
 rw [show decide ((1:Int)≤x.fNames.length)=decide (1≤x.fNames.length) from decide_eq_decide.2 (by omega),show decide ((x.fNames.length:Int)≤6)=decide (x.fNames.length≤6) from decide_eq_decide.2 (by omega)]
theorem isType_v5(h:x.fKind=5):(isText x.fPath && !x.fPath == [] && !decide ((0:Int)<x.fRanges.length) && !decide ((0:Int)<x.fNames.length) && x.fPattern == [])=isType ip x:=by
 rw [isType_k5 h,isEp,isEp,isEn,isEn]
theorem isType_v3(h1:¬ x.fKind=1)(h2:¬ x.fKind=2)(h4:¬ x.fKind=4)(h5:¬ x.fKind=5)(h:x.fKind=3∨x.fKind=6):(!decide ((0:Int)<x.fRanges.length) && !decide ((0:Int)<x.fNames.length) && x.fPattern == [] && x.fPath == [])=isType ip x:=by
 rw [isType_kz h1 h2 h4 h5,isEp,isEp,isEn,isEn,show decide (x.fKind=3∨x.fKind=6)=true by simpa using h,Bool.true_and]
theorem isType_vz(h1:¬ x.fKind=1)(h2:¬ x.fKind=2)(h4:¬ x.fKind=4)(h5:¬ x.fKind=5)(h3:¬ x.fKind=3)(h6:¬ x.fKind=6):false=isType ip x:=by
 rw [isType_kz h1 h2 h4 h5,show decide (x.fKind=3∨x.fKind=6)=false by simp [h3,h6]];rfl
end
def prmOk(ip:Str→Bool)(l:List GParam)(j:Nat):Bool:=isName (at_ l j).fName && isType ip (at_ l j).fType
def isTemplate(ip:Str→Bool)(x:GTemplate):Bool:=allTo (prmOk ip x.fParams) x.fParams.length && diffs (x.fParams.map GParam.fName) && isName x.fName && decide (x.fParams.length≤6) && isForm x.fBody && bodyOk (x.fParams.map GParam.fName) x.fBody
end Go.Dt
namespace Go.Dt
open Go.Ab
def tstOk(x:GTest):Bool:=isName x.fName && isText x.fValue
def stepOk(x:GStep):Bool:=x.fTests.all tstOk && (isName x.fName && decide (x.fTests.length≤3) && diffs (x.fTests.map GTest.fName))
def pathR(p:GPath):Bool:=decide (0≤p.fUps) && decide (p.fUps≤8) && (!p.fRoot || decide (p.fUps=0)) && decide (p.fSteps.length≤10) && (p.fRoot || decide (0<p.fUps) || decide (0<p.fSteps.length))
def isPath(p:GPath):Bool:=p.fSteps.all stepOk && pathR p
mutual
def depE:GExpr→Nat
 | .mk _ _ _ _ ks=>depEL ks+1
def depEL:List GExpr→Nat
 | []=>0
 | x::xs=>max (depE x) (depEL xs)
end
def zeroP(p:GPath):Bool:=!p.fRoot && decide (p.fUps=0) && p.fSteps.isEmpty
def kidsN(op:Int):Nat:=if op=5 then 1 else if 1≤op∧op≤4 then 0 else 2
def wrtP(p:GPath):Bool:=!(!p.fRoot && decide (p.fUps=0) && decide (0<p.fSteps.length) && ((at_ p.fSteps 0).fName == [111,114] || (at_ p.fSteps 0).fName == [97,110,100])) && !(p.fRoot && p.fSteps.isEmpty)
def exN(op num:Int)(tx:Str)(p:GPath)(n:Nat):Bool :=
 decide (1≤op) && decide (op≤15) && decide (n=kidsN op) && (decide (op=1) || decide (num=0)) && (decide (op=2) || tx.isEmpty) && (decide (op=3) || decide (op=4) || zeroP p) &&
 (if op=1 then decide (0≤num) && decide (num≤1000000000) else if op=2 then isText tx else if op=4 then isPath p else if op=3 then isPath p && wrtP p else true)
mutual
def vE:GExpr→Bool
 | .mk op num tx p ks=>exN op num tx p ks.length && vEL ks
def vEL:List GExpr→Bool
 | []=>true
 | x::xs=>vE x && vEL xs
end
theorem vEL_all:∀ l:List GExpr,vEL l=l.all vE
 | []=>rfl
 | x::xs=>by simp only [vEL,List.all_cons,vEL_all xs]
def exOk(e:GExpr):Bool:=decide (depE e≤8) && vE e
def isDataK(k:Int):Bool:=decide (1≤k) && decide (k≤4)
def dk:List GSchema→List GSchema
 | []=>[]
 | .mk k a b c d e f g h i j l m n ks::xs=>(if isDataK k=true then [.mk k a b c d e f g h i j l m n ks] else if k=5∨k=6 then dk ks else [])++dk xs
theorem dk_cons(x:GSchema)(xs:List GSchema):dk (x::xs)=(if isDataK x.fKind=true then [x] else if x.fKind=5∨x.fKind=6 then dk x.fKids else [])++dk xs:=by cases x;rw [dk];rfl
def cntS:List GSchema→Nat
 | []=>0
 | .mk _ _ _ _ _ _ _ _ _ _ _ _ _ _ ks::xs=>1+cntS ks+cntS xs
def depS:List GSchema→Nat
 | []=>0
 | .mk _ _ _ _ _ _ _ _ _ _ _ _ _ _ ks::xs=>max (1+depS ks) (depS xs)
def mxS:List GSchema→Nat
 | []=>0
 | .mk _ _ _ _ _ _ _ _ _ _ _ _ w m ks::xs=>max (max (depEL w) (depEL m)) (max (mxS ks) (mxS xs))
def noTy(t:GType):Bool:=decide (t.fKind=0) && t.fRanges.isEmpty && t.fNames.isEmpty && t.fPattern.isEmpty && t.fPath.isEmpty
def exS(l:List GExpr)(m:Int):Bool:=l.all exOk && decide ((l.length:Int)≤m)
def sizeR(n:GSchema):Bool:=decide (0≤n.fMin) && decide (n.fMin≤1000000000) && (decide (n.fMax=0) || (decide (n.fMin≤n.fMax) && decide (n.fMax≤1000000000)))
def nmS(l:List GSchema):List Str:=l.map GSchema.fName
def nmP(n:Str)(x:GSchema):Bool:=x.fName == n
theorem all_no{α:Type}[Inhabited α]{p:α→Bool}{l:List α}{k:Nat}(hk:k<l.length)(h:p (at_ l k)=false):l.all p=false:=by
 rw [← allTo_list,allTo_false hk h]
theorem all_yes{α:Type}{p:α→Bool}{l:List α}{k:Nat}(hk:¬ k<l.length)(h:∀ y∈l.take k,(!p y)=false):l.all p=true:=by
 rw [List.take_of_length_le (by omega)] at h
 rw [List.all_eq_true]
 intro x hx
 simpa using h x hx
theorem take_all{α:Type}{f:α→Str}{l:List α}{k:Nat}(h:¬ k<l.length):(l.take k).map f=l.map f:=by rw [List.take_of_length_le (by omega)]
theorem tk1{α:Type}[Inhabited α]{l:List α}{k:Nat}(h:k<l.length):l.take (k+1)=l.take k++[at_ l k]:=by
 rw [List.take_succ_eq_append_getElem h]
 unfold at_;rw [List.getElem?_eq_getElem h];rfl
theorem tk1m{α β γ:Type}[Inhabited α]{l:List α}{k:Nat}{f:α→β}{g:β→γ}(h:k<l.length):((l.take (k+1)).map f).map g=((l.take k).map f).map g++[g (f (at_ l k))]:=by
 rw [tk1 h];simp
theorem dec10(n:Nat):decide ((n:Int)≤10)=decide (n≤10):=decide_eq_decide.2 (by omega)
theorem decP(n:Nat):decide (0<(n:Int))=decide (0<n):=decide_eq_decide.2 (by omega)
theorem beq_dec(a b:Int):(a == b)=decide (a=b):=by rw [Bool.eq_iff_iff];simp
theorem at_mapF{α β:Type}[Inhabited α][Inhabited β]{f:α→β}{l:List α}{k:Nat}(h:k<l.length):at_ (l.map f) k=f (at_ l k):=by
 unfold at_;rw [List.getElem?_map,List.getElem?_eq_getElem h];rfl
theorem pathNo{x:GPath}{k:Nat}(hk:k<x.fSteps.length)(h:stepOk (at_ x.fSteps k)=false):isPath x=false:=by
 rw [isPath,all_no hk h];rfl
section
variable {s : GStep} {i j : Nat}
theorem stp_dup(hi:i<j)(hj:j<s.fTests.length)(h:(at_ s.fTests i).fName=(at_ s.fTests j).fName):stepOk s=false:=by
 have:diffs (s.fTests.map GTest.fName)=false:=by
  refine allTo_false (j:=j) (by simpa using hj) ?_
  rw [cont_dup hi (by simpa using hj) (by rw [at_mapF (by omega),at_mapF hj];exact h)];rfl
 rw [stepOk,this];simp
theorem stp_tst(hj:j<s.fTests.length)(h:tstOk (at_ s.fTests j)=false):stepOk s=false:=by
 rw [stepOk,all_no hj h];rfl
theorem stp_end(hj:¬ j<s.fTests.length)(hj2:j≤s.fTests.length)(hS:∀ y∈s.fTests.take j,(!tstOk y)=false)(hQ:allTo (fun i=>!cont ((s.fTests.map GTest.fName).take i) (at_ (s.fTests.map GTest.fName) i)) j=true):stepOk s=(isName s.fName && decide (s.fTests.length≤3)):=by
 have e:j=s.fTests.length:=by omega
 subst e
 rw [stepOk,all_yes hj hS,diffs,List.length_map,hQ];simp
end
theorem len_z{α:Type}(l:List α):((l.length:Int) == 0)=l.isEmpty:=by
 cases l with
 | nil=>rfl
 | cons x xs=>rw [List.length_cons,List.isEmpty_cons,beq_dec,decide_eq_false_iff_not];omega
theorem len_p{α:Type}(l:List α):decide (0<l.length)=!l.isEmpty:=by
 cases l with
 | nil=>rfl
 | cons x xs=>rw [List.length_cons,List.isEmpty_cons];simp
theorem isPath_inv{x:GPath}(h:isPath x=true):0≤x.fUps∧(x.fRoot=true→x.fUps=0)∧(x.fRoot=false→x.fUps≤0→0<x.fSteps.length):=by
 simp only [isPath,pathR,Bool.and_eq_true,Bool.or_eq_true,decide_eq_true_eq,Bool.not_eq_true'] at h
 obtain ⟨_,⟨⟨⟨⟨h1,_⟩,h2⟩,_⟩,h3⟩⟩:=h
 refine ⟨h1,fun e=>?_,fun e f=>?_⟩
 ·rcases h2 with h2|h2
  ·rw [e] at h2;exact absurd h2 (by simp)
  ·exact h2
 ·rcases h3 with (h3|h3)|h3
  ·rw [e] at h3;exact absurd h3 (by simp)
  ·omega
  ·exact h3
theorem wrt_a{x:GPath}(h:isPath x=true)(e:x.fRoot=true∨0<x.fUps):(decide (0<x.fUps) || decide (0<(x.fSteps.length:Int)))=wrtP x:=by
 obtain ⟨h1,h2,h3⟩:=isPath_inv h
 cases r:x.fRoot with
 | true =>
  have:=h2 r
  rw [wrtP,r,decP,len_p,this];simp
 | false =>
  rw [r] at e
  have h4:0<x.fUps:=by rcases e with e|e;exact absurd e (by simp);exact e
  rw [wrtP,r,show decide (x.fUps=0)=false by simp;omega,show decide (0<x.fUps)=true by simpa using h4];simp
theorem wrt_b{x:GPath}(h:isPath x=true)(e:x.fRoot=false∧x.fUps≤0):0<x.fSteps.length∧(!(at_ x.fSteps 0).fName == [111,114] && !(at_ x.fSteps 0).fName == [97,110,100])=wrtP x:=by
 obtain ⟨h1,h2,h3⟩:=isPath_inv h
 have h4:=h3 e.1 e.2
 refine ⟨h4,?_⟩
 rw [wrtP,e.1,show decide (x.fUps=0)=true by simp;omega,show decide (0<x.fSteps.length)=true by simpa using h4]
 simp
theorem nm3_no{a:Bool}{n:Nat}(h:a=false∨3<(n:Int)):(a && decide (n≤3))=false:=by
 rcases h with h|h
 ·rw [h];rfl
 ·rw [show decide (n≤3)=false by simp;omega,Bool.and_false]
theorem depE_eq(x:GExpr):depE x=depEL x.fKids+1:=by cases x;rw [depE];rfl
theorem vE_eq(x:GExpr):vE x=(exN x.fOp x.fNum x.fText x.fPath x.fKids.length && x.fKids.all vE):=by cases x;rw [vE,vEL_all];rfl
theorem depEL_app:∀ (l:List GExpr) (x:GExpr),depEL (l++[x])=max (depEL l) (depE x)
 | [],x=>by simp [depEL]
 | y::l,x=>by simp only [List.cons_append,depEL,depEL_app l x];omega
theorem depEL_step{l:List GExpr}{k:Nat}(h:k<l.length):depEL (l.take (k+1))=max (depEL (l.take k)) (depE (at_ l k)):=by
 rw [tk1 h,depEL_app]
theorem depEL_mem:∀ {l:List GExpr} {y:GExpr},y∈l→depE y≤depEL l
 | x::l,y,h=>by
  rw [depEL]
  rcases List.mem_cons.1 h with rfl|h
  ·omega
  ·have:=depEL_mem h;omega
theorem depEL_take:∀ (l:List GExpr) (k:Nat),depEL (l.take k)≤depEL l
 | [],k=>by simp
 | x::l,0=>by simp [depEL]
 | x::l,k+1=>by rw [List.take_succ_cons,depEL,depEL];have:=depEL_take l k;omega
theorem GExpr.kid_lt{x y:GExpr}(h:y∈x.fKids):SizeOf.sizeOf y<SizeOf.sizeOf x:=by
 have:=List.sizeOf_lt_of_mem h
 cases x;simp [GExpr.fKids] at *;omega
theorem if_max(a b:Nat):(if a<b then (b:Int) else (a:Int))=((max a b:Nat):Int):=by split<;>omega
theorem int_max(a b:Nat):max (a:Int) (b:Int)=((max a b:Nat):Int):=by omega
def exL(op num:Int)(tx:Str)(p:GPath):Bool:=if op=1 then decide (0≤num) && decide (num≤1000000000) else if op=2 then isText tx else if op=4 then isPath p else if op=3 then isPath p && wrtP p else true
theorem exN_eq(op num:Int)(tx:Str)(p:GPath)(n:Nat):exN op num tx p n=(decide (1≤op) && decide (op≤15) && decide (n=kidsN op) && (decide (op=1) || decide (num=0)) && (decide (op=2) || tx.isEmpty) && (decide (op=3) || decide (op=4) || zeroP p) && exL op num tx p):=rfl
theorem emp_iff(s:Str):s.isEmpty=decide (s=[]):=by cases s<;>simp
section
variable {x : GExpr} {n : Int}
theorem ex_leaf(h:(x.fKids.length:Int)=0):x.fKids.all vE=true:=by
 rw [List.eq_nil_of_length_eq_zero (l:=x.fKids) (by omega)];rfl
theorem vE_no{k:Nat}(hk:k<x.fKids.length)(h:vE (at_ x.fKids k)=false):vE x=false:=by
 rw [vE_eq,all_no hk h,Bool.and_false]
end
theorem ex_f{x:GExpr}(h:exN x.fOp x.fNum x.fText x.fPath x.fKids.length=false):vE x=false:=by rw [vE_eq,h,Bool.false_and]
theorem emp_beq(s:Str):(s == [])=s.isEmpty:=by cases s<;>rfl
theorem cntS_app:∀ (l:List GSchema) (x:GSchema),cntS (l++[x])=cntS l+1+cntS x.fKids
 | [],x=>by cases x;simp [cntS,GSchema.fKids]
 | .mk _ _ _ _ _ _ _ _ _ _ _ _ _ _ ks::l,x=>by simp only [List.cons_append,cntS,cntS_app l x];omega
theorem cntS_step{l:List GSchema}{k:Nat}(h:k<l.length):cntS (l.take (k+1))=cntS (l.take k)+1+cntS (at_ l k).fKids:=by rw [tk1 h,cntS_app]
theorem cntS_take:∀ (l:List GSchema) (k:Nat),cntS (l.take k)+(l.length - k)≤cntS l
 | [],k=>by simp [cntS]
 | x::l,0=>by
  have:=cntS_take l 0
  cases x;simp only [List.take_zero,cntS,List.length_cons] at *;omega
 | x::l,k+1=>by
  have:=cntS_take l k
  cases x;simp only [List.take_succ_cons,cntS,List.length_cons] at *;omega
theorem cntS_kid:∀ {l:List GSchema} {x:GSchema},x∈l→cntS x.fKids≤cntS l
 | y::l,x,h=>by
  rcases List.mem_cons.1 h with rfl|h
  ·cases x;simp only [cntS,GSchema.fKids];omega
  ·have:=cntS_kid h;cases y;simp only [cntS];omega
theorem depS_app:∀ (l:List GSchema) (x:GSchema),depS (l++[x])=max (depS l) (1+depS x.fKids)
 | [],x=>by cases x;simp [depS,GSchema.fKids]
 | .mk _ _ _ _ _ _ _ _ _ _ _ _ _ _ ks::l,x=>by simp only [List.cons_append,depS,depS_app l x];omega
theorem depS_step{l:List GSchema}{k:Nat}(h:k<l.length):depS (l.take (k+1))=max (depS (l.take k)) (1+depS (at_ l k).fKids):=by rw [tk1 h,depS_app]
theorem depS_take:∀ (l:List GSchema) (k:Nat),depS (l.take k)≤depS l
 | [],k=>by simp
 | x::l,0=>by simp [depS]
 | x::l,k+1=>by
  have:=depS_take l k
  cases x;simp only [List.take_succ_cons,depS] at *;omega
theorem depS_kid:∀ {l:List GSchema} {x:GSchema},x∈l→1+depS x.fKids≤depS l
 | y::l,x,h=>by
  rcases List.mem_cons.1 h with rfl|h
  ·cases x;simp only [depS,GSchema.fKids];omega
  ·have:=depS_kid h;cases y;simp only [depS];omega
theorem GSchema.kids_lt{l:List GSchema}{x:GSchema}(h:x∈l):SizeOf.sizeOf x.fKids<SizeOf.sizeOf l:=by
 have:=List.sizeOf_lt_of_mem h
 cases x;simp [GSchema.fKids] at *;omega
end Go.Dt
