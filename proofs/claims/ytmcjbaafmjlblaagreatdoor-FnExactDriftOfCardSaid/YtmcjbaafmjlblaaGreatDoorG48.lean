/-
  Part of a proof: MkE, McB, McY, McE, We2p.
-/
import Derived.Test.YtmcjbaafmjlblaaGreatDoorG7
import Derived.Test.YtmcjbaafmjlblaaGreatDoorG9
import Derived.Test.YtmcjbaafmjlblaaGreatDoorG21
import Derived.Test.YtmcjbaafmjlblaaGreatDoorG32
import Derived.Test.YtmcjbaafmjlblaaGreatDoorG45
import Derived.Test.YtmcjbaafmjlblaaGreatDoorG46
import Derived.Test.YtmcjbaafmjlblaaGreatDoorG47
set_option linter.unusedSimpArgs false
set_option linter.unusedVariables false
namespace Go.Proofs.YtmcjbaafmjlblaaGreatDoor
open Go.Ab Go.Dt
set_option maxRecDepth 20000
set_option maxHeartbeats 4000000
theorem markEditS_n:∀ (n:Nat) (l:List GEdit) (k:Int),BCtr lim Tryz.prog 20 4 (l.map (encEdit true)) [.v (.int .i64 k)] (.v (.int .i64 (mkL stEdit l k).2)) ((mkL stEdit l k).1.map (encEdit true)) (SizeOf.sizeOf l<n∧0≤k∧(mkL stEdit l k).2≤1099511627776)
 | 0,l,k=>⟨en20,fun h=>absurd h.1 (Nat.not_lt_zero _)⟩
 | n+1,l,k=>by
  have ih:=markEditS_n n
  refine BCtr.of en20 (fun b=>?_) (fun e=>?_) (by simp [mkL_len]) (map_elem (fun x=>by rw [encEdit_eq];rfl) _) (map_elem (fun x=>by rw [encEdit_eq];rfl) _)
  ·simp only [List.length_map]
   refine Ctr.of_body en20 Tryz.func20 rfl rfl fun hp=>(?_);rw [Tryz.ntmps20]
   have hup:=mkL_up stEdit_ge l k
   (refine vU ?_;with_reducible repeat' first|exact Le.l|refine Sw ?_ ?_|intro h)
   refine AW.loopW [1,5] [0] (fun m xs o=>∃ i:Nat,xs=[.v (.int .i64 (mkc stEdit l k i)),.v (.int .i64 i)]∧o=[(b,some (((mkp stEdit l k i).map (encEdit true)).flatMap AV.cells))]∧m=l.length - i∧i≤l.length) l.length [(b,some ((l.map (encEdit true)).flatMap AV.cells))] (subO_one rfl) ⟨0,rfl,?_,rfl,?_⟩ ?_
   ·rw [mkp_zero]
   ·omega
   rintro m xs o ⟨i,rfl,rfl,rfl,hi⟩
   have h1:=mkc_ge (up_ge stEdit_ge) l k i
   have h2:=mkc_le (up_ge stEdit_ge) l k i
   (refine vK ?_;with_reducible repeat' first|exact Le.l|refine Sw ?_ ?_|intro h)
   (refine AW.i rfl (fun h=>?_) (fun h=>?_)<;>try simp only [hC,reduceCtorEq] at h)
   ·have h3:=mkc_le (up_ge stEdit_ge) l k (i+1)
    rw [mkd_at h]
    rw [mkc_step h] at h3
    have hpre:=mkb_len (e:=encEdit true) (f:=stEdit) (sz:=4) (k:=k) (fun x=>by rw [encEdit_eq];rfl) hi
    have hpost:(((l.drop (i+1)).map (encEdit true)).flatMap AV.cells).length=(l.length - (i+1)) * 4:=by
     rw [fm_len (e:=encEdit true) (sz:=4) (fun x=>by rw [encEdit_eq];rfl),List.length_drop]
    have hnx:=mkd_next (e:=encEdit true) (f:=stEdit) (k:=k) h
    have hkk:SizeOf.sizeOf (at_ l i).fKids<n:=by have:=GEdit.kids_lt (at_mem h);omega
    rw [stEdit_eq] at hnx
    generalize mkb (encEdit true) stEdit l k i=pre at hpre hnx ⊢
    generalize ((l.drop (i+1)).map (encEdit true)).flatMap AV.cells=post at hnx hpost ⊢
    generalize e1:at_ l i=x at *
    generalize e2:mkc stEdit l k i=c at *
    rw [encEdit_eq]
    simp only [encEdit_eq] at hnx
    refine AW.imp (Imp.pinE (b:=b) pre [_,_,_,_] post (O_eq _ _ _) fun hs=>?_)
    simp (maxSteps:=2000000) (disch:=omega) only [go_sem]
    have g0:=mkL_up stEdit_ge x.fKids (c+1+1+1)
    rw [stEdit_eq] at h3;simp only at h3
    (refine vK ?_;with_reducible repeat' first|exact Le.l|refine Sw ?_ ?_|intro h)
    refine Imp.unpE (b:=b) pre [_,_,_,_] post (O_eq _ _ _) ?_
    simp (maxSteps:=2000000) (disch:=omega) only [go_sem]
    exact ⟨_,[_,_],_,by omega,⟨i+1,by rw [mkc_step h,e1,e2,stEdit_eq],rfl,rfl,by omega⟩,rfl,subO_one hnx⟩
   ·rw [mkc_end h,mkp_end h]
    all_goals exact uU
  ·have:l=[]:=by simpa using e
   subst this
   refine ⟨?_,rfl⟩
   refine Ctr.of_body en20 Tryz.func20 rfl rfl fun hp=>(?_);rw [Tryz.ntmps20]
   (refine vU ?_;with_reducible repeat' first|exact Le.l|refine Sw ?_ ?_|intro h)
   refine AW.loopV [] [0,1,5] (fun m xs o=>xs=[]∧o=[]) 0 [] trivial ⟨rfl,rfl⟩ ?_
   rintro m xs o ⟨rfl,rfl⟩
   (refine vU ?_;with_reducible repeat' first|exact Le.l|refine Sw ?_ ?_|intro h)
   rfl
instance markEditS_i(l:List GEdit)(k:Int):BCtr lim Tryz.prog 20 4 (l.map (encEdit true)) [.v (.int .i64 k)] (.v (.int .i64 (mkL stEdit l k).2)) ((mkL stEdit l k).1.map (encEdit true)) (0≤k∧(mkL stEdit l k).2≤1099511627776):=⟨en20,fun h=>(markEditS_n (SizeOf.sizeOf l+1) l k).out ⟨Nat.lt_succ_self _,h⟩⟩
theorem heldEditS_n:∀ (n:Nat) (l:List GEdit) (k:Int),Ctr lim Tryz.prog 21 [] [.sl false 4 ((mkL stEdit l k).1.map (encEdit false)),.v (.int .i64 k)] (.v (.int .i64 (mkL stEdit l k).2)) [] (SizeOf.sizeOf l<n∧0≤k∧(mkL stEdit l k).2≤1099511627776)
 | 0,l,k=>⟨en21,fun h=>absurd h.1 (Nat.not_lt_zero _)⟩
 | n+1,l,k=>by
  have ih:=heldEditS_n n
  refine Ctr.of_body en21 Tryz.func21 rfl rfl fun hp=>(?_);rw [Tryz.ntmps21]
  have hup:=mkL_up stEdit_ge l k
  have hml:=mkL_len (f:=stEdit) l k
  (refine vU ?_;with_reducible repeat' first|exact Le.l|refine Sw ?_ ?_|intro h)
  refine AW.loopV [1,5] [0] (fun m xs o=>∃ i:Nat,xs=[.v (.int .i64 (mkc stEdit l k i)),.v (.int .i64 i)]∧o=[]∧m=l.length - i∧i≤l.length) l.length [] trivial ⟨0,rfl,rfl,rfl,?_⟩ ?_
  ·omega
  rintro m xs o ⟨i,rfl,rfl,rfl,hi⟩
  have h1:=mkc_ge (up_ge stEdit_ge) l k i
  have h2:=mkc_le (up_ge stEdit_ge) l k i
  (refine vK ?_;with_reducible repeat' first|exact Le.l|refine Sw ?_ ?_|intro h)
  (refine AW.i rfl (fun h=>?_) (fun h=>?_)<;>try simp only [hC,reduceCtorEq] at h)
  ·rw [hml] at h
   have h3:=mkc_le (up_ge stEdit_ge) l k (i+1)
   have hat:=mkL_at (f:=stEdit) (k:=k) h
   rw [mkc_step h] at h3
   have hlt:=h
   have hkk:SizeOf.sizeOf (at_ l i).fKids<n:=by have:=GEdit.kids_lt (at_mem h);omega
   rw [stEdit_eq] at h3 hat
   simp only at h3 hat
   have g0:=mkL_up stEdit_ge (at_ l i).fKids ((mkc stEdit l k i)+1+1+1)
   have hat0:(at_ (mkL stEdit l k).1 i).fOp=(mkc stEdit l k i):=by rw [hat];rfl
   have hat1:(at_ (mkL stEdit l k).1 i).fName=mkT ((mkc stEdit l k i)+1):=by rw [hat];rfl
   have hat2:(at_ (mkL stEdit l k).1 i).fValue=mkT ((mkc stEdit l k i)+1+1):=by rw [hat];rfl
   have hat3:(at_ (mkL stEdit l k).1 i).fKids=(mkL stEdit (at_ l i).fKids ((mkc stEdit l k i)+1+1+1)).1:=by rw [hat];rfl
   (repeat' first|(with_reducible first|refine Z ?_|refine Y ?_|(refine hK _ _ ?_;clear hK K)|refine And.intro ?_ ?_|exact Ct|intro (K:_→_→Prop) hK|(refine gI fun hg=>?_;try simp only [hC,reduceCtorEq] at hg;try simp only [hg]))|(refine AW.i rfl (fun h=>?_) (fun h=>?_)<;>try simp only [hC,reduceCtorEq] at h)|((with_reducible refine E ?_;repeat refine Y ?_);refine eF rfl ?_)|simp (disch:=omega) only [go_sem,hat0,hat1,hat2,hat3,beq_self_eq_true,bne_self_eq_false,Bool.not_true]|(with_reducible intro hg;try simp only [hC,reduceCtorEq] at hg)|exact Cl|fail)
   exact ⟨_,[_,_],[],by omega,⟨i+1,by rw [mkc_step hlt,stEdit_eq],rfl,rfl,by omega⟩,rfl,trivial⟩
  ·rw [hml] at h
   rw [mkc_end h]
   all_goals exact uU
instance heldEditS_i(l:List GEdit)(k:Int):Ctr lim Tryz.prog 21 [] [.sl false 4 ((mkL stEdit l k).1.map (encEdit false)),.v (.int .i64 k)] (.v (.int .i64 (mkL stEdit l k).2)) [] (0≤k∧(mkL stEdit l k).2≤1099511627776):=⟨en21,fun h=>(heldEditS_n (SizeOf.sizeOf l+1) l k).out ⟨Nat.lt_succ_self _,h⟩⟩
end Go.Proofs.YtmcjbaafmjlblaaGreatDoor
namespace Go.Dt
open Go.Ab
theorem szSl_lenB{α:Type}{f:α→Int→Int}{l:List α}{r:Int}(h:0≤szSl f l r):(l.length:Int)≤r:=by
 rcases Int.lt_or_le (r - l.length) 0 with h4|h4
 ·rw [szSl_neg h4] at h;omega
 ·omega
end Go.Dt
namespace Go.Dt
open Go.Ab
theorem thn_posK{a:Int}{k:Int→Int}(h:0≤a):thn a k=k a:=by unfold thn;rw [if_neg (by omega)]
theorem mkL_capm{α:Type}{f:α→Int→α×Int}{s:α→Int→Int}(hs:∀ x r,0≤r→s x r≤r)(l:List α)(hf:∀ x∈l,∀ k r,0≤r→0≤s x r→(f x k).2≤k+32+32 * (r - s x r))(k r:Int)(h0:0≤r)(h:0≤szSl s l r):(mkL f l k).2≤k+32 * (r - szSl s l r):=by
 have key:∀ (l:List α),(∀ x∈l,∀ k r,0≤r→0≤s x r→(f x k).2≤k+32+32 * (r - s x r))→∀ (k r:Int),0≤r→0≤szGo s l r→(mkL f l k).2≤k+32 * l.length+32 * (r - szGo s l r):=by
  intro l
  induction l with
  | nil=>intro _ k r h0 _;simp [mkL,szGo]
  | cons x xs ih =>
   intro hf k r h0 h
   rw [szGo] at h ⊢
   obtain ⟨a0,h⟩:=thn_get h
   rw [thn_posK a0]
   have h1:=hf x (by simp) k r h0 a0
   have h2:=ih (fun y hy=>hf y (by simp [hy])) (f x k).2 (s x r) a0 h
   simp only [mkL,List.length_cons]
   omega
 have h4:=szSl_lenB h
 rw [szSl_pos (by omega)] at h ⊢
 have:=key l hf k (r - l.length) (by omega) h
 omega
theorem mkL_cap{α:Type}{f:α→Int→α×Int}{s:α→Int→Int}(hs:∀ x r,0≤r→s x r≤r)(hf:∀ x k r,0≤r→0≤s x r→(f x k).2≤k+32+32 * (r - s x r))(l:List α)(k r:Int)(h0:0≤r)(h:0≤szSl s l r):(mkL f l k).2≤k+32 * (r - szSl s l r) :=
 mkL_capm hs l (fun x _=>hf x) k r h0 h
theorem stString_cap(x:Str)(k r:Int)(h0:0≤r)(h:0≤szStr x r):(stString x k).2≤k+32+32 * (r - szStr x r):=by
 have:=szStr_le x r h0
 unfold stString;simp only;omega
end Go.Dt
namespace Go.Dt
open Go.Ab
theorem stRange_cap(x:GRange)(k r:Int)(h0:0≤r)(h:0≤szRange x r):(stRange x k).2≤k+32+32 * (r - szRange x r):=by
 simp only [stRange]
 unfold szRange;omega
def inType(x:GType)(k:Int):Int:=(mkL stString x.fNames ((mkL stRange x.fRanges (k+1)).2)).2+1+1
theorem inType_cap(x:GType)(k r:Int)(h0:0≤r)(h:0≤szType x r):inType x k≤k+3+32 * (r - szType x r):=by
 unfold inType
 unfold szType at h ⊢
 obtain ⟨a0,h⟩:=thn_get h
 rw [thn_posK a0]
 have q0:=mkL_cap szRange_le stRange_cap x.fRanges (k+1) r h0 a0
 obtain ⟨a1,h⟩:=thn_get h
 rw [thn_posK a1]
 have q1:=mkL_cap szStr_le stString_cap x.fNames ((mkL stRange x.fRanges (k+1)).2) (szSl szRange x.fRanges r) a0 a1
 obtain ⟨a2,h⟩:=thn_get h
 rw [thn_posK a2]
 have q2:=szStr_le x.fPattern (szSl szStr x.fNames (szSl szRange x.fRanges r)) a1
 obtain ⟨a3,h⟩:=thn_get h
 rw [thn_posK a3]
 have q3:=szStr_le x.fPath (szStr x.fPattern (szSl szStr x.fNames (szSl szRange x.fRanges r))) a2
 simp only [id]
 omega
def tpType(x:GType)(k:Int):Unit×Int:=((),(mkL stString x.fNames ((mkL stRange x.fRanges k).2)).2)
theorem stTest_cap(x:GTest)(k r:Int)(h0:0≤r)(h:0≤szTest x r):(stTest x k).2≤k+32+32 * (r - szTest x r):=by
 simp only [stTest]
 unfold szTest at h ⊢
 obtain ⟨a0,h⟩:=thn_get h
 rw [thn_posK a0]
 have q0:=szStr_le x.fName r h0
 obtain ⟨a1,h⟩:=thn_get h
 rw [thn_posK a1]
 have q1:=szStr_le x.fValue (szStr x.fName r) a0
 simp only [id]
 omega
theorem stStep_cap(x:GStep)(k r:Int)(h0:0≤r)(h:0≤szStep x r):(stStep x k).2≤k+32+32 * (r - szStep x r):=by
 simp only [stStep]
 unfold szStep at h ⊢
 obtain ⟨a0,h⟩:=thn_get h
 rw [thn_posK a0]
 have q0:=szStr_le x.fName r h0
 obtain ⟨a1,h⟩:=thn_get h
 rw [thn_posK a1]
 have q1:=mkL_cap szTest_le stTest_cap x.fTests (k+1) (szStr x.fName r) a0 a1
 simp only [id]
 omega
def inPath(x:GPath)(k:Int):Int:=(mkL stStep x.fSteps (k+1+1)).2
theorem inPath_cap(x:GPath)(k r:Int)(h0:0≤r)(h:0≤szPath x r):inPath x k≤k+2+32 * (r - szPath x r):=by
 unfold inPath
 unfold szPath at h ⊢
 obtain ⟨a0,h⟩:=thn_get h
 rw [thn_posK a0]
 have q0:=mkL_cap szStep_le stStep_cap x.fSteps (k+1+1) r h0 a0
 simp only [id]
 omega
def tpPath(x:GPath)(k:Int):Unit×Int:=((),(mkL stStep x.fSteps k).2)
theorem stExpr_cap(x:GExpr)(k r:Int)(h0:0≤r)(h:0≤szExpr x r):(stExpr x k).2≤k+32+32 * (r - szExpr x r):=by
 rw [stExpr_eq];simp only
 rw [szExpr_eq] at h ⊢
 obtain ⟨a0,h⟩:=thn_get h
 rw [thn_posK a0]
 have q0:=szStr_le x.fText r h0
 obtain ⟨a1,h⟩:=thn_get h
 rw [thn_posK a1]
 have q1:=inPath_cap x.fPath (k+1+1+1) (szStr x.fText r) a0 a1
 simp only [inPath] at q1
 obtain ⟨a2,h⟩:=thn_get h
 rw [thn_posK a2]
 have q2:=mkL_capm szExpr_le x.fKids (fun y hy=>stExpr_cap y) ((mkL stStep x.fPath.fSteps (k+1+1+1+1+1)).2) (szPath x.fPath (szStr x.fText r)) a1 a2
 simp only [id]
 omega
termination_by SizeOf.sizeOf x
decreasing_by have:=List.sizeOf_lt_of_mem hy;cases x;simp [GExpr.fKids] at *;omega
theorem stSchema_cap(x:GSchema)(k r:Int)(h0:0≤r)(h:0≤szSchema x r):(stSchema x k).2≤k+32+32 * (r - szSchema x r):=by
 rw [stSchema_eq];simp only
 rw [szSchema_eq] at h ⊢
 obtain ⟨a0,h⟩:=thn_get h
 rw [thn_posK a0]
 have q0:=szStr_le x.fName r h0
 obtain ⟨a1,h⟩:=thn_get h
 rw [thn_posK a1]
 have q1:=inType_cap x.fType (k+1+1) (szStr x.fName r) a0 a1
 simp only [inType] at q1
 obtain ⟨a2,h⟩:=thn_get h
 rw [thn_posK a2]
 have q2:=mkL_cap szStr_le stString_cap x.fKeys ((mkL stString x.fType.fNames ((mkL stRange x.fType.fRanges (k+1+1+1)).2)).2+1+1) (szType x.fType (szStr x.fName r)) a1 a2
 obtain ⟨a3,h⟩:=thn_get h
 rw [thn_posK a3]
 have q3:=mkL_cap szStr_le stString_cap x.fUnique ((mkL stString x.fKeys ((mkL stString x.fType.fNames ((mkL stRange x.fType.fRanges (k+1+1+1)).2)).2+1+1)).2) (szSl szStr x.fKeys (szType x.fType (szStr x.fName r))) a2 a3
 obtain ⟨a4,h⟩:=thn_get h
 rw [thn_posK a4]
 have q4:=szStr_le x.fDefault (szSl szStr x.fUnique (szSl szStr x.fKeys (szType x.fType (szStr x.fName r)))) a3
 obtain ⟨a5,h⟩:=thn_get h
 rw [thn_posK a5]
 have q5:=mkL_cap szExpr_le stExpr_cap x.fWhen ((mkL stString x.fUnique ((mkL stString x.fKeys ((mkL stString x.fType.fNames ((mkL stRange x.fType.fRanges (k+1+1+1)).2)).2+1+1)).2)).2+1+1+1+1+1+1+1) (szStr x.fDefault (szSl szStr x.fUnique (szSl szStr x.fKeys (szType x.fType (szStr x.fName r))))) a4 a5
 obtain ⟨a6,h⟩:=thn_get h
 rw [thn_posK a6]
 have q6:=mkL_cap szExpr_le stExpr_cap x.fMust ((mkL stExpr x.fWhen ((mkL stString x.fUnique ((mkL stString x.fKeys ((mkL stString x.fType.fNames ((mkL stRange x.fType.fRanges (k+1+1+1)).2)).2+1+1)).2)).2+1+1+1+1+1+1+1)).2) (szSl szExpr x.fWhen (szStr x.fDefault (szSl szStr x.fUnique (szSl szStr x.fKeys (szType x.fType (szStr x.fName r)))))) a5 a6
 obtain ⟨a7,h⟩:=thn_get h
 rw [thn_posK a7]
 have q7:=mkL_capm szSchema_le x.fKids (fun y hy=>stSchema_cap y) ((mkL stExpr x.fMust ((mkL stExpr x.fWhen ((mkL stString x.fUnique ((mkL stString x.fKeys ((mkL stString x.fType.fNames ((mkL stRange x.fType.fRanges (k+1+1+1)).2)).2+1+1)).2)).2+1+1+1+1+1+1+1)).2)).2) (szSl szExpr x.fMust (szSl szExpr x.fWhen (szStr x.fDefault (szSl szStr x.fUnique (szSl szStr x.fKeys (szType x.fType (szStr x.fName r))))))) a6 a7
 simp only [id]
 omega
termination_by SizeOf.sizeOf x
decreasing_by have:=List.sizeOf_lt_of_mem hy;cases x;simp [GSchema.fKids] at *;omega
theorem stNode_cap(x:GNode)(k r:Int)(h0:0≤r)(h:0≤szNode x r):(stNode x k).2≤k+32+32 * (r - szNode x r):=by
 rw [stNode_eq];simp only
 rw [szNode_eq] at h ⊢
 obtain ⟨a0,h⟩:=thn_get h
 rw [thn_posK a0]
 have q0:=szStr_le x.fName r h0
 obtain ⟨a1,h⟩:=thn_get h
 rw [thn_posK a1]
 have q1:=szStr_le x.fValue (szStr x.fName r) a0
 obtain ⟨a2,h⟩:=thn_get h
 rw [thn_posK a2]
 have q2:=mkL_capm szNode_le x.fKids (fun y hy=>stNode_cap y) (k+1+1) (szStr x.fValue (szStr x.fName r)) a1 a2
 simp only [id]
 omega
termination_by SizeOf.sizeOf x
decreasing_by have:=List.sizeOf_lt_of_mem hy;cases x;simp [GNode.fKids] at *;omega
end Go.Dt
namespace Go.Dt
open Go.Ab
end Go.Dt
namespace Go.Dt
open Go.Ab
def stEditS(x:List GEdit)(k:Int):List GEdit×Int:=mkL stEdit x k
end Go.Dt
