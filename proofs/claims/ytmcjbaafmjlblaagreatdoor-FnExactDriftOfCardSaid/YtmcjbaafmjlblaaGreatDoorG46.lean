/-
  Part of a proof: Df8, FamE.
-/
import Derived.Test.YtmcjbaafmjlblaaGreatDoorG23
import Derived.Test.YtmcjbaafmjlblaaGreatDoorG43
import Derived.Test.YtmcjbaafmjlblaaGreatDoorG45
set_option linter.unusedSimpArgs false
set_option linter.unusedVariables false
namespace Go.Proofs.YtmcjbaafmjlblaaGreatDoor
open Go.Ab Go.Dt
set_option maxRecDepth 20000
set_option maxHeartbeats 4000000
attribute [local go_sem] frzL_str encSchemaM_frz encNodeM_frz
theorem tree_ok{s:List GSchema}{l:List GNode}(h:isTree s l=true):∀ x∈l,okX (dk s) x:=by
 simp only [isTree,Bool.and_eq_true] at h
 exact okL_mem h.2
theorem tree_gdS{s:List GSchema}{l:List GNode}(h:isTree s l=true):gdS s:=by
 simp only [isTree,Bool.and_eq_true] at h
 exact tree_gd h.1.1
instance iDif_i(s:List GSchema)(a b:List GNode):Ctr lim Tryz.prog 69 [] [.sl false 19 (s.map (encSchema false)),.sl false 3 (a.map (encNode false)),.sl false 3 (b.map (encNode false))] (.sl true 4 ((dif s a b).map (encEdit true))) [] (isTree s a=true∧isTree s b=true∧wtS s≤1048576∧wt a≤1048576∧wt b≤1048576):=⟨en69,fun h=>(iDif_n (SizeOf.sizeOf b+1) s a b).out ⟨Nat.lt_succ_self _,tree_gdS h.1,h.2.2.1,tree_ok h.1,tree_ok h.2.1,h.2.2.2⟩⟩
instance sDif_i(s:List GSchema)(a b:List GNode):Ctr lim Tryz.prog 103 [] [.sl false 19 (s.map (encSchema false)),.sl false 3 (a.map (encNode false)),.sl false 3 (b.map (encNode false))] (.sl true 4 ((dif s a b).map (encEdit true))) [] (isTree s a=true∧isTree s b=true∧wtS s≤1048576∧wt a≤1048576∧wt b≤1048576):=⟨en103,fun h=>(sDif_n (SizeOf.sizeOf b+1) s a b).out ⟨Nat.lt_succ_self _,tree_gdS h.1,h.2.2.1,tree_ok h.1,tree_ok h.2.1,h.2.2.2⟩⟩
instance sDiffTrees_i(s:List GSchema)(a b:List GNode):Ctr lim Tryz.prog 49 [] [.sl false 19 (s.map (encSchema false)),.sl false 3 (a.map (encNode false)),.sl false 3 (b.map (encNode false))] (.tup [.sl true 4 ((difT s a b).map (encEdit true)),.v (.bool (isTree s a && isTree s b))]) [] (wtS s≤1048576∧wt a≤1048576∧wt b≤1048576):=by
 refine Ctr.of_body en49 Tryz.func49 rfl rfl fun hp=>(?_);rw [Tryz.ntmps49]
 have gOn:=GrOn.on
 obtain ⟨h1,h2,h3⟩:=hp
 (refine vU ?_;with_reducible repeat' first|exact Le.l|refine Sw ?_ ?_|intro h)
 ·have h:(isTree s a && isTree s b)=false:=by rcases h with h|h<;>rw [h]<;>simp
  rw [difT,h];try rfl
 ·rw [difT,h.1,h.2];try rfl
instance iDiffTrees_i(s:List GSchema)(a b:List GNode):Ctr lim Tryz.prog 52 [] [.sl false 19 (s.map (encSchema false)),.sl false 3 (a.map (encNode false)),.sl false 3 (b.map (encNode false))] (.tup [.sl true 4 ((difT s a b).map (encEdit true)),.v (.bool (isTree s a && isTree s b))]) [] (wtS s≤1048576∧wt a≤1048576∧wt b≤1048576):=by
 refine Ctr.of_body en52 Tryz.func52 rfl rfl fun hp=>(?_);rw [Tryz.ntmps52]
 have gOn:=GrOn.on
 obtain ⟨h1,h2,h3⟩:=hp
 (refine vU ?_;with_reducible repeat' first|exact Le.l|refine Sw ?_ ?_|intro h)
 ·have h:(isTree s a && isTree s b)=false:=by rcases h with h|h<;>rw [h]<;>simp
  rw [difT,h];try rfl
 ·rw [difT,h.1,h.2];try rfl
instance iDrift_i(x:GDevice)(l:List GNode):Ctr lim Tryz.prog 14 [] [.agg [.str x.fName,.sl false 19 (x.fStore.fSchema.map (encSchema false)),.sl false 3 (x.fStore.fRunning.map (encNode false)),.sl false 3 (x.fStore.fDraft.map (encNode false)),.v (.int .i64 x.fStore.fOwner),.sl false 3 (x.fStore.fPast.map (encVersion false)),.v (.bool x.fStore.fWait.fOn),.v (.int .i64 x.fStore.fWait.fUntil),.v (.int .i64 x.fStore.fWait.fBy),.str x.fStore.fWait.fName,.sl false 3 (x.fStore.fWait.fBack.map (encNode false)),.sl false 3 (x.fBase.map (encNode false)),.v (.bool x.fUp),.v (.int .i64 x.fWeak),.v (.bool x.fHeld)],.sl false 3 (l.map (encNode false))] (.tup [.sl true 4 ((difT x.fStore.fSchema x.fStore.fRunning l).map (encEdit true)),.v (.bool (isTree x.fStore.fSchema x.fStore.fRunning && isTree x.fStore.fSchema l))]) [] (wtS x.fStore.fSchema≤1048576∧wt x.fStore.fRunning≤1048576∧wt l≤1048576):=by
 refine Ctr.of_body en14 Tryz.func14 rfl rfl fun hp=>(?_);rw [Tryz.ntmps14]
 have gOn:=GrOn.on
 obtain ⟨h1,h2,h3⟩:=hp
 (refine vU ?_;with_reducible repeat' first|exact Le.l|refine Sw ?_ ?_|intro h)
 all_goals skip
instance sDrift_i(x:GDevice)(l:List GNode):Ctr lim Tryz.prog 11 [] [.agg [.str x.fName,.sl false 19 (x.fStore.fSchema.map (encSchema false)),.sl false 3 (x.fStore.fRunning.map (encNode false)),.sl false 3 (x.fStore.fDraft.map (encNode false)),.v (.int .i64 x.fStore.fOwner),.sl false 3 (x.fStore.fPast.map (encVersion false)),.v (.bool x.fStore.fWait.fOn),.v (.int .i64 x.fStore.fWait.fUntil),.v (.int .i64 x.fStore.fWait.fBy),.str x.fStore.fWait.fName,.sl false 3 (x.fStore.fWait.fBack.map (encNode false)),.sl false 3 (x.fBase.map (encNode false)),.v (.bool x.fUp),.v (.int .i64 x.fWeak),.v (.bool x.fHeld)],.sl false 3 (l.map (encNode false))] (.tup [.sl true 4 ((difT x.fStore.fSchema x.fStore.fRunning l).map (encEdit true)),.v (.bool (isTree x.fStore.fSchema x.fStore.fRunning && isTree x.fStore.fSchema l))]) [] (wtS x.fStore.fSchema≤1048576∧wt x.fStore.fRunning≤1048576∧wt l≤1048576):=by
 refine Ctr.of_body en11 Tryz.func11 rfl rfl fun hp=>(?_);rw [Tryz.ntmps11]
 have gOn:=GrOn.on
 obtain ⟨h1,h2,h3⟩:=hp
 (refine vU ?_;with_reducible repeat' first|exact Le.l|refine Sw ?_ ?_|intro h)
 all_goals skip
end Go.Proofs.YtmcjbaafmjlblaaGreatDoor
namespace Go.Proofs.YtmcjbaafmjlblaaGreatDoor
open Go.Ab Go.Dt
set_option maxRecDepth 20000
set_option maxHeartbeats 4000000
theorem GEdit.kids_lt{x:GEdit}{l:List GEdit}(h:x∈l):SizeOf.sizeOf x.fKids<SizeOf.sizeOf l:=by
 have:=List.sizeOf_lt_of_mem h
 cases x;simp [GEdit.fKids] at *;omega
theorem eqEdit_n(L:Nat→Nat)[hL:Lok L](n:Nat)(ih:∀ l:List GEdit,Ctr L Tryz.prog 15 [] [.sl false 4 (l.map (encEdit false)),.sl false 4 (l.map (encEdit false))] (.v (.bool true)) [] (SizeOf.sizeOf l<n))(x:GEdit):Ctr L Tryz.prog 53 [] [.agg [.v (.int .i64 x.fOp),.str x.fName,.str x.fValue,.sl false 4 (x.fKids.map (encEdit false))],.agg [.v (.int .i64 x.fOp),.str x.fName,.str x.fValue,.sl false 4 (x.fKids.map (encEdit false))]] (.v (.bool true)) [] (SizeOf.sizeOf x.fKids<n):=by
 refine Ctr.of_body en53 Tryz.func53 rfl rfl fun hp=>(?_);rw [Tryz.ntmps53]
 all_goals exact uU
theorem eqEditS_n(L:Nat→Nat)[hL:Lok L]:∀ (n:Nat) (l:List GEdit),Ctr L Tryz.prog 15 [] [.sl false 4 (l.map (encEdit false)),.sl false 4 (l.map (encEdit false))] (.v (.bool true)) [] (SizeOf.sizeOf l<n)
 | 0,l=>⟨en15,fun h=>absurd h (Nat.not_lt_zero _)⟩
 | n+1,l=>by
  have hx:=eqEdit_n L n (eqEditS_n L n)
  refine Ctr.of_body en15 Tryz.func15 rfl rfl fun hp=>(?_);rw [Tryz.ntmps15]
  refine AW.fact 0 fun hf=>?_
  simp (disch:=omega) only [go_sem,Nat.reduceBEq] at hf
  have hf:=Nat.le_trans hf (hL.le 4)
  (refine vU ?_;with_reducible repeat' first|exact Le.l|refine Sw ?_ ?_|intro h)
  refine AW.loopV [5] [0,1] (fun m xs o=>∃ k:Nat,xs=[.v (.int .i64 k)]∧o=[]∧m=l.length - k∧k≤l.length) l.length [] trivial ⟨0,?_,rfl,rfl,?_⟩ ?_
  ·rfl
  ·omega
  rintro m xs o ⟨k,rfl,rfl,rfl,hk⟩
  have hkk:k<l.length→SizeOf.sizeOf (at_ l k).fKids<n:=fun h=>by have:=GEdit.kids_lt (at_mem h);omega
  (refine vU ?_;with_reducible repeat' first|exact Le.l|refine Sw ?_ ?_|intro h)
  exact ⟨_,[_],[],by omega,⟨k+1,rfl,rfl,rfl,by omega⟩,rfl,trivial⟩
instance eqEditS_i(L:Nat→Nat)[hL:Lok L](l:List GEdit):Ctr L Tryz.prog 15 [] [.sl false 4 (l.map (encEdit false)),.sl false 4 (l.map (encEdit false))] (.v (.bool true)) [] True:=⟨en15,fun _=>(eqEditS_n L (SizeOf.sizeOf l+1) l).out (Nat.lt_succ_self _)⟩
end Go.Proofs.YtmcjbaafmjlblaaGreatDoor
