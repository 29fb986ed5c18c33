/-
  Part of a proof: ScB, Sc9, ScA, Fam7, FamA.
-/
import Derived.Test.YtmcjbaafmjlblaaGreatDoorG23
import Derived.Test.YtmcjbaafmjlblaaGreatDoorG26
import Derived.Test.YtmcjbaafmjlblaaGreatDoorG27
import Derived.Test.YtmcjbaafmjlblaaGreatDoorG28
import Derived.Test.YtmcjbaafmjlblaaGreatDoorG29
set_option linter.unusedSimpArgs false
set_option linter.unusedVariables false
namespace Go.Proofs.YtmcjbaafmjlblaaGreatDoor
open Go.Ab Go.Dt
set_option maxRecDepth 20000
set_option maxHeartbeats 4000000
attribute [local go_sem] frzL_str encSchemaM_frz schAll schOne schF
theorem iKids_n:∀ (n:Nat) (l:List GSchema) (kind:Int) (bd:Bool),Ctr lim Tryz.prog 171 [] [.sl false 19 (l.map (encSchema false)),.v (.int .i64 kind),.v (.bool bd)] (.v (.bool (kR l kind bd))) [] (SizeOf.sizeOf l<n∧wtS l≤1048576)
 | 0,l,_,_=>⟨en171,fun h=>absurd h.1 (Nat.not_lt_zero _)⟩
 | n+1,l,kind,bd=>by
  have ih:=iKids_n n
  refine Ctr.of_body en171 Tryz.func171 rfl rfl fun hp=>(?_);rw [Tryz.ntmps171]
  have gOn:=GrOn.on
  obtain ⟨hs,hb⟩:=hp
  have hc:=cnt_wtS l
  refine AW.fact 0 fun hf=>?_
  simp (disch:=omega) only [go_sem] at hf
  (refine vK ?_;with_reducible repeat' first|exact Le.l|refine Sw ?_ ?_|intro h)
  (refine AW.i rfl (fun h=>?_) (fun h=>?_)<;>try simp only [hC,reduceCtorEq] at h)
  ·(refine vU ?_;with_reducible repeat' first|exact Le.l|refine Sw ?_ ?_|intro h)
   refine congrArg (fun b=>AV.v (.bool b)) ?_
   rw [kR,diffI];grind
  (refine vK ?_;with_reducible repeat' first|exact Le.l|refine Sw ?_ ?_|intro h)
  have hd:diffI l kind=true:=by rw [diffI];grind
  clear h
  refine AW.loopV [38] [0,1,2,36,37] (fun m xs o=>∃ k:Nat,xs=[.v (.int .i64 k)]∧o=[]∧m=l.length - k∧k≤l.length∧kA (l.drop k) kind bd=kA l kind bd) l.length [] trivial ⟨0,?_,rfl,rfl,?_,rfl⟩ ?_
  ·rfl
  ·omega
  rintro m xs o ⟨k,rfl,rfl,rfl,hk,hR⟩
  (refine vK ?_;with_reducible repeat' first|exact Le.l|refine Sw ?_ ?_|intro h)
  (refine AW.i rfl (fun h=>?_) (fun h=>?_)<;>try simp only [hC,reduceCtorEq] at h)
  ·have hw:=wtS_kid (at_mem h)
   have hsz:=GSchema.kids_lt (at_mem h)
   have hlk:=h
   clear h
   (refine vK ?_;with_reducible repeat' first|exact Le.l|refine Sw ?_ ?_|intro h)
   (refine AW.i rfl (fun h=>?_) (fun h=>?_)<;>try simp only [hC,reduceCtorEq] at h)
   ·(refine vU ?_;with_reducible repeat' first|exact Le.l|refine Sw ?_ ?_|intro h)
    rw [kR_no hlk hR (one_no (by grind))]
   have ho:(aloneI (at_ l k) && !decide ((at_ l k).fKind=7) && (decide ((at_ l k).fKind=6) == decide (kind=5)) && !((at_ l k).fGiven && bd))=true:=by grind
   clear h
   (refine vK ?_;with_reducible repeat' first|exact Le.l|refine Sw ?_ ?_|intro h)
   rename Nat=>b
   refine AW.fact 66 fun hf68=>?_
   simp (disch:=omega) only [go_sem] at hf68
   refine AW.loopV [68] [0,1,2,8,36,37,38,66,67] (fun m xs o=>∃ j:Nat,xs=[.v (.int .i64 j)]∧o=[(b,some [.v (.int .i64 (at_ l k).fKind),.str (at_ l k).fName,.v (.int .i64 (at_ l k).fType.fKind),.sl false 2 ((at_ l k).fType.fRanges.map (encRange false)),.sl false 1 ((at_ l k).fType.fNames.map AV.str),.str (at_ l k).fType.fPattern,.str (at_ l k).fType.fPath,.sl false 1 ((at_ l k).fKeys.map AV.str),.sl false 1 ((at_ l k).fUnique.map AV.str),.str (at_ l k).fDefault,.v (.bool (at_ l k).fGiven),.v (.bool (at_ l k).fNeeded),.v (.bool (at_ l k).fPresent),.v (.bool (at_ l k).fFixed),.v (.int .i64 (at_ l k).fMin),.v (.int .i64 (at_ l k).fMax),.sl false 7 ((at_ l k).fWhen.map (encExpr false)),.sl false 7 ((at_ l k).fMust.map (encExpr false)),.sl false 19 ((at_ l k).fKids.map (encSchema false))])]∧m=(at_ l k).fKeys.length - j∧j≤(at_ l k).fKeys.length∧∀ y∈(at_ l k).fKeys.take j,(!keyI (at_ l k).fKids y)=false) (at_ l k).fKeys.length [(b,some [.v (.int .i64 (at_ l k).fKind),.str (at_ l k).fName,.v (.int .i64 (at_ l k).fType.fKind),.sl false 2 ((at_ l k).fType.fRanges.map (encRange false)),.sl false 1 ((at_ l k).fType.fNames.map AV.str),.str (at_ l k).fType.fPattern,.str (at_ l k).fType.fPath,.sl false 1 ((at_ l k).fKeys.map AV.str),.sl false 1 ((at_ l k).fUnique.map AV.str),.str (at_ l k).fDefault,.v (.bool (at_ l k).fGiven),.v (.bool (at_ l k).fNeeded),.v (.bool (at_ l k).fPresent),.v (.bool (at_ l k).fFixed),.v (.int .i64 (at_ l k).fMin),.v (.int .i64 (at_ l k).fMax),.sl false 7 ((at_ l k).fWhen.map (encExpr false)),.sl false 7 ((at_ l k).fMust.map (encExpr false)),.sl false 19 ((at_ l k).fKids.map (encSchema false))])] gO ⟨0,rfl,rfl,rfl,by omega,by simp⟩ ?_
   rintro m xs o ⟨j,rfl,rfl,rfl,hj,hS⟩
   (refine vK ?_;with_reducible repeat' first|exact Le.l|refine Sw ?_ ?_|intro h)
   (refine AW.i rfl (fun h=>?_) (fun h=>?_)<;>try simp only [hC,reduceCtorEq] at h)
   ·by_cases hq:0≤idx (leafS (at_ (at_ l k).fKeys j)) (at_ l k).fKids
    ·haveI:=iLeaf_yes (at_ l k).fKids (at_ (at_ l k).fKeys j)
     (refine vU ?_;with_reducible repeat' first|exact Le.l|refine Sw ?_ ?_|intro h)
     ·rw [kR_no hlk hR (one_key (by assumption) (by rw [keyI,keyR,emp_len];grind))]
     ·exact ⟨_,[_],_,by omega,⟨j+1,rfl,rfl,rfl,by omega,take_step' (by assumption) hS (by rw [keyI,keyR,emp_len];grind)⟩,rfl,by simp (maxSteps:=2000000) (disch:=omega) only [go_sem]⟩
    ·haveI:=iLeaf_no (at_ l k).fKids (at_ (at_ l k).fKeys j)
     (refine vU ?_;with_reducible repeat' first|exact Le.l|refine Sw ?_ ?_|intro h)
     rw [kR_no hlk hR (one_key (by assumption) (by rw [keyI];grind))]
   have hj2:=h
   clear h
   (refine vK ?_;with_reducible repeat' first|exact Le.l|refine Sw ?_ ?_|intro h)
   refine AW.fact 99 fun hf101=>?_
   simp (disch:=omega) only [go_sem] at hf101
   refine AW.loopV [101] [0,1,2,8,36,37,38,99,100] (fun m xs o=>∃ i:Nat,xs=[.v (.int .i64 i)]∧o=[(b,some [.v (.int .i64 (at_ l k).fKind),.str (at_ l k).fName,.v (.int .i64 (at_ l k).fType.fKind),.sl false 2 ((at_ l k).fType.fRanges.map (encRange false)),.sl false 1 ((at_ l k).fType.fNames.map AV.str),.str (at_ l k).fType.fPattern,.str (at_ l k).fType.fPath,.sl false 1 ((at_ l k).fKeys.map AV.str),.sl false 1 ((at_ l k).fUnique.map AV.str),.str (at_ l k).fDefault,.v (.bool (at_ l k).fGiven),.v (.bool (at_ l k).fNeeded),.v (.bool (at_ l k).fPresent),.v (.bool (at_ l k).fFixed),.v (.int .i64 (at_ l k).fMin),.v (.int .i64 (at_ l k).fMax),.sl false 7 ((at_ l k).fWhen.map (encExpr false)),.sl false 7 ((at_ l k).fMust.map (encExpr false)),.sl false 19 ((at_ l k).fKids.map (encSchema false))])]∧m=(at_ l k).fUnique.length - i∧i≤(at_ l k).fUnique.length∧∀ y∈(at_ l k).fUnique.take i,(!unqI (at_ l k).fKids y)=false) (at_ l k).fUnique.length [(b,some [.v (.int .i64 (at_ l k).fKind),.str (at_ l k).fName,.v (.int .i64 (at_ l k).fType.fKind),.sl false 2 ((at_ l k).fType.fRanges.map (encRange false)),.sl false 1 ((at_ l k).fType.fNames.map AV.str),.str (at_ l k).fType.fPattern,.str (at_ l k).fType.fPath,.sl false 1 ((at_ l k).fKeys.map AV.str),.sl false 1 ((at_ l k).fUnique.map AV.str),.str (at_ l k).fDefault,.v (.bool (at_ l k).fGiven),.v (.bool (at_ l k).fNeeded),.v (.bool (at_ l k).fPresent),.v (.bool (at_ l k).fFixed),.v (.int .i64 (at_ l k).fMin),.v (.int .i64 (at_ l k).fMax),.sl false 7 ((at_ l k).fWhen.map (encExpr false)),.sl false 7 ((at_ l k).fMust.map (encExpr false)),.sl false 19 ((at_ l k).fKids.map (encSchema false))])] gO ⟨0,rfl,rfl,rfl,by omega,by simp⟩ ?_
   rintro m xs o ⟨i,rfl,rfl,rfl,hi,hT⟩
   (refine vK ?_;with_reducible repeat' first|exact Le.l|refine Sw ?_ ?_|intro h)
   (refine AW.i rfl (fun h=>?_) (fun h=>?_)<;>try simp only [hC,reduceCtorEq] at h)
   ·by_cases hq:0≤idx (leafS (at_ (at_ l k).fUnique i)) (at_ l k).fKids
    ·haveI:=iLeaf_yes (at_ l k).fKids (at_ (at_ l k).fUnique i)
     (refine vU ?_;with_reducible repeat' first|exact Le.l|refine Sw ?_ ?_|intro h)
     exact ⟨_,[_],_,by omega,⟨i+1,rfl,rfl,rfl,by omega,take_step' (by assumption) hT (by rw [unqI];grind)⟩,rfl,by simp (maxSteps:=2000000) (disch:=omega) only [go_sem]⟩
    ·haveI:=iLeaf_no (at_ l k).fKids (at_ (at_ l k).fUnique i)
     (refine vU ?_;with_reducible repeat' first|exact Le.l|refine Sw ?_ ?_|intro h)
     rw [kR_no hlk hR (one_unq (by assumption) (by rw [unqI];grind))]
   have hi2:=h
   clear h
   (refine vU ?_;with_reducible repeat' first|exact Le.l|refine Sw ?_ ?_|intro h)
   ·rw [kR_kid hlk hR (by rw [decP,len_p,beq_dec] at h;exact h)]
   ·exact ⟨_,[_],_,by omega,⟨k+1,rfl,rfl,rfl,by omega,kR_step hlk hR (one_yes ho hj2 hS hi2 hT) (by rw [decP,len_p,beq_dec] at h;exact h)⟩,rfl,by simp (maxSteps:=2000000) (disch:=omega) only [go_sem]⟩
  ·(refine vU ?_;with_reducible repeat' first|exact Le.l|refine Sw ?_ ?_|intro h)
   rw [kR_end hd h hR]
end Go.Proofs.YtmcjbaafmjlblaaGreatDoor
namespace Go.Proofs.YtmcjbaafmjlblaaGreatDoor
open Go.Ab Go.Dt
set_option maxRecDepth 20000
set_option maxHeartbeats 4000000
attribute [local go_sem] frzL_str encSchemaM_frz schAll schOne
theorem list_key{x:GSchema}{k:Nat}(h:k<x.fKeys.length)(e:keyS x.fKids (at_ x.fKeys k)=false):listS x=false:=by
 rw [listS,all_no h e];try rfl
theorem list_unq{x:GSchema}{k:Nat}(h:k<x.fUnique.length)(e:unqS x.fKids (at_ x.fUnique k)=false):listS x=false:=by
 rw [listS,all_no h e];simp
theorem list_end{x:GSchema}(h1:x.fKeys.all (keyS x.fKids)=true)(h2:x.fUnique.all (unqS x.fKids)=true):listS x=(noTy x.fType && !x.fKeys.isEmpty && (diffs x.fKeys && decide (x.fKeys.length≤3)) && (diffs x.fUnique && decide (x.fUnique.length≤3)) && sizeR x && !x.fGiven && !x.fNeeded && !x.fPresent && !x.fFixed && x.fDefault.isEmpty):=by
 rw [listS,h1,h2];try rfl
instance sList_i(x:GSchema):Ctr lim Tryz.prog 220 [] [.agg [.v (.int .i64 x.fKind),.str x.fName,.v (.int .i64 x.fType.fKind),.sl false 2 (x.fType.fRanges.map (encRange false)),.sl false 1 (x.fType.fNames.map AV.str),.str x.fType.fPattern,.str x.fType.fPath,.sl false 1 (x.fKeys.map AV.str),.sl false 1 (x.fUnique.map AV.str),.str x.fDefault,.v (.bool x.fGiven),.v (.bool x.fNeeded),.v (.bool x.fPresent),.v (.bool x.fFixed),.v (.int .i64 x.fMin),.v (.int .i64 x.fMax),.sl false 7 (x.fWhen.map (encExpr false)),.sl false 7 (x.fMust.map (encExpr false)),.sl false 19 (x.fKids.map (encSchema false))]] (.v (.bool (listS x))) [] True:=by
 refine Ctr.of_body en220 Tryz.func220 rfl rfl fun hp=>(?_);rw [Tryz.ntmps220]
 have gOn:=GrOn.on
 refine AW.fact 0 fun hf=>?_
 simp (disch:=omega) only [go_sem] at hf
 (refine vU ?_;with_reducible repeat' first|exact Le.l|refine Sw ?_ ?_|intro h)
 refine AW.loopV [3] [1] (fun m xs o=>∃ k:Nat,xs=[.v (.int .i64 k)]∧o=[]∧m=x.fKeys.length - k∧k≤x.fKeys.length∧∀ y∈x.fKeys.take k,(!keyS x.fKids y)=false) x.fKeys.length [] trivial ⟨0,?_,rfl,rfl,?_,?_⟩ ?_
 ·rfl
 ·omega
 ·simp
 rintro m xs o ⟨k,rfl,rfl,rfl,hk,hR⟩
 have hi:=idx_ge (nmP (at_ x.fKeys k)) x.fKids
 have hj:=idx_lt (p:=nmP (at_ x.fKeys k)) x.fKids
 (refine vK ?_;with_reducible repeat' first|exact Le.l|refine Sw ?_ ?_|intro h)
 (refine AW.i rfl (fun h=>?_) (fun h=>?_)<;>try simp only [hC,reduceCtorEq] at h)
 ·(refine vU ?_;with_reducible repeat' first|exact Le.l|refine Sw ?_ ?_|intro h)
  ·rw [list_key (by assumption) (by rw [keyS,keyR,emp_len];grind)]
  ·exact ⟨_,[_],[],by omega,⟨k+1,rfl,rfl,rfl,by omega,take_step' (by assumption) hR (by rw [keyS,keyR,emp_len];grind)⟩,rfl,trivial⟩
 ·(refine vK ?_;with_reducible repeat' first|exact Le.l|refine Sw ?_ ?_|intro h)
  refine AW.loopV [5] [1] (fun m xs o=>∃ k:Nat,xs=[.v (.int .i64 k)]∧o=[]∧m=x.fUnique.length - k∧k≤x.fUnique.length∧∀ y∈x.fUnique.take k,(!unqS x.fKids y)=false) x.fUnique.length [] trivial ⟨0,?_,rfl,rfl,?_,?_⟩ ?_
  ·rfl
  ·omega
  ·simp
  rintro m xs o ⟨j,rfl,rfl,rfl,hj,hS⟩
  have hi:=idx_ge (nmP (at_ x.fUnique j)) x.fKids
  have hj:=idx_lt (p:=nmP (at_ x.fUnique j)) x.fKids
  (refine vU ?_;with_reducible repeat' first|exact Le.l|refine Sw ?_ ?_|intro h)
  ·rw [list_unq (by assumption) (by rw [unqS];grind)]
  ·exact ⟨_,[_],[],by omega,⟨j+1,rfl,rfl,rfl,by omega,take_step' (by assumption) hS (by rw [unqS];grind)⟩,rfl,trivial⟩
  ·rw [list_end (all_yes (by assumption) hR) (all_yes (by assumption) hS),decP,len_p,emp_beq]
end Go.Proofs.YtmcjbaafmjlblaaGreatDoor
namespace Go.Proofs.YtmcjbaafmjlblaaGreatDoor
open Go.Ab Go.Dt
set_option maxRecDepth 20000
set_option maxHeartbeats 4000000
attribute [local go_sem] frzL_str encSchemaM_frz schAll schOne
instance sNode_i(x:GSchema)(fr:Bool):Ctr lim Tryz.prog 188 [] [.agg [.v (.int .i64 x.fKind),.str x.fName,.v (.int .i64 x.fType.fKind),.sl false 2 (x.fType.fRanges.map (encRange false)),.sl false 1 (x.fType.fNames.map AV.str),.str x.fType.fPattern,.str x.fType.fPath,.sl false 1 (x.fKeys.map AV.str),.sl false 1 (x.fUnique.map AV.str),.str x.fDefault,.v (.bool x.fGiven),.v (.bool x.fNeeded),.v (.bool x.fPresent),.v (.bool x.fFixed),.v (.int .i64 x.fMin),.v (.int .i64 x.fMax),.sl false 7 (x.fWhen.map (encExpr false)),.sl false 7 (x.fMust.map (encExpr false)),.sl false 19 (x.fKids.map (encSchema false))],.v (.bool fr)] (.v (.bool (nodeS x fr))) [] (depEL x.fWhen≤1048576∧depEL x.fMust≤1048576∧x.fDefault.length≤1048576):=by
 refine Ctr.of_body en188 Tryz.func188 rfl rfl fun hp=>(?_);rw [Tryz.ntmps188]
 have gOn:=GrOn.on
 obtain ⟨hw,hm,hd⟩:=hp
 (refine vU ?_;with_reducible repeat' first|exact Le.l|refine Sw ?_ ?_|intro h)
 all_goals refine congrArg (fun b=>AV.v (.bool b)) ?_
 ·rw [nodeS,baseR];grind
 all_goals have hb:baseR x=true:=by rw [baseR];grind
 all_goals rw [nodeS,hb,kindS,Bool.true_and]
 all_goals try simp only [len_z]
 all_goals try simp only [emp_beq,beq_dec]
 all_goals repeat' split
 all_goals first|rfl|(exfalso;omega)|(exfalso;simp_all;done)
end Go.Proofs.YtmcjbaafmjlblaaGreatDoor
namespace Go.Proofs.YtmcjbaafmjlblaaGreatDoor
open Go.Ab Go.Dt
set_option maxRecDepth 20000
set_option maxHeartbeats 4000000
end Go.Proofs.YtmcjbaafmjlblaaGreatDoor
namespace Go.Proofs.YtmcjbaafmjlblaaGreatDoor
open Go.Ab Go.Dt
set_option maxRecDepth 20000
set_option maxHeartbeats 4000000
instance eqTest_i(L:Nat→Nat)[hL:Lok L](x:GTest):Ctr L Tryz.prog 276 [] [.agg [.str x.fName,.str x.fValue],.agg [.str x.fName,.str x.fValue]] (.v (.bool true)) [] True:=by
 refine Ctr.of_body en276 Tryz.func276 rfl rfl fun hp=>(?_);rw [Tryz.ntmps276]
 all_goals exact uU
instance eqTestS_i(L:Nat→Nat)[hL:Lok L](l:List GTest):Ctr L Tryz.prog 259 [] [.sl false 2 (l.map (encTest false)),.sl false 2 (l.map (encTest false))] (.v (.bool true)) [] True:=by
 refine Ctr.of_body en259 Tryz.func259 rfl rfl fun hp=>(?_);rw [Tryz.ntmps259]
 refine AW.fact 0 fun hf=>?_
 simp (disch:=omega) only [go_sem,Nat.reduceBEq] at hf
 have hf:=Nat.le_trans hf (hL.le 2)
 (refine vU ?_;with_reducible repeat' first|exact Le.l|refine Sw ?_ ?_|intro h)
 refine AW.loopV [5] [0,1] (fun m xs o=>∃ k:Nat,xs=[.v (.int .i64 k)]∧o=[]∧m=l.length - k∧k≤l.length) l.length [] trivial ⟨0,?_,rfl,rfl,?_⟩ ?_
 ·rfl
 ·omega
 rintro m xs o ⟨k,rfl,rfl,rfl,hk⟩
 (refine vU ?_;with_reducible repeat' first|exact Le.l|refine Sw ?_ ?_|intro h)
 exact ⟨_,[_],[],by omega,⟨k+1,rfl,rfl,rfl,by omega⟩,rfl,trivial⟩
instance szTest_i(L:Nat→Nat)[hL:Lok L](x:GTest)(r:Int):Ctr L Tryz.prog 274 [] [.agg [.str x.fName,.str x.fValue],.v (.int .i64 r)] (.v (.int .i64 (szTest x r))) [] (0≤r∧r≤1048576):=by
 refine Ctr.of_body en274 Tryz.func274 rfl rfl fun hp=>(?_);rw [Tryz.ntmps274]
 refine AW.fact 0 fun hf=>?_
 simp (disch:=omega) only [go_sem,Nat.reduceBEq] at hf
 unfold szTest
 ((refine vU ?_;with_reducible repeat' first|exact Le.l|refine Sw ?_ ?_|intro h);all_goals simp only [thn,szStr,id];all_goals refine congrArg (fun z=>AV.v (.int .i64 z)) ?_;all_goals (repeat' split);all_goals omega)
instance szTestS_i(L:Nat→Nat)[hL:Lok L](l:List GTest)(r:Int):Ctr L Tryz.prog 257 [] [.sl false 2 (l.map (encTest false)),.v (.int .i64 r)] (.v (.int .i64 (szSl szTest l r))) [] (0≤r∧r≤1048576):=by
 refine Ctr.of_body en257 Tryz.func257 rfl rfl fun hp=>(?_);rw [Tryz.ntmps257]
 refine AW.fact 0 fun hf=>?_
 simp (disch:=omega) only [go_sem,Nat.reduceBEq] at hf
 have hf:=Nat.le_trans hf (hL.le 2)
 (refine vU ?_;with_reducible repeat' first|exact Le.l|refine Sw ?_ ?_|intro h)
 ·rw [szSl_neg h]
 rw [szSl_pos h]
 refine AW.loopV [1,5] [0] (fun m xs o=>∃ (k:Nat) (q:Int),xs=[.v (.int .i64 q),.v (.int .i64 k)]∧o=[]∧m=l.length - k∧k≤l.length∧0≤q∧q≤1048576∧szGo szTest (l.drop k) q=szGo szTest l (r - l.length)) l.length [] trivial ⟨0,_,?_,rfl,rfl,?_,?_,?_,rfl⟩ ?_
 ·rfl
 ·omega
 ·omega
 ·omega
 rintro m xs o ⟨k,q,rfl,rfl,rfl,hk,h0,h1,hR⟩
 have hle:=szTest_le (at_ l k) q h0
 (refine vU ?_;with_reducible repeat' first|exact Le.l|refine Sw ?_ ?_|intro h)
 ·rw [szGo_at (by assumption),if_pos (by first|exact h|(rw [hsz];exact h))] at hR;rw [hR]
 ·rw [szGo_at (by assumption),if_neg (by omega)] at hR
  exact ⟨_,[_,_],[],by omega,⟨k+1,_,rfl,rfl,rfl,by omega,by omega,by omega,hR⟩,rfl,trivial⟩
 ·rw [szGo_end h] at hR;rw [hR]
instance toTest_i(x:GTest):Ctr lim Tryz.prog 275 [] [.agg [.str x.fName,.str x.fValue]] (.agg [.str x.fName,.str x.fValue]) [] True:=by
 refine Ctr.of_body en275 Tryz.func275 rfl rfl fun hp=>(?_);rw [Tryz.ntmps275]
 all_goals exact uU
instance toTestS_i(l:List GTest):Ctr lim Tryz.prog 258 [] [.sl false 2 (l.map (encTest false))] (.sl true 2 (l.map (encTest true))) [] True:=by
 refine Ctr.of_body en258 Tryz.func258 rfl rfl fun hp=>(?_);rw [Tryz.ntmps258]
 refine AW.fact 0 fun hf=>?_
 simp (disch:=omega) only [go_sem,Nat.reduceBEq] at hf
 (refine vU ?_;with_reducible repeat' first|exact Le.l|refine Sw ?_ ?_|intro h)
 refine AW.loopV [4] [0,3] (fun m xs o=>∃ k:Nat,xs=[.v (.int .i64 k)]∧o=[(h,some (mkC (encTest true) [.string ⟨#[]⟩,.string ⟨#[]⟩] l k))]∧m=l.length - k∧k≤l.length) l.length [(h,some (mkC (encTest true) [.string ⟨#[]⟩,.string ⟨#[]⟩] l 0))] (subO_one (mkC_zero _ _ _)) ⟨0,?_,rfl,rfl,?_⟩ ?_
 ·rfl
 ·omega
 rintro m xs o ⟨k,rfl,rfl,rfl,hk⟩
 have hml:=mkC_len (encTest true) [.string ⟨#[]⟩,.string ⟨#[]⟩] 2 (fun _=>rfl) rfl l k hk
 (refine vX ?_;with_reducible repeat' first|exact Le.l|refine Sw ?_ ?_|intro h)
 ·exact ⟨_,[_],_,by omega,⟨k+1,rfl,rfl,rfl,by omega⟩,rfl,subO_one (by have:=mkC_at (encTest true) [.string ⟨#[]⟩,.string ⟨#[]⟩] 2 (fun _=>rfl) rfl l k h;simp only [go_sem,Nat.mul_one] at this ⊢;exact this.symm)⟩
 ·refine AW.made 2 rfl h hk (fun _=>rfl) ?_
  all_goals exact uU
instance eqStep_i(L:Nat→Nat)[hL:Lok L](x:Dt.GStep):Ctr L Tryz.prog 236 [] [.agg [.str x.fName,.sl false 2 (x.fTests.map (encTest false))],.agg [.str x.fName,.sl false 2 (x.fTests.map (encTest false))]] (.v (.bool true)) [] True:=by
 refine Ctr.of_body en236 Tryz.func236 rfl rfl fun hp=>(?_);rw [Tryz.ntmps236]
 all_goals exact uU
instance eqStepS_i(L:Nat→Nat)[hL:Lok L](l:List Dt.GStep):Ctr L Tryz.prog 211 [] [.sl false 2 (l.map (encStep false)),.sl false 2 (l.map (encStep false))] (.v (.bool true)) [] True:=by
 refine Ctr.of_body en211 Tryz.func211 rfl rfl fun hp=>(?_);rw [Tryz.ntmps211]
 refine AW.fact 0 fun hf=>?_
 simp (disch:=omega) only [go_sem,Nat.reduceBEq] at hf
 have hf:=Nat.le_trans hf (hL.le 2)
 (refine vU ?_;with_reducible repeat' first|exact Le.l|refine Sw ?_ ?_|intro h)
 refine AW.loopV [5] [0,1] (fun m xs o=>∃ k:Nat,xs=[.v (.int .i64 k)]∧o=[]∧m=l.length - k∧k≤l.length) l.length [] trivial ⟨0,?_,rfl,rfl,?_⟩ ?_
 ·rfl
 ·omega
 rintro m xs o ⟨k,rfl,rfl,rfl,hk⟩
 (refine vU ?_;with_reducible repeat' first|exact Le.l|refine Sw ?_ ?_|intro h)
 exact ⟨_,[_],[],by omega,⟨k+1,rfl,rfl,rfl,by omega⟩,rfl,trivial⟩
instance szStep_i(L:Nat→Nat)[hL:Lok L](x:Dt.GStep)(r:Int):Ctr L Tryz.prog 233 [] [.agg [.str x.fName,.sl false 2 (x.fTests.map (encTest false))],.v (.int .i64 r)] (.v (.int .i64 (szStep x r))) [] (0≤r∧r≤1048576):=by
 refine Ctr.of_body en233 Tryz.func233 rfl rfl fun hp=>(?_);rw [Tryz.ntmps233]
 refine AW.fact 0 fun hf=>?_
 simp (disch:=omega) only [go_sem,Nat.reduceBEq] at hf
 have le1:=szSl_le szTest szTest_le x.fTests (r - x.fName.length)
 unfold szStep
 ((refine vU ?_;with_reducible repeat' first|exact Le.l|refine Sw ?_ ?_|intro h);all_goals simp only [thn,szStr,id];all_goals refine congrArg (fun z=>AV.v (.int .i64 z)) ?_;all_goals (repeat' split);all_goals omega)
instance szStepS_i(L:Nat→Nat)[hL:Lok L](l:List Dt.GStep)(r:Int):Ctr L Tryz.prog 205 [] [.sl false 2 (l.map (encStep false)),.v (.int .i64 r)] (.v (.int .i64 (szSl szStep l r))) [] (0≤r∧r≤1048576):=by
 refine Ctr.of_body en205 Tryz.func205 rfl rfl fun hp=>(?_);rw [Tryz.ntmps205]
 refine AW.fact 0 fun hf=>?_
 simp (disch:=omega) only [go_sem,Nat.reduceBEq] at hf
 have hf:=Nat.le_trans hf (hL.le 2)
 (refine vU ?_;with_reducible repeat' first|exact Le.l|refine Sw ?_ ?_|intro h)
 ·rw [szSl_neg h]
 rw [szSl_pos h]
 refine AW.loopV [1,5] [0] (fun m xs o=>∃ (k:Nat) (q:Int),xs=[.v (.int .i64 q),.v (.int .i64 k)]∧o=[]∧m=l.length - k∧k≤l.length∧0≤q∧q≤1048576∧szGo szStep (l.drop k) q=szGo szStep l (r - l.length)) l.length [] trivial ⟨0,_,?_,rfl,rfl,?_,?_,?_,rfl⟩ ?_
 ·rfl
 ·omega
 ·omega
 ·omega
 rintro m xs o ⟨k,q,rfl,rfl,rfl,hk,h0,h1,hR⟩
 have hle:=szStep_le (at_ l k) q h0
 (refine vU ?_;with_reducible repeat' first|exact Le.l|refine Sw ?_ ?_|intro h)
 ·rw [szGo_at (by assumption),if_pos (by first|exact h|(rw [hsz];exact h))] at hR;rw [hR]
 ·rw [szGo_at (by assumption),if_neg (by omega)] at hR
  exact ⟨_,[_,_],[],by omega,⟨k+1,_,rfl,rfl,rfl,by omega,by omega,by omega,hR⟩,rfl,trivial⟩
 ·rw [szGo_end h] at hR;rw [hR]
instance toStep_i(x:Dt.GStep):Ctr lim Tryz.prog 234 [] [.agg [.str x.fName,.sl false 2 (x.fTests.map (encTest false))]] (.agg [.str x.fName,.sl true 2 (x.fTests.map (encTest true))]) [] True:=by
 refine Ctr.of_body en234 Tryz.func234 rfl rfl fun hp=>(?_);rw [Tryz.ntmps234]
 all_goals exact uU
instance toStepS_i(l:List Dt.GStep):Ctr lim Tryz.prog 206 [] [.sl false 2 (l.map (encStep false))] (.sl true 2 (l.map (encStep true))) [] True:=by
 refine Ctr.of_body en206 Tryz.func206 rfl rfl fun hp=>(?_);rw [Tryz.ntmps206]
 refine AW.fact 0 fun hf=>?_
 simp (disch:=omega) only [go_sem,Nat.reduceBEq] at hf
 (refine vU ?_;with_reducible repeat' first|exact Le.l|refine Sw ?_ ?_|intro h)
 refine AW.loopV [4] [0,3] (fun m xs o=>∃ k:Nat,xs=[.v (.int .i64 k)]∧o=[(h,some (mkC (encStep true) [.string ⟨#[]⟩,.slice none 0 0] l k))]∧m=l.length - k∧k≤l.length) l.length [(h,some (mkC (encStep true) [.string ⟨#[]⟩,.slice none 0 0] l 0))] (subO_one (mkC_zero _ _ _)) ⟨0,?_,rfl,rfl,?_⟩ ?_
 ·rfl
 ·omega
 rintro m xs o ⟨k,rfl,rfl,rfl,hk⟩
 have hml:=mkC_len (encStep true) [.string ⟨#[]⟩,.slice none 0 0] 2 (fun _=>rfl) rfl l k hk
 (refine vX ?_;with_reducible repeat' first|exact Le.l|refine Sw ?_ ?_|intro h)
 ·exact ⟨_,[_],_,by omega,⟨k+1,rfl,rfl,rfl,by omega⟩,rfl,subO_one (by have:=mkC_at (encStep true) [.string ⟨#[]⟩,.slice none 0 0] 2 (fun _=>rfl) rfl l k h;simp only [go_sem,Nat.mul_one] at this ⊢;exact this.symm)⟩
 ·refine AW.made 2 rfl h hk (fun _=>rfl) ?_
  all_goals exact uU
instance eqPath_i(L:Nat→Nat)[hL:Lok L](x:GPath):Ctr L Tryz.prog 184 [] [.agg [.v (.bool x.fRoot),.v (.int .i64 x.fUps),.sl false 2 (x.fSteps.map (encStep false))],.agg [.v (.bool x.fRoot),.v (.int .i64 x.fUps),.sl false 2 (x.fSteps.map (encStep false))]] (.v (.bool true)) [] True:=by
 refine Ctr.of_body en184 Tryz.func184 rfl rfl fun hp=>(?_);rw [Tryz.ntmps184]
 all_goals exact uU
instance szPath_i(L:Nat→Nat)[hL:Lok L](x:GPath)(r:Int):Ctr L Tryz.prog 176 [] [.agg [.v (.bool x.fRoot),.v (.int .i64 x.fUps),.sl false 2 (x.fSteps.map (encStep false))],.v (.int .i64 r)] (.v (.int .i64 (szPath x r))) [] (0≤r∧r≤1048576):=by
 refine Ctr.of_body en176 Tryz.func176 rfl rfl fun hp=>(?_);rw [Tryz.ntmps176]
 refine AW.fact 0 fun hf=>?_
 simp (disch:=omega) only [go_sem,Nat.reduceBEq] at hf
 have le0:=szSl_le szStep szStep_le x.fSteps r
 unfold szPath
 ((refine vU ?_;with_reducible repeat' first|exact Le.l|refine Sw ?_ ?_|intro h);all_goals simp only [thn,szStr,id];all_goals refine congrArg (fun z=>AV.v (.int .i64 z)) ?_;all_goals (repeat' split);all_goals omega)
instance toPath_i(x:GPath):Ctr lim Tryz.prog 178 [] [.agg [.v (.bool x.fRoot),.v (.int .i64 x.fUps),.sl false 2 (x.fSteps.map (encStep false))]] (.agg [.v (.bool x.fRoot),.v (.int .i64 x.fUps),.sl true 2 (x.fSteps.map (encStep true))]) [] True:=by
 refine Ctr.of_body en178 Tryz.func178 rfl rfl fun hp=>(?_);rw [Tryz.ntmps178]
 all_goals exact uU
theorem GExpr.kids_lt{x:GExpr}{l:List GExpr}(h:x∈l):SizeOf.sizeOf x.fKids<SizeOf.sizeOf l:=by
 have:=List.sizeOf_lt_of_mem h
 cases x;simp [GExpr.fKids] at *;omega
theorem eqExpr_n(L:Nat→Nat)[hL:Lok L](n:Nat)(ih:∀ l:List GExpr,Ctr L Tryz.prog 123 [] [.sl false 7 (l.map (encExpr false)),.sl false 7 (l.map (encExpr false))] (.v (.bool true)) [] (SizeOf.sizeOf l<n))(x:GExpr):Ctr L Tryz.prog 159 [] [.agg [.v (.int .i64 x.fOp),.v (.int .i64 x.fNum),.str x.fText,.v (.bool x.fPath.fRoot),.v (.int .i64 x.fPath.fUps),.sl false 2 (x.fPath.fSteps.map (encStep false)),.sl false 7 (x.fKids.map (encExpr false))],.agg [.v (.int .i64 x.fOp),.v (.int .i64 x.fNum),.str x.fText,.v (.bool x.fPath.fRoot),.v (.int .i64 x.fPath.fUps),.sl false 2 (x.fPath.fSteps.map (encStep false)),.sl false 7 (x.fKids.map (encExpr false))]] (.v (.bool true)) [] (SizeOf.sizeOf x.fKids<n):=by
 refine Ctr.of_body en159 Tryz.func159 rfl rfl fun hp=>(?_);rw [Tryz.ntmps159]
 all_goals exact uU
theorem eqExprS_n(L:Nat→Nat)[hL:Lok L]:∀ (n:Nat) (l:List GExpr),Ctr L Tryz.prog 123 [] [.sl false 7 (l.map (encExpr false)),.sl false 7 (l.map (encExpr false))] (.v (.bool true)) [] (SizeOf.sizeOf l<n)
 | 0,l=>⟨en123,fun h=>absurd h (Nat.not_lt_zero _)⟩
 | n+1,l=>by
  have hx:=eqExpr_n L n (eqExprS_n L n)
  refine Ctr.of_body en123 Tryz.func123 rfl rfl fun hp=>(?_);rw [Tryz.ntmps123]
  refine AW.fact 0 fun hf=>?_
  simp (disch:=omega) only [go_sem,Nat.reduceBEq] at hf
  have hf:=Nat.le_trans hf (hL.le 7)
  (refine vU ?_;with_reducible repeat' first|exact Le.l|refine Sw ?_ ?_|intro h)
  refine AW.loopV [5] [0,1] (fun m xs o=>∃ k:Nat,xs=[.v (.int .i64 k)]∧o=[]∧m=l.length - k∧k≤l.length) l.length [] trivial ⟨0,?_,rfl,rfl,?_⟩ ?_
  ·rfl
  ·omega
  rintro m xs o ⟨k,rfl,rfl,rfl,hk⟩
  have hkk:k<l.length→SizeOf.sizeOf (at_ l k).fKids<n:=fun h=>by have:=GExpr.kids_lt (at_mem h);omega
  (refine vU ?_;with_reducible repeat' first|exact Le.l|refine Sw ?_ ?_|intro h)
  exact ⟨_,[_],[],by omega,⟨k+1,rfl,rfl,rfl,by omega⟩,rfl,trivial⟩
instance eqExprS_i(L:Nat→Nat)[hL:Lok L](l:List GExpr):Ctr L Tryz.prog 123 [] [.sl false 7 (l.map (encExpr false)),.sl false 7 (l.map (encExpr false))] (.v (.bool true)) [] True:=⟨en123,fun _=>(eqExprS_n L (SizeOf.sizeOf l+1) l).out (Nat.lt_succ_self _)⟩
theorem szExpr_n(L:Nat→Nat)[hL:Lok L](n:Nat)(ih:∀ (l:List GExpr) (r:Int),Ctr L Tryz.prog 111 [] [.sl false 7 (l.map (encExpr false)),.v (.int .i64 r)] (.v (.int .i64 (szSl szExpr l r))) [] (SizeOf.sizeOf l<n∧0≤r∧r≤1048576))(x:GExpr)(r:Int):Ctr L Tryz.prog 145 [] [.agg [.v (.int .i64 x.fOp),.v (.int .i64 x.fNum),.str x.fText,.v (.bool x.fPath.fRoot),.v (.int .i64 x.fPath.fUps),.sl false 2 (x.fPath.fSteps.map (encStep false)),.sl false 7 (x.fKids.map (encExpr false))],.v (.int .i64 r)] (.v (.int .i64 (szExpr x r))) [] (SizeOf.sizeOf x.fKids<n∧0≤r∧r≤1048576):=by
 refine Ctr.of_body en145 Tryz.func145 rfl rfl fun hp=>(?_);rw [Tryz.ntmps145]
 refine AW.fact 0 fun hf=>?_
 simp (disch:=omega) only [go_sem,Nat.reduceBEq] at hf
 have le1:=szPath_le x.fPath (r - x.fText.length)
 have le2:=szSl_le szExpr szExpr_le x.fKids (szPath x.fPath (r - x.fText.length))
 rw [szExpr_eq]
 ((refine vU ?_;with_reducible repeat' first|exact Le.l|refine Sw ?_ ?_|intro h);all_goals simp only [thn,szStr,id];all_goals refine congrArg (fun z=>AV.v (.int .i64 z)) ?_;all_goals (repeat' split);all_goals omega)
theorem szExprS_n(L:Nat→Nat)[hL:Lok L]:∀ (n:Nat) (l:List GExpr) (r:Int),Ctr L Tryz.prog 111 [] [.sl false 7 (l.map (encExpr false)),.v (.int .i64 r)] (.v (.int .i64 (szSl szExpr l r))) [] (SizeOf.sizeOf l<n∧0≤r∧r≤1048576)
 | 0,l,r=>⟨en111,fun h=>absurd h.1 (Nat.not_lt_zero _)⟩
 | n+1,l,r=>by
  have hx:=szExpr_n L n (szExprS_n L n)
  refine Ctr.of_body en111 Tryz.func111 rfl rfl fun hp=>(?_);rw [Tryz.ntmps111]
  refine AW.fact 0 fun hf=>?_
  simp (disch:=omega) only [go_sem,Nat.reduceBEq] at hf
  have hf:=Nat.le_trans hf (hL.le 7)
  (refine vU ?_;with_reducible repeat' first|exact Le.l|refine Sw ?_ ?_|intro h)
  ·rw [szSl_neg h]
  rw [szSl_pos h]
  refine AW.loopV [1,5] [0] (fun m xs o=>∃ (k:Nat) (q:Int),xs=[.v (.int .i64 q),.v (.int .i64 k)]∧o=[]∧m=l.length - k∧k≤l.length∧0≤q∧q≤1048576∧szGo szExpr (l.drop k) q=szGo szExpr l (r - l.length)) l.length [] trivial ⟨0,_,?_,rfl,rfl,?_,?_,?_,rfl⟩ ?_
  ·rfl
  ·omega
  ·omega
  ·omega
  rintro m xs o ⟨k,q,rfl,rfl,rfl,hk,h0,h1,hR⟩
  have hle:=szExpr_le (at_ l k) q h0
  have hkk:k<l.length→SizeOf.sizeOf (at_ l k).fKids<n:=fun h=>by have:=GExpr.kids_lt (at_mem h);omega
  (refine vU ?_;with_reducible repeat' first|exact Le.l|refine Sw ?_ ?_|intro h)
  ·rw [szGo_at (by assumption),if_pos (by first|exact h|(rw [hsz];exact h))] at hR;rw [hR]
  ·rw [szGo_at (by assumption),if_neg (by omega)] at hR
   exact ⟨_,[_,_],[],by omega,⟨k+1,_,rfl,rfl,rfl,by omega,by omega,by omega,hR⟩,rfl,trivial⟩
  ·rw [szGo_end h] at hR;rw [hR]
instance szExprS_i(L:Nat→Nat)[hL:Lok L](l:List GExpr)(r:Int):Ctr L Tryz.prog 111 [] [.sl false 7 (l.map (encExpr false)),.v (.int .i64 r)] (.v (.int .i64 (szSl szExpr l r))) [] (0≤r∧r≤1048576):=⟨en111,fun h=>(szExprS_n L (SizeOf.sizeOf l+1) l r).out ⟨Nat.lt_succ_self _,h⟩⟩
theorem toExpr_n(n:Nat)(ih:∀ l:List GExpr,Ctr lim Tryz.prog 115 [] [.sl false 7 (l.map (encExpr false))] (.sl true 7 (l.map (encExpr true))) [] (SizeOf.sizeOf l<n))(x:GExpr):Ctr lim Tryz.prog 149 [] [.agg [.v (.int .i64 x.fOp),.v (.int .i64 x.fNum),.str x.fText,.v (.bool x.fPath.fRoot),.v (.int .i64 x.fPath.fUps),.sl false 2 (x.fPath.fSteps.map (encStep false)),.sl false 7 (x.fKids.map (encExpr false))]] (.agg [.v (.int .i64 x.fOp),.v (.int .i64 x.fNum),.str x.fText,.v (.bool x.fPath.fRoot),.v (.int .i64 x.fPath.fUps),.sl true 2 (x.fPath.fSteps.map (encStep true)),.sl true 7 (x.fKids.map (encExpr true))]) [] (SizeOf.sizeOf x.fKids<n):=by
 refine Ctr.of_body en149 Tryz.func149 rfl rfl fun hp=>(?_);rw [Tryz.ntmps149]
 all_goals exact uU
theorem toExprS_n:∀ (n:Nat) (l:List GExpr),Ctr lim Tryz.prog 115 [] [.sl false 7 (l.map (encExpr false))] (.sl true 7 (l.map (encExpr true))) [] (SizeOf.sizeOf l<n)
 | 0,l=>⟨en115,fun h=>absurd h (Nat.not_lt_zero _)⟩
 | n+1,l=>by
  have hx:=toExpr_n n (toExprS_n n)
  refine Ctr.of_body en115 Tryz.func115 rfl rfl fun hp=>(?_);rw [Tryz.ntmps115]
  refine AW.fact 0 fun hf=>?_
  simp (disch:=omega) only [go_sem,Nat.reduceBEq] at hf
  (refine vU ?_;with_reducible repeat' first|exact Le.l|refine Sw ?_ ?_|intro h)
  refine AW.loopV [4] [0,3] (fun m xs o=>∃ k:Nat,xs=[.v (.int .i64 k)]∧o=[(h,some (mkC (encExpr true) [.int .i64 0,.int .i64 0,.string ⟨#[]⟩,.bool false,.int .i64 0,.slice none 0 0,.slice none 0 0] l k))]∧m=l.length - k∧k≤l.length) l.length [(h,some (mkC (encExpr true) [.int .i64 0,.int .i64 0,.string ⟨#[]⟩,.bool false,.int .i64 0,.slice none 0 0,.slice none 0 0] l 0))] (subO_one (mkC_zero _ _ _)) ⟨0,?_,rfl,rfl,?_⟩ ?_
  ·rfl
  ·omega
  rintro m xs o ⟨k,rfl,rfl,rfl,hk⟩
  have hml:=mkC_len (encExpr true) [.int .i64 0,.int .i64 0,.string ⟨#[]⟩,.bool false,.int .i64 0,.slice none 0 0,.slice none 0 0] 7 (fun x=>by rw [encExpr_eq];rfl) rfl l k hk
  have hkk:k<l.length→SizeOf.sizeOf (at_ l k).fKids<n:=fun h=>by have:=GExpr.kids_lt (at_mem h);omega
  (refine vX ?_;with_reducible repeat' first|exact Le.l|refine Sw ?_ ?_|intro h)
  ·exact ⟨_,[_],_,by omega,⟨k+1,rfl,rfl,rfl,by omega⟩,rfl,subO_one (by have:=mkC_at (encExpr true) [.int .i64 0,.int .i64 0,.string ⟨#[]⟩,.bool false,.int .i64 0,.slice none 0 0,.slice none 0 0] 7 (fun x=>by rw [encExpr_eq];rfl) rfl l k h;simp only [go_sem,Nat.mul_one] at this ⊢;exact this.symm)⟩
  ·refine AW.made 2 rfl h hk (fun x=>by rw [encExpr_eq];rfl) ?_
   all_goals exact uU
instance toExprS_i(l:List GExpr):Ctr lim Tryz.prog 115 [] [.sl false 7 (l.map (encExpr false))] (.sl true 7 (l.map (encExpr true))) [] True:=⟨en115,fun _=>(toExprS_n (SizeOf.sizeOf l+1) l).out (Nat.lt_succ_self _)⟩
theorem GSchema.kids_lt{x:GSchema}{l:List GSchema}(h:x∈l):SizeOf.sizeOf x.fKids<SizeOf.sizeOf l:=by
 have:=List.sizeOf_lt_of_mem h
 cases x;simp [GSchema.fKids] at *;omega
theorem eqSchema_n(L:Nat→Nat)[hL:Lok L](n:Nat)(ih:∀ l:List GSchema,Ctr L Tryz.prog 29 [] [.sl false 19 (l.map (encSchema false)),.sl false 19 (l.map (encSchema false))] (.v (.bool true)) [] (SizeOf.sizeOf l<n))(x:GSchema):Ctr L Tryz.prog 72 [] [.agg [.v (.int .i64 x.fKind),.str x.fName,.v (.int .i64 x.fType.fKind),.sl false 2 (x.fType.fRanges.map (encRange false)),.sl false 1 (x.fType.fNames.map AV.str),.str x.fType.fPattern,.str x.fType.fPath,.sl false 1 (x.fKeys.map AV.str),.sl false 1 (x.fUnique.map AV.str),.str x.fDefault,.v (.bool x.fGiven),.v (.bool x.fNeeded),.v (.bool x.fPresent),.v (.bool x.fFixed),.v (.int .i64 x.fMin),.v (.int .i64 x.fMax),.sl false 7 (x.fWhen.map (encExpr false)),.sl false 7 (x.fMust.map (encExpr false)),.sl false 19 (x.fKids.map (encSchema false))],.agg [.v (.int .i64 x.fKind),.str x.fName,.v (.int .i64 x.fType.fKind),.sl false 2 (x.fType.fRanges.map (encRange false)),.sl false 1 (x.fType.fNames.map AV.str),.str x.fType.fPattern,.str x.fType.fPath,.sl false 1 (x.fKeys.map AV.str),.sl false 1 (x.fUnique.map AV.str),.str x.fDefault,.v (.bool x.fGiven),.v (.bool x.fNeeded),.v (.bool x.fPresent),.v (.bool x.fFixed),.v (.int .i64 x.fMin),.v (.int .i64 x.fMax),.sl false 7 (x.fWhen.map (encExpr false)),.sl false 7 (x.fMust.map (encExpr false)),.sl false 19 (x.fKids.map (encSchema false))]] (.v (.bool true)) [] (SizeOf.sizeOf x.fKids<n):=by
 refine Ctr.of_body en72 Tryz.func72 rfl rfl fun hp=>(?_);rw [Tryz.ntmps72]
 all_goals exact uU
theorem eqSchemaS_n(L:Nat→Nat)[hL:Lok L]:∀ (n:Nat) (l:List GSchema),Ctr L Tryz.prog 29 [] [.sl false 19 (l.map (encSchema false)),.sl false 19 (l.map (encSchema false))] (.v (.bool true)) [] (SizeOf.sizeOf l<n)
 | 0,l=>⟨en29,fun h=>absurd h (Nat.not_lt_zero _)⟩
 | n+1,l=>by
  have hx:=eqSchema_n L n (eqSchemaS_n L n)
  refine Ctr.of_body en29 Tryz.func29 rfl rfl fun hp=>(?_);rw [Tryz.ntmps29]
  refine AW.fact 0 fun hf=>?_
  simp (disch:=omega) only [go_sem,Nat.reduceBEq] at hf
  have hf:=Nat.le_trans hf (hL.le 19)
  (refine vU ?_;with_reducible repeat' first|exact Le.l|refine Sw ?_ ?_|intro h)
  refine AW.loopV [5] [0,1] (fun m xs o=>∃ k:Nat,xs=[.v (.int .i64 k)]∧o=[]∧m=l.length - k∧k≤l.length) l.length [] trivial ⟨0,?_,rfl,rfl,?_⟩ ?_
  ·rfl
  ·omega
  rintro m xs o ⟨k,rfl,rfl,rfl,hk⟩
  have hkk:k<l.length→SizeOf.sizeOf (at_ l k).fKids<n:=fun h=>by have:=GSchema.kids_lt (at_mem h);omega
  (refine vU ?_;with_reducible repeat' first|exact Le.l|refine Sw ?_ ?_|intro h)
  exact ⟨_,[_],[],by omega,⟨k+1,rfl,rfl,rfl,by omega⟩,rfl,trivial⟩
instance eqSchemaS_i(L:Nat→Nat)[hL:Lok L](l:List GSchema):Ctr L Tryz.prog 29 [] [.sl false 19 (l.map (encSchema false)),.sl false 19 (l.map (encSchema false))] (.v (.bool true)) [] True:=⟨en29,fun _=>(eqSchemaS_n L (SizeOf.sizeOf l+1) l).out (Nat.lt_succ_self _)⟩
theorem szSchema_n(L:Nat→Nat)[hL:Lok L](n:Nat)(ih:∀ (l:List GSchema) (r:Int),Ctr L Tryz.prog 22 [] [.sl false 19 (l.map (encSchema false)),.v (.int .i64 r)] (.v (.int .i64 (szSl szSchema l r))) [] (SizeOf.sizeOf l<n∧0≤r∧r≤1048576))(x:GSchema)(r:Int):Ctr L Tryz.prog 58 [] [.agg [.v (.int .i64 x.fKind),.str x.fName,.v (.int .i64 x.fType.fKind),.sl false 2 (x.fType.fRanges.map (encRange false)),.sl false 1 (x.fType.fNames.map AV.str),.str x.fType.fPattern,.str x.fType.fPath,.sl false 1 (x.fKeys.map AV.str),.sl false 1 (x.fUnique.map AV.str),.str x.fDefault,.v (.bool x.fGiven),.v (.bool x.fNeeded),.v (.bool x.fPresent),.v (.bool x.fFixed),.v (.int .i64 x.fMin),.v (.int .i64 x.fMax),.sl false 7 (x.fWhen.map (encExpr false)),.sl false 7 (x.fMust.map (encExpr false)),.sl false 19 (x.fKids.map (encSchema false))],.v (.int .i64 r)] (.v (.int .i64 (szSchema x r))) [] (SizeOf.sizeOf x.fKids<n∧0≤r∧r≤1048576):=by
 refine Ctr.of_body en58 Tryz.func58 rfl rfl fun hp=>(?_);rw [Tryz.ntmps58]
 refine AW.fact 0 fun hf=>?_
 simp (disch:=omega) only [go_sem,Nat.reduceBEq] at hf
 have le1:=szType_le x.fType (r - x.fName.length)
 have le2:=szSl_le szStr szStr_le x.fKeys (szType x.fType (r - x.fName.length))
 have le3:=szSl_le szStr szStr_le x.fUnique (szSl szStr x.fKeys (szType x.fType (r - x.fName.length)))
 have le5:=szSl_le szExpr szExpr_le x.fWhen ((szSl szStr x.fUnique (szSl szStr x.fKeys (szType x.fType (r - x.fName.length)))) - x.fDefault.length)
 have le6:=szSl_le szExpr szExpr_le x.fMust (szSl szExpr x.fWhen ((szSl szStr x.fUnique (szSl szStr x.fKeys (szType x.fType (r - x.fName.length)))) - x.fDefault.length))
 have le7:=szSl_le szSchema szSchema_le x.fKids (szSl szExpr x.fMust (szSl szExpr x.fWhen ((szSl szStr x.fUnique (szSl szStr x.fKeys (szType x.fType (r - x.fName.length)))) - x.fDefault.length)))
 rw [szSchema_eq]
 ((refine vU ?_;with_reducible repeat' first|exact Le.l|refine Sw ?_ ?_|intro h);all_goals simp only [thn,szStr,id];all_goals refine congrArg (fun z=>AV.v (.int .i64 z)) ?_;all_goals (repeat' split);all_goals omega)
theorem szSchemaS_n(L:Nat→Nat)[hL:Lok L]:∀ (n:Nat) (l:List GSchema) (r:Int),Ctr L Tryz.prog 22 [] [.sl false 19 (l.map (encSchema false)),.v (.int .i64 r)] (.v (.int .i64 (szSl szSchema l r))) [] (SizeOf.sizeOf l<n∧0≤r∧r≤1048576)
 | 0,l,r=>⟨en22,fun h=>absurd h.1 (Nat.not_lt_zero _)⟩
 | n+1,l,r=>by
  have hx:=szSchema_n L n (szSchemaS_n L n)
  refine Ctr.of_body en22 Tryz.func22 rfl rfl fun hp=>(?_);rw [Tryz.ntmps22]
  refine AW.fact 0 fun hf=>?_
  simp (disch:=omega) only [go_sem,Nat.reduceBEq] at hf
  have hf:=Nat.le_trans hf (hL.le 19)
  (refine vU ?_;with_reducible repeat' first|exact Le.l|refine Sw ?_ ?_|intro h)
  ·rw [szSl_neg h]
  rw [szSl_pos h]
  refine AW.loopV [1,5] [0] (fun m xs o=>∃ (k:Nat) (q:Int),xs=[.v (.int .i64 q),.v (.int .i64 k)]∧o=[]∧m=l.length - k∧k≤l.length∧0≤q∧q≤1048576∧szGo szSchema (l.drop k) q=szGo szSchema l (r - l.length)) l.length [] trivial ⟨0,_,?_,rfl,rfl,?_,?_,?_,rfl⟩ ?_
  ·rfl
  ·omega
  ·omega
  ·omega
  rintro m xs o ⟨k,q,rfl,rfl,rfl,hk,h0,h1,hR⟩
  have hle:=szSchema_le (at_ l k) q h0
  have hkk:k<l.length→SizeOf.sizeOf (at_ l k).fKids<n:=fun h=>by have:=GSchema.kids_lt (at_mem h);omega
  (refine vU ?_;with_reducible repeat' first|exact Le.l|refine Sw ?_ ?_|intro h)
  ·rw [szGo_at (by assumption),if_pos (by first|exact h|(rw [hsz];exact h))] at hR;rw [hR]
  ·rw [szGo_at (by assumption),if_neg (by omega)] at hR
   exact ⟨_,[_,_],[],by omega,⟨k+1,_,rfl,rfl,rfl,by omega,by omega,by omega,hR⟩,rfl,trivial⟩
  ·rw [szGo_end h] at hR;rw [hR]
instance szSchemaS_i(L:Nat→Nat)[hL:Lok L](l:List GSchema)(r:Int):Ctr L Tryz.prog 22 [] [.sl false 19 (l.map (encSchema false)),.v (.int .i64 r)] (.v (.int .i64 (szSl szSchema l r))) [] (0≤r∧r≤1048576):=⟨en22,fun h=>(szSchemaS_n L (SizeOf.sizeOf l+1) l r).out ⟨Nat.lt_succ_self _,h⟩⟩
theorem toSchema_n(n:Nat)(ih:∀ l:List GSchema,Ctr lim Tryz.prog 25 [] [.sl false 19 (l.map (encSchema false))] (.sl true 19 (l.map (encSchema true))) [] (SizeOf.sizeOf l<n))(x:GSchema):Ctr lim Tryz.prog 63 [] [.agg [.v (.int .i64 x.fKind),.str x.fName,.v (.int .i64 x.fType.fKind),.sl false 2 (x.fType.fRanges.map (encRange false)),.sl false 1 (x.fType.fNames.map AV.str),.str x.fType.fPattern,.str x.fType.fPath,.sl false 1 (x.fKeys.map AV.str),.sl false 1 (x.fUnique.map AV.str),.str x.fDefault,.v (.bool x.fGiven),.v (.bool x.fNeeded),.v (.bool x.fPresent),.v (.bool x.fFixed),.v (.int .i64 x.fMin),.v (.int .i64 x.fMax),.sl false 7 (x.fWhen.map (encExpr false)),.sl false 7 (x.fMust.map (encExpr false)),.sl false 19 (x.fKids.map (encSchema false))]] (.agg [.v (.int .i64 x.fKind),.str x.fName,.v (.int .i64 x.fType.fKind),.sl true 2 (x.fType.fRanges.map (encRange true)),.sl true 1 (x.fType.fNames.map AV.str),.str x.fType.fPattern,.str x.fType.fPath,.sl true 1 (x.fKeys.map AV.str),.sl true 1 (x.fUnique.map AV.str),.str x.fDefault,.v (.bool x.fGiven),.v (.bool x.fNeeded),.v (.bool x.fPresent),.v (.bool x.fFixed),.v (.int .i64 x.fMin),.v (.int .i64 x.fMax),.sl true 7 (x.fWhen.map (encExpr true)),.sl true 7 (x.fMust.map (encExpr true)),.sl true 19 (x.fKids.map (encSchema true))]) [] (SizeOf.sizeOf x.fKids<n):=by
 refine Ctr.of_body en63 Tryz.func63 rfl rfl fun hp=>(?_);rw [Tryz.ntmps63]
 all_goals exact uU
theorem toSchemaS_n:∀ (n:Nat) (l:List GSchema),Ctr lim Tryz.prog 25 [] [.sl false 19 (l.map (encSchema false))] (.sl true 19 (l.map (encSchema true))) [] (SizeOf.sizeOf l<n)
 | 0,l=>⟨en25,fun h=>absurd h (Nat.not_lt_zero _)⟩
 | n+1,l=>by
  have hx:=toSchema_n n (toSchemaS_n n)
  refine Ctr.of_body en25 Tryz.func25 rfl rfl fun hp=>(?_);rw [Tryz.ntmps25]
  refine AW.fact 0 fun hf=>?_
  simp (disch:=omega) only [go_sem,Nat.reduceBEq] at hf
  (refine vU ?_;with_reducible repeat' first|exact Le.l|refine Sw ?_ ?_|intro h)
  refine AW.loopV [4] [0,3] (fun m xs o=>∃ k:Nat,xs=[.v (.int .i64 k)]∧o=[(h,some (mkC (encSchema true) [.int .i64 0,.string ⟨#[]⟩,.int .i64 0,.slice none 0 0,.slice none 0 0,.string ⟨#[]⟩,.string ⟨#[]⟩,.slice none 0 0,.slice none 0 0,.string ⟨#[]⟩,.bool false,.bool false,.bool false,.bool false,.int .i64 0,.int .i64 0,.slice none 0 0,.slice none 0 0,.slice none 0 0] l k))]∧m=l.length - k∧k≤l.length) l.length [(h,some (mkC (encSchema true) [.int .i64 0,.string ⟨#[]⟩,.int .i64 0,.slice none 0 0,.slice none 0 0,.string ⟨#[]⟩,.string ⟨#[]⟩,.slice none 0 0,.slice none 0 0,.string ⟨#[]⟩,.bool false,.bool false,.bool false,.bool false,.int .i64 0,.int .i64 0,.slice none 0 0,.slice none 0 0,.slice none 0 0] l 0))] (subO_one (mkC_zero _ _ _)) ⟨0,?_,rfl,rfl,?_⟩ ?_
  ·rfl
  ·omega
  rintro m xs o ⟨k,rfl,rfl,rfl,hk⟩
  have hml:=mkC_len (encSchema true) [.int .i64 0,.string ⟨#[]⟩,.int .i64 0,.slice none 0 0,.slice none 0 0,.string ⟨#[]⟩,.string ⟨#[]⟩,.slice none 0 0,.slice none 0 0,.string ⟨#[]⟩,.bool false,.bool false,.bool false,.bool false,.int .i64 0,.int .i64 0,.slice none 0 0,.slice none 0 0,.slice none 0 0] 19 (fun x=>by rw [encSchema_eq];rfl) rfl l k hk
  have hkk:k<l.length→SizeOf.sizeOf (at_ l k).fKids<n:=fun h=>by have:=GSchema.kids_lt (at_mem h);omega
  (refine vX ?_;with_reducible repeat' first|exact Le.l|refine Sw ?_ ?_|intro h)
  ·exact ⟨_,[_],_,by omega,⟨k+1,rfl,rfl,rfl,by omega⟩,rfl,subO_one (by have:=mkC_at (encSchema true) [.int .i64 0,.string ⟨#[]⟩,.int .i64 0,.slice none 0 0,.slice none 0 0,.string ⟨#[]⟩,.string ⟨#[]⟩,.slice none 0 0,.slice none 0 0,.string ⟨#[]⟩,.bool false,.bool false,.bool false,.bool false,.int .i64 0,.int .i64 0,.slice none 0 0,.slice none 0 0,.slice none 0 0] 19 (fun x=>by rw [encSchema_eq];rfl) rfl l k h;simp only [go_sem,Nat.mul_one] at this ⊢;exact this.symm)⟩
  ·refine AW.made 2 rfl h hk (fun x=>by rw [encSchema_eq];rfl) ?_
   all_goals exact uU
instance toSchemaS_i(l:List GSchema):Ctr lim Tryz.prog 25 [] [.sl false 19 (l.map (encSchema false))] (.sl true 19 (l.map (encSchema true))) [] True:=⟨en25,fun _=>(toSchemaS_n (SizeOf.sizeOf l+1) l).out (Nat.lt_succ_self _)⟩
instance eqVersion_i(L:Nat→Nat)[hL:Lok L](x:GVersion):Ctr L Tryz.prog 143 [] [.agg [.sl false 3 (x.fTree.map (encNode false)),.v (.int .i64 x.fBy),.v (.int .i64 x.fAt)],.agg [.sl false 3 (x.fTree.map (encNode false)),.v (.int .i64 x.fBy),.v (.int .i64 x.fAt)]] (.v (.bool true)) [] True:=by
 refine Ctr.of_body en143 Tryz.func143 rfl rfl fun hp=>(?_);rw [Tryz.ntmps143]
 all_goals exact uU
instance eqVersionS_i(L:Nat→Nat)[hL:Lok L](l:List GVersion):Ctr L Tryz.prog 106 [] [.sl false 3 (l.map (encVersion false)),.sl false 3 (l.map (encVersion false))] (.v (.bool true)) [] True:=by
 refine Ctr.of_body en106 Tryz.func106 rfl rfl fun hp=>(?_);rw [Tryz.ntmps106]
 refine AW.fact 0 fun hf=>?_
 simp (disch:=omega) only [go_sem,Nat.reduceBEq] at hf
 have hf:=Nat.le_trans hf (hL.le 3)
 (refine vU ?_;with_reducible repeat' first|exact Le.l|refine Sw ?_ ?_|intro h)
 refine AW.loopV [5] [0,1] (fun m xs o=>∃ k:Nat,xs=[.v (.int .i64 k)]∧o=[]∧m=l.length - k∧k≤l.length) l.length [] trivial ⟨0,?_,rfl,rfl,?_⟩ ?_
 ·rfl
 ·omega
 rintro m xs o ⟨k,rfl,rfl,rfl,hk⟩
 (refine vU ?_;with_reducible repeat' first|exact Le.l|refine Sw ?_ ?_|intro h)
 exact ⟨_,[_],[],by omega,⟨k+1,rfl,rfl,rfl,by omega⟩,rfl,trivial⟩
instance szVersion_i(L:Nat→Nat)[hL:Lok L](x:GVersion)(r:Int):Ctr L Tryz.prog 137 [] [.agg [.sl false 3 (x.fTree.map (encNode false)),.v (.int .i64 x.fBy),.v (.int .i64 x.fAt)],.v (.int .i64 r)] (.v (.int .i64 (szVersion x r))) [] (0≤r∧r≤1048576):=by
 refine Ctr.of_body en137 Tryz.func137 rfl rfl fun hp=>(?_);rw [Tryz.ntmps137]
 refine AW.fact 0 fun hf=>?_
 simp (disch:=omega) only [go_sem,Nat.reduceBEq] at hf
 have le0:=szSl_le szNode szNode_le x.fTree r
 unfold szVersion
 ((refine vU ?_;with_reducible repeat' first|exact Le.l|refine Sw ?_ ?_|intro h);all_goals simp only [thn,szStr,id];all_goals refine congrArg (fun z=>AV.v (.int .i64 z)) ?_;all_goals (repeat' split);all_goals omega)
instance szVersionS_i(L:Nat→Nat)[hL:Lok L](l:List GVersion)(r:Int):Ctr L Tryz.prog 101 [] [.sl false 3 (l.map (encVersion false)),.v (.int .i64 r)] (.v (.int .i64 (szSl szVersion l r))) [] (0≤r∧r≤1048576):=by
 refine Ctr.of_body en101 Tryz.func101 rfl rfl fun hp=>(?_);rw [Tryz.ntmps101]
 refine AW.fact 0 fun hf=>?_
 simp (disch:=omega) only [go_sem,Nat.reduceBEq] at hf
 have hf:=Nat.le_trans hf (hL.le 3)
 (refine vU ?_;with_reducible repeat' first|exact Le.l|refine Sw ?_ ?_|intro h)
 ·rw [szSl_neg h]
 rw [szSl_pos h]
 refine AW.loopV [1,5] [0] (fun m xs o=>∃ (k:Nat) (q:Int),xs=[.v (.int .i64 q),.v (.int .i64 k)]∧o=[]∧m=l.length - k∧k≤l.length∧0≤q∧q≤1048576∧szGo szVersion (l.drop k) q=szGo szVersion l (r - l.length)) l.length [] trivial ⟨0,_,?_,rfl,rfl,?_,?_,?_,rfl⟩ ?_
 ·rfl
 ·omega
 ·omega
 ·omega
 rintro m xs o ⟨k,q,rfl,rfl,rfl,hk,h0,h1,hR⟩
 have hle:=szVersion_le (at_ l k) q h0
 (refine vU ?_;with_reducible repeat' first|exact Le.l|refine Sw ?_ ?_|intro h)
 ·rw [szGo_at (by assumption),if_pos (by first|exact h|(rw [hsz];exact h))] at hR;rw [hR]
 ·rw [szGo_at (by assumption),if_neg (by omega)] at hR
  exact ⟨_,[_,_],[],by omega,⟨k+1,_,rfl,rfl,rfl,by omega,by omega,by omega,hR⟩,rfl,trivial⟩
 ·rw [szGo_end h] at hR;rw [hR]
instance toVersion_i(x:GVersion):Ctr lim Tryz.prog 142 [] [.agg [.sl false 3 (x.fTree.map (encNode false)),.v (.int .i64 x.fBy),.v (.int .i64 x.fAt)]] (.agg [.sl true 3 (x.fTree.map (encNode true)),.v (.int .i64 x.fBy),.v (.int .i64 x.fAt)]) [] True:=by
 refine Ctr.of_body en142 Tryz.func142 rfl rfl fun hp=>(?_);rw [Tryz.ntmps142]
 all_goals exact uU
instance toVersionS_i(l:List GVersion):Ctr lim Tryz.prog 104 [] [.sl false 3 (l.map (encVersion false))] (.sl true 3 (l.map (encVersion true))) [] True:=by
 refine Ctr.of_body en104 Tryz.func104 rfl rfl fun hp=>(?_);rw [Tryz.ntmps104]
 refine AW.fact 0 fun hf=>?_
 simp (disch:=omega) only [go_sem,Nat.reduceBEq] at hf
 (refine vU ?_;with_reducible repeat' first|exact Le.l|refine Sw ?_ ?_|intro h)
 refine AW.loopV [4] [0,3] (fun m xs o=>∃ k:Nat,xs=[.v (.int .i64 k)]∧o=[(h,some (mkC (encVersion true) [.slice none 0 0,.int .i64 0,.int .i64 0] l k))]∧m=l.length - k∧k≤l.length) l.length [(h,some (mkC (encVersion true) [.slice none 0 0,.int .i64 0,.int .i64 0] l 0))] (subO_one (mkC_zero _ _ _)) ⟨0,?_,rfl,rfl,?_⟩ ?_
 ·rfl
 ·omega
 rintro m xs o ⟨k,rfl,rfl,rfl,hk⟩
 have hml:=mkC_len (encVersion true) [.slice none 0 0,.int .i64 0,.int .i64 0] 3 (fun _=>rfl) rfl l k hk
 (refine vX ?_;with_reducible repeat' first|exact Le.l|refine Sw ?_ ?_|intro h)
 ·exact ⟨_,[_],_,by omega,⟨k+1,rfl,rfl,rfl,by omega⟩,rfl,subO_one (by have:=mkC_at (encVersion true) [.slice none 0 0,.int .i64 0,.int .i64 0] 3 (fun _=>rfl) rfl l k h;simp only [go_sem,Nat.mul_one] at this ⊢;exact this.symm)⟩
 ·refine AW.made 2 rfl h hk (fun _=>rfl) ?_
  all_goals exact uU
instance eqPending_i(L:Nat→Nat)[hL:Lok L](x:GPending):Ctr L Tryz.prog 107 [] [.agg [.v (.bool x.fOn),.v (.int .i64 x.fUntil),.v (.int .i64 x.fBy),.str x.fName,.sl false 3 (x.fBack.map (encNode false))],.agg [.v (.bool x.fOn),.v (.int .i64 x.fUntil),.v (.int .i64 x.fBy),.str x.fName,.sl false 3 (x.fBack.map (encNode false))]] (.v (.bool true)) [] True:=by
 refine Ctr.of_body en107 Tryz.func107 rfl rfl fun hp=>(?_);rw [Tryz.ntmps107]
 all_goals exact uU
instance szPending_i(L:Nat→Nat)[hL:Lok L](x:GPending)(r:Int):Ctr L Tryz.prog 102 [] [.agg [.v (.bool x.fOn),.v (.int .i64 x.fUntil),.v (.int .i64 x.fBy),.str x.fName,.sl false 3 (x.fBack.map (encNode false))],.v (.int .i64 r)] (.v (.int .i64 (szPending x r))) [] (0≤r∧r≤1048576):=by
 refine Ctr.of_body en102 Tryz.func102 rfl rfl fun hp=>(?_);rw [Tryz.ntmps102]
 refine AW.fact 0 fun hf=>?_
 simp (disch:=omega) only [go_sem,Nat.reduceBEq] at hf
 have le1:=szSl_le szNode szNode_le x.fBack (r - x.fName.length)
 unfold szPending
 ((refine vU ?_;with_reducible repeat' first|exact Le.l|refine Sw ?_ ?_|intro h);all_goals simp only [thn,szStr,id];all_goals refine congrArg (fun z=>AV.v (.int .i64 z)) ?_;all_goals (repeat' split);all_goals omega)
instance toPending_i(x:GPending):Ctr lim Tryz.prog 105 [] [.agg [.v (.bool x.fOn),.v (.int .i64 x.fUntil),.v (.int .i64 x.fBy),.str x.fName,.sl false 3 (x.fBack.map (encNode false))]] (.agg [.v (.bool x.fOn),.v (.int .i64 x.fUntil),.v (.int .i64 x.fBy),.str x.fName,.sl true 3 (x.fBack.map (encNode true))]) [] True:=by
 refine Ctr.of_body en105 Tryz.func105 rfl rfl fun hp=>(?_);rw [Tryz.ntmps105]
 all_goals exact uU
instance eqStore_i(L:Nat→Nat)[hL:Lok L](x:GStore):Ctr L Tryz.prog 54 [] [.agg [.sl false 19 (x.fSchema.map (encSchema false)),.sl false 3 (x.fRunning.map (encNode false)),.sl false 3 (x.fDraft.map (encNode false)),.v (.int .i64 x.fOwner),.sl false 3 (x.fPast.map (encVersion false)),.v (.bool x.fWait.fOn),.v (.int .i64 x.fWait.fUntil),.v (.int .i64 x.fWait.fBy),.str x.fWait.fName,.sl false 3 (x.fWait.fBack.map (encNode false))],.agg [.sl false 19 (x.fSchema.map (encSchema false)),.sl false 3 (x.fRunning.map (encNode false)),.sl false 3 (x.fDraft.map (encNode false)),.v (.int .i64 x.fOwner),.sl false 3 (x.fPast.map (encVersion false)),.v (.bool x.fWait.fOn),.v (.int .i64 x.fWait.fUntil),.v (.int .i64 x.fWait.fBy),.str x.fWait.fName,.sl false 3 (x.fWait.fBack.map (encNode false))]] (.v (.bool true)) [] True:=by
 refine Ctr.of_body en54 Tryz.func54 rfl rfl fun hp=>(?_);rw [Tryz.ntmps54]
 all_goals exact uU
instance szStore_i(L:Nat→Nat)[hL:Lok L](x:GStore)(r:Int):Ctr L Tryz.prog 47 [] [.agg [.sl false 19 (x.fSchema.map (encSchema false)),.sl false 3 (x.fRunning.map (encNode false)),.sl false 3 (x.fDraft.map (encNode false)),.v (.int .i64 x.fOwner),.sl false 3 (x.fPast.map (encVersion false)),.v (.bool x.fWait.fOn),.v (.int .i64 x.fWait.fUntil),.v (.int .i64 x.fWait.fBy),.str x.fWait.fName,.sl false 3 (x.fWait.fBack.map (encNode false))],.v (.int .i64 r)] (.v (.int .i64 (szStore x r))) [] (0≤r∧r≤1048576):=by
 refine Ctr.of_body en47 Tryz.func47 rfl rfl fun hp=>(?_);rw [Tryz.ntmps47]
 refine AW.fact 0 fun hf=>?_
 simp (disch:=omega) only [go_sem,Nat.reduceBEq] at hf
 have le0:=szSl_le szSchema szSchema_le x.fSchema r
 have le1:=szSl_le szNode szNode_le x.fRunning (szSl szSchema x.fSchema r)
 have le2:=szSl_le szNode szNode_le x.fDraft (szSl szNode x.fRunning (szSl szSchema x.fSchema r))
 have le3:=szSl_le szVersion szVersion_le x.fPast (szSl szNode x.fDraft (szSl szNode x.fRunning (szSl szSchema x.fSchema r)))
 have le4:=szPending_le x.fWait (szSl szVersion x.fPast (szSl szNode x.fDraft (szSl szNode x.fRunning (szSl szSchema x.fSchema r))))
 unfold szStore
 ((refine vU ?_;with_reducible repeat' first|exact Le.l|refine Sw ?_ ?_|intro h);all_goals simp only [thn,szStr,id];all_goals refine congrArg (fun z=>AV.v (.int .i64 z)) ?_;all_goals (repeat' split);all_goals omega)
instance toStore_i(x:GStore):Ctr lim Tryz.prog 50 [] [.agg [.sl false 19 (x.fSchema.map (encSchema false)),.sl false 3 (x.fRunning.map (encNode false)),.sl false 3 (x.fDraft.map (encNode false)),.v (.int .i64 x.fOwner),.sl false 3 (x.fPast.map (encVersion false)),.v (.bool x.fWait.fOn),.v (.int .i64 x.fWait.fUntil),.v (.int .i64 x.fWait.fBy),.str x.fWait.fName,.sl false 3 (x.fWait.fBack.map (encNode false))]] (.agg [.sl true 19 (x.fSchema.map (encSchema true)),.sl true 3 (x.fRunning.map (encNode true)),.sl true 3 (x.fDraft.map (encNode true)),.v (.int .i64 x.fOwner),.sl true 3 (x.fPast.map (encVersion true)),.v (.bool x.fWait.fOn),.v (.int .i64 x.fWait.fUntil),.v (.int .i64 x.fWait.fBy),.str x.fWait.fName,.sl true 3 (x.fWait.fBack.map (encNode true))]) [] True:=by
 refine Ctr.of_body en50 Tryz.func50 rfl rfl fun hp=>(?_);rw [Tryz.ntmps50]
 all_goals exact uU
instance eqDevice_i(L:Nat→Nat)[hL:Lok L](x:GDevice):Ctr L Tryz.prog 16 [] [.agg [.str x.fName,.sl false 19 (x.fStore.fSchema.map (encSchema false)),.sl false 3 (x.fStore.fRunning.map (encNode false)),.sl false 3 (x.fStore.fDraft.map (encNode false)),.v (.int .i64 x.fStore.fOwner),.sl false 3 (x.fStore.fPast.map (encVersion false)),.v (.bool x.fStore.fWait.fOn),.v (.int .i64 x.fStore.fWait.fUntil),.v (.int .i64 x.fStore.fWait.fBy),.str x.fStore.fWait.fName,.sl false 3 (x.fStore.fWait.fBack.map (encNode false)),.sl false 3 (x.fBase.map (encNode false)),.v (.bool x.fUp),.v (.int .i64 x.fWeak),.v (.bool x.fHeld)],.agg [.str x.fName,.sl false 19 (x.fStore.fSchema.map (encSchema false)),.sl false 3 (x.fStore.fRunning.map (encNode false)),.sl false 3 (x.fStore.fDraft.map (encNode false)),.v (.int .i64 x.fStore.fOwner),.sl false 3 (x.fStore.fPast.map (encVersion false)),.v (.bool x.fStore.fWait.fOn),.v (.int .i64 x.fStore.fWait.fUntil),.v (.int .i64 x.fStore.fWait.fBy),.str x.fStore.fWait.fName,.sl false 3 (x.fStore.fWait.fBack.map (encNode false)),.sl false 3 (x.fBase.map (encNode false)),.v (.bool x.fUp),.v (.int .i64 x.fWeak),.v (.bool x.fHeld)]] (.v (.bool true)) [] True:=by
 refine Ctr.of_body en16 Tryz.func16 rfl rfl fun hp=>(?_);rw [Tryz.ntmps16]
 all_goals exact uU
instance szDevice_i(L:Nat→Nat)[hL:Lok L](x:GDevice)(r:Int):Ctr L Tryz.prog 9 [] [.agg [.str x.fName,.sl false 19 (x.fStore.fSchema.map (encSchema false)),.sl false 3 (x.fStore.fRunning.map (encNode false)),.sl false 3 (x.fStore.fDraft.map (encNode false)),.v (.int .i64 x.fStore.fOwner),.sl false 3 (x.fStore.fPast.map (encVersion false)),.v (.bool x.fStore.fWait.fOn),.v (.int .i64 x.fStore.fWait.fUntil),.v (.int .i64 x.fStore.fWait.fBy),.str x.fStore.fWait.fName,.sl false 3 (x.fStore.fWait.fBack.map (encNode false)),.sl false 3 (x.fBase.map (encNode false)),.v (.bool x.fUp),.v (.int .i64 x.fWeak),.v (.bool x.fHeld)],.v (.int .i64 r)] (.v (.int .i64 (szDevice x r))) [] (0≤r∧r≤1048576):=by
 refine Ctr.of_body en9 Tryz.func9 rfl rfl fun hp=>(?_);rw [Tryz.ntmps9]
 refine AW.fact 0 fun hf=>?_
 simp (disch:=omega) only [go_sem,Nat.reduceBEq] at hf
 have le1:=szStore_le x.fStore (r - x.fName.length)
 have le2:=szSl_le szNode szNode_le x.fBase (szStore x.fStore (r - x.fName.length))
 unfold szDevice
 ((refine vU ?_;with_reducible repeat' first|exact Le.l|refine Sw ?_ ?_|intro h);all_goals simp only [thn,szStr,id];all_goals refine congrArg (fun z=>AV.v (.int .i64 z)) ?_;all_goals (repeat' split);all_goals omega)
instance toDevice_i(x:GDevice):Ctr lim Tryz.prog 12 [] [.agg [.str x.fName,.sl false 19 (x.fStore.fSchema.map (encSchema false)),.sl false 3 (x.fStore.fRunning.map (encNode false)),.sl false 3 (x.fStore.fDraft.map (encNode false)),.v (.int .i64 x.fStore.fOwner),.sl false 3 (x.fStore.fPast.map (encVersion false)),.v (.bool x.fStore.fWait.fOn),.v (.int .i64 x.fStore.fWait.fUntil),.v (.int .i64 x.fStore.fWait.fBy),.str x.fStore.fWait.fName,.sl false 3 (x.fStore.fWait.fBack.map (encNode false)),.sl false 3 (x.fBase.map (encNode false)),.v (.bool x.fUp),.v (.int .i64 x.fWeak),.v (.bool x.fHeld)]] (.agg [.str x.fName,.sl true 19 (x.fStore.fSchema.map (encSchema true)),.sl true 3 (x.fStore.fRunning.map (encNode true)),.sl true 3 (x.fStore.fDraft.map (encNode true)),.v (.int .i64 x.fStore.fOwner),.sl true 3 (x.fStore.fPast.map (encVersion true)),.v (.bool x.fStore.fWait.fOn),.v (.int .i64 x.fStore.fWait.fUntil),.v (.int .i64 x.fStore.fWait.fBy),.str x.fStore.fWait.fName,.sl true 3 (x.fStore.fWait.fBack.map (encNode true)),.sl true 3 (x.fBase.map (encNode true)),.v (.bool x.fUp),.v (.int .i64 x.fWeak),.v (.bool x.fHeld)]) [] True:=by
 refine Ctr.of_body en12 Tryz.func12 rfl rfl fun hp=>(?_);rw [Tryz.ntmps12]
 all_goals exact uU
end Go.Proofs.YtmcjbaafmjlblaaGreatDoor
