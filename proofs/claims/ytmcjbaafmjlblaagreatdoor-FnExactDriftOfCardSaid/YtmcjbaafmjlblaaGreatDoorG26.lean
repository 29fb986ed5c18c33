/-
  Part of a proof: Sc6l.
-/
import Derived.Test.YtmcjbaafmjlblaaGreatDoorG13
import Derived.Test.YtmcjbaafmjlblaaGreatDoorG25
set_option linter.unusedSimpArgs false
set_option linter.unusedVariables false
namespace Go.Proofs.YtmcjbaafmjlblaaGreatDoor
open Go.Ab Go.Dt
set_option maxRecDepth 20000
set_option maxHeartbeats 4000000
attribute [local go_sem] frzL_str encSchemaM_frz schAll schOne
theorem iLeaf_yes(l:List GSchema)(n:Str):Ctr lim Tryz.prog 203 [] [.sl false 19 (l.map (encSchema false)),.str n] (.tup [encSchema false (at_ l (idx (leafS n) l).toNat),.v (.bool true)]) [] (0≤idx (leafS n) l):=by
 refine Ctr.of_body en203 Tryz.func203 rfl rfl fun hp=>(?_);rw [Tryz.ntmps203]
 have gOn:=GrOn.on
 refine AW.fact 0 fun hf=>?_
 simp (disch:=omega) only [go_sem] at hf
 (refine bU ?_;with_reducible repeat' first|exact Le.l|refine Sw ?_ ?_|intro h)
 refine AW.loopV [10] [1,4,8,9] (fun m xs o=>∃ k:Nat,xs=[.v (.int .i64 k)]∧o=[(h,some [.v (.int .i64 0),.str [],.v (.int .i64 0),.v (.slice none 0 0),.v (.slice none 0 0),.str [],.str [],.v (.slice none 0 0),.v (.slice none 0 0),.str [],.v (.bool false),.v (.bool false),.v (.bool false),.v (.bool false),.v (.int .i64 0),.v (.int .i64 0),.v (.slice none 0 0),.v (.slice none 0 0),.v (.slice none 0 0)])]∧m=l.length - k∧k≤l.length∧∀ x∈l.take k,leafS n x=false) l.length [(h,some [.v (.int .i64 0),.str [],.v (.int .i64 0),.v (.slice none 0 0),.v (.slice none 0 0),.str [],.str [],.v (.slice none 0 0),.v (.slice none 0 0),.str [],.v (.bool false),.v (.bool false),.v (.bool false),.v (.bool false),.v (.int .i64 0),.v (.int .i64 0),.v (.slice none 0 0),.v (.slice none 0 0),.v (.slice none 0 0)])] gO ⟨0,rfl,rfl,rfl,by omega,by simp⟩ ?_
 rintro m xs o ⟨k,rfl,rfl,rfl,hk,hR⟩
 (refine vU ?_;with_reducible repeat' first|exact Le.l|refine Sw ?_ ?_|intro h)
 ·rw [idx_at' (p:=leafS n) (by assumption) hR (by simp [leafS];grind)];try rfl
 ·exact ⟨_,[_],_,by omega,⟨k+1,rfl,rfl,rfl,by omega,take_step' (by assumption) hR (by simp [leafS];grind)⟩,rfl,by simp (maxSteps:=2000000) (disch:=omega) only [go_sem]⟩
 ·exact absurd hp (by rw [idx_end (by assumption) hR];decide)
theorem iLeaf_no(l:List GSchema)(n:Str):Ctr lim Tryz.prog 203 [] [.sl false 19 (l.map (encSchema false)),.str n] (.tup [.agg [.v (.int .i64 0),.str [],.v (.int .i64 0),.v (.slice none 0 0),.v (.slice none 0 0),.str [],.str [],.v (.slice none 0 0),.v (.slice none 0 0),.str [],.v (.bool false),.v (.bool false),.v (.bool false),.v (.bool false),.v (.int .i64 0),.v (.int .i64 0),.v (.slice none 0 0),.v (.slice none 0 0),.v (.slice none 0 0)],.v (.bool false)]) [] (idx (leafS n) l<0):=by
 refine Ctr.of_body en203 Tryz.func203 rfl rfl fun hp=>(?_);rw [Tryz.ntmps203]
 have gOn:=GrOn.on
 refine AW.fact 0 fun hf=>?_
 simp (disch:=omega) only [go_sem] at hf
 (refine bU ?_;with_reducible repeat' first|exact Le.l|refine Sw ?_ ?_|intro h)
 refine AW.loopV [10] [1,4,8,9] (fun m xs o=>∃ k:Nat,xs=[.v (.int .i64 k)]∧o=[(h,some [.v (.int .i64 0),.str [],.v (.int .i64 0),.v (.slice none 0 0),.v (.slice none 0 0),.str [],.str [],.v (.slice none 0 0),.v (.slice none 0 0),.str [],.v (.bool false),.v (.bool false),.v (.bool false),.v (.bool false),.v (.int .i64 0),.v (.int .i64 0),.v (.slice none 0 0),.v (.slice none 0 0),.v (.slice none 0 0)])]∧m=l.length - k∧k≤l.length∧∀ x∈l.take k,leafS n x=false) l.length [(h,some [.v (.int .i64 0),.str [],.v (.int .i64 0),.v (.slice none 0 0),.v (.slice none 0 0),.str [],.str [],.v (.slice none 0 0),.v (.slice none 0 0),.str [],.v (.bool false),.v (.bool false),.v (.bool false),.v (.bool false),.v (.int .i64 0),.v (.int .i64 0),.v (.slice none 0 0),.v (.slice none 0 0),.v (.slice none 0 0)])] gO ⟨0,rfl,rfl,rfl,by omega,by simp⟩ ?_
 rintro m xs o ⟨k,rfl,rfl,rfl,hk,hR⟩
 (refine vU ?_;with_reducible repeat' first|exact Le.l|refine Sw ?_ ?_|intro h)
 ·exact absurd hp (by rw [idx_at' (p:=leafS n) (by assumption) hR (by simp [leafS];grind)];omega)
 ·exact ⟨_,[_],_,by omega,⟨k+1,rfl,rfl,rfl,by omega,take_step' (by assumption) hR (by simp [leafS];grind)⟩,rfl,by simp (maxSteps:=2000000) (disch:=omega) only [go_sem]⟩
theorem sLeft_n:∀ (n:Nat) (l:List GSchema) (r:Int),Ctr lim Tryz.prog 162 [] [.sl false 19 (l.map (encSchema false)),.v (.int .i64 r)] (.v (.int .i64 (leftS l (r - l.length)))) [] (SizeOf.sizeOf l<n∧cntS l≤1048576∧0≤r∧r≤1048576)
 | 0,l,r=>⟨en162,fun h=>absurd h.1 (Nat.not_lt_zero _)⟩
 | n+1,l,r=>by
  have ih:=sLeft_n n
  refine Ctr.of_body en162 Tryz.func162 rfl rfl fun hp=>(?_);rw [Tryz.ntmps162]
  have hl:=len_cntS l
  (refine vU ?_;with_reducible repeat' first|exact Le.l|refine Sw ?_ ?_|intro h)
  refine AW.loopV [1,5] [0] (fun m xs o=>∃ (k:Nat) (q:Int),xs=[.v (.int .i64 q),.v (.int .i64 k)]∧o=[]∧m=l.length - k∧k≤l.length∧-4611686018427387904≤q∧q≤1048576∧leftS (l.drop k) q=leftS l (r - l.length)) l.length [] trivial ⟨0,r - l.length,?_,rfl,rfl,?_,?_,?_,rfl⟩ ?_
  ·rfl
  ·omega
  ·omega
  ·omega
  rintro m xs o ⟨k,q,rfl,rfl,rfl,hk,h0,h1,hR⟩
  have hw:k<l.length→SizeOf.sizeOf (at_ l k).fKids<n∧cntS (at_ l k).fKids≤1048576:=fun h=>by
   have:=cntS_kid (at_mem h);have:=GSchema.kids_lt (at_mem h);omega
  have h2:=len_cntS (at_ l k).fKids
  have h3:=leftS_le (at_ l k).fKids (q - (at_ l k).fKids.length)
  (refine vU ?_;with_reducible repeat' first|exact Le.l|refine Sw ?_ ?_|intro h)
  ·have h4:-4611686018427387904≤leftS (at_ l k).fKids (q - (at_ l k).fKids.length):=leftS_ge _ _ (by have:=hw h.1;omega) (by have:=hw h.1;omega)
   refine ⟨_,[_,_],[],by omega,⟨k+1,_,rfl,rfl,rfl,by omega,h4,by omega,?_⟩,rfl,trivial⟩
   rw [← hR,leftS_at h.1,if_neg (by omega)]
  ·rw [← hR]
   by_cases e:k<l.length
   ·rw [leftS_neg _ (h e)]
   ·rw [drop_end e,leftS]
instance sLeft_i(l:List GSchema)(r:Int):Ctr lim Tryz.prog 162 [] [.sl false 19 (l.map (encSchema false)),.v (.int .i64 r)] (.v (.int .i64 (leftS l (r - l.length)))) [] (cntS l≤1048576∧0≤r∧r≤1048576):=⟨en162,fun c=>(sLeft_n (SizeOf.sizeOf l+1) l r).out ⟨Nat.lt_succ_self _,c⟩⟩
instance sNames_i(l:List Str):Ctr lim Tryz.prog 243 [] [.sl false 1 (l.map AV.str)] (.v (.bool (diffs l && decide (l.length≤3)))) [] True:=by
 refine Ctr.of_body en243 Tryz.func243 rfl rfl fun hp=>(?_);rw [Tryz.ntmps243]
 have gOn:=GrOn.on
 refine AW.fact 0 fun hf=>?_
 simp (disch:=omega) only [go_sem] at hf
 (refine vU ?_;with_reducible repeat' first|exact Le.l|refine Sw ?_ ?_|intro h)
 refine AW.loopV [3] [0] (fun m xs o=>∃ k:Nat,xs=[.v (.int .i64 k)]∧o=[]∧m=l.length - k∧k≤l.length∧allTo (fun j=>!cont (l.take j) (at_ l j)) k=true) l.length [] trivial ⟨0,?_,rfl,rfl,?_,rfl⟩ ?_
 ·rfl
 ·omega
 rintro m xs o ⟨k,rfl,rfl,rfl,hk,hQ⟩
 (refine vK ?_;with_reducible repeat' first|exact Le.l|refine Sw ?_ ?_|intro h)
 (refine AW.i rfl (fun h=>?_) (fun h=>?_)<;>try simp only [hC,reduceCtorEq] at h)
 ·(refine vK ?_;with_reducible repeat' first|exact Le.l|refine Sw ?_ ?_|intro h)
  refine AW.loopV [4] [0,3] (fun m xs o=>∃ j:Nat,xs=[.v (.int .i64 j)]∧o=[]∧m=k - j∧j≤k∧∀ y∈(l.take k).take j,(y == at_ l k)=false) k [] trivial ⟨0,?_,rfl,rfl,?_,?_⟩ ?_
  ·rfl
  ·omega
  ·simp
  rintro m xs o ⟨j,rfl,rfl,rfl,hj,hS⟩
  (refine vU ?_;with_reducible repeat' first|exact Le.l|refine Sw ?_ ?_|intro h)
  ·rw [show diffs l=false from allTo_false (by assumption) (by rw [cont_dup (by assumption) (by assumption) h];try rfl)];try rfl
  ·exact ⟨_,[_],[],by omega,⟨j+1,rfl,rfl,rfl,by omega,take_step' (by rw [List.length_take];omega) hS (by rw [at_take (by assumption)];simpa using h)⟩,rfl,trivial⟩
  ·rw [show j=k by omega,List.take_take,Nat.min_self] at hS
   exact ⟨_,[_],[],by omega,⟨k+1,rfl,rfl,rfl,by omega,allTo_step hQ (by rw [cont_free hS];try rfl)⟩,rfl,trivial⟩
 ·(refine vU ?_;with_reducible repeat' first|exact Le.l|refine Sw ?_ ?_|intro h)
  rw [show k=l.length by omega] at hQ
  rw [show diffs l=true from hQ,Bool.true_and,show decide ((l.length:Int)≤3)=decide (l.length≤3) from decide_eq_decide.2 (by omega)]
end Go.Proofs.YtmcjbaafmjlblaaGreatDoor
