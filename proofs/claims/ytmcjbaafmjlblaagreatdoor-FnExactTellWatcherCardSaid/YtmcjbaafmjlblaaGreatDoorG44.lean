/-
  Part of a proof: Cu2.
-/
import Derived.Test.YtmcjbaafmjlblaaGreatDoorG28
import Derived.Test.YtmcjbaafmjlblaaGreatDoorG36
import Derived.Test.YtmcjbaafmjlblaaGreatDoorG40
import Derived.Test.YtmcjbaafmjlblaaGreatDoorG43
set_option linter.unusedSimpArgs false
set_option linter.unusedVariables false
namespace Go.Proofs.YtmcjbaafmjlblaaGreatDoor
open Go.Ab Go.Dt
set_option maxRecDepth 20000
set_option maxHeartbeats 4000000
theorem strTail2(cs:List Str):List.drop (Int.toNat 1) (List.take cs.length (cs.map AV.str))=(cs.drop 1).map AV.str:=by
 rw [List.take_of_length_le (by simp),List.map_drop];rfl
attribute [local go_sem] frzL_str encSchemaM_frz encNodeM_frz schAll schOne nms_idx schF nodF strTail2 sliceOne
instance sCopyNode_1(x:GNode):Ctr lim Tryz.prog 79 [] [.sl false 3 [.agg [.str x.fName,.str x.fValue,.sl false 3 (x.fKids.map (encNode false))]]] (.sl true 3 [encNode true x]) [] True:=by
 have:=sCopyNodes_i [x]
 rw [show List.map (encNode false) [x]=[.agg [.str x.fName,.str x.fValue,.sl false 3 (x.fKids.map (encNode false))]] by rw [List.map_cons,List.map_nil,encNode_eq],show List.map (encNode true) [x]=[encNode true x] from rfl] at this
 exact this
theorem sCut_n:∀ (n:Nat) (s:List GSchema) (l:List GNode) (cs ks:List Str),Ctr lim Tryz.prog 113 [] [.sl false 19 (s.map (encSchema false)),.sl false 3 (l.map (encNode false)),.sl false 1 (cs.map AV.str),.sl false 1 (ks.map AV.str)] (.sl true 3 ((l.flatMap (cutS cs (dk s) ks)).map (encNode true))) [] (cs.length<n∧wtS s≤1048576∧∀ x∈l,okX (dk s) x)
 | 0,_,_,_,_=>⟨en113,fun h=>absurd h.1 (Nat.not_lt_zero _)⟩
 | n+1,s,l,cs,ks=>by
  have ih:=sCut_n n
  refine Ctr.of_body en113 Tryz.func113 rfl rfl fun hp=>(?_);rw [Tryz.ntmps113]
  have gOn:=GrOn.on
  obtain ⟨hs,h1,h3⟩:=hp
  have hc:=cnt_wtS s
  refine AW.fact 1 fun hf=>?_
  simp (disch:=omega) only [go_sem] at hf
  (refine vK ?_;with_reducible repeat' first|exact Le.l|refine Sw ?_ ?_|intro h)
  refine AW.loopV [10,11] [1,2,3,9] (fun m xs o=>∃ k:Nat,xs=[.sl true 3 (((l.take k).flatMap (cutS cs (dk s) ks)).map (encNode true)),.v (.int .i64 k)]∧o=[]∧m=l.length - k∧k≤l.length) l.length [] trivial ⟨0,?_,rfl,rfl,?_⟩ ?_
  ·rfl
  ·omega
  rintro m xs o ⟨k,rfl,rfl,rfl,hk⟩
  have hlen:=flat_take_le (cutS_le cs (dk s) ks) l k
  (refine vK ?_;with_reducible repeat' first|exact Le.l|refine Sw ?_ ?_|intro h)
  (refine AW.i rfl (fun h=>?_) (fun h=>?_)<;>try simp only [hC,reduceCtorEq] at h)
  ·have hlk:=h
   have hx:=h3 _ (at_mem h)
   have hx0:=hx.1
   have hx1:=idx_lt (p:=nmP (at_ l k).fName) (dk s)
   have hfs:=flat_step (f:=cutS cs (dk s) ks) h
   have hnp:=dk_wt _ _ (okX_at hx).2
   clear h
   (refine vK ?_;with_reducible repeat' first|exact Le.l|refine Sw ?_ ?_|intro h)
   rename Nat=>b1
   (refine AW.i rfl (fun h=>?_) (fun h=>?_)<;>try simp only [hC,reduceCtorEq] at h)
   ·(refine vU ?_;with_reducible repeat' first|exact Le.l|refine Sw ?_ ?_|intro h)
    exact ⟨_,[_,_],_,by omega,⟨k+1,by rw [hfs,cutS_nil h,List.map_append,List.map_cons,List.map_nil,encNode_eq],rfl,rfl,by omega⟩,rfl,by simp (maxSteps:=2000000) (disch:=omega) only [go_sem]⟩
   have h0:=h
   clear h
   (refine vK ?_;with_reducible repeat' first|exact Le.l|refine Sw ?_ ?_|intro h)
   (refine AW.i rfl (fun h=>?_) (fun h=>?_)<;>try simp only [hC,reduceCtorEq] at h)
   ·have hcd:=cutS_key (ks:=ks) h0 h
    clear h
    (refine vU ?_;with_reducible repeat' first|exact Le.l|refine Sw ?_ ?_|intro h)
    ·exact ⟨_,[_,_],_,by omega,⟨k+1,by rw [hfs,hcd,if_pos h,List.map_append,List.map_cons,List.map_nil,encNode_eq],rfl,rfl,by omega⟩,rfl,by simp (maxSteps:=2000000) (disch:=omega) only [go_sem]⟩
    ·exact ⟨_,[_,_],_,by omega,⟨k+1,by rw [hfs,hcd,if_neg (by rw [h];simp),List.append_nil],rfl,rfl,by omega⟩,rfl,by simp (maxSteps:=2000000) (disch:=omega) only [go_sem]⟩
   have hcd:=cutS_kids (ks:=ks) h0 h.1 h.2
   have hkl:((at_ (dk s) (idx (nmP (at_ l k).fName) (dk s)).toNat).fKind=3∨(at_ (dk s) (idx (nmP (at_ l k).fName) (dk s)).toNat).fKind=4)→(at_ l k).fKids=[]:=okN_leaf hx.2
   have hokk:∀ y∈(at_ l k).fKids,okX (dk (at_ (dk s) (idx (nmP (at_ l k).fName) (dk s)).toNat).fKids) y:=fun y hy=>by
    by_cases hq:(at_ (dk s) (idx (nmP (at_ l k).fName) (dk s)).toNat).fKind=3∨(at_ (dk s) (idx (nmP (at_ l k).fName) (dk s)).toNat).fKind=4
    ·rw [hkl hq] at hy;simp at hy
    ·exact okL_mem (okN_kids hx.2 hq).2.1 y hy
   have hcs:(cs.drop 1).length<n:=by rw [List.length_drop];omega
   clear h
   (refine vN ?_;with_reducible repeat' first|exact Le.l|refine Sw ?_ ?_|intro h)
   first|refine AW.sdrwnA ?_|refine AW.drwnA ?_
   (refine vN ?_;with_reducible repeat' first|exact Le.l|refine Sw ?_ ?_|intro h)
   ·exact hokk _ (by assumption)
   rename Nat=>b2
   refine AW.imp (Imp.unfoldO2 (b0:=b2) (k:=2) (sz:=3) (l:=((at_ l k).fKids.flatMap (cutS (cs.drop 1) (dk (at_ (dk s) (idx (nmP (at_ l k).fName) (dk s)).toNat).fKids) (at_ (dk s) (idx (nmP (at_ l k).fName) (dk s)).toNat).fKeys)).map (encNode true)) (O_eq _ _ _) rfl (map_elem (fun x=>by rw [encNode_eq];rfl) _) (fun b3 hb3=>?_) (fun hnil=>?_))
   ·have hb1:=hb3.nf
    simp only [go_sem] at hb1
    simp only [List.set_cons_zero,List.set_cons_succ,List.length_map]
    (refine vK ?_;with_reducible repeat' first|exact Le.l|refine Sw ?_ ?_|intro h)
    (refine AW.i rfl (fun h=>?_) (fun h=>?_)<;>try simp only [hC,reduceCtorEq] at h)
    ·refine AW.imp (Imp.foldO (b0:=b2) (k:=2) (b:=b3) (sz:=3) (len:=((at_ l k).fKids.flatMap (cutS (cs.drop 1) (dk (at_ (dk s) (idx (nmP (at_ l k).fName) (dk s)).toNat).fKids) (at_ (dk s) (idx (nmP (at_ l k).fName) (dk s)).toNat).fKeys)).length) (cells0:=[.str (at_ (dk s) (idx (nmP (at_ l k).fName) (dk s)).toNat).fName,.str (at_ l k).fValue,.arr b3 0 ((at_ l k).fKids.flatMap (cutS (cs.drop 1) (dk (at_ (dk s) (idx (nmP (at_ l k).fName) (dk s)).toNat).fKids) (at_ (dk s) (idx (nmP (at_ l k).fName) (dk s)).toNat).fKeys)).length 3]) (cells:=(((at_ l k).fKids.flatMap (cutS (cs.drop 1) (dk (at_ (dk s) (idx (nmP (at_ l k).fName) (dk s)).toNat).fKids) (at_ (dk s) (idx (nmP (at_ l k).fName) (dk s)).toNat).fKeys)).map (encNode true)).flatMap AV.cells) (l:=((at_ l k).fKids.flatMap (cutS (cs.drop 1) (dk (at_ (dk s) (idx (nmP (at_ l k).fName) (dk s)).toNat).fKids) (at_ (dk s) (idx (nmP (at_ l k).fName) (dk s)).toNat).fKeys)).map (encNode true)) gO rfl gO (by grind) (by rw [List.length_map]) (by rw [List.take_of_length_le];rw [flat_elem_len (sz:=3) (map_elem (fun x=>by rw [encNode_eq];rfl) _),List.length_map];exact Nat.le_refl _) (map_elem (fun x=>by rw [encNode_eq];rfl) _) ?_)
     simp only [List.set_cons_zero,List.set_cons_succ]
     (refine vU ?_;with_reducible repeat' first|exact Le.l|refine Sw ?_ ?_|intro h)
     exact ⟨_,[_,_],_,by omega,⟨k+1,by rw [hfs,hcd,if_pos (keep_y h),List.map_append,List.map_cons,List.map_nil,encNode_eq];rfl,rfl,rfl,by omega⟩,rfl,by simp (maxSteps:=2000000) (disch:=omega) only [go_sem]⟩
    ·(refine vU ?_;with_reducible repeat' first|exact Le.l|refine Sw ?_ ?_|intro h)
     exact ⟨_,[_,_],_,by omega,⟨k+1,by rw [hfs,hcd,if_neg (keep_n h),List.append_nil],rfl,rfl,by omega⟩,rfl,by simp (maxSteps:=2000000) (disch:=omega) only [go_sem]⟩
   ·simp only [List.set_cons_zero,List.set_cons_succ]
    have hkn:((at_ l k).fKids.flatMap (cutS (cs.drop 1) (dk (at_ (dk s) (idx (nmP (at_ l k).fName) (dk s)).toNat).fKids) (at_ (dk s) (idx (nmP (at_ l k).fName) (dk s)).toNat).fKeys))=[]:=by simpa using hnil
    (refine vK ?_;with_reducible repeat' first|exact Le.l|refine Sw ?_ ?_|intro h)
    (refine AW.i rfl (fun h=>?_) (fun h=>?_)<;>try simp only [hC,reduceCtorEq] at h)
    ·refine AW.imp (Imp.nilOT (b:=b2) 3 [.str (at_ (dk s) (idx (nmP (at_ l k).fName) (dk s)).toNat).fName,.str (at_ l k).fValue] [] gO ?_)
     (refine vU ?_;with_reducible repeat' first|exact Le.l|refine Sw ?_ ?_|intro h)
     rw [hkn] at hcd
     exact ⟨_,[_,_],_,by omega,⟨k+1,by rw [hfs,hcd,if_pos (keep_y (K:=[]) h),List.map_append,List.map_cons,List.map_nil,encNode_eq];rfl,rfl,rfl,by omega⟩,rfl,by simp (maxSteps:=2000000) (disch:=omega) only [go_sem]⟩
    ·(refine vU ?_;with_reducible repeat' first|exact Le.l|refine Sw ?_ ?_|intro h)
     rw [hkn] at hcd
     exact ⟨_,[_,_],_,by omega,⟨k+1,by rw [hfs,hcd,if_neg (keep_n (K:=[]) h),List.append_nil],rfl,rfl,by omega⟩,rfl,by simp (maxSteps:=2000000) (disch:=omega) only [go_sem]⟩
  ·(refine vU ?_;with_reducible repeat' first|exact Le.l|refine Sw ?_ ?_|intro h)
   rw [List.take_of_length_le (by omega)]
end Go.Proofs.YtmcjbaafmjlblaaGreatDoor
