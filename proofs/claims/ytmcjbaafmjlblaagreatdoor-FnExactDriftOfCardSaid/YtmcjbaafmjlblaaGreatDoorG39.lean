/-
  Part of a proof: Tn3, Tr2.
-/
import Derived.Test.YtmcjbaafmjlblaaGreatDoorG27
import Derived.Test.YtmcjbaafmjlblaaGreatDoorG28
import Derived.Test.YtmcjbaafmjlblaaGreatDoorG29
import Derived.Test.YtmcjbaafmjlblaaGreatDoorG36
import Derived.Test.YtmcjbaafmjlblaaGreatDoorG37
import Derived.Test.YtmcjbaafmjlblaaGreatDoorG38
set_option linter.unusedSimpArgs false
set_option linter.unusedVariables false
namespace Go.Proofs.YtmcjbaafmjlblaaGreatDoor
open Go.Ab Go.Dt
set_option maxRecDepth 20000
set_option maxHeartbeats 4000000
attribute [-instance] iDataKids_i
attribute [local go_sem] frzL_str encSchemaM_frz encNodeM_frz schAll schOne nms_idx schF nodF
theorem iRightN_n(n:Nat)(ih:∀ (s:List GSchema) (l:List GNode),Ctr lim Tryz.prog 133 [] [.sl false 19 (s.map (encSchema false)),.sl false 3 (l.map (encNode false))] (.v (.bool (okL (dk s) none l))) [] (SizeOf.sizeOf l<n∧wtS s≤1048576∧wt l≤1048576))(c:GSchema)(x:GNode):Ctr lim Tryz.prog 172 [] [.agg [.v (.int .i64 c.fKind),.str c.fName,.v (.int .i64 c.fType.fKind),.sl false 2 (c.fType.fRanges.map (encRange false)),.sl false 1 (c.fType.fNames.map AV.str),.str c.fType.fPattern,.str c.fType.fPath,.sl false 1 (c.fKeys.map AV.str),.sl false 1 (c.fUnique.map AV.str),.str c.fDefault,.v (.bool c.fGiven),.v (.bool c.fNeeded),.v (.bool c.fPresent),.v (.bool c.fFixed),.v (.int .i64 c.fMin),.v (.int .i64 c.fMax),.sl false 7 (c.fWhen.map (encExpr false)),.sl false 7 (c.fMust.map (encExpr false)),.sl false 19 (c.fKids.map (encSchema false))],.agg [.str x.fName,.str x.fValue,.sl false 3 (x.fKids.map (encNode false))]] (.v (.bool (okN c x))) [] (isDataK c.fKind=true∧SizeOf.sizeOf x.fKids<n∧wtS c.fKids≤1048576∧wt x.fKids≤1048576∧x.fValue.length≤1048576):=by
 refine Ctr.of_body en172 Tryz.func172 rfl rfl fun hp=>(?_);rw [Tryz.ntmps172]
 have gOn:=GrOn.on
 obtain ⟨h1,h2,h3,h4,h5⟩:=hp
 (refine vU ?_;with_reducible repeat' first|exact Le.l|refine Sw ?_ ?_|intro h)
 all_goals refine congrArg (fun b=>AV.v (.bool b)) ?_
 ·rw [okN,if_pos (by omega),len_z]
 ·rw [okN,if_pos (by omega),len_z]
 ·rw [okN,if_neg (by omega),if_neg (by omega),decP,len_p,emp_beq,Bool.and_right_comm]
 ·have:c.fKind=2:=by rw [isDataK] at h1;simp at h1;omega
  rw [okN,if_neg (by omega),if_pos this,emp_beq]
theorem iRight_n:∀ (n:Nat) (s:List GSchema) (l:List GNode),Ctr lim Tryz.prog 133 [] [.sl false 19 (s.map (encSchema false)),.sl false 3 (l.map (encNode false))] (.v (.bool (okL (dk s) none l))) [] (SizeOf.sizeOf l<n∧wtS s≤1048576∧wt l≤1048576)
 | 0,_,l=>⟨en133,fun h=>absurd h.1 (Nat.not_lt_zero _)⟩
 | n+1,s,l=>by
  have ih:=iRightN_n n (iRight_n n)
  refine Ctr.of_body en133 Tryz.func133 rfl rfl fun hp=>(?_);rw [Tryz.ntmps133]
  have gOn:=GrOn.on
  obtain ⟨hs,hb,hv⟩:=hp
  have hc:=cnt_wtS s
  refine AW.fact 1 fun hf=>?_
  simp (disch:=omega) only [go_sem] at hf
  (refine vU ?_;with_reducible repeat' first|exact Le.l|refine Sw ?_ ?_|intro h)
  refine AW.loopV [7,18] [1,5,6,16,17] (fun m xs o=>∃ k:Nat,xs=[.v (.int .i64 (lastI (dk s) l k)),.v (.int .i64 k)]∧o=[]∧m=l.length - k∧k≤l.length∧okL (dk s) (prv l k) (l.drop k)=okL (dk s) none l) l.length [] trivial ⟨0,?_,rfl,rfl,?_,rfl⟩ ?_
  ·rfl
  ·omega
  rintro m xs o ⟨k,rfl,rfl,rfl,hk,hR⟩
  (refine vK ?_;with_reducible repeat' first|exact Le.l|refine Sw ?_ ?_|intro h)
  (refine AW.i rfl (fun h=>?_) (fun h=>?_)<;>try simp only [hC,reduceCtorEq] at h)
  ·have hw:=wt_kid (l:=l) h
   have hsz:=GNode.kids_lt (at_mem h)
   have hkx:=fun hq=>dk_data _ _ (idx_hit (p:=nmP (at_ l k).fName) (l:=dk s) hq).2.2
   have hkv:=fun hq=>dk_wt _ _ (idx_hit (p:=nmP (at_ l k).fName) (l:=dk s) hq).2.2
   have hkz:=idx_lt (p:=nmP (at_ l k).fName) (dk s)
   have hl1:=lastI_ge (d:=dk s) (l:=l) (k:=k)
   have hl2:=lastI_lt (d:=dk s) (l:=l) (k:=k)
   have hl0:k=0→lastI (dk s) l k = -1:=fun e=>by subst e;rfl
   (refine vU ?_;with_reducible repeat' first|exact Le.l|refine Sw ?_ ?_|intro h)
   ·rw [← hR,okL_bad (by assumption) h]
   ·rw [← hR,okL_bad2 (by assumption) (by omega) h]
   ·exact ⟨_,[_,_],[],by omega,⟨k+1,rfl,rfl,rfl,by omega,by rw [← hR,okL_good (by assumption) (by omega) (by omega) h.1 h.2]⟩,rfl,by simp (maxSteps:=2000000) (disch:=omega) only [go_sem]⟩
  ·(refine vU ?_;with_reducible repeat' first|exact Le.l|refine Sw ?_ ?_|intro h)
   rw [← hR,drop_end h,okL]
end Go.Proofs.YtmcjbaafmjlblaaGreatDoor
namespace Go.Dt
open Go Go.Ab
theorem okN_key{n:GSchema}{x:GNode}(h:okN n x=true):kyB n x=true:=by
 by_cases h2:n.fKind=2
 ·rw [okN,if_neg (by omega),if_pos h2] at h
  simp only [Bool.and_eq_true] at h
  exact h.1.1
 ·exact (ky_one h2).2
section
variable {d : List GSchema} {l : List GNode} {k : Nat}
theorem okR_no(hk:k<l.length)(h:idx (nmP (at_ l k).fName) d<0):okL d (prv l k) (l.drop k)=false:=by
 rw [okL_at hk,show decide (0≤idx (nmP (at_ l k).fName) d)=false by simp;omega];rfl
theorem okR_bad(hk:k<l.length)(h:okN (at_ d (idx (nmP (at_ l k).fName) d).toNat) (at_ l k)=false):okL d (prv l k) (l.drop k)=false:=by
 rw [okL_at hk,h];simp
theorem okR_bef(hk:k<l.length)(h0:0<k)(h:befS d (at_ l (k - 1)) (at_ l k)=false):okL d (prv l k) (l.drop k)=false:=by
 rw [okL_at hk]
 obtain ⟨j,rfl⟩:∃ j,k=j+1:=⟨k - 1,by omega⟩
 rw [show j+1 - 1=j by omega] at h
 rw [show befO d (prv l (j+1)) (at_ l (j+1))=befS d (at_ l j) (at_ l (j+1)) from rfl,h];simp
theorem okR_good(hk:k<l.length)(h0:0≤idx (nmP (at_ l k).fName) d)(h1:okN (at_ d (idx (nmP (at_ l k).fName) d).toNat) (at_ l k)=true)(h2:0<k→befS d (at_ l (k - 1)) (at_ l k)=true):okL d (prv l k) (l.drop k)=okL d (prv l (k+1)) (l.drop (k+1)):=by
 rw [okL_at hk,h1,show decide (0≤idx (nmP (at_ l k).fName) d)=true by simpa using h0]
 have:befO d (prv l k) (at_ l k)=true:=by
  cases k with
  | zero=>rfl
  | succ j=>exact h2 (by omega)
 rw [this];simp
end
end Go.Dt
