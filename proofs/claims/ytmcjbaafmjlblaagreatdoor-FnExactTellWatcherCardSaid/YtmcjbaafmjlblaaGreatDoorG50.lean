/-
  Part of a proof: Cu1, Cu3, We3, We4, We5p, We5, AbDc, AbUL, AbTab.
-/
import Derived.Lib.LaidTab
import Derived.Lay
import Derived.MakeChecks
import Derived.Test.YtmcjbaafmjlblaaGreatDoorG2
import Derived.Test.YtmcjbaafmjlblaaGreatDoorG11
import Derived.Test.YtmcjbaafmjlblaaGreatDoorG20
import Derived.Test.YtmcjbaafmjlblaaGreatDoorG21
import Derived.Test.YtmcjbaafmjlblaaGreatDoorG39
import Derived.Test.YtmcjbaafmjlblaaGreatDoorG40
import Derived.Test.YtmcjbaafmjlblaaGreatDoorG42
import Derived.Test.YtmcjbaafmjlblaaGreatDoorG43
import Derived.Test.YtmcjbaafmjlblaaGreatDoorG44
import Derived.Test.YtmcjbaafmjlblaaGreatDoorG45
import Derived.Test.YtmcjbaafmjlblaaGreatDoorG46
import Derived.Test.YtmcjbaafmjlblaaGreatDoorG47
import Derived.Test.YtmcjbaafmjlblaaGreatDoorG48
import Derived.Test.YtmcjbaafmjlblaaGreatDoorG49
set_option linter.unusedSimpArgs false
set_option linter.unusedVariables false
namespace Go.Proofs.YtmcjbaafmjlblaaGreatDoor
open Go.Ab Go.Dt
set_option maxRecDepth 20000
set_option maxHeartbeats 4000000
theorem strTail(cs:List Str):List.drop (Int.toNat 1) (List.take cs.length (cs.map AV.str))=(cs.drop 1).map AV.str:=by
 rw [List.take_of_length_le (by simp),List.map_drop];rfl
attribute [local go_sem] frzL_str encSchemaM_frz encNodeM_frz schAll schOne nms_idx schF nodF strTail
instance iCopyNode_1(x:GNode):Ctr lim Tryz.prog 82 [] [.sl false 3 [.agg [.str x.fName,.str x.fValue,.sl false 3 (x.fKids.map (encNode false))]]] (.sl true 3 [encNode true x]) [] True:=by
 have:=iCopyNodes_i [x]
 rw [show List.map (encNode false) [x]=[.agg [.str x.fName,.str x.fValue,.sl false 3 (x.fKids.map (encNode false))]] by rw [List.map_cons,List.map_nil,encNode_eq],show List.map (encNode true) [x]=[encNode true x] from rfl] at this
 exact this
theorem iCut_n:∀ (n:Nat) (s:List GSchema) (l:List GNode) (cs:List Str),Ctr lim Tryz.prog 117 [] [.sl false 19 (s.map (encSchema false)),.sl false 3 (l.map (encNode false)),.sl false 1 (cs.map AV.str)] (.sl true 3 ((l.flatMap (cutX cs s)).map (encNode true))) [] (cs.length<n∧wtS s≤1048576∧∀ x∈l,okX (dk s) x)
 | 0,_,_,_=>⟨en117,fun h=>absurd h.1 (Nat.not_lt_zero _)⟩
 | n+1,s,l,cs=>by
  have ih1:∀ (s:List GSchema) (x:GNode) (cs:List Str),Ctr lim Tryz.prog 117 [] [.sl false 19 (s.map (encSchema false)),.sl false 3 [.agg [.str x.fName,.str x.fValue,.sl false 3 (x.fKids.map (encNode false))]],.sl false 1 (cs.map AV.str)] (.sl true 3 ((cutX cs s x).map (encNode true))) [] (cs.length<n∧wtS s≤1048576∧okX (dk s) x):=fun s x cs=>by
   have:=iCut_n n s [x] cs
   rw [show List.map (encNode false) [x]=[.agg [.str x.fName,.str x.fValue,.sl false 3 (x.fKids.map (encNode false))]] by rw [List.map_cons,List.map_nil,encNode_eq],List.flatMap_cons,List.flatMap_nil,List.append_nil] at this
   exact ⟨en117,fun h=>this.out ⟨h.1,h.2.1,fun y hy=>by rw [List.mem_singleton.1 hy];exact h.2.2⟩⟩
  refine Ctr.of_body en117 Tryz.func117 rfl rfl fun hp=>(?_);rw [Tryz.ntmps117]
  have gOn:=GrOn.on
  obtain ⟨hs,h1,h3⟩:=hp
  have hc:=cnt_wtS s
  refine AW.fact 1 fun hf=>?_
  simp (disch:=omega) only [go_sem] at hf
  (refine vK ?_;with_reducible repeat' first|exact Le.l|refine Sw ?_ ?_|intro h)
  (refine AW.i rfl (fun h=>?_) (fun h=>?_)<;>try simp only [hC,reduceCtorEq] at h)
  ·(refine vU ?_;with_reducible repeat' first|exact Le.l|refine Sw ?_ ?_|intro h)
   rw [show cs=[] from List.length_eq_zero_iff.1 (by omega),cut_nil]
  have h0:=h
  clear h
  (refine vK ?_;with_reducible repeat' first|exact Le.l|refine Sw ?_ ?_|intro h)
  refine AW.loopV [7,23] [0,2,21,22] (fun m xs o=>∃ k:Nat,xs=[.sl true 3 (((l.take k).flatMap (cutX cs s)).map (encNode true)),.v (.int .i64 k)]∧o=[]∧m=l.length - k∧k≤l.length) l.length [] trivial ⟨0,?_,rfl,rfl,?_⟩ ?_
  ·rfl
  ·omega
  rintro m xs o ⟨k,rfl,rfl,rfl,hk⟩
  have hlen:=flat_take_le (cutX_le cs s) l k
  (refine vK ?_;with_reducible repeat' first|exact Le.l|refine Sw ?_ ?_|intro h)
  (refine AW.i rfl (fun h=>?_) (fun h=>?_)<;>try simp only [hC,reduceCtorEq] at h)
  ·have hlk:=h
   have hx:=h3 _ (at_mem h)
   have hfs:=flat_step (f:=cutX cs s) h
   clear h
   (refine vK ?_;with_reducible repeat' first|exact Le.l|refine Sw ?_ ?_|intro h)
   (refine AW.i rfl (fun h=>?_) (fun h=>?_)<;>try simp only [hC,reduceCtorEq] at h)
   ·(refine vU ?_;with_reducible repeat' first|exact Le.l|refine Sw ?_ ?_|intro h)
    exact ⟨_,[_,_],_,by omega,⟨k+1,by rw [hfs,cutX_ne h0 h,List.append_nil],rfl,rfl,by omega⟩,rfl,by simp (maxSteps:=2000000) (disch:=omega) only [go_sem]⟩
   have hnm:=h
   clear h
   have hx0:=hx.1
   have hnp:=dk_wt _ _ (okX_at hx).2
   rename Nat=>b1
   haveI fz:∀ (sz:Nat) (x:AV) (l:List AV) (C:List Nat) (K:AV→List Nat→Prop),Rl (bsK sz (x::l) C (K:=⟨K⟩)) (K (.sl false sz (AV.frzL (x::l))) C):=fun _ _ _ _ _=>⟨.inr⟩
   (refine vK ?_;with_reducible repeat' first|exact Le.l|refine Sw ?_ ?_|intro h)
   rename Nat=>b2
   (refine AW.i rfl (fun h=>?_) (fun h=>?_)<;>try simp only [hC,reduceCtorEq] at h)
   ·(refine vU ?_;with_reducible repeat' first|exact Le.l|refine Sw ?_ ?_|intro h)
    exact ⟨_,[_,_],_,by omega,⟨k+1,by rw [hfs,cutX_one h hnm,List.map_append,List.map_cons,List.map_nil,encNode_eq],rfl,rfl,by omega⟩,rfl,by simp (maxSteps:=2000000) (disch:=omega) only [go_sem]⟩
   have h1':=h
   clear h
   (refine vK ?_;with_reducible repeat' first|exact Le.l|refine Sw ?_ ?_|intro h)
   (refine AW.i rfl (fun h=>?_) (fun h=>?_)<;>try simp only [hC,reduceCtorEq] at h)
   ·(refine vU ?_;with_reducible repeat' first|exact Le.l|refine Sw ?_ ?_|intro h)
    exact ⟨_,[_,_],_,by omega,⟨k+1,by rw [hfs,cutX_leaf h0 h1' hnm (by omega),List.append_nil],rfl,rfl,by omega⟩,rfl,by simp (maxSteps:=2000000) (disch:=omega) only [go_sem]⟩
   have hkd:(at_ (dk s) (idx (nmP (at_ l k).fName) (dk s)).toNat).fKind=1∨(at_ (dk s) (idx (nmP (at_ l k).fName) (dk s)).toNat).fKind=2:=by omega
   have hkk:=(okN_kids hx.2 (by omega)).2.1
   clear h
   (refine vK ?_;with_reducible repeat' first|exact Le.l|refine Sw ?_ ?_|intro h)
   refine AW.fact 59 fun hf2=>?_
   simp (disch:=omega) only [go_sem] at hf2
   refine AW.loopV [12,61] [0,2,7,9,10,21,22,23,59,60] (fun m xs o=>∃ j:Nat,xs=[.sl true 3 (((((at_ l k).fKids.take j).flatMap (cutK (at_ (dk s) (idx (nmP (at_ l k).fName) (dk s)).toNat) (cs.drop 1)))).map (encNode true)),.v (.int .i64 j)]∧o=[(b2,some [.v (.int .i64 (at_ (dk s) (idx (nmP (at_ l k).fName) (dk s)).toNat).fKind),.str (at_ (dk s) (idx (nmP (at_ l k).fName) (dk s)).toNat).fName,.v (.int .i64 (at_ (dk s) (idx (nmP (at_ l k).fName) (dk s)).toNat).fType.fKind),.sl false 2 ((at_ (dk s) (idx (nmP (at_ l k).fName) (dk s)).toNat).fType.fRanges.map (encRange false)),.sl false 1 ((at_ (dk s) (idx (nmP (at_ l k).fName) (dk s)).toNat).fType.fNames.map AV.str),.str (at_ (dk s) (idx (nmP (at_ l k).fName) (dk s)).toNat).fType.fPattern,.str (at_ (dk s) (idx (nmP (at_ l k).fName) (dk s)).toNat).fType.fPath,.sl false 1 ((at_ (dk s) (idx (nmP (at_ l k).fName) (dk s)).toNat).fKeys.map AV.str),.sl false 1 ((at_ (dk s) (idx (nmP (at_ l k).fName) (dk s)).toNat).fUnique.map AV.str),.str (at_ (dk s) (idx (nmP (at_ l k).fName) (dk s)).toNat).fDefault,.v (.bool (at_ (dk s) (idx (nmP (at_ l k).fName) (dk s)).toNat).fGiven),.v (.bool (at_ (dk s) (idx (nmP (at_ l k).fName) (dk s)).toNat).fNeeded),.v (.bool (at_ (dk s) (idx (nmP (at_ l k).fName) (dk s)).toNat).fPresent),.v (.bool (at_ (dk s) (idx (nmP (at_ l k).fName) (dk s)).toNat).fFixed),.v (.int .i64 (at_ (dk s) (idx (nmP (at_ l k).fName) (dk s)).toNat).fMin),.v (.int .i64 (at_ (dk s) (idx (nmP (at_ l k).fName) (dk s)).toNat).fMax),.sl false 7 ((at_ (dk s) (idx (nmP (at_ l k).fName) (dk s)).toNat).fWhen.map (encExpr false)),.sl false 7 ((at_ (dk s) (idx (nmP (at_ l k).fName) (dk s)).toNat).fMust.map (encExpr false)),.sl false 19 ((at_ (dk s) (idx (nmP (at_ l k).fName) (dk s)).toNat).fKids.map (encSchema false))]),(b1,some [.str (at_ l k).fName,.str (at_ l k).fValue,.sl false 3 ((at_ l k).fKids.map (encNode false))])]∧m=(at_ l k).fKids.length - j∧j≤(at_ l k).fKids.length) (at_ l k).fKids.length [(b2,some [.v (.int .i64 (at_ (dk s) (idx (nmP (at_ l k).fName) (dk s)).toNat).fKind),.str (at_ (dk s) (idx (nmP (at_ l k).fName) (dk s)).toNat).fName,.v (.int .i64 (at_ (dk s) (idx (nmP (at_ l k).fName) (dk s)).toNat).fType.fKind),.sl false 2 ((at_ (dk s) (idx (nmP (at_ l k).fName) (dk s)).toNat).fType.fRanges.map (encRange false)),.sl false 1 ((at_ (dk s) (idx (nmP (at_ l k).fName) (dk s)).toNat).fType.fNames.map AV.str),.str (at_ (dk s) (idx (nmP (at_ l k).fName) (dk s)).toNat).fType.fPattern,.str (at_ (dk s) (idx (nmP (at_ l k).fName) (dk s)).toNat).fType.fPath,.sl false 1 ((at_ (dk s) (idx (nmP (at_ l k).fName) (dk s)).toNat).fKeys.map AV.str),.sl false 1 ((at_ (dk s) (idx (nmP (at_ l k).fName) (dk s)).toNat).fUnique.map AV.str),.str (at_ (dk s) (idx (nmP (at_ l k).fName) (dk s)).toNat).fDefault,.v (.bool (at_ (dk s) (idx (nmP (at_ l k).fName) (dk s)).toNat).fGiven),.v (.bool (at_ (dk s) (idx (nmP (at_ l k).fName) (dk s)).toNat).fNeeded),.v (.bool (at_ (dk s) (idx (nmP (at_ l k).fName) (dk s)).toNat).fPresent),.v (.bool (at_ (dk s) (idx (nmP (at_ l k).fName) (dk s)).toNat).fFixed),.v (.int .i64 (at_ (dk s) (idx (nmP (at_ l k).fName) (dk s)).toNat).fMin),.v (.int .i64 (at_ (dk s) (idx (nmP (at_ l k).fName) (dk s)).toNat).fMax),.sl false 7 ((at_ (dk s) (idx (nmP (at_ l k).fName) (dk s)).toNat).fWhen.map (encExpr false)),.sl false 7 ((at_ (dk s) (idx (nmP (at_ l k).fName) (dk s)).toNat).fMust.map (encExpr false)),.sl false 19 ((at_ (dk s) (idx (nmP (at_ l k).fName) (dk s)).toNat).fKids.map (encSchema false))]),(b1,some [.str (at_ l k).fName,.str (at_ l k).fValue,.sl false 3 ((at_ l k).fKids.map (encNode false))])] gO ⟨0,rfl,rfl,rfl,by omega⟩ ?_
   rintro m xs o ⟨j,rfl,rfl,rfl,hj⟩
   have hlen2:=flat_take_le (cutK_le (at_ (dk s) (idx (nmP (at_ l k).fName) (dk s)).toNat) (cs.drop 1)) (at_ l k).fKids j
   (refine vK ?_;with_reducible repeat' first|exact Le.l|refine Sw ?_ ?_|intro h)
   (refine AW.i rfl (fun h=>?_) (fun h=>?_)<;>try simp only [hC,reduceCtorEq] at h)
   ·have hks:=flat_step (f:=cutK (at_ (dk s) (idx (nmP (at_ l k).fName) (dk s)).toNat) (cs.drop 1)) h
    have hox:=okL_mem hkk _ (at_mem h)
    have hjk:=h
    clear h
    have hc1:=cutX_le (cs.drop 1) (at_ (dk s) (idx (nmP (at_ l k).fName) (dk s)).toNat).fKids (at_ (at_ l k).fKids j)
    have hcs:(cs.drop 1).length<n:=by rw [List.length_drop];omega
    (refine vU ?_;with_reducible repeat' first|exact Le.l|refine Sw ?_ ?_|intro h)
    ·exact ⟨_,[_,_],_,by omega,⟨j+1,by rw [hks,cutK,if_pos h,List.map_append,List.map_cons,List.map_nil,encNode_eq],rfl,rfl,by omega⟩,rfl,by simp (maxSteps:=2000000) (disch:=omega) only [go_sem]⟩
    ·exact ⟨_,[_,_],_,by omega,⟨j+1,by rw [hks,cutK,if_neg (by rw [h];simp),List.map_append],rfl,rfl,by omega⟩,rfl,by simp (maxSteps:=2000000) (disch:=omega) only [go_sem]⟩
   clear fz
   have hj2:(at_ l k).fKids.take j=(at_ l k).fKids:=List.take_of_length_le (by omega)
   clear h
   rw [hj2]
   have hcd:=cutX_kids h0 h1' hnm hkd
   (refine vU ?_;with_reducible repeat' first|exact Le.l|refine Sw ?_ ?_|intro h)
   ·rename_i h'
    exact ⟨_,[_,_],_,by omega,⟨k+1,by rw [hfs,hcd,if_pos ⟨h'.1,h'.2,List.length_eq_zero_iff.1 (by omega)⟩,List.append_nil],rfl,rfl,by omega⟩,rfl,by simp (maxSteps:=2000000) (disch:=omega) only [go_sem]⟩
   ·exact ⟨_,[_,_],_,by omega,⟨k+1,by rw [hfs,hcd,if_neg (fun c=>h (by rw [c.2.2];rfl)),List.map_append,List.map_cons,List.map_nil,encNode_eq];rfl,rfl,rfl,by omega⟩,rfl,by simp (maxSteps:=2000000) (disch:=omega) only [go_sem]⟩
   ·rename_i h'
    exact ⟨_,[_,_],_,by omega,⟨k+1,by rw [hfs,hcd,if_neg (fun c=>by have:=h' c.1;rw [c.2.1] at this;cases this),List.map_append,List.map_cons,List.map_nil,encNode_eq];rfl,rfl,rfl,by omega⟩,rfl,by simp (maxSteps:=2000000) (disch:=omega) only [go_sem]⟩
  ·(refine vU ?_;with_reducible repeat' first|exact Le.l|refine Sw ?_ ?_|intro h)
   rw [List.take_of_length_le (by omega)]
end Go.Proofs.YtmcjbaafmjlblaaGreatDoor
namespace Go.Proofs.YtmcjbaafmjlblaaGreatDoor
open Go.Ab Go.Dt
set_option maxRecDepth 20000
set_option maxHeartbeats 4000000
attribute [local go_sem] frzL_str encSchemaM_frz encNodeM_frz
instance iCut_i(s:List GSchema)(l:List GNode)(cs:List Str):Ctr lim Tryz.prog 117 [] [.sl false 19 (s.map (encSchema false)),.sl false 3 (l.map (encNode false)),.sl false 1 (cs.map AV.str)] (.sl true 3 ((l.flatMap (cutX cs s)).map (encNode true))) [] (isTree s l=true∧wtS s≤1048576):=⟨en117,fun h=>(iCut_n (cs.length+1) s l cs).out ⟨Nat.lt_succ_self _,h.2,fun x hx=>by
 have:=h.1
 simp only [isTree,Bool.and_eq_true] at this
 exact okL_mem this.2 x hx⟩⟩
theorem sCut_i(s:List GSchema)(l:List GNode)(cs:List Str):Ctr lim Tryz.prog 113 [] [.sl false 19 (s.map (encSchema false)),.sl false 3 (l.map (encNode false)),.sl false 1 (cs.map AV.str),.sl false 1 []] (.sl true 3 ((l.flatMap (cutX cs s)).map (encNode true))) [] (isTree s l=true∧wtS s≤1048576):=⟨en113,fun h=>by
 have:=(sCut_n (cs.length+1) s l cs []).out ⟨Nat.lt_succ_self _,h.2,fun x hx=>by
  have:=h.1
  simp only [isTree,Bool.and_eq_true] at this
  exact okL_mem this.2 x hx⟩
 rw [cut_tree h.1] at this
 exact this⟩
instance sCut_z(s:List GSchema)(l:List GNode)(cs:List Str):Ctr lim Tryz.prog 113 [] [.sl false 19 (s.map (encSchema false)),.sl false 3 (l.map (encNode false)),.sl false 1 (cs.map AV.str),.v (.slice none 0 0)] (.sl true 3 ((l.flatMap (cutX cs s)).map (encNode true))) [] (isTree s l=true∧wtS s≤1048576):=by
 exact (sCut_i s l cs).view fun F w=>RepL.consM (fun _ _ h=>h) (RepL.consM (fun _ _ h=>h) (RepL.consM (fun _ _ h=>h) (RepL.consM Rep.nilSl fun _ _ h=>h)))
instance iCutTree_i(s:List GSchema)(l:List GNode)(cs:List Str):Ctr lim Tryz.prog 67 [] [.sl false 19 (s.map (encSchema false)),.sl false 3 (l.map (encNode false)),.sl false 1 (cs.map AV.str)] (.tup [.sl true 3 ((cutT s l cs).map (encNode true)),.v (.bool (isTree s l))]) [] (wtS s≤1048576∧wt l≤1048576):=by
 refine Ctr.of_body en67 Tryz.func67 rfl rfl fun hp=>(?_);rw [Tryz.ntmps67]
 have gOn:=GrOn.on
 obtain ⟨h1,h2⟩:=hp
 (refine vU ?_;with_reducible repeat' first|exact Le.l|refine Sw ?_ ?_|intro h)
 ·rw [cutT,if_neg (by rw [h];simp),h];rfl
 ·rw [cutT,if_pos h,h]
instance sCutTree_i(s:List GSchema)(l:List GNode)(cs:List Str):Ctr lim Tryz.prog 62 [] [.sl false 19 (s.map (encSchema false)),.sl false 3 (l.map (encNode false)),.sl false 1 (cs.map AV.str)] (.tup [.sl true 3 ((cutT s l cs).map (encNode true)),.v (.bool (isTree s l))]) [] (wtS s≤1048576∧wt l≤1048576):=by
 refine Ctr.of_body en62 Tryz.func62 rfl rfl fun hp=>(?_);rw [Tryz.ntmps62]
 have gOn:=GrOn.on
 obtain ⟨h1,h2⟩:=hp
 (refine vU ?_;with_reducible repeat' first|exact Le.l|refine Sw ?_ ?_|intro h)
 ·rw [cutT,if_neg (by rw [h];simp),h];rfl
 ·rw [cutT,if_pos h,h]
end Go.Proofs.YtmcjbaafmjlblaaGreatDoor
namespace Go.Proofs.YtmcjbaafmjlblaaGreatDoor
open Go.Ab Go.Dt
set_option maxRecDepth 20000
set_option maxHeartbeats 4000000
theorem enEdit_c(x:GEdit):(encEdit true x).closed=true:=by
 rw [encEdit_eq]
 simp only [AV.closed,AV.closedL,closedL_mem x.fKids (fun y hy=>enEdit_c y),Bool.true_and,Bool.and_true]
termination_by SizeOf.sizeOf x
decreasing_by have:=List.sizeOf_lt_of_mem hy;cases x;simp [GEdit.fKids] at *;omega
theorem enEdit_cl(l:List GEdit):AV.closedL (l.map (encEdit true))=true:=closedL_mem l fun x _=>enEdit_c x
attribute [local go_sem] encEditS frzL_str encSchemaM_frz encNodeM_frz encEditM_frz edsAll edsOne ediAll ediOne enEdit_cl
instance markW_i(x:GWatcher)(k:Int):ICtr lim Tryz.prog 31 true [.sl true 1 (x.fNames.map AV.str),.sl true 3 (x.fSeen.map (encNode true)),.sl true 1 (x.fNotices.map (encEditS true))] [.v (.int .i64 k)] (.v (.int .i64 (mkL stEditS x.fNotices (mkL stNode x.fSeen (mkL stString x.fNames k).2).2).2)) [.sl true 1 ((mkL stString x.fNames k).1.map AV.str),.sl true 3 ((mkL stNode x.fSeen (mkL stString x.fNames k).2).1.map (encNode true)),.sl true 1 ((mkL stEditS x.fNotices (mkL stNode x.fSeen (mkL stString x.fNames k).2).2).1.map (encEditS true))] ((0≤k∧(mkL stEditS x.fNotices (mkL stNode x.fSeen (mkL stString x.fNames k).2).2).2≤1099511627776)∧x.fNotices.length≤1048576):=by
 refine ⟨en31,fun hp=>InC.of_body Tryz.func31 rfl rfl rfl (fun hs=>rfl) (fun hs=>rfl) (fun hs=>rfl) rfl fun hs=>?_⟩
 rw [Tryz.ntmps31]
 have g0:=mkL_up stString_ge x.fNames k
 have g1:=mkL_up stNode_ge x.fSeen (mkL stString x.fNames k).2
 have g2:=mkL_mono (f:=stEditS) stEditS_ge0 x.fNotices (mkL stNode x.fSeen (mkL stString x.fNames k).2).2
 (refine bX ?_;with_reducible repeat' first|exact Le.l|refine Sw ?_ ?_|intro h)
 refine AW.ret (EndsG.inp h rfl ?_)
 simp (maxSteps:=2000000) (disch:=omega) only [go_sem]
instance heldW_i(x:GWatcher)(k:Int):Ctr lim Tryz.prog 32 [] [.agg [.sl false 1 ((mkL stString x.fNames k).1.map AV.str),.sl false 3 ((mkL stNode x.fSeen (mkL stString x.fNames k).2).1.map (encNode false)),.sl false 1 ((mkL stEditS x.fNotices (mkL stNode x.fSeen (mkL stString x.fNames k).2).2).1.map (encEditS false))],.v (.int .i64 k)] (.v (.int .i64 (mkL stEditS x.fNotices (mkL stNode x.fSeen (mkL stString x.fNames k).2).2).2)) [] ((0≤k∧(mkL stEditS x.fNotices (mkL stNode x.fSeen (mkL stString x.fNames k).2).2).2≤1099511627776)∧x.fNotices.length≤1048576):=by
 refine Ctr.of_body en32 Tryz.func32 rfl rfl fun hp=>(?_);rw [Tryz.ntmps32]
 have g0:=mkL_up stString_ge x.fNames k
 have g1:=mkL_up stNode_ge x.fSeen (mkL stString x.fNames k).2
 have g2:=mkL_mono (f:=stEditS) stEditS_ge0 x.fNotices (mkL stNode x.fSeen (mkL stString x.fNames k).2).2
 all_goals exact uU
instance iTell_i(s:List GSchema)(x:GWatcher)(a b:List GNode):Ctr lim Tryz.prog 27 [] [.sl false 19 (s.map (encSchema false)),.agg [.sl false 1 (x.fNames.map AV.str),.sl false 3 (x.fSeen.map (encNode false)),.sl false 1 (x.fNotices.map (encEditS false))],.sl false 3 (a.map (encNode false)),.sl false 3 (b.map (encNode false))] (.tup [.agg [.sl true 1 (x.fNames.map AV.str),.sl true 3 (x.fSeen.map (encNode true)),.sl true 1 ((telN s x a b).map (encEditS true))],.v (.bool (telB s x a b))]) [] (wtS s≤1048576∧wt a≤1048576∧wt b≤1048576):=by
 refine Ctr.of_body en27 Tryz.func27 rfl rfl fun hp=>(?_);rw [Tryz.ntmps27]
 have gOn:=GrOn.on
 obtain ⟨h1,h2,h3⟩:=hp
 (refine vK ?_;with_reducible repeat' first|exact Le.l|refine Sw ?_ ?_|intro h)
 ·have ht:=h
  clear h
  rename Nat=>b2
  have hta:=cutT_tree x.fNames ht.1
  have htb:=cutT_tree x.fNames ht.2
  have hwa:=wt_cutT s a x.fNames
  have hwb:=wt_cutT s b x.fNames
  (refine AW.i rfl (fun h=>?_) (fun h=>?_)<;>try simp only [hC,reduceCtorEq] at h)
  ·have hB:telB s x a b=false:=by rw [telB];grind
   rw [telN_n hB,hB]
   all_goals exact uU
  have hB:telB s x a b=true:=by rw [telB];grind
  rw [telN_y hB,hB,telD ht.1 ht.2]
  have hn20:x.fNotices.length<20:=by have:=h.2;omega
  clear h
  refine AW.imp (Imp.unfoldO2 (b0:=b2) (k:=2) (sz:=1) (l:=x.fNotices.map (encEditS true)) (O_eq _ _ _) rfl (map_elem (fun _=>rfl) _) (fun g hg'=>?_) (fun hnil=>?_))
  ·have hb1:=hg'.nf
   simp only [go_sem] at hb1
   simp only [List.set_cons_zero,List.set_cons_succ,List.length_map]
   (refine vN ?_;with_reducible repeat' first|exact Le.l|refine Sw ?_ ?_|intro h)
   refine Z ?_
   (refine vN ?_;with_reducible repeat' first|exact Le.l|refine Sw ?_ ?_|intro h)
   ·rw [flat_elem_len (sz:=1) (map_elem (fun _=>rfl) _),List.length_map,Nat.mul_one]
   rename Nat=>g2
   refine AW.imp (Imp.foldO (b0:=b2) (k:=2) (b:=g2) (sz:=1) (len:=x.fNotices.length+1) (cells0:=[.sl true 1 (x.fNames.map AV.str),.sl true 3 (x.fSeen.map (encNode true)),.arr g2 0 (x.fNotices.length+1) 1]) (cells:=(x.fNotices.map (encEditS true)).flatMap AV.cells++[encEditS true (dif s (cutT s a x.fNames) (cutT s b x.fNames))]) (l:=(x.fNotices++[dif s (cutT s a x.fNames) (cutT s b x.fNames)]).map (encEditS true)) gO rfl gO (by grind) (by rw [List.length_map,List.length_append];rfl) (by rw [List.map_append,List.flatMap_append,List.take_of_length_le (by rw [List.length_append,flat_elem_len (sz:=1) (map_elem (fun _=>rfl) _),List.length_map,Nat.mul_one];simp)];rfl) (map_elem (fun _=>rfl) _) ?_)
   simp only [List.set_cons_zero,List.set_cons_succ]
   all_goals exact uU
  ·simp only [List.set_cons_zero,List.set_cons_succ]
   have hkn:x.fNotices=[]:=by simpa using hnil
   (refine vK ?_;with_reducible repeat' first|exact Le.l|refine Sw ?_ ?_|intro h)
   rw [hkn];try rfl
 ·exfalso;grind
 ·rename_i ht _
  have hB:telB s x a b=false:=by rw [telB];grind
  rw [telN_n hB,hB]
  (refine AW.i rfl (fun h=>?_) (fun h=>?_)<;>try simp only [hC,reduceCtorEq] at h)
  ·all_goals exact uU
  ·exfalso;grind
end Go.Proofs.YtmcjbaafmjlblaaGreatDoor
namespace Go.Proofs.YtmcjbaafmjlblaaGreatDoor
open Go.Ab Go.Dt
set_option maxRecDepth 20000
set_option maxHeartbeats 4000000
attribute [local go_sem] encEditS frzL_str encSchemaM_frz encNodeM_frz encEditM_frz edsAll edsOne ediAll ediOne enEdit_cl
instance sTell_i(s:List GSchema)(x:GWatcher)(a b:List GNode):Ctr lim Tryz.prog 24 [] [.sl false 19 (s.map (encSchema false)),.agg [.sl false 1 (x.fNames.map AV.str),.sl false 3 (x.fSeen.map (encNode false)),.sl false 1 (x.fNotices.map (encEditS false))],.sl false 3 (a.map (encNode false)),.sl false 3 (b.map (encNode false))] (.tup [.agg [.sl true 1 (x.fNames.map AV.str),.sl true 3 (x.fSeen.map (encNode true)),.sl true 1 ((telN s x a b).map (encEditS true))],.v (.bool (telB s x a b))]) [] (wtS s≤1048576∧wt a≤1048576∧wt b≤1048576):=by
 refine Ctr.of_body en24 Tryz.func24 rfl rfl fun hp=>(?_);rw [Tryz.ntmps24]
 have gOn:=GrOn.on
 obtain ⟨h1,h2,h3⟩:=hp
 have hwa:=wt_cutT s a x.fNames
 have hwb:=wt_cutT s b x.fNames
 (refine vU ?_;with_reducible repeat' first|exact Le.l|refine Sw ?_ ?_|intro h)
 ·rename_i hg
  have hB:telB s x a b=false:=by
   have hm:=difT_nil (cutT_tree x.fNames hg.1) (cutT_tree x.fNames hg.2)
   rw [telB]
   rcases h with h|h
   ·have:(difT s (cutT s a x.fNames) (cutT s b x.fNames)).isEmpty=true:=by rw [List.isEmpty_iff_length_eq_zero];omega
    rw [← hm,this];simp
   ·have:¬ x.fNotices.length<20:=by omega
    simp [this]
  rw [telN_n hB,hB]
 ·rename_i hg
  have hB:telB s x a b=true:=by
   have hm:=difT_nil (cutT_tree x.fNames hg.1) (cutT_tree x.fNames hg.2)
   have:(difT s (cutT s a x.fNames) (cutT s b x.fNames)).isEmpty=false:=by
    rw [Bool.eq_false_iff,ne_eq,List.isEmpty_iff_length_eq_zero];have:=h.1;omega
   have h4:x.fNotices.length<20:=by have:=h.2;omega
   rw [telB,← hm,this,hg.1,hg.2];simp [h4]
  rw [telN_y hB,hB,List.map_append];rfl
 ·rename_i hg
  have hB:telB s x a b=false:=by
   rw [telB]
   rcases hg with h|h<;>rw [h]<;>simp
  rw [telN_n hB,hB]
 ·rename_i hg
  exfalso;rcases hg with hg|hg
  ·rw [hg] at h;simp at h
  ·rw [hg] at h;simp at h
end Go.Proofs.YtmcjbaafmjlblaaGreatDoor
namespace Go.Dt
open Go Go.Ab
def tpWatcher(x:GWatcher)(k:Int):GWatcher×Int:=(⟨(mkL stString x.fNames k).1,(mkL stNode x.fSeen (mkL stString x.fNames k).2).1,(mkL stEditS x.fNotices (mkL stNode x.fSeen (mkL stString x.fNames k).2).2).1⟩,(mkL stEditS x.fNotices (mkL stNode x.fSeen (mkL stString x.fNames k).2).2).2)
theorem tpWatcher_ge(x:GWatcher)(k:Int):k≤(tpWatcher x k).2:=by
 have g0:=mkL_up stString_ge x.fNames k
 have g1:=mkL_up stNode_ge x.fSeen (mkL stString x.fNames k).2
 have g2:=mkL_mono (f:=stEditS) stEditS_ge0 x.fNotices (mkL stNode x.fSeen (mkL stString x.fNames k).2).2
 simp only [tpWatcher];omega
theorem tpWatcher_cap(x:GWatcher)(k r:Int)(h0:0≤r)(h:0≤szWatcher x r):(tpWatcher x k).2≤k+32 * (r - szWatcher x r):=by
 simp only [tpWatcher]
 unfold szWatcher at h ⊢
 obtain ⟨a0,h⟩:=thn_get h
 rw [thn_posK a0]
 have q0:=mkL_cap szStr_le stString_cap x.fNames k r h0 a0
 obtain ⟨a1,h⟩:=thn_get h
 rw [thn_posK a1]
 have q1:=mkL_cap szNode_le stNode_cap x.fSeen (mkL stString x.fNames k).2 (szSl szStr x.fNames r) a0 a1
 obtain ⟨a2,h⟩:=thn_get h
 rw [thn_posK a2]
 have q2:=mkL_cap szEditS_le stEditS_cap x.fNotices (mkL stNode x.fSeen (mkL stString x.fNames k).2).2 (szSl szNode x.fSeen (szSl szStr x.fNames r)) a1 a2
 simp only [id]
 omega
theorem szWatcher_len{x:GWatcher}{r:Int}(h0:0≤r)(h1:r≤1048576)(h:0≤szWatcher x r):x.fNotices.length≤1048576:=by
 unfold szWatcher at h
 obtain ⟨a0,h⟩:=thn_get h
 obtain ⟨a1,h⟩:=thn_get h
 obtain ⟨a2,h⟩:=thn_get h
 have l0:=szSl_le szStr szStr_le x.fNames r h0
 have l1:=szSl_le szNode szNode_le x.fSeen (szSl szStr x.fNames r) a0
 rcases Int.lt_or_le (szSl szNode x.fSeen (szSl szStr x.fNames r) - x.fNotices.length) 0 with h2|h2
 ·rw [szSl_neg h2] at a2;omega
 ·omega
theorem telN_le{s:List GSchema}{x:GWatcher}{a b:List GNode}(h:x.fNotices.length≤1048576):(telN s x a b).length≤1048576:=by
 rw [telN];split
 ·rename_i h2
  simp only [telB,Bool.and_eq_true,decide_eq_true_eq] at h2
  simp;omega
 ·exact h
theorem telN_cap(s:List GSchema)(x:GWatcher)(a b:List GNode)(k:Int):(mkL stEditS (telN s x a b) k).2≤(mkL stEditS x.fNotices k).2+1048576:=by
 rw [telN];split
 ·rw [mkE_snoc,stEditS,mkE_cnt]
  have:=difT_cap s (cutT s a x.fNames) (cutT s b x.fNames)
  rw [mkE_cnt] at this
  omega
 ·omega
theorem tellCap(s:List GSchema)(x:GWatcher)(a b:List GNode){r:Int}(h0:0≤r)(h1:r≤1048576)(h:0≤szWatcher x r):(mkL stEditS (telN s x a b) (mkL stNode x.fSeen (mkL stString x.fNames 1).2).2).2≤134217728:=by
 have c:=tpWatcher_cap x 1 r h0 h
 have d:=telN_cap s x a b (mkL stNode x.fSeen (mkL stString x.fNames 1).2).2
 simp only [tpWatcher] at c
 omega
end Go.Dt
namespace Go.Proofs.YtmcjbaafmjlblaaGreatDoor
open Go.Ab Go.Dt
set_option maxRecDepth 20000
theorem enEditS_cl(l:List (List GEdit)):AV.closedL (l.map (encEditS true))=true:=closedL_mem l fun x _=>by simp only [encEditS,AV.closed,enEdit_cl,Bool.and_self]
instance eqW_z(L:Nat→Nat)[hL:Lok L](a:List Str)(b:List GNode)(c:List (List GEdit)):Ctr L Tryz.prog 28 [] [.agg [.sl false 1 (a.map AV.str),.sl false 3 (b.map (encNode false)),.sl false 1 (c.map (encEditS false))],.agg [.sl false 1 (a.map AV.str),.sl false 3 (b.map (encNode false)),.sl false 1 (c.map (encEditS false))]] (.v (.bool true)) [] True:=eqWatcher_i L ⟨a,b,c⟩
instance markW_z(a:List Str)(b:List GNode)(c:List (List GEdit))(k:Int):ICtr lim Tryz.prog 31 true [.sl true 1 (a.map AV.str),.sl true 3 (b.map (encNode true)),.sl true 1 (c.map (encEditS true))] [.v (.int .i64 k)] (.v (.int .i64 (mkL stEditS c (mkL stNode b (mkL stString a k).2).2).2)) [.sl true 1 ((mkL stString a k).1.map AV.str),.sl true 3 ((mkL stNode b (mkL stString a k).2).1.map (encNode true)),.sl true 1 ((mkL stEditS c (mkL stNode b (mkL stString a k).2).2).1.map (encEditS true))] ((0≤k∧(mkL stEditS c (mkL stNode b (mkL stString a k).2).2).2≤1099511627776)∧c.length≤1048576):=markW_i ⟨a,b,c⟩ k
instance heldW_z(a:List Str)(b:List GNode)(c:List (List GEdit))(k:Int):Ctr lim Tryz.prog 32 [] [.agg [.sl false 1 ((mkL stString a k).1.map AV.str),.sl false 3 ((mkL stNode b (mkL stString a k).2).1.map (encNode false)),.sl false 1 ((mkL stEditS c (mkL stNode b (mkL stString a k).2).2).1.map (encEditS false))],.v (.int .i64 k)] (.v (.int .i64 (mkL stEditS c (mkL stNode b (mkL stString a k).2).2).2)) [] ((0≤k∧(mkL stEditS c (mkL stNode b (mkL stString a k).2).2).2≤1099511627776)∧c.length≤1048576):=heldW_i ⟨a,b,c⟩ k
end Go.Proofs.YtmcjbaafmjlblaaGreatDoor
namespace Go.Ab
section
variable {L : Nat → Nat} {P : Program} {n : Nat}
def TailC(P:Program)(ops:Array Oper)(n:Nat)(o:Sto)(D:List (AV×List Nat))(t:List (Nat×AV))(R:List Nat→List (Nat×AV)→Sto→Prop):Prop :=
 match ops[D.length]? with
 | some oa=>match oa.op with
  | .alloc ty'=>match oa.dst with
   | some d=>match ops[D.length+1]? with
    | some ob=>match ob.op with
     | .store ty2 (.tmp d') (.tmp v)=>match zer P ty' with
      | some zs=>match ty P ty2 with
       | some (_,m)=>(Nat.beq d' d=true∧Nat.beq v d=false∧Nat.beq m zs.length=true∧oa.guard.isNone=true∧ob.guard.isNone=true∧ob.dst.isNone=true∧dstOK n (some d)=true) ∧
        (T t v).elem m=true∧(T t v).cells.all AV.one=true∧drawOK ops (D.map Prod.snd++[[],kills t [.tmp v]])=true ∧
        ∀ b,nfO o b→R (List.range' (D.length+2) (ops.size - (D.length+2))) (killL (put t (some d) (.ptr b 0)) (kills t [.tmp v])) ((b,some (T t v).cells)::o)
       | none=>False
      | none=>False
     | _=>False
    | none=>False
   | none=>False
  | _=>drawOK ops (D.map Prod.snd)=true∧R (List.range' D.length (ops.size - D.length)) t o
 | none=>drawOK ops (D.map Prod.snd)=true∧R (List.range' D.length (ops.size - D.length)) t o
theorem TailC.out{ops:Array Oper}{o:Sto}{D:List (AV×List Nat)}{t:List (Nat×AV)}{R:List Nat→List (Nat×AV)→Sto→Prop}(h:TailC P ops n o D t R) :
  (drawOK ops (D.map Prod.snd)=true∧R (List.range' D.length (ops.size - D.length)) t o) ∨
  ∃ oa ob ty' ty2 zs d v g,ops[D.length]? = some oa∧oa.guard=none∧oa.op=.alloc ty'∧dstOK n oa.dst=true∧zer P ty'=some zs ∧
   ops[D.length+1]? = some ob∧ob.guard=none∧ob.op=.store ty2 (.tmp d) (.tmp v)∧ob.dst=none∧oa.dst=some d∧v≠d∧ty P ty2=some (g,zs.length)∧(T t v).elem zs.length=true∧(T t v).cells.all AV.one=true∧drawOK ops (D.map Prod.snd++[[],kills t [.tmp v]])=true ∧
   ∀ b,Fresh o b→R (List.range' (D.length+2) (ops.size - (D.length+2))) (upd ob .dead (kills t [.tmp v]) (upd oa (.ptr b 0) [] t)) ((b,some (T t v).cells)::o):=by
 unfold TailC at h
 split at h
 ·rename_i oa hoa
  split at h
  ·rename_i ty' hop
   split at h
   ·rename_i d hd
    split at h
    ·rename_i ob hob
     split at h
     ·rename_i ty2 d' v hopb
      split at h
      ·rename_i zs hz
       split at h
       ·rename_i g m ht
        obtain ⟨⟨h1,h2,h3,h4,h5,h6,h7⟩,h8,h9,h10,h11⟩:=h
        have e1:=Nat.eq_of_beq_eq_true h1
        have e3:=Nat.eq_of_beq_eq_true h3
        subst e1 e3
        have e6:ob.dst=none:=by simpa using h6
        refine .inr ⟨oa,ob,ty',ty2,zs,d',v,g,hoa,by simpa using h4,hop,by rw [hd];exact h7,hz,hob,by simpa using h5,hopb,e6,hd,Nat.ne_of_beq_eq_false h2,ht,h8,h9,h10,fun b hb=>?_⟩
        have:=h11 b hb.nf
        simp only [upd,killL,hd,e6] at this ⊢
        exact this
       ·exact h.elim
      ·exact h.elim
     ·exact h.elim
    ·exact h.elim
   ·exact h.elim
  ·exact .inl h
 ·exact .inl h
variable {t : List (Nat × AV)} {o : Sto} {Q : Exit → AS → Prop} {id : Nat} {ops : Array Oper}
theorem DrawG.or{A A':List (Nat×AV)→List (AV×List Nat)→Prop}{i:Nat}{D:List (AV×List Nat)}(h:DrawG L P ops n o (fun t D=>A t D∨A' t D) i t D):DrawG L P ops n o A i t D∨DrawG L P ops n o A' i t D:=by
 induction h with
 | done h=>exact h.imp .done .done
 | step o x C h1 h2 _ ih=>exact ih.imp (.step o x C h1 h2) (.step o x C h1 h2)
theorem DrawG.mono{A A':List (Nat×AV)→List (AV×List Nat)→Prop}{i:Nat}{D:List (AV×List Nat)}(h:DrawG L P ops n o A i t D)(hA:∀ t D,A t D→A' t D):DrawG L P ops n o A' i t D:=by
 induction h with
 | done h=>exact .done (hA _ _ h)
 | step o x C h1 h2 _ ih=>exact .step o x C h1 h2 ih
theorem AW.drawC [MixOK P]{K0:AS→Prop}(hQ:∀ s,K0 s→Q .normal s)
  (h:∀ K:List (Nat×AV)→List (AV×List Nat)→Prop,(∀ t D,TailC P ops n o D t (fun l t o=>OpsW L P ops l ⟨n,t,o⟩ K0)→K t D)→W L P ops [] n o (fun t D _=>K t D) (List.range' 0 ops.size) t []):AW L P (.region id ops true) ⟨n,t,o⟩ Q:=by
 have h':=W.draw (os:=o) (eff:=[]) _ 0 _ _ rfl (h _ (fun t D h=>h))
 have hm:∀ {l:List Nat} {s:AS},OpsW L P ops l s K0→OpsW L P ops l s (fun s'=>Q .normal s'):=fun h B F0 w0 a w Q' hd hq=>h B F0 w0 a w Q' hd fun s' a' w' hk=>hq s' a' w' (hQ _ hk)
 have h2:DrawG L P ops n o (fun t D=>(drawOK ops (D.map Prod.snd)=true∧OpsW L P ops (List.range' D.length (ops.size - D.length)) ⟨n,t,o⟩ (fun s'=>Q .normal s')) ∨
   ∃ oa ob ty' ty2 zs d v g,ops[D.length]? = some oa∧oa.guard=none∧oa.op=.alloc ty'∧dstOK n oa.dst=true∧zer P ty'=some zs ∧
   ops[D.length+1]? = some ob∧ob.guard=none∧ob.op=.store ty2 (.tmp d) (.tmp v)∧ob.dst=none∧oa.dst=some d∧v≠d∧ty P ty2=some (g,zs.length)∧(T t v).elem zs.length=true∧(T t v).cells.all AV.one=true∧drawOK ops (D.map Prod.snd++[[],kills t [.tmp v]])=true ∧
   ∀ b,Fresh o b→OpsW L P ops (List.range' (D.length+2) (ops.size - (D.length+2))) ⟨n,upd ob .dead (kills t [.tmp v]) (upd oa (.ptr b 0) [] t),(b,some (T t v).cells)::o⟩ (fun s'=>Q .normal s')) 0 t []:=by
  refine h'.mono fun t D h=>?_
  rcases h.out with h|⟨oa,ob,ty',ty2,zs,d,v,g,h1,h2,h3,h4,h5,h6,h7,h8,h9,h10,h11,h12,h13,h14,h15,h16⟩
  ·exact .inl ⟨h.1,hm h.2⟩
  ·exact .inr ⟨oa,ob,ty',ty2,zs,d,v,g,h1,h2,h3,h4,h5,h6,h7,h8,h9,h10,h11,h12,h13,h14,h15,fun b hb=>hm (h16 b hb)⟩
 rcases h2.or with h2|h2
 ·exact AW.draw h2
 ·exact AW.drawB h2
end
section
variable {L : Nat → Nat} {P : Program} {n : Nat} {t : List (Nat × AV)} {o : Sto} {Q : Exit → AS → Prop} {id : Nat} {ops : Array Oper}
theorem TailC.mono{D:List (AV×List Nat)}{R R':List Nat→List (Nat×AV)→Sto→Prop}(hR:∀ l t o,R l t o→R' l t o)(h:TailC P ops n o D t R):TailC P ops n o D t R':=by
 unfold TailC at h ⊢
 revert h
 repeat' split
 all_goals first
  | exact fun h=>h
  | exact fun h=>⟨h.1,hR _ _ _ h.2⟩
  | exact fun ⟨h1,h2,h3,h4,h5⟩=>⟨h1,h2,h3,h4,fun b hb=>hR _ _ _ (h5 b hb)⟩
theorem AW.drwnC [MixOK P] (h:∀ K:List (Nat×AV)→List (AV×List Nat)→Prop,(∀ t D,TailC P ops n o D t (fun l t o=>∀ K':List (Nat×AV)→Sto→Prop,(∀ t o,Q .normal ⟨n,t,o⟩→K' t o)→Wn L P ops n K' l [] t o)→K t D) →
   W L P ops [] n o (fun t D _=>K t D) (List.range' 0 ops.size) t []):AW L P (.region id ops true) ⟨n,t,o⟩ Q :=
 AW.drawC (K0:=fun s=>Q .normal s) (fun _ h=>h) fun K hK=>h K fun t D h=>hK t D (h.mono fun _ _ _ h=>Wn.toOps (K:=fun t o=>Q .normal ⟨n,t,o⟩) (fun _ _ h=>h) _ _ _ (h _ (fun _ _ h=>h)))
theorem AW.sdrwnC [MixOK P]{c:Code} (h:∀ K:List (Nat×AV)→List (AV×List Nat)→Prop,(∀ t D,TailC P ops n o D t (fun l t o=>∀ K':List (Nat×AV)→Sto→Prop,(∀ t o,AW L P c ⟨n,t,o⟩ Q→K' t o)→Wn L P ops n K' l [] t o)→K t D) →
   W L P ops [] n o (fun t D _=>K t D) (List.range' 0 ops.size) t []):AW L P (.seq (.region id ops true) c) ⟨n,t,o⟩ Q :=
 AW.seq (AW.drawC (K0:=fun s=>AW L P c s Q) (fun _ h=>h) fun K hK=>h K fun t D h=>hK t D (h.mono fun _ _ _ h=>Wn.toOps (K:=fun t o=>AW L P c ⟨n,t,o⟩ Q) (fun _ _ h=>h) _ _ _ (h _ (fun _ _ h=>h))))
instance (priority:=2000) zDrwnC [MixOK P]:Rz (AW L P (.region id ops true) ⟨n,t,o⟩ Q) (∀ K:List (Nat×AV)→List (AV×List Nat)→Prop,(∀ t D,TailC P ops n o D t (fun l t o=>∀ K':List (Nat×AV)→Sto→Prop,(∀ t o,Q .normal ⟨n,t,o⟩→K' t o)→Wn L P ops n K' l [] t o)→K t D) →
   W L P ops [] n o (fun t D _=>K t D) (List.range' 0 ops.size) t []):=⟨AW.drwnC⟩
instance (priority:=2000) zSdrwnC [MixOK P]{c:Code}:Rz (AW L P (.seq (.region id ops true) c) ⟨n,t,o⟩ Q) (∀ K:List (Nat×AV)→List (AV×List Nat)→Prop,(∀ t D,TailC P ops n o D t (fun l t o=>∀ K':List (Nat×AV)→Sto→Prop,(∀ t o,AW L P c ⟨n,t,o⟩ Q→K' t o)→Wn L P ops n K' l [] t o)→K t D) →
   W L P ops [] n o (fun t D _=>K t D) (List.range' 0 ops.size) t []):=⟨AW.sdrwnC⟩
attribute [go_sem] TailC
instance (priority:=2000) cPf{L:Nat→Nat}{P:Program}{os:Sto}{la:List AV}{f:FuncId}{args:List AV}{G:Bool}{K:AV→Prop}{res:AV}{cs:List (Option (List AV))}{pre:Prop}[h:Ctr L P f [] args res cs pre]:Rl (CallP L P os la G f args (K:=⟨K⟩)) (AV.nownL args=true∧(G=true→pre)∧K res.frz) :=
 ⟨fun q=>haveI:Ctr L P f [] args res.frz [] pre:=Ctr.of_pure h.en fun hp=>(h.pure hp).frz;CallP.ctr q.1 q.2.1 q.2.2⟩
end
end Go.Ab
namespace Go.Ab
end Go.Ab
namespace Go.Ab
open Go.Dt
theorem tabIs_mem{P:Program}{W:World}{name:String}{k:IntKind}{zs:List Int}{g:Nat}{t e:TypeId}{n:Nat}
  (hg:P.globalNamed name=some g) (hty:(P.globals[g]?).map (·.type)=some t) (ht:P.underlying t=some (.array n e)) (he:P.underlying e=some (.int k)) (hce:P.cellsOf e=1) (hct:P.cellsOf t=n) :
  ∀ {l:List (String×DataW Unit)} {ps:List MemPlace},(name,Lib.tabData k zs)∈l→DataW.LaidVars P W l ps→Lib.TabIs P W name k zs
 | [],_,hm,_=>by cases hm
 | (nm,d)::r,ps,hm,h=>by
  obtain ⟨g',t',cs,fuel,p,q,hg',ht',hvar,hd,hr,_⟩:=h
  rcases List.mem_cons.1 hm with e1|hm
  ·obtain ⟨rfl,rfl⟩:=Prod.mk.inj e1
   obtain rfl:=Option.some.inj (hg.symm.trans hg')
   obtain rfl:=Option.some.inj (hty.symm.trans ht')
   unfold Lib.TabIs
   rw [hvar,← Lib.cells_of_tab ht he hce hct hd]
  ·exact tabIs_mem hg hty ht he hce hct hm hr
theorem laid_met{P:Program}{os:Os}{laid:List (String×DataW Unit)}(args:Array Value)(hp:(laid.all fun x=>x.2.handleName?.isNone)=true)
  (hf:(World.holding P os ⟨#[],#[],[]⟩).layFits P laid []=true)
  (hi:(World.holding P os ⟨#[],#[],[]⟩).layIfaces P laid (World.laidAll P os laid)=true) :
  laidMetH P laid ((World.laidAll P os laid).forCall (fun _ _=>0) ⟨#[],args,[]⟩).memory:=by
 rw [MakeChecks.laidMetH_plain _ _ _ hp];exact laidMet_laidAll args hf hi
end Go.Ab
