/-
  Part of a proof: We0, We1, MkY.
-/
import Derived.Test.YtmcjbaafmjlblaaGreatDoorG11
import Derived.Test.YtmcjbaafmjlblaaGreatDoorG30
import Derived.Test.YtmcjbaafmjlblaaGreatDoorG33
import Derived.Test.YtmcjbaafmjlblaaGreatDoorG45
import Derived.Test.YtmcjbaafmjlblaaGreatDoorG46
set_option linter.unusedSimpArgs false
set_option linter.unusedVariables false
namespace Go.Proofs.YtmcjbaafmjlblaaGreatDoor
open Go.Ab Go.Dt
set_option maxRecDepth 20000
set_option maxHeartbeats 4000000
attribute [local go_sem] frzL_str encSchemaM_frz encNodeM_frz ediAll ediOne
theorem iCopyEd_n:∀ (n:Nat) (l:List GEdit),Ctr lim Tryz.prog 86 [] [.sl false 4 (l.map (encEdit false))] (.sl true 4 (l.map (encEdit true))) [] (SizeOf.sizeOf l<n)
 | 0,l=>⟨en86,fun h=>absurd h (Nat.not_lt_zero _)⟩
 | n+1,l=>by
  have ih:=iCopyEd_n n
  refine Ctr.of_body en86 Tryz.func86 rfl rfl fun hp=>(?_);rw [Tryz.ntmps86]
  have gOn:=GrOn.on
  refine AW.fact 0 fun hf=>?_
  simp (disch:=omega) only [go_sem] at hf
  (refine vK ?_;with_reducible repeat' first|exact Le.l|refine Sw ?_ ?_|intro h)
  refine AW.loopV [3,9] [7,8] (fun m xs o=>∃ k:Nat,xs=[.sl true 4 ((l.take k).map (encEdit true)),.v (.int .i64 k)]∧o=[]∧m=l.length - k∧k≤l.length) l.length [] trivial ⟨0,?_,rfl,rfl,?_⟩ ?_
  ·rfl
  ·omega
  rintro m xs o ⟨k,rfl,rfl,rfl,hk⟩
  have hlt:(l.take k).length=k:=by rw [List.length_take];omega
  have hkk:k<l.length→SizeOf.sizeOf (at_ l k).fKids<n:=fun h=>by have:=GEdit.kids_lt (at_mem h);omega
  (refine vU ?_;with_reducible repeat' first|exact Le.l|refine Sw ?_ ?_|intro h)
  ·exact ⟨_,[_,_],_,by omega,⟨k+1,by rw [take_at' (by assumption),List.map_append,List.map_cons,List.map_nil,encEdit_eq],rfl,rfl,by omega⟩,rfl,by simp (maxSteps:=2000000) (disch:=omega) only [go_sem]⟩
  ·rw [show k=l.length by omega,List.take_length]
theorem sCopyEd_n:∀ (n:Nat) (l:List GEdit),Ctr lim Tryz.prog 85 [] [.sl false 4 (l.map (encEdit false))] (.sl true 4 (l.map (encEdit true))) [] (SizeOf.sizeOf l<n)
 | 0,l=>⟨en85,fun h=>absurd h (Nat.not_lt_zero _)⟩
 | n+1,l=>by
  have ih:=sCopyEd_n n
  refine Ctr.of_body en85 Tryz.func85 rfl rfl fun hp=>(?_);rw [Tryz.ntmps85]
  have gOn:=GrOn.on
  refine AW.fact 0 fun hf=>?_
  simp (disch:=omega) only [go_sem] at hf
  (refine vK ?_;with_reducible repeat' first|exact Le.l|refine Sw ?_ ?_|intro h)
  refine AW.loopV [3,4] [0] (fun m xs o=>∃ k:Nat,xs=[.sl true 4 ((l.take k).map (encEdit true)),.v (.int .i64 k)]∧o=[]∧m=l.length - k∧k≤l.length) l.length [] trivial ⟨0,?_,rfl,rfl,?_⟩ ?_
  ·rfl
  ·omega
  rintro m xs o ⟨k,rfl,rfl,rfl,hk⟩
  have hlt:(l.take k).length=k:=by rw [List.length_take];omega
  have hkk:k<l.length→SizeOf.sizeOf (at_ l k).fKids<n:=fun h=>by have:=GEdit.kids_lt (at_mem h);omega
  (refine vK ?_;with_reducible repeat' first|exact Le.l|refine Sw ?_ ?_|intro h)
  (refine AW.i rfl (fun h=>?_) (fun h=>?_)<;>try simp only [hC,reduceCtorEq] at h)
  ·(refine vN ?_;with_reducible repeat' first|exact Le.l|refine Sw ?_ ?_|intro h)
   refine Z ?_
   intro K hK
   simp (maxSteps:=2000000) (disch:=omega) only [go_sem]
   refine Y ?_
   simp (maxSteps:=2000000) (disch:=omega) only [go_sem]
   refine And.intro (hkk h) (And.intro (by decide) (And.intro (by decide) ?_))
   refine Y ?_
   simp (maxSteps:=2000000) (disch:=omega) only [go_sem]
   refine And.intro ⟨by omega,by omega,by omega⟩ ?_
   refine hK _ _ ⟨Ct,?_⟩
   clear hK K
   intro K hK
   simp (maxSteps:=2000000) (disch:=omega) only [go_sem]
   refine hK _ _ ?_
   clear hK K
   (refine vU ?_;with_reducible repeat' first|exact Le.l|refine Sw ?_ ?_|intro h)
   exact ⟨_,[_,_],_,by omega,⟨k+1,by rw [take_at' (by assumption),List.map_append,List.map_cons,List.map_nil,encEdit_eq],rfl,rfl,by omega⟩,rfl,by simp (maxSteps:=2000000) (disch:=omega) only [go_sem]⟩
  ·(refine vU ?_;with_reducible repeat' first|exact Le.l|refine Sw ?_ ?_|intro h)
   rw [show k=l.length by omega,List.take_length]
instance iCopyEd_i(l:List GEdit):Ctr lim Tryz.prog 86 [] [.sl false 4 (l.map (encEdit false))] (.sl true 4 (l.map (encEdit true))) [] True:=⟨en86,fun _=>(iCopyEd_n (SizeOf.sizeOf l+1) l).out (Nat.lt_succ_self _)⟩
instance sCopyEd_i(l:List GEdit):Ctr lim Tryz.prog 85 [] [.sl false 4 (l.map (encEdit false))] (.sl true 4 (l.map (encEdit true))) [] True:=⟨en85,fun _=>(sCopyEd_n (SizeOf.sizeOf l+1) l).out (Nat.lt_succ_self _)⟩
end Go.Proofs.YtmcjbaafmjlblaaGreatDoor
namespace Go.Proofs.YtmcjbaafmjlblaaGreatDoor
open Go.Ab Go.Dt
set_option maxRecDepth 20000
set_option maxHeartbeats 4000000
attribute [local go_sem] frzL_str encSchemaM_frz encNodeM_frz ediAll ediOne encEditS
theorem edsAll(o:Bool)(l:List (List GEdit)):(l.map (encEditS o)).all (AV.elem 1)=true:=map_all_elem (fun _=>rfl) l
theorem edsOne(o:Bool)(l:List (List GEdit)):((l.map (encEditS o)).flatMap AV.cells).all AV.one=true:=map_all_one (fun _=>rfl) l
attribute [local go_sem] edsAll edsOne
instance iCopyW_i(x:GWatcher):Ctr lim Tryz.prog 66 [] [.agg [.sl false 1 (x.fNames.map AV.str),.sl false 3 (x.fSeen.map (encNode false)),.sl false 1 (x.fNotices.map (encEditS false))]] (.agg [.sl true 1 (x.fNames.map AV.str),.sl true 3 (x.fSeen.map (encNode true)),.sl true 1 (x.fNotices.map (encEditS true))]) [] True:=by
 refine Ctr.of_body en66 Tryz.func66 rfl rfl fun hp=>(?_);rw [Tryz.ntmps66]
 have gOn:=GrOn.on
 refine AW.aggSl 0 rfl (xs:=x.fNames.map AV.str) (own:=false) (sz:=1) (by simp) fun hf=>?_
 refine AW.aggSl 0 rfl (xs:=x.fNotices.map (encEditS false)) (own:=false) (sz:=1) (by simp) fun hg=>?_
 simp (disch:=omega) only [go_sem] at hf hg
 (refine vN ?_;with_reducible repeat' first|exact Le.l|refine Sw ?_ ?_|intro h)
 refine Z ?_
 (refine vN ?_;with_reducible repeat' first|exact Le.l|refine Sw ?_ ?_|intro h)
 rename Nat=>b1
 first|refine AW.sdrwnA ?_|refine AW.drwnA ?_
 (refine vN ?_;with_reducible repeat' first|exact Le.l|refine Sw ?_ ?_|intro h)
 rename Nat=>b2
 refine AW.imp (Imp.nilOT (b:=b2) 1 [.sl true 1 (x.fNames.map AV.str),.sl true 3 (x.fSeen.map (encNode true))] [] gO ?_)
 simp (maxSteps:=2000000) (disch:=omega) only [go_sem]
 (refine vK ?_;with_reducible repeat' first|exact Le.l|refine Sw ?_ ?_|intro h)
 refine AW.loopW [17] [1,2,3,15,16] (fun m xs o=>∃ k:Nat,xs=[.v (.int .i64 k)]∧o=[(b2,some [.sl true 1 (x.fNames.map AV.str),.sl true 3 (x.fSeen.map (encNode true)),.sl true 1 ((x.fNotices.take k).map (encEditS true))]),(b1,some [.v (.slice none 0 0),.v (.slice none 0 0),.v (.slice none 0 0)])]∧m=x.fNotices.length - k∧k≤x.fNotices.length) x.fNotices.length [(b2,some [.sl true 1 (x.fNames.map AV.str),.sl true 3 (x.fSeen.map (encNode true)),.sl true 1 ((x.fNotices.take 0).map (encEditS true))]),(b1,some [.v (.slice none 0 0),.v (.slice none 0 0),.v (.slice none 0 0)])] gO ⟨0,rfl,rfl,rfl,by omega⟩ ?_
 rintro m xs o ⟨k,rfl,rfl,rfl,hk⟩
 have hlt:(x.fNotices.take k).length=k:=by rw [List.length_take];omega
 (refine vK ?_;with_reducible repeat' first|exact Le.l|refine Sw ?_ ?_|intro h)
 (refine AW.i rfl (fun h=>?_) (fun h=>?_)<;>try simp only [hC,reduceCtorEq] at h)
 ·refine AW.imp (Imp.unfoldO2 (b0:=b2) (k:=2) (sz:=1) (l:=(x.fNotices.take k).map (encEditS true)) (O_eq _ _ _) rfl (map_elem (fun _=>rfl) _) (fun g hg'=>?_) (fun hnil=>?_))
  ·have hb1:=hg'.nf
   simp only [go_sem] at hb1
   simp only [List.set_cons_zero,List.set_cons_succ,List.length_map]
   (refine vU ?_;with_reducible repeat' first|exact Le.l|refine Sw ?_ ?_|intro h)
   ·rw [flat_elem_len (sz:=1) (map_elem (fun _=>rfl) _),List.length_map,Nat.mul_one]
   rename Nat=>g2
   refine Imp.foldA (b0:=b2) (k:=2) (b:=g2) (sz:=1) (cells0:=[.sl true 1 (x.fNames.map AV.str),.sl true 3 (x.fSeen.map (encNode true)),.arr g2 0 ((x.fNotices.take k).length+1) 1]) (l:=(x.fNotices.take k).map (encEditS true)) (encEditS true (at_ x.fNotices k)) gO (by rw [List.length_map];rfl) (by simp (maxSteps:=2000000) (disch:=omega) only [go_sem];try rfl) (by omega) (map_elem (fun _=>rfl) _) rfl ?_
   simp only [List.set_cons_zero,List.set_cons_succ]
   exact ⟨trivial,_,[_],_,by omega,⟨k+1,rfl,rfl,rfl,by omega⟩,rfl,by rw [take_at' (by assumption),List.map_append];simp (maxSteps:=2000000) (disch:=omega) only [go_sem];try rfl⟩
  ·simp only [List.set_cons_zero,List.set_cons_succ,hnil]
   (refine vU ?_;with_reducible repeat' first|exact Le.l|refine Sw ?_ ?_|intro h)
   have hk0:k=0:=by rw [List.map_eq_nil_iff] at hnil;rw [hnil] at hlt;exact hlt.symm
   subst hk0
   refine Imp.id ?_
   simp (maxSteps:=2000000) (disch:=omega) only [go_sem]
   exact ⟨_,[_],_,by omega,⟨1,rfl,rfl,rfl,by omega⟩,rfl,by rw [take_at' (by assumption)];simp (maxSteps:=2000000) (disch:=omega) only [go_sem];try rfl⟩
 ·rw [show k=x.fNotices.length by omega,List.take_length]
  all_goals exact uU
instance sCopyW_i(x:GWatcher):Ctr lim Tryz.prog 61 [] [.agg [.sl false 1 (x.fNames.map AV.str),.sl false 3 (x.fSeen.map (encNode false)),.sl false 1 (x.fNotices.map (encEditS false))]] (.agg [.sl true 1 (x.fNames.map AV.str),.sl true 3 (x.fSeen.map (encNode true)),.sl true 1 (x.fNotices.map (encEditS true))]) [] True:=by
 refine Ctr.of_body en61 Tryz.func61 rfl rfl fun hp=>(?_);rw [Tryz.ntmps61]
 have gOn:=GrOn.on
 refine AW.aggSl 0 rfl (xs:=x.fNames.map AV.str) (own:=false) (sz:=1) (by simp) fun hf=>?_
 refine AW.aggSl 0 rfl (xs:=x.fNotices.map (encEditS false)) (own:=false) (sz:=1) (by simp) fun hg=>?_
 simp (disch:=omega) only [go_sem] at hf hg
 (refine vN ?_;with_reducible repeat' first|exact Le.l|refine Sw ?_ ?_|intro h)
 refine Z ?_
 (refine vN ?_;with_reducible repeat' first|exact Le.l|refine Sw ?_ ?_|intro h)
 rename Nat=>b1
 first|refine AW.sdrwnA ?_|refine AW.drwnA ?_
 (refine vN ?_;with_reducible repeat' first|exact Le.l|refine Sw ?_ ?_|intro h)
 rename Nat=>b2
 refine AW.imp (Imp.nilOT (b:=b2) 1 [.sl true 1 (x.fNames.map AV.str),.sl true 3 (x.fSeen.map (encNode true))] [] gO ?_)
 simp (maxSteps:=2000000) (disch:=omega) only [go_sem]
 (refine vK ?_;with_reducible repeat' first|exact Le.l|refine Sw ?_ ?_|intro h)
 refine AW.loopW [4] [1,2,3] (fun m xs o=>∃ k:Nat,xs=[.v (.int .i64 k)]∧o=[(b2,some [.sl true 1 (x.fNames.map AV.str),.sl true 3 (x.fSeen.map (encNode true)),.sl true 1 ((x.fNotices.take k).map (encEditS true))]),(b1,some [.v (.slice none 0 0),.v (.slice none 0 0),.v (.slice none 0 0)])]∧m=x.fNotices.length - k∧k≤x.fNotices.length) x.fNotices.length [(b2,some [.sl true 1 (x.fNames.map AV.str),.sl true 3 (x.fSeen.map (encNode true)),.sl true 1 ((x.fNotices.take 0).map (encEditS true))]),(b1,some [.v (.slice none 0 0),.v (.slice none 0 0),.v (.slice none 0 0)])] gO ⟨0,rfl,rfl,rfl,by omega⟩ ?_
 rintro m xs o ⟨k,rfl,rfl,rfl,hk⟩
 have hlt:(x.fNotices.take k).length=k:=by rw [List.length_take];omega
 (refine vK ?_;with_reducible repeat' first|exact Le.l|refine Sw ?_ ?_|intro h)
 (refine AW.i rfl (fun h=>?_) (fun h=>?_)<;>try simp only [hC,reduceCtorEq] at h)
 ·refine AW.imp (Imp.unfoldO2 (b0:=b2) (k:=2) (sz:=1) (l:=(x.fNotices.take k).map (encEditS true)) (O_eq _ _ _) rfl (map_elem (fun _=>rfl) _) (fun g hg'=>?_) (fun hnil=>?_))
  ·have hb1:=hg'.nf
   simp only [go_sem] at hb1
   simp only [List.set_cons_zero,List.set_cons_succ,List.length_map]
   (refine vU ?_;with_reducible repeat' first|exact Le.l|refine Sw ?_ ?_|intro h)
   ·rw [flat_elem_len (sz:=1) (map_elem (fun _=>rfl) _),List.length_map,Nat.mul_one]
   rename Nat=>g2
   refine Imp.foldA (b0:=b2) (k:=2) (b:=g2) (sz:=1) (cells0:=[.sl true 1 (x.fNames.map AV.str),.sl true 3 (x.fSeen.map (encNode true)),.arr g2 0 ((x.fNotices.take k).length+1) 1]) (l:=(x.fNotices.take k).map (encEditS true)) (encEditS true (at_ x.fNotices k)) gO (by rw [List.length_map];rfl) (by simp (maxSteps:=2000000) (disch:=omega) only [go_sem];try rfl) (by omega) (map_elem (fun _=>rfl) _) rfl ?_
   simp only [List.set_cons_zero,List.set_cons_succ]
   exact ⟨trivial,_,[_],_,by omega,⟨k+1,rfl,rfl,rfl,by omega⟩,rfl,by rw [take_at' (by assumption),List.map_append];simp (maxSteps:=2000000) (disch:=omega) only [go_sem];try rfl⟩
  ·simp only [List.set_cons_zero,List.set_cons_succ,hnil]
   (refine vU ?_;with_reducible repeat' first|exact Le.l|refine Sw ?_ ?_|intro h)
   have hk0:k=0:=by rw [List.map_eq_nil_iff] at hnil;rw [hnil] at hlt;exact hlt.symm
   subst hk0
   refine Imp.id ?_
   simp (maxSteps:=2000000) (disch:=omega) only [go_sem]
   exact ⟨_,[_],_,by omega,⟨1,rfl,rfl,rfl,by omega⟩,rfl,by rw [take_at' (by assumption)];simp (maxSteps:=2000000) (disch:=omega) only [go_sem];try rfl⟩
 ·rw [show k=x.fNotices.length by omega,List.take_length]
  all_goals exact uU
end Go.Proofs.YtmcjbaafmjlblaaGreatDoor
namespace Go.Proofs.YtmcjbaafmjlblaaGreatDoor
open Go.Ab Go.Dt
set_option maxRecDepth 20000
set_option maxHeartbeats 4000000
instance markRangeS_i(l:List GRange)(k:Int):BCtr lim Tryz.prog 73 2 (l.map (encRange true)) [.v (.int .i64 k)] (.v (.int .i64 (mkL stRange l k).2)) ((mkL stRange l k).1.map (encRange true)) (0≤k∧(mkL stRange l k).2≤1099511627776):=by
 refine BCtr.of en73 (fun b=>?_) (fun e=>?_) (by simp [mkL_len]) (map_elem (fun _=>rfl) _) (map_elem (fun _=>rfl) _)
 ·simp only [List.length_map]
  refine Ctr.of_body en73 Tryz.func73 rfl rfl fun hp=>(?_);rw [Tryz.ntmps73]
  have hup:=mkL_up stRange_ge l k
  (refine vU ?_;with_reducible repeat' first|exact Le.l|refine Sw ?_ ?_|intro h)
  refine AW.loopV [1,5] [0] (fun m xs o=>∃ i:Nat,xs=[.v (.int .i64 (mkc stRange l k i)),.v (.int .i64 i)]∧o=[(b,some (((mkp stRange l k i).map (encRange true)).flatMap AV.cells))]∧m=l.length - i∧i≤l.length) l.length [(b,some ((l.map (encRange true)).flatMap AV.cells))] (subO_one rfl) ⟨0,rfl,?_,rfl,?_⟩ ?_
  ·rw [mkp_zero]
  ·omega
  rintro m xs o ⟨i,rfl,rfl,rfl,hi⟩
  have h1:=mkc_ge (up_ge stRange_ge) l k i
  have h2:=mkc_le (up_ge stRange_ge) l k i
  (refine vK ?_;with_reducible repeat' first|exact Le.l|refine Sw ?_ ?_|intro h)
  (refine AW.i rfl (fun h=>?_) (fun h=>?_)<;>try simp only [hC,reduceCtorEq] at h)
  ·have h3:=mkc_le (up_ge stRange_ge) l k (i+1)
   rw [mkd_at h]
   rw [mkc_step h] at h3
   have hpre:=mkb_len (e:=encRange true) (f:=stRange) (sz:=2) (k:=k) (fun _=>rfl) hi
   have hpost:(((l.drop (i+1)).map (encRange true)).flatMap AV.cells).length=(l.length - (i+1)) * 2:=by
    rw [fm_len (e:=encRange true) (sz:=2) (fun _=>rfl),List.length_drop]
   have hnx:=mkd_next (e:=encRange true) (f:=stRange) (k:=k) h
   generalize mkb (encRange true) stRange l k i=pre at hpre hnx ⊢
   generalize ((l.drop (i+1)).map (encRange true)).flatMap AV.cells=post at hnx hpost ⊢
   generalize e1:at_ l i=x at *
   generalize e2:mkc stRange l k i=c at *
   simp only [stRange] at h3
   (refine vK ?_;with_reducible repeat' first|exact Le.l|refine Sw ?_ ?_|intro h)
   exact ⟨_,[_,_],_,by omega,⟨i+1,by rw [mkc_step h,e1,e2];rfl,rfl,rfl,by omega⟩,rfl,subO_one hnx⟩
  ·rw [mkc_end h,mkp_end h]
   all_goals exact uU
 ·have:l=[]:=by simpa using e
  subst this
  refine ⟨?_,rfl⟩
  refine Ctr.of_body en73 Tryz.func73 rfl rfl fun hp=>(?_);rw [Tryz.ntmps73]
  (refine vU ?_;with_reducible repeat' first|exact Le.l|refine Sw ?_ ?_|intro h)
  refine AW.loopV [] [0,1,5] (fun m xs o=>xs=[]∧o=[]) 0 [] trivial ⟨rfl,rfl⟩ ?_
  rintro m xs o ⟨rfl,rfl⟩
  (refine vU ?_;with_reducible repeat' first|exact Le.l|refine Sw ?_ ?_|intro h)
  rfl
instance markTestS_i(l:List GTest)(k:Int):BCtr lim Tryz.prog 160 2 (l.map (encTest true)) [.v (.int .i64 k)] (.v (.int .i64 (mkL stTest l k).2)) ((mkL stTest l k).1.map (encTest true)) (0≤k∧(mkL stTest l k).2≤1099511627776):=by
 refine BCtr.of en160 (fun b=>?_) (fun e=>?_) (by simp [mkL_len]) (map_elem (fun _=>rfl) _) (map_elem (fun _=>rfl) _)
 ·simp only [List.length_map]
  refine Ctr.of_body en160 Tryz.func160 rfl rfl fun hp=>(?_);rw [Tryz.ntmps160]
  have hup:=mkL_up stTest_ge l k
  (refine vU ?_;with_reducible repeat' first|exact Le.l|refine Sw ?_ ?_|intro h)
  refine AW.loopV [1,5] [0] (fun m xs o=>∃ i:Nat,xs=[.v (.int .i64 (mkc stTest l k i)),.v (.int .i64 i)]∧o=[(b,some (((mkp stTest l k i).map (encTest true)).flatMap AV.cells))]∧m=l.length - i∧i≤l.length) l.length [(b,some ((l.map (encTest true)).flatMap AV.cells))] (subO_one rfl) ⟨0,rfl,?_,rfl,?_⟩ ?_
  ·rw [mkp_zero]
  ·omega
  rintro m xs o ⟨i,rfl,rfl,rfl,hi⟩
  have h1:=mkc_ge (up_ge stTest_ge) l k i
  have h2:=mkc_le (up_ge stTest_ge) l k i
  (refine vK ?_;with_reducible repeat' first|exact Le.l|refine Sw ?_ ?_|intro h)
  (refine AW.i rfl (fun h=>?_) (fun h=>?_)<;>try simp only [hC,reduceCtorEq] at h)
  ·have h3:=mkc_le (up_ge stTest_ge) l k (i+1)
   rw [mkd_at h]
   rw [mkc_step h] at h3
   have hpre:=mkb_len (e:=encTest true) (f:=stTest) (sz:=2) (k:=k) (fun _=>rfl) hi
   have hpost:(((l.drop (i+1)).map (encTest true)).flatMap AV.cells).length=(l.length - (i+1)) * 2:=by
    rw [fm_len (e:=encTest true) (sz:=2) (fun _=>rfl),List.length_drop]
   have hnx:=mkd_next (e:=encTest true) (f:=stTest) (k:=k) h
   generalize mkb (encTest true) stTest l k i=pre at hpre hnx ⊢
   generalize ((l.drop (i+1)).map (encTest true)).flatMap AV.cells=post at hnx hpost ⊢
   generalize e1:at_ l i=x at *
   generalize e2:mkc stTest l k i=c at *
   simp only [stTest] at h3
   (refine vK ?_;with_reducible repeat' first|exact Le.l|refine Sw ?_ ?_|intro h)
   exact ⟨_,[_,_],_,by omega,⟨i+1,by rw [mkc_step h,e1,e2];rfl,rfl,rfl,by omega⟩,rfl,subO_one hnx⟩
  ·rw [mkc_end h,mkp_end h]
   all_goals exact uU
 ·have:l=[]:=by simpa using e
  subst this
  refine ⟨?_,rfl⟩
  refine Ctr.of_body en160 Tryz.func160 rfl rfl fun hp=>(?_);rw [Tryz.ntmps160]
  (refine vU ?_;with_reducible repeat' first|exact Le.l|refine Sw ?_ ?_|intro h)
  refine AW.loopV [] [0,1,5] (fun m xs o=>xs=[]∧o=[]) 0 [] trivial ⟨rfl,rfl⟩ ?_
  rintro m xs o ⟨rfl,rfl⟩
  (refine vU ?_;with_reducible repeat' first|exact Le.l|refine Sw ?_ ?_|intro h)
  rfl
instance markStepS_i(l:List Dt.GStep)(k:Int):BCtr lim Tryz.prog 124 2 (l.map (encStep true)) [.v (.int .i64 k)] (.v (.int .i64 (mkL stStep l k).2)) ((mkL stStep l k).1.map (encStep true)) (0≤k∧(mkL stStep l k).2≤1099511627776):=by
 refine BCtr.of en124 (fun b=>?_) (fun e=>?_) (by simp [mkL_len]) (map_elem (fun _=>rfl) _) (map_elem (fun _=>rfl) _)
 ·simp only [List.length_map]
  refine Ctr.of_body en124 Tryz.func124 rfl rfl fun hp=>(?_);rw [Tryz.ntmps124]
  have hup:=mkL_up stStep_ge l k
  (refine vU ?_;with_reducible repeat' first|exact Le.l|refine Sw ?_ ?_|intro h)
  refine AW.loopW [1,5] [0] (fun m xs o=>∃ i:Nat,xs=[.v (.int .i64 (mkc stStep l k i)),.v (.int .i64 i)]∧o=[(b,some (((mkp stStep l k i).map (encStep true)).flatMap AV.cells))]∧m=l.length - i∧i≤l.length) l.length [(b,some ((l.map (encStep true)).flatMap AV.cells))] (subO_one rfl) ⟨0,rfl,?_,rfl,?_⟩ ?_
  ·rw [mkp_zero]
  ·omega
  rintro m xs o ⟨i,rfl,rfl,rfl,hi⟩
  have h1:=mkc_ge (up_ge stStep_ge) l k i
  have h2:=mkc_le (up_ge stStep_ge) l k i
  (refine vK ?_;with_reducible repeat' first|exact Le.l|refine Sw ?_ ?_|intro h)
  (refine AW.i rfl (fun h=>?_) (fun h=>?_)<;>try simp only [hC,reduceCtorEq] at h)
  ·have h3:=mkc_le (up_ge stStep_ge) l k (i+1)
   rw [mkd_at h]
   rw [mkc_step h] at h3
   have hpre:=mkb_len (e:=encStep true) (f:=stStep) (sz:=2) (k:=k) (fun _=>rfl) hi
   have hpost:(((l.drop (i+1)).map (encStep true)).flatMap AV.cells).length=(l.length - (i+1)) * 2:=by
    rw [fm_len (e:=encStep true) (sz:=2) (fun _=>rfl),List.length_drop]
   have hnx:=mkd_next (e:=encStep true) (f:=stStep) (k:=k) h
   generalize mkb (encStep true) stStep l k i=pre at hpre hnx ⊢
   generalize ((l.drop (i+1)).map (encStep true)).flatMap AV.cells=post at hnx hpost ⊢
   generalize e1:at_ l i=x at *
   generalize e2:mkc stStep l k i=c at *
   refine AW.imp (Imp.pinE (b:=b) pre [_,_] post (O_eq _ _ _) fun hs=>?_)
   simp (maxSteps:=2000000) (disch:=omega) only [go_sem]
   have g0:=mkL_up stTest_ge x.fTests (c+1)
   simp only [stStep] at h3
   (refine vK ?_;with_reducible repeat' first|exact Le.l|refine Sw ?_ ?_|intro h)
   refine Imp.unpE (b:=b) pre [_,_] post (O_eq _ _ _) ?_
   simp (maxSteps:=2000000) (disch:=omega) only [go_sem]
   exact ⟨_,[_,_],_,by omega,⟨i+1,by rw [mkc_step h,e1,e2];rfl,rfl,rfl,by omega⟩,rfl,subO_one hnx⟩
  ·rw [mkc_end h,mkp_end h]
   all_goals exact uU
 ·have:l=[]:=by simpa using e
  subst this
  refine ⟨?_,rfl⟩
  refine Ctr.of_body en124 Tryz.func124 rfl rfl fun hp=>(?_);rw [Tryz.ntmps124]
  (refine vU ?_;with_reducible repeat' first|exact Le.l|refine Sw ?_ ?_|intro h)
  refine AW.loopV [] [0,1,5] (fun m xs o=>xs=[]∧o=[]) 0 [] trivial ⟨rfl,rfl⟩ ?_
  rintro m xs o ⟨rfl,rfl⟩
  (refine vU ?_;with_reducible repeat' first|exact Le.l|refine Sw ?_ ?_|intro h)
  rfl
theorem markExprS_n:∀ (n:Nat) (l:List GExpr) (k:Int),BCtr lim Tryz.prog 75 7 (l.map (encExpr true)) [.v (.int .i64 k)] (.v (.int .i64 (mkL stExpr l k).2)) ((mkL stExpr l k).1.map (encExpr true)) (SizeOf.sizeOf l<n∧0≤k∧(mkL stExpr l k).2≤1099511627776)
 | 0,l,k=>⟨en75,fun h=>absurd h.1 (Nat.not_lt_zero _)⟩
 | n+1,l,k=>by
  have ih:=markExprS_n n
  refine BCtr.of en75 (fun b=>?_) (fun e=>?_) (by simp [mkL_len]) (map_elem (fun x=>by rw [encExpr_eq];rfl) _) (map_elem (fun x=>by rw [encExpr_eq];rfl) _)
  ·simp only [List.length_map]
   refine Ctr.of_body en75 Tryz.func75 rfl rfl fun hp=>(?_);rw [Tryz.ntmps75]
   have hup:=mkL_up stExpr_ge l k
   (refine vU ?_;with_reducible repeat' first|exact Le.l|refine Sw ?_ ?_|intro h)
   refine AW.loopW [1,5] [0] (fun m xs o=>∃ i:Nat,xs=[.v (.int .i64 (mkc stExpr l k i)),.v (.int .i64 i)]∧o=[(b,some (((mkp stExpr l k i).map (encExpr true)).flatMap AV.cells))]∧m=l.length - i∧i≤l.length) l.length [(b,some ((l.map (encExpr true)).flatMap AV.cells))] (subO_one rfl) ⟨0,rfl,?_,rfl,?_⟩ ?_
   ·rw [mkp_zero]
   ·omega
   rintro m xs o ⟨i,rfl,rfl,rfl,hi⟩
   have h1:=mkc_ge (up_ge stExpr_ge) l k i
   have h2:=mkc_le (up_ge stExpr_ge) l k i
   (refine vK ?_;with_reducible repeat' first|exact Le.l|refine Sw ?_ ?_|intro h)
   (refine AW.i rfl (fun h=>?_) (fun h=>?_)<;>try simp only [hC,reduceCtorEq] at h)
   ·have h3:=mkc_le (up_ge stExpr_ge) l k (i+1)
    rw [mkd_at h]
    rw [mkc_step h] at h3
    have hpre:=mkb_len (e:=encExpr true) (f:=stExpr) (sz:=7) (k:=k) (fun x=>by rw [encExpr_eq];rfl) hi
    have hpost:(((l.drop (i+1)).map (encExpr true)).flatMap AV.cells).length=(l.length - (i+1)) * 7:=by
     rw [fm_len (e:=encExpr true) (sz:=7) (fun x=>by rw [encExpr_eq];rfl),List.length_drop]
    have hnx:=mkd_next (e:=encExpr true) (f:=stExpr) (k:=k) h
    have hkk:SizeOf.sizeOf (at_ l i).fKids<n:=by have:=GExpr.kids_lt (at_mem h);omega
    rw [stExpr_eq] at hnx
    generalize mkb (encExpr true) stExpr l k i=pre at hpre hnx ⊢
    generalize ((l.drop (i+1)).map (encExpr true)).flatMap AV.cells=post at hnx hpost ⊢
    generalize e1:at_ l i=x at *
    generalize e2:mkc stExpr l k i=c at *
    rw [encExpr_eq]
    simp only [encExpr_eq] at hnx
    refine AW.imp (Imp.pinE (b:=b) pre [_,_,_,_,_,_,_] post (O_eq _ _ _) fun hs=>?_)
    simp (maxSteps:=2000000) (disch:=omega) only [go_sem]
    have g0:=mkL_up stStep_ge x.fPath.fSteps (c+1+1+1+1+1)
    have g1:=mkL_up stExpr_ge x.fKids ((mkL stStep x.fPath.fSteps (c+1+1+1+1+1)).2)
    rw [stExpr_eq] at h3;simp only at h3
    (refine vK ?_;with_reducible repeat' first|exact Le.l|refine Sw ?_ ?_|intro h)
    refine Imp.unpE (b:=b) pre [_,_,_,_,_,_,_] post (O_eq _ _ _) ?_
    simp (maxSteps:=2000000) (disch:=omega) only [go_sem]
    exact ⟨_,[_,_],_,by omega,⟨i+1,by rw [mkc_step h,e1,e2,stExpr_eq],rfl,rfl,by omega⟩,rfl,subO_one hnx⟩
   ·rw [mkc_end h,mkp_end h]
    all_goals exact uU
  ·have:l=[]:=by simpa using e
   subst this
   refine ⟨?_,rfl⟩
   refine Ctr.of_body en75 Tryz.func75 rfl rfl fun hp=>(?_);rw [Tryz.ntmps75]
   (refine vU ?_;with_reducible repeat' first|exact Le.l|refine Sw ?_ ?_|intro h)
   refine AW.loopV [] [0,1,5] (fun m xs o=>xs=[]∧o=[]) 0 [] trivial ⟨rfl,rfl⟩ ?_
   rintro m xs o ⟨rfl,rfl⟩
   (refine vU ?_;with_reducible repeat' first|exact Le.l|refine Sw ?_ ?_|intro h)
   rfl
instance markExprS_i(l:List GExpr)(k:Int):BCtr lim Tryz.prog 75 7 (l.map (encExpr true)) [.v (.int .i64 k)] (.v (.int .i64 (mkL stExpr l k).2)) ((mkL stExpr l k).1.map (encExpr true)) (0≤k∧(mkL stExpr l k).2≤1099511627776):=⟨en75,fun h=>(markExprS_n (SizeOf.sizeOf l+1) l k).out ⟨Nat.lt_succ_self _,h⟩⟩
theorem markSchemaS_n:∀ (n:Nat) (l:List GSchema) (k:Int),BCtr lim Tryz.prog 30 19 (l.map (encSchema true)) [.v (.int .i64 k)] (.v (.int .i64 (mkL stSchema l k).2)) ((mkL stSchema l k).1.map (encSchema true)) (SizeOf.sizeOf l<n∧0≤k∧(mkL stSchema l k).2≤1099511627776)
 | 0,l,k=>⟨en30,fun h=>absurd h.1 (Nat.not_lt_zero _)⟩
 | n+1,l,k=>by
  have ih:=markSchemaS_n n
  refine BCtr.of en30 (fun b=>?_) (fun e=>?_) (by simp [mkL_len]) (map_elem (fun x=>by rw [encSchema_eq];rfl) _) (map_elem (fun x=>by rw [encSchema_eq];rfl) _)
  ·simp only [List.length_map]
   refine Ctr.of_body en30 Tryz.func30 rfl rfl fun hp=>(?_);rw [Tryz.ntmps30]
   have hup:=mkL_up stSchema_ge l k
   (refine vU ?_;with_reducible repeat' first|exact Le.l|refine Sw ?_ ?_|intro h)
   refine AW.loopW [1,5] [0] (fun m xs o=>∃ i:Nat,xs=[.v (.int .i64 (mkc stSchema l k i)),.v (.int .i64 i)]∧o=[(b,some (((mkp stSchema l k i).map (encSchema true)).flatMap AV.cells))]∧m=l.length - i∧i≤l.length) l.length [(b,some ((l.map (encSchema true)).flatMap AV.cells))] (subO_one rfl) ⟨0,rfl,?_,rfl,?_⟩ ?_
   ·rw [mkp_zero]
   ·omega
   rintro m xs o ⟨i,rfl,rfl,rfl,hi⟩
   have h1:=mkc_ge (up_ge stSchema_ge) l k i
   have h2:=mkc_le (up_ge stSchema_ge) l k i
   (refine vK ?_;with_reducible repeat' first|exact Le.l|refine Sw ?_ ?_|intro h)
   (refine AW.i rfl (fun h=>?_) (fun h=>?_)<;>try simp only [hC,reduceCtorEq] at h)
   ·have h3:=mkc_le (up_ge stSchema_ge) l k (i+1)
    rw [mkd_at h]
    rw [mkc_step h] at h3
    have hpre:=mkb_len (e:=encSchema true) (f:=stSchema) (sz:=19) (k:=k) (fun x=>by rw [encSchema_eq];rfl) hi
    have hpost:(((l.drop (i+1)).map (encSchema true)).flatMap AV.cells).length=(l.length - (i+1)) * 19:=by
     rw [fm_len (e:=encSchema true) (sz:=19) (fun x=>by rw [encSchema_eq];rfl),List.length_drop]
    have hnx:=mkd_next (e:=encSchema true) (f:=stSchema) (k:=k) h
    have hkk:SizeOf.sizeOf (at_ l i).fKids<n:=by have:=GSchema.kids_lt (at_mem h);omega
    rw [stSchema_eq] at hnx
    generalize mkb (encSchema true) stSchema l k i=pre at hpre hnx ⊢
    generalize ((l.drop (i+1)).map (encSchema true)).flatMap AV.cells=post at hnx hpost ⊢
    generalize e1:at_ l i=x at *
    generalize e2:mkc stSchema l k i=c at *
    rw [encSchema_eq]
    simp only [encSchema_eq] at hnx
    refine AW.imp (Imp.pinE (b:=b) pre [_,_,_,_,_,_,_,_,_,_,_,_,_,_,_,_,_,_,_] post (O_eq _ _ _) fun hs=>?_)
    simp (maxSteps:=2000000) (disch:=omega) only [go_sem]
    have g0:=mkL_up stRange_ge x.fType.fRanges (c+1+1+1)
    have g1:=mkL_up stString_ge x.fType.fNames ((mkL stRange x.fType.fRanges (c+1+1+1)).2)
    have g2:=mkL_up stString_ge x.fKeys ((mkL stString x.fType.fNames ((mkL stRange x.fType.fRanges (c+1+1+1)).2)).2+1+1)
    have g3:=mkL_up stString_ge x.fUnique ((mkL stString x.fKeys ((mkL stString x.fType.fNames ((mkL stRange x.fType.fRanges (c+1+1+1)).2)).2+1+1)).2)
    have g4:=mkL_up stExpr_ge x.fWhen ((mkL stString x.fUnique ((mkL stString x.fKeys ((mkL stString x.fType.fNames ((mkL stRange x.fType.fRanges (c+1+1+1)).2)).2+1+1)).2)).2+1+1+1+1+1+1+1)
    have g5:=mkL_up stExpr_ge x.fMust ((mkL stExpr x.fWhen ((mkL stString x.fUnique ((mkL stString x.fKeys ((mkL stString x.fType.fNames ((mkL stRange x.fType.fRanges (c+1+1+1)).2)).2+1+1)).2)).2+1+1+1+1+1+1+1)).2)
    have g6:=mkL_up stSchema_ge x.fKids ((mkL stExpr x.fMust ((mkL stExpr x.fWhen ((mkL stString x.fUnique ((mkL stString x.fKeys ((mkL stString x.fType.fNames ((mkL stRange x.fType.fRanges (c+1+1+1)).2)).2+1+1)).2)).2+1+1+1+1+1+1+1)).2)).2)
    rw [stSchema_eq] at h3;simp only at h3
    (refine vK ?_;with_reducible repeat' first|exact Le.l|refine Sw ?_ ?_|intro h)
    refine Imp.unpE (b:=b) pre [_,_,_,_,_,_,_,_,_,_,_,_,_,_,_,_,_,_,_] post (O_eq _ _ _) ?_
    simp (maxSteps:=2000000) (disch:=omega) only [go_sem]
    exact ⟨_,[_,_],_,by omega,⟨i+1,by rw [mkc_step h,e1,e2,stSchema_eq],rfl,rfl,by omega⟩,rfl,subO_one hnx⟩
   ·rw [mkc_end h,mkp_end h]
    all_goals exact uU
  ·have:l=[]:=by simpa using e
   subst this
   refine ⟨?_,rfl⟩
   refine Ctr.of_body en30 Tryz.func30 rfl rfl fun hp=>(?_);rw [Tryz.ntmps30]
   (refine vU ?_;with_reducible repeat' first|exact Le.l|refine Sw ?_ ?_|intro h)
   refine AW.loopV [] [0,1,5] (fun m xs o=>xs=[]∧o=[]) 0 [] trivial ⟨rfl,rfl⟩ ?_
   rintro m xs o ⟨rfl,rfl⟩
   (refine vU ?_;with_reducible repeat' first|exact Le.l|refine Sw ?_ ?_|intro h)
   rfl
instance markSchemaS_i(l:List GSchema)(k:Int):BCtr lim Tryz.prog 30 19 (l.map (encSchema true)) [.v (.int .i64 k)] (.v (.int .i64 (mkL stSchema l k).2)) ((mkL stSchema l k).1.map (encSchema true)) (0≤k∧(mkL stSchema l k).2≤1099511627776):=⟨en30,fun h=>(markSchemaS_n (SizeOf.sizeOf l+1) l k).out ⟨Nat.lt_succ_self _,h⟩⟩
theorem markNodeS_n:∀ (n:Nat) (l:List GNode) (k:Int),BCtr lim Tryz.prog 19 3 (l.map (encNode true)) [.v (.int .i64 k)] (.v (.int .i64 (mkL stNode l k).2)) ((mkL stNode l k).1.map (encNode true)) (SizeOf.sizeOf l<n∧0≤k∧(mkL stNode l k).2≤1099511627776)
 | 0,l,k=>⟨en19,fun h=>absurd h.1 (Nat.not_lt_zero _)⟩
 | n+1,l,k=>by
  have ih:=markNodeS_n n
  refine BCtr.of en19 (fun b=>?_) (fun e=>?_) (by simp [mkL_len]) (map_elem (fun x=>by rw [encNode_eq];rfl) _) (map_elem (fun x=>by rw [encNode_eq];rfl) _)
  ·simp only [List.length_map]
   refine Ctr.of_body en19 Tryz.func19 rfl rfl fun hp=>(?_);rw [Tryz.ntmps19]
   have hup:=mkL_up stNode_ge l k
   (refine vU ?_;with_reducible repeat' first|exact Le.l|refine Sw ?_ ?_|intro h)
   refine AW.loopW [1,5] [0] (fun m xs o=>∃ i:Nat,xs=[.v (.int .i64 (mkc stNode l k i)),.v (.int .i64 i)]∧o=[(b,some (((mkp stNode l k i).map (encNode true)).flatMap AV.cells))]∧m=l.length - i∧i≤l.length) l.length [(b,some ((l.map (encNode true)).flatMap AV.cells))] (subO_one rfl) ⟨0,rfl,?_,rfl,?_⟩ ?_
   ·rw [mkp_zero]
   ·omega
   rintro m xs o ⟨i,rfl,rfl,rfl,hi⟩
   have h1:=mkc_ge (up_ge stNode_ge) l k i
   have h2:=mkc_le (up_ge stNode_ge) l k i
   (refine vK ?_;with_reducible repeat' first|exact Le.l|refine Sw ?_ ?_|intro h)
   (refine AW.i rfl (fun h=>?_) (fun h=>?_)<;>try simp only [hC,reduceCtorEq] at h)
   ·have h3:=mkc_le (up_ge stNode_ge) l k (i+1)
    rw [mkd_at h]
    rw [mkc_step h] at h3
    have hpre:=mkb_len (e:=encNode true) (f:=stNode) (sz:=3) (k:=k) (fun x=>by rw [encNode_eq];rfl) hi
    have hpost:(((l.drop (i+1)).map (encNode true)).flatMap AV.cells).length=(l.length - (i+1)) * 3:=by
     rw [fm_len (e:=encNode true) (sz:=3) (fun x=>by rw [encNode_eq];rfl),List.length_drop]
    have hnx:=mkd_next (e:=encNode true) (f:=stNode) (k:=k) h
    have hkk:SizeOf.sizeOf (at_ l i).fKids<n:=by have:=GNode.kids_lt (at_mem h);omega
    rw [stNode_eq] at hnx
    generalize mkb (encNode true) stNode l k i=pre at hpre hnx ⊢
    generalize ((l.drop (i+1)).map (encNode true)).flatMap AV.cells=post at hnx hpost ⊢
    generalize e1:at_ l i=x at *
    generalize e2:mkc stNode l k i=c at *
    rw [encNode_eq]
    simp only [encNode_eq] at hnx
    refine AW.imp (Imp.pinE (b:=b) pre [_,_,_] post (O_eq _ _ _) fun hs=>?_)
    simp (maxSteps:=2000000) (disch:=omega) only [go_sem]
    have g0:=mkL_up stNode_ge x.fKids (c+1+1)
    rw [stNode_eq] at h3;simp only at h3
    (refine vK ?_;with_reducible repeat' first|exact Le.l|refine Sw ?_ ?_|intro h)
    refine Imp.unpE (b:=b) pre [_,_,_] post (O_eq _ _ _) ?_
    simp (maxSteps:=2000000) (disch:=omega) only [go_sem]
    exact ⟨_,[_,_],_,by omega,⟨i+1,by rw [mkc_step h,e1,e2,stNode_eq],rfl,rfl,by omega⟩,rfl,subO_one hnx⟩
   ·rw [mkc_end h,mkp_end h]
    all_goals exact uU
  ·have:l=[]:=by simpa using e
   subst this
   refine ⟨?_,rfl⟩
   refine Ctr.of_body en19 Tryz.func19 rfl rfl fun hp=>(?_);rw [Tryz.ntmps19]
   (refine vU ?_;with_reducible repeat' first|exact Le.l|refine Sw ?_ ?_|intro h)
   refine AW.loopV [] [0,1,5] (fun m xs o=>xs=[]∧o=[]) 0 [] trivial ⟨rfl,rfl⟩ ?_
   rintro m xs o ⟨rfl,rfl⟩
   (refine vU ?_;with_reducible repeat' first|exact Le.l|refine Sw ?_ ?_|intro h)
   rfl
instance markNodeS_i(l:List GNode)(k:Int):BCtr lim Tryz.prog 19 3 (l.map (encNode true)) [.v (.int .i64 k)] (.v (.int .i64 (mkL stNode l k).2)) ((mkL stNode l k).1.map (encNode true)) (0≤k∧(mkL stNode l k).2≤1099511627776):=⟨en19,fun h=>(markNodeS_n (SizeOf.sizeOf l+1) l k).out ⟨Nat.lt_succ_self _,h⟩⟩
theorem heldNodeS_n:∀ (n:Nat) (l:List GNode) (k:Int),Ctr lim Tryz.prog 35 [] [.sl false 3 ((mkL stNode l k).1.map (encNode false)),.v (.int .i64 k)] (.v (.int .i64 (mkL stNode l k).2)) [] (SizeOf.sizeOf l<n∧0≤k∧(mkL stNode l k).2≤1099511627776)
 | 0,l,k=>⟨en35,fun h=>absurd h.1 (Nat.not_lt_zero _)⟩
 | n+1,l,k=>by
  have ih:=heldNodeS_n n
  refine Ctr.of_body en35 Tryz.func35 rfl rfl fun hp=>(?_);rw [Tryz.ntmps35]
  have hup:=mkL_up stNode_ge l k
  have hml:=mkL_len (f:=stNode) l k
  (refine vU ?_;with_reducible repeat' first|exact Le.l|refine Sw ?_ ?_|intro h)
  refine AW.loopV [1,5] [0] (fun m xs o=>∃ i:Nat,xs=[.v (.int .i64 (mkc stNode l k i)),.v (.int .i64 i)]∧o=[]∧m=l.length - i∧i≤l.length) l.length [] trivial ⟨0,rfl,rfl,rfl,?_⟩ ?_
  ·omega
  rintro m xs o ⟨i,rfl,rfl,rfl,hi⟩
  have h1:=mkc_ge (up_ge stNode_ge) l k i
  have h2:=mkc_le (up_ge stNode_ge) l k i
  (refine vK ?_;with_reducible repeat' first|exact Le.l|refine Sw ?_ ?_|intro h)
  (refine AW.i rfl (fun h=>?_) (fun h=>?_)<;>try simp only [hC,reduceCtorEq] at h)
  ·rw [hml] at h
   have h3:=mkc_le (up_ge stNode_ge) l k (i+1)
   have hat:=mkL_at (f:=stNode) (k:=k) h
   rw [mkc_step h] at h3
   have hlt:=h
   have hkk:SizeOf.sizeOf (at_ l i).fKids<n:=by have:=GNode.kids_lt (at_mem h);omega
   rw [stNode_eq] at h3 hat
   simp only at h3 hat
   have g0:=mkL_up stNode_ge (at_ l i).fKids ((mkc stNode l k i)+1+1)
   have hat0:(at_ (mkL stNode l k).1 i).fName=mkT ((mkc stNode l k i)):=by rw [hat];rfl
   have hat1:(at_ (mkL stNode l k).1 i).fValue=mkT ((mkc stNode l k i)+1):=by rw [hat];rfl
   have hat2:(at_ (mkL stNode l k).1 i).fKids=(mkL stNode (at_ l i).fKids ((mkc stNode l k i)+1+1)).1:=by rw [hat];rfl
   (repeat' first|(with_reducible first|refine Z ?_|refine Y ?_|(refine hK _ _ ?_;clear hK K)|refine And.intro ?_ ?_|exact Ct|intro (K:_→_→Prop) hK|(refine gI fun hg=>?_;try simp only [hC,reduceCtorEq] at hg;try simp only [hg]))|(refine AW.i rfl (fun h=>?_) (fun h=>?_)<;>try simp only [hC,reduceCtorEq] at h)|((with_reducible refine E ?_;repeat refine Y ?_);refine eF rfl ?_)|simp (disch:=omega) only [go_sem,hat0,hat1,hat2,beq_self_eq_true,bne_self_eq_false,Bool.not_true]|(with_reducible intro hg;try simp only [hC,reduceCtorEq] at hg)|exact Cl|fail)
   exact ⟨_,[_,_],[],by omega,⟨i+1,by rw [mkc_step hlt,stNode_eq],rfl,rfl,by omega⟩,rfl,trivial⟩
  ·rw [hml] at h
   rw [mkc_end h]
   all_goals exact uU
instance heldNodeS_i(l:List GNode)(k:Int):Ctr lim Tryz.prog 35 [] [.sl false 3 ((mkL stNode l k).1.map (encNode false)),.v (.int .i64 k)] (.v (.int .i64 (mkL stNode l k).2)) [] (0≤k∧(mkL stNode l k).2≤1099511627776):=⟨en35,fun h=>(heldNodeS_n (SizeOf.sizeOf l+1) l k).out ⟨Nat.lt_succ_self _,h⟩⟩
end Go.Proofs.YtmcjbaafmjlblaaGreatDoor
