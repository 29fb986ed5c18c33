/-
  Part of a proof: Sc5.
-/
import Derived.Test.YtmcjbaafmjlblaaGreatDoorG12
set_option linter.unusedSimpArgs false
set_option linter.unusedVariables false
namespace Go.Proofs.YtmcjbaafmjlblaaGreatDoor
open Go.Ab Go.Dt
set_option maxRecDepth 20000
set_option maxHeartbeats 4000000
theorem schAll(l:List GSchema):(l.map (encSchema false)).all (AV.elem 19)=true:=map_all_elem (fun x=>by rw [encSchema_eq];try rfl) l
theorem schOne(l:List GSchema):((l.map (encSchema false)).flatMap AV.cells).all AV.one=true:=map_all_one (fun x=>by rw [encSchema_eq];try rfl) l
theorem bolAll(l:List Bool):(l.map fun b=>AV.v (.bool b)).all (AV.elem 1)=true:=map_all_elem (fun _=>rfl) l
theorem bolOne(l:List Bool):((l.map fun b=>AV.v (.bool b)).flatMap AV.cells).all AV.one=true:=map_all_one (fun _=>rfl) l
attribute [local go_sem] frzL_str encSchemaM_frz schAll schOne bolAll bolOne dkF_len
theorem iInner_n:∀ (n:Nat) (l:List GSchema) (h:Bool),Ctr lim Tryz.prog 179 [] [.sl false 19 (l.map (encSchema false)),.v (.bool h)] (.tup [.sl true 19 ((dk l).map (encSchema false)),.sl true 1 ((dkF l h).map fun b=>.v (.bool b))]) [] (SizeOf.sizeOf l<n∧cntS l≤1048576)
 | 0,l,_=>⟨en179,fun h=>absurd h.1 (Nat.not_lt_zero _)⟩
 | n+1,l,h=>by
  have ih:=iInner_n n
  refine Ctr.of_body en179 Tryz.func179 rfl rfl fun hp=>(?_);rw [Tryz.ntmps179]
  have gOn:=GrOn.on
  obtain ⟨hs,hb⟩:=hp
  refine AW.fact 0 fun hf=>?_
  simp (disch:=omega) only [go_sem] at hf
  (refine vU ?_;with_reducible repeat' first|exact Le.l|refine Sw ?_ ?_|intro h)
  refine AW.loopV [6,7,16] [1,14,15] (fun m xs o=>∃ k:Nat,xs=[.sl true 19 ((dk (l.take k)).map (encSchema false)),.sl true 1 ((dkF (l.take k) h).map fun b=>.v (.bool b)),.v (.int .i64 k)]∧o=[]∧m=l.length - k∧k≤l.length) l.length [] trivial ⟨0,?_,rfl,rfl,?_⟩ ?_
  ·rw [List.take_zero,dk,dkF];try rfl
  ·omega
  rintro m xs o ⟨k,rfl,rfl,rfl,hk⟩
  have h1:=dk_len (l.take k)
  have h3:=cntS_le (l:=l) (k:=k)
  have h4:k<l.length→SizeOf.sizeOf (at_ l k).fKids<n∧cntS (at_ l k).fKids≤1048576:=fun h=>by
   have:=cntS_kid (at_mem h);have:=GSchema.kids_lt (at_mem h);omega
  have h6:=dk_len (at_ l k).fKids
  have h7:=dk_len (l.take (k+1))
  (refine vU ?_;with_reducible repeat' first|exact Le.l|refine Sw ?_ ?_|intro h)
  ·rename_i hk1 _
   exact ⟨_,[_,_,_],[],by omega,⟨k+1,rfl,rfl,rfl,by omega⟩,by rw [dk_step hk1,dkF_step hk1,if_pos h,if_pos h,List.map_append,List.map_append,List.map_cons,List.map_nil,encSchema_eq];try rfl,trivial⟩
  ·rename_i hk1 _ hd
   exact ⟨_,[_,_,_],[],by omega,⟨k+1,rfl,rfl,rfl,by omega⟩,by rw [dk_step hk1,dkF_step hk1,if_neg (by rw [hd];simp),if_pos h,if_neg (by rw [hd];simp),if_pos h,List.map_append,List.map_append];try rfl,trivial⟩
  ·rename_i hk1 _ hd
   exact ⟨_,[_,_,_],[],by omega,⟨k+1,rfl,rfl,rfl,by omega⟩,by rw [dk_step hk1,dkF_step hk1,if_neg (by rw [hd];simp),if_neg (by omega),if_neg (by rw [hd];simp),if_neg (by omega),List.append_nil,List.append_nil];try rfl,trivial⟩
  ·rw [List.take_of_length_le (by omega)]
instance iInner_i(l:List GSchema)(h:Bool):Ctr lim Tryz.prog 179 [] [.sl false 19 (l.map (encSchema false)),.v (.bool h)] (.tup [.sl true 19 ((dk l).map (encSchema false)),.sl true 1 ((dkF l h).map fun b=>.v (.bool b))]) [] (cntS l≤1048576):=⟨en179,fun c=>(iInner_n (SizeOf.sizeOf l+1) l h).out ⟨Nat.lt_succ_self _,c⟩⟩
instance iDataKids_i(l:List GSchema):Ctr lim Tryz.prog 152 [] [.sl false 19 (l.map (encSchema false))] (.sl true 19 ((dk l).map (encSchema false))) [] (cntS l≤1048576):=by
 refine Ctr.of_body en152 Tryz.func152 rfl rfl fun hp=>(?_);rw [Tryz.ntmps152]
 have gOn:=GrOn.on
 (refine vU ?_;with_reducible repeat' first|exact Le.l|refine Sw ?_ ?_|intro h)
 all_goals skip
instance l9Find_i(L:Nat→Nat)[hL:Lok L](l:List GSchema)(n:Str):Ctr L Tryz.prog 138 [] [.sl false 19 (l.map (encSchema false)),.str n] (.v (.int .i64 (idx (nmP n) l))) [] True:=by
 refine Ctr.of_body en138 Tryz.func138 rfl rfl fun hp=>(?_);rw [Tryz.ntmps138]
 have gOn:=GrOn.on
 refine AW.fact 0 fun hf=>?_
 simp (disch:=omega) only [go_sem] at hf
 have hf:=Nat.le_trans hf (hL.le 19)
 (refine vU ?_;with_reducible repeat' first|exact Le.l|refine Sw ?_ ?_|intro h)
 refine AW.loopV [5] [0,1] (fun m xs o=>∃ k:Nat,xs=[.v (.int .i64 k)]∧o=[]∧m=l.length - k∧k≤l.length∧∀ x∈l.take k,nmP n x=false) l.length [] trivial ⟨0,?_,rfl,rfl,?_,?_⟩ ?_
 ·rfl
 ·omega
 ·simp
 rintro m xs o ⟨k,rfl,rfl,rfl,hk,hR⟩
 (refine vU ?_;with_reducible repeat' first|exact Le.l|refine Sw ?_ ?_|intro h)
 ·rw [idx_at' (p:=nmP n) (by assumption) hR (by simpa [nmP] using h)]
 ·exact ⟨_,[_],[],by omega,⟨k+1,rfl,rfl,rfl,by omega,take_step' (p:=nmP n) (by assumption) hR (by simpa [nmP] using h)⟩,rfl,trivial⟩
 ·rw [idx_end (p:=nmP n) h hR]
end Go.Proofs.YtmcjbaafmjlblaaGreatDoor
