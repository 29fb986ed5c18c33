/-
  Part of a proof: Cu0.
-/
import Derived.Test.YtmcjbaafmjlblaaGreatDoorG28
import Derived.Test.YtmcjbaafmjlblaaGreatDoorG29
import Derived.Test.YtmcjbaafmjlblaaGreatDoorG36
import Derived.Test.YtmcjbaafmjlblaaGreatDoorG38
set_option linter.unusedSimpArgs false
set_option linter.unusedVariables false
namespace Go.Proofs.YtmcjbaafmjlblaaGreatDoor
open Go.Ab Go.Dt
set_option maxRecDepth 20000
set_option maxHeartbeats 4000000
attribute [local go_sem] frzL_str encSchemaM_frz schAll schOne nms_idx schF
attribute [-instance] iDataKids_i
instance iFind_i(s:List GSchema)(nm:Str):Ctr lim Tryz.prog 118 [] [.sl false 19 (s.map (encSchema false)),.sl false 1 [.str nm]] (.tup [encSchema false (at_ (dk s) (idx (nmP nm) (dk s)).toNat),.v (.bool true)]) [] (0≤idx (nmP nm) (dk s)∧cntS s≤1048576):=by
 refine Ctr.of_body en118 Tryz.func118 rfl rfl fun hp=>(?_);rw [Tryz.ntmps118]
 have gOn:=GrOn.on
 obtain ⟨hi,hc⟩:=hp
 have hj:=idx_lt (p:=nmP nm) (dk s)
 refine AW.fact 0 fun hf=>?_
 simp (disch:=omega) only [go_sem] at hf
 (refine bU ?_;with_reducible repeat' first|exact Le.l|refine Sw ?_ ?_|intro h)
 rename_i a b
 refine AW.loopV [0,14] [1,4,5,6,12,13] (fun m xs o=>(xs=[.sl false 19 (s.map (encSchema false)),.v (.int .i64 0)]∧o=[(b,some [.v (.int .i64 0),.str [],.v (.int .i64 0),.v (.slice none 0 0),.v (.slice none 0 0),.str [],.str [],.v (.slice none 0 0),.v (.slice none 0 0),.str [],.v (.bool false),.v (.bool false),.v (.bool false),.v (.bool false),.v (.int .i64 0),.v (.int .i64 0),.v (.slice none 0 0),.v (.slice none 0 0),.v (.slice none 0 0)]),(a,some [.v (.int .i64 0),.str [],.v (.int .i64 0),.v (.slice none 0 0),.v (.slice none 0 0),.str [],.str [],.v (.slice none 0 0),.v (.slice none 0 0),.str [],.v (.bool false),.v (.bool false),.v (.bool false),.v (.bool false),.v (.int .i64 0),.v (.int .i64 0),.v (.slice none 0 0),.v (.slice none 0 0),.v (.slice none 0 0)])]∧m=1)∨(xs=[.sl false 19 ((at_ (dk s) (idx (nmP nm) (dk s)).toNat).fKids.map (encSchema false)),.v (.int .i64 1)]∧o=[(b,some [.v (.int .i64 (at_ (dk s) (idx (nmP nm) (dk s)).toNat).fKind),.str (at_ (dk s) (idx (nmP nm) (dk s)).toNat).fName,.v (.int .i64 (at_ (dk s) (idx (nmP nm) (dk s)).toNat).fType.fKind),.sl false 2 ((at_ (dk s) (idx (nmP nm) (dk s)).toNat).fType.fRanges.map (encRange false)),.sl false 1 ((at_ (dk s) (idx (nmP nm) (dk s)).toNat).fType.fNames.map AV.str),.str (at_ (dk s) (idx (nmP nm) (dk s)).toNat).fType.fPattern,.str (at_ (dk s) (idx (nmP nm) (dk s)).toNat).fType.fPath,.sl false 1 ((at_ (dk s) (idx (nmP nm) (dk s)).toNat).fKeys.map AV.str),.sl false 1 ((at_ (dk s) (idx (nmP nm) (dk s)).toNat).fUnique.map AV.str),.str (at_ (dk s) (idx (nmP nm) (dk s)).toNat).fDefault,.v (.bool (at_ (dk s) (idx (nmP nm) (dk s)).toNat).fGiven),.v (.bool (at_ (dk s) (idx (nmP nm) (dk s)).toNat).fNeeded),.v (.bool (at_ (dk s) (idx (nmP nm) (dk s)).toNat).fPresent),.v (.bool (at_ (dk s) (idx (nmP nm) (dk s)).toNat).fFixed),.v (.int .i64 (at_ (dk s) (idx (nmP nm) (dk s)).toNat).fMin),.v (.int .i64 (at_ (dk s) (idx (nmP nm) (dk s)).toNat).fMax),.sl false 7 ((at_ (dk s) (idx (nmP nm) (dk s)).toNat).fWhen.map (encExpr false)),.sl false 7 ((at_ (dk s) (idx (nmP nm) (dk s)).toNat).fMust.map (encExpr false)),.sl false 19 ((at_ (dk s) (idx (nmP nm) (dk s)).toNat).fKids.map (encSchema false))]),(a,some [.v (.int .i64 0),.str [],.v (.int .i64 0),.v (.slice none 0 0),.v (.slice none 0 0),.str [],.str [],.v (.slice none 0 0),.v (.slice none 0 0),.str [],.v (.bool false),.v (.bool false),.v (.bool false),.v (.bool false),.v (.int .i64 0),.v (.int .i64 0),.v (.slice none 0 0),.v (.slice none 0 0),.v (.slice none 0 0)])]∧m=0)) 1 [(b,some [.v (.int .i64 0),.str [],.v (.int .i64 0),.v (.slice none 0 0),.v (.slice none 0 0),.str [],.str [],.v (.slice none 0 0),.v (.slice none 0 0),.str [],.v (.bool false),.v (.bool false),.v (.bool false),.v (.bool false),.v (.int .i64 0),.v (.int .i64 0),.v (.slice none 0 0),.v (.slice none 0 0),.v (.slice none 0 0)]),(a,some [.v (.int .i64 0),.str [],.v (.int .i64 0),.v (.slice none 0 0),.v (.slice none 0 0),.str [],.str [],.v (.slice none 0 0),.v (.slice none 0 0),.str [],.v (.bool false),.v (.bool false),.v (.bool false),.v (.bool false),.v (.int .i64 0),.v (.int .i64 0),.v (.slice none 0 0),.v (.slice none 0 0),.v (.slice none 0 0)])] gO (.inl ⟨rfl,rfl,rfl⟩) ?_
 rintro m xs o (⟨rfl,rfl,rfl⟩|⟨rfl,rfl,rfl⟩)
 ·(refine vU ?_;with_reducible repeat' first|exact Le.l|refine Sw ?_ ?_|intro h)
  refine ⟨.str nm,fun _=>⟨by decide,rfl,rfl⟩,?_⟩
  (refine vU ?_;with_reducible repeat' first|exact Le.l|refine Sw ?_ ?_|intro h)
  refine h _ _ ?_
  (refine vU ?_;with_reducible repeat' first|exact Le.l|refine Sw ?_ ?_|intro h)
  exact ⟨_,_,_,Nat.zero_lt_one,.inr ⟨rfl,rfl,rfl⟩,rfl,by simp (maxSteps:=2000000) (disch:=omega) only [go_sem]⟩
 ·(refine vU ?_;with_reducible repeat' first|exact Le.l|refine Sw ?_ ?_|intro h)
  rfl
end Go.Proofs.YtmcjbaafmjlblaaGreatDoor
