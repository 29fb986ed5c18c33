/-
  Part of a proof: Df1, Df2, Df3, Df4.
-/
import Derived.Test.YtmcjbaafmjlblaaGreatDoorG29
import Derived.Test.YtmcjbaafmjlblaaGreatDoorG39
import Derived.Test.YtmcjbaafmjlblaaGreatDoorG40
set_option linter.unusedSimpArgs false
set_option linter.unusedVariables false
namespace Go.Proofs.YtmcjbaafmjlblaaGreatDoor
open Go.Ab Go.Dt
set_option maxRecDepth 20000
set_option maxHeartbeats 4000000
attribute [local go_sem] frzL_str encSchemaM_frz encNodeM_frz schAll schOne
theorem iSame_n:∀ (n:Nat) (a b:List GNode),Ctr lim Tryz.prog 68 [] [.sl false 3 (a.map (encNode false)),.sl false 3 (b.map (encNode false))] (.v (.bool (smT a b))) [] (SizeOf.sizeOf a<n)
 | 0,a,_=>⟨en68,fun h=>absurd h (Nat.not_lt_zero _)⟩
 | n+1,a,b=>by
  have ih:=iSame_n n
  refine Ctr.of_body en68 Tryz.func68 rfl rfl fun hp=>(?_);rw [Tryz.ntmps68]
  have gOn:=GrOn.on
  refine AW.fact 0 fun hf=>?_
  simp (disch:=omega) only [go_sem] at hf
  (refine vK ?_;with_reducible repeat' first|exact Le.l|refine Sw ?_ ?_|intro h)
  (refine AW.i rfl (fun h=>?_) (fun h=>?_)<;>try simp only [hC,reduceCtorEq] at h)
  ·(refine vU ?_;with_reducible repeat' first|exact Le.l|refine Sw ?_ ?_|intro h)
   rw [smT_len h]
  have hle:a.length=b.length:=by omega
  clear h
  (refine vK ?_;with_reducible repeat' first|exact Le.l|refine Sw ?_ ?_|intro h)
  refine AW.loopV [13] [0,1,12] (fun m xs o=>∃ k:Nat,xs=[.v (.int .i64 k)]∧o=[]∧m=a.length - k∧k≤a.length∧smT (a.drop k) (b.drop k)=smT a b) a.length [] trivial ⟨0,?_,rfl,rfl,?_,rfl⟩ ?_
  ·rfl
  ·omega
  rintro m xs o ⟨k,rfl,rfl,rfl,hk,hR⟩
  have hkk:k<a.length→SizeOf.sizeOf (at_ a k).fKids<n:=fun h=>by have:=GNode.kids_lt (at_mem h);omega
  (refine vU ?_;with_reducible repeat' first|exact Le.l|refine Sw ?_ ?_|intro h)
  ·rw [← hR,smT_at (by assumption) (by omega)];grind
  ·exact ⟨_,[_],_,by omega,⟨k+1,rfl,rfl,rfl,by omega,by rw [← hR,smT_at (k:=k) (by assumption) (by omega)];grind⟩,rfl,by simp (maxSteps:=2000000) (disch:=omega) only [go_sem]⟩
  ·rw [← hR,smT_end h (by omega)]
theorem sSame_n:∀ (n:Nat) (a b:List GNode),Ctr lim Tryz.prog 100 [] [.sl false 3 (a.map (encNode false)),.sl false 3 (b.map (encNode false))] (.v (.bool (smT a b))) [] (SizeOf.sizeOf a<n)
 | 0,a,_=>⟨en100,fun h=>absurd h (Nat.not_lt_zero _)⟩
 | n+1,a,b=>by
  have ih:=sSame_n n
  refine Ctr.of_body en100 Tryz.func100 rfl rfl fun hp=>(?_);rw [Tryz.ntmps100]
  have gOn:=GrOn.on
  refine AW.fact 0 fun hf=>?_
  simp (disch:=omega) only [go_sem] at hf
  (refine vK ?_;with_reducible repeat' first|exact Le.l|refine Sw ?_ ?_|intro h)
  (refine AW.i rfl (fun h=>?_) (fun h=>?_)<;>try simp only [hC,reduceCtorEq] at h)
  ·(refine vU ?_;with_reducible repeat' first|exact Le.l|refine Sw ?_ ?_|intro h)
   rw [smT_len h]
  have hle:a.length=b.length:=by omega
  clear h
  (refine vK ?_;with_reducible repeat' first|exact Le.l|refine Sw ?_ ?_|intro h)
  refine AW.loopV [5] [0,1] (fun m xs o=>∃ k:Nat,xs=[.v (.int .i64 k)]∧o=[]∧m=a.length - k∧k≤a.length∧smT (a.drop k) (b.drop k)=smT a b) a.length [] trivial ⟨0,?_,rfl,rfl,?_,rfl⟩ ?_
  ·rfl
  ·omega
  rintro m xs o ⟨k,rfl,rfl,rfl,hk,hR⟩
  have hkk:k<a.length→SizeOf.sizeOf (at_ a k).fKids<n:=fun h=>by have:=GNode.kids_lt (at_mem h);omega
  (refine vU ?_;with_reducible repeat' first|exact Le.l|refine Sw ?_ ?_|intro h)
  ·rw [← hR,smT_at (by assumption) (by omega)];grind
  ·exact ⟨_,[_],_,by omega,⟨k+1,rfl,rfl,rfl,by omega,by rw [← hR,smT_at (k:=k) (by assumption) (by omega)];grind⟩,rfl,by simp (maxSteps:=2000000) (disch:=omega) only [go_sem]⟩
  ·rw [← hR,smT_end h (by omega)]
end Go.Proofs.YtmcjbaafmjlblaaGreatDoor
namespace Go.Proofs.YtmcjbaafmjlblaaGreatDoor
open Go.Ab Go.Dt
set_option maxRecDepth 20000
set_option maxHeartbeats 4000000
attribute [local go_sem] frzL_str encSchemaM_frz encNodeM_frz schAll schOne
instance iSame_i(a b:List GNode):Ctr lim Tryz.prog 68 [] [.sl false 3 (a.map (encNode false)),.sl false 3 (b.map (encNode false))] (.v (.bool (smT a b))) [] True:=⟨en68,fun _=>(iSame_n (SizeOf.sizeOf a+1) a b).out (Nat.lt_succ_self _)⟩
instance sSame_i(a b:List GNode):Ctr lim Tryz.prog 100 [] [.sl false 3 (a.map (encNode false)),.sl false 3 (b.map (encNode false))] (.v (.bool (smT a b))) [] True:=⟨en100,fun _=>(sSame_n (SizeOf.sizeOf a+1) a b).out (Nat.lt_succ_self _)⟩
instance slEq_i(a b:List Str):Ctr lim Tryz.prog 181 [] [.sl false 1 (a.map AV.str),.sl false 1 (b.map AV.str)] (.v (.bool (a == b))) [] True:=by
 refine Ctr.of_body en181 Tryz.func181 rfl rfl fun hp=>(?_);rw [Tryz.ntmps181]
 have gOn:=GrOn.on
 refine AW.fact 0 fun hf=>?_
 simp (disch:=omega) only [go_sem] at hf
 (refine vK ?_;with_reducible repeat' first|exact Le.l|refine Sw ?_ ?_|intro h)
 (refine AW.i rfl (fun h=>?_) (fun h=>?_)<;>try simp only [hC,reduceCtorEq] at h)
 ·(refine vU ?_;with_reducible repeat' first|exact Le.l|refine Sw ?_ ?_|intro h)
  rw [show (a == b)=false by rw [beq_eq_false_iff_ne];intro e;rw [e] at h;exact h rfl]
 have hle:a.length=b.length:=by omega
 clear h
 (refine vK ?_;with_reducible repeat' first|exact Le.l|refine Sw ?_ ?_|intro h)
 refine AW.loopV [13] [0,1,12] (fun m xs o=>∃ k:Nat,xs=[.v (.int .i64 k)]∧o=[]∧m=a.length - k∧k≤a.length∧(a.drop k == b.drop k)=(a == b)) a.length [] trivial ⟨0,?_,rfl,rfl,?_,rfl⟩ ?_
 ·rfl
 ·omega
 rintro m xs o ⟨k,rfl,rfl,rfl,hk,hR⟩
 (refine vU ?_;with_reducible repeat' first|exact Le.l|refine Sw ?_ ?_|intro h)
 ·rw [← hR,at_drop (by assumption),at_drop (l:=b) (by omega)]
  have:(at_ a k == at_ b k)=false:=by simpa using h
  rw [List.cons_beq_cons,this];try rfl
 ·exact ⟨_,[_],_,by omega,⟨k+1,rfl,rfl,rfl,by omega,by rw [← hR,at_drop (l:=a) (k:=k) (by assumption),at_drop (l:=b) (k:=k) (by omega),List.cons_beq_cons,h,beq_self_eq_true,Bool.true_and]⟩,rfl,by simp (maxSteps:=2000000) (disch:=omega) only [go_sem]⟩
 ·rw [← hR,drop_end h,drop_end (by omega)];try rfl
instance iSameKey_i(n:GSchema)(x y:GNode):Ctr lim Tryz.prog 156 [] [.agg [.v (.int .i64 n.fKind),.str n.fName,.v (.int .i64 n.fType.fKind),.sl false 2 (n.fType.fRanges.map (encRange false)),.sl false 1 (n.fType.fNames.map AV.str),.str n.fType.fPattern,.str n.fType.fPath,.sl false 1 (n.fKeys.map AV.str),.sl false 1 (n.fUnique.map AV.str),.str n.fDefault,.v (.bool n.fGiven),.v (.bool n.fNeeded),.v (.bool n.fPresent),.v (.bool n.fFixed),.v (.int .i64 n.fMin),.v (.int .i64 n.fMax),.sl false 7 (n.fWhen.map (encExpr false)),.sl false 7 (n.fMust.map (encExpr false)),.sl false 19 (n.fKids.map (encSchema false))],.agg [.str x.fName,.str x.fValue,.sl false 3 (x.fKids.map (encNode false))],.agg [.str y.fName,.str y.fValue,.sl false 3 (y.fKids.map (encNode false))]] (.v (.bool (skB n x y))) [] True:=by
 refine Ctr.of_body en156 Tryz.func156 rfl rfl fun hp=>(?_);rw [Tryz.ntmps156]
 have gOn:=GrOn.on
 (refine vU ?_;with_reducible repeat' first|exact Le.l|refine Sw ?_ ?_|intro h)
 ·rw [skB,show rowK n.fKind=false by rw [rowK];simp;grind];try rfl
 ·rename_i h'
  rw [skB,show rowK n.fKind=true by rw [rowK];simp;grind,h.1,h.2];try rfl
 ·exfalso;grind
 ·rename_i h' h2
  refine congrArg (fun b=>AV.v (.bool b)) ?_
  rw [skB,show rowK n.fKind=true by rw [rowK];simp;grind]
  grind
instance iFindIn_i(n:GSchema)(l:List GNode)(x:GNode):Ctr lim Tryz.prog 119 [] [.agg [.v (.int .i64 n.fKind),.str n.fName,.v (.int .i64 n.fType.fKind),.sl false 2 (n.fType.fRanges.map (encRange false)),.sl false 1 (n.fType.fNames.map AV.str),.str n.fType.fPattern,.str n.fType.fPath,.sl false 1 (n.fKeys.map AV.str),.sl false 1 (n.fUnique.map AV.str),.str n.fDefault,.v (.bool n.fGiven),.v (.bool n.fNeeded),.v (.bool n.fPresent),.v (.bool n.fFixed),.v (.int .i64 n.fMin),.v (.int .i64 n.fMax),.sl false 7 (n.fWhen.map (encExpr false)),.sl false 7 (n.fMust.map (encExpr false)),.sl false 19 (n.fKids.map (encSchema false))],.sl false 3 (l.map (encNode false)),.agg [.str x.fName,.str x.fValue,.sl false 3 (x.fKids.map (encNode false))]] (.v (.int .i64 (fnd n l x))) [] True:=by
 refine Ctr.of_body en119 Tryz.func119 rfl rfl fun hp=>(?_);rw [Tryz.ntmps119]
 have gOn:=GrOn.on
 refine AW.fact 1 fun hf=>?_
 simp (disch:=omega) only [go_sem] at hf
 (refine vK ?_;with_reducible repeat' first|exact Le.l|refine Sw ?_ ?_|intro h)
 refine AW.loopV [11] [3,5,9,10] (fun m xs o=>∃ k:Nat,xs=[.v (.int .i64 k)]∧o=[]∧m=l.length - k∧k≤l.length∧∀ y∈l.take k,fiP n x y=false) l.length [] trivial ⟨0,?_,rfl,rfl,?_,?_⟩ ?_
 ·rfl
 ·omega
 ·simp
 rintro m xs o ⟨k,rfl,rfl,rfl,hk,hR⟩
 (refine vU ?_;with_reducible repeat' first|exact Le.l|refine Sw ?_ ?_|intro h)
 ·rw [fnd,idx_at' (p:=fiP n x) (by assumption) hR (by rw [fiP];grind)]
 ·exact ⟨_,[_],_,by omega,⟨k+1,rfl,rfl,rfl,by omega,take_step' (by assumption) hR (by rw [fiP];grind)⟩,rfl,by simp (maxSteps:=2000000) (disch:=omega) only [go_sem]⟩
 ·rw [fnd,idx_end h hR]
end Go.Proofs.YtmcjbaafmjlblaaGreatDoor
namespace Go.Proofs.YtmcjbaafmjlblaaGreatDoor
open Go.Ab Go.Dt
set_option maxRecDepth 20000
set_option maxHeartbeats 4000000
theorem ediAll(l:List GEdit):(l.map (encEdit true)).all (AV.elem 4)=true:=map_all_elem (fun x=>by rw [encEdit_eq];try rfl) l
theorem ediOne(l:List GEdit):((l.map (encEdit true)).flatMap AV.cells).all AV.one=true:=map_all_one (fun x=>by rw [encEdit_eq];try rfl) l
attribute [local go_sem] frzL_str encSchemaM_frz encNodeM_frz schAll schOne ediAll ediOne
instance sFind_i(n:GSchema)(l:List GNode)(v:Str)(key:List Str):Ctr lim Tryz.prog 174 [] [.agg [.v (.int .i64 n.fKind),.str n.fName,.v (.int .i64 n.fType.fKind),.sl false 2 (n.fType.fRanges.map (encRange false)),.sl false 1 (n.fType.fNames.map AV.str),.str n.fType.fPattern,.str n.fType.fPath,.sl false 1 (n.fKeys.map AV.str),.sl false 1 (n.fUnique.map AV.str),.str n.fDefault,.v (.bool n.fGiven),.v (.bool n.fNeeded),.v (.bool n.fPresent),.v (.bool n.fFixed),.v (.int .i64 n.fMin),.v (.int .i64 n.fMax),.sl false 7 (n.fWhen.map (encExpr false)),.sl false 7 (n.fMust.map (encExpr false)),.sl false 19 (n.fKids.map (encSchema false))],.sl false 3 (l.map (encNode false)),.str v,.sl false 1 (key.map AV.str)] (.v (.int .i64 (idx (fsP n v key) l))) [] (∀ y∈l,y.fName=n.fName→kyB n y=true):=by
 refine Ctr.of_body en174 Tryz.func174 rfl rfl fun hp=>(?_);rw [Tryz.ntmps174]
 have gOn:=GrOn.on
 refine AW.fact 1 fun hf=>?_
 simp (disch:=omega) only [go_sem] at hf
 (refine vK ?_;with_reducible repeat' first|exact Le.l|refine Sw ?_ ?_|intro h)
 refine AW.loopV [9] [1,2,3,4] (fun m xs o=>∃ k:Nat,xs=[.v (.int .i64 k)]∧o=[]∧m=l.length - k∧k≤l.length∧∀ y∈l.take k,fsP n v key y=false) l.length [] trivial ⟨0,?_,rfl,rfl,?_,?_⟩ ?_
 ·rfl
 ·omega
 ·simp
 rintro m xs o ⟨k,rfl,rfl,rfl,hk,hR⟩
 have hky:k<l.length→(at_ l k).fName=n.fName→kyB n (at_ l k)=true:=fun h=>hp _ (at_mem h)
 haveI:=sKey_f n (at_ l k)
 (refine vU ?_;with_reducible repeat' first|exact Le.l|refine Sw ?_ ?_|intro h)
 ·exact ⟨_,[_],_,by omega,⟨k+1,rfl,rfl,rfl,by omega,take_step' (by assumption) hR (by rw [fsP];grind)⟩,rfl,by simp (maxSteps:=2000000) (disch:=omega) only [go_sem]⟩
 ·rename_i h'
  rw [idx_at' (p:=fsP n v key) (by assumption) hR (by rw [fsP];grind)]
 ·rename_i h' h2
  rw [idx_at' (p:=fsP n v key) (by assumption) hR (by rw [fsP];grind)]
 ·rename_i h' h2
  exact ⟨_,[_],_,by omega,⟨k+1,rfl,rfl,rfl,by omega,take_step' (by assumption) hR (by rw [fsP];grind)⟩,rfl,by simp (maxSteps:=2000000) (disch:=omega) only [go_sem]⟩
 ·rw [idx_end h hR]
instance sIndex_i(n:GSchema)(l:List GNode)(x:GNode):Ctr lim Tryz.prog 139 [] [.agg [.v (.int .i64 n.fKind),.str n.fName,.v (.int .i64 n.fType.fKind),.sl false 2 (n.fType.fRanges.map (encRange false)),.sl false 1 (n.fType.fNames.map AV.str),.str n.fType.fPattern,.str n.fType.fPath,.sl false 1 (n.fKeys.map AV.str),.sl false 1 (n.fUnique.map AV.str),.str n.fDefault,.v (.bool n.fGiven),.v (.bool n.fNeeded),.v (.bool n.fPresent),.v (.bool n.fFixed),.v (.int .i64 n.fMin),.v (.int .i64 n.fMax),.sl false 7 (n.fWhen.map (encExpr false)),.sl false 7 (n.fMust.map (encExpr false)),.sl false 19 (n.fKids.map (encSchema false))],.sl false 3 (l.map (encNode false)),.agg [.str x.fName,.str x.fValue,.sl false 3 (x.fKids.map (encNode false))]] (.v (.int .i64 (fnd n l x))) [] (kyB n x=true∧∀ y∈l,y.fName=n.fName→kyB n y=true):=by
 refine Ctr.of_body en139 Tryz.func139 rfl rfl fun hp=>(?_);rw [Tryz.ntmps139]
 have gOn:=GrOn.on
 obtain ⟨h1,h2⟩:=hp
 haveI:=sKey_f n x
 (refine vU ?_;with_reducible repeat' first|exact Le.l|refine Sw ?_ ?_|intro h)
 rw [fnd_eq h1 h2]
instance iKeyEd_i(n:GSchema)(x:GNode):Ctr lim Tryz.prog 120 [] [.agg [.v (.int .i64 n.fKind),.str n.fName,.v (.int .i64 n.fType.fKind),.sl false 2 (n.fType.fRanges.map (encRange false)),.sl false 1 (n.fType.fNames.map AV.str),.str n.fType.fPattern,.str n.fType.fPath,.sl false 1 (n.fKeys.map AV.str),.sl false 1 (n.fUnique.map AV.str),.str n.fDefault,.v (.bool n.fGiven),.v (.bool n.fNeeded),.v (.bool n.fPresent),.v (.bool n.fFixed),.v (.int .i64 n.fMin),.v (.int .i64 n.fMax),.sl false 7 (n.fWhen.map (encExpr false)),.sl false 7 (n.fMust.map (encExpr false)),.sl false 19 (n.fKids.map (encSchema false))],.agg [.str x.fName,.str x.fValue,.sl false 3 (x.fKids.map (encNode false))]] (.sl true 4 ((kyE n x).map (encEdit true))) [] (kyB n x=true∧n.fKeys.length≤3):=by
 refine Ctr.of_body en120 Tryz.func120 rfl rfl fun hp=>(?_);rw [Tryz.ntmps120]
 have gOn:=GrOn.on
 obtain ⟨hp,hk3⟩:=hp
 (refine vK ?_;with_reducible repeat' first|exact Le.l|refine Sw ?_ ?_|intro h)
 (refine AW.i rfl (fun h=>?_) (fun h=>?_)<;>try simp only [hC,reduceCtorEq] at h)
 ·(refine vU ?_;with_reducible repeat' first|exact Le.l|refine Sw ?_ ?_|intro h)
  rw [kyE,if_neg h];try rfl
 have hk2:=h
 clear h
 (refine vK ?_;with_reducible repeat' first|exact Le.l|refine Sw ?_ ?_|intro h)
 refine AW.imp (Imp.frz 6 ?_)
 simp only [go_sem]
 refine AW.loopW [5,24] [6,22,23] (fun m xs o=>∃ k:Nat,xs=[.sl true 4 (((kyE n x).take k).map (encEdit true)),.v (.int .i64 k)]∧o=[]∧m=n.fKeys.length - k∧k≤n.fKeys.length) n.fKeys.length [] trivial ⟨0,?_,rfl,rfl,?_⟩ ?_
 ·rfl
 ·omega
 rintro m xs o ⟨k,rfl,rfl,rfl,hk⟩
 have hlen:((kyE n x).take k).length≤k:=by rw [List.length_take];omega
 (refine vK ?_;with_reducible repeat' first|exact Le.l|refine Sw ?_ ?_|intro h)
 (refine AW.i rfl (fun h=>?_) (fun h=>?_)<;>try simp only [hC,reduceCtorEq] at h)
 ·obtain ⟨hat,hal⟩:=ky_at (x:=x) hk2 hp h
  (refine vU ?_;with_reducible repeat' first|exact Le.l|refine Sw ?_ ?_|intro h)
  refine Imp.nilApp 5 [.v (.int .i64 1),.str (at_ n.fKeys k),.str (at_ (kyL n x) k)] [] true 4 (by rfl) ?_
  simp (maxSteps:=2000000) (disch:=omega) only [go_sem]
  exact ⟨_,[_,_],_,by omega,⟨k+1,by rw [kyE_step hk2 h,List.map_append,List.map_cons,List.map_nil,encEdit_eq,← hat];try rfl,rfl,rfl,by omega⟩,rfl,by simp (maxSteps:=2000000) (disch:=omega) only [go_sem]⟩
 ·(refine vU ?_;with_reducible repeat' first|exact Le.l|refine Sw ?_ ?_|intro h)
  rw [kyE_end h]
instance sKeyEd_i(n:GSchema)(x:GNode):Ctr lim Tryz.prog 140 [] [.agg [.v (.int .i64 n.fKind),.str n.fName,.v (.int .i64 n.fType.fKind),.sl false 2 (n.fType.fRanges.map (encRange false)),.sl false 1 (n.fType.fNames.map AV.str),.str n.fType.fPattern,.str n.fType.fPath,.sl false 1 (n.fKeys.map AV.str),.sl false 1 (n.fUnique.map AV.str),.str n.fDefault,.v (.bool n.fGiven),.v (.bool n.fNeeded),.v (.bool n.fPresent),.v (.bool n.fFixed),.v (.int .i64 n.fMin),.v (.int .i64 n.fMax),.sl false 7 (n.fWhen.map (encExpr false)),.sl false 7 (n.fMust.map (encExpr false)),.sl false 19 (n.fKids.map (encSchema false))],.agg [.str x.fName,.str x.fValue,.sl false 3 (x.fKids.map (encNode false))]] (.sl true 4 ((kyE n x).map (encEdit true))) [] (kyB n x=true∧n.fKeys.length≤3):=by
 refine Ctr.of_body en140 Tryz.func140 rfl rfl fun hp=>(?_);rw [Tryz.ntmps140]
 have gOn:=GrOn.on
 obtain ⟨hp,hk3⟩:=hp
 (refine vK ?_;with_reducible repeat' first|exact Le.l|refine Sw ?_ ?_|intro h)
 refine AW.loopW [5,6] [2,3] (fun m xs o=>∃ k:Nat,xs=[.sl true 4 (((kyE n x).take k).map (encEdit true)),.v (.int .i64 k)]∧o=[]∧m=n.fKeys.length - k∧k≤n.fKeys.length) n.fKeys.length [] trivial ⟨0,?_,rfl,rfl,?_⟩ ?_
 ·rfl
 ·omega
 rintro m xs o ⟨k,rfl,rfl,rfl,hk⟩
 have hlen:((kyE n x).take k).length≤k:=by rw [List.length_take];omega
 have hat:n.fKind=2→k<n.fKeys.length→_:=fun q=>ky_has (x:=x) q hp (k:=k)
 (refine vK ?_;with_reducible repeat' first|exact Le.l|refine Sw ?_ ?_|intro h)
 (refine AW.i rfl (fun h=>?_) (fun h=>?_)<;>try simp only [hC,reduceCtorEq] at h)
 ·have hat:=hat h.2 h.1
  (refine vU ?_;with_reducible repeat' first|exact Le.l|refine Sw ?_ ?_|intro h)
  refine Imp.nilApp 5 [.v (.int .i64 1),.str (at_ n.fKeys k),.str (kyT x (at_ n.fKeys k))] [] true 4 (by rfl) ?_
  simp (maxSteps:=2000000) (disch:=omega) only [go_sem]
  exact ⟨_,[_,_],_,by omega,⟨k+1,by rw [kyE_step h.2 h.1,List.map_append,List.map_cons,List.map_nil,encEdit_eq];try rfl,rfl,rfl,by omega⟩,rfl,by simp (maxSteps:=2000000) (disch:=omega) only [go_sem]⟩
 ·(refine vU ?_;with_reducible repeat' first|exact Le.l|refine Sw ?_ ?_|intro h)
  by_cases q:k<n.fKeys.length
  ·rw [kyE_non (h q)]
  ·rw [kyE_end q]
theorem iEdO_n:∀ (n:Nat) (op:Int) (l:List GNode),Ctr lim Tryz.prog 121 [] [.v (.int .i64 op),.sl false 3 (l.map (encNode false))] (.sl true 4 ((edO op l).map (encEdit true))) [] (SizeOf.sizeOf l<n)
 | 0,_,l=>⟨en121,fun h=>absurd h (Nat.not_lt_zero _)⟩
 | n+1,op,l=>by
  have ih:=iEdO_n n
  refine Ctr.of_body en121 Tryz.func121 rfl rfl fun hp=>(?_);rw [Tryz.ntmps121]
  have gOn:=GrOn.on
  refine AW.fact 1 fun hf=>?_
  simp (disch:=omega) only [go_sem] at hf
  (refine vK ?_;with_reducible repeat' first|exact Le.l|refine Sw ?_ ?_|intro h)
  refine AW.loopV [5,11] [0,9,10] (fun m xs o=>∃ k:Nat,xs=[.sl true 4 ((edO op (l.take k)).map (encEdit true)),.v (.int .i64 k)]∧o=[]∧m=l.length - k∧k≤l.length) l.length [] trivial ⟨0,?_,rfl,rfl,?_⟩ ?_
  ·rw [List.take_zero,edO];try rfl
  ·omega
  rintro m xs o ⟨k,rfl,rfl,rfl,hk⟩
  have hlt:(edO op (l.take k)).length=k:=by rw [edO_len,List.length_take];omega
  have hkk:k<l.length→SizeOf.sizeOf (at_ l k).fKids<n:=fun h=>by have:=GNode.kids_lt (at_mem h);omega
  (refine vU ?_;with_reducible repeat' first|exact Le.l|refine Sw ?_ ?_|intro h)
  ·exact ⟨_,[_,_],_,by omega,⟨k+1,by rw [edO_step (by assumption),List.map_append,List.map_cons,List.map_nil,encEdit_eq];try rfl,rfl,rfl,by omega⟩,rfl,by simp (maxSteps:=2000000) (disch:=omega) only [go_sem]⟩
  ·rw [List.take_of_length_le (by omega)]
theorem sEdO_n:∀ (n:Nat) (op:Int) (l:List GNode),Ctr lim Tryz.prog 141 [] [.v (.int .i64 op),.sl false 3 (l.map (encNode false))] (.sl true 4 ((edO op l).map (encEdit true))) [] (SizeOf.sizeOf l<n)
 | 0,_,l=>⟨en141,fun h=>absurd h (Nat.not_lt_zero _)⟩
 | n+1,op,l=>by
  have ih:=sEdO_n n
  refine Ctr.of_body en141 Tryz.func141 rfl rfl fun hp=>(?_);rw [Tryz.ntmps141]
  have gOn:=GrOn.on
  refine AW.fact 1 fun hf=>?_
  simp (disch:=omega) only [go_sem] at hf
  (refine vK ?_;with_reducible repeat' first|exact Le.l|refine Sw ?_ ?_|intro h)
  refine AW.loopV [5,6] [0,1] (fun m xs o=>∃ k:Nat,xs=[.sl true 4 ((edO op (l.take k)).map (encEdit true)),.v (.int .i64 k)]∧o=[]∧m=l.length - k∧k≤l.length) l.length [] trivial ⟨0,?_,rfl,rfl,?_⟩ ?_
  ·rw [List.take_zero,edO];try rfl
  ·omega
  rintro m xs o ⟨k,rfl,rfl,rfl,hk⟩
  have hlt:(edO op (l.take k)).length=k:=by rw [edO_len,List.length_take];omega
  have hkk:k<l.length→SizeOf.sizeOf (at_ l k).fKids<n:=fun h=>by have:=GNode.kids_lt (at_mem h);omega
  (refine vK ?_;with_reducible repeat' first|exact Le.l|refine Sw ?_ ?_|intro h)
  (refine AW.i rfl (fun h=>?_) (fun h=>?_)<;>try simp only [hC,reduceCtorEq] at h)
  ·(refine vN ?_;with_reducible repeat' first|exact Le.l|refine Sw ?_ ?_|intro h)
   refine Z ?_
   intro K hK
   simp (maxSteps:=2000000) (disch:=omega) only [go_sem]
   refine Y ?_
   simp (maxSteps:=2000000) (disch:=omega) only [go_sem]
   refine And.intro (hkk h) (And.intro (by decide) (And.intro (by decide) ?_))
   refine Y ?_
   simp (maxSteps:=2000000) (disch:=omega) only [go_sem]
   refine And.intro ⟨by omega,by omega,by omega⟩ ?_
   refine hK _ _ ⟨Ct,?_⟩
   clear hK K
   intro K hK
   simp (maxSteps:=2000000) (disch:=omega) only [go_sem]
   refine hK _ _ ?_
   clear hK K
   (refine vU ?_;with_reducible repeat' first|exact Le.l|refine Sw ?_ ?_|intro h)
   exact ⟨_,[_,_],_,by omega,⟨k+1,by rw [edO_step (by assumption),List.map_append,List.map_cons,List.map_nil,encEdit_eq];try rfl,rfl,rfl,by omega⟩,rfl,by simp (maxSteps:=2000000) (disch:=omega) only [go_sem]⟩
  ·(refine vU ?_;with_reducible repeat' first|exact Le.l|refine Sw ?_ ?_|intro h)
   rw [List.take_of_length_le (by omega)]
end Go.Proofs.YtmcjbaafmjlblaaGreatDoor
namespace Go.Dt
open Go Go.Ab
theorem gd_keys{s:List GSchema}(h:gdS s){n:GSchema}(hn:n∈dk s):n.fKeys.length≤3:=by
 obtain ⟨_,kind,bd,hA⟩:=h
 obtain ⟨⟨kd,b,ho⟩,_⟩:=kA_dk s kind bd hA n hn
 simp only [oneI,aloneI,Bool.and_eq_true] at ho
 have hs:=ho.1.1.1.1.1.2.1
 have hk:=ho.1.1.1.1.1.2.2
 by_cases h2:n.fKind=2
 ·rw [kindI,if_neg (by omega),if_pos h2] at hk
  simp only [Bool.and_eq_true,decide_eq_true_eq] at hk
  omega
 ·simp only [shapeI,Bool.and_eq_true,Bool.or_eq_true,decide_eq_true_eq] at hs
  rcases hs.1.1.1.1.1.1.2 with h|h
  ·exact absurd h h2
  ·rw [List.isEmpty_iff.1 h.1];simp
section
variable {s : List GSchema} {a b : List GNode} {x y : GNode}
theorem fnd_ok(hf:0≤fnd (nd s y.fName) a y)(hy:okX (dk s) y):(fnd (nd s y.fName) a y).toNat<a.length∧(at_ a (fnd (nd s y.fName) a y).toNat).fName=y.fName∧at_ a (fnd (nd s y.fName) a y).toNat∈a:=by
 obtain ⟨h1,h2,h3⟩:=idx_hit hf
 simp only [fiP,Bool.and_eq_true,beq_iff_eq] at h2
 exact ⟨h1,h2.1.1.trans (okX_at hy).1,h3⟩
theorem kid_ok(hx:okX (dk s) x)(h:¬ ((nd s x.fName).fKind=3∨(nd s x.fName).fKind=4)):∀ k∈x.fKids,okX (dk (nd s x.fName).fKids) k :=
 okL_mem (okN_kids hx.2 h).2.1
theorem ky_all(hb:∀ y∈b,okX (dk s) y)(hx:okX (dk s) x):∀ y∈b,y.fName=(at_ (dk s) (idx (nmP x.fName) (dk s)).toNat).fName→kyB (at_ (dk s) (idx (nmP x.fName) (dk s)).toNat) y=true:=by
 intro y hy e
 rw [(okX_at hx).1] at e
 have:=okN_key (hb y hy).2
 rw [e] at this
 exact this
theorem dfA_y(h:0≤fnd (nd s x.fName) b x):dfA s b x=[]:=by rw [dfA,if_pos h]
theorem dfA_4(h:¬ 0≤fnd (nd s x.fName) b x)(h4:(nd s x.fName).fKind=4):dfA s b x=[.mk 4 x.fName x.fValue (kyE (nd s x.fName) x)]:=by rw [dfA,if_neg h,if_pos h4]
theorem dfA_n(h:¬ 0≤fnd (nd s x.fName) b x)(h4:¬ (nd s x.fName).fKind=4):dfA s b x=[.mk 4 x.fName [] (kyE (nd s x.fName) x)]:=by rw [dfA,if_neg h,if_neg h4]
theorem dfY_c(h:fnd (nd s y.fName) a y<0):dfY s a y=edO 3 [y]:=by rw [dfY,if_pos h,edO_map 3 [y]];rfl
theorem dfY_r(h:¬ fnd (nd s y.fName) a y<0)(h2:(nd s y.fName).fKind=3∧¬ (at_ a (fnd (nd s y.fName) a y).toNat).fValue=y.fValue):dfY s a y=[.mk 2 y.fName y.fValue []]:=by rw [dfY,if_neg h,if_pos h2]
theorem dfY_m(h:¬ fnd (nd s y.fName) a y<0)(h2:((nd s y.fName).fKind=1∨(nd s y.fName).fKind=2)∧smT (at_ a (fnd (nd s y.fName) a y).toNat).fKids y.fKids=false):dfY s a y=[.mk 1 y.fName [] (kyE (nd s y.fName) y++dif (nd s y.fName).fKids (at_ a (fnd (nd s y.fName) a y).toNat).fKids y.fKids)]:=by
 rw [dfY,if_neg h,if_neg (by rintro ⟨c,_⟩;omega),if_pos h2]
theorem dfY_n(h:¬ fnd (nd s y.fName) a y<0)(h1:¬ ((nd s y.fName).fKind=3∧¬ (at_ a (fnd (nd s y.fName) a y).toNat).fValue=y.fValue))(h2:¬ (((nd s y.fName).fKind=1∨(nd s y.fName).fKind=2)∧smT (at_ a (fnd (nd s y.fName) a y).toNat).fKids y.fKids=false)):dfY s a y=[]:=by rw [dfY,if_neg h,if_neg h1,if_neg h2]
end
theorem kyE_le{n:GSchema}{x:GNode}(h:n.fKeys.length≤3):(kyE n x).length≤3:=by have:=kyE_len (n:=n) (x:=x);omega
theorem flat_len_le{α β:Type}{f:α→List β}(h:∀ x,(f x).length≤1)(l:List α):(l.flatMap f).length≤l.length:=flat_le h l
theorem dif_len(s:List GSchema)(a b:List GNode):(dif s a b).length≤a.length+b.length:=by
 rw [dif_eq,List.length_append]
 have:=flat_le (dfA_le s b) a
 have:=flat_le (dfY_le s a) b
 omega
end Go.Dt
