/-
  Part of a proof: Tn1, Tn2.
-/
import Derived.Test.YtmcjbaafmjlblaaGreatDoorG13
import Derived.Test.YtmcjbaafmjlblaaGreatDoorG14
import Derived.Test.YtmcjbaafmjlblaaGreatDoorG36
set_option linter.unusedSimpArgs false
set_option linter.unusedVariables false
namespace Go.Proofs.YtmcjbaafmjlblaaGreatDoor
open Go.Ab Go.Dt
set_option maxRecDepth 20000
set_option maxHeartbeats 4000000
instance fNam1_i(L:Nat→Nat)(x:GNode)(n:Str):Ctr L Tryz.prog 210 [] [.agg [.str x.fName,.str x.fValue,.sl false 3 (x.fKids.map (encNode false))],.vp [.str n]] (.v (.bool (x.fName == n))) [] True:=by
 refine Ctr.of_body en210 Tryz.func210 rfl rfl fun hp=>(?_);rw [Tryz.ntmps210]
 all_goals exact uU
instance ixNode_i(L:Nat→Nat)[hL:Lok L](l:List GNode)(n:Str):Ctr L Tryz.prog 209 [] [.sl false 3 (l.map (encNode false)),.fn 210 [.vp [.str n]]] (.v (.int .i64 (idx (ndP n) l))) [] True:=by
 refine Ctr.of_body en209 Tryz.func209 rfl rfl fun hp=>(?_);rw [Tryz.ntmps209]
 refine AW.fact 0 fun hf=>?_
 simp (disch:=omega) only [go_sem] at hf
 have hf:=Nat.le_trans hf (hL.le 3)
 (refine vU ?_;with_reducible repeat' first|exact Le.l|refine Sw ?_ ?_|intro h)
 refine AW.loopV [8] [0,1,7] (fun m xs o=>∃ k:Nat,xs=[.v (.int .i64 k)]∧o=[]∧m=l.length - k∧k≤l.length∧∀ x∈l.take k,ndP n x=false) l.length [] trivial ⟨0,?_,rfl,rfl,?_,?_⟩ ?_
 ·rfl
 ·omega
 ·simp
 rintro m xs o ⟨k,rfl,rfl,rfl,hk,hR⟩
 (refine vU ?_;with_reducible repeat' first|exact Le.l|refine Sw ?_ ?_|intro h)
 ·rw [idx_at' (p:=ndP n) (by assumption) hR (by simpa [ndP] using h)]
 ·exact ⟨_,[_],[],by omega,⟨k+1,rfl,rfl,rfl,by omega,take_step' (p:=ndP n) (by assumption) hR (by simpa [ndP] using h)⟩,rfl,trivial⟩
 ·rw [idx_end (p:=ndP n) h hR]
instance iFirst_i(L:Nat→Nat)[hL:Lok L](l:List GNode)(n:Str):Ctr L Tryz.prog 182 [] [.sl false 3 (l.map (encNode false)),.str n] (.v (.int .i64 (idx (ndP n) l))) [] True:=by
 refine Ctr.of_body en182 Tryz.func182 rfl rfl fun hp=>(?_);rw [Tryz.ntmps182]
 all_goals exact uU
instance sFirst_i(L:Nat→Nat)[hL:Lok L](l:List GNode)(n:Str):Ctr L Tryz.prog 175 [] [.sl false 3 (l.map (encNode false)),.str n] (.v (.int .i64 (idx (ndP n) l))) [] True:=by
 refine Ctr.of_body en175 Tryz.func175 rfl rfl fun hp=>(?_);rw [Tryz.ntmps175]
 refine AW.fact 0 fun hf=>?_
 simp (disch:=omega) only [go_sem] at hf
 have hf:=Nat.le_trans hf (hL.le 3)
 (refine vU ?_;with_reducible repeat' first|exact Le.l|refine Sw ?_ ?_|intro h)
 refine AW.loopV [5] [0,1] (fun m xs o=>∃ k:Nat,xs=[.v (.int .i64 k)]∧o=[]∧m=l.length - k∧k≤l.length∧∀ x∈l.take k,ndP n x=false) l.length [] trivial ⟨0,?_,rfl,rfl,?_,?_⟩ ?_
 ·rfl
 ·omega
 ·simp
 rintro m xs o ⟨k,rfl,rfl,rfl,hk,hR⟩
 (refine vU ?_;with_reducible repeat' first|exact Le.l|refine Sw ?_ ?_|intro h)
 ·rw [idx_at' (p:=ndP n) (by assumption) hR (by simpa [ndP] using h)]
 ·exact ⟨_,[_],[],by omega,⟨k+1,rfl,rfl,rfl,by omega,take_step' (p:=ndP n) (by assumption) hR (by simpa [ndP] using h)⟩,rfl,trivial⟩
 ·rw [idx_end (p:=ndP n) h hR]
instance sRow_i(L:Nat→Nat)(k:Int):Ctr L Tryz.prog 190 [] [.v (.int .i64 k)] (.v (.bool (rowK k))) [] True:=by
 refine Ctr.of_body en190 Tryz.func190 rfl rfl fun hp=>(?_);rw [Tryz.ntmps190]
 have gOn:=GrOn.on
 (refine vU ?_;with_reducible repeat' first|exact Le.l|refine Sw ?_ ?_|intro h)
 refine congrArg (fun b=>AV.v (.bool b)) ?_
 unfold rowK;grind
end Go.Proofs.YtmcjbaafmjlblaaGreatDoor
namespace Go.Proofs.YtmcjbaafmjlblaaGreatDoor
open Go.Ab Go.Dt
set_option maxRecDepth 20000
set_option maxHeartbeats 4000000
attribute [local go_sem] frzL_str encSchemaM_frz encNodeM_frz
instance iKey_i(n:GSchema)(x:GNode):Ctr lim Tryz.prog 157 [] [.agg [.v (.int .i64 n.fKind),.str n.fName,.v (.int .i64 n.fType.fKind),.sl false 2 (n.fType.fRanges.map (encRange false)),.sl false 1 (n.fType.fNames.map AV.str),.str n.fType.fPattern,.str n.fType.fPath,.sl false 1 (n.fKeys.map AV.str),.sl false 1 (n.fUnique.map AV.str),.str n.fDefault,.v (.bool n.fGiven),.v (.bool n.fNeeded),.v (.bool n.fPresent),.v (.bool n.fFixed),.v (.int .i64 n.fMin),.v (.int .i64 n.fMax),.sl false 7 (n.fWhen.map (encExpr false)),.sl false 7 (n.fMust.map (encExpr false)),.sl false 19 (n.fKids.map (encSchema false))],.agg [.str x.fName,.str x.fValue,.sl false 3 (x.fKids.map (encNode false))]] (.tup [.sl true 1 ((kyL n x).map AV.str),.v (.bool (kyB n x))]) [] (True):=by
 refine Ctr.of_body en157 Tryz.func157 rfl rfl fun hp=>(?_);rw [Tryz.ntmps157]
 have gOn:=GrOn.on
 refine AW.fact 0 fun hf=>?_
 simp (disch:=omega) only [go_sem] at hf
 (refine vK ?_;with_reducible repeat' first|exact Le.l|refine Sw ?_ ?_|intro h)
 (refine AW.i rfl (fun h=>?_) (fun h=>?_)<;>try simp only [hC,reduceCtorEq] at h)
 ·(refine vU ?_;with_reducible repeat' first|exact Le.l|refine Sw ?_ ?_|intro h)
  rw [(ky_one h).1,(ky_one h).2];try rfl
 (refine vU ?_;with_reducible repeat' first|exact Le.l|refine Sw ?_ ?_|intro h)
 refine AW.loopV [6,20] [2,3,18,19] (fun m xs o=>∃ k:Nat,xs=[.sl true 1 (((n.fKeys.take k).map (kyT x)).map AV.str),.v (.int .i64 k)]∧o=[]∧m=n.fKeys.length - k∧k≤n.fKeys.length∧∀ y∈n.fKeys.take k,(!hasK x y)=false) n.fKeys.length [] trivial ⟨0,?_,rfl,rfl,?_,?_⟩ ?_
 ·rfl
 ·omega
 ·simp
 rintro m xs o ⟨k,rfl,rfl,rfl,hk,hR⟩
 have hlen:(List.take k n.fKeys).length=k:=by rw [List.length_take];omega
 have hi:=idx_lt (p:=ndP (at_ n.fKeys k)) x.fKids
 (refine vU ?_;with_reducible repeat' first|exact Le.l|refine Sw ?_ ?_|intro h)
 ·rename_i h2 h1
  rw [(ky_miss h2 (all_no h1 (by rw [hasK];simpa using h))).1,(ky_miss h2 (all_no h1 (by rw [hasK];simpa using h))).2];try rfl
 ·rename_i h2 h1
  exact ⟨_,[_,_],[],by omega,⟨k+1,rfl,rfl,rfl,by omega,take_step' h1 hR (by rw [hasK];simpa using h)⟩,by rw [tk1m h1];try rfl,trivial⟩
 ·rename_i h1
  rw [(ky_list h1 (all_yes h hR)).1,(ky_list h1 (all_yes h hR)).2,List.take_of_length_le (by omega)]
theorem sKey_y(n:GSchema)(x:GNode):Ctr lim Tryz.prog 173 [] [.agg [.v (.int .i64 n.fKind),.str n.fName,.v (.int .i64 n.fType.fKind),.sl false 2 (n.fType.fRanges.map (encRange false)),.sl false 1 (n.fType.fNames.map AV.str),.str n.fType.fPattern,.str n.fType.fPath,.sl false 1 (n.fKeys.map AV.str),.sl false 1 (n.fUnique.map AV.str),.str n.fDefault,.v (.bool n.fGiven),.v (.bool n.fNeeded),.v (.bool n.fPresent),.v (.bool n.fFixed),.v (.int .i64 n.fMin),.v (.int .i64 n.fMax),.sl false 7 (n.fWhen.map (encExpr false)),.sl false 7 (n.fMust.map (encExpr false)),.sl false 19 (n.fKids.map (encSchema false))],.agg [.str x.fName,.str x.fValue,.sl false 3 (x.fKids.map (encNode false))]] (.tup [.sl true 1 ((kyL n x).map AV.str),.v (.bool true)]) [] (kyB n x=true):=by
 refine Ctr.of_body en173 Tryz.func173 rfl rfl fun hp=>(?_);rw [Tryz.ntmps173]
 have gOn:=GrOn.on
 refine AW.fact 0 fun hf=>?_
 simp (disch:=omega) only [go_sem] at hf
 (refine vK ?_;with_reducible repeat' first|exact Le.l|refine Sw ?_ ?_|intro h)
 (refine AW.i rfl (fun h=>?_) (fun h=>?_)<;>try simp only [hC,reduceCtorEq] at h)
 ·(refine vU ?_;with_reducible repeat' first|exact Le.l|refine Sw ?_ ?_|intro h)
  rw [(ky_one h).1];try rfl
 (refine vU ?_;with_reducible repeat' first|exact Le.l|refine Sw ?_ ?_|intro h)
 refine AW.loopV [6,7] [2,3] (fun m xs o=>∃ k:Nat,xs=[.sl true 1 (((n.fKeys.take k).map (kyT x)).map AV.str),.v (.int .i64 k)]∧o=[]∧m=n.fKeys.length - k∧k≤n.fKeys.length∧∀ y∈n.fKeys.take k,(!hasK x y)=false) n.fKeys.length [] trivial ⟨0,?_,rfl,rfl,?_,?_⟩ ?_
 ·rfl
 ·omega
 ·simp
 rintro m xs o ⟨k,rfl,rfl,rfl,hk,hR⟩
 have hlen:(List.take k n.fKeys).length=k:=by rw [List.length_take];omega
 have hi:=idx_lt (p:=ndP (at_ n.fKeys k)) x.fKids
 (refine vU ?_;with_reducible repeat' first|exact Le.l|refine Sw ?_ ?_|intro h)
 ·rename_i h2 h1
  exact absurd hp (by rw [(ky_miss h2 (all_no h1 (by rw [hasK];simpa using h))).2];decide)
 ·rename_i h2 h1
  exact ⟨_,[_,_],[],by omega,⟨k+1,rfl,rfl,rfl,by omega,take_step' h1 hR (by rw [hasK];simpa using h)⟩,by rw [tk1m h1];try rfl,trivial⟩
 ·rename_i h1
  rw [(ky_list h1 (all_yes h hR)).1,List.take_of_length_le (by omega)]
theorem sKey_n(n:GSchema)(x:GNode):Ctr lim Tryz.prog 173 [] [.agg [.v (.int .i64 n.fKind),.str n.fName,.v (.int .i64 n.fType.fKind),.sl false 2 (n.fType.fRanges.map (encRange false)),.sl false 1 (n.fType.fNames.map AV.str),.str n.fType.fPattern,.str n.fType.fPath,.sl false 1 (n.fKeys.map AV.str),.sl false 1 (n.fUnique.map AV.str),.str n.fDefault,.v (.bool n.fGiven),.v (.bool n.fNeeded),.v (.bool n.fPresent),.v (.bool n.fFixed),.v (.int .i64 n.fMin),.v (.int .i64 n.fMax),.sl false 7 (n.fWhen.map (encExpr false)),.sl false 7 (n.fMust.map (encExpr false)),.sl false 19 (n.fKids.map (encSchema false))],.agg [.str x.fName,.str x.fValue,.sl false 3 (x.fKids.map (encNode false))]] (.tup [.v (.slice none 0 0),.v (.bool false)]) [] (kyB n x=false):=by
 refine Ctr.of_body en173 Tryz.func173 rfl rfl fun hp=>(?_);rw [Tryz.ntmps173]
 have gOn:=GrOn.on
 refine AW.fact 0 fun hf=>?_
 simp (disch:=omega) only [go_sem] at hf
 (refine vK ?_;with_reducible repeat' first|exact Le.l|refine Sw ?_ ?_|intro h)
 (refine AW.i rfl (fun h=>?_) (fun h=>?_)<;>try simp only [hC,reduceCtorEq] at h)
 ·(refine vU ?_;with_reducible repeat' first|exact Le.l|refine Sw ?_ ?_|intro h)
  exact absurd hp (by rw [(ky_one h).2];decide)
 (refine vU ?_;with_reducible repeat' first|exact Le.l|refine Sw ?_ ?_|intro h)
 refine AW.loopV [6,7] [2,3] (fun m xs o=>∃ k:Nat,xs=[.sl true 1 (((n.fKeys.take k).map (kyT x)).map AV.str),.v (.int .i64 k)]∧o=[]∧m=n.fKeys.length - k∧k≤n.fKeys.length∧∀ y∈n.fKeys.take k,(!hasK x y)=false) n.fKeys.length [] trivial ⟨0,?_,rfl,rfl,?_,?_⟩ ?_
 ·rfl
 ·omega
 ·simp
 rintro m xs o ⟨k,rfl,rfl,rfl,hk,hR⟩
 have hlen:(List.take k n.fKeys).length=k:=by rw [List.length_take];omega
 have hi:=idx_lt (p:=ndP (at_ n.fKeys k)) x.fKids
 (refine vU ?_;with_reducible repeat' first|exact Le.l|refine Sw ?_ ?_|intro h)
 ·rename_i h2 h1
  exact ⟨_,[_,_],[],by omega,⟨k+1,rfl,rfl,rfl,by omega,take_step' h1 hR (by rw [hasK];simpa using h)⟩,by rw [tk1m h1];try rfl,trivial⟩
 ·rename_i h1
  exact absurd hp (by rw [(ky_list h1 (all_yes h hR)).2];decide)
theorem sKey_f(n:GSchema)(x:GNode):Ctr lim Tryz.prog 173 [] [.agg [.v (.int .i64 n.fKind),.str n.fName,.v (.int .i64 n.fType.fKind),.sl false 2 (n.fType.fRanges.map (encRange false)),.sl false 1 (n.fType.fNames.map AV.str),.str n.fType.fPattern,.str n.fType.fPath,.sl false 1 (n.fKeys.map AV.str),.sl false 1 (n.fUnique.map AV.str),.str n.fDefault,.v (.bool n.fGiven),.v (.bool n.fNeeded),.v (.bool n.fPresent),.v (.bool n.fFixed),.v (.int .i64 n.fMin),.v (.int .i64 n.fMax),.sl false 7 (n.fWhen.map (encExpr false)),.sl false 7 (n.fMust.map (encExpr false)),.sl false 19 (n.fKids.map (encSchema false))],.agg [.str x.fName,.str x.fValue,.sl false 3 (x.fKids.map (encNode false))]] (.tup [.sl false 1 ((kyL n x).map AV.str),.v (.bool true)]) [] (kyB n x=true) :=
 Ctr.of_pure en173 fun h=>by
  have:=((sKey_y n x).pure h).frz
  simpa only [AV.frz,AV.frzL,frzL_str,cond_true] using this
instance cmpNaN_i(L:Nat→Nat)(s:Str):Ctr L Tryz.prog 235 [] [.str s] (.v (.bool false)) [] True:=by
 refine Ctr.of_body en235 Tryz.func235 rfl rfl fun hp=>(?_);rw [Tryz.ntmps235]
 (refine vU ?_;with_reducible repeat' first|exact Le.l|refine Sw ?_ ?_|intro h)
 all_goals simp
instance cmpC_i(L:Nat→Nat)(a b:Str):Ctr L Tryz.prog 208 [] [.str a,.str b] (.v (.int .i64 (cmpS a b))) [] True:=by
 refine Ctr.of_body en208 Tryz.func208 rfl rfl fun hp=>(?_);rw [Tryz.ntmps208]
 (refine vU ?_;with_reducible repeat' first|exact Le.l|refine Sw ?_ ?_|intro h)
 ·rw [cmpS,if_pos h]
 ·rename_i h1
  rw [cmpS,if_neg (by rw [h1];simp),if_neg h.2]
 ·rename_i h1
  rw [cmpS,if_neg (by rw [h1];simp),if_pos (by rcases h with h|h;rw [h1] at h;exact absurd h (by simp);exact h)]
instance slC_i(a b:List Str):Ctr lim Tryz.prog 180 [] [.sl false 1 (a.map AV.str),.sl false 1 (b.map AV.str)] (.v (.int .i64 (cmpL a b))) [] True:=by
 refine Ctr.of_body en180 Tryz.func180 rfl rfl fun hp=>(?_);rw [Tryz.ntmps180]
 have gOn:=GrOn.on
 refine AW.fact 0 fun hf=>?_
 simp (disch:=omega) only [go_sem] at hf
 (refine vU ?_;with_reducible repeat' first|exact Le.l|refine Sw ?_ ?_|intro h)
 refine AW.loopV [11] [0,1,9,10] (fun m xs o=>∃ k:Nat,xs=[.v (.int .i64 k)]∧o=[]∧m=a.length - k∧k≤a.length∧k≤b.length∧cmpL (a.drop k) (b.drop k)=cmpL a b) a.length [] trivial ⟨0,?_,rfl,rfl,?_,?_,?_⟩ ?_
 ·rfl
 ·omega
 ·omega
 ·rfl
 rintro m xs o ⟨k,rfl,rfl,rfl,hk,hk2,hR⟩
 have hc:=cmpS_rng (at_ a k) (at_ b k)
 (refine vU ?_;with_reducible repeat' first|exact Le.l|refine Sw ?_ ?_|intro h)
 ·rename_i h1
  rw [← hR,cmpL_r h1 (by omega)]
 ·rename_i h1 _
  rw [← hR,cmpL_at h1 (by omega),if_neg h]
 ·rename_i h1 _
  exact ⟨_,[_],[],by omega,⟨k+1,rfl,rfl,rfl,by omega,by omega,by rw [← hR,cmpL_at h1 (by omega),if_pos h]⟩,rfl,trivial⟩
 ·rename_i h1
  rw [← hR,cmpL_e h1,if_pos (by omega)]
 ·rename_i h1
  rw [← hR,cmpL_e h1,if_neg (by omega)]
instance iOrder_i(n:GSchema)(x y:GNode):Ctr lim Tryz.prog 155 [] [.agg [.v (.int .i64 n.fKind),.str n.fName,.v (.int .i64 n.fType.fKind),.sl false 2 (n.fType.fRanges.map (encRange false)),.sl false 1 (n.fType.fNames.map AV.str),.str n.fType.fPattern,.str n.fType.fPath,.sl false 1 (n.fKeys.map AV.str),.sl false 1 (n.fUnique.map AV.str),.str n.fDefault,.v (.bool n.fGiven),.v (.bool n.fNeeded),.v (.bool n.fPresent),.v (.bool n.fFixed),.v (.int .i64 n.fMin),.v (.int .i64 n.fMax),.sl false 7 (n.fWhen.map (encExpr false)),.sl false 7 (n.fMust.map (encExpr false)),.sl false 19 (n.fKids.map (encSchema false))],.agg [.str x.fName,.str x.fValue,.sl false 3 (x.fKids.map (encNode false))],.agg [.str y.fName,.str y.fValue,.sl false 3 (y.fKids.map (encNode false))]] (.v (.int .i64 (ordS n x y))) [] True:=by
 refine Ctr.of_body en155 Tryz.func155 rfl rfl fun hp=>(?_);rw [Tryz.ntmps155]
 have gOn:=GrOn.on
 (refine vU ?_;with_reducible repeat' first|exact Le.l|refine Sw ?_ ?_|intro h)
 ·rw [ordS,if_neg (by rw [rowK];simp;exact h)]
 ·rw [ordS,if_pos (by rw [rowK];simp;grind)]
instance sLess_i(a b:List Str):Ctr lim Tryz.prog 191 [] [.sl false 1 (a.map AV.str),.sl false 1 (b.map AV.str)] (.v (.bool (lessL a b))) [] True:=by
 refine Ctr.of_body en191 Tryz.func191 rfl rfl fun hp=>(?_);rw [Tryz.ntmps191]
 have gOn:=GrOn.on
 refine AW.fact 0 fun hf=>?_
 simp (disch:=omega) only [go_sem] at hf
 (refine vU ?_;with_reducible repeat' first|exact Le.l|refine Sw ?_ ?_|intro h)
 refine AW.loopV [5] [0,1] (fun m xs o=>∃ k:Nat,xs=[.v (.int .i64 k)]∧o=[]∧m=a.length - k∧k≤a.length∧k≤b.length∧lessL (a.drop k) (b.drop k)=lessL a b) a.length [] trivial ⟨0,?_,rfl,rfl,?_,?_,?_⟩ ?_
 ·rfl
 ·omega
 ·omega
 ·rfl
 rintro m xs o ⟨k,rfl,rfl,rfl,hk,hk2,hR⟩
 (refine vU ?_;with_reducible repeat' first|exact Le.l|refine Sw ?_ ?_|intro h)
 ·rename_i h1
  rw [← hR,lessL_at h1.1 h1.2,if_neg h]
 ·rename_i h1
  exact ⟨_,[_],[],by omega,⟨k+1,rfl,rfl,rfl,by omega,by omega,by rw [← hR,lessL_at h1.1 h1.2,if_pos h]⟩,rfl,trivial⟩
 ·rw [← hR,lessL_e hk hk2 (fun c=>h c.1 c.2)]
instance sBefore_i(d:List GSchema)(x y:GNode):Ctr lim Tryz.prog 165 [] [.sl false 19 (d.map (encSchema false)),.agg [.str x.fName,.str x.fValue,.sl false 3 (x.fKids.map (encNode false))],.agg [.str y.fName,.str y.fValue,.sl false 3 (y.fKids.map (encNode false))]] (.v (.bool (befS d x y))) [] (0≤idx (nmP x.fName) d∧(idx (nmP x.fName) d=idx (nmP y.fName) d→kyB (at_ d (idx (nmP x.fName) d).toNat) x=true∧kyB (at_ d (idx (nmP x.fName) d).toNat) y=true)):=by
 refine Ctr.of_body en165 Tryz.func165 rfl rfl fun hp=>(?_);rw [Tryz.ntmps165]
 have gOn:=GrOn.on
 have hi:=idx_lt (p:=nmP x.fName) d
 obtain ⟨hp,hy⟩:=hp
 refine AW.fact 0 fun hf=>?_
 simp (disch:=omega) only [go_sem] at hf
 (refine vK ?_;with_reducible repeat' first|exact Le.l|refine Sw ?_ ?_|intro h)
 (refine AW.i rfl (fun h=>?_) (fun h=>?_)<;>try simp only [hC,reduceCtorEq] at h)
 ·(refine vU ?_;with_reducible repeat' first|exact Le.l|refine Sw ?_ ?_|intro h)
  rw [befS,if_neg]
  rintro ⟨e1,e2⟩
  rcases h with h|h
  ·exact h e1
  ·rw [e1,e2] at h;exact absurd h (by simp)
 obtain ⟨hy1,hy2⟩:=hy h.1
 haveI hky:=sKey_f (at_ d (idx (nmP x.fName) d).toNat) x
 haveI hkz:=sKey_f (at_ d (idx (nmP x.fName) d).toNat) y
 (refine vU ?_;with_reducible repeat' first|exact Le.l|refine Sw ?_ ?_|intro h)
 rw [befS,if_pos ⟨h.1,h.1 ▸ h.2⟩,← h.1]
end Go.Proofs.YtmcjbaafmjlblaaGreatDoor
