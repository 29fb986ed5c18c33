/-
  Part of a proof: Tp4, Tp5, Tp6, Tp7.
-/
import Derived.Test.YtmcjbaafmjlblaaGreatDoorG9
set_option linter.unusedSimpArgs false
set_option linter.unusedVariables false
namespace Go.Proofs.YtmcjbaafmjlblaaGreatDoor
open Go.Ab Go.Dt
set_option maxRecDepth 20000
set_option maxHeartbeats 2000000
theorem iCountTree_n(L:Nat→Nat)[hL:Lok L]:∀ (n:Nat) (l:List GNode),Ctr L Tryz.prog 132 [] [.sl false 3 (l.map (encNode false))] (.v (.int .i64 (cnt l))) [] (wt l<n∧n≤1048577)
 | 0,l=>⟨en132,fun h=>absurd h.1 (Nat.not_lt_zero _)⟩
 | n+1,l=>by
  have ih:=iCountTree_n L n
  refine Ctr.of_body en132 Tryz.func132 rfl rfl fun hp=>(?_);rw [Tryz.ntmps132]
  have hc:=cnt_le l
  have hl:l.length≤wt l:=by unfold wt;omega
  (refine vU ?_;with_reducible repeat' first|exact Le.l|refine Sw ?_ ?_|intro h)
  refine AW.loopV [3,10] [0,8,9] (fun m xs o=>∃ k q:Nat,xs=[.v (.int .i64 q),.v (.int .i64 k)]∧o=[]∧m=l.length - k∧k≤l.length∧q+kc (l.drop k)=cnt l) l.length [] trivial ⟨0,l.length,?_,rfl,rfl,?_,rfl⟩ ?_
  ·rfl
  ·omega
  rintro m xs o ⟨k,q,rfl,rfl,rfl,hk,hR⟩
  have h1:k<l.length→_:=wt_kid (l:=l) (k:=k)
  have h2:k<l.length→_:=kc_at (l:=l) (k:=k)
  have h3:cnt (at_ l k).fKids=(at_ l k).fKids.length+kc (at_ l k).fKids:=rfl
  (refine vU ?_;with_reducible repeat' first|exact Le.l|refine Sw ?_ ?_|intro h)
  ·exact ⟨_,[_,_],[],by omega,⟨k+1,q+cnt (at_ l k).fKids,rfl,rfl,rfl,by omega,by omega⟩,rfl,trivial⟩
  ·rw [drop_end h,kc] at hR;rw [← hR,Nat.add_zero]
theorem sl13Left_n(L:Nat→Nat)[hL:Lok L]:∀ (n:Nat) (l:List GNode) (r:Int),Ctr L Tryz.prog 127 [] [.sl false 3 (l.map (encNode false)),.v (.int .i64 r)] (.v (.int .i64 (l13g l (r - l.length)))) [] (wt l<n∧n≤1048577∧0≤r∧r≤1048576)
 | 0,l,r=>⟨en127,fun h=>absurd h.1 (Nat.not_lt_zero _)⟩
 | n+1,l,r=>by
  have ih:=sl13Left_n L n
  refine Ctr.of_body en127 Tryz.func127 rfl rfl fun hp=>(?_);rw [Tryz.ntmps127]
  have hl:l.length≤wt l:=by unfold wt;omega
  (refine vU ?_;with_reducible repeat' first|exact Le.l|refine Sw ?_ ?_|intro h)
  refine AW.loopV [1,5] [0] (fun m xs o=>∃ (k:Nat) (q:Int),xs=[.v (.int .i64 q),.v (.int .i64 k)]∧o=[]∧m=l.length - k∧k≤l.length∧-4611686018427387904≤q∧q≤1048576∧l13g (l.drop k) q=l13g l (r - l.length)) l.length [] trivial ⟨0,r - l.length,?_,rfl,rfl,?_,?_,?_,rfl⟩ ?_
  ·rfl
  ·omega
  ·omega
  ·omega
  rintro m xs o ⟨k,q,rfl,rfl,rfl,hk,h0,h1,hR⟩
  have hw:k<l.length→_:=wt_kid (l:=l) (k:=k)
  have h3:=l13g_le (at_ l k).fKids (q - (at_ l k).fKids.length)
  (refine vU ?_;with_reducible repeat' first|exact Le.l|refine Sw ?_ ?_|intro h)
  ·have h4:-4611686018427387904≤l13g (at_ l k).fKids (q - (at_ l k).fKids.length):=l13g_ge _ _ (by have:=hw h.1;unfold wt at *;omega) (by have:=hw h.1;omega)
   refine ⟨_,[_,_],[],by omega,⟨k+1,_,rfl,rfl,rfl,by omega,h4,by omega,?_⟩,rfl,trivial⟩
   rw [← hR,l13g_at h.1,if_neg (by omega)]
  ·rw [← hR]
   by_cases e:k<l.length
   ·rw [l13g_neg _ (h e)]
   ·rw [drop_end e,l13g]
instance iCountTree_i(L:Nat→Nat)[hL:Lok L](l:List GNode):Ctr L Tryz.prog 132 [] [.sl false 3 (l.map (encNode false))] (.v (.int .i64 (cnt l))) [] (wt l≤1048576):=⟨en132,fun h=>(iCountTree_n L 1048577 l).out ⟨by omega,by omega⟩⟩
instance sl13Left_i(L:Nat→Nat)[hL:Lok L](l:List GNode)(r:Int):Ctr L Tryz.prog 127 [] [.sl false 3 (l.map (encNode false)),.v (.int .i64 r)] (.v (.int .i64 (l13g l (r - l.length)))) [] (wt l≤1048576∧0≤r∧r≤1048576):=⟨en127,fun h=>(sl13Left_n L 1048577 l r).out ⟨by omega,by omega,h.2⟩⟩
end Go.Proofs.YtmcjbaafmjlblaaGreatDoor
namespace Go.Proofs.YtmcjbaafmjlblaaGreatDoor
open Go.Ab Go.Dt
set_option maxRecDepth 20000
set_option maxHeartbeats 2000000
end Go.Proofs.YtmcjbaafmjlblaaGreatDoor
namespace Go.Proofs.YtmcjbaafmjlblaaGreatDoor
open Go.Ab Go.Dt
set_option maxRecDepth 20000
set_option maxHeartbeats 4000000
section
variable (ip : Str → Bool)
variable [hs : ∀ s, Ctr lim Tryz.prog 245 [] [.str s] (.v (.bool (ip s))) [] True] [hi : ∀ s, Ctr lim Tryz.prog 256 [] [.str s] (.v (.bool (ip s))) [] True]
omit hs in
include hi in
theorem iIsType_t(x:GType):Ctr lim Tryz.prog 232 [] [.agg [.v (.int .i64 x.fKind),.sl false 2 (x.fRanges.map (encRange false)),.sl false 1 (x.fNames.map AV.str),.str x.fPattern,.str x.fPath]] (.v (.bool (isType ip x))) [] True:=by
 refine Ctr.of_body en232 Tryz.func232 rfl rfl fun hp=>(?_);rw [Tryz.ntmps232]
 refine AW.fact 0 fun hf=>?_
 simp (disch:=omega) only [go_sem,Nat.reduceBEq] at hf
 (refine vU ?_;with_reducible repeat' first|exact Le.l|refine Sw ?_ ?_|intro h)
 ·rw [← isType_w0 h]
 ·rw [← isType_w1 (by assumption) h]
 ·rw [← isType_w2 (by assumption) h];rfl
 ·rw [← isType_w4 (by assumption) h]
 ·rw [← isType_w5 (by assumption) h]
 ·rw [← isType_wz (by assumption) (by assumption) (by assumption) (by assumption) h]
omit hi in
include hs in
theorem sIsType_t(x:GType):Ctr lim Tryz.prog 221 [] [.agg [.v (.int .i64 x.fKind),.sl false 2 (x.fRanges.map (encRange false)),.sl false 1 (x.fNames.map AV.str),.str x.fPattern,.str x.fPath]] (.v (.bool (isType ip x))) [] True:=by
 refine Ctr.of_body en221 Tryz.func221 rfl rfl fun hp=>(?_);rw [Tryz.ntmps221]
 refine AW.fact 0 fun hf=>?_
 simp (disch:=omega) only [go_sem,Nat.reduceBEq] at hf
 (refine vU ?_;with_reducible repeat' first|exact Le.l|refine Sw ?_ ?_|intro h)
 refine AW.loopV [3] [0,1] (fun m xs o=>∃ k:Nat,xs=[.v (.int .i64 k)]∧o=[]∧m=x.fNames.length - k∧k≤x.fNames.length∧allTo (fun j=>isName (at_ x.fNames j)) k=true∧allTo (fun j=>!cont (x.fNames.take j) (at_ x.fNames j)) k=true) x.fNames.length [] trivial ⟨0,?_,rfl,rfl,?_,rfl,rfl⟩ ?_
 ·rfl
 ·omega
 rintro m xs o ⟨k,rfl,rfl,rfl,hk,hR,hQ⟩
 (refine vK ?_;with_reducible repeat' first|exact Le.l|refine Sw ?_ ?_|intro h)
 (refine AW.i rfl (fun h=>?_) (fun h=>?_)<;>try simp only [hC,reduceCtorEq] at h)
 ·(refine vK ?_;with_reducible repeat' first|exact Le.l|refine Sw ?_ ?_|intro h)
  refine AW.loopV [4] [0,1,3] (fun m xs o=>∃ j:Nat,xs=[.v (.int .i64 j)]∧o=[]∧m=k - j∧j≤k∧∀ y∈(x.fNames.take k).take j,(y == at_ x.fNames k)=false) k [] trivial ⟨0,?_,rfl,rfl,?_,?_⟩ ?_
  ·rfl
  ·omega
  ·simp
  rintro m xs o ⟨j,rfl,rfl,rfl,hj,hS⟩
  (refine vU ?_;with_reducible repeat' first|exact Le.l|refine Sw ?_ ?_|intro h)
  ·rw [← isType_bad (by assumption) (.inr (allTo_false (by assumption) (by rw [cont_dup (by assumption) (by assumption) h];rfl)))]
  ·exact ⟨_,[_],[],by omega,⟨j+1,rfl,rfl,rfl,by omega,take_step' (by rw [List.length_take];omega) hS (by rw [at_take (by assumption)];simpa using h)⟩,rfl,trivial⟩
  ·rw [← isType_bad (by assumption) (.inl (allTo_false (by assumption) h))]
  ·rw [show j=k by omega,List.take_take,Nat.min_self] at hS
   exact ⟨_,[_],[],by omega,⟨k+1,rfl,rfl,rfl,by omega,allTo_step hR h,allTo_step hQ (by rw [cont_free hS];rfl)⟩,rfl,trivial⟩
 ·rw [show k=x.fNames.length by omega] at hR hQ
  (refine vU ?_;with_reducible repeat' first|exact Le.l|refine Sw ?_ ?_|intro h)
  ·rw [← isType_v1 h]
  ·rw [← isType_v2 h];rfl
  ·rw [← isType_v4 h hR hQ]
  ·rw [← isType_v5 h]
  ·rw [← isType_v3 (by assumption) (by assumption) (by assumption) (by assumption) (.inl h)]
  ·rw [← isType_v3 (by assumption) (by assumption) (by assumption) (by assumption) (.inr h)]
  ·rw [← isType_vz (by assumption) (by assumption) (by assumption) (by assumption) (by assumption) (by assumption)]
end
end Go.Proofs.YtmcjbaafmjlblaaGreatDoor
namespace Go.Proofs.YtmcjbaafmjlblaaGreatDoor
open Go.Ab Go.Dt
set_option maxRecDepth 20000
set_option maxHeartbeats 4000000
section
variable (ip : Str → Bool)
variable [hs : ∀ x : GType, Ctr lim Tryz.prog 221 [] [.agg [.v (.int .i64 x.fKind), .sl false 2 (x.fRanges.map (encRange false)), .sl false 1 (x.fNames.map AV.str), .str x.fPattern, .str x.fPath]] (.v (.bool (isType ip x))) [] True]
variable [hi : ∀ x : GType, Ctr lim Tryz.prog 232 [] [.agg [.v (.int .i64 x.fKind), .sl false 2 (x.fRanges.map (encRange false)), .sl false 1 (x.fNames.map AV.str), .str x.fPattern, .str x.fPath]] (.v (.bool (isType ip x))) [] True]
omit hs in
include hi in
omit hi in
include hs in
end
end Go.Proofs.YtmcjbaafmjlblaaGreatDoor
