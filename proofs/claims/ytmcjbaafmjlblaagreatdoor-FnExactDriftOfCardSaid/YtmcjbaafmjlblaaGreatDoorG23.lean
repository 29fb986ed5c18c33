/-
  Part of a proof: Fam5, Fam6.
-/
import Derived.Test.YtmcjbaafmjlblaaGreatDoorG1
import Derived.Test.YtmcjbaafmjlblaaGreatDoorG7
import Derived.Test.YtmcjbaafmjlblaaGreatDoorG21
import Derived.Test.YtmcjbaafmjlblaaGreatDoorG22
set_option linter.unusedSimpArgs false
set_option linter.unusedVariables false
namespace Go.Proofs.YtmcjbaafmjlblaaGreatDoor
open Go.Ab Go.Dt
set_option maxRecDepth 20000
set_option maxHeartbeats 4000000
theorem strLen{L:Nat→Nat}{P:Program}{c:Code}{n:Nat}{t:List (Nat×AV)}{o:Sto}{Q:Exit→AS→Prop}(i:Nat){own:Bool}{l:List Str}(hi:T t i=.sl own 1 (l.map AV.str))(h:(∀ k,k<l.length→(at_ l k).length≤4611686018427387904)→AW L P c ⟨n,t,o⟩ Q):AW L P c ⟨n,t,o⟩ Q:=by
 intro B F0 w0 a w hd
 refine h (fun k hk=>?_) B F0 w0 a w hd
 obtain ⟨F,ow,fp,fs,h⟩:=hd
 have hr:=h.slots i
 simp only at hr
 rw [hi] at hr
 simp only [Rep] at hr
 rcases hr with ⟨_,e,_⟩|⟨b,off,cap,vals,fp',_,_,_,_,he,_⟩
 ·have:l=[]:=by simpa using e
  subst this;simp at hk
 ·obtain ⟨y,f,_,_,hr,_⟩:=he.get (i:=k) (x:=.str (at_ l k)) (by rw [List.getElem?_map,at_get hk];rfl)
  simp only [Rep] at hr
  exact hr.2.1
instance szStringS_i(L:Nat→Nat)[hL:Lok L](l:List Str)(r:Int):Ctr L Tryz.prog 59 [] [.sl false 1 (l.map AV.str),.v (.int .i64 r)] (.v (.int .i64 (szSl szStr l r))) [] (0≤r∧r≤1048576):=by
 refine Ctr.of_body en59 Tryz.func59 rfl rfl fun hp=>(?_);rw [Tryz.ntmps59]
 refine strLen 0 rfl fun hfs=>?_
 refine AW.fact 0 fun hf=>?_
 simp (disch:=omega) only [go_sem,Nat.reduceBEq] at hf
 have hf:=Nat.le_trans hf (hL.le 1)
 (refine vU ?_;with_reducible repeat' first|exact Le.l|refine Sw ?_ ?_|intro h)
 ·rw [szSl_neg h]
 rw [szSl_pos h]
 refine AW.loopV [1,5] [0] (fun m xs o=>∃ (k:Nat) (q:Int),xs=[.v (.int .i64 q),.v (.int .i64 k)]∧o=[]∧m=l.length - k∧k≤l.length∧0≤q∧q≤1048576∧szGo szStr (l.drop k) q=szGo szStr l (r - l.length)) l.length [] trivial ⟨0,_,?_,rfl,rfl,?_,?_,?_,rfl⟩ ?_
 ·rfl
 ·omega
 ·omega
 ·omega
 rintro m xs o ⟨k,q,rfl,rfl,rfl,hk,h0,h1,hR⟩
 have hle:=szStr_le (at_ l k) q h0
 have hse:=hfs k
 have hsz:szStr (at_ l k) q=q - (at_ l k).length:=rfl
 (refine vU ?_;with_reducible repeat' first|exact Le.l|refine Sw ?_ ?_|intro h)
 ·rw [szGo_at (by assumption),if_pos (by first|exact h|(rw [hsz];exact h))] at hR;rw [hR]
 ·rw [szGo_at (by assumption),if_neg (by omega)] at hR
  exact ⟨_,[_,_],[],by omega,⟨k+1,_,rfl,rfl,rfl,by omega,by omega,by omega,hR⟩,rfl,trivial⟩
 ·rw [szGo_end h] at hR;rw [hR]
instance toStringS_i(l:List Str):Ctr lim Tryz.prog 64 [] [.sl false 1 (l.map AV.str)] (.sl true 1 (l.map AV.str)) [] True:=by
 refine Ctr.of_body en64 Tryz.func64 rfl rfl fun hp=>(?_);rw [Tryz.ntmps64]
 refine AW.fact 0 fun hf=>?_
 simp (disch:=omega) only [go_sem,Nat.reduceBEq] at hf
 (refine vU ?_;with_reducible repeat' first|exact Le.l|refine Sw ?_ ?_|intro h)
 refine AW.loopV [4] [0,3] (fun m xs o=>∃ k:Nat,xs=[.v (.int .i64 k)]∧o=[(h,some (mkC AV.str [.string ⟨#[]⟩] l k))]∧m=l.length - k∧k≤l.length) l.length [(h,some (mkC AV.str [.string ⟨#[]⟩] l 0))] (subO_one (mkC_zero _ _ _)) ⟨0,?_,rfl,rfl,?_⟩ ?_
 ·rfl
 ·omega
 rintro m xs o ⟨k,rfl,rfl,rfl,hk⟩
 have hml:=mkC_len AV.str [.string ⟨#[]⟩] 1 (fun _=>rfl) rfl l k hk
 (refine vX ?_;with_reducible repeat' first|exact Le.l|refine Sw ?_ ?_|intro h)
 ·exact ⟨_,[_],_,by omega,⟨k+1,rfl,rfl,rfl,by omega⟩,rfl,subO_one (by have:=mkC_at AV.str [.string ⟨#[]⟩] 1 (fun _=>rfl) rfl l k h;simp only [go_sem,Nat.mul_one] at this ⊢;exact this.symm)⟩
 ·refine AW.made 2 rfl h hk (fun _=>rfl) ?_
  all_goals exact uU
instance eqRange_i(L:Nat→Nat)[hL:Lok L](x:GRange):Ctr L Tryz.prog 183 [] [.agg [.v (.int .i64 x.fLo),.v (.int .i64 x.fHi)],.agg [.v (.int .i64 x.fLo),.v (.int .i64 x.fHi)]] (.v (.bool true)) [] True:=by
 refine Ctr.of_body en183 Tryz.func183 rfl rfl fun hp=>(?_);rw [Tryz.ntmps183]
 all_goals exact uU
instance eqRangeS_i(L:Nat→Nat)[hL:Lok L](l:List GRange):Ctr L Tryz.prog 158 [] [.sl false 2 (l.map (encRange false)),.sl false 2 (l.map (encRange false))] (.v (.bool true)) [] True:=by
 refine Ctr.of_body en158 Tryz.func158 rfl rfl fun hp=>(?_);rw [Tryz.ntmps158]
 refine AW.fact 0 fun hf=>?_
 simp (disch:=omega) only [go_sem,Nat.reduceBEq] at hf
 have hf:=Nat.le_trans hf (hL.le 2)
 (refine vU ?_;with_reducible repeat' first|exact Le.l|refine Sw ?_ ?_|intro h)
 refine AW.loopV [5] [0,1] (fun m xs o=>∃ k:Nat,xs=[.v (.int .i64 k)]∧o=[]∧m=l.length - k∧k≤l.length) l.length [] trivial ⟨0,?_,rfl,rfl,?_⟩ ?_
 ·rfl
 ·omega
 rintro m xs o ⟨k,rfl,rfl,rfl,hk⟩
 (refine vU ?_;with_reducible repeat' first|exact Le.l|refine Sw ?_ ?_|intro h)
 exact ⟨_,[_],[],by omega,⟨k+1,rfl,rfl,rfl,by omega⟩,rfl,trivial⟩
theorem szGo_Range:∀ (l:List GRange) (r:Int),0≤r→szGo szRange l r=r
 | [],_,_=>rfl
 | x::xs,r,h=>by
  rw [szGo,show szRange x r=r from rfl,thn,if_neg (by omega)];exact szGo_Range xs r h
instance szRangeS_i(L:Nat→Nat)[hL:Lok L](l:List GRange)(r:Int):Ctr L Tryz.prog 144 [] [.sl false 2 (l.map (encRange false)),.v (.int .i64 r)] (.v (.int .i64 (szSl szRange l r))) [] (0≤r∧r≤1048576):=by
 refine Ctr.of_body en144 Tryz.func144 rfl rfl fun hp=>(?_);rw [Tryz.ntmps144]
 refine AW.fact 0 fun hf=>?_
 simp (disch:=omega) only [go_sem,Nat.reduceBEq] at hf
 have hf:=Nat.le_trans hf (hL.le 2)
 (refine vU ?_;with_reducible repeat' first|exact Le.l|refine Sw ?_ ?_|intro h)
 ·rw [szSl_neg h]
 ·rw [szSl_pos h,szGo_Range _ _ h]
instance toRange_i(x:GRange):Ctr lim Tryz.prog 177 [] [.agg [.v (.int .i64 x.fLo),.v (.int .i64 x.fHi)]] (.agg [.v (.int .i64 x.fLo),.v (.int .i64 x.fHi)]) [] True:=by
 refine Ctr.of_body en177 Tryz.func177 rfl rfl fun hp=>(?_);rw [Tryz.ntmps177]
 all_goals exact uU
instance toRangeS_i(l:List GRange):Ctr lim Tryz.prog 148 [] [.sl false 2 (l.map (encRange false))] (.sl true 2 (l.map (encRange true))) [] True:=by
 refine Ctr.of_body en148 Tryz.func148 rfl rfl fun hp=>(?_);rw [Tryz.ntmps148]
 refine AW.fact 0 fun hf=>?_
 simp (disch:=omega) only [go_sem,Nat.reduceBEq] at hf
 (refine vU ?_;with_reducible repeat' first|exact Le.l|refine Sw ?_ ?_|intro h)
 refine AW.loopV [4] [0,3] (fun m xs o=>∃ k:Nat,xs=[.v (.int .i64 k)]∧o=[(h,some (mkC (encRange true) [.int .i64 0,.int .i64 0] l k))]∧m=l.length - k∧k≤l.length) l.length [(h,some (mkC (encRange true) [.int .i64 0,.int .i64 0] l 0))] (subO_one (mkC_zero _ _ _)) ⟨0,?_,rfl,rfl,?_⟩ ?_
 ·rfl
 ·omega
 rintro m xs o ⟨k,rfl,rfl,rfl,hk⟩
 have hml:=mkC_len (encRange true) [.int .i64 0,.int .i64 0] 2 (fun _=>rfl) rfl l k hk
 (refine vX ?_;with_reducible repeat' first|exact Le.l|refine Sw ?_ ?_|intro h)
 ·exact ⟨_,[_],_,by omega,⟨k+1,rfl,rfl,rfl,by omega⟩,rfl,subO_one (by have:=mkC_at (encRange true) [.int .i64 0,.int .i64 0] 2 (fun _=>rfl) rfl l k h;simp only [go_sem,Nat.mul_one] at this ⊢;exact this.symm)⟩
 ·refine AW.made 2 rfl h hk (fun _=>rfl) ?_
  all_goals exact uU
instance eqType_i(L:Nat→Nat)[hL:Lok L](x:GType):Ctr L Tryz.prog 122 [] [.agg [.v (.int .i64 x.fKind),.sl false 2 (x.fRanges.map (encRange false)),.sl false 1 (x.fNames.map AV.str),.str x.fPattern,.str x.fPath],.agg [.v (.int .i64 x.fKind),.sl false 2 (x.fRanges.map (encRange false)),.sl false 1 (x.fNames.map AV.str),.str x.fPattern,.str x.fPath]] (.v (.bool true)) [] True:=by
 refine Ctr.of_body en122 Tryz.func122 rfl rfl fun hp=>(?_);rw [Tryz.ntmps122]
 all_goals exact uU
instance szType_i(L:Nat→Nat)[hL:Lok L](x:GType)(r:Int):Ctr L Tryz.prog 110 [] [.agg [.v (.int .i64 x.fKind),.sl false 2 (x.fRanges.map (encRange false)),.sl false 1 (x.fNames.map AV.str),.str x.fPattern,.str x.fPath],.v (.int .i64 r)] (.v (.int .i64 (szType x r))) [] (0≤r∧r≤1048576):=by
 refine Ctr.of_body en110 Tryz.func110 rfl rfl fun hp=>(?_);rw [Tryz.ntmps110]
 refine AW.fact 0 fun hf=>?_
 simp (disch:=omega) only [go_sem,Nat.reduceBEq] at hf
 have le0:=szSl_le szRange szRange_le x.fRanges r
 have le1:=szSl_le szStr szStr_le x.fNames (szSl szRange x.fRanges r)
 unfold szType
 ((refine vU ?_;with_reducible repeat' first|exact Le.l|refine Sw ?_ ?_|intro h);all_goals simp only [thn,szStr,id];all_goals refine congrArg (fun z=>AV.v (.int .i64 z)) ?_;all_goals (repeat' split);all_goals omega)
instance toType_i(x:GType):Ctr lim Tryz.prog 114 [] [.agg [.v (.int .i64 x.fKind),.sl false 2 (x.fRanges.map (encRange false)),.sl false 1 (x.fNames.map AV.str),.str x.fPattern,.str x.fPath]] (.agg [.v (.int .i64 x.fKind),.sl true 2 (x.fRanges.map (encRange true)),.sl true 1 (x.fNames.map AV.str),.str x.fPattern,.str x.fPath]) [] True:=by
 refine Ctr.of_body en114 Tryz.func114 rfl rfl fun hp=>(?_);rw [Tryz.ntmps114]
 all_goals exact uU
end Go.Proofs.YtmcjbaafmjlblaaGreatDoor
namespace Go.Proofs.YtmcjbaafmjlblaaGreatDoor
open Go.Ab Go.Dt
set_option maxRecDepth 20000
set_option maxHeartbeats 4000000
theorem GNode.kids_lt{x:GNode}{l:List GNode}(h:x∈l):SizeOf.sizeOf x.fKids<SizeOf.sizeOf l:=by
 have:=List.sizeOf_lt_of_mem h
 cases x;simp [GNode.fKids] at *;omega
theorem eqNode_n(L:Nat→Nat)[hL:Lok L](n:Nat)(ih:∀ l:List GNode,Ctr L Tryz.prog 17 [] [.sl false 3 (l.map (encNode false)),.sl false 3 (l.map (encNode false))] (.v (.bool true)) [] (SizeOf.sizeOf l<n))(x:GNode):Ctr L Tryz.prog 55 [] [.agg [.str x.fName,.str x.fValue,.sl false 3 (x.fKids.map (encNode false))],.agg [.str x.fName,.str x.fValue,.sl false 3 (x.fKids.map (encNode false))]] (.v (.bool true)) [] (SizeOf.sizeOf x.fKids<n):=by
 refine Ctr.of_body en55 Tryz.func55 rfl rfl fun hp=>(?_);rw [Tryz.ntmps55]
 all_goals exact uU
theorem eqNodeS_n(L:Nat→Nat)[hL:Lok L]:∀ (n:Nat) (l:List GNode),Ctr L Tryz.prog 17 [] [.sl false 3 (l.map (encNode false)),.sl false 3 (l.map (encNode false))] (.v (.bool true)) [] (SizeOf.sizeOf l<n)
 | 0,l=>⟨en17,fun h=>absurd h (Nat.not_lt_zero _)⟩
 | n+1,l=>by
  have hx:=eqNode_n L n (eqNodeS_n L n)
  refine Ctr.of_body en17 Tryz.func17 rfl rfl fun hp=>(?_);rw [Tryz.ntmps17]
  refine AW.fact 0 fun hf=>?_
  simp (disch:=omega) only [go_sem,Nat.reduceBEq] at hf
  have hf:=Nat.le_trans hf (hL.le 3)
  (refine vU ?_;with_reducible repeat' first|exact Le.l|refine Sw ?_ ?_|intro h)
  refine AW.loopV [5] [0,1] (fun m xs o=>∃ k:Nat,xs=[.v (.int .i64 k)]∧o=[]∧m=l.length - k∧k≤l.length) l.length [] trivial ⟨0,?_,rfl,rfl,?_⟩ ?_
  ·rfl
  ·omega
  rintro m xs o ⟨k,rfl,rfl,rfl,hk⟩
  have hkk:k<l.length→SizeOf.sizeOf (at_ l k).fKids<n:=fun h=>by have:=GNode.kids_lt (at_mem h);omega
  (refine vU ?_;with_reducible repeat' first|exact Le.l|refine Sw ?_ ?_|intro h)
  exact ⟨_,[_],[],by omega,⟨k+1,rfl,rfl,rfl,by omega⟩,rfl,trivial⟩
instance eqNodeS_i(L:Nat→Nat)[hL:Lok L](l:List GNode):Ctr L Tryz.prog 17 [] [.sl false 3 (l.map (encNode false)),.sl false 3 (l.map (encNode false))] (.v (.bool true)) [] True:=⟨en17,fun _=>(eqNodeS_n L (SizeOf.sizeOf l+1) l).out (Nat.lt_succ_self _)⟩
theorem szNode_n(L:Nat→Nat)[hL:Lok L](n:Nat)(ih:∀ (l:List GNode) (r:Int),Ctr L Tryz.prog 10 [] [.sl false 3 (l.map (encNode false)),.v (.int .i64 r)] (.v (.int .i64 (szSl szNode l r))) [] (SizeOf.sizeOf l<n∧0≤r∧r≤1048576))(x:GNode)(r:Int):Ctr L Tryz.prog 48 [] [.agg [.str x.fName,.str x.fValue,.sl false 3 (x.fKids.map (encNode false))],.v (.int .i64 r)] (.v (.int .i64 (szNode x r))) [] (SizeOf.sizeOf x.fKids<n∧0≤r∧r≤1048576):=by
 refine Ctr.of_body en48 Tryz.func48 rfl rfl fun hp=>(?_);rw [Tryz.ntmps48]
 refine AW.fact 0 fun hf=>?_
 simp (disch:=omega) only [go_sem,Nat.reduceBEq] at hf
 have le2:=szSl_le szNode szNode_le x.fKids ((r - x.fName.length) - x.fValue.length)
 rw [szNode_eq]
 ((refine vU ?_;with_reducible repeat' first|exact Le.l|refine Sw ?_ ?_|intro h);all_goals simp only [thn,szStr,id];all_goals refine congrArg (fun z=>AV.v (.int .i64 z)) ?_;all_goals (repeat' split);all_goals omega)
theorem szNodeS_n(L:Nat→Nat)[hL:Lok L]:∀ (n:Nat) (l:List GNode) (r:Int),Ctr L Tryz.prog 10 [] [.sl false 3 (l.map (encNode false)),.v (.int .i64 r)] (.v (.int .i64 (szSl szNode l r))) [] (SizeOf.sizeOf l<n∧0≤r∧r≤1048576)
 | 0,l,r=>⟨en10,fun h=>absurd h.1 (Nat.not_lt_zero _)⟩
 | n+1,l,r=>by
  have hx:=szNode_n L n (szNodeS_n L n)
  refine Ctr.of_body en10 Tryz.func10 rfl rfl fun hp=>(?_);rw [Tryz.ntmps10]
  refine AW.fact 0 fun hf=>?_
  simp (disch:=omega) only [go_sem,Nat.reduceBEq] at hf
  have hf:=Nat.le_trans hf (hL.le 3)
  (refine vU ?_;with_reducible repeat' first|exact Le.l|refine Sw ?_ ?_|intro h)
  ·rw [szSl_neg h]
  rw [szSl_pos h]
  refine AW.loopV [1,5] [0] (fun m xs o=>∃ (k:Nat) (q:Int),xs=[.v (.int .i64 q),.v (.int .i64 k)]∧o=[]∧m=l.length - k∧k≤l.length∧0≤q∧q≤1048576∧szGo szNode (l.drop k) q=szGo szNode l (r - l.length)) l.length [] trivial ⟨0,_,?_,rfl,rfl,?_,?_,?_,rfl⟩ ?_
  ·rfl
  ·omega
  ·omega
  ·omega
  rintro m xs o ⟨k,q,rfl,rfl,rfl,hk,h0,h1,hR⟩
  have hle:=szNode_le (at_ l k) q h0
  have hkk:k<l.length→SizeOf.sizeOf (at_ l k).fKids<n:=fun h=>by have:=GNode.kids_lt (at_mem h);omega
  (refine vU ?_;with_reducible repeat' first|exact Le.l|refine Sw ?_ ?_|intro h)
  ·rw [szGo_at (by assumption),if_pos (by first|exact h|(rw [hsz];exact h))] at hR;rw [hR]
  ·rw [szGo_at (by assumption),if_neg (by omega)] at hR
   exact ⟨_,[_,_],[],by omega,⟨k+1,_,rfl,rfl,rfl,by omega,by omega,by omega,hR⟩,rfl,trivial⟩
  ·rw [szGo_end h] at hR;rw [hR]
instance szNodeS_i(L:Nat→Nat)[hL:Lok L](l:List GNode)(r:Int):Ctr L Tryz.prog 10 [] [.sl false 3 (l.map (encNode false)),.v (.int .i64 r)] (.v (.int .i64 (szSl szNode l r))) [] (0≤r∧r≤1048576):=⟨en10,fun h=>(szNodeS_n L (SizeOf.sizeOf l+1) l r).out ⟨Nat.lt_succ_self _,h⟩⟩
theorem toNode_n(n:Nat)(ih:∀ l:List GNode,Ctr lim Tryz.prog 13 [] [.sl false 3 (l.map (encNode false))] (.sl true 3 (l.map (encNode true))) [] (SizeOf.sizeOf l<n))(x:GNode):Ctr lim Tryz.prog 51 [] [.agg [.str x.fName,.str x.fValue,.sl false 3 (x.fKids.map (encNode false))]] (.agg [.str x.fName,.str x.fValue,.sl true 3 (x.fKids.map (encNode true))]) [] (SizeOf.sizeOf x.fKids<n):=by
 refine Ctr.of_body en51 Tryz.func51 rfl rfl fun hp=>(?_);rw [Tryz.ntmps51]
 all_goals exact uU
theorem toNodeS_n:∀ (n:Nat) (l:List GNode),Ctr lim Tryz.prog 13 [] [.sl false 3 (l.map (encNode false))] (.sl true 3 (l.map (encNode true))) [] (SizeOf.sizeOf l<n)
 | 0,l=>⟨en13,fun h=>absurd h (Nat.not_lt_zero _)⟩
 | n+1,l=>by
  have hx:=toNode_n n (toNodeS_n n)
  refine Ctr.of_body en13 Tryz.func13 rfl rfl fun hp=>(?_);rw [Tryz.ntmps13]
  refine AW.fact 0 fun hf=>?_
  simp (disch:=omega) only [go_sem,Nat.reduceBEq] at hf
  (refine vU ?_;with_reducible repeat' first|exact Le.l|refine Sw ?_ ?_|intro h)
  refine AW.loopV [4] [0,3] (fun m xs o=>∃ k:Nat,xs=[.v (.int .i64 k)]∧o=[(h,some (mkC (encNode true) [.string ⟨#[]⟩,.string ⟨#[]⟩,.slice none 0 0] l k))]∧m=l.length - k∧k≤l.length) l.length [(h,some (mkC (encNode true) [.string ⟨#[]⟩,.string ⟨#[]⟩,.slice none 0 0] l 0))] (subO_one (mkC_zero _ _ _)) ⟨0,?_,rfl,rfl,?_⟩ ?_
  ·rfl
  ·omega
  rintro m xs o ⟨k,rfl,rfl,rfl,hk⟩
  have hml:=mkC_len (encNode true) [.string ⟨#[]⟩,.string ⟨#[]⟩,.slice none 0 0] 3 (fun x=>by rw [encNode_eq];rfl) rfl l k hk
  have hkk:k<l.length→SizeOf.sizeOf (at_ l k).fKids<n:=fun h=>by have:=GNode.kids_lt (at_mem h);omega
  (refine vX ?_;with_reducible repeat' first|exact Le.l|refine Sw ?_ ?_|intro h)
  ·exact ⟨_,[_],_,by omega,⟨k+1,rfl,rfl,rfl,by omega⟩,rfl,subO_one (by have:=mkC_at (encNode true) [.string ⟨#[]⟩,.string ⟨#[]⟩,.slice none 0 0] 3 (fun x=>by rw [encNode_eq];rfl) rfl l k h;simp only [go_sem,Nat.mul_one] at this ⊢;exact this.symm)⟩
  ·refine AW.made 2 rfl h hk (fun x=>by rw [encNode_eq];rfl) ?_
   all_goals exact uU
instance toNodeS_i(l:List GNode):Ctr lim Tryz.prog 13 [] [.sl false 3 (l.map (encNode false))] (.sl true 3 (l.map (encNode true))) [] True:=⟨en13,fun _=>(toNodeS_n (SizeOf.sizeOf l+1) l).out (Nat.lt_succ_self _)⟩
end Go.Proofs.YtmcjbaafmjlblaaGreatDoor
