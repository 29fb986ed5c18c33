/- A part. -/
import Derived.Test.YtmcjbaafmjlblaaGreatDoorJ20
import Derived.Test.YtmcjbaafmjlblaaGreatDoorJ27
set_option linter.all false
set_option maxRecDepth 20000
set_option maxHeartbeats 4000000
namespace Go.Proofs
open Go.Ab Go.Dt
section
instance Xn(L:Nat->Nat)[hL:Lok L](x:eC):Ctr L Tryz.prog 276 [] [.agg [.str x.ae,.str x.av],.agg [.str x.ae,.str x.av]] (.v (.bool true)) [] True:=by
 refine Ctr.bd Tryz.func276 Tryz.ntmps276 rfl rfl fun hp=>?_
 all_goals exact uU
instance Vq(L:Nat->Nat)[hL:Lok L](l:List eC):Ctr L Tryz.prog 259 [] [.sl false 2 (l.map (cj false)),.sl false 2 (l.map (cj false))] (.v (.bool true)) [] True:=by
 refine Ctr.bd Tryz.func259 Tryz.ntmps259 rfl rfl fun hp=>?_
 refine AW.fact 0 fun hf=>?_
 simp (disch:=omega) only [go_sem,Nat.reduceBEq] at hf
 have hf:=Nat.le_trans hf (hL.le 2)
 (refine vU ?_;with_reducible repeat' first|exact Le.l|apply Sw|intro h)
 refine AW.aA [5] [0,1] (fun m xs o=>∃ k:Nat,xs=[.v (.int .i64 k)]/\o=[]/\m=l.length - k/\k<=l.length) l.length [] trivial ⟨0,?_,rfl,rfl,?_⟩ ?_
 ·rfl
 ·omega
 rintro m xs o ⟨k,rfl,rfl,rfl,hk⟩
 (refine vU ?_;with_reducible repeat' first|exact Le.l|apply Sw|intro h)
 exact ⟨_,[_],[],by omega,⟨k+1,rfl,rfl,rfl,by omega⟩,rfl,trivial⟩
instance VJ(L:Nat->Nat)[hL:Lok L](x:eC)(r:Int):Ctr L Tryz.prog 274 [] [.agg [.str x.ae,.str x.av],.v (.int .i64 r)] (.v (.int .i64 (iH x r))) [] (0<=r/\r<=1048576):=by
 refine Ctr.bd Tryz.func274 Tryz.ntmps274 rfl rfl fun hp=>?_
 refine AW.fact 0 fun hf=>?_
 simp (disch:=omega) only [go_sem,Nat.reduceBEq] at hf
 unfold iH
 ((refine vU ?_;with_reducible repeat' first|exact Le.l|apply Sw|intro h);all_goals simp only [thn,aC,id];all_goals refine congrArg (fun z=>AV.v (.int .i64 z)) ?_;all_goals (repeat' split);all_goals omega)
instance UN(L:Nat->Nat)[hL:Lok L](l:List eC)(r:Int):Ctr L Tryz.prog 257 [] [.sl false 2 (l.map (cj false)),.v (.int .i64 r)] (.v (.int .i64 (aG iH l r))) [] (0<=r/\r<=1048576):=by
 refine Ctr.bd Tryz.func257 Tryz.ntmps257 rfl rfl fun hp=>?_
 refine AW.fact 0 fun hf=>?_
 simp (disch:=omega) only [go_sem,Nat.reduceBEq] at hf
 have hf:=Nat.le_trans hf (hL.le 2)
 (refine vU ?_;with_reducible repeat' first|exact Le.l|apply Sw|intro h)
 ·rw [fQ h]
 rw [gr h]
 refine AW.aA [1,5] [0] (fun m xs o=>∃ (k:Nat) (q:Int),xs=[.v (.int .i64 q),.v (.int .i64 k)]/\o=[]/\m=l.length - k/\k<=l.length/\0<=q/\q<=1048576/\eD iH (l.drop k) q=eD iH l (r - l.length)) l.length [] trivial ⟨0,_,?_,rfl,rfl,?_,?_,?_,rfl⟩ ?_
 ·rfl
 ·omega
 ·omega
 ·omega
 rintro m xs o ⟨k,q,rfl,rfl,rfl,hk,h0,h1,hR⟩
 have hle:=mF (at_ l k) q h0
 (refine vU ?_;with_reducible repeat' first|exact Le.l|apply Sw|intro h)
 ·rw [fX (by assumption),if_pos (by first|exact h|(rw [hsz];exact h))] at hR;rw [hR]
 ·rw [fX (by assumption),if_neg (by omega)] at hR
  exact ⟨_,[_,_],[],by omega,⟨k+1,_,rfl,rfl,rfl,by omega,by omega,by omega,hR⟩,rfl,trivial⟩
 ·rw [j4 h] at hR;rw [hR]
instance VC(x:eC):Ctr lim Tryz.prog 275 [] [.agg [.str x.ae,.str x.av]] (.agg [.str x.ae,.str x.av]) [] True:=by
 refine Ctr.bd Tryz.func275 Tryz.ntmps275 rfl rfl fun hp=>?_
 all_goals exact uU
instance UH(l:List eC):Ctr lim Tryz.prog 258 [] [.sl false 2 (l.map (cj false))] (.sl true 2 (l.map (cj true))) [] True:=by
 refine Ctr.bd Tryz.func258 Tryz.ntmps258 rfl rfl fun hp=>?_
 refine AW.fact 0 fun hf=>?_
 simp (disch:=omega) only [go_sem,Nat.reduceBEq] at hf
 (refine vU ?_;with_reducible repeat' first|exact Le.l|apply Sw|intro h)
 refine AW.aA [4] [0,3] (fun m xs o=>∃ k:Nat,xs=[.v (.int .i64 k)]/\o=[(h,some (mkC (cj true) [.string ⟨#[]⟩,.string ⟨#[]⟩] l k))]/\m=l.length - k/\k<=l.length) l.length [(h,some (mkC (cj true) [.string ⟨#[]⟩,.string ⟨#[]⟩] l 0))] (bw (jN _ _ _)) ⟨0,?_,rfl,rfl,?_⟩ ?_
 ·rfl
 ·omega
 rintro m xs o ⟨k,rfl,rfl,rfl,hk⟩
 have hml:=kH (cj true) [.string ⟨#[]⟩,.string ⟨#[]⟩] 2 (fun _=>rfl) rfl l k hk
 (refine vX ?_;with_reducible repeat' first|exact Le.l|apply Sw|intro h)
 ·exact ⟨_,[_],_,by omega,⟨k+1,rfl,rfl,rfl,by omega⟩,rfl,bw (by have:=l9 (cj true) [.string ⟨#[]⟩,.string ⟨#[]⟩] 2 (fun _=>rfl) rfl l k h;simp only [go_sem,Nat.mul_one] at this ⊢;exact this.symm)⟩
 ·refine AW.made 2 rfl h hk (fun _=>rfl) ?_
  all_goals exact uU
instance Xo(L:Nat->Nat)[hL:Lok L](x:Dt.GStep):Ctr L Tryz.prog 236 [] [.agg [.str x.ae,.sl false 2 (x.b8.map (cj false))],.agg [.str x.ae,.sl false 2 (x.b8.map (cj false))]] (.v (.bool true)) [] True:=by
 refine Ctr.bd Tryz.func236 Tryz.ntmps236 rfl rfl fun hp=>?_
 all_goals exact uU
instance Vr(L:Nat->Nat)[hL:Lok L](l:List Dt.GStep):Ctr L Tryz.prog 211 [] [.sl false 2 (l.map (aU false)),.sl false 2 (l.map (aU false))] (.v (.bool true)) [] True:=by
 refine Ctr.bd Tryz.func211 Tryz.ntmps211 rfl rfl fun hp=>?_
 refine AW.fact 0 fun hf=>?_
 simp (disch:=omega) only [go_sem,Nat.reduceBEq] at hf
 have hf:=Nat.le_trans hf (hL.le 2)
 (refine vU ?_;with_reducible repeat' first|exact Le.l|apply Sw|intro h)
 refine AW.aA [5] [0,1] (fun m xs o=>∃ k:Nat,xs=[.v (.int .i64 k)]/\o=[]/\m=l.length - k/\k<=l.length) l.length [] trivial ⟨0,?_,rfl,rfl,?_⟩ ?_
 ·rfl
 ·omega
 rintro m xs o ⟨k,rfl,rfl,rfl,hk⟩
 (refine vU ?_;with_reducible repeat' first|exact Le.l|apply Sw|intro h)
 exact ⟨_,[_],[],by omega,⟨k+1,rfl,rfl,rfl,by omega⟩,rfl,trivial⟩
instance VK(L:Nat->Nat)[hL:Lok L](x:Dt.GStep)(r:Int):Ctr L Tryz.prog 233 [] [.agg [.str x.ae,.sl false 2 (x.b8.map (cj false))],.v (.int .i64 r)] (.v (.int .i64 (iI x r))) [] (0<=r/\r<=1048576):=by
 refine Ctr.bd Tryz.func233 Tryz.ntmps233 rfl rfl fun hp=>?_
 refine AW.fact 0 fun hf=>?_
 simp (disch:=omega) only [go_sem,Nat.reduceBEq] at hf
 have le1:=aZ iH mF x.b8 (r - x.ae.length)
 unfold iI
 ((refine vU ?_;with_reducible repeat' first|exact Le.l|apply Sw|intro h);all_goals simp only [thn,aC,id];all_goals refine congrArg (fun z=>AV.v (.int .i64 z)) ?_;all_goals (repeat' split);all_goals omega)
instance UO(L:Nat->Nat)[hL:Lok L](l:List Dt.GStep)(r:Int):Ctr L Tryz.prog 205 [] [.sl false 2 (l.map (aU false)),.v (.int .i64 r)] (.v (.int .i64 (aG iI l r))) [] (0<=r/\r<=1048576):=by
 refine Ctr.bd Tryz.func205 Tryz.ntmps205 rfl rfl fun hp=>?_
 refine AW.fact 0 fun hf=>?_
 simp (disch:=omega) only [go_sem,Nat.reduceBEq] at hf
 have hf:=Nat.le_trans hf (hL.le 2)
 (refine vU ?_;with_reducible repeat' first|exact Le.l|apply Sw|intro h)
 ·rw [fQ h]
 rw [gr h]
 refine AW.aA [1,5] [0] (fun m xs o=>∃ (k:Nat) (q:Int),xs=[.v (.int .i64 q),.v (.int .i64 k)]/\o=[]/\m=l.length - k/\k<=l.length/\0<=q/\q<=1048576/\eD iI (l.drop k) q=eD iI l (r - l.length)) l.length [] trivial ⟨0,_,?_,rfl,rfl,?_,?_,?_,rfl⟩ ?_
 ·rfl
 ·omega
 ·omega
 ·omega
 rintro m xs o ⟨k,q,rfl,rfl,rfl,hk,h0,h1,hR⟩
 have hle:=mG (at_ l k) q h0
 (refine vU ?_;with_reducible repeat' first|exact Le.l|apply Sw|intro h)
 ·rw [fX (by assumption),if_pos (by first|exact h|(rw [hsz];exact h))] at hR;rw [hR]
 ·rw [fX (by assumption),if_neg (by omega)] at hR
  exact ⟨_,[_,_],[],by omega,⟨k+1,_,rfl,rfl,rfl,by omega,by omega,by omega,hR⟩,rfl,trivial⟩
 ·rw [j4 h] at hR;rw [hR]
instance VD(x:Dt.GStep):Ctr lim Tryz.prog 234 [] [.agg [.str x.ae,.sl false 2 (x.b8.map (cj false))]] (.agg [.str x.ae,.sl true 2 (x.b8.map (cj true))]) [] True:=by
 refine Ctr.bd Tryz.func234 Tryz.ntmps234 rfl rfl fun hp=>?_
 all_goals exact uU
instance UI(l:List Dt.GStep):Ctr lim Tryz.prog 206 [] [.sl false 2 (l.map (aU false))] (.sl true 2 (l.map (aU true))) [] True:=by
 refine Ctr.bd Tryz.func206 Tryz.ntmps206 rfl rfl fun hp=>?_
 refine AW.fact 0 fun hf=>?_
 simp (disch:=omega) only [go_sem,Nat.reduceBEq] at hf
 (refine vU ?_;with_reducible repeat' first|exact Le.l|apply Sw|intro h)
 refine AW.aA [4] [0,3] (fun m xs o=>∃ k:Nat,xs=[.v (.int .i64 k)]/\o=[(h,some (mkC (aU true) [.string ⟨#[]⟩,.slice none 0 0] l k))]/\m=l.length - k/\k<=l.length) l.length [(h,some (mkC (aU true) [.string ⟨#[]⟩,.slice none 0 0] l 0))] (bw (jN _ _ _)) ⟨0,?_,rfl,rfl,?_⟩ ?_
 ·rfl
 ·omega
 rintro m xs o ⟨k,rfl,rfl,rfl,hk⟩
 have hml:=kH (aU true) [.string ⟨#[]⟩,.slice none 0 0] 2 (fun _=>rfl) rfl l k hk
 (refine vX ?_;with_reducible repeat' first|exact Le.l|apply Sw|intro h)
 ·exact ⟨_,[_],_,by omega,⟨k+1,rfl,rfl,rfl,by omega⟩,rfl,bw (by have:=l9 (aU true) [.string ⟨#[]⟩,.slice none 0 0] 2 (fun _=>rfl) rfl l k h;simp only [go_sem,Nat.mul_one] at this ⊢;exact this.symm)⟩
 ·refine AW.made 2 rfl h hk (fun _=>rfl) ?_
  all_goals exact uU
instance Xp(L:Nat->Nat)[hL:Lok L](x:eO):Ctr L Tryz.prog 184 [] [.agg [.v (.bool x.cH),.v (.int .i64 x.dq),.sl false 2 (x.aN.map (aU false))],.agg [.v (.bool x.cH),.v (.int .i64 x.dq),.sl false 2 (x.aN.map (aU false))]] (.v (.bool true)) [] True:=by
 refine Ctr.bd Tryz.func184 Tryz.ntmps184 rfl rfl fun hp=>?_
 all_goals exact uU
instance VL(L:Nat->Nat)[hL:Lok L](x:eO)(r:Int):Ctr L Tryz.prog 176 [] [.agg [.v (.bool x.cH),.v (.int .i64 x.dq),.sl false 2 (x.aN.map (aU false))],.v (.int .i64 r)] (.v (.int .i64 (jr x r))) [] (0<=r/\r<=1048576):=by
 refine Ctr.bd Tryz.func176 Tryz.ntmps176 rfl rfl fun hp=>?_
 refine AW.fact 0 fun hf=>?_
 simp (disch:=omega) only [go_sem,Nat.reduceBEq] at hf
 have le0:=aZ iI mG x.aN r
 unfold jr
 ((refine vU ?_;with_reducible repeat' first|exact Le.l|apply Sw|intro h);all_goals simp only [thn,aC,id];all_goals refine congrArg (fun z=>AV.v (.int .i64 z)) ?_;all_goals (repeat' split);all_goals omega)
instance VE(x:eO):Ctr lim Tryz.prog 178 [] [.agg [.v (.bool x.cH),.v (.int .i64 x.dq),.sl false 2 (x.aN.map (aU false))]] (.agg [.v (.bool x.cH),.v (.int .i64 x.dq),.sl true 2 (x.aN.map (aU true))]) [] True:=by
 refine Ctr.bd Tryz.func178 Tryz.ntmps178 rfl rfl fun hp=>?_
 all_goals exact uU
theorem aO.cd{x:aO}{l:List aO}(h:x∈l):SizeOf.sizeOf x.af<SizeOf.sizeOf l:=by
 have:=List.sizeOf_lt_of_mem h
 cases x;simp [aO.af] at *;omega
theorem M6(L:Nat->Nat)[hL:Lok L](n:Nat)(ih:∀ l:List aO,Ctr L Tryz.prog 123 [] [.sl false 7 (l.map (aK false)),.sl false 7 (l.map (aK false))] (.v (.bool true)) [] (SizeOf.sizeOf l<n))(x:aO):Ctr L Tryz.prog 159 [] [.agg [.v (.int .i64 x.fOp),.v (.int .i64 x.fD),.str x.cg,.v (.bool x.aE.cH),.v (.int .i64 x.aE.dq),.sl false 2 (x.aE.aN.map (aU false)),.sl false 7 (x.af.map (aK false))],.agg [.v (.int .i64 x.fOp),.v (.int .i64 x.fD),.str x.cg,.v (.bool x.aE.cH),.v (.int .i64 x.aE.dq),.sl false 2 (x.aE.aN.map (aU false)),.sl false 7 (x.af.map (aK false))]] (.v (.bool true)) [] (SizeOf.sizeOf x.af<n):=by
 refine Ctr.bd Tryz.func159 Tryz.ntmps159 rfl rfl fun hp=>?_
 all_goals exact uU
theorem Cb(L:Nat->Nat)[hL:Lok L]:∀ (n:Nat) (l:List aO),Ctr L Tryz.prog 123 [] [.sl false 7 (l.map (aK false)),.sl false 7 (l.map (aK false))] (.v (.bool true)) [] (SizeOf.sizeOf l<n)
 | 0,l=>⟨(aM 123),fun h=>absurd h (Nat.not_lt_zero _)⟩
 | n+1,l=>by
  have hx:=M6 L n (Cb L n)
  refine Ctr.bd Tryz.func123 Tryz.ntmps123 rfl rfl fun hp=>?_
  refine AW.fact 0 fun hf=>?_
  simp (disch:=omega) only [go_sem,Nat.reduceBEq] at hf
  have hf:=Nat.le_trans hf (hL.le 7)
  (refine vU ?_;with_reducible repeat' first|exact Le.l|apply Sw|intro h)
  refine AW.aA [5] [0,1] (fun m xs o=>∃ k:Nat,xs=[.v (.int .i64 k)]/\o=[]/\m=l.length - k/\k<=l.length) l.length [] trivial ⟨0,?_,rfl,rfl,?_⟩ ?_
  ·rfl
  ·omega
  rintro m xs o ⟨k,rfl,rfl,rfl,hk⟩
  have hkk:k<l.length->SizeOf.sizeOf (at_ l k).af<n:=fun h=>by have:=aO.cd (at_mem h);omega
  (refine vU ?_;with_reducible repeat' first|exact Le.l|apply Sw|intro h)
  exact ⟨_,[_],[],by omega,⟨k+1,rfl,rfl,rfl,by omega⟩,rfl,trivial⟩
instance Vu(L:Nat->Nat)[hL:Lok L](l:List aO):Ctr L Tryz.prog 123 [] [.sl false 7 (l.map (aK false)),.sl false 7 (l.map (aK false))] (.v (.bool true)) [] True:=⟨(aM 123),fun _=>(Cb L (SizeOf.sizeOf l+1) l).out (Nat.lt_succ_self _)⟩
theorem LC(L:Nat->Nat)[hL:Lok L](n:Nat)(ih:∀ (l:List aO) (r:Int),Ctr L Tryz.prog 111 [] [.sl false 7 (l.map (aK false)),.v (.int .i64 r)] (.v (.int .i64 (aG cq l r))) [] (SizeOf.sizeOf l<n/\0<=r/\r<=1048576))(x:aO)(r:Int):Ctr L Tryz.prog 145 [] [.agg [.v (.int .i64 x.fOp),.v (.int .i64 x.fD),.str x.cg,.v (.bool x.aE.cH),.v (.int .i64 x.aE.dq),.sl false 2 (x.aE.aN.map (aU false)),.sl false 7 (x.af.map (aK false))],.v (.int .i64 r)] (.v (.int .i64 (cq x r))) [] (SizeOf.sizeOf x.af<n/\0<=r/\r<=1048576):=by
 refine Ctr.bd Tryz.func145 Tryz.ntmps145 rfl rfl fun hp=>?_
 refine AW.fact 0 fun hf=>?_
 simp (disch:=omega) only [go_sem,Nat.reduceBEq] at hf
 have le1:=qt x.aE (r - x.cg.length)
 have le2:=aZ cq eS x.af (jr x.aE (r - x.cg.length))
 rw [uq]
 ((refine vU ?_;with_reducible repeat' first|exact Le.l|apply Sw|intro h);all_goals simp only [thn,aC,id];all_goals refine congrArg (fun z=>AV.v (.int .i64 z)) ?_;all_goals (repeat' split);all_goals omega)
theorem BB(L:Nat->Nat)[hL:Lok L]:∀ (n:Nat) (l:List aO) (r:Int),Ctr L Tryz.prog 111 [] [.sl false 7 (l.map (aK false)),.v (.int .i64 r)] (.v (.int .i64 (aG cq l r))) [] (SizeOf.sizeOf l<n/\0<=r/\r<=1048576)
 | 0,l,r=>⟨(aM 111),fun h=>absurd h.1 (Nat.not_lt_zero _)⟩
 | n+1,l,r=>by
  have hx:=LC L n (BB L n)
  refine Ctr.bd Tryz.func111 Tryz.ntmps111 rfl rfl fun hp=>?_
  refine AW.fact 0 fun hf=>?_
  simp (disch:=omega) only [go_sem,Nat.reduceBEq] at hf
  have hf:=Nat.le_trans hf (hL.le 7)
  (refine vU ?_;with_reducible repeat' first|exact Le.l|apply Sw|intro h)
  ·rw [fQ h]
  rw [gr h]
  refine AW.aA [1,5] [0] (fun m xs o=>∃ (k:Nat) (q:Int),xs=[.v (.int .i64 q),.v (.int .i64 k)]/\o=[]/\m=l.length - k/\k<=l.length/\0<=q/\q<=1048576/\eD cq (l.drop k) q=eD cq l (r - l.length)) l.length [] trivial ⟨0,_,?_,rfl,rfl,?_,?_,?_,rfl⟩ ?_
  ·rfl
  ·omega
  ·omega
  ·omega
  rintro m xs o ⟨k,q,rfl,rfl,rfl,hk,h0,h1,hR⟩
  have hle:=eS (at_ l k) q h0
  have hkk:k<l.length->SizeOf.sizeOf (at_ l k).af<n:=fun h=>by have:=aO.cd (at_mem h);omega
  (refine vU ?_;with_reducible repeat' first|exact Le.l|apply Sw|intro h)
  ·rw [fX (by assumption),if_pos (by first|exact h|(rw [hsz];exact h))] at hR;rw [hR]
  ·rw [fX (by assumption),if_neg (by omega)] at hR
   exact ⟨_,[_,_],[],by omega,⟨k+1,_,rfl,rfl,rfl,by omega,by omega,by omega,hR⟩,rfl,trivial⟩
  ·rw [j4 h] at hR;rw [hR]
instance UR(L:Nat->Nat)[hL:Lok L](l:List aO)(r:Int):Ctr L Tryz.prog 111 [] [.sl false 7 (l.map (aK false)),.v (.int .i64 r)] (.v (.int .i64 (aG cq l r))) [] (0<=r/\r<=1048576):=⟨(aM 111),fun h=>(BB L (SizeOf.sizeOf l+1) l r).out ⟨Nat.lt_succ_self _,h⟩⟩
theorem Lx(n:Nat)(ih:∀ l:List aO,Ctr lim Tryz.prog 115 [] [.sl false 7 (l.map (aK false))] (.sl true 7 (l.map (aK true))) [] (SizeOf.sizeOf l<n))(x:aO):Ctr lim Tryz.prog 149 [] [.agg [.v (.int .i64 x.fOp),.v (.int .i64 x.fD),.str x.cg,.v (.bool x.aE.cH),.v (.int .i64 x.aE.dq),.sl false 2 (x.aE.aN.map (aU false)),.sl false 7 (x.af.map (aK false))]] (.agg [.v (.int .i64 x.fOp),.v (.int .i64 x.fD),.str x.cg,.v (.bool x.aE.cH),.v (.int .i64 x.aE.dq),.sl true 2 (x.aE.aN.map (aU true)),.sl true 7 (x.af.map (aK true))]) [] (SizeOf.sizeOf x.af<n):=by
 refine Ctr.bd Tryz.func149 Tryz.ntmps149 rfl rfl fun hp=>?_
 all_goals exact uU
theorem Bx:∀ (n:Nat) (l:List aO),Ctr lim Tryz.prog 115 [] [.sl false 7 (l.map (aK false))] (.sl true 7 (l.map (aK true))) [] (SizeOf.sizeOf l<n)
 | 0,l=>⟨(aM 115),fun h=>absurd h (Nat.not_lt_zero _)⟩
 | n+1,l=>by
  have hx:=Lx n (Bx n)
  refine Ctr.bd Tryz.func115 Tryz.ntmps115 rfl rfl fun hp=>?_
  refine AW.fact 0 fun hf=>?_
  simp (disch:=omega) only [go_sem,Nat.reduceBEq] at hf
  (refine vU ?_;with_reducible repeat' first|exact Le.l|apply Sw|intro h)
  refine AW.aA [4] [0,3] (fun m xs o=>∃ k:Nat,xs=[.v (.int .i64 k)]/\o=[(h,some (mkC (aK true) [.int .i64 0,.int .i64 0,.string ⟨#[]⟩,.bool false,.int .i64 0,.slice none 0 0,.slice none 0 0] l k))]/\m=l.length - k/\k<=l.length) l.length [(h,some (mkC (aK true) [.int .i64 0,.int .i64 0,.string ⟨#[]⟩,.bool false,.int .i64 0,.slice none 0 0,.slice none 0 0] l 0))] (bw (jN _ _ _)) ⟨0,?_,rfl,rfl,?_⟩ ?_
  ·rfl
  ·omega
  rintro m xs o ⟨k,rfl,rfl,rfl,hk⟩
  have hml:=kH (aK true) [.int .i64 0,.int .i64 0,.string ⟨#[]⟩,.bool false,.int .i64 0,.slice none 0 0,.slice none 0 0] 7 (fun x=>by rw [cM];rfl) rfl l k hk
  have hkk:k<l.length->SizeOf.sizeOf (at_ l k).af<n:=fun h=>by have:=aO.cd (at_mem h);omega
  (refine vX ?_;with_reducible repeat' first|exact Le.l|apply Sw|intro h)
  ·exact ⟨_,[_],_,by omega,⟨k+1,rfl,rfl,rfl,by omega⟩,rfl,bw (by have:=l9 (aK true) [.int .i64 0,.int .i64 0,.string ⟨#[]⟩,.bool false,.int .i64 0,.slice none 0 0,.slice none 0 0] 7 (fun x=>by rw [cM];rfl) rfl l k h;simp only [go_sem,Nat.mul_one] at this ⊢;exact this.symm)⟩
  ·refine AW.made 2 rfl h hk (fun x=>by rw [cM];rfl) ?_
   all_goals exact uU
instance UL(l:List aO):Ctr lim Tryz.prog 115 [] [.sl false 7 (l.map (aK false))] (.sl true 7 (l.map (aK true))) [] True:=⟨(aM 115),fun _=>(Bx (SizeOf.sizeOf l+1) l).out (Nat.lt_succ_self _)⟩
theorem ag.cd{x:ag}{l:List ag}(h:x∈l):SizeOf.sizeOf x.af<SizeOf.sizeOf l:=by
 have:=List.sizeOf_lt_of_mem h
 cases x;simp [ag.af] at *;omega
theorem IV(L:Nat->Nat)[hL:Lok L](n:Nat)(ih:∀ l:List ag,Ctr L Tryz.prog 29 [] [.sl false 19 (l.map (ak false)),.sl false 19 (l.map (ak false))] (.v (.bool true)) [] (SizeOf.sizeOf l<n))(x:ag):Ctr L Tryz.prog 72 [] [.agg (cSc x),.agg (cSc x)] (.v (.bool true)) [] (SizeOf.sizeOf x.af<n):=by
 refine Ctr.bd Tryz.func72 Tryz.ntmps72 rfl rfl fun hp=>?_
 all_goals exact uU
theorem xw(L:Nat->Nat)[hL:Lok L]:∀ (n:Nat) (l:List ag),Ctr L Tryz.prog 29 [] [.sl false 19 (l.map (ak false)),.sl false 19 (l.map (ak false))] (.v (.bool true)) [] (SizeOf.sizeOf l<n)
 | 0,l=>⟨(aM 29),fun h=>absurd h (Nat.not_lt_zero _)⟩
 | n+1,l=>by
  have hx:=IV L n (xw L n)
  refine Ctr.bd Tryz.func29 Tryz.ntmps29 rfl rfl fun hp=>?_
  refine AW.fact 0 fun hf=>?_
  simp (disch:=omega) only [go_sem,Nat.reduceBEq] at hf
  have hf:=Nat.le_trans hf (hL.le 19)
  (refine vU ?_;with_reducible repeat' first|exact Le.l|apply Sw|intro h)
  refine AW.aA [5] [0,1] (fun m xs o=>∃ k:Nat,xs=[.v (.int .i64 k)]/\o=[]/\m=l.length - k/\k<=l.length) l.length [] trivial ⟨0,?_,rfl,rfl,?_⟩ ?_
  ·rfl
  ·omega
  rintro m xs o ⟨k,rfl,rfl,rfl,hk⟩
  have hkk:k<l.length->SizeOf.sizeOf (at_ l k).af<n:=fun h=>by have:=ag.cd (at_mem h);omega
  (refine vU ?_;with_reducible repeat' first|exact Le.l|apply Sw|intro h)
  exact ⟨_,[_],[],by omega,⟨k+1,rfl,rfl,rfl,by omega⟩,rfl,trivial⟩
instance SY(L:Nat->Nat)[hL:Lok L](l:List ag):Ctr L Tryz.prog 29 [] [.sl false 19 (l.map (ak false)),.sl false 19 (l.map (ak false))] (.v (.bool true)) [] True:=⟨(aM 29),fun _=>(xw L (SizeOf.sizeOf l+1) l).out (Nat.lt_succ_self _)⟩
theorem HY(L:Nat->Nat)[hL:Lok L](n:Nat)(ih:∀ (l:List ag) (r:Int),Ctr L Tryz.prog 22 [] [.sl false 19 (l.map (ak false)),.v (.int .i64 r)] (.v (.int .i64 (aG aL l r))) [] (SizeOf.sizeOf l<n/\0<=r/\r<=1048576))(x:ag)(r:Int):Ctr L Tryz.prog 58 [] [.agg (cSc x),.v (.int .i64 r)] (.v (.int .i64 (aL x r))) [] (SizeOf.sizeOf x.af<n/\0<=r/\r<=1048576):=by
 refine Ctr.bd Tryz.func58 Tryz.ntmps58 rfl rfl fun hp=>?_
 refine AW.fact 0 fun hf=>?_
 simp (disch:=omega) only [go_sem,Nat.reduceBEq] at hf
 have le1:=qq x.fType (r - x.ae.length)
 have le2:=aZ aC aY x.aw (dB x.fType (r - x.ae.length))
 have le3:=aZ aC aY x.aD (aG aC x.aw (dB x.fType (r - x.ae.length)))
 have le5:=aZ cq eS x.bz ((aG aC x.aD (aG aC x.aw (dB x.fType (r - x.ae.length)))) - x.bh.length)
 have le6:=aZ cq eS x.bY (aG cq x.bz ((aG aC x.aD (aG aC x.aw (dB x.fType (r - x.ae.length)))) - x.bh.length))
 have le7:=aZ aL cV x.af (aG cq x.bY (aG cq x.bz ((aG aC x.aD (aG aC x.aw (dB x.fType (r - x.ae.length)))) - x.bh.length)))
 rw [qW]
 ((refine vU ?_;with_reducible repeat' first|exact Le.l|apply Sw|intro h);all_goals simp only [thn,aC,id];all_goals refine congrArg (fun z=>AV.v (.int .i64 z)) ?_;all_goals (repeat' split);all_goals omega)
theorem w8(L:Nat->Nat)[hL:Lok L]:∀ (n:Nat) (l:List ag) (r:Int),Ctr L Tryz.prog 22 [] [.sl false 19 (l.map (ak false)),.v (.int .i64 r)] (.v (.int .i64 (aG aL l r))) [] (SizeOf.sizeOf l<n/\0<=r/\r<=1048576)
 | 0,l,r=>⟨(aM 22),fun h=>absurd h.1 (Nat.not_lt_zero _)⟩
 | n+1,l,r=>by
  have hx:=HY L n (w8 L n)
  refine Ctr.bd Tryz.func22 Tryz.ntmps22 rfl rfl fun hp=>?_
  refine AW.fact 0 fun hf=>?_
  simp (disch:=omega) only [go_sem,Nat.reduceBEq] at hf
  have hf:=Nat.le_trans hf (hL.le 19)
  (refine vU ?_;with_reducible repeat' first|exact Le.l|apply Sw|intro h)
  ·rw [fQ h]
  rw [gr h]
  refine AW.aA [1,5] [0] (fun m xs o=>∃ (k:Nat) (q:Int),xs=[.v (.int .i64 q),.v (.int .i64 k)]/\o=[]/\m=l.length - k/\k<=l.length/\0<=q/\q<=1048576/\eD aL (l.drop k) q=eD aL l (r - l.length)) l.length [] trivial ⟨0,_,?_,rfl,rfl,?_,?_,?_,rfl⟩ ?_
  ·rfl
  ·omega
  ·omega
  ·omega
  rintro m xs o ⟨k,q,rfl,rfl,rfl,hk,h0,h1,hR⟩
  have hle:=cV (at_ l k) q h0
  have hkk:k<l.length->SizeOf.sizeOf (at_ l k).af<n:=fun h=>by have:=ag.cd (at_mem h);omega
  (refine vU ?_;with_reducible repeat' first|exact Le.l|apply Sw|intro h)
  ·rw [fX (by assumption),if_pos (by first|exact h|(rw [hsz];exact h))] at hR;rw [hR]
  ·rw [fX (by assumption),if_neg (by omega)] at hR
   exact ⟨_,[_,_],[],by omega,⟨k+1,_,rfl,rfl,rfl,by omega,by omega,by omega,hR⟩,rfl,trivial⟩
  ·rw [j4 h] at hR;rw [hR]
instance Sz(L:Nat->Nat)[hL:Lok L](l:List ag)(r:Int):Ctr L Tryz.prog 22 [] [.sl false 19 (l.map (ak false)),.v (.int .i64 r)] (.v (.int .i64 (aG aL l r))) [] (0<=r/\r<=1048576):=⟨(aM 22),fun h=>(w8 L (SizeOf.sizeOf l+1) l r).out ⟨Nat.lt_succ_self _,h⟩⟩
theorem HO(n:Nat)(ih:∀ l:List ag,Ctr lim Tryz.prog 25 [] [.sl false 19 (l.map (ak false))] (.sl true 19 (l.map (ak true))) [] (SizeOf.sizeOf l<n))(x:ag):Ctr lim Tryz.prog 63 [] [.agg (cSc x)] (.agg [.v (.int .i64 x.ai),.str x.ae,.v (.int .i64 x.fType.ai),.sl true 2 (x.fType.aB.map (aR true)),.sl true 1 (x.fType.ax.map AV.str),.str x.fType.aW,.str x.fType.aE,.sl true 1 (x.aw.map AV.str),.sl true 1 (x.aD.map AV.str),.str x.bh,.v (.bool x.cm),.v (.bool x.cC),.v (.bool x.bF),.v (.bool x.dF),.v (.int .i64 x.gF),.v (.int .i64 x.gG),.sl true 7 (x.bz.map (aK true)),.sl true 7 (x.bY.map (aK true)),.sl true 19 (x.af.map (ak true))]) [] (SizeOf.sizeOf x.af<n):=by
 refine Ctr.bd Tryz.func63 Tryz.ntmps63 rfl rfl fun hp=>?_
 all_goals exact uU
theorem w7:∀ (n:Nat) (l:List ag),Ctr lim Tryz.prog 25 [] [.sl false 19 (l.map (ak false))] (.sl true 19 (l.map (ak true))) [] (SizeOf.sizeOf l<n)
 | 0,l=>⟨(aM 25),fun h=>absurd h (Nat.not_lt_zero _)⟩
 | n+1,l=>by
  have hx:=HO n (w7 n)
  refine Ctr.bd Tryz.func25 Tryz.ntmps25 rfl rfl fun hp=>?_
  refine AW.fact 0 fun hf=>?_
  simp (disch:=omega) only [go_sem,Nat.reduceBEq] at hf
  (refine vU ?_;with_reducible repeat' first|exact Le.l|apply Sw|intro h)
  refine AW.aA [4] [0,3] (fun m xs o=>∃ k:Nat,xs=[.v (.int .i64 k)]/\o=[(h,some (mkC (ak true) [.int .i64 0,.string ⟨#[]⟩,.int .i64 0,.slice none 0 0,.slice none 0 0,.string ⟨#[]⟩,.string ⟨#[]⟩,.slice none 0 0,.slice none 0 0,.string ⟨#[]⟩,.bool false,.bool false,.bool false,.bool false,.int .i64 0,.int .i64 0,.slice none 0 0,.slice none 0 0,.slice none 0 0] l k))]/\m=l.length - k/\k<=l.length) l.length [(h,some (mkC (ak true) [.int .i64 0,.string ⟨#[]⟩,.int .i64 0,.slice none 0 0,.slice none 0 0,.string ⟨#[]⟩,.string ⟨#[]⟩,.slice none 0 0,.slice none 0 0,.string ⟨#[]⟩,.bool false,.bool false,.bool false,.bool false,.int .i64 0,.int .i64 0,.slice none 0 0,.slice none 0 0,.slice none 0 0] l 0))] (bw (jN _ _ _)) ⟨0,?_,rfl,rfl,?_⟩ ?_
  ·rfl
  ·omega
  rintro m xs o ⟨k,rfl,rfl,rfl,hk⟩
  have hml:=kH (ak true) [.int .i64 0,.string ⟨#[]⟩,.int .i64 0,.slice none 0 0,.slice none 0 0,.string ⟨#[]⟩,.string ⟨#[]⟩,.slice none 0 0,.slice none 0 0,.string ⟨#[]⟩,.bool false,.bool false,.bool false,.bool false,.int .i64 0,.int .i64 0,.slice none 0 0,.slice none 0 0,.slice none 0 0] 19 (fun x=>by rw [cK];rfl) rfl l k hk
  have hkk:k<l.length->SizeOf.sizeOf (at_ l k).af<n:=fun h=>by have:=ag.cd (at_mem h);omega
  (refine vX ?_;with_reducible repeat' first|exact Le.l|apply Sw|intro h)
  ·exact ⟨_,[_],_,by omega,⟨k+1,rfl,rfl,rfl,by omega⟩,rfl,bw (by have:=l9 (ak true) [.int .i64 0,.string ⟨#[]⟩,.int .i64 0,.slice none 0 0,.slice none 0 0,.string ⟨#[]⟩,.string ⟨#[]⟩,.slice none 0 0,.slice none 0 0,.string ⟨#[]⟩,.bool false,.bool false,.bool false,.bool false,.int .i64 0,.int .i64 0,.slice none 0 0,.slice none 0 0,.slice none 0 0] 19 (fun x=>by rw [cK];rfl) rfl l k h;simp only [go_sem,Nat.mul_one] at this ⊢;exact this.symm)⟩
  ·refine AW.made 2 rfl h hk (fun x=>by rw [cK];rfl) ?_
   all_goals exact uU
instance St(l:List ag):Ctr lim Tryz.prog 25 [] [.sl false 19 (l.map (ak false))] (.sl true 19 (l.map (ak true))) [] True:=⟨(aM 25),fun _=>(w7 (SizeOf.sizeOf l+1) l).out (Nat.lt_succ_self _)⟩
end
section
instance SF(x:dx):Ctr lim Tryz.prog 193 [] [.agg [.v (.int .i64 x.ai),.sl false 2 (x.aB.map (aR false)),.sl false 1 (x.ax.map AV.str),.str x.aW,.str x.aE]] (.agg [.v (.int .i64 x.ai),.sl true 2 (x.aB.map (aR true)),.sl true 1 (x.ax.map AV.str),.str x.aW,.str x.aE]) [] True:=by
 refine Ctr.bd Tryz.func193 Tryz.ntmps193 rfl rfl fun hp=>?_
 refine AW.fact 0 fun hf=>?_
 simp (disch:=omega) only [go_sem] at hf
 (refine bU ?_;with_reducible repeat' first|exact Le.l|apply Sw|intro h)
 rfl
end
end Go.Proofs
namespace Go.Ab
open Go.Ab
theorem bB{α:Type}{e:α->AV}{sz:Nat}(h:∀ x,(e x).elem sz=true)(l:List α):∀ x,x∈l.map e->x.elem sz=true:=by
 intro x hx
 obtain ⟨y,_,rfl⟩:=List.mem_map.1 hx
 exact h y
end Go.Ab
namespace Go.Proofs
open Go.Ab Go.Dt
theorem GJ:∀ (l:List Str) (k:Int),mkL ay l k=(mks l.length k,k+l.length)
 | [],k=>by simp [mkL,mks]
 | x::xs,k=>by
  have:=GJ xs (k+1)
  simp only [mkL,ay,this,List.length_cons,mks]
  congr 1;omega
instance Qb(l:List Str)(k:Int):fS lim Tryz.prog 74 1 (l.map AV.str) [.v (.int .i64 k)] (.v (.int .i64 (mkL ay l k).2)) ((mkL ay l k).1.map AV.str) (0<=k/\(mkL ay l k).2<=1099511627776):=by
 rw [GJ];exact Cr l k
end Go.Proofs
