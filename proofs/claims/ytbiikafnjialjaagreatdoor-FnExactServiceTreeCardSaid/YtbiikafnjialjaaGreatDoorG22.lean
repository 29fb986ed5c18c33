/- Part of a proof. -/
import Derived.Test.YtbiikafnjialjaaGreatDoorG17
set_option linter.all false
set_option maxRecDepth 20000
set_option maxHeartbeats 4000000
namespace Go.Proofs
open Go.Ab Go.Dt
section
instance VH(L:Nat->Nat)[hL:Lok L](x:bI):Ctr L Tryz.prog 136 [] [.agg [.str x.af,.str x.ax],.agg [.str x.af,.str x.ax]] (.v (.bool true)) [] True:=by
 refine Ctr.bd Tryz.func136 Tryz.ntmps136 rfl rfl fun hp=>?_
 all_goals exact uU
instance UG(L:Nat->Nat)[hL:Lok L](l:List bI):Ctr L Tryz.prog 72 [] [.sl false 2 (l.map (bp false)),.sl false 2 (l.map (bp false))] (.v (.bool true)) [] True:=by
 refine Ctr.bd Tryz.func72 Tryz.ntmps72 rfl rfl fun hp=>?_
 refine AW.fact 0 fun hf=>?_
 simp (disch:=omega) only [go_sem,Nat.reduceBEq] at hf
 have hf:=Nat.le_trans hf (hL.le 2)
 (refine vU ?_;with_reducible repeat' first|exact Le.l|apply Sw|intro h)
 refine AW.aw [5] [0,1] (fun m xs o=>∃ k:Nat,xs=[.v (.int .i64 k)]/\o=[]/\m=l.length - k/\k<=l.length) l.length [] trivial ⟨0,?_,rfl,rfl,?_⟩ ?_
 ·rfl
 ·omega
 rintro m xs o ⟨k,rfl,rfl,rfl,hk⟩
 (refine vU ?_;with_reducible repeat' first|exact Le.l|apply Sw|intro h)
 exact ⟨_,[_],[],by omega,⟨k+1,rfl,rfl,rfl,by omega⟩,rfl,trivial⟩
instance U6(L:Nat->Nat)[hL:Lok L](x:bI)(r:Int):Ctr L Tryz.prog 107 [] [.agg [.str x.af,.str x.ax],.v (.int .i64 r)] (.v (.int .i64 (gm x r))) [] (0<=r/\r<=1048576):=by
 refine Ctr.bd Tryz.func107 Tryz.ntmps107 rfl rfl fun hp=>?_
 refine AW.fact 0 fun hf=>?_
 simp (disch:=omega) only [go_sem,Nat.reduceBEq] at hf
 unfold gm
 ((refine vU ?_;with_reducible repeat' first|exact Le.l|apply Sw|intro h);all_goals simp only [thn,az,id];all_goals refine congrArg (fun z=>AV.v (.int .i64 z)) ?_;all_goals (repeat' split);all_goals omega)
instance S5(L:Nat->Nat)[hL:Lok L](l:List bI)(r:Int):Ctr L Tryz.prog 55 [] [.sl false 2 (l.map (bp false)),.v (.int .i64 r)] (.v (.int .i64 (aM gm l r))) [] (0<=r/\r<=1048576):=by
 refine Ctr.bd Tryz.func55 Tryz.ntmps55 rfl rfl fun hp=>?_
 refine AW.fact 0 fun hf=>?_
 simp (disch:=omega) only [go_sem,Nat.reduceBEq] at hf
 have hf:=Nat.le_trans hf (hL.le 2)
 (refine vU ?_;with_reducible repeat' first|exact Le.l|apply Sw|intro h)
 ·rw [fe h]
 rw [fC h]
 refine AW.aw [1,5] [0] (fun m xs o=>∃ (k:Nat) (q:Int),xs=[.v (.int .i64 q),.v (.int .i64 k)]/\o=[]/\m=l.length - k/\k<=l.length/\0<=q/\q<=1048576/\dP gm (l.drop k) q=dP gm l (r - l.length)) l.length [] trivial ⟨0,_,?_,rfl,rfl,?_,?_,?_,rfl⟩ ?_
 ·rfl
 ·omega
 ·omega
 ·omega
 rintro m xs o ⟨k,q,rfl,rfl,rfl,hk,h0,h1,hR⟩
 have hle:=kz (at_ l k) q h0
 (refine vU ?_;with_reducible repeat' first|exact Le.l|apply Sw|intro h)
 ·rw [fw (by assumption),if_pos (by first|exact h|(rw [hsz];exact h))] at hR;rw [hR]
 ·rw [fw (by assumption),if_neg (by omega)] at hR
  exact ⟨_,[_,_],[],by omega,⟨k+1,_,rfl,rfl,rfl,by omega,by omega,by omega,hR⟩,rfl,trivial⟩
 ·rw [jv h] at hR;rw [hR]
instance U3(x:bI):Ctr lim Tryz.prog 120 [] [.agg [.str x.af,.str x.ax]] (.agg [.str x.af,.str x.ax]) [] True:=by
 refine Ctr.bd Tryz.func120 Tryz.ntmps120 rfl rfl fun hp=>?_
 all_goals exact uU
instance SW(l:List bI):Ctr lim Tryz.prog 63 [] [.sl false 2 (l.map (bp false))] (.sl true 2 (l.map (bp true))) [] True:=by
 refine Ctr.bd Tryz.func63 Tryz.ntmps63 rfl rfl fun hp=>?_
 refine AW.fact 0 fun hf=>?_
 simp (disch:=omega) only [go_sem,Nat.reduceBEq] at hf
 (refine vU ?_;with_reducible repeat' first|exact Le.l|apply Sw|intro h)
 refine AW.aw [4] [0,3] (fun m xs o=>∃ k:Nat,xs=[.v (.int .i64 k)]/\o=[(h,some (mkC (bp true) [.string ⟨#[]⟩,.string ⟨#[]⟩] l k))]/\m=l.length - k/\k<=l.length) l.length [(h,some (mkC (bp true) [.string ⟨#[]⟩,.string ⟨#[]⟩] l 0))] (aE (iK _ _ _)) ⟨0,?_,rfl,rfl,?_⟩ ?_
 ·rfl
 ·omega
 rintro m xs o ⟨k,rfl,rfl,rfl,hk⟩
 have hml:=jJ (bp true) [.string ⟨#[]⟩,.string ⟨#[]⟩] 2 (fun _=>rfl) rfl l k hk
 (refine vX ?_;with_reducible repeat' first|exact Le.l|apply Sw|intro h)
 ·exact ⟨_,[_],_,by omega,⟨k+1,rfl,rfl,rfl,by omega⟩,rfl,aE (by have:=kN (bp true) [.string ⟨#[]⟩,.string ⟨#[]⟩] 2 (fun _=>rfl) rfl l k h;simp only [go_sem,Nat.mul_one] at this ⊢;exact this.symm)⟩
 ·refine AW.made 2 rfl h hk (fun _=>rfl) ?_
  all_goals exact uU
instance P9(L:Nat->Nat)[hL:Lok L](x:bt):Ctr L Tryz.prog 19 [] [.agg [.str x.af,.str x.aX,.sl false 2 (x.fArgs.map (bp false)),.sl false 1 (x.ck.map AV.str)],.agg [.str x.af,.str x.aX,.sl false 2 (x.fArgs.map (bp false)),.sl false 1 (x.ck.map AV.str)]] (.v (.bool true)) [] True:=by
 refine Ctr.bd Tryz.func19 Tryz.ntmps19 rfl rfl fun hp=>?_
 all_goals exact uU
instance Pg(L:Nat->Nat)[hL:Lok L](l:List bt):Ctr L Tryz.prog 70 [] [.sl false 4 (l.map (aT false)),.sl false 4 (l.map (aT false))] (.v (.bool true)) [] True:=by
 refine Ctr.bd Tryz.func70 Tryz.ntmps70 rfl rfl fun hp=>?_
 refine AW.fact 0 fun hf=>?_
 simp (disch:=omega) only [go_sem,Nat.reduceBEq] at hf
 have hf:=Nat.le_trans hf (hL.le 4)
 (refine vU ?_;with_reducible repeat' first|exact Le.l|apply Sw|intro h)
 refine AW.aw [5] [0,1] (fun m xs o=>∃ k:Nat,xs=[.v (.int .i64 k)]/\o=[]/\m=l.length - k/\k<=l.length) l.length [] trivial ⟨0,?_,rfl,rfl,?_⟩ ?_
 ·rfl
 ·omega
 rintro m xs o ⟨k,rfl,rfl,rfl,hk⟩
 (refine vU ?_;with_reducible repeat' first|exact Le.l|apply Sw|intro h)
 exact ⟨_,[_],[],by omega,⟨k+1,rfl,rfl,rfl,by omega⟩,rfl,trivial⟩
instance PK(L:Nat->Nat)[hL:Lok L](x:bt)(r:Int):Ctr L Tryz.prog 10 [] [.agg [.str x.af,.str x.aX,.sl false 2 (x.fArgs.map (bp false)),.sl false 1 (x.ck.map AV.str)],.v (.int .i64 r)] (.v (.int .i64 (dm x r))) [] (0<=r/\r<=1048576):=by
 refine Ctr.bd Tryz.func10 Tryz.ntmps10 rfl rfl fun hp=>?_
 refine AW.fact 0 fun hf=>?_
 simp (disch:=omega) only [go_sem,Nat.reduceBEq] at hf
 have le2:=bu gm kz x.fArgs ((r - x.af.length) - x.aX.length)
 have le3:=bu az aJ x.ck (aM gm x.fArgs ((r - x.af.length) - x.aX.length))
 unfold dm
 ((refine vU ?_;with_reducible repeat' first|exact Le.l|apply Sw|intro h);all_goals simp only [thn,az,id];all_goals refine congrArg (fun z=>AV.v (.int .i64 z)) ?_;all_goals (repeat' split);all_goals omega)
instance Nx(L:Nat->Nat)[hL:Lok L](l:List bt)(r:Int):Ctr L Tryz.prog 53 [] [.sl false 4 (l.map (aT false)),.v (.int .i64 r)] (.v (.int .i64 (aM dm l r))) [] (0<=r/\r<=1048576):=by
 refine Ctr.bd Tryz.func53 Tryz.ntmps53 rfl rfl fun hp=>?_
 refine AW.fact 0 fun hf=>?_
 simp (disch:=omega) only [go_sem,Nat.reduceBEq] at hf
 have hf:=Nat.le_trans hf (hL.le 4)
 (refine vU ?_;with_reducible repeat' first|exact Le.l|apply Sw|intro h)
 ·rw [fe h]
 rw [fC h]
 refine AW.aw [1,5] [0] (fun m xs o=>∃ (k:Nat) (q:Int),xs=[.v (.int .i64 q),.v (.int .i64 k)]/\o=[]/\m=l.length - k/\k<=l.length/\0<=q/\q<=1048576/\dP dm (l.drop k) q=dP dm l (r - l.length)) l.length [] trivial ⟨0,_,?_,rfl,rfl,?_,?_,?_,rfl⟩ ?_
 ·rfl
 ·omega
 ·omega
 ·omega
 rintro m xs o ⟨k,q,rfl,rfl,rfl,hk,h0,h1,hR⟩
 have hle:=gW (at_ l k) q h0
 (refine vU ?_;with_reducible repeat' first|exact Le.l|apply Sw|intro h)
 ·rw [fw (by assumption),if_pos (by first|exact h|(rw [hsz];exact h))] at hR;rw [hR]
 ·rw [fw (by assumption),if_neg (by omega)] at hR
  exact ⟨_,[_,_],[],by omega,⟨k+1,_,rfl,rfl,rfl,by omega,by omega,by omega,hR⟩,rfl,trivial⟩
 ·rw [jv h] at hR;rw [hR]
instance PH(x:bt):Ctr lim Tryz.prog 14 [] [.agg [.str x.af,.str x.aX,.sl false 2 (x.fArgs.map (bp false)),.sl false 1 (x.ck.map AV.str)]] (.agg [.str x.af,.str x.aX,.sl true 2 (x.fArgs.map (bp true)),.sl true 1 (x.ck.map AV.str)]) [] True:=by
 refine Ctr.bd Tryz.func14 Tryz.ntmps14 rfl rfl fun hp=>?_
 all_goals exact uU
instance Ns(l:List bt):Ctr lim Tryz.prog 61 [] [.sl false 4 (l.map (aT false))] (.sl true 4 (l.map (aT true))) [] True:=by
 refine Ctr.bd Tryz.func61 Tryz.ntmps61 rfl rfl fun hp=>?_
 refine AW.fact 0 fun hf=>?_
 simp (disch:=omega) only [go_sem,Nat.reduceBEq] at hf
 (refine vU ?_;with_reducible repeat' first|exact Le.l|apply Sw|intro h)
 refine AW.aw [4] [0,3] (fun m xs o=>∃ k:Nat,xs=[.v (.int .i64 k)]/\o=[(h,some (mkC (aT true) [.string ⟨#[]⟩,.string ⟨#[]⟩,.slice none 0 0,.slice none 0 0] l k))]/\m=l.length - k/\k<=l.length) l.length [(h,some (mkC (aT true) [.string ⟨#[]⟩,.string ⟨#[]⟩,.slice none 0 0,.slice none 0 0] l 0))] (aE (iK _ _ _)) ⟨0,?_,rfl,rfl,?_⟩ ?_
 ·rfl
 ·omega
 rintro m xs o ⟨k,rfl,rfl,rfl,hk⟩
 have hml:=jJ (aT true) [.string ⟨#[]⟩,.string ⟨#[]⟩,.slice none 0 0,.slice none 0 0] 4 (fun _=>rfl) rfl l k hk
 (refine vX ?_;with_reducible repeat' first|exact Le.l|apply Sw|intro h)
 ·exact ⟨_,[_],_,by omega,⟨k+1,rfl,rfl,rfl,by omega⟩,rfl,aE (by have:=kN (aT true) [.string ⟨#[]⟩,.string ⟨#[]⟩,.slice none 0 0,.slice none 0 0] 4 (fun _=>rfl) rfl l k h;simp only [go_sem,Nat.mul_one] at this ⊢;exact this.symm)⟩
 ·refine AW.made 2 rfl h hk (fun _=>rfl) ?_
  all_goals exact uU
instance UE(L:Nat->Nat)[hL:Lok L](x:gz):Ctr L Tryz.prog 17 [] [.agg [.sl false 3 (x.bf.map (aQ false)),.sl false 4 (x.bV.map (aT false))],.agg [.sl false 3 (x.bf.map (aQ false)),.sl false 4 (x.bV.map (aT false))]] (.v (.bool true)) [] True:=by
 refine Ctr.bd Tryz.func17 Tryz.ntmps17 rfl rfl fun hp=>?_
 all_goals exact uU
instance S0(L:Nat->Nat)[hL:Lok L](x:gz)(r:Int):Ctr L Tryz.prog 8 [] [.agg [.sl false 3 (x.bf.map (aQ false)),.sl false 4 (x.bV.map (aT false))],.v (.int .i64 r)] (.v (.int .i64 (dz x r))) [] (0<=r/\r<=1048576):=by
 refine Ctr.bd Tryz.func8 Tryz.ntmps8 rfl rfl fun hp=>?_
 refine AW.fact 0 fun hf=>?_
 simp (disch:=omega) only [go_sem,Nat.reduceBEq] at hf
 have le0:=bu dh ic x.bf r
 have le1:=bu dm gW x.bV (aM dh x.bf r)
 unfold dz
 ((refine vU ?_;with_reducible repeat' first|exact Le.l|apply Sw|intro h);all_goals simp only [thn,az,id];all_goals refine congrArg (fun z=>AV.v (.int .i64 z)) ?_;all_goals (repeat' split);all_goals omega)
instance SS(x:gz):Ctr lim Tryz.prog 12 [] [.agg [.sl false 3 (x.bf.map (aQ false)),.sl false 4 (x.bV.map (aT false))]] (.agg [.sl true 3 (x.bf.map (aQ true)),.sl true 4 (x.bV.map (aT true))]) [] True:=by
 refine Ctr.bd Tryz.func12 Tryz.ntmps12 rfl rfl fun hp=>?_
 all_goals exact uU
end
section
instance UC(L:Nat->Nat)[hL:Lok L](x:ed):Ctr L Tryz.prog 363 [] [.agg [.str x.af,.str x.ax],.agg [.str x.af,.str x.ax]] (.v (.bool true)) [] True:=by
 refine Ctr.bd Tryz.func363 Tryz.ntmps363 rfl rfl fun hp=>?_
 all_goals exact uU
instance SD(L:Nat->Nat)[hL:Lok L](l:List ed):Ctr L Tryz.prog 343 [] [.sl false 2 (l.map (bZ false)),.sl false 2 (l.map (bZ false))] (.v (.bool true)) [] True:=by
 refine Ctr.bd Tryz.func343 Tryz.ntmps343 rfl rfl fun hp=>?_
 refine AW.fact 0 fun hf=>?_
 simp (disch:=omega) only [go_sem,Nat.reduceBEq] at hf
 have hf:=Nat.le_trans hf (hL.le 2)
 (refine vU ?_;with_reducible repeat' first|exact Le.l|apply Sw|intro h)
 refine AW.aw [5] [0,1] (fun m xs o=>∃ k:Nat,xs=[.v (.int .i64 k)]/\o=[]/\m=l.length - k/\k<=l.length) l.length [] trivial ⟨0,?_,rfl,rfl,?_⟩ ?_
 ·rfl
 ·omega
 rintro m xs o ⟨k,rfl,rfl,rfl,hk⟩
 (refine vU ?_;with_reducible repeat' first|exact Le.l|apply Sw|intro h)
 exact ⟨_,[_],[],by omega,⟨k+1,rfl,rfl,rfl,by omega⟩,rfl,trivial⟩
instance SY(L:Nat->Nat)[hL:Lok L](x:ed)(r:Int):Ctr L Tryz.prog 345 [] [.agg [.str x.af,.str x.ax],.v (.int .i64 r)] (.v (.int .i64 (iq x r))) [] (0<=r/\r<=1048576):=by
 refine Ctr.bd Tryz.func345 Tryz.ntmps345 rfl rfl fun hp=>?_
 refine AW.fact 0 fun hf=>?_
 simp (disch:=omega) only [go_sem,Nat.reduceBEq] at hf
 unfold iq
 ((refine vU ?_;with_reducible repeat' first|exact Le.l|apply Sw|intro h);all_goals simp only [thn,az,id];all_goals refine congrArg (fun z=>AV.v (.int .i64 z)) ?_;all_goals (repeat' split);all_goals omega)
instance RW(L:Nat->Nat)[hL:Lok L](l:List ed)(r:Int):Ctr L Tryz.prog 328 [] [.sl false 2 (l.map (bZ false)),.v (.int .i64 r)] (.v (.int .i64 (aM iq l r))) [] (0<=r/\r<=1048576):=by
 refine Ctr.bd Tryz.func328 Tryz.ntmps328 rfl rfl fun hp=>?_
 refine AW.fact 0 fun hf=>?_
 simp (disch:=omega) only [go_sem,Nat.reduceBEq] at hf
 have hf:=Nat.le_trans hf (hL.le 2)
 (refine vU ?_;with_reducible repeat' first|exact Le.l|apply Sw|intro h)
 ·rw [fe h]
 rw [fC h]
 refine AW.aw [1,5] [0] (fun m xs o=>∃ (k:Nat) (q:Int),xs=[.v (.int .i64 q),.v (.int .i64 k)]/\o=[]/\m=l.length - k/\k<=l.length/\0<=q/\q<=1048576/\dP iq (l.drop k) q=dP iq l (r - l.length)) l.length [] trivial ⟨0,_,?_,rfl,rfl,?_,?_,?_,rfl⟩ ?_
 ·rfl
 ·omega
 ·omega
 ·omega
 rintro m xs o ⟨k,q,rfl,rfl,rfl,hk,h0,h1,hR⟩
 have hle:=mc (at_ l k) q h0
 (refine vU ?_;with_reducible repeat' first|exact Le.l|apply Sw|intro h)
 ·rw [fw (by assumption),if_pos (by first|exact h|(rw [hsz];exact h))] at hR;rw [hR]
 ·rw [fw (by assumption),if_neg (by omega)] at hR
  exact ⟨_,[_,_],[],by omega,⟨k+1,_,rfl,rfl,rfl,by omega,by omega,by omega,hR⟩,rfl,trivial⟩
 ·rw [jv h] at hR;rw [hR]
instance SQ(x:ed):Ctr lim Tryz.prog 352 [] [.agg [.str x.af,.str x.ax]] (.agg [.str x.af,.str x.ax]) [] True:=by
 refine Ctr.bd Tryz.func352 Tryz.ntmps352 rfl rfl fun hp=>?_
 all_goals exact uU
instance RQ(l:List ed):Ctr lim Tryz.prog 333 [] [.sl false 2 (l.map (bZ false))] (.sl true 2 (l.map (bZ true))) [] True:=by
 refine Ctr.bd Tryz.func333 Tryz.ntmps333 rfl rfl fun hp=>?_
 refine AW.fact 0 fun hf=>?_
 simp (disch:=omega) only [go_sem,Nat.reduceBEq] at hf
 (refine vU ?_;with_reducible repeat' first|exact Le.l|apply Sw|intro h)
 refine AW.aw [4] [0,3] (fun m xs o=>∃ k:Nat,xs=[.v (.int .i64 k)]/\o=[(h,some (mkC (bZ true) [.string ⟨#[]⟩,.string ⟨#[]⟩] l k))]/\m=l.length - k/\k<=l.length) l.length [(h,some (mkC (bZ true) [.string ⟨#[]⟩,.string ⟨#[]⟩] l 0))] (aE (iK _ _ _)) ⟨0,?_,rfl,rfl,?_⟩ ?_
 ·rfl
 ·omega
 rintro m xs o ⟨k,rfl,rfl,rfl,hk⟩
 have hml:=jJ (bZ true) [.string ⟨#[]⟩,.string ⟨#[]⟩] 2 (fun _=>rfl) rfl l k hk
 (refine vX ?_;with_reducible repeat' first|exact Le.l|apply Sw|intro h)
 ·exact ⟨_,[_],_,by omega,⟨k+1,rfl,rfl,rfl,by omega⟩,rfl,aE (by have:=kN (bZ true) [.string ⟨#[]⟩,.string ⟨#[]⟩] 2 (fun _=>rfl) rfl l k h;simp only [go_sem,Nat.mul_one] at this ⊢;exact this.symm)⟩
 ·refine AW.made 2 rfl h hk (fun _=>rfl) ?_
  all_goals exact uU
instance UD(L:Nat->Nat)[hL:Lok L](x:Dt.GStep):Ctr L Tryz.prog 322 [] [.agg [.str x.af,.sl false 2 (x.bT.map (bZ false))],.agg [.str x.af,.sl false 2 (x.bT.map (bZ false))]] (.v (.bool true)) [] True:=by
 refine Ctr.bd Tryz.func322 Tryz.ntmps322 rfl rfl fun hp=>?_
 all_goals exact uU
instance SE(L:Nat->Nat)[hL:Lok L](l:List Dt.GStep):Ctr L Tryz.prog 297 [] [.sl false 2 (l.map (aS false)),.sl false 2 (l.map (aS false))] (.v (.bool true)) [] True:=by
 refine Ctr.bd Tryz.func297 Tryz.ntmps297 rfl rfl fun hp=>?_
 refine AW.fact 0 fun hf=>?_
 simp (disch:=omega) only [go_sem,Nat.reduceBEq] at hf
 have hf:=Nat.le_trans hf (hL.le 2)
 (refine vU ?_;with_reducible repeat' first|exact Le.l|apply Sw|intro h)
 refine AW.aw [5] [0,1] (fun m xs o=>∃ k:Nat,xs=[.v (.int .i64 k)]/\o=[]/\m=l.length - k/\k<=l.length) l.length [] trivial ⟨0,?_,rfl,rfl,?_⟩ ?_
 ·rfl
 ·omega
 rintro m xs o ⟨k,rfl,rfl,rfl,hk⟩
 (refine vU ?_;with_reducible repeat' first|exact Le.l|apply Sw|intro h)
 exact ⟨_,[_],[],by omega,⟨k+1,rfl,rfl,rfl,by omega⟩,rfl,trivial⟩
instance SZ(L:Nat->Nat)[hL:Lok L](x:Dt.GStep)(r:Int):Ctr L Tryz.prog 307 [] [.agg [.str x.af,.sl false 2 (x.bT.map (bZ false))],.v (.int .i64 r)] (.v (.int .i64 (iv x r))) [] (0<=r/\r<=1048576):=by
 refine Ctr.bd Tryz.func307 Tryz.ntmps307 rfl rfl fun hp=>?_
 refine AW.fact 0 fun hf=>?_
 simp (disch:=omega) only [go_sem,Nat.reduceBEq] at hf
 have le1:=bu iq mc x.bT (r - x.af.length)
 unfold iv
 ((refine vU ?_;with_reducible repeat' first|exact Le.l|apply Sw|intro h);all_goals simp only [thn,az,id];all_goals refine congrArg (fun z=>AV.v (.int .i64 z)) ?_;all_goals (repeat' split);all_goals omega)
instance RX(L:Nat->Nat)[hL:Lok L](l:List Dt.GStep)(r:Int):Ctr L Tryz.prog 271 [] [.sl false 2 (l.map (aS false)),.v (.int .i64 r)] (.v (.int .i64 (aM iv l r))) [] (0<=r/\r<=1048576):=by
 refine Ctr.bd Tryz.func271 Tryz.ntmps271 rfl rfl fun hp=>?_
 refine AW.fact 0 fun hf=>?_
 simp (disch:=omega) only [go_sem,Nat.reduceBEq] at hf
 have hf:=Nat.le_trans hf (hL.le 2)
 (refine vU ?_;with_reducible repeat' first|exact Le.l|apply Sw|intro h)
 ·rw [fe h]
 rw [fC h]
 refine AW.aw [1,5] [0] (fun m xs o=>∃ (k:Nat) (q:Int),xs=[.v (.int .i64 q),.v (.int .i64 k)]/\o=[]/\m=l.length - k/\k<=l.length/\0<=q/\q<=1048576/\dP iv (l.drop k) q=dP iv l (r - l.length)) l.length [] trivial ⟨0,_,?_,rfl,rfl,?_,?_,?_,rfl⟩ ?_
 ·rfl
 ·omega
 ·omega
 ·omega
 rintro m xs o ⟨k,q,rfl,rfl,rfl,hk,h0,h1,hR⟩
 have hle:=mf (at_ l k) q h0
 (refine vU ?_;with_reducible repeat' first|exact Le.l|apply Sw|intro h)
 ·rw [fw (by assumption),if_pos (by first|exact h|(rw [hsz];exact h))] at hR;rw [hR]
 ·rw [fw (by assumption),if_neg (by omega)] at hR
  exact ⟨_,[_,_],[],by omega,⟨k+1,_,rfl,rfl,rfl,by omega,by omega,by omega,hR⟩,rfl,trivial⟩
 ·rw [jv h] at hR;rw [hR]
instance SR(x:Dt.GStep):Ctr lim Tryz.prog 313 [] [.agg [.str x.af,.sl false 2 (x.bT.map (bZ false))]] (.agg [.str x.af,.sl true 2 (x.bT.map (bZ true))]) [] True:=by
 refine Ctr.bd Tryz.func313 Tryz.ntmps313 rfl rfl fun hp=>?_
 all_goals exact uU
instance RR(l:List Dt.GStep):Ctr lim Tryz.prog 281 [] [.sl false 2 (l.map (aS false))] (.sl true 2 (l.map (aS true))) [] True:=by
 refine Ctr.bd Tryz.func281 Tryz.ntmps281 rfl rfl fun hp=>?_
 refine AW.fact 0 fun hf=>?_
 simp (disch:=omega) only [go_sem,Nat.reduceBEq] at hf
 (refine vU ?_;with_reducible repeat' first|exact Le.l|apply Sw|intro h)
 refine AW.aw [4] [0,3] (fun m xs o=>∃ k:Nat,xs=[.v (.int .i64 k)]/\o=[(h,some (mkC (aS true) [.string ⟨#[]⟩,.slice none 0 0] l k))]/\m=l.length - k/\k<=l.length) l.length [(h,some (mkC (aS true) [.string ⟨#[]⟩,.slice none 0 0] l 0))] (aE (iK _ _ _)) ⟨0,?_,rfl,rfl,?_⟩ ?_
 ·rfl
 ·omega
 rintro m xs o ⟨k,rfl,rfl,rfl,hk⟩
 have hml:=jJ (aS true) [.string ⟨#[]⟩,.slice none 0 0] 2 (fun _=>rfl) rfl l k hk
 (refine vX ?_;with_reducible repeat' first|exact Le.l|apply Sw|intro h)
 ·exact ⟨_,[_],_,by omega,⟨k+1,rfl,rfl,rfl,by omega⟩,rfl,aE (by have:=kN (aS true) [.string ⟨#[]⟩,.slice none 0 0] 2 (fun _=>rfl) rfl l k h;simp only [go_sem,Nat.mul_one] at this ⊢;exact this.symm)⟩
 ·refine AW.made 2 rfl h hk (fun _=>rfl) ?_
  all_goals exact uU
instance UF(L:Nat->Nat)[hL:Lok L](x:eJ):Ctr L Tryz.prog 261 [] [.agg [.v (.bool x.cO),.v (.int .i64 x.dc),.sl false 2 (x.aK.map (aS false))],.agg [.v (.bool x.cO),.v (.int .i64 x.dc),.sl false 2 (x.aK.map (aS false))]] (.v (.bool true)) [] True:=by
 refine Ctr.bd Tryz.func261 Tryz.ntmps261 rfl rfl fun hp=>?_
 all_goals exact uU
instance S3(L:Nat->Nat)[hL:Lok L](x:eJ)(r:Int):Ctr L Tryz.prog 222 [] [.agg [.v (.bool x.cO),.v (.int .i64 x.dc),.sl false 2 (x.aK.map (aS false))],.v (.int .i64 r)] (.v (.int .i64 (je x r))) [] (0<=r/\r<=1048576):=by
 refine Ctr.bd Tryz.func222 Tryz.ntmps222 rfl rfl fun hp=>?_
 refine AW.fact 0 fun hf=>?_
 simp (disch:=omega) only [go_sem,Nat.reduceBEq] at hf
 have le0:=bu iv mf x.aK r
 unfold je
 ((refine vU ?_;with_reducible repeat' first|exact Le.l|apply Sw|intro h);all_goals simp only [thn,az,id];all_goals refine congrArg (fun z=>AV.v (.int .i64 z)) ?_;all_goals (repeat' split);all_goals omega)
instance SU(x:eJ):Ctr lim Tryz.prog 239 [] [.agg [.v (.bool x.cO),.v (.int .i64 x.dc),.sl false 2 (x.aK.map (aS false))]] (.agg [.v (.bool x.cO),.v (.int .i64 x.dc),.sl true 2 (x.aK.map (aS true))]) [] True:=by
 refine Ctr.bd Tryz.func239 Tryz.ntmps239 rfl rfl fun hp=>?_
 all_goals exact uU
theorem aO.dM{x:aO}{l:List aO}(h:x∈l):SizeOf.sizeOf x.ag<SizeOf.sizeOf l:=by
 have:=List.sizeOf_lt_of_mem h
 cases x;simp [aO.ag] at *;omega
theorem Ko(L:Nat->Nat)[hL:Lok L](n:Nat)(ih:∀ l:List aO,Ctr L Tryz.prog 135 [] [.sl false 7 (l.map (aG false)),.sl false 7 (l.map (aG false))] (.v (.bool true)) [] (SizeOf.sizeOf l<n))(x:aO):Ctr L Tryz.prog 204 [] [.agg [.v (.int .i64 x.fOp),.v (.int .i64 x.fo),.str x.bW,.v (.bool x.aA.cO),.v (.int .i64 x.aA.dc),.sl false 2 (x.aA.aK.map (aS false)),.sl false 7 (x.ag.map (aG false))],.agg [.v (.int .i64 x.fOp),.v (.int .i64 x.fo),.str x.bW,.v (.bool x.aA.cO),.v (.int .i64 x.aA.dc),.sl false 2 (x.aA.aK.map (aS false)),.sl false 7 (x.ag.map (aG false))]] (.v (.bool true)) [] (SizeOf.sizeOf x.ag<n):=by
 refine Ctr.bd Tryz.func204 Tryz.ntmps204 rfl rfl fun hp=>?_
 all_goals exact uU
theorem AO(L:Nat->Nat)[hL:Lok L]:∀ (n:Nat) (l:List aO),Ctr L Tryz.prog 135 [] [.sl false 7 (l.map (aG false)),.sl false 7 (l.map (aG false))] (.v (.bool true)) [] (SizeOf.sizeOf l<n)
 | 0,l=>⟨(aW 135),fun h=>absurd h (Nat.not_lt_zero _)⟩
 | n+1,l=>by
  have hx:=Ko L n (AO L n)
  refine Ctr.bd Tryz.func135 Tryz.ntmps135 rfl rfl fun hp=>?_
  refine AW.fact 0 fun hf=>?_
  simp (disch:=omega) only [go_sem,Nat.reduceBEq] at hf
  have hf:=Nat.le_trans hf (hL.le 7)
  (refine vU ?_;with_reducible repeat' first|exact Le.l|apply Sw|intro h)
  refine AW.aw [5] [0,1] (fun m xs o=>∃ k:Nat,xs=[.v (.int .i64 k)]/\o=[]/\m=l.length - k/\k<=l.length) l.length [] trivial ⟨0,?_,rfl,rfl,?_⟩ ?_
  ·rfl
  ·omega
  rintro m xs o ⟨k,rfl,rfl,rfl,hk⟩
  have hkk:k<l.length->SizeOf.sizeOf (at_ l k).ag<n:=fun h=>by have:=aO.dM (at_mem h);omega
  (refine vU ?_;with_reducible repeat' first|exact Le.l|apply Sw|intro h)
  exact ⟨_,[_],[],by omega,⟨k+1,rfl,rfl,rfl,by omega⟩,rfl,trivial⟩
instance SI(L:Nat->Nat)[hL:Lok L](l:List aO):Ctr L Tryz.prog 135 [] [.sl false 7 (l.map (aG false)),.sl false 7 (l.map (aG false))] (.v (.bool true)) [] True:=⟨(aW 135),fun _=>(AO L (SizeOf.sizeOf l+1) l).out (Nat.lt_succ_self _)⟩
theorem Ji(L:Nat->Nat)[hL:Lok L](n:Nat)(ih:∀ (l:List aO) (r:Int),Ctr L Tryz.prog 106 [] [.sl false 7 (l.map (aG false)),.v (.int .i64 r)] (.v (.int .i64 (aM cu l r))) [] (SizeOf.sizeOf l<n/\0<=r/\r<=1048576))(x:aO)(r:Int):Ctr L Tryz.prog 163 [] [.agg [.v (.int .i64 x.fOp),.v (.int .i64 x.fo),.str x.bW,.v (.bool x.aA.cO),.v (.int .i64 x.aA.dc),.sl false 2 (x.aA.aK.map (aS false)),.sl false 7 (x.ag.map (aG false))],.v (.int .i64 r)] (.v (.int .i64 (cu x r))) [] (SizeOf.sizeOf x.ag<n/\0<=r/\r<=1048576):=by
 refine Ctr.bd Tryz.func163 Tryz.ntmps163 rfl rfl fun hp=>?_
 refine AW.fact 0 fun hf=>?_
 simp (disch:=omega) only [go_sem,Nat.reduceBEq] at hf
 have le1:=pZ x.aA (r - x.bW.length)
 have le2:=bu cu eM x.ag (je x.aA (r - x.bW.length))
 rw [tF]
 ((refine vU ?_;with_reducible repeat' first|exact Le.l|apply Sw|intro h);all_goals simp only [thn,az,id];all_goals refine congrArg (fun z=>AV.v (.int .i64 z)) ?_;all_goals (repeat' split);all_goals omega)
theorem zW(L:Nat->Nat)[hL:Lok L]:∀ (n:Nat) (l:List aO) (r:Int),Ctr L Tryz.prog 106 [] [.sl false 7 (l.map (aG false)),.v (.int .i64 r)] (.v (.int .i64 (aM cu l r))) [] (SizeOf.sizeOf l<n/\0<=r/\r<=1048576)
 | 0,l,r=>⟨(aW 106),fun h=>absurd h.1 (Nat.not_lt_zero _)⟩
 | n+1,l,r=>by
  have hx:=Ji L n (zW L n)
  refine Ctr.bd Tryz.func106 Tryz.ntmps106 rfl rfl fun hp=>?_
  refine AW.fact 0 fun hf=>?_
  simp (disch:=omega) only [go_sem,Nat.reduceBEq] at hf
  have hf:=Nat.le_trans hf (hL.le 7)
  (refine vU ?_;with_reducible repeat' first|exact Le.l|apply Sw|intro h)
  ·rw [fe h]
  rw [fC h]
  refine AW.aw [1,5] [0] (fun m xs o=>∃ (k:Nat) (q:Int),xs=[.v (.int .i64 q),.v (.int .i64 k)]/\o=[]/\m=l.length - k/\k<=l.length/\0<=q/\q<=1048576/\dP cu (l.drop k) q=dP cu l (r - l.length)) l.length [] trivial ⟨0,_,?_,rfl,rfl,?_,?_,?_,rfl⟩ ?_
  ·rfl
  ·omega
  ·omega
  ·omega
  rintro m xs o ⟨k,q,rfl,rfl,rfl,hk,h0,h1,hR⟩
  have hle:=eM (at_ l k) q h0
  have hkk:k<l.length->SizeOf.sizeOf (at_ l k).ag<n:=fun h=>by have:=aO.dM (at_mem h);omega
  (refine vU ?_;with_reducible repeat' first|exact Le.l|apply Sw|intro h)
  ·rw [fw (by assumption),if_pos (by first|exact h|(rw [hsz];exact h))] at hR;rw [hR]
  ·rw [fw (by assumption),if_neg (by omega)] at hR
   exact ⟨_,[_,_],[],by omega,⟨k+1,_,rfl,rfl,rfl,by omega,by omega,by omega,hR⟩,rfl,trivial⟩
  ·rw [jv h] at hR;rw [hR]
instance R2(L:Nat->Nat)[hL:Lok L](l:List aO)(r:Int):Ctr L Tryz.prog 106 [] [.sl false 7 (l.map (aG false)),.v (.int .i64 r)] (.v (.int .i64 (aM cu l r))) [] (0<=r/\r<=1048576):=⟨(aW 106),fun h=>(zW L (SizeOf.sizeOf l+1) l r).out ⟨Nat.lt_succ_self _,h⟩⟩
theorem Jd(n:Nat)(ih:∀ l:List aO,Ctr lim Tryz.prog 119 [] [.sl false 7 (l.map (aG false))] (.sl true 7 (l.map (aG true))) [] (SizeOf.sizeOf l<n))(x:aO):Ctr lim Tryz.prog 183 [] [.agg [.v (.int .i64 x.fOp),.v (.int .i64 x.fo),.str x.bW,.v (.bool x.aA.cO),.v (.int .i64 x.aA.dc),.sl false 2 (x.aA.aK.map (aS false)),.sl false 7 (x.ag.map (aG false))]] (.agg [.v (.int .i64 x.fOp),.v (.int .i64 x.fo),.str x.bW,.v (.bool x.aA.cO),.v (.int .i64 x.aA.dc),.sl true 2 (x.aA.aK.map (aS true)),.sl true 7 (x.ag.map (aG true))]) [] (SizeOf.sizeOf x.ag<n):=by
 refine Ctr.bd Tryz.func183 Tryz.ntmps183 rfl rfl fun hp=>?_
 all_goals exact uU
theorem zS:∀ (n:Nat) (l:List aO),Ctr lim Tryz.prog 119 [] [.sl false 7 (l.map (aG false))] (.sl true 7 (l.map (aG true))) [] (SizeOf.sizeOf l<n)
 | 0,l=>⟨(aW 119),fun h=>absurd h (Nat.not_lt_zero _)⟩
 | n+1,l=>by
  have hx:=Jd n (zS n)
  refine Ctr.bd Tryz.func119 Tryz.ntmps119 rfl rfl fun hp=>?_
  refine AW.fact 0 fun hf=>?_
  simp (disch:=omega) only [go_sem,Nat.reduceBEq] at hf
  (refine vU ?_;with_reducible repeat' first|exact Le.l|apply Sw|intro h)
  refine AW.aw [4] [0,3] (fun m xs o=>∃ k:Nat,xs=[.v (.int .i64 k)]/\o=[(h,some (mkC (aG true) [.int .i64 0,.int .i64 0,.string ⟨#[]⟩,.bool false,.int .i64 0,.slice none 0 0,.slice none 0 0] l k))]/\m=l.length - k/\k<=l.length) l.length [(h,some (mkC (aG true) [.int .i64 0,.int .i64 0,.string ⟨#[]⟩,.bool false,.int .i64 0,.slice none 0 0,.slice none 0 0] l 0))] (aE (iK _ _ _)) ⟨0,?_,rfl,rfl,?_⟩ ?_
  ·rfl
  ·omega
  rintro m xs o ⟨k,rfl,rfl,rfl,hk⟩
  have hml:=jJ (aG true) [.int .i64 0,.int .i64 0,.string ⟨#[]⟩,.bool false,.int .i64 0,.slice none 0 0,.slice none 0 0] 7 (fun x=>by rw [cV];rfl) rfl l k hk
  have hkk:k<l.length->SizeOf.sizeOf (at_ l k).ag<n:=fun h=>by have:=aO.dM (at_mem h);omega
  (refine vX ?_;with_reducible repeat' first|exact Le.l|apply Sw|intro h)
  ·exact ⟨_,[_],_,by omega,⟨k+1,rfl,rfl,rfl,by omega⟩,rfl,aE (by have:=kN (aG true) [.int .i64 0,.int .i64 0,.string ⟨#[]⟩,.bool false,.int .i64 0,.slice none 0 0,.slice none 0 0] 7 (fun x=>by rw [cV];rfl) rfl l k h;simp only [go_sem,Nat.mul_one] at this ⊢;exact this.symm)⟩
  ·refine AW.made 2 rfl h hk (fun x=>by rw [cV];rfl) ?_
   all_goals exact uU
instance RV(l:List aO):Ctr lim Tryz.prog 119 [] [.sl false 7 (l.map (aG false))] (.sl true 7 (l.map (aG true))) [] True:=⟨(aW 119),fun _=>(zS (SizeOf.sizeOf l+1) l).out (Nat.lt_succ_self _)⟩
theorem ae.dM{x:ae}{l:List ae}(h:x∈l):SizeOf.sizeOf x.ag<SizeOf.sizeOf l:=by
 have:=List.sizeOf_lt_of_mem h
 cases x;simp [ae.ag] at *;omega
theorem GD(L:Nat->Nat)[hL:Lok L](n:Nat)(ih:∀ l:List ae,Ctr L Tryz.prog 18 [] [.sl false 19 (l.map (aq false)),.sl false 19 (l.map (aq false))] (.v (.bool true)) [] (SizeOf.sizeOf l<n))(x:ae):Ctr L Tryz.prog 71 [] [.agg (cSc x),.agg (cSc x)] (.v (.bool true)) [] (SizeOf.sizeOf x.ag<n):=by
 refine Ctr.bd Tryz.func71 Tryz.ntmps71 rfl rfl fun hp=>?_
 all_goals exact uU
theorem wj(L:Nat->Nat)[hL:Lok L]:∀ (n:Nat) (l:List ae),Ctr L Tryz.prog 18 [] [.sl false 19 (l.map (aq false)),.sl false 19 (l.map (aq false))] (.v (.bool true)) [] (SizeOf.sizeOf l<n)
 | 0,l=>⟨(aW 18),fun h=>absurd h (Nat.not_lt_zero _)⟩
 | n+1,l=>by
  have hx:=GD L n (wj L n)
  refine Ctr.bd Tryz.func18 Tryz.ntmps18 rfl rfl fun hp=>?_
  refine AW.fact 0 fun hf=>?_
  simp (disch:=omega) only [go_sem,Nat.reduceBEq] at hf
  have hf:=Nat.le_trans hf (hL.le 19)
  (refine vU ?_;with_reducible repeat' first|exact Le.l|apply Sw|intro h)
  refine AW.aw [5] [0,1] (fun m xs o=>∃ k:Nat,xs=[.v (.int .i64 k)]/\o=[]/\m=l.length - k/\k<=l.length) l.length [] trivial ⟨0,?_,rfl,rfl,?_⟩ ?_
  ·rfl
  ·omega
  rintro m xs o ⟨k,rfl,rfl,rfl,hk⟩
  have hkk:k<l.length->SizeOf.sizeOf (at_ l k).ag<n:=fun h=>by have:=ae.dM (at_mem h);omega
  (refine vU ?_;with_reducible repeat' first|exact Le.l|apply Sw|intro h)
  exact ⟨_,[_],[],by omega,⟨k+1,rfl,rfl,rfl,by omega⟩,rfl,trivial⟩
instance Qa(L:Nat->Nat)[hL:Lok L](l:List ae):Ctr L Tryz.prog 18 [] [.sl false 19 (l.map (aq false)),.sl false 19 (l.map (aq false))] (.v (.bool true)) [] True:=⟨(aW 18),fun _=>(wj L (SizeOf.sizeOf l+1) l).out (Nat.lt_succ_self _)⟩
theorem FP(L:Nat->Nat)[hL:Lok L](n:Nat)(ih:∀ (l:List ae) (r:Int),Ctr L Tryz.prog 9 [] [.sl false 19 (l.map (aq false)),.v (.int .i64 r)] (.v (.int .i64 (aM bP l r))) [] (SizeOf.sizeOf l<n/\0<=r/\r<=1048576))(x:ae)(r:Int):Ctr L Tryz.prog 54 [] [.agg (cSc x),.v (.int .i64 r)] (.v (.int .i64 (bP x r))) [] (SizeOf.sizeOf x.ag<n/\0<=r/\r<=1048576):=by
 refine Ctr.bd Tryz.func54 Tryz.ntmps54 rfl rfl fun hp=>?_
 refine AW.fact 0 fun hf=>?_
 simp (disch:=omega) only [go_sem,Nat.reduceBEq] at hf
 have le1:=ku x.fType (r - x.af.length)
 have le2:=bu az aJ x.aD (dw x.fType (r - x.af.length))
 have le3:=bu az aJ x.aB (aM az x.aD (dw x.fType (r - x.af.length)))
 have le5:=bu cu eM x.bq ((aM az x.aB (aM az x.aD (dw x.fType (r - x.af.length)))) - x.ba.length)
 have le6:=bu cu eM x.bR (aM cu x.bq ((aM az x.aB (aM az x.aD (dw x.fType (r - x.af.length)))) - x.ba.length))
 have le7:=bu bP fQ x.ag (aM cu x.bR (aM cu x.bq ((aM az x.aB (aM az x.aD (dw x.fType (r - x.af.length)))) - x.ba.length)))
 rw [qD]
 ((refine vU ?_;with_reducible repeat' first|exact Le.l|apply Sw|intro h);all_goals simp only [thn,az,id];all_goals refine congrArg (fun z=>AV.v (.int .i64 z)) ?_;all_goals (repeat' split);all_goals omega)
theorem vH(L:Nat->Nat)[hL:Lok L]:∀ (n:Nat) (l:List ae) (r:Int),Ctr L Tryz.prog 9 [] [.sl false 19 (l.map (aq false)),.v (.int .i64 r)] (.v (.int .i64 (aM bP l r))) [] (SizeOf.sizeOf l<n/\0<=r/\r<=1048576)
 | 0,l,r=>⟨(aW 9),fun h=>absurd h.1 (Nat.not_lt_zero _)⟩
 | n+1,l,r=>by
  have hx:=FP L n (vH L n)
  refine Ctr.bd Tryz.func9 Tryz.ntmps9 rfl rfl fun hp=>?_
  refine AW.fact 0 fun hf=>?_
  simp (disch:=omega) only [go_sem,Nat.reduceBEq] at hf
  have hf:=Nat.le_trans hf (hL.le 19)
  (refine vU ?_;with_reducible repeat' first|exact Le.l|apply Sw|intro h)
  ·rw [fe h]
  rw [fC h]
  refine AW.aw [1,5] [0] (fun m xs o=>∃ (k:Nat) (q:Int),xs=[.v (.int .i64 q),.v (.int .i64 k)]/\o=[]/\m=l.length - k/\k<=l.length/\0<=q/\q<=1048576/\dP bP (l.drop k) q=dP bP l (r - l.length)) l.length [] trivial ⟨0,_,?_,rfl,rfl,?_,?_,?_,rfl⟩ ?_
  ·rfl
  ·omega
  ·omega
  ·omega
  rintro m xs o ⟨k,q,rfl,rfl,rfl,hk,h0,h1,hR⟩
  have hle:=fQ (at_ l k) q h0
  have hkk:k<l.length->SizeOf.sizeOf (at_ l k).ag<n:=fun h=>by have:=ae.dM (at_mem h);omega
  (refine vU ?_;with_reducible repeat' first|exact Le.l|apply Sw|intro h)
  ·rw [fw (by assumption),if_pos (by first|exact h|(rw [hsz];exact h))] at hR;rw [hR]
  ·rw [fw (by assumption),if_neg (by omega)] at hR
   exact ⟨_,[_,_],[],by omega,⟨k+1,_,rfl,rfl,rfl,by omega,by omega,by omega,hR⟩,rfl,trivial⟩
  ·rw [jv h] at hR;rw [hR]
instance PL(L:Nat->Nat)[hL:Lok L](l:List ae)(r:Int):Ctr L Tryz.prog 9 [] [.sl false 19 (l.map (aq false)),.v (.int .i64 r)] (.v (.int .i64 (aM bP l r))) [] (0<=r/\r<=1048576):=⟨(aW 9),fun h=>(vH L (SizeOf.sizeOf l+1) l r).out ⟨Nat.lt_succ_self _,h⟩⟩
theorem FJ(n:Nat)(ih:∀ l:List ae,Ctr lim Tryz.prog 13 [] [.sl false 19 (l.map (aq false))] (.sl true 19 (l.map (aq true))) [] (SizeOf.sizeOf l<n))(x:ae):Ctr lim Tryz.prog 62 [] [.agg (cSc x)] (.agg [.v (.int .i64 x.ai),.str x.af,.v (.int .i64 x.fType.ai),.sl true 2 (x.fType.av.map (aI true)),.sl true 1 (x.fType.ay.map AV.str),.str x.fType.aN,.str x.fType.aA,.sl true 1 (x.aD.map AV.str),.sl true 1 (x.aB.map AV.str),.str x.ba,.v (.bool x.cn),.v (.bool x.cy),.v (.bool x.bw),.v (.bool x.dC),.v (.int .i64 x.gr),.v (.int .i64 x.gu),.sl true 7 (x.bq.map (aG true)),.sl true 7 (x.bR.map (aG true)),.sl true 19 (x.ag.map (aq true))]) [] (SizeOf.sizeOf x.ag<n):=by
 refine Ctr.bd Tryz.func62 Tryz.ntmps62 rfl rfl fun hp=>?_
 all_goals exact uU
theorem vG:∀ (n:Nat) (l:List ae),Ctr lim Tryz.prog 13 [] [.sl false 19 (l.map (aq false))] (.sl true 19 (l.map (aq true))) [] (SizeOf.sizeOf l<n)
 | 0,l=>⟨(aW 13),fun h=>absurd h (Nat.not_lt_zero _)⟩
 | n+1,l=>by
  have hx:=FJ n (vG n)
  refine Ctr.bd Tryz.func13 Tryz.ntmps13 rfl rfl fun hp=>?_
  refine AW.fact 0 fun hf=>?_
  simp (disch:=omega) only [go_sem,Nat.reduceBEq] at hf
  (refine vU ?_;with_reducible repeat' first|exact Le.l|apply Sw|intro h)
  refine AW.aw [4] [0,3] (fun m xs o=>∃ k:Nat,xs=[.v (.int .i64 k)]/\o=[(h,some (mkC (aq true) [.int .i64 0,.string ⟨#[]⟩,.int .i64 0,.slice none 0 0,.slice none 0 0,.string ⟨#[]⟩,.string ⟨#[]⟩,.slice none 0 0,.slice none 0 0,.string ⟨#[]⟩,.bool false,.bool false,.bool false,.bool false,.int .i64 0,.int .i64 0,.slice none 0 0,.slice none 0 0,.slice none 0 0] l k))]/\m=l.length - k/\k<=l.length) l.length [(h,some (mkC (aq true) [.int .i64 0,.string ⟨#[]⟩,.int .i64 0,.slice none 0 0,.slice none 0 0,.string ⟨#[]⟩,.string ⟨#[]⟩,.slice none 0 0,.slice none 0 0,.string ⟨#[]⟩,.bool false,.bool false,.bool false,.bool false,.int .i64 0,.int .i64 0,.slice none 0 0,.slice none 0 0,.slice none 0 0] l 0))] (aE (iK _ _ _)) ⟨0,?_,rfl,rfl,?_⟩ ?_
  ·rfl
  ·omega
  rintro m xs o ⟨k,rfl,rfl,rfl,hk⟩
  have hml:=jJ (aq true) [.int .i64 0,.string ⟨#[]⟩,.int .i64 0,.slice none 0 0,.slice none 0 0,.string ⟨#[]⟩,.string ⟨#[]⟩,.slice none 0 0,.slice none 0 0,.string ⟨#[]⟩,.bool false,.bool false,.bool false,.bool false,.int .i64 0,.int .i64 0,.slice none 0 0,.slice none 0 0,.slice none 0 0] 19 (fun x=>by rw [cT];rfl) rfl l k hk
  have hkk:k<l.length->SizeOf.sizeOf (at_ l k).ag<n:=fun h=>by have:=ae.dM (at_mem h);omega
  (refine vX ?_;with_reducible repeat' first|exact Le.l|apply Sw|intro h)
  ·exact ⟨_,[_],_,by omega,⟨k+1,rfl,rfl,rfl,by omega⟩,rfl,aE (by have:=kN (aq true) [.int .i64 0,.string ⟨#[]⟩,.int .i64 0,.slice none 0 0,.slice none 0 0,.string ⟨#[]⟩,.string ⟨#[]⟩,.slice none 0 0,.slice none 0 0,.string ⟨#[]⟩,.bool false,.bool false,.bool false,.bool false,.int .i64 0,.int .i64 0,.slice none 0 0,.slice none 0 0,.slice none 0 0] 19 (fun x=>by rw [cT];rfl) rfl l k h;simp only [go_sem,Nat.mul_one] at this ⊢;exact this.symm)⟩
  ·refine AW.made 2 rfl h hk (fun x=>by rw [cT];rfl) ?_
   all_goals exact uU
instance PI(l:List ae):Ctr lim Tryz.prog 13 [] [.sl false 19 (l.map (aq false))] (.sl true 19 (l.map (aq true))) [] True:=⟨(aW 13),fun _=>(vG (SizeOf.sizeOf l+1) l).out (Nat.lt_succ_self _)⟩
end
end Go.Proofs
