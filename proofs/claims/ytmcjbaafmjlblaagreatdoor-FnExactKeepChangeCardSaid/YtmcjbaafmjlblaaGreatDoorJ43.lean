/- A part. -/
import Derived.Test.YtmcjbaafmjlblaaGreatDoorJ41
set_option linter.all false
set_option maxRecDepth 20000
set_option maxHeartbeats 4000000
namespace Go.Proofs
open Go.Ab Go.Dt
section
attribute [-instance] F4 Ji cPf
theorem au.cd{x:au}{l:List au}(h:x∈l):SizeOf.sizeOf x.af<SizeOf.sizeOf l:=by
 have:=List.sizeOf_lt_of_mem h
 cases x;simp [au.af] at *;omega
theorem M7(L:Nat->Nat)[hL:Lok L](n:Nat)(ih:∀ l:List au,Ctr L Tryz.prog 15 [] [.sl false 4 (l.map (aH false)),.sl false 4 (l.map (aH false))] (.v (.bool true)) [] (SizeOf.sizeOf l<n))(x:au):Ctr L Tryz.prog 53 [] [.agg (cEd x),.agg (cEd x)] (.v (.bool true)) [] (SizeOf.sizeOf x.af<n):=by
 refine Ctr.bd Tryz.func53 Tryz.ntmps53 rfl rfl fun hp=>?_
 all_goals exact uU
theorem Cc(L:Nat->Nat)[hL:Lok L]:∀ (n:Nat) (l:List au),Ctr L Tryz.prog 15 [] [.sl false 4 (l.map (aH false)),.sl false 4 (l.map (aH false))] (.v (.bool true)) [] (SizeOf.sizeOf l<n)
 | 0,l=>⟨(aM 15),fun h=>absurd h (Nat.not_lt_zero _)⟩
 | n+1,l=>by
  have hx:=M7 L n (Cc L n)
  refine Ctr.bd Tryz.func15 Tryz.ntmps15 rfl rfl fun hp=>?_
  refine AW.fact 0 fun hf=>?_
  simp (disch:=omega) only [go_sem,Nat.reduceBEq] at hf
  have hf:=Nat.le_trans hf (hL.le 4)
  (refine vU ?_;with_reducible repeat' first|exact Le.l|apply Sw|intro h)
  refine AW.aA [5] [0,1] (fun m xs o=>∃ k:Nat,xs=[.v (.int .i64 k)]/\o=[]/\m=l.length - k/\k<=l.length) l.length [] trivial ⟨0,?_,rfl,rfl,?_⟩ ?_
  ·rfl
  ·omega
  rintro m xs o ⟨k,rfl,rfl,rfl,hk⟩
  have hkk:k<l.length->SizeOf.sizeOf (at_ l k).af<n:=fun h=>by have:=au.cd (at_mem h);omega
  (refine vU ?_;with_reducible repeat' first|exact Le.l|apply Sw|intro h)
  exact ⟨_,[_],[],by omega,⟨k+1,rfl,rfl,rfl,by omega⟩,rfl,trivial⟩
instance Vv(L:Nat->Nat)[hL:Lok L](l:List au):Ctr L Tryz.prog 15 [] [.sl false 4 (l.map (aH false)),.sl false 4 (l.map (aH false))] (.v (.bool true)) [] True:=⟨(aM 15),fun _=>(Cc L (SizeOf.sizeOf l+1) l).out (Nat.lt_succ_self _)⟩
theorem LD(L:Nat->Nat)[hL:Lok L](n:Nat)(ih:∀ (l:List au) (r:Int),Ctr L Tryz.prog 112 [] [.sl false 4 (l.map (aH false)),.v (.int .i64 r)] (.v (.int .i64 (aG dM l r))) [] (SizeOf.sizeOf l<n/\0<=r/\r<=1048576))(x:au)(r:Int):Ctr L Tryz.prog 146 [] [.agg (cEd x),.v (.int .i64 r)] (.v (.int .i64 (dM x r))) [] (SizeOf.sizeOf x.af<n/\0<=r/\r<=1048576):=by
 refine Ctr.bd Tryz.func146 Tryz.ntmps146 rfl rfl fun hp=>?_
 refine AW.fact 0 fun hf=>?_
 simp (disch:=omega) only [go_sem,Nat.reduceBEq] at hf
 have le2:=aZ dM fT x.af ((r - x.ae.length) - x.av.length)
 rw [ur]
 ((refine vU ?_;with_reducible repeat' first|exact Le.l|apply Sw|intro h);all_goals simp only [thn,aC,id];all_goals refine congrArg (fun z=>AV.v (.int .i64 z)) ?_;all_goals (repeat' split);all_goals omega)
theorem BC(L:Nat->Nat)[hL:Lok L]:∀ (n:Nat) (l:List au) (r:Int),Ctr L Tryz.prog 112 [] [.sl false 4 (l.map (aH false)),.v (.int .i64 r)] (.v (.int .i64 (aG dM l r))) [] (SizeOf.sizeOf l<n/\0<=r/\r<=1048576)
 | 0,l,r=>⟨(aM 112),fun h=>absurd h.1 (Nat.not_lt_zero _)⟩
 | n+1,l,r=>by
  have hx:=LD L n (BC L n)
  refine Ctr.bd Tryz.func112 Tryz.ntmps112 rfl rfl fun hp=>?_
  refine AW.fact 0 fun hf=>?_
  simp (disch:=omega) only [go_sem,Nat.reduceBEq] at hf
  have hf:=Nat.le_trans hf (hL.le 4)
  (refine vU ?_;with_reducible repeat' first|exact Le.l|apply Sw|intro h)
  ·rw [fQ h]
  rw [gr h]
  refine AW.aA [1,5] [0] (fun m xs o=>∃ (k:Nat) (q:Int),xs=[.v (.int .i64 q),.v (.int .i64 k)]/\o=[]/\m=l.length - k/\k<=l.length/\0<=q/\q<=1048576/\eD dM (l.drop k) q=eD dM l (r - l.length)) l.length [] trivial ⟨0,_,?_,rfl,rfl,?_,?_,?_,rfl⟩ ?_
  ·rfl
  ·omega
  ·omega
  ·omega
  rintro m xs o ⟨k,q,rfl,rfl,rfl,hk,h0,h1,hR⟩
  have hle:=fT (at_ l k) q h0
  have hkk:k<l.length->SizeOf.sizeOf (at_ l k).af<n:=fun h=>by have:=au.cd (at_mem h);omega
  (refine vU ?_;with_reducible repeat' first|exact Le.l|apply Sw|intro h)
  ·rw [fX (by assumption),if_pos (by first|exact h|(rw [hsz];exact h))] at hR;rw [hR]
  ·rw [fX (by assumption),if_neg (by omega)] at hR
   exact ⟨_,[_,_],[],by omega,⟨k+1,_,rfl,rfl,rfl,by omega,by omega,by omega,hR⟩,rfl,trivial⟩
  ·rw [j4 h] at hR;rw [hR]
instance US(L:Nat->Nat)[hL:Lok L](l:List au)(r:Int):Ctr L Tryz.prog 112 [] [.sl false 4 (l.map (aH false)),.v (.int .i64 r)] (.v (.int .i64 (aG dM l r))) [] (0<=r/\r<=1048576):=⟨(aM 112),fun h=>(BC L (SizeOf.sizeOf l+1) l r).out ⟨Nat.lt_succ_self _,h⟩⟩
theorem Ly(n:Nat)(ih:∀ l:List au,Ctr lim Tryz.prog 116 [] [.sl false 4 (l.map (aH false))] (.sl true 4 (l.map (aH true))) [] (SizeOf.sizeOf l<n))(x:au):Ctr lim Tryz.prog 150 [] [.agg (cEd x)] (.agg [.v (.int .i64 x.fOp),.str x.ae,.str x.av,.sl true 4 (x.af.map (aH true))]) [] (SizeOf.sizeOf x.af<n):=by
 refine Ctr.bd Tryz.func150 Tryz.ntmps150 rfl rfl fun hp=>?_
 all_goals exact uU
theorem Bz:∀ (n:Nat) (l:List au),Ctr lim Tryz.prog 116 [] [.sl false 4 (l.map (aH false))] (.sl true 4 (l.map (aH true))) [] (SizeOf.sizeOf l<n)
 | 0,l=>⟨(aM 116),fun h=>absurd h (Nat.not_lt_zero _)⟩
 | n+1,l=>by
  have hx:=Ly n (Bz n)
  refine Ctr.bd Tryz.func116 Tryz.ntmps116 rfl rfl fun hp=>?_
  refine AW.fact 0 fun hf=>?_
  simp (disch:=omega) only [go_sem,Nat.reduceBEq] at hf
  (refine vU ?_;with_reducible repeat' first|exact Le.l|apply Sw|intro h)
  refine AW.aA [4] [0,3] (fun m xs o=>∃ k:Nat,xs=[.v (.int .i64 k)]/\o=[(h,some (mkC (aH true) [.int .i64 0,.string ⟨#[]⟩,.string ⟨#[]⟩,.slice none 0 0] l k))]/\m=l.length - k/\k<=l.length) l.length [(h,some (mkC (aH true) [.int .i64 0,.string ⟨#[]⟩,.string ⟨#[]⟩,.slice none 0 0] l 0))] (bw (jN _ _ _)) ⟨0,?_,rfl,rfl,?_⟩ ?_
  ·rfl
  ·omega
  rintro m xs o ⟨k,rfl,rfl,rfl,hk⟩
  have hml:=kH (aH true) [.int .i64 0,.string ⟨#[]⟩,.string ⟨#[]⟩,.slice none 0 0] 4 (fun x=>by rw [bS];rfl) rfl l k hk
  have hkk:k<l.length->SizeOf.sizeOf (at_ l k).af<n:=fun h=>by have:=au.cd (at_mem h);omega
  (refine vX ?_;with_reducible repeat' first|exact Le.l|apply Sw|intro h)
  ·exact ⟨_,[_],_,by omega,⟨k+1,rfl,rfl,rfl,by omega⟩,rfl,bw (by have:=l9 (aH true) [.int .i64 0,.string ⟨#[]⟩,.string ⟨#[]⟩,.slice none 0 0] 4 (fun x=>by rw [bS];rfl) rfl l k h;simp only [go_sem,Nat.mul_one] at this ⊢;exact this.symm)⟩
  ·refine AW.made 2 rfl h hk (fun x=>by rw [bS];rfl) ?_
   all_goals exact uU
instance UM(l:List au):Ctr lim Tryz.prog 116 [] [.sl false 4 (l.map (aH false))] (.sl true 4 (l.map (aH true))) [] True:=⟨(aM 116),fun _=>(Bz (SizeOf.sizeOf l+1) l).out (Nat.lt_succ_self _)⟩
end
section
attribute [-instance] F4 Ji cPf
attribute [local go_sem] ba aI aS gV gU
theorem BX:∀ (n:Nat) (l:List au),Ctr lim Tryz.prog 86 [] [.sl false 4 (l.map (aH false))] (.sl true 4 (l.map (aH true))) [] (SizeOf.sizeOf l<n)
 | 0,l=>⟨(aM 86),fun h=>absurd h (Nat.not_lt_zero _)⟩
 | n+1,l=>by
  have ih:=BX n
  refine Ctr.bd Tryz.func86 Tryz.ntmps86 rfl rfl fun hp=>?_
  have gOn:=bA.on
  refine AW.fact 0 fun hf=>?_
  simp (disch:=omega) only [go_sem] at hf
  (refine vK ?_;with_reducible repeat' first|exact Le.l|apply Sw|intro h)
  refine AW.aA [3,9] [7,8] (fun m xs o=>∃ k:Nat,xs=[.sl true 4 ((l.take k).map (aH true)),.v (.int .i64 k)]/\o=[]/\m=l.length - k/\k<=l.length) l.length [] trivial ⟨0,?_,rfl,rfl,?_⟩ ?_
  ·rfl
  ·omega
  rintro m xs o ⟨k,rfl,rfl,rfl,hk⟩
  have hlt:(l.take k).length=k:=by rw [List.length_take];omega
  have hkk:k<l.length->SizeOf.sizeOf (at_ l k).af<n:=fun h=>by have:=au.cd (at_mem h);omega
  (refine vU ?_;with_reducible repeat' first|exact Le.l|apply Sw|intro h)
  ·exact ⟨_,[_,_],_,by omega,⟨k+1,by rw [db (by assumption),List.map_append,List.map_cons,List.map_nil,bS],rfl,rfl,by omega⟩,rfl,by simp (maxSteps:=2000000) (disch:=omega) only [go_sem]⟩
  ·rw [show k=l.length by omega,List.take_length]
theorem BG:∀ (n:Nat) (l:List au),Ctr lim Tryz.prog 85 [] [.sl false 4 (l.map (aH false))] (.sl true 4 (l.map (aH true))) [] (SizeOf.sizeOf l<n)
 | 0,l=>⟨(aM 85),fun h=>absurd h (Nat.not_lt_zero _)⟩
 | n+1,l=>by
  have ih:=BG n
  refine Ctr.bd Tryz.func85 Tryz.ntmps85 rfl rfl fun hp=>?_
  have gOn:=bA.on
  refine AW.fact 0 fun hf=>?_
  simp (disch:=omega) only [go_sem] at hf
  (refine vK ?_;with_reducible repeat' first|exact Le.l|apply Sw|intro h)
  refine AW.aA [3,4] [0] (fun m xs o=>∃ k:Nat,xs=[.sl true 4 ((l.take k).map (aH true)),.v (.int .i64 k)]/\o=[]/\m=l.length - k/\k<=l.length) l.length [] trivial ⟨0,?_,rfl,rfl,?_⟩ ?_
  ·rfl
  ·omega
  rintro m xs o ⟨k,rfl,rfl,rfl,hk⟩
  have hlt:(l.take k).length=k:=by rw [List.length_take];omega
  have hkk:k<l.length->SizeOf.sizeOf (at_ l k).af<n:=fun h=>by have:=au.cd (at_mem h);omega
  refine vO ?_;intros;refine AW.c (fun h=>?_) fun h=>?_
  ·(refine vN ?_;with_reducible repeat' first|exact Le.l|apply Sw|intro h)
   refine Z ?_
   intro K hK
   simp (maxSteps:=2000000) (disch:=omega) only [go_sem]
   refine Y ?_
   simp (maxSteps:=2000000) (disch:=omega) only [go_sem]
   refine And.intro (hkk h) (And.intro (by decide) (And.intro (by decide) ?_))
   refine Y ?_
   simp (maxSteps:=2000000) (disch:=omega) only [go_sem]
   refine And.intro ⟨by omega,by omega,by omega⟩ ?_
   refine hK _ _ ⟨Ct,?_⟩
   clear hK K
   intro K hK
   simp (maxSteps:=2000000) (disch:=omega) only [go_sem]
   refine hK _ _ ?_
   clear hK K
   (refine vU ?_;with_reducible repeat' first|exact Le.l|apply Sw|intro h)
   exact ⟨_,[_,_],_,by omega,⟨k+1,by rw [db (by assumption),List.map_append,List.map_cons,List.map_nil,bS],rfl,rfl,by omega⟩,rfl,by simp (maxSteps:=2000000) (disch:=omega) only [go_sem]⟩
  ·(refine vU ?_;with_reducible repeat' first|exact Le.l|apply Sw|intro h)
   rw [show k=l.length by omega,List.take_length]
instance Vk(l:List au):Ctr lim Tryz.prog 86 [] [.sl false 4 (l.map (aH false))] (.sl true 4 (l.map (aH true))) [] True:=⟨(aM 86),fun _=>(BX (SizeOf.sizeOf l+1) l).out (Nat.lt_succ_self _)⟩
instance U3(l:List au):Ctr lim Tryz.prog 85 [] [.sl false 4 (l.map (aH false))] (.sl true 4 (l.map (aH true))) [] True:=⟨(aM 85),fun _=>(BG (SizeOf.sizeOf l+1) l).out (Nat.lt_succ_self _)⟩
end
section
attribute [local go_sem] ba aI aS gV gU bD
theorem vz(o:Bool)(l:List (List au)):(l.map (bD o)).all (AV.elem 1)=true:=cX (fun _=>rfl) l
theorem vw(o:Bool)(l:List (List au)):((l.map (bD o)).flatMap AV.cells).all AV.one=true:=dw (fun _=>rfl) l
attribute [local go_sem] vz vw
end
end Go.Proofs
