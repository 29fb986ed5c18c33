/- Part of a proof. -/
import Derived.Test.YtpelkkfkecfmbaaGreatDoorH20
import Derived.Test.YtpelkkfkecfmbaaGreatDoorH23
set_option linter.all false
set_option maxRecDepth 20000
set_option maxHeartbeats 4000000
open Go.Proofs.Tryz
namespace Go.Proofs
open Go.Ab Go.Dt
instance abK(L:eaa)[hL:Lok L](x:cu):Ctr L prog 325 [] [.agg [.str x.ag,.str x.ax],.agg [.str x.ag,.str x.ax]] (.ac true) [] True:=by
 refine Ctr.bd func325 ntmps325 fun hp=>?_
 all_goals exact uU
instance ZJ(L:eaa)[hL:Lok L](l:List cu):Ctr L prog 293 [] [.sl false 2 (l.map (ct false)),.sl false 2 (l.map (ct false))] (.ac true) [] True:=by
 refine Ctr.bd func293 ntmps293 fun hp=>?_;refine AW.f0 0 fun hf=>?_;have hf:=Nat.le_trans hf (hL.le 2)
 (refine vU1 ?_;intro h)
 refine AW.aw [5] [0,1] (fun m xs o=>∃ k:Nat,xs=[.aa k]/\o=[]/\m=l.length - k/\k<=l.length) l.length [] trivial ⟨0,?_,rfl,rfl,?_⟩ ?_
 ·rfl
 ·omega
 rintro m xs o ⟨k,rfl,rfl,rfl,hk⟩
 (refine vU1 ?_;intro h h)
 exact ⟨_,[_],[],Ir,⟨k+1,rfl,rfl,rfl,Ir⟩,rfl,trivial⟩
instance Z2(L:eaa)[hL:Lok L](x:cu)(r:Int):Ctr L prog 323 [] [.agg [.str x.ag,.str x.ax],.aa r] (.aa (jQ x r)) [] (0<=r/\r<=1048576):=by
 refine Ctr.bd func323 ntmps323 fun hp=>?_;refine AW.f0 0 fun hf=>?_;unfold jQ
 ((refine vU3 ?_ ?_ ?_<;>with_reducible repeat intro h);all_goals simp only [thn,aI,id];all_goals refine congrArg (fun z=>AV.aa z) ?_;all_goals (repeat' split);all_goals omega)
instance YX(L:eaa)[hL:Lok L](l:List cu)(r:Int):Ctr L prog 291 [] [.sl false 2 (l.map (ct false)),.aa r] (.aa (aQ jQ l r)) [] (0<=r/\r<=1048576):=by
 refine Ctr.bd func291 ntmps291 fun hp=>?_;refine AW.f0 0 fun hf=>?_;have hf:=Nat.le_trans hf (hL.le 2)
 (refine vU2 ?_ ?_<;>intro h)
 ·rw [iy h]
 rw [iw h];refine AW.aw [1,5] [0] (fun m xs o=>∃ (k:Nat) (q:Int),xs=[.aa q,.aa k]/\o=[]/\m=l.length - k/\k<=l.length/\0<=q/\q<=1048576/\fu jQ (l.drop k) q=fu jQ l (r - l.length)) l.length [] trivial ⟨0,_,?_,rfl,rfl,?_,?_,?_,rfl⟩ ?_
 ·rfl
 ·omega
 ·omega
 ·omega
 rintro m xs o ⟨k,q,rfl,rfl,rfl,hk,h0,h1,hR⟩;have hle:=oP (at_ l k) q h0
 (refine vU3 ?_ ?_ ?_<;>with_reducible repeat intro h)
 ·rw [gK yG,if_pos (by first|exact h|(rw [hsz];exact h))] at hR;rw [hR]
 ·rw [gK yG,if_neg Ir] at hR;exact ⟨_,[_,_],[],Ir,⟨k+1,_,rfl,rfl,rfl,Ir,Ir,Ir,hR⟩,rfl,trivial⟩
 ·rw [lr h] at hR;rw [hR]
instance ZX(x:cu):Ctr lim prog 324 [] [.agg [.str x.ag,.str x.ax]] (.agg [.str x.ag,.str x.ax]) [] True:=by
 refine Ctr.bd func324 ntmps324 fun hp=>?_
 all_goals exact uU
instance YR(l:List cu):Ctr lim prog 292 [] [.sl false 2 (l.map (ct false))] (.sl true 2 (l.map (ct true))) [] True:=by
 refine Ctr.bd func292 ntmps292 fun hp=>?_;refine AW.f0 0 fun hf=>?_
 (refine vU1 ?_;intro h)
 refine AW.aw [4] [0,3] (fun m xs o=>∃ k:Nat,xs=[.aa k]/\o=[(h,some (mkC (ct true) [.string ⟨#[]⟩,.string ⟨#[]⟩] l k))]/\m=l.length - k/\k<=l.length) l.length [(h,some (mkC (ct true) [.string ⟨#[]⟩,.string ⟨#[]⟩] l 0))] (cj (kz _ _ _)) ⟨0,?_,rfl,rfl,?_⟩ ?_
 ·rfl
 ·omega
 rintro m xs o ⟨k,rfl,rfl,rfl,hk⟩;have hml:=lZ (ct true) [.string ⟨#[]⟩,.string ⟨#[]⟩] 2 (fun _=>rfl) rfl l k hk
 (refine vX2 ?_ ?_<;>intro h)
 ·exact ⟨_,[_],_,Ir,⟨k+1,rfl,rfl,rfl,Ir⟩,rfl,cj (by have:=nI (ct true) [.string ⟨#[]⟩,.string ⟨#[]⟩] 2 (fun _=>rfl) rfl l k h;simp only [go_sem,Nat.mul_one] at this ⊢;exact this.symm)⟩
 ·refine AW.made 2 rfl h hk (fun _=>rfl) ?_
  all_goals exact uU
instance abL(L:eaa)[hL:Lok L](x:Dt.GStep):Ctr L prog 252 [] [.agg [.str x.ag,.sl false 2 (x.aT.map (ct false))],.agg [.str x.ag,.sl false 2 (x.aT.map (ct false))]] (.ac true) [] True:=by
 refine Ctr.bd func252 ntmps252 fun hp=>?_
 all_goals exact uU
instance ZL(L:eaa)[hL:Lok L](l:List Dt.GStep):Ctr L prog 214 [] [.sl false 2 (l.map (aA false)),.sl false 2 (l.map (aA false))] (.ac true) [] True:=by
 refine Ctr.bd func214 ntmps214 fun hp=>?_;refine AW.f0 0 fun hf=>?_;have hf:=Nat.le_trans hf (hL.le 2)
 (refine vU1 ?_;intro h)
 refine AW.aw [5] [0,1] (fun m xs o=>∃ k:Nat,xs=[.aa k]/\o=[]/\m=l.length - k/\k<=l.length) l.length [] trivial ⟨0,?_,rfl,rfl,?_⟩ ?_
 ·rfl
 ·omega
 rintro m xs o ⟨k,rfl,rfl,rfl,hk⟩
 (refine vU1 ?_;intro h h)
 exact ⟨_,[_],[],Ir,⟨k+1,rfl,rfl,rfl,Ir⟩,rfl,trivial⟩
instance Z3(L:eaa)[hL:Lok L](x:Dt.GStep)(r:Int):Ctr L prog 249 [] [.agg [.str x.ag,.sl false 2 (x.aT.map (ct false))],.aa r] (.aa (jS x r)) [] (0<=r/\r<=1048576):=by
 refine Ctr.bd func249 ntmps249 fun hp=>?_;refine AW.f0 0 fun hf=>?_;have le1:=bu jQ oP x.aT (r - x.ag.length);unfold jS
 ((refine vU3 ?_ ?_ ?_<;>with_reducible repeat intro h);all_goals simp only [thn,aI,id];all_goals refine congrArg (fun z=>AV.aa z) ?_;all_goals (repeat' split);all_goals omega)
instance YZ(L:eaa)[hL:Lok L](l:List Dt.GStep)(r:Int):Ctr L prog 209 [] [.sl false 2 (l.map (aA false)),.aa r] (.aa (aQ jS l r)) [] (0<=r/\r<=1048576):=by
 refine Ctr.bd func209 ntmps209 fun hp=>?_;refine AW.f0 0 fun hf=>?_;have hf:=Nat.le_trans hf (hL.le 2)
 (refine vU2 ?_ ?_<;>intro h)
 ·rw [iy h]
 rw [iw h];refine AW.aw [1,5] [0] (fun m xs o=>∃ (k:Nat) (q:Int),xs=[.aa q,.aa k]/\o=[]/\m=l.length - k/\k<=l.length/\0<=q/\q<=1048576/\fu jS (l.drop k) q=fu jS l (r - l.length)) l.length [] trivial ⟨0,_,?_,rfl,rfl,?_,?_,?_,rfl⟩ ?_
 ·rfl
 ·omega
 ·omega
 ·omega
 rintro m xs o ⟨k,q,rfl,rfl,rfl,hk,h0,h1,hR⟩;have hle:=oQ (at_ l k) q h0
 (refine vU3 ?_ ?_ ?_<;>with_reducible repeat intro h)
 ·rw [gK yG,if_pos (by first|exact h|(rw [hsz];exact h))] at hR;rw [hR]
 ·rw [gK yG,if_neg Ir] at hR;exact ⟨_,[_,_],[],Ir,⟨k+1,_,rfl,rfl,rfl,Ir,Ir,Ir,hR⟩,rfl,trivial⟩
 ·rw [lr h] at hR;rw [hR]
instance ZY(x:Dt.GStep):Ctr lim prog 250 [] [.agg [.str x.ag,.sl false 2 (x.aT.map (ct false))]] (.agg [.str x.ag,.sl true 2 (x.aT.map (ct true))]) [] True:=by
 refine Ctr.bd func250 ntmps250 fun hp=>?_
 all_goals exact uU
instance YT(l:List Dt.GStep):Ctr lim prog 211 [] [.sl false 2 (l.map (aA false))] (.sl true 2 (l.map (aA true))) [] True:=by
 refine Ctr.bd func211 ntmps211 fun hp=>?_;refine AW.f0 0 fun hf=>?_
 (refine vU1 ?_;intro h)
 refine AW.aw [4] [0,3] (fun m xs o=>∃ k:Nat,xs=[.aa k]/\o=[(h,some (mkC (aA true) [.string ⟨#[]⟩,.slice none 0 0] l k))]/\m=l.length - k/\k<=l.length) l.length [(h,some (mkC (aA true) [.string ⟨#[]⟩,.slice none 0 0] l 0))] (cj (kz _ _ _)) ⟨0,?_,rfl,rfl,?_⟩ ?_
 ·rfl
 ·omega
 rintro m xs o ⟨k,rfl,rfl,rfl,hk⟩;have hml:=lZ (aA true) [.string ⟨#[]⟩,.slice none 0 0] 2 (fun _=>rfl) rfl l k hk
 (refine vX2 ?_ ?_<;>intro h)
 ·exact ⟨_,[_],_,Ir,⟨k+1,rfl,rfl,rfl,Ir⟩,rfl,cj (by have:=nI (aA true) [.string ⟨#[]⟩,.slice none 0 0] 2 (fun _=>rfl) rfl l k h;simp only [go_sem,Nat.mul_one] at this ⊢;exact this.symm)⟩
 ·refine AW.made 2 rfl h hk (fun _=>rfl) ?_
  all_goals exact uU
instance abM(L:eaa)[hL:Lok L](x:bP):Ctr L prog 174 [] [.agg [.ac x.bR,.aa x.bG,.sl false 2 (x.av.map (aA false))],.agg [.ac x.bR,.aa x.bG,.sl false 2 (x.av.map (aA false))]] (.ac true) [] True:=by
 refine Ctr.bd func174 ntmps174 fun hp=>?_
 all_goals exact uU
instance Z4(L:eaa)[hL:Lok L](x:bP)(r:Int):Ctr L prog 167 [] [.agg [.ac x.bR,.aa x.bG,.sl false 2 (x.av.map (aA false))],.aa r] (.aa (mA x r)) [] (0<=r/\r<=1048576):=by
 refine Ctr.bd func167 ntmps167 fun hp=>?_;refine AW.f0 0 fun hf=>?_;have le0:=bu jS oQ x.av r;unfold mA
 ((refine vU2 ?_ ?_<;>intro h);all_goals simp only [thn,aI,id];all_goals refine congrArg (fun z=>AV.aa z) ?_;all_goals (repeat' split);all_goals omega)
instance ZZ(x:bP):Ctr lim prog 171 [] [.agg [.ac x.bR,.aa x.bG,.sl false 2 (x.av.map (aA false))]] (.agg [.ac x.bR,.aa x.bG,.sl true 2 (x.av.map (aA true))]) [] True:=by
 refine Ctr.bd func171 ntmps171 fun hp=>?_
 all_goals exact uU
def aB.du{x:aB}{l:List aB}(h:x∈l):SizeOf.sizeOf x.af<SizeOf.sizeOf l:=by have:=List.sizeOf_lt_of_mem h;cases x;simp [aB.af] at *;omega
theorem Qh(L:eaa)[hL:Lok L](n:Nat)(ih:∀ l:List aB,Ctr L prog 93 [] [.sl false 7 (l.map (aO false)),.sl false 7 (l.map (aO false))] (.ac true) [] (SizeOf.sizeOf l<n))(x:aB):Ctr L prog 128 [] [.agg (cEx x),.agg (cEx x)] (.ac true) [] (SizeOf.sizeOf x.af<n):=by
 refine Ctr.bd func128 ntmps128 fun hp=>?_
 all_goals exact uU
theorem DP(L:eaa)[hL:Lok L]:∀ (n:Nat) (l:List aB),Ctr L prog 93 [] [.sl false 7 (l.map (aO false)),.sl false 7 (l.map (aO false))] (.ac true) [] (SizeOf.sizeOf l<n)
 | 0,l=>⟨(aU 93),fun h=>absurd h (Nat.not_lt_zero _)⟩
 | n+1,l=>by
  have hx:=Qh L n (DP L n);refine Ctr.bd func93 ntmps93 fun hp=>?_;refine AW.f0 0 fun hf=>?_;have hf:=Nat.le_trans hf (hL.le 7)
  (refine vU1 ?_;intro h)
  refine AW.aw [5] [0,1] (fun m xs o=>∃ k:Nat,xs=[.aa k]/\o=[]/\m=l.length - k/\k<=l.length) l.length [] trivial ⟨0,?_,rfl,rfl,?_⟩ ?_
  ·rfl
  ·omega
  rintro m xs o ⟨k,rfl,rfl,rfl,hk⟩;have hkk:k<l.length->SizeOf.sizeOf (at_ l k).af<n:=fun h=>by have:=aB.du (at_mem h);omega
  (refine vU1 ?_;intro h h)
  exact ⟨_,[_],[],Ir,⟨k+1,rfl,rfl,rfl,Ir⟩,rfl,trivial⟩
instance ZO(L:eaa)[hL:Lok L](l:List aB):Ctr L prog 93 [] [.sl false 7 (l.map (aO false)),.sl false 7 (l.map (aO false))] (.ac true) [] True:=⟨(aU 93),fun _=>(DP L (SizeOf.sizeOf l+1) l).out (Nat.lt_succ_self _)⟩
theorem OI(L:eaa)[hL:Lok L](n:Nat)(ih:∀ (l:List aB) (r:Int),Ctr L prog 85 [] [.sl false 7 (l.map (aO false)),.aa r] (.aa (aQ cI l r)) [] (SizeOf.sizeOf l<n/\0<=r/\r<=1048576))(x:aB)(r:Int):Ctr L prog 122 [] [.agg (cEx x),.aa r] (.aa (cI x r)) [] (SizeOf.sizeOf x.af<n/\0<=r/\r<=1048576):=by
 refine Ctr.bd func122 ntmps122 fun hp=>?_;refine AW.f0 0 fun hf=>?_;have le1:=rr x.az (r - x.bI.length)
 have le2:=bu cI fN x.af (mA x.az (r - x.bI.length));rw [Df]
 ((refine vU4 ?_ ?_ ?_ ?_<;>with_reducible repeat intro h);all_goals simp only [thn,aI,id];all_goals refine congrArg (fun z=>AV.aa z) ?_;all_goals (repeat' split);all_goals omega)
theorem Dg(L:eaa)[hL:Lok L]:∀ (n:Nat) (l:List aB) (r:Int),Ctr L prog 85 [] [.sl false 7 (l.map (aO false)),.aa r] (.aa (aQ cI l r)) [] (SizeOf.sizeOf l<n/\0<=r/\r<=1048576)
 | 0,l,r=>⟨(aU 85),fun h=>absurd h.1 (Nat.not_lt_zero _)⟩
 | n+1,l,r=>by
  have hx:=OI L n (Dg L n);refine Ctr.bd func85 ntmps85 fun hp=>?_;refine AW.f0 0 fun hf=>?_;have hf:=Nat.le_trans hf (hL.le 7)
  (refine vU2 ?_ ?_<;>intro h)
  ·rw [iy h]
  rw [iw h];refine AW.aw [1,5] [0] (fun m xs o=>∃ (k:Nat) (q:Int),xs=[.aa q,.aa k]/\o=[]/\m=l.length - k/\k<=l.length/\0<=q/\q<=1048576/\fu cI (l.drop k) q=fu cI l (r - l.length)) l.length [] trivial ⟨0,_,?_,rfl,rfl,?_,?_,?_,rfl⟩ ?_
  ·rfl
  ·omega
  ·omega
  ·omega
  rintro m xs o ⟨k,q,rfl,rfl,rfl,hk,h0,h1,hR⟩;have hle:=fN (at_ l k) q h0
  have hkk:k<l.length->SizeOf.sizeOf (at_ l k).af<n:=fun h=>by have:=aB.du (at_mem h);omega
  (refine vU3 ?_ ?_ ?_<;>with_reducible repeat intro h)
  ·rw [gK yG,if_pos (by first|exact h|(rw [hsz];exact h))] at hR;rw [hR]
  ·rw [gK yG,if_neg Ir] at hR;exact ⟨_,[_,_],[],Ir,⟨k+1,_,rfl,rfl,rfl,Ir,Ir,Ir,hR⟩,rfl,trivial⟩
  ·rw [lr h] at hR;rw [hR]
instance Y1(L:eaa)[hL:Lok L](l:List aB)(r:Int):Ctr L prog 85 [] [.sl false 7 (l.map (aO false)),.aa r] (.aa (aQ cI l r)) [] (0<=r/\r<=1048576):=⟨(aU 85),fun h=>(Dg L (SizeOf.sizeOf l+1) l r).out ⟨Nat.lt_succ_self _,h⟩⟩
theorem OE(n:Nat)(ih:∀ l:List aB,Ctr lim prog 89 [] [.sl false 7 (l.map (aO false))] (.sl true 7 (l.map (aO true))) [] (SizeOf.sizeOf l<n))(x:aB):Ctr lim prog 125 [] [.agg (cEx x)] (.agg [.aa x.fOp,.aa x.dn,.str x.bI,.ac x.az.bR,.aa x.az.bG,.sl true 2 (x.az.av.map (aA true)),.sl true 7 (x.af.map (aO true))]) [] (SizeOf.sizeOf x.af<n):=by
 refine Ctr.bd func125 ntmps125 fun hp=>?_
 all_goals exact uU
theorem Dc:∀ (n:Nat) (l:List aB),Ctr lim prog 89 [] [.sl false 7 (l.map (aO false))] (.sl true 7 (l.map (aO true))) [] (SizeOf.sizeOf l<n)
 | 0,l=>⟨(aU 89),fun h=>absurd h (Nat.not_lt_zero _)⟩
 | n+1,l=>by
  have hx:=OE n (Dc n);refine Ctr.bd func89 ntmps89 fun hp=>?_;refine AW.f0 0 fun hf=>?_
  (refine vU1 ?_;intro h)
  refine AW.aw [4] [0,3] (fun m xs o=>∃ k:Nat,xs=[.aa k]/\o=[(h,some (mkC (aO true) [.int .i64 0,.int .i64 0,.string ⟨#[]⟩,.bool false,.int .i64 0,.slice none 0 0,.slice none 0 0] l k))]/\m=l.length - k/\k<=l.length) l.length [(h,some (mkC (aO true) [.int .i64 0,.int .i64 0,.string ⟨#[]⟩,.bool false,.int .i64 0,.slice none 0 0,.slice none 0 0] l 0))] (cj (kz _ _ _)) ⟨0,?_,rfl,rfl,?_⟩ ?_
  ·rfl
  ·omega
  rintro m xs o ⟨k,rfl,rfl,rfl,hk⟩;have hml:=lZ (aO true) [.int .i64 0,.int .i64 0,.string ⟨#[]⟩,.bool false,.int .i64 0,.slice none 0 0,.slice none 0 0] 7 (fun x=>by rw [dE];rfl) rfl l k hk
  have hkk:k<l.length->SizeOf.sizeOf (at_ l k).af<n:=fun h=>by have:=aB.du (at_mem h);omega
  (refine vX2 ?_ ?_<;>intro h)
  ·exact ⟨_,[_],_,Ir,⟨k+1,rfl,rfl,rfl,Ir⟩,rfl,cj (by have:=nI (aO true) [.int .i64 0,.int .i64 0,.string ⟨#[]⟩,.bool false,.int .i64 0,.slice none 0 0,.slice none 0 0] 7 (fun x=>by rw [dE];rfl) rfl l k h;simp only [go_sem,Nat.mul_one] at this ⊢;exact this.symm)⟩
  ·refine AW.made 2 rfl h hk (fun x=>by rw [dE];rfl) ?_
   all_goals exact uU
instance YW(l:List aB):Ctr lim prog 89 [] [.sl false 7 (l.map (aO false))] (.sl true 7 (l.map (aO true))) [] True:=⟨(aU 89),fun _=>(Dc (SizeOf.sizeOf l+1) l).out (Nat.lt_succ_self _)⟩
def ae.du{x:ae}{l:List ae}(h:x∈l):SizeOf.sizeOf x.af<SizeOf.sizeOf l:=by have:=List.sizeOf_lt_of_mem h;cases x;simp [ae.af] at *;omega
theorem Lt(L:eaa)[hL:Lok L](n:Nat)(ih:∀ l:List ae,Ctr L prog 26 [] [.sl false 19 (l.map (aq false)),.sl false 19 (l.map (aq false))] (.ac true) [] (SizeOf.sizeOf l<n))(x:ae):Ctr L prog 54 [] [.agg (cSc x),.agg (cSc x)] (.ac true) [] (SizeOf.sizeOf x.af<n):=by
 refine Ctr.bd func54 ntmps54 fun hp=>?_
 all_goals exact uU
theorem yN(L:eaa)[hL:Lok L]:∀ (n:Nat) (l:List ae),Ctr L prog 26 [] [.sl false 19 (l.map (aq false)),.sl false 19 (l.map (aq false))] (.ac true) [] (SizeOf.sizeOf l<n)
 | 0,l=>⟨(aU 26),fun h=>absurd h (Nat.not_lt_zero _)⟩
 | n+1,l=>by
  have hx:=Lt L n (yN L n);refine Ctr.bd func26 ntmps26 fun hp=>?_;refine AW.f0 0 fun hf=>?_;have hf:=Nat.le_trans hf (hL.le 19)
  (refine vU1 ?_;intro h)
  refine AW.aw [5] [0,1] (fun m xs o=>∃ k:Nat,xs=[.aa k]/\o=[]/\m=l.length - k/\k<=l.length) l.length [] trivial ⟨0,?_,rfl,rfl,?_⟩ ?_
  ·rfl
  ·omega
  rintro m xs o ⟨k,rfl,rfl,rfl,hk⟩;have hkk:k<l.length->SizeOf.sizeOf (at_ l k).af<n:=fun h=>by have:=ae.du (at_mem h);omega
  (refine vU1 ?_;intro h h)
  exact ⟨_,[_],[],Ir,⟨k+1,rfl,rfl,rfl,Ir⟩,rfl,trivial⟩
instance Xx(L:eaa)[hL:Lok L](l:List ae):Ctr L prog 26 [] [.sl false 19 (l.map (aq false)),.sl false 19 (l.map (aq false))] (.ac true) [] True:=⟨(aU 26),fun _=>(yN L (SizeOf.sizeOf l+1) l).out (Nat.lt_succ_self _)⟩
theorem Kn(L:eaa)[hL:Lok L](n:Nat)(ih:∀ (l:List ae) (r:Int),Ctr L prog 22 [] [.sl false 19 (l.map (aq false)),.aa r] (.aa (aQ bY l r)) [] (SizeOf.sizeOf l<n/\0<=r/\r<=1048576))(x:ae)(r:Int):Ctr L prog 48 [] [.agg (cSc x),.aa r] (.aa (bY x r)) [] (SizeOf.sizeOf x.af<n/\0<=r/\r<=1048576):=by
 refine Ctr.bd func48 ntmps48 fun hp=>?_;refine AW.f0 0 fun hf=>?_;have le1:=rq x.fType (r - x.ag.length)
 have le2:=bu aI bE x.aE (eE x.fType (r - x.ag.length))
 have le3:=bu aI bE x.ay (aQ aI x.aE (eE x.fType (r - x.ag.length)))
 have le5:=bu cI fN x.aG ((aQ aI x.ay (aQ aI x.aE (eE x.fType (r - x.ag.length)))) - x.aV.length)
 have le6:=bu cI fN x.bO (aQ cI x.aG ((aQ aI x.ay (aQ aI x.aE (eE x.fType (r - x.ag.length)))) - x.aV.length))
 have le7:=bu bY gz x.af (aQ cI x.bO (aQ cI x.aG ((aQ aI x.ay (aQ aI x.aE (eE x.fType (r - x.ag.length)))) - x.aV.length)));rw [yA]
 ((refine vU ?_;with_reducible repeat' first|exact Le.l|apply Sw|intro h);all_goals simp only [thn,aI,id];all_goals refine congrArg (fun z=>AV.aa z) ?_;all_goals (repeat' split);all_goals omega)
theorem yB(L:eaa)[hL:Lok L]:∀ (n:Nat) (l:List ae) (r:Int),Ctr L prog 22 [] [.sl false 19 (l.map (aq false)),.aa r] (.aa (aQ bY l r)) [] (SizeOf.sizeOf l<n/\0<=r/\r<=1048576)
 | 0,l,r=>⟨(aU 22),fun h=>absurd h.1 (Nat.not_lt_zero _)⟩
 | n+1,l,r=>by
  have hx:=Kn L n (yB L n);refine Ctr.bd func22 ntmps22 fun hp=>?_;refine AW.f0 0 fun hf=>?_;have hf:=Nat.le_trans hf (hL.le 19)
  (refine vU2 ?_ ?_<;>intro h)
  ·rw [iy h]
  rw [iw h];refine AW.aw [1,5] [0] (fun m xs o=>∃ (k:Nat) (q:Int),xs=[.aa q,.aa k]/\o=[]/\m=l.length - k/\k<=l.length/\0<=q/\q<=1048576/\fu bY (l.drop k) q=fu bY l (r - l.length)) l.length [] trivial ⟨0,_,?_,rfl,rfl,?_,?_,?_,rfl⟩ ?_
  ·rfl
  ·omega
  ·omega
  ·omega
  rintro m xs o ⟨k,q,rfl,rfl,rfl,hk,h0,h1,hR⟩;have hle:=gz (at_ l k) q h0
  have hkk:k<l.length->SizeOf.sizeOf (at_ l k).af<n:=fun h=>by have:=ae.du (at_mem h);omega
  (refine vU3 ?_ ?_ ?_<;>with_reducible repeat intro h)
  ·rw [gK yG,if_pos (by first|exact h|(rw [hsz];exact h))] at hR;rw [hR]
  ·rw [gK yG,if_neg Ir] at hR;exact ⟨_,[_,_],[],Ir,⟨k+1,_,rfl,rfl,rfl,Ir,Ir,Ir,hR⟩,rfl,trivial⟩
  ·rw [lr h] at hR;rw [hR]
instance Xa(L:eaa)[hL:Lok L](l:List ae)(r:Int):Ctr L prog 22 [] [.sl false 19 (l.map (aq false)),.aa r] (.aa (aQ bY l r)) [] (0<=r/\r<=1048576):=⟨(aU 22),fun h=>(yB L (SizeOf.sizeOf l+1) l r).out ⟨Nat.lt_succ_self _,h⟩⟩
theorem Kg(n:Nat)(ih:∀ l:List ae,Ctr lim prog 24 [] [.sl false 19 (l.map (aq false))] (.sl true 19 (l.map (aq true))) [] (SizeOf.sizeOf l<n))(x:ae):Ctr lim prog 51 [] [.agg (cSc x)] (.agg [.aa x.aj,.str x.ag,.aa x.fType.aj,.sl true 2 (x.fType.aP.map (bh true)),.sl true 1 (x.fType.aF.map AV.str),.str x.fType.ba,.str x.fType.az,.sl true 1 (x.aE.map AV.str),.sl true 1 (x.ay.map AV.str),.str x.aV,.ac x.bS,.ac x.bD,.ac x.aZ,.ac x.cU,.aa x.eJ,.aa x.dU,.sl true 7 (x.aG.map (aO true)),.sl true 7 (x.bO.map (aO true)),.sl true 19 (x.af.map (aq true))]) [] (SizeOf.sizeOf x.af<n):=by
 refine Ctr.bd func51 ntmps51 fun hp=>?_
 all_goals exact uU
theorem yz:∀ (n:Nat) (l:List ae),Ctr lim prog 24 [] [.sl false 19 (l.map (aq false))] (.sl true 19 (l.map (aq true))) [] (SizeOf.sizeOf l<n)
 | 0,l=>⟨(aU 24),fun h=>absurd h (Nat.not_lt_zero _)⟩
 | n+1,l=>by
  have hx:=Kg n (yz n);refine Ctr.bd func24 ntmps24 fun hp=>?_;refine AW.f0 0 fun hf=>?_
  (refine vU1 ?_;intro h)
  refine AW.aw [4] [0,3] (fun m xs o=>∃ k:Nat,xs=[.aa k]/\o=[(h,some (mkC (aq true) [.int .i64 0,.string ⟨#[]⟩,.int .i64 0,.slice none 0 0,.slice none 0 0,.string ⟨#[]⟩,.string ⟨#[]⟩,.slice none 0 0,.slice none 0 0,.string ⟨#[]⟩,.bool false,.bool false,.bool false,.bool false,.int .i64 0,.int .i64 0,.slice none 0 0,.slice none 0 0,.slice none 0 0] l k))]/\m=l.length - k/\k<=l.length) l.length [(h,some (mkC (aq true) [.int .i64 0,.string ⟨#[]⟩,.int .i64 0,.slice none 0 0,.slice none 0 0,.string ⟨#[]⟩,.string ⟨#[]⟩,.slice none 0 0,.slice none 0 0,.string ⟨#[]⟩,.bool false,.bool false,.bool false,.bool false,.int .i64 0,.int .i64 0,.slice none 0 0,.slice none 0 0,.slice none 0 0] l 0))] (cj (kz _ _ _)) ⟨0,?_,rfl,rfl,?_⟩ ?_
  ·rfl
  ·omega
  rintro m xs o ⟨k,rfl,rfl,rfl,hk⟩;have hml:=lZ (aq true) [.int .i64 0,.string ⟨#[]⟩,.int .i64 0,.slice none 0 0,.slice none 0 0,.string ⟨#[]⟩,.string ⟨#[]⟩,.slice none 0 0,.slice none 0 0,.string ⟨#[]⟩,.bool false,.bool false,.bool false,.bool false,.int .i64 0,.int .i64 0,.slice none 0 0,.slice none 0 0,.slice none 0 0] 19 (fun x=>by rw [dI];rfl) rfl l k hk
  have hkk:k<l.length->SizeOf.sizeOf (at_ l k).af<n:=fun h=>by have:=ae.du (at_mem h);omega
  (refine vX2 ?_ ?_<;>intro h)
  ·exact ⟨_,[_],_,Ir,⟨k+1,rfl,rfl,rfl,Ir⟩,rfl,cj (by have:=nI (aq true) [.int .i64 0,.string ⟨#[]⟩,.int .i64 0,.slice none 0 0,.slice none 0 0,.string ⟨#[]⟩,.string ⟨#[]⟩,.slice none 0 0,.slice none 0 0,.string ⟨#[]⟩,.bool false,.bool false,.bool false,.bool false,.int .i64 0,.int .i64 0,.slice none 0 0,.slice none 0 0,.slice none 0 0] 19 (fun x=>by rw [dI];rfl) rfl l k h;simp only [go_sem,Nat.mul_one] at this ⊢;exact this.symm)⟩
  ·refine AW.made 2 rfl h hk (fun x=>by rw [dI];rfl) ?_
   all_goals exact uU
instance WY(l:List ae):Ctr lim prog 24 [] [.sl false 19 (l.map (aq false))] (.sl true 19 (l.map (aq true))) [] True:=⟨(aU 24),fun _=>(yz (SizeOf.sizeOf l+1) l).out (Nat.lt_succ_self _)⟩
instance Xv(L:eaa)[hL:Lok L](x:eK):Ctr L prog 116 [] [.agg [.sl false 3 (x.ib.map (ak false)),.aa x.fBy,.aa x.fAt],.agg [.sl false 3 (x.ib.map (ak false)),.aa x.fBy,.aa x.fAt]] (.ac true) [] True:=by
 refine Ctr.bd func116 ntmps116 fun hp=>?_
 all_goals exact uU
instance Wx(L:eaa)[hL:Lok L](l:List eK):Ctr L prog 77 [] [.sl false 3 (l.map (cl false)),.sl false 3 (l.map (cl false))] (.ac true) [] True:=by
 refine Ctr.bd func77 ntmps77 fun hp=>?_;refine AW.f0 0 fun hf=>?_;have hf:=Nat.le_trans hf (hL.le 3)
 (refine vU1 ?_;intro h)
 refine AW.aw [5] [0,1] (fun m xs o=>∃ k:Nat,xs=[.aa k]/\o=[]/\m=l.length - k/\k<=l.length) l.length [] trivial ⟨0,?_,rfl,rfl,?_⟩ ?_
 ·rfl
 ·omega
 rintro m xs o ⟨k,rfl,rfl,rfl,hk⟩
 (refine vU1 ?_;intro h h)
 exact ⟨_,[_],[],Ir,⟨k+1,rfl,rfl,rfl,Ir⟩,rfl,trivial⟩
instance W8(L:eaa)[hL:Lok L](x:eK)(r:Int):Ctr L prog 100 [] [.agg [.sl false 3 (x.ib.map (ak false)),.aa x.fBy,.aa x.fAt],.aa r] (.aa (dO x r)) [] (0<=r/\r<=1048576):=by
 refine Ctr.bd func100 ntmps100 fun hp=>?_;refine AW.f0 0 fun hf=>?_;have le0:=bu bz cw x.ib r;unfold dO
 ((refine vU2 ?_ ?_<;>intro h);all_goals simp only [thn,aI,id];all_goals refine congrArg (fun z=>AV.aa z) ?_;all_goals (repeat' split);all_goals omega)
instance UG(L:eaa)[hL:Lok L](l:List eK)(r:Int):Ctr L prog 62 [] [.sl false 3 (l.map (cl false)),.aa r] (.aa (aQ dO l r)) [] (0<=r/\r<=1048576):=by
 refine Ctr.bd func62 ntmps62 fun hp=>?_;refine AW.f0 0 fun hf=>?_;have hf:=Nat.le_trans hf (hL.le 3)
 (refine vU2 ?_ ?_<;>intro h)
 ·rw [iy h]
 rw [iw h];refine AW.aw [1,5] [0] (fun m xs o=>∃ (k:Nat) (q:Int),xs=[.aa q,.aa k]/\o=[]/\m=l.length - k/\k<=l.length/\0<=q/\q<=1048576/\fu dO (l.drop k) q=fu dO l (r - l.length)) l.length [] trivial ⟨0,_,?_,rfl,rfl,?_,?_,?_,rfl⟩ ?_
 ·rfl
 ·omega
 ·omega
 ·omega
 rintro m xs o ⟨k,q,rfl,rfl,rfl,hk,h0,h1,hR⟩;have hle:=iR (at_ l k) q h0
 (refine vU3 ?_ ?_ ?_<;>with_reducible repeat intro h)
 ·rw [gK yG,if_pos (by first|exact h|(rw [hsz];exact h))] at hR;rw [hR]
 ·rw [gK yG,if_neg Ir] at hR;exact ⟨_,[_,_],[],Ir,⟨k+1,_,rfl,rfl,rfl,Ir,Ir,Ir,hR⟩,rfl,trivial⟩
 ·rw [lr h] at hR;rw [hR]
instance WW(x:eK):Ctr lim prog 108 [] [.agg [.sl false 3 (x.ib.map (ak false)),.aa x.fBy,.aa x.fAt]] (.agg [.sl true 3 (x.ib.map (ak true)),.aa x.fBy,.aa x.fAt]) [] True:=by
 refine Ctr.bd func108 ntmps108 fun hp=>?_
 all_goals exact uU
instance UC(l:List eK):Ctr lim prog 68 [] [.sl false 3 (l.map (cl false))] (.sl true 3 (l.map (cl true))) [] True:=by
 refine Ctr.bd func68 ntmps68 fun hp=>?_;refine AW.f0 0 fun hf=>?_
 (refine vU1 ?_;intro h)
 refine AW.aw [4] [0,3] (fun m xs o=>∃ k:Nat,xs=[.aa k]/\o=[(h,some (mkC (cl true) [.slice none 0 0,.int .i64 0,.int .i64 0] l k))]/\m=l.length - k/\k<=l.length) l.length [(h,some (mkC (cl true) [.slice none 0 0,.int .i64 0,.int .i64 0] l 0))] (cj (kz _ _ _)) ⟨0,?_,rfl,rfl,?_⟩ ?_
 ·rfl
 ·omega
 rintro m xs o ⟨k,rfl,rfl,rfl,hk⟩;have hml:=lZ (cl true) [.slice none 0 0,.int .i64 0,.int .i64 0] 3 (fun _=>rfl) rfl l k hk
 (refine vX2 ?_ ?_<;>intro h)
 ·exact ⟨_,[_],_,Ir,⟨k+1,rfl,rfl,rfl,Ir⟩,rfl,cj (by have:=nI (cl true) [.slice none 0 0,.int .i64 0,.int .i64 0] 3 (fun _=>rfl) rfl l k h;simp only [go_sem,Nat.mul_one] at this ⊢;exact this.symm)⟩
 ·refine AW.made 2 rfl h hk (fun _=>rfl) ?_
  all_goals exact uU
instance Xy(L:eaa)[hL:Lok L](x:gJ):Ctr L prog 78 [] [.agg [.ac x.fOn,.aa x.ik,.aa x.fBy,.str x.ag,.sl false 3 (x.fT.map (ak false))],.agg [.ac x.fOn,.aa x.ik,.aa x.fBy,.str x.ag,.sl false 3 (x.fT.map (ak false))]] (.ac true) [] True:=by
 refine Ctr.bd func78 ntmps78 fun hp=>?_
 all_goals exact uU
instance Xb(L:eaa)[hL:Lok L](x:gJ)(r:Int):Ctr L prog 63 [] [.agg [.ac x.fOn,.aa x.ik,.aa x.fBy,.str x.ag,.sl false 3 (x.fT.map (ak false))],.aa r] (.aa (lq x r)) [] (0<=r/\r<=1048576):=by
 refine Ctr.bd func63 ntmps63 fun hp=>?_;refine AW.f0 0 fun hf=>?_;have le1:=bu bz cw x.fT (r - x.ag.length);unfold lq
 ((refine vU3 ?_ ?_ ?_<;>with_reducible repeat intro h);all_goals simp only [thn,aI,id];all_goals refine congrArg (fun z=>AV.aa z) ?_;all_goals (repeat' split);all_goals omega)
instance WZ(x:gJ):Ctr lim prog 69 [] [.agg [.ac x.fOn,.aa x.ik,.aa x.fBy,.str x.ag,.sl false 3 (x.fT.map (ak false))]] (.agg [.ac x.fOn,.aa x.ik,.aa x.fBy,.str x.ag,.sl true 3 (x.fT.map (ak true))]) [] True:=by
 refine Ctr.bd func69 ntmps69 fun hp=>?_
 all_goals exact uU
instance ZK(L:eaa)[hL:Lok L](x:gR):Ctr L prog 39 [] [.agg (cSo x),.agg (cSo x)] (.ac true) [] True:=by
 refine Ctr.bd func39 ntmps39 fun hp=>?_
 all_goals exact uU
instance YY(L:eaa)[hL:Lok L](x:gR)(r:Int):Ctr L prog 31 [] [.agg (cSo x),.aa r] (.aa (jR x r)) [] (0<=r/\r<=1048576):=by
 refine Ctr.bd func31 ntmps31 fun hp=>?_;refine AW.f0 0 fun hf=>?_;have le0:=bu bY gz x.bW r
 have le1:=bu bz cw x.cY (aQ bY x.bW r)
 have le2:=bu bz cw x.fg (aQ bz x.cY (aQ bY x.bW r))
 have le3:=bu dO iR x.dm (aQ bz x.fg (aQ bz x.cY (aQ bY x.bW r)))
 have le4:=qx x.cO (aQ dO x.dm (aQ bz x.fg (aQ bz x.cY (aQ bY x.bW r))));unfold jR
 ((refine vU6 ?_ ?_ ?_ ?_ ?_ ?_<;>with_reducible repeat intro h);all_goals simp only [thn,aI,id];all_goals refine congrArg (fun z=>AV.aa z) ?_;all_goals (repeat' split);all_goals omega)
instance YS(x:gR):Ctr lim prog 35 [] [.agg (cSo x)] (.agg [.sl true 19 (x.bW.map (aq true)),.sl true 3 (x.cY.map (ak true)),.sl true 3 (x.fg.map (ak true)),.aa x.lK,.sl true 3 (x.dm.map (cl true)),.ac x.cO.fOn,.aa x.cO.ik,.aa x.cO.fBy,.str x.cO.ag,.sl true 3 (x.cO.fT.map (ak true))]) [] True:=by
 refine Ctr.bd func35 ntmps35 fun hp=>?_
 all_goals exact uU
instance Yz(L:eaa)[hL:Lok L](x:bJ):Ctr L prog 11 [] [.agg (cDe x),.agg (cDe x)] (.ac true) [] True:=by
 refine Ctr.bd func11 ntmps11 fun hp=>?_
 all_goals exact uU
instance Xz(L:eaa)[hL:Lok L](l:List bJ):Ctr L prog 21 [] [.sl false 15 (l.map (cq false)),.sl false 15 (l.map (cq false))] (.ac true) [] True:=by
 refine Ctr.bd func21 ntmps21 fun hp=>?_;refine AW.f0 0 fun hf=>?_;have hf:=Nat.le_trans hf (hL.le 15)
 (refine vU1 ?_;intro h)
 refine AW.aw [5] [0,1] (fun m xs o=>∃ k:Nat,xs=[.aa k]/\o=[]/\m=l.length - k/\k<=l.length) l.length [] trivial ⟨0,?_,rfl,rfl,?_⟩ ?_
 ·rfl
 ·omega
 rintro m xs o ⟨k,rfl,rfl,rfl,hk⟩
 (refine vU1 ?_;intro h h)
 exact ⟨_,[_],[],Ir,⟨k+1,rfl,rfl,rfl,Ir⟩,rfl,trivial⟩
instance XJ(L:eaa)[hL:Lok L](x:bJ)(r:Int):Ctr L prog 7 [] [.agg (cDe x),.aa r] (.aa (cD x r)) [] (0<=r/\r<=1048576):=by
 refine Ctr.bd func7 ntmps7 fun hp=>?_;refine AW.f0 0 fun hf=>?_;have le1:=pY x.bH (r - x.ag.length)
 have le2:=bu bz cw x.mH (jR x.bH (r - x.ag.length));unfold cD
 ((refine vU4 ?_ ?_ ?_ ?_<;>with_reducible repeat intro h);all_goals simp only [thn,aI,id];all_goals refine congrArg (fun z=>AV.aa z) ?_;all_goals (repeat' split);all_goals omega)
instance Xc(L:eaa)[hL:Lok L](l:List bJ)(r:Int):Ctr L prog 17 [] [.sl false 15 (l.map (cq false)),.aa r] (.aa (aQ cD l r)) [] (0<=r/\r<=1048576):=by
 refine Ctr.bd func17 ntmps17 fun hp=>?_;refine AW.f0 0 fun hf=>?_;have hf:=Nat.le_trans hf (hL.le 15)
 (refine vU2 ?_ ?_<;>intro h)
 ·rw [iy h]
 rw [iw h];refine AW.aw [1,5] [0] (fun m xs o=>∃ (k:Nat) (q:Int),xs=[.aa q,.aa k]/\o=[]/\m=l.length - k/\k<=l.length/\0<=q/\q<=1048576/\fu cD (l.drop k) q=fu cD l (r - l.length)) l.length [] trivial ⟨0,_,?_,rfl,rfl,?_,?_,?_,rfl⟩ ?_
 ·rfl
 ·omega
 ·omega
 ·omega
 rintro m xs o ⟨k,q,rfl,rfl,rfl,hk,h0,h1,hR⟩;have hle:=gA (at_ l k) q h0
 (refine vU3 ?_ ?_ ?_<;>with_reducible repeat intro h)
 ·rw [gK yG,if_pos (by first|exact h|(rw [hsz];exact h))] at hR;rw [hR]
 ·rw [gK yG,if_neg Ir] at hR;exact ⟨_,[_,_],[],Ir,⟨k+1,_,rfl,rfl,rfl,Ir,Ir,Ir,hR⟩,rfl,trivial⟩
 ·rw [lr h] at hR;rw [hR]
instance XF(x:bJ):Ctr lim prog 9 [] [.agg (cDe x)] (.agg [.str x.ag,.sl true 19 (x.bH.bW.map (aq true)),.sl true 3 (x.bH.cY.map (ak true)),.sl true 3 (x.bH.fg.map (ak true)),.aa x.bH.lK,.sl true 3 (x.bH.dm.map (cl true)),.ac x.bH.cO.fOn,.aa x.bH.cO.ik,.aa x.bH.cO.fBy,.str x.bH.cO.ag,.sl true 3 (x.bH.cO.fT.map (ak true)),.sl true 3 (x.mH.map (ak true)),.ac x.fUp,.aa x.xY,.ac x.EE]) [] True:=by
 refine Ctr.bd func9 ntmps9 fun hp=>?_
 all_goals exact uU
instance W7(l:List bJ):Ctr lim prog 19 [] [.sl false 15 (l.map (cq false))] (.sl true 15 (l.map (cq true))) [] True:=by
 refine Ctr.bd func19 ntmps19 fun hp=>?_;refine AW.f0 0 fun hf=>?_
 (refine vU1 ?_;intro h)
 refine AW.aw [4] [0,3] (fun m xs o=>∃ k:Nat,xs=[.aa k]/\o=[(h,some (mkC (cq true) [.string ⟨#[]⟩,.slice none 0 0,.slice none 0 0,.slice none 0 0,.int .i64 0,.slice none 0 0,.bool false,.int .i64 0,.int .i64 0,.string ⟨#[]⟩,.slice none 0 0,.slice none 0 0,.bool false,.int .i64 0,.bool false] l k))]/\m=l.length - k/\k<=l.length) l.length [(h,some (mkC (cq true) [.string ⟨#[]⟩,.slice none 0 0,.slice none 0 0,.slice none 0 0,.int .i64 0,.slice none 0 0,.bool false,.int .i64 0,.int .i64 0,.string ⟨#[]⟩,.slice none 0 0,.slice none 0 0,.bool false,.int .i64 0,.bool false] l 0))] (cj (kz _ _ _)) ⟨0,?_,rfl,rfl,?_⟩ ?_
 ·rfl
 ·omega
 rintro m xs o ⟨k,rfl,rfl,rfl,hk⟩;have hml:=lZ (cq true) [.string ⟨#[]⟩,.slice none 0 0,.slice none 0 0,.slice none 0 0,.int .i64 0,.slice none 0 0,.bool false,.int .i64 0,.int .i64 0,.string ⟨#[]⟩,.slice none 0 0,.slice none 0 0,.bool false,.int .i64 0,.bool false] 15 (fun _=>rfl) rfl l k hk
 (refine vX2 ?_ ?_<;>intro h)
 ·exact ⟨_,[_],_,Ir,⟨k+1,rfl,rfl,rfl,Ir⟩,rfl,cj (by have:=nI (cq true) [.string ⟨#[]⟩,.slice none 0 0,.slice none 0 0,.slice none 0 0,.int .i64 0,.slice none 0 0,.bool false,.int .i64 0,.int .i64 0,.string ⟨#[]⟩,.slice none 0 0,.slice none 0 0,.bool false,.int .i64 0,.bool false] 15 (fun _=>rfl) rfl l k h;simp only [go_sem,Nat.mul_one] at this ⊢;exact this.symm)⟩
 ·refine AW.made 2 rfl h hk (fun _=>rfl) ?_
  all_goals exact uU
end Go.Proofs
namespace Go.Dt
open Go.Ab
def dV{α:Type}{f:α->AV}:∀ (l:List α),(∀ x∈l,(f x).closed=true)->AV.cy (l.map f)=true
 | [],_=>rfl
 | x::xs,h=>by simp only [List.map_cons,AV.cy,h x QC,dV xs fun y hy=>h y (by simp [hy]),Bool.true_and]
def lu(l:List Str):AV.cy (l.map AV.str)=true:=dV l fun _ _=>rfl
def Ik(o:Bool)(l:List da):(l.map (bh o)).all (AV.elem 2)=true:=bL (fun _=>rfl) l
def Ij(o:Bool)(l:List da):((l.map (bh o)).flatMap AV.cells).all AV.one=true:=cf (fun _=>rfl) l
def NT(x:da):(bh true x).closed=true:=by simp only [bh,AV.closed,AV.cy,lu,Bool.true_and,Bool.and_true]
def ic(l:List da):AV.cy (l.map (bh true))=true:=dV l fun x _=>NT x
def Lw(o:Bool)(l:List cu):(l.map (ct o)).all (AV.elem 2)=true:=bL (fun _=>rfl) l
def Lv(o:Bool)(l:List cu):((l.map (ct o)).flatMap AV.cells).all AV.one=true:=cf (fun _=>rfl) l
def Qj(x:cu):(ct true x).closed=true:=by simp only [ct,AV.closed,AV.cy,lu,ic,Bool.true_and,Bool.and_true]
def jv(l:List cu):AV.cy (l.map (ct true))=true:=dV l fun x _=>Qj x
def NW(o:Bool)(l:List mZ):(l.map (qX o)).all (AV.elem 2)=true:=bL (fun _=>rfl) l
def NV(o:Bool)(l:List mZ):((l.map (qX o)).flatMap AV.cells).all AV.one=true:=cf (fun _=>rfl) l
def TM(x:mZ):(qX true x).closed=true:=by simp only [qX,AV.closed,AV.cy,lu,ic,jv,Bool.true_and,Bool.and_true]
def lO(l:List mZ):AV.cy (l.map (qX true))=true:=dV l fun x _=>TM x
def Ly(o:Bool)(l:List GStep):(l.map (aA o)).all (AV.elem 2)=true:=bL (fun _=>rfl) l
def Lx(o:Bool)(l:List GStep):((l.map (aA o)).flatMap AV.cells).all AV.one=true:=cf (fun _=>rfl) l
def Qk(x:GStep):(aA true x).closed=true:=by simp only [aA,AV.closed,AV.cy,lu,ic,jv,lO,Bool.true_and,Bool.and_true]
def lN(l:List GStep):AV.cy (l.map (aA true))=true:=dV l fun x _=>Qk x
def Im(o:Bool)(l:List jd):(l.map (iE o)).all (AV.elem 6)=true:=bL (fun _=>rfl) l
def Il(o:Bool)(l:List jd):((l.map (iE o)).flatMap AV.cells).all AV.one=true:=cf (fun _=>rfl) l
def NU(x:jd):(iE true x).closed=true:=by simp only [iE,AV.closed,AV.cy,lu,ic,jv,lO,lN,Bool.true_and,Bool.and_true]
def mc(l:List jd):AV.cy (l.map (iE true))=true:=dV l fun x _=>NU x
def LA(o:Bool)(l:List ah):(l.map (ak o)).all (AV.elem 3)=true:=bL (fun x=>by rw [dD];rfl) l
def Lz(o:Bool)(l:List ah):((l.map (ak o)).flatMap AV.cells).all AV.one=true:=cf (fun x=>by rw [dD];rfl) l
def Hf(x:ah):(ak true x).closed=true:=by rw [dD];simp only [AV.closed,AV.cy,lu,ic,jv,lO,lN,mc,dV x.af (fun y hy=>Hf y),Bool.true_and,Bool.and_true]
termination_by SizeOf.sizeOf x
decreasing_by have:=List.sizeOf_lt_of_mem hy;cases x;simp [ah.af] at *;omega
def o3(l:List ah):AV.cy (l.map (ak true))=true:=dV l fun x _=>Hf x
def LC(o:Bool)(l:List aB):(l.map (aO o)).all (AV.elem 7)=true:=bL (fun x=>by rw [dE];rfl) l
def LB(o:Bool)(l:List aB):((l.map (aO o)).flatMap AV.cells).all AV.one=true:=cf (fun x=>by rw [dE];rfl) l
def Hg(x:aB):(aO true x).closed=true:=by rw [dE];simp only [AV.closed,AV.cy,lu,ic,jv,lO,lN,mc,o3,dV x.af (fun y hy=>Hg y),Bool.true_and,Bool.and_true]
termination_by SizeOf.sizeOf x
decreasing_by have:=List.sizeOf_lt_of_mem hy;cases x;simp [aB.af] at *;omega
def rS(l:List aB):AV.cy (l.map (aO true))=true:=dV l fun x _=>Hg x
def He(o:Bool)(l:List ae):(l.map (aq o)).all (AV.elem 19)=true:=bL (fun x=>by rw [dI];rfl) l
def Hc(o:Bool)(l:List ae):((l.map (aq o)).flatMap AV.cells).all AV.one=true:=cf (fun x=>by rw [dI];rfl) l
def Bw(x:ae):(aq true x).closed=true:=by rw [dI];simp only [AV.closed,AV.cy,lu,ic,jv,lO,lN,mc,o3,rS,dV x.af (fun y hy=>Bw y),Bool.true_and,Bool.and_true]
termination_by SizeOf.sizeOf x
decreasing_by have:=List.sizeOf_lt_of_mem hy;cases x;simp [ae.af] at *;omega
def sR(l:List ae):AV.cy (l.map (aq true))=true:=dV l fun x _=>Bw x
def CT(o:Bool)(l:List eS):(l.map (jK o)).all (AV.elem 3)=true:=bL (fun _=>rfl) l
def CS(o:Bool)(l:List eS):((l.map (jK o)).flatMap AV.cells).all AV.one=true:=cf (fun _=>rfl) l
def Ha(x:eS):(jK true x).closed=true:=by simp only [jK,AV.closed,AV.cy,lu,ic,jv,lO,lN,mc,o3,rS,sR,Bool.true_and,Bool.and_true]
def vI(l:List eS):AV.cy (l.map (jK true))=true:=dV l fun x _=>Ha x
def Ei(o:Bool)(l:List iH):(l.map (kE o)).all (AV.elem 4)=true:=bL (fun _=>rfl) l
def Eh(o:Bool)(l:List iH):((l.map (kE o)).flatMap AV.cells).all AV.one=true:=cf (fun _=>rfl) l
def Ii(x:iH):(kE true x).closed=true:=by simp only [kE,AV.closed,AV.cy,lu,ic,jv,lO,lN,mc,o3,rS,sR,vI,Bool.true_and,Bool.and_true]
def Hb(l:List iH):AV.cy (l.map (kE true))=true:=dV l fun x _=>Ii x
def OJ(l:List Str):(l.map AV.str).all AV.one=true:=by have:=IK l;rwa [NM] at this
attribute [go_sem] Ik Ij ic Lw Lv jv NW NV lO Ly Lx lN Im Il mc LA Lz o3 LC LB rS He Hc sR CT CS vI Ei Eh Hb OJ lu
end Go.Dt
namespace Go.Proofs
open Go.Ab Go.Dt
instance Xh(x:cT):Ctr lim prog 168 [] [.agg (cTy x)] (.agg [.aa x.aj,.sl true 2 (x.aP.map (bh true)),.sl true 1 (x.aF.map AV.str),.str x.ba,.str x.az]) [] True:=by
 refine Ctr.bd func168 ntmps168 fun hp=>?_;refine AW.f1 0 fun hf=>?_
 (refine bU1 ?_;intro h h h)
 rfl
end Go.Proofs
namespace Go.Ab
section
variable {L : Nat -> Nat} {n : Nat} {t : List (Nat × AV)} {o : Sto} {Q : AS -> Prop}
def Imp.ED{b0 k b sz:Nat}{cells0 l:List AV}(x:AV)(hO0:O o b0=some cells0)(hk:cells0[k]? = some (.arr b 0 (l.length+1) sz))(hO:O o b=some (l.flatMap AV.cells++x.cells))(hne:b≠b0)(hel:∀ y,y∈l->y.elem sz=true)(hx:x.elem sz=true)
  (h:Q ⟨n,t,(b,none)::(b0,some (cells0.set k (.sl true sz (l++[x]))))::o⟩):Imp L ⟨n,t,o⟩ Q:=by
 have jH:∀ y,y∈l++[x]->y.elem sz=true:=by
  intro y hy;rcases List.mem_append.1 hy with hy|hy
  ·exact hel y hy
  ·rw [List.mem_singleton.1 hy];exact hx
 refine Imp.Lb (b0:=b0) (k:=k) (b:=b) (len:=l.length+1) (sz:=sz) (l:=l++[x]) hO0 hk hO hne QC ?_ jH h;have h1:=db jH;rw [List.length_append,List.length_singleton,List.flatMap_append,List.flatMap_cons,List.flatMap_nil,List.append_nil] at h1;rw [List.flatMap_append,List.flatMap_cons,List.flatMap_nil,List.append_nil,List.take_of_length_le (Nat.le_of_eq h1)]
end
end Go.Ab
namespace Go.Ab
open Go.Ab
def fI{α:Type}{e:α->AV}{sz:Nat}(h:∀ x,(e x).elem sz=true)(l:List α):∀ x,x∈l.map e->x.elem sz=true:=by intro x hx;obtain ⟨y,_,rfl⟩:=List.mem_map.1 hx;exact h y
end Go.Ab
namespace Go.Proofs
open Go.Ab Go.Dt
end Go.Proofs
