/- Part of a proof. -/
import Derived.Test.YtbiikafnjialjaaGreatDoorQ20
set_option linter.all false
set_option maxRecDepth 20000
set_option maxHeartbeats 4000000
open Go.Proofs.Tryz
open List
namespace Go.Proofs
open Go.Ab Go.Dt
instance(L:gaa)[hL:Lok L](x:fS):Ctr L prog 363 [] [.agg [.str x.ae,.str x.aq],.agg [.str x.ae,.str x.aq]] (.ac true) [] True:=by
 refine Ctr.bd func363 ntmps363 λhp=>?_
 all_goals exact uU
instance(L:gaa)[hL:Lok L](l:List fS):Ctr L prog 343 [] [.ab 2 cY l,.ab 2 cY l] (.ac true) [] True:=by
 refine Ctr.bd func343 ntmps343 λhp=>?_;refine AW.f0 0 λhf=>?_;have hf:=Nat.le_trans hf (hL.le 2)
 (refine vU1 ?_;intro h)
 refine AW.aw [5] [0,1] (λm xs o=>∃k:Nat,xs=[.aa k]/\o=[]/\m=l.length - k/\k<=l.length) l.length [] trivial ⟨0,?_,rfl,rfl,?_⟩ ?_
 ·rfl
 ·omega
 rintro m xs o ⟨k,rfl,rfl,rfl,hk⟩
 (refine vU1 ?_;intro h h)
 exact⟨_,[_],[],Yt,⟨k+1,rfl,rfl,rfl,Yt⟩,rfl,trivial⟩
instance(L:gaa)[hL:Lok L](x:fS)(r:Int):Ctr L prog 345 [] [.agg [.str x.ae,.str x.aq],.aa r] (.aa (jY x r)) [] (0<=r/\r<=1048576):=by
 refine Ctr.bd func345 ntmps345 λhp=>?_;refine AW.f0 0 λhf=>?_;unfold jY
 ((refine vU3 ?_ ?_ ?_<;>with_reducible repeat intro h);all_goals simp only[thn,aA,id];all_goals refine congrArg (λz=>AV.aa z) ?_;all_goals (repeat' split);all_goals omega)
instance(L:gaa)[hL:Lok L](l:List fS)(r:Int):Ctr L prog 328 [] [.ab 2 cY l,.aa r] (.aa (aM jY l r)) [] (0<=r/\r<=1048576):=by
 refine Ctr.bd func328 ntmps328 λhp=>?_;refine AW.f0 0 λhf=>?_;have hf:=Nat.le_trans hf (hL.le 2)
 (refine vU2 ?_ ?_<;>intro h)
 ·rw[fM h]
 rw[fY h];refine AW.aw [1,5] [0] (λm xs o=>∃(k:Nat) (q:Int),xs=[.aa q,.aa k]/\o=[]/\m=l.length - k/\k<=l.length/\0<=q/\q<=1048576/\eH jY (l.drop k) q=eH jY l (r - l.length)) l.length [] trivial ⟨0,_,?_,rfl,rfl,?_,?_,?_,rfl⟩ ?_
 ·rfl
 ·omega
 ·omega
 ·omega
 rintro m xs o ⟨k,q,rfl,rfl,rfl,hk,h0,h1,hR⟩;have hle:=oK (at_ l k) q h0
 (refine vU3 ?_ ?_ ?_<;>with_reducible repeat intro h)
 ·rw[fw baa,if_pos (by first|exact h|(rw[hsz];exact h))]at hR;rw[hR]
 ·rw[fw baa,if_neg Yt]at hR;exact⟨_,[_,_],[],Yt,⟨k+1,_,rfl,rfl,rfl,Yt,Yt,Yt,hR⟩,rfl,trivial⟩
 ·rw[jm h]at hR;rw[hR]
instance(x:fS):Ctr lim prog 352 [] [.agg [.str x.ae,.str x.aq]] (.agg [.str x.ae,.str x.aq]) [] True:=by
 refine Ctr.bd func352 ntmps352 λhp=>?_
 all_goals exact uU
instance(l:List fS):Ctr lim prog 333 [] [.ab 2 cY l] (.ad 2 cY l) [] True:=by
 refine Ctr.bd func333 ntmps333 λhp=>?_;refine AW.f0 0 λhf=>?_
 (refine vU1 ?_;intro h)
 refine AW.aw [4] [0,3] (λm xs o=>∃k:Nat,xs=[.aa k]/\o=[(h,some (mkC (cY true) [.string ⟨#[]⟩,.string ⟨#[]⟩] l k))]/\m=l.length - k/\k<=l.length) l.length [(h,some (mkC (cY true) [.string ⟨#[]⟩,.string ⟨#[]⟩] l 0))] (aF (iS _ _ _)) ⟨0,?_,rfl,rfl,?_⟩ ?_
 ·rfl
 ·omega
 rintro m xs o ⟨k,rfl,rfl,rfl,hk⟩;have hml:=jN (cY true) [.string ⟨#[]⟩,.string ⟨#[]⟩] 2 (λ_=>rfl) rfl l k hk
 (refine vX2 ?_ ?_<;>intro h)
 ·exact⟨_,[_],_,Yt,⟨k+1,rfl,rfl,rfl,Yt⟩,rfl,aF (by have:=lB (cY true) [.string ⟨#[]⟩,.string ⟨#[]⟩] 2 (λ_=>rfl) rfl l k h;simp only[go_sem,Nat.mul_one]at this ⊢;exact this.symm)⟩
 ·refine AW.made 2 rfl h hk (λ_=>rfl) ?_
  all_goals exact uU
instance(L:gaa)[hL:Lok L](x:Dt.GStep):Ctr L prog 322 [] [.agg [.str x.ae,.ab 2 cY x.cU],.agg [.str x.ae,.ab 2 cY x.cU]] (.ac true) [] True:=by
 refine Ctr.bd func322 ntmps322 λhp=>?_
 all_goals exact uU
instance(L:gaa)[hL:Lok L](l:List Dt.GStep):Ctr L prog 297 [] [.ab 2 bp l,.ab 2 bp l] (.ac true) [] True:=by
 refine Ctr.bd func297 ntmps297 λhp=>?_;refine AW.f0 0 λhf=>?_;have hf:=Nat.le_trans hf (hL.le 2)
 (refine vU1 ?_;intro h)
 refine AW.aw [5] [0,1] (λm xs o=>∃k:Nat,xs=[.aa k]/\o=[]/\m=l.length - k/\k<=l.length) l.length [] trivial ⟨0,?_,rfl,rfl,?_⟩ ?_
 ·rfl
 ·omega
 rintro m xs o ⟨k,rfl,rfl,rfl,hk⟩
 (refine vU1 ?_;intro h h)
 exact⟨_,[_],[],Yt,⟨k+1,rfl,rfl,rfl,Yt⟩,rfl,trivial⟩
instance(L:gaa)[hL:Lok L](x:Dt.GStep)(r:Int):Ctr L prog 307 [] [.agg [.str x.ae,.ab 2 cY x.cU],.aa r] (.aa (j0 x r)) [] (0<=r/\r<=1048576):=by
 refine Ctr.bd func307 ntmps307 λhp=>?_;refine AW.f0 0 λhf=>?_;have le1:=ba jY oK x.cU (r - x.ae.length);unfold j0
 ((refine vU3 ?_ ?_ ?_<;>with_reducible repeat intro h);all_goals simp only[thn,aA,id];all_goals refine congrArg (λz=>AV.aa z) ?_;all_goals (repeat' split);all_goals omega)
instance(L:gaa)[hL:Lok L](l:List Dt.GStep)(r:Int):Ctr L prog 271 [] [.ab 2 bp l,.aa r] (.aa (aM j0 l r)) [] (0<=r/\r<=1048576):=by
 refine Ctr.bd func271 ntmps271 λhp=>?_;refine AW.f0 0 λhf=>?_;have hf:=Nat.le_trans hf (hL.le 2)
 (refine vU2 ?_ ?_<;>intro h)
 ·rw[fM h]
 rw[fY h];refine AW.aw [1,5] [0] (λm xs o=>∃(k:Nat) (q:Int),xs=[.aa q,.aa k]/\o=[]/\m=l.length - k/\k<=l.length/\0<=q/\q<=1048576/\eH j0 (l.drop k) q=eH j0 l (r - l.length)) l.length [] trivial ⟨0,_,?_,rfl,rfl,?_,?_,?_,rfl⟩ ?_
 ·rfl
 ·omega
 ·omega
 ·omega
 rintro m xs o ⟨k,q,rfl,rfl,rfl,hk,h0,h1,hR⟩;have hle:=oM (at_ l k) q h0
 (refine vU3 ?_ ?_ ?_<;>with_reducible repeat intro h)
 ·rw[fw baa,if_pos (by first|exact h|(rw[hsz];exact h))]at hR;rw[hR]
 ·rw[fw baa,if_neg Yt]at hR;exact⟨_,[_,_],[],Yt,⟨k+1,_,rfl,rfl,rfl,Yt,Yt,Yt,hR⟩,rfl,trivial⟩
 ·rw[jm h]at hR;rw[hR]
instance(x:Dt.GStep):Ctr lim prog 313 [] [.agg [.str x.ae,.ab 2 cY x.cU]] (.agg [.str x.ae,.ad 2 cY x.cU]) [] True:=by
 refine Ctr.bd func313 ntmps313 λhp=>?_
 all_goals exact uU
instance(l:List Dt.GStep):Ctr lim prog 281 [] [.ab 2 bp l] (.ad 2 bp l) [] True:=by
 refine Ctr.bd func281 ntmps281 λhp=>?_;refine AW.f0 0 λhf=>?_
 (refine vU1 ?_;intro h)
 refine AW.aw [4] [0,3] (λm xs o=>∃k:Nat,xs=[.aa k]/\o=[(h,some (mkC (bp true) [.string ⟨#[]⟩,.slice none 0 0] l k))]/\m=l.length - k/\k<=l.length) l.length [(h,some (mkC (bp true) [.string ⟨#[]⟩,.slice none 0 0] l 0))] (aF (iS _ _ _)) ⟨0,?_,rfl,rfl,?_⟩ ?_
 ·rfl
 ·omega
 rintro m xs o ⟨k,rfl,rfl,rfl,hk⟩;have hml:=jN (bp true) [.string ⟨#[]⟩,.slice none 0 0] 2 (λ_=>rfl) rfl l k hk
 (refine vX2 ?_ ?_<;>intro h)
 ·exact⟨_,[_],_,Yt,⟨k+1,rfl,rfl,rfl,Yt⟩,rfl,aF (by have:=lB (bp true) [.string ⟨#[]⟩,.slice none 0 0] 2 (λ_=>rfl) rfl l k h;simp only[go_sem,Nat.mul_one]at this ⊢;exact this.symm)⟩
 ·refine AW.made 2 rfl h hk (λ_=>rfl) ?_
  all_goals exact uU
instance(L:gaa)[hL:Lok L](x:gm):Ctr L prog 261 [] [.agg [.ac x.dJ,.aa x.dY,.ab 2 bp x.aX],.agg [.ac x.dJ,.aa x.dY,.ab 2 bp x.aX]] (.ac true) [] True:=by
 refine Ctr.bd func261 ntmps261 λhp=>?_
 all_goals exact uU
instance(L:gaa)[hL:Lok L](x:gm)(r:Int):Ctr L prog 222 [] [.agg [.ac x.dJ,.aa x.dY,.ab 2 bp x.aX],.aa r] (.aa (ll x r)) [] (0<=r/\r<=1048576):=by
 refine Ctr.bd func222 ntmps222 λhp=>?_;refine AW.f0 0 λhf=>?_;have le0:=ba j0 oM x.aX r;unfold ll
 ((refine vU2 ?_ ?_<;>intro h);all_goals simp only[thn,aA,id];all_goals refine congrArg (λz=>AV.aa z) ?_;all_goals (repeat' split);all_goals omega)
instance(x:gm):Ctr lim prog 239 [] [.agg [.ac x.dJ,.aa x.dY,.ab 2 bp x.aX]] (.agg [.ac x.dJ,.aa x.dY,.ad 2 bp x.aX]) [] True:=by
 refine Ctr.bd func239 ntmps239 λhp=>?_
 all_goals exact uU
def bf.dH{x:bf}{l:List bf}(h:x∈l):SizeOf.sizeOf x.af<SizeOf.sizeOf l:=by have:=sizeOf_lt_of_mem h;cases x;simp[bf.af]at *;omega
theorem Q6(L:gaa)[hL:Lok L](n:Nat)(ih:∀l:List bf,Ctr L prog 135 [] [.ab 7 aS l,.ab 7 aS l] (.ac true) [] (SizeOf.sizeOf l<n))(x:bf):Ctr L prog 204 [] [.agg [.aa x.fOp,.aa x.gZ,.str x.cX,.ac x.aG.dJ,.aa x.aG.dY,.ab 2 bp x.aG.aX,.ab 7 aS x.af],.agg [.aa x.fOp,.aa x.gZ,.str x.cX,.ac x.aG.dJ,.aa x.aG.dY,.ab 2 bp x.aG.aX,.ab 7 aS x.af]] (.ac true) [] (SizeOf.sizeOf x.af<n):=by
 refine Ctr.bd func204 ntmps204 λhp=>?_
 all_goals exact uU
theorem EU(L:gaa)[hL:Lok L]:∀(n:Nat) (l:List bf),Ctr L prog 135 [] [.ab 7 aS l,.ab 7 aS l] (.ac true) [] (SizeOf.sizeOf l<n)
 | 0,l=>⟨(aU 135),λh=>absurd h (Nat.not_lt_zero _)⟩
 | n+1,l=>by
  have hx:=Q6 L n (EU L n);refine Ctr.bd func135 ntmps135 λhp=>?_;refine AW.f0 0 λhf=>?_;have hf:=Nat.le_trans hf (hL.le 7)
  (refine vU1 ?_;intro h)
  refine AW.aw [5] [0,1] (λm xs o=>∃k:Nat,xs=[.aa k]/\o=[]/\m=l.length - k/\k<=l.length) l.length [] trivial ⟨0,?_,rfl,rfl,?_⟩ ?_
  ·rfl
  ·omega
  rintro m xs o ⟨k,rfl,rfl,rfl,hk⟩;have hkk:k<l.length->SizeOf.sizeOf (at_ l k).af<n:=λh=>by have:=bf.dH (at_mem h);omega
  (refine vU1 ?_;intro h h)
  exact⟨_,[_],[],Yt,⟨k+1,rfl,rfl,rfl,Yt⟩,rfl,trivial⟩
instance(L:gaa)[hL:Lok L](l:List bf):Ctr L prog 135 [] [.ab 7 aS l,.ab 7 aS l] (.ac true) [] True:=⟨(aU 135),λ_=>(EU L (SizeOf.sizeOf l+1) l).out (Nat.lt_succ_self _)⟩
theorem Px(L:gaa)[hL:Lok L](n:Nat)(ih:∀(l:List bf) (r:Int),Ctr L prog 106 [] [.ab 7 aS l,.aa r] (.aa (aM dh l r)) [] (SizeOf.sizeOf l<n/\0<=r/\r<=1048576))(x:bf)(r:Int):Ctr L prog 163 [] [.agg [.aa x.fOp,.aa x.gZ,.str x.cX,.ac x.aG.dJ,.aa x.aG.dY,.ab 2 bp x.aG.aX,.ab 7 aS x.af],.aa r] (.aa (dh x r)) [] (SizeOf.sizeOf x.af<n/\0<=r/\r<=1048576):=by
 refine Ctr.bd func163 ntmps163 λhp=>?_;refine AW.f0 0 λhf=>?_;have le1:=sZ x.aG (r - x.cX.length)
 have le2:=ba dh gq x.af (ll x.aG (r - x.cX.length));rw[xk]
 ((refine vU4 ?_ ?_ ?_ ?_<;>with_reducible repeat intro h);all_goals simp only[thn,aA,id];all_goals refine congrArg (λz=>AV.aa z) ?_;all_goals (repeat' split);all_goals omega)
theorem Ej(L:gaa)[hL:Lok L]:∀(n:Nat) (l:List bf) (r:Int),Ctr L prog 106 [] [.ab 7 aS l,.aa r] (.aa (aM dh l r)) [] (SizeOf.sizeOf l<n/\0<=r/\r<=1048576)
 | 0,l,r=>⟨(aU 106),λh=>absurd h.1 (Nat.not_lt_zero _)⟩
 | n+1,l,r=>by
  have hx:=Px L n (Ej L n);refine Ctr.bd func106 ntmps106 λhp=>?_;refine AW.f0 0 λhf=>?_;have hf:=Nat.le_trans hf (hL.le 7)
  (refine vU2 ?_ ?_<;>intro h)
  ·rw[fM h]
  rw[fY h];refine AW.aw [1,5] [0] (λm xs o=>∃(k:Nat) (q:Int),xs=[.aa q,.aa k]/\o=[]/\m=l.length - k/\k<=l.length/\0<=q/\q<=1048576/\eH dh (l.drop k) q=eH dh l (r - l.length)) l.length [] trivial ⟨0,_,?_,rfl,rfl,?_,?_,?_,rfl⟩ ?_
  ·rfl
  ·omega
  ·omega
  ·omega
  rintro m xs o ⟨k,q,rfl,rfl,rfl,hk,h0,h1,hR⟩;have hle:=gq (at_ l k) q h0
  have hkk:k<l.length->SizeOf.sizeOf (at_ l k).af<n:=λh=>by have:=bf.dH (at_mem h);omega
  (refine vU3 ?_ ?_ ?_<;>with_reducible repeat intro h)
  ·rw[fw baa,if_pos (by first|exact h|(rw[hsz];exact h))]at hR;rw[hR]
  ·rw[fw baa,if_neg Yt]at hR;exact⟨_,[_,_],[],Yt,⟨k+1,_,rfl,rfl,rfl,Yt,Yt,Yt,hR⟩,rfl,trivial⟩
  ·rw[jm h]at hR;rw[hR]
instance(L:gaa)[hL:Lok L](l:List bf)(r:Int):Ctr L prog 106 [] [.ab 7 aS l,.aa r] (.aa (aM dh l r)) [] (0<=r/\r<=1048576):=⟨(aU 106),λh=>(Ej L (SizeOf.sizeOf l+1) l r).out ⟨Nat.lt_succ_self _,h⟩⟩
theorem Pt(n:Nat)(ih:∀l:List bf,Ctr lim prog 119 [] [.ab 7 aS l] (.ad 7 aS l) [] (SizeOf.sizeOf l<n))(x:bf):Ctr lim prog 183 [] [.agg [.aa x.fOp,.aa x.gZ,.str x.cX,.ac x.aG.dJ,.aa x.aG.dY,.ab 2 bp x.aG.aX,.ab 7 aS x.af]] (.agg [.aa x.fOp,.aa x.gZ,.str x.cX,.ac x.aG.dJ,.aa x.aG.dY,.ad 2 bp x.aG.aX,.ad 7 aS x.af]) [] (SizeOf.sizeOf x.af<n):=by
 refine Ctr.bd func183 ntmps183 λhp=>?_
 all_goals exact uU
theorem Eh:∀(n:Nat) (l:List bf),Ctr lim prog 119 [] [.ab 7 aS l] (.ad 7 aS l) [] (SizeOf.sizeOf l<n)
 | 0,l=>⟨(aU 119),λh=>absurd h (Nat.not_lt_zero _)⟩
 | n+1,l=>by
  have hx:=Pt n (Eh n);refine Ctr.bd func119 ntmps119 λhp=>?_;refine AW.f0 0 λhf=>?_
  (refine vU1 ?_;intro h)
  refine AW.aw [4] [0,3] (λm xs o=>∃k:Nat,xs=[.aa k]/\o=[(h,some (mkC (aS true) [.int .i64 0,.int .i64 0,.string ⟨#[]⟩,.bool false,.int .i64 0,.slice none 0 0,.slice none 0 0] l k))]/\m=l.length - k/\k<=l.length) l.length [(h,some (mkC (aS true) [.int .i64 0,.int .i64 0,.string ⟨#[]⟩,.bool false,.int .i64 0,.slice none 0 0,.slice none 0 0] l 0))] (aF (iS _ _ _)) ⟨0,?_,rfl,rfl,?_⟩ ?_
  ·rfl
  ·omega
  rintro m xs o ⟨k,rfl,rfl,rfl,hk⟩;have hml:=jN (aS true) [.int .i64 0,.int .i64 0,.string ⟨#[]⟩,.bool false,.int .i64 0,.slice none 0 0,.slice none 0 0] 7 (λx=>by rw[dM];rfl) rfl l k hk
  have hkk:k<l.length->SizeOf.sizeOf (at_ l k).af<n:=λh=>by have:=bf.dH (at_mem h);omega
  (refine vX2 ?_ ?_<;>intro h)
  ·exact⟨_,[_],_,Yt,⟨k+1,rfl,rfl,rfl,Yt⟩,rfl,aF (by have:=lB (aS true) [.int .i64 0,.int .i64 0,.string ⟨#[]⟩,.bool false,.int .i64 0,.slice none 0 0,.slice none 0 0] 7 (λx=>by rw[dM];rfl) rfl l k h;simp only[go_sem,Nat.mul_one]at this ⊢;exact this.symm)⟩
  ·refine AW.made 2 rfl h hk (λx=>by rw[dM];rfl) ?_
   all_goals exact uU
instance(l:List bf):Ctr lim prog 119 [] [.ab 7 aS l] (.ad 7 aS l) [] True:=⟨(aU 119),λ_=>(Eh (SizeOf.sizeOf l+1) l).out (Nat.lt_succ_self _)⟩
def ag.dH{x:ag}{l:List ag}(h:x∈l):SizeOf.sizeOf x.af<SizeOf.sizeOf l:=by have:=sizeOf_lt_of_mem h;cases x;simp[ag.af]at *;omega
theorem Ma(L:gaa)[hL:Lok L](n:Nat)(ih:∀l:List ag,Ctr L prog 18 [] [.ab 19 ak l,.ab 19 ak l] (.ac true) [] (SizeOf.sizeOf l<n))(x:ag):Ctr L prog 71 [] [.agg (cSc x),.agg (cSc x)] (.ac true) [] (SizeOf.sizeOf x.af<n):=by
 refine Ctr.bd func71 ntmps71 λhp=>?_
 all_goals exact uU
theorem zW(L:gaa)[hL:Lok L]:∀(n:Nat) (l:List ag),Ctr L prog 18 [] [.ab 19 ak l,.ab 19 ak l] (.ac true) [] (SizeOf.sizeOf l<n)
 | 0,l=>⟨(aU 18),λh=>absurd h (Nat.not_lt_zero _)⟩
 | n+1,l=>by
  have hx:=Ma L n (zW L n);refine Ctr.bd func18 ntmps18 λhp=>?_;refine AW.f0 0 λhf=>?_;have hf:=Nat.le_trans hf (hL.le 19)
  (refine vU1 ?_;intro h)
  refine AW.aw [5] [0,1] (λm xs o=>∃k:Nat,xs=[.aa k]/\o=[]/\m=l.length - k/\k<=l.length) l.length [] trivial ⟨0,?_,rfl,rfl,?_⟩ ?_
  ·rfl
  ·omega
  rintro m xs o ⟨k,rfl,rfl,rfl,hk⟩;have hkk:k<l.length->SizeOf.sizeOf (at_ l k).af<n:=λh=>by have:=ag.dH (at_mem h);omega
  (refine vU1 ?_;intro h h)
  exact⟨_,[_],[],Yt,⟨k+1,rfl,rfl,rfl,Yt⟩,rfl,trivial⟩
instance(L:gaa)[hL:Lok L](l:List ag):Ctr L prog 18 [] [.ab 19 ak l,.ab 19 ak l] (.ac true) [] True:=⟨(aU 18),λ_=>(zW L (SizeOf.sizeOf l+1) l).out (Nat.lt_succ_self _)⟩
theorem K6(L:gaa)[hL:Lok L](n:Nat)(ih:∀(l:List ag) (r:Int),Ctr L prog 9 [] [.ab 19 ak l,.aa r] (.aa (aM bG l r)) [] (SizeOf.sizeOf l<n/\0<=r/\r<=1048576))(x:ag)(r:Int):Ctr L prog 54 [] [.agg (cSc x),.aa r] (.aa (bG x r)) [] (SizeOf.sizeOf x.af<n/\0<=r/\r<=1048576):=by
 refine Ctr.bd func54 ntmps54 λhp=>?_;refine AW.f0 0 λhf=>?_;have le1:=mR x.fType (r - x.ae.length)
 have le2:=ba aA aT x.ax (eC x.fType (r - x.ae.length))
 have le3:=ba aA aT x.aJ (aM aA x.ax (eC x.fType (r - x.ae.length)))
 have le5:=ba dh gq x.bY ((aM aA x.aJ (aM aA x.ax (eC x.fType (r - x.ae.length)))) - x.bI.length)
 have le6:=ba dh gq x.cS (aM dh x.bY ((aM aA x.aJ (aM aA x.ax (eC x.fType (r - x.ae.length)))) - x.bI.length))
 have le7:=ba bG fe x.af (aM dh x.cS (aM dh x.bY ((aM aA x.aJ (aM aA x.ax (eC x.fType (r - x.ae.length)))) - x.bI.length)));rw[uc]
 ((refine vU ?_;with_reducible repeat' first|exact Le.l|apply Sw|intro h);all_goals simp only[thn,aA,id];all_goals refine congrArg (λz=>AV.aa z) ?_;all_goals (repeat' split);all_goals omega)
theorem zB(L:gaa)[hL:Lok L]:∀(n:Nat) (l:List ag) (r:Int),Ctr L prog 9 [] [.ab 19 ak l,.aa r] (.aa (aM bG l r)) [] (SizeOf.sizeOf l<n/\0<=r/\r<=1048576)
 | 0,l,r=>⟨(aU 9),λh=>absurd h.1 (Nat.not_lt_zero _)⟩
 | n+1,l,r=>by
  have hx:=K6 L n (zB L n);refine Ctr.bd func9 ntmps9 λhp=>?_;refine AW.f0 0 λhf=>?_;have hf:=Nat.le_trans hf (hL.le 19)
  (refine vU2 ?_ ?_<;>intro h)
  ·rw[fM h]
  rw[fY h];refine AW.aw [1,5] [0] (λm xs o=>∃(k:Nat) (q:Int),xs=[.aa q,.aa k]/\o=[]/\m=l.length - k/\k<=l.length/\0<=q/\q<=1048576/\eH bG (l.drop k) q=eH bG l (r - l.length)) l.length [] trivial ⟨0,_,?_,rfl,rfl,?_,?_,?_,rfl⟩ ?_
  ·rfl
  ·omega
  ·omega
  ·omega
  rintro m xs o ⟨k,q,rfl,rfl,rfl,hk,h0,h1,hR⟩;have hle:=fe (at_ l k) q h0
  have hkk:k<l.length->SizeOf.sizeOf (at_ l k).af<n:=λh=>by have:=ag.dH (at_mem h);omega
  (refine vU3 ?_ ?_ ?_<;>with_reducible repeat intro h)
  ·rw[fw baa,if_pos (by first|exact h|(rw[hsz];exact h))]at hR;rw[hR]
  ·rw[fw baa,if_neg Yt]at hR;exact⟨_,[_,_],[],Yt,⟨k+1,_,rfl,rfl,rfl,Yt,Yt,Yt,hR⟩,rfl,trivial⟩
  ·rw[jm h]at hR;rw[hR]
instance(L:gaa)[hL:Lok L](l:List ag)(r:Int):Ctr L prog 9 [] [.ab 19 ak l,.aa r] (.aa (aM bG l r)) [] (0<=r/\r<=1048576):=⟨(aU 9),λh=>(zB L (SizeOf.sizeOf l+1) l r).out ⟨Nat.lt_succ_self _,h⟩⟩
theorem KZ(n:Nat)(ih:∀l:List ag,Ctr lim prog 13 [] [.ab 19 ak l] (.ad 19 ak l) [] (SizeOf.sizeOf l<n))(x:ag):Ctr lim prog 62 [] [.agg (cSc x)] (.agg [.aa x.aj,.str x.ae,.aa x.fType.aj,.ad 2 aW x.fType.az,.am x.fType.aB,.str x.fType.aZ,.str x.fType.aG,.am x.ax,.am x.aJ,.str x.bI,.ac x.db,.ac x.dz,.ac x.bZ,.ac x.eJ,.aa x.iO,.aa x.iP,.ad 7 aS x.bY,.ad 7 aS x.cS,.ad 19 ak x.af]) [] (SizeOf.sizeOf x.af<n):=by
 refine Ctr.bd func62 ntmps62 λhp=>?_
 all_goals exact uU
theorem zA:∀(n:Nat) (l:List ag),Ctr lim prog 13 [] [.ab 19 ak l] (.ad 19 ak l) [] (SizeOf.sizeOf l<n)
 | 0,l=>⟨(aU 13),λh=>absurd h (Nat.not_lt_zero _)⟩
 | n+1,l=>by
  have hx:=KZ n (zA n);refine Ctr.bd func13 ntmps13 λhp=>?_;refine AW.f0 0 λhf=>?_
  (refine vU1 ?_;intro h)
  refine AW.aw [4] [0,3] (λm xs o=>∃k:Nat,xs=[.aa k]/\o=[(h,some (mkC (ak true) [.int .i64 0,.string ⟨#[]⟩,.int .i64 0,.slice none 0 0,.slice none 0 0,.string ⟨#[]⟩,.string ⟨#[]⟩,.slice none 0 0,.slice none 0 0,.string ⟨#[]⟩,.bool false,.bool false,.bool false,.bool false,.int .i64 0,.int .i64 0,.slice none 0 0,.slice none 0 0,.slice none 0 0] l k))]/\m=l.length - k/\k<=l.length) l.length [(h,some (mkC (ak true) [.int .i64 0,.string ⟨#[]⟩,.int .i64 0,.slice none 0 0,.slice none 0 0,.string ⟨#[]⟩,.string ⟨#[]⟩,.slice none 0 0,.slice none 0 0,.string ⟨#[]⟩,.bool false,.bool false,.bool false,.bool false,.int .i64 0,.int .i64 0,.slice none 0 0,.slice none 0 0,.slice none 0 0] l 0))] (aF (iS _ _ _)) ⟨0,?_,rfl,rfl,?_⟩ ?_
  ·rfl
  ·omega
  rintro m xs o ⟨k,rfl,rfl,rfl,hk⟩;have hml:=jN (ak true) [.int .i64 0,.string ⟨#[]⟩,.int .i64 0,.slice none 0 0,.slice none 0 0,.string ⟨#[]⟩,.string ⟨#[]⟩,.slice none 0 0,.slice none 0 0,.string ⟨#[]⟩,.bool false,.bool false,.bool false,.bool false,.int .i64 0,.int .i64 0,.slice none 0 0,.slice none 0 0,.slice none 0 0] 19 (λx=>by rw[dK];rfl) rfl l k hk
  have hkk:k<l.length->SizeOf.sizeOf (at_ l k).af<n:=λh=>by have:=ag.dH (at_mem h);omega
  (refine vX2 ?_ ?_<;>intro h)
  ·exact⟨_,[_],_,Yt,⟨k+1,rfl,rfl,rfl,Yt⟩,rfl,aF (by have:=lB (ak true) [.int .i64 0,.string ⟨#[]⟩,.int .i64 0,.slice none 0 0,.slice none 0 0,.string ⟨#[]⟩,.string ⟨#[]⟩,.slice none 0 0,.slice none 0 0,.string ⟨#[]⟩,.bool false,.bool false,.bool false,.bool false,.int .i64 0,.int .i64 0,.slice none 0 0,.slice none 0 0,.slice none 0 0] 19 (λx=>by rw[dK];rfl) rfl l k h;simp only[go_sem,Nat.mul_one]at this ⊢;exact this.symm)⟩
  ·refine AW.made 2 rfl h hk (λx=>by rw[dK];rfl) ?_
   all_goals exact uU
instance(l:List ag):Ctr lim prog 13 [] [.ab 19 ak l] (.ad 19 ak l) [] True:=⟨(aU 13),λ_=>(zA (SizeOf.sizeOf l+1) l).out (Nat.lt_succ_self _)⟩
instance(L:gaa)[hL:Lok L](x:fQ):Ctr L prog 218 [] [.agg [.ab 3 ai x.eS,.aa x.fBy,.aa x.fAt],.agg [.ab 3 ai x.eS,.aa x.fBy,.aa x.fAt]] (.ac true) [] True:=by
 refine Ctr.bd func218 ntmps218 λhp=>?_
 all_goals exact uU
instance(L:gaa)[hL:Lok L](l:List fQ):Ctr L prog 156 [] [.ab 3 bF l,.ab 3 bF l] (.ac true) [] True:=by
 refine Ctr.bd func156 ntmps156 λhp=>?_;refine AW.f0 0 λhf=>?_;have hf:=Nat.le_trans hf (hL.le 3)
 (refine vU1 ?_;intro h)
 refine AW.aw [5] [0,1] (λm xs o=>∃k:Nat,xs=[.aa k]/\o=[]/\m=l.length - k/\k<=l.length) l.length [] trivial ⟨0,?_,rfl,rfl,?_⟩ ?_
 ·rfl
 ·omega
 rintro m xs o ⟨k,rfl,rfl,rfl,hk⟩
 (refine vU1 ?_;intro h h)
 exact⟨_,[_],[],Yt,⟨k+1,rfl,rfl,rfl,Yt⟩,rfl,trivial⟩
instance(L:gaa)[hL:Lok L](x:fQ)(r:Int):Ctr L prog 216 [] [.agg [.ab 3 ai x.eS,.aa x.fBy,.aa x.fAt],.aa r] (.aa (fu x r)) [] (0<=r/\r<=1048576):=by
 refine Ctr.bd func216 ntmps216 λhp=>?_;refine AW.f0 0 λhf=>?_;have le0:=ba bA cf x.eS r;unfold fu
 ((refine vU2 ?_ ?_<;>intro h);all_goals simp only[thn,aA,id];all_goals refine congrArg (λz=>AV.aa z) ?_;all_goals (repeat' split);all_goals omega)
instance(L:gaa)[hL:Lok L](l:List fQ)(r:Int):Ctr L prog 152 [] [.ab 3 bF l,.aa r] (.aa (aM fu l r)) [] (0<=r/\r<=1048576):=by
 refine Ctr.bd func152 ntmps152 λhp=>?_;refine AW.f0 0 λhf=>?_;have hf:=Nat.le_trans hf (hL.le 3)
 (refine vU2 ?_ ?_<;>intro h)
 ·rw[fM h]
 rw[fY h];refine AW.aw [1,5] [0] (λm xs o=>∃(k:Nat) (q:Int),xs=[.aa q,.aa k]/\o=[]/\m=l.length - k/\k<=l.length/\0<=q/\q<=1048576/\eH fu (l.drop k) q=eH fu l (r - l.length)) l.length [] trivial ⟨0,_,?_,rfl,rfl,?_,?_,?_,rfl⟩ ?_
 ·rfl
 ·omega
 ·omega
 ·omega
 rintro m xs o ⟨k,q,rfl,rfl,rfl,hk,h0,h1,hR⟩;have hle:=lY (at_ l k) q h0
 (refine vU3 ?_ ?_ ?_<;>with_reducible repeat intro h)
 ·rw[fw baa,if_pos (by first|exact h|(rw[hsz];exact h))]at hR;rw[hR]
 ·rw[fw baa,if_neg Yt]at hR;exact⟨_,[_,_],[],Yt,⟨k+1,_,rfl,rfl,rfl,Yt,Yt,Yt,hR⟩,rfl,trivial⟩
 ·rw[jm h]at hR;rw[hR]
instance(x:fQ):Ctr lim prog 217 [] [.agg [.ab 3 ai x.eS,.aa x.fBy,.aa x.fAt]] (.agg [.ad 3 ai x.eS,.aa x.fBy,.aa x.fAt]) [] True:=by
 refine Ctr.bd func217 ntmps217 λhp=>?_
 all_goals exact uU
instance(l:List fQ):Ctr lim prog 154 [] [.ab 3 bF l] (.ad 3 bF l) [] True:=by
 refine Ctr.bd func154 ntmps154 λhp=>?_;refine AW.f0 0 λhf=>?_
 (refine vU1 ?_;intro h)
 refine AW.aw [4] [0,3] (λm xs o=>∃k:Nat,xs=[.aa k]/\o=[(h,some (mkC (bF true) [.slice none 0 0,.int .i64 0,.int .i64 0] l k))]/\m=l.length - k/\k<=l.length) l.length [(h,some (mkC (bF true) [.slice none 0 0,.int .i64 0,.int .i64 0] l 0))] (aF (iS _ _ _)) ⟨0,?_,rfl,rfl,?_⟩ ?_
 ·rfl
 ·omega
 rintro m xs o ⟨k,rfl,rfl,rfl,hk⟩;have hml:=jN (bF true) [.slice none 0 0,.int .i64 0,.int .i64 0] 3 (λ_=>rfl) rfl l k hk
 (refine vX2 ?_ ?_<;>intro h)
 ·exact⟨_,[_],_,Yt,⟨k+1,rfl,rfl,rfl,Yt⟩,rfl,aF (by have:=lB (bF true) [.slice none 0 0,.int .i64 0,.int .i64 0] 3 (λ_=>rfl) rfl l k h;simp only[go_sem,Nat.mul_one]at this ⊢;exact this.symm)⟩
 ·refine AW.made 2 rfl h hk (λ_=>rfl) ?_
  all_goals exact uU
instance(L:gaa)[hL:Lok L](x:iZ):Ctr L prog 157 [] [.agg [.ac x.fOn,.aa x.gz,.aa x.fBy,.str x.ae,.ab 3 ai x.dS],.agg [.ac x.fOn,.aa x.gz,.aa x.fBy,.str x.ae,.ab 3 ai x.dS]] (.ac true) [] True:=by
 refine Ctr.bd func157 ntmps157 λhp=>?_
 all_goals exact uU
instance(L:gaa)[hL:Lok L](x:iZ)(r:Int):Ctr L prog 153 [] [.agg [.ac x.fOn,.aa x.gz,.aa x.fBy,.str x.ae,.ab 3 ai x.dS],.aa r] (.aa (lj x r)) [] (0<=r/\r<=1048576):=by
 refine Ctr.bd func153 ntmps153 λhp=>?_;refine AW.f0 0 λhf=>?_;have le1:=ba bA cf x.dS (r - x.ae.length);unfold lj
 ((refine vU3 ?_ ?_ ?_<;>with_reducible repeat intro h);all_goals simp only[thn,aA,id];all_goals refine congrArg (λz=>AV.aa z) ?_;all_goals (repeat' split);all_goals omega)
instance(x:iZ):Ctr lim prog 155 [] [.agg [.ac x.fOn,.aa x.gz,.aa x.fBy,.str x.ae,.ab 3 ai x.dS]] (.agg [.ac x.fOn,.aa x.gz,.aa x.fBy,.str x.ae,.ad 3 ai x.dS]) [] True:=by
 refine Ctr.bd func155 ntmps155 λhp=>?_
 all_goals exact uU
instance(L:gaa)[hL:Lok L](x:lM):Ctr L prog 97 [] [.agg [.ab 19 ak x.bg,.ab 3 ai x.bk,.ab 3 ai x.cD,.aa x.iV,.ab 3 bF x.dL,.ac x.bh.fOn,.aa x.bh.gz,.aa x.bh.fBy,.str x.bh.ae,.ab 3 ai x.bh.dS],.agg [.ab 19 ak x.bg,.ab 3 ai x.bk,.ab 3 ai x.cD,.aa x.iV,.ab 3 bF x.dL,.ac x.bh.fOn,.aa x.bh.gz,.aa x.bh.fBy,.str x.bh.ae,.ab 3 ai x.bh.dS]] (.ac true) [] True:=by
 refine Ctr.bd func97 ntmps97 λhp=>?_
 all_goals exact uU
instance(L:gaa)[hL:Lok L](x:lM)(r:Int):Ctr L prog 93 [] [.agg [.ab 19 ak x.bg,.ab 3 ai x.bk,.ab 3 ai x.cD,.aa x.iV,.ab 3 bF x.dL,.ac x.bh.fOn,.aa x.bh.gz,.aa x.bh.fBy,.str x.bh.ae,.ab 3 ai x.bh.dS],.aa r] (.aa (jL x r)) [] (0<=r/\r<=1048576):=by
 refine Ctr.bd func93 ntmps93 λhp=>?_;refine AW.f0 0 λhf=>?_;have le0:=ba bG fe x.bg r
 have le1:=ba bA cf x.bk (aM bG x.bg r)
 have le2:=ba bA cf x.cD (aM bA x.bk (aM bG x.bg r))
 have le3:=ba fu lY x.dL (aM bA x.cD (aM bA x.bk (aM bG x.bg r)))
 have le4:=si x.bh (aM fu x.dL (aM bA x.cD (aM bA x.bk (aM bG x.bg r))));unfold jL
 ((refine vU6 ?_ ?_ ?_ ?_ ?_ ?_<;>with_reducible repeat intro h);all_goals simp only[thn,aA,id];all_goals refine congrArg (λz=>AV.aa z) ?_;all_goals (repeat' split);all_goals omega)
instance(x:lM):Ctr lim prog 95 [] [.agg [.ab 19 ak x.bg,.ab 3 ai x.bk,.ab 3 ai x.cD,.aa x.iV,.ab 3 bF x.dL,.ac x.bh.fOn,.aa x.bh.gz,.aa x.bh.fBy,.str x.bh.ae,.ab 3 ai x.bh.dS]] (.agg [.ad 19 ak x.bg,.ad 3 ai x.bk,.ad 3 ai x.cD,.aa x.iV,.ad 3 bF x.dL,.ac x.bh.fOn,.aa x.bh.gz,.aa x.bh.fBy,.str x.bh.ae,.ad 3 ai x.bh.dS]) [] True:=by
 refine Ctr.bd func95 ntmps95 λhp=>?_
 all_goals exact uU
instance(L:gaa)[hL:Lok L](x:dI):Ctr L prog 33 [] [.agg [.str x.ae,.ab 19 ak x.av.bg,.ab 3 ai x.av.bk,.ab 3 ai x.av.cD,.aa x.av.iV,.ab 3 bF x.av.dL,.ac x.av.bh.fOn,.aa x.av.bh.gz,.aa x.av.bh.fBy,.str x.av.bh.ae,.ab 3 ai x.av.bh.dS,.ab 3 ai x.fJ,.ac x.fUp,.aa x.om,.ac x.oq],.agg [.str x.ae,.ab 19 ak x.av.bg,.ab 3 ai x.av.bk,.ab 3 ai x.av.cD,.aa x.av.iV,.ab 3 bF x.av.dL,.ac x.av.bh.fOn,.aa x.av.bh.gz,.aa x.av.bh.fBy,.str x.av.bh.ae,.ab 3 ai x.av.bh.dS,.ab 3 ai x.fJ,.ac x.fUp,.aa x.om,.ac x.oq]] (.ac true) [] True:=by
 refine Ctr.bd func33 ntmps33 λhp=>?_
 all_goals exact uU
instance(L:gaa)[hL:Lok L](l:List dI):Ctr L prog 39 [] [.ab 15 cm l,.ab 15 cm l] (.ac true) [] True:=by
 refine Ctr.bd func39 ntmps39 λhp=>?_;refine AW.f0 0 λhf=>?_;have hf:=Nat.le_trans hf (hL.le 15)
 (refine vU1 ?_;intro h)
 refine AW.aw [5] [0,1] (λm xs o=>∃k:Nat,xs=[.aa k]/\o=[]/\m=l.length - k/\k<=l.length) l.length [] trivial ⟨0,?_,rfl,rfl,?_⟩ ?_
 ·rfl
 ·omega
 rintro m xs o ⟨k,rfl,rfl,rfl,hk⟩
 (refine vU1 ?_;intro h h)
 exact⟨_,[_],[],Yt,⟨k+1,rfl,rfl,rfl,Yt⟩,rfl,trivial⟩
instance(L:gaa)[hL:Lok L](x:dI)(r:Int):Ctr L prog 29 [] [.agg [.str x.ae,.ab 19 ak x.av.bg,.ab 3 ai x.av.bk,.ab 3 ai x.av.cD,.aa x.av.iV,.ab 3 bF x.av.dL,.ac x.av.bh.fOn,.aa x.av.bh.gz,.aa x.av.bh.fBy,.str x.av.bh.ae,.ab 3 ai x.av.bh.dS,.ab 3 ai x.fJ,.ac x.fUp,.aa x.om,.ac x.oq],.aa r] (.aa (dE x r)) [] (0<=r/\r<=1048576):=by
 refine Ctr.bd func29 ntmps29 λhp=>?_;refine AW.f0 0 λhf=>?_;have le1:=ru x.av (r - x.ae.length)
 have le2:=ba bA cf x.fJ (jL x.av (r - x.ae.length));unfold dE
 ((refine vU4 ?_ ?_ ?_ ?_<;>with_reducible repeat intro h);all_goals simp only[thn,aA,id];all_goals refine congrArg (λz=>AV.aa z) ?_;all_goals (repeat' split);all_goals omega)
instance(L:gaa)[hL:Lok L](l:List dI)(r:Int):Ctr L prog 34 [] [.ab 15 cm l,.aa r] (.aa (aM dE l r)) [] (0<=r/\r<=1048576):=by
 refine Ctr.bd func34 ntmps34 λhp=>?_;refine AW.f0 0 λhf=>?_;have hf:=Nat.le_trans hf (hL.le 15)
 (refine vU2 ?_ ?_<;>intro h)
 ·rw[fM h]
 rw[fY h];refine AW.aw [1,5] [0] (λm xs o=>∃(k:Nat) (q:Int),xs=[.aa q,.aa k]/\o=[]/\m=l.length - k/\k<=l.length/\0<=q/\q<=1048576/\eH dE (l.drop k) q=eH dE l (r - l.length)) l.length [] trivial ⟨0,_,?_,rfl,rfl,?_,?_,?_,rfl⟩ ?_
 ·rfl
 ·omega
 ·omega
 ·omega
 rintro m xs o ⟨k,q,rfl,rfl,rfl,hk,h0,h1,hR⟩;have hle:=jv (at_ l k) q h0
 (refine vU3 ?_ ?_ ?_<;>with_reducible repeat intro h)
 ·rw[fw baa,if_pos (by first|exact h|(rw[hsz];exact h))]at hR;rw[hR]
 ·rw[fw baa,if_neg Yt]at hR;exact⟨_,[_,_],[],Yt,⟨k+1,_,rfl,rfl,rfl,Yt,Yt,Yt,hR⟩,rfl,trivial⟩
 ·rw[jm h]at hR;rw[hR]
instance(x:dI):Ctr lim prog 31 [] [.agg [.str x.ae,.ab 19 ak x.av.bg,.ab 3 ai x.av.bk,.ab 3 ai x.av.cD,.aa x.av.iV,.ab 3 bF x.av.dL,.ac x.av.bh.fOn,.aa x.av.bh.gz,.aa x.av.bh.fBy,.str x.av.bh.ae,.ab 3 ai x.av.bh.dS,.ab 3 ai x.fJ,.ac x.fUp,.aa x.om,.ac x.oq]] (.agg [.str x.ae,.ad 19 ak x.av.bg,.ad 3 ai x.av.bk,.ad 3 ai x.av.cD,.aa x.av.iV,.ad 3 bF x.av.dL,.ac x.av.bh.fOn,.aa x.av.bh.gz,.aa x.av.bh.fBy,.str x.av.bh.ae,.ad 3 ai x.av.bh.dS,.ad 3 ai x.fJ,.ac x.fUp,.aa x.om,.ac x.oq]) [] True:=by
 refine Ctr.bd func31 ntmps31 λhp=>?_
 all_goals exact uU
instance(l:List dI):Ctr lim prog 36 [] [.ab 15 cm l] (.ad 15 cm l) [] True:=by
 refine Ctr.bd func36 ntmps36 λhp=>?_;refine AW.f0 0 λhf=>?_
 (refine vU1 ?_;intro h)
 refine AW.aw [4] [0,3] (λm xs o=>∃k:Nat,xs=[.aa k]/\o=[(h,some (mkC (cm true) [.string ⟨#[]⟩,.slice none 0 0,.slice none 0 0,.slice none 0 0,.int .i64 0,.slice none 0 0,.bool false,.int .i64 0,.int .i64 0,.string ⟨#[]⟩,.slice none 0 0,.slice none 0 0,.bool false,.int .i64 0,.bool false] l k))]/\m=l.length - k/\k<=l.length) l.length [(h,some (mkC (cm true) [.string ⟨#[]⟩,.slice none 0 0,.slice none 0 0,.slice none 0 0,.int .i64 0,.slice none 0 0,.bool false,.int .i64 0,.int .i64 0,.string ⟨#[]⟩,.slice none 0 0,.slice none 0 0,.bool false,.int .i64 0,.bool false] l 0))] (aF (iS _ _ _)) ⟨0,?_,rfl,rfl,?_⟩ ?_
 ·rfl
 ·omega
 rintro m xs o ⟨k,rfl,rfl,rfl,hk⟩;have hml:=jN (cm true) [.string ⟨#[]⟩,.slice none 0 0,.slice none 0 0,.slice none 0 0,.int .i64 0,.slice none 0 0,.bool false,.int .i64 0,.int .i64 0,.string ⟨#[]⟩,.slice none 0 0,.slice none 0 0,.bool false,.int .i64 0,.bool false] 15 (λ_=>rfl) rfl l k hk
 (refine vX2 ?_ ?_<;>intro h)
 ·exact⟨_,[_],_,Yt,⟨k+1,rfl,rfl,rfl,Yt⟩,rfl,aF (by have:=lB (cm true) [.string ⟨#[]⟩,.slice none 0 0,.slice none 0 0,.slice none 0 0,.int .i64 0,.slice none 0 0,.bool false,.int .i64 0,.int .i64 0,.string ⟨#[]⟩,.slice none 0 0,.slice none 0 0,.bool false,.int .i64 0,.bool false] 15 (λ_=>rfl) rfl l k h;simp only[go_sem,Nat.mul_one]at this ⊢;exact this.symm)⟩
 ·refine AW.made 2 rfl h hk (λ_=>rfl) ?_
  all_goals exact uU
instance(L:gaa)[hL:Lok L](x:jA):Ctr L prog 158 [] [.agg [.str x.jt,.ab 3 ai x.eS,.aa x.dx],.agg [.str x.jt,.ab 3 ai x.eS,.aa x.dx]] (.ac true) [] True:=by
 refine Ctr.bd func158 ntmps158 λhp=>?_
 all_goals exact uU
instance(L:gaa)[hL:Lok L](l:List jA):Ctr L prog 98 [] [.ab 3 bO l,.ab 3 bO l] (.ac true) [] True:=by
 refine Ctr.bd func98 ntmps98 λhp=>?_;refine AW.f0 0 λhf=>?_;have hf:=Nat.le_trans hf (hL.le 3)
 (refine vU1 ?_;intro h)
 refine AW.aw [5] [0,1] (λm xs o=>∃k:Nat,xs=[.aa k]/\o=[]/\m=l.length - k/\k<=l.length) l.length [] trivial ⟨0,?_,rfl,rfl,?_⟩ ?_
 ·rfl
 ·omega
 rintro m xs o ⟨k,rfl,rfl,rfl,hk⟩
 (refine vU1 ?_;intro h h)
 exact⟨_,[_],[],Yt,⟨k+1,rfl,rfl,rfl,Yt⟩,rfl,trivial⟩
instance(L:gaa)[hL:Lok L](x:jA)(r:Int):Ctr L prog 219 [] [.agg [.str x.jt,.ab 3 ai x.eS,.aa x.dx],.aa r] (.aa (jZ x r)) [] (0<=r/\r<=1048576):=by
 refine Ctr.bd func219 ntmps219 λhp=>?_;refine AW.f0 0 λhf=>?_;have le1:=ba bA cf x.eS (r - x.jt.length);unfold jZ
 ((refine vU3 ?_ ?_ ?_<;>with_reducible repeat intro h);all_goals simp only[thn,aA,id];all_goals refine congrArg (λz=>AV.aa z) ?_;all_goals (repeat' split);all_goals omega)
instance(L:gaa)[hL:Lok L](l:List jA)(r:Int):Ctr L prog 159 [] [.ab 3 bO l,.aa r] (.aa (aM jZ l r)) [] (0<=r/\r<=1048576):=by
 refine Ctr.bd func159 ntmps159 λhp=>?_;refine AW.f0 0 λhf=>?_;have hf:=Nat.le_trans hf (hL.le 3)
 (refine vU2 ?_ ?_<;>intro h)
 ·rw[fM h]
 rw[fY h];refine AW.aw [1,5] [0] (λm xs o=>∃(k:Nat) (q:Int),xs=[.aa q,.aa k]/\o=[]/\m=l.length - k/\k<=l.length/\0<=q/\q<=1048576/\eH jZ (l.drop k) q=eH jZ l (r - l.length)) l.length [] trivial ⟨0,_,?_,rfl,rfl,?_,?_,?_,rfl⟩ ?_
 ·rfl
 ·omega
 ·omega
 ·omega
 rintro m xs o ⟨k,q,rfl,rfl,rfl,hk,h0,h1,hR⟩;have hle:=oL (at_ l k) q h0
 (refine vU3 ?_ ?_ ?_<;>with_reducible repeat intro h)
 ·rw[fw baa,if_pos (by first|exact h|(rw[hsz];exact h))]at hR;rw[hR]
 ·rw[fw baa,if_neg Yt]at hR;exact⟨_,[_,_],[],Yt,⟨k+1,_,rfl,rfl,rfl,Yt,Yt,Yt,hR⟩,rfl,trivial⟩
 ·rw[jm h]at hR;rw[hR]
instance(x:jA):Ctr lim prog 220 [] [.agg [.str x.jt,.ab 3 ai x.eS,.aa x.dx]] (.agg [.str x.jt,.ad 3 ai x.eS,.aa x.dx]) [] True:=by
 refine Ctr.bd func220 ntmps220 λhp=>?_
 all_goals exact uU
instance(l:List jA):Ctr lim prog 160 [] [.ab 3 bO l] (.ad 3 bO l) [] True:=by
 refine Ctr.bd func160 ntmps160 λhp=>?_;refine AW.f0 0 λhf=>?_
 (refine vU1 ?_;intro h)
 refine AW.aw [4] [0,3] (λm xs o=>∃k:Nat,xs=[.aa k]/\o=[(h,some (mkC (bO true) [.string ⟨#[]⟩,.slice none 0 0,.int .i64 0] l k))]/\m=l.length - k/\k<=l.length) l.length [(h,some (mkC (bO true) [.string ⟨#[]⟩,.slice none 0 0,.int .i64 0] l 0))] (aF (iS _ _ _)) ⟨0,?_,rfl,rfl,?_⟩ ?_
 ·rfl
 ·omega
 rintro m xs o ⟨k,rfl,rfl,rfl,hk⟩;have hml:=jN (bO true) [.string ⟨#[]⟩,.slice none 0 0,.int .i64 0] 3 (λ_=>rfl) rfl l k hk
 (refine vX2 ?_ ?_<;>intro h)
 ·exact⟨_,[_],_,Yt,⟨k+1,rfl,rfl,rfl,Yt⟩,rfl,aF (by have:=lB (bO true) [.string ⟨#[]⟩,.slice none 0 0,.int .i64 0] 3 (λ_=>rfl) rfl l k h;simp only[go_sem,Nat.mul_one]at this ⊢;exact this.symm)⟩
 ·refine AW.made 2 rfl h hk (λ_=>rfl) ?_
  all_goals exact uU
instance(L:gaa)[hL:Lok L](x:gB):Ctr L prog 38 [] [.agg [.aa x.dx,.ab 3 bO x.ck],.agg [.aa x.dx,.ab 3 bO x.ck]] (.ac true) [] True:=by
 refine Ctr.bd func38 ntmps38 λhp=>?_
 all_goals exact uU
instance(L:gaa)[hL:Lok L](x:gB)(r:Int):Ctr L prog 102 [] [.agg [.aa x.dx,.ab 3 bO x.ck],.aa r] (.aa (gV x r)) [] (0<=r/\r<=1048576):=by
 refine Ctr.bd func102 ntmps102 λhp=>?_;refine AW.f0 0 λhf=>?_;have le0:=ba jZ oL x.ck r;unfold gV
 ((refine vU2 ?_ ?_<;>intro h);all_goals simp only[thn,aA,id];all_goals refine congrArg (λz=>AV.aa z) ?_;all_goals (repeat' split);all_goals omega)
instance(x:gB):Ctr lim prog 103 [] [.agg [.aa x.dx,.ab 3 bO x.ck]] (.agg [.aa x.dx,.ad 3 bO x.ck]) [] True:=by
 refine Ctr.bd func103 ntmps103 λhp=>?_
 all_goals exact uU
instance(L:gaa)[hL:Lok L](x:fB):Ctr L prog 48 [] [.agg [.ab 3 aK x.aY.aC,.ab 4 aP x.aY.aO,.ab 15 cm x.bz,.aa x.bQ.dx,.ab 3 bO x.bQ.ck,.aa x.eU.dx,.ab 3 bO x.eU.ck,.aa x.pI],.agg [.ab 3 aK x.aY.aC,.ab 4 aP x.aY.aO,.ab 15 cm x.bz,.aa x.bQ.dx,.ab 3 bO x.bQ.ck,.aa x.eU.dx,.ab 3 bO x.eU.ck,.aa x.pI]] (.ac true) [] True:=by
 refine Ctr.bd func48 ntmps48 λhp=>?_
 all_goals exact uU
instance(L:gaa)[hL:Lok L](x:fB)(r:Int):Ctr L prog 43 [] [.agg [.ab 3 aK x.aY.aC,.ab 4 aP x.aY.aO,.ab 15 cm x.bz,.aa x.bQ.dx,.ab 3 bO x.bQ.ck,.aa x.eU.dx,.ab 3 bO x.eU.ck,.aa x.pI],.aa r] (.aa (iL x r)) [] (0<=r/\r<=1048576):=by
 refine Ctr.bd func43 ntmps43 λhp=>?_;refine AW.f0 0 λhf=>?_;have le0:=jD x.aY r
 have le1:=ba dE jv x.bz (cw x.aY r)
 have le2:=kZ x.bQ (aM dE x.bz (cw x.aY r))
 have le3:=kZ x.eU (gV x.bQ (aM dE x.bz (cw x.aY r)));unfold iL
 ((refine vU5 ?_ ?_ ?_ ?_ ?_<;>with_reducible repeat intro h);all_goals simp only[thn,aA,id];all_goals refine congrArg (λz=>AV.aa z) ?_;all_goals (repeat' split);all_goals omega)
instance(x:fB):Ctr lim prog 45 [] [.agg [.ab 3 aK x.aY.aC,.ab 4 aP x.aY.aO,.ab 15 cm x.bz,.aa x.bQ.dx,.ab 3 bO x.bQ.ck,.aa x.eU.dx,.ab 3 bO x.eU.ck,.aa x.pI]] (.agg [.ad 3 aK x.aY.aC,.ad 4 aP x.aY.aO,.ad 15 cm x.bz,.aa x.bQ.dx,.ad 3 bO x.bQ.ck,.aa x.eU.dx,.ad 3 bO x.eU.ck,.aa x.pI]) [] True:=by
 refine Ctr.bd func45 ntmps45 λhp=>?_
 all_goals exact uU
instance(x:dB):Ctr lim prog 234 [] [.agg [.aa x.aj,.ab 2 aW x.az,.al x.aB,.str x.aZ,.str x.aG]] (.agg [.aa x.aj,.ad 2 aW x.az,.am x.aB,.str x.aZ,.str x.aG]) [] True:=by
 refine Ctr.bd func234 ntmps234 λhp=>?_;refine AW.f1 0 λhf=>?_
 (refine bU1 ?_;intro h h h)
 rfl
end Go.Proofs
namespace Go.Ab
open Go.Ab
def ct{α:Type}{e:α->AV}{sz:Nat}(h:∀x,(e x).elem sz=true)(l:List α):∀x,x∈l.map e->x.elem sz=true:=by intro x hx;obtain⟨y,_,rfl⟩:=List.mem_map.1 hx;exact h y
end Go.Ab
namespace Go.Proofs
open Go.Ab Go.Dt
def yM:∀(l:List Str) (k:Int),mkL ay l k=(mks l.length k,k+l.length)
 | [],k=>by simp[mkL,mks]
 | x::xs,k=>by
  have:=yM xs (k+1);simp only[mkL,ay,this,length_cons,mks]
  congr 1;omega
instance(l:List Str)(k:Int):fU lim prog 50 1 (l.map AV.str) [.aa k] (.aa (mkL ay l k).2) ((mkL ay l k).1.map AV.str) (0<=k/\(mkL ay l k).2<=1099511627776):=by rw[yM];exact Fa l k
instance(l:List Str)(k:Int):Ctr lim prog 51 [] [.sl false 1 ((mkL ay l k).1.map AV.str),.aa k] (.aa (mkL ay l k).2) [] (0<=k/\(mkL ay l k).2<=1099511627776):=by rw[yM];exact Fq l.length k
