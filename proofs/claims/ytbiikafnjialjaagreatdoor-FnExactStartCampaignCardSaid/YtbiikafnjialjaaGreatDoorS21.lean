/- Part of a proof. -/
import Derived.Test.YtbiikafnjialjaaGreatDoorS20
set_option linter.all false
set_option maxRecDepth 20000
set_option maxHeartbeats 4000000
open Go.Proofs.Tryz
open List
namespace Go.Proofs
open Go.Ab Go.Dt
instance(L:gaa)[hL:Lok L](x:fH):Ctr L prog 363 [] [.agg [.str x.ae,.str x.aq],.agg [.str x.ae,.str x.aq]] (.ac true) [] True:=by
 refine Ctr.bd func363 ntmps363 λhp=>?_
 all_goals exact uU
instance(L:gaa)[hL:Lok L](l:List fH):Ctr L prog 343 [] [.ab 2 cU l,.ab 2 cU l] (.ac true) [] True:=by
 refine Ctr.bd func343 ntmps343 λhp=>?_;refine AW.f0 0 λhf=>?_;have hf:=Nat.le_trans hf (hL.le 2)
 (refine vU1 ?_;intro h)
 refine AW.aw [5] [0,1] (λm xs o=>∃k:Nat,xs=[.aa k]/\o=[]/\m=l.length - k/\k<=l.length) l.length [] trivial ⟨0,?_,rfl,rfl,?_⟩ ?_
 ·rfl
 ·omega
 rintro m xs o ⟨k,rfl,rfl,rfl,hk⟩
 (refine vU1 ?_;intro h h)
 exact⟨_,[_],[],Um,⟨k+1,rfl,rfl,rfl,Um⟩,rfl,trivial⟩
instance(L:gaa)[hL:Lok L](x:fH)(r:Int):Ctr L prog 345 [] [.agg [.str x.ae,.str x.aq],.aa r] (.aa (jH x r)) [] (0<=r/\r<=1048576):=by
 refine Ctr.bd func345 ntmps345 λhp=>?_;refine AW.f0 0 λhf=>?_;unfold jH
 ((refine vU3 ?_ ?_ ?_<;>with_reducible repeat intro h);all_goals simp only[thn,aC,id];all_goals refine congrArg (λz=>AV.aa z) ?_;all_goals (repeat' split);all_goals omega)
instance(L:gaa)[hL:Lok L](l:List fH)(r:Int):Ctr L prog 328 [] [.ab 2 cU l,.aa r] (.aa (aJ jH l r)) [] (0<=r/\r<=1048576):=by
 refine Ctr.bd func328 ntmps328 λhp=>?_;refine AW.f0 0 λhf=>?_;have hf:=Nat.le_trans hf (hL.le 2)
 (refine vU2 ?_ ?_<;>intro h)
 ·rw[gf h]
 rw[gF h];refine AW.aw [1,5] [0] (λm xs o=>∃(k:Nat) (q:Int),xs=[.aa q,.aa k]/\o=[]/\m=l.length - k/\k<=l.length/\0<=q/\q<=1048576/\eS jH (l.drop k) q=eS jH l (r - l.length)) l.length [] trivial ⟨0,_,?_,rfl,rfl,?_,?_,?_,rfl⟩ ?_
 ·rfl
 ·omega
 ·omega
 ·omega
 rintro m xs o ⟨k,q,rfl,rfl,rfl,hk,h0,h1,hR⟩;have hle:=oy (at_ l k) q h0
 (refine vU3 ?_ ?_ ?_<;>with_reducible repeat intro h)
 ·rw[fF baa,if_pos (by first|exact h|(rw[hsz];exact h))]at hR;rw[hR]
 ·rw[fF baa,if_neg Um]at hR;exact⟨_,[_,_],[],Um,⟨k+1,_,rfl,rfl,rfl,Um,Um,Um,hR⟩,rfl,trivial⟩
 ·rw[jA h]at hR;rw[hR]
instance(x:fH):Ctr lim prog 352 [] [.agg [.str x.ae,.str x.aq]] (.agg [.str x.ae,.str x.aq]) [] True:=by
 refine Ctr.bd func352 ntmps352 λhp=>?_
 all_goals exact uU
instance(l:List fH):Ctr lim prog 333 [] [.ab 2 cU l] (.ad 2 cU l) [] True:=by
 refine Ctr.bd func333 ntmps333 λhp=>?_;refine AW.f0 0 λhf=>?_
 (refine vU1 ?_;intro h)
 refine AW.aw [4] [0,3] (λm xs o=>∃k:Nat,xs=[.aa k]/\o=[(h,some (mkC (cU true) [.string ⟨#[]⟩,.string ⟨#[]⟩] l k))]/\m=l.length - k/\k<=l.length) l.length [(h,some (mkC (cU true) [.string ⟨#[]⟩,.string ⟨#[]⟩] l 0))] (aE (jg _ _ _)) ⟨0,?_,rfl,rfl,?_⟩ ?_
 ·rfl
 ·omega
 rintro m xs o ⟨k,rfl,rfl,rfl,hk⟩;have hml:=j3 (cU true) [.string ⟨#[]⟩,.string ⟨#[]⟩] 2 (λ_=>rfl) rfl l k hk
 (refine vX2 ?_ ?_<;>intro h)
 ·exact⟨_,[_],_,Um,⟨k+1,rfl,rfl,rfl,Um⟩,rfl,aE (by have:=lT (cU true) [.string ⟨#[]⟩,.string ⟨#[]⟩] 2 (λ_=>rfl) rfl l k h;simp only[go_sem,Nat.mul_one]at this ⊢;exact this.symm)⟩
 ·refine AW.made 2 rfl h hk (λ_=>rfl) ?_
  all_goals exact uU
instance(L:gaa)[hL:Lok L](x:Dt.GStep):Ctr L prog 322 [] [.agg [.str x.ae,.ab 2 cU x.cK],.agg [.str x.ae,.ab 2 cU x.cK]] (.ac true) [] True:=by
 refine Ctr.bd func322 ntmps322 λhp=>?_
 all_goals exact uU
instance(L:gaa)[hL:Lok L](l:List Dt.GStep):Ctr L prog 297 [] [.ab 2 bg l,.ab 2 bg l] (.ac true) [] True:=by
 refine Ctr.bd func297 ntmps297 λhp=>?_;refine AW.f0 0 λhf=>?_;have hf:=Nat.le_trans hf (hL.le 2)
 (refine vU1 ?_;intro h)
 refine AW.aw [5] [0,1] (λm xs o=>∃k:Nat,xs=[.aa k]/\o=[]/\m=l.length - k/\k<=l.length) l.length [] trivial ⟨0,?_,rfl,rfl,?_⟩ ?_
 ·rfl
 ·omega
 rintro m xs o ⟨k,rfl,rfl,rfl,hk⟩
 (refine vU1 ?_;intro h h)
 exact⟨_,[_],[],Um,⟨k+1,rfl,rfl,rfl,Um⟩,rfl,trivial⟩
instance(L:gaa)[hL:Lok L](x:Dt.GStep)(r:Int):Ctr L prog 307 [] [.agg [.str x.ae,.ab 2 cU x.cK],.aa r] (.aa (jI x r)) [] (0<=r/\r<=1048576):=by
 refine Ctr.bd func307 ntmps307 λhp=>?_;refine AW.f0 0 λhf=>?_;have le1:=bh jH oy x.cK (r - x.ae.length);unfold jI
 ((refine vU3 ?_ ?_ ?_<;>with_reducible repeat intro h);all_goals simp only[thn,aC,id];all_goals refine congrArg (λz=>AV.aa z) ?_;all_goals (repeat' split);all_goals omega)
instance(L:gaa)[hL:Lok L](l:List Dt.GStep)(r:Int):Ctr L prog 271 [] [.ab 2 bg l,.aa r] (.aa (aJ jI l r)) [] (0<=r/\r<=1048576):=by
 refine Ctr.bd func271 ntmps271 λhp=>?_;refine AW.f0 0 λhf=>?_;have hf:=Nat.le_trans hf (hL.le 2)
 (refine vU2 ?_ ?_<;>intro h)
 ·rw[gf h]
 rw[gF h];refine AW.aw [1,5] [0] (λm xs o=>∃(k:Nat) (q:Int),xs=[.aa q,.aa k]/\o=[]/\m=l.length - k/\k<=l.length/\0<=q/\q<=1048576/\eS jI (l.drop k) q=eS jI l (r - l.length)) l.length [] trivial ⟨0,_,?_,rfl,rfl,?_,?_,?_,rfl⟩ ?_
 ·rfl
 ·omega
 ·omega
 ·omega
 rintro m xs o ⟨k,q,rfl,rfl,rfl,hk,h0,h1,hR⟩;have hle:=oz (at_ l k) q h0
 (refine vU3 ?_ ?_ ?_<;>with_reducible repeat intro h)
 ·rw[fF baa,if_pos (by first|exact h|(rw[hsz];exact h))]at hR;rw[hR]
 ·rw[fF baa,if_neg Um]at hR;exact⟨_,[_,_],[],Um,⟨k+1,_,rfl,rfl,rfl,Um,Um,Um,hR⟩,rfl,trivial⟩
 ·rw[jA h]at hR;rw[hR]
instance(x:Dt.GStep):Ctr lim prog 313 [] [.agg [.str x.ae,.ab 2 cU x.cK]] (.agg [.str x.ae,.ad 2 cU x.cK]) [] True:=by
 refine Ctr.bd func313 ntmps313 λhp=>?_
 all_goals exact uU
instance(l:List Dt.GStep):Ctr lim prog 281 [] [.ab 2 bg l] (.ad 2 bg l) [] True:=by
 refine Ctr.bd func281 ntmps281 λhp=>?_;refine AW.f0 0 λhf=>?_
 (refine vU1 ?_;intro h)
 refine AW.aw [4] [0,3] (λm xs o=>∃k:Nat,xs=[.aa k]/\o=[(h,some (mkC (bg true) [.string ⟨#[]⟩,.slice none 0 0] l k))]/\m=l.length - k/\k<=l.length) l.length [(h,some (mkC (bg true) [.string ⟨#[]⟩,.slice none 0 0] l 0))] (aE (jg _ _ _)) ⟨0,?_,rfl,rfl,?_⟩ ?_
 ·rfl
 ·omega
 rintro m xs o ⟨k,rfl,rfl,rfl,hk⟩;have hml:=j3 (bg true) [.string ⟨#[]⟩,.slice none 0 0] 2 (λ_=>rfl) rfl l k hk
 (refine vX2 ?_ ?_<;>intro h)
 ·exact⟨_,[_],_,Um,⟨k+1,rfl,rfl,rfl,Um⟩,rfl,aE (by have:=lT (bg true) [.string ⟨#[]⟩,.slice none 0 0] 2 (λ_=>rfl) rfl l k h;simp only[go_sem,Nat.mul_one]at this ⊢;exact this.symm)⟩
 ·refine AW.made 2 rfl h hk (λ_=>rfl) ?_
  all_goals exact uU
instance(L:gaa)[hL:Lok L](x:fS):Ctr L prog 261 [] [.agg [.ac x.dB,.aa x.dQ,.ab 2 bg x.aW],.agg [.ac x.dB,.aa x.dQ,.ab 2 bg x.aW]] (.ac true) [] True:=by
 refine Ctr.bd func261 ntmps261 λhp=>?_
 all_goals exact uU
instance(L:gaa)[hL:Lok L](x:fS)(r:Int):Ctr L prog 222 [] [.agg [.ac x.dB,.aa x.dQ,.ab 2 bg x.aW],.aa r] (.aa (kU x r)) [] (0<=r/\r<=1048576):=by
 refine Ctr.bd func222 ntmps222 λhp=>?_;refine AW.f0 0 λhf=>?_;have le0:=bh jI oz x.aW r;unfold kU
 ((refine vU2 ?_ ?_<;>intro h);all_goals simp only[thn,aC,id];all_goals refine congrArg (λz=>AV.aa z) ?_;all_goals (repeat' split);all_goals omega)
instance(x:fS):Ctr lim prog 239 [] [.agg [.ac x.dB,.aa x.dQ,.ab 2 bg x.aW]] (.agg [.ac x.dB,.aa x.dQ,.ad 2 bg x.aW]) [] True:=by
 refine Ctr.bd func239 ntmps239 λhp=>?_
 all_goals exact uU
def aZ.dA{x:aZ}{l:List aZ}(h:x∈l):SizeOf.sizeOf x.af<SizeOf.sizeOf l:=by have:=sizeOf_lt_of_mem h;cases x;simp[aZ.af]at *;omega
theorem Qm(L:gaa)[hL:Lok L](n:Nat)(ih:∀l:List aZ,Ctr L prog 135 [] [.ab 7 aN l,.ab 7 aN l] (.ac true) [] (SizeOf.sizeOf l<n))(x:aZ):Ctr L prog 204 [] [.agg [.aa x.fOp,.aa x.gJ,.str x.cS,.ac x.aF.dB,.aa x.aF.dQ,.ab 2 bg x.aF.aW,.ab 7 aN x.af],.agg [.aa x.fOp,.aa x.gJ,.str x.cS,.ac x.aF.dB,.aa x.aF.dQ,.ab 2 bg x.aF.aW,.ab 7 aN x.af]] (.ac true) [] (SizeOf.sizeOf x.af<n):=by
 refine Ctr.bd func204 ntmps204 λhp=>?_
 all_goals exact uU
theorem Ea(L:gaa)[hL:Lok L]:∀(n:Nat) (l:List aZ),Ctr L prog 135 [] [.ab 7 aN l,.ab 7 aN l] (.ac true) [] (SizeOf.sizeOf l<n)
 | 0,l=>⟨(aT 135),λh=>absurd h (Nat.not_lt_zero _)⟩
 | n+1,l=>by
  have hx:=Qm L n (Ea L n);refine Ctr.bd func135 ntmps135 λhp=>?_;refine AW.f0 0 λhf=>?_;have hf:=Nat.le_trans hf (hL.le 7)
  (refine vU1 ?_;intro h)
  refine AW.aw [5] [0,1] (λm xs o=>∃k:Nat,xs=[.aa k]/\o=[]/\m=l.length - k/\k<=l.length) l.length [] trivial ⟨0,?_,rfl,rfl,?_⟩ ?_
  ·rfl
  ·omega
  rintro m xs o ⟨k,rfl,rfl,rfl,hk⟩;have hkk:k<l.length->SizeOf.sizeOf (at_ l k).af<n:=λh=>by have:=aZ.dA (at_mem h);omega
  (refine vU1 ?_;intro h h)
  exact⟨_,[_],[],Um,⟨k+1,rfl,rfl,rfl,Um⟩,rfl,trivial⟩
instance(L:gaa)[hL:Lok L](l:List aZ):Ctr L prog 135 [] [.ab 7 aN l,.ab 7 aN l] (.ac true) [] True:=⟨(aT 135),λ_=>(Ea L (SizeOf.sizeOf l+1) l).out (Nat.lt_succ_self _)⟩
theorem OB(L:gaa)[hL:Lok L](n:Nat)(ih:∀(l:List aZ) (r:Int),Ctr L prog 106 [] [.ab 7 aN l,.aa r] (.aa (aJ cY l r)) [] (SizeOf.sizeOf l<n/\0<=r/\r<=1048576))(x:aZ)(r:Int):Ctr L prog 163 [] [.agg [.aa x.fOp,.aa x.gJ,.str x.cS,.ac x.aF.dB,.aa x.aF.dQ,.ab 2 bg x.aF.aW,.ab 7 aN x.af],.aa r] (.aa (cY x r)) [] (SizeOf.sizeOf x.af<n/\0<=r/\r<=1048576):=by
 refine Ctr.bd func163 ntmps163 λhp=>?_;refine AW.f0 0 λhf=>?_;have le1:=sy x.aF (r - x.cS.length)
 have le2:=bh cY fT x.af (kU x.aF (r - x.cS.length));rw[wQ]
 ((refine vU4 ?_ ?_ ?_ ?_<;>with_reducible repeat intro h);all_goals simp only[thn,aC,id];all_goals refine congrArg (λz=>AV.aa z) ?_;all_goals (repeat' split);all_goals omega)
theorem DB(L:gaa)[hL:Lok L]:∀(n:Nat) (l:List aZ) (r:Int),Ctr L prog 106 [] [.ab 7 aN l,.aa r] (.aa (aJ cY l r)) [] (SizeOf.sizeOf l<n/\0<=r/\r<=1048576)
 | 0,l,r=>⟨(aT 106),λh=>absurd h.1 (Nat.not_lt_zero _)⟩
 | n+1,l,r=>by
  have hx:=OB L n (DB L n);refine Ctr.bd func106 ntmps106 λhp=>?_;refine AW.f0 0 λhf=>?_;have hf:=Nat.le_trans hf (hL.le 7)
  (refine vU2 ?_ ?_<;>intro h)
  ·rw[gf h]
  rw[gF h];refine AW.aw [1,5] [0] (λm xs o=>∃(k:Nat) (q:Int),xs=[.aa q,.aa k]/\o=[]/\m=l.length - k/\k<=l.length/\0<=q/\q<=1048576/\eS cY (l.drop k) q=eS cY l (r - l.length)) l.length [] trivial ⟨0,_,?_,rfl,rfl,?_,?_,?_,rfl⟩ ?_
  ·rfl
  ·omega
  ·omega
  ·omega
  rintro m xs o ⟨k,q,rfl,rfl,rfl,hk,h0,h1,hR⟩;have hle:=fT (at_ l k) q h0
  have hkk:k<l.length->SizeOf.sizeOf (at_ l k).af<n:=λh=>by have:=aZ.dA (at_mem h);omega
  (refine vU3 ?_ ?_ ?_<;>with_reducible repeat intro h)
  ·rw[fF baa,if_pos (by first|exact h|(rw[hsz];exact h))]at hR;rw[hR]
  ·rw[fF baa,if_neg Um]at hR;exact⟨_,[_,_],[],Um,⟨k+1,_,rfl,rfl,rfl,Um,Um,Um,hR⟩,rfl,trivial⟩
  ·rw[jA h]at hR;rw[hR]
instance(L:gaa)[hL:Lok L](l:List aZ)(r:Int):Ctr L prog 106 [] [.ab 7 aN l,.aa r] (.aa (aJ cY l r)) [] (0<=r/\r<=1048576):=⟨(aT 106),λh=>(DB L (SizeOf.sizeOf l+1) l r).out ⟨Nat.lt_succ_self _,h⟩⟩
theorem Oy(n:Nat)(ih:∀l:List aZ,Ctr lim prog 119 [] [.ab 7 aN l] (.ad 7 aN l) [] (SizeOf.sizeOf l<n))(x:aZ):Ctr lim prog 183 [] [.agg [.aa x.fOp,.aa x.gJ,.str x.cS,.ac x.aF.dB,.aa x.aF.dQ,.ab 2 bg x.aF.aW,.ab 7 aN x.af]] (.agg [.aa x.fOp,.aa x.gJ,.str x.cS,.ac x.aF.dB,.aa x.aF.dQ,.ad 2 bg x.aF.aW,.ad 7 aN x.af]) [] (SizeOf.sizeOf x.af<n):=by
 refine Ctr.bd func183 ntmps183 λhp=>?_
 all_goals exact uU
theorem Dx:∀(n:Nat) (l:List aZ),Ctr lim prog 119 [] [.ab 7 aN l] (.ad 7 aN l) [] (SizeOf.sizeOf l<n)
 | 0,l=>⟨(aT 119),λh=>absurd h (Nat.not_lt_zero _)⟩
 | n+1,l=>by
  have hx:=Oy n (Dx n);refine Ctr.bd func119 ntmps119 λhp=>?_;refine AW.f0 0 λhf=>?_
  (refine vU1 ?_;intro h)
  refine AW.aw [4] [0,3] (λm xs o=>∃k:Nat,xs=[.aa k]/\o=[(h,some (mkC (aN true) [.int .i64 0,.int .i64 0,.string ⟨#[]⟩,.bool false,.int .i64 0,.slice none 0 0,.slice none 0 0] l k))]/\m=l.length - k/\k<=l.length) l.length [(h,some (mkC (aN true) [.int .i64 0,.int .i64 0,.string ⟨#[]⟩,.bool false,.int .i64 0,.slice none 0 0,.slice none 0 0] l 0))] (aE (jg _ _ _)) ⟨0,?_,rfl,rfl,?_⟩ ?_
  ·rfl
  ·omega
  rintro m xs o ⟨k,rfl,rfl,rfl,hk⟩;have hml:=j3 (aN true) [.int .i64 0,.int .i64 0,.string ⟨#[]⟩,.bool false,.int .i64 0,.slice none 0 0,.slice none 0 0] 7 (λx=>by rw[dD];rfl) rfl l k hk
  have hkk:k<l.length->SizeOf.sizeOf (at_ l k).af<n:=λh=>by have:=aZ.dA (at_mem h);omega
  (refine vX2 ?_ ?_<;>intro h)
  ·exact⟨_,[_],_,Um,⟨k+1,rfl,rfl,rfl,Um⟩,rfl,aE (by have:=lT (aN true) [.int .i64 0,.int .i64 0,.string ⟨#[]⟩,.bool false,.int .i64 0,.slice none 0 0,.slice none 0 0] 7 (λx=>by rw[dD];rfl) rfl l k h;simp only[go_sem,Nat.mul_one]at this ⊢;exact this.symm)⟩
  ·refine AW.made 2 rfl h hk (λx=>by rw[dD];rfl) ?_
   all_goals exact uU
instance(l:List aZ):Ctr lim prog 119 [] [.ab 7 aN l] (.ad 7 aN l) [] True:=⟨(aT 119),λ_=>(Dx (SizeOf.sizeOf l+1) l).out (Nat.lt_succ_self _)⟩
def ag.dA{x:ag}{l:List ag}(h:x∈l):SizeOf.sizeOf x.af<SizeOf.sizeOf l:=by have:=sizeOf_lt_of_mem h;cases x;simp[ag.af]at *;omega
theorem La(L:gaa)[hL:Lok L](n:Nat)(ih:∀l:List ag,Ctr L prog 18 [] [.ab 19 ak l,.ab 19 ak l] (.ac true) [] (SizeOf.sizeOf l<n))(x:ag):Ctr L prog 71 [] [.agg (cSc x),.agg (cSc x)] (.ac true) [] (SizeOf.sizeOf x.af<n):=by
 refine Ctr.bd func71 ntmps71 λhp=>?_
 all_goals exact uU
theorem zt(L:gaa)[hL:Lok L]:∀(n:Nat) (l:List ag),Ctr L prog 18 [] [.ab 19 ak l,.ab 19 ak l] (.ac true) [] (SizeOf.sizeOf l<n)
 | 0,l=>⟨(aT 18),λh=>absurd h (Nat.not_lt_zero _)⟩
 | n+1,l=>by
  have hx:=La L n (zt L n);refine Ctr.bd func18 ntmps18 λhp=>?_;refine AW.f0 0 λhf=>?_;have hf:=Nat.le_trans hf (hL.le 19)
  (refine vU1 ?_;intro h)
  refine AW.aw [5] [0,1] (λm xs o=>∃k:Nat,xs=[.aa k]/\o=[]/\m=l.length - k/\k<=l.length) l.length [] trivial ⟨0,?_,rfl,rfl,?_⟩ ?_
  ·rfl
  ·omega
  rintro m xs o ⟨k,rfl,rfl,rfl,hk⟩;have hkk:k<l.length->SizeOf.sizeOf (at_ l k).af<n:=λh=>by have:=ag.dA (at_mem h);omega
  (refine vU1 ?_;intro h h)
  exact⟨_,[_],[],Um,⟨k+1,rfl,rfl,rfl,Um⟩,rfl,trivial⟩
instance(L:gaa)[hL:Lok L](l:List ag):Ctr L prog 18 [] [.ab 19 ak l,.ab 19 ak l] (.ac true) [] True:=⟨(aT 18),λ_=>(zt L (SizeOf.sizeOf l+1) l).out (Nat.lt_succ_self _)⟩
theorem Ke(L:gaa)[hL:Lok L](n:Nat)(ih:∀(l:List ag) (r:Int),Ctr L prog 9 [] [.ab 19 ak l,.aa r] (.aa (aJ ck l r)) [] (SizeOf.sizeOf l<n/\0<=r/\r<=1048576))(x:ag)(r:Int):Ctr L prog 54 [] [.agg (cSc x),.aa r] (.aa (ck x r)) [] (SizeOf.sizeOf x.af<n/\0<=r/\r<=1048576):=by
 refine Ctr.bd func54 ntmps54 λhp=>?_;refine AW.f0 0 λhf=>?_;have le1:=mI x.fType (r - x.ae.length)
 have le2:=bh aC aQ x.ax (ed x.fType (r - x.ae.length))
 have le3:=bh aC aQ x.aH (aJ aC x.ax (ed x.fType (r - x.ae.length)))
 have le5:=bh cY fT x.bP ((aJ aC x.aH (aJ aC x.ax (ed x.fType (r - x.ae.length)))) - x.bw.length)
 have le6:=bh cY fT x.cE (aJ cY x.bP ((aJ aC x.aH (aJ aC x.ax (ed x.fType (r - x.ae.length)))) - x.bw.length))
 have le7:=bh ck gQ x.af (aJ cY x.cE (aJ cY x.bP ((aJ aC x.aH (aJ aC x.ax (ed x.fType (r - x.ae.length)))) - x.bw.length)));rw[tz]
 ((refine vU ?_;with_reducible repeat' first|exact Le.l|apply Sw|intro h);all_goals simp only[thn,aC,id];all_goals refine congrArg (λz=>AV.aa z) ?_;all_goals (repeat' split);all_goals omega)
theorem y6(L:gaa)[hL:Lok L]:∀(n:Nat) (l:List ag) (r:Int),Ctr L prog 9 [] [.ab 19 ak l,.aa r] (.aa (aJ ck l r)) [] (SizeOf.sizeOf l<n/\0<=r/\r<=1048576)
 | 0,l,r=>⟨(aT 9),λh=>absurd h.1 (Nat.not_lt_zero _)⟩
 | n+1,l,r=>by
  have hx:=Ke L n (y6 L n);refine Ctr.bd func9 ntmps9 λhp=>?_;refine AW.f0 0 λhf=>?_;have hf:=Nat.le_trans hf (hL.le 19)
  (refine vU2 ?_ ?_<;>intro h)
  ·rw[gf h]
  rw[gF h];refine AW.aw [1,5] [0] (λm xs o=>∃(k:Nat) (q:Int),xs=[.aa q,.aa k]/\o=[]/\m=l.length - k/\k<=l.length/\0<=q/\q<=1048576/\eS ck (l.drop k) q=eS ck l (r - l.length)) l.length [] trivial ⟨0,_,?_,rfl,rfl,?_,?_,?_,rfl⟩ ?_
  ·rfl
  ·omega
  ·omega
  ·omega
  rintro m xs o ⟨k,q,rfl,rfl,rfl,hk,h0,h1,hR⟩;have hle:=gQ (at_ l k) q h0
  have hkk:k<l.length->SizeOf.sizeOf (at_ l k).af<n:=λh=>by have:=ag.dA (at_mem h);omega
  (refine vU3 ?_ ?_ ?_<;>with_reducible repeat intro h)
  ·rw[fF baa,if_pos (by first|exact h|(rw[hsz];exact h))]at hR;rw[hR]
  ·rw[fF baa,if_neg Um]at hR;exact⟨_,[_,_],[],Um,⟨k+1,_,rfl,rfl,rfl,Um,Um,Um,hR⟩,rfl,trivial⟩
  ·rw[jA h]at hR;rw[hR]
instance(L:gaa)[hL:Lok L](l:List ag)(r:Int):Ctr L prog 9 [] [.ab 19 ak l,.aa r] (.aa (aJ ck l r)) [] (0<=r/\r<=1048576):=⟨(aT 9),λh=>(y6 L (SizeOf.sizeOf l+1) l r).out ⟨Nat.lt_succ_self _,h⟩⟩
theorem J8(n:Nat)(ih:∀l:List ag,Ctr lim prog 13 [] [.ab 19 ak l] (.ad 19 ak l) [] (SizeOf.sizeOf l<n))(x:ag):Ctr lim prog 62 [] [.agg (cSc x)] (.agg [.aa x.aj,.str x.ae,.aa x.fType.aj,.ad 2 aU x.fType.ay,.am x.fType.aB,.str x.fType.aY,.str x.fType.aF,.am x.ax,.am x.aH,.str x.bw,.ac x.cX,.ac x.dm,.ac x.bQ,.ac x.ez,.aa x.iH,.aa x.iI,.ad 7 aN x.bP,.ad 7 aN x.cE,.ad 19 ak x.af]) [] (SizeOf.sizeOf x.af<n):=by
 refine Ctr.bd func62 ntmps62 λhp=>?_
 all_goals exact uU
theorem y5:∀(n:Nat) (l:List ag),Ctr lim prog 13 [] [.ab 19 ak l] (.ad 19 ak l) [] (SizeOf.sizeOf l<n)
 | 0,l=>⟨(aT 13),λh=>absurd h (Nat.not_lt_zero _)⟩
 | n+1,l=>by
  have hx:=J8 n (y5 n);refine Ctr.bd func13 ntmps13 λhp=>?_;refine AW.f0 0 λhf=>?_
  (refine vU1 ?_;intro h)
  refine AW.aw [4] [0,3] (λm xs o=>∃k:Nat,xs=[.aa k]/\o=[(h,some (mkC (ak true) [.int .i64 0,.string ⟨#[]⟩,.int .i64 0,.slice none 0 0,.slice none 0 0,.string ⟨#[]⟩,.string ⟨#[]⟩,.slice none 0 0,.slice none 0 0,.string ⟨#[]⟩,.bool false,.bool false,.bool false,.bool false,.int .i64 0,.int .i64 0,.slice none 0 0,.slice none 0 0,.slice none 0 0] l k))]/\m=l.length - k/\k<=l.length) l.length [(h,some (mkC (ak true) [.int .i64 0,.string ⟨#[]⟩,.int .i64 0,.slice none 0 0,.slice none 0 0,.string ⟨#[]⟩,.string ⟨#[]⟩,.slice none 0 0,.slice none 0 0,.string ⟨#[]⟩,.bool false,.bool false,.bool false,.bool false,.int .i64 0,.int .i64 0,.slice none 0 0,.slice none 0 0,.slice none 0 0] l 0))] (aE (jg _ _ _)) ⟨0,?_,rfl,rfl,?_⟩ ?_
  ·rfl
  ·omega
  rintro m xs o ⟨k,rfl,rfl,rfl,hk⟩;have hml:=j3 (ak true) [.int .i64 0,.string ⟨#[]⟩,.int .i64 0,.slice none 0 0,.slice none 0 0,.string ⟨#[]⟩,.string ⟨#[]⟩,.slice none 0 0,.slice none 0 0,.string ⟨#[]⟩,.bool false,.bool false,.bool false,.bool false,.int .i64 0,.int .i64 0,.slice none 0 0,.slice none 0 0,.slice none 0 0] 19 (λx=>by rw[dC];rfl) rfl l k hk
  have hkk:k<l.length->SizeOf.sizeOf (at_ l k).af<n:=λh=>by have:=ag.dA (at_mem h);omega
  (refine vX2 ?_ ?_<;>intro h)
  ·exact⟨_,[_],_,Um,⟨k+1,rfl,rfl,rfl,Um⟩,rfl,aE (by have:=lT (ak true) [.int .i64 0,.string ⟨#[]⟩,.int .i64 0,.slice none 0 0,.slice none 0 0,.string ⟨#[]⟩,.string ⟨#[]⟩,.slice none 0 0,.slice none 0 0,.string ⟨#[]⟩,.bool false,.bool false,.bool false,.bool false,.int .i64 0,.int .i64 0,.slice none 0 0,.slice none 0 0,.slice none 0 0] 19 (λx=>by rw[dC];rfl) rfl l k h;simp only[go_sem,Nat.mul_one]at this ⊢;exact this.symm)⟩
  ·refine AW.made 2 rfl h hk (λx=>by rw[dC];rfl) ?_
   all_goals exact uU
instance(l:List ag):Ctr lim prog 13 [] [.ab 19 ak l] (.ad 19 ak l) [] True:=⟨(aT 13),λ_=>(y5 (SizeOf.sizeOf l+1) l).out (Nat.lt_succ_self _)⟩
instance(L:gaa)[hL:Lok L](x:fE):Ctr L prog 218 [] [.agg [.ab 3 ai x.fc,.aa x.fBy,.aa x.fAt],.agg [.ab 3 ai x.fc,.aa x.fBy,.aa x.fAt]] (.ac true) [] True:=by
 refine Ctr.bd func218 ntmps218 λhp=>?_
 all_goals exact uU
instance(L:gaa)[hL:Lok L](l:List fE):Ctr L prog 156 [] [.ab 3 bM l,.ab 3 bM l] (.ac true) [] True:=by
 refine Ctr.bd func156 ntmps156 λhp=>?_;refine AW.f0 0 λhf=>?_;have hf:=Nat.le_trans hf (hL.le 3)
 (refine vU1 ?_;intro h)
 refine AW.aw [5] [0,1] (λm xs o=>∃k:Nat,xs=[.aa k]/\o=[]/\m=l.length - k/\k<=l.length) l.length [] trivial ⟨0,?_,rfl,rfl,?_⟩ ?_
 ·rfl
 ·omega
 rintro m xs o ⟨k,rfl,rfl,rfl,hk⟩
 (refine vU1 ?_;intro h h)
 exact⟨_,[_],[],Um,⟨k+1,rfl,rfl,rfl,Um⟩,rfl,trivial⟩
instance(L:gaa)[hL:Lok L](x:fE)(r:Int):Ctr L prog 216 [] [.agg [.ab 3 ai x.fc,.aa x.fBy,.aa x.fAt],.aa r] (.aa (eY x r)) [] (0<=r/\r<=1048576):=by
 refine Ctr.bd func216 ntmps216 λhp=>?_;refine AW.f0 0 λhf=>?_;have le0:=bh bF cy x.fc r;unfold eY
 ((refine vU2 ?_ ?_<;>intro h);all_goals simp only[thn,aC,id];all_goals refine congrArg (λz=>AV.aa z) ?_;all_goals (repeat' split);all_goals omega)
instance(L:gaa)[hL:Lok L](l:List fE)(r:Int):Ctr L prog 152 [] [.ab 3 bM l,.aa r] (.aa (aJ eY l r)) [] (0<=r/\r<=1048576):=by
 refine Ctr.bd func152 ntmps152 λhp=>?_;refine AW.f0 0 λhf=>?_;have hf:=Nat.le_trans hf (hL.le 3)
 (refine vU2 ?_ ?_<;>intro h)
 ·rw[gf h]
 rw[gF h];refine AW.aw [1,5] [0] (λm xs o=>∃(k:Nat) (q:Int),xs=[.aa q,.aa k]/\o=[]/\m=l.length - k/\k<=l.length/\0<=q/\q<=1048576/\eS eY (l.drop k) q=eS eY l (r - l.length)) l.length [] trivial ⟨0,_,?_,rfl,rfl,?_,?_,?_,rfl⟩ ?_
 ·rfl
 ·omega
 ·omega
 ·omega
 rintro m xs o ⟨k,q,rfl,rfl,rfl,hk,h0,h1,hR⟩;have hle:=lO (at_ l k) q h0
 (refine vU3 ?_ ?_ ?_<;>with_reducible repeat intro h)
 ·rw[fF baa,if_pos (by first|exact h|(rw[hsz];exact h))]at hR;rw[hR]
 ·rw[fF baa,if_neg Um]at hR;exact⟨_,[_,_],[],Um,⟨k+1,_,rfl,rfl,rfl,Um,Um,Um,hR⟩,rfl,trivial⟩
 ·rw[jA h]at hR;rw[hR]
instance(x:fE):Ctr lim prog 217 [] [.agg [.ab 3 ai x.fc,.aa x.fBy,.aa x.fAt]] (.agg [.ad 3 ai x.fc,.aa x.fBy,.aa x.fAt]) [] True:=by
 refine Ctr.bd func217 ntmps217 λhp=>?_
 all_goals exact uU
instance(l:List fE):Ctr lim prog 154 [] [.ab 3 bM l] (.ad 3 bM l) [] True:=by
 refine Ctr.bd func154 ntmps154 λhp=>?_;refine AW.f0 0 λhf=>?_
 (refine vU1 ?_;intro h)
 refine AW.aw [4] [0,3] (λm xs o=>∃k:Nat,xs=[.aa k]/\o=[(h,some (mkC (bM true) [.slice none 0 0,.int .i64 0,.int .i64 0] l k))]/\m=l.length - k/\k<=l.length) l.length [(h,some (mkC (bM true) [.slice none 0 0,.int .i64 0,.int .i64 0] l 0))] (aE (jg _ _ _)) ⟨0,?_,rfl,rfl,?_⟩ ?_
 ·rfl
 ·omega
 rintro m xs o ⟨k,rfl,rfl,rfl,hk⟩;have hml:=j3 (bM true) [.slice none 0 0,.int .i64 0,.int .i64 0] 3 (λ_=>rfl) rfl l k hk
 (refine vX2 ?_ ?_<;>intro h)
 ·exact⟨_,[_],_,Um,⟨k+1,rfl,rfl,rfl,Um⟩,rfl,aE (by have:=lT (bM true) [.slice none 0 0,.int .i64 0,.int .i64 0] 3 (λ_=>rfl) rfl l k h;simp only[go_sem,Nat.mul_one]at this ⊢;exact this.symm)⟩
 ·refine AW.made 2 rfl h hk (λ_=>rfl) ?_
  all_goals exact uU
instance(L:gaa)[hL:Lok L](x:iT):Ctr L prog 157 [] [.agg [.ac x.fOn,.aa x.ij,.aa x.fBy,.str x.ae,.ab 3 ai x.dZ],.agg [.ac x.fOn,.aa x.ij,.aa x.fBy,.str x.ae,.ab 3 ai x.dZ]] (.ac true) [] True:=by
 refine Ctr.bd func157 ntmps157 λhp=>?_
 all_goals exact uU
instance(L:gaa)[hL:Lok L](x:iT)(r:Int):Ctr L prog 153 [] [.agg [.ac x.fOn,.aa x.ij,.aa x.fBy,.str x.ae,.ab 3 ai x.dZ],.aa r] (.aa (kQ x r)) [] (0<=r/\r<=1048576):=by
 refine Ctr.bd func153 ntmps153 λhp=>?_;refine AW.f0 0 λhf=>?_;have le1:=bh bF cy x.dZ (r - x.ae.length);unfold kQ
 ((refine vU3 ?_ ?_ ?_<;>with_reducible repeat intro h);all_goals simp only[thn,aC,id];all_goals refine congrArg (λz=>AV.aa z) ?_;all_goals (repeat' split);all_goals omega)
instance(x:iT):Ctr lim prog 155 [] [.agg [.ac x.fOn,.aa x.ij,.aa x.fBy,.str x.ae,.ab 3 ai x.dZ]] (.agg [.ac x.fOn,.aa x.ij,.aa x.fBy,.str x.ae,.ad 3 ai x.dZ]) [] True:=by
 refine Ctr.bd func155 ntmps155 λhp=>?_
 all_goals exact uU
instance(L:gaa)[hL:Lok L](x:lA):Ctr L prog 97 [] [.agg [.ab 19 ak x.aP,.ab 3 ai x.bf,.ab 3 ai x.cw,.aa x.lg,.ab 3 bM x.dS,.ac x.bG.fOn,.aa x.bG.ij,.aa x.bG.fBy,.str x.bG.ae,.ab 3 ai x.bG.dZ],.agg [.ab 19 ak x.aP,.ab 3 ai x.bf,.ab 3 ai x.cw,.aa x.lg,.ab 3 bM x.dS,.ac x.bG.fOn,.aa x.bG.ij,.aa x.bG.fBy,.str x.bG.ae,.ab 3 ai x.bG.dZ]] (.ac true) [] True:=by
 refine Ctr.bd func97 ntmps97 λhp=>?_
 all_goals exact uU
instance(L:gaa)[hL:Lok L](x:lA)(r:Int):Ctr L prog 93 [] [.agg [.ab 19 ak x.aP,.ab 3 ai x.bf,.ab 3 ai x.cw,.aa x.lg,.ab 3 bM x.dS,.ac x.bG.fOn,.aa x.bG.ij,.aa x.bG.fBy,.str x.bG.ae,.ab 3 ai x.bG.dZ],.aa r] (.aa (jw x r)) [] (0<=r/\r<=1048576):=by
 refine Ctr.bd func93 ntmps93 λhp=>?_;refine AW.f0 0 λhf=>?_;have le0:=bh ck gQ x.aP r
 have le1:=bh bF cy x.bf (aJ ck x.aP r)
 have le2:=bh bF cy x.cw (aJ bF x.bf (aJ ck x.aP r))
 have le3:=bh eY lO x.dS (aJ bF x.cw (aJ bF x.bf (aJ ck x.aP r)))
 have le4:=rC x.bG (aJ eY x.dS (aJ bF x.cw (aJ bF x.bf (aJ ck x.aP r))));unfold jw
 ((refine vU6 ?_ ?_ ?_ ?_ ?_ ?_<;>with_reducible repeat intro h);all_goals simp only[thn,aC,id];all_goals refine congrArg (λz=>AV.aa z) ?_;all_goals (repeat' split);all_goals omega)
instance(x:lA):Ctr lim prog 95 [] [.agg [.ab 19 ak x.aP,.ab 3 ai x.bf,.ab 3 ai x.cw,.aa x.lg,.ab 3 bM x.dS,.ac x.bG.fOn,.aa x.bG.ij,.aa x.bG.fBy,.str x.bG.ae,.ab 3 ai x.bG.dZ]] (.agg [.ad 19 ak x.aP,.ad 3 ai x.bf,.ad 3 ai x.cw,.aa x.lg,.ad 3 bM x.dS,.ac x.bG.fOn,.aa x.bG.ij,.aa x.bG.fBy,.str x.bG.ae,.ad 3 ai x.bG.dZ]) [] True:=by
 refine Ctr.bd func95 ntmps95 λhp=>?_
 all_goals exact uU
instance(L:gaa)[hL:Lok L](x:dx):Ctr L prog 33 [] [.agg [.str x.ae,.ab 19 ak x.av.aP,.ab 3 ai x.av.bf,.ab 3 ai x.av.cw,.aa x.av.lg,.ab 3 bM x.av.dS,.ac x.av.bG.fOn,.aa x.av.bG.ij,.aa x.av.bG.fBy,.str x.av.bG.ae,.ab 3 ai x.av.bG.dZ,.ab 3 ai x.dF,.ac x.fUp,.aa x.vO,.ac x.vP],.agg [.str x.ae,.ab 19 ak x.av.aP,.ab 3 ai x.av.bf,.ab 3 ai x.av.cw,.aa x.av.lg,.ab 3 bM x.av.dS,.ac x.av.bG.fOn,.aa x.av.bG.ij,.aa x.av.bG.fBy,.str x.av.bG.ae,.ab 3 ai x.av.bG.dZ,.ab 3 ai x.dF,.ac x.fUp,.aa x.vO,.ac x.vP]] (.ac true) [] True:=by
 refine Ctr.bd func33 ntmps33 λhp=>?_
 all_goals exact uU
instance(L:gaa)[hL:Lok L](l:List dx):Ctr L prog 39 [] [.ab 15 cn l,.ab 15 cn l] (.ac true) [] True:=by
 refine Ctr.bd func39 ntmps39 λhp=>?_;refine AW.f0 0 λhf=>?_;have hf:=Nat.le_trans hf (hL.le 15)
 (refine vU1 ?_;intro h)
 refine AW.aw [5] [0,1] (λm xs o=>∃k:Nat,xs=[.aa k]/\o=[]/\m=l.length - k/\k<=l.length) l.length [] trivial ⟨0,?_,rfl,rfl,?_⟩ ?_
 ·rfl
 ·omega
 rintro m xs o ⟨k,rfl,rfl,rfl,hk⟩
 (refine vU1 ?_;intro h h)
 exact⟨_,[_],[],Um,⟨k+1,rfl,rfl,rfl,Um⟩,rfl,trivial⟩
instance(L:gaa)[hL:Lok L](x:dx)(r:Int):Ctr L prog 29 [] [.agg [.str x.ae,.ab 19 ak x.av.aP,.ab 3 ai x.av.bf,.ab 3 ai x.av.cw,.aa x.av.lg,.ab 3 bM x.av.dS,.ac x.av.bG.fOn,.aa x.av.bG.ij,.aa x.av.bG.fBy,.str x.av.bG.ae,.ab 3 ai x.av.bG.dZ,.ab 3 ai x.dF,.ac x.fUp,.aa x.vO,.ac x.vP],.aa r] (.aa (da x r)) [] (0<=r/\r<=1048576):=by
 refine Ctr.bd func29 ntmps29 λhp=>?_;refine AW.f0 0 λhf=>?_;have le1:=qK x.av (r - x.ae.length)
 have le2:=bh bF cy x.dF (jw x.av (r - x.ae.length));unfold da
 ((refine vU4 ?_ ?_ ?_ ?_<;>with_reducible repeat intro h);all_goals simp only[thn,aC,id];all_goals refine congrArg (λz=>AV.aa z) ?_;all_goals (repeat' split);all_goals omega)
instance(L:gaa)[hL:Lok L](l:List dx)(r:Int):Ctr L prog 34 [] [.ab 15 cn l,.aa r] (.aa (aJ da l r)) [] (0<=r/\r<=1048576):=by
 refine Ctr.bd func34 ntmps34 λhp=>?_;refine AW.f0 0 λhf=>?_;have hf:=Nat.le_trans hf (hL.le 15)
 (refine vU2 ?_ ?_<;>intro h)
 ·rw[gf h]
 rw[gF h];refine AW.aw [1,5] [0] (λm xs o=>∃(k:Nat) (q:Int),xs=[.aa q,.aa k]/\o=[]/\m=l.length - k/\k<=l.length/\0<=q/\q<=1048576/\eS da (l.drop k) q=eS da l (r - l.length)) l.length [] trivial ⟨0,_,?_,rfl,rfl,?_,?_,?_,rfl⟩ ?_
 ·rfl
 ·omega
 ·omega
 ·omega
 rintro m xs o ⟨k,q,rfl,rfl,rfl,hk,h0,h1,hR⟩;have hle:=lE (at_ l k) q h0
 (refine vU3 ?_ ?_ ?_<;>with_reducible repeat intro h)
 ·rw[fF baa,if_pos (by first|exact h|(rw[hsz];exact h))]at hR;rw[hR]
 ·rw[fF baa,if_neg Um]at hR;exact⟨_,[_,_],[],Um,⟨k+1,_,rfl,rfl,rfl,Um,Um,Um,hR⟩,rfl,trivial⟩
 ·rw[jA h]at hR;rw[hR]
instance(x:dx):Ctr lim prog 31 [] [.agg [.str x.ae,.ab 19 ak x.av.aP,.ab 3 ai x.av.bf,.ab 3 ai x.av.cw,.aa x.av.lg,.ab 3 bM x.av.dS,.ac x.av.bG.fOn,.aa x.av.bG.ij,.aa x.av.bG.fBy,.str x.av.bG.ae,.ab 3 ai x.av.bG.dZ,.ab 3 ai x.dF,.ac x.fUp,.aa x.vO,.ac x.vP]] (.agg [.str x.ae,.ad 19 ak x.av.aP,.ad 3 ai x.av.bf,.ad 3 ai x.av.cw,.aa x.av.lg,.ad 3 bM x.av.dS,.ac x.av.bG.fOn,.aa x.av.bG.ij,.aa x.av.bG.fBy,.str x.av.bG.ae,.ad 3 ai x.av.bG.dZ,.ad 3 ai x.dF,.ac x.fUp,.aa x.vO,.ac x.vP]) [] True:=by
 refine Ctr.bd func31 ntmps31 λhp=>?_
 all_goals exact uU
instance(l:List dx):Ctr lim prog 36 [] [.ab 15 cn l] (.ad 15 cn l) [] True:=by
 refine Ctr.bd func36 ntmps36 λhp=>?_;refine AW.f0 0 λhf=>?_
 (refine vU1 ?_;intro h)
 refine AW.aw [4] [0,3] (λm xs o=>∃k:Nat,xs=[.aa k]/\o=[(h,some (mkC (cn true) [.string ⟨#[]⟩,.slice none 0 0,.slice none 0 0,.slice none 0 0,.int .i64 0,.slice none 0 0,.bool false,.int .i64 0,.int .i64 0,.string ⟨#[]⟩,.slice none 0 0,.slice none 0 0,.bool false,.int .i64 0,.bool false] l k))]/\m=l.length - k/\k<=l.length) l.length [(h,some (mkC (cn true) [.string ⟨#[]⟩,.slice none 0 0,.slice none 0 0,.slice none 0 0,.int .i64 0,.slice none 0 0,.bool false,.int .i64 0,.int .i64 0,.string ⟨#[]⟩,.slice none 0 0,.slice none 0 0,.bool false,.int .i64 0,.bool false] l 0))] (aE (jg _ _ _)) ⟨0,?_,rfl,rfl,?_⟩ ?_
 ·rfl
 ·omega
 rintro m xs o ⟨k,rfl,rfl,rfl,hk⟩;have hml:=j3 (cn true) [.string ⟨#[]⟩,.slice none 0 0,.slice none 0 0,.slice none 0 0,.int .i64 0,.slice none 0 0,.bool false,.int .i64 0,.int .i64 0,.string ⟨#[]⟩,.slice none 0 0,.slice none 0 0,.bool false,.int .i64 0,.bool false] 15 (λ_=>rfl) rfl l k hk
 (refine vX2 ?_ ?_<;>intro h)
 ·exact⟨_,[_],_,Um,⟨k+1,rfl,rfl,rfl,Um⟩,rfl,aE (by have:=lT (cn true) [.string ⟨#[]⟩,.slice none 0 0,.slice none 0 0,.slice none 0 0,.int .i64 0,.slice none 0 0,.bool false,.int .i64 0,.int .i64 0,.string ⟨#[]⟩,.slice none 0 0,.slice none 0 0,.bool false,.int .i64 0,.bool false] 15 (λ_=>rfl) rfl l k h;simp only[go_sem,Nat.mul_one]at this ⊢;exact this.symm)⟩
 ·refine AW.made 2 rfl h hk (λ_=>rfl) ?_
  all_goals exact uU
instance(L:gaa)[hL:Lok L](x:iw):Ctr L prog 158 [] [.agg [.str x.uF,.ab 3 ai x.fc,.aa x.ik],.agg [.str x.uF,.ab 3 ai x.fc,.aa x.ik]] (.ac true) [] True:=by
 refine Ctr.bd func158 ntmps158 λhp=>?_
 all_goals exact uU
instance(L:gaa)[hL:Lok L](l:List iw):Ctr L prog 98 [] [.ab 3 cz l,.ab 3 cz l] (.ac true) [] True:=by
 refine Ctr.bd func98 ntmps98 λhp=>?_;refine AW.f0 0 λhf=>?_;have hf:=Nat.le_trans hf (hL.le 3)
 (refine vU1 ?_;intro h)
 refine AW.aw [5] [0,1] (λm xs o=>∃k:Nat,xs=[.aa k]/\o=[]/\m=l.length - k/\k<=l.length) l.length [] trivial ⟨0,?_,rfl,rfl,?_⟩ ?_
 ·rfl
 ·omega
 rintro m xs o ⟨k,rfl,rfl,rfl,hk⟩
 (refine vU1 ?_;intro h h)
 exact⟨_,[_],[],Um,⟨k+1,rfl,rfl,rfl,Um⟩,rfl,trivial⟩
instance(L:gaa)[hL:Lok L](x:ib):Ctr L prog 38 [] [.agg [.aa x.ik,.ab 3 cz x.eu],.agg [.aa x.ik,.ab 3 cz x.eu]] (.ac true) [] True:=by
 refine Ctr.bd func38 ntmps38 λhp=>?_
 all_goals exact uU
instance(x:dq):Ctr lim prog 234 [] [.agg [.aa x.aj,.ab 2 aU x.ay,.al x.aB,.str x.aY,.str x.aF]] (.agg [.aa x.aj,.ad 2 aU x.ay,.am x.aB,.str x.aY,.str x.aF]) [] True:=by
 refine Ctr.bd func234 ntmps234 λhp=>?_;refine AW.f1 0 λhf=>?_
 (refine bU1 ?_;intro h h h)
 rfl
end Go.Proofs
namespace Go.Ab
open Go.Ab
def bW{α:Type}{e:α->AV}{sz:Nat}(h:∀x,(e x).elem sz=true)(l:List α):∀x,x∈l.map e->x.elem sz=true:=by intro x hx;obtain⟨y,_,rfl⟩:=List.mem_map.1 hx;exact h y
end Go.Ab
namespace Go.Proofs
open Go.Ab Go.Dt
def Jk:∀(l:List Str) (k:Int),mkL aA l k=(mks l.length k,k+l.length)
 | [],k=>by simp[mkL,mks]
 | x::xs,k=>by
  have:=Jk xs (k+1);simp only[mkL,aA,this,length_cons,mks]
  congr 1;omega
instance(l:List Str)(k:Int):fI lim prog 50 1 (l.map AV.str) [.aa k] (.aa (mkL aA l k).2) ((mkL aA l k).1.map AV.str) (0<=k/\(mkL aA l k).2<=1099511627776):=by rw[Jk];exact Ep l k
