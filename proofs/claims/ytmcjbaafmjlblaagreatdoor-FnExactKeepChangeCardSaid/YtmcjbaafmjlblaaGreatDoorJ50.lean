/- A part. -/
import Derived.Test.YtmcjbaafmjlblaaGreatDoorJ43
import Derived.Test.YtmcjbaafmjlblaaGreatDoorJ49
set_option linter.all false
set_option maxRecDepth 20000
set_option maxHeartbeats 4000000
namespace Go.Proofs
open Go.Ab Go.Dt
section
attribute [-instance] F4 Ji cPf
instance Uj(L:Nat->Nat)[hL:Lok L](x:bV):Ctr L Tryz.prog 136 [] [.agg [.v (.int .i64 x.fAt),.v (.int .i64 x.fBy),.sl false 4 (x.dG.map (aH false))],.agg [.v (.int .i64 x.fAt),.v (.int .i64 x.fBy),.sl false 4 (x.dG.map (aH false))]] (.v (.bool true)) [] True:=by
 refine Ctr.bd Tryz.func136 Tryz.ntmps136 rfl rfl fun hp=>?_
 all_goals exact uU
instance SZ(L:Nat->Nat)[hL:Lok L](l:List bV):Ctr L Tryz.prog 97 [] [.sl false 3 (l.map (az false)),.sl false 3 (l.map (az false))] (.v (.bool true)) [] True:=by
 refine Ctr.bd Tryz.func97 Tryz.ntmps97 rfl rfl fun hp=>?_
 refine AW.fact 0 fun hf=>?_
 simp (disch:=omega) only [go_sem,Nat.reduceBEq] at hf
 have hf:=Nat.le_trans hf (hL.le 3)
 (refine vU ?_;with_reducible repeat' first|exact Le.l|apply Sw|intro h)
 refine AW.aA [5] [0,1] (fun m xs o=>∃ k:Nat,xs=[.v (.int .i64 k)]/\o=[]/\m=l.length - k/\k<=l.length) l.length [] trivial ⟨0,?_,rfl,rfl,?_⟩ ?_
 ·rfl
 ·omega
 rintro m xs o ⟨k,rfl,rfl,rfl,hk⟩
 (refine vU ?_;with_reducible repeat' first|exact Le.l|apply Sw|intro h)
 exact ⟨_,[_],[],by omega,⟨k+1,rfl,rfl,rfl,by omega⟩,rfl,trivial⟩
instance Th(L:Nat->Nat)[hL:Lok L](x:bV)(r:Int):Ctr L Tryz.prog 134 [] [.agg [.v (.int .i64 x.fAt),.v (.int .i64 x.fBy),.sl false 4 (x.dG.map (aH false))],.v (.int .i64 r)] (.v (.int .i64 (fo x r))) [] (0<=r/\r<=1048576):=by
 refine Ctr.bd Tryz.func134 Tryz.ntmps134 rfl rfl fun hp=>?_
 refine AW.fact 0 fun hf=>?_
 simp (disch:=omega) only [go_sem,Nat.reduceBEq] at hf
 have le0:=aZ dM fT x.dG r
 unfold fo
 ((refine vU ?_;with_reducible repeat' first|exact Le.l|apply Sw|intro h);all_goals simp only [thn,aC,id];all_goals refine congrArg (fun z=>AV.v (.int .i64 z)) ?_;all_goals (repeat' split);all_goals omega)
instance SB(L:Nat->Nat)[hL:Lok L](l:List bV)(r:Int):Ctr L Tryz.prog 87 [] [.sl false 3 (l.map (az false)),.v (.int .i64 r)] (.v (.int .i64 (aG fo l r))) [] (0<=r/\r<=1048576):=by
 refine Ctr.bd Tryz.func87 Tryz.ntmps87 rfl rfl fun hp=>?_
 refine AW.fact 0 fun hf=>?_
 simp (disch:=omega) only [go_sem,Nat.reduceBEq] at hf
 have hf:=Nat.le_trans hf (hL.le 3)
 (refine vU ?_;with_reducible repeat' first|exact Le.l|apply Sw|intro h)
 ·rw [fQ h]
 rw [gr h]
 refine AW.aA [1,5] [0] (fun m xs o=>∃ (k:Nat) (q:Int),xs=[.v (.int .i64 q),.v (.int .i64 k)]/\o=[]/\m=l.length - k/\k<=l.length/\0<=q/\q<=1048576/\eD fo (l.drop k) q=eD fo l (r - l.length)) l.length [] trivial ⟨0,_,?_,rfl,rfl,?_,?_,?_,rfl⟩ ?_
 ·rfl
 ·omega
 ·omega
 ·omega
 rintro m xs o ⟨k,q,rfl,rfl,rfl,hk,h0,h1,hR⟩
 have hle:=jJ (at_ l k) q h0
 (refine vU ?_;with_reducible repeat' first|exact Le.l|apply Sw|intro h)
 ·rw [fX (by assumption),if_pos (by first|exact h|(rw [hsz];exact h))] at hR;rw [hR]
 ·rw [fX (by assumption),if_neg (by omega)] at hR
  exact ⟨_,[_,_],[],by omega,⟨k+1,_,rfl,rfl,rfl,by omega,by omega,by omega,hR⟩,rfl,trivial⟩
 ·rw [j4 h] at hR;rw [hR]
instance Tc(x:bV):Ctr lim Tryz.prog 135 [] [.agg [.v (.int .i64 x.fAt),.v (.int .i64 x.fBy),.sl false 4 (x.dG.map (aH false))]] (.agg [.v (.int .i64 x.fAt),.v (.int .i64 x.fBy),.sl true 4 (x.dG.map (aH true))]) [] True:=by
 refine Ctr.bd Tryz.func135 Tryz.ntmps135 rfl rfl fun hp=>?_
 all_goals exact uU
instance Sv(l:List bV):Ctr lim Tryz.prog 93 [] [.sl false 3 (l.map (az false))] (.sl true 3 (l.map (az true))) [] True:=by
 refine Ctr.bd Tryz.func93 Tryz.ntmps93 rfl rfl fun hp=>?_
 refine AW.fact 0 fun hf=>?_
 simp (disch:=omega) only [go_sem,Nat.reduceBEq] at hf
 (refine vU ?_;with_reducible repeat' first|exact Le.l|apply Sw|intro h)
 refine AW.aA [4] [0,3] (fun m xs o=>∃ k:Nat,xs=[.v (.int .i64 k)]/\o=[(h,some (mkC (az true) [.int .i64 0,.int .i64 0,.slice none 0 0] l k))]/\m=l.length - k/\k<=l.length) l.length [(h,some (mkC (az true) [.int .i64 0,.int .i64 0,.slice none 0 0] l 0))] (bw (jN _ _ _)) ⟨0,?_,rfl,rfl,?_⟩ ?_
 ·rfl
 ·omega
 rintro m xs o ⟨k,rfl,rfl,rfl,hk⟩
 have hml:=kH (az true) [.int .i64 0,.int .i64 0,.slice none 0 0] 3 (fun _=>rfl) rfl l k hk
 (refine vX ?_;with_reducible repeat' first|exact Le.l|apply Sw|intro h)
 ·exact ⟨_,[_],_,by omega,⟨k+1,rfl,rfl,rfl,by omega⟩,rfl,bw (by have:=l9 (az true) [.int .i64 0,.int .i64 0,.slice none 0 0] 3 (fun _=>rfl) rfl l k h;simp only [go_sem,Nat.mul_one] at this ⊢;exact this.symm)⟩
 ·refine AW.made 2 rfl h hk (fun _=>rfl) ?_
  all_goals exact uU
instance FO(L:Nat->Nat)[hL:Lok L](x:bu):Ctr L Tryz.prog 42 [] [.agg [.sl false 3 (x.aQ.map (aj false)),.sl false 3 (x.aF.map (az false))],.agg [.sl false 3 (x.aQ.map (aj false)),.sl false 3 (x.aF.map (az false))]] (.v (.bool true)) [] True:=by
 refine Ctr.bd Tryz.func42 Tryz.ntmps42 rfl rfl fun hp=>?_
 all_goals exact uU
instance SA(L:Nat->Nat)[hL:Lok L](x:bu)(r:Int):Ctr L Tryz.prog 38 [] [.agg [.sl false 3 (x.aQ.map (aj false)),.sl false 3 (x.aF.map (az false))],.v (.int .i64 r)] (.v (.int .i64 (cW x r))) [] (0<=r/\r<=1048576):=by
 refine Ctr.bd Tryz.func38 Tryz.ntmps38 rfl rfl fun hp=>?_
 refine AW.fact 0 fun hf=>?_
 simp (disch:=omega) only [go_sem,Nat.reduceBEq] at hf
 have le0:=aZ bM dC x.aQ r
 have le1:=aZ fo jJ x.aF (aG bM x.aQ r)
 unfold cW
 ((refine vU ?_;with_reducible repeat' first|exact Le.l|apply Sw|intro h);all_goals simp only [thn,aC,id];all_goals refine congrArg (fun z=>AV.v (.int .i64 z)) ?_;all_goals (repeat' split);all_goals omega)
instance Su(x:bu):Ctr lim Tryz.prog 40 [] [.agg [.sl false 3 (x.aQ.map (aj false)),.sl false 3 (x.aF.map (az false))]] (.agg [.sl true 3 (x.aQ.map (aj true)),.sl true 3 (x.aF.map (az true))]) [] True:=by
 refine Ctr.bd Tryz.func40 Tryz.ntmps40 rfl rfl fun hp=>?_
 all_goals exact uU
end
section
attribute [-instance] F4 Ji cPf
theorem nC(o:Bool)(l:List bV):(l.map (az o)).all (AV.elem 3)=true:=cX (fun _=>rfl) l
theorem nB(o:Bool)(l:List bV):((l.map (az o)).flatMap AV.cells).all AV.one=true:=dw (fun _=>rfl) l
attribute [local go_sem] ba aI aS gV gU nC nB
instance Wz(x:bu):Ctr lim Tryz.prog 94 [] [.agg [.sl false 3 (x.aQ.map (aj false)),.sl false 3 (x.aF.map (az false))]] (.agg [.sl true 3 (x.aQ.map (aj true)),.sl true 3 (x.aF.map (az true))]) [] True:=by
 refine Ctr.bd Tryz.func94 Tryz.ntmps94 rfl rfl fun hp=>?_
 have gOn:=bA.on
 refine AW.kU 0 rfl (xs:=x.aF.map (az false)) (own:=false) (sz:=3) (by simp) fun hg=>?_
 simp (disch:=omega) only [go_sem] at hg
 (refine vN ?_;with_reducible repeat' first|exact Le.l|apply Sw|intro h)
 refine Z ?_
 (refine vN ?_;with_reducible repeat' first|exact Le.l|apply Sw|intro h)
 rename Nat=>b1
 (refine vN ?_;with_reducible repeat' first|exact Le.l|apply Sw|intro h)
 refine Z ?_
 (refine vN ?_;with_reducible repeat' first|exact Le.l|apply Sw|intro h)
 rename Nat=>b2
 refine AW.imp (Imp.nZ (b:=b2) 3 [.sl true 3 (x.aQ.map (aj true))] [] gO ?_)
 simp (disch:=omega) only [go_sem]
 (refine vK ?_;with_reducible repeat' first|exact Le.l|apply Sw|intro h)
 refine AW.iA [13] [1,2,3,11,12] (fun m xs o=>∃ k:Nat,xs=[.v (.int .i64 k)]/\o=[(b2,some [.sl true 3 (x.aQ.map (aj true)),.sl true 3 ((x.aF.take k).map (az true))]),(b1,some [.v (.slice none 0 0),.v (.slice none 0 0)])]/\m=x.aF.length - k/\k<=x.aF.length) x.aF.length [(b2,some [.sl true 3 (x.aQ.map (aj true)),.sl true 3 ((x.aF.take 0).map (az true))]),(b1,some [.v (.slice none 0 0),.v (.slice none 0 0)])] gO ⟨0,rfl,rfl,rfl,by omega⟩ ?_
 rintro m xs o ⟨k,rfl,rfl,rfl,hk⟩
 have hlt:(x.aF.take k).length=k:=by rw [List.length_take];omega
 refine vO ?_;intros;refine AW.c (fun h=>?_) fun h=>?_
 ·refine AW.imp (Imp.iZ (b0:=b2) (k:=1) (sz:=3) (l:=(x.aF.take k).map (az true)) (eQ _ _ _) rfl (bB (fun _=>rfl) _) (fun g hg'=>?_) (fun hnil=>?_))
  ·have hb1:=hg'.nf
   simp only [go_sem] at hb1
   simp only [List.set_cons_zero,List.set_cons_succ,List.length_map]
   (refine vU ?_;with_reducible repeat' first|exact Le.l|apply Sw|intro h)
   ·rw [bH (sz:=3) (bB (fun _=>rfl) _),List.length_map]
   rename Nat=>g2
   refine Imp.tq (b0:=b2) (k:=1) (b:=g2) (sz:=3) (cells0:=[.sl true 3 (x.aQ.map (aj true)),.arr g2 0 ((x.aF.take k).length+1) 3]) (l:=(x.aF.take k).map (az true)) (az true (at_ x.aF k)) gO (by rw [List.length_map];rfl) (by simp (disch:=omega) only [go_sem];try rfl) (by omega) (bB (fun _=>rfl) _) rfl ?_
   simp only [List.set_cons_zero,List.set_cons_succ]
   exact ⟨trivial,_,[_],_,by omega,⟨k+1,rfl,rfl,rfl,by omega⟩,rfl,by rw [db (by assumption),List.map_append];simp (disch:=omega) only [go_sem];try rfl⟩
  ·simp only [List.set_cons_zero,List.set_cons_succ,hnil]
   (refine vU ?_;with_reducible repeat' first|exact Le.l|apply Sw|intro h)
   have hk0:k=0:=by rw [List.map_eq_nil_iff] at hnil;rw [hnil] at hlt;exact hlt.symm
   subst hk0
   refine Imp.id ?_
   simp (disch:=omega) only [go_sem]
   exact ⟨_,[_],_,by omega,⟨1,rfl,rfl,rfl,by omega⟩,rfl,by rw [db (by assumption)];simp (disch:=omega) only [go_sem];try rfl⟩
 ·rw [show k=x.aF.length by omega,List.take_length]
  all_goals exact uU
instance VZ(x:bu):Ctr lim Tryz.prog 90 [] [.agg [.sl false 3 (x.aQ.map (aj false)),.sl false 3 (x.aF.map (az false))]] (.agg [.sl true 3 (x.aQ.map (aj true)),.sl true 3 (x.aF.map (az true))]) [] True:=by
 refine Ctr.bd Tryz.func90 Tryz.ntmps90 rfl rfl fun hp=>?_
 have gOn:=bA.on
 refine AW.kU 0 rfl (xs:=x.aF.map (az false)) (own:=false) (sz:=3) (by simp) fun hg=>?_
 simp (disch:=omega) only [go_sem] at hg
 (refine vN ?_;with_reducible repeat' first|exact Le.l|apply Sw|intro h)
 refine Z ?_
 (refine vN ?_;with_reducible repeat' first|exact Le.l|apply Sw|intro h)
 rename Nat=>b1
 (refine vN ?_;with_reducible repeat' first|exact Le.l|apply Sw|intro h)
 refine Z ?_
 (refine vN ?_;with_reducible repeat' first|exact Le.l|apply Sw|intro h)
 rename Nat=>b2
 refine AW.imp (Imp.nZ (b:=b2) 3 [.sl true 3 (x.aQ.map (aj true))] [] gO ?_)
 simp (disch:=omega) only [go_sem]
 (refine vK ?_;with_reducible repeat' first|exact Le.l|apply Sw|intro h)
 refine AW.iA [4] [1,2,3] (fun m xs o=>∃ k:Nat,xs=[.v (.int .i64 k)]/\o=[(b2,some [.sl true 3 (x.aQ.map (aj true)),.sl true 3 ((x.aF.take k).map (az true))]),(b1,some [.v (.slice none 0 0),.v (.slice none 0 0)])]/\m=x.aF.length - k/\k<=x.aF.length) x.aF.length [(b2,some [.sl true 3 (x.aQ.map (aj true)),.sl true 3 ((x.aF.take 0).map (az true))]),(b1,some [.v (.slice none 0 0),.v (.slice none 0 0)])] gO ⟨0,rfl,rfl,rfl,by omega⟩ ?_
 rintro m xs o ⟨k,rfl,rfl,rfl,hk⟩
 have hlt:(x.aF.take k).length=k:=by rw [List.length_take];omega
 refine vO ?_;intros;refine AW.c (fun h=>?_) fun h=>?_
 ·refine AW.imp (Imp.iZ (b0:=b2) (k:=1) (sz:=3) (l:=(x.aF.take k).map (az true)) (eQ _ _ _) rfl (bB (fun _=>rfl) _) (fun g hg'=>?_) (fun hnil=>?_))
  ·have hb1:=hg'.nf
   simp only [go_sem] at hb1
   simp only [List.set_cons_zero,List.set_cons_succ,List.length_map]
   (refine vU ?_;with_reducible repeat' first|exact Le.l|apply Sw|intro h)
   ·rw [bH (sz:=3) (bB (fun _=>rfl) _),List.length_map]
   rename Nat=>g2
   refine Imp.tq (b0:=b2) (k:=1) (b:=g2) (sz:=3) (cells0:=[.sl true 3 (x.aQ.map (aj true)),.arr g2 0 ((x.aF.take k).length+1) 3]) (l:=(x.aF.take k).map (az true)) (az true (at_ x.aF k)) gO (by rw [List.length_map];rfl) (by simp (disch:=omega) only [go_sem];try rfl) (by omega) (bB (fun _=>rfl) _) rfl ?_
   simp only [List.set_cons_zero,List.set_cons_succ]
   exact ⟨trivial,_,[_],_,by omega,⟨k+1,rfl,rfl,rfl,by omega⟩,rfl,by rw [db (by assumption),List.map_append];simp (disch:=omega) only [go_sem];try rfl⟩
  ·simp only [List.set_cons_zero,List.set_cons_succ,hnil]
   (refine vU ?_;with_reducible repeat' first|exact Le.l|apply Sw|intro h)
   have hk0:k=0:=by rw [List.map_eq_nil_iff] at hnil;rw [hnil] at hlt;exact hlt.symm
   subst hk0
   refine Imp.id ?_
   simp (disch:=omega) only [go_sem]
   exact ⟨_,[_],_,by omega,⟨1,rfl,rfl,rfl,by omega⟩,rfl,by rw [db (by assumption)];simp (disch:=omega) only [go_sem];try rfl⟩
 ·rw [show k=x.aF.length by omega,List.take_length]
  all_goals exact uU
end
section
attribute [-instance] F4 Ji cPf
attribute [-instance] cz
attribute [local go_sem] nC nB gV gU ba aI aS cU cT dy fZ gH
theorem HS(o:Bool)(l:List bV)(n:Nat):(l.map (az o)).take n=(l.take n).map (az o):=List.map_take.symm
attribute [local go_sem] HS
theorem LA{α:Type}{l:List α}{x:α}{n:Nat}(h:x∈l.take n):x∈l:=List.mem_of_mem_take h
instance Vb(s:List ag)(j:bu)(n:Nat):Ctr lim Tryz.prog 96 [] [.sl false 19 (s.map (ak false)),.agg [.sl false 3 (j.aQ.map (aj false)),.sl false 3 (j.aF.map (az false))],.v (.int .i64 (n:Int))] (.tup [.sl true 3 ((eu s j.aQ (gR (j.aF.take n))).1.map (aj true)),.v (.bool (eu s j.aQ (gR (j.aF.take n))).2)]) [] (n<=j.aF.length/\wtS s<=1048576/\wt j.aQ<=1048576/\∀ c∈j.aF,wtE c.dG<=1048576):=by
 refine Ctr.bd Tryz.func96 Tryz.ntmps96 rfl rfl fun hp=>?_
 have gOn:=bA.on
 obtain ⟨hn,h1,h2,h3⟩:=hp
 refine AW.kU 1 rfl (xs:=j.aF.map (az false)) (own:=false) (sz:=3) (by simp) fun hf=>?_
 simp (disch:=omega) only [go_sem] at hf
 have htk:(j.aF.take n).length=n:=by rw [List.length_take];omega
 (refine vK ?_;with_reducible repeat' first|exact Le.l|apply Sw|intro h)
 refine AW.aA [8,21] [0,19,20] (fun m xs o=>∃ (k:Nat) (l:List ah),xs=[.sl true 3 (l.map (aj true)),.v (.int .i64 k)]/\o=[]/\m=(j.aF.take n).length - k/\k<=(j.aF.take n).length/\eu s l ((gR (j.aF.take n)).drop k)=eu s j.aQ (gR (j.aF.take n))/\wt l<=1048576) (j.aF.take n).length [] trivial ⟨0,j.aQ,?_,rfl,rfl,?_,rfl,h2⟩ ?_
 ·rfl
 ·omega
 rintro m xs o ⟨k,l,rfl,rfl,rfl,hk,hR,hl⟩
 refine vO ?_;intros;refine AW.c (fun h=>?_) fun h=>?_
 ·have hlk:=h
  have ML:k<(gR (j.aF.take n)).length:=by rw [tw];omega
  have hwe:=h3 _ (LA (at_mem h))
  rw [y8 ML,Hj h] at hR
  clear h
  refine vO ?_;intros;refine AW.c (fun h=>?_) fun h=>?_
  ·rw [if_pos h] at hR
   (refine vX ?_;with_reducible repeat' first|exact Le.l|apply Sw|intro h)
   refine AW.imp (Imp.fU 6 (x:=.v (.slice none 0 0)) (x':=.sl true 3 []) gO (fun _ _ _ _ r=>Rep.dY _ _ r) ?_)
   (refine vU ?_;with_reducible repeat' first|exact Le.l|apply Sw|intro h)
   rw [<- hR];try rfl
  ·rw [if_neg (fun c=>c h)] at hR
   have hwn:=((uK s l (at_ (j.aF.take n) k).dG).2 h).2
   (refine vU ?_;with_reducible repeat' first|exact Le.l|apply Sw|intro h)
   exact ⟨_,[_,_],_,by omega,⟨k+1,_,rfl,rfl,rfl,by omega,hR,by omega⟩,rfl,by simp (disch:=omega) only [go_sem]⟩
 ·rw [dh (by rw [tw];exact h),eu] at hR
  (refine vU ?_;with_reducible repeat' first|exact Le.l|apply Sw|intro h)
  rw [<- hR];try rfl
end
section
attribute [-instance] F4 Ji cPf
attribute [-instance] cz
attribute [local go_sem] nC nB gV gU ba aI aS cU cT dy fZ gH
instance Va(s:List ag)(j:bu):Ctr lim Tryz.prog 95 [] [.sl false 19 (s.map (ak false)),.agg [.sl false 3 (j.aQ.map (aj false)),.sl false 3 (j.aF.map (az false))]] (.tup [.sl true 3 ((eE s j).map (aj true)),.v (.bool (fq s j))]) [] (wtS s<=1048576/\wt j.aQ<=1048576/\∀ c∈j.aF,wtE c.dG<=1048576):=by
 refine Ctr.bd Tryz.func95 Tryz.ntmps95 rfl rfl fun hp=>?_
 have gOn:=bA.on
 obtain ⟨h1,h2,h3⟩:=hp
 refine AW.kU 1 rfl (xs:=j.aF.map (az false)) (own:=false) (sz:=3) (by simp) fun hf=>?_
 simp (disch:=omega) only [go_sem] at hf
 have hT0:(gR (j.aF.take j.aF.length))=gR j.aF:=by rw [List.take_length]
 refine vO ?_;intros;refine AW.c (fun h=>?_) fun h=>?_
 ·have hT:eE s j=[]:=by rw [eE];grind
  have hB:fq s j=false:=by rw [fq];grind
  clear h
  (refine vU ?_;with_reducible repeat' first|exact Le.l|apply Sw|intro h)
  rw [hT,hB];try rfl
 have hc:j.aF.length<=30/\bp s j.aQ=true:=by grind
 have hT:eE s j=(eu s j.aQ (gR j.aF)).1:=by rw [eE];grind
 have hB:fq s j=(eu s j.aQ (gR j.aF)).2:=by rw [fq];grind
 clear h
 rw [hT,hB]
 have hN:(eu s j.aQ (gR j.aF)).2=false->(eu s j.aQ (gR j.aF)).1=[]:=JG _ _
 (refine vK ?_;with_reducible repeat' first|exact Le.l|apply Sw|intro h)
 ·exact h3 _ (by assumption)
 rw [hT0]
 refine AW.c (fun h=>?_) fun h=>?_
 ·have h0:(eu s j.aQ (gR j.aF)).2=false:=by simpa using h
  clear h
  (refine vU ?_;with_reducible repeat' first|exact Le.l|apply Sw|intro h)
  rw [hN h0,h0];try rfl
 ·have h0:(eu s j.aQ (gR j.aF)).2=true:=by simpa using h
  clear h
  (refine vU ?_;with_reducible repeat' first|exact Le.l|apply Sw|intro h)
  rw [h0];try rfl
end
end Go.Proofs
namespace Go.Dt
open Go Go.Ab
theorem Dx{s:List ag}{j:bu}(h:wt j.aQ<=1048576):wt (eE s j)<=1048576:=by
 rw [eE]
 split
 ·rw [C5];omega
 ·exact DC _ _ h
abbrev kcE(s:List ag)(j:bu)(l:List ah):List au:=ko s (eE s j) l
def kcB(s:List ag)(j:bu)(l:List ah):Bool:=fq s j && (bp s (eE s j) && bp s l) && ((kcE s j l).isEmpty || (decide (j.aF.length<30) && decide ((mdT s (eE s j) (kcE s j l)).2=0) && smT (mdT s (eE s j) (kcE s j l)).1 l))
def kcL(s:List ag)(j:bu)(l:List ah)(b t:Int):List bV:=if (kcB s j l && !(kcE s j l).isEmpty)=true then j.aF++[⟨t,b,kcE s j l⟩] else j.aF
variable {s : List ag} {j : bu} {l : List ah} {b t : Int}
theorem pz(h:kcB s j l=false):kcL s j l b t=j.aF:=by rw [kcL,h];simp
theorem NG(h:(kcE s j l).length=0):kcL s j l b t=j.aF:=by
 have:(kcE s j l).isEmpty=true:=by rw [List.isEmpty_iff_length_eq_zero];exact h
 rw [kcL,this];simp
theorem NF(h:kcB s j l=true)(h2:¬ (kcE s j l).length=0):kcL s j l b t=j.aF++[⟨t,b,kcE s j l⟩]:=by
 have:(kcE s j l).isEmpty=false:=by rw [Bool.eq_false_iff,ne_eq,List.isEmpty_iff_length_eq_zero];exact h2
 rw [kcL,this,h];simp
theorem NI(h:fq s j=false):kcB s j l=false:=by rw [kcB,h];simp
theorem NH(h:(bp s (eE s j) && bp s l)=false):kcB s j l=false:=by rw [kcB,h];simp
theorem NL(h:fq s j=true)(h1:(bp s (eE s j) && bp s l)=true)(h2:(kcE s j l).length=0):kcB s j l=true:=by
 have:(kcE s j l).isEmpty=true:=by rw [List.isEmpty_iff_length_eq_zero];exact h2
 rw [kcB,h,h1,this];simp
theorem NJ(h:fq s j=true)(h1:(bp s (eE s j) && bp s l)=true)(h2:¬ (kcE s j l).length=0):kcB s j l=(decide (j.aF.length<30) && decide ((mdT s (eE s j) (kcE s j l)).2=0) && smT (mdT s (eE s j) (kcE s j l)).1 l):=by
 have:(kcE s j l).isEmpty=false:=by rw [Bool.eq_false_iff,ne_eq,List.isEmpty_iff_length_eq_zero];exact h2
 rw [kcB,h,h1,this];simp
end Go.Dt
namespace Go.Proofs
open Go.Ab Go.Dt
attribute [-instance] cz
attribute [local go_sem] nC nB gV gU ba aI aS cU cT dy fZ gH
instance Ju(s:List ag)(j:bu):Ctr lim Tryz.prog 88 [] [.sl false 19 (s.map (ak false)),.agg [.sl false 3 (j.aQ.map (aj false)),.sl false 3 (j.aF.map (az false))]] (.tup [.sl true 3 ((eE s j).map (aj true)),.v (.bool (fq s j))]) [] (wtS s<=1048576/\wt j.aQ<=1048576/\∀ c∈j.aF,wtE c.dG<=1048576):=by
 refine Ctr.bd Tryz.func88 Tryz.ntmps88 rfl rfl fun hp=>?_
 have gOn:=bA.on
 obtain ⟨h1,h2,h3⟩:=hp
 refine AW.kU 1 rfl (xs:=j.aF.map (az false)) (own:=false) (sz:=3) (by simp) fun hf=>?_
 simp (disch:=omega) only [go_sem] at hf
 refine vO ?_;intros;refine AW.c (fun h=>?_) fun h=>?_
 ·have hT:eE s j=[]:=by rw [eE];grind
  have hB:fq s j=false:=by rw [fq];grind
  clear h
  (refine vU ?_;with_reducible repeat' first|exact Le.l|apply Sw|intro h)
  rw [hT,hB];try rfl
 have hc:j.aF.length<=30/\bp s j.aQ=true:=by grind
 have hT:eE s j=(eu s j.aQ (gR j.aF)).1:=by rw [eE];grind
 have hB:fq s j=(eu s j.aQ (gR j.aF)).2:=by rw [fq];grind
 clear h
 rw [hT,hB]
 (refine vK ?_;with_reducible repeat' first|exact Le.l|apply Sw|intro h)
 refine AW.aA [6,7] [0,3] (fun m xs o=>∃ (k:Nat) (l:List ah),xs=[.sl true 3 (l.map (aj true)),.v (.int .i64 k)]/\o=[]/\m=j.aF.length - k/\k<=j.aF.length/\eu s l ((gR j.aF).drop k)=eu s j.aQ (gR j.aF)/\wt l<=1048576) j.aF.length [] trivial ⟨0,j.aQ,?_,rfl,rfl,?_,rfl,h2⟩ ?_
 ·rfl
 ·omega
 rintro m xs o ⟨k,l,rfl,rfl,rfl,hk,hR,hl⟩
 refine vO ?_;intros;refine AW.c (fun h=>?_) fun h=>?_
 ·have hlk:=h
  have ML:k<(gR j.aF).length:=by rw [tw];omega
  have hwe:=h3 _ (at_mem h)
  rw [y8 ML,Hj h] at hR
  clear h
  refine vO ?_;intros;refine AW.c (fun h=>?_) fun h=>?_
  ·rw [if_pos h] at hR
   (refine vU ?_;with_reducible repeat' first|exact Le.l|apply Sw|intro h)
   rw [<- hR];try rfl
  ·rw [if_neg (fun c=>c h)] at hR
   have hwn:=((uK s l (at_ j.aF k).dG).2 h).2
   (refine vU ?_;with_reducible repeat' first|exact Le.l|apply Sw|intro h)
   exact ⟨_,[_,_],_,by omega,⟨k+1,_,rfl,rfl,rfl,by omega,hR,by omega⟩,rfl,by simp (disch:=omega) only [go_sem]⟩
 ·rw [dh (by rw [tw];exact h),eu] at hR
  (refine vU ?_;with_reducible repeat' first|exact Le.l|apply Sw|intro h)
  rw [<- hR];try rfl
end Go.Proofs
