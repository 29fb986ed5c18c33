/- Part of a proof. -/
import Derived.Test.YtpelkkfkecfmbaaGreatDoorH21
import Derived.Test.YtpelkkfkecfmbaaGreatDoorH26
set_option linter.all false
set_option maxRecDepth 20000
set_option maxHeartbeats 4000000
open Go.Proofs.Tryz
namespace Go.Proofs
open Go.Ab Go.Dt
section
attribute [local go_sem] aM aC dr dq
theorem rK(l:List ae)(n:Str):Ctr lim prog 190 [] [.sl false 19 (l.map (aq false)),.str n] (.tup [aq false (at_ l (idx (dW n) l).toNat),.ac true]) [] (0<=idx (dW n) l):=by
 refine Ctr.bd func190 ntmps190 fun hp=>?_;have gOn:=aD.on;refine AW.f1 0 fun hf=>?_
 (refine bU1 ?_;intro h)
 refine AW.aw [10] [1,4,8,9] (fun m xs o=>∃ k:Nat,xs=[.aa k]/\o=[(h,some cZe)]/\m=l.length - k/\k<=l.length/\∀ x∈l.take k,dW n x=false) l.length [(h,some cZe)] gO ⟨0,rfl,rfl,rfl,Ir,QC⟩ ?_;rintro m xs o ⟨k,rfl,rfl,rfl,hk,hR⟩
 (refine vU3 ?_ ?_ ?_<;>with_reducible repeat intro h)
 ·rw [gV (p:=dW n) yG hR (by simp [dW];grind)];try rfl
 ·exact ⟨_,[_],_,Ir,⟨k+1,rfl,rfl,rfl,Ir,aL yG hR (by simp [dW];grind)⟩,rfl,gO⟩
 ·exact absurd hp (by rw [jo yG hR];decide)
theorem uM(l:List ae)(n:Str):Ctr lim prog 190 [] [.sl false 19 (l.map (aq false)),.str n] (.tup [.agg cZe,.ac false]) [] (idx (dW n) l<0):=by
 refine Ctr.bd func190 ntmps190 fun hp=>?_;have gOn:=aD.on;refine AW.f1 0 fun hf=>?_
 (refine bU1 ?_;intro h)
 refine AW.aw [10] [1,4,8,9] (fun m xs o=>∃ k:Nat,xs=[.aa k]/\o=[(h,some cZe)]/\m=l.length - k/\k<=l.length/\∀ x∈l.take k,dW n x=false) l.length [(h,some cZe)] gO ⟨0,rfl,rfl,rfl,Ir,QC⟩ ?_;rintro m xs o ⟨k,rfl,rfl,rfl,hk,hR⟩
 (refine vU2 ?_ ?_<;>with_reducible repeat intro h)
 ·exact absurd hp (by rw [gV (p:=dW n) yG hR (by simp [dW];grind)];omega)
 ·exact ⟨_,[_],_,Ir,⟨k+1,rfl,rfl,rfl,Ir,aL yG hR (by simp [dW];grind)⟩,rfl,gO⟩
theorem IP:∀ (n:Nat) (l:List ae) (r:Int),Ctr lim prog 133 [] [.sl false 19 (l.map (aq false)),.aa r] (.aa (eU l (r - l.length))) [] (SizeOf.sizeOf l<n/\aH l<=1048576/\0<=r/\r<=1048576)
 | 0,l,r=>⟨(aU 133),fun h=>absurd h.1 (Nat.not_lt_zero _)⟩
 | n+1,l,r=>by
  have ih:=IP n;refine Ctr.bd func133 ntmps133 fun hp=>?_;have hl:=mP l;refine vU1 ?_;refine AW.aw [1,5] [0] (fun m xs o=>∃ (k:Nat) (q:Int),xs=[.aa q,.aa k]/\o=[]/\m=l.length - k/\k<=l.length/\-4611686018427387904<=q/\q<=1048576/\eU (l.drop k) q=eU l (r - l.length)) l.length [] trivial ⟨0,r - l.length,?_,rfl,rfl,?_,?_,?_,rfl⟩ ?_
  ·rfl
  ·omega
  ·omega
  ·omega
  rintro m xs o ⟨k,q,rfl,rfl,rfl,hk,h0,h1,hR⟩
  have hw:k<l.length->SizeOf.sizeOf (at_ l k).af<n/\aH (at_ l k).af<=1048576:=fun h=>by
   have:=jc (at_mem h);have:=ae.du (at_mem h);omega
  have h2:=mP (at_ l k).af
  have h3:=zq (at_ l k).af (q - (at_ l k).af.length)
  (refine vU2 ?_ ?_<;>intro h)
  ·have h4:-4611686018427387904<=eU (at_ l k).af (q - (at_ l k).af.length):=zr _ _ (by have:=hw h.1;omega) (by have:=hw h.1;omega);refine ⟨_,[_,_],[],Ir,⟨k+1,_,rfl,rfl,rfl,Ir,h4,Ir,?_⟩,rfl,trivial⟩;rw [<- hR,Pw h.1,if_neg Ir]
  ·rw [<- hR];by_cases e:k<l.length
   ·rw [oV _ (h e)]
   ·rw [fY e,eU]
instance ab5(l:List ae)(r:Int):Ctr lim prog 133 [] [.sl false 19 (l.map (aq false)),.aa r] (.aa (eU l (r - l.length))) [] (aH l<=1048576/\0<=r/\r<=1048576):=⟨(aU 133),fun c=>(IP (SizeOf.sizeOf l+1) l r).out ⟨Nat.lt_succ_self _,c⟩⟩
instance aac(l:List Str):Ctr lim prog 254 [] [.sl false 1 (l.map AV.str)] (.ac (bT l && decide (l.length<=3))) [] True:=by
 refine Ctr.bd func254 ntmps254 fun hp=>?_;have gOn:=aD.on;refine AW.f1 0 fun hf=>?_;refine vU1 ?_;refine AW.aw [3] [0] (fun m xs o=>∃ k:Nat,xs=[.aa k]/\o=[]/\m=l.length - k/\k<=l.length/\cS (fun j=>!cont (l.take j) (at_ l j)) k=true) l.length [] trivial ⟨0,?_,rfl,rfl,?_,rfl⟩ ?_
 ·rfl
 ·omega
 rintro m xs o ⟨k,rfl,rfl,rfl,hk,hQ⟩;refine vK1 ?_;refine AW.c (fun h=>?_) fun h=>?_
 ·refine vK1 ?_;refine AW.aw [4] [0,3] (fun m xs o=>∃ j:Nat,xs=[.aa j]/\o=[]/\m=k - j/\j<=k/\∀ y∈(l.take k).take j,(y == at_ l k)=false) k [] trivial ⟨0,?_,rfl,rfl,?_,?_⟩ ?_
  ·rfl
  ·omega
  ·simp
  rintro m xs o ⟨j,rfl,rfl,rfl,hj,hS⟩
  (refine vU3 ?_ ?_ ?_<;>with_reducible repeat intro h)
  ·rw [show bT l=false from dL yG (by rw [vf yG yG h];try rfl)];try rfl
  ·exact ⟨_,[_],[],Ir,⟨j+1,rfl,rfl,rfl,Ir,aL (by rw [List.length_take];omega) hS (by rw [C2 yG];simpa using h)⟩,rfl,trivial⟩
  ·rw [show j=k by omega,List.take_take,Nat.min_self] at hS;exact ⟨_,[_],[],Ir,⟨k+1,rfl,rfl,rfl,Ir,dc hQ (by rw [rU hS];try rfl)⟩,rfl,trivial⟩
 ·refine vU1 ?_;rw [show k=l.length by omega] at hQ;rw [show bT l=true from hQ,Bool.true_and,show decide ((l.length:Int)<=3)=decide (l.length<=3) from decide_eq_decide.2 Ir]
end
section
def RO(l:List ae):(l.map (aq true)).all (AV.elem 19)=true:=bL (fun x=>by rw [dI];try rfl) l
def RN(l:List ae):((l.map (aq true)).flatMap AV.cells).all AV.one=true:=cf (fun x=>by rw [dI];try rfl) l
attribute [local go_sem] aM aC dr dq RO RN
theorem sH:∀ (n:Nat) (l:List ae),Ctr lim prog 105 [] [.sl false 19 (l.map (aq false))] (.sl true 19 ((dk l).map (aq true))) [] (SizeOf.sizeOf l<n/\aH l<=1048576)
 | 0,l=>⟨(aU 105),fun h=>absurd h.1 (Nat.not_lt_zero _)⟩
 | n+1,l=>by
  have ih:=sH n;refine Ctr.bd func105 ntmps105 fun hp=>?_;have gOn:=aD.on;obtain ⟨hs,hb⟩:=hp;refine AW.f1 0 fun hf=>?_;refine vU1 ?_;refine AW.aw [3,4] [0] (fun m xs o=>∃ k:Nat,xs=[.sl true 19 ((dk (l.take k)).map (aq true)),.aa k]/\o=[]/\m=l.length - k/\k<=l.length) l.length [] trivial ⟨0,?_,rfl,rfl,?_⟩ ?_
  ·rw [List.take_zero,dk];try rfl
  ·omega
  rintro m xs o ⟨k,rfl,rfl,rfl,hk⟩;have h1:=nQ (l.take k)
  have h3:=J1 (l:=l) (k:=k)
  have h4:k<l.length->SizeOf.sizeOf (at_ l k).af<n/\aH (at_ l k).af<=1048576:=fun h=>by
   have:=jc (at_mem h);have:=ae.du (at_mem h);omega
  have h6:=nQ (at_ l k).af
  have h7:=nQ (l.take (k+1))
  (refine vU5 ?_ ?_ ?_ ?_ ?_<;>with_reducible repeat intro h)
  ·rename_i hd;rw [cg] at hd;simp at hd;omega
  ·rename_i hk1 hd;exact ⟨_,[_,_],[],Ir,⟨k+1,rfl,rfl,rfl,Ir⟩,by rw [qm hk1,if_pos hd,List.map_append,List.map_cons,List.map_nil,dI];try rfl,trivial⟩
  ·rename_i hk1 hd;exact ⟨_,[_,_],[],Ir,⟨k+1,rfl,rfl,rfl,Ir⟩,by rw [qm hk1,if_neg (by rw [hd];simp),if_pos h,List.map_append];try rfl,trivial⟩
  ·rename_i hk1 hd;exact ⟨_,[_,_],[],Ir,⟨k+1,rfl,rfl,rfl,Ir⟩,by rw [qm hk1,if_neg (by rw [hd];simp),if_neg Ir,List.append_nil];try rfl,trivial⟩
  ·rw [List.take_of_length_le Ir]
instance XV(l:List ae):iM lim prog 105 [.sl false 19 (l.map (aq false))] (.sl false 19 ((dk l).map (aq false))) (aH l<=1048576) :=
 ⟨(aU 105),fun c=>by
  have:=((sH (SizeOf.sizeOf l+1) l).pure ⟨Nat.lt_succ_self _,c⟩).frz
  simpa only [AV.frz,AV.bg,aC,cond_true] using this⟩
end
section
instance Yn(x:cT)(s:Str):Ctr lim prog 195 [] [.agg (cTy x),.str s] (.ac (isVal x s)) [] (s.length<=1048576):=by
 refine Ctr.bd func195 ntmps195 fun hp=>?_;refine vU1 ?_
 all_goals first|rfl|(rw [isVal];done)
instance XT(x:cT)(s:Str):Ctr lim prog 181 [] [.agg (cTy x),.str s] (.ac (isVal x s)) [] (s.length<=1048576):=by
 refine Ctr.bd func181 ntmps181 fun hp=>?_;refine vU1 ?_
 all_goals first|rfl|(rw [isVal];done)
end
section
attribute [local go_sem] aM aC aR dr dq jY
instance Xg(l:List ae):Ctr lim prog 105 [] [.sl false 19 (l.map (aq false))] (.sl false 19 ((dk l).map (aq false))) [] (aH l<=1048576) :=
 Ctr.kQ (aU 105) fun c=>by
  have:=((sH (SizeOf.sizeOf l+1) l).pure ⟨Nat.lt_succ_self _,c⟩).frz;simpa only [AV.frz,AV.bg,aC,cond_true] using this
theorem RP(n:Nat)(ih:∀ (d:List ae) (l:List ah),Ctr lim prog 104 [] [.sl false 19 (d.map (aq false)),.sl false 3 (l.map (ak false))] (.ac (okL d none l)) [] (SizeOf.sizeOf l<n/\(∀ y∈d,wtS y.af<=1048576)/\wt l<=1048576))(c:ae)(x:ah):Ctr lim prog 138 [] [.agg (cSc c),.agg (cNo x)] (.ac (okN c x)) [] (SizeOf.sizeOf x.af<n/\wtS c.af<=1048576/\wt x.af<=1048576/\x.ax.length<=1048576):=by
 refine Ctr.bd func138 ntmps138 fun hp=>?_;have gOn:=aD.on;obtain ⟨h2,h3,h4,h5⟩:=hp;have hc:=j7 c.af
 have hd:∀ y∈dk c.af,wtS y.af<=1048576:=fun y hy=>by have:=u6 _ y hy;omega
 cases hk:kyB c x
 ·haveI:=UY c x
  (refine vU5 ?_ ?_ ?_ ?_ ?_<;>with_reducible repeat intro h)
  all_goals try refine congrArg (fun b=>AV.ac b) ?_
  ·rw [okN,if_pos Ir,jt]
  ·rw [okN,if_pos Ir,jt]
  ·rw [okN,if_neg Ir,if_pos h,hk];try rfl
  ·exact hd _ h
  ·rw [okN,if_neg Ir,if_neg Ir,q9,p5,kU]
 ·haveI:=Mn c x
  (refine vU6 ?_ ?_ ?_ ?_ ?_ ?_<;>with_reducible repeat intro h)
  all_goals try refine congrArg (fun b=>AV.ac b) ?_
  ·rw [okN,if_pos Ir,jt]
  ·rw [okN,if_pos Ir,jt]
  ·exact hd _ h
  ·rw [okN,if_neg Ir,if_pos h,hk,kU];try rfl
  ·exact hd _ h
  ·rw [okN,if_neg Ir,if_neg Ir,q9,p5,kU]
theorem Fs:∀ (n:Nat) (d:List ae) (l:List ah),Ctr lim prog 104 [] [.sl false 19 (d.map (aq false)),.sl false 3 (l.map (ak false))] (.ac (okL d none l)) [] (SizeOf.sizeOf l<n/\(∀ y∈d,wtS y.af<=1048576)/\wt l<=1048576)
 | 0,_,l=>⟨(aU 104),fun h=>absurd h.1 (Nat.not_lt_zero _)⟩
 | n+1,d,l=>by
  have ih:=RP n (Fs n);refine Ctr.bd func104 ntmps104 fun hp=>?_;have gOn:=aD.on;obtain ⟨hs,hb,hv⟩:=hp;refine AW.f1 1 fun hf=>?_;refine vU1 ?_;refine AW.aw [5] [0,1] (fun m xs o=>∃ k:Nat,xs=[.aa k]/\o=[]/\m=l.length - k/\k<=l.length/\(∀ j<k,okX d (at_ l j))/\okL d (prv l k) (l.drop k)=okL d none l) l.length [] trivial ⟨0,?_,rfl,rfl,?_,?_,rfl⟩ ?_
  ·rfl
  ·omega
  ·intro j hj;omega
  rintro m xs o ⟨k,rfl,rfl,rfl,hk,hW,hR⟩;refine vK1 ?_;refine AW.c (fun h=>?_) fun h=>?_
  ·have hw:=Ac (l:=l) h
   have hkx:=fun hq=>hb _ (dF (p:=nmP (at_ l k).ag) (l:=d) hq).2.2
   have hky:=fun hq=>(dF (p:=nmP (at_ l k).ag) (l:=d) hq).1
   have hsz:=ah.du (at_mem h)
   (refine vU5 ?_ ?_ ?_ ?_ ?_<;>with_reducible repeat intro h)
   ·exact (hW _ Ir).1
   ·exact xK (hW _ Ir).2
   ·rw [h];exact xK (by grind)
   ·rw [<- hR];rcases h with (h|h)|⟨h1,h2⟩
    ·rw [Vn yG h]
    ·rw [Su yG h]
    ·rw [St yG Ir (by rw [<- h2];congr 2;omega)]
   ·obtain ⟨⟨h1,h2⟩,h3⟩:=h;refine ⟨_,[_],[],Ir,⟨k+1,rfl,rfl,rfl,Ir,fun j hj=>?_,?_⟩,rfl,trivial⟩
    ·rcases Nat.lt_or_ge j k with q|q
     ·exact hW j q
     ·rw [show j=k by omega];exact ⟨h1,h2⟩
    ·rw [<- hR,Pb yG h1 h2 fun q=>by rw [<- h3 Ir];congr 2;omega]
  ·refine vU1 ?_;rw [<- hR,fY h,okL]
end
section
theorem wM:∀ (n:Nat) (l:List ah),Ctr lim prog 53 [] [.sl false 3 (l.map (ak false))] (.sl true 3 (l.map (ak true))) [] (SizeOf.sizeOf l<n)
 | 0,l=>⟨(aU 53),fun h=>absurd h (Nat.not_lt_zero _)⟩
 | n+1,l=>by
  have ih:=wM n;refine Ctr.bd func53 ntmps53 fun hp=>?_;refine AW.f1 0 fun hf=>?_;refine vU1 ?_;refine AW.aw [3,9] [7,8] (fun m xs o=>∃ k:Nat,xs=[.sl true 3 ((l.take k).map (ak true)),.aa k]/\o=[]/\m=l.length - k/\k<=l.length) l.length [] trivial ⟨0,?_,rfl,rfl,?_⟩ ?_
  ·rfl
  ·omega
  rintro m xs o ⟨k,rfl,rfl,rfl,hk⟩;have hlt:(l.take k).length=k:=by rw [List.length_take];omega
  have hkk:k<l.length->SizeOf.sizeOf (at_ l k).af<n:=fun h=>by have:=ah.du (at_mem h);omega
  (refine vU2 ?_ ?_<;>with_reducible repeat intro h)
  ·exact ⟨_,[_,_],[],Ir,⟨k+1,by rw [gB yG,List.map_append,List.map_cons,List.map_nil,dD],rfl,rfl,Ir⟩,rfl,trivial⟩
  ·rw [show k=l.length by omega,List.take_length]
theorem wg:∀ (n:Nat) (l:List ah),Ctr lim prog 50 [] [.sl false 3 (l.map (ak false))] (.sl true 3 (l.map (ak true))) [] (SizeOf.sizeOf l<n)
 | 0,l=>⟨(aU 50),fun h=>absurd h (Nat.not_lt_zero _)⟩
 | n+1,l=>by
  have ih:=wg n;refine Ctr.bd func50 ntmps50 fun hp=>?_;refine AW.f1 0 fun hf=>?_;refine vU1 ?_;refine AW.aw [3,4] [0] (fun m xs o=>∃ k:Nat,xs=[.sl true 3 ((l.take k).map (ak true)),.aa k]/\o=[]/\m=l.length - k/\k<=l.length) l.length [] trivial ⟨0,?_,rfl,rfl,?_⟩ ?_
  ·rfl
  ·omega
  rintro m xs o ⟨k,rfl,rfl,rfl,hk⟩;have hlt:(l.take k).length=k:=by rw [List.length_take];omega
  have hkk:k<l.length->SizeOf.sizeOf (at_ l k).af<n:=fun h=>by have:=ah.du (at_mem h);omega
  refine vK1 ?_;refine AW.c (fun h=>?_) fun h=>?_
  ·refine vN1 ?_;refine Z ?_;intro K hK;refine gS ?_;refine Y ?_;refine gS ?_;refine And.intro (hkk h) (And.intro baa (And.intro baa ?_));refine Y ?_;simp (maxSteps:=2000000) (disch:=omega) only [go_sem];refine And.intro ⟨Ir,Ir,Ir⟩ ?_;refine hK _ _ ⟨Ct,?_⟩;clear hK K;intro K hK;refine gS ?_;refine hK _ _ ?_;clear hK K;refine vU1 ?_;exact ⟨_,[_,_],[],Ir,⟨k+1,by rw [gB yG,List.map_append,List.map_cons,List.map_nil,dD],rfl,rfl,Ir⟩,rfl,trivial⟩
  ·refine vU1 ?_;rw [show k=l.length by omega,List.take_length]
instance wN(l:List ah):Ctr lim prog 53 [] [.sl false 3 (l.map (ak false))] (.sl true 3 (l.map (ak true))) [] True:=⟨(aU 53),fun _=>(wM (SizeOf.sizeOf l+1) l).out (Nat.lt_succ_self _)⟩
instance Ft(l:List ah):Ctr lim prog 50 [] [.sl false 3 (l.map (ak false))] (.sl true 3 (l.map (ak true))) [] True:=⟨(aU 50),fun _=>(wg (SizeOf.sizeOf l+1) l).out (Nat.lt_succ_self _)⟩
end
section
attribute [local go_sem] aM aC aR
instance ab7(s:List ae)(n:Str):Ctr lim prog 183 [] [.sl false 19 (s.map (aq false)),.str n] (.ac (wX s n)) [] True:=by
 refine Ctr.bd func183 ntmps183 fun hp=>?_;have gOn:=aD.on
 have hl:=eO (p:=nmP n) s;refine vU1 ?_;refine congrArg (fun b=>AV.ac b) ?_;rw [wX]
 congr 1
 cases (at_ s (idx (nmP n) s).toNat).aG<;>simp<;>omega
def Jk(l:List ah):(l.map (ak false)).all (AV.elem 3)=true:=bL (fun x=>by cases x;rfl) l
def Cc(l:List ah):((l.map (ak false)).flatMap AV.cells).all AV.one=true:=cf (fun x=>by cases x;rfl) l
attribute [local go_sem] Jk Cc
theorem PL(l:List ah)(n:Str):Ctr lim prog 198 [] [.sl false 3 (l.map (ak false)),.str n] (.sl true 3 ((l.filter (ndP n)).map (ak false))) [] (l.length<=1048576):=by
 refine Ctr.bd func198 ntmps198 fun hp=>?_;have gOn:=aD.on;refine vU1 ?_;refine AW.aw [5,11] [1,9,10] (fun m xs o=>∃ k:Nat,xs=[.sl true 3 (((l.take k).filter (ndP n)).map (ak false)),.aa k]/\o=[]/\m=l.length - k/\k<=l.length) l.length [] trivial ⟨0,rfl,rfl,rfl,Nat.zero_le _⟩ ?_;rintro m xs o ⟨k,rfl,rfl,rfl,hk⟩;have hfl:=List.length_filter_le (ndP n) (l.take k);rw [List.length_take] at hfl
 (refine vU3 ?_ ?_ ?_<;>with_reducible repeat intro h)
 ·exact ⟨_,[_,_],_,Ir,⟨k+1,by rw [uX yG,if_pos (by simpa [ndP] using h),List.map_append,List.map_cons,List.map_nil,dD],rfl,rfl,Ir⟩,rfl,trivial⟩
 ·exact ⟨_,[_,_],_,Ir,⟨k+1,by rw [uX yG,if_neg (by simpa [ndP] using h),List.append_nil],rfl,rfl,Ir⟩,rfl,trivial⟩
 ·rw [List.take_of_length_le Ir]
end
end Go.Proofs
namespace Go.Ab
section
def au.QS{L:eaa}{F:faa}{w:World}:∀ {l:List AV} {vs:List Value} {fp:List Nat} {own:Bool} {sz:Nat} {xs:List AV},au L F w l vs fp->.sl own sz xs∈l->xs.length<=L sz
 | [],_,_,_,_,_,_,h=>by cases h
 | x::xs,vs,fp,own,sz,ys,r,h=>by
  simp only [au] at r;obtain ⟨y,vs',f1,f2,_,_,hx,hxs⟩:=r;rcases List.mem_cons.1 h with rfl|h
  ·simp only [Rep] at hx;rcases hx with ⟨_,rfl,_⟩|⟨b,off,cap,vals,fp',_,_,h2,_⟩
   ·simp
   ·exact h2
  ·exact au.QS hxs h
def AW.vz{L:eaa}{P:Program}{c:Code}{n:Nat}{t:daa}{o:List (Nat×Option (List AV))}{Q:Exit->AS->Prop}(i:Nat){l xs:List AV}{own:Bool}{sz:Nat}(hi:T t i=.agg l)(hm:.sl own sz xs∈l)(h:xs.length<=L sz->AW L P c ⟨n,t,o⟩ Q):AW L P c ⟨n,t,o⟩ Q:=by intro B F0 w0 a w hd;refine h ?_ B F0 w0 a w hd;obtain ⟨F,ow,fp,fs,h⟩:=hd;have hr:=h.slots i;simp only at hr;rw [hi] at hr;simp only [Rep] at hr;obtain ⟨vs,_,hl⟩:=hr;exact hl.QS hm
end
section
def au.ep{L:eaa}{F:faa}{w:World}{x x':AV}{xs xs':List AV}(h:∀ y fp,Rep L F w x y fp->Rep L F w x' y fp)(hs:∀ vs fp,au L F w xs vs fp->au L F w xs' vs fp):∀ vs fp,au L F w (x::xs) vs fp->au L F w (x'::xs') vs fp:=by intro vs fp r;simp only [au] at r ⊢;obtain ⟨y,vs',f1,f2,e1,e2,hx,hxs⟩:=r;exact ⟨y,vs',f1,f2,e1,e2,h _ _ hx,hs _ _ hxs⟩
def Rep.jf{L:eaa}{F:faa}{w:World}{o:Bool}{sz:Nat}(y:Value)(fp:List Nat)(h:Rep L F w (.v (.slice none 0 0)) y fp):Rep L F w (.sl o sz []) y fp:=by simp only [Rep] at h ⊢;exact .inl ⟨.inl h.1,trivial,h.2⟩
theorem Ctr.view{L:eaa}{P:Program}{f:FuncId}{args args':List AV}{res:AV}{cs:List (Option (List AV))}{pre:Prop}(h:Ctr L P f [] args res cs pre)(ha:∀ F w vs fp,au L F w args' vs fp->au L F w args vs fp):Ctr L P f [] args' res [] pre :=
 Ctr.kQ h.en fun hp w F vs a b r=>h.pure hp w F vs a b (ha _ _ _ _ r)
end
section
section
variable {L : Nat -> Nat} {F : Nat -> Prop} {w : World} {x x' : AV}
def bZ.at{sz:Nat}(hx:∀ y fp,Rep L F w x y fp->Rep L F w x' y fp):∀ (l l2:List AV) (vs:List Value) (fp:List Nat),bZ L F w sz (l++x::l2) vs fp->bZ L F w sz (l++x'::l2) vs fp
 | [],l2,vs,fp,h=>by
  simp only [List.nil_append,bZ] at h ⊢;obtain ⟨y,vs',f1,f2,e1,e2,e3,h1,h2⟩:=h;exact ⟨y,vs',f1,f2,e1,e2,e3,hx _ _ h1,h2⟩
 | z::l,l2,vs,fp,h=>by
  simp only [List.cons_append,bZ] at h ⊢;obtain ⟨y,vs',f1,f2,e1,e2,e3,h1,h2⟩:=h;exact ⟨y,vs',f1,f2,e1,e2,e3,h1,bZ.at hx l l2 _ _ h2⟩
def au.at(hx:∀ y fp,Rep L F w x y fp->Rep L F w x' y fp):∀ (l l2:List AV) (vs:List Value) (fp:List Nat),au L F w (l++x::l2) vs fp->au L F w (l++x'::l2) vs fp
 | [],l2,vs,fp,h=>au.ep hx (fun _ _ h=>h) vs fp h
 | z::l,l2,vs,fp,h=>au.ep (fun _ _ h=>h) (au.at hx l l2) vs fp h
def Rep.Z6{own:Bool}{sz:Nat}{l l2:List AV}(hx:∀ y fp,Rep L F w x y fp->Rep L F w x' y fp)(y:Value)(fp:List Nat)(h:Rep L F w (.sl own sz (l++x::l2)) y fp):Rep L F w (.sl own sz (l++x'::l2)) y fp:=by
 simp only [Rep] at h ⊢;rcases h with ⟨_,h,_⟩|⟨b,off,cap,vals,fp',h1,h2,h3,h4,h5,h6⟩
 ·simp at h
 ·exact .inr ⟨b,off,cap,vals,fp',by simpa using h1,by simpa using h2,by simpa using h3,h4,bZ.at hx l l2 _ _ h5,h6⟩
def Rep.Rj{l l2:List AV}(hx:∀ y fp,Rep L F w x y fp->Rep L F w x' y fp)(y:Value)(fp:List Nat)(h:Rep L F w (.agg (l++x::l2)) y fp):Rep L F w (.agg (l++x'::l2)) y fp:=by simp only [Rep] at h ⊢;obtain ⟨vs,e,h⟩:=h;exact ⟨vs,e,au.at hx l l2 _ _ h⟩
end
def Imp.Kr{L:eaa}{n:Nat}{t:daa}{o:Sto}{Q:AS->Prop}(i:Nat){x x':AV}(hT:T t i=x)(hx:∀ F w y fp,Rep L F w x y fp->Rep L F w x' y fp)(h:Q ⟨n,(i,x')::t,o⟩):Imp L ⟨n,t,o⟩ Q:=by
 intro B F0 w0 a w hd;refine ⟨_,h,?_⟩;obtain ⟨F,own,fp,fs,hd⟩:=hd;refine ⟨F,own,fp,fs,{ hd with slots:=fun j=>?_ }⟩;have hj:=hd.slots j;simp only [T] at hj ⊢;by_cases e:i=j
 ·subst e;simp only [beq_self_eq_true,cond_true];rw [hT] at hj;exact hx _ _ _ _ hj
 ·rw [show (i == j)=false by simpa using e];exact hj
def Imp.F2{L:eaa}{n:Nat}{t:daa}{o:Sto}{Q:AS->Prop}(i:Nat){own:Bool}{sz:Nat}{l:List AV}(pre post:List AV)(o':Bool)(z:Nat)(hT:T t i=.sl own sz (l++[.agg (pre++.v (.slice none 0 0)::post)]))(h:Q ⟨n,(i,.sl own sz (l++[.agg (pre++.sl o' z []::post)]))::t,o⟩):Imp L ⟨n,t,o⟩ Q :=
 Imp.Kr i hT (fun _ _=>Rep.Z6 (Rep.Rj Rep.jf)) h
end
end Go.Ab
namespace Go.Dt
open Go Go.Ab
section
def th{s:List ae}(h:fX s=true):gdF s:=by
 simp only [fX,kR,lp,Bool.and_eq_true,Bool.or_eq_true,decide_eq_true_eq] at h;refine ⟨h.2.1.1,?_,0,false,baa,h.2.2⟩;rcases h.2.1.2 with (c|c)|c
 ·exact absurd c baa
 ·exact absurd c baa
 ·exact c
def hasB(s:List ae)(l:List ah):Bool:=(dk s).any fun n=>decide (0<=idx (ndP n.ag) l)
def has_eq(s:List ae)(l:List ah):mR s l=hasB s l:=by
 rw [Bool.eq_iff_iff];simp only [mR,hasB,List.any_eq_true,List.contains_iff_mem,decide_eq_true_eq,nmS,List.mem_map];constructor
 ·rintro ⟨x,hx,n,hn,e⟩;refine ⟨n,hn,?_⟩;obtain ⟨j,hj,ej⟩:=List.mem_iff_getElem.1 hx;exact (qM (p:=ndP n.ag) (j:=j) hj (by rw [at_,List.getElem?_eq_getElem hj,Option.getD_some,ej];simp [ndP,e])).2
 ·rintro ⟨n,hn,h0⟩;obtain ⟨q1,q2,q3⟩:=dF h0;exact ⟨_,q3,n,hn,by have:(at_ l (idx (ndP n.ag) l).toNat).ag=n.ag:=(by simpa [ndP] using q2);rw [this]⟩
def uqN:Nat->List ae->List ah->Prop
 | 0,_,_=>True
 | g+1,s,l=>∀ n∈dk s,(n.aj=1\/n.aj=3->(l.filter (ndP n.ag)).length<=1)/\(n.aj=1\/n.aj=2->∀ x∈l.filter (ndP n.ag),uqN g n.af x.af)
def w8{s:List ae}(hdd:bT (nmS (dk s))=true)(c:ae->Nat->List ah)(hc:∀ n i,∀ x∈c n i,x.ag=n.ag):∀ (k:Nat) (hk:k<=(dk s).length) (i:Nat),i<(dk s).length ->
  (((List.range k).flatMap fun j=>c (at_ (dk s) j) j).filter (ndP (at_ (dk s) i).ag))=if i<k then c (at_ (dk s) i) i else []
 | 0,_,i,_=>by simp
 | k+1,hk,i,hi=>by
  rw [List.range_succ,List.flatMap_append,List.filter_append,w8 hdd c hc k Ir i hi];simp only [List.flatMap_cons,List.flatMap_nil,List.append_nil];by_cases e:i=k
  ·subst e;rw [if_neg Ir,if_pos Ir,List.nil_append,List.filter_eq_self];intro x hx;simp [ndP,hc _ _ x hx]
  ·have:(c (at_ (dk s) k) k).filter (ndP (at_ (dk s) i).ag)=[]:=by
    rw [List.filter_eq_nil_iff];intro x hx h;have h1:=hc _ _ x hx
    have h2:x.ag=(at_ (dk s) i).ag:=by simpa [ndP] using h
    have e3:(at_ (dk s) i).ag=(at_ (dk s) k).ag:=by rw [<- h2,h1]
    rw [kr,nmS] at hdd;have hp:=List.pairwise_iff_getElem.1 hdd
    have ai:∀ j (hj:j<(dk s).length),((dk s).map ae.ag)[j]'(by rw [List.length_map];exact hj)=(at_ (dk s) j).ag:=fun j hj=>by
     rw [List.getElem_map];congr 1;rw [at_,List.getElem?_eq_getElem hj];rfl
    rcases Nat.lt_or_gt_of_ne e with l|l
    ·exact hp i k (by rw [List.length_map];exact hi) (by rw [List.length_map];omega) l (by rw [ai i hi,ai k Ir,e3])
    ·exact hp k i (by rw [List.length_map];omega) (by rw [List.length_map];exact hi) l (by rw [ai i hi,ai k Ir,e3])
   rw [this,List.append_nil];by_cases l:i<k
   ·rw [if_pos l,if_pos Ir]
   ·rw [if_neg l,if_neg Ir]
end
section
def BM:∀ (g:Nat) (s:List ae),uqN g s []
 | 0,_=>trivial
 | g+1,s=>fun n _=>⟨fun _=>by simp,fun _ x hx=>by simp at hx⟩
def chk(f:Nat)(s:List ae)(l:List ah)(n:ae)(i:Nat):List ah :=
 if n.aj=3 then (if ((l.filter (ndP n.ag)).isEmpty && n.bS)=true then [.mk n.ag n.aV []] else l.filter (ndP n.ag))
 else if n.aj=1\/n.aj=2 then
  (if (l.filter (ndP n.ag)).isEmpty=true then
   (if n.aj=1/\n.aZ=false/\n.aG.isEmpty=true/\at_ (dkF s false) i=false then
    (if (ez f n.af []).isEmpty=true then [] else [.mk n.ag [] (ez f n.af [])]) else [])
  else (l.filter (ndP n.ag)).map fun x=>.mk x.ag x.ax (ez f n.af x.af))
 else l.filter (ndP n.ag)
def JQ(f:Nat)(s:List ae)(l:List ah):ez (f+1) s l=(List.range (dk s).length).flatMap fun j=>chk f s l (at_ (dk s) j) j:=rfl
def Qq(f:Nat)(s:List ae)(l:List ah)(n:ae)(i:Nat):∀ x∈chk f s l n i,x.ag=n.ag:=by
 have hf:∀ x∈l.filter (ndP n.ag),x.ag=n.ag:=fun x h=>by
  rw [List.mem_filter] at h;simpa [ndP] using h.2
 intro x hx;unfold chk at hx;split at hx
 ·split at hx
  ·rw [List.mem_singleton] at hx;rw [hx];rfl
  ·exact hf x hx
 ·split at hx
  ·split at hx
   ·split at hx
    ·split at hx
     ·simp at hx
     ·rw [List.mem_singleton] at hx;rw [hx];rfl
    ·simp at hx
   ·obtain ⟨y,hy,rfl⟩:=List.mem_map.1 hx;exact hf y hy
  ·exact hf x hx
def G5:∀ (f g:Nat) (s:List ae) (l:List ah),gdF s->(∀ x∈l,okX (dk s) x)->uqN g s l->uqN g s (ez f s l)
 | 0,g,s,l,_,_,_=>BM g s
 | f+1,0,s,l,_,_,_=>trivial
 | f+1,g+1,s,l,hg,hl,hu=>by
  intro n hn;obtain ⟨i,hi,ei⟩:=List.mem_iff_getElem.1 hn;have ei':at_ (dk s) i=n:=by rw [at_,List.getElem?_eq_getElem hi,Option.getD_some,ei]
  have uP:(ez (f+1) s l).filter (ndP n.ag)=chk f s l n i:=by
   have:=w8 hg.2.1 (fun n i=>chk f s l n i) (fun n i=>Qq f s l n i) (dk s).length (Nat.le_refl _) i hi;rw [JQ,<- ei'];rw [this,if_pos hi]
  rw [uP];obtain ⟨_,hdd,kind,bd,hk,hA⟩:=hg;have hgk:=(oX s kind bd hA n hn).1;obtain ⟨hu1,hu2⟩:=hu n hn
  have hok:∀ x∈l.filter (ndP n.ag),okN n x=true:=fun x hx=>by
   rw [List.mem_filter] at hx;exact KF hdd (hl x hx.1) hn hx.2
  unfold chk;generalize l.filter (ndP n.ag)=fd at *;constructor
  ·intro h13;have h1:=hu1 h13;split
   ·split
    ·simp
    ·exact h1
   ·split
    ·split
     ·split
      ·split<;>simp
      ·simp
     ·rw [List.length_map];exact h1
    ·exact h1
  ·intro h12 x hx;have h3:¬ n.aj=3:=by rcases h12 with c|c<;>rw [c]<;>decide
   rw [if_neg h3,if_pos h12] at hx;split at hx
   ·split at hx
    ·split at hx
     ·simp at hx
     ·rw [List.mem_singleton] at hx;rw [hx];exact G5 f g n.af [] hgk (fun y h=>by simp at h) (BM g _)
    ·simp at hx
   ·obtain ⟨y,hy,rfl⟩:=List.mem_map.1 hx;have h34:¬ (n.aj=3\/n.aj=4):=by rcases h12 with c|c<;>rw [c]<;>decide
    have h1:=hok y hy
    have hk2:okL (dk n.af) none y.af=true:=by
     rw [okN,if_neg h34] at h1;split at h1<;>(simp only [Bool.and_eq_true] at h1;exact h1.2)
    exact G5 f g n.af y.af hgk (om hk2) (hu2 h12 y hy)
end
section
def YJ{s:List ae}(hdd:bT (nmS (dk s))=true){x:ah}(h:okX (dk s) x){n:ae}(hn:n∈dk s)(e:x.ag=n.ag):at_ (dk s) (idx (nmP x.ag) (dk s)).toNat=n:=by
 obtain ⟨q1,q2,q3⟩:=dF h.1;refine ou hdd q3 hn ?_;have a:(at_ (dk s) (idx (nmP x.ag) (dk s)).toNat).ag=x.ag:=by simpa [nmP] using q2
 rw [a,e]
def Iz:∀ (g:Nat) (s:List ae) (l:List ah),gdF s->okL (dk s) none l=true->uqN g s l
 | 0,_,_,_,_=>trivial
 | g+1,s,l,hg,h=>by
  intro n hn;obtain ⟨hX,hP⟩:=Sv.1 h;obtain ⟨_,hdd,kind,bd,hk,hA⟩:=hg;have hgk:=(oX s kind bd hA n hn).1;constructor
  ·intro h13;have hp:=hP.filter (ndP n.ag)
   have hm:∀ x∈l.filter (ndP n.ag),okX (dk s) x/\x.ag=n.ag:=fun x hx=>by
    rw [List.mem_filter] at hx;exact ⟨hX x hx.1,by simpa [ndP] using hx.2⟩
   generalize l.filter (ndP n.ag)=fd at *
   match fd,hp,hm with
   | [],_,_=>simp
   | [x],_,_=>simp
   | x::y::r,hp,hm =>
    have h1:lR (dk s) x y=true:=(List.pairwise_cons.1 hp).1 y QC;obtain ⟨o1,e1⟩:=hm x QC;obtain ⟨o2,e2⟩:=hm y QC;have hrow:fG n.aj=false:=by rcases h13 with c|c<;>rw [c]<;>rfl
    rw [lR,YJ hdd o2 hn e2,if_neg (fun c=>by rw [hrow] at c;exact absurd c.2 baa),e1,e2] at h1;simp at h1
  ·intro h12 x hx;rw [List.mem_filter] at hx;have h1:=KF hdd (hX x hx.1) hn hx.2
   have h34:¬ (n.aj=3\/n.aj=4):=by rcases h12 with c|c<;>rw [c]<;>decide
   have hk2:okL (dk n.af) none x.af=true:=by
    rw [okN,if_neg h34] at h1;split at h1<;>(simp only [Bool.and_eq_true] at h1;exact h1.2)
   exact Iz g n.af x.af hgk hk2
def TH{s:List ae}{l:List ah}(h:bV s l=true)(g:Nat):uqN g s (lJ s l):=by simp only [bV,Bool.and_eq_true,decide_eq_true_eq] at h;have hg:=th h.1.1;exact G5 _ g s l hg (om h.2) (Iz g s l hg h.2)
def JP{s:List ae}{l:List ah}(h:bV s l=true):lJ s l=gW (aW s+1) s l:=by simp only [bV,Bool.and_eq_true,decide_eq_true_eq] at h;exact G6 _ s l (th h.1.1) (om h.2)
end
section
def plF(p:Nat->Bool)(N:Nat):List Nat:=(List.range N).filter p
def zb(p:Nat->Bool)(N:Nat):plF p (N+1)=plF p N++(if p N=true then [N] else []):=by rw [plF,List.range_succ,List.filter_append,plF];congr 1;by_cases h:p N=true<;>simp [h]
def BX{β:Type}(p:Nat->Bool)(G:Nat->List Nat->List β):∀ N:Nat,((List.range (plF p N).length).flatMap fun k=>G (at_ (plF p N) k) ((plF p N).take k))=(List.range N).flatMap fun i=>if p i=true then G i (plF p i) else []
 | 0=>by simp [plF]
 | N+1=>by
  rw [List.range_succ,List.flatMap_append,<- BX p G N,zb];by_cases h:p N=true
  ·rw [if_pos h];simp only [List.flatMap_cons,List.flatMap_nil,List.append_nil,if_pos h,List.length_append,List.length_cons,List.length_nil,Nat.zero_add];rw [List.range_succ,List.flatMap_append]
   congr 1
   ·refine oy fun k hk=>?_;have hk':=List.mem_range.1 hk;rw [C4 hk',List.take_append_of_le_length Ir]
   ·simp only [List.flatMap_cons,List.flatMap_nil,List.append_nil];rw [qq Ir,List.take_append_of_le_length Ir,List.take_length,Nat.sub_self];rfl
  ·rw [if_neg h];simp [h]
def Sa(nm:Str):∀ (l:List ah),(cJ nm l).length=(l.filter (ndP nm)).length:=by
 intro l
 have:l.filter (ndP nm)=(cJ nm l).map (at_ l):=by
  rw [cJ]
  have e:l=(List.range l.length).map (at_ l):=by
   apply List.ext_getElem
   ·simp
   ·intro i h1 h2;simp [at_,List.getElem?_eq_getElem h1]
  conv=>lhs;rw [e]
  rw [List.filter_map];rfl
 rw [this,List.length_map]
def R9{nm:Str}{l:List ah}(h:(l.filter (ndP nm)).length<=1):cJ nm l=if 0<=idx (ndP nm) l then [(idx (ndP nm) l).toNat] else []:=by
 have hl:=Sa nm l;split
 ·rename_i h0;obtain ⟨q1,q2,_⟩:=dF h0;have hm:(idx (ndP nm) l).toNat∈cJ nm l:=by rw [cJ,List.mem_filter];exact ⟨List.mem_range.2 q1,q2⟩
  match hp:cJ nm l with
  | []=>rw [hp] at hm;simp at hm
  | [x]=>rw [hp,List.mem_singleton] at hm;rw [hm]
  | x::y::r=>rw [hp] at hl;simp only [List.length_cons] at hl;omega
 ·rename_i h0
  match hp:cJ nm l with
  | []=>rfl
  | x::r =>
   have hx:x∈cJ nm l:=by rw [hp];simp
   rw [cJ,List.mem_filter] at hx;exact absurd (qM (p:=ndP nm) (List.mem_range.1 hx.1) hx.2).2 h0
def EW:∀ (g:Nat) (s:List ae) (l:List ah),uqN (g+1) s l->uqN g s l
 | 0,_,_,_=>trivial
 | g+1,s,l,h=>fun n hn=>⟨(h n hn).1,fun h12 x hx=>EW g _ _ ((h n hn).2 h12 x hx)⟩
def Rp{g:Nat}{s s':List ae}{l:List ah}(hs:∀ n∈dk s',n∈dk s)(h:uqN g s l):uqN g s' l:=by
 cases g with
 | zero=>trivial
 | succ g=>exact fun n hn=>h n (hs n hn)
end
end Go.Dt
