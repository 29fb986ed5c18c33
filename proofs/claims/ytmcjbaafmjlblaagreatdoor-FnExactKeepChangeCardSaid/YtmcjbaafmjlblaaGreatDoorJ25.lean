/- A part. -/
import Derived.Test.YtmcjbaafmjlblaaGreatDoorJ24
set_option linter.all false
set_option maxRecDepth 20000
set_option maxHeartbeats 4000000
namespace Go.Proofs
open Go.Ab Go.Dt
attribute [local go_sem] ba aI aS
instance YS(n:ag)(x:ah):Ctr lim Tryz.prog 157 [] [.agg (cSc n),.agg (cNo x)] (.tup [.sl true 1 ((kyL n x).map AV.str),.v (.bool (kyB n x))]) [] (True):=by
 refine Ctr.bd Tryz.func157 Tryz.ntmps157 rfl rfl fun hp=>?_
 have gOn:=bA.on
 refine AW.fact 0 fun hf=>?_
 simp (disch:=omega) only [go_sem] at hf
 refine vO ?_;intros;refine AW.c (fun h=>?_) fun h=>?_
 ·(refine vU ?_;with_reducible repeat' first|exact Le.l|apply Sw|intro h)
  rw [(gC h).1,(gC h).2];try rfl
 (refine vU ?_;with_reducible repeat' first|exact Le.l|apply Sw|intro h)
 refine AW.aA [6,20] [2,3,18,19] (fun m xs o=>∃ k:Nat,xs=[.sl true 1 (((n.aw.take k).map (kyT x)).map AV.str),.v (.int .i64 k)]/\o=[]/\m=n.aw.length - k/\k<=n.aw.length/\∀ y∈n.aw.take k,(!j9 x y)=false) n.aw.length [] trivial ⟨0,?_,rfl,rfl,?_,?_⟩ ?_
 ·rfl
 ·omega
 ·simp
 rintro m xs o ⟨k,rfl,rfl,rfl,hk,hR⟩
 have hlen:(List.take k n.aw).length=k:=by rw [List.length_take];omega
 have hi:=gJ (p:=ndP (at_ n.aw k)) x.af
 (refine vU ?_;with_reducible repeat' first|exact Le.l|apply Sw|intro h)
 ·rename_i h2 h1
  rw [(rL h2 (iL h1 (by rw [j9];simpa using h))).1,(rL h2 (iL h1 (by rw [j9];simpa using h))).2];try rfl
 ·rename_i h2 h1
  exact ⟨_,[_,_],[],by omega,⟨k+1,rfl,rfl,rfl,by omega,bJ h1 hR (by rw [j9];simpa using h)⟩,by rw [Di h1];try rfl,trivial⟩
 ·rename_i h1
  rw [(lL h1 (eA h hR)).1,(lL h1 (eA h hR)).2,List.take_of_length_le (by omega)]
theorem Jx(n:ag)(x:ah):Ctr lim Tryz.prog 173 [] [.agg (cSc n),.agg (cNo x)] (.tup [.sl true 1 ((kyL n x).map AV.str),.v (.bool true)]) [] (kyB n x=true):=by
 refine Ctr.bd Tryz.func173 Tryz.ntmps173 rfl rfl fun hp=>?_
 have gOn:=bA.on
 refine AW.fact 0 fun hf=>?_
 simp (disch:=omega) only [go_sem] at hf
 refine vO ?_;intros;refine AW.c (fun h=>?_) fun h=>?_
 ·(refine vU ?_;with_reducible repeat' first|exact Le.l|apply Sw|intro h)
  rw [(gC h).1];try rfl
 (refine vU ?_;with_reducible repeat' first|exact Le.l|apply Sw|intro h)
 refine AW.aA [6,7] [2,3] (fun m xs o=>∃ k:Nat,xs=[.sl true 1 (((n.aw.take k).map (kyT x)).map AV.str),.v (.int .i64 k)]/\o=[]/\m=n.aw.length - k/\k<=n.aw.length/\∀ y∈n.aw.take k,(!j9 x y)=false) n.aw.length [] trivial ⟨0,?_,rfl,rfl,?_,?_⟩ ?_
 ·rfl
 ·omega
 ·simp
 rintro m xs o ⟨k,rfl,rfl,rfl,hk,hR⟩
 have hlen:(List.take k n.aw).length=k:=by rw [List.length_take];omega
 have hi:=gJ (p:=ndP (at_ n.aw k)) x.af
 (refine vU ?_;with_reducible repeat' first|exact Le.l|apply Sw|intro h)
 ·rename_i h2 h1
  exact absurd hp (by rw [(rL h2 (iL h1 (by rw [j9];simpa using h))).2];decide)
 ·rename_i h2 h1
  exact ⟨_,[_,_],[],by omega,⟨k+1,rfl,rfl,rfl,by omega,bJ h1 hR (by rw [j9];simpa using h)⟩,by rw [Di h1];try rfl,trivial⟩
 ·rename_i h1
  rw [(lL h1 (eA h hR)).1,List.take_of_length_le (by omega)]
theorem QC(n:ag)(x:ah):Ctr lim Tryz.prog 173 [] [.agg (cSc n),.agg (cNo x)] (.tup [.v (.slice none 0 0),.v (.bool false)]) [] (kyB n x=false):=by
 refine Ctr.bd Tryz.func173 Tryz.ntmps173 rfl rfl fun hp=>?_
 have gOn:=bA.on
 refine AW.fact 0 fun hf=>?_
 simp (disch:=omega) only [go_sem] at hf
 refine vO ?_;intros;refine AW.c (fun h=>?_) fun h=>?_
 ·(refine vU ?_;with_reducible repeat' first|exact Le.l|apply Sw|intro h)
  exact absurd hp (by rw [(gC h).2];decide)
 (refine vU ?_;with_reducible repeat' first|exact Le.l|apply Sw|intro h)
 refine AW.aA [6,7] [2,3] (fun m xs o=>∃ k:Nat,xs=[.sl true 1 (((n.aw.take k).map (kyT x)).map AV.str),.v (.int .i64 k)]/\o=[]/\m=n.aw.length - k/\k<=n.aw.length/\∀ y∈n.aw.take k,(!j9 x y)=false) n.aw.length [] trivial ⟨0,?_,rfl,rfl,?_,?_⟩ ?_
 ·rfl
 ·omega
 ·simp
 rintro m xs o ⟨k,rfl,rfl,rfl,hk,hR⟩
 have hlen:(List.take k n.aw).length=k:=by rw [List.length_take];omega
 have hi:=gJ (p:=ndP (at_ n.aw k)) x.af
 (refine vU ?_;with_reducible repeat' first|exact Le.l|apply Sw|intro h)
 ·rename_i h2 h1
  exact ⟨_,[_,_],[],by omega,⟨k+1,rfl,rfl,rfl,by omega,bJ h1 hR (by rw [j9];simpa using h)⟩,by rw [Di h1];try rfl,trivial⟩
 ·rename_i h1
  exact absurd hp (by rw [(lL h1 (eA h hR)).2];decide)
theorem y4(n:ag)(x:ah):Ctr lim Tryz.prog 173 [] [.agg (cSc n),.agg (cNo x)] (.tup [.sl false 1 ((kyL n x).map AV.str),.v (.bool true)]) [] (kyB n x=true) :=
 Ctr.lJ (aM 173) fun h=>by
  have:=((Jx n x).pure h).frz
  simpa only [AV.frz,AV.bZ,ba,cond_true] using this
instance Xs(L:Nat->Nat)(s:Str):Ctr L Tryz.prog 235 [] [.str s] (.v (.bool false)) [] True:=by
 refine Ctr.bd Tryz.func235 Tryz.ntmps235 rfl rfl fun hp=>?_
 (refine vU ?_;with_reducible repeat' first|exact Le.l|apply Sw|intro h)
 all_goals simp
instance Y3(L:Nat->Nat)(a b:Str):Ctr L Tryz.prog 208 [] [.str a,.str b] (.v (.int .i64 (nA a b))) [] True:=by
 refine Ctr.bd Tryz.func208 Tryz.ntmps208 rfl rfl fun hp=>?_
 (refine vU ?_;with_reducible repeat' first|exact Le.l|apply Sw|intro h)
 ·rw [nA,if_pos h]
 ·rename_i h1
  rw [nA,if_neg (by rw [h1];simp),if_neg h.2]
 ·rename_i h1
  rw [nA,if_neg (by rw [h1];simp),if_pos (by rcases h with h|h;rw [h1] at h;exact absurd h (by simp);exact h)]
instance Zc(a b:List Str):Ctr lim Tryz.prog 180 [] [.sl false 1 (a.map AV.str),.sl false 1 (b.map AV.str)] (.v (.int .i64 (cmpL a b))) [] True:=by
 refine Ctr.bd Tryz.func180 Tryz.ntmps180 rfl rfl fun hp=>?_
 have gOn:=bA.on
 refine AW.fact 0 fun hf=>?_
 simp (disch:=omega) only [go_sem] at hf
 (refine vU ?_;with_reducible repeat' first|exact Le.l|apply Sw|intro h)
 refine AW.aA [11] [0,1,9,10] (fun m xs o=>∃ k:Nat,xs=[.v (.int .i64 k)]/\o=[]/\m=a.length - k/\k<=a.length/\k<=b.length/\cmpL (a.drop k) (b.drop k)=cmpL a b) a.length [] trivial ⟨0,?_,rfl,rfl,?_,?_,?_⟩ ?_
 ·rfl
 ·omega
 ·omega
 ·rfl
 rintro m xs o ⟨k,rfl,rfl,rfl,hk,hk2,hR⟩
 have hc:=Nf (at_ a k) (at_ b k)
 (refine vU ?_;with_reducible repeat' first|exact Le.l|apply Sw|intro h)
 ·rename_i h1
  rw [<- hR,R6 h1 (by omega)]
 ·rename_i h1 _
  rw [<- hR,HC h1 (by omega),if_neg h]
 ·rename_i h1 _
  exact ⟨_,[_],[],by omega,⟨k+1,rfl,rfl,rfl,by omega,by omega,by rw [<- hR,HC h1 (by omega),if_pos h]⟩,rfl,trivial⟩
 ·rename_i h1
  rw [<- hR,Lc h1,if_pos (by omega)]
 ·rename_i h1
  rw [<- hR,Lc h1,if_neg (by omega)]
instance Wt(n:ag)(x y:ah):Ctr lim Tryz.prog 155 [] [.agg (cSc n),.agg (cNo x),.agg (cNo y)] (.v (.int .i64 (mZ n x y))) [] True:=by
 refine Ctr.bd Tryz.func155 Tryz.ntmps155 rfl rfl fun hp=>?_
 have gOn:=bA.on
 (refine vU ?_;with_reducible repeat' first|exact Le.l|apply Sw|intro h)
 ·rw [mZ,if_neg (by rw [gu];simp;exact h)]
 ·rw [mZ,if_pos (by rw [gu];simp;grind)]
instance XM(a b:List Str):Ctr lim Tryz.prog 191 [] [.sl false 1 (a.map AV.str),.sl false 1 (b.map AV.str)] (.v (.bool (dZ a b))) [] True:=by
 refine Ctr.bd Tryz.func191 Tryz.ntmps191 rfl rfl fun hp=>?_
 have gOn:=bA.on
 refine AW.fact 0 fun hf=>?_
 simp (disch:=omega) only [go_sem] at hf
 (refine vU ?_;with_reducible repeat' first|exact Le.l|apply Sw|intro h)
 refine AW.aA [5] [0,1] (fun m xs o=>∃ k:Nat,xs=[.v (.int .i64 k)]/\o=[]/\m=a.length - k/\k<=a.length/\k<=b.length/\dZ (a.drop k) (b.drop k)=dZ a b) a.length [] trivial ⟨0,?_,rfl,rfl,?_,?_,?_⟩ ?_
 ·rfl
 ·omega
 ·omega
 ·rfl
 rintro m xs o ⟨k,rfl,rfl,rfl,hk,hk2,hR⟩
 (refine vU ?_;with_reducible repeat' first|exact Le.l|apply Sw|intro h)
 ·rename_i h1
  rw [<- hR,Ed h1.1 h1.2,if_neg h]
 ·rename_i h1
  exact ⟨_,[_],[],by omega,⟨k+1,rfl,rfl,rfl,by omega,by omega,by rw [<- hR,Ed h1.1 h1.2,if_pos h]⟩,rfl,trivial⟩
 ·rw [<- hR,Pp hk hk2 (fun c=>h c.1 c.2)]
instance U4(d:List ag)(x y:ah):Ctr lim Tryz.prog 165 [] [.sl false 19 (d.map (ak false)),.agg (cNo x),.agg (cNo y)] (.v (.bool (gZ d x y))) [] (0<=idx (nmP x.ae) d/\(idx (nmP x.ae) d=idx (nmP y.ae) d->kyB (at_ d (idx (nmP x.ae) d).toNat) x=true/\kyB (at_ d (idx (nmP x.ae) d).toNat) y=true)):=by
 refine Ctr.bd Tryz.func165 Tryz.ntmps165 rfl rfl fun hp=>?_
 have gOn:=bA.on
 have hi:=gJ (p:=nmP x.ae) d
 obtain ⟨hp,hy⟩:=hp
 refine AW.fact 0 fun hf=>?_
 simp (disch:=omega) only [go_sem] at hf
 refine vO ?_;intros;refine AW.c (fun h=>?_) fun h=>?_
 ·(refine vU ?_;with_reducible repeat' first|exact Le.l|apply Sw|intro h)
  rw [gZ,if_neg]
  rintro ⟨e1,e2⟩
  rcases h with h|h
  ·exact h e1
  ·rw [e1,e2] at h;exact absurd h (by simp)
 obtain ⟨hy1,hy2⟩:=hy h.1
 haveI hky:=y4 (at_ d (idx (nmP x.ae) d).toNat) x
 haveI hkz:=y4 (at_ d (idx (nmP x.ae) d).toNat) y
 (refine vU ?_;with_reducible repeat' first|exact Le.l|apply Sw|intro h)
 rw [gZ,if_pos ⟨h.1,h.1 ▸ h.2⟩,<- h.1]
end Go.Proofs
