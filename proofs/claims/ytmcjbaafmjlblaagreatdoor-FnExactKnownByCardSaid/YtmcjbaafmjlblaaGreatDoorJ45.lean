/- A part. -/
import Derived.Test.YtmcjbaafmjlblaaGreatDoorJ44
set_option linter.all false
set_option maxRecDepth 20000
set_option maxHeartbeats 4000000
namespace Go.Proofs
open Go.Ab Go.Dt
section
attribute [-instance] cz
attribute [local go_sem] bD vz vw gV gU ba aI aS cU cT dy fZ gH
instance Wu(s:List ag)(w:dm):Ctr lim Tryz.prog 34 [] [.sl false 19 (s.map (ak false)),.agg [.sl false 1 (w.ax.map AV.str),.sl false 3 (w.cL.map (aj false)),.sl false 1 (w.bt.map (bD false))]] (.tup [.sl true 3 ((oR s w).map (aj true)),.v (.bool (AJ s w))]) [] (wtS s<=1048576/\wt w.cL<=1048576/\∀ e∈w.bt,wtE e<=1048576):=by
 refine Ctr.bd Tryz.func34 Tryz.ntmps34 rfl rfl fun hp=>?_
 have gOn:=bA.on
 obtain ⟨h1,h2,h3⟩:=hp
 refine AW.kU 1 rfl (xs:=w.bt.map (bD false)) (own:=false) (sz:=1) (by simp) fun hf=>?_
 simp (disch:=omega) only [go_sem] at hf
 (refine vK ?_;with_reducible repeat' first|exact Le.l|apply Sw|intro h)
 refine AW.aA [6,17] [0,15,16] (fun m xs o=>∃ (k:Nat) (l:List ah),xs=[.sl true 3 (l.map (aj true)),.v (.int .i64 k)]/\o=[]/\m=w.bt.length - k/\k<=w.bt.length/\eu s l (w.bt.drop k)=eu s w.cL w.bt/\wt l<=1048576) w.bt.length [] trivial ⟨0,w.cL,?_,rfl,rfl,?_,rfl,h2⟩ ?_
 ·rfl
 ·omega
 rintro m xs o ⟨k,l,rfl,rfl,rfl,hk,hR,hl⟩
 refine vO ?_;intros;refine AW.c (fun h=>?_) fun h=>?_
 ·have hlk:=h
  have hwe:=h3 _ (at_mem h)
  rw [y8 h] at hR
  clear h
  refine vO ?_;intros;refine AW.c (fun h=>?_) fun h=>?_
  ·rw [if_pos h] at hR
   (refine vU ?_;with_reducible repeat' first|exact Le.l|apply Sw|intro h)
   rw [AJ,oR,<- hR];try rfl
  ·rw [if_neg (fun c=>c h)] at hR
   have hwn:=((uK s l (at_ w.bt k)).2 h).2
   (refine vU ?_;with_reducible repeat' first|exact Le.l|apply Sw|intro h)
   exact ⟨_,[_,_],_,by omega,⟨k+1,_,rfl,rfl,rfl,by omega,hR,by omega⟩,rfl,by simp (maxSteps:=2000000) (disch:=omega) only [go_sem]⟩
 ·rw [dh h,eu] at hR
  (refine vU ?_;with_reducible repeat' first|exact Le.l|apply Sw|intro h)
  rw [AJ,oR,<- hR];try rfl
instance VV(s:List ag)(w:dm):Ctr lim Tryz.prog 33 [] [.sl false 19 (s.map (ak false)),.agg [.sl false 1 (w.ax.map AV.str),.sl false 3 (w.cL.map (aj false)),.sl false 1 (w.bt.map (bD false))]] (.tup [.sl true 3 ((oR s w).map (aj true)),.v (.bool (AJ s w))]) [] (wtS s<=1048576/\wt w.cL<=1048576/\∀ e∈w.bt,wtE e<=1048576):=by
 refine Ctr.bd Tryz.func33 Tryz.ntmps33 rfl rfl fun hp=>?_
 have gOn:=bA.on
 obtain ⟨h1,h2,h3⟩:=hp
 refine AW.kU 1 rfl (xs:=w.bt.map (bD false)) (own:=false) (sz:=1) (by simp) fun hf=>?_
 simp (disch:=omega) only [go_sem] at hf
 (refine vK ?_;with_reducible repeat' first|exact Le.l|apply Sw|intro h)
 refine AW.aA [6,7] [0,3] (fun m xs o=>∃ (k:Nat) (l:List ah),xs=[.sl true 3 (l.map (aj true)),.v (.int .i64 k)]/\o=[]/\m=w.bt.length - k/\k<=w.bt.length/\eu s l (w.bt.drop k)=eu s w.cL w.bt/\wt l<=1048576) w.bt.length [] trivial ⟨0,w.cL,?_,rfl,rfl,?_,rfl,h2⟩ ?_
 ·rfl
 ·omega
 rintro m xs o ⟨k,l,rfl,rfl,rfl,hk,hR,hl⟩
 refine vO ?_;intros;refine AW.c (fun h=>?_) fun h=>?_
 ·have hlk:=h
  have hwe:=h3 _ (at_mem h)
  rw [y8 h] at hR
  clear h
  refine vO ?_;intros;refine AW.c (fun h=>?_) fun h=>?_
  ·rw [if_pos h] at hR
   (refine vU ?_;with_reducible repeat' first|exact Le.l|apply Sw|intro h)
   rw [AJ,oR,<- hR];try rfl
  ·rw [if_neg (fun c=>c h)] at hR
   have hwn:=((uK s l (at_ w.bt k)).2 h).2
   (refine vU ?_;with_reducible repeat' first|exact Le.l|apply Sw|intro h)
   exact ⟨_,[_,_],_,by omega,⟨k+1,_,rfl,rfl,rfl,by omega,hR,by omega⟩,rfl,by simp (maxSteps:=2000000) (disch:=omega) only [go_sem]⟩
 ·rw [dh h,eu] at hR
  (refine vU ?_;with_reducible repeat' first|exact Le.l|apply Sw|intro h)
  rw [AJ,oR,<- hR];try rfl
end
section
attribute [local go_sem] bD ba aI aS gf vz vw gV gU jz
end
section
theorem I5(l:List (List au)):AV.ck (l.map (bD true))=true:=dz l fun x _=>by simp only [bD,AV.closed,jz,Bool.and_self]
end
end Go.Proofs
