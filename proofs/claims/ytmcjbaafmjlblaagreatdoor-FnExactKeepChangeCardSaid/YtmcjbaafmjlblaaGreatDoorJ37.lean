/- A part. -/
import Derived.Test.YtmcjbaafmjlblaaGreatDoorJ31
set_option linter.all false
set_option maxRecDepth 20000
set_option maxHeartbeats 4000000
namespace Go.Proofs
open Go.Ab Go.Dt
attribute [local go_sem] ba aI aS cU cT dy fZ gH
theorem KG:∀ (n:Nat) (s:List ag) (nm:Str),Ctr lim Tryz.prog 225 [] [.sl false 19 (s.map (ak false)),.str nm] (.tup [.sl true 1 ((iq s nm).map AV.str),.v (.bool (oth s nm).isSome)]) [] (SizeOf.sizeOf s<n/\bE s<=1048576)
 | 0,_,_=>⟨(aM 225),fun h=>absurd h.1 (Nat.not_lt_zero _)⟩
 | n+1,s,nm=>by
  have ih:=KG n
  refine Ctr.bd Tryz.func225 Tryz.ntmps225 rfl rfl fun hp=>?_
  have gOn:=bA.on
  obtain ⟨hn,hc⟩:=hp
  refine AW.fact 0 fun hf=>?_
  simp (disch:=omega) only [go_sem] at hf
  (refine vK ?_;with_reducible repeat' first|exact Le.l|apply Sw|intro h)
  refine AW.aA [16] [1,14,15] (fun m xs o=>∃ k:Nat,xs=[.v (.int .i64 k)]/\o=[]/\m=s.length - k/\k<=s.length/\oth (s.drop k) nm=oth s nm) s.length [] trivial ⟨0,?_,rfl,rfl,?_,rfl⟩ ?_
  ·rfl
  ·omega
  rintro m xs o ⟨k,rfl,rfl,rfl,hk,hR⟩
  refine vO ?_;intros;refine AW.c (fun h=>?_) fun h=>?_
  ·have hlk:=h
   have hsk:=wz (at_mem h)
   have hck:=pS (at_mem h)
   rw [da h,xL] at hR
   clear h
   refine vO ?_;intros;refine AW.c (fun h=>?_) fun h=>?_
   ·have hR2:=hR
    rw [if_pos (by grind)] at hR2
    (refine vX ?_;with_reducible repeat' first|exact Le.l|apply Sw|intro h)
    refine AW.imp (Imp.dY 4 1 gO ?_)
    (refine vU ?_;with_reducible repeat' first|exact Le.l|apply Sw|intro h)
    rw [iq,<- hR2];try rfl
   have h1:¬ (di (at_ s k).ai=true/\(at_ s k).ae=nm):=by grind
   rw [if_neg h1] at hR
   clear h
   refine vO ?_;intros;refine AW.c (fun h=>?_) fun h=>?_
   ·rw [if_neg h] at hR
    (refine vU ?_;with_reducible repeat' first|exact Le.l|apply Sw|intro h)
    exact ⟨_,[_],_,by omega,⟨k+1,rfl,rfl,rfl,by omega,hR⟩,rfl,by simp (maxSteps:=2000000) (disch:=omega) only [go_sem]⟩
   rw [if_pos (by omega)] at hR
   clear h
   rename Nat=>b1
   (refine vK ?_;with_reducible repeat' first|exact Le.l|apply Sw|intro h)
   refine AW.fact 33 fun hf2=>?_
   simp (disch:=omega) only [go_sem] at hf2
   refine AW.aA [35] [1,7,14,15,16,33,34] (fun m xs o=>∃ i:Nat,xs=[.v (.int .i64 i)]/\o=[(b1,some (cSc (at_ s k)))]/\m=(at_ s k).af.length - i/\i<=(at_ s k).af.length/\jK (at_ s k).af i ((at_ s k).af.drop i) nm=jK (at_ s k).af 0 (at_ s k).af nm) (at_ s k).af.length [(b1,some (cSc (at_ s k)))] gO ⟨0,rfl,rfl,rfl,by omega,rfl⟩ ?_
   rintro m xs o ⟨i,rfl,rfl,rfl,hi,hR3⟩
   refine vO ?_;intros;refine AW.c (fun h=>?_) fun h=>?_
   ·have hik:=h
    have hsi:=wz (at_mem h)
    have hci:=pS (at_mem h)
    rw [da h,BM] at hR3
    clear h
    refine vO ?_;intros;refine AW.c (fun h=>?_) fun h=>?_
    ·have e0:oth (at_ (at_ s k).af i).af nm=none:=by grind
     rw [e0] at hR3
     (refine vU ?_;with_reducible repeat' first|exact Le.l|apply Sw|intro h)
     exact ⟨_,[_],_,by omega,⟨i+1,rfl,rfl,rfl,by omega,hR3⟩,rfl,by simp (maxSteps:=2000000) (disch:=omega) only [go_sem]⟩
    obtain ⟨o1,e0⟩:∃ o1,oth (at_ (at_ s k).af i).af nm=some o1:=by
     cases e:oth (at_ (at_ s k).af i).af nm with
     | none=>rw [e] at h;cases h
     | some o1=>exact ⟨o1,rfl⟩
    rw [e0] at hR3
    have hR4:oth s nm=some (o1++j6 (at_ s k).af i (at_ s k).af.length):=by rw [<- hR,<- hR3]
    clear h
    rename_i b2
    have e1:iq (at_ (at_ s k).af i).af nm=o1:=by rw [iq,e0];rfl
    rw [e1]
    (refine vK ?_;with_reducible repeat' first|exact Le.l|apply Sw|intro h)
    refine AW.fact 50 fun hf3=>?_
    simp (disch:=omega) only [go_sem] at hf3
    refine AW.aA [10,52] [8,50,51] (fun m xs o=>∃ j:Nat,xs=[.sl true 1 ((o1++j6 (at_ s k).af i j).map AV.str),.v (.int .i64 j)]/\o=[]/\m=(at_ s k).af.length - j/\j<=(at_ s k).af.length) (at_ s k).af.length [] trivial ⟨0,?_,rfl,rfl,?_⟩ ?_
    ·rw [show j6 (at_ s k).af i 0=[] by simp [j6],List.append_nil];rfl
    ·omega
    rintro m xs o ⟨j,rfl,rfl,rfl,hj⟩
    refine vO ?_;intros;refine AW.c (fun h=>?_) fun h=>?_
    ·have hjk:=h
     have hcj:=pS (at_mem h)
     have hst:=uI (at_ s k).af i j
     have hl:=wi (at_ s k).af i j (by omega)
     have hl3:=yF (at_ s k).af j
     have hl2:=pL _ _ _ e0
     have hl4:(nmS (dk (at_ (at_ s k).af j).af)).length<=bE (at_ (at_ s k).af j).af:=by rw [nmS,List.length_map];exact vB _
     clear h
     (refine vU ?_;with_reducible repeat' first|exact Le.l|apply Sw|intro h)
     ·exact ⟨_,[_,_],_,by omega,⟨j+1,by rw [hst,if_neg (by omega)];simp only [List.map_append,List.append_assoc],rfl,rfl,by omega⟩,rfl,by simp (maxSteps:=2000000) (disch:=omega) only [go_sem]⟩
     ·exact ⟨_,[_,_],_,by omega,⟨j+1,by rw [hst,if_pos (by omega),List.append_nil],rfl,rfl,by omega⟩,rfl,by simp (maxSteps:=2000000) (disch:=omega) only [go_sem]⟩
    ·have ej:j=(at_ s k).af.length:=by omega
     subst ej
     (refine vU ?_;with_reducible repeat' first|exact Le.l|apply Sw|intro h)
     rw [iq,hR4];try rfl
   ·rw [dh h,jK] at hR3
    rw [<- hR3] at hR
    (refine vU ?_;with_reducible repeat' first|exact Le.l|apply Sw|intro h)
    exact ⟨_,[_],_,by omega,⟨k+1,rfl,rfl,rfl,by omega,hR⟩,rfl,by simp (maxSteps:=2000000) (disch:=omega) only [go_sem]⟩
  ·rw [dh h,oth] at hR
   (refine vX ?_;with_reducible repeat' first|exact Le.l|apply Sw|intro h)
   refine AW.imp (Imp.dY 4 1 gO ?_)
   (refine vU ?_;with_reducible repeat' first|exact Le.l|apply Sw|intro h)
   rw [iq,<- hR];try rfl
instance YR(s:List ag)(nm:Str):Ctr lim Tryz.prog 225 [] [.sl false 19 (s.map (ak false)),.str nm] (.tup [.sl true 1 ((iq s nm).map AV.str),.v (.bool (oth s nm).isSome)]) [] (bE s<=1048576):=⟨(aM 225),fun h=>(KG (SizeOf.sizeOf s+1) s nm).out ⟨Nat.lt_succ_self _,h⟩⟩
end Go.Proofs
namespace Go.Ab
theorem Imp.Pa{L:Nat->Nat}{n:Nat}{t:List (Nat×AV)}{o:Sto}{Q:AS->Prop}{b:Nat}(pre post:List AV){own:Bool}{sz:Nat}{l:List AV}(p q:List AV)(o':Bool)(z:Nat)(hO:O o b=some (pre++([.sl own sz (l++[.agg (p++.v (.slice none 0 0)::q)])]++post)))
  (h:Q ⟨n,t,fY o b (some (pre++([.sl own sz (l++[.agg (p++.sl o' z []::q)])]++post)))⟩):Imp L ⟨n,t,o⟩ Q :=
 Imp.wh hO fun vs=>⟨[.sl own sz (l++[.agg (p++.sl o' z []::q)])],h,fun F w f r=>by
  simp only [aq] at r ⊢
  obtain ⟨y,vs',f1,f2,e1,e2,hy,e3,e4⟩:=r
  exact ⟨y,vs',f1,f2,e1,e2,Rep.Qv (Rep.Ol Rep.dY) _ _ hy,e3,e4⟩⟩
end Go.Ab
