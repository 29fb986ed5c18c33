/- A part. -/
import Derived.Test.YtmcjbaafmjlblaaGreatDoorJ50
import Derived.Test.YtmcjbaafmjlblaaGreatDoorM6
set_option linter.all false
set_option maxRecDepth 20000
set_option maxHeartbeats 4000000
namespace Go.Proofs
open Go.Ab Go.Dt
section
attribute [-instance] F4 Ji cPf
attribute [-instance] cz
attribute [local go_sem] gf jz nC nB gV gU ba aI aS cU cT dy fZ gH
instance Yf(s:List ag)(j:bu)(l:List ah)(b t:Int):Ctr lim Tryz.prog 46 [] [.sl false 19 (s.map (ak false)),.agg [.sl false 3 (j.aQ.map (aj false)),.sl false 3 (j.aF.map (az false))],.sl false 3 ((l).map (aj false)),.v (.int .i64 b),.v (.int .i64 t)] (.tup [.agg [.sl true 3 (j.aQ.map (aj true)),.sl true 3 ((kcL s j l b t).map (az true))],.v (.bool (kcB s j l))]) [] ((wtS s<=1048576/\wt l<=1048576)/\wtS s<=1048576/\wt j.aQ<=1048576/\∀ c∈j.aF,wtE c.dG<=1048576):=by
 refine Ctr.bd Tryz.func46 Tryz.ntmps46 rfl rfl fun hp=>?_
 have gOn:=bA.on
 obtain ⟨⟨h1,h4⟩,_,h2,h3⟩:=hp
 refine AW.kU 1 rfl (xs:=j.aF.map (az false)) (own:=false) (sz:=3) (by simp) fun hf=>?_
 simp (disch:=omega) only [go_sem] at hf
 have hw:=Dx (s:=s) h2
 have hd:=Hr (s:=s) hw h4
 (refine vK ?_;with_reducible repeat' first|exact Le.l|apply Sw|intro h)
 ·exact h3 _ (by assumption)
 rename Nat=>b2
 refine AW.c (fun h=>?_) fun h=>?_
 ·have hr:fq s j=false:=by simpa using h
  clear h
  (refine vU ?_;with_reducible repeat' first|exact Le.l|apply Sw|intro h)
  rw [pz (NI hr),NI hr]
 have hr:fq s j=true:=by simpa using h
 clear h
 refine vO ?_;intros;refine AW.c (fun h=>?_) fun h=>?_
 ·have ht:(bp s (eE s j) && bp s l)=false:=by simpa using h
  clear h
  (refine vU ?_;with_reducible repeat' first|exact Le.l|apply Sw|intro h)
  rw [pz (NH ht),NH ht]
 have ht:(bp s (eE s j) && bp s l)=true:=by simpa using h
 clear h
 refine vO ?_;intros;refine AW.c (fun h=>?_) fun h=>?_
 ·have he:(kcE s j l).length=0:=by simpa using h
  clear h
  (refine vU ?_;with_reducible repeat' first|exact Le.l|apply Sw|intro h)
  rw [NG he,NL hr ht he]
 have he:¬ (kcE s j l).length=0:=by simpa using h
 clear h
 have hB0:=NJ hr ht he
 rcases Nat.lt_or_ge j.aF.length 30 with h30|h30
 rotate_left
 ·have hB:kcB s j l=false:=by rw [hB0];grind
  have e30:decide ((30:Int)<=j.aF.length)=true:=by simp;omega
  rw [pz hB,hB]
  (repeat' first|(with_reducible first|refine Z ?_|refine Y ?_|(refine hK _ _ ?_;clear hK K)|refine And.intro ?_ ?_|exact Ct|intro (K:_->_->Prop) hK|(refine gI fun hg=>?_;try simp only [hC,reduceCtorEq] at hg;try simp only [hg]))|((with_reducible refine E ?_;repeat refine Y ?_);refine eF rfl ?_)|simp (disch:=omega) only [go_sem,e30]|(with_reducible intro hg;try simp only [hC,reduceCtorEq] at hg)|exact Cl|fail)
  all_goals exact uU
 have e30:decide ((30:Int)<=j.aF.length)=false:=by simp;omega
 by_cases hc:(mdT s (eE s j) (ko s (eE s j) l)).2=0
 rotate_left
 ·have hB:kcB s j l=false:=by rw [hB0];grind
  have ec:((mdT s (eE s j) (ko s (eE s j) l)).2 != 0)=true:=by simpa using hc
  rw [pz hB,hB]
  (repeat' first|(with_reducible first|refine Z ?_|refine Y ?_|(refine hK _ _ ?_;clear hK K)|refine And.intro ?_ ?_|exact Ct|intro (K:_->_->Prop) hK|(refine gI fun hg=>?_;try simp only [hC,reduceCtorEq] at hg;try simp only [hg]))|((with_reducible refine E ?_;repeat refine Y ?_);refine eF rfl ?_)|simp (disch:=omega) only [go_sem,e30,ec]|(with_reducible intro hg;try simp only [hC,reduceCtorEq] at hg)|exact Cl|fail)
  all_goals exact uU
 have ec:((mdT s (eE s j) (ko s (eE s j) l)).2 != 0)=false:=by simpa using hc
 (repeat' first|(with_reducible first|refine Z ?_|refine Y ?_|(refine hK _ _ ?_;clear hK K)|refine And.intro ?_ ?_|exact Ct|intro (K:_->_->Prop) hK|(refine gI fun hg=>?_;try simp only [hC,reduceCtorEq] at hg;try simp only [hg]))|((with_reducible refine E ?_;repeat refine Y ?_);refine eF rfl ?_)|simp (disch:=omega) only [go_sem,e30,ec]|(with_reducible intro hg;try simp only [hC,reduceCtorEq] at hg)|exact Cl|fail)
 refine AW.c (fun h=>?_) fun h=>?_
 ·have hB:kcB s j l=false:=by rw [hB0];grind
  clear h
  (refine vU ?_;with_reducible repeat' first|exact Le.l|apply Sw|intro h)
  rw [pz hB,hB]
 have hB:kcB s j l=true:=by rw [hB0];grind
 clear h
 rw [NF hB he,hB]
 refine AW.imp (Imp.iZ (b0:=b2) (k:=1) (sz:=3) (l:=j.aF.map (az true)) (eQ _ _ _) rfl (bB (fun _=>rfl) _) (fun g hg'=>?_) (fun hnil=>?_))
 ·have hb1:=hg'.nf
  simp only [go_sem] at hb1
  simp only [List.set_cons_zero,List.set_cons_succ,List.length_map]
  (refine vN ?_;with_reducible repeat' first|exact Le.l|apply Sw|intro h)
  refine Z ?_
  (refine vN ?_;with_reducible repeat' first|exact Le.l|apply Sw|intro h)
  ·rw [bH (sz:=3) (bB (fun _=>rfl) _),List.length_map]
  rename Nat=>g2
  refine AW.imp (Imp.zF (b0:=b2) (k:=1) (b:=g2) (sz:=3) (len:=j.aF.length+1) (cells0:=[.sl true 3 (j.aQ.map (aj true)),.arr g2 0 (j.aF.length+1) 3]) (cells:=(j.aF.map (az true)).flatMap AV.cells++[.v (.int .i64 t),.v (.int .i64 b),.sl true 4 ((kcE s j l).map (aH true))]) (l:=(j.aF++[(⟨t,b,kcE s j l⟩:bV)]).map (az true)) gO rfl gO (by grind) (by rw [List.length_map,List.length_append];rfl) (by rw [List.map_append,List.flatMap_append,List.take_of_length_le (by rw [List.length_append,bH (sz:=3) (bB (fun _=>rfl) _),List.length_map];simp;omega)];rfl) (bB (fun _=>rfl) _) ?_)
  simp only [List.set_cons_zero,List.set_cons_succ]
  all_goals exact uU
 ·simp only [List.set_cons_zero,List.set_cons_succ]
  have hkn:j.aF=[]:=by simpa using hnil
  (refine vK ?_;with_reducible repeat' first|exact Le.l|apply Sw|intro h)
  rw [hkn];try rfl
end
section
attribute [-instance] cz
attribute [local go_sem] gf jz nC nB gV gU ba aI aS cU cT dy fZ gH
instance XP(s:List ag)(j:bu)(l:List ah)(b t:Int):Ctr lim Tryz.prog 45 [] [.sl false 19 (s.map (ak false)),.agg [.sl false 3 (j.aQ.map (aj false)),.sl false 3 (j.aF.map (az false))],.sl false 3 ((l).map (aj false)),.v (.int .i64 b),.v (.int .i64 t)] (.tup [.agg [.sl true 3 (j.aQ.map (aj true)),.sl true 3 ((kcL s j l b t).map (az true))],.v (.bool (kcB s j l))]) [] ((wtS s<=1048576/\wt l<=1048576)/\wtS s<=1048576/\wt j.aQ<=1048576/\∀ c∈j.aF,wtE c.dG<=1048576):=by
 refine Ctr.bd Tryz.func45 Tryz.ntmps45 rfl rfl fun hp=>?_
 have gOn:=bA.on
 obtain ⟨⟨h1,h4⟩,_,h2,h3⟩:=hp
 refine AW.kU 1 rfl (xs:=j.aF.map (az false)) (own:=false) (sz:=3) (by simp) fun hf=>?_
 simp (disch:=omega) only [go_sem] at hf
 have hw:=Dx (s:=s) h2
 have hd:=Hr (s:=s) hw h4
 (refine vK ?_;with_reducible repeat' first|exact Le.l|apply Sw|intro h)
 ·exact h3 _ (by assumption)
 rename Nat=>b2
 refine AW.c (fun h=>?_) fun h=>?_
 ·have hB:kcB s j l=false:=by rw [kcB];grind
  clear h
  (refine vU ?_;with_reducible repeat' first|exact Le.l|apply Sw|intro h)
  rw [pz hB,hB]
 have hr:fq s j=true:=by grind
 have ht:(bp s (eE s j) && bp s l)=true:=by grind
 clear h
 refine vO ?_;intros;refine AW.c (fun h=>?_) fun h=>?_
 ·have he:(kcE s j l).length=0:=by simpa using h
  clear h
  (refine vU ?_;with_reducible repeat' first|exact Le.l|apply Sw|intro h)
  rw [NG he,NL hr ht he]
 have he:¬ (kcE s j l).length=0:=by simpa using h
 clear h
 have hB0:=NJ hr ht he
 rcases Nat.lt_or_ge j.aF.length 30 with h30|h30
 rotate_left
 ·have hB:kcB s j l=false:=by rw [hB0];grind
  have e30:decide ((30:Int)<=j.aF.length)=true:=by simp;omega
  rw [pz hB,hB]
  (repeat' first|(with_reducible first|refine Z ?_|refine Y ?_|(refine hK _ _ ?_;clear hK K)|refine And.intro ?_ ?_|exact Ct|intro (K:_->_->Prop) hK|(refine gI fun hg=>?_;try simp only [hC,reduceCtorEq] at hg;try simp only [hg]))|((with_reducible refine E ?_;repeat refine Y ?_);refine eF rfl ?_)|simp (disch:=omega) only [go_sem,e30]|(with_reducible intro hg;try simp only [hC,reduceCtorEq] at hg)|exact Cl|fail)
  all_goals exact uU
 have e30:decide ((30:Int)<=j.aF.length)=false:=by simp;omega
 by_cases hc:(mdT s (eE s j) (ko s (eE s j) l)).2=0
 rotate_left
 ·have hB:kcB s j l=false:=by rw [hB0];grind
  have ec:((mdT s (eE s j) (ko s (eE s j) l)).2 != 0)=true:=by simpa using hc
  rw [pz hB,hB]
  (repeat' first|(with_reducible first|refine Z ?_|refine Y ?_|(refine hK _ _ ?_;clear hK K)|refine And.intro ?_ ?_|exact Ct|intro (K:_->_->Prop) hK|(refine gI fun hg=>?_;try simp only [hC,reduceCtorEq] at hg;try simp only [hg]))|((with_reducible refine E ?_;repeat refine Y ?_);refine eF rfl ?_)|simp (disch:=omega) only [go_sem,e30,ec]|(with_reducible intro hg;try simp only [hC,reduceCtorEq] at hg)|exact Cl|fail)
  all_goals exact uU
 have ec:((mdT s (eE s j) (ko s (eE s j) l)).2 != 0)=false:=by simpa using hc
 (repeat' first|(with_reducible first|refine Z ?_|refine Y ?_|(refine hK _ _ ?_;clear hK K)|refine And.intro ?_ ?_|exact Ct|intro (K:_->_->Prop) hK|(refine gI fun hg=>?_;try simp only [hC,reduceCtorEq] at hg;try simp only [hg]))|((with_reducible refine E ?_;repeat refine Y ?_);refine eF rfl ?_)|simp (disch:=omega) only [go_sem,e30,ec]|(with_reducible intro hg;try simp only [hC,reduceCtorEq] at hg)|exact Cl|fail)
 refine AW.c (fun h=>?_) fun h=>?_
 ·have hB:kcB s j l=false:=by rw [hB0];grind
  clear h
  (refine vU ?_;with_reducible repeat' first|exact Le.l|apply Sw|intro h)
  rw [pz hB,hB]
 have hB:kcB s j l=true:=by rw [hB0];grind
 clear h
 rw [NF hB he,hB]
 refine AW.imp (Imp.iZ (b0:=b2) (k:=1) (sz:=3) (l:=j.aF.map (az true)) (eQ _ _ _) rfl (bB (fun _=>rfl) _) (fun g hg'=>?_) (fun hnil=>?_))
 ·have hb1:=hg'.nf
  simp only [go_sem] at hb1
  simp only [List.set_cons_zero,List.set_cons_succ,List.length_map]
  (refine vN ?_;with_reducible repeat' first|exact Le.l|apply Sw|intro h)
  refine Z ?_
  (refine vN ?_;with_reducible repeat' first|exact Le.l|apply Sw|intro h)
  ·rw [bH (sz:=3) (bB (fun _=>rfl) _),List.length_map]
  rename Nat=>g2
  refine AW.imp (Imp.zF (b0:=b2) (k:=1) (b:=g2) (sz:=3) (len:=j.aF.length+1) (cells0:=[.sl true 3 (j.aQ.map (aj true)),.arr g2 0 (j.aF.length+1) 3]) (cells:=(j.aF.map (az true)).flatMap AV.cells++[.v (.int .i64 t),.v (.int .i64 b),.sl true 4 ((kcE s j l).map (aH true))]) (l:=(j.aF++[(⟨t,b,kcE s j l⟩:bV)]).map (az true)) gO rfl gO (by grind) (by rw [List.length_map,List.length_append];rfl) (by rw [List.map_append,List.flatMap_append,List.take_of_length_le (by rw [List.length_append,bH (sz:=3) (bB (fun _=>rfl) _),List.length_map];simp;omega)];rfl) (bB (fun _=>rfl) _) ?_)
  simp only [List.set_cons_zero,List.set_cons_succ]
  all_goals exact uU
 ·simp only [List.set_cons_zero,List.set_cons_succ]
  have hkn:j.aF=[]:=by simpa using hnil
  (refine vK ?_;with_reducible repeat' first|exact Le.l|apply Sw|intro h)
  rw [hkn];try rfl
end
end Go.Proofs
