/-
  Part of a proof: We2, Or0, Or1, Or2, We3p.
-/
import Derived.Test.YtmcjbaafmjlblaaGreatDoorG30
import Derived.Test.YtmcjbaafmjlblaaGreatDoorG41
import Derived.Test.YtmcjbaafmjlblaaGreatDoorG45
import Derived.Test.YtmcjbaafmjlblaaGreatDoorG46
import Derived.Test.YtmcjbaafmjlblaaGreatDoorG47
import Derived.Test.YtmcjbaafmjlblaaGreatDoorG48
set_option linter.unusedSimpArgs false
set_option linter.unusedVariables false
namespace Go.Proofs.YtmcjbaafmjlblaaGreatDoor
open Go.Ab Go.Dt
set_option maxRecDepth 20000
set_option maxHeartbeats 4000000
attribute [local go_sem] encEditS frzL_str encSchemaM_frz encNodeM_frz encEditM_frz encEditSM_frz edsAll edsOne ediAll ediOne dp_0 tk_0
instance eqEditSS_i(L:Nat→Nat)[hL:Lok L](l:List (List GEdit)):Ctr L Tryz.prog 71 [] [.sl false 1 (l.map (encEditS false)),.sl false 1 (l.map (encEditS false))] (.v (.bool true)) [] True:=by
 refine Ctr.of_body en71 Tryz.func71 rfl rfl fun hp=>(?_);rw [Tryz.ntmps71]
 refine AW.fact 0 fun hf=>?_
 simp (disch:=omega) only [go_sem,Nat.reduceBEq] at hf
 have hf:=Nat.le_trans hf (hL.le 1)
 (refine vU ?_;with_reducible repeat' first|exact Le.l|refine Sw ?_ ?_|intro h)
 refine AW.loopV [5] [0,1] (fun m xs o=>∃ k:Nat,xs=[.v (.int .i64 k)]∧o=[]∧m=l.length - k∧k≤l.length) l.length [] trivial ⟨0,?_,rfl,rfl,?_⟩ ?_
 ·rfl
 ·omega
 rintro m xs o ⟨k,rfl,rfl,rfl,hk⟩
 (refine vU ?_;with_reducible repeat' first|exact Le.l|refine Sw ?_ ?_|intro h)
 exact ⟨_,[_],[],by omega,⟨k+1,rfl,rfl,rfl,by omega⟩,rfl,trivial⟩
instance szEditSS_i(L:Nat→Nat)[hL:Lok L](l:List (List GEdit))(r:Int):Ctr L Tryz.prog 60 [] [.sl false 1 (l.map (encEditS false)),.v (.int .i64 r)] (.v (.int .i64 (szSl szEditS l r))) [] (0≤r∧r≤1048576):=by
 refine Ctr.of_body en60 Tryz.func60 rfl rfl fun hp=>(?_);rw [Tryz.ntmps60]
 refine AW.fact 0 fun hf=>?_
 simp (disch:=omega) only [go_sem,Nat.reduceBEq] at hf
 have hf:=Nat.le_trans hf (hL.le 1)
 (refine vU ?_;with_reducible repeat' first|exact Le.l|refine Sw ?_ ?_|intro h)
 ·rw [szSl_neg h]
 rw [szSl_pos h]
 refine AW.loopV [1,5] [0] (fun m xs o=>∃ (k:Nat) (q:Int),xs=[.v (.int .i64 q),.v (.int .i64 k)]∧o=[]∧m=l.length - k∧k≤l.length∧0≤q∧q≤1048576∧szGo szEditS (l.drop k) q=szGo szEditS l (r - l.length)) l.length [] trivial ⟨0,_,?_,rfl,rfl,?_,?_,?_,rfl⟩ ?_
 ·rfl
 ·omega
 ·omega
 ·omega
 rintro m xs o ⟨k,q,rfl,rfl,rfl,hk,h0,h1,hR⟩
 have hle:=szEditS_le (at_ l k) q h0
 have hz:szEditS (at_ l k) q=szSl szEdit (at_ l k) q:=rfl
 (refine vU ?_;with_reducible repeat' first|exact Le.l|refine Sw ?_ ?_|intro h)
 ·rw [szGo_at (by assumption),if_pos (by first|exact h|(rw [hsz];exact h))] at hR;rw [hR]
 ·rw [szGo_at (by assumption),if_neg (by omega)] at hR
  exact ⟨_,[_,_],[],by omega,⟨k+1,_,rfl,rfl,rfl,by omega,by omega,by omega,hR⟩,rfl,trivial⟩
 ·rw [szGo_end h] at hR;rw [hR]
instance toEditSS_i(l:List (List GEdit)):Ctr lim Tryz.prog 65 [] [.sl false 1 (l.map (encEditS false))] (.sl true 1 (l.map (encEditS true))) [] True:=by
 refine Ctr.of_body en65 Tryz.func65 rfl rfl fun hp=>(?_);rw [Tryz.ntmps65]
 refine AW.fact 0 fun hf=>?_
 simp (disch:=omega) only [go_sem,Nat.reduceBEq] at hf
 (refine vU ?_;with_reducible repeat' first|exact Le.l|refine Sw ?_ ?_|intro h)
 refine AW.loopV [4] [0,3] (fun m xs o=>∃ k:Nat,xs=[.v (.int .i64 k)]∧o=[(h,some (mkC (encEditS true) [.slice none 0 0] l k))]∧m=l.length - k∧k≤l.length) l.length [(h,some (mkC (encEditS true) [.slice none 0 0] l 0))] (subO_one (mkC_zero _ _ _)) ⟨0,?_,rfl,rfl,?_⟩ ?_
 ·rfl
 ·omega
 rintro m xs o ⟨k,rfl,rfl,rfl,hk⟩
 have hml:=mkC_len (encEditS true) [.slice none 0 0] 1 (fun _=>rfl) rfl l k hk
 (refine vX ?_;with_reducible repeat' first|exact Le.l|refine Sw ?_ ?_|intro h)
 ·exact ⟨_,[_],_,by omega,⟨k+1,rfl,rfl,rfl,by omega⟩,rfl,subO_one (by have:=mkC_at (encEditS true) [.slice none 0 0] 1 (fun _=>rfl) rfl l k h;simp only [go_sem,Nat.mul_one] at this ⊢;exact this.symm)⟩
 ·refine AW.made 2 rfl h hk (fun _=>rfl) ?_
  all_goals exact uU
instance markEditSS_i(l:List (List GEdit))(k:Int):BCtr lim Tryz.prog 76 1 (l.map (encEditS true)) [.v (.int .i64 k)] (.v (.int .i64 (mkL stEditS l k).2)) ((mkL stEditS l k).1.map (encEditS true)) ((0≤k∧(mkL stEditS l k).2≤1099511627776)∧l.length≤1048576):=by
 refine BCtr.of en76 (fun b=>?_) (fun e=>?_) (by simp [mkL_len]) (map_elem (fun _=>rfl) _) (map_elem (fun _=>rfl) _)
 ·simp only [List.length_map]
  refine Ctr.of_body en76 Tryz.func76 rfl rfl fun hp=>(?_);rw [Tryz.ntmps76]
  have hup:=mkL_mono (f:=stEditS) stEditS_ge0 l k
  (refine vU ?_;with_reducible repeat' first|exact Le.l|refine Sw ?_ ?_|intro h)
  refine AW.loopW [1,5] [0] (fun m xs o=>∃ i:Nat,xs=[.v (.int .i64 (mkc stEditS l k i)),.v (.int .i64 i)]∧o=[(b,some (((mkp stEditS l k i).map (encEditS true)).flatMap AV.cells))]∧m=l.length - i∧i≤l.length) l.length [(b,some ((l.map (encEditS true)).flatMap AV.cells))] (subO_one rfl) ⟨0,rfl,?_,rfl,?_⟩ ?_
  ·rw [mkp_zero]
  ·omega
  rintro m xs o ⟨i,rfl,rfl,rfl,hi⟩
  have h1:=mkc_ge (stEditS_ge0) l k i
  have h2:=mkc_le (stEditS_ge0) l k i
  (refine vK ?_;with_reducible repeat' first|exact Le.l|refine Sw ?_ ?_|intro h)
  (refine AW.i rfl (fun h=>?_) (fun h=>?_)<;>try simp only [hC,reduceCtorEq] at h)
  ·have h3:=mkc_le (stEditS_ge0) l k (i+1)
   rw [mkd_at h]
   rw [mkc_step h] at h3
   have hpre:=mkb_len (e:=encEditS true) (f:=stEditS) (sz:=1) (k:=k) (fun _=>rfl) hi
   have hpost:(((l.drop (i+1)).map (encEditS true)).flatMap AV.cells).length=(l.length - (i+1)) * 1:=by
    rw [fm_len (e:=encEditS true) (sz:=1) (fun _=>rfl),List.length_drop]
   have hnx:=mkd_next (e:=encEditS true) (f:=stEditS) (k:=k) h
   rw [Nat.mul_one] at hpre hpost
   generalize mkb (encEditS true) stEditS l k i=pre at hpre hnx ⊢
   generalize ((l.drop (i+1)).map (encEditS true)).flatMap AV.cells=post at hnx hpost ⊢
   generalize e1:at_ l i=x at *
   generalize e2:mkc stEditS l k i=c at *
   refine AW.imp (Imp.pinE (b:=b) pre [_] post (O_eq _ _ _) fun hs=>?_)
   simp (maxSteps:=2000000) (disch:=omega) only [go_sem]
   have g0:=mkL_up stEdit_ge x c
   simp only [stEditS] at h3
   (refine vK ?_;with_reducible repeat' first|exact Le.l|refine Sw ?_ ?_|intro h)
   refine Imp.unpE (b:=b) pre [_] post (O_eq _ _ _) ?_
   simp (maxSteps:=2000000) (disch:=omega) only [go_sem]
   exact ⟨_,[_,_],_,by omega,⟨i+1,by rw [mkc_step h,e1,e2];rfl,rfl,rfl,by omega⟩,rfl,subO_one hnx⟩
  ·rw [mkc_end h,mkp_end h]
   all_goals exact uU
 ·have:l=[]:=by simpa using e
  subst this
  refine ⟨?_,rfl⟩
  refine Ctr.of_body en76 Tryz.func76 rfl rfl fun hp=>(?_);rw [Tryz.ntmps76]
  (refine vU ?_;with_reducible repeat' first|exact Le.l|refine Sw ?_ ?_|intro h)
  refine AW.loopV [] [0,1,5] (fun m xs o=>xs=[]∧o=[]) 0 [] trivial ⟨rfl,rfl⟩ ?_
  rintro m xs o ⟨rfl,rfl⟩
  (refine vU ?_;with_reducible repeat' first|exact Le.l|refine Sw ?_ ?_|intro h)
  rfl
instance heldEditSS_i(l:List (List GEdit))(k:Int):Ctr lim Tryz.prog 78 [] [.sl false 1 ((mkL stEditS l k).1.map (encEditS false)),.v (.int .i64 k)] (.v (.int .i64 (mkL stEditS l k).2)) [] ((0≤k∧(mkL stEditS l k).2≤1099511627776)∧l.length≤1048576):=by
 refine Ctr.of_body en78 Tryz.func78 rfl rfl fun hp=>(?_);rw [Tryz.ntmps78]
 have hup:=mkL_mono (f:=stEditS) stEditS_ge0 l k
 have hml:=mkL_len (f:=stEditS) l k
 (refine vU ?_;with_reducible repeat' first|exact Le.l|refine Sw ?_ ?_|intro h)
 refine AW.loopV [1,5] [0] (fun m xs o=>∃ i:Nat,xs=[.v (.int .i64 (mkc stEditS l k i)),.v (.int .i64 i)]∧o=[]∧m=l.length - i∧i≤l.length) l.length [] trivial ⟨0,rfl,rfl,rfl,?_⟩ ?_
 ·omega
 rintro m xs o ⟨i,rfl,rfl,rfl,hi⟩
 have h1:=mkc_ge (stEditS_ge0) l k i
 have h2:=mkc_le (stEditS_ge0) l k i
 (refine vK ?_;with_reducible repeat' first|exact Le.l|refine Sw ?_ ?_|intro h)
 (refine AW.i rfl (fun h=>?_) (fun h=>?_)<;>try simp only [hC,reduceCtorEq] at h)
 ·rw [hml] at h
  have h3:=mkc_le (stEditS_ge0) l k (i+1)
  have hat:=mkL_at (f:=stEditS) (k:=k) h
  rw [mkc_step h] at h3
  have hlt:=h
  simp only [stEditS] at h3 hat
  have g0:=mkL_up stEdit_ge (at_ l i) ((mkc stEditS l k i))
  (repeat' first|(with_reducible first|refine Z ?_|refine Y ?_|(refine hK _ _ ?_;clear hK K)|refine And.intro ?_ ?_|exact Ct|intro (K:_→_→Prop) hK|(refine gI fun hg=>?_;try simp only [hC,reduceCtorEq] at hg;try simp only [hg]))|(refine AW.i rfl (fun h=>?_) (fun h=>?_)<;>try simp only [hC,reduceCtorEq] at h)|((with_reducible refine E ?_;repeat refine Y ?_);refine eF rfl ?_)|simp (disch:=omega) only [go_sem,hat,beq_self_eq_true,bne_self_eq_false,Bool.not_true]|(with_reducible intro hg;try simp only [hC,reduceCtorEq] at hg)|exact Cl|fail)
  exact ⟨_,[_,_],[],by omega,⟨i+1,by rw [mkc_step hlt];rfl,rfl,rfl,by omega⟩,rfl,trivial⟩
 ·rw [hml] at h
  rw [mkc_end h]
  all_goals exact uU
instance eqWatcher_i(L:Nat→Nat)[hL:Lok L](x:GWatcher):Ctr L Tryz.prog 28 [] [.agg [.sl false 1 (x.fNames.map AV.str),.sl false 3 (x.fSeen.map (encNode false)),.sl false 1 (x.fNotices.map (encEditS false))],.agg [.sl false 1 (x.fNames.map AV.str),.sl false 3 (x.fSeen.map (encNode false)),.sl false 1 (x.fNotices.map (encEditS false))]] (.v (.bool true)) [] True:=by
 refine Ctr.of_body en28 Tryz.func28 rfl rfl fun hp=>(?_);rw [Tryz.ntmps28]
 all_goals exact uU
instance szWatcher_i(L:Nat→Nat)[hL:Lok L](x:GWatcher)(r:Int):Ctr L Tryz.prog 23 [] [.agg [.sl false 1 (x.fNames.map AV.str),.sl false 3 (x.fSeen.map (encNode false)),.sl false 1 (x.fNotices.map (encEditS false))],.v (.int .i64 r)] (.v (.int .i64 (szWatcher x r))) [] (0≤r∧r≤1048576):=by
 refine Ctr.of_body en23 Tryz.func23 rfl rfl fun hp=>(?_);rw [Tryz.ntmps23]
 refine AW.fact 0 fun hf=>?_
 simp (disch:=omega) only [go_sem,Nat.reduceBEq] at hf
 have le0:=szSl_le szStr szStr_le x.fNames r
 have le1:=szSl_le szNode szNode_le x.fSeen (szSl szStr x.fNames r)
 have le2:=szSl_le szEditS szEditS_le x.fNotices (szSl szNode x.fSeen (szSl szStr x.fNames r))
 unfold szWatcher
 ((refine vU ?_;with_reducible repeat' first|exact Le.l|refine Sw ?_ ?_|intro h);all_goals simp only [thn,szStr,id];all_goals refine congrArg (fun z=>AV.v (.int .i64 z)) ?_;all_goals (repeat' split);all_goals omega)
instance toWatcher_i(x:GWatcher):Ctr lim Tryz.prog 26 [] [.agg [.sl false 1 (x.fNames.map AV.str),.sl false 3 (x.fSeen.map (encNode false)),.sl false 1 (x.fNotices.map (encEditS false))]] (.agg [.sl true 1 (x.fNames.map AV.str),.sl true 3 (x.fSeen.map (encNode true)),.sl true 1 (x.fNotices.map (encEditS true))]) [] True:=by
 refine Ctr.of_body en26 Tryz.func26 rfl rfl fun hp=>(?_);rw [Tryz.ntmps26]
 all_goals exact uU
end Go.Proofs.YtmcjbaafmjlblaaGreatDoor
namespace Go.Dt
open Go Go.Ab
theorem bl_trans:∀ (a b c:Str),Op.bytesLess a b=true→Op.bytesLess b c=true→Op.bytesLess a c=true
 | a,[],c,h,_=>by cases a<;>simp [Op.bytesLess] at h
 | [],_::_,[],_,h=>by simp [Op.bytesLess] at h
 | [],_::_,_::_,_,_=>by simp [Op.bytesLess]
 | _::_,_::_,[],_,h=>by simp [Op.bytesLess] at h
 | x::xs,y::ys,z::zs,h1,h2=>by
  simp only [Op.bytesLess,Bool.or_eq_true,Bool.and_eq_true,decide_eq_true_eq,beq_iff_eq] at *
  rcases h1 with h1|⟨rfl,h1⟩
  ·rcases h2 with h2|⟨rfl,_⟩
   ·exact .inl (UInt8.lt_trans h1 h2)
   ·exact .inl h1
  ·rcases h2 with h2|⟨rfl,h2⟩
   ·exact .inl h2
   ·exact .inr ⟨rfl,bl_trans xs ys zs h1 h2⟩
theorem ll_trans:∀ (a b c:List Str),lessL a b=true→lessL b c=true→lessL a c=true
 | a,[],c,h,_=>by cases a<;>simp [lessL] at h
 | [],_::_,[],_,h=>by simp [lessL] at h
 | [],_::_,_::_,_,_=>by simp [lessL]
 | _::_,_::_,[],_,h=>by simp [lessL] at h
 | x::xs,y::ys,z::zs,h1,h2=>by
  rw [lessL] at *
  by_cases e1:x=y
  ·subst e1
   rw [if_pos rfl] at h1
   by_cases e2:x=z
   ·subst e2
    rw [if_pos rfl] at h2 ⊢
    exact ll_trans xs ys zs h1 h2
   ·rw [if_neg e2] at h2 ⊢;exact h2
  ·rw [if_neg e1] at h1
   by_cases e2:y=z
   ·subst e2
    rw [if_neg e1];exact h1
   ·rw [if_neg e2] at h2
    have h3:=bl_trans x y z h1 h2
    rw [if_neg (fun e=>by subst e;rw [less_self] at h3;exact absurd h3 (by simp))]
    exact h3
theorem ll_self(a:List Str):lessL a a=false:=by
 have:=lessL_iff a a
 rw [beq_self_eq_true] at this
 cases h:lessL a a with
 | false=>rfl
 | true=>rw [h] at this;simp at this
theorem bef_trans{d:List GSchema}{a b c:GNode}(h1:befS d a b=true)(h2:befS d b c=true):befS d a c=true:=by
 unfold befS at *
 by_cases e1:idx (nmP a.fName) d=idx (nmP b.fName) d∧rowK (at_ d (idx (nmP b.fName) d).toNat).fKind=true
 ·rw [if_pos e1] at h1
  by_cases e2:idx (nmP b.fName) d=idx (nmP c.fName) d∧rowK (at_ d (idx (nmP c.fName) d).toNat).fKind=true
  ·rw [if_pos e2] at h2
   rw [if_pos ⟨e1.1.trans e2.1,e2.2⟩]
   rw [e2.1] at h1
   exact ll_trans _ _ _ h1 h2
  ·rw [if_neg e2] at h2
   rw [if_neg (fun c=>e2 ⟨e1.1.symm.trans c.1,c.2⟩),e1.1];exact h2
 ·rw [if_neg e1,decide_eq_true_eq] at h1
  by_cases e2:idx (nmP b.fName) d=idx (nmP c.fName) d∧rowK (at_ d (idx (nmP c.fName) d).toNat).fKind=true
  ·rw [if_neg (by rintro ⟨c,_⟩;omega),decide_eq_true_eq];omega
  ·rw [if_neg e2,decide_eq_true_eq] at h2
   rw [if_neg (by rintro ⟨c,_⟩;omega),decide_eq_true_eq];omega
theorem bef_irr{d:List GSchema}(a:GNode):befS d a a=false:=by
 unfold befS
 split
 ·exact ll_self _
 ·simp
theorem okL_pair{d:List GSchema}:∀ {l:List GNode} {a:GNode},okL d (some a) l=true↔(∀ x∈l,okX d x)∧(a::l).Pairwise fun x y=>befS d x y=true
 | [],a=>by simp [okL]
 | x::xs,a=>by
  rw [okL_cons]
  simp only [Bool.and_eq_true,decide_eq_true_eq]
  have ih:=okL_pair (d:=d) (l:=xs) (a:=x)
  rw [ih]
  constructor
  ·rintro ⟨⟨⟨h1,h2⟩,h3⟩,h4,h5⟩
   refine ⟨fun y hy=>?_,List.pairwise_cons.2 ⟨fun y hy=>?_,h5⟩⟩
   ·rcases List.mem_cons.1 hy with rfl|hy
    ·exact ⟨h1,h2⟩
    ·exact h4 y hy
   ·rcases List.mem_cons.1 hy with rfl|hy
    ·exact h3
    ·exact bef_trans h3 ((List.pairwise_cons.1 h5).1 y hy)
  ·rintro ⟨h1,h2⟩
   have h3:=h1 x (by simp)
   have h4:=List.pairwise_cons.1 h2
   exact ⟨⟨⟨h3.1,h3.2⟩,h4.1 x (by simp)⟩,fun y hy=>h1 y (by simp [hy]),h4.2⟩
theorem okL_srt{d:List GSchema}{l:List GNode}:okL d none l=true↔(∀ x∈l,okX d x)∧l.Pairwise fun x y=>befS d x y=true:=by
 cases l with
 | nil=>simp [okL]
 | cons x xs =>
  rw [okL_cons]
  simp only [Bool.and_eq_true,decide_eq_true_eq,befO,and_true]
  rw [okL_pair]
  constructor
  ·rintro ⟨h1,h2,h3⟩
   refine ⟨fun y hy=>?_,h3⟩
   rcases List.mem_cons.1 hy with rfl|hy
   ·exact h1
   ·exact h2 y hy
  ·rintro ⟨h1,h2⟩
   exact ⟨h1 x (by simp),fun y hy=>h1 y (by simp [hy]),h2⟩
theorem srt_eq{α:Type}{R:α→α→Prop}(ht:∀ a b c,R a b→R b c→R a c)(hi:∀ a,¬ R a a):∀ {l m:List α},l.Pairwise R→m.Pairwise R→(∀ x,x∈l↔x∈m)→l=m
 | [],[],_,_,_=>rfl
 | [],y::m,_,_,h=>absurd ((h y).2 (by simp)) (by simp)
 | x::l,[],_,_,h=>absurd ((h x).1 (by simp)) (by simp)
 | x::l,y::m,h1,h2,h=>by
  have h3:=List.pairwise_cons.1 h1
  have h4:=List.pairwise_cons.1 h2
  have e:x=y:=by
   rcases List.mem_cons.1 ((h x).1 (by simp)) with e|hx
   ·exact e
   ·rcases List.mem_cons.1 ((h y).2 (by simp)) with e|hy
    ·exact e.symm
    ·exact absurd (ht _ _ _ (h3.1 y hy) (h4.1 x hx)) (hi x)
  subst e
  refine congrArg (x::·) (srt_eq ht hi h3.2 h4.2 fun z=>?_)
  have hz:=h z
  simp only [List.mem_cons] at hz
  constructor
  ·intro q
   rcases hz.1 (.inr q) with e|e
   ·subst e;exact absurd (h3.1 z q) (hi z)
   ·exact e
  ·intro q
   rcases hz.2 (.inr q) with e|e
   ·subst e;exact absurd (h4.1 z q) (hi z)
   ·exact e
end Go.Dt
namespace Go.Dt
open Go Go.Ab
theorem bef_congr{d:List GSchema}{a b x y:GNode}(ea:a.fName=x.fName)(eb:b.fName=y.fName)(ka:kyL (at_ d (idx (nmP x.fName) d).toNat) a=kyL (at_ d (idx (nmP x.fName) d).toNat) x)(kb:kyL (at_ d (idx (nmP y.fName) d).toNat) b=kyL (at_ d (idx (nmP y.fName) d).toNat) y):befS d a b=befS d x y:=by
 unfold befS
 rw [ea,eb]
 by_cases h:idx (nmP x.fName) d=idx (nmP y.fName) d∧rowK (at_ d (idx (nmP y.fName) d).toNat).fKind=true
 ·rw [if_pos h,if_pos h,kb,← h.1,ka]
 ·rw [if_neg h,if_neg h]
theorem pair_flat{d:List GSchema}{f:GNode→List GNode}(hf:∀ x,(f x).length≤1):∀ {l:List GNode},(∀ x∈l,∀ a∈f x,a.fName=x.fName∧kyL (at_ d (idx (nmP x.fName) d).toNat) a=kyL (at_ d (idx (nmP x.fName) d).toNat) x)→(l.Pairwise fun x y=>befS d x y=true)→(l.flatMap f).Pairwise fun x y=>befS d x y=true
 | [],_,_=>by simp
 | x::xs,h,hp=>by
  rw [List.flatMap_cons,List.pairwise_append]
  have h1:=List.pairwise_cons.1 hp
  refine ⟨?_,pair_flat hf (fun y hy=>h y (by simp [hy])) h1.2,fun a ha b hb=>?_⟩
  ·have:=hf x
   match hx:f x with
   | []=>simp
   | [y]=>simp
   | y::z::r=>rw [hx] at this;simp at this
  ·obtain ⟨y,hy,hb⟩:=List.mem_flatMap.1 hb
   have e1:=h x (by simp) a ha
   have e2:=h y (by simp [hy]) b hb
   rw [bef_congr e1.1 e2.1 e1.2 e2.2]
   exact h1.1 y hy
theorem find_idx{α:Type}[Inhabited α]{p:α→Bool}:∀ {l:List α},l.find? p=if 0≤idx p l then some (at_ l (idx p l).toNat) else none
 | []=>by simp [idx]
 | x::xs=>by
  have ih:=find_idx (p:=p) (l:=xs)
  have h0:=idx_ge p xs
  by_cases h:p x=true
  ·have e:idx p (x::xs)=0:=by simp [idx,h]
   rw [List.find?_cons_of_pos h,e];simp [at_]
  ·rw [List.find?_cons_of_neg h,ih]
   by_cases q:idx p xs<0
   ·have e:idx p (x::xs) = -1:=by simp [idx,h,q]
    rw [e,if_neg (by omega),if_neg (by omega)]
   ·have e:idx p (x::xs)=idx p xs+1:=by simp [idx,h,q]
    rw [e,if_pos (by omega),if_pos (by omega),show (idx p xs+1).toNat=(idx p xs).toNat+1 by omega,at_cons]
theorem find_flat{α:Type}{p:α→Bool}{g:α→List α}:∀ {l:List α},(∀ k∈l,p k=true→g k=[k])→(∀ k∈l,p k=false→∀ a∈g k,p a=false)→(l.flatMap g).find? p=l.find? p
 | [],_,_=>rfl
 | x::xs,h1,h2=>by
  rw [List.flatMap_cons,List.find?_append,List.find?_cons,find_flat (fun k hk=>h1 k (by simp [hk])) fun k hk=>h2 k (by simp [hk])]
  cases h:p x with
  | true=>rw [h1 x (by simp) h,List.find?_cons,h];rfl
  | false =>
   rw [List.find?_eq_none.2 fun a ha=>by rw [h2 x (by simp) h a ha];simp]
   rfl
theorem ky_find(n:GSchema)(x y:GNode)(h2:n.fKind=2)(h:∀ k∈n.fKeys,x.fKids.find? (ndP k)=y.fKids.find? (ndP k)):kyB n x=kyB n y∧kyL n x=kyL n y:=by
 have hi:∀ k∈n.fKeys,(0≤idx (ndP k) x.fKids↔0≤idx (ndP k) y.fKids)∧(0≤idx (ndP k) y.fKids→at_ x.fKids (idx (ndP k) x.fKids).toNat=at_ y.fKids (idx (ndP k) y.fKids).toNat):=fun k hk=>by
  have:=h k hk
  rw [find_idx,find_idx] at this
  split at this
  ·split at this
   ·rename_i a b
    exact ⟨⟨fun _=>b,fun _=>a⟩,fun _=>by injection this⟩
   ·cases this
  ·split at this
   ·cases this
   ·rename_i a b
    exact ⟨⟨fun c=>absurd c a,fun c=>absurd c b⟩,fun c=>absurd c b⟩
 have e1:kyB n x=kyB n y:=by
  rw [kyB,kyB,h2]
  refine congrArg ((!decide ((2:Int)=2)) || ·) ?_
  rw [Bool.eq_iff_iff,List.all_eq_true,List.all_eq_true]
  constructor
  ·intro q k hk;have:=q k hk;simp only [decide_eq_true_eq] at this ⊢;exact ((hi k hk).1).1 this
  ·intro q k hk;have:=q k hk;simp only [decide_eq_true_eq] at this ⊢;exact ((hi k hk).1).2 this
 refine ⟨e1,?_⟩
 rw [kyL,kyL,if_pos h2,if_pos h2,e1]
 cases hb:kyB n y with
 | false=>rfl
 | true =>
  rw [if_pos rfl,if_pos rfl]
  refine List.map_congr_left fun k hk=>?_
  rw [kyB,h2] at hb
  have:=List.all_eq_true.1 hb k hk
  simp only [decide_eq_true_eq] at this
  rw [(hi k hk).2 this]
theorem cutX_name:∀ (cs:List Str) (s:List GSchema) (x:GNode),∀ a∈cutX cs s x,a.fName=x.fName
 | [],s,x,a,h=>by rw [cutX,List.mem_singleton] at h;rw [h]
 | c::cs,s,x,a,h=>by
  simp only [cutX] at h
  split at h
  ·split at h
   ·rw [List.mem_singleton] at h;rw [h]
   ·split at h
    ·split at h
     ·simp at h
     ·rw [List.mem_singleton] at h;rw [h];rfl
    ·simp at h
  ·simp at h
theorem cut_ok:∀ (cs:List Str) (s:List GSchema) (x:GNode),gdS s→okX (dk s) x→∀ a∈cutX cs s x,okX (dk s) a∧a.fName=x.fName∧kyL (nd s x.fName) a=kyL (nd s x.fName) x
 | [],s,x,_,hx,a,h=>by rw [cutX,List.mem_singleton] at h;rw [h];exact ⟨hx,rfl,rfl⟩
 | c::cs,s,x,hg,hx,a,h=>by
  simp only [cutX] at h
  split at h
  ·split at h
   ·rw [List.mem_singleton] at h;rw [h];exact ⟨hx,rfl,rfl⟩
   ·split at h
    ·rename_i hk
     split at h
     ·simp at h
     ·rename_i hd
      rw [List.mem_singleton] at h
      have hm:=(okX_at hx).2
      have hgk:=gd_kid hg hm
      have hok:=okN_kids hx.2 (by omega)
      have hkx:∀ k∈x.fKids,okX (dk (nd s x.fName).fKids) k:=okL_mem hok.2.1
      have hcut:∀ k∈x.fKids,∀ b∈cutK (nd s x.fName) cs k,okX (dk (nd s x.fName).fKids) b∧b.fName=k.fName∧kyL (nd (nd s x.fName).fKids k.fName) b=kyL (nd (nd s x.fName).fKids k.fName) k:=fun k hk b hb=>by
       unfold cutK at hb
       split at hb
       ·rw [List.mem_singleton] at hb;rw [hb];exact ⟨hkx k hk,rfl,rfl⟩
       ·exact cut_ok cs _ k hgk.1 (hkx k hk) b hb
      have hs:=(okL_srt.1 hok.2.1).2
      have hL:okL (dk (nd s x.fName).fKids) none (x.fKids.flatMap (cutK (nd s x.fName) cs))=true:=by
       refine okL_srt.2 ⟨fun b hb=>?_,pair_flat (cutK_le _ _) (fun k hk b hb=>?_) hs⟩
       ·obtain ⟨k,hk,hb⟩:=List.mem_flatMap.1 hb
        exact (hcut k hk b hb).1
       ·exact (hcut k hk b hb).2
      have he:a=.mk x.fName [] (x.fKids.flatMap (cutK (nd s x.fName) cs)):=h
      have hd2:¬ ((nd s x.fName).fKind=1∧(nd s x.fName).fPresent=false∧x.fKids.flatMap (cutK (nd s x.fName) cs)=[]):=hd
      have hky:(nd s x.fName).fKind=2→kyB (nd s x.fName) a=kyB (nd s x.fName) x∧kyL (nd s x.fName) a=kyL (nd s x.fName) x:=fun h2=>ky_find _ _ _ h2 fun k hk=>by
       rw [he]
       refine find_flat (fun y _ hy=>?_) (fun y _ hy b hb=>?_)
       ·simp only [ndP,beq_iff_eq] at hy
        unfold cutK
        rw [if_pos]
        rw [hy];exact (cont_iff _ _).2 hk
       ·have hn:b.fName=y.fName:=by
         unfold cutK at hb
         split at hb
         ·rw [List.mem_singleton] at hb;rw [hb]
         ·exact cutX_name _ _ _ b hb
        simp only [ndP,beq_eq_false_iff_ne] at hy ⊢
        rw [hn];exact hy
      have hname:a.fName=x.fName:=by rw [he];rfl
      have hak:a.fKids=x.fKids.flatMap (cutK (nd s x.fName) cs):=by rw [he];rfl
      have hav:a.fValue=[]:=by rw [he];rfl
      refine ⟨⟨by rw [hname];exact hx.1,?_⟩,hname,?_⟩
      ·rw [hname]
       show okN (nd s x.fName) a=true
       by_cases h2:(nd s x.fName).fKind=2
       ·rw [okN,if_neg (by omega),if_pos h2,(hky h2).1]
        have:=okN_key hx.2
        rw [show kyB (nd s x.fName) x=true from this,hav,hak,hL];rfl
       ·have h1:(nd s x.fName).fKind=1:=by rcases hk with c|c;exact c;exact absurd c h2
        rw [okN,if_neg (by omega),if_neg h2,hav,hak,hL]
        have:((nd s x.fName).fPresent || !(x.fKids.flatMap (cutK (nd s x.fName) cs)).isEmpty)=true:=by
         cases hp:(nd s x.fName).fPresent with
         | true=>rfl
         | false =>
          cases hq:x.fKids.flatMap (cutK (nd s x.fName) cs) with
          | nil=>exact absurd ⟨h1,hp,hq⟩ hd2
          | cons _ _=>rfl
        rw [this];rfl
      ·by_cases h2:(nd s x.fName).fKind=2
       ·exact (hky h2).2
       ·rw [(ky_one h2).1,(ky_one h2).1,hav,hok.1]
    ·simp at h
  ·simp at h
theorem cutT_tree{s:List GSchema}{l:List GNode}(cs:List Str)(h:isTree s l=true):isTree s (cutT s l cs)=true:=by
 have h':=h
 simp only [isTree,Bool.and_eq_true,decide_eq_true_eq] at h' ⊢
 rw [cutT,if_pos h]
 have hg:=tree_gd h'.1.1
 have hs:=okL_srt.1 h'.2
 refine ⟨⟨h'.1.1,?_⟩,okL_srt.2 ⟨fun a ha=>?_,pair_flat (cutX_le cs s) (fun x hx a ha=>?_) hs.2⟩⟩
 ·have:=cnt_flat (f:=cutX cs s) (l:=l) fun x _=>cnt_cutX cs s x
  omega
 ·obtain ⟨x,hx,ha⟩:=List.mem_flatMap.1 ha
  exact (cut_ok cs s x hg (hs.1 x hx) a ha).1
 ·exact (cut_ok cs s x hg (hs.1 x hx) a ha).2
end Go.Dt
namespace Go.Dt
open Go Go.Ab
theorem srt_uniq{α:Type}{R:α→α→Prop}:∀ {l:List α},l.Pairwise R→∀ x∈l,∀ y∈l,¬ R x y→¬ R y x→x=y
 | [],_,x,hx,_,_,_,_=>by simp at hx
 | z::l,hp,x,hx,y,hy,h1,h2=>by
  have hz:=List.pairwise_cons.1 hp
  rcases List.mem_cons.1 hx with e1|hx'
  ·rcases List.mem_cons.1 hy with e2|hy'
   ·rw [e1,e2]
   ·rw [e1] at h1;exact absurd (hz.1 y hy') h1
  ·rcases List.mem_cons.1 hy with e2|hy'
   ·rw [e2] at h2;exact absurd (hz.1 x hx') h2
   ·exact srt_uniq hz.2 x hx' y hy' h1 h2
section
variable {s : List GSchema} {x y : GNode} {a b l : List GNode}
theorem fi_bef(hx:okX (dk s) x)(h:fiP (nd s x.fName) x y=true):y.fName=x.fName∧befS (dk s) x y=false∧befS (dk s) y x=false:=by
 simp only [fiP,Bool.and_eq_true,beq_iff_eq,decide_eq_true_eq] at h
 have hn:=h.1.1.trans (okX_at hx).1
 have ho:=h.1.2
 refine ⟨hn,?_,?_⟩
 ·unfold befS
  rw [hn]
  by_cases r:rowK (at_ (dk s) (idx (nmP x.fName) (dk s)).toNat).fKind=true
  ·rw [ordS,if_pos r,cmpL_0] at ho
   rw [if_pos ⟨rfl,r⟩,ho,ll_self]
  ·rw [if_neg (fun c=>r c.2)];simp
 ·unfold befS
  rw [hn]
  by_cases r:rowK (at_ (dk s) (idx (nmP x.fName) (dk s)).toNat).fKind=true
  ·rw [ordS,if_pos r,cmpL_0] at ho
   rw [if_pos ⟨rfl,r⟩,← ho,ll_self]
  ·rw [if_neg (fun c=>r c.2)];simp
theorem fi_self(hx:okX (dk s) x):fiP (nd s x.fName) x x=true:=by
 have hk:kyB (nd s x.fName) x=true:=okN_key hx.2
 have hn:(nd s x.fName).fName=x.fName:=(okX_at hx).1
 rw [fiP,hn,skB,hk,ordS]
 simp only [beq_self_eq_true,Bool.and_self,Bool.or_true,Bool.true_and,Bool.and_true]
 split
 ·rw [decide_eq_true_eq,cmpL_0]
 ·rfl
theorem fnd_self(h:okL (dk s) none l=true)(hx:x∈l):0≤fnd (nd s x.fName) l x∧at_ l (fnd (nd s x.fName) l x).toNat=x:=by
 have hs:=okL_srt.1 h
 have hok:=hs.1 x hx
 have h0:0≤fnd (nd s x.fName) l x:=by
  apply Classical.byContradiction
  intro c
  have:=idx_ne c x hx
  rw [fi_self hok] at this
  cases this
 obtain ⟨_,h2,h3⟩:=idx_hit h0
 have hb:=fi_bef hok h2
 exact ⟨h0,srt_uniq hs.2 _ h3 _ hx (by rw [hb.2.2];simp) (by rw [hb.2.1];simp)⟩
theorem dif_same(h:okL (dk s) none a=true):dif s a a=[]:=by
 rw [dif_eq,List.append_eq_nil_iff,List.flatMap_eq_nil_iff,List.flatMap_eq_nil_iff]
 constructor
 ·intro x hx
  exact dfA_y (fnd_self h hx).1
 ·intro y hy
  have hf:=fnd_self h hy
  refine dfY_n (by omega) ?_ ?_
  ·rw [hf.2];rintro ⟨_,c⟩;exact c rfl
  ·rw [hf.2,(smT_iff _ _).2 rfl];rintro ⟨_,c⟩;cases c
theorem node_ext(h1:x.fName=y.fName)(h2:x.fValue=y.fValue)(h3:x.fKids=y.fKids):x=y:=by
 cases x;cases y;simp only [GNode.fName,GNode.fValue,GNode.fKids] at *;subst h1;subst h2;subst h3;rfl
theorem dif_sub(ha:∀ x∈a,okX (dk s) x)(hy:okX (dk s) y)(h:dfY s a y=[]):y∈a:=by
 have h0:¬ fnd (nd s y.fName) a y<0:=fun c=>by rw [dfY_c c,edO_map] at h;simp at h
 have h1:¬ ((nd s y.fName).fKind=3∧¬ (at_ a (fnd (nd s y.fName) a y).toNat).fValue=y.fValue):=fun c=>by rw [dfY_r h0 c] at h;simp at h
 have h2:¬ (((nd s y.fName).fKind=1∨(nd s y.fName).fKind=2)∧smT (at_ a (fnd (nd s y.fName) a y).toNat).fKids y.fKids=false):=fun c=>by rw [dfY_m h0 c] at h;simp at h
 obtain ⟨e1,e2,e3⟩:=fnd_ok (s:=s) (a:=a) (y:=y) (by omega) hy
 obtain ⟨_,hf,_⟩:=idx_hit (p:=fiP (nd s y.fName) y) (l:=a) (by have:idx (fiP (nd s y.fName) y) a=fnd (nd s y.fName) a y:=rfl;omega)
 have hf:fiP (nd s y.fName) y (at_ a (fnd (nd s y.fName) a y).toNat)=true:=hf
 have hx:=ha _ e3
 have hxn:okN (nd s y.fName) (at_ a (fnd (nd s y.fName) a y).toNat)=true:=by have:=hx.2;rw [e2] at this;exact this
 have hyn:okN (nd s y.fName) y=true:=hy.2
 have hkd:=dk_data s _ (okX_at hy).2
 have hkd:isDataK (nd s y.fName).fKind=true:=hkd
 simp only [isDataK,Bool.and_eq_true,decide_eq_true_eq] at hkd
 generalize at_ a (fnd (nd s y.fName) a y).toNat=x at *
 have:x=y:=by
  by_cases hl:(nd s y.fName).fKind=3∨(nd s y.fName).fKind=4
  ·refine node_ext e2 ?_ ((okN_leaf hxn hl).trans (okN_leaf hyn hl).symm)
   rcases hl with c|c
   ·exact Classical.byContradiction fun d=>h1 ⟨c,d⟩
   ·simp only [fiP,Bool.and_eq_true,decide_eq_true_eq] at hf
    have ho:=hf.1.2
    rw [ordS,if_pos (by rw [c];rfl),cmpL_0,(ky_one (by omega)).1,(ky_one (by omega)).1] at ho
    injection ho with ho
    exact ho.symm
  ·have k1:=okN_kids hxn hl
   have k2:=okN_kids hyn hl
   refine node_ext e2 (k1.1.trans k2.1.symm) ?_
   have:smT x.fKids y.fKids=true:=by
    cases c:smT x.fKids y.fKids with
    | true=>rfl
    | false=>exact absurd ⟨by omega,c⟩ h2
   exact (smT_iff _ _).1 this
 rw [← this];exact e3
theorem dif_nil(ha:okL (dk s) none a=true)(hb:okL (dk s) none b=true):dif s a b=[]↔a=b:=by
 constructor
 ·intro h
  rw [dif_eq,List.append_eq_nil_iff,List.flatMap_eq_nil_iff,List.flatMap_eq_nil_iff] at h
  have sa:=okL_srt.1 ha
  have sb:=okL_srt.1 hb
  have hba:∀ y∈b,y∈a:=fun y hy=>dif_sub sa.1 (sb.1 y hy) (h.2 y hy)
  refine srt_eq (R:=fun x y=>befS (dk s) x y=true) (fun _ _ _=>bef_trans) (fun c=>by rw [bef_irr];simp) sa.2 sb.2 fun x=>⟨fun hx=>?_,hba x⟩
  have h0:0≤fnd (nd s x.fName) b x:=by
   apply Classical.byContradiction
   intro c
   have:=h.1 x hx
   rw [dfA,if_neg c] at this
   simp at this
  obtain ⟨_,h2,h3⟩:=idx_hit h0
  have hf:=fi_bef (sa.1 x hx) h2
  have:at_ b (idx (fiP (nd s x.fName) x) b).toNat=x:=srt_uniq sa.2 _ (hba _ h3) _ hx (by rw [hf.2.2];simp) (by rw [hf.2.1];simp)
  rw [this] at h3
  exact h3
 ·rintro rfl;exact dif_same ha
theorem difT_nil(ha:isTree s a=true)(hb:isTree s b=true):(difT s a b).isEmpty=smT a b:=by
 rw [difT,ha,hb,Bool.eq_iff_iff,List.isEmpty_iff,smT_iff]
 simp only [isTree,Bool.and_eq_true] at ha hb
 exact dif_nil ha.2 hb.2
end
end Go.Dt
namespace Go.Dt
open Go Go.Ab
theorem wt_cons(x:GNode)(l:List GNode):wt (x::l)=1+x.fName.length+x.fValue.length+wt x.fKids+wt l:=by
 cases x;simp only [wt,wtg,List.length_cons,GNode.fName,GNode.fValue,GNode.fKids];omega
theorem wt_nil:wt []=0:=by simp [wt,wtg]
theorem wt_app:∀ (a b:List GNode),wt (a++b)=wt a+wt b
 | [],b=>by rw [List.nil_append,wt_nil];omega
 | x::a,b=>by rw [List.cons_append,wt_cons,wt_cons,wt_app a b];omega
theorem wt_flat{f:GNode→List GNode}:∀ {l:List GNode},(∀ x∈l,wt (f x)≤wt [x])→wt (l.flatMap f)≤wt l
 | [],_=>by simp
 | x::xs,h=>by
  rw [List.flatMap_cons,wt_app,wt_cons]
  have h1:=h x (by simp);have h2:=wt_flat (f:=f) (l:=xs) fun y hy=>h y (by simp [hy])
  rw [wt_cons,wt_nil] at h1;omega
theorem wt_cutX:∀ (cs:List Str) (s:List GSchema) (x:GNode),wt (cutX cs s x)≤wt [x]
 | [],s,x=>by rw [cutX];omega
 | c::cs,s,x=>by
  simp only [cutX]
  split
  ·split
   ·omega
   ·split
    ·split
     ·rw [wt_nil];omega
     ·rw [wt_cons,wt_cons]
      simp only [GNode.fKids,GNode.fName,GNode.fValue,List.length_nil]
      have:=wt_flat (l:=x.fKids) (f:=fun k=>if cont (at_ (dk s) (idx (nmP x.fName) (dk s)).toNat).fKeys k.fName=true then [k] else cutX cs (at_ (dk s) (idx (nmP x.fName) (dk s)).toNat).fKids k) fun y _=>by
       split
       ·omega
       ·exact wt_cutX cs _ y
      cases x;simp only [GNode.fKids,GNode.fName,GNode.fValue] at *;omega
    ·rw [wt_nil];omega
  ·rw [wt_nil];omega
theorem wt_cutT(s:List GSchema)(l:List GNode)(cs:List Str):wt (cutT s l cs)≤wt l:=by
 rw [cutT];split
 ·exact wt_flat fun x _=>wt_cutX cs s x
 ·rw [wt_nil];omega
def telB(s:List GSchema)(w:GWatcher)(a b:List GNode):Bool:=isTree s a && isTree s b && !smT (cutT s a w.fNames) (cutT s b w.fNames) && decide (w.fNotices.length<20)
def telN(s:List GSchema)(w:GWatcher)(a b:List GNode):List (List GEdit):=if telB s w a b=true then w.fNotices++[difT s (cutT s a w.fNames) (cutT s b w.fNames)] else w.fNotices
theorem telN_n{s:List GSchema}{w:GWatcher}{a b:List GNode}(h:telB s w a b=false):telN s w a b=w.fNotices:=by rw [telN,if_neg (by rw [h];simp)]
theorem telN_y{s:List GSchema}{w:GWatcher}{a b:List GNode}(h:telB s w a b=true):telN s w a b=w.fNotices++[difT s (cutT s a w.fNames) (cutT s b w.fNames)]:=by rw [telN,if_pos h]
theorem telD{s:List GSchema}{a b:List GNode}{c:List Str}(h1:isTree s a=true)(h2:isTree s b=true):difT s (cutT s a c) (cutT s b c)=dif s (cutT s a c) (cutT s b c):=by
 rw [difT,cutT_tree c h1,cutT_tree c h2];rfl
theorem mkE_snoc(l:List (List GEdit))(x:List GEdit):∀ (k:Int),(mkL stEditS (l++[x]) k).2=(stEditS x (mkL stEditS l k).2).2:=by
 induction l with
 | nil=>intro k;simp [mkL]
 | cons y l ih=>intro k;simp only [List.cons_append,mkL,ih]
end Go.Dt
