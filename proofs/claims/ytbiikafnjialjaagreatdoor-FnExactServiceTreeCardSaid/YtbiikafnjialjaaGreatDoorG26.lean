/- Part of a proof. -/
import Derived.Test.YtbiikafnjialjaaGreatDoorG19
import Derived.Test.YtbiikafnjialjaaGreatDoorG21
import Derived.Test.YtbiikafnjialjaaGreatDoorG25
set_option linter.all false
set_option maxRecDepth 20000
set_option maxHeartbeats 4000000
namespace Go.Proofs
open Go.Ab Go.Dt
section
attribute [local go_sem] dF cM lN lM
theorem AG(l:List ae)(n:Str):Ctr lim Tryz.prog 254 [] [.sl false 19 (l.map (aq false)),.str n] (.tup [aq false (at_ l (idx (fV n) l).toNat),.v (.bool true)]) [] (0<=idx (fV n) l):=by
 refine Ctr.bd Tryz.func254 Tryz.ntmps254 rfl rfl fun hp=>?_
 have gOn:=cY.on
 refine AW.fact 0 fun hf=>?_
 simp (disch:=omega) only [go_sem] at hf
 (refine bU ?_;with_reducible repeat' first|exact Le.l|apply Sw|intro h)
 refine AW.aw [10] [1,4,8,9] (fun m xs o=>∃ k:Nat,xs=[.v (.int .i64 k)]/\o=[(h,some cZe)]/\m=l.length - k/\k<=l.length/\∀ x∈l.take k,fV n x=false) l.length [(h,some cZe)] gO ⟨0,rfl,rfl,rfl,by omega,by simp⟩ ?_
 rintro m xs o ⟨k,rfl,rfl,rfl,hk,hR⟩
 (refine vU ?_;with_reducible repeat' first|exact Le.l|apply Sw|intro h)
 ·rw [gB (p:=fV n) (by assumption) hR (by simp [fV];grind)];try rfl
 ·exact ⟨_,[_],_,by omega,⟨k+1,rfl,rfl,rfl,by omega,bD (by assumption) hR (by simp [fV];grind)⟩,rfl,by simp (maxSteps:=2000000) (disch:=omega) only [go_sem]⟩
 ·exact absurd hp (by rw [jb (by assumption) hR];decide)
theorem C2(l:List ae)(n:Str):Ctr lim Tryz.prog 254 [] [.sl false 19 (l.map (aq false)),.str n] (.tup [.agg cZe,.v (.bool false)]) [] (idx (fV n) l<0):=by
 refine Ctr.bd Tryz.func254 Tryz.ntmps254 rfl rfl fun hp=>?_
 have gOn:=cY.on
 refine AW.fact 0 fun hf=>?_
 simp (disch:=omega) only [go_sem] at hf
 (refine bU ?_;with_reducible repeat' first|exact Le.l|apply Sw|intro h)
 refine AW.aw [10] [1,4,8,9] (fun m xs o=>∃ k:Nat,xs=[.v (.int .i64 k)]/\o=[(h,some cZe)]/\m=l.length - k/\k<=l.length/\∀ x∈l.take k,fV n x=false) l.length [(h,some cZe)] gO ⟨0,rfl,rfl,rfl,by omega,by simp⟩ ?_
 rintro m xs o ⟨k,rfl,rfl,rfl,hk,hR⟩
 (refine vU ?_;with_reducible repeat' first|exact Le.l|apply Sw|intro h)
 ·exact absurd hp (by rw [gB (p:=fV n) (by assumption) hR (by simp [fV];grind)];omega)
 ·exact ⟨_,[_],_,by omega,⟨k+1,rfl,rfl,rfl,by omega,bD (by assumption) hR (by simp [fV];grind)⟩,rfl,by simp (maxSteps:=2000000) (disch:=omega) only [go_sem]⟩
theorem EF:∀ (n:Nat) (l:List ae) (r:Int),Ctr lim Tryz.prog 174 [] [.sl false 19 (l.map (aq false)),.v (.int .i64 r)] (.v (.int .i64 (fj l (r - l.length)))) [] (SizeOf.sizeOf l<n/\cE l<=1048576/\0<=r/\r<=1048576)
 | 0,l,r=>⟨(aW 174),fun h=>absurd h.1 (Nat.not_lt_zero _)⟩
 | n+1,l,r=>by
  have ih:=EF n
  refine Ctr.bd Tryz.func174 Tryz.ntmps174 rfl rfl fun hp=>?_
  have hl:=lW l
  (refine vU ?_;with_reducible repeat' first|exact Le.l|apply Sw|intro h)
  refine AW.aw [1,5] [0] (fun m xs o=>∃ (k:Nat) (q:Int),xs=[.v (.int .i64 q),.v (.int .i64 k)]/\o=[]/\m=l.length - k/\k<=l.length/\-4611686018427387904<=q/\q<=1048576/\fj (l.drop k) q=fj l (r - l.length)) l.length [] trivial ⟨0,r - l.length,?_,rfl,rfl,?_,?_,?_,rfl⟩ ?_
  ·rfl
  ·omega
  ·omega
  ·omega
  rintro m xs o ⟨k,q,rfl,rfl,rfl,hk,h0,h1,hR⟩
  have hw:k<l.length->SizeOf.sizeOf (at_ l k).ag<n/\cE (at_ l k).ag<=1048576:=fun h=>by
   have:=pP (at_mem h);have:=ae.dM (at_mem h);omega
  have h2:=lW (at_ l k).ag
  have h3:=wN (at_ l k).ag (q - (at_ l k).ag.length)
  (refine vU ?_;with_reducible repeat' first|exact Le.l|apply Sw|intro h)
  ·have h4:-4611686018427387904<=fj (at_ l k).ag (q - (at_ l k).ag.length):=wO _ _ (by have:=hw h.1;omega) (by have:=hw h.1;omega)
   refine ⟨_,[_,_],[],by omega,⟨k+1,_,rfl,rfl,rfl,by omega,h4,by omega,?_⟩,rfl,trivial⟩
   rw [<- hR,JN h.1,if_neg (by omega)]
  ·rw [<- hR]
   by_cases e:k<l.length
   ·rw [nL _ (h e)]
   ·rw [fK e,fj]
instance Vh(l:List ae)(r:Int):Ctr lim Tryz.prog 174 [] [.sl false 19 (l.map (aq false)),.v (.int .i64 r)] (.v (.int .i64 (fj l (r - l.length)))) [] (cE l<=1048576/\0<=r/\r<=1048576):=⟨(aW 174),fun c=>(EF (SizeOf.sizeOf l+1) l r).out ⟨Nat.lt_succ_self _,c⟩⟩
instance Td(l:List Str):Ctr lim Tryz.prog 312 [] [.sl false 1 (l.map AV.str)] (.v (.bool (cl l && decide (l.length<=3)))) [] True:=by
 refine Ctr.bd Tryz.func312 Tryz.ntmps312 rfl rfl fun hp=>?_
 have gOn:=cY.on
 refine AW.fact 0 fun hf=>?_
 simp (disch:=omega) only [go_sem] at hf
 (refine vU ?_;with_reducible repeat' first|exact Le.l|apply Sw|intro h)
 refine AW.aw [3] [0] (fun m xs o=>∃ k:Nat,xs=[.v (.int .i64 k)]/\o=[]/\m=l.length - k/\k<=l.length/\bL (fun j=>!cont (l.take j) (at_ l j)) k=true) l.length [] trivial ⟨0,?_,rfl,rfl,?_,rfl⟩ ?_
 ·rfl
 ·omega
 rintro m xs o ⟨k,rfl,rfl,rfl,hk,hQ⟩
 refine vO ?_;intros;refine AW.c (fun h=>?_) fun h=>?_
 ·(refine vK ?_;with_reducible repeat' first|exact Le.l|apply Sw|intro h)
  refine AW.aw [4] [0,3] (fun m xs o=>∃ j:Nat,xs=[.v (.int .i64 j)]/\o=[]/\m=k - j/\j<=k/\∀ y∈(l.take k).take j,(y == at_ l k)=false) k [] trivial ⟨0,?_,rfl,rfl,?_,?_⟩ ?_
  ·rfl
  ·omega
  ·simp
  rintro m xs o ⟨j,rfl,rfl,rfl,hj,hS⟩
  (refine vU ?_;with_reducible repeat' first|exact Le.l|apply Sw|intro h)
  ·rw [show cl l=false from cW (by assumption) (by rw [sO (by assumption) (by assumption) h];try rfl)];try rfl
  ·exact ⟨_,[_],[],by omega,⟨j+1,rfl,rfl,rfl,by omega,bD (by rw [List.length_take];omega) hS (by rw [zL (by assumption)];simpa using h)⟩,rfl,trivial⟩
  ·rw [show j=k by omega,List.take_take,Nat.min_self] at hS
   exact ⟨_,[_],[],by omega,⟨k+1,rfl,rfl,rfl,by omega,cj hQ (by rw [qu hS];try rfl)⟩,rfl,trivial⟩
 ·(refine vU ?_;with_reducible repeat' first|exact Le.l|apply Sw|intro h)
  rw [show k=l.length by omega] at hQ
  rw [show cl l=true from hQ,Bool.true_and,show decide ((l.length:Int)<=3)=decide (l.length<=3) from decide_eq_decide.2 (by omega)]
end
section
theorem Lw(l:List ae):(l.map (aq true)).all (AV.elem 19)=true:=dx (fun x=>by rw [cT];try rfl) l
theorem Lv(l:List ae):((l.map (aq true)).flatMap AV.cells).all AV.one=true:=dQ (fun x=>by rw [cT];try rfl) l
attribute [local go_sem] dF cM lN lM Lw Lv
theorem qH:∀ (n:Nat) (l:List ae),Ctr lim Tryz.prog 116 [] [.sl false 19 (l.map (aq false))] (.sl true 19 ((dk l).map (aq true))) [] (SizeOf.sizeOf l<n/\cE l<=1048576)
 | 0,l=>⟨(aW 116),fun h=>absurd h.1 (Nat.not_lt_zero _)⟩
 | n+1,l=>by
  have ih:=qH n
  refine Ctr.bd Tryz.func116 Tryz.ntmps116 rfl rfl fun hp=>?_
  have gOn:=cY.on
  obtain ⟨hs,hb⟩:=hp
  refine AW.fact 0 fun hf=>?_
  simp (disch:=omega) only [go_sem] at hf
  (refine vU ?_;with_reducible repeat' first|exact Le.l|apply Sw|intro h)
  refine AW.aw [3,4] [0] (fun m xs o=>∃ k:Nat,xs=[.sl true 19 ((dk (l.take k)).map (aq true)),.v (.int .i64 k)]/\o=[]/\m=l.length - k/\k<=l.length) l.length [] trivial ⟨0,?_,rfl,rfl,?_⟩ ?_
  ·rw [List.take_zero,dk];try rfl
  ·omega
  rintro m xs o ⟨k,rfl,rfl,rfl,hk⟩
  have h1:=lP (l.take k)
  have h3:=Fq (l:=l) (k:=k)
  have h4:k<l.length->SizeOf.sizeOf (at_ l k).ag<n/\cE (at_ l k).ag<=1048576:=fun h=>by
   have:=pP (at_mem h);have:=ae.dM (at_mem h);omega
  have h6:=lP (at_ l k).ag
  have h7:=lP (l.take (k+1))
  (refine vU ?_;with_reducible repeat' first|exact Le.l|apply Sw|intro h)
  ·rename_i hd
   rw [eD] at hd;simp at hd;omega
  ·rename_i hk1 hd
   exact ⟨_,[_,_],[],by omega,⟨k+1,rfl,rfl,rfl,by omega⟩,by rw [oU hk1,if_pos hd,List.map_append,List.map_cons,List.map_nil,cT];try rfl,trivial⟩
  ·rename_i hk1 hd
   exact ⟨_,[_,_],[],by omega,⟨k+1,rfl,rfl,rfl,by omega⟩,by rw [oU hk1,if_neg (by rw [hd];simp),if_pos h,List.map_append];try rfl,trivial⟩
  ·rename_i hk1 hd
   exact ⟨_,[_,_],[],by omega,⟨k+1,rfl,rfl,rfl,by omega⟩,by rw [oU hk1,if_neg (by rw [hd];simp),if_neg (by omega),List.append_nil];try rfl,trivial⟩
  ·rw [List.take_of_length_le (by omega)]
instance QE(l:List ae):zP lim Tryz.prog 116 [.sl false 19 (l.map (aq false))] (.sl false 19 ((dk l).map (aq false))) (cE l<=1048576) :=
 ⟨(aW 116),fun c=>by
  have:=((qH (SizeOf.sizeOf l+1) l).pure ⟨Nat.lt_succ_self _,c⟩).frz
  simpa only [AV.frz,AV.bS,cM,cond_true] using this⟩
end
section
instance Q2(x:cL)(s:Str):Ctr lim Tryz.prog 268 [] [.agg [.v (.int .i64 x.ai),.sl false 2 (x.av.map (aI false)),.sl false 1 (x.ay.map AV.str),.str x.aN,.str x.aA],.str s] (.v (.bool (isVal x s))) [] (s.length<=1048576):=by
 refine Ctr.bd Tryz.func268 Tryz.ntmps268 rfl rfl fun hp=>?_
 (refine vU ?_;with_reducible repeat' first|exact Le.l|apply Sw|intro h)
 all_goals first|rfl|(rw [isVal];done)
instance QD(x:cL)(s:Str):Ctr lim Tryz.prog 262 [] [.agg [.v (.int .i64 x.ai),.sl false 2 (x.av.map (aI false)),.sl false 1 (x.ay.map AV.str),.str x.aN,.str x.aA],.str s] (.v (.bool (isVal x s))) [] (s.length<=1048576):=by
 refine Ctr.bd Tryz.func262 Tryz.ntmps262 rfl rfl fun hp=>?_
 (refine vU ?_;with_reducible repeat' first|exact Le.l|apply Sw|intro h)
 all_goals first|rfl|(rw [isVal];done)
end
section
attribute [local go_sem] dF cM eH lN lM E0
instance PR(l:List ae):Ctr lim Tryz.prog 116 [] [.sl false 19 (l.map (aq false))] (.sl false 19 ((dk l).map (aq false))) [] (cE l<=1048576) :=
 Ctr.jH (aW 116) fun c=>by
  have:=((qH (SizeOf.sizeOf l+1) l).pure ⟨Nat.lt_succ_self _,c⟩).frz
  simpa only [AV.frz,AV.bS,cM,cond_true] using this
end
end Go.Proofs
namespace Go.Dt
open Go Go.Ab
theorem FW(l:List ae):AV.bS (l.map (aq false))=l.map (aq false):=by
 rw [AV.oQ,List.map_map];refine List.map_congr_left fun x _=>?_
 simp only [Function.comp,cT,AV.frz,AV.bS,cond_false]
theorem JB(l:List ah):AV.bS (l.map (ak false))=l.map (ak false):=by
 rw [AV.oQ,List.map_map];refine List.map_congr_left fun x _=>?_
 simp only [Function.comp,cH,AV.frz,AV.bS,cond_false]
end Go.Dt
namespace Go.Proofs
open Go.Ab Go.Dt
attribute [local go_sem] dF cM eH
instance NM(d:List ae)(l:List ah)(x:ah):Ctr lim Tryz.prog 178 [] [.sl false 19 (d.map (aq false)),.sl false 3 (l.map (ak false)),.agg (cNo x)] (.tup [.sl false 3 (((gM d x l).getD l).map (ak false)),.v (.bool (gM d x l).isSome)]) [] (l.length<=1048576/\∀ y,y=x\/y∈l->0<=idx (nmP y.af) d/\kyB (at_ d (idx (nmP y.af) d).toNat) y=true):=by
 refine Ctr.bd Tryz.func178 Tryz.ntmps178 rfl rfl fun hp=>?_
 have gOn:=cY.on
 obtain ⟨hf,hp⟩:=hp
 have hx:=hp x (.inl rfl)
 (refine vU ?_;with_reducible repeat' first|exact Le.l|apply Sw|intro h)
 refine AW.aw [8] [0,1,5] (fun m xs o=>∃ k:Nat,xs=[.v (.int .i64 k)]/\o=[]/\m=l.length - k/\k<=l.length/\∀ j<k,fq d (at_ l j) x=true) l.length [] trivial ⟨0,?_,rfl,rfl,?_,?_⟩ ?_
 ·rfl
 ·omega
 ·omega
 rintro m xs o ⟨k,rfl,rfl,rfl,hk,hR⟩
 have hy:=fun hq:k<l.length=>hp (at_ l k) (.inr (at_mem hq))
 (refine vK ?_;with_reducible repeat' first|exact Le.l|apply Sw|intro h)
 ·exact (hy (by assumption)).2
 refine AW.c (fun h=>?_) fun h=>?_
 ·(refine vK ?_;with_reducible repeat' first|exact Le.l|apply Sw|intro h)
  exact ⟨_,[_],[],by omega,⟨k+1,rfl,rfl,rfl,by omega,fun j hj=>by
   rcases Nat.lt_or_ge j k with q|q
   ·exact hR j q
   ·rw [show j=k by omega];exact h.2⟩,rfl,trivial⟩
 ·have hc:=h
  clear h
  (refine vK ?_;with_reducible repeat' first|exact Le.l|apply Sw|intro h)
  ·first|exact hx.2|(rw [h];exact (hy (by assumption)).2)
  refine AW.c (fun h=>?_) fun h=>?_
  ·(refine vK ?_;with_reducible repeat' first|exact Le.l|apply Sw|intro h)
   rw [Cn h.1 hR (hc h.1),if_neg (by rw [h.2];simp)]
   rfl
  ·have hres:(gM d x l)=some (l.take k++x::l.drop k):=by
    rcases Nat.lt_or_ge k l.length with q|q
    ·rw [Cn q hR (hc q),if_pos (h q)]
    ·exact Jt (by omega) hR
   rw [hres]
   repeat refine Y ?_
   refine AW.post ?_
   have hel:∀ l:List ah,(l.map (ak false)).all (AV.elem 3)=true:=fun l=>by rw [List.all_eq_true];exact bO (fun x=>by rw [cH];rfl) _
   have Xh:∀ l:List ah,((l.map (ak false)).flatMap AV.cells).all AV.one=true:=fun l=>by
    rw [List.all_flatMap,List.all_map,List.all_eq_true]
    intro x _
    simp only [Function.comp,cH,AV.cells];rfl
   have hlk:(l.take k).length<=l.length:=by rw [List.length_take];omega
   have Xe:(l.take k).length+(l.drop k).length=l.length:=by rw [List.length_take,List.length_drop];omega
   (repeat' first|(with_reducible first|refine Z ?_|refine Y ?_|(refine hK _ _ ?_;clear hK K)|refine And.intro ?_ ?_|exact Ct|intro (K:_->_->Prop) hK|(refine gI fun hg=>?_;try simp only [hC,reduceCtorEq] at hg;try simp only [hg]))|((with_reducible refine E ?_;repeat refine Y ?_);refine eF rfl ?_)|simp (disch:=omega) only [go_sem,<- List.map_take,<- List.map_drop,List.take_length]|(with_reducible intro hg;try simp only [hC,reduceCtorEq] at hg)|exact Cl|fail)
   refine Imp.frz 6 ?_
   simp (maxSteps:=2000000) (disch:=omega) only [go_sem]
   (refine vK ?_;with_reducible repeat' first|exact Le.l|apply Sw|intro h)
   rw [show List.map (ak false) (l.take k)++AV.agg (cNo x)::List.map (ak false) (l.drop k)=(l.take k++x::l.drop k).map (ak false) by rw [List.map_append,List.map_cons,cH],JB]
end Go.Proofs
