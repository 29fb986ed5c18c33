/- A part. -/
import Derived.Test.YtmcjbaafmjlblaaGreatDoorJ40
set_option linter.all false
set_option maxRecDepth 20000
set_option maxHeartbeats 4000000
namespace Go.Proofs
open Go.Ab Go.Dt
attribute [-instance] F4 Ji cPf
attribute [local go_sem] ba aI aS cU cT dy fZ gH gV gU
instance YT(op:Int)(x:ah):Ctr lim Tryz.prog 121 [] [.v (.int .i64 op),.sl false 3 [.agg (cNo x)]] (.sl true 4 ((edO op [x]).map (aH true))) [] True:=by
 have:=KJ (SizeOf.sizeOf [x]+1) op [x]
 rw [show List.map (aj false) [x]=[.agg (cNo x)] by rw [List.map_cons,List.map_nil,bR]] at this
 exact ⟨(aM 121),fun _=>this.out (Nat.lt_succ_self _)⟩
theorem KK:∀ (n:Nat) (s:List ag) (a b:List ah),Ctr lim Tryz.prog 69 [] [.sl false 19 (s.map (ak false)),.sl false 3 (a.map (aj false)),.sl false 3 (b.map (aj false))] (.sl true 4 ((dif s a b).map (aH true))) [] (SizeOf.sizeOf b<n/\gdS s/\wtS s<=1048576/\(∀ x∈a,okX (dk s) x)/\(∀ x∈b,okX (dk s) x)/\wt a<=1048576/\wt b<=1048576)
 | 0,_,_,b=>⟨(aM 69),fun h=>absurd h.1 (Nat.not_lt_zero _)⟩
 | n+1,s,a,b=>by
  have ih:=KK n
  refine Ctr.bd Tryz.func69 Tryz.ntmps69 rfl rfl fun hp=>?_
  have gOn:=bA.on
  obtain ⟨hs,hg,h1,ha,hb,hwa,hwb⟩:=hp
  have hc:=gM s
  have hla:a.length<=1048576:=by unfold wt at hwa;omega
  have hlb:b.length<=1048576:=by unfold wt at hwb;omega
  (refine vK ?_;with_reducible repeat' first|exact Le.l|apply Sw|intro h)
  refine AW.aA [7,21] [0,1,2,19,20] (fun m xs o=>∃ k:Nat,xs=[.sl true 4 (((a.take k).flatMap (dfA s b)).map (aH true)),.v (.int .i64 k)]/\o=[]/\m=a.length - k/\k<=a.length) a.length [] trivial ⟨0,?_,rfl,rfl,?_⟩ ?_
  ·rfl
  ·omega
  rintro m xs o ⟨k,rfl,rfl,rfl,hk⟩
  have hlen:=nk (vD s b) a k
  refine vO ?_;intros;refine AW.c (fun h=>?_) fun h=>?_
  ·have hlk:=h
   have hx:=ha _ (at_mem h)
   have hx0:=hx.1
   have hkb:=kE hx.2
   have hk3:=mN hg (iv hx).2
   have hfs:=qL (f:=dfA s b) h
   clear h
   haveI fz:∀ (sz:Nat) (x:AV) (l:List AV) (C:List Nat) (K:AV->List Nat->Prop),Rl (bsK sz (x::l) C (K:=⟨K⟩)) (K (.sl false sz (AV.bZ (x::l))) C):=fun _ _ _ _ _=>⟨.inr⟩
   (refine vK ?_;with_reducible repeat' first|exact Le.l|apply Sw|intro h)
   clear fz
   refine AW.c (fun h=>?_) fun h=>?_
   ·(refine vU ?_;with_reducible repeat' first|exact Le.l|apply Sw|intro h)
    exact ⟨_,[_,_],_,by omega,⟨k+1,by rw [hfs,Ob h,List.append_nil],rfl,rfl,by omega⟩,rfl,by simp (maxSteps:=2000000) (disch:=omega) only [go_sem]⟩
   have hnf:¬ 0<=fnd (nd s (at_ a k).ae) b (at_ a k):=by show ¬ 0<=fnd (at_ (dk s) (idx (nmP (at_ a k).ae) (dk s)).toNat) b (at_ a k);omega
   clear h
   (refine vN ?_;with_reducible repeat' first|exact Le.l|apply Sw|intro h)
   first|refine AW.rB ?_|refine AW.wH ?_
   (refine vN ?_;with_reducible repeat' first|exact Le.l|apply Sw|intro h)
   (refine vU ?_;with_reducible repeat' first|exact Le.l|apply Sw|intro h)
   ·exact ⟨_,[_,_],_,by omega,⟨k+1,by rw [hfs,Od hnf h,List.map_append,List.map_cons,List.map_nil,bS];try rfl,rfl,rfl,by omega⟩,rfl,by simp (maxSteps:=2000000) (disch:=omega) only [go_sem]⟩
   ·exact ⟨_,[_,_],_,by omega,⟨k+1,by rw [hfs,Oc hnf h,List.map_append,List.map_cons,List.map_nil,bS];try rfl,rfl,rfl,by omega⟩,rfl,by simp (maxSteps:=2000000) (disch:=omega) only [go_sem]⟩
  ·have hal:a.take k=a:=List.take_of_length_le (by omega)
   rw [hal]
   have WU:=xq (vD s b) a
   clear hlen
   clear h
   (refine vK ?_;with_reducible repeat' first|exact Le.l|apply Sw|intro h)
   refine AW.iA [7,57] [0,1,55,56] (fun m xs o=>∃ k:Nat,xs=[.sl true 4 ((a.flatMap (dfA s b)++(b.take k).flatMap (dfY s a)).map (aH true)),.v (.int .i64 k)]/\o=[]/\m=b.length - k/\k<=b.length) b.length [] trivial ⟨0,?_,rfl,rfl,?_⟩ ?_
   ·rw [List.take_zero,List.flatMap_nil,List.append_nil];rfl
   ·omega
   rintro m xs o ⟨k,rfl,rfl,rfl,hk⟩
   have hlen:=nk (E3 s a) b k
   have IE:(a.flatMap (dfA s b)++(b.take k).flatMap (dfY s a)).length<=a.length+k:=by rw [List.length_append];omega
   refine vO ?_;intros;refine AW.c (fun h=>?_) fun h=>?_
   ·have hlk:=h
    have hy:=hb _ (at_mem h)
    have hy0:=hy.1
    have hkb:=kE hy.2
    have hk3:=mN hg (iv hy).2
    have hfs:=qL (f:=dfY s a) h
    clear h
    haveI fz:∀ (sz:Nat) (x:AV) (l:List AV) (C:List Nat) (K:AV->List Nat->Prop),Rl (bsK sz (x::l) C (K:=⟨K⟩)) (K (.sl false sz (AV.bZ (x::l))) C):=fun _ _ _ _ _=>⟨.inr⟩
    have he1:(edO 3 [(at_ b k)]).length=1:=wG 3 [(at_ b k)]
    refine vO ?_;intros;refine AW.c (fun h=>?_) fun h=>?_
    ·(refine vU ?_;with_reducible repeat' first|exact Le.l|apply Sw|intro h)
     refine Imp.id ?_
     simp (maxSteps:=2000000) (disch:=omega) only [go_sem]
     exact ⟨_,[_,_],_,by omega,⟨k+1,by simp only [hfs,Oa h,List.map_append,List.append_assoc],rfl,rfl,by omega⟩,rfl,by simp (maxSteps:=2000000) (disch:=omega) only [go_sem]⟩
    clear fz
    have hnf:¬ fnd (nd s (at_ b k).ae) a (at_ b k)<0:=by show ¬ fnd (at_ (dk s) (idx (nmP (at_ b k).ae) (dk s)).toNat) a (at_ b k)<0;omega
    have WO:0<=fnd (at_ (dk s) (idx (nmP (at_ b k).ae) (dk s)).toNat) a (at_ b k):=by omega
    clear h
    have hfo:=zG (s:=s) (a:=a) (y:=(at_ b k)) (by omega) hy
    dsimp only [nd] at hfo
    obtain ⟨hf1,hf2,hf3⟩:=hfo
    refine vO ?_;intros;refine AW.c (fun h=>?_) fun h=>?_
    ·(refine vU ?_;with_reducible repeat' first|exact Le.l|apply Sw|intro h)
     refine Imp.zj 7 [.v (.int .i64 2),.str (at_ b k).ae,.str (at_ b k).av] [] true 4 (by rfl) ?_
     simp (maxSteps:=2000000) (disch:=omega) only [go_sem]
     exact ⟨_,[_,_],_,by omega,⟨k+1,by simp only [hfs,N8 hnf h,List.map_append,List.append_assoc,List.map_cons,List.map_nil,bS];try rfl,rfl,rfl,by omega⟩,rfl,by simp (maxSteps:=2000000) (disch:=omega) only [go_sem]⟩
    have hnr:¬ (((nd s (at_ b k).ae).ai=3)/\¬ (at_ a (fnd (nd s (at_ b k).ae) a (at_ b k)).toNat).av=(at_ b k).av):=by rintro ⟨c,d⟩;exact d (h c)
    clear h
    refine vO ?_;intros;refine AW.c (fun h=>?_) fun h=>?_
    ·have hxa:=ha _ hf3
     have hnd:nd s (at_ a (fnd (at_ (dk s) (idx (nmP (at_ b k).ae) (dk s)).toNat) a (at_ b k)).toNat).ae=(at_ (dk s) (idx (nmP (at_ b k).ae) (dk s)).toNat):=by rw [nd,hf2]
     have oW:=ot hxa (by rw [hnd];omega)
     have Iz:=ot hy (by show ¬ ((at_ (dk s) (idx (nmP (at_ b k).ae) (dk s)).toNat).ai=3\/(at_ (dk s) (idx (nmP (at_ b k).ae) (dk s)).toNat).ai=4);omega)
     rw [hnd] at oW
     have hgk:=(kz hg (iv hy).2).1
     have hwk:=nr _ _ (iv hy).2
     have hwx:=og (l:=a) hf1
     have hwy:=og (l:=b) hlk
     have hsz:=ah.cd (at_mem hlk)
     have hdl:=Ho (at_ (dk s) (idx (nmP (at_ b k).ae) (dk s)).toNat).af (at_ a (fnd (at_ (dk s) (idx (nmP (at_ b k).ae) (dk s)).toNat) a (at_ b k)).toNat).af (at_ b k).af
     (refine vN ?_;with_reducible repeat' first|exact Le.l|apply Sw|intro h)
     refine Z ?_
     intro K hK
     simp (maxSteps:=2000000) (disch:=omega) only [go_sem]
     refine Y ?_
     simp (maxSteps:=2000000) (disch:=omega) only [go_sem]
     refine And.intro ⟨hkb,hk3⟩ ?_
     refine Y ?_
     simp (maxSteps:=2000000) (disch:=omega) only [go_sem]
     refine And.intro ⟨by omega,hgk,by omega,oW,Iz,by omega,by omega⟩ ?_
     have hxl:(at_ a (fnd (at_ (dk s) (idx (nmP (at_ b k).ae) (dk s)).toNat) a (at_ b k)).toNat).af.length<=wt (at_ a (fnd (at_ (dk s) (idx (nmP (at_ b k).ae) (dk s)).toNat) a (at_ b k)).toNat).af:=by unfold wt;omega
     have hyl:(at_ b k).af.length<=wt (at_ b k).af:=by unfold wt;omega
     have hkl:=El (x:=(at_ b k)) hk3
     refine And.intro ⟨by omega,by omega,by omega⟩ (And.intro (by decide) (And.intro (by decide) ?_))
     refine Y ?_
     simp (maxSteps:=2000000) (disch:=omega) only [go_sem]
     refine And.intro ⟨by omega,by omega,by omega⟩ ?_
     refine hK _ _ ⟨Ct,?_⟩
     clear hK K
     intro K hK
     simp (maxSteps:=2000000) (disch:=omega) only [go_sem]
     refine hK _ _ ?_
     clear hK K
     (refine vU ?_;with_reducible repeat' first|exact Le.l|apply Sw|intro h)
     refine Imp.id ?_
     simp (maxSteps:=2000000) (disch:=omega) only [go_sem]
     exact ⟨_,[_,_],_,by omega,⟨k+1,by simp only [hfs,I8 hnf h,List.map_append,List.append_assoc,List.map_cons,List.map_nil,bS,au.fOp,au.ae,au.av,au.af],rfl,rfl,by omega⟩,rfl,by simp (maxSteps:=2000000) (disch:=omega) only [go_sem]⟩
    (refine vU ?_;with_reducible repeat' first|exact Le.l|apply Sw|intro h)
    refine Imp.id ?_
    simp (maxSteps:=2000000) (disch:=omega) only [go_sem]
    exact ⟨_,[_,_],_,by omega,⟨k+1,by simp only [hfs,N9 hnf hnr (by show ¬ (((at_ (dk s) (idx (nmP (at_ b k).ae) (dk s)).toNat).ai=1\/(at_ (dk s) (idx (nmP (at_ b k).ae) (dk s)).toNat).ai=2)/\_=false);grind),List.append_nil],rfl,rfl,by omega⟩,rfl,by simp (maxSteps:=2000000) (disch:=omega) only [go_sem]⟩
   ·(refine vU ?_;with_reducible repeat' first|exact Le.l|apply Sw|intro h)
    rw [vC,List.take_of_length_le (by omega)]
end Go.Proofs
namespace Go.Dt
open Go Go.Ab
section
variable {d : List ag} {x : ah} {cs ks : List Str}
end
theorem Ds{α:Type}[Inhabited α]{f:α->AV}{l:List α}{k:Nat}(h:k<l.length):List.drop k (List.take (k+1) (l.map f))=[f (at_ l k)]:=by
 rw [<- List.map_take,db h,List.map_append,List.drop_append_of_le_length (by rw [List.length_map,List.length_take];omega),List.drop_of_length_le (by rw [List.length_map,List.length_take];omega)];rfl
end Go.Dt
namespace Go.Proofs
open Go.Ab Go.Dt
theorem LG(cs:List Str):List.drop (Int.toNat 1) (List.take cs.length (cs.map AV.str))=(cs.drop 1).map AV.str:=by
 rw [List.take_of_length_le (by simp),List.map_drop];rfl
attribute [local go_sem] ba aI aS cU cT dy fZ gH LG Ds
end Go.Proofs
