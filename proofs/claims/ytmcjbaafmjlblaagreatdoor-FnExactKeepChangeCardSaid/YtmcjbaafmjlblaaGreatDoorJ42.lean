/- A part. -/
import Derived.Test.YtmcjbaafmjlblaaGreatDoorJ41
set_option linter.all false
set_option maxRecDepth 20000
set_option maxHeartbeats 4000000
namespace Go.Proofs
open Go.Ab Go.Dt
section
attribute [-instance] F4 Ji cPf
attribute [local go_sem] ba aI aS cU cT dy fZ gH gV gU Ds
instance YG(op:Int)(x:ah):Ctr lim Tryz.prog 141 [] [.v (.int .i64 op),.sl false 3 [.agg (cNo x)]] (.sl true 4 ((edO op [x]).map (aH true))) [] True:=by
 have:=JA (SizeOf.sizeOf [x]+1) op [x]
 rw [show List.map (aj false) [x]=[.agg (cNo x)] by rw [List.map_cons,List.map_nil,bR]] at this
 exact ⟨(aM 141),fun _=>this.out (Nat.lt_succ_self _)⟩
theorem JB:∀ (n:Nat) (s:List ag) (a b:List ah),Ctr lim Tryz.prog 103 [] [.sl false 19 (s.map (ak false)),.sl false 3 (a.map (aj false)),.sl false 3 (b.map (aj false))] (.sl true 4 ((dif s a b).map (aH true))) [] (SizeOf.sizeOf b<n/\gdS s/\wtS s<=1048576/\(∀ x∈a,okX (dk s) x)/\(∀ x∈b,okX (dk s) x)/\wt a<=1048576/\wt b<=1048576)
 | 0,_,_,b=>⟨(aM 103),fun h=>absurd h.1 (Nat.not_lt_zero _)⟩
 | n+1,s,a,b=>by
  have ih:=JB n
  refine Ctr.bd Tryz.func103 Tryz.ntmps103 rfl rfl fun hp=>?_
  have gOn:=bA.on
  obtain ⟨hs,hg,h1,ha,hb,hwa,hwb⟩:=hp
  have hc:=gM s
  have hla:a.length<=1048576:=by unfold wt at hwa;omega
  have hlb:b.length<=1048576:=by unfold wt at hwb;omega
  (refine vK ?_;with_reducible repeat' first|exact Le.l|apply Sw|intro h)
  refine AW.aA [8,9] [1,2,7] (fun m xs o=>∃ k:Nat,xs=[.sl true 4 (((a.take k).flatMap (dfA s b)).map (aH true)),.v (.int .i64 k)]/\o=[]/\m=a.length - k/\k<=a.length) a.length [] trivial ⟨0,?_,rfl,rfl,?_⟩ ?_
  ·rfl
  ·omega
  rintro m xs o ⟨k,rfl,rfl,rfl,hk⟩
  have hlen:=nk (vD s b) a k
  refine vO ?_;intros;refine AW.c (fun h=>?_) fun h=>?_
  ·have hlk:=h
   have hx:=ha _ (at_mem h)
   have hx0:=hx.1
   have hx1:=gJ (p:=nmP (at_ a k).ae) (dk s)
   have hnm:(at_ (dk s) (idx (nmP (at_ a k).ae) (dk s)).toNat).ae=(at_ a k).ae:=(iv hx).1
   have hkb:=kE hx.2
   have hk3:=mN hg (iv hx).2
   have hkl:=Kc (s:=s) hb hx
   have hfs:=qL (f:=dfA s b) h
   clear h
   refine vO ?_;intros;refine AW.c (fun h=>?_) fun h=>?_
   ·(refine vU ?_;with_reducible repeat' first|exact Le.l|apply Sw|intro h)
    exact ⟨_,[_,_],_,by omega,⟨k+1,by rw [hfs,Ob h,List.append_nil],rfl,rfl,by omega⟩,rfl,by simp (maxSteps:=2000000) (disch:=omega) only [go_sem]⟩
   have hnf:¬ 0<=fnd (nd s (at_ a k).ae) b (at_ a k):=by show ¬ 0<=fnd (at_ (dk s) (idx (nmP (at_ a k).ae) (dk s)).toNat) b (at_ a k);omega
   clear h
   (refine vN ?_;with_reducible repeat' first|exact Le.l|apply Sw|intro h)
   first|refine AW.rB ?_|refine AW.wH ?_
   (refine vN ?_;with_reducible repeat' first|exact Le.l|apply Sw|intro h)
   rw [hnm]
   (refine vU ?_;with_reducible repeat' first|exact Le.l|apply Sw|intro h)
   ·exact ⟨_,[_,_],_,by omega,⟨k+1,by simp only [hfs,Od hnf h,List.map_append,List.append_assoc,List.map_cons,List.map_nil,bS,au.fOp,au.ae,au.av,au.af],rfl,rfl,by omega⟩,rfl,by simp (maxSteps:=2000000) (disch:=omega) only [go_sem]⟩
   ·exact ⟨_,[_,_],_,by omega,⟨k+1,by simp only [hfs,Oc hnf h,List.map_append,List.append_assoc,List.map_cons,List.map_nil,bS,au.fOp,au.ae,au.av,au.af],rfl,rfl,by omega⟩,rfl,by simp (maxSteps:=2000000) (disch:=omega) only [go_sem]⟩
  ·have hal:a.take k=a:=List.take_of_length_le (by omega)
   rw [hal]
   have WU:=xq (vD s b) a
   clear hlen
   clear h
   (refine vK ?_;with_reducible repeat' first|exact Le.l|apply Sw|intro h)
   refine AW.iA [8,12] [1,2,7] (fun m xs o=>∃ k:Nat,xs=[.sl true 4 ((a.flatMap (dfA s b)++(b.take k).flatMap (dfY s a)).map (aH true)),.v (.int .i64 k)]/\o=[]/\m=b.length - k/\k<=b.length) b.length [] trivial ⟨0,?_,rfl,rfl,?_⟩ ?_
   ·rw [List.take_zero,List.flatMap_nil,List.append_nil];rfl
   ·omega
   rintro m xs o ⟨k,rfl,rfl,rfl,hk⟩
   have hlen:=nk (E3 s a) b k
   have IE:(a.flatMap (dfA s b)++(b.take k).flatMap (dfY s a)).length<=a.length+k:=by rw [List.length_append];omega
   refine vO ?_;intros;refine AW.c (fun h=>?_) fun h=>?_
   ·have hlk:=h
    have hy:=hb _ (at_mem h)
    have hy0:=hy.1
    have hy1:=gJ (p:=nmP (at_ b k).ae) (dk s)
    have hnm:(at_ (dk s) (idx (nmP (at_ b k).ae) (dk s)).toNat).ae=(at_ b k).ae:=(iv hy).1
    have hkb:=kE hy.2
    have hk3:=mN hg (iv hy).2
    have hkl:=Kc (s:=s) ha hy
    have hfs:=qL (f:=dfY s a) h
    have he1:(edO 3 [(at_ b k)]).length=1:=wG 3 [(at_ b k)]
    clear h
    (refine vK ?_;with_reducible repeat' first|exact Le.l|apply Sw|intro h)
    rename Nat=>b5
    refine AW.c (fun h=>?_) fun h=>?_
    ·(refine vU ?_;with_reducible repeat' first|exact Le.l|apply Sw|intro h)
     refine Imp.id ?_
     simp (maxSteps:=2000000) (disch:=omega) only [go_sem]
     exact ⟨_,[_,_],_,by omega,⟨k+1,by simp only [hfs,Oa h,List.map_append,List.append_assoc],rfl,rfl,by omega⟩,rfl,by simp (maxSteps:=2000000) (disch:=omega) only [go_sem]⟩
    have hnf:¬ fnd (nd s (at_ b k).ae) a (at_ b k)<0:=by show ¬ fnd (at_ (dk s) (idx (nmP (at_ b k).ae) (dk s)).toNat) a (at_ b k)<0;omega
    have WO:0<=fnd (at_ (dk s) (idx (nmP (at_ b k).ae) (dk s)).toNat) a (at_ b k):=by omega
    clear h
    have hfo:=zG (s:=s) (a:=a) (y:=(at_ b k)) (by omega) hy
    dsimp only [nd] at hfo
    obtain ⟨hf1,hf2,hf3⟩:=hfo
    refine vO ?_;intros;refine AW.c (fun h=>?_) fun h=>?_
    ·rw [hnm]
     (refine vU ?_;with_reducible repeat' first|exact Le.l|apply Sw|intro h)
     refine Imp.zj 8 [.v (.int .i64 2),.str (at_ b k).ae,.str (at_ b k).av] [] true 4 (by rfl) ?_
     simp (maxSteps:=2000000) (disch:=omega) only [go_sem]
     exact ⟨_,[_,_],_,by omega,⟨k+1,by simp only [hfs,N8 hnf h,List.map_append,List.append_assoc,List.map_cons,List.map_nil,bS,au.fOp,au.ae,au.av,au.af],rfl,rfl,by omega⟩,rfl,by simp (maxSteps:=2000000) (disch:=omega) only [go_sem]⟩
    have hnr:¬ (((nd s (at_ b k).ae).ai=3)/\¬ (at_ a (fnd (nd s (at_ b k).ae) a (at_ b k)).toNat).av=(at_ b k).av):=by rintro ⟨c,d⟩;exact d (h c)
    clear h
    refine vO ?_;intros;refine AW.c (fun h=>?_) fun h=>?_
    ·have hm:=h
     have hxa:=ha _ hf3
     have hnd:nd s (at_ a (fnd (at_ (dk s) (idx (nmP (at_ b k).ae) (dk s)).toNat) a (at_ b k)).toNat).ae=(at_ (dk s) (idx (nmP (at_ b k).ae) (dk s)).toNat):=by rw [nd,hf2]
     have oW:=ot hxa (by rw [hnd];omega)
     have Iz:=ot hy (by show ¬ ((at_ (dk s) (idx (nmP (at_ b k).ae) (dk s)).toNat).ai=3\/(at_ (dk s) (idx (nmP (at_ b k).ae) (dk s)).toNat).ai=4);omega)
     rw [hnd] at oW
     have hgk:=(kz hg (iv hy).2).1
     have hwk:=nr _ _ (iv hy).2
     have hwx:=og (l:=a) hf1
     have hwy:=og (l:=b) hlk
     have hsz:=ah.cd (at_mem hlk)
     have hdl:=Ho (at_ (dk s) (idx (nmP (at_ b k).ae) (dk s)).toNat).af (at_ a (fnd (at_ (dk s) (idx (nmP (at_ b k).ae) (dk s)).toNat) a (at_ b k)).toNat).af (at_ b k).af
     have hxl:(at_ a (fnd (at_ (dk s) (idx (nmP (at_ b k).ae) (dk s)).toNat) a (at_ b k)).toNat).af.length<=wt (at_ a (fnd (at_ (dk s) (idx (nmP (at_ b k).ae) (dk s)).toNat) a (at_ b k)).toNat).af:=by unfold wt;omega
     have hyl:(at_ b k).af.length<=wt (at_ b k).af:=by unfold wt;omega
     have hkl:=El (x:=(at_ b k)) hk3
     (refine vN ?_;with_reducible repeat' first|exact Le.l|apply Sw|intro h)
     first|refine AW.rB ?_|refine AW.wH ?_
     (refine vN ?_;with_reducible repeat' first|exact Le.l|apply Sw|intro h)
     rw [hnm]
     rename Nat=>b6
     refine AW.imp (Imp.iZ (b0:=b6) (k:=3) (sz:=4) (l:=(kyE (at_ (dk s) (idx (nmP (at_ b k).ae) (dk s)).toNat) (at_ b k)).map (aH true)) (eQ _ _ _) rfl (bB (fun x=>by rw [bS];rfl) _) (fun g hg'=>?_) (fun hnil=>?_))
     ·have hb1:=hg'.nf
      simp only [go_sem] at hb1
      simp only [List.set_cons_zero,List.set_cons_succ,List.length_map]
      (refine vN ?_;with_reducible repeat' first|exact Le.l|apply Sw|intro h)
      refine Z ?_
      intro K hK
      simp (maxSteps:=2000000) (disch:=omega) only [go_sem]
      refine Y ?_
      simp (maxSteps:=2000000) (disch:=omega) only [go_sem]
      refine And.intro ⟨by omega,hgk,by omega,oW,Iz,by omega,by omega⟩ ?_
      refine hK _ _ ⟨Ct,?_⟩
      clear hK K
      intro K hK
      (refine vN ?_;with_reducible repeat' first|exact Le.l|apply Sw|intro h)
      ·rw [bH (sz:=4) (bB (fun x=>by rw [bS];rfl) _),List.length_map]
      rename Nat=>b7
      refine AW.imp (Imp.zF (b0:=b6) (k:=3) (b:=b7) (sz:=4) (len:=(kyE (at_ (dk s) (idx (nmP (at_ b k).ae) (dk s)).toNat) (at_ b k)).length+(dif (at_ (dk s) (idx (nmP (at_ b k).ae) (dk s)).toNat).af (at_ a (fnd (at_ (dk s) (idx (nmP (at_ b k).ae) (dk s)).toNat) a (at_ b k)).toNat).af (at_ b k).af).length) (cells0:=[.v (.int .i64 1),.str (at_ b k).ae,.str [],.arr b7 0 ((kyE (at_ (dk s) (idx (nmP (at_ b k).ae) (dk s)).toNat) (at_ b k)).length+(dif (at_ (dk s) (idx (nmP (at_ b k).ae) (dk s)).toNat).af (at_ a (fnd (at_ (dk s) (idx (nmP (at_ b k).ae) (dk s)).toNat) a (at_ b k)).toNat).af (at_ b k).af).length) 4]) (cells:=((kyE (at_ (dk s) (idx (nmP (at_ b k).ae) (dk s)).toNat) (at_ b k)).map (aH true)).flatMap AV.cells++((dif (at_ (dk s) (idx (nmP (at_ b k).ae) (dk s)).toNat).af (at_ a (fnd (at_ (dk s) (idx (nmP (at_ b k).ae) (dk s)).toNat) a (at_ b k)).toNat).af (at_ b k).af).map (aH true)).flatMap AV.cells) (l:=((kyE (at_ (dk s) (idx (nmP (at_ b k).ae) (dk s)).toNat) (at_ b k))++(dif (at_ (dk s) (idx (nmP (at_ b k).ae) (dk s)).toNat).af (at_ a (fnd (at_ (dk s) (idx (nmP (at_ b k).ae) (dk s)).toNat) a (at_ b k)).toNat).af (at_ b k).af)).map (aH true)) gO rfl gO (by grind) (by rw [List.length_map,List.length_append]) (by rw [List.map_append,List.flatMap_append,List.take_of_length_le];rw [List.length_append,bH (sz:=4) (bB (fun x=>by rw [bS];rfl) _),bH (sz:=4) (bB (fun x=>by rw [bS];rfl) _),List.length_map,List.length_map];omega) (bB (fun x=>by rw [bS];rfl) _) ?_)
      simp only [List.set_cons_zero,List.set_cons_succ]
      (refine vU ?_;with_reducible repeat' first|exact Le.l|apply Sw|intro h)
      refine Imp.id ?_
      simp (maxSteps:=2000000) (disch:=omega) only [go_sem]
      exact ⟨_,[_,_],_,by omega,⟨k+1,by simp only [hfs,I8 hnf hm,List.map_append,List.append_assoc,List.map_cons,List.map_nil,bS,au.fOp,au.ae,au.av,au.af];try rfl,rfl,rfl,by omega⟩,rfl,by simp (maxSteps:=2000000) (disch:=omega) only [go_sem]⟩
     ·simp only [List.set_cons_zero,List.set_cons_succ]
      have hkn:(kyE (at_ (dk s) (idx (nmP (at_ b k).ae) (dk s)).toNat) (at_ b k))=[]:=by simpa using hnil
      (refine vN ?_;with_reducible repeat' first|exact Le.l|apply Sw|intro h)
      refine Z ?_
      intro K hK
      simp (maxSteps:=2000000) (disch:=omega) only [go_sem]
      refine Y ?_
      simp (maxSteps:=2000000) (disch:=omega) only [go_sem]
      refine And.intro ⟨by omega,hgk,by omega,oW,Iz,by omega,by omega⟩ ?_
      refine hK _ _ ⟨Ct,?_⟩
      clear hK K
      intro K hK
      (refine vN ?_;with_reducible repeat' first|exact Le.l|apply Sw|intro h)
      (refine vU ?_;with_reducible repeat' first|exact Le.l|apply Sw|intro h)
      refine Imp.id ?_
      simp (maxSteps:=2000000) (disch:=omega) only [go_sem]
      exact ⟨_,[_,_],_,by omega,⟨k+1,by simp only [hfs,I8 hnf hm,nd,hkn,List.nil_append,List.map_append,List.append_assoc,List.map_cons,List.map_nil,bS,au.fOp,au.ae,au.av,au.af];try rfl,rfl,rfl,by omega⟩,rfl,by simp (maxSteps:=2000000) (disch:=omega) only [go_sem]⟩
    (refine vU ?_;with_reducible repeat' first|exact Le.l|apply Sw|intro h)
    refine Imp.id ?_
    simp (maxSteps:=2000000) (disch:=omega) only [go_sem]
    exact ⟨_,[_,_],_,by omega,⟨k+1,by simp only [hfs,N9 hnf hnr (by show ¬ (((at_ (dk s) (idx (nmP (at_ b k).ae) (dk s)).toNat).ai=1\/(at_ (dk s) (idx (nmP (at_ b k).ae) (dk s)).toNat).ai=2)/\_=false);grind),List.append_nil],rfl,rfl,by omega⟩,rfl,by simp (maxSteps:=2000000) (disch:=omega) only [go_sem]⟩
   ·(refine vU ?_;with_reducible repeat' first|exact Le.l|apply Sw|intro h)
    rw [vC,List.take_of_length_le (by omega)]
end
section
attribute [-instance] F4 Ji cPf
attribute [local go_sem] ba aI aS
theorem wg{s:List ag}{l:List ah}(h:bp s l=true):∀ x∈l,okX (dk s) x:=by
 simp only [bp,Bool.and_eq_true] at h
 exact lI h.2
theorem Dd{s:List ag}{l:List ah}(h:bp s l=true):gdS s:=by
 simp only [bp,Bool.and_eq_true] at h
 exact pK h.1.1
instance YU(s:List ag)(a b:List ah):Ctr lim Tryz.prog 69 [] [.sl false 19 (s.map (ak false)),.sl false 3 (a.map (aj false)),.sl false 3 (b.map (aj false))] (.sl true 4 ((dif s a b).map (aH true))) [] (bp s a=true/\bp s b=true/\wtS s<=1048576/\wt a<=1048576/\wt b<=1048576):=⟨(aM 69),fun h=>(KK (SizeOf.sizeOf b+1) s a b).out ⟨Nat.lt_succ_self _,Dd h.1,h.2.2.1,wg h.1,wg h.2.1,h.2.2.2⟩⟩
instance YH(s:List ag)(a b:List ah):Ctr lim Tryz.prog 103 [] [.sl false 19 (s.map (ak false)),.sl false 3 (a.map (aj false)),.sl false 3 (b.map (aj false))] (.sl true 4 ((dif s a b).map (aH true))) [] (bp s a=true/\bp s b=true/\wtS s<=1048576/\wt a<=1048576/\wt b<=1048576):=⟨(aM 103),fun h=>(JB (SizeOf.sizeOf b+1) s a b).out ⟨Nat.lt_succ_self _,Dd h.1,h.2.2.1,wg h.1,wg h.2.1,h.2.2.2⟩⟩
instance QG(s:List ag)(a b:List ah):Ctr lim Tryz.prog 49 [] [.sl false 19 (s.map (ak false)),.sl false 3 (a.map (aj false)),.sl false 3 (b.map (aj false))] (.tup [.sl true 4 ((ko s a b).map (aH true)),.v (.bool (bp s a && bp s b))]) [] (wtS s<=1048576/\wt a<=1048576/\wt b<=1048576):=by
 refine Ctr.bd Tryz.func49 Tryz.ntmps49 rfl rfl fun hp=>?_
 have gOn:=bA.on
 obtain ⟨h1,h2,h3⟩:=hp
 (refine vU ?_;with_reducible repeat' first|exact Le.l|apply Sw|intro h)
 ·have h:(bp s a && bp s b)=false:=by rcases h with h|h<;>rw [h]<;>simp
  rw [ko,h];try rfl
 ·rw [ko,h.1,h.2];try rfl
instance RA(s:List ag)(a b:List ah):Ctr lim Tryz.prog 52 [] [.sl false 19 (s.map (ak false)),.sl false 3 (a.map (aj false)),.sl false 3 (b.map (aj false))] (.tup [.sl true 4 ((ko s a b).map (aH true)),.v (.bool (bp s a && bp s b))]) [] (wtS s<=1048576/\wt a<=1048576/\wt b<=1048576):=by
 refine Ctr.bd Tryz.func52 Tryz.ntmps52 rfl rfl fun hp=>?_
 have gOn:=bA.on
 obtain ⟨h1,h2,h3⟩:=hp
 (refine vU ?_;with_reducible repeat' first|exact Le.l|apply Sw|intro h)
 ·have h:(bp s a && bp s b)=false:=by rcases h with h|h<;>rw [h]<;>simp
  rw [ko,h];try rfl
 ·rw [ko,h.1,h.2];try rfl
end
end Go.Proofs
