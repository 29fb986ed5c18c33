/-
  Part of a proof: Pt2, Pt3, AbOpen.
-/
import Derived.SizedLaws
import Derived.Deep.Slices
import Derived.Test.YtmcjbaafmjlblaaGreatDoorG1
import Derived.Test.YtmcjbaafmjlblaaGreatDoorG15
import Derived.Test.YtmcjbaafmjlblaaGreatDoorG16
set_option linter.unusedSimpArgs false
set_option linter.unusedVariables false
namespace Go.Dt
open Go.Ab
mutual
def psz:GPat→Nat
 | .mk _ _ ks=>1+pszL ks
def pszL:List GPat→Nat
 | []=>0
 | x::xs=>psz x+pszL xs
end
theorem psz_eq(p:GPat):psz p=1+pszL p.fKids:=by cases p;simp [psz,GPat.fKids]
theorem take_at{α β:Type}[Inhabited α]{f:α→β}{l:List α}{k:Nat}(h:k<l.length):(l.take (k+1)).map f=(l.take k).map f++[f (at_ l k)]:=by
 rw [List.take_add_one,List.map_append,at_get h];rfl
theorem psz_at:∀ {l:List GPat} {k:Nat},k<l.length→psz (at_ l k)≤pszL l
 | [],_,h=>by simp at h
 | x::xs,0,_=>by simp [at_,pszL]
 | x::xs,k+1,h=>by
  have:=psz_at (l:=xs) (k:=k) (by simpa using h)
  simp only [pszL]
  have e:at_ (x::xs) (k+1)=at_ xs k:=by simp [at_]
  rw [e];omega
end Go.Dt
namespace Go.Proofs.YtmcjbaafmjlblaaGreatDoor
open Go.Ab Go.Dt
set_option maxRecDepth 20000
set_option maxHeartbeats 4000000
theorem copyPat_n:∀ (n:Nat) (op:Int) (t:Str) (ks:List GPat),Ctr lim Tryz.prog 316 [] [.agg [.v (.int .i64 op),.str t,.sl false 3 (ks.map encPat)]] (.agg [.v (.int .i64 op),.str t,.sl false 3 (ks.map encPat)]) [] (pszL ks<n)
 | 0,op,t,ks=>⟨en316,fun h=>absurd h (Nat.not_lt_zero _)⟩
 | n+1,op,t,ks=>by
  have ih:=copyPat_n n
  refine Ctr.of_body en316 Tryz.func316 rfl rfl fun hp=>(?_);rw [Tryz.ntmps316]
  refine AW.fact 0 fun hf=>?_
  simp (disch:=omega) only [go_sem,Nat.reduceBEq] at hf
  (refine bU ?_;with_reducible repeat' first|exact Le.l|refine Sw ?_ ?_|intro (K:_→_→Prop) hK|intro h)
  rename_i b1 b2
  refine AW.loopV [3,10] [1,2,8,9] (fun m xs o=>∃ k:Nat,xs=[.sl true 3 ((ks.take k).map encPat),.v (.int .i64 k)]∧o=[(b2,some [.v (.int .i64 0),.str [],.v (.slice none 0 0)]),(b1,some [.v (.int .i64 op),.str t,.sl false 3 (ks.map encPat)])]∧m=ks.length - k∧k≤ks.length) ks.length [(b2,some [.v (.int .i64 0),.str [],.v (.slice none 0 0)]),(b1,some [.v (.int .i64 op),.str t,.sl false 3 (ks.map encPat)])] (subO_two (Ne.symm h) rfl rfl) ⟨0,?_,rfl,rfl,?_⟩ ?_
  ·rfl
  ·omega
  rintro m xs o ⟨k,rfl,rfl,rfl,hk⟩
  have hq:k<ks.length→_:=psz_at (l:=ks) (k:=k)
  have hq2:=psz_eq (at_ ks k)
  have hlt:(ks.take k).length=k:=by rw [List.length_take];omega
  (refine bK ?_;with_reducible repeat' first|exact Le.l|refine Sw ?_ ?_|intro (K:_→_→Prop) hK|intro h)
  (refine AW.i rfl (fun h=>?_) (fun h=>?_)<;>try simp only [hC,reduceCtorEq] at h)
  ·(refine bU ?_;with_reducible repeat' first|exact Le.l|refine Sw ?_ ?_|intro (K:_→_→Prop) hK|intro h)
   ·refine ⟨_,[_,_],[(b2,some [.v (.int .i64 0),.str [],.v (.slice none 0 0)]),(b1,some [.v (.int .i64 op),.str t,.sl false 3 (ks.map encPat)])],by omega,⟨k+1,?_,rfl,rfl,by omega⟩,rfl,by simp (maxSteps:=2000000) (disch:=omega) only [go_sem]⟩
    rw [take_at (by assumption),encPat_eq]
  ·refine AW.imp (Imp.frz 3 ?_)
   simp (maxSteps:=2000000) (disch:=omega) only [go_sem]
   rw [show k=ks.length by omega,List.take_length]
   (refine bU ?_;with_reducible repeat' first|exact Le.l|refine Sw ?_ ?_|intro (K:_→_→Prop) hK|intro h)
instance copyPat_i(op:Int)(t:Str)(ks:List GPat):Ctr lim Tryz.prog 316 [] [.agg [.v (.int .i64 op),.str t,.sl false 3 (ks.map encPat)]] (.agg [.v (.int .i64 op),.str t,.sl false 3 (ks.map encPat)]) [] True:=⟨en316,fun _=>(copyPat_n (pszL ks+1) op t ks).out (by omega)⟩
def clsU(h:Nat→Bool)(i:Nat):Str:=((List.range i).filter h).map UInt8.ofNat
theorem clsU_step(h:Nat→Bool)(i:Nat):clsU h (i+1)=clsU h i++(if h i then [UInt8.ofNat i] else []):=by
 unfold clsU
 rw [List.range_succ,List.filter_append,List.map_append]
 congr 1
 cases e:h i<;>simp [e]
theorem clsU_le(h:Nat→Bool)(i:Nat):(clsU h i).length≤i:=by
 unfold clsU
 rw [List.length_map]
 have:=List.length_filter_le h (List.range i)
 simpa using this
theorem byte_end(l:List UInt8){n:Nat}(h:n≤255):bytesA l++[.v (.int .u8 (n:Int))]=bytesA (l++[UInt8.ofNat n]):=by
 have:((UInt8.ofNat n).toNat:Int)=n:=by rw [UInt8.toNat_ofNat'];omega
 simp only [bytesA,List.map_append,List.map_cons,List.map_nil,this]
instance class_i(ha:Nat→Bool):Ctr lim Tryz.prog 321 [] [.agg (hasC ha)] (.agg [.v (.int .i64 1),.str (clsT ha),.sl false 3 []]) [] True:=by
 refine Ctr.of_body en321 Tryz.func321 rfl rfl fun hp=>(?_);rw [Tryz.ntmps321]
 (refine bU ?_;with_reducible repeat' first|exact Le.l|refine Sw ?_ ?_|intro (K:_→_→Prop) hK|intro h)
 rename_i b1 b2
 refine AW.loopV [3,6] [1,2] (fun m xs o=>∃ k:Nat,xs=[.sl true 1 (bytesA (clsU ha k)),.v (.int .i64 k)]∧o=[(b2,some [.v (.int .i64 0),.str [],.v (.slice none 0 0)]),(b1,some (hasC ha))]∧m=256 - k∧k≤256) 256 [(b2,some [.v (.int .i64 0),.str [],.v (.slice none 0 0)]),(b1,some (hasC ha))] (subO_two (Ne.symm h) rfl rfl) ⟨0,?_,rfl,rfl,?_⟩ ?_
 ·rfl
 ·omega
 rintro m xs o ⟨k,rfl,rfl,rfl,hk⟩
 have hl:=clsU_le ha k
 have hs:=clsU_step ha k
 (refine bK ?_;with_reducible repeat' first|exact Le.l|refine Sw ?_ ?_|intro (K:_→_→Prop) hK|intro h)
 (refine AW.i rfl (fun h=>?_) (fun h=>?_)<;>try simp only [hC,reduceCtorEq] at h)
 ·(refine bK ?_;with_reducible repeat' first|exact Le.l|refine Sw ?_ ?_|intro (K:_→_→Prop) hK|intro h)
  (refine AW.i rfl (fun h=>?_) (fun h=>?_)<;>try simp only [hC,reduceCtorEq] at h)
  ·rename_i hh
   rw [h] at hs
   (refine bU ?_;with_reducible repeat' first|exact Le.l|refine Sw ?_ ?_|intro (K:_→_→Prop) hK|intro h)
   exact ⟨_,[_,_],[(b2,some [.v (.int .i64 0),.str [],.v (.slice none 0 0)]),(b1,some (hasC ha))],by omega,⟨k+1,by rw [hs,if_pos rfl,← byte_end _ (by omega)],rfl,rfl,by omega⟩,rfl,by simp (maxSteps:=2000000) (disch:=omega) only [go_sem]⟩
  ·rename_i hh
   rw [h] at hs
   (refine bU ?_;with_reducible repeat' first|exact Le.l|refine Sw ?_ ?_|intro (K:_→_→Prop) hK|intro h)
   exact ⟨_,[_,_],[(b2,some [.v (.int .i64 0),.str [],.v (.slice none 0 0)]),(b1,some (hasC ha))],by omega,⟨k+1,by rw [hs];simp,rfl,rfl,by omega⟩,rfl,by simp (maxSteps:=2000000) (disch:=omega) only [go_sem]⟩
 ·(refine bX ?_;with_reducible repeat' first|exact Le.l|refine Sw ?_ ?_|intro (K:_→_→Prop) hK|intro h)
  refine AW.ret (EndsG.imp (Imp.nilO (b:=b2) 3 [.v (.int .i64 1),.str (clsU ha k)] [] gO ?_))
  refine EndsG.fin rfl ?_
  simp (maxSteps:=2000000) (disch:=omega) only [go_sem]
  rw [show k=256 by omega]
  rfl
end Go.Proofs.YtmcjbaafmjlblaaGreatDoor
namespace Go.Dt
open Go.Ab
theorem isAt_iff{s:Str}{i:Nat}{c:Int}:isAt s i c=true↔i<s.length∧at8 s i=c:=by simp [isAt]
theorem clsL_bd{s:Str}:∀ (n i:Nat) (has:Nat→Bool) (h':Nat→Bool) (k:Nat),s.length - i<n→clsL s i has=some (h',k)→i<k∧k≤s.length
 | 0,_,_,_,_,h,_=>by omega
 | n+1,i,has,h',k,hn,h=>by
  rw [clsL] at h
  split at h
  ·rename_i h1
   have:=isAt_iff.1 h1
   simp only [Option.some.injEq,Prod.mk.injEq] at h;omega
  ·split at h
   ·cases h
   ·rename_i a z j he
    have h2:=clsE_lt he
    have:=clsL_bd n j _ h' k (by omega) h
    omega
theorem atomS_bd{s:Str}{i:Nat}{p:GPat}{j:Nat}(h:atomS s i=some (p,j)):i<j∧j≤s.length:=by
 unfold atomS at h
 split at h
 ·rename_i h1
  have:=isAt_iff.1 h1
  simp only [Option.some.injEq,Prod.mk.injEq] at h;omega
 ·split at h
  ·split at h
   ·cases h
   ·rename_i a z k he
    have h2:=clsE_lt he
    split at h
    ·cases h
    ·rename_i has k' hc
     have:=clsL_bd (s.length+1) _ _ _ _ (by omega) hc
     simp only [Option.some.injEq,Prod.mk.injEq] at h;omega
  ·split at h
   ·rename_i h3
    simp only [Bool.and_eq_true,decide_eq_true_eq] at h3
    simp only [Option.some.injEq,Prod.mk.injEq] at h;omega
   ·cases h
theorem pBd(s:Str):∀ n:Nat,
  (∀ i p j,5 * (s.length - i)+4<n→i≤s.length→pAlt s i=some (p,j)→i≤j∧j≤s.length) ∧
  (∀ i l p j,5 * (s.length - i)+3<n→i≤s.length→pAltL s i l=some (p,j)→i≤j∧j≤s.length) ∧
  (∀ i l p j,5 * (s.length - i)+2<n→i≤s.length→pSeq s i l=some (p,j)→i≤j∧j≤s.length) ∧
  (∀ i p j,5 * (s.length - i)+1<n→pAtom s i=some (p,j)→i<j∧j≤s.length)
 | 0=>⟨by omega,by omega,by omega,by omega⟩
 | n+1=>by
  obtain ⟨i1,i2,i3,i4⟩:=pBd s n
  refine ⟨?_,?_,?_,?_⟩
  ·intro i p j hn hi h
   rw [pAlt] at h
   split at h
   ·cases h
   ·rename_i q k hq
    split at h
    ·have a1:=i3 i [] q k (by omega) hi hq
     have a2:=i2 k [q] p j (by omega) (by omega) h
     omega
    ·cases h
  ·intro i l p j hn hi h
   rw [pAltL] at h
   split at h
   ·split at h
    ·split at h
     ·cases h
     ·rename_i q k hq
      split at h
      ·have a1:=i3 (i+1) [] q k (by omega) (by omega) hq
       have a2:=i2 k (l++[q]) p j (by omega) (by omega) h
       omega
      ·cases h
    ·simp only [Option.some.injEq,Prod.mk.injEq] at h;omega
   ·simp only [Option.some.injEq,Prod.mk.injEq] at h;omega
  ·intro i l p j hn hi h
   rw [pSeq] at h
   split at h
   ·split at h
    ·simp only [Option.some.injEq,Prod.mk.injEq] at h;omega
    ·split at h
     ·cases h
     ·rename_i q k hq
      split at h
      ·rename_i hlt
       have a1:=i4 i q k (by omega) hq
       have a3:=post_ge s q a1.2
       have a2:=i3 _ _ p j (by omega) a3 h
       omega
      ·cases h
   ·simp only [Option.some.injEq,Prod.mk.injEq] at h;omega
  ·intro i p j hn h
   rw [pAtom] at h
   split at h
   ·split at h
    ·split at h
     ·cases h
     ·rename_i q k hq
      split at h
      ·rename_i h41
       have a1:=i1 (i+1) q k (by omega) (by omega) hq
       have:=isAt_iff.1 h41
       simp only [Option.some.injEq,Prod.mk.injEq] at h;omega
      ·cases h
    ·exact atomS_bd h
   ·cases h
theorem pAtom_bd{s:Str}{i:Nat}{p:GPat}{j:Nat}(h:pAtom s i=some (p,j)):i<j∧j≤s.length:=(pBd s _).2.2.2 i p j (Nat.lt_succ_self _) h
theorem pSeq_bd{s:Str}{i:Nat}{l:List GPat}{p:GPat}{j:Nat}(hi:i≤s.length)(h:pSeq s i l=some (p,j)):i≤j∧j≤s.length:=(pBd s _).2.2.1 i l p j (Nat.lt_succ_self _) hi h
def pItem(s:Str)(i:Nat):Option (GPat×Nat) :=
 match pAtom s i with
 | none=>none
 | some (p,j)=>some (post s p j)
theorem pItem_bd{s:Str}{i:Nat}{p:GPat}{j:Nat}(h:pItem s i=some (p,j)):i<j∧j≤s.length:=by
 unfold pItem at h
 split at h
 ·cases h
 ·rename_i q k hq
  have a1:=pAtom_bd hq
  have a2:=post_le s q k
  have a3:=post_ge s q a1.2
  simp only [Option.some.injEq] at h
  rw [h] at a2 a3
  omega
theorem pSeq_stop{s:Str}{i:Nat}(l:List GPat)(h:i<s.length→at8 s i=124∨at8 s i=41):pSeq s i l=some (mkSeq l,i):=by
 rw [pSeq]
 split
 ·rename_i hi;rw [if_pos (h hi)]
 ·rfl
theorem pSeq_none{s:Str}{i:Nat}(l:List GPat)(hi:i<s.length)(h1:¬ at8 s i=124)(h2:¬ at8 s i=41)(h:pItem s i=none):pSeq s i l=none:=by
 rw [pSeq,dif_pos hi,if_neg (by omega)]
 unfold pItem at h
 split at h
 ·rename_i hq;rw [hq]
 ·cases h
theorem pSeq_go{s:Str}{i:Nat}(l:List GPat){p:GPat}{j:Nat}(hi:i<s.length)(h1:¬ at8 s i=124)(h2:¬ at8 s i=41)(h:pItem s i=some (p,j)):pSeq s i l=pSeq s j (l++[p]):=by
 have hb:=pItem_bd h
 conv=>lhs;rw [pSeq]
 rw [dif_pos hi,if_neg (by omega)]
 unfold pItem at h
 split at h
 ·cases h
 ·rename_i q k hq
  simp only [Option.some.injEq] at h
  rw [hq]
  simp only [h]
  rw [dif_pos hb.1]
theorem pAlt_none{s:Str}{i:Nat}(h:pSeq s i []=none):pAlt s i=none:=by rw [pAlt,h]
theorem pAlt_go{s:Str}{i:Nat}{p:GPat}{j:Nat}(hi:i≤s.length)(h:pSeq s i []=some (p,j)):pAlt s i=pAltL s j [p]:=by
 have:=pSeq_bd hi h
 rw [pAlt,h];simp only [if_pos this.1]
theorem pAltL_stop{s:Str}{j:Nat}(l:List GPat)(h:isAt s j 124=false):pAltL s j l=some (mkAlt l,j):=by
 rw [pAltL]
 split
 ·rename_i hj
  rw [if_neg]
  intro e
  rw [isAt_yes ⟨hj,e⟩] at h;cases h
 ·rfl
theorem pAltL_none{s:Str}{j:Nat}(l:List GPat)(h:isAt s j 124=true)(hq:pSeq s (j+1) []=none):pAltL s j l=none:=by
 have:=isAt_iff.1 h
 rw [pAltL,dif_pos this.1,if_pos this.2,hq]
theorem pAltL_go{s:Str}{j:Nat}(l:List GPat){p:GPat}{k:Nat}(h:isAt s j 124=true)(hq:pSeq s (j+1) []=some (p,k)):pAltL s j l=pAltL s k (l++[p]):=by
 have:=isAt_iff.1 h
 have hb:=pSeq_bd (by omega) hq
 conv=>lhs;rw [pAltL]
 rw [dif_pos this.1,if_pos this.2,hq]
 simp only [if_pos (show j<k by omega)]
theorem pAtom_open0{s:Str}{i:Nat}(h:isAt s i 40=true)(hq:pAlt s (i+1)=none):pAtom s i=none:=by
 have:=isAt_iff.1 h
 rw [pAtom,dif_pos this.1,if_pos this.2,hq]
theorem pAtom_open1{s:Str}{i:Nat}{p:GPat}{j:Nat}(h:isAt s i 40=true)(hq:pAlt s (i+1)=some (p,j))(h1:isAt s j 41=true):pAtom s i=some (p,j+1):=by
 have:=isAt_iff.1 h
 rw [pAtom,dif_pos this.1,if_pos this.2,hq];simp only [h1,if_true]
theorem pAtom_open2{s:Str}{i:Nat}{p:GPat}{j:Nat}(h:isAt s i 40=true)(hq:pAlt s (i+1)=some (p,j))(h1:isAt s j 41=false):pAtom s i=none:=by
 have:=isAt_iff.1 h
 rw [pAtom,dif_pos this.1,if_pos this.2,hq];simp only [h1];rfl
theorem pAtom_else{s:Str}{i:Nat}(hi:i<s.length)(h:isAt s i 40=false):pAtom s i=atomS s i:=by
 rw [pAtom,dif_pos hi,if_neg]
 intro e;rw [isAt_yes ⟨hi,e⟩] at h;cases h
end Go.Dt
namespace Go.Ab
open Go.RowKit (Below)
variable {H : Type} {enc : TypeId × Value → H} {P : Program} {W : World} {L : Nat → Nat}
def Opens{H:Type}(enc:TypeId×Value→H)(P:Program)(W:World)(L:Nat→Nat)(n:Nat)(t:TypeId){α:Type}(c:α→List AV)(G:α→Prop):Prop :=
 ∀ m,m≤n→∀ cs x,DataW.trod enc P W 0 (fun _=>true) true m t cs=some x→(∀ k∈x.1.weights P t,k≤reachBytes) →
  ∃ a,G a∧RepL L (fun b=>b<W.heap.size) W (c a) cs []
theorem RepL.single{F:Nat→Prop}{w:World}{x:AV}{y:Value}(h:Rep L F w x y []):RepL L F w [x] [y] []:=by
 simp only [RepL];exact ⟨y,[],[],[],rfl,rfl,h,rfl,rfl⟩
theorem RepL.one{F:Nat→Prop}{w:World}{x:AV}{y:Value}(h:RepL L F w [x] [y] []):Rep L F w x y []:=by
 simp only [RepL] at h
 obtain ⟨y',vs',f1,f2,e,hf,hy,rfl,rfl⟩:=h
 simp at e hf
 subst hf;rw [e];exact hy
theorem Opens.zero{t:TypeId}{α:Type}{c:α→List AV}{G:α→Prop}:Opens enc P W L 0 t c G:=by
 intro m hm cs x h
 obtain rfl:m=0:=by omega
 simp [DataW.trod] at h
theorem Opens.mono{n n':Nat}{t:TypeId}{α:Type}{c:α→List AV}{G:α→Prop}(h:Opens enc P W L n t c G)(hn:n'≤n):Opens enc P W L n' t c G :=
 fun m hm=>h m (by omega)
theorem Opens.map{n:Nat}{t:TypeId}{α β:Type}{c:α→List AV}{G:α→Prop}(h:Opens enc P W L n t c G){d:β→List AV}{K:β→Prop}(g:α→β)(hg:∀ a,G a→K (g a)∧d (g a)=c a):Opens enc P W L n t d K:=by
 intro m hm cs x hx hw
 obtain ⟨a,ha,hr⟩:=h m hm cs x hx hw
 exact ⟨g a,(hg a ha).1,by rw [(hg a ha).2];exact hr⟩
theorem Opens.int{n:Nat}{t:TypeId}{k:IntKind}(ht:P.underlying t=some (.int k)):Opens enc P W L n t (fun i:Int=>[.v (.int k i)]) (fun i=>(Lit.int k i).wf=true):=by
 intro m hm cs x hx hw
 obtain ⟨i,rfl,rfl,hi⟩:=DataW.trod_int ht hx
 exact ⟨i,hi,RepL.single (by simp [Rep])⟩
theorem Opens.bool{n:Nat}{t:TypeId}(ht:P.underlying t=some .bool):Opens enc P W L n t (fun i:Bool=>[.v (.bool i)]) (fun _=>True):=by
 intro m hm cs x hx hw
 obtain ⟨i,rfl,rfl⟩:=DataW.trod_bool ht hx
 exact ⟨i,trivial,RepL.single (by simp [Rep])⟩
theorem Opens.str{n:Nat}{t:TypeId}(ht:P.underlying t=some .string):Opens enc P W L n t (fun s:List UInt8=>[.str s]) (fun s=>s.length≤reachBytes):=by
 intro m hm cs x hx hw
 obtain ⟨s,rfl,rfl,_⟩:=DataW.trod_string ht hx
 have:=hw s.data.toList.length (by simp [DataW.weights])
 refine ⟨s.data.toList,this,?_⟩
 simp only [RepL]
 refine ⟨_,[],[],[],rfl,rfl,?_,rfl,rfl⟩
 simp only [Rep]
 exact ⟨by simp,by have:=reachBytes_lt;omega,trivial⟩
def Packs(L:Nat→Nat)(W:World){α:Type}(c:α→List AV)(e:α→AV)(sz:Nat):Prop :=
 ∀ a cs,RepL L (fun b=>b<W.heap.size) W (c a) cs []→∃ y:Value,y.cells.toList=cs∧y.cells.size=sz∧Rep L (fun b=>b<W.heap.size) W (e a) y []
theorem Packs.agg{α:Type}{c:α→List AV}{sz:Nat}(hs:∀ a,(c a).length=sz):Packs L W c (fun a=>.agg (c a)) sz:=by
 intro a cs h
 have:=h.len
 exact ⟨.agg cs.toArray,by simp [Value.cells],by simp [Value.cells,this,hs],by simp only [Rep];exact ⟨cs,rfl,h⟩⟩
theorem Packs.one{α:Type}{e:α→AV}(hc:∀ a y,Rep L (fun b=>b<W.heap.size) W (e a) y []→y.cells=#[y]):Packs L W (fun a=>[e a]) e 1:=by
 intro a cs h
 simp only [RepL] at h
 obtain ⟨y,vs',f1,f2,rfl,hf,hy,rfl,rfl⟩:=h
 simp at hf
 subst hf
 exact ⟨y,by rw [hc a y hy],by rw [hc a y hy];rfl,hy⟩
theorem Packs.str:Packs L W (fun s:List UInt8=>[.str s]) AV.str 1:=Packs.one fun a y h=>by
 simp only [Rep] at h;rw [h.1];rfl
theorem Packs.int{k:IntKind}:Packs L W (fun i:Int=>[.v (.int k i)]) (fun i=>AV.v (.int k i)) 1:=Packs.one fun a y h=>by
 simp only [Rep] at h;rw [h.1];rfl
theorem Packs.bool:Packs L W (fun i:Bool=>[.v (.bool i)]) (fun i=>AV.v (.bool i)) 1:=Packs.one fun a y h=>by
 simp only [Rep] at h;rw [h.1];rfl
theorem Packs.sl{α:Type}{f:α→List AV}{sz:Nat}:Packs L W (fun a=>[.sl false sz (f a)]) (fun a=>AV.sl false sz (f a)) 1:=Packs.one fun a y h=>by
 simp only [Rep] at h
 rcases h with ⟨rfl|⟨_,_,rfl⟩,_⟩|⟨b,off,cap,vals,fp',rfl,_⟩<;>rfl
theorem cells_block{w:World}{a:Addr}{v:Value}(h:w.cell? a=some v):∃ c T z,w.heap[a.block]? = some (.cells c T z)∧c[a.off]? = some v:=by
 unfold World.cell? at h
 split at h
 ·split at h
  ·simp at h
  ·rename_i hs
   exact ⟨_,_,_,‹_›,by simpa using h⟩
 ·simp at h
theorem mem_weightsAll{H:Type}{P:Program}{e:TypeId}{d:DataW H}:∀ {l:List (DataW H)},d∈l→∀ k∈d.weights P e,k∈DataW.weightsAll P e l
 | x::l,h,k,hk=>by
  simp only [DataW.weightsAll,List.mem_append]
  rcases List.mem_cons.1 h with rfl|h
  ·exact .inl hk
  ·exact .inr (mem_weightsAll h k hk)
theorem repE_of{α:Type}{e:α→AV}{F:Nat→Prop}{sz:Nat}(f:Nat→α)(C:Nat→List Value):∀ (n k:Nat),(∀ i,i<n→∃ y:Value,y.cells.toList=C (k+i)∧y.cells.size=sz∧Rep L F W (e (f (k+i))) y []) →
  RepE L F W sz ((List.range' k n).map fun i=>e (f i)) ((List.range' k n).flatMap C) []
 | 0,k,_=>by simp [RepE]
 | n+1,k,h=>by
  simp only [List.range'_succ,List.map_cons,List.flatMap_cons,RepE]
  obtain ⟨y,hy,hs,hr⟩:=h 0 (by omega)
  refine ⟨y,_,[],[],by rw [hy];simp,hs,rfl,by simpa using hr,repE_of f C n (k+1) fun i hi=>?_⟩
  have:=h (i+1) (by omega)
  rw [show k+1+i=k+(i+1) by omega];exact this
theorem flatMap_get{C:Nat→List Value}{sz:Nat}:∀ (n k:Nat),(∀ i,i<n→(C (k+i)).length=sz)→((List.range' k n).flatMap C).length=n * sz∧∀ i j,i<n→j<sz→((List.range' k n).flatMap C)[i * sz+j]? = (C (k+i))[j]?
 | 0,k,_=>by simp
 | n+1,k,h=>by
  have h0:=h 0 (by omega)
  have ih:=flatMap_get (C:=C) (sz:=sz) n (k+1) fun i hi=>by
   have:=h (i+1) (by omega)
   rw [show k+1+i=k+(i+1) by omega];exact this
  simp only [List.range'_succ,List.flatMap_cons]
  refine ⟨by rw [List.length_append,ih.1];simp at h0;rw [h0,Nat.succ_mul];omega,fun i j hi hj=>?_⟩
  simp at h0
  cases i with
  | zero=>rw [List.getElem?_append_left (by omega)];simp
  | succ i =>
   rw [List.getElem?_append_right (by rw [h0,Nat.succ_mul];omega),h0,show (i+1) * sz+j - sz=i * sz+j by rw [Nat.succ_mul];omega,ih.2 i j (by omega) hj]
   rw [show k+1+i=k+(i+1) by omega]
theorem Opens.slice'{n:Nat}{t e:TypeId}{α:Type}{c:α→List AV}{G:α→Prop}{E:α→AV}{sz:Nat}[Inhabited α](ht:P.underlying t=some (.slice e))(hsz:P.cellsOf e=sz)(h0:0<sz)(hb:0<P.bytesOf e)
  (hL:reachBytes≤L sz) (hp:Packs L W c E sz) (h:Opens enc P W L n e c G) :
  Opens enc P W L (n+1) t (fun l:List α=>[.sl false sz (l.map E)]) (fun l=>(∀ a∈l,G a)∧l.length * P.bytesOf e≤reachBytes):=by
 intro m hm cs x hx hw
 rcases DataW.trod_slice ht hx with ⟨rfl,rfl⟩|⟨a,len,cap,elems,rest,n',rfl,rfl,rfl,_,hlc,hcap,hlen,hel,hsp,_⟩
 ·exact ⟨[],by simp,RepL.single (by simp [Rep])⟩
 have hsp:=hsp rfl
 simp only [DataW.weights,ht] at hw
 have hw0:=hw _ (List.mem_cons_self ..)
 simp only [List.length_map] at hw0
 have hbd:len * P.bytesOf e≤reachBytes:=Nat.le_trans (Nat.mul_le_mul_right _ (by omega)) hw0
 have hlb:len≤reachBytes:=Nat.le_trans (Nat.le_mul_of_pos_right _ hb) hbd
 by_cases hc0:cap=0
 ·subst hc0
  obtain rfl:len=0:=by omega
  exact ⟨[],by simp,RepL.single (by simp [Rep])⟩
 have hx:∀ i,i<len→∃ p:List Value×α,W.cells? 0 (a.add (i * P.cellsOf e)) (P.cellsOf e)=some p.1∧G p.2∧RepL L (fun b=>b<W.heap.size) W (c p.2) p.1 []:=by
  intro i hi
  have:=hel i hi
  rw [List.getElem?_eq_getElem (by omega)] at this
  obtain ⟨cs',h1,h2⟩:=Option.bind_eq_some_iff.1 this
  obtain ⟨a',ha,hr⟩:=h n' (by omega) cs' _ h2 fun k hk=>hw k (by
   refine List.mem_cons_of_mem _ (List.mem_append_left _ (mem_weightsAll (d:=elems[i].1) (List.mem_map.2 ⟨_,List.getElem_mem ..,rfl⟩) k hk)))
  exact ⟨(cs',a'),h1,ha,hr⟩
 obtain ⟨f,hf⟩:=Deep.choose_lt hx
 rw [hsz] at hf
 have hspot:a.spot=none∧∃ cc T z,W.heap[a.block]? = some (.cells cc T z):=by
  have key:∃ cs',W.cells? 0 (a.add (0 * P.cellsOf e)) (P.cellsOf e)=some cs':=by
   by_cases hl0:0<len
   ·rw [hsz];exact ⟨_,(hf 0 hl0).1⟩
   ·have:=hsp.2 0 (by omega)
    rw [List.getElem?_eq_getElem (by omega),show len+0=0 by omega] at this
    obtain ⟨cs',h1,h2⟩:=Option.bind_eq_some_iff.1 this
    exact ⟨cs',h1⟩
  obtain ⟨cs',h1⟩:=key
  obtain ⟨_,hl,hc⟩:=World.cells?_some h1
  rw [hsz] at hl hc
  have:=hc 0 h0
  rw [List.getElem?_eq_getElem (by omega)] at this
  obtain ⟨cc,T,z,hh,_⟩:=cells_block this
  have hs:=World.cell?_spot this
  simp [Addr.add] at hs hh
  exact ⟨hs,cc,T,z,hh⟩
 obtain ⟨b,off,spot⟩:=a
 obtain ⟨rfl,cc,T,z,hh⟩:=hspot
 have hlt:b<W.heap.size:=by
  have:=hh
  simp only at this
  exact (Array.getElem?_eq_some_iff.1 this).1
 have hCl:∀ i,i<len→(f i).1.length=sz:=fun i hi=>(World.cells?_some (hf i hi).1).2.1
 have hg:=flatMap_get (C:=fun i=>(f i).1) (sz:=sz) len 0 fun i hi=>by simpa using hCl i hi
 refine ⟨(List.range' 0 len).map fun i=>(f i).2,⟨fun a' ha'=>?_,by simpa using hbd⟩,?_⟩
 ·obtain ⟨i,hi,rfl⟩:=List.mem_map.1 ha'
  exact (hf i (by simpa using hi)).2.1
 ·simp only [RepL]
  refine ⟨_,[],[],[],rfl,rfl,?_,rfl,rfl⟩
  simp only [Rep]
  refine .inr ⟨b,off,cap,(List.range' 0 len).flatMap fun i=>(f i).1,[],by simp,by simpa using hlc,by simp;omega,⟨cc,T,z,hh,fun i hi=>?_⟩,?_,.inr ⟨trivial,hlt,rfl,trivial⟩⟩
  ·rw [hg.1] at hi
   have e1:i=i / sz * sz+i % sz:=by rw [Nat.mul_comm];exact (Nat.div_add_mod i sz).symm
   have hq:i / sz<len:=Nat.div_lt_of_lt_mul (by rw [Nat.mul_comm];exact hi)
   have hr:i % sz<sz:=Nat.mod_lt _ h0
   have h3:=(World.cells?_some (hf (i / sz) hq).1).2.2 (i % sz) hr
   have h4:=hg.2 (i / sz) (i % sz) hq hr
   rw [← e1] at h4
   simp only [Nat.zero_add] at h4
   rw [h4,← h3]
   have h5:(f (i / sz)).1[i % sz]? = some ((f (i / sz)).1[i % sz]'(by rw [hCl _ hq];exact hr)):=List.getElem?_eq_getElem _
   rw [h5] at h3
   rw [h3]
   rw [add_mk,add_mk] at h3
   obtain ⟨c1,T1,z1,hh1,hv1⟩:=cells_block h3
   simp only at hh hh1 hv1
   rw [hh] at hh1
   cases hh1
   rw [← hv1]
   congr 1
   omega
  ·rw [List.map_map]
   refine repE_of (e:=E) (fun i=>(f i).2) (fun i=>(f i).1) len 0 fun i hi=>?_
   simp only [Nat.zero_add]
   exact hp _ _ (hf i hi).2.2
theorem Opens.slice{n:Nat}{t e:TypeId}{α:Type}{c:α→List AV}{G:α→Prop}{E:α→AV}{sz bytes:Nat}[Inhabited α](ht:elm P t=some (e,sz,bytes))(h0:0<sz)(hb:0<bytes)
  (hL:reachBytes≤L sz) (hp:Packs L W c E sz) (h:Opens enc P W L n e c G) :
  Opens enc P W L (n+1) t (fun l:List α=>[.sl false sz (l.map E)]) (fun l=>(∀ a∈l,G a)∧l.length * bytes≤reachBytes):=by
 obtain ⟨i,hu,hi,hs,hy⟩:=elm_inv ht
 have e1:P.cellsOf e=sz:=by simp [Program.cellsOf,hi,hs]
 have e2:P.bytesOf e=bytes:=by simp [Program.bytesOf,hi,hy]
 have:=Opens.slice' (n:=n) hu e1 h0 (by omega) hL hp h
 rwa [e2] at this
def sfl(P:Program)(t:TypeId):Option (Nat×List (TypeId×Nat×Nat)) :=
 match P.underlying t with
 | some (.struct fs)=>some (P.cellsOf t,fs.toList.map fun f=>(f.type,f.offset,P.cellsOf f.type))
 | _=>none
theorem okWide_sfl{t:TypeId}{x:Nat×List (TypeId×Nat×Nat)}(ht:sfl P t=some x){r:Reach}{base:Nat}{v:Value}(h:Value.okWide P W r base t v):∃ cs,v=.agg cs:=by
 unfold sfl at ht
 split at ht
 case h_2=>cases ht
 case h_1 fs hu =>
  simp only [Value.okWide,hu] at h
  obtain ⟨cs,h1,_⟩:=h
  exact ⟨cs,h1⟩
def OpensFs{H:Type}(enc:TypeId×Value→H)(P:Program)(W:World)(L:Nat→Nat)(n:Nat)(fs:List (TypeId×Nat×Nat))(off tot:Nat){α:Type}(c:α→List AV)(G:α→Prop):Prop :=
 ∀ m,m≤n→∀ (cs:List Value) (xs:List (DataW H×List MemPlace)),cs.length=tot→xs.length=fs.length →
  (∀ (i:Nat) (t:TypeId) (o z:Nat),fs[i]? = some (t,o,z)→DataW.trod enc P W 0 (fun _=>true) true m t ((cs.drop o).take z)=xs[i]?) →
  (∀ k∈DataW.weightsEach P (fs.map (·.1)) (xs.map (·.1)),k≤reachBytes) →
  ∃ a,G a∧RepL L (fun b=>b<W.heap.size) W (c a) (cs.drop off) []
theorem OpensFs.nil{n off:Nat}:OpensFs enc P W L n [] off off (fun _:Unit=>[]) (fun _=>True):=by
 intro m hm cs xs hl hx _ _
 exact ⟨(),trivial,by simp [RepL,hl]⟩
theorem RepL.app{F:Nat→Prop}{w:World}:∀ {l l':List AV} {vs vs':List Value},RepL L F w l vs []→RepL L F w l' vs' []→RepL L F w (l++l') (vs++vs') []
 | [],l',vs,vs',h,h'=>by simp only [RepL] at h;simpa [h.1] using h'
 | x::l,l',vs,vs',h,h'=>by
  simp only [RepL,List.cons_append] at h ⊢
  obtain ⟨y,vs1,f1,f2,rfl,hf,hy,hr⟩:=h
  have:=List.append_eq_nil_iff.1 hf.symm
  obtain ⟨rfl,rfl⟩:=this
  exact ⟨y,vs1++vs',[],[],rfl,rfl,hy,RepL.app hr h'⟩
theorem OpensFs.cons{n off tot t sz:Nat}{fs:List (TypeId×Nat×Nat)}{α β:Type}{c:α→List AV}{G:α→Prop}{d:β→List AV}{K:β→Prop}
  (h:Opens enc P W L n t c G) (hr:OpensFs enc P W L n fs (off+sz) tot d K) :
  OpensFs enc P W L n ((t,off,sz)::fs) off tot (fun p:α×β=>c p.1++d p.2) (fun p=>G p.1∧K p.2):=by
 intro m hm cs xs hl hx ht hw
 match xs,hx with
 | x::xs,hx =>
 have h1:=ht 0 t off sz rfl
 simp only [List.getElem?_cons_zero] at h1
 simp only [List.map_cons,DataW.weightsEach,List.mem_append] at hw
 obtain ⟨a,ga,ra⟩:=h m hm _ x h1 fun k hk=>hw k (.inl hk)
 obtain ⟨b,kb,rb⟩:=hr m hm cs xs hl (by simpa using hx) (fun i t o z hg=>by have:=ht (i+1) t o z (by simpa using hg);simpa using this) fun k hk=>hw k (.inr hk)
 refine ⟨(a,b),⟨ga,kb⟩,?_⟩
 have e:cs.drop off=(cs.drop off).take sz++cs.drop (off+sz):=by
  rw [← List.drop_drop,List.take_append_drop]
 rw [e]
 exact RepL.app ra rb
theorem Opens.struct{n:Nat}{t:TypeId}{fl:List (TypeId×Nat×Nat)}{tot:Nat}{α β:Type}{c:α→List AV}{G:α→Prop}{d:β→List AV}{K:β→Prop}(ht:sfl P t=some (tot,fl))
  (h:OpensFs enc P W L n fl 0 tot c G) (g:α→β) (hg:∀ a,G a→K (g a)∧d (g a)=c a):Opens enc P W L (n+1) t d K:=by
 intro m hm cs x hx hw
 unfold sfl at ht
 split at ht
 case h_2=>cases ht
 case h_1 fs hu =>
 obtain ⟨htot,rfl⟩:=Prod.mk.inj (Option.some.inj ht)
 obtain ⟨xs,m',rfl,rfl,hl,hxl,hf⟩:=DataW.trod_struct hu hx
 simp only [DataW.weights,hu] at hw
 obtain ⟨a,ga,ra⟩:=h m' (by omega) cs xs (by rw [hl,htot]) (by simpa using hxl) (fun i t o z hi=>by
  simp only [List.getElem?_map,Option.map_eq_some_iff] at hi
  obtain ⟨f,h1,h2⟩:=hi
  obtain ⟨rfl,h3⟩:=Prod.mk.inj h2
  obtain ⟨rfl,rfl⟩:=Prod.mk.inj h3
  exact hf i f (by simpa using h1)) (by simpa [Function.comp_def] using hw)
 exact ⟨g a,(hg a ga).1,by rw [(hg a ga).2];simpa using ra⟩
end Go.Ab
