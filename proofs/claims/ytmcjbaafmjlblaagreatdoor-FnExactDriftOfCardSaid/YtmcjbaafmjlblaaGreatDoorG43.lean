/-
  Part of a proof: Df5, Cp1, Ct2.
-/
import Derived.Test.YtmcjbaafmjlblaaGreatDoorG31
import Derived.Test.YtmcjbaafmjlblaaGreatDoorG40
import Derived.Test.YtmcjbaafmjlblaaGreatDoorG41
import Derived.Test.YtmcjbaafmjlblaaGreatDoorG42
set_option linter.unusedSimpArgs false
set_option linter.unusedVariables false
namespace Go.Proofs.YtmcjbaafmjlblaaGreatDoor
open Go.Ab Go.Dt
set_option maxRecDepth 20000
set_option maxHeartbeats 4000000
attribute [local go_sem] frzL_str encSchemaM_frz encNodeM_frz schAll schOne nms_idx schF nodF ediAll ediOne
instance iEdO_i(op:Int)(x:GNode):Ctr lim Tryz.prog 121 [] [.v (.int .i64 op),.sl false 3 [.agg [.str x.fName,.str x.fValue,.sl false 3 (x.fKids.map (encNode false))]]] (.sl true 4 ((edO op [x]).map (encEdit true))) [] True:=by
 have:=iEdO_n (SizeOf.sizeOf [x]+1) op [x]
 rw [show List.map (encNode false) [x]=[.agg [.str x.fName,.str x.fValue,.sl false 3 (x.fKids.map (encNode false))]] by rw [List.map_cons,List.map_nil,encNode_eq]] at this
 exact ⟨en121,fun _=>this.out (Nat.lt_succ_self _)⟩
theorem iDif_n:∀ (n:Nat) (s:List GSchema) (a b:List GNode),Ctr lim Tryz.prog 69 [] [.sl false 19 (s.map (encSchema false)),.sl false 3 (a.map (encNode false)),.sl false 3 (b.map (encNode false))] (.sl true 4 ((dif s a b).map (encEdit true))) [] (SizeOf.sizeOf b<n∧gdS s∧wtS s≤1048576∧(∀ x∈a,okX (dk s) x)∧(∀ x∈b,okX (dk s) x)∧wt a≤1048576∧wt b≤1048576)
 | 0,_,_,b=>⟨en69,fun h=>absurd h.1 (Nat.not_lt_zero _)⟩
 | n+1,s,a,b=>by
  have ih:=iDif_n n
  refine Ctr.of_body en69 Tryz.func69 rfl rfl fun hp=>(?_);rw [Tryz.ntmps69]
  have gOn:=GrOn.on
  obtain ⟨hs,hg,h1,ha,hb,hwa,hwb⟩:=hp
  have hc:=cnt_wtS s
  have hla:a.length≤1048576:=by unfold wt at hwa;omega
  have hlb:b.length≤1048576:=by unfold wt at hwb;omega
  (refine vK ?_;with_reducible repeat' first|exact Le.l|refine Sw ?_ ?_|intro h)
  refine AW.loopV [7,21] [0,1,2,19,20] (fun m xs o=>∃ k:Nat,xs=[.sl true 4 (((a.take k).flatMap (dfA s b)).map (encEdit true)),.v (.int .i64 k)]∧o=[]∧m=a.length - k∧k≤a.length) a.length [] trivial ⟨0,?_,rfl,rfl,?_⟩ ?_
  ·rfl
  ·omega
  rintro m xs o ⟨k,rfl,rfl,rfl,hk⟩
  have hlen:=flat_take_le (dfA_le s b) a k
  (refine vK ?_;with_reducible repeat' first|exact Le.l|refine Sw ?_ ?_|intro h)
  (refine AW.i rfl (fun h=>?_) (fun h=>?_)<;>try simp only [hC,reduceCtorEq] at h)
  ·have hlk:=h
   have hx:=ha _ (at_mem h)
   have hx0:=hx.1
   have hkb:=okN_key hx.2
   have hk3:=gd_keys hg (okX_at hx).2
   have hfs:=flat_step (f:=dfA s b) h
   clear h
   haveI fz:∀ (sz:Nat) (x:AV) (l:List AV) (C:List Nat) (K:AV→List Nat→Prop),Rl (bsK sz (x::l) C (K:=⟨K⟩)) (K (.sl false sz (AV.frzL (x::l))) C):=fun _ _ _ _ _=>⟨.inr⟩
   (refine vK ?_;with_reducible repeat' first|exact Le.l|refine Sw ?_ ?_|intro h)
   clear fz
   (refine AW.i rfl (fun h=>?_) (fun h=>?_)<;>try simp only [hC,reduceCtorEq] at h)
   ·(refine vU ?_;with_reducible repeat' first|exact Le.l|refine Sw ?_ ?_|intro h)
    exact ⟨_,[_,_],_,by omega,⟨k+1,by rw [hfs,dfA_y h,List.append_nil],rfl,rfl,by omega⟩,rfl,by simp (maxSteps:=2000000) (disch:=omega) only [go_sem]⟩
   have hnf:¬ 0≤fnd (nd s (at_ a k).fName) b (at_ a k):=by show ¬ 0≤fnd (at_ (dk s) (idx (nmP (at_ a k).fName) (dk s)).toNat) b (at_ a k);omega
   clear h
   (refine vN ?_;with_reducible repeat' first|exact Le.l|refine Sw ?_ ?_|intro h)
   first|refine AW.sdrwnA ?_|refine AW.drwnA ?_
   (refine vN ?_;with_reducible repeat' first|exact Le.l|refine Sw ?_ ?_|intro h)
   (refine vU ?_;with_reducible repeat' first|exact Le.l|refine Sw ?_ ?_|intro h)
   ·exact ⟨_,[_,_],_,by omega,⟨k+1,by rw [hfs,dfA_4 hnf h,List.map_append,List.map_cons,List.map_nil,encEdit_eq];try rfl,rfl,rfl,by omega⟩,rfl,by simp (maxSteps:=2000000) (disch:=omega) only [go_sem]⟩
   ·exact ⟨_,[_,_],_,by omega,⟨k+1,by rw [hfs,dfA_n hnf h,List.map_append,List.map_cons,List.map_nil,encEdit_eq];try rfl,rfl,rfl,by omega⟩,rfl,by simp (maxSteps:=2000000) (disch:=omega) only [go_sem]⟩
  ·have hal:a.take k=a:=List.take_of_length_le (by omega)
   rw [hal]
   have hla2:=flat_len_le (dfA_le s b) a
   clear hlen
   clear h
   (refine vK ?_;with_reducible repeat' first|exact Le.l|refine Sw ?_ ?_|intro h)
   refine AW.loopW [7,57] [0,1,55,56] (fun m xs o=>∃ k:Nat,xs=[.sl true 4 ((a.flatMap (dfA s b)++(b.take k).flatMap (dfY s a)).map (encEdit true)),.v (.int .i64 k)]∧o=[]∧m=b.length - k∧k≤b.length) b.length [] trivial ⟨0,?_,rfl,rfl,?_⟩ ?_
   ·rw [List.take_zero,List.flatMap_nil,List.append_nil];rfl
   ·omega
   rintro m xs o ⟨k,rfl,rfl,rfl,hk⟩
   have hlen:=flat_take_le (dfY_le s a) b k
   have hlen2:(a.flatMap (dfA s b)++(b.take k).flatMap (dfY s a)).length≤a.length+k:=by rw [List.length_append];omega
   (refine vK ?_;with_reducible repeat' first|exact Le.l|refine Sw ?_ ?_|intro h)
   (refine AW.i rfl (fun h=>?_) (fun h=>?_)<;>try simp only [hC,reduceCtorEq] at h)
   ·have hlk:=h
    have hy:=hb _ (at_mem h)
    have hy0:=hy.1
    have hkb:=okN_key hy.2
    have hk3:=gd_keys hg (okX_at hy).2
    have hfs:=flat_step (f:=dfY s a) h
    clear h
    haveI fz:∀ (sz:Nat) (x:AV) (l:List AV) (C:List Nat) (K:AV→List Nat→Prop),Rl (bsK sz (x::l) C (K:=⟨K⟩)) (K (.sl false sz (AV.frzL (x::l))) C):=fun _ _ _ _ _=>⟨.inr⟩
    have he1:(edO 3 [(at_ b k)]).length=1:=edO_len 3 [(at_ b k)]
    (refine vK ?_;with_reducible repeat' first|exact Le.l|refine Sw ?_ ?_|intro h)
    (refine AW.i rfl (fun h=>?_) (fun h=>?_)<;>try simp only [hC,reduceCtorEq] at h)
    ·(refine vU ?_;with_reducible repeat' first|exact Le.l|refine Sw ?_ ?_|intro h)
     refine Imp.id ?_
     simp (maxSteps:=2000000) (disch:=omega) only [go_sem]
     exact ⟨_,[_,_],_,by omega,⟨k+1,by simp only [hfs,dfY_c h,List.map_append,List.append_assoc],rfl,rfl,by omega⟩,rfl,by simp (maxSteps:=2000000) (disch:=omega) only [go_sem]⟩
    clear fz
    have hnf:¬ fnd (nd s (at_ b k).fName) a (at_ b k)<0:=by show ¬ fnd (at_ (dk s) (idx (nmP (at_ b k).fName) (dk s)).toNat) a (at_ b k)<0;omega
    have hnf2:0≤fnd (at_ (dk s) (idx (nmP (at_ b k).fName) (dk s)).toNat) a (at_ b k):=by omega
    clear h
    have hfo:=fnd_ok (s:=s) (a:=a) (y:=(at_ b k)) (by omega) hy
    dsimp only [nd] at hfo
    obtain ⟨hf1,hf2,hf3⟩:=hfo
    (refine vK ?_;with_reducible repeat' first|exact Le.l|refine Sw ?_ ?_|intro h)
    (refine AW.i rfl (fun h=>?_) (fun h=>?_)<;>try simp only [hC,reduceCtorEq] at h)
    ·(refine vU ?_;with_reducible repeat' first|exact Le.l|refine Sw ?_ ?_|intro h)
     refine Imp.nilApp 7 [.v (.int .i64 2),.str (at_ b k).fName,.str (at_ b k).fValue] [] true 4 (by rfl) ?_
     simp (maxSteps:=2000000) (disch:=omega) only [go_sem]
     exact ⟨_,[_,_],_,by omega,⟨k+1,by simp only [hfs,dfY_r hnf h,List.map_append,List.append_assoc,List.map_cons,List.map_nil,encEdit_eq];try rfl,rfl,rfl,by omega⟩,rfl,by simp (maxSteps:=2000000) (disch:=omega) only [go_sem]⟩
    have hnr:¬ (((nd s (at_ b k).fName).fKind=3)∧¬ (at_ a (fnd (nd s (at_ b k).fName) a (at_ b k)).toNat).fValue=(at_ b k).fValue):=by rintro ⟨c,d⟩;exact d (h c)
    clear h
    (refine vK ?_;with_reducible repeat' first|exact Le.l|refine Sw ?_ ?_|intro h)
    (refine AW.i rfl (fun h=>?_) (fun h=>?_)<;>try simp only [hC,reduceCtorEq] at h)
    ·have hxa:=ha _ hf3
     have hnd:nd s (at_ a (fnd (at_ (dk s) (idx (nmP (at_ b k).fName) (dk s)).toNat) a (at_ b k)).toNat).fName=(at_ (dk s) (idx (nmP (at_ b k).fName) (dk s)).toNat):=by rw [nd,hf2]
     have hok1:=kid_ok hxa (by rw [hnd];omega)
     have hok2:=kid_ok hy (by show ¬ ((at_ (dk s) (idx (nmP (at_ b k).fName) (dk s)).toNat).fKind=3∨(at_ (dk s) (idx (nmP (at_ b k).fName) (dk s)).toNat).fKind=4);omega)
     rw [hnd] at hok1
     have hgk:=(gd_kid hg (okX_at hy).2).1
     have hwk:=dk_wt _ _ (okX_at hy).2
     have hwx:=wt_kid (l:=a) hf1
     have hwy:=wt_kid (l:=b) hlk
     have hsz:=GNode.kids_lt (at_mem hlk)
     have hdl:=dif_len (at_ (dk s) (idx (nmP (at_ b k).fName) (dk s)).toNat).fKids (at_ a (fnd (at_ (dk s) (idx (nmP (at_ b k).fName) (dk s)).toNat) a (at_ b k)).toNat).fKids (at_ b k).fKids
     (refine vN ?_;with_reducible repeat' first|exact Le.l|refine Sw ?_ ?_|intro h)
     refine Z ?_
     intro K hK
     simp (maxSteps:=2000000) (disch:=omega) only [go_sem]
     refine Y ?_
     simp (maxSteps:=2000000) (disch:=omega) only [go_sem]
     refine And.intro ⟨hkb,hk3⟩ ?_
     refine Y ?_
     simp (maxSteps:=2000000) (disch:=omega) only [go_sem]
     refine And.intro ⟨by omega,hgk,by omega,hok1,hok2,by omega,by omega⟩ ?_
     have hxl:(at_ a (fnd (at_ (dk s) (idx (nmP (at_ b k).fName) (dk s)).toNat) a (at_ b k)).toNat).fKids.length≤wt (at_ a (fnd (at_ (dk s) (idx (nmP (at_ b k).fName) (dk s)).toNat) a (at_ b k)).toNat).fKids:=by unfold wt;omega
     have hyl:(at_ b k).fKids.length≤wt (at_ b k).fKids:=by unfold wt;omega
     have hkl:=kyE_le (x:=(at_ b k)) hk3
     refine And.intro ⟨by omega,by omega,by omega⟩ (And.intro (by decide) (And.intro (by decide) ?_))
     refine Y ?_
     simp (maxSteps:=2000000) (disch:=omega) only [go_sem]
     refine And.intro ⟨by omega,by omega,by omega⟩ ?_
     refine hK _ _ ⟨Ct,?_⟩
     clear hK K
     intro K hK
     simp (maxSteps:=2000000) (disch:=omega) only [go_sem]
     refine hK _ _ ?_
     clear hK K
     (refine vU ?_;with_reducible repeat' first|exact Le.l|refine Sw ?_ ?_|intro h)
     refine Imp.id ?_
     simp (maxSteps:=2000000) (disch:=omega) only [go_sem]
     exact ⟨_,[_,_],_,by omega,⟨k+1,by simp only [hfs,dfY_m hnf h,List.map_append,List.append_assoc,List.map_cons,List.map_nil,encEdit_eq,GEdit.fOp,GEdit.fName,GEdit.fValue,GEdit.fKids],rfl,rfl,by omega⟩,rfl,by simp (maxSteps:=2000000) (disch:=omega) only [go_sem]⟩
    (refine vU ?_;with_reducible repeat' first|exact Le.l|refine Sw ?_ ?_|intro h)
    refine Imp.id ?_
    simp (maxSteps:=2000000) (disch:=omega) only [go_sem]
    exact ⟨_,[_,_],_,by omega,⟨k+1,by simp only [hfs,dfY_n hnf hnr (by show ¬ (((at_ (dk s) (idx (nmP (at_ b k).fName) (dk s)).toNat).fKind=1∨(at_ (dk s) (idx (nmP (at_ b k).fName) (dk s)).toNat).fKind=2)∧_=false);grind),List.append_nil],rfl,rfl,by omega⟩,rfl,by simp (maxSteps:=2000000) (disch:=omega) only [go_sem]⟩
   ·(refine vU ?_;with_reducible repeat' first|exact Le.l|refine Sw ?_ ?_|intro h)
    rw [dif_eq,List.take_of_length_le (by omega)]
end Go.Proofs.YtmcjbaafmjlblaaGreatDoor
namespace Go.Proofs.YtmcjbaafmjlblaaGreatDoor
open Go.Ab Go.Dt
set_option maxRecDepth 20000
set_option maxHeartbeats 4000000
end Go.Proofs.YtmcjbaafmjlblaaGreatDoor
namespace Go.Dt
open Go Go.Ab
section
variable {d : List GSchema} {x : GNode} {cs ks : List Str}
end
theorem sliceOne{α:Type}[Inhabited α]{f:α→AV}{l:List α}{k:Nat}(h:k<l.length):List.drop k (List.take (k+1) (l.map f))=[f (at_ l k)]:=by
 rw [← List.map_take,take_at' h,List.map_append,List.drop_append_of_le_length (by rw [List.length_map,List.length_take];omega),List.drop_of_length_le (by rw [List.length_map,List.length_take];omega)];rfl
end Go.Dt
