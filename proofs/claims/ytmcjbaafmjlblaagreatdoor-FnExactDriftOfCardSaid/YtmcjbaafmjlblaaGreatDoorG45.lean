/-
  Part of a proof: Df6, MmY, Rs6, MmE, Df7.
-/
import Derived.Test.YtmcjbaafmjlblaaGreatDoorG3
import Derived.Test.YtmcjbaafmjlblaaGreatDoorG32
import Derived.Test.YtmcjbaafmjlblaaGreatDoorG36
import Derived.Test.YtmcjbaafmjlblaaGreatDoorG41
import Derived.Test.YtmcjbaafmjlblaaGreatDoorG44
set_option linter.unusedSimpArgs false
set_option linter.unusedVariables false
namespace Go.Proofs.YtmcjbaafmjlblaaGreatDoor
open Go.Ab Go.Dt
set_option maxRecDepth 20000
set_option maxHeartbeats 4000000
attribute [local go_sem] frzL_str encSchemaM_frz encNodeM_frz schAll schOne nms_idx schF nodF ediAll ediOne sliceOne
instance sEdO_i(op:Int)(x:GNode):Ctr lim Tryz.prog 141 [] [.v (.int .i64 op),.sl false 3 [.agg [.str x.fName,.str x.fValue,.sl false 3 (x.fKids.map (encNode false))]]] (.sl true 4 ((edO op [x]).map (encEdit true))) [] True:=by
 have:=sEdO_n (SizeOf.sizeOf [x]+1) op [x]
 rw [show List.map (encNode false) [x]=[.agg [.str x.fName,.str x.fValue,.sl false 3 (x.fKids.map (encNode false))]] by rw [List.map_cons,List.map_nil,encNode_eq]] at this
 exact ⟨en141,fun _=>this.out (Nat.lt_succ_self _)⟩
theorem sDif_n:∀ (n:Nat) (s:List GSchema) (a b:List GNode),Ctr lim Tryz.prog 103 [] [.sl false 19 (s.map (encSchema false)),.sl false 3 (a.map (encNode false)),.sl false 3 (b.map (encNode false))] (.sl true 4 ((dif s a b).map (encEdit true))) [] (SizeOf.sizeOf b<n∧gdS s∧wtS s≤1048576∧(∀ x∈a,okX (dk s) x)∧(∀ x∈b,okX (dk s) x)∧wt a≤1048576∧wt b≤1048576)
 | 0,_,_,b=>⟨en103,fun h=>absurd h.1 (Nat.not_lt_zero _)⟩
 | n+1,s,a,b=>by
  have ih:=sDif_n n
  refine Ctr.of_body en103 Tryz.func103 rfl rfl fun hp=>(?_);rw [Tryz.ntmps103]
  have gOn:=GrOn.on
  obtain ⟨hs,hg,h1,ha,hb,hwa,hwb⟩:=hp
  have hc:=cnt_wtS s
  have hla:a.length≤1048576:=by unfold wt at hwa;omega
  have hlb:b.length≤1048576:=by unfold wt at hwb;omega
  (refine vK ?_;with_reducible repeat' first|exact Le.l|refine Sw ?_ ?_|intro h)
  refine AW.loopV [8,9] [1,2,7] (fun m xs o=>∃ k:Nat,xs=[.sl true 4 (((a.take k).flatMap (dfA s b)).map (encEdit true)),.v (.int .i64 k)]∧o=[]∧m=a.length - k∧k≤a.length) a.length [] trivial ⟨0,?_,rfl,rfl,?_⟩ ?_
  ·rfl
  ·omega
  rintro m xs o ⟨k,rfl,rfl,rfl,hk⟩
  have hlen:=flat_take_le (dfA_le s b) a k
  (refine vK ?_;with_reducible repeat' first|exact Le.l|refine Sw ?_ ?_|intro h)
  (refine AW.i rfl (fun h=>?_) (fun h=>?_)<;>try simp only [hC,reduceCtorEq] at h)
  ·have hlk:=h
   have hx:=ha _ (at_mem h)
   have hx0:=hx.1
   have hx1:=idx_lt (p:=nmP (at_ a k).fName) (dk s)
   have hnm:(at_ (dk s) (idx (nmP (at_ a k).fName) (dk s)).toNat).fName=(at_ a k).fName:=(okX_at hx).1
   have hkb:=okN_key hx.2
   have hk3:=gd_keys hg (okX_at hx).2
   have hkl:=ky_all (s:=s) hb hx
   have hfs:=flat_step (f:=dfA s b) h
   clear h
   (refine vK ?_;with_reducible repeat' first|exact Le.l|refine Sw ?_ ?_|intro h)
   (refine AW.i rfl (fun h=>?_) (fun h=>?_)<;>try simp only [hC,reduceCtorEq] at h)
   ·(refine vU ?_;with_reducible repeat' first|exact Le.l|refine Sw ?_ ?_|intro h)
    exact ⟨_,[_,_],_,by omega,⟨k+1,by rw [hfs,dfA_y h,List.append_nil],rfl,rfl,by omega⟩,rfl,by simp (maxSteps:=2000000) (disch:=omega) only [go_sem]⟩
   have hnf:¬ 0≤fnd (nd s (at_ a k).fName) b (at_ a k):=by show ¬ 0≤fnd (at_ (dk s) (idx (nmP (at_ a k).fName) (dk s)).toNat) b (at_ a k);omega
   clear h
   (refine vN ?_;with_reducible repeat' first|exact Le.l|refine Sw ?_ ?_|intro h)
   first|refine AW.sdrwnA ?_|refine AW.drwnA ?_
   (refine vN ?_;with_reducible repeat' first|exact Le.l|refine Sw ?_ ?_|intro h)
   rw [hnm]
   (refine vU ?_;with_reducible repeat' first|exact Le.l|refine Sw ?_ ?_|intro h)
   ·exact ⟨_,[_,_],_,by omega,⟨k+1,by simp only [hfs,dfA_4 hnf h,List.map_append,List.append_assoc,List.map_cons,List.map_nil,encEdit_eq,GEdit.fOp,GEdit.fName,GEdit.fValue,GEdit.fKids],rfl,rfl,by omega⟩,rfl,by simp (maxSteps:=2000000) (disch:=omega) only [go_sem]⟩
   ·exact ⟨_,[_,_],_,by omega,⟨k+1,by simp only [hfs,dfA_n hnf h,List.map_append,List.append_assoc,List.map_cons,List.map_nil,encEdit_eq,GEdit.fOp,GEdit.fName,GEdit.fValue,GEdit.fKids],rfl,rfl,by omega⟩,rfl,by simp (maxSteps:=2000000) (disch:=omega) only [go_sem]⟩
  ·have hal:a.take k=a:=List.take_of_length_le (by omega)
   rw [hal]
   have hla2:=flat_len_le (dfA_le s b) a
   clear hlen
   clear h
   (refine vK ?_;with_reducible repeat' first|exact Le.l|refine Sw ?_ ?_|intro h)
   refine AW.loopW [8,12] [1,2,7] (fun m xs o=>∃ k:Nat,xs=[.sl true 4 ((a.flatMap (dfA s b)++(b.take k).flatMap (dfY s a)).map (encEdit true)),.v (.int .i64 k)]∧o=[]∧m=b.length - k∧k≤b.length) b.length [] trivial ⟨0,?_,rfl,rfl,?_⟩ ?_
   ·rw [List.take_zero,List.flatMap_nil,List.append_nil];rfl
   ·omega
   rintro m xs o ⟨k,rfl,rfl,rfl,hk⟩
   have hlen:=flat_take_le (dfY_le s a) b k
   have hlen2:(a.flatMap (dfA s b)++(b.take k).flatMap (dfY s a)).length≤a.length+k:=by rw [List.length_append];omega
   (refine vK ?_;with_reducible repeat' first|exact Le.l|refine Sw ?_ ?_|intro h)
   (refine AW.i rfl (fun h=>?_) (fun h=>?_)<;>try simp only [hC,reduceCtorEq] at h)
   ·have hlk:=h
    have hy:=hb _ (at_mem h)
    have hy0:=hy.1
    have hy1:=idx_lt (p:=nmP (at_ b k).fName) (dk s)
    have hnm:(at_ (dk s) (idx (nmP (at_ b k).fName) (dk s)).toNat).fName=(at_ b k).fName:=(okX_at hy).1
    have hkb:=okN_key hy.2
    have hk3:=gd_keys hg (okX_at hy).2
    have hkl:=ky_all (s:=s) ha hy
    have hfs:=flat_step (f:=dfY s a) h
    have he1:(edO 3 [(at_ b k)]).length=1:=edO_len 3 [(at_ b k)]
    clear h
    (refine vK ?_;with_reducible repeat' first|exact Le.l|refine Sw ?_ ?_|intro h)
    rename Nat=>b5
    (refine AW.i rfl (fun h=>?_) (fun h=>?_)<;>try simp only [hC,reduceCtorEq] at h)
    ·(refine vU ?_;with_reducible repeat' first|exact Le.l|refine Sw ?_ ?_|intro h)
     refine Imp.id ?_
     simp (maxSteps:=2000000) (disch:=omega) only [go_sem]
     exact ⟨_,[_,_],_,by omega,⟨k+1,by simp only [hfs,dfY_c h,List.map_append,List.append_assoc],rfl,rfl,by omega⟩,rfl,by simp (maxSteps:=2000000) (disch:=omega) only [go_sem]⟩
    have hnf:¬ fnd (nd s (at_ b k).fName) a (at_ b k)<0:=by show ¬ fnd (at_ (dk s) (idx (nmP (at_ b k).fName) (dk s)).toNat) a (at_ b k)<0;omega
    have hnf2:0≤fnd (at_ (dk s) (idx (nmP (at_ b k).fName) (dk s)).toNat) a (at_ b k):=by omega
    clear h
    have hfo:=fnd_ok (s:=s) (a:=a) (y:=(at_ b k)) (by omega) hy
    dsimp only [nd] at hfo
    obtain ⟨hf1,hf2,hf3⟩:=hfo
    (refine vK ?_;with_reducible repeat' first|exact Le.l|refine Sw ?_ ?_|intro h)
    (refine AW.i rfl (fun h=>?_) (fun h=>?_)<;>try simp only [hC,reduceCtorEq] at h)
    ·rw [hnm]
     (refine vU ?_;with_reducible repeat' first|exact Le.l|refine Sw ?_ ?_|intro h)
     refine Imp.nilApp 8 [.v (.int .i64 2),.str (at_ b k).fName,.str (at_ b k).fValue] [] true 4 (by rfl) ?_
     simp (maxSteps:=2000000) (disch:=omega) only [go_sem]
     exact ⟨_,[_,_],_,by omega,⟨k+1,by simp only [hfs,dfY_r hnf h,List.map_append,List.append_assoc,List.map_cons,List.map_nil,encEdit_eq,GEdit.fOp,GEdit.fName,GEdit.fValue,GEdit.fKids],rfl,rfl,by omega⟩,rfl,by simp (maxSteps:=2000000) (disch:=omega) only [go_sem]⟩
    have hnr:¬ (((nd s (at_ b k).fName).fKind=3)∧¬ (at_ a (fnd (nd s (at_ b k).fName) a (at_ b k)).toNat).fValue=(at_ b k).fValue):=by rintro ⟨c,d⟩;exact d (h c)
    clear h
    (refine vK ?_;with_reducible repeat' first|exact Le.l|refine Sw ?_ ?_|intro h)
    (refine AW.i rfl (fun h=>?_) (fun h=>?_)<;>try simp only [hC,reduceCtorEq] at h)
    ·have hm:=h
     have hxa:=ha _ hf3
     have hnd:nd s (at_ a (fnd (at_ (dk s) (idx (nmP (at_ b k).fName) (dk s)).toNat) a (at_ b k)).toNat).fName=(at_ (dk s) (idx (nmP (at_ b k).fName) (dk s)).toNat):=by rw [nd,hf2]
     have hok1:=kid_ok hxa (by rw [hnd];omega)
     have hok2:=kid_ok hy (by show ¬ ((at_ (dk s) (idx (nmP (at_ b k).fName) (dk s)).toNat).fKind=3∨(at_ (dk s) (idx (nmP (at_ b k).fName) (dk s)).toNat).fKind=4);omega)
     rw [hnd] at hok1
     have hgk:=(gd_kid hg (okX_at hy).2).1
     have hwk:=dk_wt _ _ (okX_at hy).2
     have hwx:=wt_kid (l:=a) hf1
     have hwy:=wt_kid (l:=b) hlk
     have hsz:=GNode.kids_lt (at_mem hlk)
     have hdl:=dif_len (at_ (dk s) (idx (nmP (at_ b k).fName) (dk s)).toNat).fKids (at_ a (fnd (at_ (dk s) (idx (nmP (at_ b k).fName) (dk s)).toNat) a (at_ b k)).toNat).fKids (at_ b k).fKids
     have hxl:(at_ a (fnd (at_ (dk s) (idx (nmP (at_ b k).fName) (dk s)).toNat) a (at_ b k)).toNat).fKids.length≤wt (at_ a (fnd (at_ (dk s) (idx (nmP (at_ b k).fName) (dk s)).toNat) a (at_ b k)).toNat).fKids:=by unfold wt;omega
     have hyl:(at_ b k).fKids.length≤wt (at_ b k).fKids:=by unfold wt;omega
     have hkl:=kyE_le (x:=(at_ b k)) hk3
     (refine vN ?_;with_reducible repeat' first|exact Le.l|refine Sw ?_ ?_|intro h)
     first|refine AW.sdrwnA ?_|refine AW.drwnA ?_
     (refine vN ?_;with_reducible repeat' first|exact Le.l|refine Sw ?_ ?_|intro h)
     rw [hnm]
     rename Nat=>b6
     refine AW.imp (Imp.unfoldO2 (b0:=b6) (k:=3) (sz:=4) (l:=(kyE (at_ (dk s) (idx (nmP (at_ b k).fName) (dk s)).toNat) (at_ b k)).map (encEdit true)) (O_eq _ _ _) rfl (map_elem (fun x=>by rw [encEdit_eq];rfl) _) (fun g hg'=>?_) (fun hnil=>?_))
     ·have hb1:=hg'.nf
      simp only [go_sem] at hb1
      simp only [List.set_cons_zero,List.set_cons_succ,List.length_map]
      (refine vN ?_;with_reducible repeat' first|exact Le.l|refine Sw ?_ ?_|intro h)
      refine Z ?_
      intro K hK
      simp (maxSteps:=2000000) (disch:=omega) only [go_sem]
      refine Y ?_
      simp (maxSteps:=2000000) (disch:=omega) only [go_sem]
      refine And.intro ⟨by omega,hgk,by omega,hok1,hok2,by omega,by omega⟩ ?_
      refine hK _ _ ⟨Ct,?_⟩
      clear hK K
      intro K hK
      (refine vN ?_;with_reducible repeat' first|exact Le.l|refine Sw ?_ ?_|intro h)
      ·rw [flat_elem_len (sz:=4) (map_elem (fun x=>by rw [encEdit_eq];rfl) _),List.length_map]
      rename Nat=>b7
      refine AW.imp (Imp.foldO (b0:=b6) (k:=3) (b:=b7) (sz:=4) (len:=(kyE (at_ (dk s) (idx (nmP (at_ b k).fName) (dk s)).toNat) (at_ b k)).length+(dif (at_ (dk s) (idx (nmP (at_ b k).fName) (dk s)).toNat).fKids (at_ a (fnd (at_ (dk s) (idx (nmP (at_ b k).fName) (dk s)).toNat) a (at_ b k)).toNat).fKids (at_ b k).fKids).length) (cells0:=[.v (.int .i64 1),.str (at_ b k).fName,.str [],.arr b7 0 ((kyE (at_ (dk s) (idx (nmP (at_ b k).fName) (dk s)).toNat) (at_ b k)).length+(dif (at_ (dk s) (idx (nmP (at_ b k).fName) (dk s)).toNat).fKids (at_ a (fnd (at_ (dk s) (idx (nmP (at_ b k).fName) (dk s)).toNat) a (at_ b k)).toNat).fKids (at_ b k).fKids).length) 4]) (cells:=((kyE (at_ (dk s) (idx (nmP (at_ b k).fName) (dk s)).toNat) (at_ b k)).map (encEdit true)).flatMap AV.cells++((dif (at_ (dk s) (idx (nmP (at_ b k).fName) (dk s)).toNat).fKids (at_ a (fnd (at_ (dk s) (idx (nmP (at_ b k).fName) (dk s)).toNat) a (at_ b k)).toNat).fKids (at_ b k).fKids).map (encEdit true)).flatMap AV.cells) (l:=((kyE (at_ (dk s) (idx (nmP (at_ b k).fName) (dk s)).toNat) (at_ b k))++(dif (at_ (dk s) (idx (nmP (at_ b k).fName) (dk s)).toNat).fKids (at_ a (fnd (at_ (dk s) (idx (nmP (at_ b k).fName) (dk s)).toNat) a (at_ b k)).toNat).fKids (at_ b k).fKids)).map (encEdit true)) gO rfl gO (by grind) (by rw [List.length_map,List.length_append]) (by rw [List.map_append,List.flatMap_append,List.take_of_length_le];rw [List.length_append,flat_elem_len (sz:=4) (map_elem (fun x=>by rw [encEdit_eq];rfl) _),flat_elem_len (sz:=4) (map_elem (fun x=>by rw [encEdit_eq];rfl) _),List.length_map,List.length_map];omega) (map_elem (fun x=>by rw [encEdit_eq];rfl) _) ?_)
      simp only [List.set_cons_zero,List.set_cons_succ]
      (refine vU ?_;with_reducible repeat' first|exact Le.l|refine Sw ?_ ?_|intro h)
      refine Imp.id ?_
      simp (maxSteps:=2000000) (disch:=omega) only [go_sem]
      exact ⟨_,[_,_],_,by omega,⟨k+1,by simp only [hfs,dfY_m hnf hm,List.map_append,List.append_assoc,List.map_cons,List.map_nil,encEdit_eq,GEdit.fOp,GEdit.fName,GEdit.fValue,GEdit.fKids];try rfl,rfl,rfl,by omega⟩,rfl,by simp (maxSteps:=2000000) (disch:=omega) only [go_sem]⟩
     ·simp only [List.set_cons_zero,List.set_cons_succ]
      have hkn:(kyE (at_ (dk s) (idx (nmP (at_ b k).fName) (dk s)).toNat) (at_ b k))=[]:=by simpa using hnil
      (refine vN ?_;with_reducible repeat' first|exact Le.l|refine Sw ?_ ?_|intro h)
      refine Z ?_
      intro K hK
      simp (maxSteps:=2000000) (disch:=omega) only [go_sem]
      refine Y ?_
      simp (maxSteps:=2000000) (disch:=omega) only [go_sem]
      refine And.intro ⟨by omega,hgk,by omega,hok1,hok2,by omega,by omega⟩ ?_
      refine hK _ _ ⟨Ct,?_⟩
      clear hK K
      intro K hK
      (refine vN ?_;with_reducible repeat' first|exact Le.l|refine Sw ?_ ?_|intro h)
      (refine vU ?_;with_reducible repeat' first|exact Le.l|refine Sw ?_ ?_|intro h)
      refine Imp.id ?_
      simp (maxSteps:=2000000) (disch:=omega) only [go_sem]
      exact ⟨_,[_,_],_,by omega,⟨k+1,by simp only [hfs,dfY_m hnf hm,nd,hkn,List.nil_append,List.map_append,List.append_assoc,List.map_cons,List.map_nil,encEdit_eq,GEdit.fOp,GEdit.fName,GEdit.fValue,GEdit.fKids];try rfl,rfl,rfl,by omega⟩,rfl,by simp (maxSteps:=2000000) (disch:=omega) only [go_sem]⟩
    (refine vU ?_;with_reducible repeat' first|exact Le.l|refine Sw ?_ ?_|intro h)
    refine Imp.id ?_
    simp (maxSteps:=2000000) (disch:=omega) only [go_sem]
    exact ⟨_,[_,_],_,by omega,⟨k+1,by simp only [hfs,dfY_n hnf hnr (by show ¬ (((at_ (dk s) (idx (nmP (at_ b k).fName) (dk s)).toNat).fKind=1∨(at_ (dk s) (idx (nmP (at_ b k).fName) (dk s)).toNat).fKind=2)∧_=false);grind),List.append_nil],rfl,rfl,by omega⟩,rfl,by simp (maxSteps:=2000000) (disch:=omega) only [go_sem]⟩
   ·(refine vU ?_;with_reducible repeat' first|exact Le.l|refine Sw ?_ ?_|intro h)
    rw [dif_eq,List.take_of_length_le (by omega)]
end Go.Proofs.YtmcjbaafmjlblaaGreatDoor
namespace Go.Dt
open Go.Ab
def stRange(x:GRange)(k:Int):GRange×Int:=(⟨k,k+1⟩,k+1+1)
theorem stRange_ge(x:GRange)(k:Int):k+1≤(stRange x k).2:=by
 unfold stRange;simp only;omega
def stTest(x:GTest)(k:Int):GTest×Int:=(⟨mkT k,mkT (k+1)⟩,k+1+1)
theorem stTest_ge(x:GTest)(k:Int):k+1≤(stTest x k).2:=by
 unfold stTest;simp only;omega
def stStep(x:GStep)(k:Int):GStep×Int:=(⟨mkT k,(mkL stTest x.fTests (k+1)).1⟩,(mkL stTest x.fTests (k+1)).2)
theorem stStep_ge(x:GStep)(k:Int):k+1≤(stStep x k).2:=by
 have g0:=mkL_up stTest_ge x.fTests (k+1)
 unfold stStep;simp only;omega
mutual
def stExpr:GExpr→Int→GExpr×Int
 | .mk fOp fNum fText fPath fKids,k=>(.mk k (k+1) (mkT (k+1+1)) (⟨((k+1+1+1).tmod 3 == 0),k+1+1+1+1,(mkL stStep fPath.fSteps (k+1+1+1+1+1)).1⟩) ((stExprs fKids ((mkL stStep fPath.fSteps (k+1+1+1+1+1)).2)).1),(stExprs fKids ((mkL stStep fPath.fSteps (k+1+1+1+1+1)).2)).2)
def stExprs:List GExpr→Int→List GExpr×Int
 | [],k=>([],k)
 | x::xs,k=>((stExpr x k).1::(stExprs xs (stExpr x k).2).1,(stExprs xs (stExpr x k).2).2)
end
theorem stExprs_eq:∀ (l:List GExpr) (k:Int),stExprs l k=mkL stExpr l k
 | [],k=>by simp [stExprs,mkL]
 | x::xs,k=>by simp [stExprs,mkL,stExprs_eq xs]
theorem stExpr_eq(x:GExpr)(k:Int):stExpr x k=(.mk k (k+1) (mkT (k+1+1)) (⟨((k+1+1+1).tmod 3 == 0),k+1+1+1+1,(mkL stStep x.fPath.fSteps (k+1+1+1+1+1)).1⟩) ((mkL stExpr x.fKids ((mkL stStep x.fPath.fSteps (k+1+1+1+1+1)).2)).1),(mkL stExpr x.fKids ((mkL stStep x.fPath.fSteps (k+1+1+1+1+1)).2)).2):=by
 cases x;simp only [stExpr,stExprs_eq];rfl
mutual
theorem stExpr_ge:∀ (x:GExpr) (k:Int),k+1≤(stExpr x k).2
 | .mk fOp fNum fText fPath fKids,k=>by
  have g0:=mkL_up stStep_ge fPath.fSteps (k+1+1+1+1+1)
  have g1:=stExprs_ge fKids ((mkL stStep fPath.fSteps (k+1+1+1+1+1)).2)
  simp only [stExpr];omega
theorem stExprs_ge:∀ (l:List GExpr) (k:Int),k+l.length≤(stExprs l k).2
 | [],k=>by simp [stExprs]
 | x::xs,k=>by have h1:=stExpr_ge x k;have h2:=stExprs_ge xs (stExpr x k).2;simp only [stExprs,List.length_cons];omega
end
mutual
def stSchema:GSchema→Int→GSchema×Int
 | .mk fKind fName fType fKeys fUnique fDefault fGiven fNeeded fPresent fFixed fMin fMax fWhen fMust fKids,k=>(.mk k (mkT (k+1)) (⟨k+1+1,(mkL stRange fType.fRanges (k+1+1+1)).1,(mkL stString fType.fNames ((mkL stRange fType.fRanges (k+1+1+1)).2)).1,mkT ((mkL stString fType.fNames ((mkL stRange fType.fRanges (k+1+1+1)).2)).2),mkT ((mkL stString fType.fNames ((mkL stRange fType.fRanges (k+1+1+1)).2)).2+1)⟩) ((mkL stString fKeys ((mkL stString fType.fNames ((mkL stRange fType.fRanges (k+1+1+1)).2)).2+1+1)).1) ((mkL stString fUnique ((mkL stString fKeys ((mkL stString fType.fNames ((mkL stRange fType.fRanges (k+1+1+1)).2)).2+1+1)).2)).1) (mkT ((mkL stString fUnique ((mkL stString fKeys ((mkL stString fType.fNames ((mkL stRange fType.fRanges (k+1+1+1)).2)).2+1+1)).2)).2)) ((((mkL stString fUnique ((mkL stString fKeys ((mkL stString fType.fNames ((mkL stRange fType.fRanges (k+1+1+1)).2)).2+1+1)).2)).2+1).tmod 3 == 0)) ((((mkL stString fUnique ((mkL stString fKeys ((mkL stString fType.fNames ((mkL stRange fType.fRanges (k+1+1+1)).2)).2+1+1)).2)).2+1+1).tmod 3 == 0)) ((((mkL stString fUnique ((mkL stString fKeys ((mkL stString fType.fNames ((mkL stRange fType.fRanges (k+1+1+1)).2)).2+1+1)).2)).2+1+1+1).tmod 3 == 0)) ((((mkL stString fUnique ((mkL stString fKeys ((mkL stString fType.fNames ((mkL stRange fType.fRanges (k+1+1+1)).2)).2+1+1)).2)).2+1+1+1+1).tmod 3 == 0)) ((mkL stString fUnique ((mkL stString fKeys ((mkL stString fType.fNames ((mkL stRange fType.fRanges (k+1+1+1)).2)).2+1+1)).2)).2+1+1+1+1+1) ((mkL stString fUnique ((mkL stString fKeys ((mkL stString fType.fNames ((mkL stRange fType.fRanges (k+1+1+1)).2)).2+1+1)).2)).2+1+1+1+1+1+1) ((mkL stExpr fWhen ((mkL stString fUnique ((mkL stString fKeys ((mkL stString fType.fNames ((mkL stRange fType.fRanges (k+1+1+1)).2)).2+1+1)).2)).2+1+1+1+1+1+1+1)).1) ((mkL stExpr fMust ((mkL stExpr fWhen ((mkL stString fUnique ((mkL stString fKeys ((mkL stString fType.fNames ((mkL stRange fType.fRanges (k+1+1+1)).2)).2+1+1)).2)).2+1+1+1+1+1+1+1)).2)).1) ((stSchemas fKids ((mkL stExpr fMust ((mkL stExpr fWhen ((mkL stString fUnique ((mkL stString fKeys ((mkL stString fType.fNames ((mkL stRange fType.fRanges (k+1+1+1)).2)).2+1+1)).2)).2+1+1+1+1+1+1+1)).2)).2)).1),(stSchemas fKids ((mkL stExpr fMust ((mkL stExpr fWhen ((mkL stString fUnique ((mkL stString fKeys ((mkL stString fType.fNames ((mkL stRange fType.fRanges (k+1+1+1)).2)).2+1+1)).2)).2+1+1+1+1+1+1+1)).2)).2)).2)
def stSchemas:List GSchema→Int→List GSchema×Int
 | [],k=>([],k)
 | x::xs,k=>((stSchema x k).1::(stSchemas xs (stSchema x k).2).1,(stSchemas xs (stSchema x k).2).2)
end
theorem stSchemas_eq:∀ (l:List GSchema) (k:Int),stSchemas l k=mkL stSchema l k
 | [],k=>by simp [stSchemas,mkL]
 | x::xs,k=>by simp [stSchemas,mkL,stSchemas_eq xs]
theorem stSchema_eq(x:GSchema)(k:Int):stSchema x k=(.mk k (mkT (k+1)) (⟨k+1+1,(mkL stRange x.fType.fRanges (k+1+1+1)).1,(mkL stString x.fType.fNames ((mkL stRange x.fType.fRanges (k+1+1+1)).2)).1,mkT ((mkL stString x.fType.fNames ((mkL stRange x.fType.fRanges (k+1+1+1)).2)).2),mkT ((mkL stString x.fType.fNames ((mkL stRange x.fType.fRanges (k+1+1+1)).2)).2+1)⟩) ((mkL stString x.fKeys ((mkL stString x.fType.fNames ((mkL stRange x.fType.fRanges (k+1+1+1)).2)).2+1+1)).1) ((mkL stString x.fUnique ((mkL stString x.fKeys ((mkL stString x.fType.fNames ((mkL stRange x.fType.fRanges (k+1+1+1)).2)).2+1+1)).2)).1) (mkT ((mkL stString x.fUnique ((mkL stString x.fKeys ((mkL stString x.fType.fNames ((mkL stRange x.fType.fRanges (k+1+1+1)).2)).2+1+1)).2)).2)) ((((mkL stString x.fUnique ((mkL stString x.fKeys ((mkL stString x.fType.fNames ((mkL stRange x.fType.fRanges (k+1+1+1)).2)).2+1+1)).2)).2+1).tmod 3 == 0)) ((((mkL stString x.fUnique ((mkL stString x.fKeys ((mkL stString x.fType.fNames ((mkL stRange x.fType.fRanges (k+1+1+1)).2)).2+1+1)).2)).2+1+1).tmod 3 == 0)) ((((mkL stString x.fUnique ((mkL stString x.fKeys ((mkL stString x.fType.fNames ((mkL stRange x.fType.fRanges (k+1+1+1)).2)).2+1+1)).2)).2+1+1+1).tmod 3 == 0)) ((((mkL stString x.fUnique ((mkL stString x.fKeys ((mkL stString x.fType.fNames ((mkL stRange x.fType.fRanges (k+1+1+1)).2)).2+1+1)).2)).2+1+1+1+1).tmod 3 == 0)) ((mkL stString x.fUnique ((mkL stString x.fKeys ((mkL stString x.fType.fNames ((mkL stRange x.fType.fRanges (k+1+1+1)).2)).2+1+1)).2)).2+1+1+1+1+1) ((mkL stString x.fUnique ((mkL stString x.fKeys ((mkL stString x.fType.fNames ((mkL stRange x.fType.fRanges (k+1+1+1)).2)).2+1+1)).2)).2+1+1+1+1+1+1) ((mkL stExpr x.fWhen ((mkL stString x.fUnique ((mkL stString x.fKeys ((mkL stString x.fType.fNames ((mkL stRange x.fType.fRanges (k+1+1+1)).2)).2+1+1)).2)).2+1+1+1+1+1+1+1)).1) ((mkL stExpr x.fMust ((mkL stExpr x.fWhen ((mkL stString x.fUnique ((mkL stString x.fKeys ((mkL stString x.fType.fNames ((mkL stRange x.fType.fRanges (k+1+1+1)).2)).2+1+1)).2)).2+1+1+1+1+1+1+1)).2)).1) ((mkL stSchema x.fKids ((mkL stExpr x.fMust ((mkL stExpr x.fWhen ((mkL stString x.fUnique ((mkL stString x.fKeys ((mkL stString x.fType.fNames ((mkL stRange x.fType.fRanges (k+1+1+1)).2)).2+1+1)).2)).2+1+1+1+1+1+1+1)).2)).2)).1),(mkL stSchema x.fKids ((mkL stExpr x.fMust ((mkL stExpr x.fWhen ((mkL stString x.fUnique ((mkL stString x.fKeys ((mkL stString x.fType.fNames ((mkL stRange x.fType.fRanges (k+1+1+1)).2)).2+1+1)).2)).2+1+1+1+1+1+1+1)).2)).2)).2):=by
 cases x;simp only [stSchema,stSchemas_eq];rfl
mutual
theorem stSchema_ge:∀ (x:GSchema) (k:Int),k+1≤(stSchema x k).2
 | .mk fKind fName fType fKeys fUnique fDefault fGiven fNeeded fPresent fFixed fMin fMax fWhen fMust fKids,k=>by
  have g0:=mkL_up stRange_ge fType.fRanges (k+1+1+1)
  have g1:=mkL_up stString_ge fType.fNames ((mkL stRange fType.fRanges (k+1+1+1)).2)
  have g2:=mkL_up stString_ge fKeys ((mkL stString fType.fNames ((mkL stRange fType.fRanges (k+1+1+1)).2)).2+1+1)
  have g3:=mkL_up stString_ge fUnique ((mkL stString fKeys ((mkL stString fType.fNames ((mkL stRange fType.fRanges (k+1+1+1)).2)).2+1+1)).2)
  have g4:=mkL_up stExpr_ge fWhen ((mkL stString fUnique ((mkL stString fKeys ((mkL stString fType.fNames ((mkL stRange fType.fRanges (k+1+1+1)).2)).2+1+1)).2)).2+1+1+1+1+1+1+1)
  have g5:=mkL_up stExpr_ge fMust ((mkL stExpr fWhen ((mkL stString fUnique ((mkL stString fKeys ((mkL stString fType.fNames ((mkL stRange fType.fRanges (k+1+1+1)).2)).2+1+1)).2)).2+1+1+1+1+1+1+1)).2)
  have g6:=stSchemas_ge fKids ((mkL stExpr fMust ((mkL stExpr fWhen ((mkL stString fUnique ((mkL stString fKeys ((mkL stString fType.fNames ((mkL stRange fType.fRanges (k+1+1+1)).2)).2+1+1)).2)).2+1+1+1+1+1+1+1)).2)).2)
  simp only [stSchema];omega
theorem stSchemas_ge:∀ (l:List GSchema) (k:Int),k+l.length≤(stSchemas l k).2
 | [],k=>by simp [stSchemas]
 | x::xs,k=>by have h1:=stSchema_ge x k;have h2:=stSchemas_ge xs (stSchema x k).2;simp only [stSchemas,List.length_cons];omega
end
mutual
def stNode:GNode→Int→GNode×Int
 | .mk fName fValue fKids,k=>(.mk (mkT k) (mkT (k+1)) ((stNodes fKids (k+1+1)).1),(stNodes fKids (k+1+1)).2)
def stNodes:List GNode→Int→List GNode×Int
 | [],k=>([],k)
 | x::xs,k=>((stNode x k).1::(stNodes xs (stNode x k).2).1,(stNodes xs (stNode x k).2).2)
end
theorem stNodes_eq:∀ (l:List GNode) (k:Int),stNodes l k=mkL stNode l k
 | [],k=>by simp [stNodes,mkL]
 | x::xs,k=>by simp [stNodes,mkL,stNodes_eq xs]
theorem stNode_eq(x:GNode)(k:Int):stNode x k=(.mk (mkT k) (mkT (k+1)) ((mkL stNode x.fKids (k+1+1)).1),(mkL stNode x.fKids (k+1+1)).2):=by
 cases x;simp only [stNode,stNodes_eq];rfl
mutual
theorem stNode_ge:∀ (x:GNode) (k:Int),k+1≤(stNode x k).2
 | .mk fName fValue fKids,k=>by
  have g0:=stNodes_ge fKids (k+1+1)
  simp only [stNode];omega
theorem stNodes_ge:∀ (l:List GNode) (k:Int),k+l.length≤(stNodes l k).2
 | [],k=>by simp [stNodes]
 | x::xs,k=>by have h1:=stNode_ge x k;have h2:=stNodes_ge xs (stNode x k).2;simp only [stNodes,List.length_cons];omega
end
end Go.Dt
namespace Go.Dt
open Go Go.Ab
theorem cnt_cons(x:GNode)(l:List GNode):cnt (x::l)=1+cnt x.fKids+cnt l:=by
 cases x;simp only [cnt,kc,List.length_cons,GNode.fKids];omega
theorem cnt_nil:cnt []=0:=by simp [cnt,kc]
mutual
theorem stN_cnt:∀ (x:GNode) (k:Int),(stNode x k).2=k+2 * (1+cnt x.fKids:Nat)
 | .mk n v ks,k=>by simp only [stNode,GNode.fKids];rw [stNs_cnt ks];omega
theorem stNs_cnt:∀ (l:List GNode) (k:Int),(stNodes l k).2=k+2 * (cnt l:Nat)
 | [],k=>by simp [stNodes,cnt,kc]
 | x::xs,k=>by simp only [stNodes];rw [stNs_cnt xs,stN_cnt x,cnt_cons];omega
end
def cutT(s:List GSchema)(l:List GNode)(cs:List Str):List GNode:=if isTree s l=true then l.flatMap (cutX cs s) else []
end Go.Dt
namespace Go.Dt
open Go.Ab
mutual
def stEdit:GEdit→Int→GEdit×Int
 | .mk fOp fName fValue fKids,k=>(.mk k (mkT (k+1)) (mkT (k+1+1)) ((stEdits fKids (k+1+1+1)).1),(stEdits fKids (k+1+1+1)).2)
def stEdits:List GEdit→Int→List GEdit×Int
 | [],k=>([],k)
 | x::xs,k=>((stEdit x k).1::(stEdits xs (stEdit x k).2).1,(stEdits xs (stEdit x k).2).2)
end
theorem stEdits_eq:∀ (l:List GEdit) (k:Int),stEdits l k=mkL stEdit l k
 | [],k=>by simp [stEdits,mkL]
 | x::xs,k=>by simp [stEdits,mkL,stEdits_eq xs]
theorem stEdit_eq(x:GEdit)(k:Int):stEdit x k=(.mk k (mkT (k+1)) (mkT (k+1+1)) ((mkL stEdit x.fKids (k+1+1+1)).1),(mkL stEdit x.fKids (k+1+1+1)).2):=by
 cases x;simp only [stEdit,stEdits_eq];rfl
mutual
theorem stEdit_ge:∀ (x:GEdit) (k:Int),k+1≤(stEdit x k).2
 | .mk fOp fName fValue fKids,k=>by
  have g0:=stEdits_ge fKids (k+1+1+1)
  simp only [stEdit];omega
theorem stEdits_ge:∀ (l:List GEdit) (k:Int),k+l.length≤(stEdits l k).2
 | [],k=>by simp [stEdits]
 | x::xs,k=>by have h1:=stEdit_ge x k;have h2:=stEdits_ge xs (stEdit x k).2;simp only [stEdits,List.length_cons];omega
end
end Go.Dt
namespace Go.Dt
open Go Go.Ab
def cntE:List GEdit→Nat
 | []=>0
 | .mk _ _ _ ks::xs=>1+cntE ks+cntE xs
theorem cntE_cons(x:GEdit)(l:List GEdit):cntE (x::l)=1+cntE x.fKids+cntE l:=by cases x;rw [cntE];rfl
theorem cntE_nil:cntE []=0:=by rw [cntE]
theorem cntE_app:∀ (a b:List GEdit),cntE (a++b)=cntE a+cntE b
 | [],b=>by rw [List.nil_append,cntE_nil];omega
 | x::a,b=>by rw [List.cons_append,cntE_cons,cntE_cons,cntE_app a b];omega
theorem cntE_edO(op:Int):∀ l:List GNode,cntE (edO op l)=cnt l
 | []=>by rw [edO,cntE_nil,cnt_nil]
 | .mk n v ks::xs=>by rw [edO,cntE,cnt_cons,cntE_edO op ks,cntE_edO op xs];rfl
theorem cntE_leaf{l:List GEdit}(h:∀ x∈l,x.fKids=[]):cntE l=l.length:=by
 induction l with
 | nil=>rw [cntE_nil];rfl
 | cons x xs ih=>rw [cntE_cons,h x (by simp),cntE_nil,ih fun y hy=>h y (by simp [hy]),List.length_cons];omega
theorem cntE_kyE{n:GSchema}{x:GNode}(h:n.fKeys.length≤3):cntE (kyE n x)≤3:=by
 rw [cntE_leaf]
 ·exact kyE_le h
 ·intro y hy
  rw [kyE] at hy
  split at hy
  ·obtain ⟨k,_,rfl⟩:=List.mem_map.1 hy;rfl
  ·simp at hy
theorem cntE_flat{α:Type}{f:α→List GEdit}{c:Nat}:∀ {l:List α},(∀ x∈l,cntE (f x)≤c)→cntE (l.flatMap f)≤c * l.length
 | [],_=>by simp [cntE_nil]
 | x::xs,h=>by
  rw [List.flatMap_cons,cntE_app,List.length_cons,Nat.mul_add]
  have:=h x (by simp);have:=cntE_flat (f:=f) (l:=xs) fun y hy=>h y (by simp [hy]);omega
theorem cntE_flatN{f:GNode→List GEdit}{c:Nat}:∀ {l:List GNode},(∀ x∈l,cntE (f x)≤c * (1+cnt x.fKids))→cntE (l.flatMap f)≤c * cnt l
 | [],_=>by simp [cntE_nil]
 | x::xs,h=>by
  rw [List.flatMap_cons,cntE_app,cnt_cons]
  have h1:=h x (by simp)
  have h2:=cntE_flatN (f:=f) (l:=xs) fun y hy=>h y (by simp [hy])
  have:c * (1+cnt x.fKids+cnt xs)=c * (1+cnt x.fKids)+c * cnt xs:=Nat.mul_add _ _ _
  omega
theorem cnt_kid{l:List GNode}{x:GNode}(h:x∈l):cnt x.fKids≤cnt l:=by
 induction l with
 | nil=>simp at h
 | cons y l ih =>
  rw [cnt_cons]
  rcases List.mem_cons.1 h with rfl|h
  ·omega
  ·have:=ih h;omega
theorem gn_kids{l:List GNode}{x:GNode}(h:x∈l):SizeOf.sizeOf x.fKids<SizeOf.sizeOf l:=by
 have:=List.sizeOf_lt_of_mem h
 cases x;simp [GNode.fKids] at *;omega
theorem len_cnt(l:List GNode):l.length≤cnt l:=by unfold cnt;omega
theorem dif_cnt:∀ (n A:Nat) (s:List GSchema) (a b:List GNode),SizeOf.sizeOf b<n→gdS s→(∀ x∈a,okX (dk s) x)→(∀ y∈b,okX (dk s) y)→cnt a≤A→cntE (dif s a b)≤4 * A+(4+4 * A) * cnt b
 | 0,_,_,_,_,h,_,_,_,_=>absurd h (Nat.not_lt_zero _)
 | n+1,A,s,a,b,hn,hg,ha,hb,hA=>by
  rw [dif_eq,cntE_app]
  have h1:cntE (a.flatMap (dfA s b))≤4 * a.length:=cntE_flat fun x hx=>by
   have hk:=gd_keys hg (okX_at (ha x hx)).2
   have hc:cntE (kyE (nd s x.fName) x)≤3:=cntE_kyE hk
   unfold dfA
   split
   ·rw [cntE_nil];omega
   ·rw [cntE_cons,cntE_nil]
    simp only [GEdit.fKids]
    omega
  have h2:cntE (b.flatMap (dfY s a))≤(4+4 * A) * cnt b:=cntE_flatN fun y hy=>by
   have hoy:=hb y hy
   have hk:=gd_keys hg (okX_at hoy).2
   have hc:cntE (kyE (nd s y.fName) y)≤3:=cntE_kyE hk
   have hm:(4+4 * A) * (1+cnt y.fKids)=4+4 * A+(4+4 * A) * cnt y.fKids:=by rw [Nat.mul_add,Nat.mul_one]
   have hz:cnt y.fKids≤(4+4 * A) * cnt y.fKids:=Nat.le_mul_of_pos_left _ (by omega)
   rw [hm]
   unfold dfY
   split
   ·rw [cntE_cons,cntE_nil]
    simp only [GEdit.fKids,cntE_edO]
    omega
   ·rename_i hf
    split
    ·rw [cntE_cons,cntE_nil]
     simp only [GEdit.fKids,cntE_nil]
     omega
    ·split
     ·rename_i h3
      obtain ⟨e1,e2,e3⟩:=fnd_ok (s:=s) (a:=a) (y:=y) (by omega) hoy
      have hnd:nd s (at_ a (fnd (nd s y.fName) a y).toNat).fName=nd s y.fName:=by rw [nd,e2]
      have hok1:=kid_ok (ha _ e3) (by rw [hnd];omega)
      rw [hnd] at hok1
      have ih:=dif_cnt n A (nd s y.fName).fKids (at_ a (fnd (nd s y.fName) a y).toNat).fKids y.fKids (by have:=gn_kids hy;omega) (gd_kid hg (okX_at hoy).2).1 hok1 (kid_ok hoy (by omega)) (by have:=cnt_kid e3;omega)
      rw [cntE_cons,cntE_nil]
      simp only [GEdit.fKids,cntE_app]
      omega
     ·rw [cntE_nil];omega
  have:=len_cnt a
  omega
mutual
theorem stE_cnt:∀ (x:GEdit) (k:Int),(stEdit x k).2=k+3 * (1+cntE x.fKids:Nat)
 | .mk o n v ks,k=>by simp only [stEdit,GEdit.fKids];rw [stEs_cnt ks];omega
theorem stEs_cnt:∀ (l:List GEdit) (k:Int),(stEdits l k).2=k+3 * (cntE l:Nat)
 | [],k=>by simp [stEdits,cntE]
 | x::xs,k=>by simp only [stEdits];rw [stEs_cnt xs,stE_cnt x,cntE_cons];omega
end
theorem mkE_cnt(l:List GEdit)(k:Int):(mkL stEdit l k).2=k+3 * (cntE l:Nat):=by rw [← stEdits_eq,stEs_cnt]
def difT(s:List GSchema)(a b:List GNode):List GEdit:=if (isTree s a && isTree s b)=true then dif s a b else []
theorem difT_cap(s:List GSchema)(a b:List GNode):(mkL stEdit (difT s a b) 1).2≤1048576:=by
 rw [mkE_cnt,difT]
 split
 ·rename_i h
  simp only [Bool.and_eq_true] at h
  have h1:=h.1
  have h2:=h.2
  have hg:=tree_gd (s:=s) (by simp only [isTree,Bool.and_eq_true] at h1;exact h1.1.1)
  simp only [isTree,Bool.and_eq_true,decide_eq_true_eq] at h1 h2
  have:=dif_cnt _ 120 s a b (Nat.lt_succ_self _) hg (okL_mem h1.2) (okL_mem h2.2) h1.1.2
  have hb:=h2.1.2
  have:(4+4 * 120) * cnt b≤(4+4 * 120) * 120:=Nat.mul_le_mul_left _ hb
  omega
 ·rw [cntE_nil];omega
end Go.Dt
