/-
  Part of a proof: Tn4, Tn5, AbAgg, AbNil, Ct1, Df0.
-/
import Derived.Test.YtmcjbaafmjlblaaGreatDoorG2
import Derived.Test.YtmcjbaafmjlblaaGreatDoorG11
import Derived.Test.YtmcjbaafmjlblaaGreatDoorG27
import Derived.Test.YtmcjbaafmjlblaaGreatDoorG35
import Derived.Test.YtmcjbaafmjlblaaGreatDoorG36
import Derived.Test.YtmcjbaafmjlblaaGreatDoorG37
import Derived.Test.YtmcjbaafmjlblaaGreatDoorG39
set_option linter.unusedSimpArgs false
set_option linter.unusedVariables false
namespace Go.Proofs.YtmcjbaafmjlblaaGreatDoor
open Go.Ab Go.Dt
set_option maxRecDepth 20000
set_option maxHeartbeats 4000000
attribute [local go_sem] frzL_str encSchemaM_frz encNodeM_frz schAll schOne nms_idx
instance sDataKids_c(l:List GSchema):Ctr lim Tryz.prog 129 [] [.sl false 19 (l.map (encSchema false))] (.sl false 19 ((dk l).map (encSchema false))) [] (cntS l≤1048576) :=
 Ctr.of_pure en129 fun c=>by
  have:=((sDataKids_n (SizeOf.sizeOf l+1) l).pure ⟨Nat.lt_succ_self _,c⟩).frz
  simpa only [AV.frz,AV.frzL,encSchemaM_frz,cond_true] using this
theorem sNode_n(n:Nat)(ih:∀ (d:List GSchema) (l:List GNode),Ctr lim Tryz.prog 128 [] [.sl false 19 (d.map (encSchema false)),.sl false 3 (l.map (encNode false))] (.v (.bool (okL d none l))) [] (SizeOf.sizeOf l<n∧(∀ y∈d,wtS y.fKids≤1048576)∧wt l≤1048576))(c:GSchema)(x:GNode):Ctr lim Tryz.prog 164 [] [.agg [.v (.int .i64 c.fKind),.str c.fName,.v (.int .i64 c.fType.fKind),.sl false 2 (c.fType.fRanges.map (encRange false)),.sl false 1 (c.fType.fNames.map AV.str),.str c.fType.fPattern,.str c.fType.fPath,.sl false 1 (c.fKeys.map AV.str),.sl false 1 (c.fUnique.map AV.str),.str c.fDefault,.v (.bool c.fGiven),.v (.bool c.fNeeded),.v (.bool c.fPresent),.v (.bool c.fFixed),.v (.int .i64 c.fMin),.v (.int .i64 c.fMax),.sl false 7 (c.fWhen.map (encExpr false)),.sl false 7 (c.fMust.map (encExpr false)),.sl false 19 (c.fKids.map (encSchema false))],.agg [.str x.fName,.str x.fValue,.sl false 3 (x.fKids.map (encNode false))]] (.v (.bool (okN c x))) [] (SizeOf.sizeOf x.fKids<n∧wtS c.fKids≤1048576∧wt x.fKids≤1048576∧x.fValue.length≤1048576):=by
 refine Ctr.of_body en164 Tryz.func164 rfl rfl fun hp=>(?_);rw [Tryz.ntmps164]
 have gOn:=GrOn.on
 obtain ⟨h2,h3,h4,h5⟩:=hp
 have hc:=cnt_wtS c.fKids
 have hd:∀ y∈dk c.fKids,wtS y.fKids≤1048576:=fun y hy=>by have:=dk_wt _ y hy;omega
 cases hk:kyB c x
 ·haveI:=sKey_n c x
  (refine vU ?_;with_reducible repeat' first|exact Le.l|refine Sw ?_ ?_|intro h)
  all_goals try refine congrArg (fun b=>AV.v (.bool b)) ?_
  ·rw [okN,if_pos (by omega),len_z]
  ·rw [okN,if_pos (by omega),len_z]
  ·rw [okN,if_neg (by omega),if_pos h,hk];try rfl
  ·exact hd _ h
  ·rw [okN,if_neg (by omega),if_neg (by omega),decP,len_p,emp_beq]
 ·haveI:=sKey_y c x
  (refine vU ?_;with_reducible repeat' first|exact Le.l|refine Sw ?_ ?_|intro h)
  all_goals try refine congrArg (fun b=>AV.v (.bool b)) ?_
  ·rw [okN,if_pos (by omega),len_z]
  ·rw [okN,if_pos (by omega),len_z]
  ·exact hd _ h
  ·rw [okN,if_neg (by omega),if_pos h,hk,emp_beq];try rfl
  ·exact hd _ h
  ·rw [okN,if_neg (by omega),if_neg (by omega),decP,len_p,emp_beq]
theorem sRight_n:∀ (n:Nat) (d:List GSchema) (l:List GNode),Ctr lim Tryz.prog 128 [] [.sl false 19 (d.map (encSchema false)),.sl false 3 (l.map (encNode false))] (.v (.bool (okL d none l))) [] (SizeOf.sizeOf l<n∧(∀ y∈d,wtS y.fKids≤1048576)∧wt l≤1048576)
 | 0,_,l=>⟨en128,fun h=>absurd h.1 (Nat.not_lt_zero _)⟩
 | n+1,d,l=>by
  have ih:=sNode_n n (sRight_n n)
  refine Ctr.of_body en128 Tryz.func128 rfl rfl fun hp=>(?_);rw [Tryz.ntmps128]
  have gOn:=GrOn.on
  obtain ⟨hs,hb,hv⟩:=hp
  refine AW.fact 1 fun hf=>?_
  simp (disch:=omega) only [go_sem] at hf
  (refine vU ?_;with_reducible repeat' first|exact Le.l|refine Sw ?_ ?_|intro h)
  refine AW.loopV [5] [0,1] (fun m xs o=>∃ k:Nat,xs=[.v (.int .i64 k)]∧o=[]∧m=l.length - k∧k≤l.length∧(∀ j<k,okX d (at_ l j))∧okL d (prv l k) (l.drop k)=okL d none l) l.length [] trivial ⟨0,?_,rfl,rfl,?_,?_,rfl⟩ ?_
  ·rfl
  ·omega
  ·intro j hj;omega
  rintro m xs o ⟨k,rfl,rfl,rfl,hk,hW,hR⟩
  (refine vK ?_;with_reducible repeat' first|exact Le.l|refine Sw ?_ ?_|intro h)
  (refine AW.i rfl (fun h=>?_) (fun h=>?_)<;>try simp only [hC,reduceCtorEq] at h)
  ·have hw:=wt_kid (l:=l) h
   have hkx:=fun hq=>hb _ (idx_hit (p:=nmP (at_ l k).fName) (l:=d) hq).2.2
   have hky:=fun hq=>(idx_hit (p:=nmP (at_ l k).fName) (l:=d) hq).1
   have hsz:=GNode.kids_lt (at_mem h)
   (refine vU ?_;with_reducible repeat' first|exact Le.l|refine Sw ?_ ?_|intro h)
   ·exact (hW _ (by omega)).1
   ·exact okN_key (hW _ (by omega)).2
   ·rw [h];exact okN_key (by grind)
   ·rw [← hR]
    rcases h with (h|h)|⟨h1,h2⟩
    ·rw [okR_no (by assumption) h]
    ·rw [okR_bad (by assumption) h]
    ·rw [okR_bef (by assumption) (by omega) (by rw [← h2];congr 2;omega)]
   ·obtain ⟨⟨h1,h2⟩,h3⟩:=h
    refine ⟨_,[_],[],by omega,⟨k+1,rfl,rfl,rfl,by omega,fun j hj=>?_,?_⟩,rfl,trivial⟩
    ·rcases Nat.lt_or_ge j k with q|q
     ·exact hW j q
     ·rw [show j=k by omega];exact ⟨h1,h2⟩
    ·rw [← hR,okR_good (by assumption) h1 h2 fun q=>by rw [← h3 (by omega)];congr 2;omega]
  ·(refine vU ?_;with_reducible repeat' first|exact Le.l|refine Sw ?_ ?_|intro h)
   rw [← hR,drop_end h,okL]
end Go.Proofs.YtmcjbaafmjlblaaGreatDoor
namespace Go.Proofs.YtmcjbaafmjlblaaGreatDoor
open Go.Ab Go.Dt
set_option maxRecDepth 20000
set_option maxHeartbeats 4000000
attribute [local go_sem] frzL_str encSchemaM_frz
instance iRight_i(s:List GSchema)(l:List GNode):Ctr lim Tryz.prog 133 [] [.sl false 19 (s.map (encSchema false)),.sl false 3 (l.map (encNode false))] (.v (.bool (okL (dk s) none l))) [] (wtS s≤1048576∧wt l≤1048576):=⟨en133,fun h=>(iRight_n (SizeOf.sizeOf l+1) s l).out ⟨Nat.lt_succ_self _,h⟩⟩
instance sRight_i(d:List GSchema)(l:List GNode):Ctr lim Tryz.prog 128 [] [.sl false 19 (d.map (encSchema false)),.sl false 3 (l.map (encNode false))] (.v (.bool (okL d none l))) [] ((∀ y∈d,wtS y.fKids≤1048576)∧wt l≤1048576):=⟨en128,fun h=>(sRight_n (SizeOf.sizeOf l+1) d l).out ⟨Nat.lt_succ_self _,h⟩⟩
instance iIsTree_i(s:List GSchema)(l:List GNode):Ctr lim Tryz.prog 84 [] [.sl false 19 (s.map (encSchema false)),.sl false 3 (l.map (encNode false))] (.v (.bool (isTree s l))) [] (wtS s≤1048576∧wt l≤1048576):=by
 refine Ctr.of_body en84 Tryz.func84 rfl rfl fun hp=>(?_);rw [Tryz.ntmps84]
 have gOn:=GrOn.on
 obtain ⟨h1,h2⟩:=hp
 (refine vU ?_;with_reducible repeat' first|exact Le.l|refine Sw ?_ ?_|intro h)
 refine congrArg (fun b=>AV.v (.bool b)) ?_
 rw [isTree,show decide ((cnt l:Int)≤120)=decide (cnt l≤120) from decide_eq_decide.2 (by omega)]
instance sIsTree_i(s:List GSchema)(l:List GNode):Ctr lim Tryz.prog 81 [] [.sl false 19 (s.map (encSchema false)),.sl false 3 (l.map (encNode false))] (.v (.bool (isTree s l))) [] (wtS s≤1048576∧wt l≤1048576):=by
 refine Ctr.of_body en81 Tryz.func81 rfl rfl fun hp=>(?_);rw [Tryz.ntmps81]
 have gOn:=GrOn.on
 obtain ⟨h1,h2⟩:=hp
 have hc:=cnt_wtS s
 have hd:∀ y∈dk s,wtS y.fKids≤1048576:=fun y hy=>by have:=dk_wt _ y hy;omega
 have e1:decide (0≤l13g l (120 - l.length))=decide (cnt l≤120):=by
  apply decide_eq_decide.2
  unfold cnt
  rcases Int.lt_or_le (120 - (l.length:Int)) 0 with h|h
  ·rw [l13g_neg l h];omega
  ·have:=(l13g_eq l _ h).1;omega
 (refine vU ?_;with_reducible repeat' first|exact Le.l|refine Sw ?_ ?_|intro h)
 ·exact hd _ h
 ·refine congrArg (fun b=>AV.v (.bool b)) ?_
  rw [isTree,e1]
end Go.Proofs.YtmcjbaafmjlblaaGreatDoor
namespace Go.Ab
end Go.Ab
namespace Go.Ab
theorem RepL.consM{L:Nat→Nat}{F:Nat→Prop}{w:World}{x x':AV}{xs xs':List AV}(h:∀ y fp,Rep L F w x y fp→Rep L F w x' y fp)(hs:∀ vs fp,RepL L F w xs vs fp→RepL L F w xs' vs fp):∀ vs fp,RepL L F w (x::xs) vs fp→RepL L F w (x'::xs') vs fp:=by
 intro vs fp r
 simp only [RepL] at r ⊢
 obtain ⟨y,vs',f1,f2,e1,e2,hx,hxs⟩:=r
 exact ⟨y,vs',f1,f2,e1,e2,h _ _ hx,hs _ _ hxs⟩
theorem Rep.nilSl{L:Nat→Nat}{F:Nat→Prop}{w:World}{o:Bool}{sz:Nat}(y:Value)(fp:List Nat)(h:Rep L F w (.v (.slice none 0 0)) y fp):Rep L F w (.sl o sz []) y fp:=by
 simp only [Rep] at h ⊢
 exact .inl ⟨.inl h.1,trivial,h.2⟩
theorem Ctr.view{L:Nat→Nat}{P:Program}{f:FuncId}{args args':List AV}{res:AV}{cs:List (Option (List AV))}{pre:Prop}(h:Ctr L P f [] args res cs pre)(ha:∀ F w vs fp,RepL L F w args' vs fp→RepL L F w args vs fp):Ctr L P f [] args' res [] pre :=
 Ctr.of_pure h.en fun hp w F vs a b r=>h.pure hp w F vs a b (ha _ _ _ _ r)
end Go.Ab
namespace Go.Ab
section
variable {L : Nat → Nat} {F : Nat → Prop} {w : World} {x x' : AV}
theorem RepE.at{sz:Nat}(hx:∀ y fp,Rep L F w x y fp→Rep L F w x' y fp):∀ (l l2:List AV) (vs:List Value) (fp:List Nat),RepE L F w sz (l++x::l2) vs fp→RepE L F w sz (l++x'::l2) vs fp
 | [],l2,vs,fp,h=>by
  simp only [List.nil_append,RepE] at h ⊢
  obtain ⟨y,vs',f1,f2,e1,e2,e3,h1,h2⟩:=h
  exact ⟨y,vs',f1,f2,e1,e2,e3,hx _ _ h1,h2⟩
 | z::l,l2,vs,fp,h=>by
  simp only [List.cons_append,RepE] at h ⊢
  obtain ⟨y,vs',f1,f2,e1,e2,e3,h1,h2⟩:=h
  exact ⟨y,vs',f1,f2,e1,e2,e3,h1,RepE.at hx l l2 _ _ h2⟩
theorem RepL.at(hx:∀ y fp,Rep L F w x y fp→Rep L F w x' y fp):∀ (l l2:List AV) (vs:List Value) (fp:List Nat),RepL L F w (l++x::l2) vs fp→RepL L F w (l++x'::l2) vs fp
 | [],l2,vs,fp,h=>RepL.consM hx (fun _ _ h=>h) vs fp h
 | z::l,l2,vs,fp,h=>RepL.consM (fun _ _ h=>h) (RepL.at hx l l2) vs fp h
theorem Rep.slAt{own:Bool}{sz:Nat}{l l2:List AV}(hx:∀ y fp,Rep L F w x y fp→Rep L F w x' y fp)(y:Value)(fp:List Nat)(h:Rep L F w (.sl own sz (l++x::l2)) y fp):Rep L F w (.sl own sz (l++x'::l2)) y fp:=by
 simp only [Rep] at h ⊢
 rcases h with ⟨_,h,_⟩|⟨b,off,cap,vals,fp',h1,h2,h3,h4,h5,h6⟩
 ·simp at h
 ·exact .inr ⟨b,off,cap,vals,fp',by simpa using h1,by simpa using h2,by simpa using h3,h4,RepE.at hx l l2 _ _ h5,h6⟩
theorem Rep.aggAt{l l2:List AV}(hx:∀ y fp,Rep L F w x y fp→Rep L F w x' y fp)(y:Value)(fp:List Nat)(h:Rep L F w (.agg (l++x::l2)) y fp):Rep L F w (.agg (l++x'::l2)) y fp:=by
 simp only [Rep] at h ⊢
 obtain ⟨vs,e,h⟩:=h
 exact ⟨vs,e,RepL.at hx l l2 _ _ h⟩
end
theorem Imp.slotM{L:Nat→Nat}{n:Nat}{t:List (Nat×AV)}{o:Sto}{Q:AS→Prop}(i:Nat){x x':AV}(hT:T t i=x)(hx:∀ F w y fp,Rep L F w x y fp→Rep L F w x' y fp)(h:Q ⟨n,(i,x')::t,o⟩):Imp L ⟨n,t,o⟩ Q:=by
 intro B F0 w0 a w hd
 refine ⟨_,h,?_⟩
 obtain ⟨F,own,fp,fs,hd⟩:=hd
 refine ⟨F,own,fp,fs,{ hd with slots:=fun j=>?_ }⟩
 have hj:=hd.slots j
 simp only [T] at hj ⊢
 by_cases e:i=j
 ·subst e
  simp only [beq_self_eq_true,cond_true]
  rw [hT] at hj
  exact hx _ _ _ _ hj
 ·rw [show (i == j)=false by simpa using e]
  exact hj
theorem Imp.nilApp{L:Nat→Nat}{n:Nat}{t:List (Nat×AV)}{o:Sto}{Q:AS→Prop}(i:Nat){own:Bool}{sz:Nat}{l:List AV}(pre post:List AV)(o':Bool)(z:Nat)(hT:T t i=.sl own sz (l++[.agg (pre++.v (.slice none 0 0)::post)]))(h:Q ⟨n,(i,.sl own sz (l++[.agg (pre++.sl o' z []::post)]))::t,o⟩):Imp L ⟨n,t,o⟩ Q :=
 Imp.slotM i hT (fun _ _=>Rep.slAt (Rep.aggAt Rep.nilSl)) h
end Go.Ab
namespace Go.Dt
open Go Go.Ab
def cutK(n:GSchema)(cs:List Str)(k:GNode):List GNode:=if cont n.fKeys k.fName=true then [k] else cutX cs n.fKids k
section
variable {s : List GSchema} {x : GNode} {c : Str} {cs : List Str}
end
end Go.Dt
namespace Go.Dt
open Go Go.Ab
def smT:List GNode→List GNode→Bool
 | [],[]=>true
 | [],_::_=>false
 | .mk _ _ _::_,[]=>false
 | .mk n v ks::xs,y::ys=>n == y.fName && v == y.fValue && smT ks y.fKids && smT xs ys
theorem smT_cons(x y:GNode)(xs ys:List GNode):smT (x::xs) (y::ys)=(x.fName == y.fName && x.fValue == y.fValue && smT x.fKids y.fKids && smT xs ys):=by cases x;rw [smT];try rfl
theorem smT_iff:∀ (a b:List GNode),smT a b=true↔a=b
 | [],[]=>by simp [smT]
 | [],_::_=>by simp [smT]
 | .mk _ _ _::_,[]=>by simp [smT]
 | .mk n v ks::xs,.mk m u js::ys=>by
  have h1:=smT_iff ks js
  have h2:=smT_iff xs ys
  rw [smT]
  simp only [Bool.and_eq_true,beq_iff_eq,GNode.fName,GNode.fValue,GNode.fKids,h1,h2,List.cons.injEq,GNode.mk.injEq]
  constructor
  ·rintro ⟨⟨⟨a,b⟩,c⟩,d⟩;exact ⟨⟨a,b,c⟩,d⟩
  ·rintro ⟨⟨a,b,c⟩,d⟩;exact ⟨⟨⟨a,b⟩,c⟩,d⟩
theorem smT_at{a b:List GNode}{k:Nat}(h:k<a.length)(h2:k<b.length):smT (a.drop k) (b.drop k)=((at_ a k).fName == (at_ b k).fName && (at_ a k).fValue == (at_ b k).fValue && smT (at_ a k).fKids (at_ b k).fKids && smT (a.drop (k+1)) (b.drop (k+1))):=by
 rw [at_drop h,at_drop h2,smT_cons]
theorem smT_len{a b:List GNode}(h:¬ (a.length:Int)=b.length):smT a b=false:=by
 rw [Bool.eq_false_iff]
 intro e
 rw [(smT_iff a b).1 e] at h
 exact h rfl
theorem smT_end{a b:List GNode}{k:Nat}(h:¬ k<a.length)(h2:¬ k<b.length):smT (a.drop k) (b.drop k)=true:=by
 rw [drop_end h,drop_end h2,smT]
def skB(n:GSchema)(a b:GNode):Bool:=!rowK n.fKind || (kyB n a && kyB n b && (kyL n a == kyL n b))
def fiP(n:GSchema)(x y:GNode):Bool:=y.fName == n.fName && decide (ordS n x y=0) && skB n x y
def fsP(n:GSchema)(v:Str)(key:List Str)(y:GNode):Bool:=y.fName == n.fName && !(decide (n.fKind=4) && !(y.fValue == v)) && (!decide (n.fKind=2) || !lessL (kyL n y) key && !lessL key (kyL n y))
def fnd(n:GSchema)(l:List GNode)(x:GNode):Int:=idx (fiP n x) l
theorem idx_congr{α:Type}{p q:α→Bool}:∀ {l:List α},(∀ x∈l,p x=q x)→idx p l=idx q l
 | [],_=>rfl
 | x::xs,h=>by
  simp only [idx]
  rw [h x (by simp),idx_congr (p:=p) (q:=q) (l:=xs) fun y hy=>h y (by simp [hy])]
theorem bl_asym(x y:Str):(!Op.bytesLess x y && !Op.bytesLess y x)=(x == y):=by
 have h1:=bl_geq x y
 have h2:=bl_geq y x
 by_cases e:x=y
 ·subst e;rw [less_self];simp
 ·have e1:(x == y)=false:=by simpa using e
  have e2:(y == x)=false:=by simpa using fun c=>e c.symm
  rw [e1,Bool.or_false] at h1
  rw [e1,h1];cases Op.bytesLess y x<;>rfl
theorem lessL_iff:∀ (a b:List Str),(!lessL a b && !lessL b a)=(a == b)
 | [],[]=>by simp [lessL]
 | [],_::_=>by simp [lessL]
 | _::_,[]=>by simp [lessL]
 | x::xs,y::ys=>by
  simp only [lessL]
  by_cases e:x=y
  ·subst e
   rw [if_pos rfl,if_pos rfl,lessL_iff xs ys];simp
  ·rw [if_neg e,if_neg (fun c=>e c.symm),bl_asym]
   have:(x == y)=false:=by simpa using e
   rw [this];simp [e]
theorem cmpL_0:∀ (a b:List Str),cmpL a b=0↔a=b
 | [],[]=>by simp [cmpL]
 | [],_::_=>by simp [cmpL]
 | _::_,[]=>by simp [cmpL]
 | x::xs,y::ys=>by
  rw [cmpL]
  by_cases e:x=y
  ·subst e
   rw [if_pos ((cmpS_0 _ _).2 rfl),cmpL_0 xs ys];simp
  ·rw [if_neg (fun c=>e ((cmpS_0 _ _).1 c))]
   constructor
   ·intro h;exact absurd ((cmpS_0 _ _).1 h) e
   ·intro h;injection h with h1 h2;exact absurd h1 e
theorem fnd_eq{n:GSchema}{x:GNode}{l:List GNode}(hx:kyB n x=true)(hl:∀ y∈l,y.fName=n.fName→kyB n y=true):idx (fsP n x.fValue (kyL n x)) l=fnd n l x:=by
 refine idx_congr fun y hy=>?_
 unfold fsP fiP
 by_cases hn:y.fName=n.fName
 ·have hk:=hl y hy hn
  rw [skB,hx,hk,ordS]
  have e1:(y.fName == n.fName)=true:=by simpa using hn
  rw [e1]
  by_cases h2:n.fKind=2
  ·have:rowK n.fKind=true:=by rw [h2];try rfl
   rw [if_pos this,this,lessL_iff]
   have e2:decide (n.fKind=4)=false:=by rw [h2];try rfl
   have e3:decide (n.fKind=2)=true:=by rw [h2];try rfl
   rw [e2,e3]
   have e4:decide (cmpL (kyL n x) (kyL n y)=0)=(kyL n x == kyL n y):=by
    rw [Bool.eq_iff_iff];simp [cmpL_0]
   rw [e4]
   have e5:(kyL n y == kyL n x)=(kyL n x == kyL n y):=by
    rw [Bool.eq_iff_iff];simp only [beq_iff_eq];exact ⟨fun h=>h.symm,fun h=>h.symm⟩
   rw [e5]
   cases (kyL n x == kyL n y)<;>rfl
  ·have e3:decide (n.fKind=2)=false:=by simpa using h2
   rw [e3]
   by_cases h4:n.fKind=4
   ·have:rowK n.fKind=true:=by rw [h4];try rfl
    rw [if_pos this,this,h4,(ky_one h2).1,(ky_one h2).1]
    have e4:decide (cmpL [x.fValue] [y.fValue]=0)=(y.fValue == x.fValue):=by
     rw [Bool.eq_iff_iff];simp only [decide_eq_true_eq,cmpL_0,beq_iff_eq,List.cons.injEq,and_true];exact ⟨fun h=>h.symm,fun h=>h.symm⟩
    rw [e4]
    by_cases hv:y.fValue=x.fValue
    ·have hv2:(y.fValue == x.fValue)=true:=by simpa using hv
     rw [hv2,hv];simp
    ·have hv2:(y.fValue == x.fValue)=false:=by simpa using hv
     rw [hv2];simp
   ·have:rowK n.fKind=false:=by rw [rowK];simp [h2,h4]
    rw [if_neg (by rw [this];simp),this]
    have e4:decide (n.fKind=4)=false:=by simpa using h4
    rw [e4];try rfl
 ·have e1:(y.fName == n.fName)=false:=by simpa using hn
  rw [e1];try rfl
def kyE(n:GSchema)(x:GNode):List GEdit:=if n.fKind=2 then n.fKeys.map fun k=>.mk 1 k (kyT x k) [] else []
def edO(op:Int):List GNode→List GEdit
 | []=>[]
 | .mk n v ks::xs=>.mk op n v (edO op ks)::edO op xs
theorem edO_map(op:Int):∀ l:List GNode,edO op l=l.map fun x=>.mk op x.fName x.fValue (edO op x.fKids)
 | []=>by rw [edO];try rfl
 | .mk n v ks::xs=>by rw [edO,edO_map op xs];try rfl
theorem edO_len(op:Int)(l:List GNode):(edO op l).length=l.length:=by rw [edO_map,List.length_map]
theorem edO_step{op:Int}{l:List GNode}{k:Nat}(h:k<l.length):edO op (l.take (k+1))=edO op (l.take k)++[.mk op (at_ l k).fName (at_ l k).fValue (edO op (at_ l k).fKids)]:=by
 rw [take_at' h,edO_map,edO_map,List.map_append];try rfl
abbrev nd(s:List GSchema)(nm:Str):GSchema:=at_ (dk s) (idx (nmP nm) (dk s)).toNat
def dfA(s:List GSchema)(b:List GNode)(x:GNode):List GEdit:=if 0≤fnd (nd s x.fName) b x then [] else [.mk 4 x.fName (if (nd s x.fName).fKind=4 then x.fValue else []) (kyE (nd s x.fName) x)]
def dfB(s:List GSchema)(a:List GNode):List GNode→List GEdit
 | []=>[]
 | .mk nm v ks::ys =>
  (let n:=nd s nm
   let i:=fnd n a (.mk nm v ks)
   let x:=at_ a i.toNat
   if i<0 then [.mk 3 nm v (edO 3 ks)]
   else if n.fKind=3∧¬ x.fValue=v then [.mk 2 nm v []]
   else if (n.fKind=1∨n.fKind=2)∧smT x.fKids ks=false then [.mk 1 nm [] (kyE n (.mk nm v ks)++(x.fKids.flatMap (dfA n.fKids ks)++dfB n.fKids x.fKids ks))]
   else [])++dfB s a ys
def dif(s:List GSchema)(a b:List GNode):List GEdit:=a.flatMap (dfA s b)++dfB s a b
def dfY(s:List GSchema)(a:List GNode)(y:GNode):List GEdit :=
 if fnd (nd s y.fName) a y<0 then [.mk 3 y.fName y.fValue (edO 3 y.fKids)]
 else if (nd s y.fName).fKind=3∧¬ (at_ a (fnd (nd s y.fName) a y).toNat).fValue=y.fValue then [.mk 2 y.fName y.fValue []]
 else if ((nd s y.fName).fKind=1∨(nd s y.fName).fKind=2)∧smT (at_ a (fnd (nd s y.fName) a y).toNat).fKids y.fKids=false then [.mk 1 y.fName [] (kyE (nd s y.fName) y++dif (nd s y.fName).fKids (at_ a (fnd (nd s y.fName) a y).toNat).fKids y.fKids)]
 else []
theorem dfB_map(s:List GSchema)(a:List GNode):∀ l:List GNode,dfB s a l=l.flatMap (dfY s a)
 | []=>by rw [dfB];try rfl
 | .mk n v ks::ys=>by rw [dfB,dfB_map s a ys];try rfl
theorem dif_eq(s:List GSchema)(a b:List GNode):dif s a b=a.flatMap (dfA s b)++b.flatMap (dfY s a):=by rw [dif,dfB_map]
theorem dfA_le(s:List GSchema)(b:List GNode)(x:GNode):(dfA s b x).length≤1:=by unfold dfA;split<;>simp
theorem dfY_le(s:List GSchema)(a:List GNode)(y:GNode):(dfY s a y).length≤1:=by
 unfold dfY
 repeat' split
 all_goals simp
section
variable {n : GSchema} {x : GNode} {k : Nat}
theorem kyE_step(h2:n.fKind=2)(h:k<n.fKeys.length):(kyE n x).take (k+1)=(kyE n x).take k++[.mk 1 (at_ n.fKeys k) (kyT x (at_ n.fKeys k)) []]:=by
 rw [kyE,if_pos h2,← List.map_take,← List.map_take,take_at' h,List.map_append];rfl
theorem kyE_len:(kyE n x).length≤n.fKeys.length:=by
 rw [kyE];split
 ·rw [List.length_map];exact Nat.le_refl _
 ·simp
theorem kyE_end(h:¬ k<n.fKeys.length):(kyE n x).take k=kyE n x:=List.take_of_length_le (by have:=kyE_len (n:=n) (x:=x);omega)
theorem kyE_non(h:¬ n.fKind=2):(kyE n x).take k=kyE n x:=by rw [kyE,if_neg h];simp
theorem ky_has(h2:n.fKind=2)(hp:kyB n x=true)(h:k<n.fKeys.length):0≤idx (ndP (at_ n.fKeys k)) x.fKids∧(idx (ndP (at_ n.fKeys k)) x.fKids).toNat<x.fKids.length:=by
 rw [kyB,h2] at hp
 have:=List.all_eq_true.1 hp _ (at_mem h)
 simp only [decide_eq_true_eq] at this
 exact ⟨this,(idx_hit this).1⟩
theorem ky_at(h2:n.fKind=2)(hp:kyB n x=true)(h:k<n.fKeys.length):at_ (kyL n x) k=kyT x (at_ n.fKeys k)∧(kyL n x).length=n.fKeys.length:=by
 have hp':=hp
 rw [kyB,h2] at hp
 rw [(ky_list h2 hp).1]
 exact ⟨at_mapF h,List.length_map _⟩
end
end Go.Dt
