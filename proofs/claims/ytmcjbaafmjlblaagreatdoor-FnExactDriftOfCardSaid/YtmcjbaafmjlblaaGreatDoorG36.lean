/-
  Part of a proof: ScD, ScE, Pl1, Tr0, Ct0, Tr1.
-/
import Derived.Test.YtmcjbaafmjlblaaGreatDoorG11
import Derived.Test.YtmcjbaafmjlblaaGreatDoorG14
import Derived.Test.YtmcjbaafmjlblaaGreatDoorG27
import Derived.Test.YtmcjbaafmjlblaaGreatDoorG28
import Derived.Test.YtmcjbaafmjlblaaGreatDoorG30
import Derived.Test.YtmcjbaafmjlblaaGreatDoorG35
set_option linter.unusedSimpArgs false
set_option linter.unusedVariables false
namespace Go.Proofs.YtmcjbaafmjlblaaGreatDoor
open Go.Ab Go.Dt
set_option maxRecDepth 20000
set_option maxHeartbeats 4000000
attribute [local go_sem] frzL_str encSchemaM_frz schAll schOne
theorem kT_own{l:List GSchema}{k:Nat}(h:k<l.length)(e:¬ idx (nmP (at_ l k).fName) l=k)(kind:Int)(fr:Bool)(p:Nat):kT l kind fr p=false:=by
 rw [kT,own_no h e];try rfl
theorem kT_dat{l:List GSchema}{k:Nat}(h:k<(dk l).length)(e:¬ idx (nmP (at_ (dk l) k).fName) (dk l)=k)(kind:Int)(fr:Bool)(p:Nat):kT l kind fr p=false:=by
 rw [kT,own_no h e];simp
theorem kT_kids{l:List GSchema}{k:Nat}{kind:Int}{fr:Bool}{p:Nat}(h:kS (l.drop k) kind fr p=false)(e:kS (l.drop k) kind fr p=kS l kind fr p):kT l kind fr p=false:=by
 rw [kT,← e,h];simp
theorem own_all{l:List GSchema}(h:∀ k<l.length,idx (nmP (at_ l k).fName) l=k):diffs (nmS l)=true:=by
 have:∀ n,n≤l.length→allTo (fun j=>!cont ((nmS l).take j) (at_ (nmS l) j)) n=true:=by
  intro n
  induction n with
  | zero=>intro _;rfl
  | succ n ih =>
   intro hn
   exact allTo_step (ih (by omega)) (by rw [(own_iff (by omega)).1 (h n (by omega))];try rfl)
 rw [diffs,nmS,List.length_map,← nmS]
 exact this _ (Nat.le_refl _)
theorem kT_end{l:List GSchema}{kind:Int}{fr:Bool}{p:Nat}(h1:∀ k<l.length,idx (nmP (at_ l k).fName) l=k)(h2:∀ k<(dk l).length,idx (nmP (at_ (dk l) k).fName) (dk l)=k)(h3:kS l kind fr p=true):kT l kind fr p=(decide (p≤8) || l.isEmpty):=by
 rw [kT,own_all h1,own_all h2,h3];simp
theorem own_step{P:Nat→Prop}{k:Nat}(h:∀ j<k,P j)(e:P k):∀ j<k+1,P j:=fun j hj=>by
 rcases Nat.lt_or_ge j k with q|q
 ·exact h j q
 ·rw [show j=k by omega];exact e
theorem sKids_n:∀ (n:Nat) (l:List GSchema) (kind:Int) (fr:Bool) (p:Nat),Ctr lim Tryz.prog 163 [] [.sl false 19 (l.map (encSchema false)),.v (.int .i64 kind),.v (.bool fr),.v (.int .i64 p)] (.v (.bool (kT l kind fr p))) [] (SizeOf.sizeOf l<n∧wtS l≤1048576∧p+depS l≤2097152)
 | 0,l,_,_,_=>⟨en163,fun h=>absurd h.1 (Nat.not_lt_zero _)⟩
 | n+1,l,kind,fr,p=>by
  have ih:=sKids_n n
  refine Ctr.of_body en163 Tryz.func163 rfl rfl fun hp=>(?_);rw [Tryz.ntmps163]
  have gOn:=GrOn.on
  obtain ⟨hs,hb,hq⟩:=hp
  have hc:=cnt_wtS l
  have hdl:=dk_len l
  refine AW.fact 0 fun hf=>?_
  simp (disch:=omega) only [go_sem] at hf
  (refine vU ?_;with_reducible repeat' first|exact Le.l|refine Sw ?_ ?_|intro h)
  refine AW.loopV [10] [0,1,2,3,9] (fun m xs o=>∃ k:Nat,xs=[.v (.int .i64 k)]∧o=[]∧m=l.length - k∧k≤l.length∧(∀ j<k,idx (nmP (at_ l j).fName) l=j)∧kS (l.drop k) kind fr p=kS l kind fr p) l.length [] trivial ⟨0,?_,rfl,rfl,?_,?_,rfl⟩ ?_
  ·rfl
  ·omega
  ·intro j hj;omega
  rintro m xs o ⟨k,rfl,rfl,rfl,hk,hW,hR⟩
  have hi:=idx_ge (nmP (at_ l k).fName) l
  have hj:=idx_lt (p:=nmP (at_ l k).fName) l
  (refine vK ?_;with_reducible repeat' first|exact Le.l|refine Sw ?_ ?_|intro h)
  (refine AW.i rfl (fun h=>?_) (fun h=>?_)<;>try simp only [hC,reduceCtorEq] at h)
  ·have hw:=wtS_kid (at_mem h)
   have hsz:=GSchema.kids_lt (at_mem h)
   have hS:=kS_at h kind fr p
   have hdp:=depS_kid (at_mem h)
   (refine vU ?_;with_reducible repeat' first|exact Le.l|refine Sw ?_ ?_|intro h)
   ·simp only [len_z] at h
    simp only [bne,beq_dec] at h
    rcases h with ((h|h)|h)|h
    ·rw [kT_own (by assumption) h]
    ·rw [kT_kids (k:=k) (by rw [hS];grind) hR]
    ·rw [kT_kids (k:=k) (by rw [hS,h];simp) hR]
    ·rw [kT_kids (k:=k) (by rw [hS,h];simp) hR]
   ·simp only [len_z] at h
    simp only [bne,beq_dec] at h
    refine ⟨_,[_],[],by omega,⟨k+1,rfl,rfl,rfl,by omega,own_step hW h.1.1.1,?_⟩,rfl,trivial⟩
    rw [← hR,hS];grind
  ·(refine vU ?_;with_reducible repeat' first|exact Le.l|refine Sw ?_ ?_|intro h)
   refine AW.loopV [12] [0,3,9] (fun m xs o=>∃ k:Nat,xs=[.v (.int .i64 k)]∧o=[]∧m=(dk l).length - k∧k≤(dk l).length∧(∀ j<k,idx (nmP (at_ (dk l) j).fName) (dk l)=j)) (dk l).length [] trivial ⟨0,?_,rfl,rfl,?_,?_⟩ ?_
   ·rfl
   ·omega
   ·intro j hj;omega
   rintro m xs o ⟨i,rfl,rfl,rfl,hi,hV⟩
   (refine vU ?_;with_reducible repeat' first|exact Le.l|refine Sw ?_ ?_|intro h)
   ·rw [kT_dat (by assumption) h]
   ·exact ⟨_,[_],[],by omega,⟨i+1,rfl,rfl,rfl,by omega,own_step hV h⟩,rfl,trivial⟩
   ·rw [kT_end (fun j hj=>hW j (by omega)) (fun j hj=>hV j (by omega)) (by rw [← hR,drop_end (by assumption),kS]),len_z,show decide ((p:Int)≤8)=decide (p≤8) from decide_eq_decide.2 (by omega)]
end Go.Proofs.YtmcjbaafmjlblaaGreatDoor
namespace Go.Proofs.YtmcjbaafmjlblaaGreatDoor
open Go.Ab Go.Dt
set_option maxRecDepth 20000
set_option maxHeartbeats 4000000
instance iKids_i(l:List GSchema)(kind:Int)(bd:Bool):Ctr lim Tryz.prog 171 [] [.sl false 19 (l.map (encSchema false)),.v (.int .i64 kind),.v (.bool bd)] (.v (.bool (kR l kind bd))) [] (wtS l≤1048576):=⟨en171,fun h=>(iKids_n (SizeOf.sizeOf l+1) l kind bd).out ⟨Nat.lt_succ_self _,h⟩⟩
instance sKids_i(l:List GSchema)(kind:Int)(fr:Bool):Ctr lim Tryz.prog 163 [] [.sl false 19 (l.map (encSchema false)),.v (.int .i64 kind),.v (.bool fr),.v (.int .i64 1)] (.v (.bool (kT l kind fr 1))) [] (wtS l≤1048576):=⟨en163,fun h=>(sKids_n (SizeOf.sizeOf l+1) l kind fr 1).out ⟨Nat.lt_succ_self _,h,by have:=dep_wtS l;omega⟩⟩
instance iIsSchema_i(l:List GSchema):Ctr lim Tryz.prog 131 [] [.sl false 19 (l.map (encSchema false))] (.v (.bool (isSchema l))) [] (wtS l≤1048576):=by
 refine Ctr.of_body en131 Tryz.func131 rfl rfl fun hp=>(?_);rw [Tryz.ntmps131]
 have gOn:=GrOn.on
 have h1:=cnt_wtS l
 have h2:=dep_wtS l
 (refine vU ?_;with_reducible repeat' first|exact Le.l|refine Sw ?_ ?_|intro h)
 refine congrArg (fun b=>AV.v (.bool b)) ?_
 rw [isSchema,show decide ((cntS l:Int)≤60)=decide (cntS l≤60) from decide_eq_decide.2 (by omega),show decide ((depS l:Int)≤8)=decide (depS l≤8) from decide_eq_decide.2 (by omega)]
instance sIsSchema_i(l:List GSchema):Ctr lim Tryz.prog 126 [] [.sl false 19 (l.map (encSchema false))] (.v (.bool (isSchema l))) [] (wtS l≤1048576):=by
 refine Ctr.of_body en126 Tryz.func126 rfl rfl fun hp=>(?_);rw [Tryz.ntmps126]
 have gOn:=GrOn.on
 have h1:=cnt_wtS l
 (refine vU ?_;with_reducible repeat' first|exact Le.l|refine Sw ?_ ?_|intro h)
 rw [isSchema_spec]
end Go.Proofs.YtmcjbaafmjlblaaGreatDoor
namespace Go.Proofs.YtmcjbaafmjlblaaGreatDoor
open Go.Ab Go.Dt
set_option maxRecDepth 20000
set_option maxHeartbeats 4000000
end Go.Proofs.YtmcjbaafmjlblaaGreatDoor
namespace Go.Dt
open Go Go.Ab
def ndP(n:Str)(x:GNode):Bool:=x.fName == n
def kyB(n:GSchema)(x:GNode):Bool:=!decide (n.fKind=2) || n.fKeys.all (fun k=>decide (0≤idx (ndP k) x.fKids))
def kyL(n:GSchema)(x:GNode):List Str:=if n.fKind=2 then (if kyB n x=true then n.fKeys.map (fun k=>(at_ x.fKids (idx (ndP k) x.fKids).toNat).fValue) else []) else [x.fValue]
def lessL:List Str→List Str→Bool
 | [],[]=>false
 | [],_::_=>true
 | _::_,[]=>false
 | x::xs,y::ys=>if x=y then lessL xs ys else Op.bytesLess x y
def cmpS(a b:Str):Int:=if Op.bytesLess a b=true then -1 else if a=b then 0 else 1
def cmpL:List Str→List Str→Int
 | [],[]=>0
 | [],_::_=>-1
 | _::_,[]=>1
 | x::xs,y::ys=>if cmpS x y=0 then cmpL xs ys else cmpS x y
theorem less_self:∀ a:Str,Op.bytesLess a a=false
 | []=>by simp [Op.bytesLess]
 | x::xs=>by simp [Op.bytesLess,less_self xs]
theorem cmpS_0(a b:Str):cmpS a b=0↔a=b:=by
 unfold cmpS
 constructor
 ·intro h
  split at h
  ·omega
  ·split at h
   ·assumption
   ·omega
 ·rintro rfl;simp [less_self]
theorem cmp_less:∀ a b:List Str,lessL a b=decide (cmpL a b<0)
 | [],[]=>by simp [lessL,cmpL]
 | [],_::_=>by simp [lessL,cmpL]
 | _::_,[]=>by simp [lessL,cmpL]
 | x::xs,y::ys=>by
  rw [lessL,cmpL]
  by_cases h:x=y
  ·rw [if_pos h,if_pos ((cmpS_0 _ _).2 h),cmp_less xs ys]
  ·rw [if_neg h,if_neg (fun c=>h ((cmpS_0 _ _).1 c)),cmpS]
   cases Op.bytesLess x y<;>simp [h]
def rowK(k:Int):Bool:=decide (k=2) || decide (k=4)
def ordS(n:GSchema)(a b:GNode):Int:=if rowK n.fKind=true then cmpL (kyL n a) (kyL n b) else 0
def befS(d:List GSchema)(a b:GNode):Bool :=
 if idx (nmP a.fName) d=idx (nmP b.fName) d∧rowK (at_ d (idx (nmP b.fName) d).toNat).fKind=true then lessL (kyL (at_ d (idx (nmP b.fName) d).toNat) a) (kyL (at_ d (idx (nmP b.fName) d).toNat) b) else decide (idx (nmP a.fName) d<idx (nmP b.fName) d)
def befO(d:List GSchema):Option GNode→GNode→Bool
 | none,_=>true
 | some a,b=>befS d a b
def okL(d:List GSchema):Option GNode→List GNode→Bool
 | _,[]=>true
 | p,.mk nm v ks::xs =>
  decide (0≤idx (nmP nm) d) &&
  (let n:=at_ d (idx (nmP nm) d).toNat
   if n.fKind=3∨n.fKind=4 then ks.isEmpty && isVal n.fType v
   else if n.fKind=2 then kyB n (.mk nm v ks) && v.isEmpty && okL (dk n.fKids) none ks
   else v.isEmpty && (n.fPresent || !ks.isEmpty) && okL (dk n.fKids) none ks) &&
  befO d p (.mk nm v ks) && okL d (some (.mk nm v ks)) xs
def okN(n:GSchema)(x:GNode):Bool :=
 if n.fKind=3∨n.fKind=4 then x.fKids.isEmpty && isVal n.fType x.fValue
 else if n.fKind=2 then kyB n x && x.fValue.isEmpty && okL (dk n.fKids) none x.fKids
 else x.fValue.isEmpty && (n.fPresent || !x.fKids.isEmpty) && okL (dk n.fKids) none x.fKids
theorem okL_cons(d:List GSchema)(p:Option GNode)(x:GNode)(xs:List GNode):okL d p (x::xs)=(decide (0≤idx (nmP x.fName) d) && okN (at_ d (idx (nmP x.fName) d).toNat) x && befO d p x && okL d (some x) xs):=by
 cases x;rw [okL];rfl
def prv(l:List GNode):Nat→Option GNode
 | 0=>none
 | k+1=>some (at_ l k)
theorem okL_at{d:List GSchema}{l:List GNode}{k:Nat}(h:k<l.length):okL d (prv l k) (l.drop k)=(decide (0≤idx (nmP (at_ l k).fName) d) && okN (at_ d (idx (nmP (at_ l k).fName) d).toNat) (at_ l k) && befO d (prv l k) (at_ l k) && okL d (prv l (k+1)) (l.drop (k+1))):=by
 rw [at_drop h,okL_cons];rfl
def lastI(d:List GSchema)(l:List GNode)(k:Nat):Int:=match prv l k with
 | none=>-1
 | some a=>idx (nmP a.fName) d
def isTree(s:List GSchema)(l:List GNode):Bool:=isSchema s && decide (cnt l≤120) && okL (dk s) none l
theorem dk_data:∀ (l:List GSchema),∀ y∈dk l,isDataK y.fKind=true
 | [],y,h=>by simp [dk] at h
 | .mk k a b c d e f g h i j l m n ks::xs,y,hy=>by
  rw [dk,List.mem_append] at hy
  rcases hy with hy|hy
  ·split at hy
   ·rename_i h1;rw [List.mem_singleton] at hy;subst hy;exact h1
   ·split at hy
    ·exact dk_data ks y hy
    ·simp at hy
  ·exact dk_data xs y hy
theorem dk_wt:∀ (l:List GSchema),∀ y∈dk l,1+y.fDefault.length+wtS y.fKids≤wtS l
 | [],y,h=>by simp [dk] at h
 | .mk k a b c d e f g h i j l m n ks::xs,y,hy=>by
  rw [dk,List.mem_append] at hy
  rcases hy with hy|hy
  ·split at hy
   ·rename_i h1;rw [List.mem_singleton] at hy;subst hy;simp only [wtS,GSchema.fKids,GSchema.fDefault];omega
   ·split at hy
    ·have:=dk_wt ks y hy;simp only [wtS];omega
    ·simp at hy
  ·have:=dk_wt xs y hy;simp only [wtS];omega
theorem nms_idx(d:List GSchema)(n:Str):idx (fun x=>x == n) (nmS d)=idx (nmP n) d:=by
 rw [nmS,← idx_map GSchema.fName (fun x=>x == n)];rfl
end Go.Dt
namespace Go.Dt
open Go Go.Ab
def cutX:List Str→List GSchema→GNode→List GNode
 | [],_,x=>[x]
 | c::cs,s,x =>
  if x.fName=c then
   (if cs=[] then [x] else
    (let n:=at_ (dk s) (idx (nmP x.fName) (dk s)).toNat
     if n.fKind=1∨n.fKind=2 then
     (let kids:=x.fKids.flatMap fun k=>if cont n.fKeys k.fName=true then [k] else cutX cs n.fKids k
      if n.fKind=1∧n.fPresent=false∧kids=[] then [] else [.mk x.fName [] kids])
     else []))
  else []
def cutS:List Str→List GSchema→List Str→GNode→List GNode
 | [],_,_,x=>[x]
 | c::cs,d,keys,x =>
  let n:=at_ d (idx (nmP x.fName) d).toNat
  if ¬ n.fName=c∨(n.fKind=3∨n.fKind=4)∧¬ cs=[] then (if cont keys n.fName=true then [x] else [])
  else (let kids:=x.fKids.flatMap (cutS cs (dk n.fKids) n.fKeys)
   if ¬ n.fKind=1∨n.fPresent=true∨¬ kids=[] then [.mk n.fName x.fValue kids] else [])
def okX(d:List GSchema)(x:GNode):Prop:=0≤idx (nmP x.fName) d∧okN (at_ d (idx (nmP x.fName) d).toNat) x=true
theorem okL_mem:∀ {l:List GNode} {d:List GSchema} {p:Option GNode},okL d p l=true→∀ x∈l,okX d x
 | y::l,d,p,h,x,hx=>by
  rw [okL_cons] at h
  simp only [Bool.and_eq_true,decide_eq_true_eq] at h
  rcases List.mem_cons.1 hx with rfl|hx
  ·exact ⟨h.1.1.1,h.1.1.2⟩
  ·exact okL_mem h.2 x hx
def gdS(s:List GSchema):Prop:=diffs (nmS (dk s))=true∧∃ kind bd,kA s kind bd=true
theorem dk_mem:∀ {l:List GSchema} {m:GSchema},m∈l→isDataK m.fKind=true→m∈dk l
 | x::xs,m,h,hk=>by
  rw [dk_cons,List.mem_append]
  rcases List.mem_cons.1 h with rfl|h
  ·rw [if_pos hk];simp
  ·exact .inr (dk_mem h hk)
theorem kA_dk:∀ (l:List GSchema) (kind:Int) (bd:Bool),kA l kind bd=true→∀ n∈dk l,(∃ kd b,oneI kd b n=true)∧gdS n.fKids
 | [],_,_,_,n,h=>by simp [dk] at h
 | .mk k a b c d e f g h i j l m nn ks::xs,kind,bd,hA,n,hn=>by
  rw [dk,List.mem_append] at hn
  rw [kA] at hA
  simp only [Bool.and_eq_true] at hA
  rcases hn with hn|hn
  ·split at hn
   ·rename_i hk
    rw [List.mem_singleton] at hn
    subst hn
    refine ⟨⟨_,_,hA.1.1⟩,?_,_,_,hA.1.2.2⟩
    have:=hA.1.2.1
    simp only [diffI,Bool.and_eq_true,Bool.or_eq_true,decide_eq_true_eq] at this
    simp only [isDataK,Bool.and_eq_true,decide_eq_true_eq] at hk
    rcases this.2 with (h|h)|h
    ·omega
    ·omega
    ·exact h
   ·split at hn
    ·exact kA_dk ks _ _ hA.1.2.2 n hn
    ·simp at hn
  ·exact kA_dk xs _ _ hA.2 n hn
theorem gd_kid{s:List GSchema}(h:gdS s){n:GSchema}(hn:n∈dk s):gdS n.fKids∧(¬ n.fKind=2→n.fKeys=[])∧∀ k∈n.fKeys,∃ m∈dk n.fKids,m.fName=k∧m.fKind=3:=by
 obtain ⟨_,kind,bd,hA⟩:=h
 obtain ⟨⟨kd,b,ho⟩,hg⟩:=kA_dk s kind bd hA n hn
 refine ⟨hg,fun h2=>?_,fun k hk=>?_⟩
 ·simp only [oneI,aloneI,shapeI,Bool.and_eq_true,Bool.or_eq_true,decide_eq_true_eq] at ho
  have:=ho.1.1.1.1.1.2.1.1.1.1.1.1.1.2
  rcases this with h|h
  ·exact absurd h h2
  ·exact List.isEmpty_iff.1 h.1
 ·simp only [oneI,Bool.and_eq_true] at ho
  have:=List.all_eq_true.1 ho.1.2 k hk
  simp only [keyI,Bool.and_eq_true,decide_eq_true_eq] at this
  obtain ⟨h1,h2,h3⟩:=idx_hit this.1
  simp only [leafS,Bool.and_eq_true,beq_iff_eq,decide_eq_true_eq] at h2
  exact ⟨_,dk_mem h3 (by rw [h2.2];rfl),h2.1,h2.2⟩
theorem okX_at{d:List GSchema}{x:GNode}(h:okX d x):(at_ d (idx (nmP x.fName) d).toNat).fName=x.fName∧at_ d (idx (nmP x.fName) d).toNat∈d:=by
 obtain ⟨h1,h2,h3⟩:=idx_hit h.1
 simp only [nmP,beq_iff_eq] at h2
 exact ⟨h2,h3⟩
theorem okN_kids{n:GSchema}{x:GNode}(h:okN n x=true)(hk:¬ (n.fKind=3∨n.fKind=4)):x.fValue=[]∧okL (dk n.fKids) none x.fKids=true∧(¬ n.fKind=2→n.fPresent=true∨¬ x.fKids=[]):=by
 rw [okN,if_neg hk] at h
 split at h
 ·rename_i h2
  simp only [Bool.and_eq_true] at h
  exact ⟨List.isEmpty_iff.1 h.1.2,h.2,fun c=>absurd h2 c⟩
 ·simp only [Bool.and_eq_true,Bool.or_eq_true,Bool.not_eq_true'] at h
  refine ⟨List.isEmpty_iff.1 h.1.1,h.2,fun _=>?_⟩
  rcases h.1.2 with c|c
  ·exact .inl c
  ·refine .inr fun e=>?_
   rw [e] at c;simp at c
theorem tree_gd{s:List GSchema}(h:isSchema s=true):gdS s:=by
 simp only [isSchema,kR,diffI,Bool.and_eq_true,Bool.or_eq_true,decide_eq_true_eq] at h
 refine ⟨?_,_,_,h.2.2⟩
 rcases h.2.1.2 with (h|h)|h<;>first|exact h|(exact absurd h (by decide))
theorem flat_le{α β:Type}{f:α→List β}(h:∀ x,(f x).length≤1):∀ l:List α,(l.flatMap f).length≤l.length
 | []=>by simp
 | x::xs=>by rw [List.flatMap_cons,List.length_append,List.length_cons];have:=h x;have:=flat_le h xs;omega
end Go.Dt
namespace Go.Dt
open Go Go.Ab
theorem cmpS_rng(a b:Str):-1≤cmpS a b∧cmpS a b≤1:=by unfold cmpS;repeat' split<;>omega
theorem cmpL_at{a b:List Str}{i:Nat}(h1:i<a.length)(h2:i<b.length):cmpL (a.drop i) (b.drop i)=if cmpS (at_ a i) (at_ b i)=0 then cmpL (a.drop (i+1)) (b.drop (i+1)) else cmpS (at_ a i) (at_ b i):=by
 rw [at_drop h1,at_drop h2,cmpL]
theorem cmpL_r{a b:List Str}{i:Nat}(h1:i<a.length)(h2:¬ i<b.length):cmpL (a.drop i) (b.drop i)=1:=by
 rw [at_drop h1,drop_end h2,cmpL]
theorem cmpL_e{a b:List Str}{i:Nat}(h1:¬ i<a.length):cmpL (a.drop i) (b.drop i)=if i<b.length then -1 else 0:=by
 rw [drop_end h1]
 split
 ·rw [at_drop (by assumption),cmpL]
 ·rw [drop_end (by assumption),cmpL]
theorem lessL_at{a b:List Str}{i:Nat}(h1:i<a.length)(h2:i<b.length):lessL (a.drop i) (b.drop i)=if at_ a i=at_ b i then lessL (a.drop (i+1)) (b.drop (i+1)) else Op.bytesLess (at_ a i) (at_ b i):=by
 rw [at_drop h1,at_drop h2,lessL]
theorem lessL_e{a b:List Str}{i:Nat}(h0:i≤a.length)(h0':i≤b.length)(h1:¬ (i<a.length∧i<b.length)):lessL (a.drop i) (b.drop i)=decide (a.length<b.length):=by
 by_cases h:i<a.length
 ·have:¬ i<b.length:=fun c=>h1 ⟨h,c⟩
  rw [at_drop h,drop_end this,lessL,eq_comm,decide_eq_false_iff_not];omega
 ·rw [drop_end h]
  by_cases h2:i<b.length
  ·rw [at_drop h2,lessL,eq_comm,decide_eq_true_eq];omega
  ·rw [drop_end h2,lessL,eq_comm,decide_eq_false_iff_not];omega
theorem flat_step{α β:Type}[Inhabited α]{f:α→List β}{l:List α}{k:Nat}(h:k<l.length):(l.take (k+1)).flatMap f=(l.take k).flatMap f++f (at_ l k):=by
 rw [take_at' h,List.flatMap_append];simp
theorem flat_take_le{α β:Type}{f:α→List β}(h:∀ x,(f x).length≤1)(l:List α)(k:Nat):((l.take k).flatMap f).length≤k:=by
 have:=flat_le h (l.take k);rw [List.length_take] at this;omega
def kyT(x:GNode)(k:Str):Str:=(at_ x.fKids (idx (ndP k) x.fKids).toNat).fValue
def hasK(x:GNode)(k:Str):Bool:=decide (0≤idx (ndP k) x.fKids)
theorem ky_list{n:GSchema}{x:GNode}(h:n.fKind=2)(hk:n.fKeys.all (hasK x)=true):kyL n x=n.fKeys.map (kyT x)∧kyB n x=true:=by
 have e:kyB n x=true:=by rw [kyB,h];exact hk
 refine ⟨?_,e⟩
 rw [kyL,if_pos h,if_pos e];rfl
theorem ky_miss{n:GSchema}{x:GNode}(h:n.fKind=2)(hk:n.fKeys.all (hasK x)=false):kyL n x=[]∧kyB n x=false:=by
 have e:kyB n x=false:=by rw [kyB,h];exact hk
 refine ⟨?_,e⟩
 rw [kyL,if_pos h,if_neg (by rw [e];simp)]
theorem ky_one{n:GSchema}{x:GNode}(h:¬ n.fKind=2):kyL n x=[x.fValue]∧kyB n x=true:=by
 refine ⟨by rw [kyL,if_neg h],?_⟩
 rw [kyB];simp [h]
section
variable {d : List GSchema} {l : List GNode} {k : Nat}
theorem bef_eq(h0:0≤idx (nmP (at_ l k).fName) d):befO d (prv l k) (at_ l k)=(decide (lastI d l k<idx (nmP (at_ l k).fName) d) || decide (idx (nmP (at_ l k).fName) d=lastI d l k) && decide (ordS (at_ d (idx (nmP (at_ l k).fName) d).toNat) (at_ l ((k:Int) - 1).toNat) (at_ l k)<0)):=by
 cases k with
 | zero=>rw [show lastI d l 0 = -1 from rfl,show befO d (prv l 0) (at_ l 0)=true from rfl,show decide (-1<idx (nmP (at_ l 0).fName) d)=true by simp;omega];rfl
 | succ k =>
  rw [show (((k+1:Nat):Int) - 1).toNat=k by omega,show lastI d l (k+1)=idx (nmP (at_ l k).fName) d from rfl,show befO d (prv l (k+1)) (at_ l (k+1))=befS d (at_ l k) (at_ l (k+1)) from rfl,befS,ordS]
  by_cases e:idx (nmP (at_ l k).fName) d=idx (nmP (at_ l (k+1)).fName) d
  ·by_cases r:rowK (at_ d (idx (nmP (at_ l (k+1)).fName) d).toNat).fKind=true
   ·rw [if_pos ⟨e,r⟩,if_pos r,cmp_less,e];simp
   ·rw [if_neg (fun c=>r c.2),if_neg r,e];simp
  ·rw [if_neg (fun c=>e c.1),show decide (idx (nmP (at_ l (k+1)).fName) d=idx (nmP (at_ l k).fName) d)=false by simp;exact fun c=>e c.symm];simp
theorem okL_bad(hk:k<l.length)(h:idx (nmP (at_ l k).fName) d<0∨idx (nmP (at_ l k).fName) d<lastI d l k):okL d (prv l k) (l.drop k)=false:=by
 rw [okL_at hk]
 by_cases h0:0≤idx (nmP (at_ l k).fName) d
 ·rw [bef_eq h0]
  have h1:idx (nmP (at_ l k).fName) d<lastI d l k:=by omega
  rw [show decide (lastI d l k<idx (nmP (at_ l k).fName) d)=false by simp;omega,show decide (idx (nmP (at_ l k).fName) d=lastI d l k)=false by simp;omega];simp
 ·rw [show decide (0≤idx (nmP (at_ l k).fName) d)=false by simp;omega];rfl
theorem okL_bad2(hk:k<l.length)(h0:0≤idx (nmP (at_ l k).fName) d)(h:okN (at_ d (idx (nmP (at_ l k).fName) d).toNat) (at_ l k)=false∨idx (nmP (at_ l k).fName) d=lastI d l k∧0≤ordS (at_ d (idx (nmP (at_ l k).fName) d).toNat) (at_ l ((k:Int) - 1).toNat) (at_ l k)):okL d (prv l k) (l.drop k)=false:=by
 rw [okL_at hk,bef_eq h0]
 rcases h with h|⟨h1,h2⟩
 ·rw [h];simp
 ·rw [show decide (lastI d l k<idx (nmP (at_ l k).fName) d)=false by simp;omega,show decide (ordS (at_ d (idx (nmP (at_ l k).fName) d).toNat) (at_ l ((k:Int) - 1).toNat) (at_ l k)<0)=false by rw [decide_eq_false_iff_not];omega];simp
theorem okL_good(hk:k<l.length)(h0:0≤idx (nmP (at_ l k).fName) d)(h1:lastI d l k≤idx (nmP (at_ l k).fName) d)(h2:okN (at_ d (idx (nmP (at_ l k).fName) d).toNat) (at_ l k)=true)(h3:idx (nmP (at_ l k).fName) d=lastI d l k→ordS (at_ d (idx (nmP (at_ l k).fName) d).toNat) (at_ l ((k:Int) - 1).toNat) (at_ l k)<0):okL d (prv l k) (l.drop k)=okL d (prv l (k+1)) (l.drop (k+1)):=by
 rw [okL_at hk,bef_eq h0,h2,show decide (0≤idx (nmP (at_ l k).fName) d)=true by simpa using h0]
 by_cases e:idx (nmP (at_ l k).fName) d=lastI d l k
 ·rw [show decide (ordS (at_ d (idx (nmP (at_ l k).fName) d).toNat) (at_ l ((k:Int) - 1).toNat) (at_ l k)<0)=true by rw [decide_eq_true_eq];exact h3 e,show decide (idx (nmP (at_ l k).fName) d=lastI d l k)=true by simpa using e];simp
 ·rw [show decide (lastI d l k<idx (nmP (at_ l k).fName) d)=true by rw [decide_eq_true_eq];omega];simp
theorem lastI_ge:-1≤lastI d l k:=by
 cases k with
 | zero=>exact Int.le_refl _
 | succ k=>exact idx_ge _ _
theorem lastI_lt:lastI d l k<d.length:=by
 cases k with
 | zero=>rw [show lastI d l 0 = -1 from rfl];omega
 | succ k=>exact idx_lt _
end
end Go.Dt
