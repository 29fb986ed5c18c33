/-
  Part of a proof: Cv1, Vl0, Sc6p, Sk0.
-/
import Derived.Test.YtmcjbaafmjlblaaGreatDoorG12
import Derived.Test.YtmcjbaafmjlblaaGreatDoorG21
import Derived.Test.YtmcjbaafmjlblaaGreatDoorG24
set_option linter.unusedSimpArgs false
set_option linter.unusedVariables false
namespace Go.Dt
open Go.Ab
def cvB(x:GType)(s:Str):Bool:=isType isPat x && cvO mtchT x s
def cvS(x:GType)(s:Str):Str:=bif cvB x s then cvT x s else []
theorem cv_no{x:GType}{s:Str}(h:cvB x s=false):AV.tup [.str [],.v (.bool false)]=.tup [.str (cvS x s),.v (.bool (cvB x s))]:=by rw [cvS,h];rfl
theorem cv_yes{x:GType}{s t:Str}(h:cvB x s=true)(e:cvT x s=t):AV.tup [.str t,.v (.bool true)]=.tup [.str (cvS x s),.v (.bool (cvB x s))]:=by rw [cvS,h,← e];rfl
theorem cont_step{l:List Str}{k:Nat}{s:Str}(h:k<l.length):(cont (l.take k) s || at_ l k == s)=cont (l.take (k+1)) s:=by
 have e:l.take (k+1)=l.take k++[at_ l k]:=by
  rw [List.take_succ_eq_append_getElem h]
  unfold at_;rw [List.getElem?_eq_getElem h];rfl
 rw [Bool.eq_iff_iff,Bool.or_eq_true,cont_iff,cont_iff,e]
 rw [List.mem_append,List.mem_singleton,beq_iff_eq,eq_comm (a:=at_ l k)]
end Go.Dt
namespace Go.Proofs.YtmcjbaafmjlblaaGreatDoor
open Go.Ab Go.Dt
set_option maxRecDepth 20000
set_option maxHeartbeats 4000000
instance iCanonValue_i(x:GType)(s:Str):Ctr lim Tryz.prog 224 [] [.agg [.v (.int .i64 x.fKind),.sl false 2 (x.fRanges.map (encRange false)),.sl false 1 (x.fNames.map AV.str),.str x.fPattern,.str x.fPath],.str s] (.tup [.str (cvS x s),.v (.bool (cvB x s))]) [] (s.length≤1048576):=by
 have hr:=read_le s
 refine Ctr.of_body en224 Tryz.func224 rfl rfl fun hp=>(?_);rw [Tryz.ntmps224]
 (repeat' first|(with_reducible first|refine Z ?_|refine Y ?_|(refine hK _ _ ?_;clear hK K)|refine And.intro ?_ ?_|exact Ct|intro (K:_→_→Prop) hK|(refine gI fun hg=>?_;try simp only [hC,reduceCtorEq] at hg;try simp only [hg]))|(refine AW.i rfl (fun h=>?_) (fun h=>?_)<;>try simp only [hC,reduceCtorEq] at h)|((with_reducible refine E ?_;repeat refine Y ?_);refine eF rfl ?_)|simp (disch:=omega) only [go_sem,cond_true]|(with_reducible intro hg;try simp only [hC,reduceCtorEq] at hg)|exact Cl|fail)
 all_goals try first|(refine cv_no ?_;simp_all [cvB,cvO,boolS,trueS,falseS];done)|(refine cv_yes ?_ ?_<;>simp_all [cvB,cvO,cvT,boolS,trueS,falseS];done)
 all_goals trace_state
instance sCanonValue_i(x:GType)(s:Str):Ctr lim Tryz.prog 212 [] [.agg [.v (.int .i64 x.fKind),.sl false 2 (x.fRanges.map (encRange false)),.sl false 1 (x.fNames.map AV.str),.str x.fPattern,.str x.fPath],.str s] (.tup [.str (cvS x s),.v (.bool (cvB x s))]) [] (s.length≤1048576):=by
 have hr:=read_le s
 refine Ctr.of_body en212 Tryz.func212 rfl rfl fun hp=>(?_);rw [Tryz.ntmps212]
 (repeat' first|(with_reducible first|refine Z ?_|refine Y ?_|(refine hK _ _ ?_;clear hK K)|refine And.intro ?_ ?_|exact Ct|intro (K:_→_→Prop) hK|(refine gI fun hg=>?_;try simp only [hC,reduceCtorEq] at hg;try simp only [hg]))|(refine AW.i rfl (fun h=>?_) (fun h=>?_)<;>try simp only [hC,reduceCtorEq] at h)|((with_reducible refine E ?_;repeat refine Y ?_);refine eF rfl ?_)|simp (disch:=omega) only [go_sem,cond_true]|(with_reducible intro hg;try simp only [hC,reduceCtorEq] at hg)|exact Cl|fail)
 all_goals try first|(refine cv_no ?_;cases e:isType isPat x<;>simp_all [cvB,cvO,boolS,trueS,falseS];done)|(refine cv_yes ?_ ?_<;>simp_all [cvB,cvO,cvT,boolS,trueS,falseS];done)
 refine AW.fact 0 fun hf=>?_
 simp (disch:=omega) only [go_sem,Nat.reduceBEq] at hf
 refine AW.loopV [7,10] [1,2,6] (fun m xs o=>∃ k:Nat,xs=[.v (.bool (cont (x.fNames.take k) s)),.v (.int .i64 k)]∧o=[]∧m=x.fNames.length - k∧k≤x.fNames.length) x.fNames.length [] trivial ⟨0,?_,rfl,rfl,?_⟩ ?_
 ·rfl
 ·omega
 rintro m xs o ⟨k,rfl,rfl,rfl,hk⟩
 (repeat' first|(with_reducible first|refine Z ?_|refine Y ?_|(refine hK _ _ ?_;clear hK K)|refine And.intro ?_ ?_|exact Ct|intro (K:_→_→Prop) hK|(refine gI fun hg=>?_;try simp only [hC,reduceCtorEq] at hg;try simp only [hg]))|(refine AW.i rfl (fun h=>?_) (fun h=>?_)<;>try simp only [hC,reduceCtorEq] at h)|((with_reducible refine E ?_;repeat refine Y ?_);refine eF rfl ?_)|simp (disch:=omega) only [go_sem,cond_true]|(with_reducible intro hg;try simp only [hC,reduceCtorEq] at hg)|exact Cl|fail)
 ·exact ⟨_,[_,_],[],by omega,⟨k+1,rfl,rfl,rfl,by omega⟩,by rw [cont_step (by assumption)];rfl,trivial⟩
 ·rw [List.take_of_length_le (by omega)] at h
  refine cv_no ?_
  cases e:isType isPat x<;>simp_all [cvB,cvO]
 ·rw [List.take_of_length_le (by omega)] at h
  refine cv_yes ?_ ?_<;>simp_all [cvB,cvO,cvT]
 ·refine cv_no ?_
  cases e:isType isPat x<;>by_cases e2:s=[]<;>simp_all [cvB,cvO]
end Go.Proofs.YtmcjbaafmjlblaaGreatDoor
namespace Go.Dt
open Go Go.Ab
def isVal(x:GType)(s:Str):Bool:=cvB x s && cvS x s == s
end Go.Dt
namespace Go.Dt
open Go Go.Ab
def leftS:List GSchema→Int→Int
 | [],q=>q
 | .mk _ _ _ _ _ _ _ _ _ _ _ _ _ _ ks::xs,q=>if q<0 then q else leftS xs (leftS ks (q - ks.length))
theorem leftS_at{l:List GSchema}{k:Nat}(h:k<l.length)(q:Int):leftS (l.drop k) q=if q<0 then q else leftS (l.drop (k+1)) (leftS (at_ l k).fKids (q - (at_ l k).fKids.length)):=by
 rw [at_drop h];cases at_ l k;rw [leftS];rfl
theorem leftS_neg(l:List GSchema){q:Int}(h:q<0):leftS l q=q:=by
 cases l with
 | nil=>rw [leftS]
 | cons x xs=>cases x;simp only [leftS];rw [if_pos h]
theorem leftS_le:∀ (l:List GSchema) (q:Int),leftS l q≤q
 | [],q=>by simp [leftS]
 | .mk _ _ _ _ _ _ _ _ _ _ _ _ _ _ ks::xs,q=>by
  have h1:=leftS_le ks (q - ks.length)
  have h2:=leftS_le xs (leftS ks (q - ks.length))
  simp only [leftS];split<;>omega
theorem len_cntS:∀ (l:List GSchema),l.length≤cntS l
 | []=>by simp
 | .mk _ _ _ _ _ _ _ _ _ _ _ _ _ _ ks::xs=>by have:=len_cntS xs;simp only [cntS,List.length_cons];omega
theorem leftS_ge:∀ (l:List GSchema) (q:Int),-4611686018427387904≤q→cntS l≤1048576→-4611686018427387904≤leftS l q
 | [],q,h,_=>by simpa [leftS] using h
 | .mk _ _ _ _ _ _ _ _ _ _ _ _ _ _ ks::xs,q,h,hw=>by
  simp only [leftS]
  simp only [cntS] at hw
  split
  ·exact h
  ·have e2:=len_cntS ks
   exact leftS_ge xs _ (leftS_ge ks _ (by omega) (by omega)) (by omega)
theorem leftS_eq:∀ (l:List GSchema) (q:Int),0≤q→(0≤leftS l q↔(cntS l:Int) - l.length≤q)∧((cntS l:Int) - l.length≤q→leftS l q=q - (cntS l - l.length))
 | [],q,h=>by simp only [leftS,cntS,List.length_nil];omega
 | .mk _ _ _ _ _ _ _ _ _ _ _ _ _ _ ks::xs,q,h=>by
  simp only [leftS,cntS,List.length_cons]
  have e1:=len_cntS ks
  have e2:=len_cntS xs
  rw [if_neg (by omega)]
  rcases Int.lt_or_le (q - ks.length) 0 with h1|h1
  ·rw [leftS_neg ks h1,leftS_neg xs h1];omega
  ·have h2:=leftS_eq ks _ h1
   rcases Int.lt_or_le (leftS ks (q - ks.length)) 0 with h3|h3
   ·rw [leftS_neg xs h3];omega
   ·have h4:=leftS_eq xs _ h3
    have h5:=h2.2 (h2.1.1 h3)
    rw [h5] at h3 h4 ⊢
    omega
theorem left_60(l:List GSchema):decide (0≤leftS l (60 - l.length))=decide (cntS l≤60):=by
 have e:=len_cntS l
 refine decide_eq_decide.2 ?_
 rcases Int.lt_or_le (60 - (l.length:Int)) 0 with h|h
 ·rw [leftS_neg l h];omega
 ·have:=(leftS_eq l _ h).1;omega
end Go.Dt
namespace Go.Dt
open Go Go.Ab
def baseR(n:GSchema):Bool:=isName n.fName && exS n.fWhen 1 && exS n.fMust 3
def tyB(t:GType):Bool:=isType isPat t
def shapeI(n:GSchema):Bool :=
 (decide (n.fKind=3) || decide (n.fKind=4) || noTy n.fType) &&
 (decide (n.fKind=2) || n.fKeys.isEmpty && n.fUnique.isEmpty) &&
 (decide (n.fKind=3) || n.fDefault.isEmpty && !n.fGiven && !n.fFixed) &&
 (decide (n.fKind=3) || decide (n.fKind=5) || !n.fNeeded) &&
 (decide (n.fKind=1) || !n.fPresent) &&
 (decide (n.fKind=2) || decide (n.fKind=4) || decide (n.fMin=0) && decide (n.fMax=0)) &&
 (isDataK n.fKind || n.fMust.isEmpty) &&
 (!(decide (n.fKind=3) || decide (n.fKind=4)) || n.fKids.isEmpty)
def kindI(n:GSchema):Bool :=
 if n.fKind=1∨n.fKind=5∨n.fKind=6 then true
 else if n.fKind=2 then decide (1≤n.fKeys.length) && decide (n.fKeys.length≤3) && diffs n.fKeys && names n.fKeys && decide (n.fUnique.length≤3) && diffs n.fUnique && names n.fUnique && sizeR n
 else if n.fKind=3 then tyB n.fType && !(n.fGiven && (n.fNeeded || !n.fWhen.isEmpty)) && (n.fGiven && isVal n.fType n.fDefault || !n.fGiven && n.fDefault.isEmpty)
 else if n.fKind=4 then tyB n.fType && sizeR n
 else if n.fKind=7 then n.fWhen.isEmpty && n.fKids.isEmpty
 else false
def aloneI(n:GSchema):Bool:=baseR n && (shapeI n && kindI n)
def leafS(n:Str)(x:GSchema):Bool:=x.fName == n && decide (x.fKind=3)
def keyR(y:GSchema):Bool:=y.fWhen.isEmpty && !y.fGiven && !decide (y.fType.fKind=6)
def keyI(ks:List GSchema)(k:Str):Bool:=decide (0≤idx (leafS k) ks) && keyR (at_ ks (idx (leafS k) ks).toNat)
def unqI(ks:List GSchema)(k:Str):Bool:=decide (0≤idx (leafS k) ks)
def keyS(ks:List GSchema)(k:Str):Bool:=decide (0≤idx (nmP k) ks) && decide ((at_ ks (idx (nmP k) ks).toNat).fKind=3) && keyR (at_ ks (idx (nmP k) ks).toNat)
def unqS(ks:List GSchema)(k:Str):Bool:=decide (0≤idx (nmP k) ks) && decide ((at_ ks (idx (nmP k) ks).toNat).fKind=3)
def listS(n:GSchema):Bool:=n.fKeys.all (keyS n.fKids) && n.fUnique.all (unqS n.fKids) && (noTy n.fType && !n.fKeys.isEmpty && (diffs n.fKeys && decide (n.fKeys.length≤3)) && (diffs n.fUnique && decide (n.fUnique.length≤3)) && sizeR n && !n.fGiven && !n.fNeeded && !n.fPresent && !n.fFixed && n.fDefault.isEmpty)
def noneS(n:GSchema):Bool:=n.fKeys.isEmpty && n.fUnique.isEmpty && n.fDefault.isEmpty && !n.fGiven && !n.fFixed && decide (n.fMin=0) && decide (n.fMax=0)
def leafR(n:GSchema):Bool:=n.fKeys.isEmpty && n.fUnique.isEmpty && decide (n.fMin=0) && decide (n.fMax=0) && !n.fPresent && n.fKids.isEmpty && tyB n.fType
def kindS(n:GSchema)(free:Bool):Bool :=
 if n.fKind=1 then noneS n && !n.fNeeded && noTy n.fType
 else if n.fKind=2 then listS n
 else if n.fKind=3 then (if n.fGiven=true then leafR n && free && !n.fNeeded && n.fWhen.isEmpty && isVal n.fType n.fDefault else leafR n && n.fDefault.isEmpty)
 else if n.fKind=4 then n.fKeys.isEmpty && n.fUnique.isEmpty && n.fDefault.isEmpty && !n.fGiven && !n.fFixed && !n.fNeeded && !n.fPresent && n.fKids.isEmpty && sizeR n && tyB n.fType
 else if n.fKind=5 then noneS n && !n.fPresent && n.fMust.isEmpty && noTy n.fType
 else if n.fKind=6 then noneS n && !n.fPresent && !n.fNeeded && n.fMust.isEmpty && noTy n.fType
 else false
def nodeS(n:GSchema)(free:Bool):Bool:=baseR n && kindS n free
def oneI(kind:Int)(bound:Bool)(n:GSchema):Bool:=aloneI n && !decide (n.fKind=7) && (decide (n.fKind=6) == decide (kind=5)) && !(n.fGiven && bound) && n.fKeys.all (keyI n.fKids) && n.fUnique.all (unqI n.fKids)
def diffI(l:List GSchema)(kind:Int):Bool:=diffs (nmS l) && (decide (kind=5) || decide (kind=6) || diffs (nmS (dk l)))
def kA:List GSchema→Int→Bool→Bool
 | [],_,_=>true
 | .mk k a b c d e f g h i j l m n ks::xs,kind,bd=>oneI kind bd (.mk k a b c d e f g h i j l m n ks) && (diffI ks k && kA ks k (bd || !m.isEmpty || decide (k=6))) && kA xs kind bd
theorem kA_cons(x:GSchema)(xs:List GSchema)(kind:Int)(bd:Bool):kA (x::xs) kind bd=(oneI kind bd x && (diffI x.fKids x.fKind && kA x.fKids x.fKind (bd || !x.fWhen.isEmpty || decide (x.fKind=6))) && kA xs kind bd):=by cases x;rw [kA];rfl
def kS:List GSchema→Int→Bool→Nat→Bool
 | [],_,_,_=>true
 | .mk k a b c d e f g h i j l m n ks::xs,kind,fr,p=>(decide (kind=5) == decide (k=6)) && nodeS (.mk k a b c d e f g h i j l m n ks) fr && (diffs (nmS ks) && kS ks k (fr && m.isEmpty && !decide (k=6)) (p+1) && diffs (nmS (dk ks)) && (decide (p+1≤8) || ks.isEmpty)) && kS xs kind fr p
theorem kS_cons(x:GSchema)(xs:List GSchema)(kind:Int)(fr:Bool)(p:Nat):kS (x::xs) kind fr p=((decide (kind=5) == decide (x.fKind=6)) && nodeS x fr && (diffs (nmS x.fKids) && kS x.fKids x.fKind (fr && x.fWhen.isEmpty && !decide (x.fKind=6)) (p+1) && diffs (nmS (dk x.fKids)) && (decide (p+1≤8) || x.fKids.isEmpty)) && kS xs kind fr p):=by cases x;rw [kS];rfl
def kR(l:List GSchema)(kind:Int)(bd:Bool):Bool:=diffI l kind && kA l kind bd
def kT(l:List GSchema)(kind:Int)(fr:Bool)(p:Nat):Bool:=diffs (nmS l) && kS l kind fr p && diffs (nmS (dk l)) && (decide (p≤8) || l.isEmpty)
def isSchema(l:List GSchema):Bool:=decide (cntS l≤60) && decide (depS l≤8) && kR l 0 false
theorem at_cons{α:Type}[Inhabited α](x:α)(l:List α)(k:Nat):at_ (x::l) (k+1)=at_ l k:=rfl
theorem getElem_at{α:Type}[Inhabited α]{l:List α}{i:Nat}(h:i<l.length):l[i]=at_ l i:=by unfold at_;rw [List.getElem?_eq_getElem h];rfl
theorem diffs_iff(l:List Str):diffs l=true↔l.Nodup:=by
 constructor
 ·intro h
  refine List.pairwise_iff_getElem.2 fun i j hi' hj hi e=>?_
  have h1:=allTo_get h hj
  rw [getElem_at,getElem_at] at e
  rw [cont_dup hi hj e] at h1
  exact absurd h1 (by simp)
 ·intro h
  rw [diffs]
  have:∀ n,n≤l.length→allTo (fun j=>!cont (l.take j) (at_ l j)) n=true:=by
   intro n
   induction n with
   | zero=>intro _;rfl
   | succ n ih =>
    intro hn
    refine allTo_step (ih (by omega)) ?_
    rw [cont_free]
    ·rfl
    intro y hy
    rw [beq_eq_false_iff_ne]
    intro e
    obtain ⟨i,hi,e2⟩:=List.getElem_of_mem hy
    rw [List.length_take] at hi
    rw [List.getElem_take,getElem_at,e] at e2
    refine List.pairwise_iff_getElem.1 h i n (by omega) (by omega) (by omega) ?_
    rw [getElem_at,getElem_at,e2]
  exact this _ (Nat.le_refl _)
theorem idx_ne{α:Type}{p:α→Bool}:∀ {l:List α},¬ 0≤idx p l→∀ x∈l,p x=false
 | x::xs,h,y,hy=>by
  have h0:=idx_ge p xs
  simp only [idx] at h
  split at h
  ·omega
  ·rename_i h1
   split at h
   ·rcases List.mem_cons.1 hy with rfl|hy
    ·simpa using h1
    ·exact idx_ne (by omega) y hy
   ·omega
theorem idx_hit{α:Type}[Inhabited α]{p:α→Bool}:∀ {l:List α},0≤idx p l→(idx p l).toNat<l.length∧p (at_ l (idx p l).toNat)=true∧at_ l (idx p l).toNat∈l
 | [],h=>by simp [idx] at h
 | x::xs,h=>by
  simp only [idx] at h ⊢
  split
  ·rename_i h1;exact ⟨by simp,h1,by simp [at_]⟩
  ·rename_i h1
   rw [if_neg h1] at h
   split at h
   ·omega
   ·rename_i h2
    have ih:=idx_hit (p:=p) (l:=xs) (by omega)
    rw [if_neg h2,show (idx p xs+1).toNat=(idx p xs).toNat+1 by omega,at_cons]
    exact ⟨by rw [List.length_cons];omega,ih.2.1,List.mem_cons_of_mem _ ih.2.2⟩
theorem idx_up{α:Type}[Inhabited α]{p:α→Bool}:∀ {l:List α} {j:Nat},j<l.length→p (at_ l j)=true→idx p l≤j∧0≤idx p l
 | x::xs,0,_,h=>by
  have:p x=true:=h
  simp [idx,this]
 | x::xs,j+1,hj,h=>by
  have h1:=idx_up (p:=p) (l:=xs) (j:=j) (by simpa using hj) h
  simp only [idx]
  split
  ·omega
  ·split<;>omega
theorem idx_uniq{l:List GSchema}(hd:diffs (nmS l)=true){x y:GSchema}(hx:x∈l)(hy:y∈l)(e:x.fName=y.fName):x=y:=by
 rw [diffs_iff,nmS] at hd
 induction l with
 | nil=>simp at hx
 | cons z l ih =>
  rw [List.map_cons,List.nodup_cons] at hd
  rcases List.mem_cons.1 hx with gx|gx<;>rcases List.mem_cons.1 hy with gy|gy
  ·rw [gx,gy]
  ·subst gx;exact absurd (List.mem_map.2 ⟨y,gy,e.symm⟩) hd.1
  ·subst gy;exact absurd (List.mem_map.2 ⟨x,gx,e⟩) hd.1
  ·exact ih hd.2 gx gy
theorem leaf_iff{ks:List GSchema}(hd:diffs (nmS ks)=true)(k:Str):(0≤idx (leafS k) ks↔0≤idx (nmP k) ks∧(at_ ks (idx (nmP k) ks).toNat).fKind=3)∧(0≤idx (leafS k) ks→at_ ks (idx (leafS k) ks).toNat=at_ ks (idx (nmP k) ks).toNat):=by
 have key:0≤idx (leafS k) ks→0≤idx (nmP k) ks∧at_ ks (idx (leafS k) ks).toNat=at_ ks (idx (nmP k) ks).toNat∧(at_ ks (idx (leafS k) ks).toNat).fKind=3:=by
  intro h
  obtain ⟨h1,h2,h3⟩:=idx_hit h
  simp only [leafS,Bool.and_eq_true,beq_iff_eq,decide_eq_true_eq] at h2
  have h4:0≤idx (nmP k) ks:=by
   apply Classical.byContradiction
   intro h5
   have:=idx_ne h5 _ h3
   simp only [nmP,beq_eq_false_iff_ne] at this
   exact this h2.1
  obtain ⟨g1,g2,g3⟩:=idx_hit h4
  simp only [nmP,beq_iff_eq] at g2
  exact ⟨h4,idx_uniq hd h3 g3 (h2.1.trans g2.symm),h2.2⟩
 refine ⟨⟨fun h=>⟨(key h).1,(key h).2.1 ▸ (key h).2.2⟩,fun h=>?_⟩,fun h=>(key h).2.1⟩
 apply Classical.byContradiction
 intro h5
 obtain ⟨g1,g2,g3⟩:=idx_hit h.1
 have:=idx_ne h5 _ g3
 simp only [nmP,beq_iff_eq] at g2
 simp only [leafS,g2,h.2] at this
 simp at this
theorem keyIS{ks:List GSchema}(hd:diffs (nmS ks)=true)(k:Str):keyI ks k=keyS ks k:=by
 have h:=leaf_iff hd k
 rw [Bool.eq_iff_iff]
 simp only [keyI,keyS,Bool.and_eq_true,decide_eq_true_eq]
 constructor
 ·intro g;rw [← h.2 g.1] at *;exact ⟨h.1.1 g.1,g.2⟩
 ·intro g;have:=h.1.2 g.1;rw [h.2 this];exact ⟨this,g.2⟩
theorem unqIS{ks:List GSchema}(hd:diffs (nmS ks)=true)(k:Str):unqI ks k=unqS ks k:=by
 have h:=leaf_iff hd k
 rw [Bool.eq_iff_iff]
 simp only [unqI,unqS,Bool.and_eq_true,decide_eq_true_eq]
 exact h.1
theorem names_all(l:List Str):names l=l.all isName:=by rw [names,allTo_list]
theorem names_keys{ks:List GSchema}{l:List Str}(hn:∀ y∈ks,isName y.fName=true)(h:∀ k∈l,0≤idx (nmP k) ks):names l=true:=by
 rw [names_all,List.all_eq_true]
 intro k hk
 obtain ⟨g1,g2,g3⟩:=idx_hit (h k hk)
 simp only [nmP,beq_iff_eq] at g2
 rw [← g2];exact hn _ g3
theorem list_eq{n:GSchema}(hd:diffs (nmS n.fKids)=true)(hn:∀ y∈n.fKids,isName y.fName=true)(hk:n.fKind=2)(bd:Bool):(shapeI n && kindI n && !(n.fGiven && bd) && n.fKeys.all (keyI n.fKids) && n.fUnique.all (unqI n.fKids))=listS n:=by
 have e1:keyI n.fKids=keyS n.fKids:=funext fun k=>keyIS hd k
 have e2:unqI n.fKids=unqS n.fKids:=funext fun k=>unqIS hd k
 rw [e1,e2,listS]
 cases h1:n.fKeys.all (keyS n.fKids) with
 | false=>simp
 | true =>
  cases h2:n.fUnique.all (unqS n.fKids) with
  | false=>simp
  | true =>
   have h3:names n.fKeys=true:=names_keys hn fun k hk=>by
    have:=List.all_eq_true.1 h1 k hk
    simp only [keyS,Bool.and_eq_true,decide_eq_true_eq] at this
    exact this.1.1
   have h4:names n.fUnique=true:=names_keys hn fun k hk=>by
    have:=List.all_eq_true.1 h2 k hk
    simp only [unqS,Bool.and_eq_true,decide_eq_true_eq] at this
    exact this.1
   have h5:decide (1≤n.fKeys.length)=!n.fKeys.isEmpty:=len_p _
   simp only [shapeI,kindI,isDataK,hk,h3,h4,h5]
   cases noTy n.fType<;>cases n.fKeys.isEmpty<;>cases n.fGiven<;>cases n.fNeeded<;>cases n.fPresent<;>cases n.fFixed<;>cases n.fDefault.isEmpty<;>simp<;>grind
theorem one_eq{n:GSchema}(hd:diffs (nmS n.fKids)=true)(hn:∀ y∈n.fKids,isName y.fName=true)(kind:Int)(bd:Bool):oneI kind bd n=((decide (kind=5) == decide (n.fKind=6)) && nodeS n (!bd)):=by
 rw [oneI,nodeS,aloneI,kindS]
 cases baseR n with
 | false=>simp
 | true =>
  by_cases h2:n.fKind=2
  ·rw [← list_eq hd hn h2 bd];simp [h2];grind
  ·have e:∀ (a b:Bool),(a == b)=(b == a):=by decide
   by_cases h1:n.fKind=1
   ·simp only [shapeI,kindI,noneS,isDataK,h1]
    cases noTy n.fType<;>cases hk:n.fKeys<;>cases hu:n.fUnique<;>cases n.fGiven<;>cases n.fNeeded<;>cases n.fPresent<;>cases n.fFixed<;>simp<;>grind
   by_cases h5:n.fKind=5
   ·simp only [shapeI,kindI,noneS,isDataK,h5]
    cases noTy n.fType<;>cases hk:n.fKeys<;>cases hu:n.fUnique<;>cases n.fGiven<;>cases n.fNeeded<;>cases n.fPresent<;>cases n.fFixed<;>simp<;>grind
   by_cases h6:n.fKind=6
   ·simp only [shapeI,kindI,noneS,isDataK,h6]
    cases noTy n.fType<;>cases hk:n.fKeys<;>cases hu:n.fUnique<;>cases n.fGiven<;>cases n.fNeeded<;>cases n.fPresent<;>cases n.fFixed<;>simp<;>grind
   by_cases h4:n.fKind=4
   ·simp only [shapeI,kindI,noneS,isDataK,h4]
    cases tyB n.fType<;>cases hk:n.fKeys<;>cases hu:n.fUnique<;>cases n.fGiven<;>cases n.fNeeded<;>cases n.fPresent<;>cases n.fFixed<;>simp<;>grind
   by_cases h3:n.fKind=3
   ·simp only [shapeI,kindI,noneS,isDataK,leafR,h3]
    cases tyB n.fType<;>cases hk:n.fKeys<;>cases hu:n.fUnique<;>cases n.fGiven<;>cases n.fNeeded<;>cases n.fPresent<;>cases n.fWhen.isEmpty<;>cases bd<;>simp<;>grind
   by_cases h7:n.fKind=7
   ·simp [h7]
   ·simp [kindI,h1,h2,h3,h4,h5,h6,h7]
theorem kS_name:∀ {l:List GSchema} {kind:Int} {fr:Bool} {p:Nat},kS l kind fr p=true→∀ y∈l,isName y.fName=true
 | [],_,_,_,_,y,h=>by simp at h
 | x::xs,kind,fr,p,h,y,hy=>by
  rw [kS_cons] at h
  simp only [Bool.and_eq_true] at h
  rcases List.mem_cons.1 hy with rfl|hy
  ·have:=h.1.1.2
   simp only [nodeS,baseR,Bool.and_eq_true] at this
   exact this.1.1.1
  ·exact kS_name h.2 y hy
theorem kA_name:∀ {l:List GSchema} {kind:Int} {bd:Bool},kA l kind bd=true→∀ y∈l,isName y.fName=true
 | [],_,_,_,y,h=>by simp at h
 | x::xs,kind,bd,h,y,hy=>by
  rw [kA_cons] at h
  simp only [Bool.and_eq_true] at h
  rcases List.mem_cons.1 hy with rfl|hy
  ·have:=h.1.1
   simp only [oneI,aloneI,baseR,Bool.and_eq_true] at this
   exact this.1.1.1.1.1.1.1.1
  ·exact kA_name h.2 y hy
theorem depS_cons(x:GSchema)(xs:List GSchema):depS (x::xs)=max (1+depS x.fKids) (depS xs):=by cases x;rw [depS];rfl
theorem diffs_app{a b:List GSchema}(h:diffs (nmS (a++b))=true):diffs (nmS a)=true∧diffs (nmS b)=true:=by
 rw [diffs_iff,nmS,List.map_append,List.nodup_append] at h
 rw [diffs_iff,diffs_iff];exact ⟨h.1,h.2.1⟩
theorem kids_eq:∀ (n:Nat) (l:List GSchema) (kind:Int) (bd:Bool) (p:Nat),SizeOf.sizeOf l<n→p≤8→diffs (nmS (dk l))=true→((kA l kind bd=true∧(depS l+p≤9))↔kS l kind (!bd) p=true)
 | 0,l,_,_,_,h=>absurd h (Nat.not_lt_zero _)
 | n+1,[],_,_,p,_=>by simp [kA,kS,depS];omega
 | n+1,x::xs,kind,bd,p,hs=>by
  intro hp hd
  have hsz:SizeOf.sizeOf x.fKids<n∧SizeOf.sizeOf xs<n:=by
   have:=GSchema.kids_lt (l:=x::xs) (x:=x) (by simp)
   simp only [List.cons.sizeOf_spec] at *
   omega
  rw [dk_cons] at hd
  have hd2:=diffs_app hd
  have ih1:=kids_eq n xs kind bd p hsz.2 hp hd2.2
  rw [kA_cons,kS_cons,depS_cons]
  simp only [Bool.and_eq_true]
  have hK:(diffI x.fKids x.fKind=true∧kA x.fKids x.fKind (bd || !x.fWhen.isEmpty || decide (x.fKind=6))=true)∧depS x.fKids+(p+1)≤9↔((diffs (nmS x.fKids)=true∧kS x.fKids x.fKind (!bd && x.fWhen.isEmpty && !decide (x.fKind=6)) (p+1)=true)∧diffs (nmS (dk x.fKids))=true)∧(decide (p+1≤8) || x.fKids.isEmpty)=true:=by
   have hq:diffI x.fKids x.fKind=true↔diffs (nmS x.fKids)=true∧diffs (nmS (dk x.fKids))=true:=by
    simp only [diffI,Bool.and_eq_true,Bool.or_eq_true,decide_eq_true_eq]
    constructor
    ·rintro ⟨a,b⟩
     refine ⟨a,?_⟩
     by_cases hk:x.fKind=5∨x.fKind=6
     ·have:=hd2.1
      rw [if_neg (by rcases hk with h|h<;>rw [h]<;>decide),if_pos hk] at this
      exact this
     ·rcases b with b|b
      ·exact absurd b hk
      ·exact b
    ·rintro ⟨a,b⟩;exact ⟨a,.inr b⟩
   rw [hq,show (!bd && x.fWhen.isEmpty && !decide (x.fKind=6))=!(bd || !x.fWhen.isEmpty || decide (x.fKind=6)) by cases bd<;>cases x.fWhen.isEmpty<;>simp]
   cases hx:x.fKids with
   | nil=>simp [kA,kS,depS,dk];omega
   | cons y ys =>
    by_cases h8:p+1≤8
    ·rw [show (decide (p+1≤8) || (y::ys).isEmpty)=true by simp;omega]
     rw [← hx]
     constructor
     ·rintro ⟨⟨⟨a,b⟩,c⟩,d⟩
      exact ⟨⟨⟨a,(kids_eq n x.fKids x.fKind _ (p+1) hsz.1 h8 b).1 ⟨c,d⟩⟩,b⟩,rfl⟩
     ·rintro ⟨⟨⟨a,b⟩,c⟩,d⟩
      have:=(kids_eq n x.fKids x.fKind _ (p+1) hsz.1 h8 c).2 b
      exact ⟨⟨⟨a,c⟩,this.1⟩,this.2⟩
    ·constructor
     ·rintro ⟨_,d⟩
      rw [depS_cons] at d;omega
     ·rintro ⟨_,d⟩
      simp at d;omega
  constructor
  ·rintro ⟨⟨⟨h1,h2⟩,h3⟩,h4⟩
   have h5:=hK.1 ⟨h2,by omega⟩
   rw [one_eq h5.1.1.1 (kA_name h2.2),Bool.and_eq_true] at h1
   exact ⟨⟨h1,h5⟩,ih1.1 ⟨h3,by omega⟩⟩
  ·rintro ⟨⟨h1,h2⟩,h3⟩
   have h5:=hK.2 h2
   have h6:=ih1.2 h3
   refine ⟨⟨⟨?_,h5.1⟩,h6.1⟩,by omega⟩
   rw [one_eq h2.1.1.1 (kS_name h2.1.1.2),Bool.and_eq_true]
   exact h1
theorem kids_spec(l:List GSchema):(decide (depS l≤8) && kR l 0 false)=kT l 0 true 1:=by
 rw [Bool.eq_iff_iff]
 simp only [kR,kT,diffI,Bool.and_eq_true,Bool.or_eq_true,decide_eq_true_eq]
 constructor
 ·rintro ⟨h1,⟨h2,h3⟩,h4⟩
  have h3:diffs (nmS (dk l))=true:=by rcases h3 with (h|h)|h<;>first|exact h|(exact absurd h (by decide))
  exact ⟨⟨⟨h2,(kids_eq _ l 0 false 1 (Nat.lt_succ_self _) (by omega) h3).1 ⟨h4,by omega⟩⟩,h3⟩,.inl (by omega)⟩
 ·rintro ⟨⟨⟨h1,h2⟩,h3⟩,h4⟩
  have:=(kids_eq _ l 0 false 1 (Nat.lt_succ_self _) (by omega) h3).2 h2
  exact ⟨by omega,⟨h1,.inr h3⟩,this.1⟩
theorem isSchema_spec(l:List GSchema):isSchema l=(decide (0≤leftS l (60 - l.length)) && kT l 0 true 1):=by
 rw [left_60,isSchema,Bool.and_assoc,kids_spec]
theorem own_iff{l:List GSchema}{k:Nat}(hk:k<l.length):idx (nmP (at_ l k).fName) l=k↔cont ((nmS l).take k) (at_ (nmS l) k)=false:=by
 have e:at_ (nmS l) k=(at_ l k).fName:=at_mapF hk
 rw [e]
 constructor
 ·intro h
  rw [Bool.eq_false_iff]
  intro hc
  rw [cont_iff] at hc
  obtain ⟨i,hi,e2⟩:=List.getElem_of_mem hc
  rw [List.length_take] at hi
  have hi':i<l.length:=by omega
  rw [List.getElem_take,getElem_at,nmS,at_mapF hi'] at e2
  have:=idx_up (p:=nmP (at_ l k).fName) hi' (by simp [nmP,e2])
  omega
 ·intro h
  refine idx_at' hk (fun y hy=>?_) (by simp [nmP])
  rw [Bool.eq_false_iff] at h ⊢
  intro hc
  apply h
  rw [cont_iff,nmS,← List.map_take,List.mem_map]
  exact ⟨y,hy,by simpa [nmP] using hc⟩
theorem own_no{l:List GSchema}{k:Nat}(hk:k<l.length)(h:¬ idx (nmP (at_ l k).fName) l=k):diffs (nmS l)=false:=by
 refine allTo_false (j:=k) (by rw [nmS,List.length_map];exact hk) ?_
 rw [own_iff hk] at h
 simpa using h
theorem kA_at{l:List GSchema}{k:Nat}(h:k<l.length)(kind:Int)(bd:Bool):kA (l.drop k) kind bd=(oneI kind bd (at_ l k) && (diffI (at_ l k).fKids (at_ l k).fKind && kA (at_ l k).fKids (at_ l k).fKind (bd || !(at_ l k).fWhen.isEmpty || decide ((at_ l k).fKind=6))) && kA (l.drop (k+1)) kind bd):=by rw [at_drop h,kA_cons]
theorem kS_at{l:List GSchema}{k:Nat}(h:k<l.length)(kind:Int)(fr:Bool)(p:Nat):kS (l.drop k) kind fr p=((decide (kind=5) == decide ((at_ l k).fKind=6)) && nodeS (at_ l k) fr && kT (at_ l k).fKids (at_ l k).fKind (fr && (at_ l k).fWhen.isEmpty && !decide ((at_ l k).fKind=6)) (p+1) && kS (l.drop (k+1)) kind fr p):=by rw [at_drop h,kS_cons];rfl
end Go.Dt
