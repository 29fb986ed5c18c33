/-
  Part of a proof: Sc8, Sk3, Fz0, Pl0.
-/
import Derived.Test.YtmcjbaafmjlblaaGreatDoorG3
import Derived.Test.YtmcjbaafmjlblaaGreatDoorG7
import Derived.Test.YtmcjbaafmjlblaaGreatDoorG9
import Derived.Test.YtmcjbaafmjlblaaGreatDoorG26
import Derived.Test.YtmcjbaafmjlblaaGreatDoorG27
set_option linter.unusedSimpArgs false
set_option linter.unusedVariables false
namespace Go.Proofs.YtmcjbaafmjlblaaGreatDoor
open Go.Ab Go.Dt
set_option maxRecDepth 20000
set_option maxHeartbeats 4000000
attribute [local go_sem] frzL_str encSchemaM_frz schAll schOne
instance iAlone_i(x:GSchema):Ctr lim Tryz.prog 202 [] [.agg [.v (.int .i64 x.fKind),.str x.fName,.v (.int .i64 x.fType.fKind),.sl false 2 (x.fType.fRanges.map (encRange false)),.sl false 1 (x.fType.fNames.map AV.str),.str x.fType.fPattern,.str x.fType.fPath,.sl false 1 (x.fKeys.map AV.str),.sl false 1 (x.fUnique.map AV.str),.str x.fDefault,.v (.bool x.fGiven),.v (.bool x.fNeeded),.v (.bool x.fPresent),.v (.bool x.fFixed),.v (.int .i64 x.fMin),.v (.int .i64 x.fMax),.sl false 7 (x.fWhen.map (encExpr false)),.sl false 7 (x.fMust.map (encExpr false)),.sl false 19 (x.fKids.map (encSchema false))]] (.v (.bool (aloneI x))) [] (depEL x.fWhen≤1048576∧depEL x.fMust≤1048576∧x.fDefault.length≤1048576):=by
 refine Ctr.of_body en202 Tryz.func202 rfl rfl fun hp=>(?_);rw [Tryz.ntmps202]
 have gOn:=GrOn.on
 obtain ⟨hw,hm,hd⟩:=hp
 refine AW.fact 0 fun hf=>?_
 simp (disch:=omega) only [go_sem] at hf
 have hfk:x.fKeys.length+x.fUnique.length≤4294967296000:=by omega
 clear hf
 (refine vK ?_;with_reducible repeat' first|exact Le.l|refine Sw ?_ ?_|intro h)
 (refine AW.i rfl (fun h=>?_) (fun h=>?_)<;>try simp only [hC,reduceCtorEq] at h)
 ·(refine vU ?_;with_reducible repeat' first|exact Le.l|refine Sw ?_ ?_|intro h)
  refine congrArg (fun b=>AV.v (.bool b)) ?_
  rw [aloneI,baseR];grind
 have hbase:baseR x=true:=by rw [baseR];grind
 clear h
 (refine vN ?_;with_reducible repeat' first|exact Le.l|refine Sw ?_ ?_|intro h)
 refine Z ?_
 intro K hK
 simp only [List.append_eq,List.cons_append,List.nil_append]
 (refine vN ?_;with_reducible repeat' first|exact Le.l|refine Sw ?_ ?_|intro h)
 (refine AW.i rfl (fun h=>?_) (fun h=>?_)<;>try simp only [hC,reduceCtorEq] at h)
 ·(refine vU ?_;with_reducible repeat' first|exact Le.l|refine Sw ?_ ?_|intro h)
  refine congrArg (fun b=>AV.v (.bool b)) ?_
  rw [aloneI,hbase,Bool.true_and,shape_no h];try rfl
 have hsh:=shape_yes h
 clear h
 (refine vU ?_;with_reducible repeat' first|exact Le.l|refine Sw ?_ ?_|intro h)
 all_goals refine congrArg (fun b=>AV.v (.bool b)) ?_
 all_goals rw [aloneI,hbase,hsh,Bool.true_and,Bool.true_and]
 all_goals first|exact kd_t (by omega)|exact kd_2 (by assumption)|exact kd_3 (by assumption)|exact kd_4 (by assumption)|exact kd_7 (by assumption)|exact kd_n (by assumption) (by assumption) (by assumption) (by assumption) (by assumption) (by assumption) (by assumption)
end Go.Proofs.YtmcjbaafmjlblaaGreatDoor
namespace Go.Dt
open Go Go.Ab
section
variable {l : List GSchema} {k : Nat} {kind : Int} {bd : Bool} {x : GSchema}
theorem kR_no(h:k<l.length)(hR:kA (l.drop k) kind bd=kA l kind bd)(e:oneI kind bd (at_ l k)=false):kR l kind bd=false:=by
 rw [kA_at h,e] at hR;rw [kR,← hR];simp
theorem kR_kid(h:k<l.length)(hR:kA (l.drop k) kind bd=kA l kind bd)(e:kR (at_ l k).fKids (at_ l k).fKind (bd || !(at_ l k).fWhen.isEmpty || decide ((at_ l k).fKind=6))=false):kR l kind bd=false:=by
 rw [kA_at h] at hR;rw [kR] at e;rw [kR,← hR,e];simp
theorem kR_step(h:k<l.length)(hR:kA (l.drop k) kind bd=kA l kind bd)(e1:oneI kind bd (at_ l k)=true)(e2:kR (at_ l k).fKids (at_ l k).fKind (bd || !(at_ l k).fWhen.isEmpty || decide ((at_ l k).fKind=6))=true):kA (l.drop (k+1)) kind bd=kA l kind bd:=by
 rw [kA_at h,e1] at hR;rw [kR] at e2;rw [← hR,e2];simp
theorem kR_end(hd:diffI l kind=true)(h:¬ k<l.length)(hR:kA (l.drop k) kind bd=kA l kind bd):kR l kind bd=true:=by
 rw [drop_end h,kA] at hR;rw [kR,← hR,hd];rfl
theorem one_key{j:Nat}(h:j<x.fKeys.length)(e:keyI x.fKids (at_ x.fKeys j)=false):oneI kind bd x=false:=by
 rw [oneI,all_no h e];simp
theorem one_unq{j:Nat}(h:j<x.fUnique.length)(e:unqI x.fKids (at_ x.fUnique j)=false):oneI kind bd x=false:=by
 rw [oneI,all_no h e];simp
theorem one_yes{i j:Nat}(e:(aloneI x && !decide (x.fKind=7) && (decide (x.fKind=6) == decide (kind=5)) && !(x.fGiven && bd))=true)(h1:¬ i<x.fKeys.length)(e1:∀ y∈x.fKeys.take i,(!keyI x.fKids y)=false)(h2:¬ j<x.fUnique.length)(e2:∀ y∈x.fUnique.take j,(!unqI x.fKids y)=false):oneI kind bd x=true:=by
 rw [oneI,e,all_yes h1 e1,all_yes h2 e2];rfl
theorem one_no(e:(aloneI x && !decide (x.fKind=7) && (decide (x.fKind=6) == decide (kind=5)) && !(x.fGiven && bd))=false):oneI kind bd x=false:=by
 rw [oneI,e];rfl
end
end Go.Dt
namespace Go.Dt
open Go Go.Ab
theorem schF(l:List GSchema):AV.frzL (l.map (encSchema false))=l.map (encSchema false):=by
 rw [AV.frzL_eq,List.map_map];refine List.map_congr_left fun x _=>?_
 simp only [Function.comp,encSchema_eq,AV.frz,AV.frzL,cond_false]
theorem nodF(l:List GNode):AV.frzL (l.map (encNode false))=l.map (encNode false):=by
 rw [AV.frzL_eq,List.map_map];refine List.map_congr_left fun x _=>?_
 simp only [Function.comp,encNode_eq,AV.frz,AV.frzL,cond_false]
end Go.Dt
namespace Go.Dt
open Go.Ab
theorem bl_geq:∀ (x y:Str),(Op.bytesLess x y || x == y)=!Op.bytesLess y x
 | [],[]=>by simp [Op.bytesLess]
 | [],_::_=>by simp [Op.bytesLess]
 | _::_,[]=>by simp [Op.bytesLess]
 | a::x,b::y=>by
  have ih:=bl_geq x y
  simp only [Op.bytesLess]
  by_cases e:a=b
  ·subst e
   have:decide (a<a)=false:=by simp
   simp only [this,beq_self_eq_true,Bool.true_and,Bool.false_or,← ih]
   cases Op.bytesLess x y<;>simp
  ·have e':¬ b=a:=fun h=>e h.symm
   have e1:(a == b)=false:=by simpa using e
   have e2:(b == a)=false:=by simpa using e'
   have e3:(a::x == b::y)=false:=by simp [e]
   rw [e1,e2,e3,Bool.false_and,Bool.false_and,Bool.or_false,Bool.or_false,Bool.or_false]
   by_cases h:a<b
   ·have h2:¬ b<a:=fun h3=>by
     have h4:=UInt8.lt_iff_toNat_lt.1 h
     have h5:=UInt8.lt_iff_toNat_lt.1 h3
     omega
    simp [h,h2]
   ·have h2:b<a:=by
     have h4:¬ a.toNat<b.toNat:=fun h5=>h (UInt8.lt_iff_toNat_lt.2 h5)
     have h5:¬ a.toNat=b.toNat:=fun h6=>e (UInt8.toNat_inj.1 h6)
     exact UInt8.lt_iff_toNat_lt.2 (by omega)
    simp [h,h2]
def tmI(l:List GTemplate)(n:Str):Int:=idx (fun x=>x.fName == n) l
def svc(T:List GTemplate)(x:GService):Bool:=(isName x.fName && decide (0≤tmI T x.fTemplate)) && (names x.fTargets && diffs x.fTargets)
def svOk(T:List GTemplate)(S:List GService)(j:Nat):Bool:=svc T (at_ S j) && (j == 0 || Op.bytesLess (at_ S (j - 1)).fName (at_ S j).fName)
def isPlan(ip:Str→Bool)(T:List GTemplate)(S:List GService):Bool:=((allTo (fun j=>isTemplate ip (at_ T j)) T.length && diffs (T.map GTemplate.fName)) && (decide (T.length≤8) && decide (S.length≤8))) && allTo (svOk T S) S.length
end Go.Dt
namespace Go.Dt
open Go.Ab
end Go.Dt
namespace Go.Dt
open Go.Ab
theorem take_at'{α:Type}[Inhabited α]{l:List α}{i:Nat}(h:i<l.length):l.take (i+1)=l.take i++[at_ l i]:=by
 rw [List.take_succ_eq_append_getElem h];unfold at_;rw [List.getElem?_eq_getElem h];rfl
end Go.Dt
namespace Go.Dt
def tmsOk(T:List GTemplate):Prop:=∀ t∈T,wt t.fBody≤1048576∧t.fParams.length≤1048576
end Go.Dt
