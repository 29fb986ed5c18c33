/-
  Part of a proof: Sc7, Sk1, Sk2.
-/
import Derived.Test.YtmcjbaafmjlblaaGreatDoorG25
set_option linter.unusedSimpArgs false
set_option linter.unusedVariables false
namespace Go.Proofs.YtmcjbaafmjlblaaGreatDoor
open Go.Ab Go.Dt
set_option maxRecDepth 20000
set_option maxHeartbeats 4000000
instance iIsValue_i(x:GType)(s:Str):Ctr lim Tryz.prog 204 [] [.agg [.v (.int .i64 x.fKind),.sl false 2 (x.fRanges.map (encRange false)),.sl false 1 (x.fNames.map AV.str),.str x.fPattern,.str x.fPath],.str s] (.v (.bool (isVal x s))) [] (s.length≤1048576):=by
 refine Ctr.of_body en204 Tryz.func204 rfl rfl fun hp=>(?_);rw [Tryz.ntmps204]
 (refine vU ?_;with_reducible repeat' first|exact Le.l|refine Sw ?_ ?_|intro h)
 all_goals first|rfl|(rw [isVal];done)
instance sIsValue_i(x:GType)(s:Str):Ctr lim Tryz.prog 189 [] [.agg [.v (.int .i64 x.fKind),.sl false 2 (x.fRanges.map (encRange false)),.sl false 1 (x.fNames.map AV.str),.str x.fPattern,.str x.fPath],.str s] (.v (.bool (isVal x s))) [] (s.length≤1048576):=by
 refine Ctr.of_body en189 Tryz.func189 rfl rfl fun hp=>(?_);rw [Tryz.ntmps189]
 (refine vU ?_;with_reducible repeat' first|exact Le.l|refine Sw ?_ ?_|intro h)
 all_goals first|rfl|(rw [isVal];done)
end Go.Proofs.YtmcjbaafmjlblaaGreatDoor
namespace Go.Dt
open Go Go.Ab
def wtS:List GSchema→Nat
 | []=>0
 | .mk _ _ _ _ _ e _ _ _ _ _ _ m n ks::xs=>1+e.length+depEL m+depEL n+wtS ks+wtS xs
theorem wtS_cons(x:GSchema)(xs:List GSchema):wtS (x::xs)=1+x.fDefault.length+depEL x.fWhen+depEL x.fMust+wtS x.fKids+wtS xs:=by cases x;rw [wtS];rfl
theorem cnt_wtS:∀ (l:List GSchema),cntS l≤wtS l
 | []=>by simp [cntS]
 | .mk _ _ _ _ _ _ _ _ _ _ _ _ _ _ ks::xs=>by have:=cnt_wtS ks;have:=cnt_wtS xs;simp only [cntS,wtS];omega
theorem dep_wtS:∀ (l:List GSchema),depS l≤wtS l
 | []=>by simp [depS]
 | .mk _ _ _ _ _ _ _ _ _ _ _ _ _ _ ks::xs=>by have:=dep_wtS ks;have:=dep_wtS xs;simp only [depS,wtS];omega
theorem wtS_kid:∀ {l:List GSchema} {x:GSchema},x∈l→1+x.fDefault.length+depEL x.fWhen+depEL x.fMust+wtS x.fKids≤wtS l
 | y::l,x,h=>by
  rw [wtS_cons]
  rcases List.mem_cons.1 h with rfl|h
  ·omega
  ·have:=wtS_kid h;omega
theorem exGo_sz:∀ (l:List GExpr) (r:Int),0≤r→0≤szExprGo l r→szExprGo l r+depEL l≤r+1
 | [],r,_,_=>by simp [szExprGo,depEL];omega
 | .mk op num tx p ks::xs,r,h0,h=>by
  rw [szExprGo] at h ⊢
  obtain ⟨h1,e1⟩:=thn_ge h
  rw [e1] at h ⊢
  have hx:szExpr (.mk op num tx p ks) r+depE (.mk op num tx p ks)≤r+1:=by
   rw [szExpr] at h1 ⊢
   obtain ⟨h2,e2⟩:=thn_ge h1
   rw [e2] at h1 ⊢
   obtain ⟨h3,e3⟩:=thn_ge h1
   rw [e3] at h1 ⊢
   obtain ⟨h4,e4⟩:=thn_ge h1
   rw [e4] at h1 ⊢
   simp only [id] at h1 h4 ⊢
   obtain ⟨h5,e5⟩:=thn_ge h4
   rw [e5] at h1 ⊢
   have h6:=exGo_sz ks _ h5 h1
   have h7:=szPath_le p (szStr tx r) h2
   have h8:=szStr_le tx r h0
   rw [depE]
   cases ks with
   | nil=>simp only [depEL,szExprGo,List.length_nil] at *;omega
   | cons y ys=>simp only [List.length_cons] at *;omega
  have h9:=exGo_sz xs _ h1 h
  have h10:=szExprGo_le xs _ h1
  have h11:=szExpr_le (.mk op num tx p ks) r h0
  rw [depEL]
  rcases Nat.le_total (depE (.mk op num tx p ks)) (depEL xs) with q|q
  ·rw [Nat.max_eq_right q];omega
  ·rw [Nat.max_eq_left q];omega
theorem exSl_sz{l:List GExpr}{r:Int}(h0:0≤r)(h:0≤szSl szExpr l r):szSl szExpr l r+depEL l≤r:=by
 rcases Int.lt_or_le (r - l.length) 0 with h2|h2
 ·rw [szSl_neg h2] at h;omega
 ·rw [szSl_pos h2,← szExprGo_eq] at h ⊢
  have:=exGo_sz l _ h2 h
  cases l with
  | nil=>simp only [depEL,szExprGo,List.length_nil] at *;omega
  | cons y ys=>simp only [List.length_cons] at *;omega
theorem wtS_go:∀ (l:List GSchema) (r:Int),0≤r→0≤szSchemaGo l r→szSchemaGo l r+wtS l≤r+l.length
 | [],r,_,_=>by simp [szSchemaGo,wtS]
 | .mk k a b c d e f g hh i j lx m n ks::xs,r,h0,h=>by
  rw [szSchemaGo] at h ⊢
  obtain ⟨h1,e1⟩:=thn_ge h
  rw [e1] at h ⊢
  have hx:szSchema (.mk k a b c d e f g hh i j lx m n ks) r+(e.length+depEL m+depEL n+wtS ks:Nat)≤r:=by
   rw [szSchema] at h1 ⊢
   obtain ⟨g0,e0⟩:=thn_ge h1
   rw [e0] at h1 ⊢
   obtain ⟨g1,e1⟩:=thn_ge h1
   rw [e1] at h1 ⊢
   obtain ⟨g2,e2⟩:=thn_ge h1
   rw [e2] at h1 ⊢
   obtain ⟨g3,e3⟩:=thn_ge h1
   rw [e3] at h1 ⊢
   obtain ⟨g4,e4⟩:=thn_ge h1
   rw [e4] at h1 ⊢
   obtain ⟨g5,e5⟩:=thn_ge h1
   rw [e5] at h1 ⊢
   obtain ⟨g6,e6⟩:=thn_ge h1
   rw [e6] at h1 ⊢
   obtain ⟨g7,e7⟩:=thn_ge h1
   rw [e7] at h1 ⊢
   simp only [id] at h1 g7 ⊢
   obtain ⟨g8,e8⟩:=thn_ge g7
   rw [e8] at h1 ⊢
   have q0:=szStr_le a r h0
   have q1:=szType_le b _ g0
   have q2:=szSl_le szStr szStr_le c _ g1
   have q3:=szSl_le szStr szStr_le d _ g2
   have q5:=exSl_sz g4 g5
   have q6:=exSl_sz g5 g6
   have q7:=wtS_go ks _ g8 h1
   rw [show szStr e (szSl szStr d (szSl szStr c (szType b (szStr a r))))=szSl szStr d (szSl szStr c (szType b (szStr a r))) - e.length from rfl] at *
   omega
  have:=wtS_go xs _ h1 h
  rw [wtS,List.length_cons];omega
theorem wtS_fit{l:List GSchema}{r:Int}(h0:0≤r)(h:0≤szSl szSchema l r):(wtS l:Int)≤r:=by
 rcases Int.lt_or_le (r - l.length) 0 with h2|h2
 ·rw [szSl_neg h2] at h;omega
 ·rw [szSl_pos h2,← szSchemaGo_eq] at h
  have:=wtS_go l _ h2 h
  omega
end Go.Dt
namespace Go.Dt
open Go Go.Ab
theorem emp_len{α:Type}(l:List α):l.isEmpty=decide (l.length=0):=by cases l<;>simp
section
variable {x : GSchema}
theorem shape_no(h:(((((((¬x.fKind=3∧¬x.fKind=4)∧noTy x.fType=false∨¬x.fKind=2∧0<((x.fKeys.length+x.fUnique.length:Nat):Int))∨¬x.fKind=3∧((¬x.fDefault=[]∨x.fGiven=true)∨x.fFixed=true))∨(¬x.fKind=3∧¬x.fKind=5)∧x.fNeeded=true)∨¬x.fKind=1∧x.fPresent=true)∨(¬x.fKind=2∧¬x.fKind=4)∧(¬x.fMin=0∨¬x.fMax=0))∨isDataK x.fKind=false∧0<(x.fMust.length:Int))∨(x.fKind=3∨x.fKind=4)∧0<(x.fKids.length:Int)):shapeI x=false:=by
 rw [shapeI,emp_iff,emp_len x.fKeys,emp_len x.fUnique,emp_len x.fMust,emp_len x.fKids]
 rcases h with ((((((h|h)|h)|h)|h)|h)|h)|h<;>grind
theorem shape_yes(h:(((((((¬x.fKind=3∧¬x.fKind=4→noTy x.fType=true)∧(¬x.fKind=2→((x.fKeys.length+x.fUnique.length:Nat):Int)≤0))∧(¬x.fKind=3→(x.fDefault=[]∧x.fGiven=false)∧x.fFixed=false))∧(¬x.fKind=3∧¬x.fKind=5→x.fNeeded=false))∧(¬x.fKind=1→x.fPresent=false))∧(¬x.fKind=2∧¬x.fKind=4→x.fMin=0∧x.fMax=0))∧(isDataK x.fKind=false→(x.fMust.length:Int)≤0))∧(x.fKind=3∨x.fKind=4→(x.fKids.length:Int)≤0)):shapeI x=true:=by
 rw [shapeI,emp_iff,emp_len x.fKeys,emp_len x.fUnique,emp_len x.fMust,emp_len x.fKids]
 obtain ⟨⟨⟨⟨⟨⟨⟨h1,h2⟩,h3⟩,h4⟩,h5⟩,h6⟩,h7⟩,h8⟩:=h
 simp only [Bool.and_eq_true,Bool.or_eq_true,decide_eq_true_eq,Bool.not_eq_true']
 refine ⟨⟨⟨⟨⟨⟨⟨?_,?_⟩,?_⟩,?_⟩,?_⟩,?_⟩,?_⟩,?_⟩<;>grind
theorem dec1I(n:Nat):decide (1≤(n:Int))=decide (1≤n):=decide_eq_decide.2 (by omega)
theorem dec3I(n:Nat):decide ((n:Int)≤3)=decide (n≤3):=decide_eq_decide.2 (by omega)
theorem kd_t(h:x.fKind=1∨x.fKind=5∨x.fKind=6):true=kindI x:=by rw [kindI,if_pos h]
theorem kd_2(h:x.fKind=2):(decide (1≤(x.fKeys.length:Int)) && decide ((x.fKeys.length:Int)≤3) && diffs x.fKeys && names x.fKeys && decide ((x.fUnique.length:Int)≤3) && diffs x.fUnique && names x.fUnique && sizeR x)=kindI x:=by
 rw [kindI,if_neg (by omega),if_pos h,dec1I,dec3I,dec3I]
theorem kd_3(h:x.fKind=3):(isType isPat x.fType && !(x.fGiven && (x.fNeeded || decide (0<(x.fWhen.length:Int)))) && (x.fGiven && isVal x.fType x.fDefault || !x.fGiven && x.fDefault == []))=kindI x:=by
 rw [kindI,if_neg (by omega),if_neg (by omega),if_pos h,decP,len_p,emp_beq];rfl
theorem kd_4(h:x.fKind=4):(isType isPat x.fType && sizeR x)=kindI x:=by
 rw [kindI,if_neg (by omega),if_neg (by omega),if_neg (by omega),if_pos h];rfl
theorem kd_7(h:x.fKind=7):((x.fWhen.length:Int) == 0 && (x.fKids.length:Int) == 0)=kindI x:=by
 rw [kindI,if_neg (by omega),if_neg (by omega),if_neg (by omega),if_neg (by omega),if_pos h,len_z,len_z]
theorem kd_n(h1:¬ x.fKind=1)(h5:¬ x.fKind=5)(h6:¬ x.fKind=6)(h2:¬ x.fKind=2)(h3:¬ x.fKind=3)(h4:¬ x.fKind=4)(h7:¬ x.fKind=7):false=kindI x:=by
 rw [kindI,if_neg (by omega),if_neg h2,if_neg h3,if_neg h4,if_neg h7]
end
end Go.Dt
