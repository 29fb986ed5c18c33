/-
  Part of a proof: Pt0.
-/
import Derived.Test.YtmcjbaafmjlblaaGreatDoorG9
set_option linter.unusedSimpArgs false
set_option linter.unusedVariables false
namespace Go.Dt
open Go.Ab
inductive GPat where
 | mk (fOp:Int) (fText:Str) (fKids:List GPat)
instance:Inhabited GPat:=⟨.mk 0 [] []⟩
def GPat.fOp:GPat→Int|.mk a _ _=>a
def GPat.fText:GPat→Str|.mk _ a _=>a
def GPat.fKids:GPat→List GPat|.mk _ _ a=>a
mutual
def encPat:GPat→AV
 | .mk o t ks=>.agg [.v (.int .i64 o),.str t,.sl false 3 (encPats ks)]
def encPats:List GPat→List AV
 | []=>[]
 | x::xs=>encPat x::encPats xs
end
theorem encPats_eq(l:List GPat):encPats l=l.map encPat:=by
 induction l with
 | nil=>rfl
 | cons x xs ih=>simp only [encPats,List.map_cons,ih]
@[go_sem] theorem encPat_eq(x:GPat):encPat x=.agg [.v (.int .i64 x.fOp),.str x.fText,.sl false 3 (x.fKids.map encPat)]:=by
 cases x;simp [encPat,encPats_eq,GPat.fOp,GPat.fText,GPat.fKids]
def isAt(s:Str)(i:Nat)(c:Int):Bool:=decide (i<s.length) && (at8 s i == c)
theorem isAt_yes{s:Str}{i:Nat}{c:Int}(h:i<s.length∧at8 s i=c):isAt s i c=true:=by simp [isAt,h]
theorem isAt_no{s:Str}{i:Nat}{c:Int}(h:i<s.length→¬ at8 s i=c):isAt s i c=false:=by
 unfold isAt
 by_cases e:i<s.length
 ·simp [h e]
 ·simp [e]
def isCh(c:Int):Bool:=ltI c || digI c || c == 95 || c == 45 || c == 46
def chAt(s:Str)(i:Nat):Bool:=decide (i<s.length) && isCh (at8 s i)
theorem chAt_no{s:Str}{i:Nat}(h:s.length≤i∨isCh (at8 s i)=false):chAt s i=false:=by
 unfold chAt
 rcases h with h|h
 ·rw [show decide (i<s.length)=false by simp;omega];rfl
 ·rw [h,Bool.and_false]
theorem chAt_yes{s:Str}{i:Nat}(h:¬ s.length≤i∧isCh (at8 s i)=true):chAt s i=true:=by
 unfold chAt;rw [h.2,Bool.and_true];simp;omega
def clsE(s:Str)(i:Nat):Option (Int×Int×Nat) :=
 if decide (i<s.length) && isCh (at8 s i) then
  if isAt s (i+1) 126 then
   if decide (i+2<s.length) && isCh (at8 s (i+2:Nat)) && decide (at8 s i≤at8 s (i+2:Nat)) then some (at8 s i,at8 s (i+2:Nat),i+3) else none
  else some (at8 s i,at8 s i,i+1)
 else none
theorem clsE_lt{s:Str}{i:Nat}{a z:Int}{j:Nat}(h:clsE s i=some (a,z,j)):i<j∧j≤s.length:=by
 unfold clsE at h
 split at h
 ·rename_i h1
  simp only [Bool.and_eq_true,decide_eq_true_eq] at h1
  split at h
  ·split at h
   ·rename_i h3
    simp only [Bool.and_eq_true,decide_eq_true_eq] at h3
    simp only [Option.some.injEq,Prod.mk.injEq] at h;omega
   ·cases h
  ·simp only [Option.some.injEq,Prod.mk.injEq] at h;omega
 ·cases h
def clsL(s:Str)(i:Nat)(has:Nat→Bool):Option ((Nat→Bool)×Nat) :=
 if isAt s i 93 then some (has,i+1)
 else match h:clsE s i with
  | none=>none
  | some (a,z,j)=>clsL s j (fun c=>has c || (decide (a≤(c:Int)) && decide ((c:Int)≤z)))
termination_by s.length - i
decreasing_by have:=clsE_lt h;omega
def clsT(has:Nat→Bool):Str:=((List.range 256).filter has).map UInt8.ofNat
def patC(t:Str):GPat:=.mk 1 t []
def mkSeq(l:List GPat):GPat:=if l.length=1 then at_ l 0 else .mk 2 [] l
def mkAlt(l:List GPat):GPat:=if l.length=1 then at_ l 0 else .mk 3 [] l
def post(s:Str)(p:GPat)(j:Nat):GPat×Nat :=
 if isAt s j 42 then (.mk 4 [] [p],j+1)
 else if isAt s j 43 then (.mk 2 [] [p,.mk 4 [] [p]],j+1)
 else if isAt s j 63 then (.mk 5 [] [p],j+1)
 else (p,j)
def anyT:Str:=clsT (fun c=>decide (32≤c) && decide (c≤126))
def atomS(s:Str)(i:Nat):Option (GPat×Nat) :=
 if isAt s i 46 then some (patC anyT,i+1)
 else if isAt s i 91 then match clsE s (i+1) with
  | none=>none
  | some (a,z,j)=>match clsL s j (fun c=>decide (a≤(c:Int)) && decide ((c:Int)≤z)) with
   | none=>none
   | some (has,k)=>some (patC (clsT has),k)
 else if decide (i<s.length) && (ltI (at8 s i) || digI (at8 s i) || at8 s i == 45) then some (patC ((s.take (i+1)).drop i),i+1)
 else none
theorem post_le(s:Str)(p:GPat)(j:Nat):j≤(post s p j).2:=by
 unfold post;repeat' split
 all_goals simp
theorem post_ge(s:Str)(p:GPat){j:Nat}(h:j≤s.length):(post s p j).2≤s.length:=by
 unfold post isAt;repeat' split
 all_goals simp_all
 all_goals omega
mutual
def pAlt(s:Str)(i:Nat):Option (GPat×Nat) :=
 match pSeq s i [] with
 | none=>none
 | some (p,j)=>if i≤j then pAltL s j [p] else none
termination_by 5 * (s.length - i)+4
def pAltL(s:Str)(j:Nat)(l:List GPat):Option (GPat×Nat) :=
 if h:j<s.length then
  if at8 s j=124 then
   match pSeq s (j+1) [] with
   | none=>none
   | some (p,k)=>if j<k then pAltL s k (l++[p]) else none
  else some (mkAlt l,j)
 else some (mkAlt l,j)
termination_by 5 * (s.length - j)+3
def pSeq(s:Str)(i:Nat)(l:List GPat):Option (GPat×Nat) :=
 if h:i<s.length then
  if at8 s i=124∨at8 s i=41 then some (mkSeq l,i)
  else match pAtom s i with
   | none=>none
   | some (p,j)=>if hj:i<(post s p j).2 then pSeq s (post s p j).2 (l++[(post s p j).1]) else none
 else some (mkSeq l,i)
termination_by 5 * (s.length - i)+2
def pAtom(s:Str)(i:Nat):Option (GPat×Nat) :=
 if h:i<s.length then
  if at8 s i=40 then
   match pAlt s (i+1) with
   | none=>none
   | some (p,j)=>if isAt s j 41 then some (p,j+1) else none
  else atomS s i
 else none
termination_by 5 * (s.length - i)+1
end
def isPat(s:Str):Bool:=decide (s.length≤30) && (match pAlt s 0 with|some (_,j)=>j == s.length|none=>false)
end Go.Dt
