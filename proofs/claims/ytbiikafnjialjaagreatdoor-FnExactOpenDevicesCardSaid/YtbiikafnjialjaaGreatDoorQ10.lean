/- Part of a proof. -/
import Derived.Test.YtbiikafnjialjaaGreatDoorQ9
set_option linter.all false
set_option maxRecDepth 20000
set_option maxHeartbeats 4000000
open Go.Proofs.Tryz
open List
namespace Go.Dt
open Go.Ab
inductive bP where
 | mk (fOp:Int) (cX:Str) (af:List bP)
instance:Inhabited bP:=⟨.mk 0 [] []⟩
def bP.fOp:bP->Int|.mk a _ _=>a
def bP.cX:bP->Str|.mk _ a _=>a
def bP.af:bP->List bP|.mk _ _ a=>a
mutual
def cK:bP->AV
 | .mk o t ks=>.agg [.aa o,.str t,.sl false 3 (y7 ks)]
def y7:List bP->List AV
 | []=>[]
 | x::xs=>cK x::y7 xs
end
def Mb(l:List bP):y7 l=l.map cK:=by
 induction l with
 | nil=>rfl
 | cons x xs ih=>simp only[y7,map_cons,ih]
@[go_sem] def eQ(x:bP):cK x=.agg [.aa x.fOp,.str x.cX,.sl false 3 (x.af.map cK)]:=by cases x;simp[cK,Mb,bP.fOp,bP.cX,bP.af]
def eZ(s:Str)(i:Nat)(c:Int):Bool:=decide (i<s.length) && (at8 s i == c)
def na{s:Str}{i:Nat}{c:Int}(h:i<s.length/\at8 s i=c):eZ s i c=true:=by simp[eZ,h]
def uX{s:Str}{i:Nat}{c:Int}(h:i<s.length->¬at8 s i=c):eZ s i c=false:=by
 unfold eZ;by_cases e:i<s.length
 ·simp[h e]
 ·simp[e]
def pY(c:Int):Bool:=ltI c || oH c || c == 95 || c == 45 || c == 46
def jW(s:Str)(i:Nat):Bool:=decide (i<s.length) && pY (at8 s i)
def vl{s:Str}{i:Nat}(h:s.length<=i\/pY (at8 s i)=false):jW s i=false:=by
 unfold jW;rcases h with h|h
 ·rw[show decide (i<s.length)=false by simp;omega];rfl
 ·rw[h,Bool.and_false]
def wK{s:Str}{i:Nat}(h:¬s.length<=i/\pY (at8 s i)=true):jW s i=true:=by unfold jW;rw[h.2,Bool.and_true];simp;omega
def nW(s:Str)(i:Nat):Option (Int×Int×Nat) :=
 if decide (i<s.length) && pY (at8 s i) then
  if eZ s (i+1) 126 then
   if decide (i+2<s.length) && pY (at8 s (i+2:Nat)) && decide (at8 s i<=at8 s (i+2:Nat)) then some (at8 s i,at8 s (i+2:Nat),i+3) else none
  else some (at8 s i,at8 s i,i+1)
 else none
def D7{s:Str}{i:Nat}{a z:Int}{j:Nat}(h:nW s i=some (a,z,j)):i<j/\j<=s.length:=by
 unfold nW at h;split at h
 ·rename_i h1;simp only[Bool.and_eq_true,decide_eq_true_eq]at h1;split at h
  ·split at h
   ·rename_i h3;simp only[Bool.and_eq_true,decide_eq_true_eq]at h3;simp only[Option.some.injEq,Prod.mk.injEq]at h;omega
   ·cases h
  ·simp only[Option.some.injEq,Prod.mk.injEq]at h;omega
 ·cases h
def p9(s:Str)(i:Nat)(has:Nat->Bool):Option ((Nat->Bool)×Nat) :=
 if eZ s i 93 then some (has,i+1)
 else match h:nW s i with
  | none=>none
  | some (a,z,j)=>p9 s j (λc=>has c || (decide (a<=(c:Int)) && decide ((c:Int)<=z)))
termination_by s.length - i
decreasing_by have:=D7 h;omega
def rf(has:Nat->Bool):Str:=((List.range 256).filter has).map UInt8.ofNat
def qN(t:Str):bP:=.mk 1 t []
def mkSeq(l:List bP):bP:=if l.length=1 then at_ l 0 else .mk 2 [] l
def vY(l:List bP):bP:=if l.length=1 then at_ l 0 else .mk 3 [] l
def post(s:Str)(p:bP)(j:Nat):bP×Nat :=
 if eZ s j 42 then (.mk 4 [] [p],j+1)
 else if eZ s j 43 then (.mk 2 [] [p,.mk 4 [] [p]],j+1)
 else if eZ s j 63 then (.mk 5 [] [p],j+1)
 else (p,j)
def pQ:Str:=rf (λc=>decide (32<=c) && decide (c<=126))
def lK(s:Str)(i:Nat):Option (bP×Nat) :=
 if eZ s i 46 then some (qN pQ,i+1)
 else if eZ s i 91 then match nW s (i+1)with
  | none=>none
  | some (a,z,j)=>match p9 s j (λc=>decide (a<=(c:Int)) && decide ((c:Int)<=z))with
   | none=>none
   | some (has,k)=>some (qN (rf has),k)
 else if decide (i<s.length) && (ltI (at8 s i) || oH (at8 s i) || at8 s i == 45) then some (qN ((s.take (i+1)).drop i),i+1)
 else none
def SY(s:Str)(p:bP)(j:Nat):j<=(post s p j).2:=by
 unfold post;repeat' split
 all_goals simp
def JU(s:Str)(p:bP){j:Nat}(h:j<=s.length):(post s p j).2<=s.length:=by
 unfold post eZ;repeat' split
 all_goals simp_all
 all_goals omega
mutual
def jg(s:Str)(i:Nat):Option (bP×Nat) :=
 match iN s i []with
 | none=>none
 | some (p,j)=>if i<=j then mL s j [p] else none
termination_by 5 * (s.length - i)+4
def mL(s:Str)(j:Nat)(l:List bP):Option (bP×Nat) :=
 if h:j<s.length then
  if at8 s j=124 then
   match iN s (j+1) []with
   | none=>none
   | some (p,k)=>if j<k then mL s k (l++[p]) else none
  else some (vY l,j)
 else some (vY l,j)
termination_by 5 * (s.length - j)+3
def iN(s:Str)(i:Nat)(l:List bP):Option (bP×Nat) :=
 if h:i<s.length then
  if at8 s i=124\/at8 s i=41 then some (mkSeq l,i)
  else match kQ s i with
   | none=>none
   | some (p,j)=>if hj:i<(post s p j).2 then iN s (post s p j).2 (l++[(post s p j).1]) else none
 else some (mkSeq l,i)
termination_by 5 * (s.length - i)+2
def kQ(s:Str)(i:Nat):Option (bP×Nat) :=
 if h:i<s.length then
  if at8 s i=40 then
   match jg s (i+1)with
   | none=>none
   | some (p,j)=>if eZ s j 41 then some (p,j+1) else none
  else lK s i
 else none
termination_by 5 * (s.length - i)+1
end
def dV(s:Str):Bool:=decide (s.length<=30) && (match jg s 0 with|some (_,j)=>j == s.length|none=>false)
end Go.Dt
namespace Go.Proofs
open Go.Ab Go.Dt
instance(L:gaa)(b:Nat)(s:Str)(i:Nat)(bad:Bool)(c:Int):Ctr L prog 316 [(b,some (laa s i bad))] [.ptr b 0,.v (.int .u8 c)] (.ac (eZ s i c)) [some (laa s (bif eZ s i c then i+1 else i:Nat) bad)] (i<=s.length/\s.length<=30):=by
 refine Ctr.bd func316 ntmps316 λhp=>?_
 (refine vU4 ?_ ?_ ?_ ?_<;>intro h)
 ·rw[na h]
 ·rw[na h];rfl
 ·rw[uX h]
 ·rw[uX h];rfl
instance(L:gaa)(b:Nat)(s:Str)(i:Nat)(bad:Bool)(c:Int):Ctr L prog 309 [(b,some (laa s i bad))] [.ptr b 0,.v (.int .u8 c)] (.ac (!bad && eZ s i c)) [some (laa s (bif !bad && eZ s i c then i+1 else i:Nat) bad)] (i<=s.length/\s.length<=30):=by
 refine Ctr.bd func309 ntmps309 λhp=>?_
 (refine vU4 ?_ ?_ ?_ ?_<;>intro h)
 ·rw[na ⟨h.1.2,h.2⟩,h.1.1];rfl
 ·rw[na ⟨h.1.2,h.2⟩,h.1.1];rfl
 ·cases bad with
  | true=>rfl
  | false=>rw[uX λe=>h ⟨rfl,e⟩];rfl
 ·cases bad with
  | true=>rfl
  | false=>rw[uX λe=>h ⟨rfl,e⟩];rfl
instance(L:gaa)(n:Int):Ctr L prog 373 [] [.v (.int .u8 n)] (.ac (pY n)) [] True:=by
 refine Ctr.bd func373 ntmps373 λhp=>?_
 (repeat' first|(with_reducible first|refine Z ?_|refine Y ?_|(refine hK _ _ ?_;clear hK K)|refine And.intro ?_ ?_|exact Ct|intro(K:_->_->Prop) hK|(refine gI λhg=>?_;try simp only[hC,reduceCtorEq]at hg;try simp only[hg]))|(refine AW.i rfl (λh=>?_) (λh=>?_)<;>try simp only[hC,reduceCtorEq]at h)|((with_reducible refine E ?_;repeat refine Y ?_);refine eF rfl ?_)|simp(disch:=omega)only[go_sem,pY]|(with_reducible intro hg;try simp only[hC,reduceCtorEq]at hg)|exact Cl|fail)
instance(L:gaa)(n:Int):Ctr L prog 366 [] [.v (.int .u8 n)] (.ac (pY n)) [] (0<=n/\n<=255):=by
 refine Ctr.bd func366 ntmps366 λhp=>?_
 (repeat' first|(with_reducible first|refine Z ?_|refine Y ?_|(refine hK _ _ ?_;clear hK K)|refine And.intro ?_ ?_|exact Ct|intro(K:_->_->Prop) hK|(refine gI λhg=>?_;try simp only[hC,reduceCtorEq]at hg;try simp only[hg]))|(refine AW.i rfl (λh=>?_) (λh=>?_)<;>try simp only[hC,reduceCtorEq]at h)|((with_reducible refine E ?_;repeat refine Y ?_);refine eF rfl ?_)|simp(disch:=omega)only[go_sem,pY]|(with_reducible intro hg;try simp only[hC,reduceCtorEq]at hg)|exact Cl|fail)
instance(L:gaa)(b:Nat)(s:Str)(i:Nat)(bad:Bool):Ctr L prog 370 [(b,some (laa s i bad))] [.ptr b 0] (.v (.int .u8 (bif jW s i then at8 s i else 0))) [some (laa s (bif jW s i then i+1 else i:Nat) (bad || !jW s i))] (i<=s.length/\s.length<=30):=by
 refine Ctr.bd func370 ntmps370 λhp=>?_
 (refine vU4 ?_ ?_ ?_ ?_<;>intro h)
 ·rw[vl h];rfl
 ·rw[vl h];simp
 ·rw[wK h];rfl
 ·rw[wK h];simp
