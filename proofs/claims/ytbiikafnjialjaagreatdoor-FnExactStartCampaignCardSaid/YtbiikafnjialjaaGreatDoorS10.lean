/- Part of a proof. -/
import Derived.Test.YtbiikafnjialjaaGreatDoorS9
set_option linter.all false
set_option maxRecDepth 20000
set_option maxHeartbeats 4000000
open Go.Proofs.Tryz
open List
namespace Go.Dt
open Go.Ab
inductive bE where
 | mk (fOp:Int) (cS:Str) (af:List bE)
instance:Inhabited bE:=⟨.mk 0 [] []⟩
def bE.fOp:bE->Int|.mk a _ _=>a
def bE.cS:bE->Str|.mk _ a _=>a
def bE.af:bE->List bE|.mk _ _ a=>a
mutual
def cq:bE->AV
 | .mk o t ks=>.agg [.aa o,.str t,.sl false 3 (yG ks)]
def yG:List bE->List AV
 | []=>[]
 | x::xs=>cq x::yG xs
end
def Lb(l:List bE):yG l=l.map cq:=by
 induction l with
 | nil=>rfl
 | cons x xs ih=>simp only[yG,map_cons,ih]
@[go_sem] def eG(x:bE):cq x=.agg [.aa x.fOp,.str x.cS,.sl false 3 (x.af.map cq)]:=by cases x;simp[cq,Lb,bE.fOp,bE.cS,bE.af]
def eP(s:Str)(i:Nat)(c:Int):Bool:=decide (i<s.length) && (at8 s i == c)
def mR{s:Str}{i:Nat}{c:Int}(h:i<s.length/\at8 s i=c):eP s i c=true:=by simp[eP,h]
def uy{s:Str}{i:Nat}{c:Int}(h:i<s.length->¬at8 s i=c):eP s i c=false:=by
 unfold eP;by_cases e:i<s.length
 ·simp[h e]
 ·simp[e]
def pG(c:Int):Bool:=ltI c || om c || c == 95 || c == 45 || c == 46
def jG(s:Str)(i:Nat):Bool:=decide (i<s.length) && pG (at8 s i)
def uJ{s:Str}{i:Nat}(h:s.length<=i\/pG (at8 s i)=false):jG s i=false:=by
 unfold jG;rcases h with h|h
 ·rw[show decide (i<s.length)=false by simp;omega];rfl
 ·rw[h,Bool.and_false]
def v8{s:Str}{i:Nat}(h:¬s.length<=i/\pG (at8 s i)=true):jG s i=true:=by unfold jG;rw[h.2,Bool.and_true];simp;omega
def nL(s:Str)(i:Nat):Option (Int×Int×Nat) :=
 if decide (i<s.length) && pG (at8 s i) then
  if eP s (i+1) 126 then
   if decide (i+2<s.length) && pG (at8 s (i+2:Nat)) && decide (at8 s i<=at8 s (i+2:Nat)) then some (at8 s i,at8 s (i+2:Nat),i+3) else none
  else some (at8 s i,at8 s i,i+1)
 else none
def Dm{s:Str}{i:Nat}{a z:Int}{j:Nat}(h:nL s i=some (a,z,j)):i<j/\j<=s.length:=by
 unfold nL at h;split at h
 ·rename_i h1;simp only[Bool.and_eq_true,decide_eq_true_eq]at h1;split at h
  ·split at h
   ·rename_i h3;simp only[Bool.and_eq_true,decide_eq_true_eq]at h3;simp only[Option.some.injEq,Prod.mk.injEq]at h;omega
   ·cases h
  ·simp only[Option.some.injEq,Prod.mk.injEq]at h;omega
 ·cases h
def pN(s:Str)(i:Nat)(has:Nat->Bool):Option ((Nat->Bool)×Nat) :=
 if eP s i 93 then some (has,i+1)
 else match h:nL s i with
  | none=>none
  | some (a,z,j)=>pN s j (λc=>has c || (decide (a<=(c:Int)) && decide ((c:Int)<=z)))
termination_by s.length - i
decreasing_by have:=Dm h;omega
def qF(has:Nat->Bool):Str:=((List.range 256).filter has).map UInt8.ofNat
def qp(t:Str):bE:=.mk 1 t []
def mkSeq(l:List bE):bE:=if l.length=1 then at_ l 0 else .mk 2 [] l
def vr(l:List bE):bE:=if l.length=1 then at_ l 0 else .mk 3 [] l
def post(s:Str)(p:bE)(j:Nat):bE×Nat :=
 if eP s j 42 then (.mk 4 [] [p],j+1)
 else if eP s j 43 then (.mk 2 [] [p,.mk 4 [] [p]],j+1)
 else if eP s j 63 then (.mk 5 [] [p],j+1)
 else (p,j)
def ot:Str:=qF (λc=>decide (32<=c) && decide (c<=126))
def lv(s:Str)(i:Nat):Option (bE×Nat) :=
 if eP s i 46 then some (qp ot,i+1)
 else if eP s i 91 then match nL s (i+1)with
  | none=>none
  | some (a,z,j)=>match pN s j (λc=>decide (a<=(c:Int)) && decide ((c:Int)<=z))with
   | none=>none
   | some (has,k)=>some (qp (qF has),k)
 else if decide (i<s.length) && (ltI (at8 s i) || om (at8 s i) || at8 s i == 45) then some (qp ((s.take (i+1)).drop i),i+1)
 else none
def Sb(s:Str)(p:bE)(j:Nat):j<=(post s p j).2:=by
 unfold post;repeat' split
 all_goals simp
def I5(s:Str)(p:bE){j:Nat}(h:j<=s.length):(post s p j).2<=s.length:=by
 unfold post eP;repeat' split
 all_goals simp_all
 all_goals omega
mutual
def iY(s:Str)(i:Nat):Option (bE×Nat) :=
 match iG s i []with
 | none=>none
 | some (p,j)=>if i<=j then mD s j [p] else none
termination_by 5 * (s.length - i)+4
def mD(s:Str)(j:Nat)(l:List bE):Option (bE×Nat) :=
 if h:j<s.length then
  if at8 s j=124 then
   match iG s (j+1) []with
   | none=>none
   | some (p,k)=>if j<k then mD s k (l++[p]) else none
  else some (vr l,j)
 else some (vr l,j)
termination_by 5 * (s.length - j)+3
def iG(s:Str)(i:Nat)(l:List bE):Option (bE×Nat) :=
 if h:i<s.length then
  if at8 s i=124\/at8 s i=41 then some (mkSeq l,i)
  else match kE s i with
   | none=>none
   | some (p,j)=>if hj:i<(post s p j).2 then iG s (post s p j).2 (l++[(post s p j).1]) else none
 else some (mkSeq l,i)
termination_by 5 * (s.length - i)+2
def kE(s:Str)(i:Nat):Option (bE×Nat) :=
 if h:i<s.length then
  if at8 s i=40 then
   match iY s (i+1)with
   | none=>none
   | some (p,j)=>if eP s j 41 then some (p,j+1) else none
  else lv s i
 else none
termination_by 5 * (s.length - i)+1
end
def dM(s:Str):Bool:=decide (s.length<=30) && (match iY s 0 with|some (_,j)=>j == s.length|none=>false)
end Go.Dt
namespace Go.Proofs
open Go.Ab Go.Dt
instance(L:gaa)(b:Nat)(s:Str)(i:Nat)(bad:Bool)(c:Int):Ctr L prog 316 [(b,some (laa s i bad))] [.ptr b 0,.v (.int .u8 c)] (.ac (eP s i c)) [some (laa s (bif eP s i c then i+1 else i:Nat) bad)] (i<=s.length/\s.length<=30):=by
 refine Ctr.bd func316 ntmps316 λhp=>?_
 (refine vU4 ?_ ?_ ?_ ?_<;>intro h)
 ·rw[mR h]
 ·rw[mR h];rfl
 ·rw[uy h]
 ·rw[uy h];rfl
instance(L:gaa)(b:Nat)(s:Str)(i:Nat)(bad:Bool)(c:Int):Ctr L prog 309 [(b,some (laa s i bad))] [.ptr b 0,.v (.int .u8 c)] (.ac (!bad && eP s i c)) [some (laa s (bif !bad && eP s i c then i+1 else i:Nat) bad)] (i<=s.length/\s.length<=30):=by
 refine Ctr.bd func309 ntmps309 λhp=>?_
 (refine vU4 ?_ ?_ ?_ ?_<;>intro h)
 ·rw[mR ⟨h.1.2,h.2⟩,h.1.1];rfl
 ·rw[mR ⟨h.1.2,h.2⟩,h.1.1];rfl
 ·cases bad with
  | true=>rfl
  | false=>rw[uy λe=>h ⟨rfl,e⟩];rfl
 ·cases bad with
  | true=>rfl
  | false=>rw[uy λe=>h ⟨rfl,e⟩];rfl
instance(L:gaa)(n:Int):Ctr L prog 373 [] [.v (.int .u8 n)] (.ac (pG n)) [] True:=by
 refine Ctr.bd func373 ntmps373 λhp=>?_
 (repeat' first|(with_reducible first|refine Z ?_|refine Y ?_|(refine hK _ _ ?_;clear hK K)|refine And.intro ?_ ?_|exact Ct|intro(K:_->_->Prop) hK|(refine gI λhg=>?_;try simp only[hC,reduceCtorEq]at hg;try simp only[hg]))|(refine AW.i rfl (λh=>?_) (λh=>?_)<;>try simp only[hC,reduceCtorEq]at h)|((with_reducible refine E ?_;repeat refine Y ?_);refine eF rfl ?_)|simp(disch:=omega)only[go_sem,pG]|(with_reducible intro hg;try simp only[hC,reduceCtorEq]at hg)|exact Cl|fail)
instance(L:gaa)(n:Int):Ctr L prog 366 [] [.v (.int .u8 n)] (.ac (pG n)) [] (0<=n/\n<=255):=by
 refine Ctr.bd func366 ntmps366 λhp=>?_
 (repeat' first|(with_reducible first|refine Z ?_|refine Y ?_|(refine hK _ _ ?_;clear hK K)|refine And.intro ?_ ?_|exact Ct|intro(K:_->_->Prop) hK|(refine gI λhg=>?_;try simp only[hC,reduceCtorEq]at hg;try simp only[hg]))|(refine AW.i rfl (λh=>?_) (λh=>?_)<;>try simp only[hC,reduceCtorEq]at h)|((with_reducible refine E ?_;repeat refine Y ?_);refine eF rfl ?_)|simp(disch:=omega)only[go_sem,pG]|(with_reducible intro hg;try simp only[hC,reduceCtorEq]at hg)|exact Cl|fail)
instance(L:gaa)(b:Nat)(s:Str)(i:Nat)(bad:Bool):Ctr L prog 370 [(b,some (laa s i bad))] [.ptr b 0] (.v (.int .u8 (bif jG s i then at8 s i else 0))) [some (laa s (bif jG s i then i+1 else i:Nat) (bad || !jG s i))] (i<=s.length/\s.length<=30):=by
 refine Ctr.bd func370 ntmps370 λhp=>?_
 (refine vU4 ?_ ?_ ?_ ?_<;>intro h)
 ·rw[uJ h];rfl
 ·rw[uJ h];simp
 ·rw[v8 h];rfl
 ·rw[v8 h];simp
