/- Part of a proof. -/
import Derived.Test.YtpelkkfkecfmbaaGreatDoorH8
set_option linter.all false
set_option maxRecDepth 20000
set_option maxHeartbeats 4000000
open Go.Proofs.Tryz
namespace Go.Dt
open Go.Ab
inductive bk where
 | mk (fOp:Int) (bI:Str) (af:List bk)
instance:Inhabited bk:=⟨.mk 0 [] []⟩
def bk.fOp:bk->Int|.mk a _ _=>a
def bk.bI:bk->Str|.mk _ a _=>a
def bk.af:bk->List bk|.mk _ _ a=>a
mutual
def bM:bk->AV
 | .mk o t ks=>.agg [.aa o,.str t,.sl false 3 (x5 ks)]
def x5:List bk->List AV
 | []=>[]
 | x::xs=>bM x::x5 xs
end
def Lu(l:List bk):x5 l=l.map bM:=by
 induction l with
 | nil=>rfl
 | cons x xs ih=>simp only [x5,List.map_cons,ih]
@[go_sem] def dz(x:bk):bM x=.agg [.aa x.fOp,.str x.bI,.sl false 3 (x.af.map bM)]:=by cases x;simp [bM,Lu,bk.fOp,bk.bI,bk.af]
def dC(s:Str)(i:Nat)(c:Int):Bool:=decide (i<s.length) && (at8 s i == c)
def lF{s:Str}{i:Nat}{c:Int}(h:i<s.length/\at8 s i=c):dC s i c=true:=by simp [dC,h]
def tH{s:Str}{i:Nat}{c:Int}(h:i<s.length->¬ at8 s i=c):dC s i c=false:=by
 unfold dC;by_cases e:i<s.length
 ·simp [h e]
 ·simp [e]
def ot(c:Int):Bool:=ltI c || gG c || c == 95 || c == 45 || c == 46
def iG(s:Str)(i:Nat):Bool:=decide (i<s.length) && ot (at8 s i)
def tV{s:Str}{i:Nat}(h:s.length<=i\/ot (at8 s i)=false):iG s i=false:=by
 unfold iG;rcases h with h|h
 ·rw [show decide (i<s.length)=false by simp;omega];rfl
 ·rw [h,Bool.and_false]
def vg{s:Str}{i:Nat}(h:¬ s.length<=i/\ot (at8 s i)=true):iG s i=true:=by unfold iG;rw [h.2,Bool.and_true];simp;omega
def mz(s:Str)(i:Nat):Option (Int×Int×Nat) :=
 if decide (i<s.length) && ot (at8 s i) then
  if dC s (i+1) 126 then
   if decide (i+2<s.length) && ot (at8 s (i+2:Nat)) && decide (at8 s i<=at8 s (i+2:Nat)) then some (at8 s i,at8 s (i+2:Nat),i+3) else none
  else some (at8 s i,at8 s i,i+1)
 else none
def CY{s:Str}{i:Nat}{a z:Int}{j:Nat}(h:mz s i=some (a,z,j)):i<j/\j<=s.length:=by
 unfold mz at h;split at h
 ·rename_i h1;simp only [Bool.and_eq_true,decide_eq_true_eq] at h1;split at h
  ·split at h
   ·rename_i h3;simp only [Bool.and_eq_true,decide_eq_true_eq] at h3;simp only [Option.some.injEq,Prod.mk.injEq] at h;omega
   ·cases h
  ·simp only [Option.some.injEq,Prod.mk.injEq] at h;omega
 ·cases h
def oF(s:Str)(i:Nat)(has:Nat->Bool):Option ((Nat->Bool)×Nat) :=
 if dC s i 93 then some (has,i+1)
 else match h:mz s i with
  | none=>none
  | some (a,z,j)=>oF s j (fun c=>has c || (decide (a<=(c:Int)) && decide ((c:Int)<=z)))
termination_by s.length - i
decreasing_by have:=CY h;omega
def pS(has:Nat->Bool):Str:=((List.range 256).filter has).map UInt8.ofNat
def pq(t:Str):bk:=.mk 1 t []
def mkSeq(l:List bk):bk:=if l.length=1 then at_ l 0 else .mk 2 [] l
def uH(l:List bk):bk:=if l.length=1 then at_ l 0 else .mk 3 [] l
def post(s:Str)(p:bk)(j:Nat):bk×Nat :=
 if dC s j 42 then (.mk 4 [] [p],j+1)
 else if dC s j 43 then (.mk 2 [] [p,.mk 4 [] [p]],j+1)
 else if dC s j 63 then (.mk 5 [] [p],j+1)
 else (p,j)
def nT:Str:=pS (fun c=>decide (32<=c) && decide (c<=126))
def jA(s:Str)(i:Nat):Option (bk×Nat) :=
 if dC s i 46 then some (pq nT,i+1)
 else if dC s i 91 then match mz s (i+1) with
  | none=>none
  | some (a,z,j)=>match oF s j (fun c=>decide (a<=(c:Int)) && decide ((c:Int)<=z)) with
   | none=>none
   | some (has,k)=>some (pq (pS has),k)
 else if decide (i<s.length) && (ltI (at8 s i) || gG (at8 s i) || at8 s i == 45) then some (pq ((s.take (i+1)).drop i),i+1)
 else none
def R8(s:Str)(p:bk)(j:Nat):j<=(post s p j).2:=by
 unfold post;repeat' split
 all_goals simp
def I8(s:Str)(p:bk){j:Nat}(h:j<=s.length):(post s p j).2<=s.length:=by
 unfold post dC;repeat' split
 all_goals simp_all
 all_goals omega
mutual
def gN(s:Str)(i:Nat):Option (bk×Nat) :=
 match gp s i [] with
 | none=>none
 | some (p,j)=>if i<=j then lg s j [p] else none
termination_by 5 * (s.length - i)+4
def lg(s:Str)(j:Nat)(l:List bk):Option (bk×Nat) :=
 if h:j<s.length then
  if at8 s j=124 then
   match gp s (j+1) [] with
   | none=>none
   | some (p,k)=>if j<k then lg s k (l++[p]) else none
  else some (uH l,j)
 else some (uH l,j)
termination_by 5 * (s.length - j)+3
def gp(s:Str)(i:Nat)(l:List bk):Option (bk×Nat) :=
 if h:i<s.length then
  if at8 s i=124\/at8 s i=41 then some (mkSeq l,i)
  else match je s i with
   | none=>none
   | some (p,j)=>if hj:i<(post s p j).2 then gp s (post s p j).2 (l++[(post s p j).1]) else none
 else some (mkSeq l,i)
termination_by 5 * (s.length - i)+2
def je(s:Str)(i:Nat):Option (bk×Nat) :=
 if h:i<s.length then
  if at8 s i=40 then
   match gN s (i+1) with
   | none=>none
   | some (p,j)=>if dC s j 41 then some (p,j+1) else none
  else jA s i
 else none
termination_by 5 * (s.length - i)+1
end
def jO(s:Str):Bool:=decide (s.length<=30) && (match gN s 0 with|some (_,j)=>j == s.length|none=>false)
end Go.Dt
namespace Go.Proofs
open Go.Ab Go.Dt
instance acU(L:eaa)(b:Nat)(s:Str)(i:Nat)(bad:Bool)(c:Int):Ctr L prog 348 [(b,some (jaa s i bad))] [.ptr b 0,.v (.int .u8 c)] (.ac (dC s i c)) [some (jaa s (bif dC s i c then i+1 else i:Nat) bad)] (i<=s.length/\s.length<=30):=by
 refine Ctr.bd func348 ntmps348 fun hp=>?_
 (refine vU4 ?_ ?_ ?_ ?_<;>intro h)
 ·rw [lF h]
 ·rw [lF h];rfl
 ·rw [tH h]
 ·rw [tH h];rfl
instance aaI(L:eaa)(b:Nat)(s:Str)(i:Nat)(bad:Bool)(c:Int):Ctr L prog 345 [(b,some (jaa s i bad))] [.ptr b 0,.v (.int .u8 c)] (.ac (!bad && dC s i c)) [some (jaa s (bif !bad && dC s i c then i+1 else i:Nat) bad)] (i<=s.length/\s.length<=30):=by
 refine Ctr.bd func345 ntmps345 fun hp=>?_
 (refine vU4 ?_ ?_ ?_ ?_<;>intro h)
 ·rw [lF ⟨h.1.2,h.2⟩,h.1.1];rfl
 ·rw [lF ⟨h.1.2,h.2⟩,h.1.1];rfl
 ·cases bad with
  | true=>rfl
  | false=>rw [tH fun e=>h ⟨rfl,e⟩];rfl
 ·cases bad with
  | true=>rfl
  | false=>rw [tH fun e=>h ⟨rfl,e⟩];rfl
instance aaW(L:eaa)(n:Int):Ctr L prog 376 [] [.v (.int .u8 n)] (.ac (ot n)) [] True:=by
 refine Ctr.bd func376 ntmps376 fun hp=>?_
 (repeat' first|(with_reducible first|refine Z ?_|refine Y ?_|(refine hK _ _ ?_;clear hK K)|refine And.intro ?_ ?_|exact Ct|intro (K:_->_->Prop) hK|(refine gI fun hg=>?_;try simp only [hC,reduceCtorEq] at hg;try simp only [hg]))|(refine AW.i rfl (fun h=>?_) (fun h=>?_)<;>try simp only [hC,reduceCtorEq] at h)|((with_reducible refine E ?_;repeat refine Y ?_);refine eF rfl ?_)|simp (disch:=omega) only [go_sem,ot]|(with_reducible intro hg;try simp only [hC,reduceCtorEq] at hg)|exact Cl|fail)
instance aaJ(L:eaa)(n:Int):Ctr L prog 371 [] [.v (.int .u8 n)] (.ac (ot n)) [] (0<=n/\n<=255):=by
 refine Ctr.bd func371 ntmps371 fun hp=>?_
 (repeat' first|(with_reducible first|refine Z ?_|refine Y ?_|(refine hK _ _ ?_;clear hK K)|refine And.intro ?_ ?_|exact Ct|intro (K:_->_->Prop) hK|(refine gI fun hg=>?_;try simp only [hC,reduceCtorEq] at hg;try simp only [hg]))|(refine AW.i rfl (fun h=>?_) (fun h=>?_)<;>try simp only [hC,reduceCtorEq] at h)|((with_reducible refine E ?_;repeat refine Y ?_);refine eF rfl ?_)|simp (disch:=omega) only [go_sem,ot]|(with_reducible intro hg;try simp only [hC,reduceCtorEq] at hg)|exact Cl|fail)
instance adD(L:eaa)(b:Nat)(s:Str)(i:Nat)(bad:Bool):Ctr L prog 373 [(b,some (jaa s i bad))] [.ptr b 0] (.v (.int .u8 (bif iG s i then at8 s i else 0))) [some (jaa s (bif iG s i then i+1 else i:Nat) (bad || !iG s i))] (i<=s.length/\s.length<=30):=by
 refine Ctr.bd func373 ntmps373 fun hp=>?_
 (refine vU4 ?_ ?_ ?_ ?_<;>intro h)
 ·rw [tV h];rfl
 ·rw [tV h];simp
 ·rw [vg h];rfl
 ·rw [vg h];simp
end Go.Proofs
