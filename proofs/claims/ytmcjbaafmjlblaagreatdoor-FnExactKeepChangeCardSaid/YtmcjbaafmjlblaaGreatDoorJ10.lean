/- A part. -/
import Derived.Test.YtmcjbaafmjlblaaGreatDoorJ9
set_option linter.all false
set_option maxRecDepth 20000
set_option maxHeartbeats 4000000
namespace Go.Dt
open Go.Ab
inductive bq where
 | mk (fOp:Int) (cg:Str) (af:List bq)
instance:Inhabited bq:=⟨.mk 0 [] []⟩
def bq.fOp:bq->Int|.mk a _ _=>a
def bq.cg:bq->Str|.mk _ a _=>a
def bq.af:bq->List bq|.mk _ _ a=>a
mutual
def bO:bq->AV
 | .mk o t ks=>.agg [.v (.int .i64 o),.str t,.sl false 3 (wF ks)]
def wF:List bq->List AV
 | []=>[]
 | x::xs=>bO x::wF xs
end
theorem IW(l:List bq):wF l=l.map bO:=by
 induction l with
 | nil=>rfl
 | cons x xs ih=>simp only [wF,List.map_cons,ih]
@[go_sem] theorem dL(x:bq):bO x=.agg [.v (.int .i64 x.fOp),.str x.cg,.sl false 3 (x.af.map bO)]:=by
 cases x;simp [bO,IW,bq.fOp,bq.cg,bq.af]
def dN(s:Str)(i:Nat)(c:Int):Bool:=decide (i<s.length) && (at8 s i == c)
theorem lg{s:Str}{i:Nat}{c:Int}(h:i<s.length/\at8 s i=c):dN s i c=true:=by simp [dN,h]
theorem rO{s:Str}{i:Nat}{c:Int}(h:i<s.length->¬ at8 s i=c):dN s i c=false:=by
 unfold dN
 by_cases e:i<s.length
 ·simp [h e]
 ·simp [e]
def nK(c:Int):Bool:=ltI c || mB c || c == 95 || c == 45 || c == 46
def iG(s:Str)(i:Nat):Bool:=decide (i<s.length) && nK (at8 s i)
theorem sj{s:Str}{i:Nat}(h:s.length<=i\/nK (at8 s i)=false):iG s i=false:=by
 unfold iG
 rcases h with h|h
 ·rw [show decide (i<s.length)=false by simp;omega];rfl
 ·rw [h,Bool.and_false]
theorem tH{s:Str}{i:Nat}(h:¬ s.length<=i/\nK (at8 s i)=true):iG s i=true:=by
 unfold iG;rw [h.2,Bool.and_true];simp;omega
def lZ(s:Str)(i:Nat):Option (Int×Int×Nat) :=
 if decide (i<s.length) && nK (at8 s i) then
  if dN s (i+1) 126 then
   if decide (i+2<s.length) && nK (at8 s (i+2:Nat)) && decide (at8 s i<=at8 s (i+2:Nat)) then some (at8 s i,at8 s (i+2:Nat),i+3) else none
  else some (at8 s i,at8 s i,i+1)
 else none
theorem Bn{s:Str}{i:Nat}{a z:Int}{j:Nat}(h:lZ s i=some (a,z,j)):i<j/\j<=s.length:=by
 unfold lZ at h
 split at h
 ·rename_i h1
  simp only [Bool.and_eq_true,decide_eq_true_eq] at h1
  split at h
  ·split at h
   ·rename_i h3
    simp only [Bool.and_eq_true,decide_eq_true_eq] at h3
    simp only [Option.some.injEq,Prod.mk.injEq] at h;omega
   ·cases h
  ·simp only [Option.some.injEq,Prod.mk.injEq] at h;omega
 ·cases h
def nR(s:Str)(i:Nat)(has:Nat->Bool):Option ((Nat->Bool)×Nat) :=
 if dN s i 93 then some (has,i+1)
 else match h:lZ s i with
  | none=>none
  | some (a,z,j)=>nR s j (fun c=>has c || (decide (a<=(c:Int)) && decide ((c:Int)<=z)))
termination_by s.length - i
decreasing_by have:=Bn h;omega
def o7(has:Nat->Bool):Str:=((List.range 256).filter has).map UInt8.ofNat
def oM(t:Str):bq:=.mk 1 t []
def mkSeq(l:List bq):bq:=if l.length=1 then at_ l 0 else .mk 2 [] l
def sR(l:List bq):bq:=if l.length=1 then at_ l 0 else .mk 3 [] l
def post(s:Str)(p:bq)(j:Nat):bq×Nat :=
 if dN s j 42 then (.mk 4 [] [p],j+1)
 else if dN s j 43 then (.mk 2 [] [p,.mk 4 [] [p]],j+1)
 else if dN s j 63 then (.mk 5 [] [p],j+1)
 else (p,j)
def yM:Str:=o7 (fun c=>decide (32<=c) && decide (c<=126))
def jD(s:Str)(i:Nat):Option (bq×Nat) :=
 if dN s i 46 then some (oM yM,i+1)
 else if dN s i 91 then match lZ s (i+1) with
  | none=>none
  | some (a,z,j)=>match nR s j (fun c=>decide (a<=(c:Int)) && decide ((c:Int)<=z)) with
   | none=>none
   | some (has,k)=>some (oM (o7 has),k)
 else if decide (i<s.length) && (ltI (at8 s i) || mB (at8 s i) || at8 s i == 45) then some (oM ((s.take (i+1)).drop i),i+1)
 else none
theorem OT(s:Str)(p:bq)(j:Nat):j<=(post s p j).2:=by
 unfold post;repeat' split
 all_goals simp
theorem Gs(s:Str)(p:bq){j:Nat}(h:j<=s.length):(post s p j).2<=s.length:=by
 unfold post dN;repeat' split
 all_goals simp_all
 all_goals omega
mutual
def gQ(s:Str)(i:Nat):Option (bq×Nat) :=
 match gD s i [] with
 | none=>none
 | some (p,j)=>if i<=j then kO s j [p] else none
termination_by 5 * (s.length - i)+4
def kO(s:Str)(j:Nat)(l:List bq):Option (bq×Nat) :=
 if h:j<s.length then
  if at8 s j=124 then
   match gD s (j+1) [] with
   | none=>none
   | some (p,k)=>if j<k then kO s k (l++[p]) else none
  else some (sR l,j)
 else some (sR l,j)
termination_by 5 * (s.length - j)+3
def gD(s:Str)(i:Nat)(l:List bq):Option (bq×Nat) :=
 if h:i<s.length then
  if at8 s i=124\/at8 s i=41 then some (mkSeq l,i)
  else match ji s i with
   | none=>none
   | some (p,j)=>if hj:i<(post s p j).2 then gD s (post s p j).2 (l++[(post s p j).1]) else none
 else some (mkSeq l,i)
termination_by 5 * (s.length - i)+2
def ji(s:Str)(i:Nat):Option (bq×Nat) :=
 if h:i<s.length then
  if at8 s i=40 then
   match gQ s (i+1) with
   | none=>none
   | some (p,j)=>if dN s j 41 then some (p,j+1) else none
  else jD s i
 else none
termination_by 5 * (s.length - i)+1
end
def j8(s:Str):Bool:=decide (s.length<=30) && (match gQ s 0 with|some (_,j)=>j == s.length|none=>false)
end Go.Dt
namespace Go.Proofs
open Go.Ab Go.Dt
instance Yz(L:Nat->Nat)(b:Nat)(s:Str)(i:Nat)(bad:Bool)(c:Int):Ctr L Tryz.prog 293 [(b,some [.str s,.v (.int .i64 i),.v (.bool bad)])] [.ptr b 0,.v (.int .u8 c)] (.v (.bool (dN s i c))) [some [.str s,.v (.int .i64 (bif dN s i c then i+1 else i:Nat)),.v (.bool bad)]] (i<=s.length/\s.length<=30):=by
 refine Ctr.bd Tryz.func293 Tryz.ntmps293 rfl rfl fun hp=>?_
 (refine vU ?_;with_reducible repeat' first|exact Le.l|apply Sw|intro (K:_->_->Prop) hK|intro h)
 ·rw [lg h]
 ·rw [lg h];rfl
 ·rw [rO h]
 ·rw [rO h];rfl
instance Wa(L:Nat->Nat)(b:Nat)(s:Str)(i:Nat)(bad:Bool)(c:Int):Ctr L Tryz.prog 289 [(b,some [.str s,.v (.int .i64 i),.v (.bool bad)])] [.ptr b 0,.v (.int .u8 c)] (.v (.bool (!bad && dN s i c))) [some [.str s,.v (.int .i64 (bif !bad && dN s i c then i+1 else i:Nat)),.v (.bool bad)]] (i<=s.length/\s.length<=30):=by
 refine Ctr.bd Tryz.func289 Tryz.ntmps289 rfl rfl fun hp=>?_
 (refine vU ?_;with_reducible repeat' first|exact Le.l|apply Sw|intro (K:_->_->Prop) hK|intro h)
 ·rw [lg ⟨h.1.2,h.2⟩,h.1.1];rfl
 ·rw [lg ⟨h.1.2,h.2⟩,h.1.1];rfl
 ·cases bad with
  | true=>rfl
  | false=>rw [rO fun e=>h ⟨rfl,e⟩];rfl
 ·cases bad with
  | true=>rfl
  | false=>rw [rO fun e=>h ⟨rfl,e⟩];rfl
instance Wo(L:Nat->Nat)(n:Int):Ctr L Tryz.prog 323 [] [.v (.int .u8 n)] (.v (.bool (nK n))) [] True:=by
 refine Ctr.bd Tryz.func323 Tryz.ntmps323 rfl rfl fun hp=>?_
 (repeat' first|(with_reducible first|refine Z ?_|refine Y ?_|(refine hK _ _ ?_;clear hK K)|refine And.intro ?_ ?_|exact Ct|intro (K:_->_->Prop) hK|(refine gI fun hg=>?_;try simp only [hC,reduceCtorEq] at hg;try simp only [hg]))|(refine AW.i rfl (fun h=>?_) (fun h=>?_)<;>try simp only [hC,reduceCtorEq] at h)|((with_reducible refine E ?_;repeat refine Y ?_);refine eF rfl ?_)|simp (disch:=omega) only [go_sem,nK]|(with_reducible intro hg;try simp only [hC,reduceCtorEq] at hg)|exact Cl|fail)
instance Wb(L:Nat->Nat)(n:Int):Ctr L Tryz.prog 318 [] [.v (.int .u8 n)] (.v (.bool (nK n))) [] (0<=n/\n<=255):=by
 refine Ctr.bd Tryz.func318 Tryz.ntmps318 rfl rfl fun hp=>?_
 (repeat' first|(with_reducible first|refine Z ?_|refine Y ?_|(refine hK _ _ ?_;clear hK K)|refine And.intro ?_ ?_|exact Ct|intro (K:_->_->Prop) hK|(refine gI fun hg=>?_;try simp only [hC,reduceCtorEq] at hg;try simp only [hg]))|(refine AW.i rfl (fun h=>?_) (fun h=>?_)<;>try simp only [hC,reduceCtorEq] at h)|((with_reducible refine E ?_;repeat refine Y ?_);refine eF rfl ?_)|simp (disch:=omega) only [go_sem,nK]|(with_reducible intro hg;try simp only [hC,reduceCtorEq] at hg)|exact Cl|fail)
instance Y4(L:Nat->Nat)(b:Nat)(s:Str)(i:Nat)(bad:Bool):Ctr L Tryz.prog 322 [(b,some [.str s,.v (.int .i64 i),.v (.bool bad)])] [.ptr b 0] (.v (.int .u8 (bif iG s i then at8 s i else 0))) [some [.str s,.v (.int .i64 (bif iG s i then i+1 else i:Nat)),.v (.bool (bad || !iG s i))]] (i<=s.length/\s.length<=30):=by
 refine Ctr.bd Tryz.func322 Tryz.ntmps322 rfl rfl fun hp=>?_
 (refine vU ?_;with_reducible repeat' first|exact Le.l|apply Sw|intro (K:_->_->Prop) hK|intro h)
 ·rw [sj h];rfl
 ·rw [sj h];simp
 ·rw [tH h];rfl
 ·rw [tH h];simp
end Go.Proofs
