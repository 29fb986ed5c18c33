/- Part of a proof. -/
import Derived.Test.YtbiikafnjialjaaGreatDoorG8
set_option linter.all false
set_option maxRecDepth 20000
set_option maxHeartbeats 4000000
namespace Go.Dt
open Go.Ab
inductive bg where
 | mk (fOp:Int) (bW:Str) (ag:List bg)
instance:Inhabited bg:=⟨.mk 0 [] []⟩
def bg.fOp:bg->Int|.mk a _ _=>a
def bg.bW:bg->Str|.mk _ a _=>a
def bg.ag:bg->List bg|.mk _ _ a=>a
mutual
def bF:bg->AV
 | .mk o t ks=>.agg [.v (.int .i64 o),.str t,.sl false 3 (uZ ks)]
def uZ:List bg->List AV
 | []=>[]
 | x::xs=>bF x::uZ xs
end
theorem GF(l:List bg):uZ l=l.map bF:=by
 induction l with
 | nil=>rfl
 | cons x xs ih=>simp only [uZ,List.map_cons,ih]
@[go_sem] theorem dG(x:bg):bF x=.agg [.v (.int .i64 x.fOp),.str x.bW,.sl false 3 (x.ag.map bF)]:=by
 cases x;simp [bF,GF,bg.fOp,bg.bW,bg.ag]
def dJ(s:Str)(i:Nat)(c:Int):Bool:=decide (i<s.length) && (at8 s i == c)
theorem kO{s:Str}{i:Nat}{c:Int}(h:i<s.length/\at8 s i=c):dJ s i c=true:=by simp [dJ,h]
theorem rr{s:Str}{i:Nat}{c:Int}(h:i<s.length->¬ at8 s i=c):dJ s i c=false:=by
 unfold dJ
 by_cases e:i<s.length
 ·simp [h e]
 ·simp [e]
def mW(c:Int):Bool:=ltI c || l8 c || c == 95 || c == 45 || c == 46
def il(s:Str)(i:Nat):Bool:=decide (i<s.length) && mW (at8 s i)
theorem rB{s:Str}{i:Nat}(h:s.length<=i\/mW (at8 s i)=false):il s i=false:=by
 unfold il
 rcases h with h|h
 ·rw [show decide (i<s.length)=false by simp;omega];rfl
 ·rw [h,Bool.and_false]
theorem sP{s:Str}{i:Nat}(h:¬ s.length<=i/\mW (at8 s i)=true):il s i=true:=by
 unfold il;rw [h.2,Bool.and_true];simp;omega
def lK(s:Str)(i:Nat):Option (Int×Int×Nat) :=
 if decide (i<s.length) && mW (at8 s i) then
  if dJ s (i+1) 126 then
   if decide (i+2<s.length) && mW (at8 s (i+2:Nat)) && decide (at8 s i<=at8 s (i+2:Nat)) then some (at8 s i,at8 s (i+2:Nat),i+3) else none
  else some (at8 s i,at8 s i,i+1)
 else none
theorem zI{s:Str}{i:Nat}{a z:Int}{j:Nat}(h:lK s i=some (a,z,j)):i<j/\j<=s.length:=by
 unfold lK at h
 split at h
 ·rename_i h1
  simp only [Bool.and_eq_true,decide_eq_true_eq] at h1
  split at h
  ·split at h
   ·rename_i h3
    simp only [Bool.and_eq_true,decide_eq_true_eq] at h3
    simp only [Option.some.injEq,Prod.mk.injEq] at h;omega
   ·cases h
  ·simp only [Option.some.injEq,Prod.mk.injEq] at h;omega
 ·cases h
def nj(s:Str)(i:Nat)(has:Nat->Bool):Option ((Nat->Bool)×Nat) :=
 if dJ s i 93 then some (has,i+1)
 else match h:lK s i with
  | none=>none
  | some (a,z,j)=>nj s j (fun c=>has c || (decide (a<=(c:Int)) && decide ((c:Int)<=z)))
termination_by s.length - i
decreasing_by have:=zI h;omega
def oA(has:Nat->Bool):Str:=((List.range 256).filter has).map UInt8.ofNat
def n9(t:Str):bg:=.mk 1 t []
def mkSeq(l:List bg):bg:=if l.length=1 then at_ l 0 else .mk 2 [] l
def su(l:List bg):bg:=if l.length=1 then at_ l 0 else .mk 3 [] l
def post(s:Str)(p:bg)(j:Nat):bg×Nat :=
 if dJ s j 42 then (.mk 4 [] [p],j+1)
 else if dJ s j 43 then (.mk 2 [] [p,.mk 4 [] [p]],j+1)
 else if dJ s j 63 then (.mk 5 [] [p],j+1)
 else (p,j)
def oB:Str:=oA (fun c=>decide (32<=c) && decide (c<=126))
def jn(s:Str)(i:Nat):Option (bg×Nat) :=
 if dJ s i 46 then some (n9 oB,i+1)
 else if dJ s i 91 then match lK s (i+1) with
  | none=>none
  | some (a,z,j)=>match nj s j (fun c=>decide (a<=(c:Int)) && decide ((c:Int)<=z)) with
   | none=>none
   | some (has,k)=>some (n9 (oA has),k)
 else if decide (i<s.length) && (ltI (at8 s i) || l8 (at8 s i) || at8 s i == 45) then some (n9 ((s.take (i+1)).drop i),i+1)
 else none
theorem LJ(s:Str)(p:bg)(j:Nat):j<=(post s p j).2:=by
 unfold post;repeat' split
 all_goals simp
theorem EO(s:Str)(p:bg){j:Nat}(h:j<=s.length):(post s p j).2<=s.length:=by
 unfold post dJ;repeat' split
 all_goals simp_all
 all_goals omega
mutual
def gE(s:Str)(i:Nat):Option (bg×Nat) :=
 match gp s i [] with
 | none=>none
 | some (p,j)=>if i<=j then ke s j [p] else none
termination_by 5 * (s.length - i)+4
def ke(s:Str)(j:Nat)(l:List bg):Option (bg×Nat) :=
 if h:j<s.length then
  if at8 s j=124 then
   match gp s (j+1) [] with
   | none=>none
   | some (p,k)=>if j<k then ke s k (l++[p]) else none
  else some (su l,j)
 else some (su l,j)
termination_by 5 * (s.length - j)+3
def gp(s:Str)(i:Nat)(l:List bg):Option (bg×Nat) :=
 if h:i<s.length then
  if at8 s i=124\/at8 s i=41 then some (mkSeq l,i)
  else match iT s i with
   | none=>none
   | some (p,j)=>if hj:i<(post s p j).2 then gp s (post s p j).2 (l++[(post s p j).1]) else none
 else some (mkSeq l,i)
termination_by 5 * (s.length - i)+2
def iT(s:Str)(i:Nat):Option (bg×Nat) :=
 if h:i<s.length then
  if at8 s i=40 then
   match gE s (i+1) with
   | none=>none
   | some (p,j)=>if dJ s j 41 then some (p,j+1) else none
  else jn s i
 else none
termination_by 5 * (s.length - i)+1
end
def dB(s:Str):Bool:=decide (s.length<=30) && (match gE s 0 with|some (_,j)=>j == s.length|none=>false)
end Go.Dt
namespace Go.Proofs
open Go.Ab Go.Dt
instance VU(L:Nat->Nat)(b:Nat)(s:Str)(i:Nat)(bad:Bool)(c:Int):Ctr L Tryz.prog 316 [(b,some [.str s,.v (.int .i64 i),.v (.bool bad)])] [.ptr b 0,.v (.int .u8 c)] (.v (.bool (dJ s i c))) [some [.str s,.v (.int .i64 (bif dJ s i c then i+1 else i:Nat)),.v (.bool bad)]] (i<=s.length/\s.length<=30):=by
 refine Ctr.bd Tryz.func316 Tryz.ntmps316 rfl rfl fun hp=>?_
 (refine vU ?_;with_reducible repeat' first|exact Le.l|apply Sw|intro (K:_->_->Prop) hK|intro h)
 ·rw [kO h]
 ·rw [kO h];rfl
 ·rw [rr h]
 ·rw [rr h];rfl
instance Tt(L:Nat->Nat)(b:Nat)(s:Str)(i:Nat)(bad:Bool)(c:Int):Ctr L Tryz.prog 309 [(b,some [.str s,.v (.int .i64 i),.v (.bool bad)])] [.ptr b 0,.v (.int .u8 c)] (.v (.bool (!bad && dJ s i c))) [some [.str s,.v (.int .i64 (bif !bad && dJ s i c then i+1 else i:Nat)),.v (.bool bad)]] (i<=s.length/\s.length<=30):=by
 refine Ctr.bd Tryz.func309 Tryz.ntmps309 rfl rfl fun hp=>?_
 (refine vU ?_;with_reducible repeat' first|exact Le.l|apply Sw|intro (K:_->_->Prop) hK|intro h)
 ·rw [kO ⟨h.1.2,h.2⟩,h.1.1];rfl
 ·rw [kO ⟨h.1.2,h.2⟩,h.1.1];rfl
 ·cases bad with
  | true=>rfl
  | false=>rw [rr fun e=>h ⟨rfl,e⟩];rfl
 ·cases bad with
  | true=>rfl
  | false=>rw [rr fun e=>h ⟨rfl,e⟩];rfl
instance TI(L:Nat->Nat)(n:Int):Ctr L Tryz.prog 373 [] [.v (.int .u8 n)] (.v (.bool (mW n))) [] True:=by
 refine Ctr.bd Tryz.func373 Tryz.ntmps373 rfl rfl fun hp=>?_
 (repeat' first|(with_reducible first|refine Z ?_|refine Y ?_|(refine hK _ _ ?_;clear hK K)|refine And.intro ?_ ?_|exact Ct|intro (K:_->_->Prop) hK|(refine gI fun hg=>?_;try simp only [hC,reduceCtorEq] at hg;try simp only [hg]))|(refine AW.i rfl (fun h=>?_) (fun h=>?_)<;>try simp only [hC,reduceCtorEq] at h)|((with_reducible refine E ?_;repeat refine Y ?_);refine eF rfl ?_)|simp (disch:=omega) only [go_sem,mW]|(with_reducible intro hg;try simp only [hC,reduceCtorEq] at hg)|exact Cl|fail)
instance Tu(L:Nat->Nat)(n:Int):Ctr L Tryz.prog 366 [] [.v (.int .u8 n)] (.v (.bool (mW n))) [] (0<=n/\n<=255):=by
 refine Ctr.bd Tryz.func366 Tryz.ntmps366 rfl rfl fun hp=>?_
 (repeat' first|(with_reducible first|refine Z ?_|refine Y ?_|(refine hK _ _ ?_;clear hK K)|refine And.intro ?_ ?_|exact Ct|intro (K:_->_->Prop) hK|(refine gI fun hg=>?_;try simp only [hC,reduceCtorEq] at hg;try simp only [hg]))|(refine AW.i rfl (fun h=>?_) (fun h=>?_)<;>try simp only [hC,reduceCtorEq] at h)|((with_reducible refine E ?_;repeat refine Y ?_);refine eF rfl ?_)|simp (disch:=omega) only [go_sem,mW]|(with_reducible intro hg;try simp only [hC,reduceCtorEq] at hg)|exact Cl|fail)
instance Wm(L:Nat->Nat)(b:Nat)(s:Str)(i:Nat)(bad:Bool):Ctr L Tryz.prog 370 [(b,some [.str s,.v (.int .i64 i),.v (.bool bad)])] [.ptr b 0] (.v (.int .u8 (bif il s i then at8 s i else 0))) [some [.str s,.v (.int .i64 (bif il s i then i+1 else i:Nat)),.v (.bool (bad || !il s i))]] (i<=s.length/\s.length<=30):=by
 refine Ctr.bd Tryz.func370 Tryz.ntmps370 rfl rfl fun hp=>?_
 (refine vU ?_;with_reducible repeat' first|exact Le.l|apply Sw|intro (K:_->_->Prop) hK|intro h)
 ·rw [rB h];rfl
 ·rw [rB h];simp
 ·rw [sP h];rfl
 ·rw [sP h];simp
end Go.Proofs
