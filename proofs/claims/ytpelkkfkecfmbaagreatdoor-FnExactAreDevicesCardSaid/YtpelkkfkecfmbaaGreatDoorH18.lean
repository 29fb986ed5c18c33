/- Part of a proof. -/
import Derived.Test.YtpelkkfkecfmbaaGreatDoorH16
import Derived.Test.YtpelkkfkecfmbaaGreatDoorH17
set_option linter.all false
namespace Go.Dt
open Go Go.Ab
def nA(l:List bt)(i:Nat)(bad:Bool):bt:=if bad=false/\i<l.length then at_ l i else ⟨0,[],0⟩
def isK(l:List bt)(k:Int)(i:Nat)(bad:Bool):Bool:=decide ((nA l i bad).k=k)
def isT(l:List bt)(k:Int)(t:Str)(i:Nat)(bad:Bool):Bool:=decide ((nA l i bad).k=k) && (nA l i bad).t == t
def adv(m:Bool)(i:Nat):Nat:=bif m then i+1 else i
def kX(l:List bt)(k:Int)(i:Nat)(bad:Bool):Str:=bif isK l k i bad then (nA l i bad).t else []
def kI(l:List bt)(k:Int)(i:Nat)(bad:Bool):Nat:=adv (isK l k i bad) i
def kB(l:List bt)(k:Int)(i:Nat)(bad:Bool):Bool:=bad || !isK l k i bad
def mI(l:List bt)(t:Str)(i:Nat)(bad:Bool):Nat:=adv (isT l 4 t i bad) i
def mB(l:List bt)(t:Str)(i:Nat)(bad:Bool):Bool:=bad || !isT l 4 t i bad
def L0{l:List bt}{i:Nat}{bad:Bool}(h:¬ (nA l i bad).k=0):i<l.length/\bad=false:=by
 unfold nA at h;split at h
 ·rename_i e;exact ⟨e.2,e.1⟩
 ·exact absurd rfl h
def gQ{l:List bt}{k:Int}{t:Str}{i:Nat}{bad:Bool}(hk:¬ k=0)(h:isT l k t i bad=true):i<l.length/\bad=false:=by simp only [isT,Bool.and_eq_true,decide_eq_true_eq] at h;exact L0 (by rw [h.1];exact hk)
def Bo{l:List bt}{k:Int}{i:Nat}{bad:Bool}(hk:¬ k=0)(h:isK l k i bad=true):i<l.length/\bad=false:=by simp only [isK,decide_eq_true_eq] at h;exact L0 (by rw [h];exact hk)
def o6(m:Bool)(i:Nat):i<=adv m i/\adv m i<=i+1:=by cases m<;>simp [adv]
def Bl{l:List bt}{k:Int}{i:Nat}{bad:Bool}(hk:¬ k=0)(h:i<=l.length):kI l k i bad<=l.length:=by
 unfold kI;cases e:isK l k i bad
 ·exact h
 ·exact (Bo hk e).1
def Be{l:List bt}{t:Str}{i:Nat}{bad:Bool}(h:i<=l.length):mI l t i bad<=l.length:=by
 unfold mI;cases e:isT l 4 t i bad
 ·exact h
 ·exact (gQ baa e).1
def BP(l:List bt)(i:Nat)(b:Bool):Nat:=mI l [61] (kI l 1 i b) (kB l 1 i b)
def E3(l:List bt)(i:Nat)(b:Bool):Bool:=mB l [61] (kI l 1 i b) (kB l 1 i b)
def tsX(l:List bt)(i:Nat)(b:Bool):cu:=⟨kX l 1 i b,kX l 3 (BP l i b) (E3 l i b)⟩
def tsI(l:List bt)(i:Nat)(b:Bool):Nat:=mI l [93] (kI l 3 (BP l i b) (E3 l i b)) (kB l 3 (BP l i b) (E3 l i b))
def tsB(l:List bt)(i:Nat)(b:Bool):Bool:=mB l [93] (kI l 3 (BP l i b) (E3 l i b)) (kB l 3 (BP l i b) (E3 l i b))
def Af(l:List bt)(i:Nat)(b:Bool):i<=tsI l i b:=by unfold tsI BP mI kI;have a1:=o6 (isK l 1 i b) i;refine Nat.le_trans a1.1 (Nat.le_trans (o6 _ _).1 (Nat.le_trans (o6 _ _).1 (o6 _ _).1))
def E2{l:List bt}{i:Nat}{b:Bool}(h:i<=l.length):tsI l i b<=l.length:=Be (Bl baa (Be (Bl baa h)))
def iI(l:List bt)(i:Nat)(b:Bool)(acc:List cu):List cu×Nat×Bool :=
 if h:isT l 4 [91] i b=true then iI l (tsI l (i+1) b) (tsB l (i+1) b) (acc++[tsX l (i+1) b]) else (acc,i,b)
termination_by l.length - i
decreasing_by have:=(gQ baa h).1;have:=Af l (i+1) b;omega
def bp(l:List bt)(i:Nat)(b:Bool):GStep×Nat×Bool :=
 (⟨kX l 1 i b,(iI l (kI l 1 i b) (kB l 1 i b) []).1⟩,(iI l (kI l 1 i b) (kB l 1 i b) []).2)
def yU{l:List bt}:∀ (n i:Nat) (b:Bool) (acc:List cu),l.length - i<=n->i<=l.length->acc.length<=i->i<=(iI l i b acc).2.1/\(iI l i b acc).2.1<=l.length/\(iI l i b acc).1.length<=(iI l i b acc).2.1
 | n,i,b,acc,hn,hi,ha=>by
  rw [iI];split
  ·rename_i h;have h1:=(gQ baa h).1;have h2:=Af l (i+1) b;have h3:=E2 (b:=b) (show i+1<=l.length from h1)
   match n,hn with
   | 0,hn=>omega
   | n+1,hn =>
    have:=yU n (tsI l (i+1) b) (tsB l (i+1) b) (acc++[tsX l (i+1) b]) Ir h3 (by rw [List.length_append,List.length_singleton];omega);exact ⟨Ir,this.2⟩
  ·exact ⟨Nat.le_refl _,hi,ha⟩
def qb{l:List bt}{i:Nat}{b:Bool}(hi:i<=l.length):i<=(bp l i b).2.1/\(bp l i b).2.1<=l.length/\(bp l i b).1.aT.length<=l.length:=by
 have h0:i<=kI l 1 i b:=(o6 _ _).1
 have:=yU (l:=l) (l.length - kI l 1 i b) (kI l 1 i b) (kB l 1 i b) [] (Nat.le_refl _) (Bl baa hi) (Nat.zero_le _);unfold bp;simp only;omega
def RF(l:List bt)(i:Nat)(b:Bool)(h:i<=l.length):i<=(bp l i b).2.1:=(qb h).1
def ld(l:List bt)(i:Nat)(b:Bool)(acc:List GStep):List GStep×Nat×Bool :=
 if h:isT l 4 [47] i b=true then ld l (bp l (i+1) b).2.1 (bp l (i+1) b).2.2 (acc++[(bp l (i+1) b).1]) else (acc,i,b)
termination_by l.length - i
decreasing_by have h1:=(gQ baa h).1;have:=RF l (i+1) b h1;omega
def iQ(l:List bt)(i u:Nat):Nat×Nat×Bool :=
 if h:isT l 4 [46,46] i false=true then (if isT l 4 [47] (i+1) false=true then iQ l (i+2) (u+1) else (u+1,i+1,false)) else (u,i,true)
termination_by l.length - i
decreasing_by have h1:=(gQ baa h).1;omega
def runT(l:List bt)(i:Nat):List GStep×Nat×Bool:=ld l (bp l i false).2.1 (bp l i false).2.2 [(bp l i false).1]
def j8(root:Bool)(u:Nat)(r:List GStep×Nat×Bool):bP×Nat×Bool:=(⟨root,(u:Int),r.1⟩,r.2.1,r.2.2 || !dQ ⟨root,(u:Int),r.1⟩)
def eC(l:List bt):bP×Nat×Bool :=
 if isT l 4 [47] 0 false=true then (if isK l 1 1 false=true then j8 true 0 (runT l 1) else j8 true 0 ([],1,false))
 else if (iQ l 0 0).2.2=true then j8 false (iQ l 0 0).1 (runT l (iQ l 0 0).2.1) else j8 false (iQ l 0 0).1 ([],(iQ l 0 0).2.1,false)
def kV(s:Str):Option bP :=
 if (eI s).2 = -1/\(eC (eI s).1).2.2=false/\(eC (eI s).1).2.1=(eI s).1.length then some (eC (eI s).1).1 else none
def prB(s:Str):Bool:=gD s && Lib.itoa (eH s) == s
def prV(s:Str):Int:=bif prB s then eH s else 0
def dM:List ae->List Str->Option ae
 | _,[]=>none
 | s,[n]=>if 0<=idx (nmP n) (dk s) then some (at_ (dk s) (idx (nmP n) (dk s)).toNat) else none
 | s,n::m::r=>if 0<=idx (nmP n) (dk s) then dM (at_ (dk s) (idx (nmP n) (dk s)).toNat).af (m::r) else none
def ku(n:ae)(t:cu):Bool:=decide (0<=idx (dW t.ag) (dk n.af))
def jV(l:List ae):List GStep->List Str->Option (List Str)
 | [],out=>some out
 | s::r,out=>match dM l (out++[s.ag]) with
  | none=>none
  | some n=>if s.aT.all (ku n)=true then jV l r (out++[s.ag]) else none
def eM(l:List ae)(at0:List Str)(p:bP):Option (List Str) :=
 if dQ p=true/\p.bG<=at0.length then jV l p.av (if p.bR=true then [] else at0.take (at0.length - p.bG.toNat)) else none
def vR(n:ae):Bool:=(decide (n.aj=3) || decide (n.aj=4)) && !decide (n.fType.aj=5) && !decide (n.fType.aj=6)
def nY(l:List ae)(at0:List Str)(t:cT):Option (List Str) :=
 if t.aj=5 then (match kV t.az with
  | none=>none
  | some p=>match eM l at0 p with
   | none=>none
   | some out=>match dM l out with
    | none=>none
    | some n=>if vR n=true then some out else none) else none
mutual
def fH:aB->List bP
 | .mk op _ _ p ks=>(if op=3\/op=4 then [p] else [])++Ex ks
def Ex:List aB->List bP
 | []=>[]
 | x::xs=>fH x++Ex xs
end
def uD:∀ l:List aB,Ex l=l.flatMap fH
 | []=>rfl
 | x::xs=>by simp [Ex,uD xs]
def I6(x:aB):fH x=(if x.fOp=3\/x.fOp=4 then [x.az] else [])++x.af.flatMap fH:=by cases x;rw [fH,uD];rfl
def ml(l:List ae)(at0:List Str)(es:List aB):Bool:=es.all fun e=>(fH e).all fun p=>(eM l at0 p).isSome
def eX(n:ae)(at0:List Str):List Str:=if cg n.aj=true then at0++[n.ag] else at0
mutual
def rl(all:List ae):ae->List Str->Int×List Str
 | .mk k nm ty ks un df gv nd pr fx mn mx wh mu kids,at0 =>
  let here:=if cg k=true then at0++[nm] else at0
  if ml all here wh=false then (2,here)
  else if ml all here mu=false then (3,here)
  else if ty.aj=5/\nY all here ty=none then (4,here)
  else fB all kids here
def fB(all:List ae):List ae->List Str->Int×List Str
 | [],_=>(0,[])
 | n::r,at0=>if (rl all n at0).1=0 then fB all r at0 else rl all n at0
end
def iF(l:List ae):Int×List Str:=if fX l=true then fB l l [] else (1,[])
def cL:List ah->List Int->List ah
 | l,[]=>l
 | l,i::r=>if 0<=i/\i<l.length then cL (at_ l i.toNat).af r else []
def iJ:List ah->List Int->Option ah
 | _,[]=>none
 | l,[i]=>if 0<=i/\i<l.length then some (at_ l i.toNat) else none
 | l,i::j::r=>if 0<=i/\i<l.length then iJ (at_ l i.toNat).af (j::r) else none
def vO(x:ah)(t:cu):Bool:=x.af.any fun k=>k.ag == t.ag && k.ax == t.ax
def uE(x:ah)(ts:List cu):Bool:=ts.all (vO x)
def iU(s:GStep)(place:List Int)(i:Int):List ah->List (List Int)
 | []=>[]
 | x::r=>(if (x.ag == s.ag && uE x s.aT)=true then [place++[i]] else [])++iU s place (i+1) r
def nE(l:List ah):List GStep->List (List Int)->List (List Int)
 | [],ps=>ps
 | s::r,ps=>nE l r (ps.flatMap fun p=>iU s p 0 (cL l p))
def eZ(l:List ah)(at0:List Int)(p:bP):List (List Int) :=
 if dQ p=true/\p.bG<=at0.length then nE l p.av [if p.bR=true then [] else at0.take (at0.length - p.bG.toNat)] else []
def gm(l:List ah)(at0:List Int)(p:bP):List Str:=(eZ l at0 p).flatMap fun q=>match iJ l q with
 | some x=>[x.ax]
 | none=>[]
structure eA where
 aj:Int
 dn:Int
 bI:Str
 iL:Bool
 fA:List Str
instance:Inhabited eA:=⟨⟨0,0,[],false,[]⟩⟩
def di(fmt:Int->Str)(w:eA):List Str :=
 if w.aj=1 then [fmt w.dn] else if w.aj=2 then [w.bI] else if w.aj=3 then (if w.iL=true then [[116,114,117,101]] else [[102,97,108,115,101]]) else if w.aj=4 then w.fA else []
def ji(w:eA):Bool :=
 if w.aj=1 then !decide (w.dn=0) else if w.aj=2 then !w.bI.isEmpty else if w.aj=3 then w.iL else if w.aj=4 then !w.fA.isEmpty else false
def jM(op:Int)(a b:Str):Bool :=
 if op=8 then a == b else if op=9 then !(a == b)
 else if (prB a && prB b)=false then false
 else if op=10 then decide (prV a<prV b) else if op=11 then decide (prV a<=prV b)
 else if op=12 then decide (prV b<prV a) else if op=13 then decide (prV b<=prV a) else false
def mh(b:Bool):eA:=⟨3,0,[],b,[]⟩
def sF(fmt:Int->Str)(op:Int)(a b:eA):eA :=
 match di fmt a,di fmt b with
 | x::_,y::_ =>
  let n:=if op=15 then prV x - prV y else prV x+prV y
  if (prB x && prB y && decide (-1000000000<=n) && decide (n<=1000000000))=true then ⟨1,n,[],false,[]⟩ else ⟨2,0,[],false,[]⟩
 | _,_=>⟨2,0,[],false,[]⟩
mutual
def bf(fmt:Int->Str)(t:List ah)(at0:List Int):aB->eA
 | .mk op num tx p ks =>
  let w:=zO fmt t at0 ks
  if op=1 then ⟨1,num,[],false,[]⟩ else if op=2 then ⟨2,0,tx,false,[]⟩
  else if op=3 then ⟨4,0,[],false,gm t at0 p⟩ else if op=4 then ⟨1,(eZ t at0 p).length,[],false,[]⟩
  else if op=5 then mh (!ji (at_ w 0))
  else if op=6 then mh (ji (at_ w 0) || ji (at_ w 1)) else if op=7 then mh (ji (at_ w 0) && ji (at_ w 1))
  else if op=14\/op=15 then sF fmt op (at_ w 0) (at_ w 1)
  else mh ((di fmt (at_ w 0)).any fun x=>(di fmt (at_ w 1)).any fun y=>jM op x y)
def zO(fmt:Int->Str)(t:List ah)(at0:List Int):List aB->List eA
 | []=>[]
 | x::xs=>bf fmt t at0 x::zO fmt t at0 xs
end
def pK(fmt:Int->Str)(t:List ah)(at0:List Int)(e:aB):Bool:=fj e && ji (bf fmt t at0 e)
def ck(fmt:Int->Str)(t:List ah)(at0:List Int)(es:List aB):Bool:=es.all (pK fmt t at0)
end Go.Dt
