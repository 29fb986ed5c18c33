/- Part of a proof. -/
import Derived.Lib.ItoaLen
import Derived.Test.YtpelkkfkecfmbaaGreatDoorH19
set_option linter.all false
namespace Go.Dt
open Go.Ab
section
def mkL{α:Type}(f:α->Int->α×Int):List α->Int->List α×Int
 | [],k=>([],k)
 | x::xs,k=>((f x k).1::(mkL f xs (f x k).2).1,(mkL f xs (f x k).2).2)
section
variable {α : Type} {f : α -> Int -> α × Int}
def mkc(f:α->Int->α×Int)(l:List α)(k:Int)(i:Nat):Int:=(mkL f (l.take i) k).2
def mkp(f:α->Int->α×Int)(l:List α)(k:Int)(i:Nat):List α:=(mkL f (l.take i) k).1++l.drop i
variable [Inhabited α]
def mkb(e:α->AV)(f:α->Int->α×Int)(l:List α)(k:Int)(i:Nat):List AV:=((mkL f (l.take i) k).1.map e).flatMap AV.cells
end
def OG{p e:List AV}{n j:Nat}(h:p.length=n):(p++e).take (n+j)=p++e.take j:=by subst h;rw [List.take_length_add_append]
def LF{p e:List AV}{n j:Nat}(h:p.length=n):(p++e).drop (n+j)=e.drop j:=by subst h;rw [List.drop_length_add_append]
def YC{p e:List AV}{n j m:Nat}(h:p.length=n):(p++e).drop (n+j+m)=e.drop (j+m):=by rw [Nat.add_assoc];exact LF h
def WA{p e:List AV}{n j m q:Nat}(h:p.length=n):(p++e).drop (n+j+m+q)=e.drop (j+m+q):=by rw [Nat.add_assoc n j m,Nat.add_assoc n];exact LF h
def YD{p e:List AV}{n j m q r:Nat}(h:p.length=n):(p++e).drop (n+j+m+q+r)=e.drop (j+m+q+r):=by rw [Nat.add_assoc n j m,Nat.add_assoc n,Nat.add_assoc n];exact LF h
def XG{p e:List AV}{n j m:Nat}(h:p.length=n):(p++e).take (n+j+m)=p++e.take (j+m):=by rw [Nat.add_assoc];exact OG h
def UF{p e:List AV}{n j m q:Nat}(h:p.length=n):(p++e).take (n+j+m+q)=p++e.take (j+m+q):=by rw [Nat.add_assoc n j m,Nat.add_assoc n];exact OG h
attribute [go_sem] XG UF WA YD OG LF YC List.append_assoc List.append_nil List.take_succ_cons List.drop_succ_cons List.take_zero List.drop_zero
end
section
def eG(x:Str)(k:Int):Str×Int:=(mkT k,k+1)
def sG(x:Str)(k:Int):k+1<=(eG x k).2:=by unfold eG;omega
def nH{α:Type}{f:α->Int->α×Int}(h:∀ x k,k+1<=(f x k).2):∀ (l:List α) (k:Int),k+l.length<=(mkL f l k).2
 | [],k=>by simp [mkL]
 | x::xs,k=>by have h1:=h x k;have h2:=nH h xs (f x k).2;simp only [mkL,List.length_cons];omega
end
section
def jT(x:da)(k:Int):da×Int:=(⟨k,k+1⟩,k+1+1)
def Ko(x:da)(k:Int):k+1<=(jT x k).2:=by unfold jT;simp only;omega
def Am(x:cu)(k:Int):cu×Int:=(⟨mkT k,mkT (k+1)⟩,k+1+1)
def Mb(x:cu)(k:Int):k+1<=(Am x k).2:=by unfold Am;simp only;omega
def oR(x:GStep)(k:Int):GStep×Int:=(⟨mkT k,(mkL Am x.aT (k+1)).1⟩,(mkL Am x.aT (k+1)).2)
def Mc(x:GStep)(k:Int):k+1<=(oR x k).2:=by have g0:=nH Mb x.aT (k+1);unfold oR;simp only;omega
mutual
def lz:aB->Int->aB×Int
 | .mk fOp dn bI az af,k=>(.mk k (k+1) (mkT (k+1+1)) (⟨((k+1+1+1).tmod 3 == 0),k+1+1+1+1,(mkL oR az.av (k+1+1+1+1+1)).1⟩) ((og af ((mkL oR az.av (k+1+1+1+1+1)).2)).1),(og af ((mkL oR az.av (k+1+1+1+1+1)).2)).2)
def og:List aB->Int->List aB×Int
 | [],k=>([],k)
 | x::xs,k=>((lz x k).1::(og xs (lz x k).2).1,(og xs (lz x k).2).2)
end
mutual
def vY:∀ (x:aB) (k:Int),k+1<=(lz x k).2
 | .mk fOp dn bI az af,k=>by
  have g0:=nH Mc az.av (k+1+1+1+1+1)
  have g1:=Ap af ((mkL oR az.av (k+1+1+1+1+1)).2);simp only [lz];omega
def Ap:∀ (l:List aB) (k:Int),k+l.length<=(og l k).2
 | [],k=>by simp [og]
 | x::xs,k=>by have h1:=vY x k;have h2:=Ap xs (lz x k).2;simp only [og,List.length_cons];omega
end
mutual
def oe:ae->Int->ae×Int
 | .mk aj ag fType aE ay aV bS bD aZ cU eJ dU aG bO af,k=>let a:=mkL jT fType.aP (k+1+1+1);let b:=mkL eG fType.aF (a.2);let c:=mkL eG aE (b.2+1+1);let d:=mkL eG ay (c.2);let e:=mkL lz aG (d.2+1+1+1+1+1+1+1);let f:=mkL lz bO (e.2);(.mk k (mkT (k+1)) (⟨k+1+1,a.1,b.1,mkT (b.2),mkT (b.2+1)⟩) (c.1) (d.1) (mkT (d.2)) (((d.2+1).tmod 3 == 0)) (((d.2+1+1).tmod 3 == 0)) (((d.2+1+1+1).tmod 3 == 0)) (((d.2+1+1+1+1).tmod 3 == 0)) (d.2+1+1+1+1+1) (d.2+1+1+1+1+1+1) (e.1) (f.1) ((lv af (f.2)).1),(lv af (f.2)).2)
def lv:List ae->Int->List ae×Int
 | [],k=>([],k)
 | x::xs,k=>((oe x k).1::(lv xs (oe x k).2).1,(lv xs (oe x k).2).2)
end
mutual
def HY:∀ (x:ae) (k:Int),k+1<=(oe x k).2
 | .mk aj ag fType aE ay aV bS bD aZ cU eJ dU aG bO af,k=>by
  have g0:=nH Ko fType.aP (k+1+1+1)
  have g1:=nH sG fType.aF ((mkL jT fType.aP (k+1+1+1)).2)
  have g2:=nH sG aE ((mkL eG fType.aF ((mkL jT fType.aP (k+1+1+1)).2)).2+1+1)
  have g3:=nH sG ay ((mkL eG aE ((mkL eG fType.aF ((mkL jT fType.aP (k+1+1+1)).2)).2+1+1)).2)
  have g4:=nH vY aG ((mkL eG ay ((mkL eG aE ((mkL eG fType.aF ((mkL jT fType.aP (k+1+1+1)).2)).2+1+1)).2)).2+1+1+1+1+1+1+1)
  have g5:=nH vY bO ((mkL lz aG ((mkL eG ay ((mkL eG aE ((mkL eG fType.aF ((mkL jT fType.aP (k+1+1+1)).2)).2+1+1)).2)).2+1+1+1+1+1+1+1)).2)
  have g6:=vW af ((mkL lz bO ((mkL lz aG ((mkL eG ay ((mkL eG aE ((mkL eG fType.aF ((mkL jT fType.aP (k+1+1+1)).2)).2+1+1)).2)).2+1+1+1+1+1+1+1)).2)).2);simp only [oe];omega
def vW:∀ (l:List ae) (k:Int),k+l.length<=(lv l k).2
 | [],k=>by simp [lv]
 | x::xs,k=>by have h1:=HY x k;have h2:=vW xs (oe x k).2;simp only [lv,List.length_cons];omega
end
mutual
def oT:ah->Int->ah×Int
 | .mk ag ax af,k=>(.mk (mkT k) (mkT (k+1)) ((kO af (k+1+1)).1),(kO af (k+1+1)).2)
def kO:List ah->Int->List ah×Int
 | [],k=>([],k)
 | x::xs,k=>((oT x k).1::(kO xs (oT x k).2).1,(kO xs (oT x k).2).2)
end
mutual
def Md:∀ (x:ah) (k:Int),k+1<=(oT x k).2
 | .mk ag ax af,k=>by
  have g0:=Ao af (k+1+1);simp only [oT];omega
def Ao:∀ (l:List ah) (k:Int),k+l.length<=(kO l k).2
 | [],k=>by simp [kO]
 | x::xs,k=>by have h1:=Md x k;have h2:=Ao xs (oT x k).2;simp only [kO,List.length_cons];omega
end
end
end Go.Dt
namespace Go.Dt
open Go Go.Ab
section
def gH(x:ah)(l:List ah):cnt (x::l)=1+cnt x.af+cnt l:=by cases x;simp only [cnt,kc,List.length_cons,ah.af];omega
mutual
def RH:∀ (x:ah) (k:Int),(oT x k).2=k+2 * (1+cnt x.af:Nat)
 | .mk n v ks,k=>by simp only [oT,ah.af];rw [Fg ks];omega
def Fg:∀ (l:List ah) (k:Int),(kO l k).2=k+2 * (cnt l:Nat)
 | [],k=>by simp [kO,cnt,kc]
 | x::xs,k=>by simp only [kO];rw [Fg xs,RH x,gH];omega
end
def aeN(s:List ae)(l:List ah)(cs:List Str):List ah:=if bV s l=true then l.flatMap (Qo cs s) else []
end
section
theorem G4{α:Type}[Inhabited α]{p:α->Bool}:∀ {l:List α},l.find? p=if 0<=idx p l then some (at_ l (idx p l).toNat) else none
 | []=>by simp [idx]
 | x::xs=>by
  have ih:=G4 (p:=p) (l:=xs)
  have h0:=oY p xs;by_cases h:p x=true
  ·have e:idx p (x::xs)=0:=by simp [idx,h]
   rw [List.find?_cons_of_pos h,e];simp [at_]
  ·rw [List.find?_cons_of_neg h,ih];by_cases q:idx p xs<0
   ·have e:idx p (x::xs) = -1:=by simp [idx,h,q]
    rw [e,if_neg Ir,if_neg Ir]
   ·have e:idx p (x::xs)=idx p xs+1:=by simp [idx,h,q]
    rw [e,if_pos Ir,if_pos Ir,show (idx p xs+1).toNat=(idx p xs).toNat+1 by omega,C3]
end
end Go.Dt
namespace Go.Dt
open Go.Ab
mutual
def nD:bA->Int->bA×Int
 | .mk fOp ag ax af,k=>(.mk k (mkT (k+1)) (mkT (k+1+1)) ((kP af (k+1+1+1)).1),(kP af (k+1+1+1)).2)
def kP:List bA->Int->List bA×Int
 | [],k=>([],k)
 | x::xs,k=>((nD x k).1::(kP xs (nD x k).2).1,(kP xs (nD x k).2).2)
end
mutual
def Me:∀ (x:bA) (k:Int),k+1<=(nD x k).2
 | .mk fOp ag ax af,k=>by
  have g0:=Aq af (k+1+1+1);simp only [nD];omega
def Aq:∀ (l:List bA) (k:Int),k+l.length<=(kP l k).2
 | [],k=>by simp [kP]
 | x::xs,k=>by have h1:=Me x k;have h2:=Aq xs (nD x k).2;simp only [kP,List.length_cons];omega
end
end Go.Dt
namespace Go.Dt
open Go Go.Ab
section
def sS:List bA->Nat
 | []=>0
 | .mk _ _ _ ks::xs=>1+sS ks+sS xs
def Oc(x:bA)(l:List bA):sS (x::l)=1+sS x.af+sS l:=by cases x;rw [sS];rfl
def CW{l:List ah}{x:ah}(h:x∈l):cnt x.af<=cnt l:=by
 induction l with
 | nil=>simp at h
 | cons y l ih =>
  rw [gH];rcases List.mem_cons.1 h with rfl|h
  ·omega
  ·have:=ih h;omega
def xP(l:List ah):l.length<=cnt l:=by unfold cnt;omega
mutual
def RI:∀ (x:bA) (k:Int),(nD x k).2=k+3 * (1+sS x.af:Nat)
 | .mk o n v ks,k=>by simp only [nD,bA.af];rw [Fh ks];omega
def Fh:∀ (l:List bA) (k:Int),(kP l k).2=k+3 * (sS l:Nat)
 | [],k=>by simp [kP,sS]
 | x::xs,k=>by simp only [kP];rw [Fh xs,RI x,Oc];omega
end
def aeM(s:List ae)(a b:List ah):List bA:=if (bV s a && bV s b)=true then dif s a b else []
end
section
def wm(all:List ae)(i:Nat)(m:Nat):List Str:=(List.range m).flatMap fun j=>if j=i then [] else nmS (dk (at_ all j).af)
mutual
def oth:List ae->Str->Option (List Str)
 | [],_=>none
 | .mk k a _ _ _ _ _ _ _ _ _ _ _ _ ks::xs,nm =>
  if cg k=true/\a=nm then some []
  else if k=5 then (match sK ks 0 ks nm with|some o=>some o|none=>oth xs nm)
  else oth xs nm
def sK:List ae->Nat->List ae->Str->Option (List Str)
 | _,_,[],_=>none
 | all,i,.mk _ _ _ _ _ _ _ _ _ _ _ _ _ _ ks::xs,nm =>
  match oth ks nm with
  | some o=>some (o++wm all i all.length)
  | none=>sK all (i+1) xs nm
end
def aaD(s:List ae)(nm:Str):List Str:=(oth s nm).getD []
def wo(s:List ae)(nm:Str)(l:List ah):List ah:=l.filter fun y=>!cont (aaD s nm) y.ag
def stP(d:List ae)(x y:ah):Bool:=decide (idx (nmP x.ag) d<idx (nmP y.ag) d) || (decide (idx (nmP y.ag) d=idx (nmP x.ag) d) && decide (0<oh (at_ d (idx (nmP x.ag) d).toNat) y x))
def pos{α:Type}(p:α->Bool):List α->Nat
 | []=>0
 | x::xs=>if p x=true then 0 else pos p xs+1
def ins(s:List ae)(l:List ah)(x:ah):List ah:=l.take (pos (stP (dk s) x) l)++x::l.drop (pos (stP (dk s) x) l)
def wrg(n:ae)(e:bA):Int :=
 if ((n.aj=1\/n.aj=2)/\¬ e.ax=[])\/(¬ (n.aj=1\/n.aj=2)/\¬ e.af=[]) then 2
 else if e.fOp<1\/5<e.fOp then 3
 else if (n.aj=4\/n.aj=3/\¬ (e.fOp=4\/e.fOp=5))/\cvB n.fType e.ax=false then 7 else 0
def kt(n:ae)(k:Str):cT:=(at_ n.af (idx (dW k) n.af).toNat).fType
def edP(k:Str)(e:bA):Bool:=e.ag == k
def kvF(k:Str)(es:List bA):List bA:=es.filter (edP k)
def kvG(n:ae)(k:Str)(e:bA):Bool:=cvB (kt n k) e.ax && !decide (e.fOp=4) && !decide (e.fOp=5)
def kvV(n:ae)(k:Str)(es:List bA):List ah:=(kvF k es).map fun e=>.mk k (cvS (kt n k) e.ax) []
def rH(n:ae)(es:List bA):Bool:=n.aE.all fun k=>decide ((kvF k es).length=1) && (kvF k es).all (kvG n k)
def jZ(n:ae)(e:bA):ah:=.mk n.ag (if n.aj=4 then cvS n.fType e.ax else []) (if n.aj=2 then n.aE.flatMap (fun k=>kvV n k e.af) else [])
def dl(l:List ah)(i:Int):List ah:=if 0<=i then l.eraseIdx i.toNat else l
abbrev Rec:=List ae->List ah->List ah×Int
def crt(R:Rec)(s:List ae)(l:List ah)(n:ae)(e:bA):List ah×Int :=
 if n.aj=3\/n.aj=4 then (ins s (wo s n.ag l) (.mk n.ag (cvS n.fType e.ax) []),0)
 else if ¬ (R n.af []).2=0 then ([],(R n.af []).2)
 else if n.aj=1/\n.aZ=false/\(R n.af []).1=[] then (l,0)
 else (ins s (wo s n.ag l) (.mk n.ag [] (R n.af []).1),0)
def mrg(R:Rec)(l:List ah)(i:Nat)(n:ae)(e:bA):List ah×Int :=
 if n.aj=3 then (l.set i (.mk (at_ l i).ag (cvS n.fType e.ax) (at_ l i).af),0)
 else if n.aj=1\/n.aj=2 then
  (if ¬ (R n.af (at_ l i).af).2=0 then ([],(R n.af (at_ l i).af).2)
   else if n.aj=1/\n.aZ=false/\(R n.af (at_ l i).af).1=[] then (l.eraseIdx i,0)
   else (l.set i (.mk (at_ l i).ag (at_ l i).ax (R n.af (at_ l i).af).1),0))
 else (l,0)
def one(R:Rec)(s:List ae)(l:List ah)(e:bA):List ah×Int :=
 if idx (nmP e.ag) (dk s)<0 then ([],2)
 else if ¬ wrg (nd s e.ag) e=0 then ([],wrg (nd s e.ag) e)
 else if (nd s e.ag).aj=2/\rH (nd s e.ag) e.af=false then ([],4)
 else if e.fOp=3/\0<=fnd (nd s e.ag) l (jZ (nd s e.ag) e) then ([],5)
 else if e.fOp=4/\fnd (nd s e.ag) l (jZ (nd s e.ag) e)<0 then ([],6)
 else if e.fOp=5/\fnd (nd s e.ag) l (jZ (nd s e.ag) e)<0 then (l,0)
 else if e.fOp=1/\0<=fnd (nd s e.ag) l (jZ (nd s e.ag) e) then mrg R l (fnd (nd s e.ag) l (jZ (nd s e.ag) e)).toNat (nd s e.ag) e
 else if e.fOp=4\/e.fOp=5 then (dl l (fnd (nd s e.ag) l (jZ (nd s e.ag) e)),0)
 else crt R s (dl l (fnd (nd s e.ag) l (jZ (nd s e.ag) e))) (nd s e.ag) e
def mdE:List bA->List ae->List ah->List ah×Int
 | [],_,l=>(l,0)
 | .mk op nm v ks::es,s,l =>
  if ¬ (one (mdE ks) s l (.mk op nm v ks)).2=0 then ([],(one (mdE ks) s l (.mk op nm v ks)).2)
  else mdE es s (one (mdE ks) s l (.mk op nm v ks)).1
def mdT(s:List ae)(l:List ah)(es:List bA):List ah×Int :=
 if bV s l=false then (l,1)
 else if ¬ (mdE es s l).2=0 then (l,(mdE es s l).2)
 else if bV s (mdE es s l).1=false then (l,8) else ((mdE es s l).1,0)
def N9{l:List ah}{i:Nat}(h:i<l.length):l=l.take i++at_ l i::l.drop (i+1):=by rw [<- bq h,List.take_append_drop]
def Ww{l:List ah}{i:Nat}:l.eraseIdx i=l.take i++l.drop (i+1):=List.eraseIdx_eq_take_drop_succ ..
def Mg{l:List ah}{i:Nat}{y:ah}(h:i<l.length):l.set i y=l.take i++y::l.drop (i+1):=by rw [List.set_eq_take_append_cons_drop,if_pos h]
def F(l:List ah)(k:Str):Option Str:=(l.find? (ndP k)).map ah.ax
def YP(l:List ah)(k:Str):F l k=if 0<=idx (ndP k) l then some (at_ l (idx (ndP k) l).toNat).ax else none:=by rw [F,G4];split<;>rfl
def Wb(x:ah)(k:Str):ox x k=(F x.af k).isSome:=by
 rw [YP,ox];split
 ·rename_i h;simpa using h
 ·rename_i h;simpa using h
def YQ(a b:List ah)(k:Str):F (a++b) k=(F a k).or (F b k):=by unfold F;rw [List.find?_append];cases a.find? (ndP k)<;>rfl
def WV(x:ah)(l:List ah)(k:Str):F (x::l) k=if x.ag=k then some x.ax else F l k:=by
 unfold F;rw [List.find?_cons];by_cases h:x.ag=k
 ·rw [if_pos h,show ndP k x=true by simpa [ndP] using h];rfl
 ·rw [if_neg h,show ndP k x=false by simpa [ndP] using h]
def WU{l:List ah}{k:Str}(h:∀ x∈l,¬ x.ag=k):F l k=none:=by unfold F;rw [List.find?_eq_none.2 fun x hx=>by simpa [ndP] using h x hx];rfl
end
section
def same(s:List ae)(x y:ah):Prop:=x.ag=y.ag/\(fG (nd s x.ag).aj=true->kyL (nd s x.ag) x=kyL (nd s x.ag) y)
def Dk{s:List ae}{x y:ah}(h:same s x y):same s y x:=⟨h.1.symm,fun r=>by rw [<- h.1] at r ⊢;exact (h.2 r).symm⟩
def Ku{s:List ae}{x y z:ah}(h:same s x y)(h2:same s y z):same s x z:=⟨h.1.trans h2.1,fun r=>by
 have r2:=r;rw [h.1] at r2;have:=h2.2 r2;rw [<- h.1] at this
 exact (h.2 r).trans this⟩
def J:List ae->List ah->Prop
 | _,[]=>True
 | s,.mk nm v ks::xs=>(0<=idx (nmP nm) (dk s)/\kyB (nd s nm) (.mk nm v ks)=true/\((nd s nm).aj=1\/(nd s nm).aj=2->v=[]/\J (nd s nm).af ks))/\(∀ y∈xs,¬ same s (.mk nm v ks) y)/\J s xs
def jX(s:List ae)(x:ah):Prop:=0<=idx (nmP x.ag) (dk s)/\kyB (nd s x.ag) x=true/\((nd s x.ag).aj=1\/(nd s x.ag).aj=2->x.ax=[]/\J (nd s x.ag).af x.af)
def WT{s:List ae}{x:ah}{xs:List ah}:J s (x::xs)↔jX s x/\(∀ y∈xs,¬ same s x y)/\J s xs:=by cases x;rw [J];exact Iff.rfl
def YN{s:List ae}:J s []:=by rw [J];trivial
def LO{s:List ae}:∀ {l:List ah},J s l↔(∀ x∈l,jX s x)/\l.Pairwise fun x y=>¬ same s x y
 | []=>by simp [YN]
 | x::xs=>by
  rw [WT,LO (l:=xs),List.pairwise_cons];constructor
  ·rintro ⟨h1,h2,h3,h4⟩;exact ⟨fun y hy=>by rcases List.mem_cons.1 hy with rfl|hy;exact h1;exact h3 y hy,h2,h4⟩
  ·rintro ⟨h1,h2,h3⟩;exact ⟨h1 x QC,h2,fun y hy=>h1 y (by simp [hy]),h3⟩
def Vc{s:List ae}{a b:List ah}{x:ah}:(a++x::b).Pairwise (fun x y=>¬ same s x y)↔(∀ y∈a++b,¬ same s x y)/\(a++b).Pairwise fun x y=>¬ same s x y:=by rw [(List.perm_middle (a:=x) (l₁:=a) (l₂:=b)).pairwise_iff fun h c=>h (Dk c),List.pairwise_cons]
def Jo{s:List ae}{k:Str}(h:0<=idx (nmP k) (dk s)):(nd s k).ag=k/\nd s k∈dk s:=by obtain ⟨_,h2,h3⟩:=dF h;simp only [nmP,beq_iff_eq] at h2;exact ⟨h2,h3⟩
def Qf{s:List ae}{x y:ah}(hx:0<=idx (nmP x.ag) (dk s))(kx:kyB (nd s x.ag) x=true)(ky:y.ag=x.ag->kyB (nd s x.ag) y=true):fiP (nd s x.ag) x y=true↔same s x y:=by
 have hn:=(Jo hx).1;unfold fiP same;rw [hn];by_cases e:y.ag=x.ag
 ·have e1:(y.ag == x.ag)=true:=by simpa using e
  rw [e1,oh,skB,kx,ky e];by_cases r:fG (nd s x.ag).aj=true
  ·rw [if_pos r,r];simp only [Bool.true_and,Bool.not_true,Bool.false_or,Bool.and_eq_true,decide_eq_true_eq,BB,beq_iff_eq,and_self,true_implies];exact ⟨fun h=>⟨e.symm,h⟩,fun h=>h.2⟩
  ·rw [if_neg r,show fG (nd s x.ag).aj=false by simpa using r];simp [e]
 ·have e1:(y.ag == x.ag)=false:=by simpa using e
  rw [e1];constructor
  ·intro h;simp at h
  ·rintro ⟨h,_⟩;exact absurd h.symm e
def YO{n:ae}{k:Str}{es:List bA}{e0:bA}(h:kvF k es=[e0]):F (kvV n k es) k=some (cvS (kt n k) e0.ax):=by rw [kvV,h,List.map_cons,WV,if_pos (show (ah.mk k (cvS (kt n k) e0.ax) []).ag=k from rfl)];rfl
def QD{n:ae}{k j:Str}{es:List bA}(h:¬ j=k):F (kvV n j es) k=none:=WU fun x hx=>by
 obtain ⟨_,_,rfl⟩:=List.mem_map.1 hx;exact h
def Ou{n:ae}{k:Str}{es:List bA}{e0:bA}(h:kvF k es=[e0]):∀ {Ks:List Str},k∈Ks->F (Ks.flatMap fun k=>kvV n k es) k=some (cvS (kt n k) e0.ax)
 | j::Ks,hk=>by
  rw [List.flatMap_cons,YQ];by_cases e:j=k
  ·subst e;rw [YO h];rfl
  ·rw [QD e,Ou h (by simpa [Ne.symm e,show ¬ k=j from fun c=>e c.symm] using hk)];rfl
def PE{n:ae}{es:List bA}(h:rH n es=true){k:Str}(hk:k∈n.aE):∃ e0,kvF k es=[e0]/\e0.ag=k/\cvB (kt n k) e0.ax=true/\¬ e0.fOp=4/\¬ e0.fOp=5:=by
 have:=List.all_eq_true.1 h k hk;simp only [Bool.and_eq_true,decide_eq_true_eq] at this;obtain ⟨h1,h2⟩:=this
 match he:kvF k es,h1 with
 | [e0],_ =>
  rw [he] at h2;simp only [List.all_cons,List.all_nil,Bool.and_true,kvG,Bool.and_eq_true,Bool.not_eq_true',decide_eq_false_iff_not] at h2;have hm:e0∈kvF k es:=by rw [he];simp
  have:=(List.mem_filter.1 hm).2;exact ⟨e0,rfl,by simpa [edP] using this,h2.1.1,h2.1.2,h2.2⟩
def VD{n:ae}{e:bA}(h:n.aj=2->rH n e.af=true):kyB n (jZ n e)=true:=by
 by_cases h2:n.aj=2
 ·refine (tE h2 (List.all_eq_true.2 fun k hk=>?_)).2;obtain ⟨e0,h3,_⟩:=PE (h h2) hk;rw [Wb];show (F (if n.aj=2 then _ else []) k).isSome=true;rw [if_pos h2,Ou h3 hk];rfl
 ·exact (oW h2).2
def u7{k:Str}{c:ae}(hk:k∈nmS (dk c.af)):∀ {all:List ae},(∀ c∈all,c.aj=6)->c∈all->k∈nmS (dk all)
 | y::ys,h6,hc=>by
  rw [iP,nmS,List.map_append,List.mem_append];rcases List.mem_cons.1 hc with rfl|hc
  ·have e:=h6 c QC;left;rw [e,if_neg baa,if_pos (.inr rfl)];exact hk
  ·right;exact u7 hk (fun c hc=>h6 c (by simp [hc])) hc
def O7{all:List ae}(h6:∀ c∈all,c.aj=6){i m:Nat}(hm:m<=all.length):∀ k∈wm all i m,k∈nmS (dk all):=by
 intro k hk;obtain ⟨j,hj,hk⟩:=List.mem_flatMap.1 hk;have hj':=List.mem_range.1 hj;split at hk
 ·simp at hk
 ·exact u7 hk h6 (at_mem (l:=all) (k:=j) Ir)
def Gm{x:ae}{xs:List ae}{kind:Int}{bd:Bool}(h:kA (x::xs) kind bd=true):gq kind bd x=true/\(∃ b,kA x.af x.aj b=true)/\kA xs kind bd=true:=by cases x;rw [kA] at h;simp only [Bool.and_eq_true] at h;exact ⟨h.1.1,⟨_,h.1.2.2⟩,h.2⟩
def X2{x:ae}{kind:Int}{bd:Bool}(h:gq kind bd x=true):x.aj=6↔kind=5:=by simp only [gq,Bool.and_eq_true,beq_iff_eq,decide_eq_decide] at h;exact h.1.1.1.2
def VJ:∀ {l:List ae} {bd:Bool},kA l 5 bd=true->∀ c∈l,c.aj=6
 | x::xs,bd,h,c,hc=>by
  have:=Gm h;rcases List.mem_cons.1 hc with rfl|hc
  ·exact (X2 this.1).2 rfl
  ·exact VJ this.2.2 c hc
def Io{x:ae}(h:x.aj=5\/x.aj=6)(xs:List ae):nmS (dk (x::xs))=nmS (dk x.af)++nmS (dk xs):=by rw [iP,nmS,List.map_append];rw [if_neg (by rcases h with h|h<;>rw [h]<;>decide),if_pos h];rfl
mutual
def Jg:∀ (s:List ae) (kind:Int) (bd:Bool) (nm:Str) (o:List Str),kA s kind bd=true->oth s nm=some o->∀ k∈o,k∈nmS (dk s)
 | [],_,_,_,_,_,h=>by simp [oth] at h
 | .mk kd a b c d e f g h0 i j l m n ks::xs,kind,bd,nm,o,hA,h=>by
  have hc:=Gm hA
  have hxs:∀ o,oth xs nm=some o->∀ k∈o,k∈nmS (dk (.mk kd a b c d e f g h0 i j l m n ks::xs)):=fun o ho k hk=>by
   have:=Jg xs kind bd nm o hc.2.2 ho k hk;rw [iP,nmS,List.map_append,List.mem_append];exact .inr this
  rw [oth] at h;split at h
  ·injection h with h;subst h;intro k hk;simp at hk
  ·split at h
   ·rename_i h5;obtain ⟨bb,hk2⟩:=hc.2.1
    cases hC:sK ks 0 ks nm with
    | some o2 =>
     rw [hC] at h;injection h with h;subst h
     intro k hk;have h6:=VJ (l:=ks) (bd:=bb) (by rw [<- h5];exact hk2)
     have:=FP ks 0 ks 5 bb nm o2 (by rw [<- h5];exact hk2) h6 hC (fun c hc=>hc) QC k hk;rw [Io (x:=.mk kd a b c d e f g h0 i j l m n ks) (.inl h5),List.mem_append];exact .inl this
    | none=>rw [hC] at h;exact hxs o h
   ·exact hxs o h
def FP:∀ (all:List ae) (i:Nat) (xs:List ae) (kind:Int) (bd:Bool) (nm:Str) (o:List Str),kA xs kind bd=true->(∀ c∈all,c.aj=6)->sK all i xs nm=some o->(∀ c∈xs,c∈all)->(True)->∀ k∈o,k∈nmS (dk all)
 | _,_,[],_,_,_,_,_,_,h,_,_=>by simp [sK] at h
 | all,i,.mk kd a b c d e f g h0 i' j l m n ks::xs,kind,bd,nm,o,hA,h6,h,hs,_=>by
  have hc:=Gm hA;rw [sK] at h
  cases hC:oth ks nm with
  | some o2 =>
   rw [hC] at h;injection h with h;subst h
   intro k hk;rcases List.mem_append.1 hk with hk|hk
   ·obtain ⟨bb,hk2⟩:=hc.2.1;have h1:=Jg ks _ bb nm o2 hk2 hC k hk;exact u7 (c:=.mk kd a b c d e f g h0 i' j l m n ks) h1 h6 (hs _ (List.mem_cons_self ..))
   ·exact O7 h6 (Nat.le_refl _) k hk
  | none=>rw [hC] at h;exact FP all (i+1) xs kind bd nm o hc.2.2 h6 h (fun c hc=>hs c (by simp [hc])) trivial
end
def aaM(s:List ae)(k:Str):Prop:=∃ m∈s,m.ag=k/\m.aj=3
end
section
def Kp(s:List ae)(es:List bA)(l l':List ah):Prop:=∀ k,aaM s k->((∀ e∈es,¬ e.ag=k)->F l' k=F l k)/\(∀ e0,kvF k es=[e0]->¬ e0.fOp=4->¬ e0.fOp=5->F l' k=some (cvS (nd s k).fType e0.ax))
def ROk(R:Rec)(s:List ae)(es:List bA):Prop:=∀ l,J s l->(R s l).2=0->J s (R s l).1/\Kp s es l (R s l).1
section
variable {R : Rec} {s : List ae} {l : List ah} {e : bA}
def M7(n:ae)(e:bA):(jZ n e).ag=n.ag:=rfl
def GM(hg:gdS s)(hJ:J s l)(h0:0<=idx (nmP e.ag) (dk s))(hk:(nd s e.ag).aj=2->rH (nd s e.ag) e.af=true)(y:ah)(hy:y∈l):fiP (nd s e.ag) (jZ (nd s e.ag) e) y=true↔same s (jZ (nd s e.ag) e) y:=by
 have hn:=(Jo h0).1
 have e1:(jZ (nd s e.ag) e).ag=e.ag:=by rw [M7,hn]
 have:=Qf (s:=s) (x:=jZ (nd s e.ag) e) (y:=y) (by rw [e1];exact h0) (by rw [e1];exact VD hk) (fun c=>by
  rw [e1] at c ⊢;have:=((LO.1 hJ).1 y hy).2.1
  rw [c] at this;exact this)
 rw [e1] at this;exact this
def Tv(hg:gdS s)(hJ:J s l)(h0:0<=idx (nmP e.ag) (dk s))(hk:(nd s e.ag).aj=2->rH (nd s e.ag) e.af=true)(hi:0<=fnd (nd s e.ag) l (jZ (nd s e.ag) e)):(fnd (nd s e.ag) l (jZ (nd s e.ag) e)).toNat<l.length/\same s (jZ (nd s e.ag) e) (at_ l (fnd (nd s e.ag) l (jZ (nd s e.ag) e)).toNat):=by obtain ⟨a,b,c⟩:=dF hi;exact ⟨a,(GM hg hJ h0 hk _ c).1 b⟩
def fresh(hg:gdS s)(hJ:J s l)(h0:0<=idx (nmP e.ag) (dk s))(hk:(nd s e.ag).aj=2->rH (nd s e.ag) e.af=true):∀ y∈dl l (fnd (nd s e.ag) l (jZ (nd s e.ag) e)),¬ same s (jZ (nd s e.ag) e) y:=by
 intro y hy;by_cases hi:0<=fnd (nd s e.ag) l (jZ (nd s e.ag) e)
 ·obtain ⟨a,b⟩:=Tv hg hJ h0 hk hi;rw [dl,if_pos hi,Ww] at hy;have:=(LO.1 hJ).2;rw [N9 a,Vc] at this;exact fun c=>this.1 y hy (Ku (Dk b) c)
 ·have hy2:y∈l:=by rw [dl,if_neg hi] at hy;exact hy
  intro c;have:=Bp hi y hy2;rw [(GM hg hJ h0 hk y hy2).2 c] at this;cases this
end
end
section
section
variable {s : List ae} {x y : ah} {a b l : List ah}
end
end
end Go.Dt
namespace Go.Dt
open Go.Ab
section
end
section
end
section
def adm(x:cT)(k:Int):Int:=(mkL eG x.aF ((mkL jT x.aP (k+1)).2)).2+1+1
def acS(x:cT)(k:Int):Unit×Int:=((),(mkL eG x.aF ((mkL jT x.aP k).2)).2)
def adn(x:bP)(k:Int):Int:=(mkL oR x.av (k+1+1)).2
def acT(x:bP)(k:Int):Unit×Int:=((),(mkL oR x.av k).2)
end
section
end
section
def abX(x:List bA)(k:Int):List bA×Int:=mkL nD x k
end
end Go.Dt
namespace Go.Dt
open Go Go.Ab
section
end
section
def sv:List ah->Prop
 | []=>True
 | .mk nm v ks::xs=>nm.length<=16/\v.length<=40/\sv ks/\sv xs
def svX(x:ah):Prop:=x.ag.length<=16/\x.ax.length<=40/\sv x.af
def mxE:List bA->Nat
 | []=>0
 | .mk _ n v ks::xs=>max (max n.length v.length) (max (mxE ks) (mxE xs))
def wtE(l:List bA):Nat:=max (sS l) (mxE l)
end
section
def rX(x:ae)(xs:List ae):aH (x::xs)=1+aH x.af+aH xs:=by cases x;rw [aH];rfl
def tQ:∀ (l:List ae),(dk l).length<=aH l
 | []=>by simp [dk]
 | .mk k a b c d e f g h i j l m n ks::xs=>by
  have h1:=tQ ks
  have h2:=tQ xs;rw [dk,aH,List.length_append];split
  ·rw [List.length_singleton];omega
  ·split
   ·omega
   ·simp only [List.length_nil];omega
def MJ(all:List ae)(i j:Nat):wm all i (j+1)=wm all i j++(if j=i then [] else nmS (dk (at_ all j).af)):=by rw [wm,List.range_succ,List.flatMap_append];simp [wm]
def J0:∀ (all:List ae) (j:Nat),j<all.length->aH (all.take j)+1+aH (at_ all j).af=aH (all.take (j+1))
 | x::xs,0,_=>by rw [List.take_zero,List.take_succ_cons,List.take_zero,rX];simp [aH,at_]
 | x::xs,j+1,h=>by
  have:=J0 xs j (by simpa using h);rw [List.take_succ_cons,List.take_succ_cons,rX,rX,C3];omega
def Jh(all:List ae)(i:Nat):∀ (j:Nat),j<=all.length->(wm all i j).length+(if i<j then aH (at_ all i).af else 0)<=aH (all.take j)
 | 0,_=>by simp [wm]
 | j+1,h=>by
  have h1:=Jh all i j Ir
  have h2:=J0 all j Ir
  have h3:=tQ (at_ all j).af;rw [MJ,List.length_append];by_cases e:j=i
  ·subst e;rw [if_neg Ir] at h1;rw [if_pos rfl,if_pos Ir];simp only [List.length_nil];omega
  ·rw [if_neg e,nmS,List.length_map];by_cases c:i<j
   ·rw [if_pos c] at h1;rw [if_pos Ir];omega
   ·rw [if_neg c] at h1;rw [if_neg Ir];omega
theorem TN{α:Type}[Inhabited α]{l xs:List α}{i:Nat}{x:α}(h:l.drop i=x::xs):i<l.length/\at_ l i=x/\l.drop (i+1)=xs:=by
 have hi:i<l.length:=by
  rcases Nat.lt_or_ge i l.length with c|c
  ·exact c
  ·rw [List.drop_eq_nil_of_le c] at h;cases h
 rw [bq hi] at h;injection h with a b
 exact ⟨hi,a,b⟩
mutual
def B0:∀ (s:List ae) (nm:Str) (o:List Str),oth s nm=some o->o.length<=aH s
 | [],_,_,h=>by simp [oth] at h
 | .mk kd a b c d e f g h i j l m n ks::xs,nm,o,ho=>by
  rw [oth] at ho;rw [aH];split at ho
  ·injection ho with ho;subst ho;simp
  ·split at ho
   ·cases hC:sK ks 0 ks nm with
    | some o2 =>
     rw [hC] at ho;injection ho with ho;subst ho
     have:=FQ ks 0 ks nm o2 rfl hC;omega
    | none=>rw [hC] at ho;have:=B0 xs nm o ho;omega
   ·have:=B0 xs nm o ho;omega
def FQ:∀ (all:List ae) (i:Nat) (xs:List ae) (nm:Str) (o:List Str),all.drop i=xs->sK all i xs nm=some o->o.length<=aH all
 | _,_,[],_,_,_,h=>by simp [sK] at h
 | all,i,.mk kd a b c d e f g h i' j l m n ks::xs,nm,o,hx,ho=>by
  obtain ⟨h1,h2,h3⟩:=TN hx;rw [sK] at ho
  cases hC:oth ks nm with
  | some o2 =>
   rw [hC] at ho;injection ho with ho;subst ho
   have h4:=B0 ks nm o2 hC
   have h5:=Jh all i all.length (Nat.le_refl _);rw [List.take_length,if_pos h1,h2] at h5;rw [List.length_append];simp only [ae.af] at h5;omega
  | none =>
   rw [hC] at ho;exact FQ all (i+1) xs nm o h3 ho
end
end
section
section
variable {R : Rec} {s : List ae} {l : List ah} {e : bA}
section
variable (h1 : ¬ idx (nmP e.ag) (dk s) < 0) (h2 : wrg (nd s e.ag) e = 0) (h3 : ¬ ((nd s e.ag).aj = 2 /\ rH (nd s e.ag) e.af = false)) {k : Nat}
include h1 h2 h3
end
end
end
section
end
section
def KyS(n:ae):Prop:=bT (nmS n.af)=true/\n.aE.length<=3/\∀ q∈n.aE,0<=idx (dW q) n.af
def kvS(n:ae)(q:Str)(es:List bA):List Str:=(kvF q es).map fun x=>cvS (kt n q) x.ax
def aaL(n:ae)(es:List bA):List Str:=n.aE.flatMap fun q=>kvS n q es
def aeC(n:ae)(es:List bA):List Str:=if rH n es=true then aaL n es else []
end
section
def zR:∀ (l:List ae),∀ b∈dkF l true,b=true
 | [],b,h=>by simp [dkF] at h
 | .mk k _ _ _ _ _ _ _ _ _ _ _ _ _ ks::xs,b,h=>by
  rw [dkF,List.mem_append] at h;rcases h with h|h
  ·split at h
   ·simpa using h
   ·split at h
    ·exact zR ks b (by simpa using h)
    ·simp at h
  ·exact zR xs b h
def Hm:∀ (l:List ae) (bd h:Bool),kA l 5 bd=true->∀ b∈dkF l h,b=true
 | [],_,_,_,b,hb=>by simp [dkF] at hb
 | x::xs,bd,h,hA,b,hb=>by
  rw [qi] at hA;simp only [Bool.and_eq_true] at hA
  have h6:x.aj=6:=by
   have:=hA.1.1;simp only [gq,Bool.and_eq_true,beq_iff_eq,decide_eq_decide] at this;exact this.1.1.1.2.2 trivial
  rw [qZ,List.mem_append] at hb;rcases hb with hb|hb
  ·rw [if_neg (by rw [h6];decide),if_pos (.inr h6),h6] at hb;exact zR _ b (by simpa using hb)
  ·exact Hm xs bd h hA.2 b hb
theorem C4{α:Type}[Inhabited α]{a b:List α}{i:Nat}(h:i<a.length):at_ (a++b) i=at_ a i:=by rw [at_,at_,List.getElem?_append_left h]
theorem qq{α:Type}[Inhabited α]{a b:List α}{i:Nat}(h:¬ i<a.length):at_ (a++b) i=at_ b (i - a.length):=by rw [at_,at_,List.getElem?_append_right Ir]
def x6:∀ (l:List ae) (kind:Int) (bd:Bool),kA l kind bd=true->¬ kind=5->∀ i,i<(dk l).length ->
  (at_ (dkF l false) i=false/\at_ (dk l) i∈l)\/(at_ (dkF l false) i=true/\∃ c∈l,c.aj=5/\at_ (dk l) i∈dk c.af)
 | [],_,_,_,_,i,h=>by simp [dk] at h
 | x::xs,kind,bd,hA,hk,i,hi=>by
  rw [qi] at hA;simp only [Bool.and_eq_true] at hA
  have hn6:¬ x.aj=6:=fun c=>by
   have:=hA.1.1;simp only [gq,Bool.and_eq_true,beq_iff_eq,decide_eq_decide] at this;exact hk (this.1.1.1.2.1 c)
  rw [iP,qZ];rw [iP,List.length_append] at hi;by_cases hd:cg x.aj=true
  ·simp only [if_pos hd] at hi ⊢;by_cases h0:i<1
   ·have e:i=0:=by omega
    subst e;exact .inl ⟨rfl,by simp [at_]⟩
   ·rw [qq (by simpa using h0),qq (by simpa using h0)];have h1:i - 1<(dk xs).length:=by simp at hi;omega
    rcases x6 xs kind bd hA.2 hk (i - 1) h1 with h|⟨h,c,hc,h5,hm⟩
    ·exact .inl ⟨h.1,List.mem_cons_of_mem _ h.2⟩
    ·exact .inr ⟨h,c,List.mem_cons_of_mem _ hc,h5,hm⟩
  ·simp only [if_neg hd] at hi ⊢;by_cases h5:x.aj=5
   ·have hor:x.aj=5\/x.aj=6:=.inl h5;simp only [if_pos hor] at hi ⊢;have hl:(dkF x.af (false || x.aj == 6)).length=(dk x.af).length:=tT _ _;by_cases h0:i<(dk x.af).length
    ·rw [C4 (by rw [hl];exact h0),C4 h0];refine .inr ⟨?_,x,QC,h5,at_mem h0⟩;have hk2:kA x.af 5 (bd || !x.aG.isEmpty || decide (x.aj=6))=true:=by have:=hA.1.2.2;rw [h5] at this ⊢;exact this
     exact Hm _ _ _ hk2 _ (at_mem (by rw [hl];exact h0))
    ·rw [qq (by rw [hl];exact h0),qq h0,hl];have h1:i - (dk x.af).length<(dk xs).length:=by omega
     rcases x6 xs kind bd hA.2 hk _ h1 with h|⟨h,c,hc,h5,hm⟩
     ·exact .inl ⟨h.1,List.mem_cons_of_mem _ h.2⟩
     ·exact .inr ⟨h,c,List.mem_cons_of_mem _ hc,h5,hm⟩
   ·have hor:¬ (x.aj=5\/x.aj=6):=by rintro (c|c);exact h5 c;exact hn6 c
    simp only [if_neg hor,List.length_nil,Nat.zero_add,List.nil_append] at hi ⊢;rcases x6 xs kind bd hA.2 hk i hi with h|⟨h,c,hc,h5,hm⟩
    ·exact .inl ⟨h.1,List.mem_cons_of_mem _ h.2⟩
    ·exact .inr ⟨h,c,List.mem_cons_of_mem _ hc,h5,hm⟩
end
section
def gdF(s:List ae):Prop:=bT (nmS s)=true/\bT (nmS (dk s))=true/\∃ kind bd,¬ kind=5/\kA s kind bd=true
def oX:∀ (l:List ae) (kind:Int) (bd:Bool),kA l kind bd=true->∀ n∈dk l,gdF n.af/\∃ kd b,gq kd b n=true
 | [],_,_,_,n,h=>by simp [dk] at h
 | .mk k a b c d e f g h i j l m nn ks::xs,kind,bd,hA,n,hn=>by
  rw [dk,List.mem_append] at hn;rw [kA] at hA;simp only [Bool.and_eq_true] at hA;rcases hn with hn|hn
  ·split at hn
   ·rename_i hd;rw [List.mem_singleton] at hn;subst hn;have h5:¬ k=5:=by intro c;rw [c] at hd;simp [cg] at hd
    have h6:¬ k=6:=by intro c;rw [c] at hd;simp [cg] at hd
    have hI:=hA.1.2.1;simp only [lp,Bool.and_eq_true,Bool.or_eq_true,decide_eq_true_eq] at hI;refine ⟨⟨hI.1,?_,k,_,h5,hA.1.2.2⟩,_,_,hA.1.1⟩;rcases hI.2 with (c|c)|c
    ·exact absurd c h5
    ·exact absurd c h6
    ·exact c
   ·split at hn
    ·exact oX ks k _ hA.1.2.2 n hn
    ·simp at hn
  ·exact oX xs kind bd hA.2 n hn
def Hl:∀ {s:List ae} {n c:ae},c∈s->c.aj=5->n∈dk c.af->n∈dk s
 | x::xs,n,c,hc,h5,hin=>by
  rw [iP,List.mem_append];rcases List.mem_cons.1 hc with e|hc
  ·subst e;rw [if_neg (by rw [h5];simp [cg]),if_pos (.inl h5)];exact .inl hin
  ·exact .inr (Hl hc h5 hin)
def NY:∀ {s:List ae} {n c:ae},bT (nmS (dk s))=true->n∈s->cg n.aj=true->c∈s->c.aj=5->n∈dk c.af->False
 | x::xs,n,c,hd,hn,hk,hc,h5,hin=>by
  rw [kr,nmS,iP,List.map_append,List.nodup_append] at hd;rcases List.mem_cons.1 hn with e1|hn1<;>rcases List.mem_cons.1 hc with e2|hc1
  ·subst e1;subst e2;rw [h5] at hk;simp [cg] at hk
  ·subst e1;rw [if_pos hk] at hd;exact hd.2.2 n.ag QC n.ag (List.mem_map.2 ⟨n,Hl hc1 h5 hin,rfl⟩) rfl
  ·subst e2;have hnd:¬ cg c.aj=true:=by rw [h5];simp [cg]
   rw [if_neg hnd,if_pos (.inl h5)] at hd;exact hd.2.2 n.ag (List.mem_map.2 ⟨n,hin,rfl⟩) n.ag (List.mem_map.2 ⟨n,Bx hn1 hk,rfl⟩) rfl
  ·exact NY ((kr _).2 (by rw [nmS];exact hd.2.1)) hn1 hk hc1 h5 hin
def wX(s:List ae)(nm:Str):Bool:=decide (0<=idx (nmP nm) s) && cg (at_ s (idx (nmP nm) s).toNat).aj && (at_ s (idx (nmP nm) s).toNat).aG.isEmpty
def Wp{s:List ae}(h:gdF s){i:Nat}(hi:i<(dk s).length):(at_ (dkF s false) i=false/\(at_ (dk s) i).aG.isEmpty=true)↔wX s (at_ (dk s) i).ag=true:=by
 obtain ⟨hd,hdd,kind,bd,hk,hA⟩:=h;have hm:at_ (dk s) i∈dk s:=at_mem hi
 have CC:cg (at_ (dk s) i).aj=true:=tO _ _ hm;rcases x6 s kind bd hA hk i hi with ⟨hf,hs⟩|⟨hf,c,hc,h5,hin⟩
 ·
  obtain ⟨j,hj,ej⟩:=List.mem_iff_getElem.1 hs;have ej':at_ s j=at_ (dk s) i:=by rw [<- ej,at_,List.getElem?_eq_getElem hj];rfl
  have h0:=(qM (p:=nmP (at_ (dk s) i).ag) hj (by rw [ej'];simp [nmP])).2;obtain ⟨q1,q2,q3⟩:=dF h0;have e:at_ s (idx (nmP (at_ (dk s) i).ag) s).toNat=at_ (dk s) i:=ou hd q3 hs (by simpa [nmP] using q2);rw [wX,e,CC];simp [hf,h0]
 ·constructor
  ·rintro ⟨c1,_⟩;rw [hf] at c1;simp at c1
  ·intro hF;simp only [wX,Bool.and_eq_true,decide_eq_true_eq] at hF;obtain ⟨q1,q2,q3⟩:=dF hF.1.1;have hmm:=Bx q3 hF.1.2
   have e:at_ s (idx (nmP (at_ (dk s) i).ag) s).toNat=at_ (dk s) i:=ou hdd hmm hm (by simpa [nmP] using q2);rw [e] at q3;exact absurd q3 (fun hs=>NY hdd hs CC hc h5 hin)
end
section
def gW:Nat->List ae->List ah->List ah
 | 0,_,_=>[]
 | f+1,s,l=>(List.range (dk s).length).flatMap fun i =>
  let n:=at_ (dk s) i
  let fd:=l.filter (ndP n.ag)
  if fd.isEmpty=true then
   (if n.aj=3/\n.bS=true then [.mk n.ag n.aV []]
    else if n.aj=1/\n.aZ=false/\wX s n.ag=true then
    (if (gW f n.af []).isEmpty=true then [] else [.mk n.ag [] (gW f n.af [])])
    else [])
  else fd.map fun x=>.mk x.ag x.ax (if n.af.isEmpty=true then [] else gW f n.af x.af)
def oy{α β:Type}{f g:α->List β}:∀ {l:List α},(∀ x∈l,f x=g x)->l.flatMap f=l.flatMap g
 | [],_=>rfl
 | x::xs,h=>by rw [List.flatMap_cons,List.flatMap_cons,h x QC,oy fun y hy=>h y (List.mem_cons_of_mem _ hy)]
def Qe:∀ (f:Nat) (l:List ah),ez f [] l=[]
 | 0,_=>rfl
 | f+1,_=>by simp [ez,dk]
def KF{s:List ae}(hdd:bT (nmS (dk s))=true){x:ah}(h:okX (dk s) x){n:ae}(hn:n∈dk s)(e:ndP n.ag x=true):okN n x=true:=by
 obtain ⟨q1,q2,q3⟩:=dF h.1
 have:at_ (dk s) (idx (nmP x.ag) (dk s)).toNat=n:=ou hdd q3 hn (by
  have a:(at_ (dk s) (idx (nmP x.ag) (dk s)).toNat).ag=x.ag:=by simpa [nmP] using q2
  have b:x.ag=n.ag:=by simpa [ndP] using e
  rw [a,b])
 rw [<- this];exact h.2
def Vt(x:ah):ah.mk x.ag x.ax x.af=x:=by cases x;rfl
def G6:∀ (f:Nat) (s:List ae) (l:List ah),gdF s->(∀ x∈l,okX (dk s) x)->ez f s l=gW f s l
 | 0,_,_,_,_=>rfl
 | f+1,s,l,hg,hl=>by
  rw [ez,gW];refine oy fun i hi=>?_;simp only;have hi':i<(dk s).length:=List.mem_range.1 hi
  have hm:at_ (dk s) i∈dk s:=at_mem hi'
  have abw:=Wp hg hi';obtain ⟨hd,hdd,kind,bd,hk,hA⟩:=hg;obtain ⟨hgk,kd,b,ho⟩:=oX s kind bd hA _ hm;have CC:=tO _ _ hm;generalize at_ (dk s) i=n at *
  have hx:∀ x∈l.filter (ndP n.ag),okN n x=true:=fun x hx=>by
   rw [List.mem_filter] at hx;exact KF hdd (hl x hx.1) hm hx.2
  generalize l.filter (ndP n.ag)=fd at *
  have Yr:n.aj=3\/n.aj=4->n.af=[]:=fun c=>by
   simp only [gq,j9,iT,Bool.and_eq_true,Bool.or_eq_true,Bool.not_eq_true',Bool.or_eq_false_iff,decide_eq_false_iff_not] at ho;have h8:=ho.1.1.1.1.1.2.1.2;rcases h8 with h8|h8
   ·rcases c with c|c
    ·exact absurd c h8.1
    ·exact absurd c h8.2
   ·simpa using h8
  have hsame:n.aj=3\/n.aj=4->(fd.map fun x=>ah.mk x.ag x.ax (if n.af.isEmpty=true then [] else gW f n.af x.af))=fd:=fun c=>by
   have:∀ x∈fd,ah.mk x.ag x.ax (if n.af.isEmpty=true then [] else gW f n.af x.af)=x:=fun x h=>by
    have h1:=hx x h;rw [okN,if_pos c] at h1;simp only [Bool.and_eq_true,List.isEmpty_iff] at h1;rw [Yr c]
    conv=>rhs;rw [<- Vt x,h1.1]
    simp
   rw [List.map_congr_left this];simp
  by_cases h3:n.aj=3
  ·rw [if_pos h3];by_cases he:fd.isEmpty=true
   ·rw [if_pos he];by_cases hgv:n.bS=true
    ·rw [if_pos (by simp [he,hgv]),if_pos ⟨h3,hgv⟩]
    ·rw [if_neg (by simp [hgv]),if_neg (fun c=>hgv c.2),if_neg (fun c=>by rw [h3] at c;exact absurd c.1 baa)];simpa using he
   ·rw [if_neg he,if_neg (by simp [he]),hsame (.inl h3)]
  ·rw [if_neg h3];by_cases h12:n.aj=1\/n.aj=2
   ·rw [if_pos h12];by_cases he:fd.isEmpty=true
    ·rw [if_pos he,if_pos he,if_neg (c:=n.aj=3/\n.bS=true) (fun c=>h3 c.1)];have hi0:=G6 f n.af [] hgk (fun x h=>by simp at h)
     have:(n.aj=1/\n.aZ=false/\n.aG.isEmpty=true/\at_ (dkF s false) i=false)↔(n.aj=1/\n.aZ=false/\wX s n.ag=true):=by
      rw [<- abw];constructor
      ·rintro ⟨a,b,c,d⟩;exact ⟨a,b,d,c⟩
      ·rintro ⟨a,b,d,c⟩;exact ⟨a,b,c,d⟩
     simp only [this,hi0]
    ·rw [if_neg he,if_neg he];refine List.map_congr_left fun x h=>?_;have h1:=hx x h
     have h34:¬ (n.aj=3\/n.aj=4):=by rcases h12 with c|c<;>rw [c]<;>decide
     have hok:okL (dk n.af) none x.af=true:=by
      rw [okN,if_neg h34] at h1;split at h1<;>(simp only [Bool.and_eq_true] at h1;exact h1.2)
     by_cases hke:n.af.isEmpty=true
     ·rw [if_pos hke,List.isEmpty_iff.1 hke,Qe]
     ·rw [if_neg hke,G6 f n.af x.af hgk (om hok)]
   ·have h4:n.aj=4:=by
     simp only [cg,Bool.and_eq_true,decide_eq_true_eq] at CC;omega
    rw [if_neg h12];by_cases he:fd.isEmpty=true
    ·rw [if_pos he,if_neg (fun c=>h3 c.1),if_neg (fun c=>h12 (.inl c.1))];simpa using he
    ·rw [if_neg he,hsame (.inr h4)]
end
end Go.Dt
