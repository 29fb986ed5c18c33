/- Part of a proof. -/
import Derived.Lib.ItoaLen
import Derived.Test.YtbiikafnjialjaaGreatDoorS16
set_option linter.all false
open List
namespace Go.Dt
open Go.Ab
section
def mkL{α:Type}(f:α->Int->α×Int):List α->Int->List α×Int
 | [],k=>([],k)
 | x::xs,k=>((f x k).1::(mkL f xs (f x k).2).1,(mkL f xs (f x k).2).2)
section
variable {α : Type} {f : α -> Int -> α × Int}
def gU:∀(l:List α) (k:Int),(mkL f l k).1.length=l.length
 | [],_=>rfl
 | x::xs,k=>by simp only[mkL,length_cons,gU xs]
def qY:∀(l m:List α) (k:Int),mkL f (l++m) k=((mkL f l k).1++(mkL f m (mkL f l k).2).1,(mkL f m (mkL f l k).2).2)
 | [],_,_=>rfl
 | x::xs,m,k=>by simp only[cons_append,mkL,qY xs m]
def zP(h:∀x k,k<=(f x k).2):∀(l:List α) (k:Int),k<=(mkL f l k).2
 | [],k=>Int.le_refl k
 | x::xs,k=>Int.le_trans (h x k) (zP h xs _)
def mkc(f:α->Int->α×Int)(l:List α)(k:Int)(i:Nat):Int:=(mkL f (l.take i) k).2
def mkp(f:α->Int->α×Int)(l:List α)(k:Int)(i:Nat):List α:=(mkL f (l.take i) k).1++l.drop i
def jd(l:List α)(k:Int):mkp f l k 0=l:=by simp[mkp,mkL]
def jf{l:List α}{k:Int}{i:Nat}(h:¬i<l.length):mkc f l k i=(mkL f l k).2:=by rw[mkc,take_of_length_le Um]
def j0{l:List α}{k:Int}{i:Nat}(h:¬i<l.length):mkp f l k i=(mkL f l k).1:=by rw[mkp,take_of_length_le Um,drop_of_length_le Um,append_nil]
variable [Inhabited α]
theorem zC{l:List α}{i:Nat}(h:i<l.length):l.take (i+1)=l.take i++[at_ l i]:=by rw[take_succ_eq_append_getElem h];unfold at_;rw[getElem?_eq_getElem h];rfl
theorem dI{l:List α}{k:Int}{i:Nat}(h:i<l.length):mkc f l k (i+1)=(f (at_ l i) (mkc f l k i)).2:=by rw[mkc,zC h,qY];rfl
omit [Inhabited α] in
theorem eZ(hm:∀x k,k<=(f x k).2)(l:List α)(k:Int)(i:Nat):mkc f l k i<=(mkL f l k).2:=by
 have:mkL f l k=mkL f (l.take i++l.drop i) k:=by rw[take_append_drop]
 rw[this,qY];exact zP hm _ _
omit [Inhabited α] in
theorem ke(hm:∀x k,k<=(f x k).2)(l:List α)(k:Int)(i:Nat):k<=mkc f l k i:=zP hm _ _
theorem Vu{l:List α}{k:Int}{i:Nat}(h:i<l.length):mkp f l k i=(mkL f (l.take i) k).1++(at_ l i::l.drop (i+1)):=by rw[mkp,bA h]
theorem Pg{l:List α}{k:Int}{i:Nat}(h:i<l.length):mkp f l k (i+1)=(mkL f (l.take i) k).1++((f (at_ l i) (mkc f l k i)).1::l.drop (i+1)):=by rw[mkp,zC h,qY];simp[mkL,mkc]
theorem ML{l:List α}{k:Int}{i:Nat}(h:i<l.length):at_ (mkL f l k).1 i=(f (at_ l i) (mkc f l k i)).1:=by
 have:mkL f l k=mkL f (l.take (i+1)++l.drop (i+1)) k:=by rw[take_append_drop]
 rw[this,qY];show at_ ((mkL f (l.take (i+1)) k).1++_) i=_;rw[zC h,qY];unfold at_;rw[append_assoc,getElem?_append_right (by rw[gU,length_take];omega)];have e:i - (mkL f (l.take i) k).1.length=0:=by rw[gU,length_take];omega
 rw[e];rfl
omit [Inhabited α] in
theorem ld{e:α->AV}{sz:Nat}(he:∀x,(e x).cells.length=sz):∀m:List α,((m.map e).flatMap AV.cells).length=m.length * sz:=by
 intro m
 induction m with
 | nil=>simp
 | cons x xs ih=>rw[map_cons,flatMap_cons,length_append,he,ih,length_cons,Nat.succ_mul,Nat.add_comm]
def mkb(e:α->AV)(f:α->Int->α×Int)(l:List α)(k:Int)(i:Nat):List AV:=((mkL f (l.take i) k).1.map e).flatMap AV.cells
omit [Inhabited α] in
theorem j1{e:α->AV}{sz:Nat}(he:∀x,(e x).cells.length=sz){l:List α}{k:Int}{i:Nat}(h:i<=l.length):(mkb e f l k i).length=i * sz:=by rw[mkb,ld he,gU,length_take,Nat.min_eq_left h]
theorem lS{e:α->AV}{l:List α}{k:Int}{i:Nat}(h:i<l.length):((mkp f l k i).map e).flatMap AV.cells=mkb e f l k i++((e (at_ l i)).cells++((l.drop (i+1)).map e).flatMap AV.cells):=by rw[Vu h];simp[mkb]
theorem je{e:α->AV}{l:List α}{k:Int}{i:Nat}(h:i<l.length):((mkp f l k (i+1)).map e).flatMap AV.cells=mkb e f l k i++((e (f (at_ l i) (mkc f l k i)).1).cells++((l.drop (i+1)).map e).flatMap AV.cells):=by rw[Pg h];simp[mkb]
end
def Oz{p e:List AV}{n j:Nat}(h:p.length=n):(p++e).take (n+j)=p++e.take j:=by subst h;rw[take_length_add_append]
def Lr{p e:List AV}{n j:Nat}(h:p.length=n):(p++e).drop (n+j)=e.drop j:=by subst h;rw[drop_length_add_append]
def Zc{p e:List AV}{n j m:Nat}(h:p.length=n):(p++e).drop (n+j+m)=e.drop (j+m):=by rw[Nat.add_assoc];exact Lr h
def Wz{p e:List AV}{n j m q:Nat}(h:p.length=n):(p++e).drop (n+j+m+q)=e.drop (j+m+q):=by rw[Nat.add_assoc n j m,Nat.add_assoc n];exact Lr h
def Zd{p e:List AV}{n j m q r:Nat}(h:p.length=n):(p++e).drop (n+j+m+q+r)=e.drop (j+m+q+r):=by rw[Nat.add_assoc n j m,Nat.add_assoc n,Nat.add_assoc n];exact Lr h
def XV{p e:List AV}{n j m:Nat}(h:p.length=n):(p++e).take (n+j+m)=p++e.take (j+m):=by rw[Nat.add_assoc];exact Oz h
def UG{p e:List AV}{n j m q:Nat}(h:p.length=n):(p++e).take (n+j+m+q)=p++e.take (j+m+q):=by rw[Nat.add_assoc n j m,Nat.add_assoc n];exact Oz h
attribute [go_sem] XV UG Wz Zd Oz Lr Zc append_assoc append_nil take_succ_cons drop_succ_cons take_zero drop_zero
end
def aA(x:Str)(k:Int):Str×Int:=(mkT k,k+1)
def iJ(x:Str)(k:Int):k+1<=(aA x k).2:=by unfold aA;omega
def bJ{α:Type}{f:α->Int->α×Int}(h:∀x k,k+1<=(f x k).2):∀(l:List α) (k:Int),k+l.length<=(mkL f l k).2
 | [],k=>by simp[mkL]
 | x::xs,k=>by have h1:=h x k;have h2:=bJ h xs (f x k).2;simp only[mkL,length_cons];omega
def dW{α:Type}{f:α->Int->α×Int}(h:∀x k,k+1<=(f x k).2)(x:α)(k:Int):k<=(f x k).2:=by have:=h x k;omega
def bq(x:dV)(k:Int):dV×Int:=(⟨k,k+1⟩,k+1+1)
def kW(x:dV)(k:Int):k+1<=(bq x k).2:=by unfold bq;simp only;omega
def jJ(x:fH)(k:Int):fH×Int:=(⟨mkT k,mkT (k+1)⟩,k+1+1)
def oA(x:fH)(k:Int):k+1<=(jJ x k).2:=by unfold jJ;simp only;omega
def gp(x:GStep)(k:Int):GStep×Int:=(⟨mkT k,(mkL jJ x.cK (k+1)).1⟩,(mkL jJ x.cK (k+1)).2)
def oB(x:GStep)(k:Int):k+1<=(gp x k).2:=by have g0:=bJ oA x.cK (k+1);unfold gp;simp only;omega
mutual
def db:aZ->Int->aZ×Int
 | .mk fOp gJ cS aF af,k=>(.mk k (k+1) (mkT (k+1+1)) (⟨((k+1+1+1).tmod 3 == 0),k+1+1+1+1,(mkL gp aF.aW (k+1+1+1+1+1)).1⟩) ((mr af ((mkL gp aF.aW (k+1+1+1+1+1)).2)).1),(mr af ((mkL gp aF.aW (k+1+1+1+1+1)).2)).2)
def mr:List aZ->Int->List aZ×Int
 | [],k=>([],k)
 | x::xs,k=>((db x k).1::(mr xs (db x k).2).1,(mr xs (db x k).2).2)
end
def Bb:∀(l:List aZ) (k:Int),mr l k=mkL db l k
 | [],k=>by simp[mr,mkL]
 | x::xs,k=>by simp[mr,mkL,Bb xs]
def sB(x:aZ)(k:Int):db x k=(.mk k (k+1) (mkT (k+1+1)) (⟨((k+1+1+1).tmod 3 == 0),k+1+1+1+1,(mkL gp x.aF.aW (k+1+1+1+1+1)).1⟩) ((mkL db x.af ((mkL gp x.aF.aW (k+1+1+1+1+1)).2)).1),(mkL db x.af ((mkL gp x.aF.aW (k+1+1+1+1+1)).2)).2):=by cases x;simp only[db,Bb];rfl
mutual
def jU:∀(x:aZ) (k:Int),k+1<=(db x k).2
 | .mk fOp gJ cS aF af,k=>by
  have g0:=bJ oB aF.aW (k+1+1+1+1+1)
  have g1:=Ba af ((mkL gp aF.aW (k+1+1+1+1+1)).2);simp only[db];omega
def Ba:∀(l:List aZ) (k:Int),k+l.length<=(mr l k).2
 | [],k=>by simp[mr]
 | x::xs,k=>by have h1:=jU x k;have h2:=Ba xs (db x k).2;simp only[mr,length_cons];omega
end
mutual
def bB:ag->Int->ag×Int
 | .mk aj ae fType ax aH bw cX dm bQ ez iH iI bP cE af,k=>(.mk k (mkT (k+1)) (⟨k+1+1,(mkL bq fType.ay (k+1+1+1)).1,(mkL aA fType.aB ((mkL bq fType.ay (k+1+1+1)).2)).1,mkT ((mkL aA fType.aB ((mkL bq fType.ay (k+1+1+1)).2)).2),mkT ((mkL aA fType.aB ((mkL bq fType.ay (k+1+1+1)).2)).2+1)⟩) ((mkL aA ax ((mkL aA fType.aB ((mkL bq fType.ay (k+1+1+1)).2)).2+1+1)).1) ((mkL aA aH ((mkL aA ax ((mkL aA fType.aB ((mkL bq fType.ay (k+1+1+1)).2)).2+1+1)).2)).1) (mkT ((mkL aA aH ((mkL aA ax ((mkL aA fType.aB ((mkL bq fType.ay (k+1+1+1)).2)).2+1+1)).2)).2)) ((((mkL aA aH ((mkL aA ax ((mkL aA fType.aB ((mkL bq fType.ay (k+1+1+1)).2)).2+1+1)).2)).2+1).tmod 3 == 0)) ((((mkL aA aH ((mkL aA ax ((mkL aA fType.aB ((mkL bq fType.ay (k+1+1+1)).2)).2+1+1)).2)).2+1+1).tmod 3 == 0)) ((((mkL aA aH ((mkL aA ax ((mkL aA fType.aB ((mkL bq fType.ay (k+1+1+1)).2)).2+1+1)).2)).2+1+1+1).tmod 3 == 0)) ((((mkL aA aH ((mkL aA ax ((mkL aA fType.aB ((mkL bq fType.ay (k+1+1+1)).2)).2+1+1)).2)).2+1+1+1+1).tmod 3 == 0)) ((mkL aA aH ((mkL aA ax ((mkL aA fType.aB ((mkL bq fType.ay (k+1+1+1)).2)).2+1+1)).2)).2+1+1+1+1+1) ((mkL aA aH ((mkL aA ax ((mkL aA fType.aB ((mkL bq fType.ay (k+1+1+1)).2)).2+1+1)).2)).2+1+1+1+1+1+1) ((mkL db bP ((mkL aA aH ((mkL aA ax ((mkL aA fType.aB ((mkL bq fType.ay (k+1+1+1)).2)).2+1+1)).2)).2+1+1+1+1+1+1+1)).1) ((mkL db cE ((mkL db bP ((mkL aA aH ((mkL aA ax ((mkL aA fType.aB ((mkL bq fType.ay (k+1+1+1)).2)).2+1+1)).2)).2+1+1+1+1+1+1+1)).2)).1) ((jS af ((mkL db cE ((mkL db bP ((mkL aA aH ((mkL aA ax ((mkL aA fType.aB ((mkL bq fType.ay (k+1+1+1)).2)).2+1+1)).2)).2+1+1+1+1+1+1+1)).2)).2)).1),(jS af ((mkL db cE ((mkL db bP ((mkL aA aH ((mkL aA ax ((mkL aA fType.aB ((mkL bq fType.ay (k+1+1+1)).2)).2+1+1)).2)).2+1+1+1+1+1+1+1)).2)).2)).2)
def jS:List ag->Int->List ag×Int
 | [],k=>([],k)
 | x::xs,k=>((bB x k).1::(jS xs (bB x k).2).1,(jS xs (bB x k).2).2)
end
def wU:∀(l:List ag) (k:Int),jS l k=mkL bB l k
 | [],k=>by simp[jS,mkL]
 | x::xs,k=>by simp[jS,mkL,wU xs]
def pS(x:ag)(k:Int):bB x k=(.mk k (mkT (k+1)) (⟨k+1+1,(mkL bq x.fType.ay (k+1+1+1)).1,(mkL aA x.fType.aB ((mkL bq x.fType.ay (k+1+1+1)).2)).1,mkT ((mkL aA x.fType.aB ((mkL bq x.fType.ay (k+1+1+1)).2)).2),mkT ((mkL aA x.fType.aB ((mkL bq x.fType.ay (k+1+1+1)).2)).2+1)⟩) ((mkL aA x.ax ((mkL aA x.fType.aB ((mkL bq x.fType.ay (k+1+1+1)).2)).2+1+1)).1) ((mkL aA x.aH ((mkL aA x.ax ((mkL aA x.fType.aB ((mkL bq x.fType.ay (k+1+1+1)).2)).2+1+1)).2)).1) (mkT ((mkL aA x.aH ((mkL aA x.ax ((mkL aA x.fType.aB ((mkL bq x.fType.ay (k+1+1+1)).2)).2+1+1)).2)).2)) ((((mkL aA x.aH ((mkL aA x.ax ((mkL aA x.fType.aB ((mkL bq x.fType.ay (k+1+1+1)).2)).2+1+1)).2)).2+1).tmod 3 == 0)) ((((mkL aA x.aH ((mkL aA x.ax ((mkL aA x.fType.aB ((mkL bq x.fType.ay (k+1+1+1)).2)).2+1+1)).2)).2+1+1).tmod 3 == 0)) ((((mkL aA x.aH ((mkL aA x.ax ((mkL aA x.fType.aB ((mkL bq x.fType.ay (k+1+1+1)).2)).2+1+1)).2)).2+1+1+1).tmod 3 == 0)) ((((mkL aA x.aH ((mkL aA x.ax ((mkL aA x.fType.aB ((mkL bq x.fType.ay (k+1+1+1)).2)).2+1+1)).2)).2+1+1+1+1).tmod 3 == 0)) ((mkL aA x.aH ((mkL aA x.ax ((mkL aA x.fType.aB ((mkL bq x.fType.ay (k+1+1+1)).2)).2+1+1)).2)).2+1+1+1+1+1) ((mkL aA x.aH ((mkL aA x.ax ((mkL aA x.fType.aB ((mkL bq x.fType.ay (k+1+1+1)).2)).2+1+1)).2)).2+1+1+1+1+1+1) ((mkL db x.bP ((mkL aA x.aH ((mkL aA x.ax ((mkL aA x.fType.aB ((mkL bq x.fType.ay (k+1+1+1)).2)).2+1+1)).2)).2+1+1+1+1+1+1+1)).1) ((mkL db x.cE ((mkL db x.bP ((mkL aA x.aH ((mkL aA x.ax ((mkL aA x.fType.aB ((mkL bq x.fType.ay (k+1+1+1)).2)).2+1+1)).2)).2+1+1+1+1+1+1+1)).2)).1) ((mkL bB x.af ((mkL db x.cE ((mkL db x.bP ((mkL aA x.aH ((mkL aA x.ax ((mkL aA x.fType.aB ((mkL bq x.fType.ay (k+1+1+1)).2)).2+1+1)).2)).2+1+1+1+1+1+1+1)).2)).2)).1),(mkL bB x.af ((mkL db x.cE ((mkL db x.bP ((mkL aA x.aH ((mkL aA x.ax ((mkL aA x.fType.aB ((mkL bq x.fType.ay (k+1+1+1)).2)).2+1+1)).2)).2+1+1+1+1+1+1+1)).2)).2)).2):=by cases x;simp only[bB,wU];rfl
mutual
def jT:∀(x:ag) (k:Int),k+1<=(bB x k).2
 | .mk aj ae fType ax aH bw cX dm bQ ez iH iI bP cE af,k=>by
  have g0:=bJ kW fType.ay (k+1+1+1)
  have g1:=bJ iJ fType.aB ((mkL bq fType.ay (k+1+1+1)).2)
  have g2:=bJ iJ ax ((mkL aA fType.aB ((mkL bq fType.ay (k+1+1+1)).2)).2+1+1)
  have g3:=bJ iJ aH ((mkL aA ax ((mkL aA fType.aB ((mkL bq fType.ay (k+1+1+1)).2)).2+1+1)).2)
  have g4:=bJ jU bP ((mkL aA aH ((mkL aA ax ((mkL aA fType.aB ((mkL bq fType.ay (k+1+1+1)).2)).2+1+1)).2)).2+1+1+1+1+1+1+1)
  have g5:=bJ jU cE ((mkL db bP ((mkL aA aH ((mkL aA ax ((mkL aA fType.aB ((mkL bq fType.ay (k+1+1+1)).2)).2+1+1)).2)).2+1+1+1+1+1+1+1)).2)
  have g6:=wT af ((mkL db cE ((mkL db bP ((mkL aA aH ((mkL aA ax ((mkL aA fType.aB ((mkL bq fType.ay (k+1+1+1)).2)).2+1+1)).2)).2+1+1+1+1+1+1+1)).2)).2);simp only[bB];omega
def wT:∀(l:List ag) (k:Int),k+l.length<=(jS l k).2
 | [],k=>by simp[jS]
 | x::xs,k=>by have h1:=jT x k;have h2:=wT xs (bB x k).2;simp only[jS,length_cons];omega
end
mutual
def aM:ah->Int->ah×Int
 | .mk ae aq af,k=>(.mk (mkT k) (mkT (k+1)) ((jZ af (k+1+1)).1),(jZ af (k+1+1)).2)
def jZ:List ah->Int->List ah×Int
 | [],k=>([],k)
 | x::xs,k=>((aM x k).1::(jZ xs (aM x k).2).1,(jZ xs (aM x k).2).2)
end
def uZ:∀(l:List ah) (k:Int),jZ l k=mkL aM l k
 | [],k=>by simp[jZ,mkL]
 | x::xs,k=>by simp[jZ,mkL,uZ xs]
def oC(x:ah)(k:Int):aM x k=(.mk (mkT k) (mkT (k+1)) ((mkL aM x.af (k+1+1)).1),(mkL aM x.af (k+1+1)).2):=by cases x;simp only[aM,uZ];rfl
mutual
def dL:∀(x:ah) (k:Int),k+1<=(aM x k).2
 | .mk ae aq af,k=>by
  have g0:=AZ af (k+1+1);simp only[aM];omega
def AZ:∀(l:List ah) (k:Int),k+l.length<=(jZ l k).2
 | [],k=>by simp[jZ]
 | x::xs,k=>by have h1:=dL x k;have h2:=AZ xs (aM x k).2;simp only[jZ,length_cons];omega
end
open Go Go.Ab
def iQ(x:ah)(l:List ah):cnt (x::l)=1+cnt x.af+cnt l:=by cases x;simp only[cnt,kc,length_cons,ah.af];omega
def uH:∀(a b:List ah),cnt (a++b)=cnt a+cnt b
 | [],b=>by simp[cnt,kc]
 | x::a,b=>by rw[cons_append,iQ,iQ,uH a b];omega
def j5:cnt []=0:=by simp[cnt,kc]
mutual
def RR:∀(x:ah) (k:Int),(aM x k).2=k+2 * (1+cnt x.af:Nat)
 | .mk n v ks,k=>by simp only[aM,ah.af];rw[zD ks];omega
def zD:∀(l:List ah) (k:Int),(jZ l k).2=k+2 * (cnt l:Nat)
 | [],k=>by simp[jZ,cnt,kc]
 | x::xs,k=>by simp only[jZ];rw[zD xs,RR x,iQ];omega
end
def SE(l:List ah)(k:Int):(mkL aM l k).2=k+2 * (cnt l:Nat):=by rw[<- uZ,zD]
def aft(s:List ag)(l:List ah)(cs:List Str):List ah:=if cW s l=true then l.flatMap (Qv cs s) else []
theorem Ha{α:Type}[Inhabited α]{p:α->Bool}:∀ {l:List α},l.find? p=if 0<=idx p l then some (at_ l (idx p l).toNat) else none
 | []=>by simp[idx]
 | x::xs=>by
  have ih:=Ha (p:=p) (l:=xs)
  have h0:=p8 p xs;by_cases h:p x=true
  ·have e:idx p (x::xs)=0:=by simp[idx,h]
   rw[find?_cons_of_pos h,e];simp[at_]
  ·rw[find?_cons_of_neg h,ih];by_cases q:idx p xs<0
   ·have e:idx p (x::xs) = -1:=by simp[idx,h,q]
    rw[e,if_neg Um,if_neg Um]
   ·have e:idx p (x::xs)=idx p xs+1:=by simp[idx,h,q]
    rw[e,if_pos Um,if_pos Um,show (idx p xs+1).toNat=(idx p xs).toNat+1 by omega,yS]
open Go.Ab
mutual
def oU:aI->Int->aI×Int
 | .mk fOp ae aq af,k=>(.mk k (mkT (k+1)) (mkT (k+1+1)) ((mw af (k+1+1+1)).1),(mw af (k+1+1+1)).2)
def mw:List aI->Int->List aI×Int
 | [],k=>([],k)
 | x::xs,k=>((oU x k).1::(mw xs (oU x k).2).1,(mw xs (oU x k).2).2)
end
mutual
def LP:∀(x:aI) (k:Int),k+1<=(oU x k).2
 | .mk fOp ae aq af,k=>by
  have g0:=Bc af (k+1+1+1);simp only[oU];omega
def Bc:∀(l:List aI) (k:Int),k+l.length<=(mw l k).2
 | [],k=>by simp[mw]
 | x::xs,k=>by have h1:=LP x k;have h2:=Bc xs (oU x k).2;simp only[mw,length_cons];omega
end
open Go Go.Ab
def fC:List aI->Nat
 | []=>0
 | .mk _ _ _ ks::xs=>1+fC ks+fC xs
def qe(x:aI)(l:List aI):fC (x::l)=1+fC x.af+fC l:=by cases x;rw[fC];rfl
def HB:fC []=0:=by rw[fC]
def Av(op:Int):∀l:List ah,fC (edO op l)=cnt l
 | []=>by rw[edO,HB,j5]
 | .mk n v ks::xs=>by rw[edO,fC,iQ,Av op ks,Av op xs];rfl
def JO{l:List ah}{x:ah}(h:x∈l):cnt x.af<=cnt l:=by
 induction l with
 | nil=>simp at h
 | cons y l ih =>
  rw[iQ];rcases List.mem_cons.1 h with rfl|h
  ·omega
  ·have:=ih h;omega
mutual
def RS:∀(x:aI) (k:Int),(oU x k).2=k+3 * (1+fC x.af:Nat)
 | .mk o n v ks,k=>by simp only[oU,aI.af];rw[Fo ks];omega
def Fo:∀(l:List aI) (k:Int),(mw l k).2=k+3 * (fC l:Nat)
 | [],k=>by simp[mw,fC]
 | x::xs,k=>by simp only[mw];rw[Fo xs,RS x,qe];omega
end
def afs(s:List ag)(a b:List ah):List aI:=if (cW s a && cW s b)=true then dif s a b else []
def l9(all:List ag)(i:Nat)(m:Nat):List Str:=(List.range m).flatMap λj=>if j=i then [] else nmS (dk (at_ all j).af)
mutual
def oth:List ag->Str->Option (List Str)
 | [],_=>none
 | .mk k a _ _ _ _ _ _ _ _ _ _ _ _ ks::xs,nm =>
  if dK k=true/\a=nm then some []
  else if k=5 then (match lF ks 0 ks nm with|some o=>some o|none=>oth xs nm)
  else oth xs nm
def lF:List ag->Nat->List ag->Str->Option (List Str)
 | _,_,[],_=>none
 | all,i,.mk _ _ _ _ _ _ _ _ _ _ _ _ _ _ ks::xs,nm =>
  match oth ks nm with
  | some o=>some (o++l9 all i all.length)
  | none=>lF all (i+1) xs nm
end
def zK(x:ag)(xs:List ag)(nm:Str):oth (x::xs) nm=if dK x.aj=true/\x.ae=nm then some [] else if x.aj=5 then (match lF x.af 0 x.af nm with|some o=>some o|none=>oth xs nm) else oth xs nm:=by cases x;rw[oth];rfl
def DM(all:List ag)(i:Nat)(x:ag)(xs:List ag)(nm:Str):lF all i (x::xs) nm=match oth x.af nm with|some o=>some (o++l9 all i all.length)|none=>lF all (i+1) xs nm:=by cases x;rw[lF];rfl
def jq(s:List ag)(nm:Str):List Str:=(oth s nm).getD []
def wo(s:List ag)(nm:Str)(l:List ah):List ah:=l.filter λy=>!cont (jq s nm) y.ae
def stP(d:List ag)(x y:ah):Bool:=decide (idx (nmP x.ae) d<idx (nmP y.ae) d) || (decide (idx (nmP y.ae) d=idx (nmP x.ae) d) && decide (0<jr (at_ d (idx (nmP x.ae) d).toNat) y x))
def pos{α:Type}(p:α->Bool):List α->Nat
 | []=>0
 | x::xs=>if p x=true then 0 else pos p xs+1
def ins(s:List ag)(l:List ah)(x:ah):List ah:=l.take (pos (stP (dk s) x) l)++x::l.drop (pos (stP (dk s) x) l)
def wrg(n:ag)(e:aI):Int :=
 if ((n.aj=1\/n.aj=2)/\¬e.aq=[])\/(¬(n.aj=1\/n.aj=2)/\¬e.af=[]) then 2
 else if e.fOp<1\/5<e.fOp then 3
 else if (n.aj=4\/n.aj=3/\¬(e.fOp=4\/e.fOp=5))/\cvB n.fType e.aq=false then 7 else 0
def kt(n:ag)(k:Str):dq:=(at_ n.af (idx (fq k) n.af).toNat).fType
def edP(k:Str)(e:aI):Bool:=e.ae == k
def kvF(k:Str)(es:List aI):List aI:=es.filter (edP k)
def kvG(n:ag)(k:Str)(e:aI):Bool:=cvB (kt n k) e.aq && !decide (e.fOp=4) && !decide (e.fOp=5)
def kvV(n:ag)(k:Str)(es:List aI):List ah:=(kvF k es).map λe=>.mk k (cvS (kt n k) e.aq) []
def ep(n:ag)(es:List aI):Bool:=n.ax.all λk=>decide ((kvF k es).length=1) && (kvF k es).all (kvG n k)
def cv(n:ag)(e:aI):ah:=.mk n.ae (if n.aj=4 then cvS n.fType e.aq else []) (if n.aj=2 then n.ax.flatMap (λk=>kvV n k e.af) else [])
def dl(l:List ah)(i:Int):List ah:=if 0<=i then l.eraseIdx i.toNat else l
abbrev Rec:=List ag->List ah->List ah×Int
def crt(R:Rec)(s:List ag)(l:List ah)(n:ag)(e:aI):List ah×Int :=
 if n.aj=3\/n.aj=4 then (ins s (wo s n.ae l) (.mk n.ae (cvS n.fType e.aq) []),0)
 else if ¬(R n.af []).2=0 then ([],(R n.af []).2)
 else if n.aj=1/\n.bQ=false/\(R n.af []).1=[] then (l,0)
 else (ins s (wo s n.ae l) (.mk n.ae [] (R n.af []).1),0)
def mrg(R:Rec)(l:List ah)(i:Nat)(n:ag)(e:aI):List ah×Int :=
 if n.aj=3 then (l.set i (.mk (at_ l i).ae (cvS n.fType e.aq) (at_ l i).af),0)
 else if n.aj=1\/n.aj=2 then
  (if ¬(R n.af (at_ l i).af).2=0 then ([],(R n.af (at_ l i).af).2)
   else if n.aj=1/\n.bQ=false/\(R n.af (at_ l i).af).1=[] then (l.eraseIdx i,0)
   else (l.set i (.mk (at_ l i).ae (at_ l i).aq (R n.af (at_ l i).af).1),0))
 else (l,0)
def one(R:Rec)(s:List ag)(l:List ah)(e:aI):List ah×Int :=
 if idx (nmP e.ae) (dk s)<0 then ([],2)
 else if ¬wrg (nd s e.ae) e=0 then ([],wrg (nd s e.ae) e)
 else if (nd s e.ae).aj=2/\ep (nd s e.ae) e.af=false then ([],4)
 else if e.fOp=3/\0<=fnd (nd s e.ae) l (cv (nd s e.ae) e) then ([],5)
 else if e.fOp=4/\fnd (nd s e.ae) l (cv (nd s e.ae) e)<0 then ([],6)
 else if e.fOp=5/\fnd (nd s e.ae) l (cv (nd s e.ae) e)<0 then (l,0)
 else if e.fOp=1/\0<=fnd (nd s e.ae) l (cv (nd s e.ae) e) then mrg R l (fnd (nd s e.ae) l (cv (nd s e.ae) e)).toNat (nd s e.ae) e
 else if e.fOp=4\/e.fOp=5 then (dl l (fnd (nd s e.ae) l (cv (nd s e.ae) e)),0)
 else crt R s (dl l (fnd (nd s e.ae) l (cv (nd s e.ae) e))) (nd s e.ae) e
def mdE:List aI->List ag->List ah->List ah×Int
 | [],_,l=>(l,0)
 | .mk op nm v ks::es,s,l =>
  if ¬(one (mdE ks) s l (.mk op nm v ks)).2=0 then ([],(one (mdE ks) s l (.mk op nm v ks)).2)
  else mdE es s (one (mdE ks) s l (.mk op nm v ks)).1
def vv(e:aI)(es:List aI)(s:List ag)(l:List ah):mdE (e::es) s l=if ¬(one (mdE e.af) s l e).2=0 then ([],(one (mdE e.af) s l e).2) else mdE es s (one (mdE e.af) s l e).1:=by cases e;rw[mdE];rfl
def mdT(s:List ag)(l:List ah)(es:List aI):List ah×Int :=
 if cW s l=false then (l,1)
 else if ¬(mdE es s l).2=0 then (l,(mdE es s l).2)
 else if cW s (mdE es s l).1=false then (l,8) else ((mdE es s l).1,0)
theorem pos_at{α:Type}[Inhabited α]{p:α->Bool}:∀ {l:List α} {k:Nat},k<l.length->(∀y∈l.take k,p y=false)->p (at_ l k)=true->pos p l=k
 | x::xs,0,_,_,h=>by rw[pos,if_pos (show p x=true from h)]
 | x::xs,k+1,h1,h2,h3=>by
  rw[pos,if_neg (by rw[h2 x Xp];simp),pos_at (k:=k) (by simpa using h1) (λy hy=>h2 y (by simp[hy])) h3]
def I6{α:Type}{p:α->Bool}:∀ {l:List α},(∀y∈l,p y=false)->pos p l=l.length
 | [],_=>rfl
 | x::xs,h=>by rw[pos,if_neg (by rw[h x Xp];simp),I6 λy hy=>h y (by simp[hy])];rfl
def FE{α:Type}{p:α->Bool}{l:List α}{k:Nat}(h1:¬k<l.length)(h:∀y∈l.take k,p y=false):pos p l=l.length:=by rw[take_of_length_le Um]at h;exact I6 h
def o7{l:List ah}{i:Nat}(h:i<l.length):l=l.take i++at_ l i::l.drop (i+1):=by rw[<- bA h,take_append_drop]
def uG{l:List ah}{i:Nat}:l.eraseIdx i=l.take i++l.drop (i+1):=eraseIdx_eq_take_drop_succ ..
def tX{l:List ah}{i:Nat}{y:ah}(h:i<l.length):l.set i y=l.take i++y::l.drop (i+1):=by rw[set_eq_take_append_cons_drop,if_pos h]
def F(l:List ah)(k:Str):Option Str:=(l.find? (ndP k)).map ah.aq
def RC(l:List ah)(k:Str):F l k=if 0<=idx (ndP k) l then some (at_ l (idx (ndP k) l).toNat).aq else none:=by rw[F,Ha];split<;>rfl
def uB(x:ah)(k:Str):mc x k=(F x.af k).isSome:=by
 rw[RC,mc];split
 ·rename_i h;simpa using h
 ·rename_i h;simpa using h
def KG{x:ah}{k:Str}(h:mc x k=true):F x.af k=some (kyT x k):=by rw[mc,decide_eq_true_eq]at h;rw[RC,if_pos h];rfl
def abh{n:ag}{x y:ah}(h2:n.aj=2)(h:∀k∈n.ax,F x.af k=F y.af k):kyB n x=kyB n y/\kyL n x=kyL n y:=by
 have e:n.ax.all (mc x)=n.ax.all (mc y):=by
  rw[Bool.eq_iff_iff,all_eq_true,all_eq_true];constructor
  ·intro q k hk;rw[uB,<- h k hk,<- uB];exact q k hk
  ·intro q k hk;rw[uB,h k hk,<- uB];exact q k hk
 cases hb:n.ax.all (mc y)with
 | true =>
  have h1:=oG h2 (e.trans hb)
  have h3:=oG h2 hb;refine⟨by rw[h1.2,h3.2],?_⟩;rw[h1.1,h3.1];refine map_congr_left λk hk=>?_;have q1:=KG (List.all_eq_true.1 (e.trans hb) k hk)
  have q2:=KG (List.all_eq_true.1 hb k hk);rw[h k hk,q2]at q1;injection q1 with q1;exact q1.symm
 | false =>
  have h1:=uq h2 (e.trans hb)
  have h3:=uq h2 hb;exact⟨by rw[h1.2,h3.2],by rw[h1.1,h3.1]⟩
def qV(a b:List ah)(k:Str):F (a++b) k=(F a k).or (F b k):=by unfold F;rw[find?_append];cases a.find? (ndP k)<;>rfl
def nR(x:ah)(l:List ah)(k:Str):F (x::l) k=if x.ae=k then some x.aq else F l k:=by
 unfold F;rw[find?_cons];by_cases h:x.ae=k
 ·rw[if_pos h,show ndP k x=true by simpa[ndP]using h];rfl
 ·rw[if_neg h,show ndP k x=false by simpa[ndP]using h]
def HY{l:List ah}{k:Str}(h:∀x∈l,¬x.ae=k):F l k=none:=by unfold F;rw[List.find?_eq_none.2 λx hx=>by simpa[ndP]using h x hx];rfl
def Zu{s:List ag}{l:List ah}{x:ah}{k:Str}(h:¬x.ae=k):F (ins s l x) k=F l k:=by rw[ins,qV,nR,if_neg h,<- qV,take_append_drop]
def LC{s:List ag}{l:List ah}{x:ah}(h:∀y∈l,¬y.ae=x.ae):F (ins s l x) x.ae=some x.aq:=by rw[ins,qV,nR,if_pos rfl,HY λy hy=>h y (mem_of_mem_take hy)];rfl
def RD{l:List ah}{i:Nat}{k:Str}(hi:i<l.length)(h:¬(at_ l i).ae=k):F (l.eraseIdx i) k=F l k:=by
 rw[uG,qV]
 conv=>rhs;rw[o7 hi,qV,nR,if_neg h]
def Zs{l:List ah}{i:Nat}{y:ah}{k:Str}(hi:i<l.length)(h:¬(at_ l i).ae=k)(hy:¬y.ae=k):F (l.set i y) k=F l k:=by
 rw[tX hi,qV,nR,if_neg hy]
 conv=>rhs;rw[o7 hi,qV,nR,if_neg h]
def acM{s:List ag}{nm:Str}{l:List ah}{k:Str}(h:cont (jq s nm) k=false):F (wo s nm l) k=F l k:=by
 induction l with
 | nil=>rfl
 | cons y l ih =>
  rw[wo,filter_cons]
  cases hc:cont (jq s nm) y.ae with
  | true =>
   rw[if_neg Xp,nR,if_neg (λe=>by rw[e,h]at hc;cases hc)];exact ih
  | false =>
   rw[if_pos Xp,nR,nR];split
   ·rfl
   ·exact ih
def same(s:List ag)(x y:ah):Prop:=x.ae=y.ae/\(gM (nd s x.ae).aj=true->kyL (nd s x.ae) x=kyL (nd s x.ae) y)
def sE{s:List ag}{x y:ah}(h:same s x y):same s y x:=⟨h.1.symm,λr=>by rw[<- h.1]at r ⊢;exact(h.2 r).symm⟩
def ny{s:List ag}{x y z:ah}(h:same s x y)(h2:same s y z):same s x z:=⟨h.1.trans h2.1,λr=>by
 have r2:=r;rw[h.1]at r2;have:=h2.2 r2;rw[<- h.1]at this
 exact(h.2 r).trans this⟩
def J:List ag->List ah->Prop
 | _,[]=>True
 | s,.mk nm v ks::xs=>(0<=idx (nmP nm) (dk s)/\kyB (nd s nm) (.mk nm v ks)=true/\((nd s nm).aj=1\/(nd s nm).aj=2->v=[]/\J (nd s nm).af ks))/\(∀y∈xs,¬same s (.mk nm v ks) y)/\J s xs
def jX(s:List ag)(x:ah):Prop:=0<=idx (nmP x.ae) (dk s)/\kyB (nd s x.ae) x=true/\((nd s x.ae).aj=1\/(nd s x.ae).aj=2->x.aq=[]/\J (nd s x.ae).af x.af)
def Oq{s:List ag}{x:ah}{xs:List ah}:J s (x::xs)↔jX s x/\(∀y∈xs,¬same s x y)/\J s xs:=by cases x;rw[J];exact Iff.rfl
def Ck{s:List ag}:J s []:=by rw[J];trivial
def nX{s:List ag}:∀ {l:List ah},J s l↔(∀x∈l,jX s x)/\l.Pairwise λx y=>¬same s x y
 | []=>by simp[Ck]
 | x::xs=>by
  rw[Oq,nX (l:=xs),pairwise_cons];constructor
  ·rintro⟨h1,h2,h3,h4⟩;exact⟨λy hy=>by rcases List.mem_cons.1 hy with rfl|hy;exact h1;exact h3 y hy,h2,h4⟩
  ·rintro⟨h1,h2,h3⟩;exact⟨h1 x Xp,h2,λy hy=>h1 y (by simp[hy]),h3⟩
def Cj{s:List ag}{l l':List ah}(h:l'.Sublist l)(hJ:J s l):J s l':=by rw[nX]at hJ ⊢;exact⟨λx hx=>hJ.1 x (h.subset hx),hJ.2.sublist h⟩
def BZ(l:List ah)(i:Int):(dl l i).Sublist l:=by
 unfold dl;split
 ·exact eraseIdx_sublist ..
 ·exact List.Sublist.refl _
def rv(s:List ag)(nm:Str)(l:List ah):(wo s nm l).Sublist l:=filter_sublist
def w9{s:List ag}{a b:List ah}{x:ah}:(a++x::b).Pairwise (λx y=>¬same s x y)↔(∀y∈a++b,¬same s x y)/\(a++b).Pairwise λx y=>¬same s x y:=by rw[(perm_middle (a:=x) (l₁:=a) (l₂:=b)).pairwise_iff λh c=>h (sE c),pairwise_cons]
def Zr{s:List ag}{l:List ah}{x:ah}(hJ:J s l)(hx:jX s x)(hn:∀y∈l,¬same s x y):J s (ins s l x):=by
 rw[nX]at hJ ⊢;refine⟨λy hy=>?_,?_⟩
 ·rw[ins,mem_append,mem_cons]at hy;rcases hy with hy|rfl|hy
  ·exact hJ.1 y (mem_of_mem_take hy)
  ·exact hx
  ·exact hJ.1 y (mem_of_mem_drop hy)
 ·rw[ins,w9,take_append_drop];exact⟨hn,hJ.2⟩
def Zq{s:List ag}{l:List ah}{i:Nat}{y:ah}(hJ:J s l)(hi:i<l.length)(hy:jX s y)(hn:same s y (at_ l i)):J s (l.set i y):=by
 rw[nX]at hJ ⊢;have h2:=hJ.2;rw[o7 hi,w9]at h2;rw[tX hi,w9];refine⟨λw hw=>?_,λw hw c=>h2.1 w hw (ny (sE hn) c),h2.2⟩;rw[mem_append,mem_cons]at hw;rcases hw with hw|rfl|hw
 ·exact hJ.1 w (mem_of_mem_take hw)
 ·exact hy
 ·exact hJ.1 w (mem_of_mem_drop hw)
def gR{s:List ag}{k:Str}(h:0<=idx (nmP k) (dk s)):(nd s k).ae=k/\nd s k∈dk s:=by obtain⟨_,h2,h3⟩:=gb h;simp only[nmP,beq_iff_eq]at h2;exact⟨h2,h3⟩
def Qj{s:List ag}{x y:ah}(hx:0<=idx (nmP x.ae) (dk s))(kx:kyB (nd s x.ae) x=true)(ky:y.ae=x.ae->kyB (nd s x.ae) y=true):fiP (nd s x.ae) x y=true↔same s x y:=by
 have hn:=(gR hx).1;unfold fiP same;rw[hn];by_cases e:y.ae=x.ae
 ·have e1:(y.ae == x.ae)=true:=by simpa using e
  rw[e1,jr,skB,kx,ky e];by_cases r:gM (nd s x.ae).aj=true
  ·rw[if_pos r,r];simp only[Bool.true_and,Bool.not_true,Bool.false_or,Bool.and_eq_true,decide_eq_true_eq,uI,beq_iff_eq,and_self,true_implies];exact⟨λh=>⟨e.symm,h⟩,λh=>h.2⟩
  ·rw[if_neg r,show gM (nd s x.ae).aj=false by simpa using r];simp[e]
 ·have e1:(y.ae == x.ae)=false:=by simpa using e
  rw[e1];constructor
  ·intro h;simp at h
  ·rintro⟨h,_⟩;exact absurd h.symm e
def Zt{n:ag}{k:Str}{es:List aI}{e0:aI}(h:kvF k es=[e0]):F (kvV n k es) k=some (cvS (kt n k) e0.aq):=by rw[kvV,h,map_cons,nR,if_pos (show (ah.mk k (cvS (kt n k) e0.aq) []).ae=k from rfl)];rfl
def QF{n:ag}{k j:Str}{es:List aI}(h:¬j=k):F (kvV n j es) k=none:=HY λx hx=>by
 obtain⟨_,_,rfl⟩:=List.mem_map.1 hx;exact h
def xW{n:ag}{k:Str}{es:List aI}{e0:aI}(h:kvF k es=[e0]):∀ {Ks:List Str},k∈Ks->F (Ks.flatMap λk=>kvV n k es) k=some (cvS (kt n k) e0.aq)
 | j::Ks,hk=>by
  rw[flatMap_cons,qV];by_cases e:j=k
  ·subst e;rw[Zt h];rfl
  ·rw[QF e,xW h (by simpa[Ne.symm e,show ¬k=j from λc=>e c.symm]using hk)];rfl
def vB{n:ag}{es:List aI}(h:ep n es=true){k:Str}(hk:k∈n.ax):∃e0,kvF k es=[e0]/\e0.ae=k/\cvB (kt n k) e0.aq=true/\¬e0.fOp=4/\¬e0.fOp=5:=by
 have:=List.all_eq_true.1 h k hk;simp only[Bool.and_eq_true,decide_eq_true_eq]at this;obtain⟨h1,h2⟩:=this
 match he:kvF k es,h1 with
 | [e0],_ =>
  rw[he]at h2;simp only[all_cons,all_nil,Bool.and_true,kvG,Bool.and_eq_true,Bool.not_eq_true',decide_eq_false_iff_not]at h2;have hm:e0∈kvF k es:=by rw[he];simp
  have:=(List.mem_filter.1 hm).2;exact⟨e0,rfl,by simpa[edP]using this,h2.1.1,h2.1.2,h2.2⟩
def xo{n:ag}{e:aI}(h:n.aj=2->ep n e.af=true):kyB n (cv n e)=true:=by
 by_cases h2:n.aj=2
 ·refine(oG h2 (List.all_eq_true.2 λk hk=>?_)).2;obtain⟨e0,h3,_⟩:=vB (h h2) hk;rw[uB];show (F (if n.aj=2 then _ else []) k).isSome=true;rw[if_pos h2,xW h3 hk];rfl
 ·exact(gN h2).2
def vT{k:Str}{c:ag}(hk:k∈nmS (dk c.af)):∀ {all:List ag},(∀c∈all,c.aj=6)->c∈all->k∈nmS (dk all)
 | y::ys,h6,hc=>by
  rw[nE,nmS,map_append,mem_append];rcases List.mem_cons.1 hc with rfl|hc
  ·have e:=h6 c Xp;left;rw[e,if_neg daa,if_pos (.inr rfl)];exact hk
  ·right;exact vT hk (λc hc=>h6 c (by simp[hc])) hc
def O5{all:List ag}(h6:∀c∈all,c.aj=6){i m:Nat}(hm:m<=all.length):∀k∈l9 all i m,k∈nmS (dk all):=by
 intro k hk;obtain⟨j,hj,hk⟩:=List.mem_flatMap.1 hk;have hj':=List.mem_range.1 hj;split at hk
 ·simp at hk
 ·exact vT hk h6 (at_mem (l:=all) (k:=j) Um)
def BH{x:ag}{xs:List ag}{kind:Int}{bd:Bool}(h:kA (x::xs) kind bd=true):jD kind bd x=true/\(∃b,kA x.af x.aj b=true)/\kA xs kind bd=true:=by cases x;rw[kA]at h;simp only[Bool.and_eq_true]at h;exact⟨h.1.1,⟨_,h.1.2.2⟩,h.2⟩
def Ys{x:ag}{kind:Int}{bd:Bool}(h:jD kind bd x=true):x.aj=6↔kind=5:=by simp only[jD,Bool.and_eq_true,beq_iff_eq,decide_eq_decide]at h;exact h.1.1.1.2
def PF:∀ {l:List ag} {bd:Bool},kA l 5 bd=true->∀c∈l,c.aj=6
 | x::xs,bd,h,c,hc=>by
  have:=BH h;rcases List.mem_cons.1 hc with rfl|hc
  ·exact(Ys this.1).2 rfl
  ·exact PF this.2.2 c hc
def zu{x:ag}(h:x.aj=5\/x.aj=6)(xs:List ag):nmS (dk (x::xs))=nmS (dk x.af)++nmS (dk xs):=by rw[nE,nmS,map_append];rw[if_neg (by rcases h with h|h<;>rw[h]<;>decide),if_pos h];rfl
mutual
def Cz:∀(s:List ag) (kind:Int) (bd:Bool) (nm:Str) (o:List Str),kA s kind bd=true->oth s nm=some o->∀k∈o,k∈nmS (dk s)
 | [],_,_,_,_,_,h=>by simp[oth]at h
 | .mk kd a b c d e f g h0 i j l m n ks::xs,kind,bd,nm,o,hA,h=>by
  have hc:=BH hA
  have hxs:∀o,oth xs nm=some o->∀k∈o,k∈nmS (dk (.mk kd a b c d e f g h0 i j l m n ks::xs)):=λo ho k hk=>by
   have:=Cz xs kind bd nm o hc.2.2 ho k hk;rw[nE,nmS,map_append,mem_append];exact .inr this
  rw[oth]at h;split at h
  ·injection h with h;subst h;intro k hk;simp at hk
  ·split at h
   ·rename_i h5;obtain⟨bb,hk2⟩:=hc.2.1
    cases hC:lF ks 0 ks nm with
    | some o2 =>
     rw[hC]at h;injection h with h;subst h
     intro k hk;have h6:=PF (l:=ks) (bd:=bb) (by rw[<- h5];exact hk2)
     have:=zL ks 0 ks 5 bb nm o2 (by rw[<- h5];exact hk2) h6 hC (λc hc=>hc) Xp k hk;rw[zu (x:=.mk kd a b c d e f g h0 i j l m n ks) (.inl h5),mem_append];exact .inl this
    | none=>rw[hC]at h;exact hxs o h
   ·exact hxs o h
def zL:∀(all:List ag) (i:Nat) (xs:List ag) (kind:Int) (bd:Bool) (nm:Str) (o:List Str),kA xs kind bd=true->(∀c∈all,c.aj=6)->lF all i xs nm=some o->(∀c∈xs,c∈all)->(True)->∀k∈o,k∈nmS (dk all)
 | _,_,[],_,_,_,_,_,_,h,_,_=>by simp[lF]at h
 | all,i,.mk kd a b c d e f g h0 i' j l m n ks::xs,kind,bd,nm,o,hA,h6,h,hs,_=>by
  have hc:=BH hA;rw[lF]at h
  cases hC:oth ks nm with
  | some o2 =>
   rw[hC]at h;injection h with h;subst h
   intro k hk;rcases List.mem_append.1 hk with hk|hk
   ·obtain⟨bb,hk2⟩:=hc.2.1;have h1:=Cz ks _ bb nm o2 hk2 hC k hk;exact vT (c:=.mk kd a b c d e f g h0 i' j l m n ks) h1 h6 (hs _ (mem_cons_self ..))
   ·exact O5 h6 (Nat.le_refl _) k hk
  | none=>rw[hC]at h;exact zL all (i+1) xs kind bd nm o hc.2.2 h6 h (λc hc=>hs c (by simp[hc])) trivial
end
def Je:∀ {s:List ag} {kind:Int} {bd:Bool} {nm:Str} {o:List Str} {m:ag},kA s kind bd=true->(nmS (dk s)).Nodup->m∈s->dK m.aj=true->oth s nm=some o->¬m.ae∈o
 | x::xs,kind,bd,nm,o,m,hA,hd,hm,hk,ho,c=>by
  have hc:=BH hA
  have ho2:=ho
  have hd2:=hd;rw[nE,nmS,map_append,nodup_append]at hd;rw[zK]at ho
  have hxs:oth xs nm=some o->False:=λh=>by
   rcases List.mem_cons.1 hm with rfl|hm
   ·have h1:=Cz xs kind bd nm o hc.2.2 h _ c;rw[if_pos hk]at hd;exact hd.2.2 m.ae Xp m.ae h1 rfl
   ·exact Je hc.2.2 hd.2.1 hm hk h c
  split at ho
  ·injection ho with ho;subst ho;simp at c
  ·split at ho
   ·rename_i h5
    cases hC:lF x.af 0 x.af nm with
    | some o2 =>
     rw[hC]at ho;injection ho with ho;subst ho
     obtain⟨bb,hk2⟩:=hc.2.1;rw[h5]at hk2;have h1:=zL _ _ _ _ _ _ _ hk2 (PF hk2) hC (λc hc=>hc) trivial _ c;rw[zu (.inl h5),nodup_append]at hd2;rcases List.mem_cons.1 hm with rfl|hm
     ·rw[h5]at hk;exact absurd hk daa
     ·exact hd2.2.2 _ h1 m.ae (List.mem_map.2 ⟨m,xJ hm hk,rfl⟩) rfl
    | none=>rw[hC]at ho;exact hxs ho
   ·exact hxs ho
def rN(s:List ag)(k:Str):Prop:=∃m∈s,m.ae=k/\m.aj=3
def uw{s:List ag}(hg:gdS s){k:Str}(h:rN s k):0<=idx (nmP k) (dk s)/\(nd s k).aj=3/\∀nm,cont (jq s nm) k=false:=by
 obtain⟨m,hm,rfl,h3⟩:=h;obtain⟨hd,kind,bd,hA⟩:=hg;have hk:dK m.aj=true:=by rw[h3];rfl
 have hmd:=xJ hm hk
 have h0:0<=idx (nmP m.ae) (dk s):=by
  rcases Int.lt_or_le (idx (nmP m.ae) (dk s)) 0 with c|c
  ·have:=xA (p:=nmP m.ae) Um m hmd;simp[nmP]at this
  ·exact c
 refine⟨h0,?_,λnm=>?_⟩
 ·have:=gR h0;rw[Ac hd this.2 hmd this.1];exact h3
 ·rw[Bool.eq_false_iff];intro c;rw[iP,jq]at c
  cases ho:oth s nm with
  | none=>rw[ho]at c;simp at c
  | some o=>rw[ho]at c;exact Je hA ((qb _).1 hd) hm hk ho c
def C8{s:List ag}(h:gdS s){n:ag}(hn:n∈dk s):∀k∈n.ax,rN n.af k/\kt n k=(nd n.af k).fType/\0<=idx (fq k) n.af:=by
 have hg:=(o4 h hn).1;obtain⟨_,kind,bd,hA⟩:=h;obtain⟨⟨kd,b,ho⟩,_⟩:=yq s kind bd hA n hn;intro k hk;simp only[jD,Bool.and_eq_true]at ho;have:=List.all_eq_true.1 ho.1.2 k hk;simp only[pF,Bool.and_eq_true,decide_eq_true_eq]at this;obtain⟨h1,h2,h3⟩:=gb this.1;simp only[fq,Bool.and_eq_true,beq_iff_eq,decide_eq_true_eq]at h2
 have hD:rN n.af k:=⟨_,h3,h2.1,h2.2⟩
 refine⟨hD,?_,this.1⟩;have h4:=gR (uw hg hD).1;rw[kt,Ac hg.1 (xJ h3 (by rw[h2.2];rfl)) h4.2 (h2.1.trans h4.1.symm)]
def Kp(s:List ag)(es:List aI)(l l':List ah):Prop:=∀k,rN s k->((∀e∈es,¬e.ae=k)->F l' k=F l k)/\(∀e0,kvF k es=[e0]->¬e0.fOp=4->¬e0.fOp=5->F l' k=some (cvS (nd s k).fType e0.aq))
def S9{k:Str}{es:List aI}(h:kvF k es=[]):∀e∈es,¬e.ae=k:=λe he c=>by
 have:e∈kvF k es:=List.mem_filter.2 ⟨he,by simpa[edP]using c⟩;rw[h]at this;simp at this
def CO(k:Str)(e:aI)(es:List aI):kvF k (e::es)=if e.ae=k then e::kvF k es else kvF k es:=by
 rw[kvF,filter_cons];by_cases h:e.ae=k
 ·rw[if_pos h,if_pos (by simpa[edP]using h)];rfl
 ·rw[if_neg h,if_neg (by simpa[edP]using h)];rfl
def WV(s:List ag)(l:List ah):Kp s [] l l:=λk _=>⟨λ_=>rfl,λe0 h=>by simp[kvF]at h⟩
def T9{s:List ag}{e:aI}{es:List aI}{l l1 l2:List ah}(h1:Kp s [e] l l1)(h2:Kp s es l1 l2):Kp s (e::es) l l2:=λk hk=>by
 refine⟨λh=>?_,λe0 h a b=>?_⟩
 ·rw[(h2 k hk).1 λx hx=>h x (by simp[hx]),(h1 k hk).1 λx hx=>by rw[List.mem_singleton.1 hx];exact h e Xp]
 ·rw[CO]at h;split at h
  ·rename_i hn;injection h with h3 h4
   subst h3;rw[(h2 k hk).1 (S9 h4)];exact(h1 k hk).2 e (by rw[CO,if_pos hn];rfl) a b
  ·exact(h2 k hk).2 e0 h a b
def ROk(R:Rec)(s:List ag)(es:List aI):Prop:=∀l,J s l->(R s l).2=0->J s (R s l).1/\Kp s es l (R s l).1
section
variable {R : Rec} {s : List ag} {l : List ah} {e : aI}
def jY(n:ag)(e:aI):(cv n e).ae=n.ae:=rfl
def vC{n:ag}(h:n.aj=4):(cv n e).aq=cvS n.fType e.aq:=by rw[cv,if_pos h];rfl
def G8(hg:gdS s)(hJ:J s l)(h0:0<=idx (nmP e.ae) (dk s))(hk:(nd s e.ae).aj=2->ep (nd s e.ae) e.af=true)(y:ah)(hy:y∈l):fiP (nd s e.ae) (cv (nd s e.ae) e) y=true↔same s (cv (nd s e.ae) e) y:=by
 have hn:=(gR h0).1
 have e1:(cv (nd s e.ae) e).ae=e.ae:=by rw[jY,hn]
 have:=Qj (s:=s) (x:=cv (nd s e.ae) e) (y:=y) (by rw[e1];exact h0) (by rw[e1];exact xo hk) (λc=>by
  rw[e1]at c ⊢;have:=((nX.1 hJ).1 y hy).2.1
  rw[c]at this;exact this)
 rw[e1]at this;exact this
def Da(hg:gdS s)(hJ:J s l)(h0:0<=idx (nmP e.ae) (dk s))(hk:(nd s e.ae).aj=2->ep (nd s e.ae) e.af=true)(hi:0<=fnd (nd s e.ae) l (cv (nd s e.ae) e)):(fnd (nd s e.ae) l (cv (nd s e.ae) e)).toNat<l.length/\same s (cv (nd s e.ae) e) (at_ l (fnd (nd s e.ae) l (cv (nd s e.ae) e)).toNat):=by obtain⟨a,b,c⟩:=gb hi;exact⟨a,(G8 hg hJ h0 hk _ c).1 b⟩
def fresh(hg:gdS s)(hJ:J s l)(h0:0<=idx (nmP e.ae) (dk s))(hk:(nd s e.ae).aj=2->ep (nd s e.ae) e.af=true):∀y∈dl l (fnd (nd s e.ae) l (cv (nd s e.ae) e)),¬same s (cv (nd s e.ae) e) y:=by
 intro y hy;by_cases hi:0<=fnd (nd s e.ae) l (cv (nd s e.ae) e)
 ·obtain⟨a,b⟩:=Da hg hJ h0 hk hi;rw[dl,if_pos hi,uG]at hy;have:=(nX.1 hJ).2;rw[o7 a,w9]at this;exact λc=>this.1 y hy (ny (sE b) c)
 ·have hy2:y∈l:=by rw[dl,if_neg hi]at hy;exact hy
  intro c;have:=xA hi y hy2;rw[(G8 hg hJ h0 hk y hy2).2 c]at this;cases this
def WW(h0:0<=idx (nmP e.ae) (dk s)){k:Str}(h:¬e.ae=k):F (dl l (fnd (nd s e.ae) l (cv (nd s e.ae) e))) k=F l k:=by
 unfold dl;split
 ·rename_i hi;obtain⟨a,b,c⟩:=gb hi;refine RD a ?_;simp only[fiP,Bool.and_eq_true,beq_iff_eq]at b;rw[show (at_ l (fnd (nd s e.ae) l (cv (nd s e.ae) e)).toNat).ae=_ from b.1.1,(gR h0).1];exact h
 ·rfl
def zR(hg:gdS s)(h0:0<=idx (nmP e.ae) (dk s))(h2:(nd s e.ae).aj=2)(hk:ep (nd s e.ae) e.af=true){a ks:List ah}(hK:Kp (nd s e.ae).af e.af a ks){x:ah}(hx:x.af=ks):kyB (nd s e.ae) x=kyB (nd s e.ae) (cv (nd s e.ae) e)/\kyL (nd s e.ae) x=kyL (nd s e.ae) (cv (nd s e.ae) e):=by refine abh h2 λk hm=>?_;obtain⟨e0,q1,q2,q3,q4,q5⟩:=vB hk hm;obtain⟨d1,d2,_⟩:=C8 hg (gR h0).2 k hm;rw[hx,(hK k d1).2 e0 q1 q4 q5,<- d2];show _=F (if (nd s e.ae).aj=2 then _ else []) k;rw[if_pos h2,xW q1 hm]
def CP(h0:0<=idx (nmP e.ae) (dk s)):(nd s e.ae).aj=1\/(nd s e.ae).aj=2\/(nd s e.ae).aj=3\/(nd s e.ae).aj=4:=by have:=yI s _ (gR h0).2;simp only[dK,Bool.and_eq_true,decide_eq_true_eq]at this;omega
def WE(hg:gdS s)(hJ:J s l)(h0:0<=idx (nmP e.ae) (dk s))(hk:(nd s e.ae).aj=2->ep (nd s e.ae) e.af=true)(hf:∀y∈l,¬same s (cv (nd s e.ae) e) y)(hR:ROk R (nd s e.ae).af e.af)(hr:(crt R s l (nd s e.ae) e).2=0) :
  J s (crt R s l (nd s e.ae) e).1/\(∀k,rN s k->(¬e.ae=k->F (crt R s l (nd s e.ae) e).1 k=F l k)/\(e.ae=k->F (crt R s l (nd s e.ae) e).1 k=some (cvS (nd s k).fType e.aq))):=by
 have hn:=(gR h0).1
 have hw:=Cj (rv s (nd s e.ae).ae l) hJ
 have hfw:∀y∈wo s (nd s e.ae).ae l,¬same s (cv (nd s e.ae) e) y:=λy hy=>hf y ((rv _ _ _).subset hy)
 have put:∀x:ah,x.ae=e.ae->jX s x->same s (cv (nd s e.ae) e) x->J s (ins s (wo s (nd s e.ae).ae l) x)/\∀k,rN s k->¬e.ae=k->F (ins s (wo s (nd s e.ae).ae l) x) k=F l k:=λx hx h1 h2 =>
  ⟨Zr hw h1 λy hy c=>hfw y hy (ny h2 c),λk hk hne=>by rw[Zu (by rw[hx];exact hne),acM ((uw hg hk).2.2 _)]⟩
 by_cases c1:(nd s e.ae).aj=3\/(nd s e.ae).aj=4
 ·rw[crt,if_pos c1];have hkb:kyB (nd s e.ae) (.mk (nd s e.ae).ae (cvS (nd s e.ae).fType e.aq) [])=true:=(gN Um).2
  have hj:jX s (.mk (nd s e.ae).ae (cvS (nd s e.ae).fType e.aq) []):=by
   refine⟨?_,?_,?_⟩
   ·show 0<=idx (nmP (nd s e.ae).ae) (dk s);rw[hn];exact h0
   ·show kyB (nd s (nd s e.ae).ae) _=true;rw[hn];rw[hn]at hkb;exact hkb
   ·intro c;exfalso;have c2:(nd s (nd s e.ae).ae).aj=1\/(nd s (nd s e.ae).ae).aj=2:=c;rw[hn]at c2;omega
  have hs:same s (cv (nd s e.ae) e) (.mk (nd s e.ae).ae (cvS (nd s e.ae).fType e.aq) []):=by
   refine⟨rfl,λr=>?_⟩;rw[jY,hn]at r ⊢;rw[(gN Um).1,(gN Um).1];rcases c1 with c1|c1
   ·rw[c1]at r;exact absurd r daa
   ·rw[vC c1];rfl
  obtain⟨p1,p2⟩:=put (.mk (nd s e.ae).ae (cvS (nd s e.ae).fType e.aq) []) hn hj hs;refine⟨p1,λk hk=>⟨p2 k hk,λhek=>?_⟩⟩;subst hek;have h3:=(uw hg hk).2.1
  have:=LC (s:=s) (l:=wo s (nd s e.ae).ae l) (x:=.mk (nd s e.ae).ae (cvS (nd s e.ae).fType e.aq) []) (λy hy c=>hfw y hy ⟨c.symm,λr=>by rw[jY,hn,h3]at r;exact absurd r daa⟩);rw[show (ah.mk (nd s e.ae).ae (cvS (nd s e.ae).fType e.aq) []).ae=e.ae from hn]at this;exact this
 ·have hnk:∀k,rN s k->e.ae=k->False:=λk hk c=>by
   have:=(uw hg hk).2.1;rw[<- c]at this;exact c1 (.inl this)
  rw[crt,if_neg c1]at hr ⊢;by_cases c2:¬(R (nd s e.ae).af []).2=0
  ·rw[if_pos c2]at hr;exact absurd hr c2
  ·rw[if_neg c2]at hr ⊢;by_cases c3:(nd s e.ae).aj=1/\(nd s e.ae).bQ=false/\(R (nd s e.ae).af []).1=[]
   ·rw[if_pos c3];exact⟨hJ,λk hk=>⟨λ_=>rfl,λc=>(hnk k hk c).elim⟩⟩
   ·rw[if_neg c3];obtain⟨r1,r2⟩:=hR [] Ck (by simpa using c2);generalize (R (nd s e.ae).af []).1=ks at r1 r2
    have hky:(nd s e.ae).aj=2->kyB (nd s e.ae) (.mk (nd s e.ae).ae [] ks)=true/\kyL (nd s e.ae) (.mk (nd s e.ae).ae [] ks)=kyL (nd s e.ae) (cv (nd s e.ae) e):=λh2=>by
     have:=zR hg h0 h2 (hk h2) r2 (x:=.mk (nd s e.ae).ae [] ks) rfl;rw[xo λ_=>hk h2]at this;exact this
    have hj:jX s (.mk (nd s e.ae).ae [] ks):=by
     have e2:(ah.mk (nd s e.ae).ae [] ks).ae=e.ae:=hn;refine⟨by rw[e2];exact h0,?_,λ_=>⟨rfl,by rw[e2];exact r1⟩⟩;rw[e2];by_cases h2:(nd s e.ae).aj=2
     ·exact(hky h2).1
     ·exact(gN h2).2
    have hs:same s (cv (nd s e.ae) e) (.mk (nd s e.ae).ae [] ks):=by
     refine⟨rfl,λr=>?_⟩;rw[jY,hn]at r ⊢
     have h2:(nd s e.ae).aj=2:=by
      simp only[gM,Bool.or_eq_true,decide_eq_true_eq]at r;omega
     have:=(hky h2).2;rw[hn]at this;exact this.symm
    obtain⟨p1,p2⟩:=put (.mk (nd s e.ae).ae [] ks) hn hj hs;exact⟨p1,λk hk=>⟨p2 k hk,λc=>(hnk k hk c).elim⟩⟩
def LB{i:Nat}{y:ah}(hi:i<l.length)(h:∀w∈l.take i++l.drop (i+1),¬w.ae=y.ae):F (l.set i y) y.ae=some y.aq:=by rw[tX hi,qV,nR,if_pos rfl,HY λw hw=>h w (mem_append_left _ hw)];rfl
def Vt(hg:gdS s)(hJ:J s l)(h0:0<=idx (nmP e.ae) (dk s))(hk:(nd s e.ae).aj=2->ep (nd s e.ae) e.af=true){i:Nat}(hi:i<l.length)(hs:same s (cv (nd s e.ae) e) (at_ l i))(hR:ROk R (nd s e.ae).af e.af)(hr:(mrg R l i (nd s e.ae) e).2=0) :
  J s (mrg R l i (nd s e.ae) e).1/\(∀k,rN s k->(¬e.ae=k->F (mrg R l i (nd s e.ae) e).1 k=F l k)/\(e.ae=k->F (mrg R l i (nd s e.ae) e).1 k=some (cvS (nd s k).fType e.aq))):=by
 have hn:=(gR h0).1
 have hni:(at_ l i).ae=e.ae:=by rw[<- hs.1,jY,hn]
 have hjx:=(nX.1 hJ).1 _ (at_mem hi)
 have put:∀y:ah,y.ae=e.ae->jX s y->same s y (at_ l i)->J s (l.set i y)/\∀k,rN s k->¬e.ae=k->F (l.set i y) k=F l k:=λy hy h1 h2 =>
  ⟨Zq hJ hi h1 h2,λk _ hne=>Zs hi (by rw[hni];exact hne) (by rw[hy];exact hne)⟩
 by_cases c1:(nd s e.ae).aj=3
 ·rw[mrg,if_pos c1]
  have hj:jX s (.mk (at_ l i).ae (cvS (nd s e.ae).fType e.aq) (at_ l i).af):=by
   have e2:(ah.mk (at_ l i).ae (cvS (nd s e.ae).fType e.aq) (at_ l i).af).ae=e.ae:=hni;refine⟨by rw[e2];exact h0,by rw[e2];exact(gN Um).2,λc=>?_⟩;exfalso;rw[e2]at c;omega
  have hsm:same s (.mk (at_ l i).ae (cvS (nd s e.ae).fType e.aq) (at_ l i).af) (at_ l i):=⟨rfl,λr=>by
   have r2:gM (nd s (at_ l i).ae).aj=true:=r
   rw[hni,c1]at r2;exact absurd r2 daa⟩
  obtain⟨p1,p2⟩:=put (.mk (at_ l i).ae (cvS (nd s e.ae).fType e.aq) (at_ l i).af) hni hj hsm;refine⟨p1,λk hk=>⟨p2 k hk,λhek=>?_⟩⟩;subst hek;have hp:=(nX.1 hJ).2;rw[o7 hi,w9]at hp;have:=LB (y:=.mk (at_ l i).ae (cvS (nd s e.ae).fType e.aq) (at_ l i).af) hi (λw hw c=>hp.1 w hw ⟨c.symm,λr=>by rw[hni,c1]at r;exact absurd r daa⟩);rw[show (ah.mk (at_ l i).ae (cvS (nd s e.ae).fType e.aq) (at_ l i).af).ae=e.ae from hni]at this;exact this
 ·have hnk:∀k,rN s k->e.ae=k->False:=λk hk c=>by
   have:=(uw hg hk).2.1;rw[<- c]at this;exact c1 this
  rw[mrg,if_neg c1]at hr ⊢;by_cases c0:(nd s e.ae).aj=1\/(nd s e.ae).aj=2
  ·rw[if_pos c0]at hr ⊢;by_cases c2:¬(R (nd s e.ae).af (at_ l i).af).2=0
   ·rw[if_pos c2]at hr;exact absurd hr c2
   ·rw[if_neg c2]at hr ⊢;by_cases c3:(nd s e.ae).aj=1/\(nd s e.ae).bQ=false/\(R (nd s e.ae).af (at_ l i).af).1=[]
    ·rw[if_pos c3];exact⟨Cj (eraseIdx_sublist ..) hJ,λk hk=>⟨λhne=>RD hi (by rw[hni];exact hne),λc=>(hnk k hk c).elim⟩⟩
    ·rw[if_neg c3];have hjk:=hjx.2.2 (by rw[hni];exact c0);rw[hni]at hjk;obtain⟨r1,r2⟩:=hR _ hjk.2 (by simpa using c2);generalize (R (nd s e.ae).af (at_ l i).af).1=ks at r1 r2
     have hky:(nd s e.ae).aj=2->kyB (nd s e.ae) (.mk (at_ l i).ae (at_ l i).aq ks)=true/\kyL (nd s e.ae) (.mk (at_ l i).ae (at_ l i).aq ks)=kyL (nd s e.ae) (cv (nd s e.ae) e):=λh2=>by
      have:=zR hg h0 h2 (hk h2) r2 (x:=.mk (at_ l i).ae (at_ l i).aq ks) rfl;rw[xo λ_=>hk h2]at this;exact this
     have e2:(ah.mk (at_ l i).ae (at_ l i).aq ks).ae=e.ae:=hni
     have hj:jX s (.mk (at_ l i).ae (at_ l i).aq ks):=by
      refine⟨by rw[e2];exact h0,?_,λ_=>⟨hjk.1,by rw[e2];exact r1⟩⟩;rw[e2];by_cases h2:(nd s e.ae).aj=2
      ·exact(hky h2).1
      ·exact(gN h2).2
     have hsm:same s (.mk (at_ l i).ae (at_ l i).aq ks) (at_ l i):=by
      refine ny (sE (x:=cv (nd s e.ae) e) ⟨by rw[e2,jY,hn],λr=>?_⟩) hs;rw[jY,hn]at r ⊢
      have h2:(nd s e.ae).aj=2:=by
       simp only[gM,Bool.or_eq_true,decide_eq_true_eq]at r;have:=CP h0;rcases r with r|r
       ·exact r
       ·omega
      exact(hky h2).2.symm
     obtain⟨p1,p2⟩:=put (.mk (at_ l i).ae (at_ l i).aq ks) hni hj hsm;exact⟨p1,λk hk=>⟨p2 k hk,λc=>(hnk k hk c).elim⟩⟩
  ·rw[if_neg c0];exact⟨hJ,λk hk=>⟨λ_=>rfl,λc=>(hnk k hk c).elim⟩⟩
def QH{n:ag}(h:wrg n e=0):((n.aj=1\/n.aj=2)->e.aq=[])/\(¬(n.aj=1\/n.aj=2)->e.af=[])/\1<=e.fOp/\e.fOp<=5/\((n.aj=4\/n.aj=3/\¬(e.fOp=4\/e.fOp=5))->cvB n.fType e.aq=true):=by
 unfold wrg at h;split at h
 ·exact absurd h daa
 ·split at h
  ·exact absurd h daa
  ·split at h
   ·exact absurd h daa
   ·rename_i a b c;refine⟨λq=>?_,λq=>?_,Um,Um,λq=>?_⟩
    ·rcases Decidable.em (e.aq=[])with z|z
     ·exact z
     ·exact absurd (.inl ⟨q,z⟩) a
    ·rcases Decidable.em (e.af=[])with z|z
     ·exact z
     ·exact absurd (.inr ⟨q,z⟩) a
    ·cases z:cvB n.fType e.aq with
     | true=>rfl
     | false=>exact absurd ⟨q,z⟩ c
def Mw(hg:gdS s)(hJ:J s l)(hR:∀n∈dk s,ROk R n.af e.af)(hr:(one R s l e).2=0):J s (one R s l e).1/\Kp s [e] l (one R s l e).1:=by
 unfold one at hr ⊢;by_cases c1:idx (nmP e.ae) (dk s)<0
 ·rw[if_pos c1]at hr;exact absurd hr daa
 rw[if_neg c1]at hr ⊢;by_cases c2:¬wrg (nd s e.ae) e=0
 ·rw[if_pos c2]at hr;exact absurd hr c2
 rw[if_neg c2]at hr ⊢;by_cases c3:(nd s e.ae).aj=2/\ep (nd s e.ae) e.af=false
 ·rw[if_pos c3]at hr;exact absurd hr daa
 rw[if_neg c3]at hr ⊢;have h0:0<=idx (nmP e.ae) (dk s):=by omega
 have hk:(nd s e.ae).aj=2->ep (nd s e.ae) e.af=true:=λh2=>by
  cases z:ep (nd s e.ae) e.af with
  | true=>rfl
  | false=>exact absurd ⟨h2,z⟩ c3
 have hRn:=hR _ (gR h0).2
 have kp:∀l',(∀k,rN s k->(¬e.ae=k->F l' k=F l k)/\(e.ae=k->¬e.fOp=4->¬e.fOp=5->F l' k=some (cvS (nd s k).fType e.aq)))->Kp s [e] l l':=λl' h k hk=>⟨λq=>(h k hk).1 (q e Xp),λe0 q a b=>by
  rw[CO]at q;split at q
  ·rename_i z;injection q with q _
   subst q;exact(h k hk).2 z a b
  ·simp[kvF]at q⟩
 split at hr
 ·exact absurd hr daa
 ·rename_i c4;rw[if_neg c4];split at hr
  ·exact absurd hr daa
  ·rename_i c5;rw[if_neg c5];by_cases c6:e.fOp=5/\fnd (nd s e.ae) l (cv (nd s e.ae) e)<0
   ·rw[if_pos c6];exact⟨hJ,kp _ λk hk=>⟨λ_=>rfl,λ_ _ c=>absurd c6.1 c⟩⟩
   ·rw[if_neg c6]at hr ⊢;by_cases c7:e.fOp=1/\0<=fnd (nd s e.ae) l (cv (nd s e.ae) e)
    ·rw[if_pos c7]at hr ⊢;obtain⟨a,b⟩:=Da hg hJ h0 hk c7.2;have:=Vt hg hJ h0 hk a b hRn hr;exact⟨this.1,kp _ λk hk=>⟨(this.2 k hk).1,λq _ _=>(this.2 k hk).2 q⟩⟩
    ·rw[if_neg c7]at hr ⊢;have hJd:=Cj (BZ l (fnd (nd s e.ae) l (cv (nd s e.ae) e))) hJ;by_cases c8:e.fOp=4\/e.fOp=5
     ·rw[if_pos c8];exact⟨hJd,kp _ λk hk=>⟨λhne=>WW h0 hne,λ_ a b=>by omega⟩⟩
     ·rw[if_neg c8]at hr ⊢;have:=WE hg hJd h0 hk (fresh hg hJ h0 hk) hRn hr;exact⟨this.1,kp _ λk hk=>⟨λhne=>by rw[(this.2 k hk).1 hne,WW h0 hne],λq _ _=>(this.2 k hk).2 q⟩⟩
end
def F6:∀(es:List aI) (s:List ag) (l:List ah),gdS s->J s l->(mdE es s l).2=0->J s (mdE es s l).1/\Kp s es l (mdE es s l).1
 | [],s,l,_,hJ,_=>by rw[mdE];exact⟨hJ,WV s l⟩
 | .mk op nm v ks::es,s,l,hg,hJ,hr=>by
  rw[vv]at hr ⊢;by_cases c:¬(one (mdE (aI.mk op nm v ks).af) s l (.mk op nm v ks)).2=0
  ·rw[if_pos c]at hr;exact absurd hr c
  rw[if_neg c]at hr ⊢;have h1:=Mw (R:=mdE (aI.mk op nm v ks).af) (e:=.mk op nm v ks) hg hJ (λn hn l hl hz=>F6 ks n.af l (o4 hg hn).1 hl hz) (by simpa using c)
  have h2:=F6 es s _ hg h1.1 hr;exact⟨h2.1,T9 h1.2 h2.2⟩
def Pr(a:List Str):dR a a=false:=by have:=mQ a a;rw[beq_self_eq_true]at this;simp only[Bool.and_eq_true,Bool.not_eq_true']at this;exact this.1
def QC{s:List ag}{x y:ah}(h:dY (dk s) x y=true):¬same s x y:=by
 rintro⟨h1,h2⟩;unfold dY at h;rw[h1]at h;split at h
 ·rename_i c;rw[h1]at h2;rw[h2 c.2,Pr]at h;cases h
 ·simp at h
def E9:∀(l:List ah) (s:List ag),gdS s->(∀x∈l,okX (dk s) x)->l.Pairwise (λx y=>dY (dk s) x y=true)->J s l
 | [],s,_,_,_=>Ck
 | .mk nm v ks::xs,s,hg,h,hp=>by
  rw[Oq];have hp:=List.pairwise_cons.1 hp
  have hx:=h (.mk nm v ks) Xp;refine⟨⟨hx.1,uh hx.2,λc=>?_⟩,λy hy=>QC (hp.1 y hy),E9 xs s hg (λy hy=>h y (by simp[hy])) hp.2⟩;have c2:(at_ (dk s) (idx (nmP (ah.mk nm v ks).ae) (dk s)).toNat).aj=1\/(at_ (dk s) (idx (nmP (ah.mk nm v ks).ae) (dk s)).toNat).aj=2:=c
  have hk:=zM hx.2 Um
  have hs:=Jg.1 hk.2.1;exact⟨hk.1,E9 ks _ (o4 hg (ug hx).2).1 hs.1 hs.2⟩
def PJ{s:List ag}{l:List ah}(h:cW s l=true):J s l:=by simp only[cW,Bool.and_eq_true]at h;have:=Jg.1 h.2;exact E9 l s (ye h.1.1) this.1 this.2
def Fw{s:List ag}{x y:ah}(hx:0<=idx (nmP x.ae) (dk s))(e:idx (nmP x.ae) (dk s)=idx (nmP y.ae) (dk s)):x.ae=y.ae:=by
 have h1:=(gR hx).1
 have h2:=(gR (s:=s) (k:=y.ae) Um).1;rw[<- h1,<- h2];unfold nd;rw[e]
def WN{s:List ag}{x y:ah}(hx:0<=idx (nmP x.ae) (dk s))(hn:¬same s x y):dY (dk s) y x=!stP (dk s) x y:=by
 unfold dY stP;by_cases e:idx (nmP y.ae) (dk s)=idx (nmP x.ae) (dk s)
 ·have hne:=Fw hx e.symm;by_cases r:gM (at_ (dk s) (idx (nmP x.ae) (dk s)).toNat).aj=true
  ·have hk:¬kyL (nd s x.ae) x=kyL (nd s x.ae) y:=λc=>hn ⟨hne,λ_=>c⟩;rw[if_pos ⟨e,r⟩,jr,if_pos r,kD];have hz:¬cmpL (kyL (nd s x.ae) y) (kyL (nd s x.ae) x)=0:=λc=>hk ((uI _ _).1 c).symm;rw[show decide (idx (nmP x.ae) (dk s)<idx (nmP y.ae) (dk s))=false by simp;omega,show decide (idx (nmP y.ae) (dk s)=idx (nmP x.ae) (dk s))=true by simpa using e,Bool.false_or,Bool.true_and,Bool.eq_iff_iff,decide_eq_true_eq,Bool.not_eq_true',decide_eq_false_iff_not];show cmpL (kyL (nd s x.ae) y) (kyL (nd s x.ae) x)<0↔¬0<cmpL (kyL (nd s x.ae) y) (kyL (nd s x.ae) x);omega
  ·exact absurd ⟨hne,λc=>absurd c r⟩ hn
 ·rw[if_neg (λc=>e c.1),show decide (idx (nmP y.ae) (dk s)=idx (nmP x.ae) (dk s))=false by simpa using e,Bool.false_and,Bool.or_false,Bool.eq_iff_iff,decide_eq_true_eq,Bool.not_eq_true',decide_eq_false_iff_not];omega
def QD{s:List ag}{x y:ah}(hx:0<=idx (nmP x.ae) (dk s))(hn:¬same s x y)(h:dY (dk s) y x=false):dY (dk s) x y=true:=by
 unfold dY at h ⊢;by_cases e:idx (nmP y.ae) (dk s)=idx (nmP x.ae) (dk s)
 ·have hne:=Fw hx e.symm;rw[<- hne]at h ⊢;by_cases r:gM (at_ (dk s) (idx (nmP x.ae) (dk s)).toNat).aj=true
  ·rw[if_pos ⟨rfl,r⟩]at h ⊢;have:=mQ (kyL (nd s x.ae) x) (kyL (nd s x.ae) y)
   have hk:¬kyL (nd s x.ae) x=kyL (nd s x.ae) y:=λc=>hn ⟨hne,λ_=>c⟩;rw[show (kyL (nd s x.ae) x == kyL (nd s x.ae) y)=false by simpa using hk,show dR (kyL (nd s x.ae) y) (kyL (nd s x.ae) x)=false from h]at this;simpa using this
  ·exact absurd ⟨hne,λc=>absurd c r⟩ hn
 ·rw[if_neg (λc=>e c.1)]at h;rw[if_neg (λc=>e c.1.symm)];simp only[decide_eq_false_iff_not]at h;simp only[decide_eq_true_eq];omega
section
variable {s : List ag} {x y : ah} {a b l : List ah}
end
open Go.Ab
def wO{α:Type}{f:α->Int->Int}{l:List α}{r:Int}(h:0<=aJ f l r):(l.length:Int)<=r:=by
 rcases Int.lt_or_le (r - l.length) 0 with h4|h4
 ·rw[gf h4]at h;omega
 ·omega
def bT{a:Int}{k:Int->Int}(h:0<=a):thn a k=k a:=by unfold thn;rw[if_neg Um]
def vo{α:Type}{f:α->Int->α×Int}{s:α->Int->Int}(hs:∀x r,0<=r->s x r<=r)(l:List α)(hf:∀x∈l,∀k r,0<=r->0<=s x r->(f x k).2<=k+32+32 * (r - s x r))(k r:Int)(h0:0<=r)(h:0<=aJ s l r):(mkL f l k).2<=k+32 * (r - aJ s l r):=by
 have key:∀(l:List α),(∀x∈l,∀k r,0<=r->0<=s x r->(f x k).2<=k+32+32 * (r - s x r))->∀(k r:Int),0<=r->0<=eS s l r->(mkL f l k).2<=k+32 * l.length+32 * (r - eS s l r):=by
  intro l
  induction l with
  | nil=>intro _ k r h0 _;simp[mkL,eS]
  | cons x xs ih =>
   intro hf k r h0 h;rw[eS]at h ⊢;obtain⟨a0,h⟩:=aK h;rw[bT a0];have h1:=hf x Xp k r h0 a0
   have h2:=ih (λy hy=>hf y (by simp[hy])) (f x k).2 (s x r) a0 h;simp only[mkL,length_cons];omega
 have h4:=wO h;rw[gF Um]at h ⊢;have:=key l hf k (r - l.length) Um h;omega
def fZ{α:Type}{f:α->Int->α×Int}{s:α->Int->Int}(hs:∀x r,0<=r->s x r<=r)(hf:∀x k r,0<=r->0<=s x r->(f x k).2<=k+32+32 * (r - s x r))(l:List α)(k r:Int)(h0:0<=r)(h:0<=aJ s l r):(mkL f l k).2<=k+32 * (r - aJ s l r) :=
 vo hs l (λx _=>hf x) k r h0 h
def oT(x:Str)(k r:Int)(h0:0<=r)(h:0<=aC x r):(aA x k).2<=k+32+32 * (r - aC x r):=by have:=aQ x r h0;unfold aA;simp only;omega
def H2(x:dV)(k r:Int)(h0:0<=r)(h:0<=gB x r):(bq x k).2<=k+32+32 * (r - gB x r):=by simp only[bq];unfold gB;omega
def BL(x:dq)(k:Int):Int:=(mkL aA x.aB ((mkL bq x.ay (k+1)).2)).2+1+1
def BK(x:dq)(k r:Int)(h0:0<=r)(h:0<=ed x r):BL x k<=k+3+32 * (r - ed x r):=by unfold BL;unfold ed at h ⊢;obtain⟨a0,h⟩:=aK h;rw[bT a0];have q0:=fZ oQ H2 x.ay (k+1) r h0 a0;obtain⟨a1,h⟩:=aK h;rw[bT a1];have q1:=fZ aQ oT x.aB ((mkL bq x.ay (k+1)).2) (aJ gB x.ay r) a0 a1;obtain⟨a2,h⟩:=aK h;rw[bT a2];have q2:=aQ x.aY (aJ aC x.aB (aJ gB x.ay r)) a1;obtain⟨a3,h⟩:=aK h;rw[bT a3];have q3:=aQ x.aF (aC x.aY (aJ aC x.aB (aJ gB x.ay r))) a2;simp only[id];omega
def adS(x:dq)(k:Int):Unit×Int:=((),(mkL aA x.aB ((mkL bq x.ay k).2)).2)
def Kg(x:fH)(k r:Int)(h0:0<=r)(h:0<=jH x r):(jJ x k).2<=k+32+32 * (r - jH x r):=by simp only[jJ];unfold jH at h ⊢;obtain⟨a0,h⟩:=aK h;rw[bT a0];have q0:=aQ x.ae r h0;obtain⟨a1,h⟩:=aK h;rw[bT a1];have q1:=aQ x.aq (aC x.ae r) a0;simp only[id];omega
def Kh(x:GStep)(k r:Int)(h0:0<=r)(h:0<=jI x r):(gp x k).2<=k+32+32 * (r - jI x r):=by simp only[gp];unfold jI at h ⊢;obtain⟨a0,h⟩:=aK h;rw[bT a0];have q0:=aQ x.ae r h0;obtain⟨a1,h⟩:=aK h;rw[bT a1];have q1:=fZ oy Kg x.cK (k+1) (aC x.ae r) a0 a1;simp only[id];omega
def GF(x:fS)(k:Int):Int:=(mkL gp x.aW (k+1+1)).2
def KO(x:fS)(k r:Int)(h0:0<=r)(h:0<=kU x r):GF x k<=k+2+32 * (r - kU x r):=by unfold GF;unfold kU at h ⊢;obtain⟨a0,h⟩:=aK h;rw[bT a0];have q0:=fZ oz Kh x.aW (k+1+1) r h0 a0;simp only[id];omega
def adT(x:fS)(k:Int):Unit×Int:=((),(mkL gp x.aW k).2)
def u4(x:aZ)(k r:Int)(h0:0<=r)(h:0<=cY x r):(db x k).2<=k+32+32 * (r - cY x r):=by rw[sB];simp only;rw[wQ]at h ⊢;obtain⟨a0,h⟩:=aK h;rw[bT a0];have q0:=aQ x.cS r h0;obtain⟨a1,h⟩:=aK h;rw[bT a1];have q1:=KO x.aF (k+1+1+1) (aC x.cS r) a0 a1;simp only[GF]at q1;obtain⟨a2,h⟩:=aK h;rw[bT a2];have q2:=vo fT x.af (λy hy=>u4 y) ((mkL gp x.aF.aW (k+1+1+1+1+1)).2) (kU x.aF (aC x.cS r)) a1 a2;simp only[id];omega
termination_by SizeOf.sizeOf x
decreasing_by have:=sizeOf_lt_of_mem hy;cases x;simp[aZ.af]at *;omega
def wV(x:ag)(k r:Int)(h0:0<=r)(h:0<=ck x r):(bB x k).2<=k+32+32 * (r - ck x r):=by rw[pS];simp only;rw[tz]at h ⊢;obtain⟨a0,h⟩:=aK h;rw[bT a0];have q0:=aQ x.ae r h0;obtain⟨a1,h⟩:=aK h;rw[bT a1];have q1:=BK x.fType (k+1+1) (aC x.ae r) a0 a1;simp only[BL]at q1;obtain⟨a2,h⟩:=aK h;rw[bT a2];have q2:=fZ aQ oT x.ax ((mkL aA x.fType.aB ((mkL bq x.fType.ay (k+1+1+1)).2)).2+1+1) (ed x.fType (aC x.ae r)) a1 a2;obtain⟨a3,h⟩:=aK h;rw[bT a3];have q3:=fZ aQ oT x.aH ((mkL aA x.ax ((mkL aA x.fType.aB ((mkL bq x.fType.ay (k+1+1+1)).2)).2+1+1)).2) (aJ aC x.ax (ed x.fType (aC x.ae r))) a2 a3;obtain⟨a4,h⟩:=aK h;rw[bT a4];have q4:=aQ x.bw (aJ aC x.aH (aJ aC x.ax (ed x.fType (aC x.ae r)))) a3;obtain⟨a5,h⟩:=aK h;rw[bT a5];have q5:=fZ fT u4 x.bP ((mkL aA x.aH ((mkL aA x.ax ((mkL aA x.fType.aB ((mkL bq x.fType.ay (k+1+1+1)).2)).2+1+1)).2)).2+1+1+1+1+1+1+1) (aC x.bw (aJ aC x.aH (aJ aC x.ax (ed x.fType (aC x.ae r))))) a4 a5;obtain⟨a6,h⟩:=aK h;rw[bT a6];have q6:=fZ fT u4 x.cE ((mkL db x.bP ((mkL aA x.aH ((mkL aA x.ax ((mkL aA x.fType.aB ((mkL bq x.fType.ay (k+1+1+1)).2)).2+1+1)).2)).2+1+1+1+1+1+1+1)).2) (aJ cY x.bP (aC x.bw (aJ aC x.aH (aJ aC x.ax (ed x.fType (aC x.ae r)))))) a5 a6;obtain⟨a7,h⟩:=aK h;rw[bT a7];have q7:=vo gQ x.af (λy hy=>wV y) ((mkL db x.cE ((mkL db x.bP ((mkL aA x.aH ((mkL aA x.ax ((mkL aA x.fType.aB ((mkL bq x.fType.ay (k+1+1+1)).2)).2+1+1)).2)).2+1+1+1+1+1+1+1)).2)).2) (aJ cY x.cE (aJ cY x.bP (aC x.bw (aJ aC x.aH (aJ aC x.ax (ed x.fType (aC x.ae r))))))) a6 a7;simp only[id];omega
termination_by SizeOf.sizeOf x
decreasing_by have:=sizeOf_lt_of_mem hy;cases x;simp[ag.af]at *;omega
def l8(x:ah)(k r:Int)(h0:0<=r)(h:0<=bF x r):(aM x k).2<=k+32+32 * (r - bF x r):=by rw[oC];simp only;rw[wP]at h ⊢;obtain⟨a0,h⟩:=aK h;rw[bT a0];have q0:=aQ x.ae r h0;obtain⟨a1,h⟩:=aK h;rw[bT a1];have q1:=aQ x.aq (aC x.ae r) a0;obtain⟨a2,h⟩:=aK h;rw[bT a2];have q2:=vo cy x.af (λy hy=>l8 y) (k+1+1) (aC x.aq (aC x.ae r)) a1 a2;simp only[id];omega
termination_by SizeOf.sizeOf x
decreasing_by have:=sizeOf_lt_of_mem hy;cases x;simp[ah.af]at *;omega
def acU(x:List aI)(k:Int):List aI×Int:=mkL oU x k
open Go Go.Ab
def jv(x:ah)(l:List ah):wt (x::l)=1+x.ae.length+x.aq.length+wt x.af+wt l:=by cases x;simp only[wt,wtg,length_cons,ah.ae,ah.aq,ah.af];omega
def lL:wt []=0:=by simp[wt,wtg]
def yK(a b:List ah)(x:ah):cnt (a++x::b)=1+cnt x.af+cnt (a++b):=by rw[uH,iQ,uH];omega
def JQ(l:List ah)(i:Nat):cnt (l.eraseIdx i)<=cnt l:=by
 rw[uG,uH];have h1:cnt l=cnt (l.take i)+cnt (l.drop i):=by rw[<- uH,take_append_drop]
 have h2:cnt (l.drop (i+1))<=cnt (l.drop i):=by
  by_cases h:i<l.length
  ·rw[bA h,iQ];omega
  ·rw[cT h,drop_eq_nil_of_le Um];omega
 omega
def WG(l:List ah)(i:Int):cnt (dl l i)<=cnt l:=by
 unfold dl;split
 ·exact JQ l _
 ·omega
def B6(p:ah->Bool):∀l:List ah,cnt (l.filter p)<=cnt l
 | []=>by simp
 | x::xs=>by
  have:=B6 p xs;rw[filter_cons];split
  ·rw[iQ,iQ];omega
  ·rw[iQ];omega
def JP(s:List ag)(l:List ah)(x:ah):cnt (ins s l x)=1+cnt x.af+cnt l:=by rw[ins,yK,take_append_drop]
def JN{l:List ah}{i:Nat}{y:ah}(h:i<l.length):cnt (l.set i y)+cnt (at_ l i).af=cnt l+cnt y.af:=by
 rw[tX h,yK]
 have:cnt l=1+cnt (at_ l i).af+cnt (l.take i++l.drop (i+1)):=by
  conv=>lhs;rw[o7 h]
  rw[yK]
 omega
def IL{l:List ah}{i:Nat}{y:ah}(h:¬i<l.length):l.set i y=l:=by rw[set_eq_of_length_le Um]
def WS{l:List ah}{i:Nat}(h:¬i<l.length):at_ l i=default:=by unfold at_;rw[getElem?_eq_none Um];rfl
def CB{R:Rec}{c:Nat}(hR:∀s l,cnt (R s l).1<=cnt l+c)(s:List ag)(l:List ah)(e:aI):cnt (one R s l e).1<=cnt l+(1+c):=by
 have hc:∀l',cnt l'<=cnt l->∀n,cnt (crt R s l' n e).1<=cnt l+(1+c):=λl' h n=>by
  have h1:=hR n.af []
  have h2:cnt (wo s n.ae l')<=cnt l':=B6 _ _;rw[j5]at h1;unfold crt;repeat' split
  ·rw[JP];simp only[ah.af,j5];omega
  ·rw[j5];omega
  ·simp only;omega
  ·rw[JP];simp only[ah.af];omega
 have hm:∀i n,cnt (mrg R l i n e).1<=cnt l+(1+c):=λi n=>by
  have h1:=hR n.af (at_ l i).af;unfold mrg;repeat' split
  ·by_cases h:i<l.length
   ·have:=JN (y:=.mk (at_ l i).ae (cvS n.fType e.aq) (at_ l i).af) h;simp only[ah.af]at this ⊢;omega
   ·simp only[IL h];omega
  ·rw[j5];omega
  ·have:=JQ l i;simp only;omega
  ·by_cases h:i<l.length
   ·have:=JN (y:=.mk (at_ l i).ae (at_ l i).aq (R n.af (at_ l i).af).1) h;simp only[ah.af]at this h1 ⊢;omega
   ·simp only[IL h];omega
  ·simp only;omega
 have hd:=WG l (fnd (nd s e.ae) l (cv (nd s e.ae) e));unfold one;repeat' split
 all_goals first|(rw[j5];omega)|(simp only;omega)|exact hm _ _|exact hc _ hd _
def um:∀(es:List aI) (s:List ag) (l:List ah),cnt (mdE es s l).1<=cnt l+fC es
 | [],s,l=>by rw[mdE];simp only[HB];omega
 | .mk op nm v ks::es,s,l=>by
  rw[vv];split
  ·rw[j5];omega
  ·have h1:=CB (R:=mdE ks) (c:=fC ks) (λs l=>um ks s l) s l (.mk op nm v ks)
   have h2:=um es s (one (mdE ks) s l (.mk op nm v ks)).1;rw[qe];simp only[aI.af]at *;omega
def sv:List ah->Prop
 | []=>True
 | .mk nm v ks::xs=>nm.length<=16/\v.length<=40/\sv ks/\sv xs
def svX(x:ah):Prop:=x.ae.length<=16/\x.aq.length<=40/\sv x.af
def wS:∀ {l:List ah},sv l↔∀x∈l,svX x
 | []=>by simp[sv]
 | .mk nm v ks::xs=>by
  rw[sv,wS (l:=xs)];constructor
  ·rintro⟨a,b,c,d⟩ x hx;rcases List.mem_cons.1 hx with rfl|hx
   ·exact⟨a,b,c⟩
   ·exact d x hx
  ·intro h;have:=h (.mk nm v ks) Xp;exact⟨this.1,this.2.1,this.2.2,λx hx=>h x (by simp[hx])⟩
def Kf:∀ {l:List ah},sv l->wt l<=57 * cnt l
 | [],_=>by rw[lL];omega
 | .mk nm v ks::xs,h=>by
  rw[sv]at h;have h1:=Kf h.2.2.1
  have h2:=Kf h.2.2.2;rw[jv,iQ];simp only[ah.ae,ah.aq,ah.af];omega
def zO{s:Str}(h:isName s=true):s.length<=16:=by simp only[isName,Bool.and_eq_true,decide_eq_true_eq]at h;exact h.2.1.2
def zB{s:Str}(h:isText s=true):s.length<=40:=by simp only[isText,Bool.and_eq_true,decide_eq_true_eq]at h;exact h.2
def xT{p:Nat->Bool}:∀ {n j:Nat},cg p n=true->j<n->p j=true
 | n+1,j,h,hj=>by
  rw[cg,Bool.and_eq_true]at h;by_cases e:j=n
  ·subst e;first|exact h.2|exact h.1
  ·first|exact xT h.1 Um|exact xT h.2 Um
def MJ{l:List Str}(h:names l=true){s:Str}(hs:s∈l):isName s=true:=by obtain⟨i,hi,rfl⟩:=getElem_of_mem hs;have:=xT h hi;rw[show at_ l i=l[i] by unfold at_;rw[getElem?_eq_getElem hi];rfl]at this;exact this
def rp(t:dq)(s:Str):(cvS t s).length<=40:=by
 unfold cvS
 cases h:cvB t s with
 | false=>simp
 | true =>
  rw[cond_true,cvT];simp only[cvB,Bool.and_eq_true]at h;obtain⟨hT,hO⟩:=h;unfold cvO at hO;split
  ·have:=yg s
   have:=Lib.itoa_length_le (jk s) Um Um;omega
  ·rename_i h1;rw[if_neg h1]at hO;split
   ·rename_i h3;rw[if_neg Um,if_pos h3,Bool.or_eq_true,beq_iff_eq,beq_iff_eq]at hO;rcases hO with e|e<;>rw[e]<;>decide
   ·rename_i h3;split at hO
    ·simp only[Bool.and_eq_true]at hO;exact zB hO.1.1
    ·skip
     split at hO
     ·rename_i h4;rw[sP h4]at hT;simp only[Bool.and_eq_true]at hT;have:=zO (MJ hT.1.1.1.1.2 ((iP _ _).1 hO));omega
     ·split at hO
      ·simp only[Bool.and_eq_true]at hO;exact zB hO.2
      ·split at hO
       ·rw[of_decide_eq_true hO];simp
       ·cases hO
def RI{t:dq}{s:Str}(h:isVal t s=true):s.length<=40:=by simp only[isVal,Bool.and_eq_true,beq_iff_eq]at h;rw[<- h.2];exact rp t s
def JJ{s:List ag}(h:gdS s){n:ag}(hn:n∈dk s):n.ae.length<=16:=by
 obtain⟨_,kind,bd,hA⟩:=h;obtain⟨⟨kd,b,ho⟩,_⟩:=yq s kind bd hA n hn;simp only[jD,lX,nV,Bool.and_eq_true]at ho;refine zO ?_
 first|exact ho.1.1.1.1.1.1.1.1|exact ho.1.1.1.1.1.1.1|exact ho.1.1.1.1.1.1.1.1.1|exact ho.1.1.1.1.1.1
def LN{s:List ag}{l:List ah}{x:ah}(h:sv l)(hx:svX x):sv (ins s l x):=by
 rw[wS]at h ⊢;intro y hy;rw[ins,mem_append,mem_cons]at hy;rcases hy with hy|rfl|hy
 ·exact h y (mem_of_mem_take hy)
 ·exact hx
 ·exact h y (mem_of_mem_drop hy)
def Fg{l l':List ah}(h:l'.Sublist l)(hl:sv l):sv l':=by rw[wS]at hl ⊢;exact λx hx=>hl x (h.subset hx)
def LM{l:List ah}{i:Nat}{y:ah}(h:sv l)(hy:svX y):sv (l.set i y):=by
 rw[wS]at h ⊢;intro x hx;rcases mem_or_eq_of_mem_set hx with hx|rfl
 ·exact h x hx
 ·exact hy
def X9{l:List ah}(h:sv l)(i:Nat):svX (at_ l i):=by
 by_cases hi:i<l.length
 ·exact wS.1 h _ (at_mem hi)
 ·rw[WS hi];exact⟨daa,daa,by show sv [];rw[sv];trivial⟩
def Vn{R:Rec}{s:List ag}{l:List ah}{e:aI}(hg:gdS s)(hl:sv l)(hR:∀n∈dk s,∀l,sv l->sv (R n.af l).1):sv (one R s l e).1:=by
 have hnil:sv []:=by rw[sv];trivial
 unfold one;by_cases c:idx (nmP e.ae) (dk s)<0
 ·rw[if_pos c];exact hnil
 rw[if_neg c];have hn:=(gR (s:=s) (k:=e.ae) Um).2
 have hd:=Fg (BZ l (fnd (nd s e.ae) l (cv (nd s e.ae) e))) hl
 have hnm:=JJ hg hn
 have hc:∀l',sv l'->sv (crt R s l' (nd s e.ae) e).1:=λl' h=>by
  have hw:=Fg (rv s (nd s e.ae).ae l') h
  have hr:=hR _ hn [] hnil;unfold crt;repeat' split
  ·exact LN hw ⟨hnm,rp _ _,hnil⟩
  ·exact hnil
  ·exact h
  ·exact LN hw ⟨hnm,by simp[ah.aq],hr⟩
 have hm:∀i,sv (mrg R l i (nd s e.ae) e).1:=λi=>by
  have ha:=X9 hl i
  have hr:=hR _ hn _ ha.2.2;unfold mrg;repeat' split
  ·exact LM hl ⟨ha.1,rp _ _,ha.2.2⟩
  ·exact hnil
  ·exact Fg (eraseIdx_sublist ..) hl
  ·exact LM hl ⟨ha.1,ha.2.1,hr⟩
  ·exact hl
 repeat' split
 all_goals first|exact hnil|exact hl|exact hd|exact hm _|exact hc _ hd
def F5:∀(es:List aI) (s:List ag) (l:List ah),gdS s->sv l->sv (mdE es s l).1
 | [],s,l,_,h=>by rw[mdE];exact h
 | .mk op nm v ks::es,s,l,hg,h=>by
  rw[vv];split
  ·rw[sv];trivial
  ·exact F5 es s _ hg (Vn (R:=mdE ks) hg h λn hn l hl=>F5 ks n.af l (o4 hg hn).1 hl)
def Cp:∀(l:List ah) (s:List ag),gdS s->(∀x∈l,okX (dk s) x)->sv l
 | [],s,_,_=>by rw[sv];trivial
 | .mk nm v ks::xs,s,hg,h=>by
  have hx:=h (.mk nm v ks) Xp
  have hm:=ug hx
  have h1:=JJ hg hm.2;rw[hm.1]at h1;have h2:=Cp xs s hg λy hy=>h y (by simp[hy]);rw[sv];by_cases c:(at_ (dk s) (idx (nmP (ah.mk nm v ks).ae) (dk s)).toNat).aj=3\/(at_ (dk s) (idx (nmP (ah.mk nm v ks).ae) (dk s)).toNat).aj=4
  ·have h3:=FR hx.2 c
   have h4:=hx.2;rw[okN,if_pos c,Bool.and_eq_true]at h4;have h3':ks=[]:=h3;subst h3';exact⟨h1,RI h4.2,by rw[sv];trivial,h2⟩
  ·have h3:=zM hx.2 c
   have h4:v=[]:=h3.1;subst h4;exact⟨h1,Xp,Cp ks _ (o4 hg hm.2).1 (ui h3.2.1),h2⟩
def sQ{s:List ag}{l:List ah}(h:cW s l=true):sv l/\cnt l<=120:=by simp only[cW,Bool.and_eq_true,decide_eq_true_eq]at h;exact⟨Cp l s (ye h.1.1) (ui h.2),h.1.2⟩
def CG{s:List ag}{l:List ah}(es:List aI)(h:cW s l=true):cnt (mdE es s l).1<=120+fC es/\(cnt (mdE es s l).1<=120->wt (mdE es s l).1<=6840):=by
 have h1:=sQ h
 have h2:=um es s l;refine⟨Um,λc=>?_⟩;have h3:=h;simp only[cW,Bool.and_eq_true]at h3;have:=Kf (F5 es s l (ye h3.1.1) h1.1);omega
def MN(s:List ag)(l:List ah)(es:List aI):wt (mdT s l es).1<=wt l+6840/\((mdT s l es).2=0->cW s (mdT s l es).1=true/\wt (mdT s l es).1<=6840):=by
 unfold mdT;by_cases c1:cW s l=false
 ·rw[if_pos c1];exact⟨by simp only;omega,λh=>by simp at h⟩
 rw[if_neg c1];by_cases c2:¬(mdE es s l).2=0
 ·rw[if_pos c2];exact⟨by simp only;omega,λh=>absurd h c2⟩
 rw[if_neg c2];by_cases c3:cW s (mdE es s l).1=false
 ·rw[if_pos c3];exact⟨by simp only;omega,λh=>by simp at h⟩
 rw[if_neg c3];have h3:cW s (mdE es s l).1=true:=by simpa using c3
 have h4:=(CG es (by simpa using c1:cW s l=true)).2 (sQ h3).2;exact⟨by simp only;omega,λ_=>⟨h3,h4⟩⟩
def mxE:List aI->Nat
 | []=>0
 | .mk _ n v ks::xs=>max (max n.length v.length) (max (mxE ks) (mxE xs))
def SC:mxE []=0:=by rw[mxE]
def FX(x:aI)(l:List aI):mxE (x::l)=max (max x.ae.length x.aq.length) (max (mxE x.af) (mxE l)):=by cases x;rw[mxE];rfl
def wtE(l:List aI):Nat:=max (fC l) (mxE l)
def v7(l:List aI):fC l<=wtE l:=Nat.le_max_left _ _
def yd{l:List aI}{x:aI}(h:x∈l):x.ae.length<=wtE l/\x.aq.length<=wtE l/\wtE x.af<=wtE l:=by
 induction l with
 | nil=>simp at h
 | cons y l ih =>
  simp only[wtE,FX,qe]at *;rcases List.mem_cons.1 h with rfl|h
  ·omega
  ·have:=ih h;omega
def yz{l:List ag}{x:ag}(h:x∈l):SizeOf.sizeOf x.af<SizeOf.sizeOf l:=by have:=sizeOf_lt_of_mem h;cases x;simp[ag.af]at *;omega
def mZ(x:ag)(xs:List ag):bR (x::xs)=1+bR x.af+bR xs:=by cases x;rw[bR];rfl
def rq{l:List ag}{x:ag}(h:x∈l):1+bR x.af<=bR l:=by
 induction l with
 | nil=>simp at h
 | cons y l ih =>
  rw[mZ];rcases List.mem_cons.1 h with rfl|h
  ·omega
  ·have:=ih h;omega
def xK:∀(l:List ag),(dk l).length<=bR l
 | []=>by simp[dk]
 | .mk k a b c d e f g h i j l m n ks::xs=>by
  have h1:=xK ks
  have h2:=xK xs;rw[dk,bR,length_append];split
  ·rw[length_singleton];omega
  ·split
   ·omega
   ·simp only[length_nil];omega
def xe(all:List ag)(i j:Nat):l9 all i (j+1)=l9 all i j++(if j=i then [] else nmS (dk (at_ all j).af)):=by rw[l9,range_succ,flatMap_append];simp[l9]
def JR:∀(all:List ag) (j:Nat),j<all.length->bR (all.take j)+1+bR (at_ all j).af=bR (all.take (j+1))
 | x::xs,0,_=>by rw[take_zero,take_succ_cons,take_zero,mZ];simp[bR,at_]
 | x::xs,j+1,h=>by
  have:=JR xs j (by simpa using h);rw[take_succ_cons,take_succ_cons,mZ,mZ,yS];omega
def Au:∀(all:List ag) (j:Nat),bR (all.take j)<=bR all
 | [],j=>by simp
 | x::xs,0=>by simp[bR]
 | x::xs,j+1=>by rw[take_succ_cons,mZ,mZ];have:=Au xs j;omega
def yj(all:List ag)(i:Nat):∀(j:Nat),j<=all.length->(l9 all i j).length+(if i<j then bR (at_ all i).af else 0)<=bR (all.take j)
 | 0,_=>by simp[l9]
 | j+1,h=>by
  have h1:=yj all i j Um
  have h2:=JR all j Um
  have h3:=xK (at_ all j).af;rw[xe,length_append];by_cases e:j=i
  ·subst e;rw[if_neg Um]at h1;rw[if_pos rfl,if_pos Um];simp only[length_nil];omega
  ·rw[if_neg e,nmS,length_map];by_cases c:i<j
   ·rw[if_pos c]at h1;rw[if_pos Um];omega
   ·rw[if_neg c]at h1;rw[if_neg Um];omega
theorem TI{α:Type}[Inhabited α]{l xs:List α}{i:Nat}{x:α}(h:l.drop i=x::xs):i<l.length/\at_ l i=x/\l.drop (i+1)=xs:=by
 have hi:i<l.length:=by
  rcases Nat.lt_or_ge i l.length with c|c
  ·exact c
  ·rw[drop_eq_nil_of_le c]at h;cases h
 rw[bA hi]at h;injection h with a b
 exact⟨hi,a,b⟩
mutual
def qW:∀(s:List ag) (nm:Str) (o:List Str),oth s nm=some o->o.length<=bR s
 | [],_,_,h=>by simp[oth]at h
 | .mk kd a b c d e f g h i j l m n ks::xs,nm,o,ho=>by
  rw[oth]at ho;rw[bR];split at ho
  ·injection ho with ho;subst ho;simp
  ·split at ho
   ·cases hC:lF ks 0 ks nm with
    | some o2 =>
     rw[hC]at ho;injection ho with ho;subst ho
     have:=FN ks 0 ks nm o2 rfl hC;omega
    | none=>rw[hC]at ho;have:=qW xs nm o ho;omega
   ·have:=qW xs nm o ho;omega
def FN:∀(all:List ag) (i:Nat) (xs:List ag) (nm:Str) (o:List Str),all.drop i=xs->lF all i xs nm=some o->o.length<=bR all
 | _,_,[],_,_,_,h=>by simp[lF]at h
 | all,i,.mk kd a b c d e f g h i' j l m n ks::xs,nm,o,hx,ho=>by
  obtain⟨h1,h2,h3⟩:=TI hx;rw[lF]at ho
  cases hC:oth ks nm with
  | some o2 =>
   rw[hC]at ho;injection ho with ho;subst ho
   have h4:=qW ks nm o2 hC
   have h5:=yj all i all.length (Nat.le_refl _);rw[take_length,if_pos h1,h2]at h5;rw[length_append];simp only[ag.af]at h5;omega
  | none =>
   rw[hC]at ho;exact FN all (i+1) xs nm o h3 ho
end
def FM(s:List ag)(nm:Str):(jq s nm).length<=bR s:=by
 unfold jq
 cases h:oth s nm with
 | none=>simp
 | some o=>exact qW s nm o h
section
variable {R : Rec} {s : List ag} {l : List ah} {e : aI}
def Mx(h:idx (nmP e.ae) (dk s)<0):one R s l e=([],2):=by rw[one,if_pos h]
def Mv(h1:¬idx (nmP e.ae) (dk s)<0)(h2:¬wrg (nd s e.ae) e=0):one R s l e=([],wrg (nd s e.ae) e):=by rw[one,if_neg h1,if_pos h2]
def MA(h1:¬idx (nmP e.ae) (dk s)<0)(h2:wrg (nd s e.ae) e=0)(h3:(nd s e.ae).aj=2/\ep (nd s e.ae) e.af=false):one R s l e=([],4):=by rw[one,if_neg h1,if_neg (λc=>c h2),if_pos h3]
section
variable (h1 : ¬idx (nmP e.ae) (dk s) < 0) (h2 : wrg (nd s e.ae) e = 0) (h3 : ¬((nd s e.ae).aj = 2 /\ ep (nd s e.ae) e.af = false)) {k : Nat}
include h1 h2 h3
theorem MC(hf:fnd (nd s e.ae) l (cv (nd s e.ae) e)=k)(ho:e.fOp=3):one R s l e=([],5):=by rw[one,if_neg h1,if_neg (λc=>c h2),if_neg h3,if_pos Um]
theorem MD(hf:fnd (nd s e.ae) l (cv (nd s e.ae) e)=k)(ho:e.fOp=1):one R s l e=mrg R l k (nd s e.ae) e:=by rw[one,if_neg h1,if_neg (λc=>c h2),if_neg h3,if_neg Um,if_neg Um,if_neg Um,if_pos Um,hf];rfl
theorem Ss(hf:fnd (nd s e.ae) l (cv (nd s e.ae) e)=k)(ho:e.fOp=4\/e.fOp=5):one R s l e=(l.eraseIdx k,0):=by rw[one,if_neg h1,if_neg (λc=>c h2),if_neg h3,if_neg Um,if_neg Um,if_neg Um,if_neg Um,if_pos ho,dl,if_pos Um,hf];rfl
theorem Vp(hf:fnd (nd s e.ae) l (cv (nd s e.ae) e)=k)(ho:e.fOp=2):one R s l e=crt R s (l.eraseIdx k) (nd s e.ae) e:=by rw[one,if_neg h1,if_neg (λc=>c h2),if_neg h3,if_neg Um,if_neg Um,if_neg Um,if_neg Um,if_neg Um,dl,if_pos Um,hf];rfl
theorem Mz(hf:fnd (nd s e.ae) l (cv (nd s e.ae) e)<0)(ho:e.fOp=4):one R s l e=([],6):=by rw[one,if_neg h1,if_neg (λc=>c h2),if_neg h3,if_neg Um,if_pos Um]
theorem My(hf:fnd (nd s e.ae) l (cv (nd s e.ae) e)<0)(ho:e.fOp=5):one R s l e=(l,0):=by rw[one,if_neg h1,if_neg (λc=>c h2),if_neg h3,if_neg Um,if_neg Um,if_pos Um]
theorem Q2(hf:fnd (nd s e.ae) l (cv (nd s e.ae) e)<0)(h4:¬e.fOp=4)(h5:¬e.fOp=5):one R s l e=crt R s l (nd s e.ae) e:=by rw[one,if_neg h1,if_neg (λc=>c h2),if_neg h3,if_neg Um,if_neg Um,if_neg Um,if_neg Um,if_neg Um,dl,if_neg Um]
end
end
def Gp(l:List aI):l.length<=fC l:=by
 induction l with
 | nil=>simp
 | cons x xs ih=>rw[qe,length_cons];omega
def F7{es:List aI}{s:List ag}{l:List ah}{k:Nat}(h:k<es.length):mdE (es.drop k) s l=if ¬(one (mdE (at_ es k).af) s l (at_ es k)).2=0 then ([],(one (mdE (at_ es k).af) s l (at_ es k)).2) else mdE (es.drop (k+1)) s (one (mdE (at_ es k).af) s l (at_ es k)).1:=by rw[bA h,vv]
def Eg{es:List aI}{k:Nat}(h:k<es.length):fC (es.drop k)=1+fC (at_ es k).af+fC (es.drop (k+1)):=by rw[bA h,qe]
def JB{l:List aI}{x:aI}(h:x∈l):SizeOf.sizeOf x.af<SizeOf.sizeOf l:=by have:=sizeOf_lt_of_mem h;cases x;simp[aI.af]at *;omega
def N8{l:List ah}{k:Nat}(h:k<l.length):1+cnt (at_ l k).af<=cnt l:=by
 have:=o7 h
 have e:cnt l=cnt (l.take k++at_ l k::l.drop (k+1)):=by rw[<- this]
 rw[yK]at e;omega
def z8:∀(l:List ah) (q:Int),-4611686018427387904<=q->cnt l<=4194304->-4611686018427387904<=fN l q
 | [],q,h,_=>by simpa[fN]using h
 | .mk n v ks::xs,q,h,hc=>by
  rw[iQ]at hc;simp only[ah.af]at hc;have hl:ks.length<=cnt ks:=by unfold cnt;omega
  simp only[fN];split
  ·exact h
  ·exact z8 xs _ (z8 ks _ Um Um) Um
def FZ{s:List ag}{l:List ah}{es:List aI}(h:cW s l=false):mdT s l es=(l,1):=by rw[mdT,if_pos h]
def F4{s:List ag}{l:List ah}{es:List aI}(h:cW s l=true)(h2:¬(mdE es s l).2=0):mdT s l es=(l,(mdE es s l).2):=by rw[mdT,if_neg (by rw[h];simp),if_pos h2]
def F2{s:List ag}{l:List ah}{es:List aI}(h:cW s l=true)(h2:(mdE es s l).2=0)(h3:cW s (mdE es s l).1=false):mdT s l es=(l,8):=by rw[mdT,if_neg (by rw[h];simp),if_neg (λc=>c h2),if_pos h3]
def F3{s:List ag}{l:List ah}{es:List aI}(h:cW s l=true)(h2:(mdE es s l).2=0)(h3:cW s (mdE es s l).1=true):mdT s l es=((mdE es s l).1,0):=by rw[mdT,if_neg (by rw[h];simp),if_neg (λc=>c h2),if_neg (by rw[h3];simp)]
def E7{s:List ag}{l:List ah}(h:cW s l=true):gdS s:=by simp only[cW,Bool.and_eq_true]at h;exact ye h.1.1
def Gv:∀(l:List ag) (kind:Int) (bd:Bool),kA l kind bd=true->∀n∈dk l,cm (nmS n.af)=true
 | [],_,_,_,n,h=>by simp[dk]at h
 | .mk k a b c d e f g h i j l m nn ks::xs,kind,bd,hA,n,hn=>by
  rw[dk,mem_append]at hn;rw[kA]at hA;simp only[Bool.and_eq_true]at hA;rcases hn with hn|hn
  ·split at hn
   ·rw[mem_singleton]at hn;subst hn;have:=hA.1.2.1;simp only[mh,Bool.and_eq_true]at this;exact this.1
   ·split at hn
    ·exact Gv ks _ _ hA.1.2.2 n hn
    ·simp at hn
  ·exact Gv xs _ _ hA.2 n hn
def Wl{s:List ag}(h:gdS s){n:ag}(hn:n∈dk s):cm (nmS n.af)=true:=by obtain⟨_,kind,bd,hA⟩:=h;exact Gv s kind bd hA n hn
def KyS(n:ag):Prop:=cm (nmS n.af)=true/\n.ax.length<=3/\∀q∈n.ax,0<=idx (fq q) n.af
def VD{n:ag}(h:KyS n){q:Str}(hq:q∈n.ax):0<=idx (nmP q) n.af/\(at_ n.af (idx (nmP q) n.af).toNat).fType=kt n q:=by
 have h1:=zZ h.1 q
 have h2:=h.2.2 q hq;exact⟨(h1.1.1 h2).1,by rw[kt,h1.2 h2]⟩
def kvS(n:ag)(q:Str)(es:List aI):List Str:=(kvF q es).map λx=>cvS (kt n q) x.aq
def Gt(n:ag)(es:List aI):List Str:=n.ax.flatMap λq=>kvS n q es
def CQ(n:ag)(es:List aI):List Str:=if ep n es=true then Gt n es else []
def PD{q:Str}{es:List aI}{j:Nat}(h:j<es.length)(hn:(at_ es j).ae=q):kvF q (es.take (j+1))=kvF q (es.take j)++[at_ es j]:=by
 rw[eV h,kvF,filter_append];have:edP q (at_ es j)=true:=by simpa[edP]using hn
 simp[kvF,this]
def PE{q:Str}{es:List aI}{j:Nat}(h:j<es.length)(hn:¬(at_ es j).ae=q):kvF q (es.take (j+1))=kvF q (es.take j):=by
 rw[eV h,kvF,filter_append];have:edP q (at_ es j)=false:=by simpa[edP]using hn
 simp[kvF,this]
def Ta(q:Str)(es:List aI)(j:Nat):(kvF q (es.take j)).length<=j:=by have:=length_filter_le (edP q) (es.take j);rw[length_take]at this;unfold kvF;omega
def Jn(n:ag)(q:Str)(es:List aI):(kvS n q es).length=(kvF q es).length:=by rw[kvS,length_map]
def MX(n:ag)(es:List aI):∀(Ks:List Str) (k:Nat),((Ks.take k).flatMap (λq=>kvS n q es)).length<=k * es.length
 | [],k=>by simp
 | q::Ks,0=>by simp
 | q::Ks,k+1=>by
  rw[take_succ_cons,flatMap_cons,length_append,Nat.add_mul];have h1:=MX n es Ks k
  have h2:(kvS n q es).length<=es.length:=by rw[Jn];exact length_filter_le _ _
  omega
def Jp{n:ag}{es:List aI}{k:Nat}(hk:k<n.ax.length)(h:(decide ((kvF (at_ n.ax k) es).length=1) && (kvF (at_ n.ax k) es).all (kvG n (at_ n.ax k)))=false):ep n es=false:=jL hk h
def VF{n:ag}{q:Str}{es:List aI}{j:Nat}(h:j<es.length)(hn:(at_ es j).ae=q)(hg:kvG n q (at_ es j)=false):(kvF q es).all (kvG n q)=false:=by rw[Bool.eq_false_iff];intro c;have:at_ es j∈kvF q es:=List.mem_filter.2 ⟨at_mem h,by simpa[edP]using hn⟩;rw[List.all_eq_true.1 c _ this]at hg;cases hg
def NI{α β:Type}{f:α->β}(l:List α):l.flatMap (λx=>[f x])=l.map f:=by
 induction l with
 | nil=>rfl
 | cons x xs ih=>rw[flatMap_cons,ih];rfl
def Tc{n:ag}{e:aI}(h2:n.aj=2)(h:ep n e.af=true):kyL n (cv n e)=Gt n e.af:=by
 have hall:n.ax.all (mc (cv n e))=true:=List.all_eq_true.2 λk hk=>by
  obtain⟨e0,h3,_⟩:=vB h hk;rw[uB];show (F (if n.aj=2 then _ else []) k).isSome=true;rw[if_pos h2,xW h3 hk];rfl
 rw[(oG h2 hall).1,Gt,<- NI];refine K6 λk hk=>?_;obtain⟨e0,h3,_⟩:=vB h hk;have:=KG (List.all_eq_true.1 hall k hk)
 have e2:F (cv n e).af k=some (cvS (kt n k) e0.aq):=by
  show F (if n.aj=2 then _ else []) k=_;rw[if_pos h2,xW h3 hk]
 rw[e2]at this;injection this with this
 rw[kvS,h3,<- this];rfl
def Ps(l:List ag):l.length<=bR l:=by
 induction l with
 | nil=>simp
 | cons x xs ih=>rw[mZ,length_cons];omega
section
variable {R : Rec} {s : List ag} {l : List ah} {e : aI}
def OY(h0:0<=idx (nmP e.ae) (dk s))(hf:∀y∈l,¬same s (cv (nd s e.ae) e) y)(c1:(nd s e.ae).aj=3\/(nd s e.ae).aj=4) :
  kyB (nd s (nd s e.ae).ae) (.mk (nd s e.ae).ae (cvS (nd s e.ae).fType e.aq) [])=true/\∀y∈wo s (nd s e.ae).ae l,¬same s (.mk (nd s e.ae).ae (cvS (nd s e.ae).fType e.aq) []) y:=by
 have hn:=(gR h0).1;refine⟨?_,λy hy c=>hf y ((rv _ _ _).subset hy) (ny ?_ c)⟩
 ·have e2:nd s (nd s e.ae).ae=nd s e.ae:=by rw[hn]
  rw[e2];exact(gN Um).2
 ·refine⟨rfl,λr=>?_⟩;rw[jY,hn]at r ⊢;rw[(gN Um).1,(gN Um).1];rcases c1 with c1|c1
  ·rw[c1]at r;exact absurd r daa
  ·rw[vC c1];rfl
def OZ(hg:gdS s)(h0:0<=idx (nmP e.ae) (dk s))(hk:(nd s e.ae).aj=2->ep (nd s e.ae) e.af=true)(hf:∀y∈l,¬same s (cv (nd s e.ae) e) y)(hR:ROk R (nd s e.ae).af e.af)(c1:¬((nd s e.ae).aj=3\/(nd s e.ae).aj=4))(hr:(R (nd s e.ae).af []).2=0) :
  kyB (nd s (nd s e.ae).ae) (.mk (nd s e.ae).ae [] (R (nd s e.ae).af []).1)=true/\∀y∈wo s (nd s e.ae).ae l,¬same s (.mk (nd s e.ae).ae [] (R (nd s e.ae).af []).1) y:=by
 have hn:=(gR h0).1;obtain⟨r1,r2⟩:=hR [] Ck hr;generalize (R (nd s e.ae).af []).1=ks at r1 r2
 have hky:(nd s e.ae).aj=2->kyB (nd s e.ae) (.mk (nd s e.ae).ae [] ks)=true/\kyL (nd s e.ae) (.mk (nd s e.ae).ae [] ks)=kyL (nd s e.ae) (cv (nd s e.ae) e):=λh2=>by
  have:=zR hg h0 h2 (hk h2) r2 (x:=.mk (nd s e.ae).ae [] ks) rfl;rw[xo λ_=>hk h2]at this;exact this
 refine⟨?_,λy hy c=>hf y ((rv _ _ _).subset hy) (ny ?_ c)⟩
 ·have e2:nd s (nd s e.ae).ae=nd s e.ae:=by rw[hn]
  rw[e2];by_cases h2:(nd s e.ae).aj=2
  ·exact(hky h2).1
  ·exact(gN h2).2
 ·refine⟨rfl,λr=>?_⟩;rw[jY,hn]at r ⊢
  have h2:(nd s e.ae).aj=2:=by
   simp only[gM,Bool.or_eq_true,decide_eq_true_eq]at r;omega
  have:=(hky h2).2;rw[hn]at this;exact this.symm
def rok(es:List aI){s:List ag}(hg:gdS s):ROk (mdE es) s es:=λl hJ hr=>F6 es s l hg hJ hr
end
section
variable {R : Rec} {s : List ag} {l : List ah} {e : aI}
def MF(h1:¬idx (nmP e.ae) (dk s)<0)(h2:wrg (nd s e.ae) e=0)(h3:¬((nd s e.ae).aj=2/\ep (nd s e.ae) e.af=false))(ho:e.fOp=4/\¬fnd (nd s e.ae) l (cv (nd s e.ae) e)<0\/e.fOp=5):one R s l e=(dl l (fnd (nd s e.ae) l (cv (nd s e.ae) e)),0):=by
 by_cases hf:fnd (nd s e.ae) l (cv (nd s e.ae) e)<0
 ·rw[My h1 h2 h3 hf Um,dl,if_neg Um]
 ·rw[one,if_neg h1,if_neg (λc=>c h2),if_neg h3,if_neg Um,if_neg Um,if_neg Um,if_neg Um,if_pos Um]
def Q3(h1:¬idx (nmP e.ae) (dk s)<0)(h2:wrg (nd s e.ae) e=0)(h3:¬((nd s e.ae).aj=2/\ep (nd s e.ae) e.af=false))(ho:e.fOp=2):one R s l e=crt R s (dl l (fnd (nd s e.ae) l (cv (nd s e.ae) e))) (nd s e.ae) e:=by rw[one,if_neg h1,if_neg (λc=>c h2),if_neg h3,if_neg Um,if_neg Um,if_neg Um,if_neg Um,if_neg Um]
def Wm{n:ag}{v:Str}{ky:List Str}{x:ah}(hx:kyB n x=true)(hl:∀y∈l,y.ae=n.ae->kyB n y=true)(h4:n.aj=4->v=x.aq)(h2:n.aj=2->ky=kyL n x):idx (fsP n v ky) l=fnd n l x:=by
 rw[<- NH hx hl];refine xB λy hy=>?_;unfold fsP;by_cases c4:n.aj=4
 ·rw[h4 c4,show decide (n.aj=2)=false by simp;omega];rfl
 ·by_cases c2:n.aj=2
  ·rw[h2 c2,show decide (n.aj=4)=false by simp;omega];rfl
  ·rw[show decide (n.aj=2)=false by simpa using c2,show decide (n.aj=4)=false by simpa using c4];rfl
def SA{x:ah}{n v:Str}{ks:List ah}(h1:n=x.ae)(h2:v=x.aq)(h3:ks=x.af):ah.mk n v ks=x:=by subst h1;subst h2;subst h3;cases x;rfl
def OT{k:Nat}(h:k<l.length):l.set k (at_ l k)=l:=by rw[tX h,<- o7 h]
end
def prt:List ag->List ah->List ah->Bool
 | _,[],_=>true
 | s,.mk nm v ks::xs,b =>
  ((!decide (fnd (nd s nm) b (.mk nm v ks)<0) && !(decide ((nd s nm).aj=3) && !((at_ b (fnd (nd s nm) b (.mk nm v ks)).toNat).aq == v))) && prt (nd s nm).af ks (at_ b (fnd (nd s nm) b (.mk nm v ks)).toNat).af) && prt s xs b
def Kq(s:List ag)(b:List ah)(x:ah):Bool :=
 (!decide (fnd (nd s x.ae) b x<0) && !(decide ((nd s x.ae).aj=3) && !((at_ b (fnd (nd s x.ae) b x).toNat).aq == x.aq))) && prt (nd s x.ae).af x.af (at_ b (fnd (nd s x.ae) b x).toNat).af
def O1(s:List ag)(x:ah)(xs b:List ah):prt s (x::xs) b=(Kq s b x && prt s xs b):=by cases x;rw[prt];rfl
def I4(s:List ag)(b:List ah):prt s [] b=true:=by rw[prt]
def Md{s:List ag}{a b:List ah}{k:Nat}(h:k<a.length):prt s (a.drop k) b=(Kq s b (at_ a k) && prt s (a.drop (k+1)) b):=by rw[bA h,O1]
def yp{s:List ag}{x:ah}(hx:okX (dk s) x):∀k∈x.af,okX (dk (nd s x.ae).af) k:=by
 by_cases h:(nd s x.ae).aj=3\/(nd s x.ae).aj=4
 ·intro k hk;rw[FR hx.2 h]at hk;simp at hk
 ·exact VH hx h
def lU(s:List ag)(a b:List ah):Bool:=cW s a && cW s b && prt s a b
def mgT(s:List ag)(a b:List ah):List ah×Int:=if cW s b=false then (a,1) else mdT s a (edO 1 b)
section
def iE(l:List ag):AV.cl (l.map (ak false))=l.map (ak false):=by rw[AV.pK,map_map];refine map_congr_left λx _=>?_;simp only[Function.comp,dC,AV.frz,AV.cl,cond_false]
def iM(l:List ah):AV.cl (l.map (ai false))=l.map (ai false):=by rw[AV.pK,map_map];refine map_congr_left λx _=>?_;simp only[Function.comp,bO,AV.frz,AV.cl,cond_false]
