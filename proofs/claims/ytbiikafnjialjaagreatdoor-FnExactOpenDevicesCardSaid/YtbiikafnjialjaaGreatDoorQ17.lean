/- Part of a proof. -/
import Derived.Lib.ItoaLen
import Derived.Test.YtbiikafnjialjaaGreatDoorQ16
set_option linter.all false
open List
namespace Go.Dt
open Go.Ab
section
def mkL{α:Type}(f:α->Int->α×Int):List α->Int->List α×Int
 | [],k=>([],k)
 | x::xs,k=>((f x k).1::(mkL f xs (f x k).2).1,(mkL f xs (f x k).2).2)
section
variable {α : Type} {f : α -> Int -> α × Int}
def iB:∀(l:List α) (k:Int),(mkL f l k).1.length=l.length
 | [],_=>rfl
 | x::xs,k=>by simp only[mkL,length_cons,iB xs]
def rJ:∀(l m:List α) (k:Int),mkL f (l++m) k=((mkL f l k).1++(mkL f m (mkL f l k).2).1,(mkL f m (mkL f l k).2).2)
 | [],_,_=>rfl
 | x::xs,m,k=>by simp only[cons_append,mkL,rJ xs m]
def Av(h:∀x k,k<=(f x k).2):∀(l:List α) (k:Int),k<=(mkL f l k).2
 | [],k=>Int.le_refl k
 | x::xs,k=>Int.le_trans (h x k) (Av h xs _)
def mkc(f:α->Int->α×Int)(l:List α)(k:Int)(i:Nat):Int:=(mkL f (l.take i) k).2
def mkp(f:α->Int->α×Int)(l:List α)(k:Int)(i:Nat):List α:=(mkL f (l.take i) k).1++l.drop i
def jo(l:List α)(k:Int):mkp f l k 0=l:=by simp[mkp,mkL]
def jM{l:List α}{k:Int}{i:Nat}(h:¬i<l.length):mkc f l k i=(mkL f l k).2:=by rw[mkc,take_of_length_le Yt]
def kD{l:List α}{k:Int}{i:Nat}(h:¬i<l.length):mkp f l k i=(mkL f l k).1:=by rw[mkp,take_of_length_le Yt,drop_of_length_le Yt,append_nil]
variable [Inhabited α]
theorem Ad{l:List α}{i:Nat}(h:i<l.length):l.take (i+1)=l.take i++[at_ l i]:=by rw[take_succ_eq_append_getElem h];unfold at_;rw[getElem?_eq_getElem h];rfl
theorem ep{l:List α}{k:Int}{i:Nat}(h:i<l.length):mkc f l k (i+1)=(f (at_ l i) (mkc f l k i)).2:=by rw[mkc,Ad h,rJ];rfl
omit [Inhabited α] in
theorem fT(hm:∀x k,k<=(f x k).2)(l:List α)(k:Int)(i:Nat):mkc f l k i<=(mkL f l k).2:=by
 have:mkL f l k=mkL f (l.take i++l.drop i) k:=by rw[take_append_drop]
 rw[this,rJ];exact Av hm _ _
omit [Inhabited α] in
theorem lA(hm:∀x k,k<=(f x k).2)(l:List α)(k:Int)(i:Nat):k<=mkc f l k i:=Av hm _ _
theorem V7{l:List α}{k:Int}{i:Nat}(h:i<l.length):mkp f l k i=(mkL f (l.take i) k).1++(at_ l i::l.drop (i+1)):=by rw[mkp,bT h]
theorem P5{l:List α}{k:Int}{i:Nat}(h:i<l.length):mkp f l k (i+1)=(mkL f (l.take i) k).1++((f (at_ l i) (mkc f l k i)).1::l.drop (i+1)):=by rw[mkp,Ad h,rJ];simp[mkL,mkc]
theorem V8{l:List α}{k:Int}{i:Nat}(h:i<l.length):at_ (mkL f l k).1 i=(f (at_ l i) (mkc f l k i)).1:=by
 have:mkL f l k=mkL f (l.take (i+1)++l.drop (i+1)) k:=by rw[take_append_drop]
 rw[this,rJ];show at_ ((mkL f (l.take (i+1)) k).1++_) i=_;rw[Ad h,rJ];unfold at_;rw[append_assoc,getElem?_append_right (by rw[iB,length_take];omega)];have e:i - (mkL f (l.take i) k).1.length=0:=by rw[iB,length_take];omega
 rw[e];rfl
omit [Inhabited α] in
theorem lE{e:α->AV}{sz:Nat}(he:∀x,(e x).cells.length=sz):∀m:List α,((m.map e).flatMap AV.cells).length=m.length * sz:=by
 intro m
 induction m with
 | nil=>simp
 | cons x xs ih=>rw[map_cons,flatMap_cons,length_append,he,ih,length_cons,Nat.succ_mul,Nat.add_comm]
def mkb(e:α->AV)(f:α->Int->α×Int)(l:List α)(k:Int)(i:Nat):List AV:=((mkL f (l.take i) k).1.map e).flatMap AV.cells
omit [Inhabited α] in
theorem kE{e:α->AV}{sz:Nat}(he:∀x,(e x).cells.length=sz){l:List α}{k:Int}{i:Nat}(h:i<=l.length):(mkb e f l k i).length=i * sz:=by rw[mkb,lE he,iB,length_take,Nat.min_eq_left h]
theorem l9{e:α->AV}{l:List α}{k:Int}{i:Nat}(h:i<l.length):((mkp f l k i).map e).flatMap AV.cells=mkb e f l k i++((e (at_ l i)).cells++((l.drop (i+1)).map e).flatMap AV.cells):=by rw[V7 h];simp[mkb]
theorem jq{e:α->AV}{l:List α}{k:Int}{i:Nat}(h:i<l.length):((mkp f l k (i+1)).map e).flatMap AV.cells=mkb e f l k i++((e (f (at_ l i) (mkc f l k i)).1).cells++((l.drop (i+1)).map e).flatMap AV.cells):=by rw[P5 h];simp[mkb]
end
def Pu{p e:List AV}{n j:Nat}(h:p.length=n):(p++e).take (n+j)=p++e.take j:=by subst h;rw[take_length_add_append]
def Mo{p e:List AV}{n j:Nat}(h:p.length=n):(p++e).drop (n+j)=e.drop j:=by subst h;rw[drop_length_add_append]
def ZO{p e:List AV}{n j m:Nat}(h:p.length=n):(p++e).drop (n+j+m)=e.drop (j+m):=by rw[Nat.add_assoc];exact Mo h
def Xl{p e:List AV}{n j m q:Nat}(h:p.length=n):(p++e).drop (n+j+m+q)=e.drop (j+m+q):=by rw[Nat.add_assoc n j m,Nat.add_assoc n];exact Mo h
def ZP{p e:List AV}{n j m q r:Nat}(h:p.length=n):(p++e).drop (n+j+m+q+r)=e.drop (j+m+q+r):=by rw[Nat.add_assoc n j m,Nat.add_assoc n,Nat.add_assoc n];exact Mo h
def YA{p e:List AV}{n j m:Nat}(h:p.length=n):(p++e).take (n+j+m)=p++e.take (j+m):=by rw[Nat.add_assoc];exact Pu h
def Vm{p e:List AV}{n j m q:Nat}(h:p.length=n):(p++e).take (n+j+m+q)=p++e.take (j+m+q):=by rw[Nat.add_assoc n j m,Nat.add_assoc n];exact Pu h
attribute [go_sem] YA Vm Xl ZP Pu Mo ZO append_assoc append_nil take_succ_cons drop_succ_cons take_zero drop_zero
end
def ay(x:Str)(k:Int):Str×Int:=(mkT k,k+1)
def iD(x:Str)(k:Int):k+1<=(ay x k).2:=by unfold ay;omega
def bD{α:Type}{f:α->Int->α×Int}(h:∀x k,k+1<=(f x k).2):∀(l:List α) (k:Int),k+l.length<=(mkL f l k).2
 | [],k=>by simp[mkL]
 | x::xs,k=>by have h1:=h x k;have h2:=bD h xs (f x k).2;simp only[mkL,length_cons];omega
def eE{α:Type}{f:α->Int->α×Int}(h:∀x k,k+1<=(f x k).2)(x:α)(k:Int):k<=(f x k).2:=by have:=h x k;omega
def bw(x:ed)(k:Int):ed×Int:=(⟨k,k+1⟩,k+1+1)
def lv(x:ed)(k:Int):k+1<=(bw x k).2:=by unfold bw;simp only;omega
def j1(x:fS)(k:Int):fS×Int:=(⟨mkT k,mkT (k+1)⟩,k+1+1)
def oN(x:fS)(k:Int):k+1<=(j1 x k).2:=by unfold j1;simp only;omega
def gH(x:GStep)(k:Int):GStep×Int:=(⟨mkT k,(mkL j1 x.cU (k+1)).1⟩,(mkL j1 x.cU (k+1)).2)
def oO(x:GStep)(k:Int):k+1<=(gH x k).2:=by have g0:=bD oN x.cU (k+1);unfold gH;simp only;omega
mutual
def di:bf->Int->bf×Int
 | .mk fOp gZ cX aG af,k=>(.mk k (k+1) (mkT (k+1+1)) (⟨((k+1+1+1).tmod 3 == 0),k+1+1+1+1,(mkL gH aG.aX (k+1+1+1+1+1)).1⟩) ((mE af ((mkL gH aG.aX (k+1+1+1+1+1)).2)).1),(mE af ((mkL gH aG.aX (k+1+1+1+1+1)).2)).2)
def mE:List bf->Int->List bf×Int
 | [],k=>([],k)
 | x::xs,k=>((di x k).1::(mE xs (di x k).2).1,(mE xs (di x k).2).2)
end
def BL:∀(l:List bf) (k:Int),mE l k=mkL di l k
 | [],k=>by simp[mE,mkL]
 | x::xs,k=>by simp[mE,mkL,BL xs]
def tg(x:bf)(k:Int):di x k=(.mk k (k+1) (mkT (k+1+1)) (⟨((k+1+1+1).tmod 3 == 0),k+1+1+1+1,(mkL gH x.aG.aX (k+1+1+1+1+1)).1⟩) ((mkL di x.af ((mkL gH x.aG.aX (k+1+1+1+1+1)).2)).1),(mkL di x.af ((mkL gH x.aG.aX (k+1+1+1+1+1)).2)).2):=by cases x;simp only[di,BL];rfl
mutual
def ko:∀(x:bf) (k:Int),k+1<=(di x k).2
 | .mk fOp gZ cX aG af,k=>by
  have g0:=bD oO aG.aX (k+1+1+1+1+1)
  have g1:=BK af ((mkL gH aG.aX (k+1+1+1+1+1)).2);simp only[di];omega
def BK:∀(l:List bf) (k:Int),k+l.length<=(mE l k).2
 | [],k=>by simp[mE]
 | x::xs,k=>by have h1:=ko x k;have h2:=BK xs (di x k).2;simp only[mE,length_cons];omega
end
mutual
def bH:ag->Int->ag×Int
 | .mk aj ae fType ax aJ bI db dz bZ eJ iO iP bY cS af,k=>(.mk k (mkT (k+1)) (⟨k+1+1,(mkL bw fType.az (k+1+1+1)).1,(mkL ay fType.aB ((mkL bw fType.az (k+1+1+1)).2)).1,mkT ((mkL ay fType.aB ((mkL bw fType.az (k+1+1+1)).2)).2),mkT ((mkL ay fType.aB ((mkL bw fType.az (k+1+1+1)).2)).2+1)⟩) ((mkL ay ax ((mkL ay fType.aB ((mkL bw fType.az (k+1+1+1)).2)).2+1+1)).1) ((mkL ay aJ ((mkL ay ax ((mkL ay fType.aB ((mkL bw fType.az (k+1+1+1)).2)).2+1+1)).2)).1) (mkT ((mkL ay aJ ((mkL ay ax ((mkL ay fType.aB ((mkL bw fType.az (k+1+1+1)).2)).2+1+1)).2)).2)) ((((mkL ay aJ ((mkL ay ax ((mkL ay fType.aB ((mkL bw fType.az (k+1+1+1)).2)).2+1+1)).2)).2+1).tmod 3 == 0)) ((((mkL ay aJ ((mkL ay ax ((mkL ay fType.aB ((mkL bw fType.az (k+1+1+1)).2)).2+1+1)).2)).2+1+1).tmod 3 == 0)) ((((mkL ay aJ ((mkL ay ax ((mkL ay fType.aB ((mkL bw fType.az (k+1+1+1)).2)).2+1+1)).2)).2+1+1+1).tmod 3 == 0)) ((((mkL ay aJ ((mkL ay ax ((mkL ay fType.aB ((mkL bw fType.az (k+1+1+1)).2)).2+1+1)).2)).2+1+1+1+1).tmod 3 == 0)) ((mkL ay aJ ((mkL ay ax ((mkL ay fType.aB ((mkL bw fType.az (k+1+1+1)).2)).2+1+1)).2)).2+1+1+1+1+1) ((mkL ay aJ ((mkL ay ax ((mkL ay fType.aB ((mkL bw fType.az (k+1+1+1)).2)).2+1+1)).2)).2+1+1+1+1+1+1) ((mkL di bY ((mkL ay aJ ((mkL ay ax ((mkL ay fType.aB ((mkL bw fType.az (k+1+1+1)).2)).2+1+1)).2)).2+1+1+1+1+1+1+1)).1) ((mkL di cS ((mkL di bY ((mkL ay aJ ((mkL ay ax ((mkL ay fType.aB ((mkL bw fType.az (k+1+1+1)).2)).2+1+1)).2)).2+1+1+1+1+1+1+1)).2)).1) ((kg af ((mkL di cS ((mkL di bY ((mkL ay aJ ((mkL ay ax ((mkL ay fType.aB ((mkL bw fType.az (k+1+1+1)).2)).2+1+1)).2)).2+1+1+1+1+1+1+1)).2)).2)).1),(kg af ((mkL di cS ((mkL di bY ((mkL ay aJ ((mkL ay ax ((mkL ay fType.aB ((mkL bw fType.az (k+1+1+1)).2)).2+1+1)).2)).2+1+1+1+1+1+1+1)).2)).2)).2)
def kg:List ag->Int->List ag×Int
 | [],k=>([],k)
 | x::xs,k=>((bH x k).1::(kg xs (bH x k).2).1,(kg xs (bH x k).2).2)
end
def xo:∀(l:List ag) (k:Int),kg l k=mkL bH l k
 | [],k=>by simp[kg,mkL]
 | x::xs,k=>by simp[kg,mkL,xo xs]
def qe(x:ag)(k:Int):bH x k=(.mk k (mkT (k+1)) (⟨k+1+1,(mkL bw x.fType.az (k+1+1+1)).1,(mkL ay x.fType.aB ((mkL bw x.fType.az (k+1+1+1)).2)).1,mkT ((mkL ay x.fType.aB ((mkL bw x.fType.az (k+1+1+1)).2)).2),mkT ((mkL ay x.fType.aB ((mkL bw x.fType.az (k+1+1+1)).2)).2+1)⟩) ((mkL ay x.ax ((mkL ay x.fType.aB ((mkL bw x.fType.az (k+1+1+1)).2)).2+1+1)).1) ((mkL ay x.aJ ((mkL ay x.ax ((mkL ay x.fType.aB ((mkL bw x.fType.az (k+1+1+1)).2)).2+1+1)).2)).1) (mkT ((mkL ay x.aJ ((mkL ay x.ax ((mkL ay x.fType.aB ((mkL bw x.fType.az (k+1+1+1)).2)).2+1+1)).2)).2)) ((((mkL ay x.aJ ((mkL ay x.ax ((mkL ay x.fType.aB ((mkL bw x.fType.az (k+1+1+1)).2)).2+1+1)).2)).2+1).tmod 3 == 0)) ((((mkL ay x.aJ ((mkL ay x.ax ((mkL ay x.fType.aB ((mkL bw x.fType.az (k+1+1+1)).2)).2+1+1)).2)).2+1+1).tmod 3 == 0)) ((((mkL ay x.aJ ((mkL ay x.ax ((mkL ay x.fType.aB ((mkL bw x.fType.az (k+1+1+1)).2)).2+1+1)).2)).2+1+1+1).tmod 3 == 0)) ((((mkL ay x.aJ ((mkL ay x.ax ((mkL ay x.fType.aB ((mkL bw x.fType.az (k+1+1+1)).2)).2+1+1)).2)).2+1+1+1+1).tmod 3 == 0)) ((mkL ay x.aJ ((mkL ay x.ax ((mkL ay x.fType.aB ((mkL bw x.fType.az (k+1+1+1)).2)).2+1+1)).2)).2+1+1+1+1+1) ((mkL ay x.aJ ((mkL ay x.ax ((mkL ay x.fType.aB ((mkL bw x.fType.az (k+1+1+1)).2)).2+1+1)).2)).2+1+1+1+1+1+1) ((mkL di x.bY ((mkL ay x.aJ ((mkL ay x.ax ((mkL ay x.fType.aB ((mkL bw x.fType.az (k+1+1+1)).2)).2+1+1)).2)).2+1+1+1+1+1+1+1)).1) ((mkL di x.cS ((mkL di x.bY ((mkL ay x.aJ ((mkL ay x.ax ((mkL ay x.fType.aB ((mkL bw x.fType.az (k+1+1+1)).2)).2+1+1)).2)).2+1+1+1+1+1+1+1)).2)).1) ((mkL bH x.af ((mkL di x.cS ((mkL di x.bY ((mkL ay x.aJ ((mkL ay x.ax ((mkL ay x.fType.aB ((mkL bw x.fType.az (k+1+1+1)).2)).2+1+1)).2)).2+1+1+1+1+1+1+1)).2)).2)).1),(mkL bH x.af ((mkL di x.cS ((mkL di x.bY ((mkL ay x.aJ ((mkL ay x.ax ((mkL ay x.fType.aB ((mkL bw x.fType.az (k+1+1+1)).2)).2+1+1)).2)).2+1+1+1+1+1+1+1)).2)).2)).2):=by cases x;simp only[bH,xo];rfl
mutual
def jw:∀(x:ag) (k:Int),k+1<=(bH x k).2
 | .mk aj ae fType ax aJ bI db dz bZ eJ iO iP bY cS af,k=>by
  have g0:=bD lv fType.az (k+1+1+1)
  have g1:=bD iD fType.aB ((mkL bw fType.az (k+1+1+1)).2)
  have g2:=bD iD ax ((mkL ay fType.aB ((mkL bw fType.az (k+1+1+1)).2)).2+1+1)
  have g3:=bD iD aJ ((mkL ay ax ((mkL ay fType.aB ((mkL bw fType.az (k+1+1+1)).2)).2+1+1)).2)
  have g4:=bD ko bY ((mkL ay aJ ((mkL ay ax ((mkL ay fType.aB ((mkL bw fType.az (k+1+1+1)).2)).2+1+1)).2)).2+1+1+1+1+1+1+1)
  have g5:=bD ko cS ((mkL di bY ((mkL ay aJ ((mkL ay ax ((mkL ay fType.aB ((mkL bw fType.az (k+1+1+1)).2)).2+1+1)).2)).2+1+1+1+1+1+1+1)).2)
  have g6:=xn af ((mkL di cS ((mkL di bY ((mkL ay aJ ((mkL ay ax ((mkL ay fType.aB ((mkL bw fType.az (k+1+1+1)).2)).2+1+1)).2)).2+1+1+1+1+1+1+1)).2)).2);simp only[bH];omega
def xn:∀(l:List ag) (k:Int),k+l.length<=(kg l k).2
 | [],k=>by simp[kg]
 | x::xs,k=>by have h1:=jw x k;have h2:=xn xs (bH x k).2;simp only[kg,length_cons];omega
end
mutual
def aQ:ah->Int->ah×Int
 | .mk ae aq af,k=>(.mk (mkT k) (mkT (k+1)) ((kC af (k+1+1)).1),(kC af (k+1+1)).2)
def kC:List ah->Int->List ah×Int
 | [],k=>([],k)
 | x::xs,k=>((aQ x k).1::(kC xs (aQ x k).2).1,(kC xs (aQ x k).2).2)
end
def vJ:∀(l:List ah) (k:Int),kC l k=mkL aQ l k
 | [],k=>by simp[kC,mkL]
 | x::xs,k=>by simp[kC,mkL,vJ xs]
def oP(x:ah)(k:Int):aQ x k=(.mk (mkT k) (mkT (k+1)) ((mkL aQ x.af (k+1+1)).1),(mkL aQ x.af (k+1+1)).2):=by cases x;simp only[aQ,vJ];rfl
mutual
def dO:∀(x:ah) (k:Int),k+1<=(aQ x k).2
 | .mk ae aq af,k=>by
  have g0:=BJ af (k+1+1);simp only[aQ];omega
def BJ:∀(l:List ah) (k:Int),k+l.length<=(kC l k).2
 | [],k=>by simp[kC]
 | x::xs,k=>by have h1:=dO x k;have h2:=BJ xs (aQ x k).2;simp only[kC,length_cons];omega
end
open Go Go.Ab
def iX(x:ah)(l:List ah):cnt (x::l)=1+cnt x.af+cnt l:=by cases x;simp only[cnt,kc,length_cons,ah.af];omega
def vg:∀(a b:List ah),cnt (a++b)=cnt a+cnt b
 | [],b=>by simp[cnt,kc]
 | x::a,b=>by rw[cons_append,iX,iX,vg a b];omega
def nP:cnt []=0:=by simp[cnt,kc]
mutual
def SC:∀(x:ah) (k:Int),(aQ x k).2=k+2 * (1+cnt x.af:Nat)
 | .mk n v ks,k=>by simp only[aQ,ah.af];rw[Af ks];omega
def Af:∀(l:List ah) (k:Int),(kC l k).2=k+2 * (cnt l:Nat)
 | [],k=>by simp[kC,cnt,kc]
 | x::xs,k=>by simp only[kC];rw[Af xs,SC x,iX];omega
end
def Tu(l:List ah)(k:Int):(mkL aQ l k).2=k+2 * (cnt l:Nat):=by rw[<- vJ,Af]
def af2(s:List ag)(l:List ah)(cs:List Str):List ah:=if dw s l=true then l.flatMap (Rd cs s) else []
theorem H5{α:Type}[Inhabited α]{p:α->Bool}:∀ {l:List α},l.find? p=if 0<=idx p l then some (at_ l (idx p l).toNat) else none
 | []=>by simp[idx]
 | x::xs=>by
  have ih:=H5 (p:=p) (l:=xs)
  have h0:=qv p xs;by_cases h:p x=true
  ·have e:idx p (x::xs)=0:=by simp[idx,h]
   rw[find?_cons_of_pos h,e];simp[at_]
  ·rw[find?_cons_of_neg h,ih];by_cases q:idx p xs<0
   ·have e:idx p (x::xs) = -1:=by simp[idx,h,q]
    rw[e,if_neg Yt,if_neg Yt]
   ·have e:idx p (x::xs)=idx p xs+1:=by simp[idx,h,q]
    rw[e,if_pos Yt,if_pos Yt,show (idx p xs+1).toNat=(idx p xs).toNat+1 by omega,zm]
open Go.Ab
mutual
def o9:aL->Int->aL×Int
 | .mk fOp ae aq af,k=>(.mk k (mkT (k+1)) (mkT (k+1+1)) ((mF af (k+1+1+1)).1),(mF af (k+1+1+1)).2)
def mF:List aL->Int->List aL×Int
 | [],k=>([],k)
 | x::xs,k=>((o9 x k).1::(mF xs (o9 x k).2).1,(mF xs (o9 x k).2).2)
end
mutual
def ML:∀(x:aL) (k:Int),k+1<=(o9 x k).2
 | .mk fOp ae aq af,k=>by
  have g0:=BM af (k+1+1+1);simp only[o9];omega
def BM:∀(l:List aL) (k:Int),k+l.length<=(mF l k).2
 | [],k=>by simp[mF]
 | x::xs,k=>by have h1:=ML x k;have h2:=BM xs (o9 x k).2;simp only[mF,length_cons];omega
end
open Go Go.Ab
def fO:List aL->Nat
 | []=>0
 | .mk _ _ _ ks::xs=>1+fO ks+fO xs
def qB(x:aL)(l:List aL):fO (x::l)=1+fO x.af+fO l:=by cases x;rw[fO];rfl
def Iy:fO []=0:=by rw[fO]
def Bl(op:Int):∀l:List ah,fO (edO op l)=cnt l
 | []=>by rw[edO,Iy,nP]
 | .mk n v ks::xs=>by rw[edO,fO,iX,Bl op ks,Bl op xs];rfl
def KH{l:List ah}{x:ah}(h:x∈l):cnt x.af<=cnt l:=by
 induction l with
 | nil=>simp at h
 | cons y l ih =>
  rw[iX];rcases List.mem_cons.1 h with rfl|h
  ·omega
  ·have:=ih h;omega
mutual
def SD:∀(x:aL) (k:Int),(o9 x k).2=k+3 * (1+fO x.af:Nat)
 | .mk o n v ks,k=>by simp only[o9,aL.af];rw[Gc ks];omega
def Gc:∀(l:List aL) (k:Int),(mF l k).2=k+3 * (fO l:Nat)
 | [],k=>by simp[mF,fO]
 | x::xs,k=>by simp only[mF];rw[Gc xs,SD x,qB];omega
end
def af1(s:List ag)(a b:List ah):List aL:=if (dw s a && dw s b)=true then dif s a b else []
def ml(all:List ag)(i:Nat)(m:Nat):List Str:=(List.range m).flatMap λj=>if j=i then [] else nmS (dk (at_ all j).af)
mutual
def oth:List ag->Str->Option (List Str)
 | [],_=>none
 | .mk k a _ _ _ _ _ _ _ _ _ _ _ _ ks::xs,nm =>
  if dR k=true/\a=nm then some []
  else if k=5 then (match lQ ks 0 ks nm with|some o=>some o|none=>oth xs nm)
  else oth xs nm
def lQ:List ag->Nat->List ag->Str->Option (List Str)
 | _,_,[],_=>none
 | all,i,.mk _ _ _ _ _ _ _ _ _ _ _ _ _ _ ks::xs,nm =>
  match oth ks nm with
  | some o=>some (o++ml all i all.length)
  | none=>lQ all (i+1) xs nm
end
def Ao(x:ag)(xs:List ag)(nm:Str):oth (x::xs) nm=if dR x.aj=true/\x.ae=nm then some [] else if x.aj=5 then (match lQ x.af 0 x.af nm with|some o=>some o|none=>oth xs nm) else oth xs nm:=by cases x;rw[oth];rfl
def Eu(all:List ag)(i:Nat)(x:ag)(xs:List ag)(nm:Str):lQ all i (x::xs) nm=match oth x.af nm with|some o=>some (o++ml all i all.length)|none=>lQ all (i+1) xs nm:=by cases x;rw[lQ];rfl
def jG(s:List ag)(nm:Str):List Str:=(oth s nm).getD []
def wo(s:List ag)(nm:Str)(l:List ah):List ah:=l.filter λy=>!cont (jG s nm) y.ae
def stP(d:List ag)(x y:ah):Bool:=decide (idx (nmP x.ae) d<idx (nmP y.ae) d) || (decide (idx (nmP y.ae) d=idx (nmP x.ae) d) && decide (0<jH (at_ d (idx (nmP x.ae) d).toNat) y x))
def pos{α:Type}(p:α->Bool):List α->Nat
 | []=>0
 | x::xs=>if p x=true then 0 else pos p xs+1
def ins(s:List ag)(l:List ah)(x:ah):List ah:=l.take (pos (stP (dk s) x) l)++x::l.drop (pos (stP (dk s) x) l)
def wrg(n:ag)(e:aL):Int :=
 if ((n.aj=1\/n.aj=2)/\¬e.aq=[])\/(¬(n.aj=1\/n.aj=2)/\¬e.af=[]) then 2
 else if e.fOp<1\/5<e.fOp then 3
 else if (n.aj=4\/n.aj=3/\¬(e.fOp=4\/e.fOp=5))/\cvB n.fType e.aq=false then 7 else 0
def kt(n:ag)(k:Str):dB:=(at_ n.af (idx (fG k) n.af).toNat).fType
def edP(k:Str)(e:aL):Bool:=e.ae == k
def kvF(k:Str)(es:List aL):List aL:=es.filter (edP k)
def kvG(n:ag)(k:Str)(e:aL):Bool:=cvB (kt n k) e.aq && !decide (e.fOp=4) && !decide (e.fOp=5)
def kvV(n:ag)(k:Str)(es:List aL):List ah:=(kvF k es).map λe=>.mk k (cvS (kt n k) e.aq) []
def eG(n:ag)(es:List aL):Bool:=n.ax.all λk=>decide ((kvF k es).length=1) && (kvF k es).all (kvG n k)
def cO(n:ag)(e:aL):ah:=.mk n.ae (if n.aj=4 then cvS n.fType e.aq else []) (if n.aj=2 then n.ax.flatMap (λk=>kvV n k e.af) else [])
def dl(l:List ah)(i:Int):List ah:=if 0<=i then l.eraseIdx i.toNat else l
abbrev Rec:=List ag->List ah->List ah×Int
def crt(R:Rec)(s:List ag)(l:List ah)(n:ag)(e:aL):List ah×Int :=
 if n.aj=3\/n.aj=4 then (ins s (wo s n.ae l) (.mk n.ae (cvS n.fType e.aq) []),0)
 else if ¬(R n.af []).2=0 then ([],(R n.af []).2)
 else if n.aj=1/\n.bZ=false/\(R n.af []).1=[] then (l,0)
 else (ins s (wo s n.ae l) (.mk n.ae [] (R n.af []).1),0)
def mrg(R:Rec)(l:List ah)(i:Nat)(n:ag)(e:aL):List ah×Int :=
 if n.aj=3 then (l.set i (.mk (at_ l i).ae (cvS n.fType e.aq) (at_ l i).af),0)
 else if n.aj=1\/n.aj=2 then
  (if ¬(R n.af (at_ l i).af).2=0 then ([],(R n.af (at_ l i).af).2)
   else if n.aj=1/\n.bZ=false/\(R n.af (at_ l i).af).1=[] then (l.eraseIdx i,0)
   else (l.set i (.mk (at_ l i).ae (at_ l i).aq (R n.af (at_ l i).af).1),0))
 else (l,0)
def one(R:Rec)(s:List ag)(l:List ah)(e:aL):List ah×Int :=
 if idx (nmP e.ae) (dk s)<0 then ([],2)
 else if ¬wrg (nd s e.ae) e=0 then ([],wrg (nd s e.ae) e)
 else if (nd s e.ae).aj=2/\eG (nd s e.ae) e.af=false then ([],4)
 else if e.fOp=3/\0<=fnd (nd s e.ae) l (cO (nd s e.ae) e) then ([],5)
 else if e.fOp=4/\fnd (nd s e.ae) l (cO (nd s e.ae) e)<0 then ([],6)
 else if e.fOp=5/\fnd (nd s e.ae) l (cO (nd s e.ae) e)<0 then (l,0)
 else if e.fOp=1/\0<=fnd (nd s e.ae) l (cO (nd s e.ae) e) then mrg R l (fnd (nd s e.ae) l (cO (nd s e.ae) e)).toNat (nd s e.ae) e
 else if e.fOp=4\/e.fOp=5 then (dl l (fnd (nd s e.ae) l (cO (nd s e.ae) e)),0)
 else crt R s (dl l (fnd (nd s e.ae) l (cO (nd s e.ae) e))) (nd s e.ae) e
def mdE:List aL->List ag->List ah->List ah×Int
 | [],_,l=>(l,0)
 | .mk op nm v ks::es,s,l =>
  if ¬(one (mdE ks) s l (.mk op nm v ks)).2=0 then ([],(one (mdE ks) s l (.mk op nm v ks)).2)
  else mdE es s (one (mdE ks) s l (.mk op nm v ks)).1
def vZ(e:aL)(es:List aL)(s:List ag)(l:List ah):mdE (e::es) s l=if ¬(one (mdE e.af) s l e).2=0 then ([],(one (mdE e.af) s l e).2) else mdE es s (one (mdE e.af) s l e).1:=by cases e;rw[mdE];rfl
def mdT(s:List ag)(l:List ah)(es:List aL):List ah×Int :=
 if dw s l=false then (l,1)
 else if ¬(mdE es s l).2=0 then (l,(mdE es s l).2)
 else if dw s (mdE es s l).1=false then (l,8) else ((mdE es s l).1,0)
theorem pos_at{α:Type}[Inhabited α]{p:α->Bool}:∀ {l:List α} {k:Nat},k<l.length->(∀y∈l.take k,p y=false)->p (at_ l k)=true->pos p l=k
 | x::xs,0,_,_,h=>by rw[pos,if_pos (show p x=true from h)]
 | x::xs,k+1,h1,h2,h3=>by
  rw[pos,if_neg (by rw[h2 x zH];simp),pos_at (k:=k) (by simpa using h1) (λy hy=>h2 y (by simp[hy])) h3]
def JV{α:Type}{p:α->Bool}:∀ {l:List α},(∀y∈l,p y=false)->pos p l=l.length
 | [],_=>rfl
 | x::xs,h=>by rw[pos,if_neg (by rw[h x zH];simp),JV λy hy=>h y (by simp[hy])];rfl
def Gt{α:Type}{p:α->Bool}{l:List α}{k:Nat}(h1:¬k<l.length)(h:∀y∈l.take k,p y=false):pos p l=l.length:=by rw[take_of_length_le Yt]at h;exact JV h
def pM{l:List ah}{i:Nat}(h:i<l.length):l=l.take i++at_ l i::l.drop (i+1):=by rw[<- bT h,take_append_drop]
def vf{l:List ah}{i:Nat}:l.eraseIdx i=l.take i++l.drop (i+1):=eraseIdx_eq_take_drop_succ ..
def uF{l:List ah}{i:Nat}{y:ah}(h:i<l.length):l.set i y=l.take i++y::l.drop (i+1):=by rw[set_eq_take_append_cons_drop,if_pos h]
def F(l:List ah)(k:Str):Option Str:=(l.find? (ndP k)).map ah.aq
def Sn(l:List ah)(k:Str):F l k=if 0<=idx (ndP k) l then some (at_ l (idx (ndP k) l).toNat).aq else none:=by rw[F,H5];split<;>rfl
def u4(x:ah)(k:Str):mq x k=(F x.af k).isSome:=by
 rw[Sn,mq];split
 ·rename_i h;simpa using h
 ·rename_i h;simpa using h
def LA{x:ah}{k:Str}(h:mq x k=true):F x.af k=some (kyT x k):=by rw[mq,decide_eq_true_eq]at h;rw[Sn,if_pos h];rfl
def abT{n:ag}{x y:ah}(h2:n.aj=2)(h:∀k∈n.ax,F x.af k=F y.af k):kyB n x=kyB n y/\kyL n x=kyL n y:=by
 have e:n.ax.all (mq x)=n.ax.all (mq y):=by
  rw[Bool.eq_iff_iff,all_eq_true,all_eq_true];constructor
  ·intro q k hk;rw[u4,<- h k hk,<- u4];exact q k hk
  ·intro q k hk;rw[u4,h k hk,<- u4];exact q k hk
 cases hb:n.ax.all (mq y)with
 | true =>
  have h1:=oT h2 (e.trans hb)
  have h3:=oT h2 hb;refine⟨by rw[h1.2,h3.2],?_⟩;rw[h1.1,h3.1];refine map_congr_left λk hk=>?_;have q1:=LA (List.all_eq_true.1 (e.trans hb) k hk)
  have q2:=LA (List.all_eq_true.1 hb k hk);rw[h k hk,q2]at q1;injection q1 with q1;exact q1.symm
 | false =>
  have h1:=uT h2 (e.trans hb)
  have h3:=uT h2 hb;exact⟨by rw[h1.2,h3.2],by rw[h1.1,h3.1]⟩
def rH(a b:List ah)(k:Str):F (a++b) k=(F a k).or (F b k):=by unfold F;rw[find?_append];cases a.find? (ndP k)<;>rfl
def n9(x:ah)(l:List ah)(k:Str):F (x::l) k=if x.ae=k then some x.aq else F l k:=by
 unfold F;rw[find?_cons];by_cases h:x.ae=k
 ·rw[if_pos h,show ndP k x=true by simpa[ndP]using h];rfl
 ·rw[if_neg h,show ndP k x=false by simpa[ndP]using h]
def IZ{l:List ah}{k:Str}(h:∀x∈l,¬x.ae=k):F l k=none:=by unfold F;rw[List.find?_eq_none.2 λx hx=>by simpa[ndP]using h x hx];rfl
def Z5{s:List ag}{l:List ah}{x:ah}{k:Str}(h:¬x.ae=k):F (ins s l x) k=F l k:=by rw[ins,rH,n9,if_neg h,<- rH,take_append_drop]
def My{s:List ag}{l:List ah}{x:ah}(h:∀y∈l,¬y.ae=x.ae):F (ins s l x) x.ae=some x.aq:=by rw[ins,rH,n9,if_pos rfl,IZ λy hy=>h y (mem_of_mem_take hy)];rfl
def Sp{l:List ah}{i:Nat}{k:Str}(hi:i<l.length)(h:¬(at_ l i).ae=k):F (l.eraseIdx i) k=F l k:=by
 rw[vf,rH]
 conv=>rhs;rw[pM hi,rH,n9,if_neg h]
def Z3{l:List ah}{i:Nat}{y:ah}{k:Str}(hi:i<l.length)(h:¬(at_ l i).ae=k)(hy:¬y.ae=k):F (l.set i y) k=F l k:=by
 rw[uF hi,rH,n9,if_neg hy]
 conv=>rhs;rw[pM hi,rH,n9,if_neg h]
def ado{s:List ag}{nm:Str}{l:List ah}{k:Str}(h:cont (jG s nm) k=false):F (wo s nm l) k=F l k:=by
 induction l with
 | nil=>rfl
 | cons y l ih =>
  rw[wo,filter_cons]
  cases hc:cont (jG s nm) y.ae with
  | true =>
   rw[if_neg zH,n9,if_neg (λe=>by rw[e,h]at hc;cases hc)];exact ih
  | false =>
   rw[if_pos zH,n9,n9];split
   ·rfl
   ·exact ih
def same(s:List ag)(x y:ah):Prop:=x.ae=y.ae/\(ig (nd s x.ae).aj=true->kyL (nd s x.ae) x=kyL (nd s x.ae) y)
def tq{s:List ag}{x y:ah}(h:same s x y):same s y x:=⟨h.1.symm,λr=>by rw[<- h.1]at r ⊢;exact(h.2 r).symm⟩
def nI{s:List ag}{x y z:ah}(h:same s x y)(h2:same s y z):same s x z:=⟨h.1.trans h2.1,λr=>by
 have r2:=r;rw[h.1]at r2;have:=h2.2 r2;rw[<- h.1]at this
 exact(h.2 r).trans this⟩
def J:List ag->List ah->Prop
 | _,[]=>True
 | s,.mk nm v ks::xs=>(0<=idx (nmP nm) (dk s)/\kyB (nd s nm) (.mk nm v ks)=true/\((nd s nm).aj=1\/(nd s nm).aj=2->v=[]/\J (nd s nm).af ks))/\(∀y∈xs,¬same s (.mk nm v ks) y)/\J s xs
def jX(s:List ag)(x:ah):Prop:=0<=idx (nmP x.ae) (dk s)/\kyB (nd s x.ae) x=true/\((nd s x.ae).aj=1\/(nd s x.ae).aj=2->x.aq=[]/\J (nd s x.ae).af x.af)
def Pn{s:List ag}{x:ah}{xs:List ah}:J s (x::xs)↔jX s x/\(∀y∈xs,¬same s x y)/\J s xs:=by cases x;rw[J];exact Iff.rfl
def CY{s:List ag}:J s []:=by rw[J];trivial
def ox{s:List ag}:∀ {l:List ah},J s l↔(∀x∈l,jX s x)/\l.Pairwise λx y=>¬same s x y
 | []=>by simp[CY]
 | x::xs=>by
  rw[Pn,ox (l:=xs),pairwise_cons];constructor
  ·rintro⟨h1,h2,h3,h4⟩;exact⟨λy hy=>by rcases List.mem_cons.1 hy with rfl|hy;exact h1;exact h3 y hy,h2,h4⟩
  ·rintro⟨h1,h2,h3⟩;exact⟨h1 x zH,h2,λy hy=>h1 y (by simp[hy]),h3⟩
def CX{s:List ag}{l l':List ah}(h:l'.Sublist l)(hJ:J s l):J s l':=by rw[ox]at hJ ⊢;exact⟨λx hx=>hJ.1 x (h.subset hx),hJ.2.sublist h⟩
def CK(l:List ah)(i:Int):(dl l i).Sublist l:=by
 unfold dl;split
 ·exact eraseIdx_sublist ..
 ·exact List.Sublist.refl _
def rV(s:List ag)(nm:Str)(l:List ah):(wo s nm l).Sublist l:=filter_sublist
def xz{s:List ag}{a b:List ah}{x:ah}:(a++x::b).Pairwise (λx y=>¬same s x y)↔(∀y∈a++b,¬same s x y)/\(a++b).Pairwise λx y=>¬same s x y:=by rw[(perm_middle (a:=x) (l₁:=a) (l₂:=b)).pairwise_iff λh c=>h (tq c),pairwise_cons]
def Z2{s:List ag}{l:List ah}{x:ah}(hJ:J s l)(hx:jX s x)(hn:∀y∈l,¬same s x y):J s (ins s l x):=by
 rw[ox]at hJ ⊢;refine⟨λy hy=>?_,?_⟩
 ·rw[ins,mem_append,mem_cons]at hy;rcases hy with hy|rfl|hy
  ·exact hJ.1 y (mem_of_mem_take hy)
  ·exact hx
  ·exact hJ.1 y (mem_of_mem_drop hy)
 ·rw[ins,xz,take_append_drop];exact⟨hn,hJ.2⟩
def Z1{s:List ag}{l:List ah}{i:Nat}{y:ah}(hJ:J s l)(hi:i<l.length)(hy:jX s y)(hn:same s y (at_ l i)):J s (l.set i y):=by
 rw[ox]at hJ ⊢;have h2:=hJ.2;rw[pM hi,xz]at h2;rw[uF hi,xz];refine⟨λw hw=>?_,λw hw c=>h2.1 w hw (nI (tq hn) c),h2.2⟩;rw[mem_append,mem_cons]at hw;rcases hw with hw|rfl|hw
 ·exact hJ.1 w (mem_of_mem_take hw)
 ·exact hy
 ·exact hJ.1 w (mem_of_mem_drop hw)
def il{s:List ag}{k:Str}(h:0<=idx (nmP k) (dk s)):(nd s k).ae=k/\nd s k∈dk s:=by obtain⟨_,h2,h3⟩:=gD h;simp only[nmP,beq_iff_eq]at h2;exact⟨h2,h3⟩
def Q4{s:List ag}{x y:ah}(hx:0<=idx (nmP x.ae) (dk s))(kx:kyB (nd s x.ae) x=true)(ky:y.ae=x.ae->kyB (nd s x.ae) y=true):fiP (nd s x.ae) x y=true↔same s x y:=by
 have hn:=(il hx).1;unfold fiP same;rw[hn];by_cases e:y.ae=x.ae
 ·have e1:(y.ae == x.ae)=true:=by simpa using e
  rw[e1,jH,skB,kx,ky e];by_cases r:ig (nd s x.ae).aj=true
  ·rw[if_pos r,r];simp only[Bool.true_and,Bool.not_true,Bool.false_or,Bool.and_eq_true,decide_eq_true_eq,vk,beq_iff_eq,and_self,true_implies];exact⟨λh=>⟨e.symm,h⟩,λh=>h.2⟩
  ·rw[if_neg r,show ig (nd s x.ae).aj=false by simpa using r];simp[e]
 ·have e1:(y.ae == x.ae)=false:=by simpa using e
  rw[e1];constructor
  ·intro h;simp at h
  ·rintro⟨h,_⟩;exact absurd h.symm e
def Z4{n:ag}{k:Str}{es:List aL}{e0:aL}(h:kvF k es=[e0]):F (kvV n k es) k=some (cvS (kt n k) e0.aq):=by rw[kvV,h,map_cons,n9,if_pos (show (ah.mk k (cvS (kt n k) e0.aq) []).ae=k from rfl)];rfl
def Rp{n:ag}{k j:Str}{es:List aL}(h:¬j=k):F (kvV n j es) k=none:=IZ λx hx=>by
 obtain⟨_,_,rfl⟩:=List.mem_map.1 hx;exact h
def yA{n:ag}{k:Str}{es:List aL}{e0:aL}(h:kvF k es=[e0]):∀ {Ks:List Str},k∈Ks->F (Ks.flatMap λk=>kvV n k es) k=some (cvS (kt n k) e0.aq)
 | j::Ks,hk=>by
  rw[flatMap_cons,rH];by_cases e:j=k
  ·subst e;rw[Z4 h];rfl
  ·rw[Rp e,yA h (by simpa[Ne.symm e,show ¬k=j from λc=>e c.symm]using hk)];rfl
def wh{n:ag}{es:List aL}(h:eG n es=true){k:Str}(hk:k∈n.ax):∃e0,kvF k es=[e0]/\e0.ae=k/\cvB (kt n k) e0.aq=true/\¬e0.fOp=4/\¬e0.fOp=5:=by
 have:=List.all_eq_true.1 h k hk;simp only[Bool.and_eq_true,decide_eq_true_eq]at this;obtain⟨h1,h2⟩:=this
 match he:kvF k es,h1 with
 | [e0],_ =>
  rw[he]at h2;simp only[all_cons,all_nil,Bool.and_true,kvG,Bool.and_eq_true,Bool.not_eq_true',decide_eq_false_iff_not]at h2;have hm:e0∈kvF k es:=by rw[he];simp
  have:=(List.mem_filter.1 hm).2;exact⟨e0,rfl,by simpa[edP]using this,h2.1.1,h2.1.2,h2.2⟩
def xM{n:ag}{e:aL}(h:n.aj=2->eG n e.af=true):kyB n (cO n e)=true:=by
 by_cases h2:n.aj=2
 ·refine(oT h2 (List.all_eq_true.2 λk hk=>?_)).2;obtain⟨e0,h3,_⟩:=wh (h h2) hk;rw[u4];show (F (if n.aj=2 then _ else []) k).isSome=true;rw[if_pos h2,yA h3 hk];rfl
 ·exact(ij h2).2
def wE{k:Str}{c:ag}(hk:k∈nmS (dk c.af)):∀ {all:List ag},(∀c∈all,c.aj=6)->c∈all->k∈nmS (dk all)
 | y::ys,h6,hc=>by
  rw[nO,nmS,map_append,mem_append];rcases List.mem_cons.1 hc with rfl|hc
  ·have e:=h6 c zH;left;rw[e,if_neg daa,if_pos (.inr rfl)];exact hk
  ·right;exact wE hk (λc hc=>h6 c (by simp[hc])) hc
def PY{all:List ag}(h6:∀c∈all,c.aj=6){i m:Nat}(hm:m<=all.length):∀k∈ml all i m,k∈nmS (dk all):=by
 intro k hk;obtain⟨j,hj,hk⟩:=List.mem_flatMap.1 hk;have hj':=List.mem_range.1 hj;split at hk
 ·simp at hk
 ·exact wE hk h6 (at_mem (l:=all) (k:=j) Yt)
def Cv{x:ag}{xs:List ag}{kind:Int}{bd:Bool}(h:kA (x::xs) kind bd=true):jT kind bd x=true/\(∃b,kA x.af x.aj b=true)/\kA xs kind bd=true:=by cases x;rw[kA]at h;simp only[Bool.and_eq_true]at h;exact⟨h.1.1,⟨_,h.1.2.2⟩,h.2⟩
def Y5{x:ag}{kind:Int}{bd:Bool}(h:jT kind bd x=true):x.aj=6↔kind=5:=by simp only[jT,Bool.and_eq_true,beq_iff_eq,decide_eq_decide]at h;exact h.1.1.1.2
def Qr:∀ {l:List ag} {bd:Bool},kA l 5 bd=true->∀c∈l,c.aj=6
 | x::xs,bd,h,c,hc=>by
  have:=Cv h;rcases List.mem_cons.1 hc with rfl|hc
  ·exact(Y5 this.1).2 rfl
  ·exact Qr this.2.2 c hc
def zX{x:ag}(h:x.aj=5\/x.aj=6)(xs:List ag):nmS (dk (x::xs))=nmS (dk x.af)++nmS (dk xs):=by rw[nO,nmS,map_append];rw[if_neg (by rcases h with h|h<;>rw[h]<;>decide),if_pos h];rfl
mutual
def Db:∀(s:List ag) (kind:Int) (bd:Bool) (nm:Str) (o:List Str),kA s kind bd=true->oth s nm=some o->∀k∈o,k∈nmS (dk s)
 | [],_,_,_,_,_,h=>by simp[oth]at h
 | .mk kd a b c d e f g h0 i j l m n ks::xs,kind,bd,nm,o,hA,h=>by
  have hc:=Cv hA
  have hxs:∀o,oth xs nm=some o->∀k∈o,k∈nmS (dk (.mk kd a b c d e f g h0 i j l m n ks::xs)):=λo ho k hk=>by
   have:=Db xs kind bd nm o hc.2.2 ho k hk;rw[nO,nmS,map_append,mem_append];exact .inr this
  rw[oth]at h;split at h
  ·injection h with h;subst h;intro k hk;simp at hk
  ·split at h
   ·rename_i h5;obtain⟨bb,hk2⟩:=hc.2.1
    cases hC:lQ ks 0 ks nm with
    | some o2 =>
     rw[hC]at h;injection h with h;subst h
     intro k hk;have h6:=Qr (l:=ks) (bd:=bb) (by rw[<- h5];exact hk2)
     have:=Ap ks 0 ks 5 bb nm o2 (by rw[<- h5];exact hk2) h6 hC (λc hc=>hc) zH k hk;rw[zX (x:=.mk kd a b c d e f g h0 i j l m n ks) (.inl h5),mem_append];exact .inl this
    | none=>rw[hC]at h;exact hxs o h
   ·exact hxs o h
def Ap:∀(all:List ag) (i:Nat) (xs:List ag) (kind:Int) (bd:Bool) (nm:Str) (o:List Str),kA xs kind bd=true->(∀c∈all,c.aj=6)->lQ all i xs nm=some o->(∀c∈xs,c∈all)->(True)->∀k∈o,k∈nmS (dk all)
 | _,_,[],_,_,_,_,_,_,h,_,_=>by simp[lQ]at h
 | all,i,.mk kd a b c d e f g h0 i' j l m n ks::xs,kind,bd,nm,o,hA,h6,h,hs,_=>by
  have hc:=Cv hA;rw[lQ]at h
  cases hC:oth ks nm with
  | some o2 =>
   rw[hC]at h;injection h with h;subst h
   intro k hk;rcases List.mem_append.1 hk with hk|hk
   ·obtain⟨bb,hk2⟩:=hc.2.1;have h1:=Db ks _ bb nm o2 hk2 hC k hk;exact wE (c:=.mk kd a b c d e f g h0 i' j l m n ks) h1 h6 (hs _ (mem_cons_self ..))
   ·exact PY h6 (Nat.le_refl _) k hk
  | none=>rw[hC]at h;exact Ap all (i+1) xs kind bd nm o hc.2.2 h6 h (λc hc=>hs c (by simp[hc])) trivial
end
def J3:∀ {s:List ag} {kind:Int} {bd:Bool} {nm:Str} {o:List Str} {m:ag},kA s kind bd=true->(nmS (dk s)).Nodup->m∈s->dR m.aj=true->oth s nm=some o->¬m.ae∈o
 | x::xs,kind,bd,nm,o,m,hA,hd,hm,hk,ho,c=>by
  have hc:=Cv hA
  have ho2:=ho
  have hd2:=hd;rw[nO,nmS,map_append,nodup_append]at hd;rw[Ao]at ho
  have hxs:oth xs nm=some o->False:=λh=>by
   rcases List.mem_cons.1 hm with rfl|hm
   ·have h1:=Db xs kind bd nm o hc.2.2 h _ c;rw[if_pos hk]at hd;exact hd.2.2 m.ae zH m.ae h1 rfl
   ·exact J3 hc.2.2 hd.2.1 hm hk h c
  split at ho
  ·injection ho with ho;subst ho;simp at c
  ·split at ho
   ·rename_i h5
    cases hC:lQ x.af 0 x.af nm with
    | some o2 =>
     rw[hC]at ho;injection ho with ho;subst ho
     obtain⟨bb,hk2⟩:=hc.2.1;rw[h5]at hk2;have h1:=Ap _ _ _ _ _ _ _ hk2 (Qr hk2) hC (λc hc=>hc) trivial _ c;rw[zX (.inl h5),nodup_append]at hd2;rcases List.mem_cons.1 hm with rfl|hm
     ·rw[h5]at hk;exact absurd hk daa
     ·exact hd2.2.2 _ h1 m.ae (List.mem_map.2 ⟨m,yh hm hk,rfl⟩) rfl
    | none=>rw[hC]at ho;exact hxs ho
   ·exact hxs ho
def sG(s:List ag)(k:Str):Prop:=∃m∈s,m.ae=k/\m.aj=3
def uW{s:List ag}(hg:gdS s){k:Str}(h:sG s k):0<=idx (nmP k) (dk s)/\(nd s k).aj=3/\∀nm,cont (jG s nm) k=false:=by
 obtain⟨m,hm,rfl,h3⟩:=h;obtain⟨hd,kind,bd,hA⟩:=hg;have hk:dR m.aj=true:=by rw[h3];rfl
 have hmd:=yh hm hk
 have h0:0<=idx (nmP m.ae) (dk s):=by
  rcases Int.lt_or_le (idx (nmP m.ae) (dk s)) 0 with c|c
  ·have:=xV (p:=nmP m.ae) Yt m hmd;simp[nmP]at this
  ·exact c
 refine⟨h0,?_,λnm=>?_⟩
 ·have:=il h0;rw[AU hd this.2 hmd this.1];exact h3
 ·rw[Bool.eq_false_iff];intro c;rw[iW,jG]at c
  cases ho:oth s nm with
  | none=>rw[ho]at c;simp at c
  | some o=>rw[ho]at c;exact J3 hA ((qy _).1 hd) hm hk ho c
def DS{s:List ag}(h:gdS s){n:ag}(hn:n∈dk s):∀k∈n.ax,sG n.af k/\kt n k=(nd n.af k).fType/\0<=idx (fG k) n.af:=by
 have hg:=(pG h hn).1;obtain⟨_,kind,bd,hA⟩:=h;obtain⟨⟨kd,b,ho⟩,_⟩:=yR s kind bd hA n hn;intro k hk;simp only[jT,Bool.and_eq_true]at ho;have:=List.all_eq_true.1 ho.1.2 k hk;simp only[pX,Bool.and_eq_true,decide_eq_true_eq]at this;obtain⟨h1,h2,h3⟩:=gD this.1;simp only[fG,Bool.and_eq_true,beq_iff_eq,decide_eq_true_eq]at h2
 have hD:sG n.af k:=⟨_,h3,h2.1,h2.2⟩
 refine⟨hD,?_,this.1⟩;have h4:=il (uW hg hD).1;rw[kt,AU hg.1 (yh h3 (by rw[h2.2];rfl)) h4.2 (h2.1.trans h4.1.symm)]
def Kp(s:List ag)(es:List aL)(l l':List ah):Prop:=∀k,sG s k->((∀e∈es,¬e.ae=k)->F l' k=F l k)/\(∀e0,kvF k es=[e0]->¬e0.fOp=4->¬e0.fOp=5->F l' k=some (cvS (nd s k).fType e0.aq))
def TT{k:Str}{es:List aL}(h:kvF k es=[]):∀e∈es,¬e.ae=k:=λe he c=>by
 have:e∈kvF k es:=List.mem_filter.2 ⟨he,by simpa[edP]using c⟩;rw[h]at this;simp at this
def Dz(k:Str)(e:aL)(es:List aL):kvF k (e::es)=if e.ae=k then e::kvF k es else kvF k es:=by
 rw[kvF,filter_cons];by_cases h:e.ae=k
 ·rw[if_pos h,if_pos (by simpa[edP]using h)];rfl
 ·rw[if_neg h,if_neg (by simpa[edP]using h)];rfl
def XF(s:List ag)(l:List ah):Kp s [] l l:=λk _=>⟨λ_=>rfl,λe0 h=>by simp[kvF]at h⟩
def UM{s:List ag}{e:aL}{es:List aL}{l l1 l2:List ah}(h1:Kp s [e] l l1)(h2:Kp s es l1 l2):Kp s (e::es) l l2:=λk hk=>by
 refine⟨λh=>?_,λe0 h a b=>?_⟩
 ·rw[(h2 k hk).1 λx hx=>h x (by simp[hx]),(h1 k hk).1 λx hx=>by rw[List.mem_singleton.1 hx];exact h e zH]
 ·rw[Dz]at h;split at h
  ·rename_i hn;injection h with h3 h4
   subst h3;rw[(h2 k hk).1 (TT h4)];exact(h1 k hk).2 e (by rw[Dz,if_pos hn];rfl) a b
  ·exact(h2 k hk).2 e0 h a b
def ROk(R:Rec)(s:List ag)(es:List aL):Prop:=∀l,J s l->(R s l).2=0->J s (R s l).1/\Kp s es l (R s l).1
section
variable {R : Rec} {s : List ag} {l : List ah} {e : aL}
def kz(n:ag)(e:aL):(cO n e).ae=n.ae:=rfl
def wi{n:ag}(h:n.aj=4):(cO n e).aq=cvS n.fType e.aq:=by rw[cO,if_pos h];rfl
def H3(hg:gdS s)(hJ:J s l)(h0:0<=idx (nmP e.ae) (dk s))(hk:(nd s e.ae).aj=2->eG (nd s e.ae) e.af=true)(y:ah)(hy:y∈l):fiP (nd s e.ae) (cO (nd s e.ae) e) y=true↔same s (cO (nd s e.ae) e) y:=by
 have hn:=(il h0).1
 have e1:(cO (nd s e.ae) e).ae=e.ae:=by rw[kz,hn]
 have:=Q4 (s:=s) (x:=cO (nd s e.ae) e) (y:=y) (by rw[e1];exact h0) (by rw[e1];exact xM hk) (λc=>by
  rw[e1]at c ⊢;have:=((ox.1 hJ).1 y hy).2.1
  rw[c]at this;exact this)
 rw[e1]at this;exact this
def DU(hg:gdS s)(hJ:J s l)(h0:0<=idx (nmP e.ae) (dk s))(hk:(nd s e.ae).aj=2->eG (nd s e.ae) e.af=true)(hi:0<=fnd (nd s e.ae) l (cO (nd s e.ae) e)):(fnd (nd s e.ae) l (cO (nd s e.ae) e)).toNat<l.length/\same s (cO (nd s e.ae) e) (at_ l (fnd (nd s e.ae) l (cO (nd s e.ae) e)).toNat):=by obtain⟨a,b,c⟩:=gD hi;exact⟨a,(H3 hg hJ h0 hk _ c).1 b⟩
def fresh(hg:gdS s)(hJ:J s l)(h0:0<=idx (nmP e.ae) (dk s))(hk:(nd s e.ae).aj=2->eG (nd s e.ae) e.af=true):∀y∈dl l (fnd (nd s e.ae) l (cO (nd s e.ae) e)),¬same s (cO (nd s e.ae) e) y:=by
 intro y hy;by_cases hi:0<=fnd (nd s e.ae) l (cO (nd s e.ae) e)
 ·obtain⟨a,b⟩:=DU hg hJ h0 hk hi;rw[dl,if_pos hi,vf]at hy;have:=(ox.1 hJ).2;rw[pM a,xz]at this;exact λc=>this.1 y hy (nI (tq b) c)
 ·have hy2:y∈l:=by rw[dl,if_neg hi]at hy;exact hy
  intro c;have:=xV hi y hy2;rw[(H3 hg hJ h0 hk y hy2).2 c]at this;cases this
def XG(h0:0<=idx (nmP e.ae) (dk s)){k:Str}(h:¬e.ae=k):F (dl l (fnd (nd s e.ae) l (cO (nd s e.ae) e))) k=F l k:=by
 unfold dl;split
 ·rename_i hi;obtain⟨a,b,c⟩:=gD hi;refine Sp a ?_;simp only[fiP,Bool.and_eq_true,beq_iff_eq]at b;rw[show (at_ l (fnd (nd s e.ae) l (cO (nd s e.ae) e)).toNat).ae=_ from b.1.1,(il h0).1];exact h
 ·rfl
def Ax(hg:gdS s)(h0:0<=idx (nmP e.ae) (dk s))(h2:(nd s e.ae).aj=2)(hk:eG (nd s e.ae) e.af=true){a ks:List ah}(hK:Kp (nd s e.ae).af e.af a ks){x:ah}(hx:x.af=ks):kyB (nd s e.ae) x=kyB (nd s e.ae) (cO (nd s e.ae) e)/\kyL (nd s e.ae) x=kyL (nd s e.ae) (cO (nd s e.ae) e):=by refine abT h2 λk hm=>?_;obtain⟨e0,q1,q2,q3,q4,q5⟩:=wh hk hm;obtain⟨d1,d2,_⟩:=DS hg (il h0).2 k hm;rw[hx,(hK k d1).2 e0 q1 q4 q5,<- d2];show _=F (if (nd s e.ae).aj=2 then _ else []) k;rw[if_pos h2,yA q1 hm]
def DA(h0:0<=idx (nmP e.ae) (dk s)):(nd s e.ae).aj=1\/(nd s e.ae).aj=2\/(nd s e.ae).aj=3\/(nd s e.ae).aj=4:=by have:=y9 s _ (il h0).2;simp only[dR,Bool.and_eq_true,decide_eq_true_eq]at this;omega
def Xq(hg:gdS s)(hJ:J s l)(h0:0<=idx (nmP e.ae) (dk s))(hk:(nd s e.ae).aj=2->eG (nd s e.ae) e.af=true)(hf:∀y∈l,¬same s (cO (nd s e.ae) e) y)(hR:ROk R (nd s e.ae).af e.af)(hr:(crt R s l (nd s e.ae) e).2=0) :
  J s (crt R s l (nd s e.ae) e).1/\(∀k,sG s k->(¬e.ae=k->F (crt R s l (nd s e.ae) e).1 k=F l k)/\(e.ae=k->F (crt R s l (nd s e.ae) e).1 k=some (cvS (nd s k).fType e.aq))):=by
 have hn:=(il h0).1
 have hw:=CX (rV s (nd s e.ae).ae l) hJ
 have hfw:∀y∈wo s (nd s e.ae).ae l,¬same s (cO (nd s e.ae) e) y:=λy hy=>hf y ((rV _ _ _).subset hy)
 have put:∀x:ah,x.ae=e.ae->jX s x->same s (cO (nd s e.ae) e) x->J s (ins s (wo s (nd s e.ae).ae l) x)/\∀k,sG s k->¬e.ae=k->F (ins s (wo s (nd s e.ae).ae l) x) k=F l k:=λx hx h1 h2 =>
  ⟨Z2 hw h1 λy hy c=>hfw y hy (nI h2 c),λk hk hne=>by rw[Z5 (by rw[hx];exact hne),ado ((uW hg hk).2.2 _)]⟩
 by_cases c1:(nd s e.ae).aj=3\/(nd s e.ae).aj=4
 ·rw[crt,if_pos c1];have hkb:kyB (nd s e.ae) (.mk (nd s e.ae).ae (cvS (nd s e.ae).fType e.aq) [])=true:=(ij Yt).2
  have hj:jX s (.mk (nd s e.ae).ae (cvS (nd s e.ae).fType e.aq) []):=by
   refine⟨?_,?_,?_⟩
   ·show 0<=idx (nmP (nd s e.ae).ae) (dk s);rw[hn];exact h0
   ·show kyB (nd s (nd s e.ae).ae) _=true;rw[hn];rw[hn]at hkb;exact hkb
   ·intro c;exfalso;have c2:(nd s (nd s e.ae).ae).aj=1\/(nd s (nd s e.ae).ae).aj=2:=c;rw[hn]at c2;omega
  have hs:same s (cO (nd s e.ae) e) (.mk (nd s e.ae).ae (cvS (nd s e.ae).fType e.aq) []):=by
   refine⟨rfl,λr=>?_⟩;rw[kz,hn]at r ⊢;rw[(ij Yt).1,(ij Yt).1];rcases c1 with c1|c1
   ·rw[c1]at r;exact absurd r daa
   ·rw[wi c1];rfl
  obtain⟨p1,p2⟩:=put (.mk (nd s e.ae).ae (cvS (nd s e.ae).fType e.aq) []) hn hj hs;refine⟨p1,λk hk=>⟨p2 k hk,λhek=>?_⟩⟩;subst hek;have h3:=(uW hg hk).2.1
  have:=My (s:=s) (l:=wo s (nd s e.ae).ae l) (x:=.mk (nd s e.ae).ae (cvS (nd s e.ae).fType e.aq) []) (λy hy c=>hfw y hy ⟨c.symm,λr=>by rw[kz,hn,h3]at r;exact absurd r daa⟩);rw[show (ah.mk (nd s e.ae).ae (cvS (nd s e.ae).fType e.aq) []).ae=e.ae from hn]at this;exact this
 ·have hnk:∀k,sG s k->e.ae=k->False:=λk hk c=>by
   have:=(uW hg hk).2.1;rw[<- c]at this;exact c1 (.inl this)
  rw[crt,if_neg c1]at hr ⊢;by_cases c2:¬(R (nd s e.ae).af []).2=0
  ·rw[if_pos c2]at hr;exact absurd hr c2
  ·rw[if_neg c2]at hr ⊢;by_cases c3:(nd s e.ae).aj=1/\(nd s e.ae).bZ=false/\(R (nd s e.ae).af []).1=[]
   ·rw[if_pos c3];exact⟨hJ,λk hk=>⟨λ_=>rfl,λc=>(hnk k hk c).elim⟩⟩
   ·rw[if_neg c3];obtain⟨r1,r2⟩:=hR [] CY (by simpa using c2);generalize (R (nd s e.ae).af []).1=ks at r1 r2
    have hky:(nd s e.ae).aj=2->kyB (nd s e.ae) (.mk (nd s e.ae).ae [] ks)=true/\kyL (nd s e.ae) (.mk (nd s e.ae).ae [] ks)=kyL (nd s e.ae) (cO (nd s e.ae) e):=λh2=>by
     have:=Ax hg h0 h2 (hk h2) r2 (x:=.mk (nd s e.ae).ae [] ks) rfl;rw[xM λ_=>hk h2]at this;exact this
    have hj:jX s (.mk (nd s e.ae).ae [] ks):=by
     have e2:(ah.mk (nd s e.ae).ae [] ks).ae=e.ae:=hn;refine⟨by rw[e2];exact h0,?_,λ_=>⟨rfl,by rw[e2];exact r1⟩⟩;rw[e2];by_cases h2:(nd s e.ae).aj=2
     ·exact(hky h2).1
     ·exact(ij h2).2
    have hs:same s (cO (nd s e.ae) e) (.mk (nd s e.ae).ae [] ks):=by
     refine⟨rfl,λr=>?_⟩;rw[kz,hn]at r ⊢
     have h2:(nd s e.ae).aj=2:=by
      simp only[ig,Bool.or_eq_true,decide_eq_true_eq]at r;omega
     have:=(hky h2).2;rw[hn]at this;exact this.symm
    obtain⟨p1,p2⟩:=put (.mk (nd s e.ae).ae [] ks) hn hj hs;exact⟨p1,λk hk=>⟨p2 k hk,λc=>(hnk k hk c).elim⟩⟩
def Mx{i:Nat}{y:ah}(hi:i<l.length)(h:∀w∈l.take i++l.drop (i+1),¬w.ae=y.ae):F (l.set i y) y.ae=some y.aq:=by rw[uF hi,rH,n9,if_pos rfl,IZ λw hw=>h w (mem_append_left _ hw)];rfl
def V6(hg:gdS s)(hJ:J s l)(h0:0<=idx (nmP e.ae) (dk s))(hk:(nd s e.ae).aj=2->eG (nd s e.ae) e.af=true){i:Nat}(hi:i<l.length)(hs:same s (cO (nd s e.ae) e) (at_ l i))(hR:ROk R (nd s e.ae).af e.af)(hr:(mrg R l i (nd s e.ae) e).2=0) :
  J s (mrg R l i (nd s e.ae) e).1/\(∀k,sG s k->(¬e.ae=k->F (mrg R l i (nd s e.ae) e).1 k=F l k)/\(e.ae=k->F (mrg R l i (nd s e.ae) e).1 k=some (cvS (nd s k).fType e.aq))):=by
 have hn:=(il h0).1
 have hni:(at_ l i).ae=e.ae:=by rw[<- hs.1,kz,hn]
 have hjx:=(ox.1 hJ).1 _ (at_mem hi)
 have put:∀y:ah,y.ae=e.ae->jX s y->same s y (at_ l i)->J s (l.set i y)/\∀k,sG s k->¬e.ae=k->F (l.set i y) k=F l k:=λy hy h1 h2 =>
  ⟨Z1 hJ hi h1 h2,λk _ hne=>Z3 hi (by rw[hni];exact hne) (by rw[hy];exact hne)⟩
 by_cases c1:(nd s e.ae).aj=3
 ·rw[mrg,if_pos c1]
  have hj:jX s (.mk (at_ l i).ae (cvS (nd s e.ae).fType e.aq) (at_ l i).af):=by
   have e2:(ah.mk (at_ l i).ae (cvS (nd s e.ae).fType e.aq) (at_ l i).af).ae=e.ae:=hni;refine⟨by rw[e2];exact h0,by rw[e2];exact(ij Yt).2,λc=>?_⟩;exfalso;rw[e2]at c;omega
  have hsm:same s (.mk (at_ l i).ae (cvS (nd s e.ae).fType e.aq) (at_ l i).af) (at_ l i):=⟨rfl,λr=>by
   have r2:ig (nd s (at_ l i).ae).aj=true:=r
   rw[hni,c1]at r2;exact absurd r2 daa⟩
  obtain⟨p1,p2⟩:=put (.mk (at_ l i).ae (cvS (nd s e.ae).fType e.aq) (at_ l i).af) hni hj hsm;refine⟨p1,λk hk=>⟨p2 k hk,λhek=>?_⟩⟩;subst hek;have hp:=(ox.1 hJ).2;rw[pM hi,xz]at hp;have:=Mx (y:=.mk (at_ l i).ae (cvS (nd s e.ae).fType e.aq) (at_ l i).af) hi (λw hw c=>hp.1 w hw ⟨c.symm,λr=>by rw[hni,c1]at r;exact absurd r daa⟩);rw[show (ah.mk (at_ l i).ae (cvS (nd s e.ae).fType e.aq) (at_ l i).af).ae=e.ae from hni]at this;exact this
 ·have hnk:∀k,sG s k->e.ae=k->False:=λk hk c=>by
   have:=(uW hg hk).2.1;rw[<- c]at this;exact c1 this
  rw[mrg,if_neg c1]at hr ⊢;by_cases c0:(nd s e.ae).aj=1\/(nd s e.ae).aj=2
  ·rw[if_pos c0]at hr ⊢;by_cases c2:¬(R (nd s e.ae).af (at_ l i).af).2=0
   ·rw[if_pos c2]at hr;exact absurd hr c2
   ·rw[if_neg c2]at hr ⊢;by_cases c3:(nd s e.ae).aj=1/\(nd s e.ae).bZ=false/\(R (nd s e.ae).af (at_ l i).af).1=[]
    ·rw[if_pos c3];exact⟨CX (eraseIdx_sublist ..) hJ,λk hk=>⟨λhne=>Sp hi (by rw[hni];exact hne),λc=>(hnk k hk c).elim⟩⟩
    ·rw[if_neg c3];have hjk:=hjx.2.2 (by rw[hni];exact c0);rw[hni]at hjk;obtain⟨r1,r2⟩:=hR _ hjk.2 (by simpa using c2);generalize (R (nd s e.ae).af (at_ l i).af).1=ks at r1 r2
     have hky:(nd s e.ae).aj=2->kyB (nd s e.ae) (.mk (at_ l i).ae (at_ l i).aq ks)=true/\kyL (nd s e.ae) (.mk (at_ l i).ae (at_ l i).aq ks)=kyL (nd s e.ae) (cO (nd s e.ae) e):=λh2=>by
      have:=Ax hg h0 h2 (hk h2) r2 (x:=.mk (at_ l i).ae (at_ l i).aq ks) rfl;rw[xM λ_=>hk h2]at this;exact this
     have e2:(ah.mk (at_ l i).ae (at_ l i).aq ks).ae=e.ae:=hni
     have hj:jX s (.mk (at_ l i).ae (at_ l i).aq ks):=by
      refine⟨by rw[e2];exact h0,?_,λ_=>⟨hjk.1,by rw[e2];exact r1⟩⟩;rw[e2];by_cases h2:(nd s e.ae).aj=2
      ·exact(hky h2).1
      ·exact(ij h2).2
     have hsm:same s (.mk (at_ l i).ae (at_ l i).aq ks) (at_ l i):=by
      refine nI (tq (x:=cO (nd s e.ae) e) ⟨by rw[e2,kz,hn],λr=>?_⟩) hs;rw[kz,hn]at r ⊢
      have h2:(nd s e.ae).aj=2:=by
       simp only[ig,Bool.or_eq_true,decide_eq_true_eq]at r;have:=DA h0;rcases r with r|r
       ·exact r
       ·omega
      exact(hky h2).2.symm
     obtain⟨p1,p2⟩:=put (.mk (at_ l i).ae (at_ l i).aq ks) hni hj hsm;exact⟨p1,λk hk=>⟨p2 k hk,λc=>(hnk k hk c).elim⟩⟩
  ·rw[if_neg c0];exact⟨hJ,λk hk=>⟨λ_=>rfl,λc=>(hnk k hk c).elim⟩⟩
def Rt{n:ag}(h:wrg n e=0):((n.aj=1\/n.aj=2)->e.aq=[])/\(¬(n.aj=1\/n.aj=2)->e.af=[])/\1<=e.fOp/\e.fOp<=5/\((n.aj=4\/n.aj=3/\¬(e.fOp=4\/e.fOp=5))->cvB n.fType e.aq=true):=by
 unfold wrg at h;split at h
 ·exact absurd h daa
 ·split at h
  ·exact absurd h daa
  ·split at h
   ·exact absurd h daa
   ·rename_i a b c;refine⟨λq=>?_,λq=>?_,Yt,Yt,λq=>?_⟩
    ·rcases Decidable.em (e.aq=[])with z|z
     ·exact z
     ·exact absurd (.inl ⟨q,z⟩) a
    ·rcases Decidable.em (e.af=[])with z|z
     ·exact z
     ·exact absurd (.inr ⟨q,z⟩) a
    ·cases z:cvB n.fType e.aq with
     | true=>rfl
     | false=>exact absurd ⟨q,z⟩ c
def Nt(hg:gdS s)(hJ:J s l)(hR:∀n∈dk s,ROk R n.af e.af)(hr:(one R s l e).2=0):J s (one R s l e).1/\Kp s [e] l (one R s l e).1:=by
 unfold one at hr ⊢;by_cases c1:idx (nmP e.ae) (dk s)<0
 ·rw[if_pos c1]at hr;exact absurd hr daa
 rw[if_neg c1]at hr ⊢;by_cases c2:¬wrg (nd s e.ae) e=0
 ·rw[if_pos c2]at hr;exact absurd hr c2
 rw[if_neg c2]at hr ⊢;by_cases c3:(nd s e.ae).aj=2/\eG (nd s e.ae) e.af=false
 ·rw[if_pos c3]at hr;exact absurd hr daa
 rw[if_neg c3]at hr ⊢;have h0:0<=idx (nmP e.ae) (dk s):=by omega
 have hk:(nd s e.ae).aj=2->eG (nd s e.ae) e.af=true:=λh2=>by
  cases z:eG (nd s e.ae) e.af with
  | true=>rfl
  | false=>exact absurd ⟨h2,z⟩ c3
 have hRn:=hR _ (il h0).2
 have kp:∀l',(∀k,sG s k->(¬e.ae=k->F l' k=F l k)/\(e.ae=k->¬e.fOp=4->¬e.fOp=5->F l' k=some (cvS (nd s k).fType e.aq)))->Kp s [e] l l':=λl' h k hk=>⟨λq=>(h k hk).1 (q e zH),λe0 q a b=>by
  rw[Dz]at q;split at q
  ·rename_i z;injection q with q _
   subst q;exact(h k hk).2 z a b
  ·simp[kvF]at q⟩
 split at hr
 ·exact absurd hr daa
 ·rename_i c4;rw[if_neg c4];split at hr
  ·exact absurd hr daa
  ·rename_i c5;rw[if_neg c5];by_cases c6:e.fOp=5/\fnd (nd s e.ae) l (cO (nd s e.ae) e)<0
   ·rw[if_pos c6];exact⟨hJ,kp _ λk hk=>⟨λ_=>rfl,λ_ _ c=>absurd c6.1 c⟩⟩
   ·rw[if_neg c6]at hr ⊢;by_cases c7:e.fOp=1/\0<=fnd (nd s e.ae) l (cO (nd s e.ae) e)
    ·rw[if_pos c7]at hr ⊢;obtain⟨a,b⟩:=DU hg hJ h0 hk c7.2;have:=V6 hg hJ h0 hk a b hRn hr;exact⟨this.1,kp _ λk hk=>⟨(this.2 k hk).1,λq _ _=>(this.2 k hk).2 q⟩⟩
    ·rw[if_neg c7]at hr ⊢;have hJd:=CX (CK l (fnd (nd s e.ae) l (cO (nd s e.ae) e))) hJ;by_cases c8:e.fOp=4\/e.fOp=5
     ·rw[if_pos c8];exact⟨hJd,kp _ λk hk=>⟨λhne=>XG h0 hne,λ_ a b=>by omega⟩⟩
     ·rw[if_neg c8]at hr ⊢;have:=Xq hg hJd h0 hk (fresh hg hJ h0 hk) hRn hr;exact⟨this.1,kp _ λk hk=>⟨λhne=>by rw[(this.2 k hk).1 hne,XG h0 hne],λq _ _=>(this.2 k hk).2 q⟩⟩
end
def G5:∀(es:List aL) (s:List ag) (l:List ah),gdS s->J s l->(mdE es s l).2=0->J s (mdE es s l).1/\Kp s es l (mdE es s l).1
 | [],s,l,_,hJ,_=>by rw[mdE];exact⟨hJ,XF s l⟩
 | .mk op nm v ks::es,s,l,hg,hJ,hr=>by
  rw[vZ]at hr ⊢;by_cases c:¬(one (mdE (aL.mk op nm v ks).af) s l (.mk op nm v ks)).2=0
  ·rw[if_pos c]at hr;exact absurd hr c
  rw[if_neg c]at hr ⊢;have h1:=Nt (R:=mdE (aL.mk op nm v ks).af) (e:=.mk op nm v ks) hg hJ (λn hn l hl hz=>G5 ks n.af l (pG hg hn).1 hl hz) (by simpa using c)
  have h2:=G5 es s _ hg h1.1 hr;exact⟨h2.1,UM h1.2 h2.2⟩
def Qe(a:List Str):dZ a a=false:=by have:=mZ a a;rw[beq_self_eq_true]at this;simp only[Bool.and_eq_true,Bool.not_eq_true']at this;exact this.1
def Rm{s:List ag}{x y:ah}(h:eB (dk s) x y=true):¬same s x y:=by
 rintro⟨h1,h2⟩;unfold eB at h;rw[h1]at h;split at h
 ·rename_i c;rw[h1]at h2;rw[h2 c.2,Qe]at h;cases h
 ·simp at h
def FY:∀(l:List ah) (s:List ag),gdS s->(∀x∈l,okX (dk s) x)->l.Pairwise (λx y=>eB (dk s) x y=true)->J s l
 | [],s,_,_,_=>CY
 | .mk nm v ks::xs,s,hg,h,hp=>by
  rw[Pn];have hp:=List.pairwise_cons.1 hp
  have hx:=h (.mk nm v ks) zH;refine⟨⟨hx.1,uN hx.2,λc=>?_⟩,λy hy=>Rm (hp.1 y hy),FY xs s hg (λy hy=>h y (by simp[hy])) hp.2⟩;have c2:(at_ (dk s) (idx (nmP (ah.mk nm v ks).ae) (dk s)).toNat).aj=1\/(at_ (dk s) (idx (nmP (ah.mk nm v ks).ae) (dk s)).toNat).aj=2:=c
  have hk:=Aq hx.2 Yt
  have hs:=J5.1 hk.2.1;exact⟨hk.1,FY ks _ (pG hg (uM hx).2).1 hs.1 hs.2⟩
def Qv{s:List ag}{l:List ah}(h:dw s l=true):J s l:=by simp only[dw,Bool.and_eq_true]at h;have:=J5.1 h.2;exact FY l s (yG h.1.1) this.1 this.2
def Gk{s:List ag}{x y:ah}(hx:0<=idx (nmP x.ae) (dk s))(e:idx (nmP x.ae) (dk s)=idx (nmP y.ae) (dk s)):x.ae=y.ae:=by
 have h1:=(il hx).1
 have h2:=(il (s:=s) (k:=y.ae) Yt).1;rw[<- h1,<- h2];unfold nd;rw[e]
def Xy{s:List ag}{x y:ah}(hx:0<=idx (nmP x.ae) (dk s))(hn:¬same s x y):eB (dk s) y x=!stP (dk s) x y:=by
 unfold eB stP;by_cases e:idx (nmP y.ae) (dk s)=idx (nmP x.ae) (dk s)
 ·have hne:=Gk hx e.symm;by_cases r:ig (at_ (dk s) (idx (nmP x.ae) (dk s)).toNat).aj=true
  ·have hk:¬kyL (nd s x.ae) x=kyL (nd s x.ae) y:=λc=>hn ⟨hne,λ_=>c⟩;rw[if_pos ⟨e,r⟩,jH,if_pos r,kP];have hz:¬cmpL (kyL (nd s x.ae) y) (kyL (nd s x.ae) x)=0:=λc=>hk ((vk _ _).1 c).symm;rw[show decide (idx (nmP x.ae) (dk s)<idx (nmP y.ae) (dk s))=false by simp;omega,show decide (idx (nmP y.ae) (dk s)=idx (nmP x.ae) (dk s))=true by simpa using e,Bool.false_or,Bool.true_and,Bool.eq_iff_iff,decide_eq_true_eq,Bool.not_eq_true',decide_eq_false_iff_not];show cmpL (kyL (nd s x.ae) y) (kyL (nd s x.ae) x)<0↔¬0<cmpL (kyL (nd s x.ae) y) (kyL (nd s x.ae) x);omega
  ·exact absurd ⟨hne,λc=>absurd c r⟩ hn
 ·rw[if_neg (λc=>e c.1),show decide (idx (nmP y.ae) (dk s)=idx (nmP x.ae) (dk s))=false by simpa using e,Bool.false_and,Bool.or_false,Bool.eq_iff_iff,decide_eq_true_eq,Bool.not_eq_true',decide_eq_false_iff_not];omega
def Rn{s:List ag}{x y:ah}(hx:0<=idx (nmP x.ae) (dk s))(hn:¬same s x y)(h:eB (dk s) y x=false):eB (dk s) x y=true:=by
 unfold eB at h ⊢;by_cases e:idx (nmP y.ae) (dk s)=idx (nmP x.ae) (dk s)
 ·have hne:=Gk hx e.symm;rw[<- hne]at h ⊢;by_cases r:ig (at_ (dk s) (idx (nmP x.ae) (dk s)).toNat).aj=true
  ·rw[if_pos ⟨rfl,r⟩]at h ⊢;have:=mZ (kyL (nd s x.ae) x) (kyL (nd s x.ae) y)
   have hk:¬kyL (nd s x.ae) x=kyL (nd s x.ae) y:=λc=>hn ⟨hne,λ_=>c⟩;rw[show (kyL (nd s x.ae) x == kyL (nd s x.ae) y)=false by simpa using hk,show dZ (kyL (nd s x.ae) y) (kyL (nd s x.ae) x)=false from h]at this;simpa using this
  ·exact absurd ⟨hne,λc=>absurd c r⟩ hn
 ·rw[if_neg (λc=>e c.1)]at h;rw[if_neg (λc=>e c.1.symm)];simp only[decide_eq_false_iff_not]at h;simp only[decide_eq_true_eq];omega
section
variable {s : List ag} {x y : ah} {a b l : List ah}
end
open Go.Ab
def xg{α:Type}{f:α->Int->Int}{l:List α}{r:Int}(h:0<=aM f l r):(l.length:Int)<=r:=by
 rcases Int.lt_or_le (r - l.length) 0 with h4|h4
 ·rw[fM h4]at h;omega
 ·omega
def bS{a:Int}{k:Int->Int}(h:0<=a):thn a k=k a:=by unfold thn;rw[if_neg Yt]
def vW{α:Type}{f:α->Int->α×Int}{s:α->Int->Int}(hs:∀x r,0<=r->s x r<=r)(l:List α)(hf:∀x∈l,∀k r,0<=r->0<=s x r->(f x k).2<=k+32+32 * (r - s x r))(k r:Int)(h0:0<=r)(h:0<=aM s l r):(mkL f l k).2<=k+32 * (r - aM s l r):=by
 have key:∀(l:List α),(∀x∈l,∀k r,0<=r->0<=s x r->(f x k).2<=k+32+32 * (r - s x r))->∀(k r:Int),0<=r->0<=eH s l r->(mkL f l k).2<=k+32 * l.length+32 * (r - eH s l r):=by
  intro l
  induction l with
  | nil=>intro _ k r h0 _;simp[mkL,eH]
  | cons x xs ih =>
   intro hf k r h0 h;rw[eH]at h ⊢;obtain⟨a0,h⟩:=aH h;rw[bS a0];have h1:=hf x zH k r h0 a0
   have h2:=ih (λy hy=>hf y (by simp[hy])) (f x k).2 (s x r) a0 h;simp only[mkL,length_cons];omega
 have h4:=xg h;rw[fY Yt]at h ⊢;have:=key l hf k (r - l.length) Yt h;omega
def fA{α:Type}{f:α->Int->α×Int}{s:α->Int->Int}(hs:∀x r,0<=r->s x r<=r)(hf:∀x k r,0<=r->0<=s x r->(f x k).2<=k+32+32 * (r - s x r))(l:List α)(k r:Int)(h0:0<=r)(h:0<=aM s l r):(mkL f l k).2<=k+32 * (r - aM s l r) :=
 vW hs l (λx _=>hf x) k r h0 h
def o8(x:Str)(k r:Int)(h0:0<=r)(h:0<=aA x r):(ay x k).2<=k+32+32 * (r - aA x r):=by have:=aT x r h0;unfold ay;simp only;omega
def I2(x:ed)(k r:Int)(h0:0<=r)(h:0<=gP x r):(bw x k).2<=k+32+32 * (r - gP x r):=by simp only[bw];unfold gP;omega
def Cz(x:dB)(k:Int):Int:=(mkL ay x.aB ((mkL bw x.az (k+1)).2)).2+1+1
def Cy(x:dB)(k r:Int)(h0:0<=r)(h:0<=eC x r):Cz x k<=k+3+32 * (r - eC x r):=by unfold Cz;unfold eC at h ⊢;obtain⟨a0,h⟩:=aH h;rw[bS a0];have q0:=fA o6 I2 x.az (k+1) r h0 a0;obtain⟨a1,h⟩:=aH h;rw[bS a1];have q1:=fA aT o8 x.aB ((mkL bw x.az (k+1)).2) (aM gP x.az r) a0 a1;obtain⟨a2,h⟩:=aH h;rw[bS a2];have q2:=aT x.aZ (aM aA x.aB (aM gP x.az r)) a1;obtain⟨a3,h⟩:=aH h;rw[bS a3];have q3:=aT x.aG (aA x.aZ (aM aA x.aB (aM gP x.az r))) a2;simp only[id];omega
def aer(x:dB)(k:Int):Unit×Int:=((),(mkL ay x.aB ((mkL bw x.az k).2)).2)
def K8(x:fS)(k r:Int)(h0:0<=r)(h:0<=jY x r):(j1 x k).2<=k+32+32 * (r - jY x r):=by simp only[j1];unfold jY at h ⊢;obtain⟨a0,h⟩:=aH h;rw[bS a0];have q0:=aT x.ae r h0;obtain⟨a1,h⟩:=aH h;rw[bS a1];have q1:=aT x.aq (aA x.ae r) a0;simp only[id];omega
def La(x:GStep)(k r:Int)(h0:0<=r)(h:0<=j0 x r):(gH x k).2<=k+32+32 * (r - j0 x r):=by simp only[gH];unfold j0 at h ⊢;obtain⟨a0,h⟩:=aH h;rw[bS a0];have q0:=aT x.ae r h0;obtain⟨a1,h⟩:=aH h;rw[bS a1];have q1:=fA oK K8 x.cU (k+1) (aA x.ae r) a0 a1;simp only[id];omega
def HC(x:gm)(k:Int):Int:=(mkL gH x.aX (k+1+1)).2
def LJ(x:gm)(k r:Int)(h0:0<=r)(h:0<=ll x r):HC x k<=k+2+32 * (r - ll x r):=by unfold HC;unfold ll at h ⊢;obtain⟨a0,h⟩:=aH h;rw[bS a0];have q0:=fA oM La x.aX (k+1+1) r h0 a0;simp only[id];omega
def aes(x:gm)(k:Int):Unit×Int:=((),(mkL gH x.aX k).2)
def vM(x:bf)(k r:Int)(h0:0<=r)(h:0<=dh x r):(di x k).2<=k+32+32 * (r - dh x r):=by rw[tg];simp only;rw[xk]at h ⊢;obtain⟨a0,h⟩:=aH h;rw[bS a0];have q0:=aT x.cX r h0;obtain⟨a1,h⟩:=aH h;rw[bS a1];have q1:=LJ x.aG (k+1+1+1) (aA x.cX r) a0 a1;simp only[HC]at q1;obtain⟨a2,h⟩:=aH h;rw[bS a2];have q2:=vW gq x.af (λy hy=>vM y) ((mkL gH x.aG.aX (k+1+1+1+1+1)).2) (ll x.aG (aA x.cX r)) a1 a2;simp only[id];omega
termination_by SizeOf.sizeOf x
decreasing_by have:=sizeOf_lt_of_mem hy;cases x;simp[bf.af]at *;omega
def sj(x:ag)(k r:Int)(h0:0<=r)(h:0<=bG x r):(bH x k).2<=k+32+32 * (r - bG x r):=by rw[qe];simp only;rw[uc]at h ⊢;obtain⟨a0,h⟩:=aH h;rw[bS a0];have q0:=aT x.ae r h0;obtain⟨a1,h⟩:=aH h;rw[bS a1];have q1:=Cy x.fType (k+1+1) (aA x.ae r) a0 a1;simp only[Cz]at q1;obtain⟨a2,h⟩:=aH h;rw[bS a2];have q2:=fA aT o8 x.ax ((mkL ay x.fType.aB ((mkL bw x.fType.az (k+1+1+1)).2)).2+1+1) (eC x.fType (aA x.ae r)) a1 a2;obtain⟨a3,h⟩:=aH h;rw[bS a3];have q3:=fA aT o8 x.aJ ((mkL ay x.ax ((mkL ay x.fType.aB ((mkL bw x.fType.az (k+1+1+1)).2)).2+1+1)).2) (aM aA x.ax (eC x.fType (aA x.ae r))) a2 a3;obtain⟨a4,h⟩:=aH h;rw[bS a4];have q4:=aT x.bI (aM aA x.aJ (aM aA x.ax (eC x.fType (aA x.ae r)))) a3;obtain⟨a5,h⟩:=aH h;rw[bS a5];have q5:=fA gq vM x.bY ((mkL ay x.aJ ((mkL ay x.ax ((mkL ay x.fType.aB ((mkL bw x.fType.az (k+1+1+1)).2)).2+1+1)).2)).2+1+1+1+1+1+1+1) (aA x.bI (aM aA x.aJ (aM aA x.ax (eC x.fType (aA x.ae r))))) a4 a5;obtain⟨a6,h⟩:=aH h;rw[bS a6];have q6:=fA gq vM x.cS ((mkL di x.bY ((mkL ay x.aJ ((mkL ay x.ax ((mkL ay x.fType.aB ((mkL bw x.fType.az (k+1+1+1)).2)).2+1+1)).2)).2+1+1+1+1+1+1+1)).2) (aM dh x.bY (aA x.bI (aM aA x.aJ (aM aA x.ax (eC x.fType (aA x.ae r)))))) a5 a6;obtain⟨a7,h⟩:=aH h;rw[bS a7];have q7:=vW fe x.af (λy hy=>sj y) ((mkL di x.cS ((mkL di x.bY ((mkL ay x.aJ ((mkL ay x.ax ((mkL ay x.fType.aB ((mkL bw x.fType.az (k+1+1+1)).2)).2+1+1)).2)).2+1+1+1+1+1+1+1)).2)).2) (aM dh x.cS (aM dh x.bY (aA x.bI (aM aA x.aJ (aM aA x.ax (eC x.fType (aA x.ae r))))))) a6 a7;simp only[id];omega
termination_by SizeOf.sizeOf x
decreasing_by have:=sizeOf_lt_of_mem hy;cases x;simp[ag.af]at *;omega
def j6(x:ah)(k r:Int)(h0:0<=r)(h:0<=bA x r):(aQ x k).2<=k+32+32 * (r - bA x r):=by rw[oP];simp only;rw[xh]at h ⊢;obtain⟨a0,h⟩:=aH h;rw[bS a0];have q0:=aT x.ae r h0;obtain⟨a1,h⟩:=aH h;rw[bS a1];have q1:=aT x.aq (aA x.ae r) a0;obtain⟨a2,h⟩:=aH h;rw[bS a2];have q2:=vW cf x.af (λy hy=>j6 y) (k+1+1) (aA x.aq (aA x.ae r)) a1 a2;simp only[id];omega
termination_by SizeOf.sizeOf x
decreasing_by have:=sizeOf_lt_of_mem hy;cases x;simp[ah.af]at *;omega
def adv(x:List aL)(k:Int):List aL×Int:=mkL o9 x k
open Go Go.Ab
def jK(x:ah)(l:List ah):wt (x::l)=1+x.ae.length+x.aq.length+wt x.af+wt l:=by cases x;simp only[wt,wtg,length_cons,ah.ae,ah.aq,ah.af];omega
def jB:wt []=0:=by simp[wt,wtg]
def zb(a b:List ah)(x:ah):cnt (a++x::b)=1+cnt x.af+cnt (a++b):=by rw[vg,iX,vg];omega
def KJ(l:List ah)(i:Nat):cnt (l.eraseIdx i)<=cnt l:=by
 rw[vf,vg];have h1:cnt l=cnt (l.take i)+cnt (l.drop i):=by rw[<- vg,take_append_drop]
 have h2:cnt (l.drop (i+1))<=cnt (l.drop i):=by
  by_cases h:i<l.length
  ·rw[bT h,iX];omega
  ·rw[dn h,drop_eq_nil_of_le Yt];omega
 omega
def Xr(l:List ah)(i:Int):cnt (dl l i)<=cnt l:=by
 unfold dl;split
 ·exact KJ l _
 ·omega
def CM(p:ah->Bool):∀l:List ah,cnt (l.filter p)<=cnt l
 | []=>by simp
 | x::xs=>by
  have:=CM p xs;rw[filter_cons];split
  ·rw[iX,iX];omega
  ·rw[iX];omega
def KI(s:List ag)(l:List ah)(x:ah):cnt (ins s l x)=1+cnt x.af+cnt l:=by rw[ins,zb,take_append_drop]
def KG{l:List ah}{i:Nat}{y:ah}(h:i<l.length):cnt (l.set i y)+cnt (at_ l i).af=cnt l+cnt y.af:=by
 rw[uF h,zb]
 have:cnt l=1+cnt (at_ l i).af+cnt (l.take i++l.drop (i+1)):=by
  conv=>lhs;rw[pM h]
  rw[zb]
 omega
def JF{l:List ah}{i:Nat}{y:ah}(h:¬i<l.length):l.set i y=l:=by rw[set_eq_of_length_le Yt]
def XC{l:List ah}{i:Nat}(h:¬i<l.length):at_ l i=default:=by unfold at_;rw[getElem?_eq_none Yt];rfl
def De{R:Rec}{c:Nat}(hR:∀s l,cnt (R s l).1<=cnt l+c)(s:List ag)(l:List ah)(e:aL):cnt (one R s l e).1<=cnt l+(1+c):=by
 have hc:∀l',cnt l'<=cnt l->∀n,cnt (crt R s l' n e).1<=cnt l+(1+c):=λl' h n=>by
  have h1:=hR n.af []
  have h2:cnt (wo s n.ae l')<=cnt l':=CM _ _;rw[nP]at h1;unfold crt;repeat' split
  ·rw[KI];simp only[ah.af,nP];omega
  ·rw[nP];omega
  ·simp only;omega
  ·rw[KI];simp only[ah.af];omega
 have hm:∀i n,cnt (mrg R l i n e).1<=cnt l+(1+c):=λi n=>by
  have h1:=hR n.af (at_ l i).af;unfold mrg;repeat' split
  ·by_cases h:i<l.length
   ·have:=KG (y:=.mk (at_ l i).ae (cvS n.fType e.aq) (at_ l i).af) h;simp only[ah.af]at this ⊢;omega
   ·simp only[JF h];omega
  ·rw[nP];omega
  ·have:=KJ l i;simp only;omega
  ·by_cases h:i<l.length
   ·have:=KG (y:=.mk (at_ l i).ae (at_ l i).aq (R n.af (at_ l i).af).1) h;simp only[ah.af]at this h1 ⊢;omega
   ·simp only[JF h];omega
  ·simp only;omega
 have hd:=Xr l (fnd (nd s e.ae) l (cO (nd s e.ae) e));unfold one;repeat' split
 all_goals first|(rw[nP];omega)|(simp only;omega)|exact hm _ _|exact hc _ hd _
def uR:∀(es:List aL) (s:List ag) (l:List ah),cnt (mdE es s l).1<=cnt l+fO es
 | [],s,l=>by rw[mdE];simp only[Iy];omega
 | .mk op nm v ks::es,s,l=>by
  rw[vZ];split
  ·rw[nP];omega
  ·have h1:=De (R:=mdE ks) (c:=fO ks) (λs l=>uR ks s l) s l (.mk op nm v ks)
   have h2:=uR es s (one (mdE ks) s l (.mk op nm v ks)).1;rw[qB];simp only[aL.af]at *;omega
def sv:List ah->Prop
 | []=>True
 | .mk nm v ks::xs=>nm.length<=16/\v.length<=40/\sv ks/\sv xs
def svX(x:ah):Prop:=x.ae.length<=16/\x.aq.length<=40/\sv x.af
def xm:∀ {l:List ah},sv l↔∀x∈l,svX x
 | []=>by simp[sv]
 | .mk nm v ks::xs=>by
  rw[sv,xm (l:=xs)];constructor
  ·rintro⟨a,b,c,d⟩ x hx;rcases List.mem_cons.1 hx with rfl|hx
   ·exact⟨a,b,c⟩
   ·exact d x hx
  ·intro h;have:=h (.mk nm v ks) zH;exact⟨this.1,this.2.1,this.2.2,λx hx=>h x (by simp[hx])⟩
def K7:∀ {l:List ah},sv l->wt l<=57 * cnt l
 | [],_=>by rw[jB];omega
 | .mk nm v ks::xs,h=>by
  rw[sv]at h;have h1:=K7 h.2.2.1
  have h2:=K7 h.2.2.2;rw[jK,iX];simp only[ah.ae,ah.aq,ah.af];omega
def Au{s:Str}(h:isName s=true):s.length<=16:=by simp only[isName,Bool.and_eq_true,decide_eq_true_eq]at h;exact h.2.1.2
def Ac{s:Str}(h:isText s=true):s.length<=40:=by simp only[isText,Bool.and_eq_true,decide_eq_true_eq]at h;exact h.2
def yu{p:Nat->Bool}:∀ {n j:Nat},cz p n=true->j<n->p j=true
 | n+1,j,h,hj=>by
  rw[cz,Bool.and_eq_true]at h;by_cases e:j=n
  ·subst e;first|exact h.2|exact h.1
  ·first|exact yu h.1 Yt|exact yu h.2 Yt
def NG{l:List Str}(h:names l=true){s:Str}(hs:s∈l):isName s=true:=by obtain⟨i,hi,rfl⟩:=getElem_of_mem hs;have:=yu h hi;rw[show at_ l i=l[i] by unfold at_;rw[getElem?_eq_getElem hi];rfl]at this;exact this
def rR(t:dB)(s:Str):(cvS t s).length<=40:=by
 unfold cvS
 cases h:cvB t s with
 | false=>simp
 | true =>
  rw[cond_true,cvT];simp only[cvB,Bool.and_eq_true]at h;obtain⟨hT,hO⟩:=h;unfold cvO at hO;split
  ·have:=yI s
   have:=Lib.itoa_length_le (jx s) Yt Yt;omega
  ·rename_i h1;rw[if_neg h1]at hO;split
   ·rename_i h3;rw[if_neg Yt,if_pos h3,Bool.or_eq_true,beq_iff_eq,beq_iff_eq]at hO;rcases hO with e|e<;>rw[e]<;>decide
   ·rename_i h3;split at hO
    ·simp only[Bool.and_eq_true]at hO;exact Ac hO.1.1
    ·skip
     split at hO
     ·rename_i h4;rw[tI h4]at hT;simp only[Bool.and_eq_true]at hT;have:=Au (NG hT.1.1.1.1.2 ((iW _ _).1 hO));omega
     ·split at hO
      ·simp only[Bool.and_eq_true]at hO;exact Ac hO.2
      ·split at hO
       ·rw[of_decide_eq_true hO];simp
       ·cases hO
def St{t:dB}{s:Str}(h:isVal t s=true):s.length<=40:=by simp only[isVal,Bool.and_eq_true,beq_iff_eq]at h;rw[<- h.2];exact rR t s
def KA{s:List ag}(h:gdS s){n:ag}(hn:n∈dk s):n.ae.length<=16:=by
 obtain⟨_,kind,bd,hA⟩:=h;obtain⟨⟨kd,b,ho⟩,_⟩:=yR s kind bd hA n hn;simp only[jT,mf,ot,Bool.and_eq_true]at ho;refine Au ?_
 first|exact ho.1.1.1.1.1.1.1.1|exact ho.1.1.1.1.1.1.1|exact ho.1.1.1.1.1.1.1.1.1|exact ho.1.1.1.1.1.1
def MJ{s:List ag}{l:List ah}{x:ah}(h:sv l)(hx:svX x):sv (ins s l x):=by
 rw[xm]at h ⊢;intro y hy;rw[ins,mem_append,mem_cons]at hy;rcases hy with hy|rfl|hy
 ·exact h y (mem_of_mem_take hy)
 ·exact hx
 ·exact h y (mem_of_mem_drop hy)
def F7{l l':List ah}(h:l'.Sublist l)(hl:sv l):sv l':=by rw[xm]at hl ⊢;exact λx hx=>hl x (h.subset hx)
def MI{l:List ah}{i:Nat}{y:ah}(h:sv l)(hy:svX y):sv (l.set i y):=by
 rw[xm]at h ⊢;intro x hx;rcases mem_or_eq_of_mem_set hx with hx|rfl
 ·exact h x hx
 ·exact hy
def YI{l:List ah}(h:sv l)(i:Nat):svX (at_ l i):=by
 by_cases hi:i<l.length
 ·exact xm.1 h _ (at_mem hi)
 ·rw[XC hi];exact⟨daa,daa,by show sv [];rw[sv];trivial⟩
def V0{R:Rec}{s:List ag}{l:List ah}{e:aL}(hg:gdS s)(hl:sv l)(hR:∀n∈dk s,∀l,sv l->sv (R n.af l).1):sv (one R s l e).1:=by
 have hnil:sv []:=by rw[sv];trivial
 unfold one;by_cases c:idx (nmP e.ae) (dk s)<0
 ·rw[if_pos c];exact hnil
 rw[if_neg c];have hn:=(il (s:=s) (k:=e.ae) Yt).2
 have hd:=F7 (CK l (fnd (nd s e.ae) l (cO (nd s e.ae) e))) hl
 have hnm:=KA hg hn
 have hc:∀l',sv l'->sv (crt R s l' (nd s e.ae) e).1:=λl' h=>by
  have hw:=F7 (rV s (nd s e.ae).ae l') h
  have hr:=hR _ hn [] hnil;unfold crt;repeat' split
  ·exact MJ hw ⟨hnm,rR _ _,hnil⟩
  ·exact hnil
  ·exact h
  ·exact MJ hw ⟨hnm,by simp[ah.aq],hr⟩
 have hm:∀i,sv (mrg R l i (nd s e.ae) e).1:=λi=>by
  have ha:=YI hl i
  have hr:=hR _ hn _ ha.2.2;unfold mrg;repeat' split
  ·exact MI hl ⟨ha.1,rR _ _,ha.2.2⟩
  ·exact hnil
  ·exact F7 (eraseIdx_sublist ..) hl
  ·exact MI hl ⟨ha.1,ha.2.1,hr⟩
  ·exact hl
 repeat' split
 all_goals first|exact hnil|exact hl|exact hd|exact hm _|exact hc _ hd
def G4:∀(es:List aL) (s:List ag) (l:List ah),gdS s->sv l->sv (mdE es s l).1
 | [],s,l,_,h=>by rw[mdE];exact h
 | .mk op nm v ks::es,s,l,hg,h=>by
  rw[vZ];split
  ·rw[sv];trivial
  ·exact G4 es s _ hg (V0 (R:=mdE ks) hg h λn hn l hl=>G4 ks n.af l (pG hg hn).1 hl)
def C3:∀(l:List ah) (s:List ag),gdS s->(∀x∈l,okX (dk s) x)->sv l
 | [],s,_,_=>by rw[sv];trivial
 | .mk nm v ks::xs,s,hg,h=>by
  have hx:=h (.mk nm v ks) zH
  have hm:=uM hx
  have h1:=KA hg hm.2;rw[hm.1]at h1;have h2:=C3 xs s hg λy hy=>h y (by simp[hy]);rw[sv];by_cases c:(at_ (dk s) (idx (nmP (ah.mk nm v ks).ae) (dk s)).toNat).aj=3\/(at_ (dk s) (idx (nmP (ah.mk nm v ks).ae) (dk s)).toNat).aj=4
  ·have h3:=GN hx.2 c
   have h4:=hx.2;rw[okN,if_pos c,Bool.and_eq_true]at h4;have h3':ks=[]:=h3;subst h3';exact⟨h1,St h4.2,by rw[sv];trivial,h2⟩
  ·have h3:=Aq hx.2 c
   have h4:v=[]:=h3.1;subst h4;exact⟨h1,zH,C3 ks _ (pG hg hm.2).1 (uO h3.2.1),h2⟩
def tJ{s:List ag}{l:List ah}(h:dw s l=true):sv l/\cnt l<=120:=by simp only[dw,Bool.and_eq_true,decide_eq_true_eq]at h;exact⟨C3 l s (yG h.1.1) (uO h.2),h.1.2⟩
def Dj{s:List ag}{l:List ah}(es:List aL)(h:dw s l=true):cnt (mdE es s l).1<=120+fO es/\(cnt (mdE es s l).1<=120->wt (mdE es s l).1<=6840):=by
 have h1:=tJ h
 have h2:=uR es s l;refine⟨Yt,λc=>?_⟩;have h3:=h;simp only[dw,Bool.and_eq_true]at h3;have:=K7 (G4 es s l (yG h3.1.1) h1.1);omega
def V9(s:List ag)(l:List ah)(es:List aL):wt (mdT s l es).1<=wt l+6840/\((mdT s l es).2=0->dw s (mdT s l es).1=true/\wt (mdT s l es).1<=6840):=by
 unfold mdT;by_cases c1:dw s l=false
 ·rw[if_pos c1];exact⟨by simp only;omega,λh=>by simp at h⟩
 rw[if_neg c1];by_cases c2:¬(mdE es s l).2=0
 ·rw[if_pos c2];exact⟨by simp only;omega,λh=>absurd h c2⟩
 rw[if_neg c2];by_cases c3:dw s (mdE es s l).1=false
 ·rw[if_pos c3];exact⟨by simp only;omega,λh=>by simp at h⟩
 rw[if_neg c3];have h3:dw s (mdE es s l).1=true:=by simpa using c3
 have h4:=(Dj es (by simpa using c1:dw s l=true)).2 (tJ h3).2;exact⟨by simp only;omega,λ_=>⟨h3,h4⟩⟩
def mxE:List aL->Nat
 | []=>0
 | .mk _ n v ks::xs=>max (max n.length v.length) (max (mxE ks) (mxE xs))
def Ts:mxE []=0:=by rw[mxE]
def GU(x:aL)(l:List aL):mxE (x::l)=max (max x.ae.length x.aq.length) (max (mxE x.af) (mxE l)):=by cases x;rw[mxE];rfl
def wtE(l:List aL):Nat:=max (fO l) (mxE l)
def wJ(l:List aL):fO l<=wtE l:=Nat.le_max_left _ _
def yF{l:List aL}{x:aL}(h:x∈l):x.ae.length<=wtE l/\x.aq.length<=wtE l/\wtE x.af<=wtE l:=by
 induction l with
 | nil=>simp at h
 | cons y l ih =>
  simp only[wtE,GU,qB]at *;rcases List.mem_cons.1 h with rfl|h
  ·omega
  ·have:=ih h;omega
def yX{l:List ag}{x:ag}(h:x∈l):SizeOf.sizeOf x.af<SizeOf.sizeOf l:=by have:=sizeOf_lt_of_mem h;cases x;simp[ag.af]at *;omega
def nz(x:ag)(xs:List ag):cl (x::xs)=1+cl x.af+cl xs:=by cases x;rw[cl];rfl
def rS{l:List ag}{x:ag}(h:x∈l):1+cl x.af<=cl l:=by
 induction l with
 | nil=>simp at h
 | cons y l ih =>
  rw[nz];rcases List.mem_cons.1 h with rfl|h
  ·omega
  ·have:=ih h;omega
def yj:∀(l:List ag),(dk l).length<=cl l
 | []=>by simp[dk]
 | .mk k a b c d e f g h i j l m n ks::xs=>by
  have h1:=yj ks
  have h2:=yj xs;rw[dk,cl,length_append];split
  ·rw[length_singleton];omega
  ·split
   ·omega
   ·simp only[length_nil];omega
def xF(all:List ag)(i j:Nat):ml all i (j+1)=ml all i j++(if j=i then [] else nmS (dk (at_ all j).af)):=by rw[ml,range_succ,flatMap_append];simp[ml]
def KK:∀(all:List ag) (j:Nat),j<all.length->cl (all.take j)+1+cl (at_ all j).af=cl (all.take (j+1))
 | x::xs,0,_=>by rw[take_zero,take_succ_cons,take_zero,nz];simp[cl,at_]
 | x::xs,j+1,h=>by
  have:=KK xs j (by simpa using h);rw[take_succ_cons,take_succ_cons,nz,nz,zm];omega
def Bk:∀(all:List ag) (j:Nat),cl (all.take j)<=cl all
 | [],j=>by simp
 | x::xs,0=>by simp[cl]
 | x::xs,j+1=>by rw[take_succ_cons,nz,nz];have:=Bk xs j;omega
def yK(all:List ag)(i:Nat):∀(j:Nat),j<=all.length->(ml all i j).length+(if i<j then cl (at_ all i).af else 0)<=cl (all.take j)
 | 0,_=>by simp[ml]
 | j+1,h=>by
  have h1:=yK all i j Yt
  have h2:=KK all j Yt
  have h3:=yj (at_ all j).af;rw[xF,length_append];by_cases e:j=i
  ·subst e;rw[if_neg Yt]at h1;rw[if_pos rfl,if_pos Yt];simp only[length_nil];omega
  ·rw[if_neg e,nmS,length_map];by_cases c:i<j
   ·rw[if_pos c]at h1;rw[if_pos Yt];omega
   ·rw[if_neg c]at h1;rw[if_neg Yt];omega
theorem Uw{α:Type}[Inhabited α]{l xs:List α}{i:Nat}{x:α}(h:l.drop i=x::xs):i<l.length/\at_ l i=x/\l.drop (i+1)=xs:=by
 have hi:i<l.length:=by
  rcases Nat.lt_or_ge i l.length with c|c
  ·exact c
  ·rw[drop_eq_nil_of_le c]at h;cases h
 rw[bT hi]at h;injection h with a b
 exact⟨hi,a,b⟩
mutual
def rI:∀(s:List ag) (nm:Str) (o:List Str),oth s nm=some o->o.length<=cl s
 | [],_,_,h=>by simp[oth]at h
 | .mk kd a b c d e f g h i j l m n ks::xs,nm,o,ho=>by
  rw[oth]at ho;rw[cl];split at ho
  ·injection ho with ho;subst ho;simp
  ·split at ho
   ·cases hC:lQ ks 0 ks nm with
    | some o2 =>
     rw[hC]at ho;injection ho with ho;subst ho
     have:=GD ks 0 ks nm o2 rfl hC;omega
    | none=>rw[hC]at ho;have:=rI xs nm o ho;omega
   ·have:=rI xs nm o ho;omega
def GD:∀(all:List ag) (i:Nat) (xs:List ag) (nm:Str) (o:List Str),all.drop i=xs->lQ all i xs nm=some o->o.length<=cl all
 | _,_,[],_,_,_,h=>by simp[lQ]at h
 | all,i,.mk kd a b c d e f g h i' j l m n ks::xs,nm,o,hx,ho=>by
  obtain⟨h1,h2,h3⟩:=Uw hx;rw[lQ]at ho
  cases hC:oth ks nm with
  | some o2 =>
   rw[hC]at ho;injection ho with ho;subst ho
   have h4:=rI ks nm o2 hC
   have h5:=yK all i all.length (Nat.le_refl _);rw[take_length,if_pos h1,h2]at h5;rw[length_append];simp only[ag.af]at h5;omega
  | none =>
   rw[hC]at ho;exact GD all (i+1) xs nm o h3 ho
end
def GA(s:List ag)(nm:Str):(jG s nm).length<=cl s:=by
 unfold jG
 cases h:oth s nm with
 | none=>simp
 | some o=>exact rI s nm o h
section
variable {R : Rec} {s : List ag} {l : List ah} {e : aL}
def Nu(h:idx (nmP e.ae) (dk s)<0):one R s l e=([],2):=by rw[one,if_pos h]
def Ns(h1:¬idx (nmP e.ae) (dk s)<0)(h2:¬wrg (nd s e.ae) e=0):one R s l e=([],wrg (nd s e.ae) e):=by rw[one,if_neg h1,if_pos h2]
def Nx(h1:¬idx (nmP e.ae) (dk s)<0)(h2:wrg (nd s e.ae) e=0)(h3:(nd s e.ae).aj=2/\eG (nd s e.ae) e.af=false):one R s l e=([],4):=by rw[one,if_neg h1,if_neg (λc=>c h2),if_pos h3]
section
variable (h1 : ¬idx (nmP e.ae) (dk s) < 0) (h2 : wrg (nd s e.ae) e = 0) (h3 : ¬((nd s e.ae).aj = 2 /\ eG (nd s e.ae) e.af = false)) {k : Nat}
include h1 h2 h3
theorem Ny(hf:fnd (nd s e.ae) l (cO (nd s e.ae) e)=k)(ho:e.fOp=3):one R s l e=([],5):=by rw[one,if_neg h1,if_neg (λc=>c h2),if_neg h3,if_pos Yt]
theorem Nz(hf:fnd (nd s e.ae) l (cO (nd s e.ae) e)=k)(ho:e.fOp=1):one R s l e=mrg R l k (nd s e.ae) e:=by rw[one,if_neg h1,if_neg (λc=>c h2),if_neg h3,if_neg Yt,if_neg Yt,if_neg Yt,if_pos Yt,hf];rfl
theorem Ti(hf:fnd (nd s e.ae) l (cO (nd s e.ae) e)=k)(ho:e.fOp=4\/e.fOp=5):one R s l e=(l.eraseIdx k,0):=by rw[one,if_neg h1,if_neg (λc=>c h2),if_neg h3,if_neg Yt,if_neg Yt,if_neg Yt,if_neg Yt,if_pos ho,dl,if_pos Yt,hf];rfl
theorem V2(hf:fnd (nd s e.ae) l (cO (nd s e.ae) e)=k)(ho:e.fOp=2):one R s l e=crt R s (l.eraseIdx k) (nd s e.ae) e:=by rw[one,if_neg h1,if_neg (λc=>c h2),if_neg h3,if_neg Yt,if_neg Yt,if_neg Yt,if_neg Yt,if_neg Yt,dl,if_pos Yt,hf];rfl
theorem Nw(hf:fnd (nd s e.ae) l (cO (nd s e.ae) e)<0)(ho:e.fOp=4):one R s l e=([],6):=by rw[one,if_neg h1,if_neg (λc=>c h2),if_neg h3,if_neg Yt,if_pos Yt]
theorem Nv(hf:fnd (nd s e.ae) l (cO (nd s e.ae) e)<0)(ho:e.fOp=5):one R s l e=(l,0):=by rw[one,if_neg h1,if_neg (λc=>c h2),if_neg h3,if_neg Yt,if_neg Yt,if_pos Yt]
theorem RR(hf:fnd (nd s e.ae) l (cO (nd s e.ae) e)<0)(h4:¬e.fOp=4)(h5:¬e.fOp=5):one R s l e=crt R s l (nd s e.ae) e:=by rw[one,if_neg h1,if_neg (λc=>c h2),if_neg h3,if_neg Yt,if_neg Yt,if_neg Yt,if_neg Yt,if_neg Yt,dl,if_neg Yt]
end
end
def Hn(l:List aL):l.length<=fO l:=by
 induction l with
 | nil=>simp
 | cons x xs ih=>rw[qB,length_cons];omega
def G6{es:List aL}{s:List ag}{l:List ah}{k:Nat}(h:k<es.length):mdE (es.drop k) s l=if ¬(one (mdE (at_ es k).af) s l (at_ es k)).2=0 then ([],(one (mdE (at_ es k).af) s l (at_ es k)).2) else mdE (es.drop (k+1)) s (one (mdE (at_ es k).af) s l (at_ es k)).1:=by rw[bT h,vZ]
def E0{es:List aL}{k:Nat}(h:k<es.length):fO (es.drop k)=1+fO (at_ es k).af+fO (es.drop (k+1)):=by rw[bT h,qB]
def Kr{l:List aL}{x:aL}(h:x∈l):SizeOf.sizeOf x.af<SizeOf.sizeOf l:=by have:=sizeOf_lt_of_mem h;cases x;simp[aL.af]at *;omega
def O4{l:List ah}{k:Nat}(h:k<l.length):1+cnt (at_ l k).af<=cnt l:=by
 have:=pM h
 have e:cnt l=cnt (l.take k++at_ l k::l.drop (k+1)):=by rw[<- this]
 rw[zb]at e;omega
def AQ:∀(l:List ah) (q:Int),-4611686018427387904<=q->cnt l<=4194304->-4611686018427387904<=gf l q
 | [],q,h,_=>by simpa[gf]using h
 | .mk n v ks::xs,q,h,hc=>by
  rw[iX]at hc;simp only[ah.af]at hc;have hl:ks.length<=cnt ks:=by unfold cnt;omega
  simp only[gf];split
  ·exact h
  ·exact AQ xs _ (AQ ks _ Yt Yt) Yt
def GW{s:List ag}{l:List ah}{es:List aL}(h:dw s l=false):mdT s l es=(l,1):=by rw[mdT,if_pos h]
def GZ{s:List ag}{l:List ah}{es:List aL}(h:dw s l=true)(h2:¬(mdE es s l).2=0):mdT s l es=(l,(mdE es s l).2):=by rw[mdT,if_neg (by rw[h];simp),if_pos h2]
def GX{s:List ag}{l:List ah}{es:List aL}(h:dw s l=true)(h2:(mdE es s l).2=0)(h3:dw s (mdE es s l).1=false):mdT s l es=(l,8):=by rw[mdT,if_neg (by rw[h];simp),if_neg (λc=>c h2),if_pos h3]
def GY{s:List ag}{l:List ah}{es:List aL}(h:dw s l=true)(h2:(mdE es s l).2=0)(h3:dw s (mdE es s l).1=true):mdT s l es=((mdE es s l).1,0):=by rw[mdT,if_neg (by rw[h];simp),if_neg (λc=>c h2),if_neg (by rw[h3];simp)]
def FX{s:List ag}{l:List ah}(h:dw s l=true):gdS s:=by simp only[dw,Bool.and_eq_true]at h;exact yG h.1.1
def Hu:∀(l:List ag) (kind:Int) (bd:Bool),kA l kind bd=true->∀n∈dk l,cE (nmS n.af)=true
 | [],_,_,_,n,h=>by simp[dk]at h
 | .mk k a b c d e f g h i j l m nn ks::xs,kind,bd,hA,n,hn=>by
  rw[dk,mem_append]at hn;rw[kA]at hA;simp only[Bool.and_eq_true]at hA;rcases hn with hn|hn
  ·split at hn
   ·rw[mem_singleton]at hn;subst hn;have:=hA.1.2.1;simp only[mw,Bool.and_eq_true]at this;exact this.1
   ·split at hn
    ·exact Hu ks _ _ hA.1.2.2 n hn
    ·simp at hn
  ·exact Hu xs _ _ hA.2 n hn
def W8{s:List ag}(h:gdS s){n:ag}(hn:n∈dk s):cE (nmS n.af)=true:=by obtain⟨_,kind,bd,hA⟩:=h;exact Hu s kind bd hA n hn
def KyS(n:ag):Prop:=cE (nmS n.af)=true/\n.ax.length<=3/\∀q∈n.ax,0<=idx (fG q) n.af
def Wh{n:ag}(h:KyS n){q:Str}(hq:q∈n.ax):0<=idx (nmP q) n.af/\(at_ n.af (idx (nmP q) n.af).toNat).fType=kt n q:=by
 have h1:=AK h.1 q
 have h2:=h.2.2 q hq;exact⟨(h1.1.1 h2).1,by rw[kt,h1.2 h2]⟩
def kvS(n:ag)(q:Str)(es:List aL):List Str:=(kvF q es).map λx=>cvS (kt n q) x.aq
def Hs(n:ag)(es:List aL):List Str:=n.ax.flatMap λq=>kvS n q es
def DB(n:ag)(es:List aL):List Str:=if eG n es=true then Hs n es else []
def Qp{q:Str}{es:List aL}{j:Nat}(h:j<es.length)(hn:(at_ es j).ae=q):kvF q (es.take (j+1))=kvF q (es.take j)++[at_ es j]:=by
 rw[fo h,kvF,filter_append];have:edP q (at_ es j)=true:=by simpa[edP]using hn
 simp[kvF,this]
def Qq{q:Str}{es:List aL}{j:Nat}(h:j<es.length)(hn:¬(at_ es j).ae=q):kvF q (es.take (j+1))=kvF q (es.take j):=by
 rw[fo h,kvF,filter_append];have:edP q (at_ es j)=false:=by simpa[edP]using hn
 simp[kvF,this]
def TU(q:Str)(es:List aL)(j:Nat):(kvF q (es.take j)).length<=j:=by have:=length_filter_le (edP q) (es.take j);rw[length_take]at this;unfold kvF;omega
def Kb(n:ag)(q:Str)(es:List aL):(kvS n q es).length=(kvF q es).length:=by rw[kvS,length_map]
def NU(n:ag)(es:List aL):∀(Ks:List Str) (k:Nat),((Ks.take k).flatMap (λq=>kvS n q es)).length<=k * es.length
 | [],k=>by simp
 | q::Ks,0=>by simp
 | q::Ks,k+1=>by
  rw[take_succ_cons,flatMap_cons,length_append,Nat.add_mul];have h1:=NU n es Ks k
  have h2:(kvS n q es).length<=es.length:=by rw[Kb];exact length_filter_le _ _
  omega
def Ke{n:ag}{es:List aL}{k:Nat}(hk:k<n.ax.length)(h:(decide ((kvF (at_ n.ax k) es).length=1) && (kvF (at_ n.ax k) es).all (kvG n (at_ n.ax k)))=false):eG n es=false:=j4 hk h
def Wj{n:ag}{q:Str}{es:List aL}{j:Nat}(h:j<es.length)(hn:(at_ es j).ae=q)(hg:kvG n q (at_ es j)=false):(kvF q es).all (kvG n q)=false:=by rw[Bool.eq_false_iff];intro c;have:at_ es j∈kvF q es:=List.mem_filter.2 ⟨at_mem h,by simpa[edP]using hn⟩;rw[List.all_eq_true.1 c _ this]at hg;cases hg
def OM{α β:Type}{f:α->β}(l:List α):l.flatMap (λx=>[f x])=l.map f:=by
 induction l with
 | nil=>rfl
 | cons x xs ih=>rw[flatMap_cons,ih];rfl
def TV{n:ag}{e:aL}(h2:n.aj=2)(h:eG n e.af=true):kyL n (cO n e)=Hs n e.af:=by
 have hall:n.ax.all (mq (cO n e))=true:=List.all_eq_true.2 λk hk=>by
  obtain⟨e0,h3,_⟩:=wh h hk;rw[u4];show (F (if n.aj=2 then _ else []) k).isSome=true;rw[if_pos h2,yA h3 hk];rfl
 rw[(oT h2 hall).1,Hs,<- OM];refine L3 λk hk=>?_;obtain⟨e0,h3,_⟩:=wh h hk;have:=LA (List.all_eq_true.1 hall k hk)
 have e2:F (cO n e).af k=some (cvS (kt n k) e0.aq):=by
  show F (if n.aj=2 then _ else []) k=_;rw[if_pos h2,yA h3 hk]
 rw[e2]at this;injection this with this
 rw[kvS,h3,<- this];rfl
def Qf(l:List ag):l.length<=cl l:=by
 induction l with
 | nil=>simp
 | cons x xs ih=>rw[nz,length_cons];omega
section
variable {R : Rec} {s : List ag} {l : List ah} {e : aL}
def PR(h0:0<=idx (nmP e.ae) (dk s))(hf:∀y∈l,¬same s (cO (nd s e.ae) e) y)(c1:(nd s e.ae).aj=3\/(nd s e.ae).aj=4) :
  kyB (nd s (nd s e.ae).ae) (.mk (nd s e.ae).ae (cvS (nd s e.ae).fType e.aq) [])=true/\∀y∈wo s (nd s e.ae).ae l,¬same s (.mk (nd s e.ae).ae (cvS (nd s e.ae).fType e.aq) []) y:=by
 have hn:=(il h0).1;refine⟨?_,λy hy c=>hf y ((rV _ _ _).subset hy) (nI ?_ c)⟩
 ·have e2:nd s (nd s e.ae).ae=nd s e.ae:=by rw[hn]
  rw[e2];exact(ij Yt).2
 ·refine⟨rfl,λr=>?_⟩;rw[kz,hn]at r ⊢;rw[(ij Yt).1,(ij Yt).1];rcases c1 with c1|c1
  ·rw[c1]at r;exact absurd r daa
  ·rw[wi c1];rfl
def PS(hg:gdS s)(h0:0<=idx (nmP e.ae) (dk s))(hk:(nd s e.ae).aj=2->eG (nd s e.ae) e.af=true)(hf:∀y∈l,¬same s (cO (nd s e.ae) e) y)(hR:ROk R (nd s e.ae).af e.af)(c1:¬((nd s e.ae).aj=3\/(nd s e.ae).aj=4))(hr:(R (nd s e.ae).af []).2=0) :
  kyB (nd s (nd s e.ae).ae) (.mk (nd s e.ae).ae [] (R (nd s e.ae).af []).1)=true/\∀y∈wo s (nd s e.ae).ae l,¬same s (.mk (nd s e.ae).ae [] (R (nd s e.ae).af []).1) y:=by
 have hn:=(il h0).1;obtain⟨r1,r2⟩:=hR [] CY hr;generalize (R (nd s e.ae).af []).1=ks at r1 r2
 have hky:(nd s e.ae).aj=2->kyB (nd s e.ae) (.mk (nd s e.ae).ae [] ks)=true/\kyL (nd s e.ae) (.mk (nd s e.ae).ae [] ks)=kyL (nd s e.ae) (cO (nd s e.ae) e):=λh2=>by
  have:=Ax hg h0 h2 (hk h2) r2 (x:=.mk (nd s e.ae).ae [] ks) rfl;rw[xM λ_=>hk h2]at this;exact this
 refine⟨?_,λy hy c=>hf y ((rV _ _ _).subset hy) (nI ?_ c)⟩
 ·have e2:nd s (nd s e.ae).ae=nd s e.ae:=by rw[hn]
  rw[e2];by_cases h2:(nd s e.ae).aj=2
  ·exact(hky h2).1
  ·exact(ij h2).2
 ·refine⟨rfl,λr=>?_⟩;rw[kz,hn]at r ⊢
  have h2:(nd s e.ae).aj=2:=by
   simp only[ig,Bool.or_eq_true,decide_eq_true_eq]at r;omega
  have:=(hky h2).2;rw[hn]at this;exact this.symm
def rok(es:List aL){s:List ag}(hg:gdS s):ROk (mdE es) s es:=λl hJ hr=>G5 es s l hg hJ hr
end
section
variable {R : Rec} {s : List ag} {l : List ah} {e : aL}
def NB(h1:¬idx (nmP e.ae) (dk s)<0)(h2:wrg (nd s e.ae) e=0)(h3:¬((nd s e.ae).aj=2/\eG (nd s e.ae) e.af=false))(ho:e.fOp=4/\¬fnd (nd s e.ae) l (cO (nd s e.ae) e)<0\/e.fOp=5):one R s l e=(dl l (fnd (nd s e.ae) l (cO (nd s e.ae) e)),0):=by
 by_cases hf:fnd (nd s e.ae) l (cO (nd s e.ae) e)<0
 ·rw[Nv h1 h2 h3 hf Yt,dl,if_neg Yt]
 ·rw[one,if_neg h1,if_neg (λc=>c h2),if_neg h3,if_neg Yt,if_neg Yt,if_neg Yt,if_neg Yt,if_pos Yt]
def RS(h1:¬idx (nmP e.ae) (dk s)<0)(h2:wrg (nd s e.ae) e=0)(h3:¬((nd s e.ae).aj=2/\eG (nd s e.ae) e.af=false))(ho:e.fOp=2):one R s l e=crt R s (dl l (fnd (nd s e.ae) l (cO (nd s e.ae) e))) (nd s e.ae) e:=by rw[one,if_neg h1,if_neg (λc=>c h2),if_neg h3,if_neg Yt,if_neg Yt,if_neg Yt,if_neg Yt,if_neg Yt]
def W9{n:ag}{v:Str}{ky:List Str}{x:ah}(hx:kyB n x=true)(hl:∀y∈l,y.ae=n.ae->kyB n y=true)(h4:n.aj=4->v=x.aq)(h2:n.aj=2->ky=kyL n x):idx (fsP n v ky) l=fnd n l x:=by
 rw[<- OL hx hl];refine xW λy hy=>?_;unfold fsP;by_cases c4:n.aj=4
 ·rw[h4 c4,show decide (n.aj=2)=false by simp;omega];rfl
 ·by_cases c2:n.aj=2
  ·rw[h2 c2,show decide (n.aj=4)=false by simp;omega];rfl
  ·rw[show decide (n.aj=2)=false by simpa using c2,show decide (n.aj=4)=false by simpa using c4];rfl
def Tq{x:ah}{n v:Str}{ks:List ah}(h1:n=x.ae)(h2:v=x.aq)(h3:ks=x.af):ah.mk n v ks=x:=by subst h1;subst h2;subst h3;cases x;rfl
def PL{k:Nat}(h:k<l.length):l.set k (at_ l k)=l:=by rw[uF h,<- pM h]
end
def prt:List ag->List ah->List ah->Bool
 | _,[],_=>true
 | s,.mk nm v ks::xs,b =>
  ((!decide (fnd (nd s nm) b (.mk nm v ks)<0) && !(decide ((nd s nm).aj=3) && !((at_ b (fnd (nd s nm) b (.mk nm v ks)).toNat).aq == v))) && prt (nd s nm).af ks (at_ b (fnd (nd s nm) b (.mk nm v ks)).toNat).af) && prt s xs b
def Ll(s:List ag)(b:List ah)(x:ah):Bool :=
 (!decide (fnd (nd s x.ae) b x<0) && !(decide ((nd s x.ae).aj=3) && !((at_ b (fnd (nd s x.ae) b x).toNat).aq == x.aq))) && prt (nd s x.ae).af x.af (at_ b (fnd (nd s x.ae) b x).toNat).af
def PU(s:List ag)(x:ah)(xs b:List ah):prt s (x::xs) b=(Ll s b x && prt s xs b):=by cases x;rw[prt];rfl
def JT(s:List ag)(b:List ah):prt s [] b=true:=by rw[prt]
def M8{s:List ag}{a b:List ah}{k:Nat}(h:k<a.length):prt s (a.drop k) b=(Ll s b (at_ a k) && prt s (a.drop (k+1)) b):=by rw[bT h,PU]
def yQ{s:List ag}{x:ah}(hx:okX (dk s) x):∀k∈x.af,okX (dk (nd s x.ae).af) k:=by
 by_cases h:(nd s x.ae).aj=3\/(nd s x.ae).aj=4
 ·intro k hk;rw[GN hx.2 h]at hk;simp at hk
 ·exact Wm hx h
def ma(s:List ag)(a b:List ah):Bool:=dw s a && dw s b && prt s a b
def mgT(s:List ag)(a b:List ah):List ah×Int:=if dw s b=false then (a,1) else mdT s a (edO 1 b)
section
def jf(l:List ag):AV.cH (l.map (ak false))=l.map (ak false):=by rw[AV.rM,map_map];refine map_congr_left λx _=>?_;simp only[Function.comp,dK,AV.frz,AV.cH,cond_false]
def jI(l:List ah):AV.cH (l.map (ai false))=l.map (ai false):=by rw[AV.rM,map_map];refine map_congr_left λx _=>?_;simp only[Function.comp,bW,AV.frz,AV.cH,cond_false]
