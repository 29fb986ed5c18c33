/- A part. -/
import Derived.Test.YtmcjbaafmjlblaaGreatDoorJ19
set_option linter.all false
namespace Go.Dt
open Go.Ab
section
def mkL{α:Type}(f:α->Int->α×Int):List α->Int->List α×Int
 | [],k=>([],k)
 | x::xs,k=>((f x k).1::(mkL f xs (f x k).2).1,(mkL f xs (f x k).2).2)
section
variable {α : Type} {f : α -> Int -> α × Int}
theorem gB:∀ (l:List α) (k:Int),(mkL f l k).1.length=l.length
 | [],_=>rfl
 | x::xs,k=>by simp only [mkL,List.length_cons,gB xs]
theorem nH:∀ (l m:List α) (k:Int),mkL f (l++m) k=((mkL f l k).1++(mkL f m (mkL f l k).2).1,(mkL f m (mkL f l k).2).2)
 | [],_,_=>rfl
 | x::xs,m,k=>by simp only [List.cons_append,mkL,nH xs m]
theorem nG(h:∀ x k,k<=(f x k).2):∀ (l:List α) (k:Int),k<=(mkL f l k).2
 | [],k=>Int.le_refl k
 | x::xs,k=>Int.le_trans (h x k) (nG h xs _)
def mkc(f:α->Int->α×Int)(l:List α)(k:Int)(i:Nat):Int:=(mkL f (l.take i) k).2
def mkp(f:α->Int->α×Int)(l:List α)(k:Int)(i:Nat):List α:=(mkL f (l.take i) k).1++l.drop i
theorem jL(l:List α)(k:Int):mkp f l k 0=l:=by simp [mkp,mkL]
theorem iW{l:List α}{k:Int}{i:Nat}(h:¬ i<l.length):mkc f l k i=(mkL f l k).2:=by rw [mkc,List.take_of_length_le (by omega)]
theorem kF{l:List α}{k:Int}{i:Nat}(h:¬ i<l.length):mkp f l k i=(mkL f l k).1:=by rw [mkp,List.take_of_length_le (by omega),List.drop_of_length_le (by omega),List.append_nil]
variable [Inhabited α]
theorem xD{l:List α}{i:Nat}(h:i<l.length):l.take (i+1)=l.take i++[at_ l i]:=by
 rw [List.take_succ_eq_append_getElem h];unfold at_;rw [List.getElem?_eq_getElem h];rfl
theorem dD{l:List α}{k:Int}{i:Nat}(h:i<l.length):mkc f l k (i+1)=(f (at_ l i) (mkc f l k i)).2:=by
 rw [mkc,xD h,nH];rfl
omit [Inhabited α] in
theorem eV(hm:∀ x k,k<=(f x k).2)(l:List α)(k:Int)(i:Nat):mkc f l k i<=(mkL f l k).2:=by
 have:mkL f l k=mkL f (l.take i++l.drop i) k:=by rw [List.take_append_drop]
 rw [this,nH];exact nG hm _ _
omit [Inhabited α] in
theorem jV(hm:∀ x k,k<=(f x k).2)(l:List α)(k:Int)(i:Nat):k<=mkc f l k i:=nG hm _ _
theorem Q4{l:List α}{k:Int}{i:Nat}(h:i<l.length):mkp f l k i=(mkL f (l.take i) k).1++(at_ l i::l.drop (i+1)):=by rw [mkp,da h]
theorem L8{l:List α}{k:Int}{i:Nat}(h:i<l.length):mkp f l k (i+1)=(mkL f (l.take i) k).1++((f (at_ l i) (mkc f l k i)).1::l.drop (i+1)):=by
 rw [mkp,xD h,nH];simp [mkL,mkc]
theorem DW{l:List α}{k:Int}{i:Nat}(h:i<l.length):at_ (mkL f l k).1 i=(f (at_ l i) (mkc f l k i)).1:=by
 have:mkL f l k=mkL f (l.take (i+1)++l.drop (i+1)) k:=by rw [List.take_append_drop]
 rw [this,nH]
 show at_ ((mkL f (l.take (i+1)) k).1++_) i=_
 rw [xD h,nH]
 unfold at_
 rw [List.append_assoc,List.getElem?_append_right (by rw [gB,List.length_take];omega)]
 have e:i - (mkL f (l.take i) k).1.length=0:=by rw [gB,List.length_take];omega
 rw [e];rfl
omit [Inhabited α] in
theorem lq{e:α->AV}{sz:Nat}(he:∀ x,(e x).cells.length=sz):∀ m:List α,((m.map e).flatMap AV.cells).length=m.length * sz:=by
 intro m
 induction m with
 | nil=>simp
 | cons x xs ih=>rw [List.map_cons,List.flatMap_cons,List.length_append,he,ih,List.length_cons,Nat.succ_mul,Nat.add_comm]
def mkb(e:α->AV)(f:α->Int->α×Int)(l:List α)(k:Int)(i:Nat):List AV:=((mkL f (l.take i) k).1.map e).flatMap AV.cells
omit [Inhabited α] in
theorem kG{e:α->AV}{sz:Nat}(he:∀ x,(e x).cells.length=sz){l:List α}{k:Int}{i:Nat}(h:i<=l.length):(mkb e f l k i).length=i * sz:=by
 rw [mkb,lq he,gB,List.length_take,Nat.min_eq_left h]
theorem l8{e:α->AV}{l:List α}{k:Int}{i:Nat}(h:i<l.length):((mkp f l k i).map e).flatMap AV.cells=mkb e f l k i++((e (at_ l i)).cells++((l.drop (i+1)).map e).flatMap AV.cells):=by
 rw [Q4 h];simp [mkb]
theorem jM{e:α->AV}{l:List α}{k:Int}{i:Nat}(h:i<l.length):((mkp f l k (i+1)).map e).flatMap AV.cells=mkb e f l k i++((e (f (at_ l i) (mkc f l k i)).1).cells++((l.drop (i+1)).map e).flatMap AV.cells):=by
 rw [L8 h];simp [mkb]
end
theorem Lz{p e:List AV}{n j:Nat}(h:p.length=n):(p++e).take (n+j)=p++e.take j:=by subst h;rw [List.take_length_add_append]
theorem VG{p e:List AV}{n:Nat}(h:p.length=n):(p++e).take n=p:=by subst h;rw [List.take_left]
theorem I7{p e:List AV}{n j:Nat}(h:p.length=n):(p++e).drop (n+j)=e.drop j:=by subst h;rw [List.drop_length_add_append]
theorem Xr{p e:List AV}{n:Nat}(h:p.length=n):(p++e).drop n=e:=by subst h;rw [List.drop_left]
theorem Un{p e:List AV}{n j m:Nat}(h:p.length=n):(p++e).drop (n+j+m)=e.drop (j+m):=by rw [Nat.add_assoc];exact I7 h
theorem R1{p e:List AV}{n j m q:Nat}(h:p.length=n):(p++e).drop (n+j+m+q)=e.drop (j+m+q):=by rw [Nat.add_assoc n j m,Nat.add_assoc n];exact I7 h
theorem Uo{p e:List AV}{n j m q r:Nat}(h:p.length=n):(p++e).drop (n+j+m+q+r)=e.drop (j+m+q+r):=by rw [Nat.add_assoc n j m,Nat.add_assoc n,Nat.add_assoc n];exact I7 h
theorem Td{p e:List AV}{n j m:Nat}(h:p.length=n):(p++e).take (n+j+m)=p++e.take (j+m):=by rw [Nat.add_assoc];exact Lz h
theorem Qm{p e:List AV}{n j m q:Nat}(h:p.length=n):(p++e).take (n+j+m+q)=p++e.take (j+m+q):=by rw [Nat.add_assoc n j m,Nat.add_assoc n];exact Lz h
attribute [go_sem] Td Qm R1 Uo Lz I7 Un List.append_assoc List.append_nil List.take_succ_cons List.drop_succ_cons List.take_zero List.drop_zero
end
section
def ay(x:Str)(k:Int):Str×Int:=(mkT k,k+1)
theorem iP(x:Str)(k:Int):k+1<=(ay x k).2:=by unfold ay;omega
theorem bG{α:Type}{f:α->Int->α×Int}(h:∀ x k,k+1<=(f x k).2):∀ (l:List α) (k:Int),k+l.length<=(mkL f l k).2
 | [],k=>by simp [mkL]
 | x::xs,k=>by have h1:=h x k;have h2:=bG h xs (f x k).2;simp only [mkL,List.length_cons];omega
theorem dV{α:Type}{f:α->Int->α×Int}(h:∀ x k,k+1<=(f x k).2)(x:α)(k:Int):k<=(f x k).2:=by have:=h x k;omega
end
section
def bg(x:du)(k:Int):du×Int:=(⟨k,k+1⟩,k+1+1)
theorem lG(x:du)(k:Int):k+1<=(bg x k).2:=by
 unfold bg;simp only;omega
def iJ(x:eC)(k:Int):eC×Int:=(⟨mkT k,mkT (k+1)⟩,k+1+1)
theorem mH(x:eC)(k:Int):k+1<=(iJ x k).2:=by
 unfold iJ;simp only;omega
def eZ(x:GStep)(k:Int):GStep×Int:=(⟨mkT k,(mkL iJ x.b8 (k+1)).1⟩,(mkL iJ x.b8 (k+1)).2)
theorem mI(x:GStep)(k:Int):k+1<=(eZ x k).2:=by
 have g0:=bG mH x.b8 (k+1)
 unfold eZ;simp only;omega
mutual
def cu:aO->Int->aO×Int
 | .mk fOp fD cg aE af,k=>(.mk k (k+1) (mkT (k+1+1)) (⟨((k+1+1+1).tmod 3 == 0),k+1+1+1+1,(mkL eZ aE.aN (k+1+1+1+1+1)).1⟩) ((kC af ((mkL eZ aE.aN (k+1+1+1+1+1)).2)).1),(kC af ((mkL eZ aE.aN (k+1+1+1+1+1)).2)).2)
def kC:List aO->Int->List aO×Int
 | [],k=>([],k)
 | x::xs,k=>((cu x k).1::(kC xs (cu x k).2).1,(kC xs (cu x k).2).2)
end
theorem yV:∀ (l:List aO) (k:Int),kC l k=mkL cu l k
 | [],k=>by simp [kC,mkL]
 | x::xs,k=>by simp [kC,mkL,yV xs]
theorem qv(x:aO)(k:Int):cu x k=(.mk k (k+1) (mkT (k+1+1)) (⟨((k+1+1+1).tmod 3 == 0),k+1+1+1+1,(mkL eZ x.aE.aN (k+1+1+1+1+1)).1⟩) ((mkL cu x.af ((mkL eZ x.aE.aN (k+1+1+1+1+1)).2)).1),(mkL cu x.af ((mkL eZ x.aE.aN (k+1+1+1+1+1)).2)).2):=by
 cases x;simp only [cu,yV];rfl
mutual
theorem iR:∀ (x:aO) (k:Int),k+1<=(cu x k).2
 | .mk fOp fD cg aE af,k=>by
  have g0:=bG mI aE.aN (k+1+1+1+1+1)
  have g1:=yU af ((mkL eZ aE.aN (k+1+1+1+1+1)).2)
  simp only [cu];omega
theorem yU:∀ (l:List aO) (k:Int),k+l.length<=(kC l k).2
 | [],k=>by simp [kC]
 | x::xs,k=>by have h1:=iR x k;have h2:=yU xs (cu x k).2;simp only [kC,List.length_cons];omega
end
mutual
def ct:ag->Int->ag×Int
 | .mk ai ae fType aw aD bh cm cC bF dF gF gG bz bY af,k=>(.mk k (mkT (k+1)) (⟨k+1+1,(mkL bg fType.aB (k+1+1+1)).1,(mkL ay fType.ax ((mkL bg fType.aB (k+1+1+1)).2)).1,mkT ((mkL ay fType.ax ((mkL bg fType.aB (k+1+1+1)).2)).2),mkT ((mkL ay fType.ax ((mkL bg fType.aB (k+1+1+1)).2)).2+1)⟩) ((mkL ay aw ((mkL ay fType.ax ((mkL bg fType.aB (k+1+1+1)).2)).2+1+1)).1) ((mkL ay aD ((mkL ay aw ((mkL ay fType.ax ((mkL bg fType.aB (k+1+1+1)).2)).2+1+1)).2)).1) (mkT ((mkL ay aD ((mkL ay aw ((mkL ay fType.ax ((mkL bg fType.aB (k+1+1+1)).2)).2+1+1)).2)).2)) ((((mkL ay aD ((mkL ay aw ((mkL ay fType.ax ((mkL bg fType.aB (k+1+1+1)).2)).2+1+1)).2)).2+1).tmod 3 == 0)) ((((mkL ay aD ((mkL ay aw ((mkL ay fType.ax ((mkL bg fType.aB (k+1+1+1)).2)).2+1+1)).2)).2+1+1).tmod 3 == 0)) ((((mkL ay aD ((mkL ay aw ((mkL ay fType.ax ((mkL bg fType.aB (k+1+1+1)).2)).2+1+1)).2)).2+1+1+1).tmod 3 == 0)) ((((mkL ay aD ((mkL ay aw ((mkL ay fType.ax ((mkL bg fType.aB (k+1+1+1)).2)).2+1+1)).2)).2+1+1+1+1).tmod 3 == 0)) ((mkL ay aD ((mkL ay aw ((mkL ay fType.ax ((mkL bg fType.aB (k+1+1+1)).2)).2+1+1)).2)).2+1+1+1+1+1) ((mkL ay aD ((mkL ay aw ((mkL ay fType.ax ((mkL bg fType.aB (k+1+1+1)).2)).2+1+1)).2)).2+1+1+1+1+1+1) ((mkL cu bz ((mkL ay aD ((mkL ay aw ((mkL ay fType.ax ((mkL bg fType.aB (k+1+1+1)).2)).2+1+1)).2)).2+1+1+1+1+1+1+1)).1) ((mkL cu bY ((mkL cu bz ((mkL ay aD ((mkL ay aw ((mkL ay fType.ax ((mkL bg fType.aB (k+1+1+1)).2)).2+1+1)).2)).2+1+1+1+1+1+1+1)).2)).1) ((iQ af ((mkL cu bY ((mkL cu bz ((mkL ay aD ((mkL ay aw ((mkL ay fType.ax ((mkL bg fType.aB (k+1+1+1)).2)).2+1+1)).2)).2+1+1+1+1+1+1+1)).2)).2)).1),(iQ af ((mkL cu bY ((mkL cu bz ((mkL ay aD ((mkL ay aw ((mkL ay fType.ax ((mkL bg fType.aB (k+1+1+1)).2)).2+1+1)).2)).2+1+1+1+1+1+1+1)).2)).2)).2)
def iQ:List ag->Int->List ag×Int
 | [],k=>([],k)
 | x::xs,k=>((ct x k).1::(iQ xs (ct x k).2).1,(iQ xs (ct x k).2).2)
end
theorem uA:∀ (l:List ag) (k:Int),iQ l k=mkL ct l k
 | [],k=>by simp [iQ,mkL]
 | x::xs,k=>by simp [iQ,mkL,uA xs]
theorem nV(x:ag)(k:Int):ct x k=(.mk k (mkT (k+1)) (⟨k+1+1,(mkL bg x.fType.aB (k+1+1+1)).1,(mkL ay x.fType.ax ((mkL bg x.fType.aB (k+1+1+1)).2)).1,mkT ((mkL ay x.fType.ax ((mkL bg x.fType.aB (k+1+1+1)).2)).2),mkT ((mkL ay x.fType.ax ((mkL bg x.fType.aB (k+1+1+1)).2)).2+1)⟩) ((mkL ay x.aw ((mkL ay x.fType.ax ((mkL bg x.fType.aB (k+1+1+1)).2)).2+1+1)).1) ((mkL ay x.aD ((mkL ay x.aw ((mkL ay x.fType.ax ((mkL bg x.fType.aB (k+1+1+1)).2)).2+1+1)).2)).1) (mkT ((mkL ay x.aD ((mkL ay x.aw ((mkL ay x.fType.ax ((mkL bg x.fType.aB (k+1+1+1)).2)).2+1+1)).2)).2)) ((((mkL ay x.aD ((mkL ay x.aw ((mkL ay x.fType.ax ((mkL bg x.fType.aB (k+1+1+1)).2)).2+1+1)).2)).2+1).tmod 3 == 0)) ((((mkL ay x.aD ((mkL ay x.aw ((mkL ay x.fType.ax ((mkL bg x.fType.aB (k+1+1+1)).2)).2+1+1)).2)).2+1+1).tmod 3 == 0)) ((((mkL ay x.aD ((mkL ay x.aw ((mkL ay x.fType.ax ((mkL bg x.fType.aB (k+1+1+1)).2)).2+1+1)).2)).2+1+1+1).tmod 3 == 0)) ((((mkL ay x.aD ((mkL ay x.aw ((mkL ay x.fType.ax ((mkL bg x.fType.aB (k+1+1+1)).2)).2+1+1)).2)).2+1+1+1+1).tmod 3 == 0)) ((mkL ay x.aD ((mkL ay x.aw ((mkL ay x.fType.ax ((mkL bg x.fType.aB (k+1+1+1)).2)).2+1+1)).2)).2+1+1+1+1+1) ((mkL ay x.aD ((mkL ay x.aw ((mkL ay x.fType.ax ((mkL bg x.fType.aB (k+1+1+1)).2)).2+1+1)).2)).2+1+1+1+1+1+1) ((mkL cu x.bz ((mkL ay x.aD ((mkL ay x.aw ((mkL ay x.fType.ax ((mkL bg x.fType.aB (k+1+1+1)).2)).2+1+1)).2)).2+1+1+1+1+1+1+1)).1) ((mkL cu x.bY ((mkL cu x.bz ((mkL ay x.aD ((mkL ay x.aw ((mkL ay x.fType.ax ((mkL bg x.fType.aB (k+1+1+1)).2)).2+1+1)).2)).2+1+1+1+1+1+1+1)).2)).1) ((mkL ct x.af ((mkL cu x.bY ((mkL cu x.bz ((mkL ay x.aD ((mkL ay x.aw ((mkL ay x.fType.ax ((mkL bg x.fType.aB (k+1+1+1)).2)).2+1+1)).2)).2+1+1+1+1+1+1+1)).2)).2)).1),(mkL ct x.af ((mkL cu x.bY ((mkL cu x.bz ((mkL ay x.aD ((mkL ay x.aw ((mkL ay x.fType.ax ((mkL bg x.fType.aB (k+1+1+1)).2)).2+1+1)).2)).2+1+1+1+1+1+1+1)).2)).2)).2):=by
 cases x;simp only [ct,uA];rfl
mutual
theorem ib:∀ (x:ag) (k:Int),k+1<=(ct x k).2
 | .mk ai ae fType aw aD bh cm cC bF dF gF gG bz bY af,k=>by
  have g0:=bG lG fType.aB (k+1+1+1)
  have g1:=bG iP fType.ax ((mkL bg fType.aB (k+1+1+1)).2)
  have g2:=bG iP aw ((mkL ay fType.ax ((mkL bg fType.aB (k+1+1+1)).2)).2+1+1)
  have g3:=bG iP aD ((mkL ay aw ((mkL ay fType.ax ((mkL bg fType.aB (k+1+1+1)).2)).2+1+1)).2)
  have g4:=bG iR bz ((mkL ay aD ((mkL ay aw ((mkL ay fType.ax ((mkL bg fType.aB (k+1+1+1)).2)).2+1+1)).2)).2+1+1+1+1+1+1+1)
  have g5:=bG iR bY ((mkL cu bz ((mkL ay aD ((mkL ay aw ((mkL ay fType.ax ((mkL bg fType.aB (k+1+1+1)).2)).2+1+1)).2)).2+1+1+1+1+1+1+1)).2)
  have g6:=uz af ((mkL cu bY ((mkL cu bz ((mkL ay aD ((mkL ay aw ((mkL ay fType.ax ((mkL bg fType.aB (k+1+1+1)).2)).2+1+1)).2)).2+1+1+1+1+1+1+1)).2)).2)
  simp only [ct];omega
theorem uz:∀ (l:List ag) (k:Int),k+l.length<=(iQ l k).2
 | [],k=>by simp [iQ]
 | x::xs,k=>by have h1:=ib x k;have h2:=uz xs (ct x k).2;simp only [iQ,List.length_cons];omega
end
mutual
def aT:ah->Int->ah×Int
 | .mk ae av af,k=>(.mk (mkT k) (mkT (k+1)) ((iU af (k+1+1)).1),(iU af (k+1+1)).2)
def iU:List ah->Int->List ah×Int
 | [],k=>([],k)
 | x::xs,k=>((aT x k).1::(iU xs (aT x k).2).1,(iU xs (aT x k).2).2)
end
theorem sF:∀ (l:List ah) (k:Int),iU l k=mkL aT l k
 | [],k=>by simp [iU,mkL]
 | x::xs,k=>by simp [iU,mkL,sF xs]
theorem mJ(x:ah)(k:Int):aT x k=(.mk (mkT k) (mkT (k+1)) ((mkL aT x.af (k+1+1)).1),(mkL aT x.af (k+1+1)).2):=by
 cases x;simp only [aT,sF];rfl
mutual
theorem dO:∀ (x:ah) (k:Int),k+1<=(aT x k).2
 | .mk ae av af,k=>by
  have g0:=yT af (k+1+1)
  simp only [aT];omega
theorem yT:∀ (l:List ah) (k:Int),k+l.length<=(iU l k).2
 | [],k=>by simp [iU]
 | x::xs,k=>by have h1:=dO x k;have h2:=yT xs (aT x k).2;simp only [iU,List.length_cons];omega
end
end
end Go.Dt
namespace Go.Dt
open Go Go.Ab
section
theorem gY(x:ah)(l:List ah):cnt (x::l)=1+cnt x.af+cnt l:=by
 cases x;simp only [cnt,kc,List.length_cons,ah.af];omega
theorem si:∀ (a b:List ah),cnt (a++b)=cnt a+cnt b
 | [],b=>by simp [cnt,kc]
 | x::a,b=>by rw [List.cons_append,gY,gY,si a b];omega
theorem lT:cnt []=0:=by simp [cnt,kc]
mutual
theorem OH:∀ (x:ah) (k:Int),(aT x k).2=k+2 * (1+cnt x.af:Nat)
 | .mk n v ks,k=>by simp only [aT,ah.af];rw [xF ks];omega
theorem xF:∀ (l:List ah) (k:Int),(iU l k).2=k+2 * (cnt l:Nat)
 | [],k=>by simp [iU,cnt,kc]
 | x::xs,k=>by simp only [iU];rw [xF xs,OH x,gY];omega
end
theorem Av(l:List ah)(k:Int):(mkL aT l k).2=k+2 * (cnt l:Nat):=by rw [<- sF,xF]
def I9(s:List ag)(l:List ah)(cs:List Str):List ah:=if bp s l=true then l.flatMap (Nd cs s) else []
end
section
theorem EM{α:Type}[Inhabited α]{p:α->Bool}:∀ {l:List α},l.find? p=if 0<=idx p l then some (at_ l (idx p l).toNat) else none
 | []=>by simp [idx]
 | x::xs=>by
  have ih:=EM (p:=p) (l:=xs)
  have h0:=ou p xs
  by_cases h:p x=true
  ·have e:idx p (x::xs)=0:=by simp [idx,h]
   rw [List.find?_cons_of_pos h,e];simp [at_]
  ·rw [List.find?_cons_of_neg h,ih]
   by_cases q:idx p xs<0
   ·have e:idx p (x::xs) = -1:=by simp [idx,h,q]
    rw [e,if_neg (by omega),if_neg (by omega)]
   ·have e:idx p (x::xs)=idx p xs+1:=by simp [idx,h,q]
    rw [e,if_pos (by omega),if_pos (by omega),show (idx p xs+1).toNat=(idx p xs).toNat+1 by omega,Bq]
end
end Go.Dt
namespace Go.Dt
open Go.Ab
mutual
def cf:au->Int->au×Int
 | .mk fOp ae av af,k=>(.mk k (mkT (k+1)) (mkT (k+1+1)) ((iV af (k+1+1+1)).1),(iV af (k+1+1+1)).2)
def iV:List au->Int->List au×Int
 | [],k=>([],k)
 | x::xs,k=>((cf x k).1::(iV xs (cf x k).2).1,(iV xs (cf x k).2).2)
end
theorem sH:∀ (l:List au) (k:Int),iV l k=mkL cf l k
 | [],k=>by simp [iV,mkL]
 | x::xs,k=>by simp [iV,mkL,sH xs]
theorem mK(x:au)(k:Int):cf x k=(.mk k (mkT (k+1)) (mkT (k+1+1)) ((mkL cf x.af (k+1+1+1)).1),(mkL cf x.af (k+1+1+1)).2):=by
 cases x;simp only [cf,sH];rfl
mutual
theorem eT:∀ (x:au) (k:Int),k+1<=(cf x k).2
 | .mk fOp ae av af,k=>by
  have g0:=yX af (k+1+1+1)
  simp only [cf];omega
theorem yX:∀ (l:List au) (k:Int),k+l.length<=(iV l k).2
 | [],k=>by simp [iV]
 | x::xs,k=>by have h1:=eT x k;have h2:=yX xs (cf x k).2;simp only [iV,List.length_cons];omega
end
end Go.Dt
