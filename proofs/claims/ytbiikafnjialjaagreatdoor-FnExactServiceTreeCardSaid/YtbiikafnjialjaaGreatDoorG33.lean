/- Part of a proof. -/
import Derived.Lib.ItoaLen
import Derived.Test.YtbiikafnjialjaaGreatDoorG32
set_option linter.all false
set_option maxRecDepth 20000
set_option maxHeartbeats 4000000
namespace Go.Dt
open Go.Ab
def aU(x:df)(k:Int):df×Int:=(⟨k,k+1⟩,k+1+1)
theorem jg(x:df)(k:Int):k+1<=(aU x k).2:=by
 unfold aU;simp only;omega
def iw(x:ed)(k:Int):ed×Int:=(⟨mkT k,mkT (k+1)⟩,k+1+1)
theorem mg(x:ed)(k:Int):k+1<=(iw x k).2:=by
 unfold iw;simp only;omega
def eU(x:GStep)(k:Int):GStep×Int:=(⟨mkT k,(mkL iw x.bT (k+1)).1⟩,(mkL iw x.bT (k+1)).2)
theorem mh(x:GStep)(k:Int):k+1<=(eU x k).2:=by
 have g0:=bM mg x.bT (k+1)
 unfold eU;simp only;omega
mutual
def cv:aO->Int->aO×Int
 | .mk fOp fo bW aA ag,k=>(.mk k (k+1) (mkT (k+1+1)) (⟨((k+1+1+1).tmod 3 == 0),k+1+1+1+1,(mkL eU aA.aK (k+1+1+1+1+1)).1⟩) ((j1 ag ((mkL eU aA.aK (k+1+1+1+1+1)).2)).1),(j1 ag ((mkL eU aA.aK (k+1+1+1+1+1)).2)).2)
def j1:List aO->Int->List aO×Int
 | [],k=>([],k)
 | x::xs,k=>((cv x k).1::(j1 xs (cv x k).2).1,(j1 xs (cv x k).2).2)
end
theorem xE:∀ (l:List aO) (k:Int),j1 l k=mkL cv l k
 | [],k=>by simp [j1,mkL]
 | x::xs,k=>by simp [j1,mkL,xE xs]
theorem p5(x:aO)(k:Int):cv x k=(.mk k (k+1) (mkT (k+1+1)) (⟨((k+1+1+1).tmod 3 == 0),k+1+1+1+1,(mkL eU x.aA.aK (k+1+1+1+1+1)).1⟩) ((mkL cv x.ag ((mkL eU x.aA.aK (k+1+1+1+1+1)).2)).1),(mkL cv x.ag ((mkL eU x.aA.aK (k+1+1+1+1+1)).2)).2):=by
 cases x;simp only [cv,xE];rfl
mutual
theorem iE:∀ (x:aO) (k:Int),k+1<=(cv x k).2
 | .mk fOp fo bW aA ag,k=>by
  have g0:=bM mh aA.aK (k+1+1+1+1+1)
  have g1:=xD ag ((mkL eU aA.aK (k+1+1+1+1+1)).2)
  simp only [cv];omega
theorem xD:∀ (l:List aO) (k:Int),k+l.length<=(j1 l k).2
 | [],k=>by simp [j1]
 | x::xs,k=>by have h1:=iE x k;have h2:=xD xs (cv x k).2;simp only [j1,List.length_cons];omega
end
mutual
def du:ae->Int->ae×Int
 | .mk ai af fType aD aB ba cn cy bw dC gr gu bq bR ag,k=>(.mk k (mkT (k+1)) (⟨k+1+1,(mkL aU fType.av (k+1+1+1)).1,(mkL au fType.ay ((mkL aU fType.av (k+1+1+1)).2)).1,mkT ((mkL au fType.ay ((mkL aU fType.av (k+1+1+1)).2)).2),mkT ((mkL au fType.ay ((mkL aU fType.av (k+1+1+1)).2)).2+1)⟩) ((mkL au aD ((mkL au fType.ay ((mkL aU fType.av (k+1+1+1)).2)).2+1+1)).1) ((mkL au aB ((mkL au aD ((mkL au fType.ay ((mkL aU fType.av (k+1+1+1)).2)).2+1+1)).2)).1) (mkT ((mkL au aB ((mkL au aD ((mkL au fType.ay ((mkL aU fType.av (k+1+1+1)).2)).2+1+1)).2)).2)) ((((mkL au aB ((mkL au aD ((mkL au fType.ay ((mkL aU fType.av (k+1+1+1)).2)).2+1+1)).2)).2+1).tmod 3 == 0)) ((((mkL au aB ((mkL au aD ((mkL au fType.ay ((mkL aU fType.av (k+1+1+1)).2)).2+1+1)).2)).2+1+1).tmod 3 == 0)) ((((mkL au aB ((mkL au aD ((mkL au fType.ay ((mkL aU fType.av (k+1+1+1)).2)).2+1+1)).2)).2+1+1+1).tmod 3 == 0)) ((((mkL au aB ((mkL au aD ((mkL au fType.ay ((mkL aU fType.av (k+1+1+1)).2)).2+1+1)).2)).2+1+1+1+1).tmod 3 == 0)) ((mkL au aB ((mkL au aD ((mkL au fType.ay ((mkL aU fType.av (k+1+1+1)).2)).2+1+1)).2)).2+1+1+1+1+1) ((mkL au aB ((mkL au aD ((mkL au fType.ay ((mkL aU fType.av (k+1+1+1)).2)).2+1+1)).2)).2+1+1+1+1+1+1) ((mkL cv bq ((mkL au aB ((mkL au aD ((mkL au fType.ay ((mkL aU fType.av (k+1+1+1)).2)).2+1+1)).2)).2+1+1+1+1+1+1+1)).1) ((mkL cv bR ((mkL cv bq ((mkL au aB ((mkL au aD ((mkL au fType.ay ((mkL aU fType.av (k+1+1+1)).2)).2+1+1)).2)).2+1+1+1+1+1+1+1)).2)).1) ((iD ag ((mkL cv bR ((mkL cv bq ((mkL au aB ((mkL au aD ((mkL au fType.ay ((mkL aU fType.av (k+1+1+1)).2)).2+1+1)).2)).2+1+1+1+1+1+1+1)).2)).2)).1),(iD ag ((mkL cv bR ((mkL cv bq ((mkL au aB ((mkL au aD ((mkL au fType.ay ((mkL aU fType.av (k+1+1+1)).2)).2+1+1)).2)).2+1+1+1+1+1+1+1)).2)).2)).2)
def iD:List ae->Int->List ae×Int
 | [],k=>([],k)
 | x::xs,k=>((du x k).1::(iD xs (du x k).2).1,(iD xs (du x k).2).2)
end
theorem tI:∀ (l:List ae) (k:Int),iD l k=mkL du l k
 | [],k=>by simp [iD,mkL]
 | x::xs,k=>by simp [iD,mkL,tI xs]
theorem nz(x:ae)(k:Int):du x k=(.mk k (mkT (k+1)) (⟨k+1+1,(mkL aU x.fType.av (k+1+1+1)).1,(mkL au x.fType.ay ((mkL aU x.fType.av (k+1+1+1)).2)).1,mkT ((mkL au x.fType.ay ((mkL aU x.fType.av (k+1+1+1)).2)).2),mkT ((mkL au x.fType.ay ((mkL aU x.fType.av (k+1+1+1)).2)).2+1)⟩) ((mkL au x.aD ((mkL au x.fType.ay ((mkL aU x.fType.av (k+1+1+1)).2)).2+1+1)).1) ((mkL au x.aB ((mkL au x.aD ((mkL au x.fType.ay ((mkL aU x.fType.av (k+1+1+1)).2)).2+1+1)).2)).1) (mkT ((mkL au x.aB ((mkL au x.aD ((mkL au x.fType.ay ((mkL aU x.fType.av (k+1+1+1)).2)).2+1+1)).2)).2)) ((((mkL au x.aB ((mkL au x.aD ((mkL au x.fType.ay ((mkL aU x.fType.av (k+1+1+1)).2)).2+1+1)).2)).2+1).tmod 3 == 0)) ((((mkL au x.aB ((mkL au x.aD ((mkL au x.fType.ay ((mkL aU x.fType.av (k+1+1+1)).2)).2+1+1)).2)).2+1+1).tmod 3 == 0)) ((((mkL au x.aB ((mkL au x.aD ((mkL au x.fType.ay ((mkL aU x.fType.av (k+1+1+1)).2)).2+1+1)).2)).2+1+1+1).tmod 3 == 0)) ((((mkL au x.aB ((mkL au x.aD ((mkL au x.fType.ay ((mkL aU x.fType.av (k+1+1+1)).2)).2+1+1)).2)).2+1+1+1+1).tmod 3 == 0)) ((mkL au x.aB ((mkL au x.aD ((mkL au x.fType.ay ((mkL aU x.fType.av (k+1+1+1)).2)).2+1+1)).2)).2+1+1+1+1+1) ((mkL au x.aB ((mkL au x.aD ((mkL au x.fType.ay ((mkL aU x.fType.av (k+1+1+1)).2)).2+1+1)).2)).2+1+1+1+1+1+1) ((mkL cv x.bq ((mkL au x.aB ((mkL au x.aD ((mkL au x.fType.ay ((mkL aU x.fType.av (k+1+1+1)).2)).2+1+1)).2)).2+1+1+1+1+1+1+1)).1) ((mkL cv x.bR ((mkL cv x.bq ((mkL au x.aB ((mkL au x.aD ((mkL au x.fType.ay ((mkL aU x.fType.av (k+1+1+1)).2)).2+1+1)).2)).2+1+1+1+1+1+1+1)).2)).1) ((mkL du x.ag ((mkL cv x.bR ((mkL cv x.bq ((mkL au x.aB ((mkL au x.aD ((mkL au x.fType.ay ((mkL aU x.fType.av (k+1+1+1)).2)).2+1+1)).2)).2+1+1+1+1+1+1+1)).2)).2)).1),(mkL du x.ag ((mkL cv x.bR ((mkL cv x.bq ((mkL au x.aB ((mkL au x.aD ((mkL au x.fType.ay ((mkL aU x.fType.av (k+1+1+1)).2)).2+1+1)).2)).2+1+1+1+1+1+1+1)).2)).2)).2):=by
 cases x;simp only [du,tI];rfl
mutual
theorem jw:∀ (x:ae) (k:Int),k+1<=(du x k).2
 | .mk ai af fType aD aB ba cn cy bw dC gr gu bq bR ag,k=>by
  have g0:=bM jg fType.av (k+1+1+1)
  have g1:=bM fE fType.ay ((mkL aU fType.av (k+1+1+1)).2)
  have g2:=bM fE aD ((mkL au fType.ay ((mkL aU fType.av (k+1+1+1)).2)).2+1+1)
  have g3:=bM fE aB ((mkL au aD ((mkL au fType.ay ((mkL aU fType.av (k+1+1+1)).2)).2+1+1)).2)
  have g4:=bM iE bq ((mkL au aB ((mkL au aD ((mkL au fType.ay ((mkL aU fType.av (k+1+1+1)).2)).2+1+1)).2)).2+1+1+1+1+1+1+1)
  have g5:=bM iE bR ((mkL cv bq ((mkL au aB ((mkL au aD ((mkL au fType.ay ((mkL aU fType.av (k+1+1+1)).2)).2+1+1)).2)).2+1+1+1+1+1+1+1)).2)
  have g6:=tH ag ((mkL cv bR ((mkL cv bq ((mkL au aB ((mkL au aD ((mkL au fType.ay ((mkL aU fType.av (k+1+1+1)).2)).2+1+1)).2)).2+1+1+1+1+1+1+1)).2)).2)
  simp only [du];omega
theorem tH:∀ (l:List ae) (k:Int),k+l.length<=(iD l k).2
 | [],k=>by simp [iD]
 | x::xs,k=>by have h1:=jw x k;have h2:=tH xs (du x k).2;simp only [iD,List.length_cons];omega
end
mutual
def cm:ah->Int->ah×Int
 | .mk af ax ag,k=>(.mk (mkT k) (mkT (k+1)) ((iH ag (k+1+1)).1),(iH ag (k+1+1)).2)
def iH:List ah->Int->List ah×Int
 | [],k=>([],k)
 | x::xs,k=>((cm x k).1::(iH xs (cm x k).2).1,(iH xs (cm x k).2).2)
end
theorem rR:∀ (l:List ah) (k:Int),iH l k=mkL cm l k
 | [],k=>by simp [iH,mkL]
 | x::xs,k=>by simp [iH,mkL,rR xs]
theorem mi(x:ah)(k:Int):cm x k=(.mk (mkT k) (mkT (k+1)) ((mkL cm x.ag (k+1+1)).1),(mkL cm x.ag (k+1+1)).2):=by
 cases x;simp only [cm,rR];rfl
mutual
theorem fM:∀ (x:ah) (k:Int),k+1<=(cm x k).2
 | .mk af ax ag,k=>by
  have g0:=xB ag (k+1+1)
  simp only [cm];omega
theorem xB:∀ (l:List ah) (k:Int),k+l.length<=(iH l k).2
 | [],k=>by simp [iH]
 | x::xs,k=>by have h1:=fM x k;have h2:=xB xs (cm x k).2;simp only [iH,List.length_cons];omega
end
end Go.Dt
namespace Go.Dt
open Go Go.Ab
section
theorem jA(x:ah)(l:List ah):cnt (x::l)=1+cnt x.ag+cnt l:=by
 cases x;simp only [cnt,kc,List.length_cons,ah.ag];omega
theorem oX:cnt []=0:=by simp [cnt,kc]
mutual
theorem Lr:∀ (x:ah) (k:Int),(cm x k).2=k+2 * (1+cnt x.ag:Nat)
 | .mk n v ks,k=>by simp only [cm,ah.ag];rw [wy ks];omega
theorem wy:∀ (l:List ah) (k:Int),(iH l k).2=k+2 * (cnt l:Nat)
 | [],k=>by simp [iH,cnt,kc]
 | x::xs,k=>by simp only [iH];rw [wy xs,Lr x,jA];omega
end
theorem LZ(l:List ah)(k:Int):(mkL cm l k).2=k+2 * (cnt l:Nat):=by rw [<- rR,wy]
def Xn(s:List ae)(l:List ah)(cs:List Str):List ah:=if ue s l=true then l.flatMap (Kw cs s) else []
end
section
theorem Dm{α:Type}[Inhabited α]{p:α->Bool}:∀ {l:List α},l.find? p=if 0<=idx p l then some (at_ l (idx p l).toNat) else none
 | []=>by simp [idx]
 | x::xs=>by
  have ih:=Dm (p:=p) (l:=xs)
  have h0:=pG p xs
  by_cases h:p x=true
  ·have e:idx p (x::xs)=0:=by simp [idx,h]
   rw [List.find?_cons_of_pos h,e];simp [at_]
  ·rw [List.find?_cons_of_neg h,ih]
   by_cases q:idx p xs<0
   ·have e:idx p (x::xs) = -1:=by simp [idx,h,q]
    rw [e,if_neg (by omega),if_neg (by omega)]
   ·have e:idx p (x::xs)=idx p xs+1:=by simp [idx,h,q]
    rw [e,if_pos (by omega),if_pos (by omega),show (idx p xs+1).toNat=(idx p xs).toNat+1 by omega,zM]
end
end Go.Dt
namespace Go.Dt
open Go.Ab
mutual
def mD:bz->Int->bz×Int
 | .mk fOp af ax ag,k=>(.mk k (mkT (k+1)) (mkT (k+1+1)) ((j3 ag (k+1+1+1)).1),(j3 ag (k+1+1+1)).2)
def j3:List bz->Int->List bz×Int
 | [],k=>([],k)
 | x::xs,k=>((mD x k).1::(j3 xs (mD x k).2).1,(j3 xs (mD x k).2).2)
end
mutual
theorem Hj:∀ (x:bz) (k:Int),k+1<=(mD x k).2
 | .mk fOp af ax ag,k=>by
  have g0:=xF ag (k+1+1+1)
  simp only [mD];omega
theorem xF:∀ (l:List bz) (k:Int),k+l.length<=(j3 l k).2
 | [],k=>by simp [j3]
 | x::xs,k=>by have h1:=Hj x k;have h2:=xF xs (mD x k).2;simp only [j3,List.length_cons];omega
end
end Go.Dt
namespace Go.Dt
open Go Go.Ab
section
def qQ:List bz->Nat
 | []=>0
 | .mk _ _ _ ks::xs=>1+qQ ks+qQ xs
theorem IP(x:bz)(l:List bz):qQ (x::l)=1+qQ x.ag+qQ l:=by cases x;rw [qQ];rfl
mutual
theorem Ls:∀ (x:bz) (k:Int),(mD x k).2=k+3 * (1+qQ x.ag:Nat)
 | .mk o n v ks,k=>by simp only [mD,bz.ag];rw [Cb ks];omega
theorem Cb:∀ (l:List bz) (k:Int),(j3 l k).2=k+3 * (qQ l:Nat)
 | [],k=>by simp [j3,qQ]
 | x::xs,k=>by simp only [j3];rw [Cb xs,Ls x,IP];omega
end
def Xm(s:List ae)(a b:List ah):List bz:=if (ue s a && ue s b)=true then dif s a b else []
end
section
def Oc(all:List ae)(i:Nat)(m:Nat):List Str:=(List.range m).flatMap fun j=>if j=i then [] else nmS (dk (at_ all j).ag)
mutual
def oth:List ae->Str->Option (List Str)
 | [],_=>none
 | .mk k a _ _ _ _ _ _ _ _ _ _ _ _ ks::xs,nm =>
  if eD k=true/\a=nm then some []
  else if k=5 then (match yV ks 0 ks nm with|some o=>some o|none=>oth xs nm)
  else oth xs nm
def yV:List ae->Nat->List ae->Str->Option (List Str)
 | _,_,[],_=>none
 | all,i,.mk _ _ _ _ _ _ _ _ _ _ _ _ _ _ ks::xs,nm =>
  match oth ks nm with
  | some o=>some (o++Oc all i all.length)
  | none=>yV all (i+1) xs nm
end
def Tn(s:List ae)(nm:Str):List Str:=(oth s nm).getD []
def wo(s:List ae)(nm:Str)(l:List ah):List ah:=l.filter fun y=>!cont (Tn s nm) y.af
def stP(d:List ae)(x y:ah):Bool:=decide (idx (nmP x.af) d<idx (nmP y.af) d) || (decide (idx (nmP y.af) d=idx (nmP x.af) d) && decide (0<j7 (at_ d (idx (nmP x.af) d).toNat) y x))
def pos{α:Type}(p:α->Bool):List α->Nat
 | []=>0
 | x::xs=>if p x=true then 0 else pos p xs+1
def ins(s:List ae)(l:List ah)(x:ah):List ah:=l.take (pos (stP (dk s) x) l)++x::l.drop (pos (stP (dk s) x) l)
def wrg(n:ae)(e:bz):Int :=
 if ((n.ai=1\/n.ai=2)/\¬ e.ax=[])\/(¬ (n.ai=1\/n.ai=2)/\¬ e.ag=[]) then 2
 else if e.fOp<1\/5<e.fOp then 3
 else if (n.ai=4\/n.ai=3/\¬ (e.fOp=4\/e.fOp=5))/\cvB n.fType e.ax=false then 7 else 0
def kt(n:ae)(k:Str):cL:=(at_ n.ag (idx (fV k) n.ag).toNat).fType
def edP(k:Str)(e:bz):Bool:=e.af == k
def kvF(k:Str)(es:List bz):List bz:=es.filter (edP k)
def kvG(n:ae)(k:Str)(e:bz):Bool:=cvB (kt n k) e.ax && !decide (e.fOp=4) && !decide (e.fOp=5)
def kvV(n:ae)(k:Str)(es:List bz):List ah:=(kvF k es).map fun e=>.mk k (cvS (kt n k) e.ax) []
def uQ(n:ae)(es:List bz):Bool:=n.aD.all fun k=>decide ((kvF k es).length=1) && (kvF k es).all (kvG n k)
def jK(n:ae)(e:bz):ah:=.mk n.af (if n.ai=4 then cvS n.fType e.ax else []) (if n.ai=2 then n.aD.flatMap (fun k=>kvV n k e.ag) else [])
def dl(l:List ah)(i:Int):List ah:=if 0<=i then l.eraseIdx i.toNat else l
abbrev Rec:=List ae->List ah->List ah×Int
def crt(R:Rec)(s:List ae)(l:List ah)(n:ae)(e:bz):List ah×Int :=
 if n.ai=3\/n.ai=4 then (ins s (wo s n.af l) (.mk n.af (cvS n.fType e.ax) []),0)
 else if ¬ (R n.ag []).2=0 then ([],(R n.ag []).2)
 else if n.ai=1/\n.bw=false/\(R n.ag []).1=[] then (l,0)
 else (ins s (wo s n.af l) (.mk n.af [] (R n.ag []).1),0)
def mrg(R:Rec)(l:List ah)(i:Nat)(n:ae)(e:bz):List ah×Int :=
 if n.ai=3 then (l.set i (.mk (at_ l i).af (cvS n.fType e.ax) (at_ l i).ag),0)
 else if n.ai=1\/n.ai=2 then
  (if ¬ (R n.ag (at_ l i).ag).2=0 then ([],(R n.ag (at_ l i).ag).2)
   else if n.ai=1/\n.bw=false/\(R n.ag (at_ l i).ag).1=[] then (l.eraseIdx i,0)
   else (l.set i (.mk (at_ l i).af (at_ l i).ax (R n.ag (at_ l i).ag).1),0))
 else (l,0)
def one(R:Rec)(s:List ae)(l:List ah)(e:bz):List ah×Int :=
 if idx (nmP e.af) (dk s)<0 then ([],2)
 else if ¬ wrg (nd s e.af) e=0 then ([],wrg (nd s e.af) e)
 else if (nd s e.af).ai=2/\uQ (nd s e.af) e.ag=false then ([],4)
 else if e.fOp=3/\0<=fnd (nd s e.af) l (jK (nd s e.af) e) then ([],5)
 else if e.fOp=4/\fnd (nd s e.af) l (jK (nd s e.af) e)<0 then ([],6)
 else if e.fOp=5/\fnd (nd s e.af) l (jK (nd s e.af) e)<0 then (l,0)
 else if e.fOp=1/\0<=fnd (nd s e.af) l (jK (nd s e.af) e) then mrg R l (fnd (nd s e.af) l (jK (nd s e.af) e)).toNat (nd s e.af) e
 else if e.fOp=4\/e.fOp=5 then (dl l (fnd (nd s e.af) l (jK (nd s e.af) e)),0)
 else crt R s (dl l (fnd (nd s e.af) l (jK (nd s e.af) e))) (nd s e.af) e
def mdE:List bz->List ae->List ah->List ah×Int
 | [],_,l=>(l,0)
 | .mk op nm v ks::es,s,l =>
  if ¬ (one (mdE ks) s l (.mk op nm v ks)).2=0 then ([],(one (mdE ks) s l (.mk op nm v ks)).2)
  else mdE es s (one (mdE ks) s l (.mk op nm v ks)).1
def mdT(s:List ae)(l:List ah)(es:List bz):List ah×Int :=
 if ue s l=false then (l,1)
 else if ¬ (mdE es s l).2=0 then (l,(mdE es s l).2)
 else if ue s (mdE es s l).1=false then (l,8) else ((mdE es s l).1,0)
theorem Po{l:List ah}{i:Nat}(h:i<l.length):l=l.take i++at_ l i::l.drop (i+1):=by
 rw [<- ct h,List.take_append_drop]
theorem Pc{l:List ah}{i:Nat}:l.eraseIdx i=l.take i++l.drop (i+1):=List.eraseIdx_eq_take_drop_succ ..
def F(l:List ah)(k:Str):Option Str:=(l.find? (ndP k)).map ah.ax
theorem RN(l:List ah)(k:Str):F l k=if 0<=idx (ndP k) l then some (at_ l (idx (ndP k) l).toNat).ax else none:=by
 rw [F,Dm];split<;>rfl
theorem O5(x:ah)(k:Str):mY x k=(F x.ag k).isSome:=by
 rw [RN,mY];split
 ·rename_i h;simpa using h
 ·rename_i h;simpa using h
theorem RO(a b:List ah)(k:Str):F (a++b) k=(F a k).or (F b k):=by
 unfold F;rw [List.find?_append];cases a.find? (ndP k)<;>rfl
theorem PD(x:ah)(l:List ah)(k:Str):F (x::l) k=if x.af=k then some x.ax else F l k:=by
 unfold F;rw [List.find?_cons]
 by_cases h:x.af=k
 ·rw [if_pos h,show ndP k x=true by simpa [ndP] using h];rfl
 ·rw [if_neg h,show ndP k x=false by simpa [ndP] using h]
theorem PB{l:List ah}{k:Str}(h:∀ x∈l,¬ x.af=k):F l k=none:=by
 unfold F;rw [List.find?_eq_none.2 fun x hx=>by simpa [ndP] using h x hx];rfl
end
section
def same(s:List ae)(x y:ah):Prop:=x.af=y.af/\(kH (nd s x.af).ai=true->kyL (nd s x.af) x=kyL (nd s x.af) y)
theorem z8{s:List ae}{x y:ah}(h:same s x y):same s y x:=⟨h.1.symm,fun r=>by rw [<- h.1] at r ⊢;exact (h.2 r).symm⟩
theorem FX{s:List ae}{x y z:ah}(h:same s x y)(h2:same s y z):same s x z:=⟨h.1.trans h2.1,fun r=>by
 have r2:=r
 rw [h.1] at r2
 have:=h2.2 r2
 rw [<- h.1] at this
 exact (h.2 r).trans this⟩
def J:List ae->List ah->Prop
 | _,[]=>True
 | s,.mk nm v ks::xs=>(0<=idx (nmP nm) (dk s)/\kyB (nd s nm) (.mk nm v ks)=true/\((nd s nm).ai=1\/(nd s nm).ai=2->v=[]/\J (nd s nm).ag ks))/\(∀ y∈xs,¬ same s (.mk nm v ks) y)/\J s xs
def jX(s:List ae)(x:ah):Prop:=0<=idx (nmP x.af) (dk s)/\kyB (nd s x.af) x=true/\((nd s x.af).ai=1\/(nd s x.af).ai=2->x.ax=[]/\J (nd s x.af).ag x.ag)
theorem PA{s:List ae}{x:ah}{xs:List ah}:J s (x::xs)↔jX s x/\(∀ y∈xs,¬ same s x y)/\J s xs:=by cases x;rw [J];exact Iff.rfl
theorem RL{s:List ae}:J s []:=by rw [J];trivial
theorem G5{s:List ae}:∀ {l:List ah},J s l↔(∀ x∈l,jX s x)/\l.Pairwise fun x y=>¬ same s x y
 | []=>by simp [RL]
 | x::xs=>by
  rw [PA,G5 (l:=xs),List.pairwise_cons]
  constructor
  ·rintro ⟨h1,h2,h3,h4⟩
   exact ⟨fun y hy=>by rcases List.mem_cons.1 hy with rfl|hy;exact h1;exact h3 y hy,h2,h4⟩
  ·rintro ⟨h1,h2,h3⟩
   exact ⟨h1 x (by simp),h2,fun y hy=>h1 y (by simp [hy]),h3⟩
theorem N8{s:List ae}{a b:List ah}{x:ah}:(a++x::b).Pairwise (fun x y=>¬ same s x y)↔(∀ y∈a++b,¬ same s x y)/\(a++b).Pairwise fun x y=>¬ same s x y:=by
 rw [(List.perm_middle (a:=x) (l₁:=a) (l₂:=b)).pairwise_iff fun h c=>h (z8 c),List.pairwise_cons]
theorem E3{s:List ae}{k:Str}(h:0<=idx (nmP k) (dk s)):(nd s k).af=k/\nd s k∈dk s:=by
 obtain ⟨_,h2,h3⟩:=ja h
 simp only [nmP,beq_iff_eq] at h2
 exact ⟨h2,h3⟩
theorem Km{s:List ae}{x y:ah}(hx:0<=idx (nmP x.af) (dk s))(kx:kyB (nd s x.af) x=true)(ky:y.af=x.af->kyB (nd s x.af) y=true):fiP (nd s x.af) x y=true↔same s x y:=by
 have hn:=(E3 hx).1
 unfold fiP same
 rw [hn]
 by_cases e:y.af=x.af
 ·have e1:(y.af == x.af)=true:=by simpa using e
  rw [e1,j7,skB,kx,ky e]
  by_cases r:kH (nd s x.af).ai=true
  ·rw [if_pos r,r]
   simp only [Bool.true_and,Bool.not_true,Bool.false_or,Bool.and_eq_true,decide_eq_true_eq,DI,beq_iff_eq,and_self,true_implies]
   exact ⟨fun h=>⟨e.symm,h⟩,fun h=>h.2⟩
  ·rw [if_neg r,show kH (nd s x.af).ai=false by simpa using r]
   simp [e]
 ·have e1:(y.af == x.af)=false:=by simpa using e
  rw [e1]
  constructor
  ·intro h;simp at h
  ·rintro ⟨h,_⟩;exact absurd h.symm e
theorem RM{n:ae}{k:Str}{es:List bz}{e0:bz}(h:kvF k es=[e0]):F (kvV n k es) k=some (cvS (kt n k) e0.ax):=by
 rw [kvV,h,List.map_cons,PD,if_pos (show (ah.mk k (cvS (kt n k) e0.ax) []).af=k from rfl)];rfl
theorem KF{n:ae}{k j:Str}{es:List bz}(h:¬ j=k):F (kvV n j es) k=none:=PB fun x hx=>by
 obtain ⟨_,_,rfl⟩:=List.mem_map.1 hx;exact h
theorem I7{n:ae}{k:Str}{es:List bz}{e0:bz}(h:kvF k es=[e0]):∀ {Ks:List Str},k∈Ks->F (Ks.flatMap fun k=>kvV n k es) k=some (cvS (kt n k) e0.ax)
 | j::Ks,hk=>by
  rw [List.flatMap_cons,RO]
  by_cases e:j=k
  ·subst e;rw [RM h];rfl
  ·rw [KF e,I7 h (by simpa [Ne.symm e,show ¬ k=j from fun c=>e c.symm] using hk)];rfl
theorem JR{n:ae}{es:List bz}(h:uQ n es=true){k:Str}(hk:k∈n.aD):∃ e0,kvF k es=[e0]/\e0.af=k/\cvB (kt n k) e0.ax=true/\¬ e0.fOp=4/\¬ e0.fOp=5:=by
 have:=List.all_eq_true.1 h k hk
 simp only [Bool.and_eq_true,decide_eq_true_eq] at this
 obtain ⟨h1,h2⟩:=this
 match he:kvF k es,h1 with
 | [e0],_ =>
  rw [he] at h2
  simp only [List.all_cons,List.all_nil,Bool.and_true,kvG,Bool.and_eq_true,Bool.not_eq_true',decide_eq_false_iff_not] at h2
  have hm:e0∈kvF k es:=by rw [he];simp
  have:=(List.mem_filter.1 hm).2
  exact ⟨e0,rfl,by simpa [edP] using this,h2.1.1,h2.1.2,h2.2⟩
theorem Oy{n:ae}{e:bz}(h:n.ai=2->uQ n e.ag=true):kyB n (jK n e)=true:=by
 by_cases h2:n.ai=2
 ·refine (rp h2 (List.all_eq_true.2 fun k hk=>?_)).2
  obtain ⟨e0,h3,_⟩:=JR (h h2) hk
  rw [O5]
  show (F (if n.ai=2 then _ else []) k).isSome=true
  rw [if_pos h2,I7 h3 hk];rfl
 ·exact (nM h2).2
theorem sK{k:Str}{c:ae}(hk:k∈nmS (dk c.ag)):∀ {all:List ae},(∀ c∈all,c.ai=6)->c∈all->k∈nmS (dk all)
 | y::ys,h6,hc=>by
  rw [ng,nmS,List.map_append,List.mem_append]
  rcases List.mem_cons.1 hc with rfl|hc
  ·have e:=h6 c (by simp)
   left
   rw [e,if_neg (by decide),if_pos (.inr rfl)]
   exact hk
  ·right;exact sK hk (fun c hc=>h6 c (by simp [hc])) hc
theorem Jw{all:List ae}(h6:∀ c∈all,c.ai=6){i m:Nat}(hm:m<=all.length):∀ k∈Oc all i m,k∈nmS (dk all):=by
 intro k hk
 obtain ⟨j,hj,hk⟩:=List.mem_flatMap.1 hk
 have hj':=List.mem_range.1 hj
 split at hk
 ·simp at hk
 ·exact sK hk h6 (at_mem (l:=all) (k:=j) (by omega))
theorem CU{x:ae}{xs:List ae}{kind:Int}{bd:Bool}(h:kA (x::xs) kind bd=true):jQ kind bd x=true/\(∃ b,kA x.ag x.ai b=true)/\kA xs kind bd=true:=by
 cases x;rw [kA] at h
 simp only [Bool.and_eq_true] at h
 exact ⟨h.1.1,⟨_,h.1.2.2⟩,h.2⟩
theorem QL{x:ae}{kind:Int}{bd:Bool}(h:jQ kind bd x=true):x.ai=6↔kind=5:=by
 simp only [jQ,Bool.and_eq_true,beq_iff_eq,decide_eq_decide] at h
 exact h.1.1.1.2
theorem OE:∀ {l:List ae} {bd:Bool},kA l 5 bd=true->∀ c∈l,c.ai=6
 | x::xs,bd,h,c,hc=>by
  have:=CU h
  rcases List.mem_cons.1 hc with rfl|hc
  ·exact (QL this.1).2 rfl
  ·exact OE this.2.2 c hc
theorem Et{x:ae}(h:x.ai=5\/x.ai=6)(xs:List ae):nmS (dk (x::xs))=nmS (dk x.ag)++nmS (dk xs):=by
 rw [ng,nmS,List.map_append]
 rw [if_neg (by rcases h with h|h<;>rw [h]<;>decide),if_pos h];rfl
mutual
theorem EX:∀ (s:List ae) (kind:Int) (bd:Bool) (nm:Str) (o:List Str),kA s kind bd=true->oth s nm=some o->∀ k∈o,k∈nmS (dk s)
 | [],_,_,_,_,_,h=>by simp [oth] at h
 | .mk kd a b c d e f g h0 i j l m n ks::xs,kind,bd,nm,o,hA,h=>by
  have hc:=CU hA
  have hxs:∀ o,oth xs nm=some o->∀ k∈o,k∈nmS (dk (.mk kd a b c d e f g h0 i j l m n ks::xs)):=fun o ho k hk=>by
   have:=EX xs kind bd nm o hc.2.2 ho k hk
   rw [ng,nmS,List.map_append,List.mem_append];exact .inr this
  rw [oth] at h
  split at h
  ·injection h with h;subst h;intro k hk;simp at hk
  ·split at h
   ·rename_i h5
    obtain ⟨bb,hk2⟩:=hc.2.1
    cases hC:yV ks 0 ks nm with
    | some o2 =>
     rw [hC] at h
     injection h with h;subst h
     intro k hk
     have h6:=OE (l:=ks) (bd:=bb) (by rw [<- h5];exact hk2)
     have:=Cx ks 0 ks 5 bb nm o2 (by rw [<- h5];exact hk2) h6 hC (fun c hc=>hc) (by simp) k hk
     rw [Et (x:=.mk kd a b c d e f g h0 i j l m n ks) (.inl h5),List.mem_append];exact .inl this
    | none=>rw [hC] at h;exact hxs o h
   ·exact hxs o h
theorem Cx:∀ (all:List ae) (i:Nat) (xs:List ae) (kind:Int) (bd:Bool) (nm:Str) (o:List Str),kA xs kind bd=true->(∀ c∈all,c.ai=6)->yV all i xs nm=some o->(∀ c∈xs,c∈all)->(True)->∀ k∈o,k∈nmS (dk all)
 | _,_,[],_,_,_,_,_,_,h,_,_=>by simp [yV] at h
 | all,i,.mk kd a b c d e f g h0 i' j l m n ks::xs,kind,bd,nm,o,hA,h6,h,hs,_=>by
  have hc:=CU hA
  rw [yV] at h
  cases hC:oth ks nm with
  | some o2 =>
   rw [hC] at h
   injection h with h;subst h
   intro k hk
   rcases List.mem_append.1 hk with hk|hk
   ·obtain ⟨bb,hk2⟩:=hc.2.1
    have h1:=EX ks _ bb nm o2 hk2 hC k hk
    exact sK (c:=.mk kd a b c d e f g h0 i' j l m n ks) h1 h6 (hs _ (List.mem_cons_self ..))
   ·exact Jw h6 (Nat.le_refl _) k hk
  | none=>rw [hC] at h;exact Cx all (i+1) xs kind bd nm o hc.2.2 h6 h (fun c hc=>hs c (by simp [hc])) trivial
end
def Tz(s:List ae)(k:Str):Prop:=∃ m∈s,m.af=k/\m.ai=3
end
section
def Kp(s:List ae)(es:List bz)(l l':List ah):Prop:=∀ k,Tz s k->((∀ e∈es,¬ e.af=k)->F l' k=F l k)/\(∀ e0,kvF k es=[e0]->¬ e0.fOp=4->¬ e0.fOp=5->F l' k=some (cvS (nd s k).fType e0.ax))
def ROk(R:Rec)(s:List ae)(es:List bz):Prop:=∀ l,J s l->(R s l).2=0->J s (R s l).1/\Kp s es l (R s l).1
section
variable {R : Rec} {s : List ae} {l : List ah} {e : bz}
theorem HZ(n:ae)(e:bz):(jK n e).af=n.af:=rfl
theorem Dk(hg:gdS s)(hJ:J s l)(h0:0<=idx (nmP e.af) (dk s))(hk:(nd s e.af).ai=2->uQ (nd s e.af) e.ag=true)(y:ah)(hy:y∈l):fiP (nd s e.af) (jK (nd s e.af) e) y=true↔same s (jK (nd s e.af) e) y:=by
 have hn:=(E3 h0).1
 have e1:(jK (nd s e.af) e).af=e.af:=by rw [HZ,hn]
 have:=Km (s:=s) (x:=jK (nd s e.af) e) (y:=y) (by rw [e1];exact h0) (by rw [e1];exact Oy hk) (fun c=>by
  rw [e1] at c ⊢
  have:=((G5.1 hJ).1 y hy).2.1
  rw [c] at this;exact this)
 rw [e1] at this
 exact this
theorem MC(hg:gdS s)(hJ:J s l)(h0:0<=idx (nmP e.af) (dk s))(hk:(nd s e.af).ai=2->uQ (nd s e.af) e.ag=true)(hi:0<=fnd (nd s e.af) l (jK (nd s e.af) e)):(fnd (nd s e.af) l (jK (nd s e.af) e)).toNat<l.length/\same s (jK (nd s e.af) e) (at_ l (fnd (nd s e.af) l (jK (nd s e.af) e)).toNat):=by
 obtain ⟨a,b,c⟩:=ja hi
 exact ⟨a,(Dk hg hJ h0 hk _ c).1 b⟩
theorem fresh(hg:gdS s)(hJ:J s l)(h0:0<=idx (nmP e.af) (dk s))(hk:(nd s e.af).ai=2->uQ (nd s e.af) e.ag=true):∀ y∈dl l (fnd (nd s e.af) l (jK (nd s e.af) e)),¬ same s (jK (nd s e.af) e) y:=by
 intro y hy
 by_cases hi:0<=fnd (nd s e.af) l (jK (nd s e.af) e)
 ·obtain ⟨a,b⟩:=MC hg hJ h0 hk hi
  rw [dl,if_pos hi,Pc] at hy
  have:=(G5.1 hJ).2
  rw [Po a,N8] at this
  exact fun c=>this.1 y hy (FX (z8 b) c)
 ·have hy2:y∈l:=by rw [dl,if_neg hi] at hy;exact hy
  intro c
  have:=ym hi y hy2
  rw [(Dk hg hJ h0 hk y hy2).2 c] at this
  cases this
end
end
section
section
variable {s : List ae} {x y : ah} {a b l : List ah}
end
end
end Go.Dt
namespace Go.Dt
open Go.Ab
section
theorem zU{α:Type}{f:α->Int->Int}{l:List α}{r:Int}(h:0<=aM f l r):(l.length:Int)<=r:=by
 rcases Int.lt_or_le (r - l.length) 0 with h4|h4
 ·rw [fe h4] at h;omega
 ·omega
end
section
theorem bJ{a:Int}{k:Int->Int}(h:0<=a):thn a k=k a:=by unfold thn;rw [if_neg (by omega)]
theorem sj{α:Type}{f:α->Int->α×Int}{s:α->Int->Int}(hs:∀ x r,0<=r->s x r<=r)(l:List α)(hf:∀ x∈l,∀ k r,0<=r->0<=s x r->(f x k).2<=k+32+32 * (r - s x r))(k r:Int)(h0:0<=r)(h:0<=aM s l r):(mkL f l k).2<=k+32 * (r - aM s l r):=by
 have key:∀ (l:List α),(∀ x∈l,∀ k r,0<=r->0<=s x r->(f x k).2<=k+32+32 * (r - s x r))->∀ (k r:Int),0<=r->0<=dP s l r->(mkL f l k).2<=k+32 * l.length+32 * (r - dP s l r):=by
  intro l
  induction l with
  | nil=>intro _ k r h0 _;simp [mkL,dP]
  | cons x xs ih =>
   intro hf k r h0 h
   rw [dP] at h ⊢
   obtain ⟨a0,h⟩:=aP h
   rw [bJ a0]
   have h1:=hf x (by simp) k r h0 a0
   have h2:=ih (fun y hy=>hf y (by simp [hy])) (f x k).2 (s x r) a0 h
   simp only [mkL,List.length_cons]
   omega
 have h4:=zU h
 rw [fC (by omega)] at h ⊢
 have:=key l hf k (r - l.length) (by omega) h
 omega
theorem gh{α:Type}{f:α->Int->α×Int}{s:α->Int->Int}(hs:∀ x r,0<=r->s x r<=r)(hf:∀ x k r,0<=r->0<=s x r->(f x k).2<=k+32+32 * (r - s x r))(l:List α)(k r:Int)(h0:0<=r)(h:0<=aM s l r):(mkL f l k).2<=k+32 * (r - aM s l r) :=
 sj hs l (fun x _=>hf x) k r h0 h
theorem kD(x:Str)(k r:Int)(h0:0<=r)(h:0<=az x r):(au x k).2<=k+32+32 * (r - az x r):=by
 have:=aJ x r h0
 unfold au;simp only;omega
end
section
theorem D4(x:df)(k r:Int)(h0:0<=r)(h:0<=eY x r):(aU x k).2<=k+32+32 * (r - eY x r):=by
 simp only [aU]
 unfold eY;omega
def yl(x:cL)(k:Int):Int:=(mkL au x.ay ((mkL aU x.av (k+1)).2)).2+1+1
theorem yj(x:cL)(k r:Int)(h0:0<=r)(h:0<=dw x r):yl x k<=k+3+32 * (r - dw x r):=by
 unfold yl
 unfold dw at h ⊢
 obtain ⟨a0,h⟩:=aP h
 rw [bJ a0]
 have q0:=gh mB D4 x.av (k+1) r h0 a0
 obtain ⟨a1,h⟩:=aP h
 rw [bJ a1]
 have q1:=gh aJ kD x.ay ((mkL aU x.av (k+1)).2) (aM eY x.av r) a0 a1
 obtain ⟨a2,h⟩:=aP h
 rw [bJ a2]
 have q2:=aJ x.aN (aM az x.ay (aM eY x.av r)) a1
 obtain ⟨a3,h⟩:=aP h
 rw [bJ a3]
 have q3:=aJ x.aA (az x.aN (aM az x.ay (aM eY x.av r))) a2
 simp only [id]
 omega
def VS(x:cL)(k:Int):Unit×Int:=((),(mkL au x.ay ((mkL aU x.av k).2)).2)
theorem FQ(x:ed)(k r:Int)(h0:0<=r)(h:0<=iq x r):(iw x k).2<=k+32+32 * (r - iq x r):=by
 simp only [iw]
 unfold iq at h ⊢
 obtain ⟨a0,h⟩:=aP h
 rw [bJ a0]
 have q0:=aJ x.af r h0
 obtain ⟨a1,h⟩:=aP h
 rw [bJ a1]
 have q1:=aJ x.ax (az x.af r) a0
 simp only [id]
 omega
theorem FR(x:GStep)(k r:Int)(h0:0<=r)(h:0<=iv x r):(eU x k).2<=k+32+32 * (r - iv x r):=by
 simp only [eU]
 unfold iv at h ⊢
 obtain ⟨a0,h⟩:=aP h
 rw [bJ a0]
 have q0:=aJ x.af r h0
 obtain ⟨a1,h⟩:=aP h
 rw [bJ a1]
 have q1:=gh mc FQ x.bT (k+1) (az x.af r) a0 a1
 simp only [id]
 omega
def CX(x:eJ)(k:Int):Int:=(mkL eU x.aK (k+1+1)).2
theorem Gm(x:eJ)(k r:Int)(h0:0<=r)(h:0<=je x r):CX x k<=k+2+32 * (r - je x r):=by
 unfold CX
 unfold je at h ⊢
 obtain ⟨a0,h⟩:=aP h
 rw [bJ a0]
 have q0:=gh mf FR x.aK (k+1+1) r h0 a0
 simp only [id]
 omega
def VT(x:eJ)(k:Int):Unit×Int:=((),(mkL eU x.aK k).2)
theorem rS(x:aO)(k r:Int)(h0:0<=r)(h:0<=cu x r):(cv x k).2<=k+32+32 * (r - cu x r):=by
 rw [p5];simp only
 rw [tF] at h ⊢
 obtain ⟨a0,h⟩:=aP h
 rw [bJ a0]
 have q0:=aJ x.bW r h0
 obtain ⟨a1,h⟩:=aP h
 rw [bJ a1]
 have q1:=Gm x.aA (k+1+1+1) (az x.bW r) a0 a1
 simp only [CX] at q1
 obtain ⟨a2,h⟩:=aP h
 rw [bJ a2]
 have q2:=sj eM x.ag (fun y hy=>rS y) ((mkL eU x.aA.aK (k+1+1+1+1+1)).2) (je x.aA (az x.bW r)) a1 a2
 simp only [id]
 omega
termination_by SizeOf.sizeOf x
decreasing_by have:=List.sizeOf_lt_of_mem hy;cases x;simp [aO.ag] at *;omega
theorem tJ(x:ae)(k r:Int)(h0:0<=r)(h:0<=bP x r):(du x k).2<=k+32+32 * (r - bP x r):=by
 rw [nz];simp only
 rw [qD] at h ⊢
 obtain ⟨a0,h⟩:=aP h
 rw [bJ a0]
 have q0:=aJ x.af r h0
 obtain ⟨a1,h⟩:=aP h
 rw [bJ a1]
 have q1:=yj x.fType (k+1+1) (az x.af r) a0 a1
 simp only [yl] at q1
 obtain ⟨a2,h⟩:=aP h
 rw [bJ a2]
 have q2:=gh aJ kD x.aD ((mkL au x.fType.ay ((mkL aU x.fType.av (k+1+1+1)).2)).2+1+1) (dw x.fType (az x.af r)) a1 a2
 obtain ⟨a3,h⟩:=aP h
 rw [bJ a3]
 have q3:=gh aJ kD x.aB ((mkL au x.aD ((mkL au x.fType.ay ((mkL aU x.fType.av (k+1+1+1)).2)).2+1+1)).2) (aM az x.aD (dw x.fType (az x.af r))) a2 a3
 obtain ⟨a4,h⟩:=aP h
 rw [bJ a4]
 have q4:=aJ x.ba (aM az x.aB (aM az x.aD (dw x.fType (az x.af r)))) a3
 obtain ⟨a5,h⟩:=aP h
 rw [bJ a5]
 have q5:=gh eM rS x.bq ((mkL au x.aB ((mkL au x.aD ((mkL au x.fType.ay ((mkL aU x.fType.av (k+1+1+1)).2)).2+1+1)).2)).2+1+1+1+1+1+1+1) (az x.ba (aM az x.aB (aM az x.aD (dw x.fType (az x.af r))))) a4 a5
 obtain ⟨a6,h⟩:=aP h
 rw [bJ a6]
 have q6:=gh eM rS x.bR ((mkL cv x.bq ((mkL au x.aB ((mkL au x.aD ((mkL au x.fType.ay ((mkL aU x.fType.av (k+1+1+1)).2)).2+1+1)).2)).2+1+1+1+1+1+1+1)).2) (aM cu x.bq (az x.ba (aM az x.aB (aM az x.aD (dw x.fType (az x.af r)))))) a5 a6
 obtain ⟨a7,h⟩:=aP h
 rw [bJ a7]
 have q7:=sj fQ x.ag (fun y hy=>tJ y) ((mkL cv x.bR ((mkL cv x.bq ((mkL au x.aB ((mkL au x.aD ((mkL au x.fType.ay ((mkL aU x.fType.av (k+1+1+1)).2)).2+1+1)).2)).2+1+1+1+1+1+1+1)).2)).2) (aM cu x.bR (aM cu x.bq (az x.ba (aM az x.aB (aM az x.aD (dw x.fType (az x.af r))))))) a6 a7
 simp only [id]
 omega
termination_by SizeOf.sizeOf x
decreasing_by have:=List.sizeOf_lt_of_mem hy;cases x;simp [ae.ag] at *;omega
theorem xC(x:ah)(k r:Int)(h0:0<=r)(h:0<=dA x r):(cm x k).2<=k+32+32 * (r - dA x r):=by
 rw [mi];simp only
 rw [tE] at h ⊢
 obtain ⟨a0,h⟩:=aP h
 rw [bJ a0]
 have q0:=aJ x.af r h0
 obtain ⟨a1,h⟩:=aP h
 rw [bJ a1]
 have q1:=aJ x.ax (az x.af r) a0
 obtain ⟨a2,h⟩:=aP h
 rw [bJ a2]
 have q2:=sj gX x.ag (fun y hy=>xC y) (k+1+1) (az x.ax (az x.af r)) a1 a2
 simp only [id]
 omega
termination_by SizeOf.sizeOf x
decreasing_by have:=List.sizeOf_lt_of_mem hy;cases x;simp [ah.ag] at *;omega
end
section
end
section
def U7(x:List bz)(k:Int):List bz×Int:=mkL mD x k
end
end Go.Dt
namespace Go.Dt
open Go Go.Ab
section
theorem Ld(x:ah)(l:List ah):wt (x::l)=1+x.af.length+x.ax.length+wt x.ag+wt l:=by
 cases x;simp only [wt,wtg,List.length_cons,ah.af,ah.ax,ah.ag];omega
theorem G6:wt []=0:=by simp [wt,wtg]
end
section
def sv:List ah->Prop
 | []=>True
 | .mk nm v ks::xs=>nm.length<=16/\v.length<=40/\sv ks/\sv xs
def svX(x:ah):Prop:=x.af.length<=16/\x.ax.length<=40/\sv x.ag
theorem CD{s:Str}(h:isName s=true):s.length<=16:=by
 simp only [isName,Bool.and_eq_true,decide_eq_true_eq] at h;exact h.2.1.2
theorem wv{s:Str}(h:isText s=true):s.length<=40:=by
 simp only [isText,Bool.and_eq_true,decide_eq_true_eq] at h;exact h.2
theorem uE{p:Nat->Bool}:∀ {n j:Nat},bL p n=true->j<n->p j=true
 | n+1,j,h,hj=>by
  rw [bL,Bool.and_eq_true] at h
  by_cases e:j=n
  ·subst e;first|exact h.2|exact h.1
  ·first|exact uE h.1 (by omega)|exact uE h.2 (by omega)
theorem HN{l:List Str}(h:names l=true){s:Str}(hs:s∈l):isName s=true:=by
 obtain ⟨i,hi,rfl⟩:=List.getElem_of_mem hs
 have:=uE h hi
 rw [show at_ l i=l[i] by unfold at_;rw [List.getElem?_eq_getElem hi];rfl] at this
 exact this
theorem MP(t:cL)(s:Str):(cvS t s).length<=40:=by
 unfold cvS
 cases h:cvB t s with
 | false=>simp
 | true =>
  rw [cond_true,cvT]
  simp only [cvB,Bool.and_eq_true] at h
  obtain ⟨hT,hO⟩:=h
  unfold cvO at hO
  split
  ·have:=uK s
   have:=Lib.itoa_length_le (gR s) (by omega) (by omega);omega
  ·rename_i h1
   rw [if_neg h1] at hO
   split
   ·rename_i h3
    rw [if_neg (by omega),if_pos h3,Bool.or_eq_true,beq_iff_eq,beq_iff_eq] at hO
    rcases hO with e|e<;>rw [e]<;>decide
   ·rename_i h3
    split at hO
    ·simp only [Bool.and_eq_true] at hO;exact wv hO.1.1
    ·skip
     split at hO
     ·rename_i h4
      rw [qj h4] at hT
      simp only [Bool.and_eq_true] at hT
      have:=CD (HN hT.1.1.1.1.2 ((iR _ _).1 hO));omega
     ·split at hO
      ·simp only [Bool.and_eq_true] at hO;exact wv hO.2
      ·split at hO
       ·rw [of_decide_eq_true hO];simp
       ·cases hO
def mxE:List bz->Nat
 | []=>0
 | .mk _ n v ks::xs=>max (max n.length v.length) (max (mxE ks) (mxE xs))
def wtE(l:List bz):Nat:=max (qQ l) (mxE l)
end
section
def mE(s:List ae)(l:List ah):Option (List ah):=if jS s=true/\cnt l<=120 then gb (dk s) [] l else none
theorem Ce{s:List ae}{l:List ah}(h:¬ (jS s=true/\cnt l<=120)):mE s l=none:=if_neg h
theorem ED{s:List ae}{l:List ah}(h:jS s=true/\cnt l<=120):mE s l=gb (dk s) [] l:=if_pos h
theorem M5{a:List bI}(ha:∀ x∈a,x.ax.length<=40)(n:Str):((lg a n).getD []).length<=40:=by
 unfold lg
 have:=iL (p:=fU n) a
 split
 ·simp
 ·exact ha _ (at_mem (by omega))
theorem yU{a:List bI}(ha:∀ x∈a,x.ax.length<=40):∀ d:List Tok,(gF a d).length<=40 * d.length
 | []=>by simp [gF]
 | .inl c::d=>by
  have ih:=yU ha d
  simp only [gF,List.length_cons];omega
 | .inr n::d=>by
  have ih:=yU ha d
  have h1:=M5 ha n
  simp only [gF,List.length_append,List.length_cons];omega
theorem MD{a:List bI}(ha:∀ x∈a,x.ax.length<=40){s:Str}(hs:s.length<=40):(flS a (tk s)).length<=1600:=by
 have h1:=yU ha (tk s).1
 have h2:=xp s
 unfold flS
 cases flB a (tk s) with
 | false=>simp
 | true=>rw [cond_true];omega
theorem zw{a:List bI}(ha:∀ x∈a,x.ax.length<=40):∀ l:List ah,frm l=true->wt (sF a l)<=1617 * cnt l
 | [],_=>by rw [sF,G6];omega
 | .mk n v ks::xs,h=>by
  rw [frm,Bool.and_eq_true,Bool.and_eq_true] at h
  have h1:=zw ha ks h.1.2
  have h2:=zw ha xs h.2
  have h3:=h.1.1
  rw [kK,Bool.and_eq_true,Bool.and_eq_true] at h3
  have h4:=CD h3.1.1
  have h5:=MD ha (wv h3.1.2)
  rw [sF,jh,Ld,jA]
  simp only [ah.af,ah.ax,ah.ag] at h4 h5 ⊢
  omega
theorem Iu(ip:Str->Bool)(cb:cL->Str->Bool)(t:aL)(l:List bI):wt (ftN ip cb cvS t l)<=1048576:=by
 unfold ftN
 cases h:mZ ip cb t l with
 | false=>rw [cond_false,G6];omega
 | true =>
  rw [cond_true,<- uq]
  simp only [mZ,di,pF,Bool.and_eq_true,decide_eq_true_eq] at h
  have:=zw (a:=l.map (cnA cvS t.aC)) (fun x hx=>by
   obtain ⟨y,_,rfl⟩:=List.mem_map.1 hx
   exact MP _ _) t.cD (by simp [h])
  have h2:cnt t.cD<=120:=by simp [h]
  omega
end
end Go.Dt
namespace Go.Proofs
open Go.Ab Go.Dt
def svT(T:List aL)(s:List ae)(x:bt):List ah×Int :=
 if tmI T x.aX<0 then ([],2) else
 if ¬ ftC dB cvB (at_ T (tmI T x.aX).toNat) x.fArgs=0 then ([],2) else
 match mE s (ftN dB cvB cvS (at_ T (tmI T x.aX).toNat) x.fArgs) with
 | none=>([],3)
 | some out=>(out,0)
attribute [local go_sem] dF cM eH JB FW
instance v7(s:List ae)(l:List ah):Ctr lim Tryz.prog 67 [] [.sl false 19 (s.map (aq false)),.sl false 3 (l.map (ak false))] (.tup [.sl true 3 (((mE s l).getD []).map (ak true)),.v (.bool (mE s l).isSome)]) [] (wtS s<=1048576/\wt l<=1048576):=by
 have hpl:=Co (SizeOf.sizeOf l+1) s l
 refine Ctr.bd Tryz.func67 Tryz.ntmps67 rfl rfl fun hp=>?_
 have gOn:=cY.on
 obtain ⟨h1,h2⟩:=hp
 (refine vK ?_;with_reducible repeat' first|exact Le.l|apply Sw|intro h)
 (refine AW.i rfl (fun h=>?_) (fun h=>?_)<;>try simp only [hC,reduceCtorEq] at h)
 ·(refine vU ?_;with_reducible repeat' first|exact Le.l|apply Sw|intro h)
  rw [Ce (fun c=>by have:=c.2;rcases h with h|h<;>first|(rw [c.1] at h;cases h)|omega)];rfl
 ·rw [ED ⟨h.1,by omega⟩]
  cases hq:gb (dk s) [] l with
  | none =>
   rw [hq] at hpl
   simp only [srO] at hpl
   (refine vU ?_;with_reducible repeat' first|exact Le.l|apply Sw|intro h)
   try rfl
  | some out =>
   rw [hq] at hpl
   simp only [srO] at hpl
   (refine vU ?_;with_reducible repeat' first|exact Le.l|apply Sw|intro h)
   try rfl
instance vL(s:List ae)(l:List ah):Ctr lim Tryz.prog 59 [] [.sl false 19 (s.map (aq false)),.sl false 3 (l.map (ak false))] (.tup [.sl false 3 (((mE s l).getD []).map (ak false)),.v (.bool (mE s l).isSome)]) [] (wtS s<=1048576/\wt l<=1048576):=by
 have hpl:=EE (SizeOf.sizeOf l+1) (dk s) l
 refine Ctr.bd Tryz.func59 Tryz.ntmps59 rfl rfl fun hp=>?_
 have gOn:=cY.on
 obtain ⟨h1,h2⟩:=hp
 have hc:=lC s
 have hd:∀ y∈dk s,wtS y.ag<=1048576:=fun y hy=>by have:=nF _ y hy;omega
 have e1:0<=gq l (120 - l.length)↔cnt l<=120:=by
  unfold cnt
  rcases Int.lt_or_le (120 - (l.length:Int)) 0 with h|h
  ·rw [mV l h];omega
  ·have:=(uP l _ h).1;omega
 (refine vK ?_;with_reducible repeat' first|exact Le.l|apply Sw|intro h)
 (refine AW.i rfl (fun h=>?_) (fun h=>?_)<;>try simp only [hC,reduceCtorEq] at h)
 ·(refine vX ?_;with_reducible repeat' first|exact Le.l|apply Sw|intro h)
  refine AW.imp (Imp.frz 4 ?_)
  (refine vU ?_;with_reducible repeat' first|exact Le.l|apply Sw|intro h)
  rw [Ce (fun c=>by have:=c.2;rcases h with h|h<;>first|(rw [c.1] at h;cases h)|omega)];rfl
 ·rw [ED ⟨h.1,by omega⟩]
  cases hq:gb (dk s) [] l with
  | none =>
   rw [hq] at hpl
   simp only [srF] at hpl
   (refine vX ?_;with_reducible repeat' first|exact Le.l|apply Sw|intro h)
   ·exact hd _ (by assumption)
   ·refine AW.imp (Imp.frz 4 ?_)
    (refine vU ?_;with_reducible repeat' first|exact Le.l|apply Sw|intro h)
    try rfl
  | some out =>
   rw [hq] at hpl
   simp only [srF] at hpl
   (refine vU ?_;with_reducible repeat' first|exact Le.l|apply Sw|intro h)
   ·exact hd _ (by assumption)
instance VB(t:aL)(l:List bI):Ctr lim Tryz.prog 66 [] [.agg [.str t.af,.sl false 6 (t.aC.map (aV false)),.sl false 3 (t.cD.map (ak false))],.sl false 2 (l.map (bp false))] (.tup [.sl false 3 ((ftN dB cvB cvS t l).map (ak false)),.v (.int .i64 (ftC dB cvB t l))]) [] (wt t.cD<=1048576/\t.aC.length<=1048576/\l.length<=1048576/\ek l) :=
 Ctr.jH (aW 66) fun c=>by
  have:=((ql t l).pure c).frz
  simpa only [AV.frz,AV.bS,eH,cond_true] using this
instance Vk(t:aL)(l:List bI):Ctr lim Tryz.prog 58 [] [.agg [.str t.af,.sl false 6 (t.aC.map (aV false)),.sl false 3 (t.cD.map (ak false))],.sl false 2 (l.map (bp false))] (.tup [.sl false 3 ((ftN dB cvB cvS t l).map (ak false)),.v (.int .i64 (ftC dB cvB t l))]) [] (wt t.cD<=1048576/\t.aC.length<=1048576/\l.length<=1048576/\ek l) :=
 Ctr.jH (aW 58) fun c=>by
  have:=((p8 t l).pure c).frz
  simpa only [AV.frz,AV.bS,eH,cond_true] using this
attribute [-instance] ql p8
instance My(T:List aL)(S:List bt)(s:List ae)(x:bt):Ctr lim Tryz.prog 15 [] [.agg [.sl false 3 (T.map (aQ false)),.sl false 4 (S.map (aT false))],.sl false 19 (s.map (aq false)),.agg [.str x.af,.str x.aX,.sl false 2 (x.fArgs.map (bp false)),.sl false 1 (x.ck.map AV.str)]] (.tup [.sl true 3 ((svT T s x).1.map (ak true)),.v (.int .i64 (svT T s x).2)]) [] (FK T/\wtS s<=1048576/\x.fArgs.length<=1048576/\ek x.fArgs):=by
 refine Ctr.bd Tryz.func15 Tryz.ntmps15 rfl rfl fun hp=>?_
 have gOn:=cY.on
 obtain ⟨ht,h1,h2,h3⟩:=hp
 have hi:=iL (p:=fun t:aL=>t.af == x.aX) T
 have hb:=fun hq=>ht _ (at_mem (l:=T) (k:=(tmI T x.aX).toNat) hq)
 have hw:=Iu dB cvB (at_ T (tmI T x.aX).toNat) x.fArgs
 change tmI T x.aX<_ at hi
 (refine vK ?_;with_reducible repeat' first|exact Le.l|apply Sw|intro h)
 (refine AW.i rfl (fun h=>?_) (fun h=>?_)<;>try simp only [hC,reduceCtorEq] at h)
 ·(refine vU ?_;with_reducible repeat' first|exact Le.l|apply Sw|intro h)
  rw [svT,if_pos h];rfl
 have h0:¬ tmI T x.aX<0:=by omega
 clear h
 (refine vK ?_;with_reducible repeat' first|exact Le.l|apply Sw|intro h)
 (refine AW.i rfl (fun h=>?_) (fun h=>?_)<;>try simp only [hC,reduceCtorEq] at h)
 ·(refine vU ?_;with_reducible repeat' first|exact Le.l|apply Sw|intro h)
  rw [svT,if_neg h0,if_pos h];rfl
 have h5:¬ ¬ ftC dB cvB (at_ T (tmI T x.aX).toNat) x.fArgs=0:=fun c=>c h
 clear h
 cases hq:mE s (ftN dB cvB cvS (at_ T (tmI T x.aX).toNat) x.fArgs) with
 | none =>
  have hss:=v7 s (ftN dB cvB cvS (at_ T (tmI T x.aX).toNat) x.fArgs)
  rw [hq] at hss
  simp only [Option.getD_none,Option.isSome_none,List.map_nil] at hss
  (refine vU ?_;with_reducible repeat' first|exact Le.l|apply Sw|intro h)
  rw [svT,if_neg h0,if_neg h5,hq];rfl
 | some out =>
  have hss:=v7 s (ftN dB cvB cvS (at_ T (tmI T x.aX).toNat) x.fArgs)
  rw [hq] at hss
  simp only [Option.getD_some,Option.isSome_some] at hss
  (refine vU ?_;with_reducible repeat' first|exact Le.l|apply Sw|intro h)
  rw [svT,if_neg h0,if_neg h5,hq]
instance Lx(T:List aL)(S:List bt)(s:List ae)(x:bt):Ctr lim Tryz.prog 11 [] [.agg [.sl false 3 (T.map (aQ false)),.sl false 4 (S.map (aT false))],.sl false 19 (s.map (aq false)),.agg [.str x.af,.str x.aX,.sl false 2 (x.fArgs.map (bp false)),.sl false 1 (x.ck.map AV.str)]] (.tup [.sl false 3 ((svT T s x).1.map (ak false)),.v (.int .i64 (svT T s x).2)]) [] (FK T/\wtS s<=1048576/\x.fArgs.length<=1048576/\ek x.fArgs):=by
 refine Ctr.bd Tryz.func11 Tryz.ntmps11 rfl rfl fun hp=>?_
 have gOn:=cY.on
 obtain ⟨ht,h1,h2,h3⟩:=hp
 have hi:=iL (p:=fun t:aL=>t.af == x.aX) T
 have hb:=fun hq=>ht _ (at_mem (l:=T) (k:=(tmI T x.aX).toNat) hq)
 have hw:=Iu dB cvB (at_ T (tmI T x.aX).toNat) x.fArgs
 change tmI T x.aX<_ at hi
 (refine vK ?_;with_reducible repeat' first|exact Le.l|apply Sw|intro h)
 (refine AW.i rfl (fun h=>?_) (fun h=>?_)<;>try simp only [hC,reduceCtorEq] at h)
 ·(refine vX ?_;with_reducible repeat' first|exact Le.l|apply Sw|intro h)
  refine AW.imp (Imp.frz 6 ?_)
  (refine vU ?_;with_reducible repeat' first|exact Le.l|apply Sw|intro h)
  rw [svT,if_pos h];rfl
 have h0:¬ tmI T x.aX<0:=by omega
 clear h
 (refine vK ?_;with_reducible repeat' first|exact Le.l|apply Sw|intro h)
 (refine AW.i rfl (fun h=>?_) (fun h=>?_)<;>try simp only [hC,reduceCtorEq] at h)
 ·(refine vX ?_;with_reducible repeat' first|exact Le.l|apply Sw|intro h)
  refine AW.imp (Imp.frz 6 ?_)
  (refine vU ?_;with_reducible repeat' first|exact Le.l|apply Sw|intro h)
  rw [svT,if_neg h0,if_pos h];rfl
 have h5:¬ ¬ ftC dB cvB (at_ T (tmI T x.aX).toNat) x.fArgs=0:=fun c=>c h
 clear h
 cases hq:mE s (ftN dB cvB cvS (at_ T (tmI T x.aX).toNat) x.fArgs) with
 | none =>
  have hss:=vL s (ftN dB cvB cvS (at_ T (tmI T x.aX).toNat) x.fArgs)
  rw [hq] at hss
  simp only [Option.getD_none,Option.isSome_none,List.map_nil] at hss
  (refine vX ?_;with_reducible repeat' first|exact Le.l|apply Sw|intro h)
  refine AW.imp (Imp.frz 6 ?_)
  (refine vU ?_;with_reducible repeat' first|exact Le.l|apply Sw|intro h)
  rw [svT,if_neg h0,if_neg h5,hq];rfl
 | some out =>
  have hss:=vL s (ftN dB cvB cvS (at_ T (tmI T x.aX).toNat) x.fArgs)
  rw [hq] at hss
  simp only [Option.getD_some,Option.isSome_some] at hss
  (refine vU ?_;with_reducible repeat' first|exact Le.l|apply Sw|intro h)
  rw [svT,if_neg h0,if_neg h5,hq]
end Go.Proofs
namespace Go.Dt
open Go Go.Ab
theorem Ky{a b:List ah}(h:a.Perm b):cnt a=cnt b:=by
 induction h with
 | nil=>rfl
 | cons x _ ih=>rw [jA,jA,ih]
 | swap x y l=>rw [jA,jA,jA,jA];omega
 | trans _ _ h1 h2=>exact h1.trans h2
theorem Jy{n:ae}{nm v:Str}{e:Bool}{ks:Option (List ah)}{y:ah}{c:Nat}(h:rZ n nm v e ks=some (some y))(hk:∀ k,ks=some k->cnt k<=c):cnt y.ag<=c:=by
 unfold rZ at h
 split at h
 ·split at h
  ·cases h;rw [ah.ag,oX];omega
  ·cases h
 ·split at h
  ·cases h
  ·rename_i k
   split at h
   ·split at h
    ·cases h
    ·cases h;exact hk _ rfl
   ·cases h
theorem rU:∀ (l:List ah) (d:List ae) (acc out:List ah),gb d acc l=some out->cnt out<=cnt acc+cnt l
 | [],d,acc,out,h=>by
  rw [rT] at h;cases h;omega
 | .mk nm v ks::xs,d,acc,out,h=>by
  rw [gb] at h
  rw [jA]
  split at h
  ·cases h
  ·split at h
   ·cases h
   ·have:=rU xs d acc out h;omega
   ·rename_i y hy
    split at h
    ·cases h
    ·rename_i acc' hp
     have h1:=rU xs d acc' out h
     have h2:=Ky (Go.Proofs.p9 _ _ _ hp)
     have h3:=Jy (c:=cnt ks) hy fun k hk=>by have:=rU ks _ _ _ hk;rw [oX] at this;omega
     rw [jA] at h2
     simp only [ah.ag] at *
     omega
theorem Hr{s:List ae}{l out:List ah}(h:mE s l=some out):cnt out<=120:=by
 unfold mE at h
 split at h
 ·have:=rU _ _ _ _ h;rw [oX] at this;omega
 ·cases h
theorem ML{l:List bI}{r:Int}(h0:0<=r)(h1:r<=1048576)(h:0<=aM gm l r):ek l/\l.length<=1048576:=by
 have hl:=zU h
 refine ⟨?_,by omega⟩
 rcases Int.lt_or_le (r - l.length) 0 with h2|h2
 ·rw [fe h2] at h;omega
 rw [fC h2] at h
 have key:∀ (l:List bI) (q:Int),0<=q->q<=1048576->0<=dP gm l q->ek l:=by
  intro l
  induction l with
  | nil=>intro _ _ _ _ a ha;cases ha
  | cons x xs ih =>
   intro q h0 h1 h a ha
   rw [dP,thn] at h
   split at h
   ·omega
   ·have hle:=kz x q h0
    rcases List.mem_cons.1 ha with rfl|ha
    ·rename_i hx
     simp only [gm,thn,az,id] at hx
     (repeat' split at hx)<;>omega
    ·exact ih _ (by omega) (by omega) h a ha
 exact key l _ h2 (by omega) h
theorem Jq{x:bt}{r:Int}(h0:0<=r)(h1:r<=1048576)(h:0<=dm x r):ek x.fArgs/\x.fArgs.length<=1048576:=by
 unfold dm at h
 obtain ⟨a0,h⟩:=aP h
 have l0:=aJ x.af r h0
 obtain ⟨a1,h⟩:=aP h
 have l1:=aJ x.aX (az x.af r) a0
 obtain ⟨a2,h⟩:=aP h
 exact ML a1 (by omega) a2
end Go.Dt
namespace Go.Proofs
open Go.Ab Go.Dt
theorem Qt(T:List aL)(s:List ae)(x:bt):(mkL cm (svT T s x).1 1).2<=241:=by
 rw [LZ]
 have:cnt (svT T s x).1<=120:=by
  unfold svT
  split
  ·rw [oX];omega
  ·split
   ·rw [oX];omega
   ·split
    ·rw [oX];omega
    ·rename_i h;exact Hr h
 omega
end Go.Proofs
