/- Part of a proof. -/
import Derived.Test.YtpelkkfkecfmbaaGreatDoorH2
set_option linter.all false
namespace Go.Dt
open Go.Ab
abbrev Str:=List UInt8
def fK{α:Type}(f g:α->AV)(h:∀ x,(f x).frz=g x)(l:List α):AV.bg (l.map f)=l.map g:=by rw [AV.ng,List.map_map];apply List.map_congr_left;intro x _;exact h x
def aM(l:List Str):AV.bg (l.map AV.str)=l.map AV.str:=fK _ _ (fun _=>rfl) l
def thn(a:Int)(k:Int->Int):Int:=if a<0 then -1 else k a
def aI(s:Str)(left:Int):Int:=left - s.length
def fu{α:Type}(f:α->Int->Int):List α->Int->Int
 | [],r=>r
 | x::xs,r=>thn (f x r) (fu f xs)
def aQ{α:Type}(f:α->Int->Int)(l:List α)(left:Int):Int:=thn (left - l.length) (fu f l)
def cm{a b:Int}{k:Int->Int}(h:∀ x,0<=x->k x<=x)(hb:a<=b)(h0:0<=b):thn a k<=b:=by
 unfold thn;split
 ·omega
 ·have:=h a Ir;omega
def bE(s:Str)(r:Int)(_h:0<=r):aI s r<=r:=by unfold aI;omega
def IJ{α:Type}(f:α->Int->Int)(hf:∀ x r,0<=r->f x r<=r):∀ (l:List α) (r:Int),0<=r->fu f l r<=r
 | [],r,_=>Int.le_refl _
 | x::xs,r,h=>cm (fun y hy=>IJ f hf xs y hy) (hf x r h) h
def bu{α:Type}(f:α->Int->Int)(hf:∀ x r,0<=r->f x r<=r)(l:List α)(r:Int)(h:0<=r):aQ f l r<=r :=
 cm (fun y hy=>IJ f hf l y hy) Ir h
structure da where
 fLo:Int
 fHi:Int
instance:Inhabited da:=⟨⟨0,0⟩⟩
@[go_sem] def bh(o:Bool)(x:da):AV:=.agg [.v (.int .i64 x.fLo),.v (.int .i64 x.fHi)]
def G8(x:da):(bh true x).frz=bh false x:=by simp only [bh,AV.frz,AV.bg,cond_true]
def vH(l:List da):AV.bg (l.map (bh true))=l.map (bh false):=fK _ _ G8 l
def gU(x:da)(left:Int):Int:=left
def pZ(x:da)(r:Int)(h:0<=r):gU x r<=r:=Int.le_refl _
structure cT where
 aj:Int
 aP:List da
 aF:List Str
 ba:Str
 az:Str
instance:Inhabited cT:=⟨⟨0,[],[],[],[]⟩⟩
@[go_sem] def CR(o:Bool)(x:cT):AV:=.agg [.v (.int .i64 x.aj),.sl o 2 (x.aP.map (bh o)),.sl o 1 (x.aF.map AV.str),.str x.ba,.str x.az]
def eE(x:cT)(left:Int):Int:=thn (aQ gU x.aP left) (fun a0=>thn (aQ aI x.aF a0) (fun a1=>thn (aI x.ba a1) (fun a2=>thn (aI x.az a2) (id))))
def rq(x:cT)(r:Int)(h:0<=r):eE x r<=r:=cm (fun a0 g0=>cm (fun a1 g1=>cm (fun a2 g2=>cm (fun _ _=>Int.le_refl _) (bE x.az a2 g2) g2) (bE x.ba a1 g1) g1) (bu aI bE x.aF a0 g0) g0) (bu gU pZ x.aP r h) h
structure cu where
 ag:Str
 ax:Str
instance:Inhabited cu:=⟨⟨[],[]⟩⟩
@[go_sem] def ct(o:Bool)(x:cu):AV:=.agg [.str x.ag,.str x.ax]
def H9(x:cu):(ct true x).frz=ct false x:=by simp only [ct,AV.frz,AV.bg,cond_true]
def qU(l:List cu):AV.bg (l.map (ct true))=l.map (ct false):=fK _ _ H9 l
def jQ(x:cu)(left:Int):Int:=thn (aI x.ag left) (fun a0=>thn (aI x.ax a0) (id))
def oP(x:cu)(r:Int)(h:0<=r):jQ x r<=r:=cm (fun a0 g0=>cm (fun _ _=>Int.le_refl _) (bE x.ax a0 g0) g0) (bE x.ag r h) h
structure GStep where
 ag:Str
 aT:List cu
instance:Inhabited GStep:=⟨⟨[],[]⟩⟩
@[go_sem] def aA(o:Bool)(x:GStep):AV:=.agg [.str x.ag,.sl o 2 (x.aT.map (ct o))]
def Ia(x:GStep):(aA true x).frz=aA false x:=by simp only [aA,AV.frz,AV.bg,cond_true,qU]
def xb(l:List GStep):AV.bg (l.map (aA true))=l.map (aA false):=fK _ _ Ia l
def jS(x:GStep)(left:Int):Int:=thn (aI x.ag left) (fun a0=>thn (aQ jQ x.aT a0) (id))
def oQ(x:GStep)(r:Int)(h:0<=r):jS x r<=r:=cm (fun a0 g0=>cm (fun _ _=>Int.le_refl _) (bu jQ oP x.aT a0 g0) g0) (bE x.ag r h) h
structure bP where
 bR:Bool
 bG:Int
 av:List GStep
instance:Inhabited bP:=⟨⟨false,0,[]⟩⟩
@[go_sem] def cH(o:Bool)(x:bP):AV:=.agg [.v (.bool x.bR),.v (.int .i64 x.bG),.sl o 2 (x.av.map (aA o))]
def Ib(x:bP):(cH true x).frz=cH false x:=by simp only [cH,AV.frz,AV.bg,cond_true,xb]
def xc(l:List bP):AV.bg (l.map (cH true))=l.map (cH false):=fK _ _ Ib l
def mA(x:bP)(left:Int):Int:=thn (aQ jS x.av left) (id)
def rr(x:bP)(r:Int)(h:0<=r):mA x r<=r:=cm (fun _ _=>Int.le_refl _) (bu jS oQ x.av r h) h
inductive aB where
 | mk (fOp:Int) (dn:Int) (bI:Str) (az:bP) (af:List aB)
instance:Inhabited aB:=⟨.mk 0 0 [] default []⟩
def aB.fOp:aB->Int|.mk a _ _ _ _=>a
def aB.dn:aB->Int|.mk _ a _ _ _=>a
def aB.bI:aB->Str|.mk _ _ a _ _=>a
def aB.az:aB->bP|.mk _ _ _ a _=>a
def aB.af:aB->List aB|.mk _ _ _ _ a=>a
mutual
def aO(o:Bool):aB->AV
 | .mk fOp dn bI az af=>.agg [.aa fOp,.aa dn,.str bI,.ac az.bR,.aa az.bG,.sl o 2 (az.av.map (aA o)),.sl o 7 (mU o af)]
def mU(o:Bool):List aB->List AV
 | []=>[]
 | x::xs=>aO o x::mU o xs
end
def sQ(o:Bool)(l:List aB):mU o l=l.map (aO o):=by
 induction l with
 | nil=>rfl
 | cons x xs ih=>simp [mU,ih]
@[go_sem] def dE(o:Bool)(x:aB):aO o x=.agg [.aa x.fOp,.aa x.dn,.str x.bI,.ac x.az.bR,.aa x.az.bG,.sl o 2 (x.az.av.map (aA o)),.sl o 7 (x.af.map (aO o))]:=by cases x;simp [aO,sQ,aB.fOp,aB.dn,aB.bI,aB.az,aB.af]
mutual
def Ie:∀ x:aB,(aO true x).frz=aO false x
 | .mk fOp dn bI az af=>by simp only [aO,AV.frz,AV.bg,cond_true,qW af,xb]
def qW:∀ l:List aB,AV.bg (mU true l)=mU false l
 | []=>rfl
 | x::xs=>by simp only [mU,AV.bg,Ie x,qW xs]
end
def xd(l:List aB):AV.bg (l.map (aO true))=l.map (aO false):=by rw [<- sQ,qW,sQ]
mutual
def cI:aB->Int->Int
 | .mk fOp dn bI az af,left=>thn (aI bI left) (fun a0=>thn (mA az a0) (fun a1=>thn ((fun b=>thn (b - af.length) (iz af)) a1) (id)))
def iz:List aB->Int->Int
 | [],r=>r
 | x::xs,r=>thn (cI x r) (iz xs)
end
def sE:∀ l:List aB,iz l=fu cI l
 | []=>rfl
 | x::xs=>by funext r;simp only [iz,fu,sE xs]
def Df(x:aB)(left:Int):cI x left=thn (aI x.bI left) (fun a0=>thn (mA x.az a0) (fun a1=>thn (aQ cI x.af a1) (id))):=by cases x;simp only [cI,aQ,sE,aB.fOp,aB.dn,aB.bI,aB.az,aB.af]
mutual
def fN:∀ (x:aB) (r:Int),0<=r->cI x r<=r
 | .mk fOp dn bI az af,r,h=>by
  simp only [cI];exact cm (fun a0 g0=>cm (fun a1 g1=>cm (fun _ _=>Int.le_refl _) (cm (fun y hy=>sD af y hy) Ir g1) g1) (rr az a0 g0) g0) (bE bI r h) h
def sD:∀ (l:List aB) (r:Int),0<=r->iz l r<=r
 | [],r,_=>Int.le_refl _
 | x::xs,r,h=>by
  simp only [iz];exact cm (fun y hy=>sD xs y hy) (fN x r h) h
end
inductive ae where
 | mk (aj:Int) (ag:Str) (fType:cT) (aE:List Str) (ay:List Str) (aV:Str) (bS:Bool) (bD:Bool) (aZ:Bool) (cU:Bool) (eJ:Int) (dU:Int) (aG:List aB) (bO:List aB) (af:List ae)
instance:Inhabited ae:=⟨.mk 0 [] default [] [] [] false false false false 0 0 [] [] []⟩
def ae.aj:ae->Int|.mk a _ _ _ _ _ _ _ _ _ _ _ _ _ _=>a
def ae.ag:ae->Str|.mk _ a _ _ _ _ _ _ _ _ _ _ _ _ _=>a
def ae.fType:ae->cT|.mk _ _ a _ _ _ _ _ _ _ _ _ _ _ _=>a
def ae.aE:ae->List Str|.mk _ _ _ a _ _ _ _ _ _ _ _ _ _ _=>a
def ae.ay:ae->List Str|.mk _ _ _ _ a _ _ _ _ _ _ _ _ _ _=>a
def ae.aV:ae->Str|.mk _ _ _ _ _ a _ _ _ _ _ _ _ _ _=>a
def ae.bS:ae->Bool|.mk _ _ _ _ _ _ a _ _ _ _ _ _ _ _=>a
def ae.bD:ae->Bool|.mk _ _ _ _ _ _ _ a _ _ _ _ _ _ _=>a
def ae.aZ:ae->Bool|.mk _ _ _ _ _ _ _ _ a _ _ _ _ _ _=>a
def ae.cU:ae->Bool|.mk _ _ _ _ _ _ _ _ _ a _ _ _ _ _=>a
def ae.eJ:ae->Int|.mk _ _ _ _ _ _ _ _ _ _ a _ _ _ _=>a
def ae.dU:ae->Int|.mk _ _ _ _ _ _ _ _ _ _ _ a _ _ _=>a
def ae.aG:ae->List aB|.mk _ _ _ _ _ _ _ _ _ _ _ _ a _ _=>a
def ae.bO:ae->List aB|.mk _ _ _ _ _ _ _ _ _ _ _ _ _ a _=>a
def ae.af:ae->List ae|.mk _ _ _ _ _ _ _ _ _ _ _ _ _ _ a=>a
mutual
def aq(o:Bool):ae->AV
 | .mk aj ag fType aE ay aV bS bD aZ cU eJ dU aG bO af=>.agg [.aa aj,.str ag,.aa fType.aj,.sl o 2 (fType.aP.map (bh o)),.sl o 1 (fType.aF.map AV.str),.str fType.ba,.str fType.az,.sl o 1 (aE.map AV.str),.sl o 1 (ay.map AV.str),.str aV,.ac bS,.ac bD,.ac aZ,.ac cU,.aa eJ,.aa dU,.sl o 7 (aG.map (aO o)),.sl o 7 (bO.map (aO o)),.sl o 19 (kG o af)]
def kG(o:Bool):List ae->List AV
 | []=>[]
 | x::xs=>aq o x::kG o xs
end
def pR(o:Bool)(l:List ae):kG o l=l.map (aq o):=by
 induction l with
 | nil=>rfl
 | cons x xs ih=>simp [kG,ih]
@[go_sem] def dI(o:Bool)(x:ae):aq o x=.agg [.aa x.aj,.str x.ag,.aa x.fType.aj,.sl o 2 (x.fType.aP.map (bh o)),.sl o 1 (x.fType.aF.map AV.str),.str x.fType.ba,.str x.fType.az,.sl o 1 (x.aE.map AV.str),.sl o 1 (x.ay.map AV.str),.str x.aV,.ac x.bS,.ac x.bD,.ac x.aZ,.ac x.cU,.aa x.eJ,.aa x.dU,.sl o 7 (x.aG.map (aO o)),.sl o 7 (x.bO.map (aO o)),.sl o 19 (x.af.map (aq o))]:=by cases x;simp [aq,pR,ae.aj,ae.ag,ae.fType,ae.aE,ae.ay,ae.aV,ae.bS,ae.bD,ae.aZ,ae.cU,ae.eJ,ae.dU,ae.aG,ae.bO,ae.af]
mutual
def Ee:∀ x:ae,(aq true x).frz=aq false x
 | .mk aj ag fType aE ay aV bS bD aZ cU eJ dU aG bO af=>by simp only [aq,AV.frz,AV.bg,cond_true,oA af,vH,aM,xd]
def oA:∀ l:List ae,AV.bg (kG true l)=kG false l
 | []=>rfl
 | x::xs=>by simp only [kG,AV.bg,Ee x,oA xs]
end
def aC(l:List ae):AV.bg (l.map (aq true))=l.map (aq false):=by rw [<- pR,oA,pR]
mutual
def bY:ae->Int->Int
 | .mk aj ag fType aE ay aV bS bD aZ cU eJ dU aG bO af,left=>thn (aI ag left) (fun a0=>thn (eE fType a0) (fun a1=>thn (aQ aI aE a1) (fun a2=>thn (aQ aI ay a2) (fun a3=>thn (aI aV a3) (fun a4=>thn (aQ cI aG a4) (fun a5=>thn (aQ cI bO a5) (fun a6=>thn ((fun b=>thn (b - af.length) (ia af)) a6) (id))))))))
def ia:List ae->Int->Int
 | [],r=>r
 | x::xs,r=>thn (bY x r) (ia xs)
end
def o9:∀ l:List ae,ia l=fu bY l
 | []=>rfl
 | x::xs=>by funext r;simp only [ia,fu,o9 xs]
def yA(x:ae)(left:Int):bY x left=thn (aI x.ag left) (fun a0=>thn (eE x.fType a0) (fun a1=>thn (aQ aI x.aE a1) (fun a2=>thn (aQ aI x.ay a2) (fun a3=>thn (aI x.aV a3) (fun a4=>thn (aQ cI x.aG a4) (fun a5=>thn (aQ cI x.bO a5) (fun a6=>thn (aQ bY x.af a6) (id)))))))):=by cases x;simp only [bY,aQ,o9,ae.aj,ae.ag,ae.fType,ae.aE,ae.ay,ae.aV,ae.bS,ae.bD,ae.aZ,ae.cU,ae.eJ,ae.dU,ae.aG,ae.bO,ae.af]
mutual
def gz:∀ (x:ae) (r:Int),0<=r->bY x r<=r
 | .mk aj ag fType aE ay aV bS bD aZ cU eJ dU aG bO af,r,h=>by
  simp only [bY];exact cm (fun a0 g0=>cm (fun a1 g1=>cm (fun a2 g2=>cm (fun a3 g3=>cm (fun a4 g4=>cm (fun a5 g5=>cm (fun a6 g6=>cm (fun _ _=>Int.le_refl _) (cm (fun y hy=>vD af y hy) Ir g6) g6) (bu cI fN bO a5 g5) g5) (bu cI fN aG a4 g4) g4) (bE aV a3 g3) g3) (bu aI bE ay a2 g2) g2) (bu aI bE aE a1 g1) g1) (rq fType a0 g0) g0) (bE ag r h) h
def vD:∀ (l:List ae) (r:Int),0<=r->ia l r<=r
 | [],r,_=>Int.le_refl _
 | x::xs,r,h=>by
  simp only [ia];exact cm (fun y hy=>vD xs y hy) (gz x r h) h
end
inductive ah where
 | mk (ag:Str) (ax:Str) (af:List ah)
instance:Inhabited ah:=⟨.mk [] [] []⟩
def ah.ag:ah->Str|.mk a _ _=>a
def ah.ax:ah->Str|.mk _ a _=>a
def ah.af:ah->List ah|.mk _ _ a=>a
mutual
def ak(o:Bool):ah->AV
 | .mk ag ax af=>.agg [.str ag,.str ax,.sl o 3 (mT o af)]
def mT(o:Bool):List ah->List AV
 | []=>[]
 | x::xs=>ak o x::mT o xs
end
def sP(o:Bool)(l:List ah):mT o l=l.map (ak o):=by
 induction l with
 | nil=>rfl
 | cons x xs ih=>simp [mT,ih]
@[go_sem] def dD(o:Bool)(x:ah):ak o x=.agg [.str x.ag,.str x.ax,.sl o 3 (x.af.map (ak o))]:=by cases x;simp [ak,sP,ah.ag,ah.ax,ah.af]
mutual
def Ic:∀ x:ah,(ak true x).frz=ak false x
 | .mk ag ax af=>by simp only [ak,AV.frz,AV.bg,cond_true,qV af]
def qV:∀ l:List ah,AV.bg (mT true l)=mT false l
 | []=>rfl
 | x::xs=>by simp only [mT,AV.bg,Ic x,qV xs]
end
def aR(l:List ah):AV.bg (l.map (ak true))=l.map (ak false):=by rw [<- sP,qV,sP]
@[go_sem] abbrev cSc(x:ae):List AV:=[.v (.int .i64 x.aj),.str x.ag,.v (.int .i64 x.fType.aj),.sl false 2 (x.fType.aP.map (bh false)),.sl false 1 (x.fType.aF.map AV.str),.str x.fType.ba,.str x.fType.az,.sl false 1 (x.aE.map AV.str),.sl false 1 (x.ay.map AV.str),.str x.aV,.v (.bool x.bS),.v (.bool x.bD),.v (.bool x.aZ),.v (.bool x.cU),.v (.int .i64 x.eJ),.v (.int .i64 x.dU),.sl false 7 (x.aG.map (aO false)),.sl false 7 (x.bO.map (aO false)),.sl false 19 (x.af.map (aq false))]
@[go_sem] abbrev cNo(x:ah):List AV:=[.str x.ag,.str x.ax,.sl false 3 (x.af.map (ak false))]
@[go_sem] abbrev cZe:List AV:=[.v (.int .i64 0),.str [],.v (.int .i64 0),.v (.slice none 0 0),.v (.slice none 0 0),.str [],.str [],.v (.slice none 0 0),.v (.slice none 0 0),.str [],.v (.bool false),.v (.bool false),.v (.bool false),.v (.bool false),.v (.int .i64 0),.v (.int .i64 0),.v (.slice none 0 0),.v (.slice none 0 0),.v (.slice none 0 0)]
mutual
def bz:ah->Int->Int
 | .mk ag ax af,left=>thn (aI ag left) (fun a0=>thn (aI ax a0) (fun a1=>thn ((fun b=>thn (b - af.length) (jD af)) a1) (id)))
def jD:List ah->Int->Int
 | [],r=>r
 | x::xs,r=>thn (bz x r) (jD xs)
end
def sC:∀ l:List ah,jD l=fu bz l
 | []=>rfl
 | x::xs=>by funext r;simp only [jD,fu,sC xs]
def Dd(x:ah)(left:Int):bz x left=thn (aI x.ag left) (fun a0=>thn (aI x.ax a0) (fun a1=>thn (aQ bz x.af a1) (id))):=by cases x;simp only [bz,aQ,sC,ah.ag,ah.ax,ah.af]
mutual
def cw:∀ (x:ah) (r:Int),0<=r->bz x r<=r
 | .mk ag ax af,r,h=>by
  simp only [bz];exact cm (fun a0 g0=>cm (fun a1 g1=>cm (fun _ _=>Int.le_refl _) (cm (fun y hy=>yC af y hy) Ir g1) g1) (bE ax a0 g0) g0) (bE ag r h) h
def yC:∀ (l:List ah) (r:Int),0<=r->jD l r<=r
 | [],r,_=>Int.le_refl _
 | x::xs,r,h=>by
  simp only [jD];exact cm (fun y hy=>yC xs y hy) (cw x r h) h
end
inductive bA where
 | mk (fOp:Int) (ag:Str) (ax:Str) (af:List bA)
instance:Inhabited bA:=⟨.mk 0 [] [] []⟩
def bA.fOp:bA->Int|.mk a _ _ _=>a
def bA.ag:bA->Str|.mk _ a _ _=>a
def bA.ax:bA->Str|.mk _ _ a _=>a
def bA.af:bA->List bA|.mk _ _ _ a=>a
mutual
def j6(o:Bool):bA->AV
 | .mk fOp ag ax af=>.agg [.aa fOp,.str ag,.str ax,.sl o 4 (mV o af)]
def mV(o:Bool):List bA->List AV
 | []=>[]
 | x::xs=>j6 o x::mV o xs
end
def Ig(o:Bool)(l:List bA):mV o l=l.map (j6 o):=by
 induction l with
 | nil=>rfl
 | cons x xs ih=>simp [mV,ih]
@[go_sem] def Bv(o:Bool)(x:bA):j6 o x=.agg [.aa x.fOp,.str x.ag,.str x.ax,.sl o 4 (x.af.map (j6 o))]:=by cases x;simp [j6,Ig,bA.fOp,bA.ag,bA.ax,bA.af]
mutual
def Ih:∀ x:bA,(j6 true x).frz=j6 false x
 | .mk fOp ag ax af=>by simp only [j6,AV.frz,AV.bg,cond_true,xe af]
def xe:∀ l:List bA,AV.bg (mV true l)=mV false l
 | []=>rfl
 | x::xs=>by simp only [mV,AV.bg,Ih x,xe xs]
end
mutual
def Ak:bA->Int->Int
 | .mk fOp ag ax af,left=>thn (aI ag left) (fun a0=>thn (aI ax a0) (fun a1=>thn ((fun b=>thn (b - af.length) (ug af)) a1) (id)))
def ug:List bA->Int->Int
 | [],r=>r
 | x::xs,r=>thn (Ak x r) (ug xs)
end
mutual
def L6:∀ (x:bA) (r:Int),0<=r->Ak x r<=r
 | .mk fOp ag ax af,r,h=>by
  simp only [Ak];exact cm (fun a0 g0=>cm (fun a1 g1=>cm (fun _ _=>Int.le_refl _) (cm (fun y hy=>yD af y hy) Ir g1) g1) (bE ax a0 g0) g0) (bE ag r h) h
def yD:∀ (l:List bA) (r:Int),0<=r->ug l r<=r
 | [],r,_=>Int.le_refl _
 | x::xs,r,h=>by
  simp only [ug];exact cm (fun y hy=>yD xs y hy) (L6 x r h) h
end
def abN(o:Bool)(l:List bA):AV:=.sl o 4 (l.map (j6 o))
def abW(l:List bA)(r:Int):Int:=aQ Ak l r
structure eK where
 ib:List ah
 fBy:Int
 fAt:Int
instance:Inhabited eK:=⟨⟨[],0,0⟩⟩
@[go_sem] def cl(o:Bool)(x:eK):AV:=.agg [.sl o 3 (x.ib.map (ak o)),.v (.int .i64 x.fBy),.v (.int .i64 x.fAt)]
def CQ(x:eK):(cl true x).frz=cl false x:=by simp only [cl,AV.frz,AV.bg,cond_true,aR]
def lj(l:List eK):AV.bg (l.map (cl true))=l.map (cl false):=fK _ _ CQ l
def dO(x:eK)(left:Int):Int:=thn (aQ bz x.ib left) (id)
def iR(x:eK)(r:Int)(h:0<=r):dO x r<=r:=cm (fun _ _=>Int.le_refl _) (bu bz cw x.ib r h) h
structure gJ where
 fOn:Bool
 ik:Int
 fBy:Int
 ag:Str
 fT:List ah
instance:Inhabited gJ:=⟨⟨false,0,0,[],[]⟩⟩
@[go_sem] def u4(o:Bool)(x:gJ):AV:=.agg [.v (.bool x.fOn),.v (.int .i64 x.ik),.v (.int .i64 x.fBy),.str x.ag,.sl o 3 (x.fT.map (ak o))]
def lq(x:gJ)(left:Int):Int:=thn (aI x.ag left) (fun a0=>thn (aQ bz x.fT a0) (id))
def qx(x:gJ)(r:Int)(h:0<=r):lq x r<=r:=cm (fun a0 g0=>cm (fun _ _=>Int.le_refl _) (bu bz cw x.fT a0 g0) g0) (bE x.ag r h) h
structure gR where
 bW:List ae
 cY:List ah
 fg:List ah
 lK:Int
 dm:List eK
 cO:gJ
instance:Inhabited gR:=⟨⟨[],[],[],0,[],default⟩⟩
@[go_sem] def zQ(o:Bool)(x:gR):AV:=.agg [.sl o 19 (x.bW.map (aq o)),.sl o 3 (x.cY.map (ak o)),.sl o 3 (x.fg.map (ak o)),.v (.int .i64 x.lK),.sl o 3 (x.dm.map (cl o)),.v (.bool x.cO.fOn),.v (.int .i64 x.cO.ik),.v (.int .i64 x.cO.fBy),.str x.cO.ag,.sl o 3 (x.cO.fT.map (ak o))]
def jR(x:gR)(left:Int):Int:=thn (aQ bY x.bW left) (fun a0=>thn (aQ bz x.cY a0) (fun a1=>thn (aQ bz x.fg a1) (fun a2=>thn (aQ dO x.dm a2) (fun a3=>thn (lq x.cO a3) (id)))))
def pY(x:gR)(r:Int)(h:0<=r):jR x r<=r:=cm (fun a0 g0=>cm (fun a1 g1=>cm (fun a2 g2=>cm (fun a3 g3=>cm (fun _ _=>Int.le_refl _) (qx x.cO a3 g3) g3) (bu dO iR x.dm a2 g2) g2) (bu bz cw x.fg a1 g1) g1) (bu bz cw x.cY a0 g0) g0) (bu bY gz x.bW r h) h
structure mZ where
 ag:Str
 ax:Str
instance:Inhabited mZ:=⟨⟨[],[]⟩⟩
@[go_sem] def qX(o:Bool)(x:mZ):AV:=.agg [.str x.ag,.str x.ax]
def XK(x:mZ)(left:Int):Int:=thn (aI x.ag left) (fun a0=>thn (aI x.ax a0) (id))
structure jd where
 ag:Str
 fType:cT
instance:Inhabited jd:=⟨⟨[],default⟩⟩
@[go_sem] def iE(o:Bool)(x:jd):AV:=.agg [.str x.ag,.v (.int .i64 x.fType.aj),.sl o 2 (x.fType.aP.map (bh o)),.sl o 1 (x.fType.aF.map AV.str),.str x.fType.ba,.str x.fType.az]
def G9(x:jd):(iE true x).frz=iE false x:=by simp only [iE,AV.frz,AV.bg,cond_true,vH,aM]
def Ef(l:List jd):AV.bg (l.map (iE true))=l.map (iE false):=fK _ _ G9 l
def RA(x:jd)(left:Int):Int:=thn (aI x.ag left) (fun a0=>thn (eE x.fType a0) (id))
structure eS where
 ag:Str
 ma:List jd
 xZ:List ah
instance:Inhabited eS:=⟨⟨[],[],[]⟩⟩
@[go_sem] def jK(o:Bool)(x:eS):AV:=.agg [.str x.ag,.sl o 6 (x.ma.map (iE o)),.sl o 3 (x.xZ.map (ak o))]
def Km(x:eS)(left:Int):Int:=thn (aI x.ag left) (fun a0=>thn (aQ RA x.ma a0) (fun a1=>thn (aQ bz x.xZ a1) (id)))
structure iH where
 ag:Str
 rQ:Str
 fArgs:List mZ
 qT:List Str
instance:Inhabited iH:=⟨⟨[],[],[],[]⟩⟩
@[go_sem] def kE(o:Bool)(x:iH):AV:=.agg [.str x.ag,.str x.rQ,.sl o 2 (x.fArgs.map (qX o)),.sl o 1 (x.qT.map AV.str)]
def L5(x:iH)(left:Int):Int:=thn (aI x.ag left) (fun a0=>thn (aI x.rQ a0) (fun a1=>thn (aQ XK x.fArgs a1) (fun a2=>thn (aQ aI x.qT a2) (id))))
structure EP where
 uY:List eS
 w9:List iH
instance:Inhabited EP:=⟨⟨[],[]⟩⟩
@[go_sem] def acI(o:Bool)(x:EP):AV:=.agg [.sl o 3 (x.uY.map (jK o)),.sl o 4 (x.w9.map (kE o))]
def acV(x:EP)(left:Int):Int:=thn (aQ Km x.uY left) (fun a0=>thn (aQ L5 x.w9 a0) (id))
structure bJ where
 ag:Str
 bH:gR
 mH:List ah
 fUp:Bool
 xY:Int
 EE:Bool
instance:Inhabited bJ:=⟨⟨[],default,[],false,0,false⟩⟩
@[go_sem] def cq(o:Bool)(x:bJ):AV:=.agg [.str x.ag,.sl o 19 (x.bH.bW.map (aq o)),.sl o 3 (x.bH.cY.map (ak o)),.sl o 3 (x.bH.fg.map (ak o)),.v (.int .i64 x.bH.lK),.sl o 3 (x.bH.dm.map (cl o)),.v (.bool x.bH.cO.fOn),.v (.int .i64 x.bH.cO.ik),.v (.int .i64 x.bH.cO.fBy),.str x.bH.cO.ag,.sl o 3 (x.bH.cO.fT.map (ak o)),.sl o 3 (x.mH.map (ak o)),.v (.bool x.fUp),.v (.int .i64 x.xY),.v (.bool x.EE)]
@[go_sem] abbrev cEx(x:aB):List AV:=[.v (.int .i64 x.fOp),.v (.int .i64 x.dn),.str x.bI,.v (.bool x.az.bR),.v (.int .i64 x.az.bG),.sl false 2 (x.az.av.map (aA false)),.sl false 7 (x.af.map (aO false))]
@[go_sem] abbrev cTy(x:cT):List AV:=[.v (.int .i64 x.aj),.sl false 2 (x.aP.map (bh false)),.sl false 1 (x.aF.map AV.str),.str x.ba,.str x.az]
@[go_sem] abbrev cTm(x:eS):List AV:=[.str x.ag,.sl false 6 (x.ma.map (iE false)),.sl false 3 (x.xZ.map (ak false))]
@[go_sem] abbrev cSv(x:iH):List AV:=[.str x.ag,.str x.rQ,.sl false 2 (x.fArgs.map (qX false)),.sl false 1 (x.qT.map AV.str)]
@[go_sem] abbrev cPm(x:jd):List AV:=[.str x.ag,.v (.int .i64 x.fType.aj),.sl false 2 (x.fType.aP.map (bh false)),.sl false 1 (x.fType.aF.map AV.str),.str x.fType.ba,.str x.fType.az]
@[go_sem] abbrev cDe(x:bJ):List AV:=[.str x.ag,.sl false 19 (x.bH.bW.map (aq false)),.sl false 3 (x.bH.cY.map (ak false)),.sl false 3 (x.bH.fg.map (ak false)),.v (.int .i64 x.bH.lK),.sl false 3 (x.bH.dm.map (cl false)),.v (.bool x.bH.cO.fOn),.v (.int .i64 x.bH.cO.ik),.v (.int .i64 x.bH.cO.fBy),.str x.bH.cO.ag,.sl false 3 (x.bH.cO.fT.map (ak false)),.sl false 3 (x.mH.map (ak false)),.v (.bool x.fUp),.v (.int .i64 x.xY),.v (.bool x.EE)]
@[go_sem] abbrev cSo(x:gR):List AV:=[.sl false 19 (x.bW.map (aq false)),.sl false 3 (x.cY.map (ak false)),.sl false 3 (x.fg.map (ak false)),.v (.int .i64 x.lK),.sl false 3 (x.dm.map (cl false)),.v (.bool x.cO.fOn),.v (.int .i64 x.cO.ik),.v (.int .i64 x.cO.fBy),.str x.cO.ag,.sl false 3 (x.cO.fT.map (ak false))]
@[go_sem] abbrev cPl(x:EP):List AV:=[.sl false 3 (x.uY.map (jK false)),.sl false 4 (x.w9.map (kE false))]
def Eg(x:bJ):(cq true x).frz=cq false x:=by simp only [cq,AV.frz,AV.bg,cond_true,aC,aR,lj]
def oB(l:List bJ):AV.bg (l.map (cq true))=l.map (cq false):=fK _ _ Eg l
def cD(x:bJ)(left:Int):Int:=thn (aI x.ag left) (fun a0=>thn (jR x.bH a0) (fun a1=>thn (aQ bz x.mH a1) (id)))
def gA(x:bJ)(r:Int)(h:0<=r):cD x r<=r:=cm (fun a0 g0=>cm (fun a1 g1=>cm (fun _ _=>Int.le_refl _) (bu bz cw x.mH a1 g1) g1) (pY x.bH a0 g0) g0) (bE x.ag r h) h
def zm:Nat->Nat
 | 0=>2097152+1
 | _=>2147483648
def M4(n:Nat):1048576<=zm n/\zm n<=4611686018427387904:=by unfold zm;first|(split<;>omega)|omega
def lim(sz:Nat):Nat:=if sz<=1 then 1099511627776 else if sz<1000000000 then 2147483648 else zm (sz - 1000000000)
def gE(_:Nat):Nat:=140737488355328
end Go.Dt
