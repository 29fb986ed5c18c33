/- Part of a proof. -/
import Derived.Test.YtbiikafnjialjaaGreatDoorS2
set_option linter.all false
open List
namespace Go.Dt
open Go.Ab
abbrev Str:=List UInt8
def jF{α:Type}(f g:α->AV)(h:∀x,(f x).frz=g x)(l:List α):AV.cl (l.map f)=l.map g:=by rw[AV.pK,map_map];apply map_congr_left;intro x _;exact h x
def bD(l:List Str):AV.cl (l.map AV.str)=l.map AV.str:=jF _ _ (λ_=>rfl) l
def thn(a:Int)(k:Int->Int):Int:=if a<0 then -1 else k a
def aC(s:Str)(left:Int):Int:=left - s.length
def eS{α:Type}(f:α->Int->Int):List α->Int->Int
 | [],r=>r
 | x::xs,r=>thn (f x r) (eS f xs)
def aJ{α:Type}(f:α->Int->Int)(l:List α)(left:Int):Int:=thn (left - l.length) (eS f l)
def cj{a b:Int}{k:Int->Int}(h:∀x,0<=x->k x<=x)(hb:a<=b)(h0:0<=b):thn a k<=b:=by
 unfold thn;split
 ·omega
 ·have:=h a Um;omega
def aQ(s:Str)(r:Int)(_h:0<=r):aC s r<=r:=by unfold aC;omega
def IE{α:Type}(f:α->Int->Int)(hf:∀x r,0<=r->f x r<=r):∀(l:List α) (r:Int),0<=r->eS f l r<=r
 | [],r,_=>Int.le_refl _
 | x::xs,r,h=>cj (λy hy=>IE f hf xs y hy) (hf x r h) h
def bh{α:Type}(f:α->Int->Int)(hf:∀x r,0<=r->f x r<=r)(l:List α)(r:Int)(h:0<=r):aJ f l r<=r :=
 cj (λy hy=>IE f hf l y hy) Um h
structure dV where
 fLo:Int
 fHi:Int
instance:Inhabited dV:=⟨⟨0,0⟩⟩
@[go_sem] def aU(o:Bool)(x:dV):AV:=.agg [.v (.int .i64 x.fLo),.v (.int .i64 x.fHi)]
def Hg(x:dV):(aU true x).frz=aU false x:=by simp only[aU,AV.frz,AV.cl,cond_true]
def wE(l:List dV):AV.cl (l.map (aU true))=l.map (aU false):=jF _ _ Hg l
def gB(x:dV)(left:Int):Int:=left
def oQ(x:dV)(r:Int)(h:0<=r):gB x r<=r:=Int.le_refl _
structure dq where
 aj:Int
 ay:List dV
 aB:List Str
 aY:Str
 aF:Str
instance:Inhabited dq:=⟨⟨0,[],[],[],[]⟩⟩
@[go_sem] def yE(o:Bool)(x:dq):AV:=.agg [.v (.int .i64 x.aj),.sl o 2 (x.ay.map (aU o)),.sl o 1 (x.aB.map AV.str),.str x.aY,.str x.aF]
def ed(x:dq)(left:Int):Int:=thn (aJ gB x.ay left) (λa0=>thn (aJ aC x.aB a0) (λa1=>thn (aC x.aY a1) (λa2=>thn (aC x.aF a2) (id))))
def mI(x:dq)(r:Int)(h:0<=r):ed x r<=r:=cj (λa0 g0=>cj (λa1 g1=>cj (λa2 g2=>cj (λ_ _=>Int.le_refl _) (aQ x.aF a2 g2) g2) (aQ x.aY a1 g1) g1) (bh aC aQ x.aB a0 g0) g0) (bh gB oQ x.ay r h) h
structure fH where
 ae:Str
 aq:Str
instance:Inhabited fH:=⟨⟨[],[]⟩⟩
@[go_sem] def cU(o:Bool)(x:fH):AV:=.agg [.str x.ae,.str x.aq]
def Ii(x:fH):(cU true x).frz=cU false x:=by simp only[cU,AV.frz,AV.cl,cond_true]
def Hc(l:List fH):AV.cl (l.map (cU true))=l.map (cU false):=jF _ _ Ii l
def jH(x:fH)(left:Int):Int:=thn (aC x.ae left) (λa0=>thn (aC x.aq a0) (id))
def oy(x:fH)(r:Int)(h:0<=r):jH x r<=r:=cj (λa0 g0=>cj (λ_ _=>Int.le_refl _) (aQ x.aq a0 g0) g0) (aQ x.ae r h) h
structure GStep where
 ae:Str
 cK:List fH
instance:Inhabited GStep:=⟨⟨[],[]⟩⟩
@[go_sem] def bg(o:Bool)(x:GStep):AV:=.agg [.str x.ae,.sl o 2 (x.cK.map (cU o))]
def Ik(x:GStep):(bg true x).frz=bg false x:=by simp only[bg,AV.frz,AV.cl,cond_true,Hc]
def Hf(l:List GStep):AV.cl (l.map (bg true))=l.map (bg false):=jF _ _ Ik l
def jI(x:GStep)(left:Int):Int:=thn (aC x.ae left) (λa0=>thn (aJ jH x.cK a0) (id))
def oz(x:GStep)(r:Int)(h:0<=r):jI x r<=r:=cj (λa0 g0=>cj (λ_ _=>Int.le_refl _) (bh jH oy x.cK a0 g0) g0) (aQ x.ae r h) h
structure fS where
 dB:Bool
 dQ:Int
 aW:List GStep
instance:Inhabited fS:=⟨⟨false,0,[]⟩⟩
@[go_sem] def De(o:Bool)(x:fS):AV:=.agg [.v (.bool x.dB),.v (.int .i64 x.dQ),.sl o 2 (x.aW.map (bg o))]
def kU(x:fS)(left:Int):Int:=thn (aJ jI x.aW left) (id)
def sy(x:fS)(r:Int)(h:0<=r):kU x r<=r:=cj (λ_ _=>Int.le_refl _) (bh jI oz x.aW r h) h
inductive aZ where
 | mk (fOp:Int) (gJ:Int) (cS:Str) (aF:fS) (af:List aZ)
instance:Inhabited aZ:=⟨.mk 0 0 [] default []⟩
def aZ.fOp:aZ->Int|.mk a _ _ _ _=>a
def aZ.gJ:aZ->Int|.mk _ a _ _ _=>a
def aZ.cS:aZ->Str|.mk _ _ a _ _=>a
def aZ.aF:aZ->fS|.mk _ _ _ a _=>a
def aZ.af:aZ->List aZ|.mk _ _ _ _ a=>a
mutual
def aN(o:Bool):aZ->AV
 | .mk fOp gJ cS aF af=>.agg [.aa fOp,.aa gJ,.str cS,.ac aF.dB,.aa aF.dQ,.sl o 2 (aF.aW.map (bg o)),.sl o 7 (og o af)]
def og(o:Bool):List aZ->List AV
 | []=>[]
 | x::xs=>aN o x::og o xs
end
def tL(o:Bool)(l:List aZ):og o l=l.map (aN o):=by
 induction l with
 | nil=>rfl
 | cons x xs ih=>simp[og,ih]
@[go_sem] def dD(o:Bool)(x:aZ):aN o x=.agg [.aa x.fOp,.aa x.gJ,.str x.cS,.ac x.aF.dB,.aa x.aF.dQ,.sl o 2 (x.aF.aW.map (bg o)),.sl o 7 (x.af.map (aN o))]:=by cases x;simp[aN,tL,aZ.fOp,aZ.gJ,aZ.cS,aZ.aF,aZ.af]
mutual
def Im:∀x:aZ,(aN true x).frz=aN false x
 | .mk fOp gJ cS aF af=>by simp only[aN,AV.frz,AV.cl,cond_true,rT af,Hf]
def rT:∀l:List aZ,AV.cl (og true l)=og false l
 | []=>rfl
 | x::xs=>by simp only[og,AV.cl,Im x,rT xs]
end
def Hl(l:List aZ):AV.cl (l.map (aN true))=l.map (aN false):=by rw[<- tL,rT,tL]
mutual
def cY:aZ->Int->Int
 | .mk fOp gJ cS aF af,left=>thn (aC cS left) (λa0=>thn (kU aF a0) (λa1=>thn ((λb=>thn (b - af.length) (jB af)) a1) (id)))
def jB:List aZ->Int->Int
 | [],r=>r
 | x::xs,r=>thn (cY x r) (jB xs)
end
def tF:∀l:List aZ,jB l=eS cY l
 | []=>rfl
 | x::xs=>by funext r;simp only[jB,eS,tF xs]
def wQ(x:aZ)(left:Int):cY x left=thn (aC x.cS left) (λa0=>thn (kU x.aF a0) (λa1=>thn (aJ cY x.af a1) (id))):=by cases x;simp only[cY,aJ,tF,aZ.fOp,aZ.gJ,aZ.cS,aZ.aF,aZ.af]
mutual
def fT:∀(x:aZ) (r:Int),0<=r->cY x r<=r
 | .mk fOp gJ cS aF af,r,h=>by
  simp only[cY];exact cj (λa0 g0=>cj (λa1 g1=>cj (λ_ _=>Int.le_refl _) (cj (λy hy=>tE af y hy) Um g1) g1) (sy aF a0 g0) g0) (aQ cS r h) h
def tE:∀(l:List aZ) (r:Int),0<=r->jB l r<=r
 | [],r,_=>Int.le_refl _
 | x::xs,r,h=>by
  simp only[jB];exact cj (λy hy=>tE xs y hy) (fT x r h) h
end
inductive ag where
 | mk (aj:Int) (ae:Str) (fType:dq) (ax:List Str) (aH:List Str) (bw:Str) (cX:Bool) (dm:Bool) (bQ:Bool) (ez:Bool) (iH:Int) (iI:Int) (bP:List aZ) (cE:List aZ) (af:List ag)
instance:Inhabited ag:=⟨.mk 0 [] default [] [] [] false false false false 0 0 [] [] []⟩
def ag.aj:ag->Int|.mk a _ _ _ _ _ _ _ _ _ _ _ _ _ _=>a
def ag.ae:ag->Str|.mk _ a _ _ _ _ _ _ _ _ _ _ _ _ _=>a
def ag.fType:ag->dq|.mk _ _ a _ _ _ _ _ _ _ _ _ _ _ _=>a
def ag.ax:ag->List Str|.mk _ _ _ a _ _ _ _ _ _ _ _ _ _ _=>a
def ag.aH:ag->List Str|.mk _ _ _ _ a _ _ _ _ _ _ _ _ _ _=>a
def ag.bw:ag->Str|.mk _ _ _ _ _ a _ _ _ _ _ _ _ _ _=>a
def ag.cX:ag->Bool|.mk _ _ _ _ _ _ a _ _ _ _ _ _ _ _=>a
def ag.dm:ag->Bool|.mk _ _ _ _ _ _ _ a _ _ _ _ _ _ _=>a
def ag.bQ:ag->Bool|.mk _ _ _ _ _ _ _ _ a _ _ _ _ _ _=>a
def ag.ez:ag->Bool|.mk _ _ _ _ _ _ _ _ _ a _ _ _ _ _=>a
def ag.iH:ag->Int|.mk _ _ _ _ _ _ _ _ _ _ a _ _ _ _=>a
def ag.iI:ag->Int|.mk _ _ _ _ _ _ _ _ _ _ _ a _ _ _=>a
def ag.bP:ag->List aZ|.mk _ _ _ _ _ _ _ _ _ _ _ _ a _ _=>a
def ag.cE:ag->List aZ|.mk _ _ _ _ _ _ _ _ _ _ _ _ _ a _=>a
def ag.af:ag->List ag|.mk _ _ _ _ _ _ _ _ _ _ _ _ _ _ a=>a
mutual
def ak(o:Bool):ag->AV
 | .mk aj ae fType ax aH bw cX dm bQ ez iH iI bP cE af=>.agg [.aa aj,.str ae,.aa fType.aj,.sl o 2 (fType.ay.map (aU o)),.sl o 1 (fType.aB.map AV.str),.str fType.aY,.str fType.aF,.sl o 1 (ax.map AV.str),.sl o 1 (aH.map AV.str),.str bw,.ac cX,.ac dm,.ac bQ,.ac ez,.aa iH,.aa iI,.sl o 7 (bP.map (aN o)),.sl o 7 (cE.map (aN o)),.sl o 19 (mf o af)]
def mf(o:Bool):List ag->List AV
 | []=>[]
 | x::xs=>ak o x::mf o xs
end
def qD(o:Bool)(l:List ag):mf o l=l.map (ak o):=by
 induction l with
 | nil=>rfl
 | cons x xs ih=>simp[mf,ih]
@[go_sem] def dC(o:Bool)(x:ag):ak o x=.agg [.aa x.aj,.str x.ae,.aa x.fType.aj,.sl o 2 (x.fType.ay.map (aU o)),.sl o 1 (x.fType.aB.map AV.str),.str x.fType.aY,.str x.fType.aF,.sl o 1 (x.ax.map AV.str),.sl o 1 (x.aH.map AV.str),.str x.bw,.ac x.cX,.ac x.dm,.ac x.bQ,.ac x.ez,.aa x.iH,.aa x.iI,.sl o 7 (x.bP.map (aN o)),.sl o 7 (x.cE.map (aN o)),.sl o 19 (x.af.map (ak o))]:=by cases x;simp[ak,qD,ag.aj,ag.ae,ag.fType,ag.ax,ag.aH,ag.bw,ag.cX,ag.dm,ag.bQ,ag.ez,ag.iH,ag.iI,ag.bP,ag.cE,ag.af]
mutual
def EB:∀x:ag,(ak true x).frz=ak false x
 | .mk aj ae fType ax aH bw cX dm bQ ez iH iI bP cE af=>by simp only[ak,AV.frz,AV.cl,cond_true,pL af,wE,bD,Hl]
def pL:∀l:List ag,AV.cl (mf true l)=mf false l
 | []=>rfl
 | x::xs=>by simp only[mf,AV.cl,EB x,pL xs]
end
def aS(l:List ag):AV.cl (l.map (ak true))=l.map (ak false):=by rw[<- qD,pL,qD]
mutual
def ck:ag->Int->Int
 | .mk aj ae fType ax aH bw cX dm bQ ez iH iI bP cE af,left=>thn (aC ae left) (λa0=>thn (ed fType a0) (λa1=>thn (aJ aC ax a1) (λa2=>thn (aJ aC aH a2) (λa3=>thn (aC bw a3) (λa4=>thn (aJ cY bP a4) (λa5=>thn (aJ cY cE a5) (λa6=>thn ((λb=>thn (b - af.length) (ji af)) a6) (id))))))))
def ji:List ag->Int->Int
 | [],r=>r
 | x::xs,r=>thn (ck x r) (ji xs)
end
def qk:∀l:List ag,ji l=eS ck l
 | []=>rfl
 | x::xs=>by funext r;simp only[ji,eS,qk xs]
def tz(x:ag)(left:Int):ck x left=thn (aC x.ae left) (λa0=>thn (ed x.fType a0) (λa1=>thn (aJ aC x.ax a1) (λa2=>thn (aJ aC x.aH a2) (λa3=>thn (aC x.bw a3) (λa4=>thn (aJ cY x.bP a4) (λa5=>thn (aJ cY x.cE a5) (λa6=>thn (aJ ck x.af a6) (id)))))))):=by cases x;simp only[ck,aJ,qk,ag.aj,ag.ae,ag.fType,ag.ax,ag.aH,ag.bw,ag.cX,ag.dm,ag.bQ,ag.ez,ag.iH,ag.iI,ag.bP,ag.cE,ag.af]
mutual
def gQ:∀(x:ag) (r:Int),0<=r->ck x r<=r
 | .mk aj ae fType ax aH bw cX dm bQ ez iH iI bP cE af,r,h=>by
  simp only[ck];exact cj (λa0 g0=>cj (λa1 g1=>cj (λa2 g2=>cj (λa3 g3=>cj (λa4 g4=>cj (λa5 g5=>cj (λa6 g6=>cj (λ_ _=>Int.le_refl _) (cj (λy hy=>wx af y hy) Um g6) g6) (bh cY fT cE a5 g5) g5) (bh cY fT bP a4 g4) g4) (aQ bw a3 g3) g3) (bh aC aQ aH a2 g2) g2) (bh aC aQ ax a1 g1) g1) (mI fType a0 g0) g0) (aQ ae r h) h
def wx:∀(l:List ag) (r:Int),0<=r->ji l r<=r
 | [],r,_=>Int.le_refl _
 | x::xs,r,h=>by
  simp only[ji];exact cj (λy hy=>wx xs y hy) (gQ x r h) h
end
inductive ah where
 | mk (ae:Str) (aq:Str) (af:List ah)
instance:Inhabited ah:=⟨.mk [] [] []⟩
def ah.ae:ah->Str|.mk a _ _=>a
def ah.aq:ah->Str|.mk _ a _=>a
def ah.af:ah->List ah|.mk _ _ a=>a
mutual
def ai(o:Bool):ah->AV
 | .mk ae aq af=>.agg [.str ae,.str aq,.sl o 3 (oe o af)]
def oe(o:Bool):List ah->List AV
 | []=>[]
 | x::xs=>ai o x::oe o xs
end
def tK(o:Bool)(l:List ah):oe o l=l.map (ai o):=by
 induction l with
 | nil=>rfl
 | cons x xs ih=>simp[oe,ih]
@[go_sem] def bO(o:Bool)(x:ah):ai o x=.agg [.str x.ae,.str x.aq,.sl o 3 (x.af.map (ai o))]:=by cases x;simp[ai,tK,ah.ae,ah.aq,ah.af]
mutual
def Il:∀x:ah,(ai true x).frz=ai false x
 | .mk ae aq af=>by simp only[ai,AV.frz,AV.cl,cond_true,rS af]
def rS:∀l:List ah,AV.cl (oe true l)=oe false l
 | []=>rfl
 | x::xs=>by simp only[oe,AV.cl,Il x,rS xs]
end
def bk(l:List ah):AV.cl (l.map (ai true))=l.map (ai false):=by rw[<- tK,rS,tK]
mutual
def bF:ah->Int->Int
 | .mk ae aq af,left=>thn (aC ae left) (λa0=>thn (aC aq a0) (λa1=>thn ((λb=>thn (b - af.length) (lD af)) a1) (id)))
def lD:List ah->Int->Int
 | [],r=>r
 | x::xs,r=>thn (bF x r) (lD xs)
end
def tC:∀l:List ah,lD l=eS bF l
 | []=>rfl
 | x::xs=>by funext r;simp only[lD,eS,tC xs]
def wP(x:ah)(left:Int):bF x left=thn (aC x.ae left) (λa0=>thn (aC x.aq a0) (λa1=>thn (aJ bF x.af a1) (id))):=by cases x;simp only[bF,aJ,tC,ah.ae,ah.aq,ah.af]
mutual
def cy:∀(x:ah) (r:Int),0<=r->bF x r<=r
 | .mk ae aq af,r,h=>by
  simp only[bF];exact cj (λa0 g0=>cj (λa1 g1=>cj (λ_ _=>Int.le_refl _) (cj (λy hy=>y7 af y hy) Um g1) g1) (aQ aq a0 g0) g0) (aQ ae r h) h
def y7:∀(l:List ah) (r:Int),0<=r->lD l r<=r
 | [],r,_=>Int.le_refl _
 | x::xs,r,h=>by
  simp only[lD];exact cj (λy hy=>y7 xs y hy) (cy x r h) h
end
inductive aI where
 | mk (fOp:Int) (ae:Str) (aq:Str) (af:List aI)
instance:Inhabited aI:=⟨.mk 0 [] [] []⟩
def aI.fOp:aI->Int|.mk a _ _ _=>a
def aI.ae:aI->Str|.mk _ a _ _=>a
def aI.aq:aI->Str|.mk _ _ a _=>a
def aI.af:aI->List aI|.mk _ _ _ a=>a
mutual
def dE(o:Bool):aI->AV
 | .mk fOp ae aq af=>.agg [.aa fOp,.str ae,.str aq,.sl o 4 (oh o af)]
def oh(o:Bool):List aI->List AV
 | []=>[]
 | x::xs=>dE o x::oh o xs
end
def tM(o:Bool)(l:List aI):oh o l=l.map (dE o):=by
 induction l with
 | nil=>rfl
 | cons x xs ih=>simp[oh,ih]
@[go_sem] def qQ(o:Bool)(x:aI):dE o x=.agg [.aa x.fOp,.str x.ae,.str x.aq,.sl o 4 (x.af.map (dE o))]:=by cases x;simp[dE,tM,aI.fOp,aI.ae,aI.aq,aI.af]
mutual
def Io:∀x:aI,(dE true x).frz=dE false x
 | .mk fOp ae aq af=>by simp only[dE,AV.frz,AV.cl,cond_true,rU af]
def rU:∀l:List aI,AV.cl (oh true l)=oh false l
 | []=>rfl
 | x::xs=>by simp only[oh,AV.cl,Io x,rU xs]
end
def Hm(l:List aI):AV.cl (l.map (dE true))=l.map (dE false):=by rw[<- tM,rU,tM]
@[go_sem] abbrev cSc(x:ag):List AV:=[.v (.int .i64 x.aj),.str x.ae,.v (.int .i64 x.fType.aj),.sl false 2 (x.fType.ay.map (aU false)),.sl false 1 (x.fType.aB.map AV.str),.str x.fType.aY,.str x.fType.aF,.sl false 1 (x.ax.map AV.str),.sl false 1 (x.aH.map AV.str),.str x.bw,.v (.bool x.cX),.v (.bool x.dm),.v (.bool x.bQ),.v (.bool x.ez),.v (.int .i64 x.iH),.v (.int .i64 x.iI),.sl false 7 (x.bP.map (aN false)),.sl false 7 (x.cE.map (aN false)),.sl false 19 (x.af.map (ak false))]
@[go_sem] abbrev cEd(x:aI):List AV:=[.v (.int .i64 x.fOp),.str x.ae,.str x.aq,.sl false 4 (x.af.map (dE false))]
@[go_sem] abbrev cNo(x:ah):List AV:=[.str x.ae,.str x.aq,.sl false 3 (x.af.map (ai false))]
@[go_sem] abbrev cZe:List AV:=[.v (.int .i64 0),.str [],.v (.int .i64 0),.v (.slice none 0 0),.v (.slice none 0 0),.str [],.str [],.v (.slice none 0 0),.v (.slice none 0 0),.str [],.v (.bool false),.v (.bool false),.v (.bool false),.v (.bool false),.v (.int .i64 0),.v (.int .i64 0),.v (.slice none 0 0),.v (.slice none 0 0),.v (.slice none 0 0)]
mutual
def AU:aI->Int->Int
 | .mk fOp ae aq af,left=>thn (aC ae left) (λa0=>thn (aC aq a0) (λa1=>thn ((λb=>thn (b - af.length) (uW af)) a1) (id)))
def uW:List aI->Int->Int
 | [],r=>r
 | x::xs,r=>thn (AU x r) (uW xs)
end
mutual
def LJ:∀(x:aI) (r:Int),0<=r->AU x r<=r
 | .mk fOp ae aq af,r,h=>by
  simp only[AU];exact cj (λa0 g0=>cj (λa1 g1=>cj (λ_ _=>Int.le_refl _) (cj (λy hy=>y8 af y hy) Um g1) g1) (aQ aq a0 g0) g0) (aQ ae r h) h
def y8:∀(l:List aI) (r:Int),0<=r->uW l r<=r
 | [],r,_=>Int.le_refl _
 | x::xs,r,h=>by
  simp only[uW];exact cj (λy hy=>y8 xs y hy) (LJ x r h) h
end
def acx(o:Bool)(l:List aI):AV:=.sl o 4 (l.map (dE o))
def acS(l:List aI)(r:Int):Int:=aJ AU l r
structure fE where
 fc:List ah
 fBy:Int
 fAt:Int
instance:Inhabited fE:=⟨⟨[],0,0⟩⟩
@[go_sem] def bM(o:Bool)(x:fE):AV:=.agg [.sl o 3 (x.fc.map (ai o)),.v (.int .i64 x.fBy),.v (.int .i64 x.fAt)]
def Dc(x:fE):(bM true x).frz=bM false x:=by simp only[bM,AV.frz,AV.cl,cond_true,bk]
def sY(l:List fE):AV.cl (l.map (bM true))=l.map (bM false):=jF _ _ Dc l
def eY(x:fE)(left:Int):Int:=thn (aJ bF x.fc left) (id)
def lO(x:fE)(r:Int)(h:0<=r):eY x r<=r:=cj (λ_ _=>Int.le_refl _) (bh bF cy x.fc r h) h
structure iT where
 fOn:Bool
 ij:Int
 fBy:Int
 ae:Str
 dZ:List ah
instance:Inhabited iT:=⟨⟨false,0,0,[],[]⟩⟩
@[go_sem] def vR(o:Bool)(x:iT):AV:=.agg [.v (.bool x.fOn),.v (.int .i64 x.ij),.v (.int .i64 x.fBy),.str x.ae,.sl o 3 (x.dZ.map (ai o))]
def kQ(x:iT)(left:Int):Int:=thn (aC x.ae left) (λa0=>thn (aJ bF x.dZ a0) (id))
def rC(x:iT)(r:Int)(h:0<=r):kQ x r<=r:=cj (λa0 g0=>cj (λ_ _=>Int.le_refl _) (bh bF cy x.dZ a0 g0) g0) (aQ x.ae r h) h
structure lA where
 aP:List ag
 bf:List ah
 cw:List ah
 lg:Int
 dS:List fE
 bG:iT
instance:Inhabited lA:=⟨⟨[],[],[],0,[],default⟩⟩
@[go_sem] def Am(o:Bool)(x:lA):AV:=.agg [.sl o 19 (x.aP.map (ak o)),.sl o 3 (x.bf.map (ai o)),.sl o 3 (x.cw.map (ai o)),.v (.int .i64 x.lg),.sl o 3 (x.dS.map (bM o)),.v (.bool x.bG.fOn),.v (.int .i64 x.bG.ij),.v (.int .i64 x.bG.fBy),.str x.bG.ae,.sl o 3 (x.bG.dZ.map (ai o))]
def jw(x:lA)(left:Int):Int:=thn (aJ ck x.aP left) (λa0=>thn (aJ bF x.bf a0) (λa1=>thn (aJ bF x.cw a1) (λa2=>thn (aJ eY x.dS a2) (λa3=>thn (kQ x.bG a3) (id)))))
def qK(x:lA)(r:Int)(h:0<=r):jw x r<=r:=cj (λa0 g0=>cj (λa1 g1=>cj (λa2 g2=>cj (λa3 g3=>cj (λ_ _=>Int.le_refl _) (rC x.bG a3 g3) g3) (bh eY lO x.dS a2 g2) g2) (bh bF cy x.cw a1 g1) g1) (bh bF cy x.bf a0 g0) g0) (bh ck gQ x.aP r h) h
structure cu where
 ae:Str
 aq:Str
instance:Inhabited cu:=⟨⟨[],[]⟩⟩
@[go_sem] def bS(o:Bool)(x:cu):AV:=.agg [.str x.ae,.str x.aq]
def Lc(x:cu):(bS true x).frz=bS false x:=by simp only[bS,AV.frz,AV.cl,cond_true]
def tN(l:List cu):AV.cl (l.map (bS true))=l.map (bS false):=jF _ _ Lc l
def iK(x:cu)(left:Int):Int:=thn (aC x.ae left) (λa0=>thn (aC x.aq a0) (id))
def nY(x:cu)(r:Int)(h:0<=r):iK x r<=r:=cj (λa0 g0=>cj (λ_ _=>Int.le_refl _) (aQ x.aq a0 g0) g0) (aQ x.ae r h) h
structure bH where
 ae:Str
 fType:dq
instance:Inhabited bH:=⟨⟨[],default⟩⟩
@[go_sem] def bt(o:Bool)(x:bH):AV:=.agg [.str x.ae,.v (.int .i64 x.fType.aj),.sl o 2 (x.fType.ay.map (aU o)),.sl o 1 (x.fType.aB.map AV.str),.str x.fType.aY,.str x.fType.aF]
def Hj(x:bH):(bt true x).frz=bt false x:=by simp only[bt,AV.frz,AV.cl,cond_true,wE,bD]
def wF(l:List bH):AV.cl (l.map (bt true))=l.map (bt false):=jF _ _ Hj l
def gC(x:bH)(left:Int):Int:=thn (aC x.ae left) (λa0=>thn (ed x.fType a0) (id))
def lZ(x:bH)(r:Int)(h:0<=r):gC x r<=r:=cj (λa0 g0=>cj (λ_ _=>Int.le_refl _) (mI x.fType a0 g0) g0) (aQ x.ae r h) h
structure aD where
 ae:Str
 aG:List bH
 dh:List ah
instance:Inhabited aD:=⟨⟨[],[],[]⟩⟩
@[go_sem] def aR(o:Bool)(x:aD):AV:=.agg [.str x.ae,.sl o 6 (x.aG.map (bt o)),.sl o 3 (x.dh.map (ai o))]
def BR(x:aD):(aR true x).frz=aR false x:=by simp only[aR,AV.frz,AV.cl,cond_true,wF,bk]
def Al(l:List aD):AV.cl (l.map (aR true))=l.map (aR false):=jF _ _ BR l
def dH(x:aD)(left:Int):Int:=thn (aC x.ae left) (λa0=>thn (aJ gC x.aG a0) (λa1=>thn (aJ bF x.dh a1) (id)))
def iV(x:aD)(r:Int)(h:0<=r):dH x r<=r:=cj (λa0 g0=>cj (λa1 g1=>cj (λ_ _=>Int.le_refl _) (bh bF cy x.dh a1 g1) g1) (bh gC lZ x.aG a0 g0) g0) (aQ x.ae r h) h
structure bp where
 ae:Str
 bz:Str
 fArgs:List cu
 bV:List Str
instance:Inhabited bp:=⟨⟨[],[],[],[]⟩⟩
@[go_sem] def aX(o:Bool)(x:bp):AV:=.agg [.str x.ae,.str x.bz,.sl o 2 (x.fArgs.map (bS o)),.sl o 1 (x.bV.map AV.str)]
def Dd(x:bp):(aX true x).frz=aX false x:=by simp only[aX,AV.frz,AV.cl,cond_true,tN,bD]
def BS(l:List bp):AV.cl (l.map (aX true))=l.map (aX false):=jF _ _ Dd l
def fk(x:bp)(left:Int):Int:=thn (aC x.ae left) (λa0=>thn (aC x.bz a0) (λa1=>thn (aJ iK x.fArgs a1) (λa2=>thn (aJ aC x.bV a2) (id))))
def j8(x:bp)(r:Int)(h:0<=r):fk x r<=r:=cj (λa0 g0=>cj (λa1 g1=>cj (λa2 g2=>cj (λ_ _=>Int.le_refl _) (bh aC aQ x.bV a2 g2) g2) (bh iK nY x.fArgs a1 g1) g1) (aQ x.bz a0 g0) g0) (aQ x.ae r h) h
structure iC where
 aL:List aD
 ba:List bp
instance:Inhabited iC:=⟨⟨[],[]⟩⟩
@[go_sem] def yF(o:Bool)(x:iC):AV:=.agg [.sl o 3 (x.aL.map (aR o)),.sl o 4 (x.ba.map (aX o))]
def kP(x:iC)(left:Int):Int:=thn (aJ dH x.aL left) (λa0=>thn (aJ fk x.ba a0) (id))
def Dz(x:iC)(r:Int)(h:0<=r):kP x r<=r:=cj (λa0 g0=>cj (λ_ _=>Int.le_refl _) (bh fk j8 x.ba a0 g0) g0) (bh dH iV x.aL r h) h
structure dx where
 ae:Str
 av:lA
 dF:List ah
 fUp:Bool
 vO:Int
 vP:Bool
instance:Inhabited dx:=⟨⟨[],default,[],false,0,false⟩⟩
@[go_sem] def cn(o:Bool)(x:dx):AV:=.agg [.str x.ae,.sl o 19 (x.av.aP.map (ak o)),.sl o 3 (x.av.bf.map (ai o)),.sl o 3 (x.av.cw.map (ai o)),.v (.int .i64 x.av.lg),.sl o 3 (x.av.dS.map (bM o)),.v (.bool x.av.bG.fOn),.v (.int .i64 x.av.bG.ij),.v (.int .i64 x.av.bG.fBy),.str x.av.bG.ae,.sl o 3 (x.av.bG.dZ.map (ai o)),.sl o 3 (x.dF.map (ai o)),.v (.bool x.fUp),.v (.int .i64 x.vO),.v (.bool x.vP)]
def EC(x:dx):(cn true x).frz=cn false x:=by simp only[cn,AV.frz,AV.cl,cond_true,aS,bk,sY]
def Df(l:List dx):AV.cl (l.map (cn true))=l.map (cn false):=jF _ _ EC l
def da(x:dx)(left:Int):Int:=thn (aC x.ae left) (λa0=>thn (jw x.av a0) (λa1=>thn (aJ bF x.dF a1) (id)))
def lE(x:dx)(r:Int)(h:0<=r):da x r<=r:=cj (λa0 g0=>cj (λa1 g1=>cj (λ_ _=>Int.le_refl _) (bh bF cy x.dF a1 g1) g1) (qK x.av a0 g0) g0) (aQ x.ae r h) h
structure iw where
 uF:Str
 fc:List ah
 ik:Int
instance:Inhabited iw:=⟨⟨[],[],0⟩⟩
@[go_sem] def cz(o:Bool)(x:iw):AV:=.agg [.str x.uF,.sl o 3 (x.fc.map (ai o)),.v (.int .i64 x.ik)]
def Ij(x:iw):(cz true x).frz=cz false x:=by simp only[cz,AV.frz,AV.cl,cond_true,bk]
def He(l:List iw):AV.cl (l.map (cz true))=l.map (cz false):=jF _ _ Ij l
def UK(x:iw)(left:Int):Int:=thn (aC x.uF left) (λa0=>thn (aJ bF x.fc a0) (id))
structure ib where
 ik:Int
 eu:List iw
instance:Inhabited ib:=⟨⟨0,[]⟩⟩
@[go_sem] def XM(o:Bool)(x:ib):AV:=.agg [.v (.int .i64 x.ik),.sl o 3 (x.eu.map (cz o))]
def AX(x:ib)(left:Int):Int:=thn (aJ UK x.eu left) (id)
structure ox where
 lK:iC
 n9:List dx
 lh:ib
 sX:ib
 Qk:Int
instance:Inhabited ox:=⟨⟨default,[],default,default,0⟩⟩
@[go_sem] def Y9(o:Bool)(x:ox):AV:=.agg [.sl o 3 (x.lK.aL.map (aR o)),.sl o 4 (x.lK.ba.map (aX o)),.sl o 15 (x.n9.map (cn o)),.v (.int .i64 x.lh.ik),.sl o 3 (x.lh.eu.map (cz o)),.v (.int .i64 x.sX.ik),.sl o 3 (x.sX.eu.map (cz o)),.v (.int .i64 x.Qk)]
def ZM(x:ox)(left:Int):Int:=thn (kP x.lK left) (λa0=>thn (aJ da x.n9 a0) (λa1=>thn (AX x.lh a1) (λa2=>thn (AX x.sX a2) (id))))
def Gj:Nat->Nat
 | 0=>2097152+0
 | _=>2147483648
def MS(n:Nat):1048576<=Gj n/\Gj n<=4611686018427387904:=by unfold Gj;first|(split<;>omega)|omega
def lim(sz:Nat):Nat:=if sz<=1 then 1099511627776 else if sz<1000000000 then 2147483648 else Gj (sz - 1000000000)
def iF(_:Nat):Nat:=140737488355328
