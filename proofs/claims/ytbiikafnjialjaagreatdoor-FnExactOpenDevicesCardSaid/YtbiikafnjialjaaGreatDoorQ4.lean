/- Part of a proof. -/
import Derived.Test.YtbiikafnjialjaaGreatDoorQ2
set_option linter.all false
open List
namespace Go.Dt
open Go.Ab
abbrev Str:=List UInt8
def jV{α:Type}(f g:α->AV)(h:∀x,(f x).frz=g x)(l:List α):AV.cH (l.map f)=l.map g:=by rw[AV.rM,map_map];apply map_congr_left;intro x _;exact h x
def bL(l:List Str):AV.cH (l.map AV.str)=l.map AV.str:=jV _ _ (λ_=>rfl) l
def thn(a:Int)(k:Int->Int):Int:=if a<0 then -1 else k a
def aA(s:Str)(left:Int):Int:=left - s.length
def eH{α:Type}(f:α->Int->Int):List α->Int->Int
 | [],r=>r
 | x::xs,r=>thn (f x r) (eH f xs)
def aM{α:Type}(f:α->Int->Int)(l:List α)(left:Int):Int:=thn (left - l.length) (eH f l)
def cj{a b:Int}{k:Int->Int}(h:∀x,0<=x->k x<=x)(hb:a<=b)(h0:0<=b):thn a k<=b:=by
 unfold thn;split
 ·omega
 ·have:=h a Yt;omega
def aT(s:Str)(r:Int)(_h:0<=r):aA s r<=r:=by unfold aA;omega
def JA{α:Type}(f:α->Int->Int)(hf:∀x r,0<=r->f x r<=r):∀(l:List α) (r:Int),0<=r->eH f l r<=r
 | [],r,_=>Int.le_refl _
 | x::xs,r,h=>cj (λy hy=>JA f hf xs y hy) (hf x r h) h
def ba{α:Type}(f:α->Int->Int)(hf:∀x r,0<=r->f x r<=r)(l:List α)(r:Int)(h:0<=r):aM f l r<=r :=
 cj (λy hy=>JA f hf l y hy) Yt h
structure ed where
 fLo:Int
 fHi:Int
instance:Inhabited ed:=⟨⟨0,0⟩⟩
@[go_sem] def aW(o:Bool)(x:ed):AV:=.agg [.v (.int .i64 x.fLo),.v (.int .i64 x.fHi)]
def Ia(x:ed):(aW true x).frz=aW false x:=by simp only[aW,AV.frz,AV.cH,cond_true]
def w7(l:List ed):AV.cH (l.map (aW true))=l.map (aW false):=jV _ _ Ia l
def gP(x:ed)(left:Int):Int:=left
def o6(x:ed)(r:Int)(h:0<=r):gP x r<=r:=Int.le_refl _
structure dB where
 aj:Int
 az:List ed
 aB:List Str
 aZ:Str
 aG:Str
instance:Inhabited dB:=⟨⟨0,[],[],[],[]⟩⟩
@[go_sem] def y6(o:Bool)(x:dB):AV:=.agg [.v (.int .i64 x.aj),.sl o 2 (x.az.map (aW o)),.sl o 1 (x.aB.map AV.str),.str x.aZ,.str x.aG]
def eC(x:dB)(left:Int):Int:=thn (aM gP x.az left) (λa0=>thn (aM aA x.aB a0) (λa1=>thn (aA x.aZ a1) (λa2=>thn (aA x.aG a2) (id))))
def mR(x:dB)(r:Int)(h:0<=r):eC x r<=r:=cj (λa0 g0=>cj (λa1 g1=>cj (λa2 g2=>cj (λ_ _=>Int.le_refl _) (aT x.aG a2 g2) g2) (aT x.aZ a1 g1) g1) (ba aA aT x.aB a0 g0) g0) (ba gP o6 x.az r h) h
structure fS where
 ae:Str
 aq:Str
instance:Inhabited fS:=⟨⟨[],[]⟩⟩
@[go_sem] def cY(o:Bool)(x:fS):AV:=.agg [.str x.ae,.str x.aq]
def Jg(x:fS):(cY true x).frz=cY false x:=by simp only[cY,AV.frz,AV.cH,cond_true]
def H7(l:List fS):AV.cH (l.map (cY true))=l.map (cY false):=jV _ _ Jg l
def jY(x:fS)(left:Int):Int:=thn (aA x.ae left) (λa0=>thn (aA x.aq a0) (id))
def oK(x:fS)(r:Int)(h:0<=r):jY x r<=r:=cj (λa0 g0=>cj (λ_ _=>Int.le_refl _) (aT x.aq a0 g0) g0) (aT x.ae r h) h
structure GStep where
 ae:Str
 cU:List fS
instance:Inhabited GStep:=⟨⟨[],[]⟩⟩
@[go_sem] def bp(o:Bool)(x:GStep):AV:=.agg [.str x.ae,.sl o 2 (x.cU.map (cY o))]
def Ji(x:GStep):(bp true x).frz=bp false x:=by simp only[bp,AV.frz,AV.cH,cond_true,H7]
def H9(l:List GStep):AV.cH (l.map (bp true))=l.map (bp false):=jV _ _ Ji l
def j0(x:GStep)(left:Int):Int:=thn (aA x.ae left) (λa0=>thn (aM jY x.cU a0) (id))
def oM(x:GStep)(r:Int)(h:0<=r):j0 x r<=r:=cj (λa0 g0=>cj (λ_ _=>Int.le_refl _) (ba jY oK x.cU a0 g0) g0) (aT x.ae r h) h
structure gm where
 dJ:Bool
 dY:Int
 aX:List GStep
instance:Inhabited gm:=⟨⟨false,0,[]⟩⟩
@[go_sem] def DZ(o:Bool)(x:gm):AV:=.agg [.v (.bool x.dJ),.v (.int .i64 x.dY),.sl o 2 (x.aX.map (bp o))]
def ll(x:gm)(left:Int):Int:=thn (aM j0 x.aX left) (id)
def sZ(x:gm)(r:Int)(h:0<=r):ll x r<=r:=cj (λ_ _=>Int.le_refl _) (ba j0 oM x.aX r h) h
inductive bf where
 | mk (fOp:Int) (gZ:Int) (cX:Str) (aG:gm) (af:List bf)
instance:Inhabited bf:=⟨.mk 0 0 [] default []⟩
def bf.fOp:bf->Int|.mk a _ _ _ _=>a
def bf.gZ:bf->Int|.mk _ a _ _ _=>a
def bf.cX:bf->Str|.mk _ _ a _ _=>a
def bf.aG:bf->gm|.mk _ _ _ a _=>a
def bf.af:bf->List bf|.mk _ _ _ _ a=>a
mutual
def aS(o:Bool):bf->AV
 | .mk fOp gZ cX aG af=>.agg [.aa fOp,.aa gZ,.str cX,.ac aG.dJ,.aa aG.dY,.sl o 2 (aG.aX.map (bp o)),.sl o 7 (oF o af)]
def oF(o:Bool):List bf->List AV
 | []=>[]
 | x::xs=>aS o x::oF o xs
end
def um(o:Bool)(l:List bf):oF o l=l.map (aS o):=by
 induction l with
 | nil=>rfl
 | cons x xs ih=>simp[oF,ih]
@[go_sem] def dM(o:Bool)(x:bf):aS o x=.agg [.aa x.fOp,.aa x.gZ,.str x.cX,.ac x.aG.dJ,.aa x.aG.dY,.sl o 2 (x.aG.aX.map (bp o)),.sl o 7 (x.af.map (aS o))]:=by cases x;simp[aS,um,bf.fOp,bf.gZ,bf.cX,bf.aG,bf.af]
mutual
def Jk:∀x:bf,(aS true x).frz=aS false x
 | .mk fOp gZ cX aG af=>by simp only[aS,AV.frz,AV.cH,cond_true,sM af,H9]
def sM:∀l:List bf,AV.cH (oF true l)=oF false l
 | []=>rfl
 | x::xs=>by simp only[oF,AV.cH,Jk x,sM xs]
end
def Ic(l:List bf):AV.cH (l.map (aS true))=l.map (aS false):=by rw[<- um,sM,um]
mutual
def dh:bf->Int->Int
 | .mk fOp gZ cX aG af,left=>thn (aA cX left) (λa0=>thn (ll aG a0) (λa1=>thn ((λb=>thn (b - af.length) (jR af)) a1) (id)))
def jR:List bf->Int->Int
 | [],r=>r
 | x::xs,r=>thn (dh x r) (jR xs)
end
def uf:∀l:List bf,jR l=eH dh l
 | []=>rfl
 | x::xs=>by funext r;simp only[jR,eH,uf xs]
def xk(x:bf)(left:Int):dh x left=thn (aA x.cX left) (λa0=>thn (ll x.aG a0) (λa1=>thn (aM dh x.af a1) (id))):=by cases x;simp only[dh,aM,uf,bf.fOp,bf.gZ,bf.cX,bf.aG,bf.af]
mutual
def gq:∀(x:bf) (r:Int),0<=r->dh x r<=r
 | .mk fOp gZ cX aG af,r,h=>by
  simp only[dh];exact cj (λa0 g0=>cj (λa1 g1=>cj (λ_ _=>Int.le_refl _) (cj (λy hy=>ue af y hy) Yt g1) g1) (sZ aG a0 g0) g0) (aT cX r h) h
def ue:∀(l:List bf) (r:Int),0<=r->jR l r<=r
 | [],r,_=>Int.le_refl _
 | x::xs,r,h=>by
  simp only[jR];exact cj (λy hy=>ue xs y hy) (gq x r h) h
end
inductive ag where
 | mk (aj:Int) (ae:Str) (fType:dB) (ax:List Str) (aJ:List Str) (bI:Str) (db:Bool) (dz:Bool) (bZ:Bool) (eJ:Bool) (iO:Int) (iP:Int) (bY:List bf) (cS:List bf) (af:List ag)
instance:Inhabited ag:=⟨.mk 0 [] default [] [] [] false false false false 0 0 [] [] []⟩
def ag.aj:ag->Int|.mk a _ _ _ _ _ _ _ _ _ _ _ _ _ _=>a
def ag.ae:ag->Str|.mk _ a _ _ _ _ _ _ _ _ _ _ _ _ _=>a
def ag.fType:ag->dB|.mk _ _ a _ _ _ _ _ _ _ _ _ _ _ _=>a
def ag.ax:ag->List Str|.mk _ _ _ a _ _ _ _ _ _ _ _ _ _ _=>a
def ag.aJ:ag->List Str|.mk _ _ _ _ a _ _ _ _ _ _ _ _ _ _=>a
def ag.bI:ag->Str|.mk _ _ _ _ _ a _ _ _ _ _ _ _ _ _=>a
def ag.db:ag->Bool|.mk _ _ _ _ _ _ a _ _ _ _ _ _ _ _=>a
def ag.dz:ag->Bool|.mk _ _ _ _ _ _ _ a _ _ _ _ _ _ _=>a
def ag.bZ:ag->Bool|.mk _ _ _ _ _ _ _ _ a _ _ _ _ _ _=>a
def ag.eJ:ag->Bool|.mk _ _ _ _ _ _ _ _ _ a _ _ _ _ _=>a
def ag.iO:ag->Int|.mk _ _ _ _ _ _ _ _ _ _ a _ _ _ _=>a
def ag.iP:ag->Int|.mk _ _ _ _ _ _ _ _ _ _ _ a _ _ _=>a
def ag.bY:ag->List bf|.mk _ _ _ _ _ _ _ _ _ _ _ _ a _ _=>a
def ag.cS:ag->List bf|.mk _ _ _ _ _ _ _ _ _ _ _ _ _ a _=>a
def ag.af:ag->List ag|.mk _ _ _ _ _ _ _ _ _ _ _ _ _ _ a=>a
mutual
def ak(o:Bool):ag->AV
 | .mk aj ae fType ax aJ bI db dz bZ eJ iO iP bY cS af=>.agg [.aa aj,.str ae,.aa fType.aj,.sl o 2 (fType.az.map (aW o)),.sl o 1 (fType.aB.map AV.str),.str fType.aZ,.str fType.aG,.sl o 1 (ax.map AV.str),.sl o 1 (aJ.map AV.str),.str bI,.ac db,.ac dz,.ac bZ,.ac eJ,.aa iO,.aa iP,.sl o 7 (bY.map (aS o)),.sl o 7 (cS.map (aS o)),.sl o 19 (mr o af)]
def mr(o:Bool):List ag->List AV
 | []=>[]
 | x::xs=>ak o x::mr o xs
end
def q8(o:Bool)(l:List ag):mr o l=l.map (ak o):=by
 induction l with
 | nil=>rfl
 | cons x xs ih=>simp[mr,ih]
@[go_sem] def dK(o:Bool)(x:ag):ak o x=.agg [.aa x.aj,.str x.ae,.aa x.fType.aj,.sl o 2 (x.fType.az.map (aW o)),.sl o 1 (x.fType.aB.map AV.str),.str x.fType.aZ,.str x.fType.aG,.sl o 1 (x.ax.map AV.str),.sl o 1 (x.aJ.map AV.str),.str x.bI,.ac x.db,.ac x.dz,.ac x.bZ,.ac x.eJ,.aa x.iO,.aa x.iP,.sl o 7 (x.bY.map (aS o)),.sl o 7 (x.cS.map (aS o)),.sl o 19 (x.af.map (ak o))]:=by cases x;simp[ak,q8,ag.aj,ag.ae,ag.fType,ag.ax,ag.aJ,ag.bI,ag.db,ag.dz,ag.bZ,ag.eJ,ag.iO,ag.iP,ag.bY,ag.cS,ag.af]
mutual
def Fs:∀x:ag,(ak true x).frz=ak false x
 | .mk aj ae fType ax aJ bI db dz bZ eJ iO iP bY cS af=>by simp only[ak,AV.frz,AV.cH,cond_true,p6 af,w7,bL,Ic]
def p6:∀l:List ag,AV.cH (mr true l)=mr false l
 | []=>rfl
 | x::xs=>by simp only[mr,AV.cH,Fs x,p6 xs]
end
def aV(l:List ag):AV.cH (l.map (ak true))=l.map (ak false):=by rw[<- q8,p6,q8]
mutual
def bG:ag->Int->Int
 | .mk aj ae fType ax aJ bI db dz bZ eJ iO iP bY cS af,left=>thn (aA ae left) (λa0=>thn (eC fType a0) (λa1=>thn (aM aA ax a1) (λa2=>thn (aM aA aJ a2) (λa3=>thn (aA bI a3) (λa4=>thn (aM dh bY a4) (λa5=>thn (aM dh cS a5) (λa6=>thn ((λb=>thn (b - af.length) (ju af)) a6) (id))))))))
def ju:List ag->Int->Int
 | [],r=>r
 | x::xs,r=>thn (bG x r) (ju xs)
end
def qI:∀l:List ag,ju l=eH bG l
 | []=>rfl
 | x::xs=>by funext r;simp only[ju,eH,qI xs]
def uc(x:ag)(left:Int):bG x left=thn (aA x.ae left) (λa0=>thn (eC x.fType a0) (λa1=>thn (aM aA x.ax a1) (λa2=>thn (aM aA x.aJ a2) (λa3=>thn (aA x.bI a3) (λa4=>thn (aM dh x.bY a4) (λa5=>thn (aM dh x.cS a5) (λa6=>thn (aM bG x.af a6) (id)))))))):=by cases x;simp only[bG,aM,qI,ag.aj,ag.ae,ag.fType,ag.ax,ag.aJ,ag.bI,ag.db,ag.dz,ag.bZ,ag.eJ,ag.iO,ag.iP,ag.bY,ag.cS,ag.af]
mutual
def fe:∀(x:ag) (r:Int),0<=r->bG x r<=r
 | .mk aj ae fType ax aJ bI db dz bZ eJ iO iP bY cS af,r,h=>by
  simp only[bG];exact cj (λa0 g0=>cj (λa1 g1=>cj (λa2 g2=>cj (λa3 g3=>cj (λa4 g4=>cj (λa5 g5=>cj (λa6 g6=>cj (λ_ _=>Int.le_refl _) (cj (λy hy=>wV af y hy) Yt g6) g6) (ba dh gq cS a5 g5) g5) (ba dh gq bY a4 g4) g4) (aT bI a3 g3) g3) (ba aA aT aJ a2 g2) g2) (ba aA aT ax a1 g1) g1) (mR fType a0 g0) g0) (aT ae r h) h
def wV:∀(l:List ag) (r:Int),0<=r->ju l r<=r
 | [],r,_=>Int.le_refl _
 | x::xs,r,h=>by
  simp only[ju];exact cj (λy hy=>wV xs y hy) (fe x r h) h
end
inductive ah where
 | mk (ae:Str) (aq:Str) (af:List ah)
instance:Inhabited ah:=⟨.mk [] [] []⟩
def ah.ae:ah->Str|.mk a _ _=>a
def ah.aq:ah->Str|.mk _ a _=>a
def ah.af:ah->List ah|.mk _ _ a=>a
mutual
def ai(o:Bool):ah->AV
 | .mk ae aq af=>.agg [.str ae,.str aq,.sl o 3 (oD o af)]
def oD(o:Bool):List ah->List AV
 | []=>[]
 | x::xs=>ai o x::oD o xs
end
def uk(o:Bool)(l:List ah):oD o l=l.map (ai o):=by
 induction l with
 | nil=>rfl
 | cons x xs ih=>simp[oD,ih]
@[go_sem] def bW(o:Bool)(x:ah):ai o x=.agg [.str x.ae,.str x.aq,.sl o 3 (x.af.map (ai o))]:=by cases x;simp[ai,uk,ah.ae,ah.aq,ah.af]
mutual
def Jj:∀x:ah,(ai true x).frz=ai false x
 | .mk ae aq af=>by simp only[ai,AV.frz,AV.cH,cond_true,sL af]
def sL:∀l:List ah,AV.cH (oD true l)=oD false l
 | []=>rfl
 | x::xs=>by simp only[oD,AV.cH,Jj x,sL xs]
end
def bu(l:List ah):AV.cH (l.map (ai true))=l.map (ai false):=by rw[<- uk,sL,uk]
mutual
def bA:ah->Int->Int
 | .mk ae aq af,left=>thn (aA ae left) (λa0=>thn (aA aq a0) (λa1=>thn ((λb=>thn (b - af.length) (lP af)) a1) (id)))
def lP:List ah->Int->Int
 | [],r=>r
 | x::xs,r=>thn (bA x r) (lP xs)
end
def ud:∀l:List ah,lP l=eH bA l
 | []=>rfl
 | x::xs=>by funext r;simp only[lP,eH,ud xs]
def xh(x:ah)(left:Int):bA x left=thn (aA x.ae left) (λa0=>thn (aA x.aq a0) (λa1=>thn (aM bA x.af a1) (id))):=by cases x;simp only[bA,aM,ud,ah.ae,ah.aq,ah.af]
mutual
def cf:∀(x:ah) (r:Int),0<=r->bA x r<=r
 | .mk ae aq af,r,h=>by
  simp only[bA];exact cj (λa0 g0=>cj (λa1 g1=>cj (λ_ _=>Int.le_refl _) (cj (λy hy=>zC af y hy) Yt g1) g1) (aT aq a0 g0) g0) (aT ae r h) h
def zC:∀(l:List ah) (r:Int),0<=r->lP l r<=r
 | [],r,_=>Int.le_refl _
 | x::xs,r,h=>by
  simp only[lP];exact cj (λy hy=>zC xs y hy) (cf x r h) h
end
inductive aL where
 | mk (fOp:Int) (ae:Str) (aq:Str) (af:List aL)
instance:Inhabited aL:=⟨.mk 0 [] [] []⟩
def aL.fOp:aL->Int|.mk a _ _ _=>a
def aL.ae:aL->Str|.mk _ a _ _=>a
def aL.aq:aL->Str|.mk _ _ a _=>a
def aL.af:aL->List aL|.mk _ _ _ a=>a
mutual
def dN(o:Bool):aL->AV
 | .mk fOp ae aq af=>.agg [.aa fOp,.str ae,.str aq,.sl o 4 (oG o af)]
def oG(o:Bool):List aL->List AV
 | []=>[]
 | x::xs=>dN o x::oG o xs
end
def uo(o:Bool)(l:List aL):oG o l=l.map (dN o):=by
 induction l with
 | nil=>rfl
 | cons x xs ih=>simp[oG,ih]
@[go_sem] def rD(o:Bool)(x:aL):dN o x=.agg [.aa x.fOp,.str x.ae,.str x.aq,.sl o 4 (x.af.map (dN o))]:=by cases x;simp[dN,uo,aL.fOp,aL.ae,aL.aq,aL.af]
mutual
def Jl:∀x:aL,(dN true x).frz=dN false x
 | .mk fOp ae aq af=>by simp only[dN,AV.frz,AV.cH,cond_true,sN af]
def sN:∀l:List aL,AV.cH (oG true l)=oG false l
 | []=>rfl
 | x::xs=>by simp only[oG,AV.cH,Jl x,sN xs]
end
def Ie(l:List aL):AV.cH (l.map (dN true))=l.map (dN false):=by rw[<- uo,sN,uo]
@[go_sem] abbrev cSc(x:ag):List AV:=[.v (.int .i64 x.aj),.str x.ae,.v (.int .i64 x.fType.aj),.sl false 2 (x.fType.az.map (aW false)),.sl false 1 (x.fType.aB.map AV.str),.str x.fType.aZ,.str x.fType.aG,.sl false 1 (x.ax.map AV.str),.sl false 1 (x.aJ.map AV.str),.str x.bI,.v (.bool x.db),.v (.bool x.dz),.v (.bool x.bZ),.v (.bool x.eJ),.v (.int .i64 x.iO),.v (.int .i64 x.iP),.sl false 7 (x.bY.map (aS false)),.sl false 7 (x.cS.map (aS false)),.sl false 19 (x.af.map (ak false))]
@[go_sem] abbrev cEd(x:aL):List AV:=[.v (.int .i64 x.fOp),.str x.ae,.str x.aq,.sl false 4 (x.af.map (dN false))]
@[go_sem] abbrev cNo(x:ah):List AV:=[.str x.ae,.str x.aq,.sl false 3 (x.af.map (ai false))]
@[go_sem] abbrev cZe:List AV:=[.v (.int .i64 0),.str [],.v (.int .i64 0),.v (.slice none 0 0),.v (.slice none 0 0),.str [],.str [],.v (.slice none 0 0),.v (.slice none 0 0),.str [],.v (.bool false),.v (.bool false),.v (.bool false),.v (.bool false),.v (.int .i64 0),.v (.int .i64 0),.v (.slice none 0 0),.v (.slice none 0 0),.v (.slice none 0 0)]
mutual
def BH:aL->Int->Int
 | .mk fOp ae aq af,left=>thn (aA ae left) (λa0=>thn (aA aq a0) (λa1=>thn ((λb=>thn (b - af.length) (vF af)) a1) (id)))
def vF:List aL->Int->Int
 | [],r=>r
 | x::xs,r=>thn (BH x r) (vF xs)
end
mutual
def MF:∀(x:aL) (r:Int),0<=r->BH x r<=r
 | .mk fOp ae aq af,r,h=>by
  simp only[BH];exact cj (λa0 g0=>cj (λa1 g1=>cj (λ_ _=>Int.le_refl _) (cj (λy hy=>zD af y hy) Yt g1) g1) (aT aq a0 g0) g0) (aT ae r h) h
def zD:∀(l:List aL) (r:Int),0<=r->vF l r<=r
 | [],r,_=>Int.le_refl _
 | x::xs,r,h=>by
  simp only[vF];exact cj (λy hy=>zD xs y hy) (MF x r h) h
end
def ac6(o:Bool)(l:List aL):AV:=.sl o 4 (l.map (dN o))
def adt(l:List aL)(r:Int):Int:=aM BH l r
structure fQ where
 eS:List ah
 fBy:Int
 fAt:Int
instance:Inhabited fQ:=⟨⟨[],0,0⟩⟩
@[go_sem] def bF(o:Bool)(x:fQ):AV:=.agg [.sl o 3 (x.eS.map (ai o)),.v (.int .i64 x.fBy),.v (.int .i64 x.fAt)]
def DX(x:fQ):(bF true x).frz=bF false x:=by simp only[bF,AV.frz,AV.cH,cond_true,bu]
def pJ(l:List fQ):AV.cH (l.map (bF true))=l.map (bF false):=jV _ _ DX l
def fu(x:fQ)(left:Int):Int:=thn (aM bA x.eS left) (id)
def lY(x:fQ)(r:Int)(h:0<=r):fu x r<=r:=cj (λ_ _=>Int.le_refl _) (ba bA cf x.eS r h) h
structure iZ where
 fOn:Bool
 gz:Int
 fBy:Int
 ae:Str
 dS:List ah
instance:Inhabited iZ:=⟨⟨false,0,0,[],[]⟩⟩
@[go_sem] def wC(o:Bool)(x:iZ):AV:=.agg [.v (.bool x.fOn),.v (.int .i64 x.gz),.v (.int .i64 x.fBy),.str x.ae,.sl o 3 (x.dS.map (ai o))]
def lj(x:iZ)(left:Int):Int:=thn (aA x.ae left) (λa0=>thn (aM bA x.dS a0) (id))
def si(x:iZ)(r:Int)(h:0<=r):lj x r<=r:=cj (λa0 g0=>cj (λ_ _=>Int.le_refl _) (ba bA cf x.dS a0 g0) g0) (aT x.ae r h) h
structure lM where
 bg:List ag
 bk:List ah
 cD:List ah
 iV:Int
 dL:List fQ
 bh:iZ
instance:Inhabited lM:=⟨⟨[],[],[],0,[],default⟩⟩
@[go_sem] def Bf(o:Bool)(x:lM):AV:=.agg [.sl o 19 (x.bg.map (ak o)),.sl o 3 (x.bk.map (ai o)),.sl o 3 (x.cD.map (ai o)),.v (.int .i64 x.iV),.sl o 3 (x.dL.map (bF o)),.v (.bool x.bh.fOn),.v (.int .i64 x.bh.gz),.v (.int .i64 x.bh.fBy),.str x.bh.ae,.sl o 3 (x.bh.dS.map (ai o))]
def jL(x:lM)(left:Int):Int:=thn (aM bG x.bg left) (λa0=>thn (aM bA x.bk a0) (λa1=>thn (aM bA x.cD a1) (λa2=>thn (aM fu x.dL a2) (λa3=>thn (lj x.bh a3) (id)))))
def ru(x:lM)(r:Int)(h:0<=r):jL x r<=r:=cj (λa0 g0=>cj (λa1 g1=>cj (λa2 g2=>cj (λa3 g3=>cj (λ_ _=>Int.le_refl _) (si x.bh a3 g3) g3) (ba fu lY x.dL a2 g2) g2) (ba bA cf x.cD a1 g1) g1) (ba bA cf x.bk a0 g0) g0) (ba bG fe x.bg r h) h
structure cM where
 ae:Str
 aq:Str
instance:Inhabited cM:=⟨⟨[],[]⟩⟩
@[go_sem] def cn(o:Bool)(x:cM):AV:=.agg [.str x.ae,.str x.aq]
def Mc(x:cM):(cn true x).frz=cn false x:=by simp only[cn,AV.frz,AV.cH,cond_true]
def nZ(l:List cM):AV.cH (l.map (cn true))=l.map (cn false):=jV _ _ Mc l
def iQ(x:cM)(left:Int):Int:=thn (aA x.ae left) (λa0=>thn (aA x.aq a0) (id))
def oy(x:cM)(r:Int)(h:0<=r):iQ x r<=r:=cj (λa0 g0=>cj (λ_ _=>Int.le_refl _) (aT x.aq a0 g0) g0) (aT x.ae r h) h
structure bR where
 ae:Str
 fType:dB
instance:Inhabited bR:=⟨⟨[],default⟩⟩
@[go_sem] def bB(o:Bool)(x:bR):AV:=.agg [.str x.ae,.v (.int .i64 x.fType.aj),.sl o 2 (x.fType.az.map (aW o)),.sl o 1 (x.fType.aB.map AV.str),.str x.fType.aZ,.str x.fType.aG]
def Ib(x:bR):(bB true x).frz=bB false x:=by simp only[bB,AV.frz,AV.cH,cond_true,w7,bL]
def w8(l:List bR):AV.cH (l.map (bB true))=l.map (bB false):=jV _ _ Ib l
def gQ(x:bR)(left:Int):Int:=thn (aA x.ae left) (λa0=>thn (eC x.fType a0) (id))
def mi(x:bR)(r:Int)(h:0<=r):gQ x r<=r:=cj (λa0 g0=>cj (λ_ _=>Int.le_refl _) (mR x.fType a0 g0) g0) (aT x.ae r h) h
structure aE where
 ae:Str
 aI:List bR
 dq:List ah
instance:Inhabited aE:=⟨⟨[],[],[]⟩⟩
@[go_sem] def aK(o:Bool)(x:aE):AV:=.agg [.str x.ae,.sl o 6 (x.aI.map (bB o)),.sl o 3 (x.dq.map (ai o))]
def CF(x:aE):(aK true x).frz=aK false x:=by simp only[aK,AV.frz,AV.cH,cond_true,w8,bu]
def oC(l:List aE):AV.cH (l.map (aK true))=l.map (aK false):=jV _ _ CF l
def dU(x:aE)(left:Int):Int:=thn (aA x.ae left) (λa0=>thn (aM gQ x.aI a0) (λa1=>thn (aM bA x.dq a1) (id)))
def jb(x:aE)(r:Int)(h:0<=r):dU x r<=r:=cj (λa0 g0=>cj (λa1 g1=>cj (λ_ _=>Int.le_refl _) (ba bA cf x.dq a1 g1) g1) (ba gQ mi x.aI a0 g0) g0) (aT x.ae r h) h
structure bt where
 ae:Str
 bJ:Str
 fArgs:List cM
 cq:List Str
instance:Inhabited bt:=⟨⟨[],[],[],[]⟩⟩
@[go_sem] def aP(o:Bool)(x:bt):AV:=.agg [.str x.ae,.str x.bJ,.sl o 2 (x.fArgs.map (cn o)),.sl o 1 (x.cq.map AV.str)]
def DY(x:bt):(aP true x).frz=aP false x:=by simp only[aP,AV.frz,AV.cH,cond_true,nZ,bL]
def pK(l:List bt):AV.cH (l.map (aP true))=l.map (aP false):=jV _ _ DY l
def fE(x:bt)(left:Int):Int:=thn (aA x.ae left) (λa0=>thn (aA x.bJ a0) (λa1=>thn (aM iQ x.fArgs a1) (λa2=>thn (aM aA x.cq a2) (id))))
def kI(x:bt)(r:Int)(h:0<=r):fE x r<=r:=cj (λa0 g0=>cj (λa1 g1=>cj (λa2 g2=>cj (λ_ _=>Int.le_refl _) (ba aA aT x.cq a2 g2) g2) (ba iQ oy x.fArgs a1 g1) g1) (aT x.bJ a0 g0) g0) (aT x.ae r h) h
structure gN where
 aC:List aE
 aO:List bt
instance:Inhabited gN:=⟨⟨[],[]⟩⟩
@[go_sem] def p7(o:Bool)(x:gN):AV:=.agg [.sl o 3 (x.aC.map (aK o)),.sl o 4 (x.aO.map (aP o))]
def cw(x:gN)(left:Int):Int:=thn (aM dU x.aC left) (λa0=>thn (aM fE x.aO a0) (id))
def jD(x:gN)(r:Int)(h:0<=r):cw x r<=r:=cj (λa0 g0=>cj (λ_ _=>Int.le_refl _) (ba fE kI x.aO a0 g0) g0) (ba dU jb x.aC r h) h
structure dI where
 ae:Str
 av:lM
 fJ:List ah
 fUp:Bool
 om:Int
 oq:Bool
instance:Inhabited dI:=⟨⟨[],default,[],false,0,false⟩⟩
@[go_sem] def cm(o:Bool)(x:dI):AV:=.agg [.str x.ae,.sl o 19 (x.av.bg.map (ak o)),.sl o 3 (x.av.bk.map (ai o)),.sl o 3 (x.av.cD.map (ai o)),.v (.int .i64 x.av.iV),.sl o 3 (x.av.dL.map (bF o)),.v (.bool x.av.bh.fOn),.v (.int .i64 x.av.bh.gz),.v (.int .i64 x.av.bh.fBy),.str x.av.bh.ae,.sl o 3 (x.av.bh.dS.map (ai o)),.sl o 3 (x.fJ.map (ai o)),.v (.bool x.fUp),.v (.int .i64 x.om),.v (.bool x.oq)]
def Ft(x:dI):(cm true x).frz=cm false x:=by simp only[cm,AV.frz,AV.cH,cond_true,aV,bu,pJ]
def D0(l:List dI):AV.cH (l.map (cm true))=l.map (cm false):=jV _ _ Ft l
def dE(x:dI)(left:Int):Int:=thn (aA x.ae left) (λa0=>thn (jL x.av a0) (λa1=>thn (aM bA x.fJ a1) (id)))
def jv(x:dI)(r:Int)(h:0<=r):dE x r<=r:=cj (λa0 g0=>cj (λa1 g1=>cj (λ_ _=>Int.le_refl _) (ba bA cf x.fJ a1 g1) g1) (ru x.av a0 g0) g0) (aT x.ae r h) h
structure jA where
 jt:Str
 eS:List ah
 dx:Int
instance:Inhabited jA:=⟨⟨[],[],0⟩⟩
@[go_sem] def bO(o:Bool)(x:jA):AV:=.agg [.str x.jt,.sl o 3 (x.eS.map (ai o)),.v (.int .i64 x.dx)]
def Jh(x:jA):(bO true x).frz=bO false x:=by simp only[bO,AV.frz,AV.cH,cond_true,bu]
def H8(l:List jA):AV.cH (l.map (bO true))=l.map (bO false):=jV _ _ Jh l
def jZ(x:jA)(left:Int):Int:=thn (aA x.jt left) (λa0=>thn (aM bA x.eS a0) (id))
def oL(x:jA)(r:Int)(h:0<=r):jZ x r<=r:=cj (λa0 g0=>cj (λ_ _=>Int.le_refl _) (ba bA cf x.eS a0 g0) g0) (aT x.jt r h) h
structure gB where
 dx:Int
 ck:List jA
instance:Inhabited gB:=⟨⟨0,[]⟩⟩
@[go_sem] def uq(o:Bool)(x:gB):AV:=.agg [.v (.int .i64 x.dx),.sl o 3 (x.ck.map (bO o))]
def gV(x:gB)(left:Int):Int:=thn (aM jZ x.ck left) (id)
def kZ(x:gB)(r:Int)(h:0<=r):gV x r<=r:=cj (λ_ _=>Int.le_refl _) (ba jZ oL x.ck r h) h
structure fB where
 aY:gN
 bz:List dI
 bQ:gB
 eU:gB
 pI:Int
instance:Inhabited fB:=⟨⟨default,[],default,default,0⟩⟩
@[go_sem] def rC(o:Bool)(x:fB):AV:=.agg [.sl o 3 (x.aY.aC.map (aK o)),.sl o 4 (x.aY.aO.map (aP o)),.sl o 15 (x.bz.map (cm o)),.v (.int .i64 x.bQ.dx),.sl o 3 (x.bQ.ck.map (bO o)),.v (.int .i64 x.eU.dx),.sl o 3 (x.eU.ck.map (bO o)),.v (.int .i64 x.pI)]
def iL(x:fB)(left:Int):Int:=thn (cw x.aY left) (λa0=>thn (aM dE x.bz a0) (λa1=>thn (gV x.bQ a1) (λa2=>thn (gV x.eU a2) (id))))
def xj(x:fB)(r:Int)(h:0<=r):iL x r<=r:=cj (λa0 g0=>cj (λa1 g1=>cj (λa2 g2=>cj (λ_ _=>Int.le_refl _) (kZ x.eU a2 g2) g2) (kZ x.bQ a1 g1) g1) (ba dE jv x.bz a0 g0) g0) (jD x.aY r h) h
def AE:Nat->Nat
 | 0=>2097152+0
 | _=>2147483648
def NQ(n:Nat):1048576<=AE n/\AE n<=4611686018427387904:=by unfold AE;first|(split<;>omega)|omega
def lim(sz:Nat):Nat:=if sz<=1 then 1099511627776 else if sz<1000000000 then 2147483648 else AE (sz - 1000000000)
def fN(_:Nat):Nat:=140737488355328
