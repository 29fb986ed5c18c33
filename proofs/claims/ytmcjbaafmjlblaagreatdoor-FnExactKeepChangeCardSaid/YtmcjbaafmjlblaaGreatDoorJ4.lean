/- A part. -/
import Derived.Test.YtmcjbaafmjlblaaGreatDoorJ1
set_option linter.all false
namespace Go.Dt
open Go.Ab
abbrev Str:=List UInt8
theorem ll{α:Type}(f g:α->AV)(h:∀ x,(f x).frz=g x)(l:List α):AV.bZ (l.map f)=l.map g:=by
 rw [AV.pO,List.map_map];apply List.map_congr_left;intro x _;exact h x
theorem ba(l:List Str):AV.bZ (l.map AV.str)=l.map AV.str:=ll _ _ (fun _=>rfl) l
def thn(a:Int)(k:Int->Int):Int:=if a<0 then -1 else k a
def aC(s:Str)(left:Int):Int:=left - s.length
def eD{α:Type}(f:α->Int->Int):List α->Int->Int
 | [],r=>r
 | x::xs,r=>thn (f x r) (eD f xs)
def aG{α:Type}(f:α->Int->Int)(l:List α)(left:Int):Int:=thn (left - l.length) (eD f l)
theorem cS{a b:Int}{k:Int->Int}(h:∀ x,0<=x->k x<=x)(hb:a<=b)(h0:0<=b):thn a k<=b:=by
 unfold thn;split
 ·omega
 ·have:=h a (by omega);omega
theorem aY(s:Str)(r:Int)(_h:0<=r):aC s r<=r:=by unfold aC;omega
theorem Ge{α:Type}(f:α->Int->Int)(hf:∀ x r,0<=r->f x r<=r):∀ (l:List α) (r:Int),0<=r->eD f l r<=r
 | [],r,_=>Int.le_refl _
 | x::xs,r,h=>cS (fun y hy=>Ge f hf xs y hy) (hf x r h) h
theorem aZ{α:Type}(f:α->Int->Int)(hf:∀ x r,0<=r->f x r<=r)(l:List α)(r:Int)(h:0<=r):aG f l r<=r :=
 cS (fun y hy=>Ge f hf l y hy) (by omega) h
structure du where
 fLo:Int
 fHi:Int
instance:Inhabited du:=⟨⟨0,0⟩⟩
@[go_sem] def aR(o:Bool)(x:du):AV:=.agg [.v (.int .i64 x.fLo),.v (.int .i64 x.fHi)]
theorem EP(x:du):(aR true x).frz=aR false x:=by
 simp only [aR,AV.frz,AV.bZ,cond_true]
theorem tZ(l:List du):AV.bZ (l.map (aR true))=l.map (aR false):=ll _ _ EP l
def fj(x:du)(left:Int):Int:=left
theorem mU(x:du)(r:Int)(h:0<=r):fj x r<=r:=Int.le_refl _
structure dx where
 ai:Int
 aB:List du
 ax:List Str
 aW:Str
 aE:Str
instance:Inhabited dx:=⟨⟨0,[],[],[],[]⟩⟩
@[go_sem] def Be(o:Bool)(x:dx):AV:=.agg [.v (.int .i64 x.ai),.sl o 2 (x.aB.map (aR o)),.sl o 1 (x.ax.map AV.str),.str x.aW,.str x.aE]
def dB(x:dx)(left:Int):Int:=thn (aG fj x.aB left) (fun a0=>thn (aG aC x.ax a0) (fun a1=>thn (aC x.aW a1) (fun a2=>thn (aC x.aE a2) (id))))
theorem qq(x:dx)(r:Int)(h:0<=r):dB x r<=r:=cS (fun a0 g0=>cS (fun a1 g1=>cS (fun a2 g2=>cS (fun _ _=>Int.le_refl _) (aY x.aE a2 g2) g2) (aY x.aW a1 g1) g1) (aZ aC aY x.ax a0 g0) g0) (aZ fj mU x.aB r h) h
structure eC where
 ae:Str
 av:Str
instance:Inhabited eC:=⟨⟨[],[]⟩⟩
@[go_sem] def cj(o:Bool)(x:eC):AV:=.agg [.str x.ae,.str x.av]
theorem FP(x:eC):(cj true x).frz=cj false x:=by
 simp only [cj,AV.frz,AV.bZ,cond_true]
theorem EN(l:List eC):AV.bZ (l.map (cj true))=l.map (cj false):=ll _ _ FP l
def iH(x:eC)(left:Int):Int:=thn (aC x.ae left) (fun a0=>thn (aC x.av a0) (id))
theorem mF(x:eC)(r:Int)(h:0<=r):iH x r<=r:=cS (fun a0 g0=>cS (fun _ _=>Int.le_refl _) (aY x.av a0 g0) g0) (aY x.ae r h) h
structure GStep where
 ae:Str
 b8:List eC
instance:Inhabited GStep:=⟨⟨[],[]⟩⟩
@[go_sem] def aU(o:Bool)(x:GStep):AV:=.agg [.str x.ae,.sl o 2 (x.b8.map (cj o))]
theorem FQ(x:GStep):(aU true x).frz=aU false x:=by
 simp only [aU,AV.frz,AV.bZ,cond_true,EN]
theorem EO(l:List GStep):AV.bZ (l.map (aU true))=l.map (aU false):=ll _ _ FQ l
def iI(x:GStep)(left:Int):Int:=thn (aC x.ae left) (fun a0=>thn (aG iH x.b8 a0) (id))
theorem mG(x:GStep)(r:Int)(h:0<=r):iI x r<=r:=cS (fun a0 g0=>cS (fun _ _=>Int.le_refl _) (aZ iH mF x.b8 a0 g0) g0) (aY x.ae r h) h
structure eO where
 cH:Bool
 dq:Int
 aN:List GStep
instance:Inhabited eO:=⟨⟨false,0,[]⟩⟩
@[go_sem] def Bf(o:Bool)(x:eO):AV:=.agg [.v (.bool x.cH),.v (.int .i64 x.dq),.sl o 2 (x.aN.map (aU o))]
def jr(x:eO)(left:Int):Int:=thn (aG iI x.aN left) (id)
theorem qt(x:eO)(r:Int)(h:0<=r):jr x r<=r:=cS (fun _ _=>Int.le_refl _) (aZ iI mG x.aN r h) h
inductive aO where
 | mk (fOp:Int) (fD:Int) (cg:Str) (aE:eO) (af:List aO)
instance:Inhabited aO:=⟨.mk 0 0 [] default []⟩
def aO.fOp:aO->Int|.mk a _ _ _ _=>a
def aO.fD:aO->Int|.mk _ a _ _ _=>a
def aO.cg:aO->Str|.mk _ _ a _ _=>a
def aO.aE:aO->eO|.mk _ _ _ a _=>a
def aO.af:aO->List aO|.mk _ _ _ _ a=>a
mutual
def aK(o:Bool):aO->AV
 | .mk fOp fD cg aE af=>.agg [.v (.int .i64 fOp),.v (.int .i64 fD),.str cg,.v (.bool aE.cH),.v (.int .i64 aE.dq),.sl o 2 (aE.aN.map (aU o)),.sl o 7 (mz o af)]
def mz(o:Bool):List aO->List AV
 | []=>[]
 | x::xs=>aK o x::mz o xs
end
theorem rp(o:Bool)(l:List aO):mz o l=l.map (aK o):=by
 induction l with
 | nil=>rfl
 | cons x xs ih=>simp [mz,ih]
@[go_sem] theorem cM(o:Bool)(x:aO):aK o x=.agg [.v (.int .i64 x.fOp),.v (.int .i64 x.fD),.str x.cg,.v (.bool x.aE.cH),.v (.int .i64 x.aE.dq),.sl o 2 (x.aE.aN.map (aU o)),.sl o 7 (x.af.map (aK o))]:=by
 cases x;simp [aK,rp,aO.fOp,aO.fD,aO.cg,aO.aE,aO.af]
mutual
theorem FT:∀ x:aO,(aK true x).frz=aK false x
 | .mk fOp fD cg aE af=>by simp only [aK,AV.frz,AV.bZ,cond_true,qf af,EO]
theorem qf:∀ l:List aO,AV.bZ (mz true l)=mz false l
 | []=>rfl
 | x::xs=>by simp only [mz,AV.bZ,FT x,qf xs]
end
theorem ES(l:List aO):AV.bZ (l.map (aK true))=l.map (aK false):=by
 rw [<- rp,qf,rp]
mutual
def cq:aO->Int->Int
 | .mk fOp fD cg aE af,left=>thn (aC cg left) (fun a0=>thn (jr aE a0) (fun a1=>thn ((fun b=>thn (b - af.length) (iD af)) a1) (id)))
def iD:List aO->Int->Int
 | [],r=>r
 | x::xs,r=>thn (cq x r) (iD xs)
end
theorem qZ:∀ l:List aO,iD l=eD cq l
 | []=>rfl
 | x::xs=>by funext r;simp only [iD,eD,qZ xs]
theorem uq(x:aO)(left:Int):cq x left=thn (aC x.cg left) (fun a0=>thn (jr x.aE a0) (fun a1=>thn (aG cq x.af a1) (id))):=by
 cases x;simp only [cq,aG,qZ,aO.fOp,aO.fD,aO.cg,aO.aE,aO.af]
mutual
theorem eS:∀ (x:aO) (r:Int),0<=r->cq x r<=r
 | .mk fOp fD cg aE af,r,h=>by
  simp only [cq]
  exact cS (fun a0 g0=>cS (fun a1 g1=>cS (fun _ _=>Int.le_refl _) (cS (fun y hy=>qY af y hy) (by omega) g1) g1) (qt aE a0 g0) g0) (aY cg r h) h
theorem qY:∀ (l:List aO) (r:Int),0<=r->iD l r<=r
 | [],r,_=>Int.le_refl _
 | x::xs,r,h=>by
  simp only [iD]
  exact cS (fun y hy=>qY xs y hy) (eS x r h) h
end
inductive ag where
 | mk (ai:Int) (ae:Str) (fType:dx) (aw:List Str) (aD:List Str) (bh:Str) (cm:Bool) (cC:Bool) (bF:Bool) (dF:Bool) (gF:Int) (gG:Int) (bz:List aO) (bY:List aO) (af:List ag)
instance:Inhabited ag:=⟨.mk 0 [] default [] [] [] false false false false 0 0 [] [] []⟩
def ag.ai:ag->Int|.mk a _ _ _ _ _ _ _ _ _ _ _ _ _ _=>a
def ag.ae:ag->Str|.mk _ a _ _ _ _ _ _ _ _ _ _ _ _ _=>a
def ag.fType:ag->dx|.mk _ _ a _ _ _ _ _ _ _ _ _ _ _ _=>a
def ag.aw:ag->List Str|.mk _ _ _ a _ _ _ _ _ _ _ _ _ _ _=>a
def ag.aD:ag->List Str|.mk _ _ _ _ a _ _ _ _ _ _ _ _ _ _=>a
def ag.bh:ag->Str|.mk _ _ _ _ _ a _ _ _ _ _ _ _ _ _=>a
def ag.cm:ag->Bool|.mk _ _ _ _ _ _ a _ _ _ _ _ _ _ _=>a
def ag.cC:ag->Bool|.mk _ _ _ _ _ _ _ a _ _ _ _ _ _ _=>a
def ag.bF:ag->Bool|.mk _ _ _ _ _ _ _ _ a _ _ _ _ _ _=>a
def ag.dF:ag->Bool|.mk _ _ _ _ _ _ _ _ _ a _ _ _ _ _=>a
def ag.gF:ag->Int|.mk _ _ _ _ _ _ _ _ _ _ a _ _ _ _=>a
def ag.gG:ag->Int|.mk _ _ _ _ _ _ _ _ _ _ _ a _ _ _=>a
def ag.bz:ag->List aO|.mk _ _ _ _ _ _ _ _ _ _ _ _ a _ _=>a
def ag.bY:ag->List aO|.mk _ _ _ _ _ _ _ _ _ _ _ _ _ a _=>a
def ag.af:ag->List ag|.mk _ _ _ _ _ _ _ _ _ _ _ _ _ _ a=>a
mutual
def ak(o:Bool):ag->AV
 | .mk ai ae fType aw aD bh cm cC bF dF gF gG bz bY af=>.agg [.v (.int .i64 ai),.str ae,.v (.int .i64 fType.ai),.sl o 2 (fType.aB.map (aR o)),.sl o 1 (fType.ax.map AV.str),.str fType.aW,.str fType.aE,.sl o 1 (aw.map AV.str),.sl o 1 (aD.map AV.str),.str bh,.v (.bool cm),.v (.bool cC),.v (.bool bF),.v (.bool dF),.v (.int .i64 gF),.v (.int .i64 gG),.sl o 7 (bz.map (aK o)),.sl o 7 (bY.map (aK o)),.sl o 19 (ke o af)]
def ke(o:Bool):List ag->List AV
 | []=>[]
 | x::xs=>ak o x::ke o xs
end
theorem o5(o:Bool)(l:List ag):ke o l=l.map (ak o):=by
 induction l with
 | nil=>rfl
 | cons x xs ih=>simp [ke,ih]
@[go_sem] theorem cK(o:Bool)(x:ag):ak o x=.agg [.v (.int .i64 x.ai),.str x.ae,.v (.int .i64 x.fType.ai),.sl o 2 (x.fType.aB.map (aR o)),.sl o 1 (x.fType.ax.map AV.str),.str x.fType.aW,.str x.fType.aE,.sl o 1 (x.aw.map AV.str),.sl o 1 (x.aD.map AV.str),.str x.bh,.v (.bool x.cm),.v (.bool x.cC),.v (.bool x.bF),.v (.bool x.dF),.v (.int .i64 x.gF),.v (.int .i64 x.gG),.sl o 7 (x.bz.map (aK o)),.sl o 7 (x.bY.map (aK o)),.sl o 19 (x.af.map (ak o))]:=by
 cases x;simp [ak,o5,ag.ai,ag.ae,ag.fType,ag.aw,ag.aD,ag.bh,ag.cm,ag.cC,ag.bF,ag.dF,ag.gF,ag.gG,ag.bz,ag.bY,ag.af]
mutual
theorem CG:∀ x:ag,(ak true x).frz=ak false x
 | .mk ai ae fType aw aD bh cm cC bF dF gF gG bz bY af=>by simp only [ak,AV.frz,AV.bZ,cond_true,nP af,tZ,ba,ES]
theorem nP:∀ l:List ag,AV.bZ (ke true l)=ke false l
 | []=>rfl
 | x::xs=>by simp only [ke,AV.bZ,CG x,nP xs]
end
theorem aI(l:List ag):AV.bZ (l.map (ak true))=l.map (ak false):=by
 rw [<- o5,nP,o5]
mutual
def aL:ag->Int->Int
 | .mk ai ae fType aw aD bh cm cC bF dF gF gG bz bY af,left=>thn (aC ae left) (fun a0=>thn (dB fType a0) (fun a1=>thn (aG aC aw a1) (fun a2=>thn (aG aC aD a2) (fun a3=>thn (aC bh a3) (fun a4=>thn (aG cq bz a4) (fun a5=>thn (aG cq bY a5) (fun a6=>thn ((fun b=>thn (b - af.length) (ia af)) a6) (id))))))))
def ia:List ag->Int->Int
 | [],r=>r
 | x::xs,r=>thn (aL x r) (ia xs)
end
theorem oI:∀ l:List ag,ia l=eD aL l
 | []=>rfl
 | x::xs=>by funext r;simp only [ia,eD,oI xs]
theorem qW(x:ag)(left:Int):aL x left=thn (aC x.ae left) (fun a0=>thn (dB x.fType a0) (fun a1=>thn (aG aC x.aw a1) (fun a2=>thn (aG aC x.aD a2) (fun a3=>thn (aC x.bh a3) (fun a4=>thn (aG cq x.bz a4) (fun a5=>thn (aG cq x.bY a5) (fun a6=>thn (aG aL x.af a6) (id)))))))):=by
 cases x;simp only [aL,aG,oI,ag.ai,ag.ae,ag.fType,ag.aw,ag.aD,ag.bh,ag.cm,ag.cC,ag.bF,ag.dF,ag.gF,ag.gG,ag.bz,ag.bY,ag.af]
mutual
theorem cV:∀ (x:ag) (r:Int),0<=r->aL x r<=r
 | .mk ai ae fType aw aD bh cm cC bF dF gF gG bz bY af,r,h=>by
  simp only [aL]
  exact cS (fun a0 g0=>cS (fun a1 g1=>cS (fun a2 g2=>cS (fun a3 g3=>cS (fun a4 g4=>cS (fun a5 g5=>cS (fun a6 g6=>cS (fun _ _=>Int.le_refl _) (cS (fun y hy=>tV af y hy) (by omega) g6) g6) (aZ cq eS bY a5 g5) g5) (aZ cq eS bz a4 g4) g4) (aY bh a3 g3) g3) (aZ aC aY aD a2 g2) g2) (aZ aC aY aw a1 g1) g1) (qq fType a0 g0) g0) (aY ae r h) h
theorem tV:∀ (l:List ag) (r:Int),0<=r->ia l r<=r
 | [],r,_=>Int.le_refl _
 | x::xs,r,h=>by
  simp only [ia]
  exact cS (fun y hy=>tV xs y hy) (cV x r h) h
end
inductive ah where
 | mk (ae:Str) (av:Str) (af:List ah)
instance:Inhabited ah:=⟨.mk [] [] []⟩
def ah.ae:ah->Str|.mk a _ _=>a
def ah.av:ah->Str|.mk _ a _=>a
def ah.af:ah->List ah|.mk _ _ a=>a
mutual
def aj(o:Bool):ah->AV
 | .mk ae av af=>.agg [.str ae,.str av,.sl o 3 (mw o af)]
def mw(o:Bool):List ah->List AV
 | []=>[]
 | x::xs=>aj o x::mw o xs
end
theorem rn(o:Bool)(l:List ah):mw o l=l.map (aj o):=by
 induction l with
 | nil=>rfl
 | cons x xs ih=>simp [mw,ih]
@[go_sem] theorem bR(o:Bool)(x:ah):aj o x=.agg [.str x.ae,.str x.av,.sl o 3 (x.af.map (aj o))]:=by
 cases x;simp [aj,rn,ah.ae,ah.av,ah.af]
mutual
theorem FR:∀ x:ah,(aj true x).frz=aj false x
 | .mk ae av af=>by simp only [aj,AV.frz,AV.bZ,cond_true,qe af]
theorem qe:∀ l:List ah,AV.bZ (mw true l)=mw false l
 | []=>rfl
 | x::xs=>by simp only [mw,AV.bZ,FR x,qe xs]
end
theorem aS(l:List ah):AV.bZ (l.map (aj true))=l.map (aj false):=by
 rw [<- rn,qe,rn]
mutual
def bM:ah->Int->Int
 | .mk ae av af,left=>thn (aC ae left) (fun a0=>thn (aC av a0) (fun a1=>thn ((fun b=>thn (b - af.length) (jH af)) a1) (id)))
def jH:List ah->Int->Int
 | [],r=>r
 | x::xs,r=>thn (bM x r) (jH xs)
end
theorem qX:∀ l:List ah,jH l=eD bM l
 | []=>rfl
 | x::xs=>by funext r;simp only [jH,eD,qX xs]
theorem uo(x:ah)(left:Int):bM x left=thn (aC x.ae left) (fun a0=>thn (aC x.av a0) (fun a1=>thn (aG bM x.af a1) (id))):=by
 cases x;simp only [bM,aG,qX,ah.ae,ah.av,ah.af]
mutual
theorem dC:∀ (x:ah) (r:Int),0<=r->bM x r<=r
 | .mk ae av af,r,h=>by
  simp only [bM]
  exact cS (fun a0 g0=>cS (fun a1 g1=>cS (fun _ _=>Int.le_refl _) (cS (fun y hy=>w9 af y hy) (by omega) g1) g1) (aY av a0 g0) g0) (aY ae r h) h
theorem w9:∀ (l:List ah) (r:Int),0<=r->jH l r<=r
 | [],r,_=>Int.le_refl _
 | x::xs,r,h=>by
  simp only [jH]
  exact cS (fun y hy=>w9 xs y hy) (dC x r h) h
end
inductive au where
 | mk (fOp:Int) (ae:Str) (av:Str) (af:List au)
instance:Inhabited au:=⟨.mk 0 [] [] []⟩
def au.fOp:au->Int|.mk a _ _ _=>a
def au.ae:au->Str|.mk _ a _ _=>a
def au.av:au->Str|.mk _ _ a _=>a
def au.af:au->List au|.mk _ _ _ a=>a
mutual
def aH(o:Bool):au->AV
 | .mk fOp ae av af=>.agg [.v (.int .i64 fOp),.str ae,.str av,.sl o 4 (mA o af)]
def mA(o:Bool):List au->List AV
 | []=>[]
 | x::xs=>aH o x::mA o xs
end
theorem rq(o:Bool)(l:List au):mA o l=l.map (aH o):=by
 induction l with
 | nil=>rfl
 | cons x xs ih=>simp [mA,ih]
@[go_sem] theorem bS(o:Bool)(x:au):aH o x=.agg [.v (.int .i64 x.fOp),.str x.ae,.str x.av,.sl o 4 (x.af.map (aH o))]:=by
 cases x;simp [aH,rq,au.fOp,au.ae,au.av,au.af]
mutual
theorem FU:∀ x:au,(aH true x).frz=aH false x
 | .mk fOp ae av af=>by simp only [aH,AV.frz,AV.bZ,cond_true,qg af]
theorem qg:∀ l:List au,AV.bZ (mA true l)=mA false l
 | []=>rfl
 | x::xs=>by simp only [mA,AV.bZ,FU x,qg xs]
end
theorem gf(l:List au):AV.bZ (l.map (aH true))=l.map (aH false):=by
 rw [<- rq,qg,rq]
@[go_sem] abbrev cSc(x:ag):List AV:=[.v (.int .i64 x.ai),.str x.ae,.v (.int .i64 x.fType.ai),.sl false 2 (x.fType.aB.map (aR false)),.sl false 1 (x.fType.ax.map AV.str),.str x.fType.aW,.str x.fType.aE,.sl false 1 (x.aw.map AV.str),.sl false 1 (x.aD.map AV.str),.str x.bh,.v (.bool x.cm),.v (.bool x.cC),.v (.bool x.bF),.v (.bool x.dF),.v (.int .i64 x.gF),.v (.int .i64 x.gG),.sl false 7 (x.bz.map (aK false)),.sl false 7 (x.bY.map (aK false)),.sl false 19 (x.af.map (ak false))]
@[go_sem] abbrev cEd(x:au):List AV:=[.v (.int .i64 x.fOp),.str x.ae,.str x.av,.sl false 4 (x.af.map (aH false))]
@[go_sem] abbrev cNo(x:ah):List AV:=[.str x.ae,.str x.av,.sl false 3 (x.af.map (aj false))]
@[go_sem] abbrev cZe:List AV:=[.v (.int .i64 0),.str [],.v (.int .i64 0),.v (.slice none 0 0),.v (.slice none 0 0),.str [],.str [],.v (.slice none 0 0),.v (.slice none 0 0),.str [],.v (.bool false),.v (.bool false),.v (.bool false),.v (.bool false),.v (.int .i64 0),.v (.int .i64 0),.v (.slice none 0 0),.v (.slice none 0 0),.v (.slice none 0 0)]
mutual
def dM:au->Int->Int
 | .mk fOp ae av af,left=>thn (aC ae left) (fun a0=>thn (aC av a0) (fun a1=>thn ((fun b=>thn (b - af.length) (jI af)) a1) (id)))
def jI:List au->Int->Int
 | [],r=>r
 | x::xs,r=>thn (dM x r) (jI xs)
end
theorem q8:∀ l:List au,jI l=eD dM l
 | []=>rfl
 | x::xs=>by funext r;simp only [jI,eD,q8 xs]
theorem ur(x:au)(left:Int):dM x left=thn (aC x.ae left) (fun a0=>thn (aC x.av a0) (fun a1=>thn (aG dM x.af a1) (id))):=by
 cases x;simp only [dM,aG,q8,au.fOp,au.ae,au.av,au.af]
mutual
theorem fT:∀ (x:au) (r:Int),0<=r->dM x r<=r
 | .mk fOp ae av af,r,h=>by
  simp only [dM]
  exact cS (fun a0 g0=>cS (fun a1 g1=>cS (fun _ _=>Int.le_refl _) (cS (fun y hy=>xa af y hy) (by omega) g1) g1) (aY av a0 g0) g0) (aY ae r h) h
theorem xa:∀ (l:List au) (r:Int),0<=r->jI l r<=r
 | [],r,_=>Int.le_refl _
 | x::xs,r,h=>by
  simp only [jI]
  exact cS (fun y hy=>xa xs y hy) (fT x r h) h
end
def bD(o:Bool)(l:List au):AV:=.sl o 4 (l.map (aH o))
theorem ET(l:List au):(bD true l).frz=bD false l:=by
 simp only [bD,AV.frz,cond_true,gf]
theorem ub(l:List (List au)):AV.bZ (l.map (bD true))=l.map (bD false):=ll _ _ ET l
def gW(l:List au)(r:Int):Int:=aG dM l r
theorem j5(l:List au)(r:Int)(h:0<=r):gW l r<=r:=aZ dM fT l r h
structure nS where
 IU:List ah
 fBy:Int
 fAt:Int
instance:Inhabited nS:=⟨⟨[],0,0⟩⟩
@[go_sem] def pG(o:Bool)(x:nS):AV:=.agg [.sl o 3 (x.IU.map (aj o)),.v (.int .i64 x.fBy),.v (.int .i64 x.fAt)]
def Jn(x:nS)(left:Int):Int:=thn (aG bM x.IU left) (id)
structure nT where
 fOn:Bool
 rV:Int
 fBy:Int
 ae:Str
 tu:List ah
instance:Inhabited nT:=⟨⟨false,0,0,[],[]⟩⟩
@[go_sem] def Uk(o:Bool)(x:nT):AV:=.agg [.v (.bool x.fOn),.v (.int .i64 x.rV),.v (.int .i64 x.fBy),.str x.ae,.sl o 3 (x.tu.map (aj o))]
def Jq(x:nT)(left:Int):Int:=thn (aC x.ae left) (fun a0=>thn (aG bM x.tu a0) (id))
structure sy where
 rW:List ag
 qd:List ah
 vv:List ah
 zK:Int
 zJ:List nS
 ij:nT
instance:Inhabited sy:=⟨⟨[],[],[],0,[],default⟩⟩
@[go_sem] def Xq(o:Bool)(x:sy):AV:=.agg [.sl o 19 (x.rW.map (ak o)),.sl o 3 (x.qd.map (aj o)),.sl o 3 (x.vv.map (aj o)),.v (.int .i64 x.zK),.sl o 3 (x.zJ.map (pG o)),.v (.bool x.ij.fOn),.v (.int .i64 x.ij.rV),.v (.int .i64 x.ij.fBy),.str x.ij.ae,.sl o 3 (x.ij.tu.map (aj o))]
def OA(x:sy)(left:Int):Int:=thn (aG aL x.rW left) (fun a0=>thn (aG bM x.qd a0) (fun a1=>thn (aG bM x.vv a1) (fun a2=>thn (aG Jn x.zJ a2) (fun a3=>thn (Jq x.ij a3) (id)))))
structure bV where
 fAt:Int
 fBy:Int
 dG:List au
instance:Inhabited bV:=⟨⟨0,0,[]⟩⟩
@[go_sem] def az(o:Bool)(x:bV):AV:=.agg [.v (.int .i64 x.fAt),.v (.int .i64 x.fBy),.sl o 4 (x.dG.map (aH o))]
theorem CI(x:bV):(az true x).frz=az false x:=by
 simp only [az,AV.frz,AV.bZ,cond_true,gf]
theorem lQ(l:List bV):AV.bZ (l.map (az true))=l.map (az false):=ll _ _ CI l
def fo(x:bV)(left:Int):Int:=thn (aG dM x.dG left) (id)
theorem jJ(x:bV)(r:Int)(h:0<=r):fo x r<=r:=cS (fun _ _=>Int.le_refl _) (aZ dM fT x.dG r h) h
structure bu where
 aQ:List ah
 aF:List bV
instance:Inhabited bu:=⟨⟨[],[]⟩⟩
@[go_sem] def lP(o:Bool)(x:bu):AV:=.agg [.sl o 3 (x.aQ.map (aj o)),.sl o 3 (x.aF.map (az o))]
def cW(x:bu)(left:Int):Int:=thn (aG bM x.aQ left) (fun a0=>thn (aG fo x.aF a0) (id))
theorem jR(x:bu)(r:Int)(h:0<=r):cW x r<=r:=cS (fun a0 g0=>cS (fun _ _=>Int.le_refl _) (aZ fo jJ x.aF a0 g0) g0) (aZ bM dC x.aQ r h) h
structure dm where
 ax:List Str
 cL:List ah
 bt:List (List au)
instance:Inhabited dm:=⟨⟨[],[],[]⟩⟩
@[go_sem] def pF(o:Bool)(x:dm):AV:=.agg [.sl o 1 (x.ax.map AV.str),.sl o 3 (x.cL.map (aj o)),.sl o 1 (x.bt.map (bD o))]
def fE(x:dm)(left:Int):Int:=thn (aG aC x.ax left) (fun a0=>thn (aG bM x.cL a0) (fun a1=>thn (aG gW x.bt a1) (id)))
theorem um(x:dm)(r:Int)(h:0<=r):fE x r<=r:=cS (fun a0 g0=>cS (fun a1 g1=>cS (fun _ _=>Int.le_refl _) (aZ gW j5 x.bt a1 g1) g1) (aZ bM dC x.cL a0 g0) g0) (aZ aC aY x.ax r h) h
structure mE where
 ae:Str
 av:Str
instance:Inhabited mE:=⟨⟨[],[]⟩⟩
@[go_sem] def rY(o:Bool)(x:mE):AV:=.agg [.str x.ae,.str x.av]
def Ti(x:mE)(left:Int):Int:=thn (aC x.ae left) (fun a0=>thn (aC x.av a0) (id))
structure jE where
 ae:Str
 fType:dx
instance:Inhabited jE:=⟨⟨[],default⟩⟩
@[go_sem] def jg(o:Bool)(x:jE):AV:=.agg [.str x.ae,.v (.int .i64 x.fType.ai),.sl o 2 (x.fType.aB.map (aR o)),.sl o 1 (x.fType.ax.map AV.str),.str x.fType.aW,.str x.fType.aE]
theorem ER(x:jE):(jg true x).frz=jg false x:=by
 simp only [jg,AV.frz,AV.bZ,cond_true,tZ,ba]
theorem CH(l:List jE):AV.bZ (l.map (jg true))=l.map (jg false):=ll _ _ ER l
def OB(x:jE)(left:Int):Int:=thn (aC x.ae left) (fun a0=>thn (dB x.fType a0) (id))
structure fH where
 ae:Str
 mP:List jE
 zL:List ah
instance:Inhabited fH:=⟨⟨[],[],[]⟩⟩
@[go_sem] def kJ(o:Bool)(x:fH):AV:=.agg [.str x.ae,.sl o 6 (x.mP.map (jg o)),.sl o 3 (x.zL.map (aj o))]
def HX(x:fH)(left:Int):Int:=thn (aC x.ae left) (fun a0=>thn (aG OB x.mP a0) (fun a1=>thn (aG bM x.zL a1) (id)))
structure jh where
 ae:Str
 vr:Str
 fArgs:List mE
 tr:List Str
instance:Inhabited jh:=⟨⟨[],[],[],[]⟩⟩
@[go_sem] def lO(o:Bool)(x:jh):AV:=.agg [.str x.ae,.str x.vr,.sl o 2 (x.fArgs.map (rY o)),.sl o 1 (x.tr.map AV.str)]
def Jp(x:jh)(left:Int):Int:=thn (aC x.ae left) (fun a0=>thn (aC x.vr a0) (fun a1=>thn (aG Ti x.fArgs a1) (fun a2=>thn (aG aC x.tr a2) (id))))
structure Jf where
 zI:List fH
 B6:List jh
instance:Inhabited Jf:=⟨⟨[],[]⟩⟩
@[go_sem] def Yn(o:Bool)(x:Jf):AV:=.agg [.sl o 3 (x.zI.map (kJ o)),.sl o 4 (x.B6.map (lO o))]
def YA(x:Jf)(left:Int):Int:=thn (aG HX x.zI left) (fun a0=>thn (aG Jp x.B6 a0) (id))
structure sA where
 ae:Str
 gb:sy
 aQ:List ah
 fUp:Bool
 NY:Int
 NZ:Bool
instance:Inhabited sA:=⟨⟨[],default,[],false,0,false⟩⟩
@[go_sem] def Vw(o:Bool)(x:sA):AV:=.agg [.str x.ae,.sl o 19 (x.gb.rW.map (ak o)),.sl o 3 (x.gb.qd.map (aj o)),.sl o 3 (x.gb.vv.map (aj o)),.v (.int .i64 x.gb.zK),.sl o 3 (x.gb.zJ.map (pG o)),.v (.bool x.gb.ij.fOn),.v (.int .i64 x.gb.ij.rV),.v (.int .i64 x.gb.ij.fBy),.str x.gb.ij.ae,.sl o 3 (x.gb.ij.tu.map (aj o)),.sl o 3 (x.aQ.map (aj o)),.v (.bool x.fUp),.v (.int .i64 x.NY),.v (.bool x.NZ)]
def VM(x:sA)(left:Int):Int:=thn (aC x.ae left) (fun a0=>thn (OA x.gb a0) (fun a1=>thn (aG bM x.aQ a1) (id)))
def xY:Nat->Nat
 | 0=>2097152+0
 | _=>2147483648
theorem Kb(n:Nat):1048576<=xY n/\xY n<=4611686018427387904:=by unfold xY;first|(split<;>omega)|omega
def lim(sz:Nat):Nat:=if sz<=1 then 1099511627776 else if sz<1000000000 then 2147483648 else xY (sz - 1000000000)
def eW(_:Nat):Nat:=140737488355328
end Go.Dt
