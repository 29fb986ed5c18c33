/- Part of a proof. -/
import Derived.Test.YtbiikafnjialjaaGreatDoorG2
set_option linter.all false
namespace Go.Dt
open Go.Ab
abbrev Str:=List UInt8
theorem kU{α:Type}(f g:α->AV)(h:∀ x,(f x).frz=g x)(l:List α):AV.bS (l.map f)=l.map g:=by
 rw [AV.oQ,List.map_map];apply List.map_congr_left;intro x _;exact h x
theorem dF(l:List Str):AV.bS (l.map AV.str)=l.map AV.str:=kU _ _ (fun _=>rfl) l
def thn(a:Int)(k:Int->Int):Int:=if a<0 then -1 else k a
def az(s:Str)(left:Int):Int:=left - s.length
def dP{α:Type}(f:α->Int->Int):List α->Int->Int
 | [],r=>r
 | x::xs,r=>thn (f x r) (dP f xs)
def aM{α:Type}(f:α->Int->Int)(l:List α)(left:Int):Int:=thn (left - l.length) (dP f l)
theorem cf{a b:Int}{k:Int->Int}(h:∀ x,0<=x->k x<=x)(hb:a<=b)(h0:0<=b):thn a k<=b:=by
 unfold thn;split
 ·omega
 ·have:=h a (by omega);omega
theorem aJ(s:Str)(r:Int)(_h:0<=r):az s r<=r:=by unfold az;omega
theorem EB{α:Type}(f:α->Int->Int)(hf:∀ x r,0<=r->f x r<=r):∀ (l:List α) (r:Int),0<=r->dP f l r<=r
 | [],r,_=>Int.le_refl _
 | x::xs,r,h=>cf (fun y hy=>EB f hf xs y hy) (hf x r h) h
theorem bu{α:Type}(f:α->Int->Int)(hf:∀ x r,0<=r->f x r<=r)(l:List α)(r:Int)(h:0<=r):aM f l r<=r :=
 cf (fun y hy=>EB f hf l y hy) (by omega) h
structure df where
 fLo:Int
 fHi:Int
instance:Inhabited df:=⟨⟨0,0⟩⟩
@[go_sem] def aI(o:Bool)(x:df):AV:=.agg [.v (.int .i64 x.fLo),.v (.int .i64 x.fHi)]
theorem Dr(x:df):(aI true x).frz=aI false x:=by
 simp only [aI,AV.frz,AV.bS,cond_true]
theorem th(l:List df):AV.bS (l.map (aI true))=l.map (aI false):=kU _ _ Dr l
def eY(x:df)(left:Int):Int:=left
theorem mB(x:df)(r:Int)(h:0<=r):eY x r<=r:=Int.le_refl _
structure cL where
 ai:Int
 av:List df
 ay:List Str
 aN:Str
 aA:Str
instance:Inhabited cL:=⟨⟨0,[],[],[],[]⟩⟩
@[go_sem] def uX(o:Bool)(x:cL):AV:=.agg [.v (.int .i64 x.ai),.sl o 2 (x.av.map (aI o)),.sl o 1 (x.ay.map AV.str),.str x.aN,.str x.aA]
def dw(x:cL)(left:Int):Int:=thn (aM eY x.av left) (fun a0=>thn (aM az x.ay a0) (fun a1=>thn (az x.aN a1) (fun a2=>thn (az x.aA a2) (id))))
theorem ku(x:cL)(r:Int)(h:0<=r):dw x r<=r:=cf (fun a0 g0=>cf (fun a1 g1=>cf (fun a2 g2=>cf (fun _ _=>Int.le_refl _) (aJ x.aA a2 g2) g2) (aJ x.aN a1 g1) g1) (bu az aJ x.ay a0 g0) g0) (bu eY mB x.av r h) h
structure ed where
 af:Str
 ax:Str
instance:Inhabited ed:=⟨⟨[],[]⟩⟩
@[go_sem] def bZ(o:Bool)(x:ed):AV:=.agg [.str x.af,.str x.ax]
theorem Eh(x:ed):(bZ true x).frz=bZ false x:=by
 simp only [bZ,AV.frz,AV.bS,cond_true]
theorem Dp(l:List ed):AV.bS (l.map (bZ true))=l.map (bZ false):=kU _ _ Eh l
def iq(x:ed)(left:Int):Int:=thn (az x.af left) (fun a0=>thn (az x.ax a0) (id))
theorem mc(x:ed)(r:Int)(h:0<=r):iq x r<=r:=cf (fun a0 g0=>cf (fun _ _=>Int.le_refl _) (aJ x.ax a0 g0) g0) (aJ x.af r h) h
structure GStep where
 af:Str
 bT:List ed
instance:Inhabited GStep:=⟨⟨[],[]⟩⟩
@[go_sem] def aS(o:Bool)(x:GStep):AV:=.agg [.str x.af,.sl o 2 (x.bT.map (bZ o))]
theorem Ei(x:GStep):(aS true x).frz=aS false x:=by
 simp only [aS,AV.frz,AV.bS,cond_true,Dp]
theorem Dq(l:List GStep):AV.bS (l.map (aS true))=l.map (aS false):=kU _ _ Ei l
def iv(x:GStep)(left:Int):Int:=thn (az x.af left) (fun a0=>thn (aM iq x.bT a0) (id))
theorem mf(x:GStep)(r:Int)(h:0<=r):iv x r<=r:=cf (fun a0 g0=>cf (fun _ _=>Int.le_refl _) (bu iq mc x.bT a0 g0) g0) (aJ x.af r h) h
structure eJ where
 cO:Bool
 dc:Int
 aK:List GStep
instance:Inhabited eJ:=⟨⟨false,0,[]⟩⟩
@[go_sem] def zB(o:Bool)(x:eJ):AV:=.agg [.v (.bool x.cO),.v (.int .i64 x.dc),.sl o 2 (x.aK.map (aS o))]
def je(x:eJ)(left:Int):Int:=thn (aM iv x.aK left) (id)
theorem pZ(x:eJ)(r:Int)(h:0<=r):je x r<=r:=cf (fun _ _=>Int.le_refl _) (bu iv mf x.aK r h) h
inductive aO where
 | mk (fOp:Int) (fo:Int) (bW:Str) (aA:eJ) (ag:List aO)
instance:Inhabited aO:=⟨.mk 0 0 [] default []⟩
def aO.fOp:aO->Int|.mk a _ _ _ _=>a
def aO.fo:aO->Int|.mk _ a _ _ _=>a
def aO.bW:aO->Str|.mk _ _ a _ _=>a
def aO.aA:aO->eJ|.mk _ _ _ a _=>a
def aO.ag:aO->List aO|.mk _ _ _ _ a=>a
mutual
def aG(o:Bool):aO->AV
 | .mk fOp fo bW aA ag=>.agg [.v (.int .i64 fOp),.v (.int .i64 fo),.str bW,.v (.bool aA.cO),.v (.int .i64 aA.dc),.sl o 2 (aA.aK.map (aS o)),.sl o 7 (lY o ag)]
def lY(o:Bool):List aO->List AV
 | []=>[]
 | x::xs=>aG o x::lY o xs
end
theorem qN(o:Bool)(l:List aO):lY o l=l.map (aG o):=by
 induction l with
 | nil=>rfl
 | cons x xs ih=>simp [lY,ih]
@[go_sem] theorem cV(o:Bool)(x:aO):aG o x=.agg [.v (.int .i64 x.fOp),.v (.int .i64 x.fo),.str x.bW,.v (.bool x.aA.cO),.v (.int .i64 x.aA.dc),.sl o 2 (x.aA.aK.map (aS o)),.sl o 7 (x.ag.map (aG o))]:=by
 cases x;simp [aG,qN,aO.fOp,aO.fo,aO.bW,aO.aA,aO.ag]
mutual
theorem Ek:∀ x:aO,(aG true x).frz=aG false x
 | .mk fOp fo bW aA ag=>by simp only [aG,AV.frz,AV.bS,cond_true,pN ag,Dq]
theorem pN:∀ l:List aO,AV.bS (lY true l)=lY false l
 | []=>rfl
 | x::xs=>by simp only [lY,AV.bS,Ek x,pN xs]
end
theorem Du(l:List aO):AV.bS (l.map (aG true))=l.map (aG false):=by
 rw [<- qN,pN,qN]
mutual
def cu:aO->Int->Int
 | .mk fOp fo bW aA ag,left=>thn (az bW left) (fun a0=>thn (je aA a0) (fun a1=>thn ((fun b=>thn (b - ag.length) (ig ag)) a1) (id)))
def ig:List aO->Int->Int
 | [],r=>r
 | x::xs,r=>thn (cu x r) (ig xs)
end
theorem qG:∀ l:List aO,ig l=dP cu l
 | []=>rfl
 | x::xs=>by funext r;simp only [ig,dP,qG xs]
theorem tF(x:aO)(left:Int):cu x left=thn (az x.bW left) (fun a0=>thn (je x.aA a0) (fun a1=>thn (aM cu x.ag a1) (id))):=by
 cases x;simp only [cu,aM,qG,aO.fOp,aO.fo,aO.bW,aO.aA,aO.ag]
mutual
theorem eM:∀ (x:aO) (r:Int),0<=r->cu x r<=r
 | .mk fOp fo bW aA ag,r,h=>by
  simp only [cu]
  exact cf (fun a0 g0=>cf (fun a1 g1=>cf (fun _ _=>Int.le_refl _) (cf (fun y hy=>qF ag y hy) (by omega) g1) g1) (pZ aA a0 g0) g0) (aJ bW r h) h
theorem qF:∀ (l:List aO) (r:Int),0<=r->ig l r<=r
 | [],r,_=>Int.le_refl _
 | x::xs,r,h=>by
  simp only [ig]
  exact cf (fun y hy=>qF xs y hy) (eM x r h) h
end
inductive ae where
 | mk (ai:Int) (af:Str) (fType:cL) (aD:List Str) (aB:List Str) (ba:Str) (cn:Bool) (cy:Bool) (bw:Bool) (dC:Bool) (gr:Int) (gu:Int) (bq:List aO) (bR:List aO) (ag:List ae)
instance:Inhabited ae:=⟨.mk 0 [] default [] [] [] false false false false 0 0 [] [] []⟩
def ae.ai:ae->Int|.mk a _ _ _ _ _ _ _ _ _ _ _ _ _ _=>a
def ae.af:ae->Str|.mk _ a _ _ _ _ _ _ _ _ _ _ _ _ _=>a
def ae.fType:ae->cL|.mk _ _ a _ _ _ _ _ _ _ _ _ _ _ _=>a
def ae.aD:ae->List Str|.mk _ _ _ a _ _ _ _ _ _ _ _ _ _ _=>a
def ae.aB:ae->List Str|.mk _ _ _ _ a _ _ _ _ _ _ _ _ _ _=>a
def ae.ba:ae->Str|.mk _ _ _ _ _ a _ _ _ _ _ _ _ _ _=>a
def ae.cn:ae->Bool|.mk _ _ _ _ _ _ a _ _ _ _ _ _ _ _=>a
def ae.cy:ae->Bool|.mk _ _ _ _ _ _ _ a _ _ _ _ _ _ _=>a
def ae.bw:ae->Bool|.mk _ _ _ _ _ _ _ _ a _ _ _ _ _ _=>a
def ae.dC:ae->Bool|.mk _ _ _ _ _ _ _ _ _ a _ _ _ _ _=>a
def ae.gr:ae->Int|.mk _ _ _ _ _ _ _ _ _ _ a _ _ _ _=>a
def ae.gu:ae->Int|.mk _ _ _ _ _ _ _ _ _ _ _ a _ _ _=>a
def ae.bq:ae->List aO|.mk _ _ _ _ _ _ _ _ _ _ _ _ a _ _=>a
def ae.bR:ae->List aO|.mk _ _ _ _ _ _ _ _ _ _ _ _ _ a _=>a
def ae.ag:ae->List ae|.mk _ _ _ _ _ _ _ _ _ _ _ _ _ _ a=>a
mutual
def aq(o:Bool):ae->AV
 | .mk ai af fType aD aB ba cn cy bw dC gr gu bq bR ag=>.agg [.v (.int .i64 ai),.str af,.v (.int .i64 fType.ai),.sl o 2 (fType.av.map (aI o)),.sl o 1 (fType.ay.map AV.str),.str fType.aN,.str fType.aA,.sl o 1 (aD.map AV.str),.sl o 1 (aB.map AV.str),.str ba,.v (.bool cn),.v (.bool cy),.v (.bool bw),.v (.bool dC),.v (.int .i64 gr),.v (.int .i64 gu),.sl o 7 (bq.map (aG o)),.sl o 7 (bR.map (aG o)),.sl o 19 (jT o ag)]
def jT(o:Bool):List ae->List AV
 | []=>[]
 | x::xs=>aq o x::jT o xs
end
theorem oz(o:Bool)(l:List ae):jT o l=l.map (aq o):=by
 induction l with
 | nil=>rfl
 | cons x xs ih=>simp [jT,ih]
@[go_sem] theorem cT(o:Bool)(x:ae):aq o x=.agg [.v (.int .i64 x.ai),.str x.af,.v (.int .i64 x.fType.ai),.sl o 2 (x.fType.av.map (aI o)),.sl o 1 (x.fType.ay.map AV.str),.str x.fType.aN,.str x.fType.aA,.sl o 1 (x.aD.map AV.str),.sl o 1 (x.aB.map AV.str),.str x.ba,.v (.bool x.cn),.v (.bool x.cy),.v (.bool x.bw),.v (.bool x.dC),.v (.int .i64 x.gr),.v (.int .i64 x.gu),.sl o 7 (x.bq.map (aG o)),.sl o 7 (x.bR.map (aG o)),.sl o 19 (x.ag.map (aq o))]:=by
 cases x;simp [aq,oz,ae.ai,ae.af,ae.fType,ae.aD,ae.aB,ae.ba,ae.cn,ae.cy,ae.bw,ae.dC,ae.gr,ae.gu,ae.bq,ae.bR,ae.ag]
mutual
theorem Bp:∀ x:ae,(aq true x).frz=aq false x
 | .mk ai af fType aD aB ba cn cy bw dC gr gu bq bR ag=>by simp only [aq,AV.frz,AV.bS,cond_true,na ag,th,dF,Du]
theorem na:∀ l:List ae,AV.bS (jT true l)=jT false l
 | []=>rfl
 | x::xs=>by simp only [jT,AV.bS,Bp x,na xs]
end
theorem cM(l:List ae):AV.bS (l.map (aq true))=l.map (aq false):=by
 rw [<- oz,na,oz]
mutual
def bP:ae->Int->Int
 | .mk ai af fType aD aB ba cn cy bw dC gr gu bq bR ag,left=>thn (az af left) (fun a0=>thn (dw fType a0) (fun a1=>thn (aM az aD a1) (fun a2=>thn (aM az aB a2) (fun a3=>thn (az ba a3) (fun a4=>thn (aM cu bq a4) (fun a5=>thn (aM cu bR a5) (fun a6=>thn ((fun b=>thn (b - ag.length) (gQ ag)) a6) (id))))))))
def gQ:List ae->Int->Int
 | [],r=>r
 | x::xs,r=>thn (bP x r) (gQ xs)
end
theorem nX:∀ l:List ae,gQ l=dP bP l
 | []=>rfl
 | x::xs=>by funext r;simp only [gQ,dP,nX xs]
theorem qD(x:ae)(left:Int):bP x left=thn (az x.af left) (fun a0=>thn (dw x.fType a0) (fun a1=>thn (aM az x.aD a1) (fun a2=>thn (aM az x.aB a2) (fun a3=>thn (az x.ba a3) (fun a4=>thn (aM cu x.bq a4) (fun a5=>thn (aM cu x.bR a5) (fun a6=>thn (aM bP x.ag a6) (id)))))))):=by
 cases x;simp only [bP,aM,nX,ae.ai,ae.af,ae.fType,ae.aD,ae.aB,ae.ba,ae.cn,ae.cy,ae.bw,ae.dC,ae.gr,ae.gu,ae.bq,ae.bR,ae.ag]
mutual
theorem fQ:∀ (x:ae) (r:Int),0<=r->bP x r<=r
 | .mk ai af fType aD aB ba cn cy bw dC gr gu bq bR ag,r,h=>by
  simp only [bP]
  exact cf (fun a0 g0=>cf (fun a1 g1=>cf (fun a2 g2=>cf (fun a3 g3=>cf (fun a4 g4=>cf (fun a5 g5=>cf (fun a6 g6=>cf (fun _ _=>Int.le_refl _) (cf (fun y hy=>sX ag y hy) (by omega) g6) g6) (bu cu eM bR a5 g5) g5) (bu cu eM bq a4 g4) g4) (aJ ba a3 g3) g3) (bu az aJ aB a2 g2) g2) (bu az aJ aD a1 g1) g1) (ku fType a0 g0) g0) (aJ af r h) h
theorem sX:∀ (l:List ae) (r:Int),0<=r->gQ l r<=r
 | [],r,_=>Int.le_refl _
 | x::xs,r,h=>by
  simp only [gQ]
  exact cf (fun y hy=>sX xs y hy) (fQ x r h) h
end
inductive ah where
 | mk (af:Str) (ax:Str) (ag:List ah)
instance:Inhabited ah:=⟨.mk [] [] []⟩
def ah.af:ah->Str|.mk a _ _=>a
def ah.ax:ah->Str|.mk _ a _=>a
def ah.ag:ah->List ah|.mk _ _ a=>a
mutual
def ak(o:Bool):ah->AV
 | .mk af ax ag=>.agg [.str af,.str ax,.sl o 3 (lX o ag)]
def lX(o:Bool):List ah->List AV
 | []=>[]
 | x::xs=>ak o x::lX o xs
end
theorem qM(o:Bool)(l:List ah):lX o l=l.map (ak o):=by
 induction l with
 | nil=>rfl
 | cons x xs ih=>simp [lX,ih]
@[go_sem] theorem cH(o:Bool)(x:ah):ak o x=.agg [.str x.af,.str x.ax,.sl o 3 (x.ag.map (ak o))]:=by
 cases x;simp [ak,qM,ah.af,ah.ax,ah.ag]
mutual
theorem Ej:∀ x:ah,(ak true x).frz=ak false x
 | .mk af ax ag=>by simp only [ak,AV.frz,AV.bS,cond_true,pM ag]
theorem pM:∀ l:List ah,AV.bS (lX true l)=lX false l
 | []=>rfl
 | x::xs=>by simp only [lX,AV.bS,Ej x,pM xs]
end
theorem eH(l:List ah):AV.bS (l.map (ak true))=l.map (ak false):=by
 rw [<- qM,pM,qM]
@[go_sem] abbrev cSc(x:ae):List AV:=[.v (.int .i64 x.ai),.str x.af,.v (.int .i64 x.fType.ai),.sl false 2 (x.fType.av.map (aI false)),.sl false 1 (x.fType.ay.map AV.str),.str x.fType.aN,.str x.fType.aA,.sl false 1 (x.aD.map AV.str),.sl false 1 (x.aB.map AV.str),.str x.ba,.v (.bool x.cn),.v (.bool x.cy),.v (.bool x.bw),.v (.bool x.dC),.v (.int .i64 x.gr),.v (.int .i64 x.gu),.sl false 7 (x.bq.map (aG false)),.sl false 7 (x.bR.map (aG false)),.sl false 19 (x.ag.map (aq false))]
@[go_sem] abbrev cNo(x:ah):List AV:=[.str x.af,.str x.ax,.sl false 3 (x.ag.map (ak false))]
@[go_sem] abbrev cZe:List AV:=[.v (.int .i64 0),.str [],.v (.int .i64 0),.v (.slice none 0 0),.v (.slice none 0 0),.str [],.str [],.v (.slice none 0 0),.v (.slice none 0 0),.str [],.v (.bool false),.v (.bool false),.v (.bool false),.v (.bool false),.v (.int .i64 0),.v (.int .i64 0),.v (.slice none 0 0),.v (.slice none 0 0),.v (.slice none 0 0)]
mutual
def dA:ah->Int->Int
 | .mk af ax ag,left=>thn (az af left) (fun a0=>thn (az ax a0) (fun a1=>thn ((fun b=>thn (b - ag.length) (ju ag)) a1) (id)))
def ju:List ah->Int->Int
 | [],r=>r
 | x::xs,r=>thn (dA x r) (ju xs)
end
theorem qE:∀ l:List ah,ju l=dP dA l
 | []=>rfl
 | x::xs=>by funext r;simp only [ju,dP,qE xs]
theorem tE(x:ah)(left:Int):dA x left=thn (az x.af left) (fun a0=>thn (az x.ax a0) (fun a1=>thn (aM dA x.ag a1) (id))):=by
 cases x;simp only [dA,aM,qE,ah.af,ah.ax,ah.ag]
mutual
theorem gX:∀ (x:ah) (r:Int),0<=r->dA x r<=r
 | .mk af ax ag,r,h=>by
  simp only [dA]
  exact cf (fun a0 g0=>cf (fun a1 g1=>cf (fun _ _=>Int.le_refl _) (cf (fun y hy=>vI ag y hy) (by omega) g1) g1) (aJ ax a0 g0) g0) (aJ af r h) h
theorem vI:∀ (l:List ah) (r:Int),0<=r->ju l r<=r
 | [],r,_=>Int.le_refl _
 | x::xs,r,h=>by
  simp only [ju]
  exact cf (fun y hy=>vI xs y hy) (gX x r h) h
end
inductive bz where
 | mk (fOp:Int) (af:Str) (ax:Str) (ag:List bz)
instance:Inhabited bz:=⟨.mk 0 [] [] []⟩
def bz.fOp:bz->Int|.mk a _ _ _=>a
def bz.af:bz->Str|.mk _ a _ _=>a
def bz.ax:bz->Str|.mk _ _ a _=>a
def bz.ag:bz->List bz|.mk _ _ _ a=>a
mutual
def lA(o:Bool):bz->AV
 | .mk fOp af ax ag=>.agg [.v (.int .i64 fOp),.str af,.str ax,.sl o 4 (lZ o ag)]
def lZ(o:Bool):List bz->List AV
 | []=>[]
 | x::xs=>lA o x::lZ o xs
end
theorem El(o:Bool)(l:List bz):lZ o l=l.map (lA o):=by
 induction l with
 | nil=>rfl
 | cons x xs ih=>simp [lZ,ih]
@[go_sem] theorem Ro(o:Bool)(x:bz):lA o x=.agg [.v (.int .i64 x.fOp),.str x.af,.str x.ax,.sl o 4 (x.ag.map (lA o))]:=by
 cases x;simp [lA,El,bz.fOp,bz.af,bz.ax,bz.ag]
mutual
theorem Em:∀ x:bz,(lA true x).frz=lA false x
 | .mk fOp af ax ag=>by simp only [lA,AV.frz,AV.bS,cond_true,uw ag]
theorem uw:∀ l:List bz,AV.bS (lZ true l)=lZ false l
 | []=>rfl
 | x::xs=>by simp only [lZ,AV.bS,Em x,uw xs]
end
mutual
def xy:bz->Int->Int
 | .mk fOp af ax ag,left=>thn (az af left) (fun a0=>thn (az ax a0) (fun a1=>thn ((fun b=>thn (b - ag.length) (rO ag)) a1) (id)))
def rO:List bz->Int->Int
 | [],r=>r
 | x::xs,r=>thn (xy x r) (rO xs)
end
mutual
theorem Hf:∀ (x:bz) (r:Int),0<=r->xy x r<=r
 | .mk fOp af ax ag,r,h=>by
  simp only [xy]
  exact cf (fun a0 g0=>cf (fun a1 g1=>cf (fun _ _=>Int.le_refl _) (cf (fun y hy=>vJ ag y hy) (by omega) g1) g1) (aJ ax a0 g0) g0) (aJ af r h) h
theorem vJ:∀ (l:List bz) (r:Int),0<=r->rO l r<=r
 | [],r,_=>Int.le_refl _
 | x::xs,r,h=>by
  simp only [rO]
  exact cf (fun y hy=>vJ xs y hy) (Hf x r h) h
end
def UI(o:Bool)(l:List bz):AV:=.sl o 4 (l.map (lA o))
def U5(l:List bz)(r:Int):Int:=aM xy l r
structure nu where
 sG:List ah
 fBy:Int
 fAt:Int
instance:Inhabited nu:=⟨⟨[],0,0⟩⟩
@[go_sem] def oK(o:Bool)(x:nu):AV:=.agg [.sl o 3 (x.sG.map (ak o)),.v (.int .i64 x.fBy),.v (.int .i64 x.fAt)]
def Hc(x:nu)(left:Int):Int:=thn (aM dA x.sG left) (id)
structure ny where
 fOn:Bool
 ry:Int
 fBy:Int
 af:Str
 sH:List ah
instance:Inhabited ny:=⟨⟨false,0,0,[],[]⟩⟩
@[go_sem] def Rm(o:Bool)(x:ny):AV:=.agg [.v (.bool x.fOn),.v (.int .i64 x.ry),.v (.int .i64 x.fBy),.str x.af,.sl o 3 (x.sH.map (ak o))]
def He(x:ny)(left:Int):Int:=thn (az x.af left) (fun a0=>thn (aM dA x.sH a0) (id))
structure rI where
 rz:List ae
 pL:List ah
 ur:List ah
 yw:Int
 yu:List nu
 gT:ny
instance:Inhabited rI:=⟨⟨[],[],[],0,[],default⟩⟩
@[go_sem] def UH(o:Bool)(x:rI):AV:=.agg [.sl o 19 (x.rz.map (aq o)),.sl o 3 (x.pL.map (ak o)),.sl o 3 (x.ur.map (ak o)),.v (.int .i64 x.yw),.sl o 3 (x.yu.map (oK o)),.v (.bool x.gT.fOn),.v (.int .i64 x.gT.ry),.v (.int .i64 x.gT.fBy),.str x.gT.af,.sl o 3 (x.gT.sH.map (ak o))]
def Ll(x:rI)(left:Int):Int:=thn (aM bP x.rz left) (fun a0=>thn (aM dA x.pL a0) (fun a1=>thn (aM dA x.ur a1) (fun a2=>thn (aM Hc x.yu a2) (fun a3=>thn (He x.gT a3) (id)))))
structure bI where
 af:Str
 ax:Str
instance:Inhabited bI:=⟨⟨[],[]⟩⟩
@[go_sem] def bp(o:Bool)(x:bI):AV:=.agg [.str x.af,.str x.ax]
theorem GG(x:bI):(bp true x).frz=bp false x:=by
 simp only [bp,AV.frz,AV.bS,cond_true]
theorem qO(l:List bI):AV.bS (l.map (bp true))=l.map (bp false):=kU _ _ GG l
def gm(x:bI)(left:Int):Int:=thn (az x.af left) (fun a0=>thn (az x.ax a0) (id))
theorem kz(x:bI)(r:Int)(h:0<=r):gm x r<=r:=cf (fun a0 g0=>cf (fun _ _=>Int.le_refl _) (aJ x.ax a0 g0) g0) (aJ x.af r h) h
structure bh where
 af:Str
 fType:cL
instance:Inhabited bh:=⟨⟨[],default⟩⟩
@[go_sem] def aV(o:Bool)(x:bh):AV:=.agg [.str x.af,.v (.int .i64 x.fType.ai),.sl o 2 (x.fType.av.map (aI o)),.sl o 1 (x.fType.ay.map AV.str),.str x.fType.aN,.str x.fType.aA]
theorem Ds(x:bh):(aV true x).frz=aV false x:=by
 simp only [aV,AV.frz,AV.bS,cond_true,th,dF]
theorem tj(l:List bh):AV.bS (l.map (aV true))=l.map (aV false):=kU _ _ Ds l
def eZ(x:bh)(left:Int):Int:=thn (az x.af left) (fun a0=>thn (dw x.fType a0) (id))
theorem jO(x:bh)(r:Int)(h:0<=r):eZ x r<=r:=cf (fun a0 g0=>cf (fun _ _=>Int.le_refl _) (ku x.fType a0 g0) g0) (aJ x.af r h) h
structure aL where
 af:Str
 aC:List bh
 cD:List ah
instance:Inhabited aL:=⟨⟨[],[],[]⟩⟩
@[go_sem] def aQ(o:Bool)(x:aL):AV:=.agg [.str x.af,.sl o 6 (x.aC.map (aV o)),.sl o 3 (x.cD.map (ak o))]
theorem yz(x:aL):(aQ true x).frz=aQ false x:=by
 simp only [aQ,AV.frz,AV.bS,cond_true,tj,eH]
theorem w8(l:List aL):AV.bS (l.map (aQ true))=l.map (aQ false):=kU _ _ yz l
def dh(x:aL)(left:Int):Int:=thn (az x.af left) (fun a0=>thn (aM eZ x.aC a0) (fun a1=>thn (aM dA x.cD a1) (id)))
theorem ic(x:aL)(r:Int)(h:0<=r):dh x r<=r:=cf (fun a0 g0=>cf (fun a1 g1=>cf (fun _ _=>Int.le_refl _) (bu dA gX x.cD a1 g1) g1) (bu eZ jO x.aC a0 g0) g0) (aJ x.af r h) h
structure bt where
 af:Str
 aX:Str
 fArgs:List bI
 ck:List Str
instance:Inhabited bt:=⟨⟨[],[],[],[]⟩⟩
@[go_sem] def aT(o:Bool)(x:bt):AV:=.agg [.str x.af,.str x.aX,.sl o 2 (x.fArgs.map (bp o)),.sl o 1 (x.ck.map AV.str)]
theorem zA(x:bt):(aT true x).frz=aT false x:=by
 simp only [aT,AV.frz,AV.bS,cond_true,qO,dF]
theorem yA(l:List bt):AV.bS (l.map (aT true))=l.map (aT false):=kU _ _ zA l
def dm(x:bt)(left:Int):Int:=thn (az x.af left) (fun a0=>thn (az x.aX a0) (fun a1=>thn (aM gm x.fArgs a1) (fun a2=>thn (aM az x.ck a2) (id))))
theorem gW(x:bt)(r:Int)(h:0<=r):dm x r<=r:=cf (fun a0 g0=>cf (fun a1 g1=>cf (fun a2 g2=>cf (fun _ _=>Int.le_refl _) (bu az aJ x.ck a2 g2) g2) (bu gm kz x.fArgs a1 g1) g1) (aJ x.aX a0 g0) g0) (aJ x.af r h) h
structure gz where
 bf:List aL
 bV:List bt
instance:Inhabited gz:=⟨⟨[],[]⟩⟩
@[go_sem] def uY(o:Bool)(x:gz):AV:=.agg [.sl o 3 (x.bf.map (aQ o)),.sl o 4 (x.bV.map (aT o))]
def dz(x:gz)(left:Int):Int:=thn (aM dh x.bf left) (fun a0=>thn (aM dm x.bV a0) (id))
theorem pY(x:gz)(r:Int)(h:0<=r):dz x r<=r:=cf (fun a0 g0=>cf (fun _ _=>Int.le_refl _) (bu dm gW x.bV a0 g0) g0) (bu dh ic x.bf r h) h
structure oZ where
 af:Str
 fS:rI
 GA:List ah
 fUp:Bool
 K3:Int
 K4:Bool
instance:Inhabited oZ:=⟨⟨[],default,[],false,0,false⟩⟩
@[go_sem] def AP(o:Bool)(x:oZ):AV:=.agg [.str x.af,.sl o 19 (x.fS.rz.map (aq o)),.sl o 3 (x.fS.pL.map (ak o)),.sl o 3 (x.fS.ur.map (ak o)),.v (.int .i64 x.fS.yw),.sl o 3 (x.fS.yu.map (oK o)),.v (.bool x.fS.gT.fOn),.v (.int .i64 x.fS.gT.ry),.v (.int .i64 x.fS.gT.fBy),.str x.fS.gT.af,.sl o 3 (x.fS.gT.sH.map (ak o)),.sl o 3 (x.GA.map (ak o)),.v (.bool x.fUp),.v (.int .i64 x.K3),.v (.bool x.K4)]
def Jj(x:oZ)(left:Int):Int:=thn (az x.af left) (fun a0=>thn (Ll x.fS a0) (fun a1=>thn (aM dA x.GA a1) (id)))
structure vv where
 zx:Str
 sG:List ah
 mM:Int
instance:Inhabited vv:=⟨⟨[],[],0⟩⟩
@[go_sem] def oR(o:Bool)(x:vv):AV:=.agg [.str x.zx,.sl o 3 (x.sG.map (ak o)),.v (.int .i64 x.mM)]
def Nw(x:vv)(left:Int):Int:=thn (az x.zx left) (fun a0=>thn (aM dA x.sG a0) (id))
structure lh where
 mM:Int
 pK:List vv
instance:Inhabited lh:=⟨⟨0,[]⟩⟩
@[go_sem] def Qb(o:Bool)(x:lh):AV:=.agg [.v (.int .i64 x.mM),.sl o 3 (x.pK.map (oR o))]
def xz(x:lh)(left:Int):Int:=thn (aM Nw x.pK left) (id)
structure pU where
 yt:gz
 wZ:List oZ
 nP:lh
 yx:lh
 Pb:Int
instance:Inhabited pU:=⟨⟨default,[],default,default,0⟩⟩
@[go_sem] def Rn(o:Bool)(x:pU):AV:=.agg [.sl o 3 (x.yt.bf.map (aQ o)),.sl o 4 (x.yt.bV.map (aT o)),.sl o 15 (x.wZ.map (AP o)),.v (.int .i64 x.nP.mM),.sl o 3 (x.nP.pK.map (oR o)),.v (.int .i64 x.yx.mM),.sl o 3 (x.yx.pK.map (oR o)),.v (.int .i64 x.Pb)]
def R1(x:pU)(left:Int):Int:=thn (dz x.yt left) (fun a0=>thn (aM Jj x.wZ a0) (fun a1=>thn (xz x.nP a1) (fun a2=>thn (xz x.yx a2) (id))))
def CN:Nat->Nat
 | 0=>2097152+0
 | _=>2147483648
theorem HV(n:Nat):1048576<=CN n/\CN n<=4611686018427387904:=by unfold CN;first|(split<;>omega)|omega
def lim(sz:Nat):Nat:=if sz<=1 then 1099511627776 else if sz<1000000000 then 2147483648 else CN (sz - 1000000000)
def gD(_:Nat):Nat:=140737488355328
end Go.Dt
