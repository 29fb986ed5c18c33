/- Part of a proof. -/
import Derived.Test.YtbiikafnjialjaaGreatDoorS14
import Derived.Test.YtbiikafnjialjaaGreatDoorS15
set_option linter.all false
set_option maxRecDepth 20000
set_option maxHeartbeats 4000000
open Go.Proofs.Tryz
open List
namespace Go.Proofs
open Go.Ab Go.Dt
section
variable {H : Type} {enc : TypeId × Value -> H} {W : World}
def gr(z:Nat):reachBytes<=iF z:=by have:=reachBytes_lt;unfold iF;omega
instance:Inhabited Dt.dV:=⟨0,0⟩
def wg(x:Dt.dV):List AV:=[.v (.int .i64 x.fLo),.v (.int .i64 x.fHi)]
def Sd{L:gaa}:eX L W wg (aU false) 2:=by
 have:aU false=λx=>.agg (wg x):=by funext x;simp only[go_sem,wg]
 rw[this];exact eX.agg λ_=>rfl
def Sn(n:Nat):aO enc prog W iF n 313 wg (λ_=>True):=by
 refine aO.mono (n:=n+1+1) ?_ Um
 exact aO.struct (P:=prog) (t:=313) (fl:=[(3,0,1),(3,1,1)]) (tot:=2) caa
   (aV.cons (aO.int (k:=.i64) caa) (aV.cons (aO.int (k:=.i64) caa) aV.nil))
   (λp=>⟨p.1,p.2.1⟩) (λp _=>⟨trivial,rfl⟩)
def Qg(x:Dt.dV)(r:Int)(h0:0<=r)(h1:r<=1048576)(h:0<=gB x r):(aU false x).fits lim:=by simp only[aU,AV.fits,AV.dN];exact⟨trivial,trivial,trivial⟩
instance:Inhabited Dt.dq:=⟨0,[],[],[],[]⟩
def TM(x:Dt.dq):List AV:=[.v (.int .i64 x.aj),.sl false 2 (x.ay.map (aU false)),.sl false 1 (x.aB.map AV.str),.str x.aY,.str x.aF]
def Mr(n:Nat):aO enc prog W iF n 115 TM (λ_=>True):=by
 refine aO.mono (n:=n+1+1) ?_ Um
 exact aO.struct (P:=prog) (t:=115) (fl:=[(3,0,1),(113,1,1),(28,2,1),(9,3,1),(9,4,1)]) (tot:=5) caa
   (aV.cons (aO.int (k:=.i64) caa) (aV.cons (aO.slice (e:=313) (bytes:=16) caa daa daa (gr _) Sd (Sn n)) (aV.cons (aO.slice (e:=9) (bytes:=16) caa daa daa (gr _) eX.str (aO.str caa)) (aV.cons (aO.str caa) (aV.cons (aO.str caa) aV.nil)))))
   (λp=>⟨p.1,p.2.1,p.2.2.1,p.2.2.2.1,p.2.2.2.2.1⟩) (λp _=>⟨trivial,rfl⟩)
def JD(x:Dt.dq)(r:Int)(h0:0<=r)(h1:r<=1048576)(h:0<=ed x r):(yE false x).fits lim:=by
 unfold ed at h;obtain⟨a0,h⟩:=aK h;have l0:=bh gB oQ x.ay r h0;obtain⟨a1,h⟩:=aK h;have l1:=bh aC aQ x.aB (aJ gB x.ay r) a0;obtain⟨a2,h⟩:=aK h;have l2:=aQ x.aY (aJ aC x.aB (aJ gB x.ay r)) a1;obtain⟨a3,h⟩:=aK h;have l3:=aQ x.aF (aC x.aY (aJ aC x.aB (aJ gB x.ay r))) a2
 have z0:(AV.ab 2 aU x.ay).fits lim:=fg (f:=gB) oQ x.ay r h0 Um a0 (λy hy r' p q s=>Qg y r' p q s)
 have z1:(AV.al x.aB).fits lim:=fg (f:=aC) aQ x.aB (aJ gB x.ay r) a0 Um a1 (λ_ _ _ _ _ _=>trivial);simp only[AV.fits,AV.dN]at z0 z1;simp only[yE,AV.fits,AV.dN];exact⟨trivial,z0,z1,trivial,trivial,trivial⟩
instance:Inhabited Dt.fH:=⟨[],[]⟩
def yN(x:Dt.fH):List AV:=[.str x.ae,.str x.aq]
def Vg{L:gaa}:eX L W yN (cU false) 2:=by
 have:cU false=λx=>.agg (yN x):=by funext x;simp only[go_sem,yN]
 rw[this];exact eX.agg λ_=>rfl
def Vj(n:Nat):aO enc prog W iF n 394 yN (λ_=>True):=by
 refine aO.mono (n:=n+1+1) ?_ Um
 exact aO.struct (P:=prog) (t:=394) (fl:=[(9,0,1),(9,1,1)]) (tot:=2) caa
   (aV.cons (aO.str caa) (aV.cons (aO.str caa) aV.nil))
   (λp=>⟨p.1,p.2.1⟩) (λp _=>⟨trivial,rfl⟩)
def TB(x:Dt.fH)(r:Int)(h0:0<=r)(h1:r<=1048576)(h:0<=jH x r):(cU false x).fits lim:=by unfold jH at h;obtain⟨a0,h⟩:=aK h;have l0:=aQ x.ae r h0;obtain⟨a1,h⟩:=aK h;have l1:=aQ x.aq (aC x.ae r) a0;simp only[cU,AV.fits,AV.dN];exact⟨trivial,trivial,trivial⟩
instance:Inhabited Dt.GStep:=⟨[],[]⟩
def yO(x:Dt.GStep):List AV:=[.str x.ae,.sl false 2 (x.cK.map (cU false))]
def Vh{L:gaa}:eX L W yO (bg false) 2:=by
 have:bg false=λx=>.agg (yO x):=by funext x;simp only[go_sem,yO]
 rw[this];exact eX.agg λ_=>rfl
def Vk(n:Nat):aO enc prog W iF n 367 yO (λ_=>True):=by
 refine aO.mono (n:=n+1+1) ?_ Um
 exact aO.struct (P:=prog) (t:=367) (fl:=[(9,0,1),(365,1,1)]) (tot:=2) caa
   (aV.cons (aO.str caa) (aV.cons (aO.slice (e:=394) (bytes:=32) caa daa daa (gr _) Vg (Vj n)) aV.nil))
   (λp=>⟨p.1,p.2.1⟩) (λp _=>⟨trivial,rfl⟩)
def TC(x:Dt.GStep)(r:Int)(h0:0<=r)(h1:r<=1048576)(h:0<=jI x r):(bg false x).fits lim:=by
 unfold jI at h;obtain⟨a0,h⟩:=aK h;have l0:=aQ x.ae r h0;obtain⟨a1,h⟩:=aK h;have l1:=bh jH oy x.cK (aC x.ae r) a0
 have z1:(AV.ab 2 cU x.cK).fits lim:=fg (f:=jH) oy x.cK (aC x.ae r) a0 Um a1 (λy hy r' p q s=>TB y r' p q s);simp only[AV.fits,AV.dN]at z1;simp only[bg,AV.fits,AV.dN];exact⟨trivial,z1,trivial⟩
instance:Inhabited Dt.fS:=⟨false,0,[]⟩
def TN(x:Dt.fS):List AV:=[.v (.bool x.dB),.v (.int .i64 x.dQ),.sl false 2 (x.aW.map (bg false))]
def Vm(n:Nat):aO enc prog W iF n 237 TN (λ_=>True):=by
 refine aO.mono (n:=n+1+1) ?_ Um
 exact aO.struct (P:=prog) (t:=237) (fl:=[(4,0,1),(3,1,1),(235,2,1)]) (tot:=3) caa
   (aV.cons (aO.bool caa) (aV.cons (aO.int (k:=.i64) caa) (aV.cons (aO.slice (e:=367) (bytes:=40) caa daa daa (gr _) Vh (Vk n)) aV.nil)))
   (λp=>⟨p.1,p.2.1,p.2.2.1⟩) (λp _=>⟨trivial,rfl⟩)
def TE(x:Dt.fS)(r:Int)(h0:0<=r)(h1:r<=1048576)(h:0<=kU x r):(De false x).fits lim:=by
 unfold kU at h;obtain⟨a0,h⟩:=aK h;have l0:=bh jI oz x.aW r h0
 have z0:(AV.ab 2 bg x.aW).fits lim:=fg (f:=jI) oz x.aW r h0 Um a0 (λy hy r' p q s=>TC y r' p q s);simp only[AV.fits,AV.dN]at z0;simp only[De,AV.fits,AV.dN];exact⟨trivial,trivial,z0,trivial⟩
instance:Inhabited Dt.aZ:=⟨.mk 0 0 [] default []⟩
def yQ(x:Dt.aZ):List AV:=[.v (.int .i64 x.fOp),.v (.int .i64 x.gJ),.str x.cS,.v (.bool x.aF.dB),.v (.int .i64 x.aF.dQ),.sl false 2 (x.aF.aW.map (bg false)),.sl false 7 (x.af.map (aN false))]
def FH{L:gaa}:eX L W yQ (aN false) 7:=by
 have:aN false=λx=>.agg (yQ x):=by funext x;simp only[go_sem,yQ]
 rw[this];exact eX.agg λ_=>rfl
def Mu(n:Nat):aO enc prog W iF n 239 yQ (λ_=>True):=by
 induction n with
 | zero=>exact aO.zero
 | succ n ih =>
  refine aO.mono (n:=n+1+1) ?_ Um
  exact aO.struct (P:=prog) (t:=239) (fl:=[(3,0,1),(3,1,1),(9,2,1),(237,3,3),(116,6,1)]) (tot:=7) caa
   (aV.cons (aO.int (k:=.i64) caa) (aV.cons (aO.int (k:=.i64) caa) (aV.cons (aO.str caa) (aV.cons (Vm _) (aV.cons (aO.slice (e:=239) (bytes:=96) caa daa daa (gr _) FH ih) aV.nil)))))
   (λp=>.mk p.1 p.2.1 p.2.2.1 p.2.2.2.1 p.2.2.2.2.1) (λp _=>⟨trivial,rfl⟩)
def JE(x:Dt.aZ)(r:Int)(h0:0<=r)(h1:r<=1048576)(h:0<=cY x r):(aN false x).fits lim:=by
 induction hs:SizeOf.sizeOf x using Nat.strongRecOn generalizing x r with
 | _ n ih =>
  rw[wQ]at h;obtain⟨a0,h⟩:=aK h;have l0:=aQ x.cS r h0;obtain⟨a1,h⟩:=aK h;have l1:=sy x.aF (aC x.cS r) a0;obtain⟨a2,h⟩:=aK h;have l2:=bh cY fT x.af (kU x.aF (aC x.cS r)) a1
  have z1:=TE x.aF (aC x.cS r) a0 Um a1
  have z2:(AV.ab 7 aN x.af).fits lim:=fg (f:=cY) fT x.af (kU x.aF (aC x.cS r)) a1 Um a2 (λy hy r' p q s=>ih (SizeOf.sizeOf y) (by have:=sizeOf_lt_of_mem hy;cases x;simp[Dt.aZ.af]at *;omega) y r' p q s rfl);simp only[De,AV.fits,AV.dN]at z1 z2;simp only[dD,AV.fits,AV.dN];exact⟨trivial,trivial,trivial,z1.1,z1.2.1,z1.2.2.1,z2,trivial⟩
instance:Inhabited Dt.ag:=⟨.mk 0 [] default [] [] [] false false false false 0 0 [] [] []⟩
def th(x:Dt.ag):List AV:=[.v (.int .i64 x.aj),.str x.ae,.v (.int .i64 x.fType.aj),.sl false 2 (x.fType.ay.map (aU false)),.sl false 1 (x.fType.aB.map AV.str),.str x.fType.aY,.str x.fType.aF,.sl false 1 (x.ax.map AV.str),.sl false 1 (x.aH.map AV.str),.str x.bw,.v (.bool x.cX),.v (.bool x.dm),.v (.bool x.bQ),.v (.bool x.ez),.v (.int .i64 x.iH),.v (.int .i64 x.iI),.sl false 7 (x.bP.map (aN false)),.sl false 7 (x.cE.map (aN false)),.sl false 19 (x.af.map (ak false))]
def FG{L:gaa}:eX L W th (ak false) 19:=by
 have:ak false=λx=>.agg (th x):=by funext x;simp only[go_sem,th]
 rw[this];exact eX.agg λ_=>rfl
def O6(n:Nat):aO enc prog W iF n 118 th (λ_=>True):=by
 induction n with
 | zero=>exact aO.zero
 | succ n ih =>
  refine aO.mono (n:=n+1+1) ?_ Um
  exact aO.struct (P:=prog) (t:=118) (fl:=[(3,0,1),(9,1,1),(115,2,5),(28,7,1),(28,8,1),(9,9,1),(4,10,1),(4,11,1),(4,12,1),(4,13,1),(3,14,1),(3,15,1),(116,16,1),(116,17,1),(26,18,1)]) (tot:=19) caa
   (aV.cons (aO.int (k:=.i64) caa) (aV.cons (aO.str caa) (aV.cons (Mr _) (aV.cons (aO.slice (e:=9) (bytes:=16) caa daa daa (gr _) eX.str (aO.str caa)) (aV.cons (aO.slice (e:=9) (bytes:=16) caa daa daa (gr _) eX.str (aO.str caa)) (aV.cons (aO.str caa) (aV.cons (aO.bool caa) (aV.cons (aO.bool caa) (aV.cons (aO.bool caa) (aV.cons (aO.bool caa) (aV.cons (aO.int (k:=.i64) caa) (aV.cons (aO.int (k:=.i64) caa) (aV.cons (aO.slice (e:=239) (bytes:=96) caa daa daa (gr _) FH (Mu n)) (aV.cons (aO.slice (e:=239) (bytes:=96) caa daa daa (gr _) FH (Mu n)) (aV.cons (aO.slice (e:=118) (bytes:=272) caa daa daa (gr _) FG ih) aV.nil)))))))))))))))
   (λp=>.mk p.1 p.2.1 p.2.2.1 p.2.2.2.1 p.2.2.2.2.1 p.2.2.2.2.2.1 p.2.2.2.2.2.2.1 p.2.2.2.2.2.2.2.1 p.2.2.2.2.2.2.2.2.1 p.2.2.2.2.2.2.2.2.2.1 p.2.2.2.2.2.2.2.2.2.2.1 p.2.2.2.2.2.2.2.2.2.2.2.1 p.2.2.2.2.2.2.2.2.2.2.2.2.1 p.2.2.2.2.2.2.2.2.2.2.2.2.2.1 p.2.2.2.2.2.2.2.2.2.2.2.2.2.2.1) (λp _=>⟨trivial,rfl⟩)
def NL(x:Dt.ag)(r:Int)(h0:0<=r)(h1:r<=1048576)(h:0<=ck x r):(ak false x).fits lim:=by
 induction hs:SizeOf.sizeOf x using Nat.strongRecOn generalizing x r with
 | _ n ih =>
  rw[tz]at h;obtain⟨a0,h⟩:=aK h;have l0:=aQ x.ae r h0;obtain⟨a1,h⟩:=aK h;have l1:=mI x.fType (aC x.ae r) a0;obtain⟨a2,h⟩:=aK h;have l2:=bh aC aQ x.ax (ed x.fType (aC x.ae r)) a1;obtain⟨a3,h⟩:=aK h;have l3:=bh aC aQ x.aH (aJ aC x.ax (ed x.fType (aC x.ae r))) a2;obtain⟨a4,h⟩:=aK h;have l4:=aQ x.bw (aJ aC x.aH (aJ aC x.ax (ed x.fType (aC x.ae r)))) a3;obtain⟨a5,h⟩:=aK h;have l5:=bh cY fT x.bP (aC x.bw (aJ aC x.aH (aJ aC x.ax (ed x.fType (aC x.ae r))))) a4;obtain⟨a6,h⟩:=aK h;have l6:=bh cY fT x.cE (aJ cY x.bP (aC x.bw (aJ aC x.aH (aJ aC x.ax (ed x.fType (aC x.ae r)))))) a5;obtain⟨a7,h⟩:=aK h;have l7:=bh ck gQ x.af (aJ cY x.cE (aJ cY x.bP (aC x.bw (aJ aC x.aH (aJ aC x.ax (ed x.fType (aC x.ae r))))))) a6
  have z1:=JD x.fType (aC x.ae r) a0 Um a1
  have z2:(AV.al x.ax).fits lim:=fg (f:=aC) aQ x.ax (ed x.fType (aC x.ae r)) a1 Um a2 (λ_ _ _ _ _ _=>trivial)
  have z3:(AV.al x.aH).fits lim:=fg (f:=aC) aQ x.aH (aJ aC x.ax (ed x.fType (aC x.ae r))) a2 Um a3 (λ_ _ _ _ _ _=>trivial)
  have z5:(AV.ab 7 aN x.bP).fits lim:=fg (f:=cY) fT x.bP (aC x.bw (aJ aC x.aH (aJ aC x.ax (ed x.fType (aC x.ae r))))) a4 Um a5 (λy hy r' p q s=>JE y r' p q s)
  have z6:(AV.ab 7 aN x.cE).fits lim:=fg (f:=cY) fT x.cE (aJ cY x.bP (aC x.bw (aJ aC x.aH (aJ aC x.ax (ed x.fType (aC x.ae r)))))) a5 Um a6 (λy hy r' p q s=>JE y r' p q s)
  have z7:(AV.ab 19 ak x.af).fits lim:=fg (f:=ck) gQ x.af (aJ cY x.cE (aJ cY x.bP (aC x.bw (aJ aC x.aH (aJ aC x.ax (ed x.fType (aC x.ae r))))))) a6 Um a7 (λy hy r' p q s=>ih (SizeOf.sizeOf y) (by have:=sizeOf_lt_of_mem hy;cases x;simp[Dt.ag.af]at *;omega) y r' p q s rfl);simp only[yE,AV.fits,AV.dN]at z1 z2 z3 z5 z6 z7;simp only[dC,AV.fits,AV.dN];exact⟨trivial,trivial,z1.1,z1.2.1,z1.2.2.1,z1.2.2.2.1,z1.2.2.2.2.1,z2,z3,trivial,trivial,trivial,trivial,trivial,trivial,trivial,z5,z6,z7,trivial⟩
instance:Inhabited Dt.ah:=⟨.mk [] [] []⟩
def yP(x:Dt.ah):List AV:=[.str x.ae,.str x.aq,.sl false 3 (x.af.map (ai false))]
def rH{L:gaa}:eX L W yP (ai false) 3:=by
 have:ai false=λx=>.agg (yP x):=by funext x;simp only[go_sem,yP]
 rw[this];exact eX.agg λ_=>rfl
def uf(n:Nat):aO enc prog W iF n 153 yP (λ_=>True):=by
 induction n with
 | zero=>exact aO.zero
 | succ n ih =>
  refine aO.mono (n:=n+1+1) ?_ Um
  exact aO.struct (P:=prog) (t:=153) (fl:=[(9,0,1),(9,1,1),(57,2,1)]) (tot:=3) caa
   (aV.cons (aO.str caa) (aV.cons (aO.str caa) (aV.cons (aO.slice (e:=153) (bytes:=56) caa daa daa (gr _) rH ih) aV.nil)))
   (λp=>.mk p.1 p.2.1 p.2.2.1) (λp _=>⟨trivial,rfl⟩)
def q9(x:Dt.ah)(r:Int)(h0:0<=r)(h1:r<=1048576)(h:0<=bF x r):(ai false x).fits lim:=by
 induction hs:SizeOf.sizeOf x using Nat.strongRecOn generalizing x r with
 | _ n ih =>
  rw[wP]at h;obtain⟨a0,h⟩:=aK h;have l0:=aQ x.ae r h0;obtain⟨a1,h⟩:=aK h;have l1:=aQ x.aq (aC x.ae r) a0;obtain⟨a2,h⟩:=aK h;have l2:=bh bF cy x.af (aC x.aq (aC x.ae r)) a1
  have z2:(AV.ab 3 ai x.af).fits lim:=fg (f:=bF) cy x.af (aC x.aq (aC x.ae r)) a1 Um a2 (λy hy r' p q s=>ih (SizeOf.sizeOf y) (by have:=sizeOf_lt_of_mem hy;cases x;simp[Dt.ah.af]at *;omega) y r' p q s rfl);simp only[AV.fits,AV.dN]at z2;simp only[bO,AV.fits,AV.dN];exact⟨trivial,trivial,z2,trivial⟩
instance:Inhabited Dt.fE:=⟨[],0,0⟩
def qR(x:Dt.fE):List AV:=[.sl false 3 (x.fc.map (ai false)),.v (.int .i64 x.fBy),.v (.int .i64 x.fAt)]
def Mh{L:gaa}:eX L W qR (bM false) 3:=by
 have:bM false=λx=>.agg (qR x):=by funext x;simp only[go_sem,qR]
 rw[this];exact eX.agg λ_=>rfl
def Mq(n:Nat):aO enc prog W iF n 285 qR (λ_=>True):=by
 refine aO.mono (n:=n+1+1) ?_ Um
 exact aO.struct (P:=prog) (t:=285) (fl:=[(57,0,1),(3,1,1),(3,2,1)]) (tot:=3) caa
   (aV.cons (aO.slice (e:=153) (bytes:=56) caa daa daa (gr _) rH (uf n)) (aV.cons (aO.int (k:=.i64) caa) (aV.cons (aO.int (k:=.i64) caa) aV.nil)))
   (λp=>⟨p.1,p.2.1,p.2.2.1⟩) (λp _=>⟨trivial,rfl⟩)
def K7(x:Dt.fE)(r:Int)(h0:0<=r)(h1:r<=1048576)(h:0<=eY x r):(bM false x).fits lim:=by
 unfold eY at h;obtain⟨a0,h⟩:=aK h;have l0:=bh bF cy x.fc r h0
 have z0:(AV.ab 3 ai x.fc).fits lim:=fg (f:=bF) cy x.fc r h0 Um a0 (λy hy r' p q s=>q9 y r' p q s);simp only[AV.fits,AV.dN]at z0;simp only[bM,AV.fits,AV.dN];exact⟨z0,trivial,trivial,trivial⟩
instance:Inhabited Dt.iT:=⟨false,0,0,[],[]⟩
def Lv(x:Dt.iT):List AV:=[.v (.bool x.fOn),.v (.int .i64 x.ij),.v (.int .i64 x.fBy),.str x.ae,.sl false 3 (x.dZ.map (ai false))]
def Mt(n:Nat):aO enc prog W iF n 64 Lv (λ_=>True):=by
 refine aO.mono (n:=n+1+1) ?_ Um
 exact aO.struct (P:=prog) (t:=64) (fl:=[(4,0,1),(3,1,1),(3,2,1),(9,3,1),(57,4,1)]) (tot:=5) caa
   (aV.cons (aO.bool caa) (aV.cons (aO.int (k:=.i64) caa) (aV.cons (aO.int (k:=.i64) caa) (aV.cons (aO.str caa) (aV.cons (aO.slice (e:=153) (bytes:=56) caa daa daa (gr _) rH (uf n)) aV.nil)))))
   (λp=>⟨p.1,p.2.1,p.2.2.1,p.2.2.2.1,p.2.2.2.2.1⟩) (λp _=>⟨trivial,rfl⟩)
def K9(x:Dt.iT)(r:Int)(h0:0<=r)(h1:r<=1048576)(h:0<=kQ x r):(vR false x).fits lim:=by
 unfold kQ at h;obtain⟨a0,h⟩:=aK h;have l0:=aQ x.ae r h0;obtain⟨a1,h⟩:=aK h;have l1:=bh bF cy x.dZ (aC x.ae r) a0
 have z1:(AV.ab 3 ai x.dZ).fits lim:=fg (f:=bF) cy x.dZ (aC x.ae r) a0 Um a1 (λy hy r' p q s=>q9 y r' p q s);simp only[AV.fits,AV.dN]at z1;simp only[vR,AV.fits,AV.dN];exact⟨trivial,trivial,trivial,trivial,z1,trivial⟩
instance:Inhabited Dt.lA:=⟨[],[],[],0,[],default⟩
def Qz(x:Dt.lA):List AV:=[.sl false 19 (x.aP.map (ak false)),.sl false 3 (x.bf.map (ai false)),.sl false 3 (x.cw.map (ai false)),.v (.int .i64 x.lg),.sl false 3 (x.dS.map (bM false)),.v (.bool x.bG.fOn),.v (.int .i64 x.bG.ij),.v (.int .i64 x.bG.fBy),.str x.bG.ae,.sl false 3 (x.bG.dZ.map (ai false))]
def Sm(n:Nat):aO enc prog W iF n 66 Qz (λ_=>True):=by
 refine aO.mono (n:=n+1+1) ?_ Um
 exact aO.struct (P:=prog) (t:=66) (fl:=[(26,0,1),(57,1,1),(57,2,1),(3,3,1),(62,4,1),(64,5,5)]) (tot:=10) caa
   (aV.cons (aO.slice (e:=118) (bytes:=272) caa daa daa (gr _) FG (O6 n)) (aV.cons (aO.slice (e:=153) (bytes:=56) caa daa daa (gr _) rH (uf n)) (aV.cons (aO.slice (e:=153) (bytes:=56) caa daa daa (gr _) rH (uf n)) (aV.cons (aO.int (k:=.i64) caa) (aV.cons (aO.slice (e:=285) (bytes:=40) caa daa daa (gr _) Mh (Mq n)) (aV.cons (Mt _) aV.nil))))))
   (λp=>⟨p.1,p.2.1,p.2.2.1,p.2.2.2.1,p.2.2.2.2.1,p.2.2.2.2.2.1⟩) (λp _=>⟨trivial,rfl⟩)
def Qf(x:Dt.lA)(r:Int)(h0:0<=r)(h1:r<=1048576)(h:0<=jw x r):(Am false x).fits lim:=by
 unfold jw at h;obtain⟨a0,h⟩:=aK h;have l0:=bh ck gQ x.aP r h0;obtain⟨a1,h⟩:=aK h;have l1:=bh bF cy x.bf (aJ ck x.aP r) a0;obtain⟨a2,h⟩:=aK h;have l2:=bh bF cy x.cw (aJ bF x.bf (aJ ck x.aP r)) a1;obtain⟨a3,h⟩:=aK h;have l3:=bh eY lO x.dS (aJ bF x.cw (aJ bF x.bf (aJ ck x.aP r))) a2;obtain⟨a4,h⟩:=aK h;have l4:=rC x.bG (aJ eY x.dS (aJ bF x.cw (aJ bF x.bf (aJ ck x.aP r)))) a3
 have z0:(AV.ab 19 ak x.aP).fits lim:=fg (f:=ck) gQ x.aP r h0 Um a0 (λy hy r' p q s=>NL y r' p q s)
 have z1:(AV.ab 3 ai x.bf).fits lim:=fg (f:=bF) cy x.bf (aJ ck x.aP r) a0 Um a1 (λy hy r' p q s=>q9 y r' p q s)
 have z2:(AV.ab 3 ai x.cw).fits lim:=fg (f:=bF) cy x.cw (aJ bF x.bf (aJ ck x.aP r)) a1 Um a2 (λy hy r' p q s=>q9 y r' p q s)
 have z3:(AV.ab 3 bM x.dS).fits lim:=fg (f:=eY) lO x.dS (aJ bF x.cw (aJ bF x.bf (aJ ck x.aP r))) a2 Um a3 (λy hy r' p q s=>K7 y r' p q s)
 have z4:=K9 x.bG (aJ eY x.dS (aJ bF x.cw (aJ bF x.bf (aJ ck x.aP r)))) a3 Um a4;simp only[vR,AV.fits,AV.dN]at z0 z1 z2 z3 z4;simp only[Am,AV.fits,AV.dN];exact⟨z0,z1,z2,trivial,z3,z4.1,z4.2.1,z4.2.2.1,z4.2.2.2.1,z4.2.2.2.2.1,trivial⟩
instance:Inhabited Dt.cu:=⟨[],[]⟩
def Cc(x:Dt.cu):List AV:=[.str x.ae,.str x.aq]
def Yp{L:gaa}:eX L W Cc (bS false) 2:=by
 have:bS false=λx=>.agg (Cc x):=by funext x;simp only[go_sem,Cc]
 rw[this];exact eX.agg λ_=>rfl
def Yr(n:Nat):aO enc prog W iF n 179 Cc (λ_=>True):=by
 refine aO.mono (n:=n+1+1) ?_ Um
 exact aO.struct (P:=prog) (t:=179) (fl:=[(9,0,1),(9,1,1)]) (tot:=2) caa
   (aV.cons (aO.str caa) (aV.cons (aO.str caa) aV.nil))
   (λp=>⟨p.1,p.2.1⟩) (λp _=>⟨trivial,rfl⟩)
def Wp(x:Dt.cu)(r:Int)(h0:0<=r)(h1:r<=1048576)(h:0<=iK x r):(bS false x).fits lim:=by unfold iK at h;obtain⟨a0,h⟩:=aK h;have l0:=aQ x.ae r h0;obtain⟨a1,h⟩:=aK h;have l1:=aQ x.aq (aC x.ae r) a0;simp only[bS,AV.fits,AV.dN];exact⟨trivial,trivial,trivial⟩
instance:Inhabited Dt.bH:=⟨[],default⟩
def wh(x:Dt.bH):List AV:=[.str x.ae,.v (.int .i64 x.fType.aj),.sl false 2 (x.fType.ay.map (aU false)),.sl false 1 (x.fType.aB.map AV.str),.str x.fType.aY,.str x.fType.aF]
def Sg{L:gaa}:eX L W wh (bt false) 6:=by
 have:bt false=λx=>.agg (wh x):=by funext x;simp only[go_sem,wh]
 rw[this];exact eX.agg λ_=>rfl
def Sp(n:Nat):aO enc prog W iF n 294 wh (λ_=>True):=by
 refine aO.mono (n:=n+1+1) ?_ Um
 exact aO.struct (P:=prog) (t:=294) (fl:=[(9,0,1),(115,1,5)]) (tot:=6) caa
   (aV.cons (aO.str caa) (aV.cons (Mr _) aV.nil))
   (λp=>⟨p.1,p.2.1⟩) (λp _=>⟨trivial,rfl⟩)
def Qh(x:Dt.bH)(r:Int)(h0:0<=r)(h1:r<=1048576)(h:0<=gC x r):(bt false x).fits lim:=by
 unfold gC at h;obtain⟨a0,h⟩:=aK h;have l0:=aQ x.ae r h0;obtain⟨a1,h⟩:=aK h;have l1:=mI x.fType (aC x.ae r) a0
 have z1:=JD x.fType (aC x.ae r) a0 Um a1;simp only[yE,AV.fits,AV.dN]at z1;simp only[bt,AV.fits,AV.dN];exact⟨trivial,z1.1,z1.2.1,z1.2.2.1,z1.2.2.2.1,z1.2.2.2.2.1,trivial⟩
instance:Inhabited Dt.aD:=⟨[],[],[]⟩
def p4(x:Dt.aD):List AV:=[.str x.ae,.sl false 6 (x.aG.map (bt false)),.sl false 3 (x.dh.map (ai false))]
def Kt{L:gaa}:eX L W p4 (aR false) 3:=by
 have:aR false=λx=>.agg (p4 x):=by funext x;simp only[go_sem,p4]
 rw[this];exact eX.agg λ_=>rfl
def Ku(n:Nat):aO enc prog W iF n 174 p4 (λ_=>True):=by
 refine aO.mono (n:=n+1+1) ?_ Um
 exact aO.struct (P:=prog) (t:=174) (fl:=[(9,0,1),(172,1,1),(57,2,1)]) (tot:=3) caa
   (aV.cons (aO.str caa) (aV.cons (aO.slice (e:=294) (bytes:=104) caa daa daa (gr _) Sg (Sp n)) (aV.cons (aO.slice (e:=153) (bytes:=56) caa daa daa (gr _) rH (uf n)) aV.nil)))
   (λp=>⟨p.1,p.2.1,p.2.2.1⟩) (λp _=>⟨trivial,rfl⟩)
def Ih(x:Dt.aD)(r:Int)(h0:0<=r)(h1:r<=1048576)(h:0<=dH x r):(aR false x).fits lim:=by
 unfold dH at h;obtain⟨a0,h⟩:=aK h;have l0:=aQ x.ae r h0;obtain⟨a1,h⟩:=aK h;have l1:=bh gC lZ x.aG (aC x.ae r) a0;obtain⟨a2,h⟩:=aK h;have l2:=bh bF cy x.dh (aJ gC x.aG (aC x.ae r)) a1
 have z1:(AV.ab 6 bt x.aG).fits lim:=fg (f:=gC) lZ x.aG (aC x.ae r) a0 Um a1 (λy hy r' p q s=>Qh y r' p q s)
 have z2:(AV.ab 3 ai x.dh).fits lim:=fg (f:=bF) cy x.dh (aJ gC x.aG (aC x.ae r)) a1 Um a2 (λy hy r' p q s=>q9 y r' p q s);simp only[AV.fits,AV.dN]at z1 z2;simp only[aR,AV.fits,AV.dN];exact⟨trivial,z1,z2,trivial⟩
instance:Inhabited Dt.bp:=⟨[],[],[],[]⟩
def qT(x:Dt.bp):List AV:=[.str x.ae,.str x.bz,.sl false 2 (x.fArgs.map (bS false)),.sl false 1 (x.bV.map AV.str)]
def Mi{L:gaa}:eX L W qT (aX false) 4:=by
 have:aX false=λx=>.agg (qT x):=by funext x;simp only[go_sem,qT]
 rw[this];exact eX.agg λ_=>rfl
def Ms(n:Nat):aO enc prog W iF n 30 qT (λ_=>True):=by
 refine aO.mono (n:=n+1+1) ?_ Um
 exact aO.struct (P:=prog) (t:=30) (fl:=[(9,0,1),(9,1,1),(27,2,1),(28,3,1)]) (tot:=4) caa
   (aV.cons (aO.str caa) (aV.cons (aO.str caa) (aV.cons (aO.slice (e:=179) (bytes:=32) caa daa daa (gr _) Yp (Yr n)) (aV.cons (aO.slice (e:=9) (bytes:=16) caa daa daa (gr _) eX.str (aO.str caa)) aV.nil))))
   (λp=>⟨p.1,p.2.1,p.2.2.1,p.2.2.2.1⟩) (λp _=>⟨trivial,rfl⟩)
def K8(x:Dt.bp)(r:Int)(h0:0<=r)(h1:r<=1048576)(h:0<=fk x r):(aX false x).fits lim:=by
 unfold fk at h;obtain⟨a0,h⟩:=aK h;have l0:=aQ x.ae r h0;obtain⟨a1,h⟩:=aK h;have l1:=aQ x.bz (aC x.ae r) a0;obtain⟨a2,h⟩:=aK h;have l2:=bh iK nY x.fArgs (aC x.bz (aC x.ae r)) a1;obtain⟨a3,h⟩:=aK h;have l3:=bh aC aQ x.bV (aJ iK x.fArgs (aC x.bz (aC x.ae r))) a2
 have z2:(AV.ab 2 bS x.fArgs).fits lim:=fg (f:=iK) nY x.fArgs (aC x.bz (aC x.ae r)) a1 Um a2 (λy hy r' p q s=>Wp y r' p q s)
 have z3:(AV.al x.bV).fits lim:=fg (f:=aC) aQ x.bV (aJ iK x.fArgs (aC x.bz (aC x.ae r))) a2 Um a3 (λ_ _ _ _ _ _=>trivial);simp only[AV.fits,AV.dN]at z2 z3;simp only[aX,AV.fits,AV.dN];exact⟨trivial,trivial,z2,z3,trivial⟩
instance:Inhabited Dt.iC:=⟨[],[]⟩
def JZ(x:Dt.iC):List AV:=[.sl false 3 (x.aL.map (aR false)),.sl false 4 (x.ba.map (aX false))]
def Vl(n:Nat):aO enc prog W iF n 25 JZ (λ_=>True):=by
 refine aO.mono (n:=n+1+1) ?_ Um
 exact aO.struct (P:=prog) (t:=25) (fl:=[(22,0,1),(23,1,1)]) (tot:=2) caa
   (aV.cons (aO.slice (e:=174) (bytes:=64) caa daa daa (gr _) Kt (Ku n)) (aV.cons (aO.slice (e:=30) (bytes:=80) caa daa daa (gr _) Mi (Ms n)) aV.nil))
   (λp=>⟨p.1,p.2.1⟩) (λp _=>⟨trivial,rfl⟩)
def TD(x:Dt.iC)(r:Int)(h0:0<=r)(h1:r<=1048576)(h:0<=kP x r):(yF false x).fits lim:=by
 unfold kP at h;obtain⟨a0,h⟩:=aK h;have l0:=bh dH iV x.aL r h0;obtain⟨a1,h⟩:=aK h;have l1:=bh fk j8 x.ba (aJ dH x.aL r) a0
 have z0:(AV.ab 3 aR x.aL).fits lim:=fg (f:=dH) iV x.aL r h0 Um a0 (λy hy r' p q s=>Ih y r' p q s)
 have z1:(AV.ab 4 aX x.ba).fits lim:=fg (f:=fk) j8 x.ba (aJ dH x.aL r) a0 Um a1 (λy hy r' p q s=>K8 y r' p q s);simp only[AV.fits,AV.dN]at z0 z1;simp only[yF,AV.fits,AV.dN];exact⟨z0,z1,trivial⟩
instance:Inhabited Dt.dx:=⟨[],default,[],false,0,false⟩
def tj(x:Dt.dx):List AV:=[.str x.ae,.sl false 19 (x.av.aP.map (ak false)),.sl false 3 (x.av.bf.map (ai false)),.sl false 3 (x.av.cw.map (ai false)),.v (.int .i64 x.av.lg),.sl false 3 (x.av.dS.map (bM false)),.v (.bool x.av.bG.fOn),.v (.int .i64 x.av.bG.ij),.v (.int .i64 x.av.bG.fBy),.str x.av.bG.ae,.sl false 3 (x.av.bG.dZ.map (ai false)),.sl false 3 (x.dF.map (ai false)),.v (.bool x.fUp),.v (.int .i64 x.vO),.v (.bool x.vP)]
def O3{L:gaa}:eX L W tj (cn false) 15:=by
 have:cn false=λx=>.agg (tj x):=by funext x;simp only[go_sem,tj]
 rw[this];exact eX.agg λ_=>rfl
def O7(n:Nat):aO enc prog W iF n 68 tj (λ_=>True):=by
 refine aO.mono (n:=n+1+1) ?_ Um
 exact aO.struct (P:=prog) (t:=68) (fl:=[(9,0,1),(66,1,10),(57,11,1),(4,12,1),(3,13,1),(4,14,1)]) (tot:=15) caa
   (aV.cons (aO.str caa) (aV.cons (Sm _) (aV.cons (aO.slice (e:=153) (bytes:=56) caa daa daa (gr _) rH (uf n)) (aV.cons (aO.bool caa) (aV.cons (aO.int (k:=.i64) caa) (aV.cons (aO.bool caa) aV.nil))))))
   (λp=>⟨p.1,p.2.1,p.2.2.1,p.2.2.2.1,p.2.2.2.2.1,p.2.2.2.2.2.1⟩) (λp _=>⟨trivial,rfl⟩)
def NM(x:Dt.dx)(r:Int)(h0:0<=r)(h1:r<=1048576)(h:0<=da x r):(cn false x).fits lim:=by
 unfold da at h;obtain⟨a0,h⟩:=aK h;have l0:=aQ x.ae r h0;obtain⟨a1,h⟩:=aK h;have l1:=qK x.av (aC x.ae r) a0;obtain⟨a2,h⟩:=aK h;have l2:=bh bF cy x.dF (jw x.av (aC x.ae r)) a1
 have z1:=Qf x.av (aC x.ae r) a0 Um a1
 have z2:(AV.ab 3 ai x.dF).fits lim:=fg (f:=bF) cy x.dF (jw x.av (aC x.ae r)) a1 Um a2 (λy hy r' p q s=>q9 y r' p q s);simp only[Am,AV.fits,AV.dN]at z1 z2;simp only[cn,AV.fits,AV.dN];exact⟨trivial,z1.1,z1.2.1,z1.2.2.1,z1.2.2.2.1,z1.2.2.2.2.1,z1.2.2.2.2.2.1,z1.2.2.2.2.2.2.1,z1.2.2.2.2.2.2.2.1,z1.2.2.2.2.2.2.2.2.1,z1.2.2.2.2.2.2.2.2.2.1,z2,trivial,trivial,trivial,trivial⟩
instance:Inhabited Dt.iw:=⟨[],[],0⟩
def adI(x:Dt.iw):List AV:=[.str x.uF,.sl false 3 (x.fc.map (ai false)),.v (.int .i64 x.ik)]
instance:Inhabited Dt.ib:=⟨0,[]⟩
def XN(x:Dt.ib):List AV:=[.v (.int .i64 x.ik),.sl false 3 (x.eu.map (cz false))]
instance:Inhabited Dt.ox:=⟨default,[],default,default,0⟩
def Zh(x:Dt.ox):List AV:=[.sl false 3 (x.lK.aL.map (aR false)),.sl false 4 (x.lK.ba.map (aX false)),.sl false 15 (x.n9.map (cn false)),.v (.int .i64 x.lh.ik),.sl false 3 (x.lh.eu.map (cz false)),.v (.int .i64 x.sX.ik),.sl false 3 (x.sX.eu.map (cz false)),.v (.int .i64 x.Qk)]
end
section
set_option maxHeartbeats 2000000
instance(k:Int):Ctr lim prog 75 [] [.aa k] (.str (mkT k)) [] (k<=1099511627776):=by
 refine Ctr.bd func75 ntmps75 λhp=>?_
 (refine vU2 ?_ ?_<;>intro h)
 ·rw[mkT,if_pos h]
 obtain⟨n,rfl⟩:∃n:Nat,k=n:=⟨k.toNat,Um⟩
 refine AW.aw [0,3] [] (λm xs o=>∃(j:Nat) (out:Str),xs=[.aa j,.str out]/\o=[]/\m=j/\out.length+j<=n/\vV j out=vV n []) n [] trivial ⟨n,[],?_,rfl,rfl,?_,rfl⟩ ?_
 ·rfl
 ·simp
 rintro m xs o ⟨j,out,rfl,rfl,rfl,hl,hR⟩
 (refine vU2 ?_ ?_<;>intro h)
 ·rw[Qr Um]at hR;exact⟨_,[_,_],[],Um,⟨m / 10,_,rfl,rfl,rfl,by simp;omega,hR⟩,by rw[show (48+((m % 10:Nat):Int)).toNat=48+m % 10 by omega];rfl,trivial⟩
 ·have:m=0:=by omega
  subst this;rw[NV]at hR;rw[mkT,if_neg Um,Int.toNat_natCast,hR]
instance(L:gaa)[hL:Lok L](l:List Str):Ctr L prog 47 [] [.al l,.al l] (.ac true) [] True:=by
 refine Ctr.bd func47 ntmps47 λhp=>?_;refine AW.f0 0 λhf=>?_;have hf:=Nat.le_trans hf (hL.le 1)
 (refine vU1 ?_;intro h)
 refine AW.aw [5] [0,1] (λm xs o=>∃k:Nat,xs=[.aa k]/\o=[]/\m=l.length - k/\k<=l.length) l.length [] trivial ⟨0,?_,rfl,rfl,?_⟩ ?_
 ·rfl
 ·omega
 rintro m xs o ⟨k,rfl,rfl,rfl,hk⟩
 (refine vU1 ?_;intro h h)
 exact⟨_,[_],[],Um,⟨k+1,rfl,rfl,rfl,Um⟩,rfl,trivial⟩
theorem Er(b:Nat)(l:List Str)(k:Int):Ctr lim prog 50 [(b,some ((l.map AV.str).flatMap AV.cells))] [.arr b 0 (l.map AV.str).length 1,.aa k] (.aa (k+l.length)) [some (((mks l.length k).map AV.str).flatMap AV.cells)] (0<=k/\k+l.length<=1099511627776):=by
 simp only[G9,length_map];refine Ctr.bd func50 ntmps50 λhp=>?_;refine vU1 ?_;refine AW.aw [1,5] [0] (λm xs o=>∃i:Nat,xs=[.aa (k+i),.aa i]/\o=[(b,some ((mkd l k i).map AV.str))]/\m=l.length - i/\i<=l.length) l.length [(b,some (l.map AV.str))] (aE rfl) ⟨0,?_,?_,rfl,?_⟩ ?_
 ·simp[T]
 ·simp[mkd,mks]
 ·omega
 rintro m xs o ⟨i,rfl,rfl,rfl,hi⟩;have hml:=SD l k i hi
 (refine vU3 ?_ ?_ ?_<;>intro h)
 ·exact⟨_,[_,_],_,Um,⟨i+1,by rw[show k+((i+1:Nat):Int)=k+i+1 by omega],rfl,rfl,Um⟩,rfl,aE (Ph l k i h).symm⟩
 ·rw[show i=l.length by omega]
 ·rw[show i=l.length by omega,mkd,drop_of_length_le (Nat.le_refl _),append_nil]
instance Ep(l:List Str)(k:Int):fI lim prog 50 1 (l.map AV.str) [.aa k] (.aa (k+l.length)) ((mks l.length k).map AV.str) (0<=k/\k+l.length<=1099511627776):=by
 refine fI.of (aT 50) (λb=>Er b l k) (λe=>?_) (by simp[qX]) (by simpa[all_eq_true]using Cq l) (by simpa[all_eq_true]using Cq (mks l.length k));have:l=[]:=by simpa using e
 subst this;refine⟨?_,rfl⟩;refine Ctr.bd func50 ntmps50 λhp=>?_;refine vU1 ?_;refine AW.aw [] [0,1,5] (λm xs o=>xs=[]/\o=[]) 0 [] trivial ⟨rfl,rfl⟩ ?_;rintro m xs o ⟨rfl,rfl⟩
 (refine vU1 ?_;intro h)
 simp
end
def UN{L:gaa}{P:Program}{c:Code}{n:Nat}{t:faa}{o:Sto}{Q:Exit->AS->Prop}(i:Nat){own:Bool}{l:List Str}(hi:T t i=.sl own 1 (l.map AV.str))(h:(∀k,k<l.length->(at_ l k).length<=4611686018427387904)->AW L P c ⟨n,t,o⟩ Q):AW L P c ⟨n,t,o⟩ Q:=by
 intro B F0 w0 a w hd;refine h (λk hk=>?_) B F0 w0 a w hd;obtain⟨F,ow,fp,fs,h⟩:=hd;have hr:=h.slots i;simp only at hr;rw[hi]at hr;simp only[Rep]at hr;rcases hr with⟨_,e,_⟩|⟨b,off,cap,vals,fp',_,_,_,_,he,_⟩
 ·have:l=[]:=by simpa using e
  subst this;simp at hk
 ·obtain⟨y,f,_,_,hr,_⟩:=he.get (i:=k) (x:=.str (at_ l k)) (by rw[getElem?_map,uL hk];rfl);simp only[Rep]at hr;exact hr.2.1
instance(L:gaa)[hL:Lok L](l:List Str)(r:Int):Ctr L prog 56 [] [.al l,.aa r] (.aa (aJ aC l r)) [] (0<=r/\r<=1048576):=by
 refine Ctr.bd func56 ntmps56 λhp=>?_;refine UN 0 rfl λhfs=>?_;refine AW.f0 0 λhf=>?_;have hf:=Nat.le_trans hf (hL.le 1)
 (refine vU2 ?_ ?_<;>intro h)
 ·rw[gf h]
 rw[gF h];refine AW.aw [1,5] [0] (λm xs o=>∃(k:Nat) (q:Int),xs=[.aa q,.aa k]/\o=[]/\m=l.length - k/\k<=l.length/\0<=q/\q<=1048576/\eS aC (l.drop k) q=eS aC l (r - l.length)) l.length [] trivial ⟨0,_,?_,rfl,rfl,?_,?_,?_,rfl⟩ ?_
 ·rfl
 ·omega
 ·omega
 ·omega
 rintro m xs o ⟨k,q,rfl,rfl,rfl,hk,h0,h1,hR⟩;have hle:=aQ (at_ l k) q h0
 have hse:=hfs k
 have hsz:aC (at_ l k) q=q - (at_ l k).length:=rfl
 (refine vU3 ?_ ?_ ?_<;>with_reducible repeat intro h)
 ·rw[fF baa,if_pos (by first|exact h|(rw[hsz];exact h))]at hR;rw[hR]
 ·rw[fF baa,if_neg Um]at hR;exact⟨_,[_,_],[],Um,⟨k+1,_,rfl,rfl,rfl,Um,Um,Um,hR⟩,rfl,trivial⟩
 ·rw[jA h]at hR;rw[hR]
instance(l:List Str):Ctr lim prog 64 [] [.al l] (.am l) [] True:=by
 refine Ctr.bd func64 ntmps64 λhp=>?_;refine AW.f0 0 λhf=>?_
 (refine vU1 ?_;intro h)
 refine AW.aw [4] [0,3] (λm xs o=>∃k:Nat,xs=[.aa k]/\o=[(h,some (mkC AV.str [.string ⟨#[]⟩] l k))]/\m=l.length - k/\k<=l.length) l.length [(h,some (mkC AV.str [.string ⟨#[]⟩] l 0))] (aE (jg _ _ _)) ⟨0,?_,rfl,rfl,?_⟩ ?_
 ·rfl
 ·omega
 rintro m xs o ⟨k,rfl,rfl,rfl,hk⟩;have hml:=j3 AV.str [.string ⟨#[]⟩] 1 (λ_=>rfl) rfl l k hk
 (refine vX2 ?_ ?_<;>intro h)
 ·exact⟨_,[_],_,Um,⟨k+1,rfl,rfl,rfl,Um⟩,rfl,aE (by have:=lT AV.str [.string ⟨#[]⟩] 1 (λ_=>rfl) rfl l k h;simp only[go_sem,Nat.mul_one]at this ⊢;exact this.symm)⟩
 ·refine AW.made 2 rfl h hk (λ_=>rfl) ?_
  all_goals exact uU
instance(L:gaa)[hL:Lok L](x:dV):Ctr L prog 260 [] [.agg [.aa x.fLo,.aa x.fHi],.agg [.aa x.fLo,.aa x.fHi]] (.ac true) [] True:=by
 refine Ctr.bd func260 ntmps260 λhp=>?_
 all_goals exact uU
instance(L:gaa)[hL:Lok L](l:List dV):Ctr L prog 203 [] [.ab 2 aU l,.ab 2 aU l] (.ac true) [] True:=by
 refine Ctr.bd func203 ntmps203 λhp=>?_;refine AW.f0 0 λhf=>?_;have hf:=Nat.le_trans hf (hL.le 2)
 (refine vU1 ?_;intro h)
 refine AW.aw [5] [0,1] (λm xs o=>∃k:Nat,xs=[.aa k]/\o=[]/\m=l.length - k/\k<=l.length) l.length [] trivial ⟨0,?_,rfl,rfl,?_⟩ ?_
 ·rfl
 ·omega
 rintro m xs o ⟨k,rfl,rfl,rfl,hk⟩
 (refine vU1 ?_;intro h h)
 exact⟨_,[_],[],Um,⟨k+1,rfl,rfl,rfl,Um⟩,rfl,trivial⟩
def AR:∀(l:List dV) (r:Int),0<=r->eS gB l r=r
 | [],_,_=>rfl
 | x::xs,r,h=>by
  rw[eS,show gB x r=r from rfl,thn,if_neg Um];exact AR xs r h
instance(L:gaa)[hL:Lok L](l:List dV)(r:Int):Ctr L prog 162 [] [.ab 2 aU l,.aa r] (.aa (aJ gB l r)) [] (0<=r/\r<=1048576):=by
 refine Ctr.bd func162 ntmps162 λhp=>?_;refine AW.f0 0 λhf=>?_;have hf:=Nat.le_trans hf (hL.le 2)
 (refine vU2 ?_ ?_<;>intro h)
 ·rw[gf h]
 ·rw[gF h,AR _ _ h]
instance(x:dV):Ctr lim prog 238 [] [.agg [.aa x.fLo,.aa x.fHi]] (.agg [.aa x.fLo,.aa x.fHi]) [] True:=by
 refine Ctr.bd func238 ntmps238 λhp=>?_
 all_goals exact uU
instance(l:List dV):Ctr lim prog 182 [] [.ab 2 aU l] (.ad 2 aU l) [] True:=by
 refine Ctr.bd func182 ntmps182 λhp=>?_;refine AW.f0 0 λhf=>?_
 (refine vU1 ?_;intro h)
 refine AW.aw [4] [0,3] (λm xs o=>∃k:Nat,xs=[.aa k]/\o=[(h,some (mkC (aU true) [.int .i64 0,.int .i64 0] l k))]/\m=l.length - k/\k<=l.length) l.length [(h,some (mkC (aU true) [.int .i64 0,.int .i64 0] l 0))] (aE (jg _ _ _)) ⟨0,?_,rfl,rfl,?_⟩ ?_
 ·rfl
 ·omega
 rintro m xs o ⟨k,rfl,rfl,rfl,hk⟩;have hml:=j3 (aU true) [.int .i64 0,.int .i64 0] 2 (λ_=>rfl) rfl l k hk
 (refine vX2 ?_ ?_<;>intro h)
 ·exact⟨_,[_],_,Um,⟨k+1,rfl,rfl,rfl,Um⟩,rfl,aE (by have:=lT (aU true) [.int .i64 0,.int .i64 0] 2 (λ_=>rfl) rfl l k h;simp only[go_sem,Nat.mul_one]at this ⊢;exact this.symm)⟩
 ·refine AW.made 2 rfl h hk (λ_=>rfl) ?_
  all_goals exact uU
instance(L:gaa)[hL:Lok L](x:dq):Ctr L prog 134 [] [.agg [.aa x.aj,.ab 2 aU x.ay,.al x.aB,.str x.aY,.str x.aF],.agg [.aa x.aj,.ab 2 aU x.ay,.al x.aB,.str x.aY,.str x.aF]] (.ac true) [] True:=by
 refine Ctr.bd func134 ntmps134 λhp=>?_
 all_goals exact uU
instance(L:gaa)[hL:Lok L](x:dq)(r:Int):Ctr L prog 105 [] [.agg [.aa x.aj,.ab 2 aU x.ay,.al x.aB,.str x.aY,.str x.aF],.aa r] (.aa (ed x r)) [] (0<=r/\r<=1048576):=by
 refine Ctr.bd func105 ntmps105 λhp=>?_;refine AW.f0 0 λhf=>?_;have le0:=bh gB oQ x.ay r
 have le1:=bh aC aQ x.aB (aJ gB x.ay r);unfold ed
 ((refine vU5 ?_ ?_ ?_ ?_ ?_<;>with_reducible repeat intro h);all_goals simp only[thn,aC,id];all_goals refine congrArg (λz=>AV.aa z) ?_;all_goals (repeat' split);all_goals omega)
instance(x:dq):Ctr lim prog 118 [] [.agg [.aa x.aj,.ab 2 aU x.ay,.al x.aB,.str x.aY,.str x.aF]] (.agg [.aa x.aj,.ad 2 aU x.ay,.am x.aB,.str x.aY,.str x.aF]) [] True:=by
 refine Ctr.bd func118 ntmps118 λhp=>?_
 all_goals exact uU
def ah.dA{x:ah}{l:List ah}(h:x∈l):SizeOf.sizeOf x.af<SizeOf.sizeOf l:=by have:=sizeOf_lt_of_mem h;cases x;simp[ah.af]at *;omega
theorem Ql(L:gaa)[hL:Lok L](n:Nat)(ih:∀l:List ah,Ctr L prog 16 [] [.ab 3 ai l,.ab 3 ai l] (.ac true) [] (SizeOf.sizeOf l<n))(x:ah):Ctr L prog 68 [] [.agg [.str x.ae,.str x.aq,.ab 3 ai x.af],.agg [.str x.ae,.str x.aq,.ab 3 ai x.af]] (.ac true) [] (SizeOf.sizeOf x.af<n):=by
 refine Ctr.bd func68 ntmps68 λhp=>?_
 all_goals exact uU
theorem D9(L:gaa)[hL:Lok L]:∀(n:Nat) (l:List ah),Ctr L prog 16 [] [.ab 3 ai l,.ab 3 ai l] (.ac true) [] (SizeOf.sizeOf l<n)
 | 0,l=>⟨(aT 16),λh=>absurd h (Nat.not_lt_zero _)⟩
 | n+1,l=>by
  have hx:=Ql L n (D9 L n);refine Ctr.bd func16 ntmps16 λhp=>?_;refine AW.f0 0 λhf=>?_;have hf:=Nat.le_trans hf (hL.le 3)
  (refine vU1 ?_;intro h)
  refine AW.aw [5] [0,1] (λm xs o=>∃k:Nat,xs=[.aa k]/\o=[]/\m=l.length - k/\k<=l.length) l.length [] trivial ⟨0,?_,rfl,rfl,?_⟩ ?_
  ·rfl
  ·omega
  rintro m xs o ⟨k,rfl,rfl,rfl,hk⟩;have hkk:k<l.length->SizeOf.sizeOf (at_ l k).af<n:=λh=>by have:=ah.dA (at_mem h);omega
  (refine vU1 ?_;intro h h)
  exact⟨_,[_],[],Um,⟨k+1,rfl,rfl,rfl,Um⟩,rfl,trivial⟩
instance(L:gaa)[hL:Lok L](l:List ah):Ctr L prog 16 [] [.ab 3 ai l,.ab 3 ai l] (.ac true) [] True:=⟨(aT 16),λ_=>(D9 L (SizeOf.sizeOf l+1) l).out (Nat.lt_succ_self _)⟩
theorem OA(L:gaa)[hL:Lok L](n:Nat)(ih:∀(l:List ah) (r:Int),Ctr L prog 25 [] [.ab 3 ai l,.aa r] (.aa (aJ bF l r)) [] (SizeOf.sizeOf l<n/\0<=r/\r<=1048576))(x:ah)(r:Int):Ctr L prog 79 [] [.agg [.str x.ae,.str x.aq,.ab 3 ai x.af],.aa r] (.aa (bF x r)) [] (SizeOf.sizeOf x.af<n/\0<=r/\r<=1048576):=by
 refine Ctr.bd func79 ntmps79 λhp=>?_;refine AW.f0 0 λhf=>?_;have le2:=bh bF cy x.af ((r - x.ae.length) - x.aq.length);rw[wP]
 ((refine vU4 ?_ ?_ ?_ ?_<;>with_reducible repeat intro h);all_goals simp only[thn,aC,id];all_goals refine congrArg (λz=>AV.aa z) ?_;all_goals (repeat' split);all_goals omega)
theorem DA(L:gaa)[hL:Lok L]:∀(n:Nat) (l:List ah) (r:Int),Ctr L prog 25 [] [.ab 3 ai l,.aa r] (.aa (aJ bF l r)) [] (SizeOf.sizeOf l<n/\0<=r/\r<=1048576)
 | 0,l,r=>⟨(aT 25),λh=>absurd h.1 (Nat.not_lt_zero _)⟩
 | n+1,l,r=>by
  have hx:=OA L n (DA L n);refine Ctr.bd func25 ntmps25 λhp=>?_;refine AW.f0 0 λhf=>?_;have hf:=Nat.le_trans hf (hL.le 3)
  (refine vU2 ?_ ?_<;>intro h)
  ·rw[gf h]
  rw[gF h];refine AW.aw [1,5] [0] (λm xs o=>∃(k:Nat) (q:Int),xs=[.aa q,.aa k]/\o=[]/\m=l.length - k/\k<=l.length/\0<=q/\q<=1048576/\eS bF (l.drop k) q=eS bF l (r - l.length)) l.length [] trivial ⟨0,_,?_,rfl,rfl,?_,?_,?_,rfl⟩ ?_
  ·rfl
  ·omega
  ·omega
  ·omega
  rintro m xs o ⟨k,q,rfl,rfl,rfl,hk,h0,h1,hR⟩;have hle:=cy (at_ l k) q h0
  have hkk:k<l.length->SizeOf.sizeOf (at_ l k).af<n:=λh=>by have:=ah.dA (at_mem h);omega
  (refine vU3 ?_ ?_ ?_<;>with_reducible repeat intro h)
  ·rw[fF baa,if_pos (by first|exact h|(rw[hsz];exact h))]at hR;rw[hR]
  ·rw[fF baa,if_neg Um]at hR;exact⟨_,[_,_],[],Um,⟨k+1,_,rfl,rfl,rfl,Um,Um,Um,hR⟩,rfl,trivial⟩
  ·rw[jA h]at hR;rw[hR]
instance(L:gaa)[hL:Lok L](l:List ah)(r:Int):Ctr L prog 25 [] [.ab 3 ai l,.aa r] (.aa (aJ bF l r)) [] (0<=r/\r<=1048576):=⟨(aT 25),λh=>(DA L (SizeOf.sizeOf l+1) l r).out ⟨Nat.lt_succ_self _,h⟩⟩
theorem Ox(n:Nat)(ih:∀l:List ah,Ctr lim prog 27 [] [.ab 3 ai l] (.ad 3 ai l) [] (SizeOf.sizeOf l<n))(x:ah):Ctr lim prog 86 [] [.agg [.str x.ae,.str x.aq,.ab 3 ai x.af]] (.agg [.str x.ae,.str x.aq,.ad 3 ai x.af]) [] (SizeOf.sizeOf x.af<n):=by
 refine Ctr.bd func86 ntmps86 λhp=>?_
 all_goals exact uU
theorem Dw:∀(n:Nat) (l:List ah),Ctr lim prog 27 [] [.ab 3 ai l] (.ad 3 ai l) [] (SizeOf.sizeOf l<n)
 | 0,l=>⟨(aT 27),λh=>absurd h (Nat.not_lt_zero _)⟩
 | n+1,l=>by
  have hx:=Ox n (Dw n);refine Ctr.bd func27 ntmps27 λhp=>?_;refine AW.f0 0 λhf=>?_
  (refine vU1 ?_;intro h)
  refine AW.aw [4] [0,3] (λm xs o=>∃k:Nat,xs=[.aa k]/\o=[(h,some (mkC (ai true) [.string ⟨#[]⟩,.string ⟨#[]⟩,.slice none 0 0] l k))]/\m=l.length - k/\k<=l.length) l.length [(h,some (mkC (ai true) [.string ⟨#[]⟩,.string ⟨#[]⟩,.slice none 0 0] l 0))] (aE (jg _ _ _)) ⟨0,?_,rfl,rfl,?_⟩ ?_
  ·rfl
  ·omega
  rintro m xs o ⟨k,rfl,rfl,rfl,hk⟩;have hml:=j3 (ai true) [.string ⟨#[]⟩,.string ⟨#[]⟩,.slice none 0 0] 3 (λx=>by rw[bO];rfl) rfl l k hk
  have hkk:k<l.length->SizeOf.sizeOf (at_ l k).af<n:=λh=>by have:=ah.dA (at_mem h);omega
  (refine vX2 ?_ ?_<;>intro h)
  ·exact⟨_,[_],_,Um,⟨k+1,rfl,rfl,rfl,Um⟩,rfl,aE (by have:=lT (ai true) [.string ⟨#[]⟩,.string ⟨#[]⟩,.slice none 0 0] 3 (λx=>by rw[bO];rfl) rfl l k h;simp only[go_sem,Nat.mul_one]at this ⊢;exact this.symm)⟩
  ·refine AW.made 2 rfl h hk (λx=>by rw[bO];rfl) ?_
   all_goals exact uU
instance(l:List ah):Ctr lim prog 27 [] [.ab 3 ai l] (.ad 3 ai l) [] True:=⟨(aT 27),λ_=>(Dw (SizeOf.sizeOf l+1) l).out (Nat.lt_succ_self _)⟩
instance(L:gaa)[hL:Lok L](x:bH):Ctr L prog 259 [] [.agg [.str x.ae,.aa x.fType.aj,.ab 2 aU x.fType.ay,.al x.fType.aB,.str x.fType.aY,.str x.fType.aF],.agg [.str x.ae,.aa x.fType.aj,.ab 2 aU x.fType.ay,.al x.fType.aB,.str x.fType.aY,.str x.fType.aF]] (.ac true) [] True:=by
 refine Ctr.bd func259 ntmps259 λhp=>?_
 all_goals exact uU
instance(L:gaa)[hL:Lok L](l:List bH):Ctr L prog 202 [] [.ab 6 bt l,.ab 6 bt l] (.ac true) [] True:=by
 refine Ctr.bd func202 ntmps202 λhp=>?_;refine AW.f0 0 λhf=>?_;have hf:=Nat.le_trans hf (hL.le 6)
 (refine vU1 ?_;intro h)
 refine AW.aw [5] [0,1] (λm xs o=>∃k:Nat,xs=[.aa k]/\o=[]/\m=l.length - k/\k<=l.length) l.length [] trivial ⟨0,?_,rfl,rfl,?_⟩ ?_
 ·rfl
 ·omega
 rintro m xs o ⟨k,rfl,rfl,rfl,hk⟩
 (refine vU1 ?_;intro h h)
 exact⟨_,[_],[],Um,⟨k+1,rfl,rfl,rfl,Um⟩,rfl,trivial⟩
instance(L:gaa)[hL:Lok L](x:bH)(r:Int):Ctr L prog 221 [] [.agg [.str x.ae,.aa x.fType.aj,.ab 2 aU x.fType.ay,.al x.fType.aB,.str x.fType.aY,.str x.fType.aF],.aa r] (.aa (gC x r)) [] (0<=r/\r<=1048576):=by
 refine Ctr.bd func221 ntmps221 λhp=>?_;refine AW.f0 0 λhf=>?_;have le1:=mI x.fType (r - x.ae.length);unfold gC
 ((refine vU3 ?_ ?_ ?_<;>with_reducible repeat intro h);all_goals simp only[thn,aC,id];all_goals refine congrArg (λz=>AV.aa z) ?_;all_goals (repeat' split);all_goals omega)
instance(L:gaa)[hL:Lok L](l:List bH)(r:Int):Ctr L prog 161 [] [.ab 6 bt l,.aa r] (.aa (aJ gC l r)) [] (0<=r/\r<=1048576):=by
 refine Ctr.bd func161 ntmps161 λhp=>?_;refine AW.f0 0 λhf=>?_;have hf:=Nat.le_trans hf (hL.le 6)
 (refine vU2 ?_ ?_<;>intro h)
 ·rw[gf h]
 rw[gF h];refine AW.aw [1,5] [0] (λm xs o=>∃(k:Nat) (q:Int),xs=[.aa q,.aa k]/\o=[]/\m=l.length - k/\k<=l.length/\0<=q/\q<=1048576/\eS gC (l.drop k) q=eS gC l (r - l.length)) l.length [] trivial ⟨0,_,?_,rfl,rfl,?_,?_,?_,rfl⟩ ?_
 ·rfl
 ·omega
 ·omega
 ·omega
 rintro m xs o ⟨k,q,rfl,rfl,rfl,hk,h0,h1,hR⟩;have hle:=lZ (at_ l k) q h0
 (refine vU3 ?_ ?_ ?_<;>with_reducible repeat intro h)
 ·rw[fF baa,if_pos (by first|exact h|(rw[hsz];exact h))]at hR;rw[hR]
 ·rw[fF baa,if_neg Um]at hR;exact⟨_,[_,_],[],Um,⟨k+1,_,rfl,rfl,rfl,Um,Um,Um,hR⟩,rfl,trivial⟩
 ·rw[jA h]at hR;rw[hR]
instance(x:bH):Ctr lim prog 237 [] [.agg [.str x.ae,.aa x.fType.aj,.ab 2 aU x.fType.ay,.al x.fType.aB,.str x.fType.aY,.str x.fType.aF]] (.agg [.str x.ae,.aa x.fType.aj,.ad 2 aU x.fType.ay,.am x.fType.aB,.str x.fType.aY,.str x.fType.aF]) [] True:=by
 refine Ctr.bd func237 ntmps237 λhp=>?_
 all_goals exact uU
instance(l:List bH):Ctr lim prog 181 [] [.ab 6 bt l] (.ad 6 bt l) [] True:=by
 refine Ctr.bd func181 ntmps181 λhp=>?_;refine AW.f0 0 λhf=>?_
 (refine vU1 ?_;intro h)
 refine AW.aw [4] [0,3] (λm xs o=>∃k:Nat,xs=[.aa k]/\o=[(h,some (mkC (bt true) [.string ⟨#[]⟩,.int .i64 0,.slice none 0 0,.slice none 0 0,.string ⟨#[]⟩,.string ⟨#[]⟩] l k))]/\m=l.length - k/\k<=l.length) l.length [(h,some (mkC (bt true) [.string ⟨#[]⟩,.int .i64 0,.slice none 0 0,.slice none 0 0,.string ⟨#[]⟩,.string ⟨#[]⟩] l 0))] (aE (jg _ _ _)) ⟨0,?_,rfl,rfl,?_⟩ ?_
 ·rfl
 ·omega
 rintro m xs o ⟨k,rfl,rfl,rfl,hk⟩;have hml:=j3 (bt true) [.string ⟨#[]⟩,.int .i64 0,.slice none 0 0,.slice none 0 0,.string ⟨#[]⟩,.string ⟨#[]⟩] 6 (λ_=>rfl) rfl l k hk
 (refine vX2 ?_ ?_<;>intro h)
 ·exact⟨_,[_],_,Um,⟨k+1,rfl,rfl,rfl,Um⟩,rfl,aE (by have:=lT (bt true) [.string ⟨#[]⟩,.int .i64 0,.slice none 0 0,.slice none 0 0,.string ⟨#[]⟩,.string ⟨#[]⟩] 6 (λ_=>rfl) rfl l k h;simp only[go_sem,Nat.mul_one]at this ⊢;exact this.symm)⟩
 ·refine AW.made 2 rfl h hk (λ_=>rfl) ?_
  all_goals exact uU
instance(L:gaa)[hL:Lok L](x:aD):Ctr L prog 133 [] [.agg [.str x.ae,.ab 6 bt x.aG,.ab 3 ai x.dh],.agg [.str x.ae,.ab 6 bt x.aG,.ab 3 ai x.dh]] (.ac true) [] True:=by
 refine Ctr.bd func133 ntmps133 λhp=>?_
 all_goals exact uU
instance(L:gaa)[hL:Lok L](l:List aD):Ctr L prog 69 [] [.ab 3 aR l,.ab 3 aR l] (.ac true) [] True:=by
 refine Ctr.bd func69 ntmps69 λhp=>?_;refine AW.f0 0 λhf=>?_;have hf:=Nat.le_trans hf (hL.le 3)
 (refine vU1 ?_;intro h)
 refine AW.aw [5] [0,1] (λm xs o=>∃k:Nat,xs=[.aa k]/\o=[]/\m=l.length - k/\k<=l.length) l.length [] trivial ⟨0,?_,rfl,rfl,?_⟩ ?_
 ·rfl
 ·omega
 rintro m xs o ⟨k,rfl,rfl,rfl,hk⟩
 (refine vU1 ?_;intro h h)
 exact⟨_,[_],[],Um,⟨k+1,rfl,rfl,rfl,Um⟩,rfl,trivial⟩
instance(L:gaa)[hL:Lok L](x:aD)(r:Int):Ctr L prog 104 [] [.agg [.str x.ae,.ab 6 bt x.aG,.ab 3 ai x.dh],.aa r] (.aa (dH x r)) [] (0<=r/\r<=1048576):=by
 refine Ctr.bd func104 ntmps104 λhp=>?_;refine AW.f0 0 λhf=>?_;have le1:=bh gC lZ x.aG (r - x.ae.length)
 have le2:=bh bF cy x.dh (aJ gC x.aG (r - x.ae.length));unfold dH
 ((refine vU4 ?_ ?_ ?_ ?_<;>with_reducible repeat intro h);all_goals simp only[thn,aC,id];all_goals refine congrArg (λz=>AV.aa z) ?_;all_goals (repeat' split);all_goals omega)
instance(L:gaa)[hL:Lok L](l:List aD)(r:Int):Ctr L prog 52 [] [.ab 3 aR l,.aa r] (.aa (aJ dH l r)) [] (0<=r/\r<=1048576):=by
 refine Ctr.bd func52 ntmps52 λhp=>?_;refine AW.f0 0 λhf=>?_;have hf:=Nat.le_trans hf (hL.le 3)
 (refine vU2 ?_ ?_<;>intro h)
 ·rw[gf h]
 rw[gF h];refine AW.aw [1,5] [0] (λm xs o=>∃(k:Nat) (q:Int),xs=[.aa q,.aa k]/\o=[]/\m=l.length - k/\k<=l.length/\0<=q/\q<=1048576/\eS dH (l.drop k) q=eS dH l (r - l.length)) l.length [] trivial ⟨0,_,?_,rfl,rfl,?_,?_,?_,rfl⟩ ?_
 ·rfl
 ·omega
 ·omega
 ·omega
 rintro m xs o ⟨k,q,rfl,rfl,rfl,hk,h0,h1,hR⟩;have hle:=iV (at_ l k) q h0
 (refine vU3 ?_ ?_ ?_<;>with_reducible repeat intro h)
 ·rw[fF baa,if_pos (by first|exact h|(rw[hsz];exact h))]at hR;rw[hR]
 ·rw[fF baa,if_neg Um]at hR;exact⟨_,[_,_],[],Um,⟨k+1,_,rfl,rfl,rfl,Um,Um,Um,hR⟩,rfl,trivial⟩
 ·rw[jA h]at hR;rw[hR]
instance(x:aD):Ctr lim prog 117 [] [.agg [.str x.ae,.ab 6 bt x.aG,.ab 3 ai x.dh]] (.agg [.str x.ae,.ad 6 bt x.aG,.ad 3 ai x.dh]) [] True:=by
 refine Ctr.bd func117 ntmps117 λhp=>?_
 all_goals exact uU
instance(l:List aD):Ctr lim prog 60 [] [.ab 3 aR l] (.ad 3 aR l) [] True:=by
 refine Ctr.bd func60 ntmps60 λhp=>?_;refine AW.f0 0 λhf=>?_
 (refine vU1 ?_;intro h)
 refine AW.aw [4] [0,3] (λm xs o=>∃k:Nat,xs=[.aa k]/\o=[(h,some (mkC (aR true) [.string ⟨#[]⟩,.slice none 0 0,.slice none 0 0] l k))]/\m=l.length - k/\k<=l.length) l.length [(h,some (mkC (aR true) [.string ⟨#[]⟩,.slice none 0 0,.slice none 0 0] l 0))] (aE (jg _ _ _)) ⟨0,?_,rfl,rfl,?_⟩ ?_
 ·rfl
 ·omega
 rintro m xs o ⟨k,rfl,rfl,rfl,hk⟩;have hml:=j3 (aR true) [.string ⟨#[]⟩,.slice none 0 0,.slice none 0 0] 3 (λ_=>rfl) rfl l k hk
 (refine vX2 ?_ ?_<;>intro h)
 ·exact⟨_,[_],_,Um,⟨k+1,rfl,rfl,rfl,Um⟩,rfl,aE (by have:=lT (aR true) [.string ⟨#[]⟩,.slice none 0 0,.slice none 0 0] 3 (λ_=>rfl) rfl l k h;simp only[go_sem,Nat.mul_one]at this ⊢;exact this.symm)⟩
 ·refine AW.made 2 rfl h hk (λ_=>rfl) ?_
  all_goals exact uU
end Go.Proofs
namespace Go.Ab
end Go.Ab
namespace Go.Proofs
open Go.Ab Go.Dt
attribute [go_sem] wF bk
instance(x:dq):Ctr lim prog 184 [] [.agg [.aa x.aj,.ab 2 aU x.ay,.al x.aB,.str x.aY,.str x.aF]] (.ac (isType dM x)) [] True:=Ns dM x
instance(x:dq):Ctr lim prog 165 [] [.agg [.aa x.aj,.ab 2 aU x.ay,.al x.aB,.str x.aY,.str x.aF]] (.ac (isType dM x)) [] True:=L5 dM x
instance(x:aD):Ctr lim prog 123 [] [.agg [.str x.ae,.ab 6 bt x.aG,.ab 3 ai x.dh]] (.ac (dz dM x)) [] (wt x.dh<=1048576/\x.aG.length<=1048576):=EA dM x
instance(x:aD):Ctr lim prog 108 [] [.agg [.str x.ae,.ab 6 bt x.aG,.ab 3 ai x.dh]] (.ac (dz dM x)) [] (wt x.dh<=1048576/\x.aG.length<=1048576):=Eo dM x
end Go.Proofs
namespace Go.Dt
open Go.Ab
def cvB(x:dq)(s:Str):Bool:=isType dM x && cvO Kz x s
def cvS(x:dq)(s:Str):Str:=bif cvB x s then cvT x s else []
def ET{x:dq}{s:Str}(h:cvB x s=false):AV.tup [.str [],.ac false]=.tup [.str (cvS x s),.ac (cvB x s)]:=by rw[cvS,h];rfl
def Hy{x:dq}{s t:Str}(h:cvB x s=true)(e:cvT x s=t):AV.tup [.str t,.ac true]=.tup [.str (cvS x s),.ac (cvB x s)]:=by rw[cvS,h,<- e];rfl
def Ee{l:List Str}{k:Nat}{s:Str}(h:k<l.length):(cont (l.take k) s || at_ l k == s)=cont (l.take (k+1)) s:=by
 have e:l.take (k+1)=l.take k++[at_ l k]:=by
  rw[take_succ_eq_append_getElem h];unfold at_;rw[getElem?_eq_getElem h];rfl
 rw[Bool.eq_iff_iff,Bool.or_eq_true,iP,iP,e];rw[mem_append,mem_singleton,beq_iff_eq,eq_comm (a:=at_ l k)]
end Go.Dt
namespace Go.Proofs
open Go.Ab Go.Dt
instance(x:dq)(s:Str):Ctr lim prog 128 [] [.agg [.aa x.aj,.ab 2 aU x.ay,.al x.aB,.str x.aY,.str x.aF],.str s] (.tup [.str (cvS x s),.ac (cvB x s)]) [] (s.length<=1048576):=by
 have hr:=yg s;refine Ctr.bd func128 ntmps128 λhp=>?_
 (repeat' first|(with_reducible first|refine Z ?_|refine Y ?_|(refine hK _ _ ?_;clear hK K)|refine And.intro ?_ ?_|exact Ct|intro(K:_->_->Prop) hK|(refine gI λhg=>?_;try simp only[hC,reduceCtorEq]at hg;try simp only[hg]))|(refine AW.i rfl (λh=>?_) (λh=>?_)<;>try simp only[hC,reduceCtorEq]at h)|((with_reducible refine E ?_;repeat refine Y ?_);refine eF rfl ?_)|simp(disch:=omega)only[go_sem,cond_true]|(with_reducible intro hg;try simp only[hC,reduceCtorEq]at hg)|exact Cl|fail)
 all_goals try first|(refine ET ?_;simp_all [cvB,cvO,tq,uR,rQ];done)|(refine Hy ?_ ?_<;>simp_all [cvB,cvO,cvT,tq,uR,rQ];done)
instance(x:dq)(s:Str):Ctr lim prog 111 [] [.agg [.aa x.aj,.ab 2 aU x.ay,.al x.aB,.str x.aY,.str x.aF],.str s] (.tup [.str (cvS x s),.ac (cvB x s)]) [] (s.length<=1048576):=by
 have hr:=yg s;refine Ctr.bd func111 ntmps111 λhp=>?_
 (repeat' first|(with_reducible first|refine Z ?_|refine Y ?_|(refine hK _ _ ?_;clear hK K)|refine And.intro ?_ ?_|exact Ct|intro(K:_->_->Prop) hK|(refine gI λhg=>?_;try simp only[hC,reduceCtorEq]at hg;try simp only[hg]))|(refine AW.i rfl (λh=>?_) (λh=>?_)<;>try simp only[hC,reduceCtorEq]at h)|((with_reducible refine E ?_;repeat refine Y ?_);refine eF rfl ?_)|simp(disch:=omega)only[go_sem,cond_true]|(with_reducible intro hg;try simp only[hC,reduceCtorEq]at hg)|exact Cl|fail)
 all_goals try first|(refine ET ?_;cases e:isType dM x<;>simp_all [cvB,cvO,tq,uR,rQ];done)|(refine Hy ?_ ?_<;>simp_all [cvB,cvO,cvT,tq,uR,rQ];done)
 refine AW.f0 0 λhf=>?_;refine AW.aw [7,10] [1,2,6] (λm xs o=>∃k:Nat,xs=[.ac (cont (x.aB.take k) s),.aa k]/\o=[]/\m=x.aB.length - k/\k<=x.aB.length) x.aB.length [] trivial ⟨0,?_,rfl,rfl,?_⟩ ?_
 ·rfl
 ·omega
 rintro m xs o ⟨k,rfl,rfl,rfl,hk⟩
 (repeat' first|(with_reducible first|refine Z ?_|refine Y ?_|(refine hK _ _ ?_;clear hK K)|refine And.intro ?_ ?_|exact Ct|intro(K:_->_->Prop) hK|(refine gI λhg=>?_;try simp only[hC,reduceCtorEq]at hg;try simp only[hg]))|(refine AW.i rfl (λh=>?_) (λh=>?_)<;>try simp only[hC,reduceCtorEq]at h)|((with_reducible refine E ?_;repeat refine Y ?_);refine eF rfl ?_)|simp(disch:=omega)only[go_sem,cond_true]|(with_reducible intro hg;try simp only[hC,reduceCtorEq]at hg)|exact Cl|fail)
 ·exact⟨_,[_,_],[],Um,⟨k+1,rfl,rfl,rfl,Um⟩,by rw[Ee baa];rfl,trivial⟩
 ·rw[take_of_length_le Um]at h;refine ET ?_;cases e:isType dM x<;>simp_all [cvB,cvO]
 ·rw[take_of_length_le Um]at h;refine Hy ?_ ?_<;>simp_all [cvB,cvO,cvT]
 ·refine ET ?_;cases e:isType dM x<;>by_cases e2:s=[]<;>simp_all [cvB,cvO]
end Go.Proofs
namespace Go.Dt
open Go Go.Ab
def isVal(x:dq)(s:Str):Bool:=cvB x s && cvS x s == s
open Go.Ab
def qJ(x:fH):Bool:=isName x.ae && isText x.aq
def kV(x:GStep):Bool:=x.cK.all qJ && (isName x.ae && decide (x.cK.length<=3) && cm (x.cK.map fH.ae))
def EL(p:fS):Bool:=decide (0<=p.dQ) && decide (p.dQ<=8) && (!p.dB || decide (p.dQ=0)) && decide (p.aW.length<=10) && (p.dB || decide (0<p.dQ) || decide (0<p.aW.length))
def jK(p:fS):Bool:=p.aW.all kV && EL p
mutual
def ja:aZ->Nat
 | .mk _ _ _ _ ks=>eB ks+1
def eB:List aZ->Nat
 | []=>0
 | x::xs=>max (ja x) (eB xs)
end
def xZ(p:fS):Bool:=!p.dB && decide (p.dQ=0) && p.aW.isEmpty
def iv(op:Int):Nat:=if op=5 then 1 else if 1<=op/\op<=4 then 0 else 2
def uQ(p:fS):Bool:=!(!p.dB && decide (p.dQ=0) && decide (0<p.aW.length) && ((at_ p.aW 0).ae == [111,114] || (at_ p.aW 0).ae == [97,110,100])) && !(p.dB && p.aW.isEmpty)
def exN(op num:Int)(tx:Str)(p:fS)(n:Nat):Bool :=
 decide (1<=op) && decide (op<=15) && decide (n=iv op) && (decide (op=1) || decide (num=0)) && (decide (op=2) || tx.isEmpty) && (decide (op=3) || decide (op=4) || xZ p) &&
 (if op=1 then decide (0<=num) && decide (num<=1000000000) else if op=2 then isText tx else if op=4 then jK p else if op=3 then jK p && uQ p else true)
mutual
def vE:aZ->Bool
 | .mk op num tx p ks=>exN op num tx p ks.length && vEL ks
def vEL:List aZ->Bool
 | []=>true
 | x::xs=>vE x && vEL xs
end
def Iz:∀l:List aZ,vEL l=l.all vE
 | []=>rfl
 | x::xs=>by simp only[vEL,all_cons,Iz xs]
def Ak(e:aZ):Bool:=decide (ja e<=8) && vE e
def dK(k:Int):Bool:=decide (1<=k) && decide (k<=4)
def dk:List ag->List ag
 | []=>[]
 | .mk k a b c d e f g h i j l m n ks::xs=>(if dK k=true then [.mk k a b c d e f g h i j l m n ks] else if k=5\/k=6 then dk ks else [])++dk xs
def nE(x:ag)(xs:List ag):dk (x::xs)=(if dK x.aj=true then [x] else if x.aj=5\/x.aj=6 then dk x.af else [])++dk xs:=by cases x;rw[dk];rfl
def bR:List ag->Nat
 | []=>0
 | .mk _ _ _ _ _ _ _ _ _ _ _ _ _ _ ks::xs=>1+bR ks+bR xs
def fw:List ag->Nat
 | []=>0
 | .mk _ _ _ _ _ _ _ _ _ _ _ _ _ _ ks::xs=>max (1+fw ks) (fw xs)
def mxS:List ag->Nat
 | []=>0
 | .mk _ _ _ _ _ _ _ _ _ _ _ _ w m ks::xs=>max (max (eB w) (eB m)) (max (mxS ks) (mxS xs))
def nI(t:dq):Bool:=decide (t.aj=0) && t.ay.isEmpty && t.aB.isEmpty && t.aY.isEmpty && t.aF.isEmpty
def exS(l:List aZ)(m:Int):Bool:=l.all Ak && decide ((l.length:Int)<=m)
def oW(n:ag):Bool:=decide (0<=n.iH) && decide (n.iH<=1000000000) && (decide (n.iI=0) || (decide (n.iH<=n.iI) && decide (n.iI<=1000000000)))
def nmS(l:List ag):List Str:=l.map ag.ae
def nmP(n:Str)(x:ag):Bool:=x.ae == n
theorem jL{α:Type}[Inhabited α]{p:α->Bool}{l:List α}{k:Nat}(hk:k<l.length)(h:p (at_ l k)=false):l.all p=false:=by rw[<- qU,cM hk h]
def fG{α:Type}{p:α->Bool}{l:List α}{k:Nat}(hk:¬k<l.length)(h:∀y∈l.take k,(!p y)=false):l.all p=true:=by rw[take_of_length_le Um]at h;rw[all_eq_true];intro x hx;simpa using h x hx
def Fe{α:Type}{f:α->Str}{l:List α}{k:Nat}(h:¬k<l.length):(l.take k).map f=l.map f:=by rw[take_of_length_le Um]
theorem tk1{α:Type}[Inhabited α]{l:List α}{k:Nat}(h:k<l.length):l.take (k+1)=l.take k++[at_ l k]:=by rw[take_succ_eq_append_getElem h];unfold at_;rw[getElem?_eq_getElem h];rfl
theorem Fb{α β γ:Type}[Inhabited α]{l:List α}{k:Nat}{f:α->β}{g:β->γ}(h:k<l.length):((l.take (k+1)).map f).map g=((l.take k).map f).map g++[g (f (at_ l k))]:=by rw[tk1 h];simp
def Rv(n:Nat):decide ((n:Int)<=10)=decide (n<=10):=decide_eq_decide.2 Um
def rW(n:Nat):decide (0<(n:Int))=decide (0<n):=decide_eq_decide.2 Um
def j6(a b:Int):(a == b)=decide (a=b):=by rw[Bool.eq_iff_iff];simp
theorem pO{α β:Type}[Inhabited α][Inhabited β]{f:α->β}{l:List α}{k:Nat}(h:k<l.length):at_ (l.map f) k=f (at_ l k):=by unfold at_;rw[getElem?_map,getElem?_eq_getElem h];rfl
def FI{x:fS}{k:Nat}(hk:k<x.aW.length)(h:kV (at_ x.aW k)=false):jK x=false:=by rw[jK,jL hk h];rfl
section
variable {s : GStep} {i j : Nat}
def RQ(hi:i<j)(hj:j<s.cK.length)(h:(at_ s.cK i).ae=(at_ s.cK j).ae):kV s=false:=by
 have:cm (s.cK.map fH.ae)=false:=by
  refine cM (j:=j) (by simpa using hj) ?_;rw[vZ hi (by simpa using hj) (by rw[pO Um,pO hj];exact h)];rfl
 rw[kV,this];simp
def RO(hj:j<s.cK.length)(h:qJ (at_ s.cK j)=false):kV s=false:=by rw[kV,jL hj h];rfl
def RP(hj:¬j<s.cK.length)(hj2:j<=s.cK.length)(hS:∀y∈s.cK.take j,(!qJ y)=false)(hQ:cg (λi=>!cont ((s.cK.map fH.ae).take i) (at_ (s.cK.map fH.ae) i)) j=true):kV s=(isName s.ae && decide (s.cK.length<=3)):=by
 have e:j=s.cK.length:=by omega
 subst e;rw[kV,fG hj hS,cm,length_map,hQ];simp
end
def kY{α:Type}(l:List α):((l.length:Int) == 0)=l.isEmpty:=by
 cases l with
 | nil=>rfl
 | cons x xs=>rw[length_cons,isEmpty_cons,j6,decide_eq_false_iff_not];omega
def qN{α:Type}(l:List α):decide (0<l.length)=!l.isEmpty:=by
 cases l with
 | nil=>rfl
 | cons x xs=>rw[length_cons,isEmpty_cons];simp
def BJ{x:fS}(h:jK x=true):0<=x.dQ/\(x.dB=true->x.dQ=0)/\(x.dB=false->x.dQ<=0->0<x.aW.length):=by
 simp only[jK,EL,Bool.and_eq_true,Bool.or_eq_true,decide_eq_true_eq,Bool.not_eq_true']at h;obtain⟨_,⟨⟨⟨⟨h1,_⟩,h2⟩,_⟩,h3⟩⟩:=h;refine⟨h1,λe=>?_,λe f=>?_⟩
 ·rcases h2 with h2|h2
  ·rw[e]at h2;exact absurd h2 Xp
  ·exact h2
 ·rcases h3 with(h3|h3)|h3
  ·rw[e]at h3;exact absurd h3 Xp
  ·omega
  ·exact h3
def XO{x:fS}(h:jK x=true)(e:x.dB=true\/0<x.dQ):(decide (0<x.dQ) || decide (0<(x.aW.length:Int)))=uQ x:=by
 obtain⟨h1,h2,h3⟩:=BJ h
 cases r:x.dB with
 | true =>
  have:=h2 r;rw[uQ,r,rW,qN,this];simp
 | false =>
  rw[r]at e;have h4:0<x.dQ:=by rcases e with e|e;exact absurd e Xp;exact e
  rw[uQ,r,show decide (x.dQ=0)=false by simp;omega,show decide (0<x.dQ)=true by simpa using h4];simp
def QG{x:fS}(h:jK x=true)(e:x.dB=false/\x.dQ<=0):0<x.aW.length/\(!(at_ x.aW 0).ae == [111,114] && !(at_ x.aW 0).ae == [97,110,100])=uQ x:=by obtain⟨h1,h2,h3⟩:=BJ h;have h4:=h3 e.1 e.2;refine⟨h4,?_⟩;rw[uQ,e.1,show decide (x.dQ=0)=true by simp;omega,show decide (0<x.aW.length)=true by simpa using h4];simp
def Vs{a:Bool}{n:Nat}(h:a=false\/3<(n:Int)):(a && decide (n<=3))=false:=by
 rcases h with h|h
 ·rw[h];rfl
 ·rw[show decide (n<=3)=false by simp;omega,Bool.and_false]
def rn(x:aZ):ja x=eB x.af+1:=by cases x;rw[ja];rfl
def nr(x:aZ):vE x=(exN x.fOp x.gJ x.cS x.aF x.af.length && x.af.all vE):=by cases x;rw[vE,Iz];rfl
def Ec:∀(l:List aZ) (x:aZ),eB (l++[x])=max (eB l) (ja x)
 | [],x=>by simp[eB]
 | y::l,x=>by simp only[cons_append,eB,Ec l x];omega
def B0{l:List aZ}{k:Nat}(h:k<l.length):eB (l.take (k+1))=max (eB (l.take k)) (ja (at_ l k)):=by rw[tk1 h,Ec]
def qc:∀ {l:List aZ} {y:aZ},y∈l->ja y<=eB l
 | x::l,y,h=>by
  rw[eB];rcases List.mem_cons.1 h with rfl|h
  ·omega
  ·have:=qc h;omega
def vW:∀(l:List aZ) (k:Nat),eB (l.take k)<=eB l
 | [],k=>by simp
 | x::l,0=>by simp[eB]
 | x::l,k+1=>by rw[take_succ_cons,eB,eB];have:=vW l k;omega
def aZ.BG{x y:aZ}(h:y∈x.af):SizeOf.sizeOf y<SizeOf.sizeOf x:=by have:=sizeOf_lt_of_mem h;cases x;simp[aZ.af]at *;omega
def VR(a b:Nat):(if a<b then (b:Int) else (a:Int))=((max a b:Nat):Int):=by split<;>omega
def Tj(a b:Nat):max (a:Int) (b:Int)=((max a b:Nat):Int):=by omega
def exL(op num:Int)(tx:Str)(p:fS):Bool:=if op=1 then decide (0<=num) && decide (num<=1000000000) else if op=2 then isText tx else if op=4 then jK p else if op=3 then jK p && uQ p else true
def gP(op num:Int)(tx:Str)(p:fS)(n:Nat):exN op num tx p n=(decide (1<=op) && decide (op<=15) && decide (n=iv op) && (decide (op=1) || decide (num=0)) && (decide (op=2) || tx.isEmpty) && (decide (op=3) || decide (op=4) || xZ p) && exL op num tx p):=rfl
def fj(s:Str):s.isEmpty=decide (s=[]):=by cases s<;>simp
section
variable {x : aZ} {n : Int}
def yD(h:(x.af.length:Int)=0):x.af.all vE=true:=by rw[eq_nil_of_length_eq_zero (l:=x.af) Um];rfl
def EH{k:Nat}(hk:k<x.af.length)(h:vE (at_ x.af k)=false):vE x=false:=by rw[nr,jL hk h,Bool.and_false]
end
def qC{x:aZ}(h:exN x.fOp x.gJ x.cS x.aF x.af.length=false):vE x=false:=by rw[nr,h,Bool.false_and]
def mz(s:Str):(s == [])=s.isEmpty:=by cases s<;>rfl
def HA:∀(l:List ag) (x:ag),bR (l++[x])=bR l+1+bR x.af
 | [],x=>by cases x;simp[bR,ag.af]
 | .mk _ _ _ _ _ _ _ _ _ _ _ _ _ _ ks::l,x=>by simp only[cons_append,bR,HA l x];omega
def N9{l:List ag}{k:Nat}(h:k<l.length):bR (l.take (k+1))=bR (l.take k)+1+bR (at_ l k).af:=by rw[tk1 h,HA]
def qd:∀(l:List ag) (k:Nat),bR (l.take k)+(l.length - k)<=bR l
 | [],k=>by simp[bR]
 | x::l,0=>by
  have:=qd l 0;cases x;simp only[take_zero,bR,length_cons]at *;omega
 | x::l,k+1=>by
  have:=qd l k;cases x;simp only[take_succ_cons,bR,length_cons]at *;omega
def rX:∀ {l:List ag} {x:ag},x∈l->bR x.af<=bR l
 | y::l,x,h=>by
  rcases List.mem_cons.1 h with rfl|h
  ·cases x;simp only[bR,ag.af];omega
  ·have:=rX h;cases y;simp only[bR];omega
def Hw:∀(l:List ag) (x:ag),fw (l++[x])=max (fw l) (1+fw x.af)
 | [],x=>by cases x;simp[fw,ag.af]
 | .mk _ _ _ _ _ _ _ _ _ _ _ _ _ _ ks::l,x=>by simp only[cons_append,fw,Hw l x];omega
def NY{l:List ag}{k:Nat}(h:k<l.length):fw (l.take (k+1))=max (fw (l.take k)) (1+fw (at_ l k).af):=by rw[tk1 h,Hw]
def xL:∀(l:List ag) (k:Nat),fw (l.take k)<=fw l
 | [],k=>by simp
 | x::l,0=>by simp[fw]
 | x::l,k+1=>by
  have:=xL l k;cases x;simp only[take_succ_cons,fw]at *;omega
def Ar:∀ {l:List ag} {x:ag},x∈l->1+fw x.af<=fw l
 | y::l,x,h=>by
  rcases List.mem_cons.1 h with rfl|h
  ·cases x;simp only[fw,ag.af];omega
  ·have:=Ar h;cases y;simp only[fw];omega
def ag.dA{l:List ag}{x:ag}(h:x∈l):SizeOf.sizeOf x.af<SizeOf.sizeOf l:=by have:=sizeOf_lt_of_mem h;cases x;simp[ag.af]at *;omega
open Go Go.Ab
def dkF:List ag->Bool->List Bool
 | [],_=>[]
 | .mk k _ _ _ _ _ _ _ _ _ _ _ _ _ ks::xs,h=>(if dK k=true then [h] else if k=5\/k=6 then dkF ks (h || k == 6) else [])++dkF xs h
def Ap(x:ag)(xs:List ag)(h:Bool):dkF (x::xs) h=(if dK x.aj=true then [h] else if x.aj=5\/x.aj=6 then dkF x.af (h || x.aj == 6) else [])++dkF xs h:=by cases x;rw[dkF];rfl
def NU:∀(l:List ag) (x:ag),dk (l++[x])=dk l++(if dK x.aj=true then [x] else if x.aj=5\/x.aj=6 then dk x.af else [])
 | [],x=>by rw[nil_append,nE];simp[dk]
 | y::l,x=>by rw[cons_append,nE,nE,NU l x,append_assoc]
def JK(h:Bool):∀(l:List ag) (x:ag),dkF (l++[x]) h=dkF l h++(if dK x.aj=true then [h] else if x.aj=5\/x.aj=6 then dkF x.af (h || x.aj == 6) else [])
 | [],x=>by rw[nil_append,Ap];simp[dkF]
 | y::l,x=>by rw[cons_append,Ap,Ap,JK h l x,append_assoc]
def rl{l:List ag}{k:Nat}(h:k<l.length):dk (l.take (k+1))=dk (l.take k)++(if dK (at_ l k).aj=true then [at_ l k] else if (at_ l k).aj=5\/(at_ l k).aj=6 then dk (at_ l k).af else []):=by rw[tk1 h,NU]
def Ao{l:List ag}{k:Nat}{b:Bool}(h:k<l.length):dkF (l.take (k+1)) b=dkF (l.take k) b++(if dK (at_ l k).aj=true then [b] else if (at_ l k).aj=5\/(at_ l k).aj=6 then dkF (at_ l k).af (b || (at_ l k).aj == 6) else []):=by rw[tk1 h,JK]
def nQ:∀(l:List ag),(dk l).length<=bR l
 | []=>by simp[dk]
 | .mk k _ _ _ _ _ _ _ _ _ _ _ _ _ ks::xs=>by
  have h1:=nQ ks;have h2:=nQ xs;rw[dk,bR,length_append];split
  ·simp;omega
  ·split
   ·omega
   ·simp;omega
def Dj:∀(l:List ag) (h:Bool),(dkF l h).length=(dk l).length
 | [],h=>by simp[dk,dkF]
 | .mk k _ _ _ _ _ _ _ _ _ _ _ _ _ ks::xs,h=>by
  rw[dk,dkF,length_append,length_append,Dj xs h];split
  ·simp
  ·split
   ·rw[Dj ks]
   ·simp
def JS{l:List ag}{k:Nat}:bR (l.take k)<=bR l:=by have:=qd l k;omega
def gG:List ag->Int->Int
 | [],q=>q
 | .mk _ _ _ _ _ _ _ _ _ _ _ _ _ _ ks::xs,q=>if q<0 then q else gG xs (gG ks (q - ks.length))
def Pu{l:List ag}{k:Nat}(h:k<l.length)(q:Int):gG (l.drop k) q=if q<0 then q else gG (l.drop (k+1)) (gG (at_ l k).af (q - (at_ l k).af.length)):=by rw[bA h];cases at_ l k;rw[gG];rfl
def p6(l:List ag){q:Int}(h:q<0):gG l q=q:=by
 cases l with
 | nil=>rw[gG]
 | cons x xs=>cases x;simp only[gG];rw[if_pos h]
def zW:∀(l:List ag) (q:Int),gG l q<=q
 | [],q=>by simp[gG]
 | .mk _ _ _ _ _ _ _ _ _ _ _ _ _ _ ks::xs,q=>by
  have h1:=zW ks (q - ks.length)
  have h2:=zW xs (gG ks (q - ks.length));simp only[gG];split<;>omega
def nZ:∀(l:List ag),l.length<=bR l
 | []=>by simp
 | .mk _ _ _ _ _ _ _ _ _ _ _ _ _ _ ks::xs=>by have:=nZ xs;simp only[bR,length_cons];omega
def zX:∀(l:List ag) (q:Int),-4611686018427387904<=q->bR l<=1048576->-4611686018427387904<=gG l q
 | [],q,h,_=>by simpa[gG]using h
 | .mk _ _ _ _ _ _ _ _ _ _ _ _ _ _ ks::xs,q,h,hw=>by
  simp only[gG];simp only[bR]at hw;split
  ·exact h
  ·have e2:=nZ ks;exact zX xs _ (zX ks _ Um Um) Um
def zY:∀(l:List ag) (q:Int),0<=q->(0<=gG l q↔(bR l:Int) - l.length<=q)/\((bR l:Int) - l.length<=q->gG l q=q - (bR l - l.length))
 | [],q,h=>by simp only[gG,bR,length_nil];omega
 | .mk _ _ _ _ _ _ _ _ _ _ _ _ _ _ ks::xs,q,h=>by
  simp only[gG,bR,length_cons];have e1:=nZ ks
  have e2:=nZ xs;rw[if_neg Um];rcases Int.lt_or_le (q - ks.length) 0 with h1|h1
  ·rw[p6 ks h1,p6 xs h1];omega
  ·have h2:=zY ks _ h1;rcases Int.lt_or_le (gG ks (q - ks.length)) 0 with h3|h3
   ·rw[p6 xs h3];omega
   ·have h4:=zY xs _ h3
    have h5:=h2.2 (h2.1.1 h3);rw[h5]at h3 h4 ⊢;omega
def SY(l:List ag):decide (0<=gG l (60 - l.length))=decide (bR l<=60):=by
 have e:=nZ l;refine decide_eq_decide.2 ?_;rcases Int.lt_or_le (60 - (l.length:Int)) 0 with h|h
 ·rw[p6 l h];omega
 ·have:=(zY l _ h).1;omega
def nV(n:ag):Bool:=isName n.ae && exS n.bP 1 && exS n.cE 3
def tyB(t:dq):Bool:=isType dM t
def kX(n:ag):Bool :=
 (decide (n.aj=3) || decide (n.aj=4) || nI n.fType) &&
 (decide (n.aj=2) || n.ax.isEmpty && n.aH.isEmpty) &&
 (decide (n.aj=3) || n.bw.isEmpty && !n.cX && !n.ez) &&
 (decide (n.aj=3) || decide (n.aj=5) || !n.dm) &&
 (decide (n.aj=1) || !n.bQ) &&
 (decide (n.aj=2) || decide (n.aj=4) || decide (n.iH=0) && decide (n.iI=0)) &&
 (dK n.aj || n.cE.isEmpty) &&
 (!(decide (n.aj=3) || decide (n.aj=4)) || n.af.isEmpty)
def jb(n:ag):Bool :=
 if n.aj=1\/n.aj=5\/n.aj=6 then true
 else if n.aj=2 then decide (1<=n.ax.length) && decide (n.ax.length<=3) && cm n.ax && names n.ax && decide (n.aH.length<=3) && cm n.aH && names n.aH && oW n
 else if n.aj=3 then tyB n.fType && !(n.cX && (n.dm || !n.bP.isEmpty)) && (n.cX && isVal n.fType n.bw || !n.cX && n.bw.isEmpty)
 else if n.aj=4 then tyB n.fType && oW n
 else if n.aj=7 then n.bP.isEmpty && n.af.isEmpty
 else false
def lX(n:ag):Bool:=nV n && (kX n && jb n)
def fq(n:Str)(x:ag):Bool:=x.ae == n && decide (x.aj=3)
def nJ(y:ag):Bool:=y.bP.isEmpty && !y.cX && !decide (y.fType.aj=6)
def pF(ks:List ag)(k:Str):Bool:=decide (0<=idx (fq k) ks) && nJ (at_ ks (idx (fq k) ks).toNat)
def tv(ks:List ag)(k:Str):Bool:=decide (0<=idx (fq k) ks)
def rM(ks:List ag)(k:Str):Bool:=decide (0<=idx (nmP k) ks) && decide ((at_ ks (idx (nmP k) ks).toNat).aj=3) && nJ (at_ ks (idx (nmP k) ks).toNat)
def ry(ks:List ag)(k:Str):Bool:=decide (0<=idx (nmP k) ks) && decide ((at_ ks (idx (nmP k) ks).toNat).aj=3)
def pW(n:ag):Bool:=n.ax.all (rM n.af) && n.aH.all (ry n.af) && (nI n.fType && !n.ax.isEmpty && (cm n.ax && decide (n.ax.length<=3)) && (cm n.aH && decide (n.aH.length<=3)) && oW n && !n.cX && !n.dm && !n.bQ && !n.ez && n.bw.isEmpty)
def sL(n:ag):Bool:=n.ax.isEmpty && n.aH.isEmpty && n.bw.isEmpty && !n.cX && !n.ez && decide (n.iH=0) && decide (n.iI=0)
def KF(n:ag):Bool:=n.ax.isEmpty && n.aH.isEmpty && decide (n.iH=0) && decide (n.iI=0) && !n.bQ && n.af.isEmpty && tyB n.fType
def KH(n:ag)(free:Bool):Bool :=
 if n.aj=1 then sL n && !n.dm && nI n.fType
 else if n.aj=2 then pW n
 else if n.aj=3 then (if n.cX=true then KF n && free && !n.dm && n.bP.isEmpty && isVal n.fType n.bw else KF n && n.bw.isEmpty)
 else if n.aj=4 then n.ax.isEmpty && n.aH.isEmpty && n.bw.isEmpty && !n.cX && !n.ez && !n.dm && !n.bQ && n.af.isEmpty && oW n && tyB n.fType
 else if n.aj=5 then sL n && !n.bQ && n.cE.isEmpty && nI n.fType
 else if n.aj=6 then sL n && !n.bQ && !n.dm && n.cE.isEmpty && nI n.fType
 else false
def qL(n:ag)(free:Bool):Bool:=nV n && KH n free
def jD(kind:Int)(bound:Bool)(n:ag):Bool:=lX n && !decide (n.aj=7) && (decide (n.aj=6) == decide (kind=5)) && !(n.cX && bound) && n.ax.all (pF n.af) && n.aH.all (tv n.af)
def mh(l:List ag)(kind:Int):Bool:=cm (nmS l) && (decide (kind=5) || decide (kind=6) || cm (nmS (dk l)))
def kA:List ag->Int->Bool->Bool
 | [],_,_=>true
 | .mk k a b c d e f g h i j l m n ks::xs,kind,bd=>jD kind bd (.mk k a b c d e f g h i j l m n ks) && (mh ks k && kA ks k (bd || !m.isEmpty || decide (k=6))) && kA xs kind bd
def CT(x:ag)(xs:List ag)(kind:Int)(bd:Bool):kA (x::xs) kind bd=(jD kind bd x && (mh x.af x.aj && kA x.af x.aj (bd || !x.bP.isEmpty || decide (x.aj=6))) && kA xs kind bd):=by cases x;rw[kA];rfl
def kS:List ag->Int->Bool->Nat->Bool
 | [],_,_,_=>true
 | .mk k a b c d e f g h i j l m n ks::xs,kind,fr,p=>(decide (kind=5) == decide (k=6)) && qL (.mk k a b c d e f g h i j l m n ks) fr && (cm (nmS ks) && kS ks k (fr && m.isEmpty && !decide (k=6)) (p+1) && cm (nmS (dk ks)) && (decide (p+1<=8) || ks.isEmpty)) && kS xs kind fr p
def CS(x:ag)(xs:List ag)(kind:Int)(fr:Bool)(p:Nat):kS (x::xs) kind fr p=((decide (kind=5) == decide (x.aj=6)) && qL x fr && (cm (nmS x.af) && kS x.af x.aj (fr && x.bP.isEmpty && !decide (x.aj=6)) (p+1) && cm (nmS (dk x.af)) && (decide (p+1<=8) || x.af.isEmpty)) && kS xs kind fr p):=by cases x;rw[kS];rfl
def kR(l:List ag)(kind:Int)(bd:Bool):Bool:=mh l kind && kA l kind bd
def kT(l:List ag)(kind:Int)(fr:Bool)(p:Nat):Bool:=cm (nmS l) && kS l kind fr p && cm (nmS (dk l)) && (decide (p<=8) || l.isEmpty)
def kg(l:List ag):Bool:=decide (bR l<=60) && decide (fw l<=8) && kR l 0 false
theorem yS{α:Type}[Inhabited α](x:α)(l:List α)(k:Nat):at_ (x::l) (k+1)=at_ l k:=rfl
theorem nB{α:Type}[Inhabited α]{l:List α}{i:Nat}(h:i<l.length):l[i]=at_ l i:=by unfold at_;rw[getElem?_eq_getElem h];rfl
def qb(l:List Str):cm l=true↔l.Nodup:=by
 constructor
 ·intro h;refine List.pairwise_iff_getElem.2 λi j hi' hj hi e=>?_;have h1:=oO h hj;rw[nB,nB]at e;rw[vZ hi hj e]at h1;exact absurd h1 Xp
 ·intro h;rw[cm]
  have:∀n,n<=l.length->cg (λj=>!cont (l.take j) (at_ l j)) n=true:=by
   intro n
   induction n with
   | zero=>intro _;rfl
   | succ n ih =>
    intro hn;refine cf (ih Um) ?_;rw[tf]
    ·rfl
    intro y hy;rw[beq_eq_false_iff_ne];intro e;obtain⟨i,hi,e2⟩:=getElem_of_mem hy;rw[length_take]at hi;rw[getElem_take,nB,e]at e2;refine List.pairwise_iff_getElem.1 h i n Um Um Um ?_;rw[nB,nB,e2]
  exact this _ (Nat.le_refl _)
def xA{α:Type}{p:α->Bool}:∀ {l:List α},¬0<=idx p l->∀x∈l,p x=false
 | x::xs,h,y,hy=>by
  have h0:=p8 p xs;simp only[idx]at h;split at h
  ·omega
  ·rename_i h1;split at h
   ·rcases List.mem_cons.1 hy with rfl|hy
    ·simpa using h1
    ·exact xA Um y hy
   ·omega
theorem gb{α:Type}[Inhabited α]{p:α->Bool}:∀ {l:List α},0<=idx p l->(idx p l).toNat<l.length/\p (at_ l (idx p l).toNat)=true/\at_ l (idx p l).toNat∈l
 | [],h=>by simp[idx]at h
 | x::xs,h=>by
  simp only[idx]at h ⊢;split
  ·rename_i h1;exact⟨Xp,h1,by simp[at_]⟩
  ·rename_i h1;rw[if_neg h1]at h;split at h
   ·omega
   ·rename_i h2;have ih:=gb (p:=p) (l:=xs) Um;rw[if_neg h2,show (idx p xs+1).toNat=(idx p xs).toNat+1 by omega,yS];exact⟨by rw[length_cons];omega,ih.2.1,mem_cons_of_mem _ ih.2.2⟩
theorem Nl{α:Type}[Inhabited α]{p:α->Bool}:∀ {l:List α} {j:Nat},j<l.length->p (at_ l j)=true->idx p l<=j/\0<=idx p l
 | x::xs,0,_,h=>by
  have:p x=true:=h;simp[idx,this]
 | x::xs,j+1,hj,h=>by
  have h1:=Nl (p:=p) (l:=xs) (j:=j) (by simpa using hj) h;simp only[idx];split
  ·omega
  ·split<;>omega
def Ac{l:List ag}(hd:cm (nmS l)=true){x y:ag}(hx:x∈l)(hy:y∈l)(e:x.ae=y.ae):x=y:=by
 rw[qb,nmS]at hd
 induction l with
 | nil=>simp at hx
 | cons z l ih =>
  rw[map_cons,nodup_cons]at hd;rcases List.mem_cons.1 hx with gx|gx<;>rcases List.mem_cons.1 hy with gy|gy
  ·rw[gx,gy]
  ·subst gx;exact absurd (List.mem_map.2 ⟨y,gy,e.symm⟩) hd.1
  ·subst gy;exact absurd (List.mem_map.2 ⟨x,gx,e⟩) hd.1
  ·exact ih hd.2 gx gy
def zZ{ks:List ag}(hd:cm (nmS ks)=true)(k:Str):(0<=idx (fq k) ks↔0<=idx (nmP k) ks/\(at_ ks (idx (nmP k) ks).toNat).aj=3)/\(0<=idx (fq k) ks->at_ ks (idx (fq k) ks).toNat=at_ ks (idx (nmP k) ks).toNat):=by
 have key:0<=idx (fq k) ks->0<=idx (nmP k) ks/\at_ ks (idx (fq k) ks).toNat=at_ ks (idx (nmP k) ks).toNat/\(at_ ks (idx (fq k) ks).toNat).aj=3:=by
  intro h;obtain⟨h1,h2,h3⟩:=gb h;simp only[fq,Bool.and_eq_true,beq_iff_eq,decide_eq_true_eq]at h2
  have h4:0<=idx (nmP k) ks:=by
   apply Classical.byContradiction;intro h5;have:=xA h5 _ h3;simp only[nmP,beq_eq_false_iff_ne]at this;exact this h2.1
  obtain⟨g1,g2,g3⟩:=gb h4;simp only[nmP,beq_iff_eq]at g2;exact⟨h4,Ac hd h3 g3 (h2.1.trans g2.symm),h2.2⟩
 refine⟨⟨λh=>⟨(key h).1,(key h).2.1 ▸ (key h).2.2⟩,λh=>?_⟩,λh=>(key h).2.1⟩;apply Classical.byContradiction;intro h5;obtain⟨g1,g2,g3⟩:=gb h.1;have:=xA h5 _ g3;simp only[nmP,beq_iff_eq]at g2;simp only[fq,g2,h.2]at this;simp at this
def YA{ks:List ag}(hd:cm (nmS ks)=true)(k:Str):pF ks k=rM ks k:=by
 have h:=zZ hd k;rw[Bool.eq_iff_iff];simp only[pF,rM,Bool.and_eq_true,decide_eq_true_eq];constructor
 ·intro g;rw[<- h.2 g.1]at *;exact⟨h.1.1 g.1,g.2⟩
 ·intro g;have:=h.1.2 g.1;rw[h.2 this];exact⟨this,g.2⟩
def XQ{ks:List ag}(hd:cm (nmS ks)=true)(k:Str):tv ks k=ry ks k:=by have h:=zZ hd k;rw[Bool.eq_iff_iff];simp only[tv,ry,Bool.and_eq_true,decide_eq_true_eq];exact h.1
def MK(l:List Str):names l=l.all isName:=by rw[names,qU]
def Bz{ks:List ag}{l:List Str}(hn:∀y∈ks,isName y.ae=true)(h:∀k∈l,0<=idx (nmP k) ks):names l=true:=by rw[MK,all_eq_true];intro k hk;obtain⟨g1,g2,g3⟩:=gb (h k hk);simp only[nmP,beq_iff_eq]at g2;rw[<- g2];exact hn _ g3
def SW{n:ag}(hd:cm (nmS n.af)=true)(hn:∀y∈n.af,isName y.ae=true)(hk:n.aj=2)(bd:Bool):(kX n && jb n && !(n.cX && bd) && n.ax.all (pF n.af) && n.aH.all (tv n.af))=pW n:=by
 have e1:pF n.af=rM n.af:=funext λk=>YA hd k
 have e2:tv n.af=ry n.af:=funext λk=>XQ hd k;rw[e1,e2,pW]
 cases h1:n.ax.all (rM n.af)with
 | false=>simp
 | true =>
  cases h2:n.aH.all (ry n.af)with
  | false=>simp
  | true =>
   have h3:names n.ax=true:=Bz hn λk hk=>by
    have:=List.all_eq_true.1 h1 k hk;simp only[rM,Bool.and_eq_true,decide_eq_true_eq]at this;exact this.1.1
   have h4:names n.aH=true:=Bz hn λk hk=>by
    have:=List.all_eq_true.1 h2 k hk;simp only[ry,Bool.and_eq_true,decide_eq_true_eq]at this;exact this.1
   have h5:decide (1<=n.ax.length)=!n.ax.isEmpty:=qN _;simp only[kX,jb,dK,hk,h3,h4,h5];cases nI n.fType<;>cases n.ax.isEmpty<;>cases n.cX<;>cases n.dm<;>cases n.bQ<;>cases n.ez<;>cases n.bw.isEmpty<;>simp<;>grind
def ME{n:ag}(hd:cm (nmS n.af)=true)(hn:∀y∈n.af,isName y.ae=true)(kind:Int)(bd:Bool):jD kind bd n=((decide (kind=5) == decide (n.aj=6)) && qL n (!bd)):=by
 rw[jD,qL,lX,KH]
 cases nV n with
 | false=>simp
 | true =>
  by_cases h2:n.aj=2
  ·rw[<- SW hd hn h2 bd];simp[h2];grind
  ·have e:∀(a b:Bool),(a == b)=(b == a):=by decide
   by_cases h1:n.aj=1
   ·simp only[kX,jb,sL,dK,h1];cases nI n.fType<;>cases hk:n.ax<;>cases hu:n.aH<;>cases n.cX<;>cases n.dm<;>cases n.bQ<;>cases n.ez<;>simp<;>grind
   by_cases h5:n.aj=5
   ·simp only[kX,jb,sL,dK,h5];cases nI n.fType<;>cases hk:n.ax<;>cases hu:n.aH<;>cases n.cX<;>cases n.dm<;>cases n.bQ<;>cases n.ez<;>simp<;>grind
   by_cases h6:n.aj=6
   ·simp only[kX,jb,sL,dK,h6];cases nI n.fType<;>cases hk:n.ax<;>cases hu:n.aH<;>cases n.cX<;>cases n.dm<;>cases n.bQ<;>cases n.ez<;>simp<;>grind
   by_cases h4:n.aj=4
   ·simp only[kX,jb,sL,dK,h4];cases tyB n.fType<;>cases hk:n.ax<;>cases hu:n.aH<;>cases n.cX<;>cases n.dm<;>cases n.bQ<;>cases n.ez<;>simp<;>grind
   by_cases h3:n.aj=3
   ·simp only[kX,jb,sL,dK,KF,h3];cases tyB n.fType<;>cases hk:n.ax<;>cases hu:n.aH<;>cases n.cX<;>cases n.dm<;>cases n.bQ<;>cases n.bP.isEmpty<;>cases bd<;>simp<;>grind
   by_cases h7:n.aj=7
   ·simp[h7]
   ·simp[jb,h1,h2,h3,h4,h5,h6,h7]
def Jq:∀ {l:List ag} {kind:Int} {fr:Bool} {p:Nat},kS l kind fr p=true->∀y∈l,isName y.ae=true
 | [],_,_,_,_,y,h=>by simp at h
 | x::xs,kind,fr,p,h,y,hy=>by
  rw[CS]at h;simp only[Bool.and_eq_true]at h;rcases List.mem_cons.1 hy with rfl|hy
  ·have:=h.1.1.2;simp only[qL,nV,Bool.and_eq_true]at this;exact this.1.1.1
  ·exact Jq h.2 y hy
def Jr:∀ {l:List ag} {kind:Int} {bd:Bool},kA l kind bd=true->∀y∈l,isName y.ae=true
 | [],_,_,_,y,h=>by simp at h
 | x::xs,kind,bd,h,y,hy=>by
  rw[CT]at h;simp only[Bool.and_eq_true]at h;rcases List.mem_cons.1 hy with rfl|hy
  ·have:=h.1.1;simp only[jD,lX,nV,Bool.and_eq_true]at this;exact this.1.1.1.1.1.1.1.1
  ·exact Jr h.2 y hy
def Eb(x:ag)(xs:List ag):fw (x::xs)=max (1+fw x.af) (fw xs):=by cases x;rw[fw];rfl
def NW{a b:List ag}(h:cm (nmS (a++b))=true):cm (nmS a)=true/\cm (nmS b)=true:=by rw[qb,nmS,map_append,nodup_append]at h;rw[qb,qb];exact⟨h.1,h.2.1⟩
def ur:∀(n:Nat) (l:List ag) (kind:Int) (bd:Bool) (p:Nat),SizeOf.sizeOf l<n->p<=8->cm (nmS (dk l))=true->((kA l kind bd=true/\(fw l+p<=9))↔kS l kind (!bd) p=true)
 | 0,l,_,_,_,h=>absurd h (Nat.not_lt_zero _)
 | n+1,[],_,_,p,_=>by simp[kA,kS,fw];omega
 | n+1,x::xs,kind,bd,p,hs=>by
  intro hp hd
  have hsz:SizeOf.sizeOf x.af<n/\SizeOf.sizeOf xs<n:=by
   have:=ag.dA (l:=x::xs) (x:=x) Xp;simp only[List.cons.sizeOf_spec]at *;omega
  rw[nE]at hd;have hd2:=NW hd
  have ih1:=ur n xs kind bd p hsz.2 hp hd2.2;rw[CT,CS,Eb];simp only[Bool.and_eq_true]
  have hK:(mh x.af x.aj=true/\kA x.af x.aj (bd || !x.bP.isEmpty || decide (x.aj=6))=true)/\fw x.af+(p+1)<=9↔((cm (nmS x.af)=true/\kS x.af x.aj (!bd && x.bP.isEmpty && !decide (x.aj=6)) (p+1)=true)/\cm (nmS (dk x.af))=true)/\(decide (p+1<=8) || x.af.isEmpty)=true:=by
   have hq:mh x.af x.aj=true↔cm (nmS x.af)=true/\cm (nmS (dk x.af))=true:=by
    simp only[mh,Bool.and_eq_true,Bool.or_eq_true,decide_eq_true_eq];constructor
    ·rintro⟨a,b⟩;refine⟨a,?_⟩;by_cases hk:x.aj=5\/x.aj=6
     ·have:=hd2.1;rw[if_neg (by rcases hk with h|h<;>rw[h]<;>decide),if_pos hk]at this;exact this
     ·rcases b with b|b
      ·exact absurd b hk
      ·exact b
    ·rintro⟨a,b⟩;exact⟨a,.inr b⟩
   rw[hq,show (!bd && x.bP.isEmpty && !decide (x.aj=6))=!(bd || !x.bP.isEmpty || decide (x.aj=6)) by cases bd<;>cases x.bP.isEmpty<;>simp]
   cases hx:x.af with
   | nil=>simp[kA,kS,fw,dk];omega
   | cons y ys =>
    by_cases h8:p+1<=8
    ·rw[show (decide (p+1<=8) || (y::ys).isEmpty)=true by simp;omega];rw[<- hx];constructor
     ·rintro⟨⟨⟨a,b⟩,c⟩,d⟩;exact⟨⟨⟨a,(ur n x.af x.aj _ (p+1) hsz.1 h8 b).1 ⟨c,d⟩⟩,b⟩,rfl⟩
     ·rintro⟨⟨⟨a,b⟩,c⟩,d⟩;have:=(ur n x.af x.aj _ (p+1) hsz.1 h8 c).2 b;exact⟨⟨⟨a,c⟩,this.1⟩,this.2⟩
    ·constructor
     ·rintro⟨_,d⟩;rw[Eb]at d;omega
     ·rintro⟨_,d⟩;simp at d;omega
  constructor
  ·rintro⟨⟨⟨h1,h2⟩,h3⟩,h4⟩;have h5:=hK.1 ⟨h2,Um⟩;rw[ME h5.1.1.1 (Jr h2.2),Bool.and_eq_true]at h1;exact⟨⟨h1,h5⟩,ih1.1 ⟨h3,Um⟩⟩
  ·rintro⟨⟨h1,h2⟩,h3⟩;have h5:=hK.2 h2
   have h6:=ih1.2 h3;refine⟨⟨⟨?_,h5.1⟩,h6.1⟩,Um⟩;rw[ME h2.1.1.1 (Jq h2.1.1.2),Bool.and_eq_true];exact h1
def MY(l:List ag):(decide (fw l<=8) && kR l 0 false)=kT l 0 true 1:=by
 rw[Bool.eq_iff_iff];simp only[kR,kT,mh,Bool.and_eq_true,Bool.or_eq_true,decide_eq_true_eq];constructor
 ·rintro⟨h1,⟨h2,h3⟩,h4⟩;have h3:cm (nmS (dk l))=true:=by rcases h3 with(h|h)|h<;>first|exact h|(exact absurd h daa)
  exact⟨⟨⟨h2,(ur _ l 0 false 1 (Nat.lt_succ_self _) Um h3).1 ⟨h4,Um⟩⟩,h3⟩,.inl Um⟩
 ·rintro⟨⟨⟨h1,h2⟩,h3⟩,h4⟩;have:=(ur _ l 0 false 1 (Nat.lt_succ_self _) Um h3).2 h2;exact⟨Um,⟨h1,.inr h3⟩,this.1⟩
def Ew(l:List ag):kg l=(decide (0<=gG l (60 - l.length)) && kT l 0 true 1):=by rw[SY,kg,Bool.and_assoc,MY]
def Jc{l:List ag}{k:Nat}(hk:k<l.length):idx (nmP (at_ l k).ae) l=k↔cont ((nmS l).take k) (at_ (nmS l) k)=false:=by
 have e:at_ (nmS l) k=(at_ l k).ae:=pO hk;rw[e];constructor
 ·intro h;rw[Bool.eq_false_iff];intro hc;rw[iP]at hc;obtain⟨i,hi,e2⟩:=getElem_of_mem hc;rw[length_take]at hi;have hi':i<l.length:=by omega
  rw[getElem_take,nB,nmS,pO hi']at e2;have:=Nl (p:=nmP (at_ l k).ae) hi' (by simp[nmP,e2]);omega
 ·intro h;refine gD hk (λy hy=>?_) (by simp[nmP]);rw[Bool.eq_false_iff]at h ⊢;intro hc;apply h;rw[iP,nmS,<- map_take,mem_map];exact⟨y,hy,by simpa[nmP]using hc⟩
def Mm{l:List ag}{k:Nat}(hk:k<l.length)(h:¬idx (nmP (at_ l k).ae) l=k):cm (nmS l)=false:=by refine cM (j:=k) (by rw[nmS,length_map];exact hk) ?_;rw[Jc hk]at h;simpa using h
def KJ{l:List ag}{k:Nat}(h:k<l.length)(kind:Int)(bd:Bool):kA (l.drop k) kind bd=(jD kind bd (at_ l k) && (mh (at_ l k).af (at_ l k).aj && kA (at_ l k).af (at_ l k).aj (bd || !(at_ l k).bP.isEmpty || decide ((at_ l k).aj=6))) && kA (l.drop (k+1)) kind bd):=by rw[bA h,CT]
def YC{l:List ag}{k:Nat}(h:k<l.length)(kind:Int)(fr:Bool)(p:Nat):kS (l.drop k) kind fr p=((decide (kind=5) == decide ((at_ l k).aj=6)) && qL (at_ l k) fr && kT (at_ l k).af (at_ l k).aj (fr && (at_ l k).bP.isEmpty && !decide ((at_ l k).aj=6)) (p+1) && kS (l.drop (k+1)) kind fr p):=by rw[bA h,CS];rfl
def wtS:List ag->Nat
 | []=>0
 | .mk _ _ _ _ _ e _ _ _ _ _ _ m n ks::xs=>1+e.length+eB m+eB n+wtS ks+wtS xs
def Ot(x:ag)(xs:List ag):wtS (x::xs)=1+x.bw.length+eB x.bP+eB x.cE+wtS x.af+wtS xs:=by cases x;rw[wtS];rfl
def gV:∀(l:List ag),bR l<=wtS l
 | []=>by simp[bR]
 | .mk _ _ _ _ _ _ _ _ _ _ _ _ _ _ ks::xs=>by have:=gV ks;have:=gV xs;simp only[bR,wtS];omega
def yJ:∀(l:List ag),fw l<=wtS l
 | []=>by simp[fw]
 | .mk _ _ _ _ _ _ _ _ _ _ _ _ _ _ ks::xs=>by have:=yJ ks;have:=yJ xs;simp only[fw,wtS];omega
def Cm:∀ {l:List ag} {x:ag},x∈l->1+x.bw.length+eB x.bP+eB x.cE+wtS x.af<=wtS l
 | y::l,x,h=>by
  rw[Ot];rcases List.mem_cons.1 h with rfl|h
  ·omega
  ·have:=Cm h;omega
def Db:∀(l:List aZ) (r:Int),0<=r->0<=jB l r->jB l r+eB l<=r+1
 | [],r,_,_=>by simp[jB,eB];omega
 | .mk op num tx p ks::xs,r,h0,h=>by
  rw[jB]at h ⊢;obtain⟨h1,e1⟩:=iA h;rw[e1]at h ⊢
  have hx:cY (.mk op num tx p ks) r+ja (.mk op num tx p ks)<=r+1:=by
   rw[cY]at h1 ⊢;obtain⟨h2,e2⟩:=iA h1;rw[e2]at h1 ⊢;obtain⟨h3,e3⟩:=iA h1;rw[e3]at h1 ⊢;obtain⟨h4,e4⟩:=iA h1;rw[e4]at h1 ⊢;simp only[id]at h1 h4 ⊢;obtain⟨h5,e5⟩:=iA h4;rw[e5]at h1 ⊢;have h6:=Db ks _ h5 h1
   have h7:=sy p (aC tx r) h2
   have h8:=aQ tx r h0;rw[ja]
   cases ks with
   | nil=>simp only[eB,jB,length_nil]at *;omega
   | cons y ys=>simp only[length_cons]at *;omega
  have h9:=Db xs _ h1 h
  have h10:=tE xs _ h1
  have h11:=fT (.mk op num tx p ks) r h0;rw[eB];rcases Nat.le_total (ja (.mk op num tx p ks)) (eB xs)with q|q
  ·rw[Nat.max_eq_right q];omega
  ·rw[Nat.max_eq_left q];omega
def JG{l:List aZ}{r:Int}(h0:0<=r)(h:0<=aJ cY l r):aJ cY l r+eB l<=r:=by
 rcases Int.lt_or_le (r - l.length) 0 with h2|h2
 ·rw[gf h2]at h;omega
 ·rw[gF h2,<- tF]at h ⊢;have:=Db l _ h2 h
  cases l with
  | nil=>simp only[eB,jB,length_nil]at *;omega
  | cons y ys=>simp only[length_cons]at *;omega
def E2:∀(l:List ag) (r:Int),0<=r->0<=ji l r->ji l r+wtS l<=r+l.length
 | [],r,_,_=>by simp[ji,wtS]
 | .mk k a b c d e f g hh i j lx m n ks::xs,r,h0,h=>by
  rw[ji]at h ⊢;obtain⟨h1,e1⟩:=iA h;rw[e1]at h ⊢
  have hx:ck (.mk k a b c d e f g hh i j lx m n ks) r+(e.length+eB m+eB n+wtS ks:Nat)<=r:=by
   rw[ck]at h1 ⊢;obtain⟨g0,e0⟩:=iA h1;rw[e0]at h1 ⊢;obtain⟨g1,e1⟩:=iA h1;rw[e1]at h1 ⊢;obtain⟨g2,e2⟩:=iA h1;rw[e2]at h1 ⊢;obtain⟨g3,e3⟩:=iA h1;rw[e3]at h1 ⊢;obtain⟨g4,e4⟩:=iA h1;rw[e4]at h1 ⊢;obtain⟨g5,e5⟩:=iA h1;rw[e5]at h1 ⊢;obtain⟨g6,e6⟩:=iA h1;rw[e6]at h1 ⊢;obtain⟨g7,e7⟩:=iA h1;rw[e7]at h1 ⊢;simp only[id]at h1 g7 ⊢;obtain⟨g8,e8⟩:=iA g7;rw[e8]at h1 ⊢;have q0:=aQ a r h0
   have q1:=mI b _ g0
   have q2:=bh aC aQ c _ g1
   have q3:=bh aC aQ d _ g2
   have q5:=JG g4 g5
   have q6:=JG g5 g6
   have q7:=E2 ks _ g8 h1;rw[show aC e (aJ aC d (aJ aC c (ed b (aC a r))))=aJ aC d (aJ aC c (ed b (aC a r))) - e.length from rfl]at *;omega
  have:=E2 xs _ h1 h;rw[wtS,length_cons];omega
def RF{l:List ag}{r:Int}(h0:0<=r)(h:0<=aJ ck l r):(wtS l:Int)<=r:=by
 rcases Int.lt_or_le (r - l.length) 0 with h2|h2
 ·rw[gf h2]at h;omega
 ·rw[gF h2,<- qk]at h;have:=E2 l _ h2 h;omega
def ndP(n:Str)(x:ah):Bool:=x.ae == n
def kyB(n:ag)(x:ah):Bool:=!decide (n.aj=2) || n.ax.all (λk=>decide (0<=idx (ndP k) x.af))
def kyL(n:ag)(x:ah):List Str:=if n.aj=2 then (if kyB n x=true then n.ax.map (λk=>(at_ x.af (idx (ndP k) x.af).toNat).aq) else []) else [x.aq]
def dR:List Str->List Str->Bool
 | [],[]=>false
 | [],_::_=>true
 | _::_,[]=>false
 | x::xs,y::ys=>if x=y then dR xs ys else Op.bytesLess x y
def o8(a b:Str):Int:=if Op.bytesLess a b=true then -1 else if a=b then 0 else 1
def cmpL:List Str->List Str->Int
 | [],[]=>0
 | [],_::_=>-1
 | _::_,[]=>1
 | x::xs,y::ys=>if o8 x y=0 then cmpL xs ys else o8 x y
def sN:∀a:Str,Op.bytesLess a a=false
 | []=>by simp[Op.bytesLess]
 | x::xs=>by simp[Op.bytesLess,sN xs]
def xN(a b:Str):o8 a b=0↔a=b:=by
 unfold o8;constructor
 ·intro h;split at h
  ·omega
  ·split at h
   ·assumption
   ·omega
 ·rintro rfl;simp[sN]
def kD:∀a b:List Str,dR a b=decide (cmpL a b<0)
 | [],[]=>by simp[dR,cmpL]
 | [],_::_=>by simp[dR,cmpL]
 | _::_,[]=>by simp[dR,cmpL]
 | x::xs,y::ys=>by
  rw[dR,cmpL];by_cases h:x=y
  ·rw[if_pos h,if_pos ((xN _ _).2 h),kD xs ys]
  ·rw[if_neg h,if_neg (λc=>h ((xN _ _).1 c)),o8];cases Op.bytesLess x y<;>simp[h]
def gM(k:Int):Bool:=decide (k=2) || decide (k=4)
def jr(n:ag)(a b:ah):Int:=if gM n.aj=true then cmpL (kyL n a) (kyL n b) else 0
def dY(d:List ag)(a b:ah):Bool :=
 if idx (nmP a.ae) d=idx (nmP b.ae) d/\gM (at_ d (idx (nmP b.ae) d).toNat).aj=true then dR (kyL (at_ d (idx (nmP b.ae) d).toNat) a) (kyL (at_ d (idx (nmP b.ae) d).toNat) b) else decide (idx (nmP a.ae) d<idx (nmP b.ae) d)
def wq(d:List ag):Option ah->ah->Bool
 | none,_=>true
 | some a,b=>dY d a b
def okL(d:List ag):Option ah->List ah->Bool
 | _,[]=>true
 | p,.mk nm v ks::xs =>
  decide (0<=idx (nmP nm) d) &&
  (let n:=at_ d (idx (nmP nm) d).toNat
   if n.aj=3\/n.aj=4 then ks.isEmpty && isVal n.fType v
   else if n.aj=2 then kyB n (.mk nm v ks) && v.isEmpty && okL (dk n.af) none ks
   else v.isEmpty && (n.bQ || !ks.isEmpty) && okL (dk n.af) none ks) &&
  wq d p (.mk nm v ks) && okL d (some (.mk nm v ks)) xs
def okN(n:ag)(x:ah):Bool :=
 if n.aj=3\/n.aj=4 then x.af.isEmpty && isVal n.fType x.aq
 else if n.aj=2 then kyB n x && x.aq.isEmpty && okL (dk n.af) none x.af
 else x.aq.isEmpty && (n.bQ || !x.af.isEmpty) && okL (dk n.af) none x.af
def vm(d:List ag)(p:Option ah)(x:ah)(xs:List ah):okL d p (x::xs)=(decide (0<=idx (nmP x.ae) d) && okN (at_ d (idx (nmP x.ae) d).toNat) x && wq d p x && okL d (some x) xs):=by cases x;rw[okL];rfl
def prv(l:List ah):Nat->Option ah
 | 0=>none
 | k+1=>some (at_ l k)
def rK{d:List ag}{l:List ah}{k:Nat}(h:k<l.length):okL d (prv l k) (l.drop k)=(decide (0<=idx (nmP (at_ l k).ae) d) && okN (at_ d (idx (nmP (at_ l k).ae) d).toNat) (at_ l k) && wq d (prv l k) (at_ l k) && okL d (prv l (k+1)) (l.drop (k+1))):=by rw[bA h,vm];rfl
def jx(d:List ag)(l:List ah)(k:Nat):Int:=match prv l k with
 | none=>-1
 | some a=>idx (nmP a.ae) d
def cW(s:List ag)(l:List ah):Bool:=kg s && decide (cnt l<=120) && okL (dk s) none l
def yI:∀(l:List ag),∀y∈dk l,dK y.aj=true
 | [],y,h=>by simp[dk]at h
 | .mk k a b c d e f g h i j l m n ks::xs,y,hy=>by
  rw[dk,mem_append]at hy;rcases hy with hy|hy
  ·split at hy
   ·rename_i h1;rw[mem_singleton]at hy;subst hy;exact h1
   ·split at hy
    ·exact yI ks y hy
    ·simp at hy
  ·exact yI xs y hy
def jR:∀(l:List ag),∀y∈dk l,1+y.bw.length+wtS y.af<=wtS l
 | [],y,h=>by simp[dk]at h
 | .mk k a b c d e f g h i j l m n ks::xs,y,hy=>by
  rw[dk,mem_append]at hy;rcases hy with hy|hy
  ·split at hy
   ·rename_i h1;rw[mem_singleton]at hy;subst hy;simp only[wtS,ag.af,ag.bw];omega
   ·split at hy
    ·have:=jR ks y hy;simp only[wtS];omega
    ·simp at hy
  ·have:=jR xs y hy;simp only[wtS];omega
def fY(d:List ag)(n:Str):idx (λx=>x == n) (nmS d)=idx (nmP n) d:=by rw[nmS,<- uA ag.ae (λx=>x == n)];rfl
def Qv:List Str->List ag->ah->List ah
 | [],_,x=>[x]
 | c::cs,s,x =>
  if x.ae=c then
   (if cs=[] then [x] else
    (let n:=at_ (dk s) (idx (nmP x.ae) (dk s)).toNat
     if n.aj=1\/n.aj=2 then
     (let kids:=x.af.flatMap λk=>if cont n.ax k.ae=true then [k] else Qv cs n.af k
      if n.aj=1/\n.bQ=false/\kids=[] then [] else [.mk x.ae [] kids])
     else []))
  else []
def vY:List Str->List ag->List Str->ah->List ah
 | [],_,_,x=>[x]
 | c::cs,d,keys,x =>
  let n:=at_ d (idx (nmP x.ae) d).toNat
  if ¬n.ae=c\/(n.aj=3\/n.aj=4)/\¬cs=[] then (if cont keys n.ae=true then [x] else [])
  else (let kids:=x.af.flatMap (vY cs (dk n.af) n.ax)
   if ¬n.aj=1\/n.bQ=true\/¬kids=[] then [.mk n.ae x.aq kids] else [])
def okX(d:List ag)(x:ah):Prop:=0<=idx (nmP x.ae) d/\okN (at_ d (idx (nmP x.ae) d).toNat) x=true
def ui:∀ {l:List ah} {d:List ag} {p:Option ah},okL d p l=true->∀x∈l,okX d x
 | y::l,d,p,h,x,hx=>by
  rw[vm]at h;simp only[Bool.and_eq_true,decide_eq_true_eq]at h;rcases List.mem_cons.1 hx with rfl|hx
  ·exact⟨h.1.1.1,h.1.1.2⟩
  ·exact ui h.2 x hx
def gdS(s:List ag):Prop:=cm (nmS (dk s))=true/\∃kind bd,kA s kind bd=true
def xJ:∀ {l:List ag} {m:ag},m∈l->dK m.aj=true->m∈dk l
 | x::xs,m,h,hk=>by
  rw[nE,mem_append];rcases List.mem_cons.1 h with rfl|h
  ·rw[if_pos hk];simp
  ·exact .inr (xJ h hk)
def yq:∀(l:List ag) (kind:Int) (bd:Bool),kA l kind bd=true->∀n∈dk l,(∃kd b,jD kd b n=true)/\gdS n.af
 | [],_,_,_,n,h=>by simp[dk]at h
 | .mk k a b c d e f g h i j l m nn ks::xs,kind,bd,hA,n,hn=>by
  rw[dk,mem_append]at hn;rw[kA]at hA;simp only[Bool.and_eq_true]at hA;rcases hn with hn|hn
  ·split at hn
   ·rename_i hk;rw[mem_singleton]at hn;subst hn;refine⟨⟨_,_,hA.1.1⟩,?_,_,_,hA.1.2.2⟩;have:=hA.1.2.1;simp only[mh,Bool.and_eq_true,Bool.or_eq_true,decide_eq_true_eq]at this;simp only[dK,Bool.and_eq_true,decide_eq_true_eq]at hk;rcases this.2 with(h|h)|h
    ·omega
    ·omega
    ·exact h
   ·split at hn
    ·exact yq ks _ _ hA.1.2.2 n hn
    ·simp at hn
  ·exact yq xs _ _ hA.2 n hn
def o4{s:List ag}(h:gdS s){n:ag}(hn:n∈dk s):gdS n.af/\(¬n.aj=2->n.ax=[])/\∀k∈n.ax,∃m∈dk n.af,m.ae=k/\m.aj=3:=by
 obtain⟨_,kind,bd,hA⟩:=h;obtain⟨⟨kd,b,ho⟩,hg⟩:=yq s kind bd hA n hn;refine⟨hg,λh2=>?_,λk hk=>?_⟩
 ·simp only[jD,lX,kX,Bool.and_eq_true,Bool.or_eq_true,decide_eq_true_eq]at ho;have:=ho.1.1.1.1.1.2.1.1.1.1.1.1.1.2;rcases this with h|h
  ·exact absurd h h2
  ·exact List.isEmpty_iff.1 h.1
 ·simp only[jD,Bool.and_eq_true]at ho;have:=List.all_eq_true.1 ho.1.2 k hk;simp only[pF,Bool.and_eq_true,decide_eq_true_eq]at this;obtain⟨h1,h2,h3⟩:=gb this.1;simp only[fq,Bool.and_eq_true,beq_iff_eq,decide_eq_true_eq]at h2;exact⟨_,xJ h3 (by rw[h2.2];rfl),h2.1,h2.2⟩
def ug{d:List ag}{x:ah}(h:okX d x):(at_ d (idx (nmP x.ae) d).toNat).ae=x.ae/\at_ d (idx (nmP x.ae) d).toNat∈d:=by obtain⟨h1,h2,h3⟩:=gb h.1;simp only[nmP,beq_iff_eq]at h2;exact⟨h2,h3⟩
def zM{n:ag}{x:ah}(h:okN n x=true)(hk:¬(n.aj=3\/n.aj=4)):x.aq=[]/\okL (dk n.af) none x.af=true/\(¬n.aj=2->n.bQ=true\/¬x.af=[]):=by
 rw[okN,if_neg hk]at h;split at h
 ·rename_i h2;simp only[Bool.and_eq_true]at h;exact⟨List.isEmpty_iff.1 h.1.2,h.2,λc=>absurd h2 c⟩
 ·simp only[Bool.and_eq_true,Bool.or_eq_true,Bool.not_eq_true']at h;refine⟨List.isEmpty_iff.1 h.1.1,h.2,λ_=>?_⟩;rcases h.1.2 with c|c
  ·exact .inl c
  ·refine .inr λe=>?_;rw[e]at c;simp at c
def FR{n:ag}{x:ah}(h:okN n x=true)(hk:n.aj=3\/n.aj=4):x.af=[]:=by rw[okN,if_pos hk]at h;simp only[Bool.and_eq_true]at h;exact List.isEmpty_iff.1 h.1
def K6{α β:Type}{f g:α->List β}{l:List α}(h:∀x∈l,f x=g x):l.flatMap f=l.flatMap g:=by
 induction l with
 | nil=>rfl
 | cons x xs ih=>rw[flatMap_cons,flatMap_cons,h x Xp,ih λy hy=>h y (by simp[hy])]
def ye{s:List ag}(h:kg s=true):gdS s:=by simp only[kg,kR,mh,Bool.and_eq_true,Bool.or_eq_true,decide_eq_true_eq]at h;refine⟨?_,_,_,h.2.2⟩;rcases h.2.1.2 with(h|h)|h<;>first|exact h|(exact absurd h daa)
open Go.Ab
def xQ:∀(x y:Str),(Op.bytesLess x y || x == y)=!Op.bytesLess y x
 | [],[]=>by simp[Op.bytesLess]
 | [],_::_=>by simp[Op.bytesLess]
 | _::_,[]=>by simp[Op.bytesLess]
 | a::x,b::y=>by
  have ih:=xQ x y;simp only[Op.bytesLess];by_cases e:a=b
  ·subst e;have:decide (a<a)=false:=by simp
   simp only[this,beq_self_eq_true,Bool.true_and,Bool.false_or,<- ih];cases Op.bytesLess x y<;>simp
  ·have e':¬b=a:=λh=>e h.symm
   have e1:(a == b)=false:=by simpa using e
   have e2:(b == a)=false:=by simpa using e'
   have e3:(a::x == b::y)=false:=by simp[e]
   rw[e1,e2,e3,Bool.false_and,Bool.false_and,Bool.or_false,Bool.or_false,Bool.or_false];by_cases h:a<b
   ·have h2:¬b<a:=λh3=>by
     have h4:=UInt8.lt_iff_toNat_lt.1 h
     have h5:=UInt8.lt_iff_toNat_lt.1 h3;omega
    simp[h,h2]
   ·have h2:b<a:=by
     have h4:¬a.toNat<b.toNat:=λh5=>h (UInt8.lt_iff_toNat_lt.2 h5)
     have h5:¬a.toNat=b.toNat:=λh6=>e (UInt8.toNat_inj.1 h6);exact UInt8.lt_iff_toNat_lt.2 Um
    simp[h,h2]
def tmI(l:List aD)(n:Str):Int:=idx (λx=>x.ae == n) l
def svc(T:List aD)(x:bp):Bool:=(isName x.ae && decide (0<=tmI T x.bz)) && (names x.bV && cm x.bV)
def ql(T:List aD)(S:List bp)(j:Nat):Bool:=svc T (at_ S j) && (j == 0 || Op.bytesLess (at_ S (j - 1)).ae (at_ S j).ae)
def ko(ip:Str->Bool)(T:List aD)(S:List bp):Bool:=((cg (λj=>dz ip (at_ T j)) T.length && cm (T.map aD.ae)) && (decide (T.length<=8) && decide (S.length<=8))) && cg (ql T S) S.length
def Gx{ip:Str->Bool}{T:List aD}{S:List bp}{j:Nat}(hj:j<T.length)(h:dz ip (at_ T j)=false):ko ip T S=false:=by rw[ko,cM hj h];rfl
def Gy{ip:Str->Bool}{T:List aD}{S:List bp}{j:Nat}(hj:j<S.length)(h:ql T S j=false):ko ip T S=false:=by rw[ko,cM hj h,Bool.and_false]
def PK{ip:Str->Bool}{T:List aD}{S:List bp}(h:(8<T.length\/cm (T.map aD.ae)=false)\/8<S.length):ko ip T S=false:=by
 rw[ko];rcases h with(h|h)|h
 ·rw[show decide (T.length<=8)=false from decide_eq_false Um];simp
 ·rw[h];simp
 ·rw[show decide (S.length<=8)=false from decide_eq_false Um];simp
theorem D8{α:Type}[Inhabited α](f:α->Str){l:List α}{k:Nat}(hk:k<l.length):idx (λx=>f x == f (at_ l k)) l=k↔cont ((l.map f).take k) (at_ (l.map f) k)=false:=by
 have hk':k<(l.map f).length:=by simpa using hk
 rw[Cf f hk,uA f (λx=>x == f (at_ l k))];have yu:((at_ (l.map f) k) == f (at_ l k))=true:=by rw[Cf f hk];simp
 constructor
 ·intro h;rw[Bool.eq_false_iff];intro hc;have hm:=(iP _ _).1 hc;obtain⟨j,hj,e⟩:=getElem_of_mem hm;rw[length_take]at hj
  have e2:at_ (l.map f) j=f (at_ l k):=by
   unfold at_;rw[getElem_take]at e;rw[getElem?_eq_getElem Um,e];rfl
  have hle:∀(m:List Str) (j:Nat),j<m.length->at_ m j=f (at_ l k)->idx (λx=>x == f (at_ l k)) m<=j:=by
   intro m
   induction m with
   | nil=>intro j h;simp at h
   | cons y ys ih =>
    intro j hj he;simp only[idx];split
    ·omega
    ·cases j with
     | zero=>rename_i hn;simp[at_]at he;simp[he]at hn;simp[at_]at hn
     | succ j =>
      have:=ih j (by simpa using hj) (by simpa[at_]using he);split
      ·omega
      ·omega
  have:=hle _ j Um e2;omega
 ·intro h;refine gD hk' (λy hy=>?_) yu;rw[beq_eq_false_iff_ne];intro e;rw[e]at hy;rw[(iP _ _).2 hy]at h;cases h
def Kc{α:Type}{f:α->Int->Int}{l:List α}{r:Int}(h:0<=aJ f l r):(l.length:Int)<=r:=by
 rcases Int.lt_or_le (r - l.length) 0 with h4|h4
 ·rw[gf h4]at h;omega
 ·omega
theorem eV{α:Type}[Inhabited α]{l:List α}{i:Nat}(h:i<l.length):l.take (i+1)=l.take i++[at_ l i]:=by rw[take_succ_eq_append_getElem h];unfold at_;rw[getElem?_eq_getElem h];rfl
def RN{T:List aD}{S:List bp}{j:Nat}(h:(((isName (at_ S j).ae=false\/0<(j:Int)/\(Op.bytesLess (at_ S j).ae (at_ S ((j:Int) - 1).toNat).ae=true\/(at_ S j).ae=(at_ S ((j:Int) - 1).toNat).ae))\/tmI T (at_ S j).bz<0)\/names (at_ S j).bV=false)\/cm (at_ S j).bV=false):ql T S j=false:=by
 unfold ql svc;rcases h with(((h|⟨h0,h⟩)|h)|h)|h
 ·rw[h];simp
 ·have e:((j:Int) - 1).toNat=j - 1:=by omega
  rw[e]at h
  have h2:(Op.bytesLess (at_ S j).ae (at_ S (j - 1)).ae || (at_ S j).ae == (at_ S (j - 1)).ae)=true:=by
   rcases h with h|h
   ·rw[h];rfl
   ·simp[h]
  rw[xQ]at h2;have h3:Op.bytesLess (at_ S (j - 1)).ae (at_ S j).ae=false:=by simpa using h2
  have h4:(j == 0)=false:=by simp only[beq_eq_false_iff_ne];omega
  rw[h3,h4];simp
 ·rw[show decide (0<=tmI T (at_ S j).bz)=false from decide_eq_false Um];simp
 ·rw[h];simp
 ·rw[h];simp
def OD{T:List aD}{S:List bp}{j:Nat}(h:(((isName (at_ S j).ae=true/\(0<(j:Int)->Op.bytesLess (at_ S j).ae (at_ S ((j:Int) - 1).toNat).ae=false/\¬(at_ S j).ae=(at_ S ((j:Int) - 1).toNat).ae))/\0<=tmI T (at_ S j).bz)/\names (at_ S j).bV=true)/\cm (at_ S j).bV=true):ql T S j=true:=by
 unfold ql svc;obtain⟨⟨⟨⟨h1,h2⟩,h3⟩,h4⟩,h5⟩:=h;rw[h1,h4,h5,show decide (0<=tmI T (at_ S j).bz)=true from decide_eq_true h3];by_cases h0:j=0
 ·simp[h0]
 ·have e:((j:Int) - 1).toNat=j - 1:=by omega
  have h6:=h2 Um;rw[e]at h6;have h7:=xQ (at_ S j).ae (at_ S (j - 1)).ae;rw[h6.1,show ((at_ S j).ae == (at_ S (j - 1)).ae)=false by simpa using h6.2]at h7;have h8:Op.bytesLess (at_ S (j - 1)).ae (at_ S j).ae=true:=by simpa using h7
  rw[h8];simp
def OE{T:List aD}{S:List bp}{j:Nat}(h:svc T (at_ S j)=false\/0<(j:Int)/\Op.bytesLess (at_ S ((j:Int) - 1).toNat).ae (at_ S j).ae=false):ql T S j=false:=by
 unfold ql;rcases h with h|⟨h0,h⟩
 ·rw[h];rfl
 ·have e:((j:Int) - 1).toNat=j - 1:=by omega
  have h4:(j == 0)=false:=by simp only[beq_eq_false_iff_ne];omega
  rw[e]at h;rw[h,h4];simp
def LO{T:List aD}{S:List bp}{j:Nat}(h:svc T (at_ S j)=true/\(0<(j:Int)->Op.bytesLess (at_ S ((j:Int) - 1).toNat).ae (at_ S j).ae=true)):ql T S j=true:=by
 unfold ql;rw[h.1];by_cases h0:j=0
 ·simp[h0]
 ·have e:((j:Int) - 1).toNat=j - 1:=by omega
  have h6:=h.2 Um;rw[e]at h6;rw[h6];simp
def KK{ip:Str->Bool}{T:List aD}{S:List bp}{j:Nat}(hj:j<T.length)(h:¬tmI T (at_ T j).ae=j):ko ip T S=false:=by
 rw[ko]
 have:cm (T.map aD.ae)=false:=by
  unfold cm;refine cM (j:=j) (by simpa using hj) ?_
  cases e:cont ((T.map aD.ae).take j) (at_ (T.map aD.ae) j)with
  | true=>rfl
  | false=>exact absurd ((D8 aD.ae hj).2 e) h
 rw[this];simp
def oP(T:List aD):Prop:=∀t∈T,wt t.dh<=1048576/\t.aG.length<=1048576
open Go Go.Ab
def Qx(a b:Str):-1<=o8 a b/\o8 a b<=1:=by unfold o8;repeat' split<;>omega
def JU{a b:List Str}{i:Nat}(h1:i<a.length)(h2:i<b.length):cmpL (a.drop i) (b.drop i)=if o8 (at_ a i) (at_ b i)=0 then cmpL (a.drop (i+1)) (b.drop (i+1)) else o8 (at_ a i) (at_ b i):=by rw[bA h1,bA h2,cmpL]
def WH{a b:List Str}{i:Nat}(h1:i<a.length)(h2:¬i<b.length):cmpL (a.drop i) (b.drop i)=1:=by rw[bA h1,cT h2,cmpL]
def Oa{a b:List Str}{i:Nat}(h1:¬i<a.length):cmpL (a.drop i) (b.drop i)=if i<b.length then -1 else 0:=by
 rw[cT h1];split
 ·rw[bA baa,cmpL]
 ·rw[cT baa,cmpL]
def Gl{a b:List Str}{i:Nat}(h1:i<a.length)(h2:i<b.length):dR (a.drop i) (b.drop i)=if at_ a i=at_ b i then dR (a.drop (i+1)) (b.drop (i+1)) else Op.bytesLess (at_ a i) (at_ b i):=by rw[bA h1,bA h2,dR]
def SX{a b:List Str}{i:Nat}(h0:i<=a.length)(h0':i<=b.length)(h1:¬(i<a.length/\i<b.length)):dR (a.drop i) (b.drop i)=decide (a.length<b.length):=by
 by_cases h:i<a.length
 ·have:¬i<b.length:=λc=>h1 ⟨h,c⟩;rw[bA h,cT this,dR,eq_comm,decide_eq_false_iff_not];omega
 ·rw[cT h];by_cases h2:i<b.length
  ·rw[bA h2,dR,eq_comm,decide_eq_true_eq];omega
  ·rw[cT h2,dR,eq_comm,decide_eq_false_iff_not];omega
def kyT(x:ah)(k:Str):Str:=(at_ x.af (idx (ndP k) x.af).toNat).aq
def mc(x:ah)(k:Str):Bool:=decide (0<=idx (ndP k) x.af)
def oG{n:ag}{x:ah}(h:n.aj=2)(hk:n.ax.all (mc x)=true):kyL n x=n.ax.map (kyT x)/\kyB n x=true:=by
 have e:kyB n x=true:=by rw[kyB,h];exact hk
 refine⟨?_,e⟩;rw[kyL,if_pos h,if_pos e];rfl
def uq{n:ag}{x:ah}(h:n.aj=2)(hk:n.ax.all (mc x)=false):kyL n x=[]/\kyB n x=false:=by
 have e:kyB n x=false:=by rw[kyB,h];exact hk
 refine⟨?_,e⟩;rw[kyL,if_pos h,if_neg (by rw[e];simp)]
def gN{n:ag}{x:ah}(h:¬n.aj=2):kyL n x=[x.aq]/\kyB n x=true:=by refine⟨by rw[kyL,if_neg h],?_⟩;rw[kyB];simp[h]
section
variable {d : List ag} {l : List ah} {k : Nat}
def HI(h0:0<=idx (nmP (at_ l k).ae) d):wq d (prv l k) (at_ l k)=(decide (jx d l k<idx (nmP (at_ l k).ae) d) || decide (idx (nmP (at_ l k).ae) d=jx d l k) && decide (jr (at_ d (idx (nmP (at_ l k).ae) d).toNat) (at_ l ((k:Int) - 1).toNat) (at_ l k)<0)):=by
 cases k with
 | zero=>rw[show jx d l 0 = -1 from rfl,show wq d (prv l 0) (at_ l 0)=true from rfl,show decide (-1<idx (nmP (at_ l 0).ae) d)=true by simp;omega];rfl
 | succ k =>
  rw[show (((k+1:Nat):Int) - 1).toNat=k by omega,show jx d l (k+1)=idx (nmP (at_ l k).ae) d from rfl,show wq d (prv l (k+1)) (at_ l (k+1))=dY d (at_ l k) (at_ l (k+1))from rfl,dY,jr];by_cases e:idx (nmP (at_ l k).ae) d=idx (nmP (at_ l (k+1)).ae) d
  ·by_cases r:gM (at_ d (idx (nmP (at_ l (k+1)).ae) d).toNat).aj=true
   ·rw[if_pos ⟨e,r⟩,if_pos r,kD,e];simp
   ·rw[if_neg (λc=>r c.2),if_neg r,e];simp
  ·rw[if_neg (λc=>e c.1),show decide (idx (nmP (at_ l (k+1)).ae) d=idx (nmP (at_ l k).ae) d)=false by simp;exact λc=>e c.symm];simp
def Sz(hk:k<l.length)(h:idx (nmP (at_ l k).ae) d<0\/idx (nmP (at_ l k).ae) d<jx d l k):okL d (prv l k) (l.drop k)=false:=by
 rw[rK hk];by_cases h0:0<=idx (nmP (at_ l k).ae) d
 ·rw[HI h0];have h1:idx (nmP (at_ l k).ae) d<jx d l k:=by omega
  rw[show decide (jx d l k<idx (nmP (at_ l k).ae) d)=false by simp;omega,show decide (idx (nmP (at_ l k).ae) d=jx d l k)=false by simp;omega];simp
 ·rw[show decide (0<=idx (nmP (at_ l k).ae) d)=false by simp;omega];rfl
def Pc(hk:k<l.length)(h0:0<=idx (nmP (at_ l k).ae) d)(h:okN (at_ d (idx (nmP (at_ l k).ae) d).toNat) (at_ l k)=false\/idx (nmP (at_ l k).ae) d=jx d l k/\0<=jr (at_ d (idx (nmP (at_ l k).ae) d).toNat) (at_ l ((k:Int) - 1).toNat) (at_ l k)):okL d (prv l k) (l.drop k)=false:=by
 rw[rK hk,HI h0];rcases h with h|⟨h1,h2⟩
 ·rw[h];simp
 ·rw[show decide (jx d l k<idx (nmP (at_ l k).ae) d)=false by simp;omega,show decide (jr (at_ d (idx (nmP (at_ l k).ae) d).toNat) (at_ l ((k:Int) - 1).toNat) (at_ l k)<0)=false by rw[decide_eq_false_iff_not];omega];simp
def Pb(hk:k<l.length)(h0:0<=idx (nmP (at_ l k).ae) d)(h1:jx d l k<=idx (nmP (at_ l k).ae) d)(h2:okN (at_ d (idx (nmP (at_ l k).ae) d).toNat) (at_ l k)=true)(h3:idx (nmP (at_ l k).ae) d=jx d l k->jr (at_ d (idx (nmP (at_ l k).ae) d).toNat) (at_ l ((k:Int) - 1).toNat) (at_ l k)<0):okL d (prv l k) (l.drop k)=okL d (prv l (k+1)) (l.drop (k+1)):=by
 rw[rK hk,HI h0,h2,show decide (0<=idx (nmP (at_ l k).ae) d)=true by simpa using h0];by_cases e:idx (nmP (at_ l k).ae) d=jx d l k
 ·rw[show decide (jr (at_ d (idx (nmP (at_ l k).ae) d).toNat) (at_ l ((k:Int) - 1).toNat) (at_ l k)<0)=true by rw[decide_eq_true_eq];exact h3 e,show decide (idx (nmP (at_ l k).ae) d=jx d l k)=true by simpa using e];simp
 ·rw[show decide (jx d l k<idx (nmP (at_ l k).ae) d)=true by rw[decide_eq_true_eq];omega];simp
def Pw:-1<=jx d l k:=by
 cases k with
 | zero=>exact Int.le_refl _
 | succ k=>exact p8 _ _
def Pv:jx d l k<d.length:=by
 cases k with
 | zero=>rw[show jx d l 0 = -1 from rfl];omega
 | succ k=>exact fV _
end
def afu(n:ag)(cs:List Str)(k:ah):List ah:=if cont n.ax k.ae=true then [k] else Qv cs n.af k
section
variable {s : List ag} {x : ah} {c : Str} {cs : List Str}
end
def smT:List ah->List ah->Bool
 | [],[]=>true
 | [],_::_=>false
 | .mk _ _ _::_,[]=>false
 | .mk n v ks::xs,y::ys=>n == y.ae && v == y.aq && smT ks y.af && smT xs ys
def OL(x y:ah)(xs ys:List ah):smT (x::xs) (y::ys)=(x.ae == y.ae && x.aq == y.aq && smT x.af y.af && smT xs ys):=by cases x;rw[smT];try rfl
def Cv:∀(a b:List ah),smT a b=true↔a=b
 | [],[]=>by simp[smT]
 | [],_::_=>by simp[smT]
 | .mk _ _ _::_,[]=>by simp[smT]
 | .mk n v ks::xs,.mk m u js::ys=>by
  have h1:=Cv ks js
  have h2:=Cv xs ys;rw[smT];simp only[Bool.and_eq_true,beq_iff_eq,ah.ae,ah.aq,ah.af,h1,h2,List.cons.injEq,ah.mk.injEq];constructor
  ·rintro⟨⟨⟨a,b⟩,c⟩,d⟩;exact⟨⟨a,b,c⟩,d⟩
  ·rintro⟨⟨a,b,c⟩,d⟩;exact⟨⟨⟨a,b⟩,c⟩,d⟩
def Bg{a b:List ah}{k:Nat}(h:k<a.length)(h2:k<b.length):smT (a.drop k) (b.drop k)=((at_ a k).ae == (at_ b k).ae && (at_ a k).aq == (at_ b k).aq && smT (at_ a k).af (at_ b k).af && smT (a.drop (k+1)) (b.drop (k+1))):=by rw[bA h,bA h2,OL]
def IJ{a b:List ah}(h:¬(a.length:Int)=b.length):smT a b=false:=by rw[Bool.eq_false_iff];intro e;rw[(Cv a b).1 e]at h;exact h rfl
def IK{a b:List ah}{k:Nat}(h:¬k<a.length)(h2:¬k<b.length):smT (a.drop k) (b.drop k)=true:=by rw[cT h,cT h2,smT]
def skB(n:ag)(a b:ah):Bool:=!gM n.aj || (kyB n a && kyB n b && (kyL n a == kyL n b))
def fiP(n:ag)(x y:ah):Bool:=y.ae == n.ae && decide (jr n x y=0) && skB n x y
def fsP(n:ag)(v:Str)(key:List Str)(y:ah):Bool:=y.ae == n.ae && !(decide (n.aj=4) && !(y.aq == v)) && (!decide (n.aj=2) || !dR (kyL n y) key && !dR key (kyL n y))
def fnd(n:ag)(l:List ah)(x:ah):Int:=idx (fiP n x) l
def xB{α:Type}{p q:α->Bool}:∀ {l:List α},(∀x∈l,p x=q x)->idx p l=idx q l
 | [],_=>rfl
 | x::xs,h=>by
  simp only[idx];rw[h x Xp,xB (p:=p) (q:=q) (l:=xs) λy hy=>h y (by simp[hy])]
def TS(x y:Str):(!Op.bytesLess x y && !Op.bytesLess y x)=(x == y):=by
 have h1:=xQ x y
 have h2:=xQ y x;by_cases e:x=y
 ·subst e;rw[sN];simp
 ·have e1:(x == y)=false:=by simpa using e
  have e2:(y == x)=false:=by simpa using λc=>e c.symm
  rw[e1,Bool.or_false]at h1;rw[e1,h1];cases Op.bytesLess y x<;>rfl
def mQ:∀(a b:List Str),(!dR a b && !dR b a)=(a == b)
 | [],[]=>by simp[dR]
 | [],_::_=>by simp[dR]
 | _::_,[]=>by simp[dR]
 | x::xs,y::ys=>by
  simp only[dR];by_cases e:x=y
  ·subst e;rw[if_pos rfl,if_pos rfl,mQ xs ys];simp
  ·rw[if_neg e,if_neg (λc=>e c.symm),TS];have:(x == y)=false:=by simpa using e
   rw[this];simp[e]
def uI:∀(a b:List Str),cmpL a b=0↔a=b
 | [],[]=>by simp[cmpL]
 | [],_::_=>by simp[cmpL]
 | _::_,[]=>by simp[cmpL]
 | x::xs,y::ys=>by
  rw[cmpL];by_cases e:x=y
  ·subst e;rw[if_pos ((xN _ _).2 rfl),uI xs ys];simp
  ·rw[if_neg (λc=>e ((xN _ _).1 c))];constructor
   ·intro h;exact absurd ((xN _ _).1 h) e
   ·intro h;injection h with h1 h2;exact absurd h1 e
def NH{n:ag}{x:ah}{l:List ah}(hx:kyB n x=true)(hl:∀y∈l,y.ae=n.ae->kyB n y=true):idx (fsP n x.aq (kyL n x)) l=fnd n l x:=by
 refine xB λy hy=>?_;unfold fsP fiP;by_cases hn:y.ae=n.ae
 ·have hk:=hl y hy hn;rw[skB,hx,hk,jr];have e1:(y.ae == n.ae)=true:=by simpa using hn
  rw[e1];by_cases h2:n.aj=2
  ·have:gM n.aj=true:=by rw[h2];try rfl
   rw[if_pos this,this,mQ];have e2:decide (n.aj=4)=false:=by rw[h2];try rfl
   have e3:decide (n.aj=2)=true:=by rw[h2];try rfl
   rw[e2,e3]
   have e4:decide (cmpL (kyL n x) (kyL n y)=0)=(kyL n x == kyL n y):=by
    rw[Bool.eq_iff_iff];simp[uI]
   rw[e4]
   have e5:(kyL n y == kyL n x)=(kyL n x == kyL n y):=by
    rw[Bool.eq_iff_iff];simp only[beq_iff_eq];exact⟨λh=>h.symm,λh=>h.symm⟩
   rw[e5];cases (kyL n x == kyL n y)<;>rfl
  ·have e3:decide (n.aj=2)=false:=by simpa using h2
   rw[e3];by_cases h4:n.aj=4
   ·have:gM n.aj=true:=by rw[h4];try rfl
    rw[if_pos this,this,h4,(gN h2).1,(gN h2).1]
    have e4:decide (cmpL [x.aq] [y.aq]=0)=(y.aq == x.aq):=by
     rw[Bool.eq_iff_iff];simp only[decide_eq_true_eq,uI,beq_iff_eq,List.cons.injEq,and_true];exact⟨λh=>h.symm,λh=>h.symm⟩
    rw[e4];by_cases hv:y.aq=x.aq
    ·have hv2:(y.aq == x.aq)=true:=by simpa using hv
     rw[hv2,hv];simp
    ·have hv2:(y.aq == x.aq)=false:=by simpa using hv
     rw[hv2];simp
   ·have:gM n.aj=false:=by rw[gM];simp[h2,h4]
    rw[if_neg (by rw[this];simp),this];have e4:decide (n.aj=4)=false:=by simpa using h4
    rw[e4];try rfl
 ·have e1:(y.ae == n.ae)=false:=by simpa using hn
  rw[e1];try rfl
def kyE(n:ag)(x:ah):List aI:=if n.aj=2 then n.ax.map λk=>.mk 1 k (kyT x k) [] else []
def edO(op:Int):List ah->List aI
 | []=>[]
 | .mk n v ks::xs=>.mk op n v (edO op ks)::edO op xs
def yH(op:Int):∀l:List ah,edO op l=l.map λx=>.mk op x.ae x.aq (edO op x.af)
 | []=>by rw[edO];try rfl
 | .mk n v ks::xs=>by rw[edO,yH op xs];try rfl
def JI(op:Int)(l:List ah):(edO op l).length=l.length:=by rw[yH,length_map]
def Hu{op:Int}{l:List ah}{k:Nat}(h:k<l.length):edO op (l.take (k+1))=edO op (l.take k)++[.mk op (at_ l k).ae (at_ l k).aq (edO op (at_ l k).af)]:=by rw[eV h,yH,yH,map_append];try rfl
abbrev nd(s:List ag)(nm:Str):ag:=at_ (dk s) (idx (nmP nm) (dk s)).toNat
def dfA(s:List ag)(b:List ah)(x:ah):List aI:=if 0<=fnd (nd s x.ae) b x then [] else [.mk 4 x.ae (if (nd s x.ae).aj=4 then x.aq else []) (kyE (nd s x.ae) x)]
def dfB(s:List ag)(a:List ah):List ah->List aI
 | []=>[]
 | .mk nm v ks::ys =>
  (let n:=nd s nm
   let i:=fnd n a (.mk nm v ks)
   let x:=at_ a i.toNat
   if i<0 then [.mk 3 nm v (edO 3 ks)]
   else if n.aj=3/\¬x.aq=v then [.mk 2 nm v []]
   else if (n.aj=1\/n.aj=2)/\smT x.af ks=false then [.mk 1 nm [] (kyE n (.mk nm v ks)++(x.af.flatMap (dfA n.af ks)++dfB n.af x.af ks))]
   else [])++dfB s a ys
def dif(s:List ag)(a b:List ah):List aI:=a.flatMap (dfA s b)++dfB s a b
def dfY(s:List ag)(a:List ah)(y:ah):List aI :=
 if fnd (nd s y.ae) a y<0 then [.mk 3 y.ae y.aq (edO 3 y.af)]
 else if (nd s y.ae).aj=3/\¬(at_ a (fnd (nd s y.ae) a y).toNat).aq=y.aq then [.mk 2 y.ae y.aq []]
 else if ((nd s y.ae).aj=1\/(nd s y.ae).aj=2)/\smT (at_ a (fnd (nd s y.ae) a y).toNat).af y.af=false then [.mk 1 y.ae [] (kyE (nd s y.ae) y++dif (nd s y.ae).af (at_ a (fnd (nd s y.ae) a y).toNat).af y.af)]
 else []
section
variable {n : ag} {x : ah} {k : Nat}
end
def uh{n:ag}{x:ah}(h:okN n x=true):kyB n x=true:=by
 by_cases h2:n.aj=2
 ·rw[okN,if_neg Um,if_pos h2]at h;simp only[Bool.and_eq_true]at h;exact h.1.1
 ·exact(gN h2).2
section
variable {d : List ag} {l : List ah} {k : Nat}
def Vq(hk:k<l.length)(h:idx (nmP (at_ l k).ae) d<0):okL d (prv l k) (l.drop k)=false:=by rw[rK hk,show decide (0<=idx (nmP (at_ l k).ae) d)=false by simp;omega];rfl
def Sy(hk:k<l.length)(h:okN (at_ d (idx (nmP (at_ l k).ae) d).toNat) (at_ l k)=false):okL d (prv l k) (l.drop k)=false:=by rw[rK hk,h];simp
def Sx(hk:k<l.length)(h0:0<k)(h:dY d (at_ l (k - 1)) (at_ l k)=false):okL d (prv l k) (l.drop k)=false:=by
 rw[rK hk]
 obtain⟨j,rfl⟩:∃j,k=j+1:=⟨k - 1,Um⟩
 rw[show j+1 - 1=j by omega]at h;rw[show wq d (prv l (j+1)) (at_ l (j+1))=dY d (at_ l j) (at_ l (j+1))from rfl,h];simp
def Pa(hk:k<l.length)(h0:0<=idx (nmP (at_ l k).ae) d)(h1:okN (at_ d (idx (nmP (at_ l k).ae) d).toNat) (at_ l k)=true)(h2:0<k->dY d (at_ l (k - 1)) (at_ l k)=true):okL d (prv l k) (l.drop k)=okL d (prv l (k+1)) (l.drop (k+1)):=by
 rw[rK hk,h1,show decide (0<=idx (nmP (at_ l k).ae) d)=true by simpa using h0]
 have:wq d (prv l k) (at_ l k)=true:=by
  cases k with
  | zero=>rfl
  | succ j=>exact h2 Um
 rw[this];simp
end
def JC{s:List ag}(h:gdS s){n:ag}(hn:n∈dk s):n.ax.length<=3:=by
 obtain⟨_,kind,bd,hA⟩:=h;obtain⟨⟨kd,b,ho⟩,_⟩:=yq s kind bd hA n hn;simp only[jD,lX,Bool.and_eq_true]at ho;have hs:=ho.1.1.1.1.1.2.1
 have hk:=ho.1.1.1.1.1.2.2;by_cases h2:n.aj=2
 ·rw[jb,if_neg Um,if_pos h2]at hk;simp only[Bool.and_eq_true,decide_eq_true_eq]at hk;omega
 ·simp only[kX,Bool.and_eq_true,Bool.or_eq_true,decide_eq_true_eq]at hs;rcases hs.1.1.1.1.1.1.2 with h|h
  ·exact absurd h h2
  ·rw[List.isEmpty_iff.1 h.1];simp
section
variable {s : List ag} {a b : List ah} {x y : ah}
def NG(hf:0<=fnd (nd s y.ae) a y)(hy:okX (dk s) y):(fnd (nd s y.ae) a y).toNat<a.length/\(at_ a (fnd (nd s y.ae) a y).toNat).ae=y.ae/\at_ a (fnd (nd s y.ae) a y).toNat∈a:=by obtain⟨h1,h2,h3⟩:=gb hf;simp only[fiP,Bool.and_eq_true,beq_iff_eq]at h2;exact⟨h1,h2.1.1.trans (ug hy).1,h3⟩
def VH(hx:okX (dk s) x)(h:¬((nd s x.ae).aj=3\/(nd s x.ae).aj=4)):∀k∈x.af,okX (dk (nd s x.ae).af) k :=
 ui (zM hx.2 h).2.1
def VC(hb:∀y∈b,okX (dk s) y)(hx:okX (dk s) x):∀y∈b,y.ae=(at_ (dk s) (idx (nmP x.ae) (dk s)).toNat).ae->kyB (at_ (dk s) (idx (nmP x.ae) (dk s)).toNat) y=true:=by intro y hy e;rw[(ug hx).1]at e;have:=uh (hb y hy).2;rw[e]at this;exact this
end
section
def HF:∀(a b c:Str),Op.bytesLess a b=true->Op.bytesLess b c=true->Op.bytesLess a c=true
 | a,[],c,h,_=>by cases a<;>simp[Op.bytesLess]at h
 | [],_::_,[],_,h=>by simp[Op.bytesLess]at h
 | [],_::_,_::_,_,_=>by simp[Op.bytesLess]
 | _::_,_::_,[],_,h=>by simp[Op.bytesLess]at h
 | x::xs,y::ys,z::zs,h1,h2=>by
  simp only[Op.bytesLess,Bool.or_eq_true,Bool.and_eq_true,decide_eq_true_eq,beq_iff_eq]at *;rcases h1 with h1|⟨rfl,h1⟩
  ·rcases h2 with h2|⟨rfl,_⟩
   ·exact .inl (UInt8.lt_trans h1 h2)
   ·exact .inl h1
  ·rcases h2 with h2|⟨rfl,h2⟩
   ·exact .inl h2
   ·exact .inr ⟨rfl,HF xs ys zs h1 h2⟩
def vA:∀(a b c:List Str),dR a b=true->dR b c=true->dR a c=true
 | a,[],c,h,_=>by cases a<;>simp[dR]at h
 | [],_::_,[],_,h=>by simp[dR]at h
 | [],_::_,_::_,_,_=>by simp[dR]
 | _::_,_::_,[],_,h=>by simp[dR]at h
 | x::xs,y::ys,z::zs,h1,h2=>by
  rw[dR]at *;by_cases e1:x=y
  ·subst e1;rw[if_pos rfl]at h1;by_cases e2:x=z
   ·subst e2;rw[if_pos rfl]at h2 ⊢;exact vA xs ys zs h1 h2
   ·rw[if_neg e2]at h2 ⊢;exact h2
  ·rw[if_neg e1]at h1;by_cases e2:y=z
   ·subst e2;rw[if_neg e1];exact h1
   ·rw[if_neg e2]at h2;have h3:=HF x y z h1 h2;rw[if_neg (λe=>by subst e;rw[sN]at h3;exact absurd h3 Xp)];exact h3
def yn(a:List Str):dR a a=false:=by
 have:=mQ a a;rw[beq_self_eq_true]at this
 cases h:dR a a with
 | false=>rfl
 | true=>rw[h]at this;simp at this
def xR{d:List ag}{a b c:ah}(h1:dY d a b=true)(h2:dY d b c=true):dY d a c=true:=by
 unfold dY at *;by_cases e1:idx (nmP a.ae) d=idx (nmP b.ae) d/\gM (at_ d (idx (nmP b.ae) d).toNat).aj=true
 ·rw[if_pos e1]at h1;by_cases e2:idx (nmP b.ae) d=idx (nmP c.ae) d/\gM (at_ d (idx (nmP c.ae) d).toNat).aj=true
  ·rw[if_pos e2]at h2;rw[if_pos ⟨e1.1.trans e2.1,e2.2⟩];rw[e2.1]at h1;exact vA _ _ _ h1 h2
  ·rw[if_neg e2]at h2;rw[if_neg (λc=>e2 ⟨e1.1.symm.trans c.1,c.2⟩),e1.1];exact h2
 ·rw[if_neg e1,decide_eq_true_eq]at h1;by_cases e2:idx (nmP b.ae) d=idx (nmP c.ae) d/\gM (at_ d (idx (nmP c.ae) d).toNat).aj=true
  ·rw[if_neg (by rintro⟨c,_⟩;omega),decide_eq_true_eq];omega
  ·rw[if_neg e2,decide_eq_true_eq]at h2;rw[if_neg (by rintro⟨c,_⟩;omega),decide_eq_true_eq];omega
def TT{d:List ag}(a:ah):dY d a a=false:=by
 unfold dY;split
 ·exact yn _
 ·simp
def FT{d:List ag}:∀ {l:List ah} {a:ah},okL d (some a) l=true↔(∀x∈l,okX d x)/\(a::l).Pairwise λx y=>dY d x y=true
 | [],a=>by simp[okL]
 | x::xs,a=>by
  rw[vm];simp only[Bool.and_eq_true,decide_eq_true_eq];have ih:=FT (d:=d) (l:=xs) (a:=x);rw[ih];constructor
  ·rintro⟨⟨⟨h1,h2⟩,h3⟩,h4,h5⟩;refine⟨λy hy=>?_,List.pairwise_cons.2 ⟨λy hy=>?_,h5⟩⟩
   ·rcases List.mem_cons.1 hy with rfl|hy
    ·exact⟨h1,h2⟩
    ·exact h4 y hy
   ·rcases List.mem_cons.1 hy with rfl|hy
    ·exact h3
    ·exact xR h3 ((List.pairwise_cons.1 h5).1 y hy)
  ·rintro⟨h1,h2⟩;have h3:=h1 x Xp
   have h4:=List.pairwise_cons.1 h2;exact⟨⟨⟨h3.1,h3.2⟩,h4.1 x Xp⟩,λy hy=>h1 y (by simp[hy]),h4.2⟩
def Jg{d:List ag}{l:List ah}:okL d none l=true↔(∀x∈l,okX d x)/\l.Pairwise λx y=>dY d x y=true:=by
 cases l with
 | nil=>simp[okL]
 | cons x xs =>
  rw[vm];simp only[Bool.and_eq_true,decide_eq_true_eq,wq,and_true];rw[FT];constructor
  ·rintro⟨h1,h2,h3⟩;refine⟨λy hy=>?_,h3⟩;rcases List.mem_cons.1 hy with rfl|hy
   ·exact h1
   ·exact h2 y hy
  ·rintro⟨h1,h2⟩;exact⟨h1 x Xp,λy hy=>h1 y (by simp[hy]),h2⟩
def LR{α:Type}{R:α->α->Prop}(ht:∀a b c,R a b->R b c->R a c)(hi:∀a,¬R a a):∀ {l m:List α},l.Pairwise R->m.Pairwise R->(∀x,x∈l↔x∈m)->l=m
 | [],[],_,_,_=>rfl
 | [],y::m,_,_,h=>absurd ((h y).2 Xp) Xp
 | x::l,[],_,_,h=>absurd ((h x).1 Xp) Xp
 | x::l,y::m,h1,h2,h=>by
  have h3:=List.pairwise_cons.1 h1
  have h4:=List.pairwise_cons.1 h2
  have e:x=y:=by
   rcases List.mem_cons.1 ((h x).1 Xp)with e|hx
   ·exact e
   ·rcases List.mem_cons.1 ((h y).2 Xp)with e|hy
    ·exact e.symm
    ·exact absurd (ht _ _ _ (h3.1 y hy) (h4.1 x hx)) (hi x)
  subst e;refine congrArg (x::·) (LR ht hi h3.2 h4.2 λz=>?_);have hz:=h z;simp only[mem_cons]at hz;constructor
  ·intro q;rcases hz.1 (.inr q)with e|e
   ·subst e;exact absurd (h3.1 z q) (hi z)
   ·exact e
  ·intro q;rcases hz.2 (.inr q)with e|e
   ·subst e;exact absurd (h4.1 z q) (hi z)
   ·exact e
