/- A part. -/
import Derived.Test.YtmcjbaafmjlblaaGreatDoorJ16
import Derived.Test.YtmcjbaafmjlblaaGreatDoorJ17
set_option linter.all false
set_option maxRecDepth 20000
set_option maxHeartbeats 4000000
namespace Go.Proofs
open Go.Ab Go.Dt
section
variable {H : Type} {enc : TypeId × Value -> H} {W : World}
theorem fF(z:Nat):reachBytes<=eW z:=by
 have:=reachBytes_lt
 unfold eW;omega
instance:Inhabited Dt.du:=⟨0,0⟩
def tI(x:Dt.du):List AV:=[.v (.int .i64 x.fLo),.v (.int .i64 x.fHi)]
theorem OV{L:Nat->Nat}:eB L W tI (aR false) 2:=by
 have:aR false=fun x=>.agg (tI x):=by funext x;simp only [go_sem,tI]
 rw [this];exact eB.agg fun _=>rfl
theorem O1(n:Nat):aP enc Tryz.prog W eW n 238 tI (fun _=>True):=by
 refine aP.mono (n:=n+1+1) ?_ (by omega)
 exact aP.struct (P:=Tryz.prog) (t:=238) (fl:=[(3,0,1),(3,1,1)]) (tot:=2) (by kernel_rfl)
   (bk.cons (aP.int (k:=.i64) (by kernel_rfl)) (bk.cons (aP.int (k:=.i64) (by kernel_rfl)) bk.nil))
   (fun p=>⟨p.1,p.2.1⟩) (fun p _=>⟨trivial,rfl⟩)
theorem MZ(x:Dt.du)(r:Int)(h0:0<=r)(h1:r<=1048576)(h:0<=fj x r):(aR false x).fits lim:=by
 simp only [aR,AV.fits,AV.dR]
 exact ⟨trivial,trivial,trivial⟩
instance:Inhabited Dt.dx:=⟨0,[],[],[],[]⟩
def PX(x:Dt.dx):List AV:=[.v (.int .i64 x.ai),.sl false 2 (x.aB.map (aR false)),.sl false 1 (x.ax.map AV.str),.str x.aW,.str x.aE]
theorem QT(n:Nat):aP enc Tryz.prog W eW n 111 PX (fun _=>True):=by
 refine aP.mono (n:=n+1+1) ?_ (by omega)
 exact aP.struct (P:=Tryz.prog) (t:=111) (fl:=[(3,0,1),(109,1,1),(54,2,1),(9,3,1),(9,4,1)]) (tot:=5) (by kernel_rfl)
   (bk.cons (aP.int (k:=.i64) (by kernel_rfl)) (bk.cons (aP.slice (e:=238) (bytes:=16) (by kernel_rfl) (by decide) (by decide) (fF _) OV (O1 n)) (bk.cons (aP.slice (e:=9) (bytes:=16) (by kernel_rfl) (by decide) (by decide) (fF _) eB.str (aP.str (by kernel_rfl))) (bk.cons (aP.str (by kernel_rfl)) (bk.cons (aP.str (by kernel_rfl)) bk.nil)))))
   (fun p=>⟨p.1,p.2.1,p.2.2.1,p.2.2.2.1,p.2.2.2.2.1⟩) (fun p _=>⟨trivial,rfl⟩)
theorem PO(x:Dt.dx)(r:Int)(h0:0<=r)(h1:r<=1048576)(h:0<=dB x r):(Be false x).fits lim:=by
 unfold dB at h
 obtain ⟨a0,h⟩:=aX h
 have l0:=aZ fj mU x.aB r h0
 obtain ⟨a1,h⟩:=aX h
 have l1:=aZ aC aY x.ax (aG fj x.aB r) a0
 obtain ⟨a2,h⟩:=aX h
 have l2:=aY x.aW (aG aC x.ax (aG fj x.aB r)) a1
 obtain ⟨a3,h⟩:=aX h
 have l3:=aY x.aE (aC x.aW (aG aC x.ax (aG fj x.aB r))) a2
 have z0:(AV.sl false 2 (x.aB.map (aR false))).fits lim:=eM (f:=fj) mU x.aB r h0 (by omega) a0 (fun y hy r' p q s=>MZ y r' p q s)
 have z1:(AV.sl false 1 (x.ax.map AV.str)).fits lim:=eM (f:=aC) aY x.ax (aG fj x.aB r) a0 (by omega) a1 (fun _ _ _ _ _ _=>trivial)
 simp only [AV.fits,AV.dR] at z0 z1
 simp only [Be,AV.fits,AV.dR]
 exact ⟨trivial,z0,z1,trivial,trivial,trivial⟩
instance:Inhabited Dt.eC:=⟨[],[]⟩
def wN(x:Dt.eC):List AV:=[.str x.ae,.str x.av]
theorem QR{L:Nat->Nat}:eB L W wN (cj false) 2:=by
 have:cj false=fun x=>.agg (wN x):=by funext x;simp only [go_sem,wN]
 rw [this];exact eB.agg fun _=>rfl
theorem QU(n:Nat):aP enc Tryz.prog W eW n 309 wN (fun _=>True):=by
 refine aP.mono (n:=n+1+1) ?_ (by omega)
 exact aP.struct (P:=Tryz.prog) (t:=309) (fl:=[(9,0,1),(9,1,1)]) (tot:=2) (by kernel_rfl)
   (bk.cons (aP.str (by kernel_rfl)) (bk.cons (aP.str (by kernel_rfl)) bk.nil))
   (fun p=>⟨p.1,p.2.1⟩) (fun p _=>⟨trivial,rfl⟩)
theorem PQ(x:Dt.eC)(r:Int)(h0:0<=r)(h1:r<=1048576)(h:0<=iH x r):(cj false x).fits lim:=by
 unfold iH at h
 obtain ⟨a0,h⟩:=aX h
 have l0:=aY x.ae r h0
 obtain ⟨a1,h⟩:=aX h
 have l1:=aY x.av (aC x.ae r) a0
 simp only [cj,AV.fits,AV.dR]
 exact ⟨trivial,trivial,trivial⟩
instance:Inhabited Dt.GStep:=⟨[],[]⟩
def wO(x:Dt.GStep):List AV:=[.str x.ae,.sl false 2 (x.b8.map (cj false))]
theorem QS{L:Nat->Nat}:eB L W wO (aU false) 2:=by
 have:aU false=fun x=>.agg (wO x):=by funext x;simp only [go_sem,wO]
 rw [this];exact eB.agg fun _=>rfl
theorem QV(n:Nat):aP enc Tryz.prog W eW n 286 wO (fun _=>True):=by
 refine aP.mono (n:=n+1+1) ?_ (by omega)
 exact aP.struct (P:=Tryz.prog) (t:=286) (fl:=[(9,0,1),(284,1,1)]) (tot:=2) (by kernel_rfl)
   (bk.cons (aP.str (by kernel_rfl)) (bk.cons (aP.slice (e:=309) (bytes:=32) (by kernel_rfl) (by decide) (by decide) (fF _) QR (QU n)) bk.nil))
   (fun p=>⟨p.1,p.2.1⟩) (fun p _=>⟨trivial,rfl⟩)
theorem PR(x:Dt.GStep)(r:Int)(h0:0<=r)(h1:r<=1048576)(h:0<=iI x r):(aU false x).fits lim:=by
 unfold iI at h
 obtain ⟨a0,h⟩:=aX h
 have l0:=aY x.ae r h0
 obtain ⟨a1,h⟩:=aX h
 have l1:=aZ iH mF x.b8 (aC x.ae r) a0
 have z1:(AV.sl false 2 (x.b8.map (cj false))).fits lim:=eM (f:=iH) mF x.b8 (aC x.ae r) a0 (by omega) a1 (fun y hy r' p q s=>PQ y r' p q s)
 simp only [AV.fits,AV.dR] at z1
 simp only [aU,AV.fits,AV.dR]
 exact ⟨trivial,z1,trivial⟩
instance:Inhabited Dt.eO:=⟨false,0,[]⟩
def PY(x:Dt.eO):List AV:=[.v (.bool x.cH),.v (.int .i64 x.dq),.sl false 2 (x.aN.map (aU false))]
theorem QW(n:Nat):aP enc Tryz.prog W eW n 204 PY (fun _=>True):=by
 refine aP.mono (n:=n+1+1) ?_ (by omega)
 exact aP.struct (P:=Tryz.prog) (t:=204) (fl:=[(4,0,1),(3,1,1),(202,2,1)]) (tot:=3) (by kernel_rfl)
   (bk.cons (aP.bool (by kernel_rfl)) (bk.cons (aP.int (k:=.i64) (by kernel_rfl)) (bk.cons (aP.slice (e:=286) (bytes:=40) (by kernel_rfl) (by decide) (by decide) (fF _) QS (QV n)) bk.nil)))
   (fun p=>⟨p.1,p.2.1,p.2.2.1⟩) (fun p _=>⟨trivial,rfl⟩)
theorem PS(x:Dt.eO)(r:Int)(h0:0<=r)(h1:r<=1048576)(h:0<=jr x r):(Bf false x).fits lim:=by
 unfold jr at h
 obtain ⟨a0,h⟩:=aX h
 have l0:=aZ iI mG x.aN r h0
 have z0:(AV.sl false 2 (x.aN.map (aU false))).fits lim:=eM (f:=iI) mG x.aN r h0 (by omega) a0 (fun y hy r' p q s=>PR y r' p q s)
 simp only [AV.fits,AV.dR] at z0
 simp only [Bf,AV.fits,AV.dR]
 exact ⟨trivial,trivial,z0,trivial⟩
instance:Inhabited Dt.aO:=⟨.mk 0 0 [] default []⟩
def wQ(x:Dt.aO):List AV:=[.v (.int .i64 x.fOp),.v (.int .i64 x.fD),.str x.cg,.v (.bool x.aE.cH),.v (.int .i64 x.aE.dq),.sl false 2 (x.aE.aN.map (aU false)),.sl false 7 (x.af.map (aK false))]
theorem DE{L:Nat->Nat}:eB L W wQ (aK false) 7:=by
 have:aK false=fun x=>.agg (wQ x):=by funext x;simp only [go_sem,wQ]
 rw [this];exact eB.agg fun _=>rfl
theorem JO(n:Nat):aP enc Tryz.prog W eW n 206 wQ (fun _=>True):=by
 induction n with
 | zero=>exact aP.zero
 | succ n ih =>
  refine aP.mono (n:=n+1+1) ?_ (by omega)
  exact aP.struct (P:=Tryz.prog) (t:=206) (fl:=[(3,0,1),(3,1,1),(9,2,1),(204,3,3),(112,6,1)]) (tot:=7) (by kernel_rfl)
   (bk.cons (aP.int (k:=.i64) (by kernel_rfl)) (bk.cons (aP.int (k:=.i64) (by kernel_rfl)) (bk.cons (aP.str (by kernel_rfl)) (bk.cons (QW _) (bk.cons (aP.slice (e:=206) (bytes:=96) (by kernel_rfl) (by decide) (by decide) (fF _) DE ih) bk.nil)))))
   (fun p=>.mk p.1 p.2.1 p.2.2.1 p.2.2.2.1 p.2.2.2.2.1) (fun p _=>⟨trivial,rfl⟩)
theorem Hc(x:Dt.aO)(r:Int)(h0:0<=r)(h1:r<=1048576)(h:0<=cq x r):(aK false x).fits lim:=by
 induction hs:SizeOf.sizeOf x using Nat.strongRecOn generalizing x r with
 | _ n ih =>
  rw [uq] at h
  obtain ⟨a0,h⟩:=aX h
  have l0:=aY x.cg r h0
  obtain ⟨a1,h⟩:=aX h
  have l1:=qt x.aE (aC x.cg r) a0
  obtain ⟨a2,h⟩:=aX h
  have l2:=aZ cq eS x.af (jr x.aE (aC x.cg r)) a1
  have z1:=PS x.aE (aC x.cg r) a0 (by omega) a1
  have z2:(AV.sl false 7 (x.af.map (aK false))).fits lim:=eM (f:=cq) eS x.af (jr x.aE (aC x.cg r)) a1 (by omega) a2 (fun y hy r' p q s=>ih (SizeOf.sizeOf y) (by have:=List.sizeOf_lt_of_mem hy;cases x;simp [Dt.aO.af] at *;omega) y r' p q s rfl)
  simp only [Bf,AV.fits,AV.dR] at z1 z2
  simp only [cM,AV.fits,AV.dR]
  exact ⟨trivial,trivial,trivial,z1.1,z1.2.1,z1.2.2.1,z2,trivial⟩
instance:Inhabited Dt.ag:=⟨.mk 0 [] default [] [] [] false false false false 0 0 [] [] []⟩
def qP(x:Dt.ag):List AV:=[.v (.int .i64 x.ai),.str x.ae,.v (.int .i64 x.fType.ai),.sl false 2 (x.fType.aB.map (aR false)),.sl false 1 (x.fType.ax.map AV.str),.str x.fType.aW,.str x.fType.aE,.sl false 1 (x.aw.map AV.str),.sl false 1 (x.aD.map AV.str),.str x.bh,.v (.bool x.cm),.v (.bool x.cC),.v (.bool x.bF),.v (.bool x.dF),.v (.int .i64 x.gF),.v (.int .i64 x.gG),.sl false 7 (x.bz.map (aK false)),.sl false 7 (x.bY.map (aK false)),.sl false 19 (x.af.map (ak false))]
theorem sM{L:Nat->Nat}:eB L W qP (ak false) 19:=by
 have:ak false=fun x=>.agg (qP x):=by funext x;simp only [go_sem,qP]
 rw [this];exact eB.agg fun _=>rfl
theorem xN(n:Nat):aP enc Tryz.prog W eW n 114 qP (fun _=>True):=by
 induction n with
 | zero=>exact aP.zero
 | succ n ih =>
  refine aP.mono (n:=n+1+1) ?_ (by omega)
  exact aP.struct (P:=Tryz.prog) (t:=114) (fl:=[(3,0,1),(9,1,1),(111,2,5),(54,7,1),(54,8,1),(9,9,1),(4,10,1),(4,11,1),(4,12,1),(4,13,1),(3,14,1),(3,15,1),(112,16,1),(112,17,1),(22,18,1)]) (tot:=19) (by kernel_rfl)
   (bk.cons (aP.int (k:=.i64) (by kernel_rfl)) (bk.cons (aP.str (by kernel_rfl)) (bk.cons (QT _) (bk.cons (aP.slice (e:=9) (bytes:=16) (by kernel_rfl) (by decide) (by decide) (fF _) eB.str (aP.str (by kernel_rfl))) (bk.cons (aP.slice (e:=9) (bytes:=16) (by kernel_rfl) (by decide) (by decide) (fF _) eB.str (aP.str (by kernel_rfl))) (bk.cons (aP.str (by kernel_rfl)) (bk.cons (aP.bool (by kernel_rfl)) (bk.cons (aP.bool (by kernel_rfl)) (bk.cons (aP.bool (by kernel_rfl)) (bk.cons (aP.bool (by kernel_rfl)) (bk.cons (aP.int (k:=.i64) (by kernel_rfl)) (bk.cons (aP.int (k:=.i64) (by kernel_rfl)) (bk.cons (aP.slice (e:=206) (bytes:=96) (by kernel_rfl) (by decide) (by decide) (fF _) DE (JO n)) (bk.cons (aP.slice (e:=206) (bytes:=96) (by kernel_rfl) (by decide) (by decide) (fF _) DE (JO n)) (bk.cons (aP.slice (e:=114) (bytes:=272) (by kernel_rfl) (by decide) (by decide) (fF _) sM ih) bk.nil)))))))))))))))
   (fun p=>.mk p.1 p.2.1 p.2.2.1 p.2.2.2.1 p.2.2.2.2.1 p.2.2.2.2.2.1 p.2.2.2.2.2.2.1 p.2.2.2.2.2.2.2.1 p.2.2.2.2.2.2.2.2.1 p.2.2.2.2.2.2.2.2.2.1 p.2.2.2.2.2.2.2.2.2.2.1 p.2.2.2.2.2.2.2.2.2.2.2.1 p.2.2.2.2.2.2.2.2.2.2.2.2.1 p.2.2.2.2.2.2.2.2.2.2.2.2.2.1 p.2.2.2.2.2.2.2.2.2.2.2.2.2.2.1) (fun p _=>⟨trivial,rfl⟩)
theorem vo(x:Dt.ag)(r:Int)(h0:0<=r)(h1:r<=1048576)(h:0<=aL x r):(ak false x).fits lim:=by
 induction hs:SizeOf.sizeOf x using Nat.strongRecOn generalizing x r with
 | _ n ih =>
  rw [qW] at h
  obtain ⟨a0,h⟩:=aX h
  have l0:=aY x.ae r h0
  obtain ⟨a1,h⟩:=aX h
  have l1:=qq x.fType (aC x.ae r) a0
  obtain ⟨a2,h⟩:=aX h
  have l2:=aZ aC aY x.aw (dB x.fType (aC x.ae r)) a1
  obtain ⟨a3,h⟩:=aX h
  have l3:=aZ aC aY x.aD (aG aC x.aw (dB x.fType (aC x.ae r))) a2
  obtain ⟨a4,h⟩:=aX h
  have l4:=aY x.bh (aG aC x.aD (aG aC x.aw (dB x.fType (aC x.ae r)))) a3
  obtain ⟨a5,h⟩:=aX h
  have l5:=aZ cq eS x.bz (aC x.bh (aG aC x.aD (aG aC x.aw (dB x.fType (aC x.ae r))))) a4
  obtain ⟨a6,h⟩:=aX h
  have l6:=aZ cq eS x.bY (aG cq x.bz (aC x.bh (aG aC x.aD (aG aC x.aw (dB x.fType (aC x.ae r)))))) a5
  obtain ⟨a7,h⟩:=aX h
  have l7:=aZ aL cV x.af (aG cq x.bY (aG cq x.bz (aC x.bh (aG aC x.aD (aG aC x.aw (dB x.fType (aC x.ae r))))))) a6
  have z1:=PO x.fType (aC x.ae r) a0 (by omega) a1
  have z2:(AV.sl false 1 (x.aw.map AV.str)).fits lim:=eM (f:=aC) aY x.aw (dB x.fType (aC x.ae r)) a1 (by omega) a2 (fun _ _ _ _ _ _=>trivial)
  have z3:(AV.sl false 1 (x.aD.map AV.str)).fits lim:=eM (f:=aC) aY x.aD (aG aC x.aw (dB x.fType (aC x.ae r))) a2 (by omega) a3 (fun _ _ _ _ _ _=>trivial)
  have z5:(AV.sl false 7 (x.bz.map (aK false))).fits lim:=eM (f:=cq) eS x.bz (aC x.bh (aG aC x.aD (aG aC x.aw (dB x.fType (aC x.ae r))))) a4 (by omega) a5 (fun y hy r' p q s=>Hc y r' p q s)
  have z6:(AV.sl false 7 (x.bY.map (aK false))).fits lim:=eM (f:=cq) eS x.bY (aG cq x.bz (aC x.bh (aG aC x.aD (aG aC x.aw (dB x.fType (aC x.ae r)))))) a5 (by omega) a6 (fun y hy r' p q s=>Hc y r' p q s)
  have z7:(AV.sl false 19 (x.af.map (ak false))).fits lim:=eM (f:=aL) cV x.af (aG cq x.bY (aG cq x.bz (aC x.bh (aG aC x.aD (aG aC x.aw (dB x.fType (aC x.ae r))))))) a6 (by omega) a7 (fun y hy r' p q s=>ih (SizeOf.sizeOf y) (by have:=List.sizeOf_lt_of_mem hy;cases x;simp [Dt.ag.af] at *;omega) y r' p q s rfl)
  simp only [Be,AV.fits,AV.dR] at z1 z2 z3 z5 z6 z7
  simp only [cK,AV.fits,AV.dR]
  exact ⟨trivial,trivial,z1.1,z1.2.1,z1.2.2.1,z1.2.2.2.1,z1.2.2.2.2.1,z2,z3,trivial,trivial,trivial,trivial,trivial,trivial,trivial,z5,z6,z7,trivial⟩
instance:Inhabited Dt.ah:=⟨.mk [] [] []⟩
def wP(x:Dt.ah):List AV:=[.str x.ae,.str x.av,.sl false 3 (x.af.map (aj false))]
theorem y9{L:Nat->Nat}:eB L W wP (aj false) 3:=by
 have:aj false=fun x=>.agg (wP x):=by funext x;simp only [go_sem,wP]
 rw [this];exact eB.agg fun _=>rfl
theorem DP(n:Nat):aP enc Tryz.prog W eW n 95 wP (fun _=>True):=by
 induction n with
 | zero=>exact aP.zero
 | succ n ih =>
  refine aP.mono (n:=n+1+1) ?_ (by omega)
  exact aP.struct (P:=Tryz.prog) (t:=95) (fl:=[(9,0,1),(9,1,1),(23,2,1)]) (tot:=3) (by kernel_rfl)
   (bk.cons (aP.str (by kernel_rfl)) (bk.cons (aP.str (by kernel_rfl)) (bk.cons (aP.slice (e:=95) (bytes:=56) (by kernel_rfl) (by decide) (by decide) (fF _) y9 ih) bk.nil)))
   (fun p=>.mk p.1 p.2.1 p.2.2.1) (fun p _=>⟨trivial,rfl⟩)
theorem Bb(x:Dt.ah)(r:Int)(h0:0<=r)(h1:r<=1048576)(h:0<=bM x r):(aj false x).fits lim:=by
 induction hs:SizeOf.sizeOf x using Nat.strongRecOn generalizing x r with
 | _ n ih =>
  rw [uo] at h
  obtain ⟨a0,h⟩:=aX h
  have l0:=aY x.ae r h0
  obtain ⟨a1,h⟩:=aX h
  have l1:=aY x.av (aC x.ae r) a0
  obtain ⟨a2,h⟩:=aX h
  have l2:=aZ bM dC x.af (aC x.av (aC x.ae r)) a1
  have z2:(AV.sl false 3 (x.af.map (aj false))).fits lim:=eM (f:=bM) dC x.af (aC x.av (aC x.ae r)) a1 (by omega) a2 (fun y hy r' p q s=>ih (SizeOf.sizeOf y) (by have:=List.sizeOf_lt_of_mem hy;cases x;simp [Dt.ah.af] at *;omega) y r' p q s rfl)
  simp only [AV.fits,AV.dR] at z2
  simp only [bR,AV.fits,AV.dR]
  exact ⟨trivial,trivial,z2,trivial⟩
instance:Inhabited Dt.au:=⟨.mk 0 [] [] []⟩
def wR(x:Dt.au):List AV:=[.v (.int .i64 x.fOp),.str x.ae,.str x.av,.sl false 4 (x.af.map (aH false))]
theorem DF{L:Nat->Nat}:eB L W wR (aH false) 4:=by
 have:aH false=fun x=>.agg (wR x):=by funext x;simp only [go_sem,wR]
 rw [this];exact eB.agg fun _=>rfl
theorem JP(n:Nat):aP enc Tryz.prog W eW n 209 wR (fun _=>True):=by
 induction n with
 | zero=>exact aP.zero
 | succ n ih =>
  refine aP.mono (n:=n+1+1) ?_ (by omega)
  exact aP.struct (P:=Tryz.prog) (t:=209) (fl:=[(3,0,1),(9,1,1),(9,2,1),(163,3,1)]) (tot:=4) (by kernel_rfl)
   (bk.cons (aP.int (k:=.i64) (by kernel_rfl)) (bk.cons (aP.str (by kernel_rfl)) (bk.cons (aP.str (by kernel_rfl)) (bk.cons (aP.slice (e:=209) (bytes:=64) (by kernel_rfl) (by decide) (by decide) (fF _) DF ih) bk.nil))))
   (fun p=>.mk p.1 p.2.1 p.2.2.1 p.2.2.2.1) (fun p _=>⟨trivial,rfl⟩)
theorem He(x:Dt.au)(r:Int)(h0:0<=r)(h1:r<=1048576)(h:0<=dM x r):(aH false x).fits lim:=by
 induction hs:SizeOf.sizeOf x using Nat.strongRecOn generalizing x r with
 | _ n ih =>
  rw [ur] at h
  obtain ⟨a0,h⟩:=aX h
  have l0:=aY x.ae r h0
  obtain ⟨a1,h⟩:=aX h
  have l1:=aY x.av (aC x.ae r) a0
  obtain ⟨a2,h⟩:=aX h
  have l2:=aZ dM fT x.af (aC x.av (aC x.ae r)) a1
  have z2:(AV.sl false 4 (x.af.map (aH false))).fits lim:=eM (f:=dM) fT x.af (aC x.av (aC x.ae r)) a1 (by omega) a2 (fun y hy r' p q s=>ih (SizeOf.sizeOf y) (by have:=List.sizeOf_lt_of_mem hy;cases x;simp [Dt.au.af] at *;omega) y r' p q s rfl)
  simp only [AV.fits,AV.dR] at z2
  simp only [bS,AV.fits,AV.dR]
  exact ⟨trivial,trivial,trivial,z2,trivial⟩
theorem OW{L:Nat->Nat}:eB L W (fun l:List Dt.au=>[.sl false 4 (l.map (aH false))]) (bD false) 1:=eB.sl
theorem O2(n:Nat):aP enc Tryz.prog W eW n 163 (fun l:List Dt.au=>[.sl false 4 (l.map (aH false))]) (fun l=>(∀ a∈l,True)/\l.length * 64<=reachBytes):=by
 cases n with
 | zero=>exact aP.zero
 | succ n=>exact aP.slice (e:=209) (bytes:=64) (by kernel_rfl) (by decide) (by decide) (fF _) DF (JP n)
theorem M0(x:List Dt.au)(r:Int)(h0:0<=r)(h1:r<=1048576)(h:0<=gW x r):(bD false x).fits lim:=eM (f:=dM) fT x r h0 h1 h fun y hy r' p q s=>He y r' p q s
instance:Inhabited Dt.nS:=⟨[],0,0⟩
def Us(x:Dt.nS):List AV:=[.sl false 3 (x.IU.map (aj false)),.v (.int .i64 x.fBy),.v (.int .i64 x.fAt)]
instance:Inhabited Dt.nT:=⟨false,0,0,[],[]⟩
def Ut(x:Dt.nT):List AV:=[.v (.bool x.fOn),.v (.int .i64 x.rV),.v (.int .i64 x.fBy),.str x.ae,.sl false 3 (x.tu.map (aj false))]
instance:Inhabited Dt.sy:=⟨[],[],[],0,[],default⟩
def Xt(x:Dt.sy):List AV:=[.sl false 19 (x.rW.map (ak false)),.sl false 3 (x.qd.map (aj false)),.sl false 3 (x.vv.map (aj false)),.v (.int .i64 x.zK),.sl false 3 (x.zJ.map (pG false)),.v (.bool x.ij.fOn),.v (.int .i64 x.ij.rV),.v (.int .i64 x.ij.fBy),.str x.ij.ae,.sl false 3 (x.ij.tu.map (aj false))]
instance:Inhabited Dt.bV:=⟨0,0,[]⟩
def qQ(x:Dt.bV):List AV:=[.v (.int .i64 x.fAt),.v (.int .i64 x.fBy),.sl false 4 (x.dG.map (aH false))]
theorem LR{L:Nat->Nat}:eB L W qQ (az false) 3:=by
 have:az false=fun x=>.agg (qQ x):=by funext x;simp only [go_sem,qQ]
 rw [this];exact eB.agg fun _=>rfl
theorem LW(n:Nat):aP enc Tryz.prog W eW n 189 qQ (fun _=>True):=by
 refine aP.mono (n:=n+1+1) ?_ (by omega)
 exact aP.struct (P:=Tryz.prog) (t:=189) (fl:=[(3,0,1),(3,1,1),(163,2,1)]) (tot:=3) (by kernel_rfl)
   (bk.cons (aP.int (k:=.i64) (by kernel_rfl)) (bk.cons (aP.int (k:=.i64) (by kernel_rfl)) (bk.cons (aP.slice (e:=209) (bytes:=64) (by kernel_rfl) (by decide) (by decide) (fF _) DF (JP n)) bk.nil)))
   (fun p=>⟨p.1,p.2.1,p.2.2.1⟩) (fun p _=>⟨trivial,rfl⟩)
theorem KU(x:Dt.bV)(r:Int)(h0:0<=r)(h1:r<=1048576)(h:0<=fo x r):(az false x).fits lim:=by
 unfold fo at h
 obtain ⟨a0,h⟩:=aX h
 have l0:=aZ dM fT x.dG r h0
 have z0:(AV.sl false 4 (x.dG.map (aH false))).fits lim:=eM (f:=dM) fT x.dG r h0 (by omega) a0 (fun y hy r' p q s=>He y r' p q s)
 simp only [AV.fits,AV.dR] at z0
 simp only [az,AV.fits,AV.dR]
 exact ⟨trivial,trivial,z0,trivial⟩
instance:Inhabited Dt.bu:=⟨[],[]⟩
def tJ(x:Dt.bu):List AV:=[.sl false 3 (x.aQ.map (aj false)),.sl false 3 (x.aF.map (az false))]
theorem BO(n:Nat):aP enc Tryz.prog W eW n 79 tJ (fun _=>True):=by
 refine aP.mono (n:=n+1+1) ?_ (by omega)
 exact aP.struct (P:=Tryz.prog) (t:=79) (fl:=[(23,0,1),(77,1,1)]) (tot:=2) (by kernel_rfl)
   (bk.cons (aP.slice (e:=95) (bytes:=56) (by kernel_rfl) (by decide) (by decide) (fF _) y9 (DP n)) (bk.cons (aP.slice (e:=189) (bytes:=40) (by kernel_rfl) (by decide) (by decide) (fF _) LR (LW n)) bk.nil))
   (fun p=>⟨p.1,p.2.1⟩) (fun p _=>⟨trivial,rfl⟩)
theorem zH(x:Dt.bu)(r:Int)(h0:0<=r)(h1:r<=1048576)(h:0<=cW x r):(lP false x).fits lim:=by
 unfold cW at h
 obtain ⟨a0,h⟩:=aX h
 have l0:=aZ bM dC x.aQ r h0
 obtain ⟨a1,h⟩:=aX h
 have l1:=aZ fo jJ x.aF (aG bM x.aQ r) a0
 have z0:(AV.sl false 3 (x.aQ.map (aj false))).fits lim:=eM (f:=bM) dC x.aQ r h0 (by omega) a0 (fun y hy r' p q s=>Bb y r' p q s)
 have z1:(AV.sl false 3 (x.aF.map (az false))).fits lim:=eM (f:=fo) jJ x.aF (aG bM x.aQ r) a0 (by omega) a1 (fun y hy r' p q s=>KU y r' p q s)
 simp only [AV.fits,AV.dR] at z0 z1
 simp only [lP,AV.fits,AV.dR]
 exact ⟨z0,z1,trivial⟩
instance:Inhabited Dt.dm:=⟨[],[],[]⟩
def zT(x:Dt.dm):List AV:=[.sl false 1 (x.ax.map AV.str),.sl false 3 (x.cL.map (aj false)),.sl false 1 (x.bt.map (bD false))]
theorem JN(n:Nat):aP enc Tryz.prog W eW n 57 zT (fun _=>True):=by
 refine aP.mono (n:=n+1+1) ?_ (by omega)
 exact aP.struct (P:=Tryz.prog) (t:=57) (fl:=[(54,0,1),(23,1,1),(55,2,1)]) (tot:=3) (by kernel_rfl)
   (bk.cons (aP.slice (e:=9) (bytes:=16) (by kernel_rfl) (by decide) (by decide) (fF _) eB.str (aP.str (by kernel_rfl))) (bk.cons (aP.slice (e:=95) (bytes:=56) (by kernel_rfl) (by decide) (by decide) (fF _) y9 (DP n)) (bk.cons (aP.slice (e:=163) (bytes:=24) (by kernel_rfl) (by decide) (by decide) (fF _) OW (O2 n)) bk.nil)))
   (fun p=>⟨p.1,p.2.1,p.2.2.1⟩) (fun p _=>⟨trivial,rfl⟩)
theorem IQ(x:Dt.dm)(r:Int)(h0:0<=r)(h1:r<=1048576)(h:0<=fE x r):(pF false x).fits lim:=by
 unfold fE at h
 obtain ⟨a0,h⟩:=aX h
 have l0:=aZ aC aY x.ax r h0
 obtain ⟨a1,h⟩:=aX h
 have l1:=aZ bM dC x.cL (aG aC x.ax r) a0
 obtain ⟨a2,h⟩:=aX h
 have l2:=aZ gW j5 x.bt (aG bM x.cL (aG aC x.ax r)) a1
 have z0:(AV.sl false 1 (x.ax.map AV.str)).fits lim:=eM (f:=aC) aY x.ax r h0 (by omega) a0 (fun _ _ _ _ _ _=>trivial)
 have z1:(AV.sl false 3 (x.cL.map (aj false))).fits lim:=eM (f:=bM) dC x.cL (aG aC x.ax r) a0 (by omega) a1 (fun y hy r' p q s=>Bb y r' p q s)
 have z2:(AV.sl false 1 (x.bt.map (bD false))).fits lim:=eM (f:=gW) j5 x.bt (aG bM x.cL (aG aC x.ax r)) a1 (by omega) a2 (fun y hy r' p q s=>M0 y r' p q s)
 simp only [AV.fits,AV.dR] at z0 z1 z2
 simp only [pF,AV.fits,AV.dR]
 exact ⟨z0,z1,z2,trivial⟩
instance:Inhabited Dt.sA:=⟨[],default,[],false,0,false⟩
def Vz(x:Dt.sA):List AV:=[.str x.ae,.sl false 19 (x.gb.rW.map (ak false)),.sl false 3 (x.gb.qd.map (aj false)),.sl false 3 (x.gb.vv.map (aj false)),.v (.int .i64 x.gb.zK),.sl false 3 (x.gb.zJ.map (pG false)),.v (.bool x.gb.ij.fOn),.v (.int .i64 x.gb.ij.rV),.v (.int .i64 x.gb.ij.fBy),.str x.gb.ij.ae,.sl false 3 (x.gb.ij.tu.map (aj false)),.sl false 3 (x.aQ.map (aj false)),.v (.bool x.fUp),.v (.int .i64 x.NY),.v (.bool x.NZ)]
end
section
set_option maxHeartbeats 2000000
instance TB(k:Int):Ctr lim Tryz.prog 57 [] [.v (.int .i64 k)] (.str (mkT k)) [] (k<=1099511627776):=by
 refine Ctr.bd Tryz.func57 Tryz.ntmps57 rfl rfl fun hp=>?_
 (refine vU ?_;with_reducible repeat' first|exact Le.l|apply Sw|intro h)
 ·rw [mkT,if_pos h]
 obtain ⟨n,rfl⟩:∃ n:Nat,k=n:=⟨k.toNat,by omega⟩
 refine AW.aA [0,3] [] (fun m xs o=>∃ (j:Nat) (out:Str),xs=[.v (.int .i64 j),.str out]/\o=[]/\m=j/\out.length+j<=n/\tC j out=tC n []) n [] trivial ⟨n,[],?_,rfl,rfl,?_,rfl⟩ ?_
 ·rfl
 ·simp
 rintro m xs o ⟨j,out,rfl,rfl,rfl,hl,hR⟩
 (refine vU ?_;with_reducible repeat' first|exact Le.l|apply Sw|intro h)
 ·rw [Na (by omega)] at hR
  exact ⟨_,[_,_],[],by omega,⟨m / 10,_,rfl,rfl,rfl,by simp;omega,hR⟩,by rw [show (48+((m % 10:Nat):Int)).toNat=48+m % 10 by omega];rfl,trivial⟩
 ·have:m=0:=by omega
  subst this
  rw [K4] at hR
  rw [mkT,if_neg (by omega),Int.toNat_natCast,hR]
instance SX(L:Nat->Nat)[hL:Lok L](l:List Str):Ctr L Tryz.prog 70 [] [.sl false 1 (l.map AV.str),.sl false 1 (l.map AV.str)] (.v (.bool true)) [] True:=by
 refine Ctr.bd Tryz.func70 Tryz.ntmps70 rfl rfl fun hp=>?_
 refine AW.fact 0 fun hf=>?_
 simp (disch:=omega) only [go_sem,Nat.reduceBEq] at hf
 have hf:=Nat.le_trans hf (hL.le 1)
 (refine vU ?_;with_reducible repeat' first|exact Le.l|apply Sw|intro h)
 refine AW.aA [5] [0,1] (fun m xs o=>∃ k:Nat,xs=[.v (.int .i64 k)]/\o=[]/\m=l.length - k/\k<=l.length) l.length [] trivial ⟨0,?_,rfl,rfl,?_⟩ ?_
 ·rfl
 ·omega
 rintro m xs o ⟨k,rfl,rfl,rfl,hk⟩
 (refine vU ?_;with_reducible repeat' first|exact Le.l|apply Sw|intro h)
 exact ⟨_,[_],[],by omega,⟨k+1,rfl,rfl,rfl,by omega⟩,rfl,trivial⟩
theorem Cu(b:Nat)(l:List Str)(k:Int):Ctr lim Tryz.prog 74 [(b,some ((l.map AV.str).flatMap AV.cells))] [.arr b 0 (l.map AV.str).length 1,.v (.int .i64 k)] (.v (.int .i64 (k+l.length))) [some (((mks l.length k).map AV.str).flatMap AV.cells)] (0<=k/\k+l.length<=1099511627776):=by
 simp only [EL,List.length_map]
 refine Ctr.bd Tryz.func74 Tryz.ntmps74 rfl rfl fun hp=>?_
 (refine vU ?_;with_reducible repeat' first|exact Le.l|apply Sw|intro h)
 refine AW.aA [1,5] [0] (fun m xs o=>∃ i:Nat,xs=[.v (.int .i64 (k+i)),.v (.int .i64 i)]/\o=[(b,some ((mkd l k i).map AV.str))]/\m=l.length - i/\i<=l.length) l.length [(b,some (l.map AV.str))] (bw rfl) ⟨0,?_,?_,rfl,?_⟩ ?_
 ·simp [T]
 ·simp [mkd,mks]
 ·omega
 rintro m xs o ⟨i,rfl,rfl,rfl,hi⟩
 have hml:=Pb l k i hi
 (refine vU ?_;with_reducible repeat' first|exact Le.l|apply Sw|intro h)
 ·exact ⟨_,[_,_],_,by omega,⟨i+1,by rw [show k+((i+1:Nat):Int)=k+i+1 by omega],rfl,rfl,by omega⟩,rfl,bw (L9 l k i h).symm⟩
 ·rw [show i=l.length by omega]
 ·rw [show i=l.length by omega,mkd,List.drop_of_length_le (Nat.le_refl _),List.append_nil]
instance Cr(l:List Str)(k:Int):fS lim Tryz.prog 74 1 (l.map AV.str) [.v (.int .i64 k)] (.v (.int .i64 (k+l.length))) ((mks l.length k).map AV.str) (0<=k/\k+l.length<=1099511627776):=by
 refine fS.of (aM 74) (fun b=>Cu b l k) (fun e=>?_) (by simp [pM]) (by simpa [List.all_eq_true] using Ah l) (by simpa [List.all_eq_true] using Ah (mks l.length k))
 have:l=[]:=by simpa using e
 subst this
 refine ⟨?_,rfl⟩
 refine Ctr.bd Tryz.func74 Tryz.ntmps74 rfl rfl fun hp=>?_
 (refine vU ?_;with_reducible repeat' first|exact Le.l|apply Sw|intro h)
 refine AW.aA [] [0,1,5] (fun m xs o=>xs=[]/\o=[]) 0 [] trivial ⟨rfl,rfl⟩ ?_
 rintro m xs o ⟨rfl,rfl⟩
 (refine vU ?_;with_reducible repeat' first|exact Le.l|apply Sw|intro h)
 simp
end
section
theorem Qo{L:Nat->Nat}{P:Program}{c:Code}{n:Nat}{t:List (Nat×AV)}{o:Sto}{Q:Exit->AS->Prop}(i:Nat){own:Bool}{l:List Str}(hi:T t i=.sl own 1 (l.map AV.str))(h:(∀ k,k<l.length->(at_ l k).length<=4611686018427387904)->AW L P c ⟨n,t,o⟩ Q):AW L P c ⟨n,t,o⟩ Q:=by
 intro B F0 w0 a w hd
 refine h (fun k hk=>?_) B F0 w0 a w hd
 obtain ⟨F,ow,fp,fs,h⟩:=hd
 have hr:=h.slots i
 simp only at hr
 rw [hi] at hr
 simp only [Rep] at hr
 rcases hr with ⟨_,e,_⟩|⟨b,off,cap,vals,fp',_,_,_,_,he,_⟩
 ·have:l=[]:=by simpa using e
  subst this;simp at hk
 ·obtain ⟨y,f,_,_,hr,_⟩:=he.get (i:=k) (x:=.str (at_ l k)) (by rw [List.getElem?_map,su hk];rfl)
  simp only [Rep] at hr
  exact hr.2.1
instance Sy(L:Nat->Nat)[hL:Lok L](l:List Str)(r:Int):Ctr L Tryz.prog 59 [] [.sl false 1 (l.map AV.str),.v (.int .i64 r)] (.v (.int .i64 (aG aC l r))) [] (0<=r/\r<=1048576):=by
 refine Ctr.bd Tryz.func59 Tryz.ntmps59 rfl rfl fun hp=>?_
 refine Qo 0 rfl fun hfs=>?_
 refine AW.fact 0 fun hf=>?_
 simp (disch:=omega) only [go_sem,Nat.reduceBEq] at hf
 have hf:=Nat.le_trans hf (hL.le 1)
 (refine vU ?_;with_reducible repeat' first|exact Le.l|apply Sw|intro h)
 ·rw [fQ h]
 rw [gr h]
 refine AW.aA [1,5] [0] (fun m xs o=>∃ (k:Nat) (q:Int),xs=[.v (.int .i64 q),.v (.int .i64 k)]/\o=[]/\m=l.length - k/\k<=l.length/\0<=q/\q<=1048576/\eD aC (l.drop k) q=eD aC l (r - l.length)) l.length [] trivial ⟨0,_,?_,rfl,rfl,?_,?_,?_,rfl⟩ ?_
 ·rfl
 ·omega
 ·omega
 ·omega
 rintro m xs o ⟨k,q,rfl,rfl,rfl,hk,h0,h1,hR⟩
 have hle:=aY (at_ l k) q h0
 have hse:=hfs k
 have hsz:aC (at_ l k) q=q - (at_ l k).length:=rfl
 (refine vU ?_;with_reducible repeat' first|exact Le.l|apply Sw|intro h)
 ·rw [fX (by assumption),if_pos (by first|exact h|(rw [hsz];exact h))] at hR;rw [hR]
 ·rw [fX (by assumption),if_neg (by omega)] at hR
  exact ⟨_,[_,_],[],by omega,⟨k+1,_,rfl,rfl,rfl,by omega,by omega,by omega,hR⟩,rfl,trivial⟩
 ·rw [j4 h] at hR;rw [hR]
instance Ss(l:List Str):Ctr lim Tryz.prog 64 [] [.sl false 1 (l.map AV.str)] (.sl true 1 (l.map AV.str)) [] True:=by
 refine Ctr.bd Tryz.func64 Tryz.ntmps64 rfl rfl fun hp=>?_
 refine AW.fact 0 fun hf=>?_
 simp (disch:=omega) only [go_sem,Nat.reduceBEq] at hf
 (refine vU ?_;with_reducible repeat' first|exact Le.l|apply Sw|intro h)
 refine AW.aA [4] [0,3] (fun m xs o=>∃ k:Nat,xs=[.v (.int .i64 k)]/\o=[(h,some (mkC AV.str [.string ⟨#[]⟩] l k))]/\m=l.length - k/\k<=l.length) l.length [(h,some (mkC AV.str [.string ⟨#[]⟩] l 0))] (bw (jN _ _ _)) ⟨0,?_,rfl,rfl,?_⟩ ?_
 ·rfl
 ·omega
 rintro m xs o ⟨k,rfl,rfl,rfl,hk⟩
 have hml:=kH AV.str [.string ⟨#[]⟩] 1 (fun _=>rfl) rfl l k hk
 (refine vX ?_;with_reducible repeat' first|exact Le.l|apply Sw|intro h)
 ·exact ⟨_,[_],_,by omega,⟨k+1,rfl,rfl,rfl,by omega⟩,rfl,bw (by have:=l9 AV.str [.string ⟨#[]⟩] 1 (fun _=>rfl) rfl l k h;simp only [go_sem,Nat.mul_one] at this ⊢;exact this.symm)⟩
 ·refine AW.made 2 rfl h hk (fun _=>rfl) ?_
  all_goals exact uU
instance Vs(L:Nat->Nat)[hL:Lok L](x:du):Ctr L Tryz.prog 183 [] [.agg [.v (.int .i64 x.fLo),.v (.int .i64 x.fHi)],.agg [.v (.int .i64 x.fLo),.v (.int .i64 x.fHi)]] (.v (.bool true)) [] True:=by
 refine Ctr.bd Tryz.func183 Tryz.ntmps183 rfl rfl fun hp=>?_
 all_goals exact uU
instance Uh(L:Nat->Nat)[hL:Lok L](l:List du):Ctr L Tryz.prog 158 [] [.sl false 2 (l.map (aR false)),.sl false 2 (l.map (aR false))] (.v (.bool true)) [] True:=by
 refine Ctr.bd Tryz.func158 Tryz.ntmps158 rfl rfl fun hp=>?_
 refine AW.fact 0 fun hf=>?_
 simp (disch:=omega) only [go_sem,Nat.reduceBEq] at hf
 have hf:=Nat.le_trans hf (hL.le 2)
 (refine vU ?_;with_reducible repeat' first|exact Le.l|apply Sw|intro h)
 refine AW.aA [5] [0,1] (fun m xs o=>∃ k:Nat,xs=[.v (.int .i64 k)]/\o=[]/\m=l.length - k/\k<=l.length) l.length [] trivial ⟨0,?_,rfl,rfl,?_⟩ ?_
 ·rfl
 ·omega
 rintro m xs o ⟨k,rfl,rfl,rfl,hk⟩
 (refine vU ?_;with_reducible repeat' first|exact Le.l|apply Sw|intro h)
 exact ⟨_,[_],[],by omega,⟨k+1,rfl,rfl,rfl,by omega⟩,rfl,trivial⟩
theorem yS:∀ (l:List du) (r:Int),0<=r->eD fj l r=r
 | [],_,_=>rfl
 | x::xs,r,h=>by
  rw [eD,show fj x r=r from rfl,thn,if_neg (by omega)];exact yS xs r h
instance Tf(L:Nat->Nat)[hL:Lok L](l:List du)(r:Int):Ctr L Tryz.prog 144 [] [.sl false 2 (l.map (aR false)),.v (.int .i64 r)] (.v (.int .i64 (aG fj l r))) [] (0<=r/\r<=1048576):=by
 refine Ctr.bd Tryz.func144 Tryz.ntmps144 rfl rfl fun hp=>?_
 refine AW.fact 0 fun hf=>?_
 simp (disch:=omega) only [go_sem,Nat.reduceBEq] at hf
 have hf:=Nat.le_trans hf (hL.le 2)
 (refine vU ?_;with_reducible repeat' first|exact Le.l|apply Sw|intro h)
 ·rw [fQ h]
 ·rw [gr h,yS _ _ h]
instance UJ(x:du):Ctr lim Tryz.prog 177 [] [.agg [.v (.int .i64 x.fLo),.v (.int .i64 x.fHi)]] (.agg [.v (.int .i64 x.fLo),.v (.int .i64 x.fHi)]) [] True:=by
 refine Ctr.bd Tryz.func177 Tryz.ntmps177 rfl rfl fun hp=>?_
 all_goals exact uU
instance S9(l:List du):Ctr lim Tryz.prog 148 [] [.sl false 2 (l.map (aR false))] (.sl true 2 (l.map (aR true))) [] True:=by
 refine Ctr.bd Tryz.func148 Tryz.ntmps148 rfl rfl fun hp=>?_
 refine AW.fact 0 fun hf=>?_
 simp (disch:=omega) only [go_sem,Nat.reduceBEq] at hf
 (refine vU ?_;with_reducible repeat' first|exact Le.l|apply Sw|intro h)
 refine AW.aA [4] [0,3] (fun m xs o=>∃ k:Nat,xs=[.v (.int .i64 k)]/\o=[(h,some (mkC (aR true) [.int .i64 0,.int .i64 0] l k))]/\m=l.length - k/\k<=l.length) l.length [(h,some (mkC (aR true) [.int .i64 0,.int .i64 0] l 0))] (bw (jN _ _ _)) ⟨0,?_,rfl,rfl,?_⟩ ?_
 ·rfl
 ·omega
 rintro m xs o ⟨k,rfl,rfl,rfl,hk⟩
 have hml:=kH (aR true) [.int .i64 0,.int .i64 0] 2 (fun _=>rfl) rfl l k hk
 (refine vX ?_;with_reducible repeat' first|exact Le.l|apply Sw|intro h)
 ·exact ⟨_,[_],_,by omega,⟨k+1,rfl,rfl,rfl,by omega⟩,rfl,bw (by have:=l9 (aR true) [.int .i64 0,.int .i64 0] 2 (fun _=>rfl) rfl l k h;simp only [go_sem,Nat.mul_one] at this ⊢;exact this.symm)⟩
 ·refine AW.made 2 rfl h hk (fun _=>rfl) ?_
  all_goals exact uU
instance Xm(L:Nat->Nat)[hL:Lok L](x:dx):Ctr L Tryz.prog 122 [] [.agg [.v (.int .i64 x.ai),.sl false 2 (x.aB.map (aR false)),.sl false 1 (x.ax.map AV.str),.str x.aW,.str x.aE],.agg [.v (.int .i64 x.ai),.sl false 2 (x.aB.map (aR false)),.sl false 1 (x.ax.map AV.str),.str x.aW,.str x.aE]] (.v (.bool true)) [] True:=by
 refine Ctr.bd Tryz.func122 Tryz.ntmps122 rfl rfl fun hp=>?_
 all_goals exact uU
instance VI(L:Nat->Nat)[hL:Lok L](x:dx)(r:Int):Ctr L Tryz.prog 110 [] [.agg [.v (.int .i64 x.ai),.sl false 2 (x.aB.map (aR false)),.sl false 1 (x.ax.map AV.str),.str x.aW,.str x.aE],.v (.int .i64 r)] (.v (.int .i64 (dB x r))) [] (0<=r/\r<=1048576):=by
 refine Ctr.bd Tryz.func110 Tryz.ntmps110 rfl rfl fun hp=>?_
 refine AW.fact 0 fun hf=>?_
 simp (disch:=omega) only [go_sem,Nat.reduceBEq] at hf
 have le0:=aZ fj mU x.aB r
 have le1:=aZ aC aY x.ax (aG fj x.aB r)
 unfold dB
 ((refine vU ?_;with_reducible repeat' first|exact Le.l|apply Sw|intro h);all_goals simp only [thn,aC,id];all_goals refine congrArg (fun z=>AV.v (.int .i64 z)) ?_;all_goals (repeat' split);all_goals omega)
instance VB(x:dx):Ctr lim Tryz.prog 114 [] [.agg [.v (.int .i64 x.ai),.sl false 2 (x.aB.map (aR false)),.sl false 1 (x.ax.map AV.str),.str x.aW,.str x.aE]] (.agg [.v (.int .i64 x.ai),.sl true 2 (x.aB.map (aR true)),.sl true 1 (x.ax.map AV.str),.str x.aW,.str x.aE]) [] True:=by
 refine Ctr.bd Tryz.func114 Tryz.ntmps114 rfl rfl fun hp=>?_
 all_goals exact uU
end
section
theorem ah.cd{x:ah}{l:List ah}(h:x∈l):SizeOf.sizeOf x.af<SizeOf.sizeOf l:=by
 have:=List.sizeOf_lt_of_mem h
 cases x;simp [ah.af] at *;omega
theorem M5(L:Nat->Nat)[hL:Lok L](n:Nat)(ih:∀ l:List ah,Ctr L Tryz.prog 17 [] [.sl false 3 (l.map (aj false)),.sl false 3 (l.map (aj false))] (.v (.bool true)) [] (SizeOf.sizeOf l<n))(x:ah):Ctr L Tryz.prog 55 [] [.agg [.str x.ae,.str x.av,.sl false 3 (x.af.map (aj false))],.agg [.str x.ae,.str x.av,.sl false 3 (x.af.map (aj false))]] (.v (.bool true)) [] (SizeOf.sizeOf x.af<n):=by
 refine Ctr.bd Tryz.func55 Tryz.ntmps55 rfl rfl fun hp=>?_
 all_goals exact uU
theorem Ca(L:Nat->Nat)[hL:Lok L]:∀ (n:Nat) (l:List ah),Ctr L Tryz.prog 17 [] [.sl false 3 (l.map (aj false)),.sl false 3 (l.map (aj false))] (.v (.bool true)) [] (SizeOf.sizeOf l<n)
 | 0,l=>⟨(aM 17),fun h=>absurd h (Nat.not_lt_zero _)⟩
 | n+1,l=>by
  have hx:=M5 L n (Ca L n)
  refine Ctr.bd Tryz.func17 Tryz.ntmps17 rfl rfl fun hp=>?_
  refine AW.fact 0 fun hf=>?_
  simp (disch:=omega) only [go_sem,Nat.reduceBEq] at hf
  have hf:=Nat.le_trans hf (hL.le 3)
  (refine vU ?_;with_reducible repeat' first|exact Le.l|apply Sw|intro h)
  refine AW.aA [5] [0,1] (fun m xs o=>∃ k:Nat,xs=[.v (.int .i64 k)]/\o=[]/\m=l.length - k/\k<=l.length) l.length [] trivial ⟨0,?_,rfl,rfl,?_⟩ ?_
  ·rfl
  ·omega
  rintro m xs o ⟨k,rfl,rfl,rfl,hk⟩
  have hkk:k<l.length->SizeOf.sizeOf (at_ l k).af<n:=fun h=>by have:=ah.cd (at_mem h);omega
  (refine vU ?_;with_reducible repeat' first|exact Le.l|apply Sw|intro h)
  exact ⟨_,[_],[],by omega,⟨k+1,rfl,rfl,rfl,by omega⟩,rfl,trivial⟩
instance Vt(L:Nat->Nat)[hL:Lok L](l:List ah):Ctr L Tryz.prog 17 [] [.sl false 3 (l.map (aj false)),.sl false 3 (l.map (aj false))] (.v (.bool true)) [] True:=⟨(aM 17),fun _=>(Ca L (SizeOf.sizeOf l+1) l).out (Nat.lt_succ_self _)⟩
theorem LB(L:Nat->Nat)[hL:Lok L](n:Nat)(ih:∀ (l:List ah) (r:Int),Ctr L Tryz.prog 10 [] [.sl false 3 (l.map (aj false)),.v (.int .i64 r)] (.v (.int .i64 (aG bM l r))) [] (SizeOf.sizeOf l<n/\0<=r/\r<=1048576))(x:ah)(r:Int):Ctr L Tryz.prog 48 [] [.agg [.str x.ae,.str x.av,.sl false 3 (x.af.map (aj false))],.v (.int .i64 r)] (.v (.int .i64 (bM x r))) [] (SizeOf.sizeOf x.af<n/\0<=r/\r<=1048576):=by
 refine Ctr.bd Tryz.func48 Tryz.ntmps48 rfl rfl fun hp=>?_
 refine AW.fact 0 fun hf=>?_
 simp (disch:=omega) only [go_sem,Nat.reduceBEq] at hf
 have le2:=aZ bM dC x.af ((r - x.ae.length) - x.av.length)
 rw [uo]
 ((refine vU ?_;with_reducible repeat' first|exact Le.l|apply Sw|intro h);all_goals simp only [thn,aC,id];all_goals refine congrArg (fun z=>AV.v (.int .i64 z)) ?_;all_goals (repeat' split);all_goals omega)
theorem BA(L:Nat->Nat)[hL:Lok L]:∀ (n:Nat) (l:List ah) (r:Int),Ctr L Tryz.prog 10 [] [.sl false 3 (l.map (aj false)),.v (.int .i64 r)] (.v (.int .i64 (aG bM l r))) [] (SizeOf.sizeOf l<n/\0<=r/\r<=1048576)
 | 0,l,r=>⟨(aM 10),fun h=>absurd h.1 (Nat.not_lt_zero _)⟩
 | n+1,l,r=>by
  have hx:=LB L n (BA L n)
  refine Ctr.bd Tryz.func10 Tryz.ntmps10 rfl rfl fun hp=>?_
  refine AW.fact 0 fun hf=>?_
  simp (disch:=omega) only [go_sem,Nat.reduceBEq] at hf
  have hf:=Nat.le_trans hf (hL.le 3)
  (refine vU ?_;with_reducible repeat' first|exact Le.l|apply Sw|intro h)
  ·rw [fQ h]
  rw [gr h]
  refine AW.aA [1,5] [0] (fun m xs o=>∃ (k:Nat) (q:Int),xs=[.v (.int .i64 q),.v (.int .i64 k)]/\o=[]/\m=l.length - k/\k<=l.length/\0<=q/\q<=1048576/\eD bM (l.drop k) q=eD bM l (r - l.length)) l.length [] trivial ⟨0,_,?_,rfl,rfl,?_,?_,?_,rfl⟩ ?_
  ·rfl
  ·omega
  ·omega
  ·omega
  rintro m xs o ⟨k,q,rfl,rfl,rfl,hk,h0,h1,hR⟩
  have hle:=dC (at_ l k) q h0
  have hkk:k<l.length->SizeOf.sizeOf (at_ l k).af<n:=fun h=>by have:=ah.cd (at_mem h);omega
  (refine vU ?_;with_reducible repeat' first|exact Le.l|apply Sw|intro h)
  ·rw [fX (by assumption),if_pos (by first|exact h|(rw [hsz];exact h))] at hR;rw [hR]
  ·rw [fX (by assumption),if_neg (by omega)] at hR
   exact ⟨_,[_,_],[],by omega,⟨k+1,_,rfl,rfl,rfl,by omega,by omega,by omega,hR⟩,rfl,trivial⟩
  ·rw [j4 h] at hR;rw [hR]
instance UQ(L:Nat->Nat)[hL:Lok L](l:List ah)(r:Int):Ctr L Tryz.prog 10 [] [.sl false 3 (l.map (aj false)),.v (.int .i64 r)] (.v (.int .i64 (aG bM l r))) [] (0<=r/\r<=1048576):=⟨(aM 10),fun h=>(BA L (SizeOf.sizeOf l+1) l r).out ⟨Nat.lt_succ_self _,h⟩⟩
theorem Lw(n:Nat)(ih:∀ l:List ah,Ctr lim Tryz.prog 13 [] [.sl false 3 (l.map (aj false))] (.sl true 3 (l.map (aj true))) [] (SizeOf.sizeOf l<n))(x:ah):Ctr lim Tryz.prog 51 [] [.agg [.str x.ae,.str x.av,.sl false 3 (x.af.map (aj false))]] (.agg [.str x.ae,.str x.av,.sl true 3 (x.af.map (aj true))]) [] (SizeOf.sizeOf x.af<n):=by
 refine Ctr.bd Tryz.func51 Tryz.ntmps51 rfl rfl fun hp=>?_
 all_goals exact uU
theorem Bw:∀ (n:Nat) (l:List ah),Ctr lim Tryz.prog 13 [] [.sl false 3 (l.map (aj false))] (.sl true 3 (l.map (aj true))) [] (SizeOf.sizeOf l<n)
 | 0,l=>⟨(aM 13),fun h=>absurd h (Nat.not_lt_zero _)⟩
 | n+1,l=>by
  have hx:=Lw n (Bw n)
  refine Ctr.bd Tryz.func13 Tryz.ntmps13 rfl rfl fun hp=>?_
  refine AW.fact 0 fun hf=>?_
  simp (disch:=omega) only [go_sem,Nat.reduceBEq] at hf
  (refine vU ?_;with_reducible repeat' first|exact Le.l|apply Sw|intro h)
  refine AW.aA [4] [0,3] (fun m xs o=>∃ k:Nat,xs=[.v (.int .i64 k)]/\o=[(h,some (mkC (aj true) [.string ⟨#[]⟩,.string ⟨#[]⟩,.slice none 0 0] l k))]/\m=l.length - k/\k<=l.length) l.length [(h,some (mkC (aj true) [.string ⟨#[]⟩,.string ⟨#[]⟩,.slice none 0 0] l 0))] (bw (jN _ _ _)) ⟨0,?_,rfl,rfl,?_⟩ ?_
  ·rfl
  ·omega
  rintro m xs o ⟨k,rfl,rfl,rfl,hk⟩
  have hml:=kH (aj true) [.string ⟨#[]⟩,.string ⟨#[]⟩,.slice none 0 0] 3 (fun x=>by rw [bR];rfl) rfl l k hk
  have hkk:k<l.length->SizeOf.sizeOf (at_ l k).af<n:=fun h=>by have:=ah.cd (at_mem h);omega
  (refine vX ?_;with_reducible repeat' first|exact Le.l|apply Sw|intro h)
  ·exact ⟨_,[_],_,by omega,⟨k+1,rfl,rfl,rfl,by omega⟩,rfl,bw (by have:=l9 (aj true) [.string ⟨#[]⟩,.string ⟨#[]⟩,.slice none 0 0] 3 (fun x=>by rw [bR];rfl) rfl l k h;simp only [go_sem,Nat.mul_one] at this ⊢;exact this.symm)⟩
  ·refine AW.made 2 rfl h hk (fun x=>by rw [bR];rfl) ?_
   all_goals exact uU
instance UK(l:List ah):Ctr lim Tryz.prog 13 [] [.sl false 3 (l.map (aj false))] (.sl true 3 (l.map (aj true))) [] True:=⟨(aM 13),fun _=>(Bw (SizeOf.sizeOf l+1) l).out (Nat.lt_succ_self _)⟩
end
end Go.Proofs
namespace Go.Ab
end Go.Ab
namespace Go.Proofs
open Go.Ab Go.Dt
attribute [go_sem] CH aS
instance Vc(x:dx):Ctr lim Tryz.prog 232 [] [.agg [.v (.int .i64 x.ai),.sl false 2 (x.aB.map (aR false)),.sl false 1 (x.ax.map AV.str),.str x.aW,.str x.aE]] (.v (.bool (isType j8 x))) [] True:=KH j8 x
instance UW(x:dx):Ctr lim Tryz.prog 221 [] [.agg [.v (.int .i64 x.ai),.sl false 2 (x.aB.map (aR false)),.sl false 1 (x.ax.map AV.str),.str x.aW,.str x.aE]] (.v (.bool (isType j8 x))) [] True:=Jy j8 x
end Go.Proofs
namespace Go.Dt
open Go.Ab
def cvB(x:dx)(s:Str):Bool:=isType j8 x && cvO H9 x s
def cvS(x:dx)(s:Str):Str:=bif cvB x s then cvT x s else []
theorem CW{x:dx}{s:Str}(h:cvB x s=false):AV.tup [.str [],.v (.bool false)]=.tup [.str (cvS x s),.v (.bool (cvB x s))]:=by rw [cvS,h];rfl
theorem E6{x:dx}{s t:Str}(h:cvB x s=true)(e:cvT x s=t):AV.tup [.str t,.v (.bool true)]=.tup [.str (cvS x s),.v (.bool (cvB x s))]:=by rw [cvS,h,<- e];rfl
theorem Cg{l:List Str}{k:Nat}{s:Str}(h:k<l.length):(cont (l.take k) s || at_ l k == s)=cont (l.take (k+1)) s:=by
 have e:l.take (k+1)=l.take k++[at_ l k]:=by
  rw [List.take_succ_eq_append_getElem h]
  unfold at_;rw [List.getElem?_eq_getElem h];rfl
 rw [Bool.eq_iff_iff,Bool.or_eq_true,lA,lA,e]
 rw [List.mem_append,List.mem_singleton,beq_iff_eq,eq_comm (a:=at_ l k)]
end Go.Dt
namespace Go.Proofs
open Go.Ab Go.Dt
instance Qf(x:dx)(s:Str):Ctr lim Tryz.prog 224 [] [.agg [.v (.int .i64 x.ai),.sl false 2 (x.aB.map (aR false)),.sl false 1 (x.ax.map AV.str),.str x.aW,.str x.aE],.str s] (.tup [.str (cvS x s),.v (.bool (cvB x s))]) [] (s.length<=1048576):=by
 have hr:=Al s
 refine Ctr.bd Tryz.func224 Tryz.ntmps224 rfl rfl fun hp=>?_
 (repeat' first|(with_reducible first|refine Z ?_|refine Y ?_|(refine hK _ _ ?_;clear hK K)|refine And.intro ?_ ?_|exact Ct|intro (K:_->_->Prop) hK|(refine gI fun hg=>?_;try simp only [hC,reduceCtorEq] at hg;try simp only [hg]))|(refine AW.i rfl (fun h=>?_) (fun h=>?_)<;>try simp only [hC,reduceCtorEq] at h)|((with_reducible refine E ?_;repeat refine Y ?_);refine eF rfl ?_)|simp (disch:=omega) only [go_sem,cond_true]|(with_reducible intro hg;try simp only [hC,reduceCtorEq] at hg)|exact Cl|fail)
 all_goals try first|(refine CW ?_;simp_all [cvB,cvO,tM,v8,rU];done)|(refine E6 ?_ ?_<;>simp_all [cvB,cvO,cvT,tM,v8,rU];done)
instance Qa(x:dx)(s:Str):Ctr lim Tryz.prog 212 [] [.agg [.v (.int .i64 x.ai),.sl false 2 (x.aB.map (aR false)),.sl false 1 (x.ax.map AV.str),.str x.aW,.str x.aE],.str s] (.tup [.str (cvS x s),.v (.bool (cvB x s))]) [] (s.length<=1048576):=by
 have hr:=Al s
 refine Ctr.bd Tryz.func212 Tryz.ntmps212 rfl rfl fun hp=>?_
 (repeat' first|(with_reducible first|refine Z ?_|refine Y ?_|(refine hK _ _ ?_;clear hK K)|refine And.intro ?_ ?_|exact Ct|intro (K:_->_->Prop) hK|(refine gI fun hg=>?_;try simp only [hC,reduceCtorEq] at hg;try simp only [hg]))|(refine AW.i rfl (fun h=>?_) (fun h=>?_)<;>try simp only [hC,reduceCtorEq] at h)|((with_reducible refine E ?_;repeat refine Y ?_);refine eF rfl ?_)|simp (disch:=omega) only [go_sem,cond_true]|(with_reducible intro hg;try simp only [hC,reduceCtorEq] at hg)|exact Cl|fail)
 all_goals try first|(refine CW ?_;cases e:isType j8 x<;>simp_all [cvB,cvO,tM,v8,rU];done)|(refine E6 ?_ ?_<;>simp_all [cvB,cvO,cvT,tM,v8,rU];done)
 refine AW.fact 0 fun hf=>?_
 simp (disch:=omega) only [go_sem,Nat.reduceBEq] at hf
 refine AW.aA [7,10] [1,2,6] (fun m xs o=>∃ k:Nat,xs=[.v (.bool (cont (x.ax.take k) s)),.v (.int .i64 k)]/\o=[]/\m=x.ax.length - k/\k<=x.ax.length) x.ax.length [] trivial ⟨0,?_,rfl,rfl,?_⟩ ?_
 ·rfl
 ·omega
 rintro m xs o ⟨k,rfl,rfl,rfl,hk⟩
 (repeat' first|(with_reducible first|refine Z ?_|refine Y ?_|(refine hK _ _ ?_;clear hK K)|refine And.intro ?_ ?_|exact Ct|intro (K:_->_->Prop) hK|(refine gI fun hg=>?_;try simp only [hC,reduceCtorEq] at hg;try simp only [hg]))|(refine AW.i rfl (fun h=>?_) (fun h=>?_)<;>try simp only [hC,reduceCtorEq] at h)|((with_reducible refine E ?_;repeat refine Y ?_);refine eF rfl ?_)|simp (disch:=omega) only [go_sem,cond_true]|(with_reducible intro hg;try simp only [hC,reduceCtorEq] at hg)|exact Cl|fail)
 ·exact ⟨_,[_,_],[],by omega,⟨k+1,rfl,rfl,rfl,by omega⟩,by rw [Cg (by assumption)];rfl,trivial⟩
 ·rw [List.take_of_length_le (by omega)] at h
  refine CW ?_
  cases e:isType j8 x<;>simp_all [cvB,cvO]
 ·rw [List.take_of_length_le (by omega)] at h
  refine E6 ?_ ?_<;>simp_all [cvB,cvO,cvT]
 ·refine CW ?_
  cases e:isType j8 x<;>by_cases e2:s=[]<;>simp_all [cvB,cvO]
end Go.Proofs
namespace Go.Dt
open Go Go.Ab
def isVal(x:dx)(s:Str):Bool:=cvB x s && cvS x s == s
end Go.Dt
