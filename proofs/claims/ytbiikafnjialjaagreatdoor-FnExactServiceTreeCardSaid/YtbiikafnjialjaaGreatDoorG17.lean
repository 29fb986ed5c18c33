/- Part of a proof. -/
import Derived.Test.YtbiikafnjialjaaGreatDoorG15
import Derived.Test.YtbiikafnjialjaaGreatDoorG16
set_option linter.all false
set_option maxRecDepth 20000
set_option maxHeartbeats 4000000
namespace Go.Proofs
open Go.Ab Go.Dt
section
variable {H : Type} {enc : TypeId × Value -> H} {W : World}
theorem gK(z:Nat):reachBytes<=gD z:=by
 have:=reachBytes_lt
 unfold gD;omega
instance:Inhabited Dt.df:=⟨0,0⟩
def sQ(x:Dt.df):List AV:=[.v (.int .i64 x.fLo),.v (.int .i64 x.fHi)]
theorem LL{L:Nat->Nat}:eB L W sQ (aI false) 2:=by
 have:aI false=fun x=>.agg (sQ x):=by funext x;simp only [go_sem,sQ]
 rw [this];exact eB.agg fun _=>rfl
theorem LR(n:Nat):aR enc Tryz.prog W gD n 313 sQ (fun _=>True):=by
 refine aR.mono (n:=n+1+1) ?_ (by omega)
 exact aR.struct (P:=Tryz.prog) (t:=313) (fl:=[(3,0,1),(3,1,1)]) (tot:=2) (by kernel_rfl)
   (aZ.cons (aR.int (k:=.i64) (by kernel_rfl)) (aZ.cons (aR.int (k:=.i64) (by kernel_rfl)) aZ.nil))
   (fun p=>⟨p.1,p.2.1⟩) (fun p _=>⟨trivial,rfl⟩)
theorem Kk(x:Dt.df)(r:Int)(h0:0<=r)(h1:r<=1048576)(h:0<=eY x r):(aI false x).fits lim:=by
 simp only [aI,AV.fits,AV.dK]
 exact ⟨trivial,trivial,trivial⟩
instance:Inhabited Dt.cL:=⟨0,[],[],[],[]⟩
def MR(x:Dt.cL):List AV:=[.v (.int .i64 x.ai),.sl false 2 (x.av.map (aI false)),.sl false 1 (x.ay.map AV.str),.str x.aN,.str x.aA]
theorem HJ(n:Nat):aR enc Tryz.prog W gD n 115 MR (fun _=>True):=by
 refine aR.mono (n:=n+1+1) ?_ (by omega)
 exact aR.struct (P:=Tryz.prog) (t:=115) (fl:=[(3,0,1),(113,1,1),(28,2,1),(9,3,1),(9,4,1)]) (tot:=5) (by kernel_rfl)
   (aZ.cons (aR.int (k:=.i64) (by kernel_rfl)) (aZ.cons (aR.slice (e:=313) (bytes:=16) (by kernel_rfl) (by decide) (by decide) (gK _) LL (LR n)) (aZ.cons (aR.slice (e:=9) (bytes:=16) (by kernel_rfl) (by decide) (by decide) (gK _) eB.str (aR.str (by kernel_rfl))) (aZ.cons (aR.str (by kernel_rfl)) (aZ.cons (aR.str (by kernel_rfl)) aZ.nil)))))
   (fun p=>⟨p.1,p.2.1,p.2.2.1,p.2.2.2.1,p.2.2.2.2.1⟩) (fun p _=>⟨trivial,rfl⟩)
theorem Fg(x:Dt.cL)(r:Int)(h0:0<=r)(h1:r<=1048576)(h:0<=dw x r):(uX false x).fits lim:=by
 unfold dw at h
 obtain ⟨a0,h⟩:=aP h
 have l0:=bu eY mB x.av r h0
 obtain ⟨a1,h⟩:=aP h
 have l1:=bu az aJ x.ay (aM eY x.av r) a0
 obtain ⟨a2,h⟩:=aP h
 have l2:=aJ x.aN (aM az x.ay (aM eY x.av r)) a1
 obtain ⟨a3,h⟩:=aP h
 have l3:=aJ x.aA (az x.aN (aM az x.ay (aM eY x.av r))) a2
 have z0:(AV.sl false 2 (x.av.map (aI false))).fits lim:=fP (f:=eY) mB x.av r h0 (by omega) a0 (fun y hy r' p q s=>Kk y r' p q s)
 have z1:(AV.sl false 1 (x.ay.map AV.str)).fits lim:=fP (f:=az) aJ x.ay (aM eY x.av r) a0 (by omega) a1 (fun _ _ _ _ _ _=>trivial)
 simp only [AV.fits,AV.dK] at z0 z1
 simp only [uX,AV.fits,AV.dK]
 exact ⟨trivial,z0,z1,trivial,trivial,trivial⟩
instance:Inhabited Dt.ed:=⟨[],[]⟩
def ve(x:Dt.ed):List AV:=[.str x.af,.str x.ax]
theorem N9{L:Nat->Nat}:eB L W ve (bZ false) 2:=by
 have:bZ false=fun x=>.agg (ve x):=by funext x;simp only [go_sem,ve]
 rw [this];exact eB.agg fun _=>rfl
theorem Od(n:Nat):aR enc Tryz.prog W gD n 394 ve (fun _=>True):=by
 refine aR.mono (n:=n+1+1) ?_ (by omega)
 exact aR.struct (P:=Tryz.prog) (t:=394) (fl:=[(9,0,1),(9,1,1)]) (tot:=2) (by kernel_rfl)
   (aZ.cons (aR.str (by kernel_rfl)) (aZ.cons (aR.str (by kernel_rfl)) aZ.nil))
   (fun p=>⟨p.1,p.2.1⟩) (fun p _=>⟨trivial,rfl⟩)
theorem MG(x:Dt.ed)(r:Int)(h0:0<=r)(h1:r<=1048576)(h:0<=iq x r):(bZ false x).fits lim:=by
 unfold iq at h
 obtain ⟨a0,h⟩:=aP h
 have l0:=aJ x.af r h0
 obtain ⟨a1,h⟩:=aP h
 have l1:=aJ x.ax (az x.af r) a0
 simp only [bZ,AV.fits,AV.dK]
 exact ⟨trivial,trivial,trivial⟩
instance:Inhabited Dt.GStep:=⟨[],[]⟩
def vf(x:Dt.GStep):List AV:=[.str x.af,.sl false 2 (x.bT.map (bZ false))]
theorem Oa{L:Nat->Nat}:eB L W vf (aS false) 2:=by
 have:aS false=fun x=>.agg (vf x):=by funext x;simp only [go_sem,vf]
 rw [this];exact eB.agg fun _=>rfl
theorem Oe(n:Nat):aR enc Tryz.prog W gD n 367 vf (fun _=>True):=by
 refine aR.mono (n:=n+1+1) ?_ (by omega)
 exact aR.struct (P:=Tryz.prog) (t:=367) (fl:=[(9,0,1),(365,1,1)]) (tot:=2) (by kernel_rfl)
   (aZ.cons (aR.str (by kernel_rfl)) (aZ.cons (aR.slice (e:=394) (bytes:=32) (by kernel_rfl) (by decide) (by decide) (gK _) N9 (Od n)) aZ.nil))
   (fun p=>⟨p.1,p.2.1⟩) (fun p _=>⟨trivial,rfl⟩)
theorem MH(x:Dt.GStep)(r:Int)(h0:0<=r)(h1:r<=1048576)(h:0<=iv x r):(aS false x).fits lim:=by
 unfold iv at h
 obtain ⟨a0,h⟩:=aP h
 have l0:=aJ x.af r h0
 obtain ⟨a1,h⟩:=aP h
 have l1:=bu iq mc x.bT (az x.af r) a0
 have z1:(AV.sl false 2 (x.bT.map (bZ false))).fits lim:=fP (f:=iq) mc x.bT (az x.af r) a0 (by omega) a1 (fun y hy r' p q s=>MG y r' p q s)
 simp only [AV.fits,AV.dK] at z1
 simp only [aS,AV.fits,AV.dK]
 exact ⟨trivial,z1,trivial⟩
instance:Inhabited Dt.eJ:=⟨false,0,[]⟩
def MS(x:Dt.eJ):List AV:=[.v (.bool x.cO),.v (.int .i64 x.dc),.sl false 2 (x.aK.map (aS false))]
theorem Oh(n:Nat):aR enc Tryz.prog W gD n 237 MS (fun _=>True):=by
 refine aR.mono (n:=n+1+1) ?_ (by omega)
 exact aR.struct (P:=Tryz.prog) (t:=237) (fl:=[(4,0,1),(3,1,1),(235,2,1)]) (tot:=3) (by kernel_rfl)
   (aZ.cons (aR.bool (by kernel_rfl)) (aZ.cons (aR.int (k:=.i64) (by kernel_rfl)) (aZ.cons (aR.slice (e:=367) (bytes:=40) (by kernel_rfl) (by decide) (by decide) (gK _) Oa (Oe n)) aZ.nil)))
   (fun p=>⟨p.1,p.2.1,p.2.2.1⟩) (fun p _=>⟨trivial,rfl⟩)
theorem MJ(x:Dt.eJ)(r:Int)(h0:0<=r)(h1:r<=1048576)(h:0<=je x r):(zB false x).fits lim:=by
 unfold je at h
 obtain ⟨a0,h⟩:=aP h
 have l0:=bu iv mf x.aK r h0
 have z0:(AV.sl false 2 (x.aK.map (aS false))).fits lim:=fP (f:=iv) mf x.aK r h0 (by omega) a0 (fun y hy r' p q s=>MH y r' p q s)
 simp only [AV.fits,AV.dK] at z0
 simp only [zB,AV.fits,AV.dK]
 exact ⟨trivial,trivial,z0,trivial⟩
instance:Inhabited Dt.aO:=⟨.mk 0 0 [] default []⟩
def vk(x:Dt.aO):List AV:=[.v (.int .i64 x.fOp),.v (.int .i64 x.fo),.str x.bW,.v (.bool x.aA.cO),.v (.int .i64 x.aA.dc),.sl false 2 (x.aA.aK.map (aS false)),.sl false 7 (x.ag.map (aG false))]
theorem Cq{L:Nat->Nat}:eB L W vk (aG false) 7:=by
 have:aG false=fun x=>.agg (vk x):=by funext x;simp only [go_sem,vk]
 rw [this];exact eB.agg fun _=>rfl
theorem HK(n:Nat):aR enc Tryz.prog W gD n 239 vk (fun _=>True):=by
 induction n with
 | zero=>exact aR.zero
 | succ n ih =>
  refine aR.mono (n:=n+1+1) ?_ (by omega)
  exact aR.struct (P:=Tryz.prog) (t:=239) (fl:=[(3,0,1),(3,1,1),(9,2,1),(237,3,3),(116,6,1)]) (tot:=7) (by kernel_rfl)
   (aZ.cons (aR.int (k:=.i64) (by kernel_rfl)) (aZ.cons (aR.int (k:=.i64) (by kernel_rfl)) (aZ.cons (aR.str (by kernel_rfl)) (aZ.cons (Oh _) (aZ.cons (aR.slice (e:=239) (bytes:=96) (by kernel_rfl) (by decide) (by decide) (gK _) Cq ih) aZ.nil)))))
   (fun p=>.mk p.1 p.2.1 p.2.2.1 p.2.2.2.1 p.2.2.2.2.1) (fun p _=>⟨trivial,rfl⟩)
theorem Fh(x:Dt.aO)(r:Int)(h0:0<=r)(h1:r<=1048576)(h:0<=cu x r):(aG false x).fits lim:=by
 induction hs:SizeOf.sizeOf x using Nat.strongRecOn generalizing x r with
 | _ n ih =>
  rw [tF] at h
  obtain ⟨a0,h⟩:=aP h
  have l0:=aJ x.bW r h0
  obtain ⟨a1,h⟩:=aP h
  have l1:=pZ x.aA (az x.bW r) a0
  obtain ⟨a2,h⟩:=aP h
  have l2:=bu cu eM x.ag (je x.aA (az x.bW r)) a1
  have z1:=MJ x.aA (az x.bW r) a0 (by omega) a1
  have z2:(AV.sl false 7 (x.ag.map (aG false))).fits lim:=fP (f:=cu) eM x.ag (je x.aA (az x.bW r)) a1 (by omega) a2 (fun y hy r' p q s=>ih (SizeOf.sizeOf y) (by have:=List.sizeOf_lt_of_mem hy;cases x;simp [Dt.aO.ag] at *;omega) y r' p q s rfl)
  simp only [zB,AV.fits,AV.dK] at z1 z2
  simp only [cV,AV.fits,AV.dK]
  exact ⟨trivial,trivial,trivial,z1.1,z1.2.1,z1.2.2.1,z2,trivial⟩
instance:Inhabited Dt.ae:=⟨.mk 0 [] default [] [] [] false false false false 0 0 [] [] []⟩
def qw(x:Dt.ae):List AV:=[.v (.int .i64 x.ai),.str x.af,.v (.int .i64 x.fType.ai),.sl false 2 (x.fType.av.map (aI false)),.sl false 1 (x.fType.ay.map AV.str),.str x.fType.aN,.str x.fType.aA,.sl false 1 (x.aD.map AV.str),.sl false 1 (x.aB.map AV.str),.str x.ba,.v (.bool x.cn),.v (.bool x.cy),.v (.bool x.bw),.v (.bool x.dC),.v (.int .i64 x.gr),.v (.int .i64 x.gu),.sl false 7 (x.bq.map (aG false)),.sl false 7 (x.bR.map (aG false)),.sl false 19 (x.ag.map (aq false))]
theorem Cp{L:Nat->Nat}:eB L W qw (aq false) 19:=by
 have:aq false=fun x=>.agg (qw x):=by funext x;simp only [go_sem,qw]
 rw [this];exact eB.agg fun _=>rfl
theorem Jx(n:Nat):aR enc Tryz.prog W gD n 118 qw (fun _=>True):=by
 induction n with
 | zero=>exact aR.zero
 | succ n ih =>
  refine aR.mono (n:=n+1+1) ?_ (by omega)
  exact aR.struct (P:=Tryz.prog) (t:=118) (fl:=[(3,0,1),(9,1,1),(115,2,5),(28,7,1),(28,8,1),(9,9,1),(4,10,1),(4,11,1),(4,12,1),(4,13,1),(3,14,1),(3,15,1),(116,16,1),(116,17,1),(26,18,1)]) (tot:=19) (by kernel_rfl)
   (aZ.cons (aR.int (k:=.i64) (by kernel_rfl)) (aZ.cons (aR.str (by kernel_rfl)) (aZ.cons (HJ _) (aZ.cons (aR.slice (e:=9) (bytes:=16) (by kernel_rfl) (by decide) (by decide) (gK _) eB.str (aR.str (by kernel_rfl))) (aZ.cons (aR.slice (e:=9) (bytes:=16) (by kernel_rfl) (by decide) (by decide) (gK _) eB.str (aR.str (by kernel_rfl))) (aZ.cons (aR.str (by kernel_rfl)) (aZ.cons (aR.bool (by kernel_rfl)) (aZ.cons (aR.bool (by kernel_rfl)) (aZ.cons (aR.bool (by kernel_rfl)) (aZ.cons (aR.bool (by kernel_rfl)) (aZ.cons (aR.int (k:=.i64) (by kernel_rfl)) (aZ.cons (aR.int (k:=.i64) (by kernel_rfl)) (aZ.cons (aR.slice (e:=239) (bytes:=96) (by kernel_rfl) (by decide) (by decide) (gK _) Cq (HK n)) (aZ.cons (aR.slice (e:=239) (bytes:=96) (by kernel_rfl) (by decide) (by decide) (gK _) Cq (HK n)) (aZ.cons (aR.slice (e:=118) (bytes:=272) (by kernel_rfl) (by decide) (by decide) (gK _) Cp ih) aZ.nil)))))))))))))))
   (fun p=>.mk p.1 p.2.1 p.2.2.1 p.2.2.2.1 p.2.2.2.2.1 p.2.2.2.2.2.1 p.2.2.2.2.2.2.1 p.2.2.2.2.2.2.2.1 p.2.2.2.2.2.2.2.2.1 p.2.2.2.2.2.2.2.2.2.1 p.2.2.2.2.2.2.2.2.2.2.1 p.2.2.2.2.2.2.2.2.2.2.2.1 p.2.2.2.2.2.2.2.2.2.2.2.2.1 p.2.2.2.2.2.2.2.2.2.2.2.2.2.1 p.2.2.2.2.2.2.2.2.2.2.2.2.2.2.1) (fun p _=>⟨trivial,rfl⟩)
theorem Ix(x:Dt.ae)(r:Int)(h0:0<=r)(h1:r<=1048576)(h:0<=bP x r):(aq false x).fits lim:=by
 induction hs:SizeOf.sizeOf x using Nat.strongRecOn generalizing x r with
 | _ n ih =>
  rw [qD] at h
  obtain ⟨a0,h⟩:=aP h
  have l0:=aJ x.af r h0
  obtain ⟨a1,h⟩:=aP h
  have l1:=ku x.fType (az x.af r) a0
  obtain ⟨a2,h⟩:=aP h
  have l2:=bu az aJ x.aD (dw x.fType (az x.af r)) a1
  obtain ⟨a3,h⟩:=aP h
  have l3:=bu az aJ x.aB (aM az x.aD (dw x.fType (az x.af r))) a2
  obtain ⟨a4,h⟩:=aP h
  have l4:=aJ x.ba (aM az x.aB (aM az x.aD (dw x.fType (az x.af r)))) a3
  obtain ⟨a5,h⟩:=aP h
  have l5:=bu cu eM x.bq (az x.ba (aM az x.aB (aM az x.aD (dw x.fType (az x.af r))))) a4
  obtain ⟨a6,h⟩:=aP h
  have l6:=bu cu eM x.bR (aM cu x.bq (az x.ba (aM az x.aB (aM az x.aD (dw x.fType (az x.af r)))))) a5
  obtain ⟨a7,h⟩:=aP h
  have l7:=bu bP fQ x.ag (aM cu x.bR (aM cu x.bq (az x.ba (aM az x.aB (aM az x.aD (dw x.fType (az x.af r))))))) a6
  have z1:=Fg x.fType (az x.af r) a0 (by omega) a1
  have z2:(AV.sl false 1 (x.aD.map AV.str)).fits lim:=fP (f:=az) aJ x.aD (dw x.fType (az x.af r)) a1 (by omega) a2 (fun _ _ _ _ _ _=>trivial)
  have z3:(AV.sl false 1 (x.aB.map AV.str)).fits lim:=fP (f:=az) aJ x.aB (aM az x.aD (dw x.fType (az x.af r))) a2 (by omega) a3 (fun _ _ _ _ _ _=>trivial)
  have z5:(AV.sl false 7 (x.bq.map (aG false))).fits lim:=fP (f:=cu) eM x.bq (az x.ba (aM az x.aB (aM az x.aD (dw x.fType (az x.af r))))) a4 (by omega) a5 (fun y hy r' p q s=>Fh y r' p q s)
  have z6:(AV.sl false 7 (x.bR.map (aG false))).fits lim:=fP (f:=cu) eM x.bR (aM cu x.bq (az x.ba (aM az x.aB (aM az x.aD (dw x.fType (az x.af r)))))) a5 (by omega) a6 (fun y hy r' p q s=>Fh y r' p q s)
  have z7:(AV.sl false 19 (x.ag.map (aq false))).fits lim:=fP (f:=bP) fQ x.ag (aM cu x.bR (aM cu x.bq (az x.ba (aM az x.aB (aM az x.aD (dw x.fType (az x.af r))))))) a6 (by omega) a7 (fun y hy r' p q s=>ih (SizeOf.sizeOf y) (by have:=List.sizeOf_lt_of_mem hy;cases x;simp [Dt.ae.ag] at *;omega) y r' p q s rfl)
  simp only [uX,AV.fits,AV.dK] at z1 z2 z3 z5 z6 z7
  simp only [cT,AV.fits,AV.dK]
  exact ⟨trivial,trivial,z1.1,z1.2.1,z1.2.2.1,z1.2.2.2.1,z1.2.2.2.2.1,z2,z3,trivial,trivial,trivial,trivial,trivial,trivial,trivial,z5,z6,z7,trivial⟩
instance:Inhabited Dt.ah:=⟨.mk [] [] []⟩
def vg(x:Dt.ah):List AV:=[.str x.af,.str x.ax,.sl false 3 (x.ag.map (ak false))]
theorem HA{L:Nat->Nat}:eB L W vg (ak false) 3:=by
 have:ak false=fun x=>.agg (vg x):=by funext x;simp only [go_sem,vg]
 rw [this];exact eB.agg fun _=>rfl
theorem Oi(n:Nat):aR enc Tryz.prog W gD n 153 vg (fun _=>True):=by
 induction n with
 | zero=>exact aR.zero
 | succ n ih =>
  refine aR.mono (n:=n+1+1) ?_ (by omega)
  exact aR.struct (P:=Tryz.prog) (t:=153) (fl:=[(9,0,1),(9,1,1),(57,2,1)]) (tot:=3) (by kernel_rfl)
   (aZ.cons (aR.str (by kernel_rfl)) (aZ.cons (aR.str (by kernel_rfl)) (aZ.cons (aR.slice (e:=153) (bytes:=56) (by kernel_rfl) (by decide) (by decide) (gK _) HA ih) aZ.nil)))
   (fun p=>.mk p.1 p.2.1 p.2.2.1) (fun p _=>⟨trivial,rfl⟩)
theorem MK(x:Dt.ah)(r:Int)(h0:0<=r)(h1:r<=1048576)(h:0<=dA x r):(ak false x).fits lim:=by
 induction hs:SizeOf.sizeOf x using Nat.strongRecOn generalizing x r with
 | _ n ih =>
  rw [tE] at h
  obtain ⟨a0,h⟩:=aP h
  have l0:=aJ x.af r h0
  obtain ⟨a1,h⟩:=aP h
  have l1:=aJ x.ax (az x.af r) a0
  obtain ⟨a2,h⟩:=aP h
  have l2:=bu dA gX x.ag (az x.ax (az x.af r)) a1
  have z2:(AV.sl false 3 (x.ag.map (ak false))).fits lim:=fP (f:=dA) gX x.ag (az x.ax (az x.af r)) a1 (by omega) a2 (fun y hy r' p q s=>ih (SizeOf.sizeOf y) (by have:=List.sizeOf_lt_of_mem hy;cases x;simp [Dt.ah.ag] at *;omega) y r' p q s rfl)
  simp only [AV.fits,AV.dK] at z2
  simp only [cH,AV.fits,AV.dK]
  exact ⟨trivial,trivial,z2,trivial⟩
instance:Inhabited Dt.nu:=⟨[],0,0⟩
def RA(x:Dt.nu):List AV:=[.sl false 3 (x.sG.map (ak false)),.v (.int .i64 x.fBy),.v (.int .i64 x.fAt)]
instance:Inhabited Dt.ny:=⟨false,0,0,[],[]⟩
def RB(x:Dt.ny):List AV:=[.v (.bool x.fOn),.v (.int .i64 x.ry),.v (.int .i64 x.fBy),.str x.af,.sl false 3 (x.sH.map (ak false))]
instance:Inhabited Dt.rI:=⟨[],[],[],0,[],default⟩
def UM(x:Dt.rI):List AV:=[.sl false 19 (x.rz.map (aq false)),.sl false 3 (x.pL.map (ak false)),.sl false 3 (x.ur.map (ak false)),.v (.int .i64 x.yw),.sl false 3 (x.yu.map (oK false)),.v (.bool x.gT.fOn),.v (.int .i64 x.gT.ry),.v (.int .i64 x.gT.fBy),.str x.gT.af,.sl false 3 (x.gT.sH.map (ak false))]
instance:Inhabited Dt.bI:=⟨[],[]⟩
def yH(x:Dt.bI):List AV:=[.str x.af,.str x.ax]
theorem QI{L:Nat->Nat}:eB L W yH (bp false) 2:=by
 have:bp false=fun x=>.agg (yH x):=by funext x;simp only [go_sem,yH]
 rw [this];exact eB.agg fun _=>rfl
theorem QK(n:Nat):aR enc Tryz.prog W gD n 179 yH (fun _=>True):=by
 refine aR.mono (n:=n+1+1) ?_ (by omega)
 exact aR.struct (P:=Tryz.prog) (t:=179) (fl:=[(9,0,1),(9,1,1)]) (tot:=2) (by kernel_rfl)
   (aZ.cons (aR.str (by kernel_rfl)) (aZ.cons (aR.str (by kernel_rfl)) aZ.nil))
   (fun p=>⟨p.1,p.2.1⟩) (fun p _=>⟨trivial,rfl⟩)
theorem Pa(x:Dt.bI)(r:Int)(h0:0<=r)(h1:r<=1048576)(h:0<=gm x r):(bp false x).fits lim:=by
 unfold gm at h
 obtain ⟨a0,h⟩:=aP h
 have l0:=aJ x.af r h0
 obtain ⟨a1,h⟩:=aP h
 have l1:=aJ x.ax (az x.af r) a0
 simp only [bp,AV.fits,AV.dK]
 exact ⟨trivial,trivial,trivial⟩
instance:Inhabited Dt.bh:=⟨[],default⟩
def sR(x:Dt.bh):List AV:=[.str x.af,.v (.int .i64 x.fType.ai),.sl false 2 (x.fType.av.map (aI false)),.sl false 1 (x.fType.ay.map AV.str),.str x.fType.aN,.str x.fType.aA]
theorem LM{L:Nat->Nat}:eB L W sR (aV false) 6:=by
 have:aV false=fun x=>.agg (sR x):=by funext x;simp only [go_sem,sR]
 rw [this];exact eB.agg fun _=>rfl
theorem LS(n:Nat):aR enc Tryz.prog W gD n 294 sR (fun _=>True):=by
 refine aR.mono (n:=n+1+1) ?_ (by omega)
 exact aR.struct (P:=Tryz.prog) (t:=294) (fl:=[(9,0,1),(115,1,5)]) (tot:=6) (by kernel_rfl)
   (aZ.cons (aR.str (by kernel_rfl)) (aZ.cons (HJ _) aZ.nil))
   (fun p=>⟨p.1,p.2.1⟩) (fun p _=>⟨trivial,rfl⟩)
theorem Kl(x:Dt.bh)(r:Int)(h0:0<=r)(h1:r<=1048576)(h:0<=eZ x r):(aV false x).fits lim:=by
 unfold eZ at h
 obtain ⟨a0,h⟩:=aP h
 have l0:=aJ x.af r h0
 obtain ⟨a1,h⟩:=aP h
 have l1:=ku x.fType (az x.af r) a0
 have z1:=Fg x.fType (az x.af r) a0 (by omega) a1
 simp only [uX,AV.fits,AV.dK] at z1
 simp only [aV,AV.fits,AV.dK]
 exact ⟨trivial,z1.1,z1.2.1,z1.2.2.1,z1.2.2.2.1,z1.2.2.2.2.1,trivial⟩
instance:Inhabited Dt.aL:=⟨[],[],[]⟩
def nH(x:Dt.aL):List AV:=[.str x.af,.sl false 6 (x.aC.map (aV false)),.sl false 3 (x.cD.map (ak false))]
theorem F4{L:Nat->Nat}:eB L W nH (aQ false) 3:=by
 have:aQ false=fun x=>.agg (nH x):=by funext x;simp only [go_sem,nH]
 rw [this];exact eB.agg fun _=>rfl
theorem F5(n:Nat):aR enc Tryz.prog W gD n 174 nH (fun _=>True):=by
 refine aR.mono (n:=n+1+1) ?_ (by omega)
 exact aR.struct (P:=Tryz.prog) (t:=174) (fl:=[(9,0,1),(172,1,1),(57,2,1)]) (tot:=3) (by kernel_rfl)
   (aZ.cons (aR.str (by kernel_rfl)) (aZ.cons (aR.slice (e:=294) (bytes:=104) (by kernel_rfl) (by decide) (by decide) (gK _) LM (LS n)) (aZ.cons (aR.slice (e:=153) (bytes:=56) (by kernel_rfl) (by decide) (by decide) (gK _) HA (Oi n)) aZ.nil)))
   (fun p=>⟨p.1,p.2.1,p.2.2.1⟩) (fun p _=>⟨trivial,rfl⟩)
theorem Eg(x:Dt.aL)(r:Int)(h0:0<=r)(h1:r<=1048576)(h:0<=dh x r):(aQ false x).fits lim:=by
 unfold dh at h
 obtain ⟨a0,h⟩:=aP h
 have l0:=aJ x.af r h0
 obtain ⟨a1,h⟩:=aP h
 have l1:=bu eZ jO x.aC (az x.af r) a0
 obtain ⟨a2,h⟩:=aP h
 have l2:=bu dA gX x.cD (aM eZ x.aC (az x.af r)) a1
 have z1:(AV.sl false 6 (x.aC.map (aV false))).fits lim:=fP (f:=eZ) jO x.aC (az x.af r) a0 (by omega) a1 (fun y hy r' p q s=>Kl y r' p q s)
 have z2:(AV.sl false 3 (x.cD.map (ak false))).fits lim:=fP (f:=dA) gX x.cD (aM eZ x.aC (az x.af r)) a1 (by omega) a2 (fun y hy r' p q s=>MK y r' p q s)
 simp only [AV.fits,AV.dK] at z1 z2
 simp only [aQ,AV.fits,AV.dK]
 exact ⟨trivial,z1,z2,trivial⟩
instance:Inhabited Dt.bt:=⟨[],[],[],[]⟩
def mQ(x:Dt.bt):List AV:=[.str x.af,.str x.aX,.sl false 2 (x.fArgs.map (bp false)),.sl false 1 (x.ck.map AV.str)]
theorem Hz{L:Nat->Nat}:eB L W mQ (aT false) 4:=by
 have:aT false=fun x=>.agg (mQ x):=by funext x;simp only [go_sem,mQ]
 rw [this];exact eB.agg fun _=>rfl
theorem Aj(n:Nat):aR enc Tryz.prog W gD n 30 mQ (fun _=>True):=by
 refine aR.mono (n:=n+1+1) ?_ (by omega)
 exact aR.struct (P:=Tryz.prog) (t:=30) (fl:=[(9,0,1),(9,1,1),(27,2,1),(28,3,1)]) (tot:=4) (by kernel_rfl)
   (aZ.cons (aR.str (by kernel_rfl)) (aZ.cons (aR.str (by kernel_rfl)) (aZ.cons (aR.slice (e:=179) (bytes:=32) (by kernel_rfl) (by decide) (by decide) (gK _) QI (QK n)) (aZ.cons (aR.slice (e:=9) (bytes:=16) (by kernel_rfl) (by decide) (by decide) (gK _) eB.str (aR.str (by kernel_rfl))) aZ.nil))))
   (fun p=>⟨p.1,p.2.1,p.2.2.1,p.2.2.2.1⟩) (fun p _=>⟨trivial,rfl⟩)
theorem yq(x:Dt.bt)(r:Int)(h0:0<=r)(h1:r<=1048576)(h:0<=dm x r):(aT false x).fits lim:=by
 unfold dm at h
 obtain ⟨a0,h⟩:=aP h
 have l0:=aJ x.af r h0
 obtain ⟨a1,h⟩:=aP h
 have l1:=aJ x.aX (az x.af r) a0
 obtain ⟨a2,h⟩:=aP h
 have l2:=bu gm kz x.fArgs (az x.aX (az x.af r)) a1
 obtain ⟨a3,h⟩:=aP h
 have l3:=bu az aJ x.ck (aM gm x.fArgs (az x.aX (az x.af r))) a2
 have z2:(AV.sl false 2 (x.fArgs.map (bp false))).fits lim:=fP (f:=gm) kz x.fArgs (az x.aX (az x.af r)) a1 (by omega) a2 (fun y hy r' p q s=>Pa y r' p q s)
 have z3:(AV.sl false 1 (x.ck.map AV.str)).fits lim:=fP (f:=az) aJ x.ck (aM gm x.fArgs (az x.aX (az x.af r))) a2 (by omega) a3 (fun _ _ _ _ _ _=>trivial)
 simp only [AV.fits,AV.dK] at z2 z3
 simp only [aT,AV.fits,AV.dK]
 exact ⟨trivial,trivial,z2,z3,trivial⟩
instance:Inhabited Dt.gz:=⟨[],[]⟩
def Fy(x:Dt.gz):List AV:=[.sl false 3 (x.bf.map (aQ false)),.sl false 4 (x.bV.map (aT false))]
theorem Og(n:Nat):aR enc Tryz.prog W gD n 25 Fy (fun _=>True):=by
 refine aR.mono (n:=n+1+1) ?_ (by omega)
 exact aR.struct (P:=Tryz.prog) (t:=25) (fl:=[(22,0,1),(23,1,1)]) (tot:=2) (by kernel_rfl)
   (aZ.cons (aR.slice (e:=174) (bytes:=64) (by kernel_rfl) (by decide) (by decide) (gK _) F4 (F5 n)) (aZ.cons (aR.slice (e:=30) (bytes:=80) (by kernel_rfl) (by decide) (by decide) (gK _) Hz (Aj n)) aZ.nil))
   (fun p=>⟨p.1,p.2.1⟩) (fun p _=>⟨trivial,rfl⟩)
theorem MI(x:Dt.gz)(r:Int)(h0:0<=r)(h1:r<=1048576)(h:0<=dz x r):(uY false x).fits lim:=by
 unfold dz at h
 obtain ⟨a0,h⟩:=aP h
 have l0:=bu dh ic x.bf r h0
 obtain ⟨a1,h⟩:=aP h
 have l1:=bu dm gW x.bV (aM dh x.bf r) a0
 have z0:(AV.sl false 3 (x.bf.map (aQ false))).fits lim:=fP (f:=dh) ic x.bf r h0 (by omega) a0 (fun y hy r' p q s=>Eg y r' p q s)
 have z1:(AV.sl false 4 (x.bV.map (aT false))).fits lim:=fP (f:=dm) gW x.bV (aM dh x.bf r) a0 (by omega) a1 (fun y hy r' p q s=>yq y r' p q s)
 simp only [AV.fits,AV.dK] at z0 z1
 simp only [uY,AV.fits,AV.dK]
 exact ⟨z0,z1,trivial⟩
instance:Inhabited Dt.oZ:=⟨[],default,[],false,0,false⟩
def SL(x:Dt.oZ):List AV:=[.str x.af,.sl false 19 (x.fS.rz.map (aq false)),.sl false 3 (x.fS.pL.map (ak false)),.sl false 3 (x.fS.ur.map (ak false)),.v (.int .i64 x.fS.yw),.sl false 3 (x.fS.yu.map (oK false)),.v (.bool x.fS.gT.fOn),.v (.int .i64 x.fS.gT.ry),.v (.int .i64 x.fS.gT.fBy),.str x.fS.gT.af,.sl false 3 (x.fS.gT.sH.map (ak false)),.sl false 3 (x.GA.map (ak false)),.v (.bool x.fUp),.v (.int .i64 x.K3),.v (.bool x.K4)]
instance:Inhabited Dt.vv:=⟨[],[],0⟩
def VJ(x:Dt.vv):List AV:=[.str x.zx,.sl false 3 (x.sG.map (ak false)),.v (.int .i64 x.mM)]
instance:Inhabited Dt.lh:=⟨0,[]⟩
def Qc(x:Dt.lh):List AV:=[.v (.int .i64 x.mM),.sl false 3 (x.pK.map (oR false))]
instance:Inhabited Dt.pU:=⟨default,[],default,default,0⟩
def RC(x:Dt.pU):List AV:=[.sl false 3 (x.yt.bf.map (aQ false)),.sl false 4 (x.yt.bV.map (aT false)),.sl false 15 (x.wZ.map (AP false)),.v (.int .i64 x.nP.mM),.sl false 3 (x.nP.pK.map (oR false)),.v (.int .i64 x.yx.mM),.sl false 3 (x.yx.pK.map (oR false)),.v (.int .i64 x.Pb)]
end
section
set_option maxHeartbeats 2000000
instance QN(k:Int):Ctr lim Tryz.prog 75 [] [.v (.int .i64 k)] (.str (mkT k)) [] (k<=1099511627776):=by
 refine Ctr.bd Tryz.func75 Tryz.ntmps75 rfl rfl fun hp=>?_
 (refine vU ?_;with_reducible repeat' first|exact Le.l|apply Sw|intro h)
 ·rw [mkT,if_pos h]
 obtain ⟨n,rfl⟩:∃ n:Nat,k=n:=⟨k.toNat,by omega⟩
 refine AW.aw [0,3] [] (fun m xs o=>∃ (j:Nat) (out:Str),xs=[.v (.int .i64 j),.str out]/\o=[]/\m=j/\out.length+j<=n/\sL j out=sL n []) n [] trivial ⟨n,[],?_,rfl,rfl,?_,rfl⟩ ?_
 ·rfl
 ·simp
 rintro m xs o ⟨j,out,rfl,rfl,rfl,hl,hR⟩
 (refine vU ?_;with_reducible repeat' first|exact Le.l|apply Sw|intro h)
 ·rw [Ku (by omega)] at hR
  exact ⟨_,[_,_],[],by omega,⟨m / 10,_,rfl,rfl,rfl,by simp;omega,hR⟩,by rw [show (48+((m % 10:Nat):Int)).toNat=48+m % 10 by omega];rfl,trivial⟩
 ·have:m=0:=by omega
  subst this
  rw [IE] at hR
  rw [mkT,if_neg (by omega),Int.toNat_natCast,hR]
instance P8(L:Nat->Nat)[hL:Lok L](l:List Str):Ctr L Tryz.prog 47 [] [.sl false 1 (l.map AV.str),.sl false 1 (l.map AV.str)] (.v (.bool true)) [] True:=by
 refine Ctr.bd Tryz.func47 Tryz.ntmps47 rfl rfl fun hp=>?_
 refine AW.fact 0 fun hf=>?_
 simp (disch:=omega) only [go_sem,Nat.reduceBEq] at hf
 have hf:=Nat.le_trans hf (hL.le 1)
 (refine vU ?_;with_reducible repeat' first|exact Le.l|apply Sw|intro h)
 refine AW.aw [5] [0,1] (fun m xs o=>∃ k:Nat,xs=[.v (.int .i64 k)]/\o=[]/\m=l.length - k/\k<=l.length) l.length [] trivial ⟨0,?_,rfl,rfl,?_⟩ ?_
 ·rfl
 ·omega
 rintro m xs o ⟨k,rfl,rfl,rfl,hk⟩
 (refine vU ?_;with_reducible repeat' first|exact Le.l|apply Sw|intro h)
 exact ⟨_,[_],[],by omega,⟨k+1,rfl,rfl,rfl,by omega⟩,rfl,trivial⟩
theorem Bi(b:Nat)(l:List Str)(k:Int):Ctr lim Tryz.prog 50 [(b,some ((l.map AV.str).flatMap AV.cells))] [.arr b 0 (l.map AV.str).length 1,.v (.int .i64 k)] (.v (.int .i64 (k+l.length))) [some (((mks l.length k).map AV.str).flatMap AV.cells)] (0<=k/\k+l.length<=1099511627776):=by
 simp only [Dl,List.length_map]
 refine Ctr.bd Tryz.func50 Tryz.ntmps50 rfl rfl fun hp=>?_
 (refine vU ?_;with_reducible repeat' first|exact Le.l|apply Sw|intro h)
 refine AW.aw [1,5] [0] (fun m xs o=>∃ i:Nat,xs=[.v (.int .i64 (k+i)),.v (.int .i64 i)]/\o=[(b,some ((mkd l k i).map AV.str))]/\m=l.length - i/\i<=l.length) l.length [(b,some (l.map AV.str))] (aE rfl) ⟨0,?_,?_,rfl,?_⟩ ?_
 ·simp [T]
 ·simp [mkd,mks]
 ·omega
 rintro m xs o ⟨i,rfl,rfl,rfl,hi⟩
 have hml:=LY l k i hi
 (refine vU ?_;with_reducible repeat' first|exact Le.l|apply Sw|intro h)
 ·exact ⟨_,[_,_],_,by omega,⟨i+1,by rw [show k+((i+1:Nat):Int)=k+i+1 by omega],rfl,rfl,by omega⟩,rfl,aE (JE l k i h).symm⟩
 ·rw [show i=l.length by omega]
 ·rw [show i=l.length by omega,mkd,List.drop_of_length_le (Nat.le_refl _),List.append_nil]
instance Bh(l:List Str)(k:Int):fu lim Tryz.prog 50 1 (l.map AV.str) [.v (.int .i64 k)] (.v (.int .i64 (k+l.length))) ((mks l.length k).map AV.str) (0<=k/\k+l.length<=1099511627776):=by
 refine fu.of (aW 50) (fun b=>Bi b l k) (fun e=>?_) (by simp [oN]) (by simpa [List.all_eq_true] using yR l) (by simpa [List.all_eq_true] using yR (mks l.length k))
 have:l=[]:=by simpa using e
 subst this
 refine ⟨?_,rfl⟩
 refine Ctr.bd Tryz.func50 Tryz.ntmps50 rfl rfl fun hp=>?_
 (refine vU ?_;with_reducible repeat' first|exact Le.l|apply Sw|intro h)
 refine AW.aw [] [0,1,5] (fun m xs o=>xs=[]/\o=[]) 0 [] trivial ⟨rfl,rfl⟩ ?_
 rintro m xs o ⟨rfl,rfl⟩
 (refine vU ?_;with_reducible repeat' first|exact Le.l|apply Sw|intro h)
 simp
end
section
theorem Nz{L:Nat->Nat}{P:Program}{c:Code}{n:Nat}{t:List (Nat×AV)}{o:Sto}{Q:Exit->AS->Prop}(i:Nat){own:Bool}{l:List Str}(hi:T t i=.sl own 1 (l.map AV.str))(h:(∀ k,k<l.length->(at_ l k).length<=4611686018427387904)->AW L P c ⟨n,t,o⟩ Q):AW L P c ⟨n,t,o⟩ Q:=by
 intro B F0 w0 a w hd
 refine h (fun k hk=>?_) B F0 w0 a w hd
 obtain ⟨F,ow,fp,fs,h⟩:=hd
 have hr:=h.slots i
 simp only at hr
 rw [hi] at hr
 simp only [Rep] at hr
 rcases hr with ⟨_,e,_⟩|⟨b,off,cap,vals,fp',_,_,_,_,he,_⟩
 ·have:l=[]:=by simpa using e
  subst this;simp at hk
 ·obtain ⟨y,f,_,_,hr,_⟩:=he.get (i:=k) (x:=.str (at_ l k)) (by rw [List.getElem?_map,rD hk];rfl)
  simp only [Rep] at hr
  exact hr.2.1
instance PJ(L:Nat->Nat)[hL:Lok L](l:List Str)(r:Int):Ctr L Tryz.prog 56 [] [.sl false 1 (l.map AV.str),.v (.int .i64 r)] (.v (.int .i64 (aM az l r))) [] (0<=r/\r<=1048576):=by
 refine Ctr.bd Tryz.func56 Tryz.ntmps56 rfl rfl fun hp=>?_
 refine Nz 0 rfl fun hfs=>?_
 refine AW.fact 0 fun hf=>?_
 simp (disch:=omega) only [go_sem,Nat.reduceBEq] at hf
 have hf:=Nat.le_trans hf (hL.le 1)
 (refine vU ?_;with_reducible repeat' first|exact Le.l|apply Sw|intro h)
 ·rw [fe h]
 rw [fC h]
 refine AW.aw [1,5] [0] (fun m xs o=>∃ (k:Nat) (q:Int),xs=[.v (.int .i64 q),.v (.int .i64 k)]/\o=[]/\m=l.length - k/\k<=l.length/\0<=q/\q<=1048576/\dP az (l.drop k) q=dP az l (r - l.length)) l.length [] trivial ⟨0,_,?_,rfl,rfl,?_,?_,?_,rfl⟩ ?_
 ·rfl
 ·omega
 ·omega
 ·omega
 rintro m xs o ⟨k,q,rfl,rfl,rfl,hk,h0,h1,hR⟩
 have hle:=aJ (at_ l k) q h0
 have hse:=hfs k
 have hsz:az (at_ l k) q=q - (at_ l k).length:=rfl
 (refine vU ?_;with_reducible repeat' first|exact Le.l|apply Sw|intro h)
 ·rw [fw (by assumption),if_pos (by first|exact h|(rw [hsz];exact h))] at hR;rw [hR]
 ·rw [fw (by assumption),if_neg (by omega)] at hR
  exact ⟨_,[_,_],[],by omega,⟨k+1,_,rfl,rfl,rfl,by omega,by omega,by omega,hR⟩,rfl,trivial⟩
 ·rw [jv h] at hR;rw [hR]
instance PG(l:List Str):Ctr lim Tryz.prog 64 [] [.sl false 1 (l.map AV.str)] (.sl true 1 (l.map AV.str)) [] True:=by
 refine Ctr.bd Tryz.func64 Tryz.ntmps64 rfl rfl fun hp=>?_
 refine AW.fact 0 fun hf=>?_
 simp (disch:=omega) only [go_sem,Nat.reduceBEq] at hf
 (refine vU ?_;with_reducible repeat' first|exact Le.l|apply Sw|intro h)
 refine AW.aw [4] [0,3] (fun m xs o=>∃ k:Nat,xs=[.v (.int .i64 k)]/\o=[(h,some (mkC AV.str [.string ⟨#[]⟩] l k))]/\m=l.length - k/\k<=l.length) l.length [(h,some (mkC AV.str [.string ⟨#[]⟩] l 0))] (aE (iK _ _ _)) ⟨0,?_,rfl,rfl,?_⟩ ?_
 ·rfl
 ·omega
 rintro m xs o ⟨k,rfl,rfl,rfl,hk⟩
 have hml:=jJ AV.str [.string ⟨#[]⟩] 1 (fun _=>rfl) rfl l k hk
 (refine vX ?_;with_reducible repeat' first|exact Le.l|apply Sw|intro h)
 ·exact ⟨_,[_],_,by omega,⟨k+1,rfl,rfl,rfl,by omega⟩,rfl,aE (by have:=kN AV.str [.string ⟨#[]⟩] 1 (fun _=>rfl) rfl l k h;simp only [go_sem,Nat.mul_one] at this ⊢;exact this.symm)⟩
 ·refine AW.made 2 rfl h hk (fun _=>rfl) ?_
  all_goals exact uU
instance SF(L:Nat->Nat)[hL:Lok L](x:df):Ctr L Tryz.prog 260 [] [.agg [.v (.int .i64 x.fLo),.v (.int .i64 x.fHi)],.agg [.v (.int .i64 x.fLo),.v (.int .i64 x.fHi)]] (.v (.bool true)) [] True:=by
 refine Ctr.bd Tryz.func260 Tryz.ntmps260 rfl rfl fun hp=>?_
 all_goals exact uU
instance Rj(L:Nat->Nat)[hL:Lok L](l:List df):Ctr L Tryz.prog 203 [] [.sl false 2 (l.map (aI false)),.sl false 2 (l.map (aI false))] (.v (.bool true)) [] True:=by
 refine Ctr.bd Tryz.func203 Tryz.ntmps203 rfl rfl fun hp=>?_
 refine AW.fact 0 fun hf=>?_
 simp (disch:=omega) only [go_sem,Nat.reduceBEq] at hf
 have hf:=Nat.le_trans hf (hL.le 2)
 (refine vU ?_;with_reducible repeat' first|exact Le.l|apply Sw|intro h)
 refine AW.aw [5] [0,1] (fun m xs o=>∃ k:Nat,xs=[.v (.int .i64 k)]/\o=[]/\m=l.length - k/\k<=l.length) l.length [] trivial ⟨0,?_,rfl,rfl,?_⟩ ?_
 ·rfl
 ·omega
 rintro m xs o ⟨k,rfl,rfl,rfl,hk⟩
 (refine vU ?_;with_reducible repeat' first|exact Le.l|apply Sw|intro h)
 exact ⟨_,[_],[],by omega,⟨k+1,rfl,rfl,rfl,by omega⟩,rfl,trivial⟩
theorem xx:∀ (l:List df) (r:Int),0<=r->dP eY l r=r
 | [],_,_=>rfl
 | x::xs,r,h=>by
  rw [dP,show eY x r=r from rfl,thn,if_neg (by omega)];exact xx xs r h
instance Qo(L:Nat->Nat)[hL:Lok L](l:List df)(r:Int):Ctr L Tryz.prog 162 [] [.sl false 2 (l.map (aI false)),.v (.int .i64 r)] (.v (.int .i64 (aM eY l r))) [] (0<=r/\r<=1048576):=by
 refine Ctr.bd Tryz.func162 Tryz.ntmps162 rfl rfl fun hp=>?_
 refine AW.fact 0 fun hf=>?_
 simp (disch:=omega) only [go_sem,Nat.reduceBEq] at hf
 have hf:=Nat.le_trans hf (hL.le 2)
 (refine vU ?_;with_reducible repeat' first|exact Le.l|apply Sw|intro h)
 ·rw [fe h]
 ·rw [fC h,xx _ _ h]
instance RS(x:df):Ctr lim Tryz.prog 238 [] [.agg [.v (.int .i64 x.fLo),.v (.int .i64 x.fHi)]] (.agg [.v (.int .i64 x.fLo),.v (.int .i64 x.fHi)]) [] True:=by
 refine Ctr.bd Tryz.func238 Tryz.ntmps238 rfl rfl fun hp=>?_
 all_goals exact uU
instance Qg(l:List df):Ctr lim Tryz.prog 182 [] [.sl false 2 (l.map (aI false))] (.sl true 2 (l.map (aI true))) [] True:=by
 refine Ctr.bd Tryz.func182 Tryz.ntmps182 rfl rfl fun hp=>?_
 refine AW.fact 0 fun hf=>?_
 simp (disch:=omega) only [go_sem,Nat.reduceBEq] at hf
 (refine vU ?_;with_reducible repeat' first|exact Le.l|apply Sw|intro h)
 refine AW.aw [4] [0,3] (fun m xs o=>∃ k:Nat,xs=[.v (.int .i64 k)]/\o=[(h,some (mkC (aI true) [.int .i64 0,.int .i64 0] l k))]/\m=l.length - k/\k<=l.length) l.length [(h,some (mkC (aI true) [.int .i64 0,.int .i64 0] l 0))] (aE (iK _ _ _)) ⟨0,?_,rfl,rfl,?_⟩ ?_
 ·rfl
 ·omega
 rintro m xs o ⟨k,rfl,rfl,rfl,hk⟩
 have hml:=jJ (aI true) [.int .i64 0,.int .i64 0] 2 (fun _=>rfl) rfl l k hk
 (refine vX ?_;with_reducible repeat' first|exact Le.l|apply Sw|intro h)
 ·exact ⟨_,[_],_,by omega,⟨k+1,rfl,rfl,rfl,by omega⟩,rfl,aE (by have:=kN (aI true) [.int .i64 0,.int .i64 0] 2 (fun _=>rfl) rfl l k h;simp only [go_sem,Nat.mul_one] at this ⊢;exact this.symm)⟩
 ·refine AW.made 2 rfl h hk (fun _=>rfl) ?_
  all_goals exact uU
instance UB(L:Nat->Nat)[hL:Lok L](x:cL):Ctr L Tryz.prog 134 [] [.agg [.v (.int .i64 x.ai),.sl false 2 (x.av.map (aI false)),.sl false 1 (x.ay.map AV.str),.str x.aN,.str x.aA],.agg [.v (.int .i64 x.ai),.sl false 2 (x.av.map (aI false)),.sl false 1 (x.ay.map AV.str),.str x.aN,.str x.aA]] (.v (.bool true)) [] True:=by
 refine Ctr.bd Tryz.func134 Tryz.ntmps134 rfl rfl fun hp=>?_
 all_goals exact uU
instance SX(L:Nat->Nat)[hL:Lok L](x:cL)(r:Int):Ctr L Tryz.prog 105 [] [.agg [.v (.int .i64 x.ai),.sl false 2 (x.av.map (aI false)),.sl false 1 (x.ay.map AV.str),.str x.aN,.str x.aA],.v (.int .i64 r)] (.v (.int .i64 (dw x r))) [] (0<=r/\r<=1048576):=by
 refine Ctr.bd Tryz.func105 Tryz.ntmps105 rfl rfl fun hp=>?_
 refine AW.fact 0 fun hf=>?_
 simp (disch:=omega) only [go_sem,Nat.reduceBEq] at hf
 have le0:=bu eY mB x.av r
 have le1:=bu az aJ x.ay (aM eY x.av r)
 unfold dw
 ((refine vU ?_;with_reducible repeat' first|exact Le.l|apply Sw|intro h);all_goals simp only [thn,az,id];all_goals refine congrArg (fun z=>AV.v (.int .i64 z)) ?_;all_goals (repeat' split);all_goals omega)
instance SP(x:cL):Ctr lim Tryz.prog 118 [] [.agg [.v (.int .i64 x.ai),.sl false 2 (x.av.map (aI false)),.sl false 1 (x.ay.map AV.str),.str x.aN,.str x.aA]] (.agg [.v (.int .i64 x.ai),.sl true 2 (x.av.map (aI true)),.sl true 1 (x.ay.map AV.str),.str x.aN,.str x.aA]) [] True:=by
 refine Ctr.bd Tryz.func118 Tryz.ntmps118 rfl rfl fun hp=>?_
 all_goals exact uU
end
section
theorem ah.dM{x:ah}{l:List ah}(h:x∈l):SizeOf.sizeOf x.ag<SizeOf.sizeOf l:=by
 have:=List.sizeOf_lt_of_mem h
 cases x;simp [ah.ag] at *;omega
theorem Kn(L:Nat->Nat)[hL:Lok L](n:Nat)(ih:∀ l:List ah,Ctr L Tryz.prog 16 [] [.sl false 3 (l.map (ak false)),.sl false 3 (l.map (ak false))] (.v (.bool true)) [] (SizeOf.sizeOf l<n))(x:ah):Ctr L Tryz.prog 68 [] [.agg [.str x.af,.str x.ax,.sl false 3 (x.ag.map (ak false))],.agg [.str x.af,.str x.ax,.sl false 3 (x.ag.map (ak false))]] (.v (.bool true)) [] (SizeOf.sizeOf x.ag<n):=by
 refine Ctr.bd Tryz.func68 Tryz.ntmps68 rfl rfl fun hp=>?_
 all_goals exact uU
theorem AL(L:Nat->Nat)[hL:Lok L]:∀ (n:Nat) (l:List ah),Ctr L Tryz.prog 16 [] [.sl false 3 (l.map (ak false)),.sl false 3 (l.map (ak false))] (.v (.bool true)) [] (SizeOf.sizeOf l<n)
 | 0,l=>⟨(aW 16),fun h=>absurd h (Nat.not_lt_zero _)⟩
 | n+1,l=>by
  have hx:=Kn L n (AL L n)
  refine Ctr.bd Tryz.func16 Tryz.ntmps16 rfl rfl fun hp=>?_
  refine AW.fact 0 fun hf=>?_
  simp (disch:=omega) only [go_sem,Nat.reduceBEq] at hf
  have hf:=Nat.le_trans hf (hL.le 3)
  (refine vU ?_;with_reducible repeat' first|exact Le.l|apply Sw|intro h)
  refine AW.aw [5] [0,1] (fun m xs o=>∃ k:Nat,xs=[.v (.int .i64 k)]/\o=[]/\m=l.length - k/\k<=l.length) l.length [] trivial ⟨0,?_,rfl,rfl,?_⟩ ?_
  ·rfl
  ·omega
  rintro m xs o ⟨k,rfl,rfl,rfl,hk⟩
  have hkk:k<l.length->SizeOf.sizeOf (at_ l k).ag<n:=fun h=>by have:=ah.dM (at_mem h);omega
  (refine vU ?_;with_reducible repeat' first|exact Le.l|apply Sw|intro h)
  exact ⟨_,[_],[],by omega,⟨k+1,rfl,rfl,rfl,by omega⟩,rfl,trivial⟩
instance SH(L:Nat->Nat)[hL:Lok L](l:List ah):Ctr L Tryz.prog 16 [] [.sl false 3 (l.map (ak false)),.sl false 3 (l.map (ak false))] (.v (.bool true)) [] True:=⟨(aW 16),fun _=>(AL L (SizeOf.sizeOf l+1) l).out (Nat.lt_succ_self _)⟩
theorem Jh(L:Nat->Nat)[hL:Lok L](n:Nat)(ih:∀ (l:List ah) (r:Int),Ctr L Tryz.prog 25 [] [.sl false 3 (l.map (ak false)),.v (.int .i64 r)] (.v (.int .i64 (aM dA l r))) [] (SizeOf.sizeOf l<n/\0<=r/\r<=1048576))(x:ah)(r:Int):Ctr L Tryz.prog 79 [] [.agg [.str x.af,.str x.ax,.sl false 3 (x.ag.map (ak false))],.v (.int .i64 r)] (.v (.int .i64 (dA x r))) [] (SizeOf.sizeOf x.ag<n/\0<=r/\r<=1048576):=by
 refine Ctr.bd Tryz.func79 Tryz.ntmps79 rfl rfl fun hp=>?_
 refine AW.fact 0 fun hf=>?_
 simp (disch:=omega) only [go_sem,Nat.reduceBEq] at hf
 have le2:=bu dA gX x.ag ((r - x.af.length) - x.ax.length)
 rw [tE]
 ((refine vU ?_;with_reducible repeat' first|exact Le.l|apply Sw|intro h);all_goals simp only [thn,az,id];all_goals refine congrArg (fun z=>AV.v (.int .i64 z)) ?_;all_goals (repeat' split);all_goals omega)
theorem zV(L:Nat->Nat)[hL:Lok L]:∀ (n:Nat) (l:List ah) (r:Int),Ctr L Tryz.prog 25 [] [.sl false 3 (l.map (ak false)),.v (.int .i64 r)] (.v (.int .i64 (aM dA l r))) [] (SizeOf.sizeOf l<n/\0<=r/\r<=1048576)
 | 0,l,r=>⟨(aW 25),fun h=>absurd h.1 (Nat.not_lt_zero _)⟩
 | n+1,l,r=>by
  have hx:=Jh L n (zV L n)
  refine Ctr.bd Tryz.func25 Tryz.ntmps25 rfl rfl fun hp=>?_
  refine AW.fact 0 fun hf=>?_
  simp (disch:=omega) only [go_sem,Nat.reduceBEq] at hf
  have hf:=Nat.le_trans hf (hL.le 3)
  (refine vU ?_;with_reducible repeat' first|exact Le.l|apply Sw|intro h)
  ·rw [fe h]
  rw [fC h]
  refine AW.aw [1,5] [0] (fun m xs o=>∃ (k:Nat) (q:Int),xs=[.v (.int .i64 q),.v (.int .i64 k)]/\o=[]/\m=l.length - k/\k<=l.length/\0<=q/\q<=1048576/\dP dA (l.drop k) q=dP dA l (r - l.length)) l.length [] trivial ⟨0,_,?_,rfl,rfl,?_,?_,?_,rfl⟩ ?_
  ·rfl
  ·omega
  ·omega
  ·omega
  rintro m xs o ⟨k,q,rfl,rfl,rfl,hk,h0,h1,hR⟩
  have hle:=gX (at_ l k) q h0
  have hkk:k<l.length->SizeOf.sizeOf (at_ l k).ag<n:=fun h=>by have:=ah.dM (at_mem h);omega
  (refine vU ?_;with_reducible repeat' first|exact Le.l|apply Sw|intro h)
  ·rw [fw (by assumption),if_pos (by first|exact h|(rw [hsz];exact h))] at hR;rw [hR]
  ·rw [fw (by assumption),if_neg (by omega)] at hR
   exact ⟨_,[_,_],[],by omega,⟨k+1,_,rfl,rfl,rfl,by omega,by omega,by omega,hR⟩,rfl,trivial⟩
  ·rw [jv h] at hR;rw [hR]
instance RZ(L:Nat->Nat)[hL:Lok L](l:List ah)(r:Int):Ctr L Tryz.prog 25 [] [.sl false 3 (l.map (ak false)),.v (.int .i64 r)] (.v (.int .i64 (aM dA l r))) [] (0<=r/\r<=1048576):=⟨(aW 25),fun h=>(zV L (SizeOf.sizeOf l+1) l r).out ⟨Nat.lt_succ_self _,h⟩⟩
theorem Jc(n:Nat)(ih:∀ l:List ah,Ctr lim Tryz.prog 27 [] [.sl false 3 (l.map (ak false))] (.sl true 3 (l.map (ak true))) [] (SizeOf.sizeOf l<n))(x:ah):Ctr lim Tryz.prog 86 [] [.agg [.str x.af,.str x.ax,.sl false 3 (x.ag.map (ak false))]] (.agg [.str x.af,.str x.ax,.sl true 3 (x.ag.map (ak true))]) [] (SizeOf.sizeOf x.ag<n):=by
 refine Ctr.bd Tryz.func86 Tryz.ntmps86 rfl rfl fun hp=>?_
 all_goals exact uU
theorem zR:∀ (n:Nat) (l:List ah),Ctr lim Tryz.prog 27 [] [.sl false 3 (l.map (ak false))] (.sl true 3 (l.map (ak true))) [] (SizeOf.sizeOf l<n)
 | 0,l=>⟨(aW 27),fun h=>absurd h (Nat.not_lt_zero _)⟩
 | n+1,l=>by
  have hx:=Jc n (zR n)
  refine Ctr.bd Tryz.func27 Tryz.ntmps27 rfl rfl fun hp=>?_
  refine AW.fact 0 fun hf=>?_
  simp (disch:=omega) only [go_sem,Nat.reduceBEq] at hf
  (refine vU ?_;with_reducible repeat' first|exact Le.l|apply Sw|intro h)
  refine AW.aw [4] [0,3] (fun m xs o=>∃ k:Nat,xs=[.v (.int .i64 k)]/\o=[(h,some (mkC (ak true) [.string ⟨#[]⟩,.string ⟨#[]⟩,.slice none 0 0] l k))]/\m=l.length - k/\k<=l.length) l.length [(h,some (mkC (ak true) [.string ⟨#[]⟩,.string ⟨#[]⟩,.slice none 0 0] l 0))] (aE (iK _ _ _)) ⟨0,?_,rfl,rfl,?_⟩ ?_
  ·rfl
  ·omega
  rintro m xs o ⟨k,rfl,rfl,rfl,hk⟩
  have hml:=jJ (ak true) [.string ⟨#[]⟩,.string ⟨#[]⟩,.slice none 0 0] 3 (fun x=>by rw [cH];rfl) rfl l k hk
  have hkk:k<l.length->SizeOf.sizeOf (at_ l k).ag<n:=fun h=>by have:=ah.dM (at_mem h);omega
  (refine vX ?_;with_reducible repeat' first|exact Le.l|apply Sw|intro h)
  ·exact ⟨_,[_],_,by omega,⟨k+1,rfl,rfl,rfl,by omega⟩,rfl,aE (by have:=kN (ak true) [.string ⟨#[]⟩,.string ⟨#[]⟩,.slice none 0 0] 3 (fun x=>by rw [cH];rfl) rfl l k h;simp only [go_sem,Nat.mul_one] at this ⊢;exact this.symm)⟩
  ·refine AW.made 2 rfl h hk (fun x=>by rw [cH];rfl) ?_
   all_goals exact uU
instance RU(l:List ah):Ctr lim Tryz.prog 27 [] [.sl false 3 (l.map (ak false))] (.sl true 3 (l.map (ak true))) [] True:=⟨(aW 27),fun _=>(zR (SizeOf.sizeOf l+1) l).out (Nat.lt_succ_self _)⟩
instance SG(L:Nat->Nat)[hL:Lok L](x:bh):Ctr L Tryz.prog 259 [] [.agg [.str x.af,.v (.int .i64 x.fType.ai),.sl false 2 (x.fType.av.map (aI false)),.sl false 1 (x.fType.ay.map AV.str),.str x.fType.aN,.str x.fType.aA],.agg [.str x.af,.v (.int .i64 x.fType.ai),.sl false 2 (x.fType.av.map (aI false)),.sl false 1 (x.fType.ay.map AV.str),.str x.fType.aN,.str x.fType.aA]] (.v (.bool true)) [] True:=by
 refine Ctr.bd Tryz.func259 Tryz.ntmps259 rfl rfl fun hp=>?_
 all_goals exact uU
instance Rk(L:Nat->Nat)[hL:Lok L](l:List bh):Ctr L Tryz.prog 202 [] [.sl false 6 (l.map (aV false)),.sl false 6 (l.map (aV false))] (.v (.bool true)) [] True:=by
 refine Ctr.bd Tryz.func202 Tryz.ntmps202 rfl rfl fun hp=>?_
 refine AW.fact 0 fun hf=>?_
 simp (disch:=omega) only [go_sem,Nat.reduceBEq] at hf
 have hf:=Nat.le_trans hf (hL.le 6)
 (refine vU ?_;with_reducible repeat' first|exact Le.l|apply Sw|intro h)
 refine AW.aw [5] [0,1] (fun m xs o=>∃ k:Nat,xs=[.v (.int .i64 k)]/\o=[]/\m=l.length - k/\k<=l.length) l.length [] trivial ⟨0,?_,rfl,rfl,?_⟩ ?_
 ·rfl
 ·omega
 rintro m xs o ⟨k,rfl,rfl,rfl,hk⟩
 (refine vU ?_;with_reducible repeat' first|exact Le.l|apply Sw|intro h)
 exact ⟨_,[_],[],by omega,⟨k+1,rfl,rfl,rfl,by omega⟩,rfl,trivial⟩
instance RY(L:Nat->Nat)[hL:Lok L](x:bh)(r:Int):Ctr L Tryz.prog 221 [] [.agg [.str x.af,.v (.int .i64 x.fType.ai),.sl false 2 (x.fType.av.map (aI false)),.sl false 1 (x.fType.ay.map AV.str),.str x.fType.aN,.str x.fType.aA],.v (.int .i64 r)] (.v (.int .i64 (eZ x r))) [] (0<=r/\r<=1048576):=by
 refine Ctr.bd Tryz.func221 Tryz.ntmps221 rfl rfl fun hp=>?_
 refine AW.fact 0 fun hf=>?_
 simp (disch:=omega) only [go_sem,Nat.reduceBEq] at hf
 have le1:=ku x.fType (r - x.af.length)
 unfold eZ
 ((refine vU ?_;with_reducible repeat' first|exact Le.l|apply Sw|intro h);all_goals simp only [thn,az,id];all_goals refine congrArg (fun z=>AV.v (.int .i64 z)) ?_;all_goals (repeat' split);all_goals omega)
instance Qp(L:Nat->Nat)[hL:Lok L](l:List bh)(r:Int):Ctr L Tryz.prog 161 [] [.sl false 6 (l.map (aV false)),.v (.int .i64 r)] (.v (.int .i64 (aM eZ l r))) [] (0<=r/\r<=1048576):=by
 refine Ctr.bd Tryz.func161 Tryz.ntmps161 rfl rfl fun hp=>?_
 refine AW.fact 0 fun hf=>?_
 simp (disch:=omega) only [go_sem,Nat.reduceBEq] at hf
 have hf:=Nat.le_trans hf (hL.le 6)
 (refine vU ?_;with_reducible repeat' first|exact Le.l|apply Sw|intro h)
 ·rw [fe h]
 rw [fC h]
 refine AW.aw [1,5] [0] (fun m xs o=>∃ (k:Nat) (q:Int),xs=[.v (.int .i64 q),.v (.int .i64 k)]/\o=[]/\m=l.length - k/\k<=l.length/\0<=q/\q<=1048576/\dP eZ (l.drop k) q=dP eZ l (r - l.length)) l.length [] trivial ⟨0,_,?_,rfl,rfl,?_,?_,?_,rfl⟩ ?_
 ·rfl
 ·omega
 ·omega
 ·omega
 rintro m xs o ⟨k,q,rfl,rfl,rfl,hk,h0,h1,hR⟩
 have hle:=jO (at_ l k) q h0
 (refine vU ?_;with_reducible repeat' first|exact Le.l|apply Sw|intro h)
 ·rw [fw (by assumption),if_pos (by first|exact h|(rw [hsz];exact h))] at hR;rw [hR]
 ·rw [fw (by assumption),if_neg (by omega)] at hR
  exact ⟨_,[_,_],[],by omega,⟨k+1,_,rfl,rfl,rfl,by omega,by omega,by omega,hR⟩,rfl,trivial⟩
 ·rw [jv h] at hR;rw [hR]
instance RT(x:bh):Ctr lim Tryz.prog 237 [] [.agg [.str x.af,.v (.int .i64 x.fType.ai),.sl false 2 (x.fType.av.map (aI false)),.sl false 1 (x.fType.ay.map AV.str),.str x.fType.aN,.str x.fType.aA]] (.agg [.str x.af,.v (.int .i64 x.fType.ai),.sl true 2 (x.fType.av.map (aI true)),.sl true 1 (x.fType.ay.map AV.str),.str x.fType.aN,.str x.fType.aA]) [] True:=by
 refine Ctr.bd Tryz.func237 Tryz.ntmps237 rfl rfl fun hp=>?_
 all_goals exact uU
instance Qh(l:List bh):Ctr lim Tryz.prog 181 [] [.sl false 6 (l.map (aV false))] (.sl true 6 (l.map (aV true))) [] True:=by
 refine Ctr.bd Tryz.func181 Tryz.ntmps181 rfl rfl fun hp=>?_
 refine AW.fact 0 fun hf=>?_
 simp (disch:=omega) only [go_sem,Nat.reduceBEq] at hf
 (refine vU ?_;with_reducible repeat' first|exact Le.l|apply Sw|intro h)
 refine AW.aw [4] [0,3] (fun m xs o=>∃ k:Nat,xs=[.v (.int .i64 k)]/\o=[(h,some (mkC (aV true) [.string ⟨#[]⟩,.int .i64 0,.slice none 0 0,.slice none 0 0,.string ⟨#[]⟩,.string ⟨#[]⟩] l k))]/\m=l.length - k/\k<=l.length) l.length [(h,some (mkC (aV true) [.string ⟨#[]⟩,.int .i64 0,.slice none 0 0,.slice none 0 0,.string ⟨#[]⟩,.string ⟨#[]⟩] l 0))] (aE (iK _ _ _)) ⟨0,?_,rfl,rfl,?_⟩ ?_
 ·rfl
 ·omega
 rintro m xs o ⟨k,rfl,rfl,rfl,hk⟩
 have hml:=jJ (aV true) [.string ⟨#[]⟩,.int .i64 0,.slice none 0 0,.slice none 0 0,.string ⟨#[]⟩,.string ⟨#[]⟩] 6 (fun _=>rfl) rfl l k hk
 (refine vX ?_;with_reducible repeat' first|exact Le.l|apply Sw|intro h)
 ·exact ⟨_,[_],_,by omega,⟨k+1,rfl,rfl,rfl,by omega⟩,rfl,aE (by have:=kN (aV true) [.string ⟨#[]⟩,.int .i64 0,.slice none 0 0,.slice none 0 0,.string ⟨#[]⟩,.string ⟨#[]⟩] 6 (fun _=>rfl) rfl l k h;simp only [go_sem,Nat.mul_one] at this ⊢;exact this.symm)⟩
 ·refine AW.made 2 rfl h hk (fun _=>rfl) ?_
  all_goals exact uU
instance Pf(L:Nat->Nat)[hL:Lok L](x:aL):Ctr L Tryz.prog 133 [] [.agg [.str x.af,.sl false 6 (x.aC.map (aV false)),.sl false 3 (x.cD.map (ak false))],.agg [.str x.af,.sl false 6 (x.aC.map (aV false)),.sl false 3 (x.cD.map (ak false))]] (.v (.bool true)) [] True:=by
 refine Ctr.bd Tryz.func133 Tryz.ntmps133 rfl rfl fun hp=>?_
 all_goals exact uU
instance Nj(L:Nat->Nat)[hL:Lok L](l:List aL):Ctr L Tryz.prog 69 [] [.sl false 3 (l.map (aQ false)),.sl false 3 (l.map (aQ false))] (.v (.bool true)) [] True:=by
 refine Ctr.bd Tryz.func69 Tryz.ntmps69 rfl rfl fun hp=>?_
 refine AW.fact 0 fun hf=>?_
 simp (disch:=omega) only [go_sem,Nat.reduceBEq] at hf
 have hf:=Nat.le_trans hf (hL.le 3)
 (refine vU ?_;with_reducible repeat' first|exact Le.l|apply Sw|intro h)
 refine AW.aw [5] [0,1] (fun m xs o=>∃ k:Nat,xs=[.v (.int .i64 k)]/\o=[]/\m=l.length - k/\k<=l.length) l.length [] trivial ⟨0,?_,rfl,rfl,?_⟩ ?_
 ·rfl
 ·omega
 rintro m xs o ⟨k,rfl,rfl,rfl,hk⟩
 (refine vU ?_;with_reducible repeat' first|exact Le.l|apply Sw|intro h)
 exact ⟨_,[_],[],by omega,⟨k+1,rfl,rfl,rfl,by omega⟩,rfl,trivial⟩
instance Nv(L:Nat->Nat)[hL:Lok L](x:aL)(r:Int):Ctr L Tryz.prog 104 [] [.agg [.str x.af,.sl false 6 (x.aC.map (aV false)),.sl false 3 (x.cD.map (ak false))],.v (.int .i64 r)] (.v (.int .i64 (dh x r))) [] (0<=r/\r<=1048576):=by
 refine Ctr.bd Tryz.func104 Tryz.ntmps104 rfl rfl fun hp=>?_
 refine AW.fact 0 fun hf=>?_
 simp (disch:=omega) only [go_sem,Nat.reduceBEq] at hf
 have le1:=bu eZ jO x.aC (r - x.af.length)
 have le2:=bu dA gX x.cD (aM eZ x.aC (r - x.af.length))
 unfold dh
 ((refine vU ?_;with_reducible repeat' first|exact Le.l|apply Sw|intro h);all_goals simp only [thn,az,id];all_goals refine congrArg (fun z=>AV.v (.int .i64 z)) ?_;all_goals (repeat' split);all_goals omega)
instance M8(L:Nat->Nat)[hL:Lok L](l:List aL)(r:Int):Ctr L Tryz.prog 52 [] [.sl false 3 (l.map (aQ false)),.v (.int .i64 r)] (.v (.int .i64 (aM dh l r))) [] (0<=r/\r<=1048576):=by
 refine Ctr.bd Tryz.func52 Tryz.ntmps52 rfl rfl fun hp=>?_
 refine AW.fact 0 fun hf=>?_
 simp (disch:=omega) only [go_sem,Nat.reduceBEq] at hf
 have hf:=Nat.le_trans hf (hL.le 3)
 (refine vU ?_;with_reducible repeat' first|exact Le.l|apply Sw|intro h)
 ·rw [fe h]
 rw [fC h]
 refine AW.aw [1,5] [0] (fun m xs o=>∃ (k:Nat) (q:Int),xs=[.v (.int .i64 q),.v (.int .i64 k)]/\o=[]/\m=l.length - k/\k<=l.length/\0<=q/\q<=1048576/\dP dh (l.drop k) q=dP dh l (r - l.length)) l.length [] trivial ⟨0,_,?_,rfl,rfl,?_,?_,?_,rfl⟩ ?_
 ·rfl
 ·omega
 ·omega
 ·omega
 rintro m xs o ⟨k,q,rfl,rfl,rfl,hk,h0,h1,hR⟩
 have hle:=ic (at_ l k) q h0
 (refine vU ?_;with_reducible repeat' first|exact Le.l|apply Sw|intro h)
 ·rw [fw (by assumption),if_pos (by first|exact h|(rw [hsz];exact h))] at hR;rw [hR]
 ·rw [fw (by assumption),if_neg (by omega)] at hR
  exact ⟨_,[_,_],[],by omega,⟨k+1,_,rfl,rfl,rfl,by omega,by omega,by omega,hR⟩,rfl,trivial⟩
 ·rw [jv h] at hR;rw [hR]
instance Nr(x:aL):Ctr lim Tryz.prog 117 [] [.agg [.str x.af,.sl false 6 (x.aC.map (aV false)),.sl false 3 (x.cD.map (ak false))]] (.agg [.str x.af,.sl true 6 (x.aC.map (aV true)),.sl true 3 (x.cD.map (ak true))]) [] True:=by
 refine Ctr.bd Tryz.func117 Tryz.ntmps117 rfl rfl fun hp=>?_
 all_goals exact uU
instance M7(l:List aL):Ctr lim Tryz.prog 60 [] [.sl false 3 (l.map (aQ false))] (.sl true 3 (l.map (aQ true))) [] True:=by
 refine Ctr.bd Tryz.func60 Tryz.ntmps60 rfl rfl fun hp=>?_
 refine AW.fact 0 fun hf=>?_
 simp (disch:=omega) only [go_sem,Nat.reduceBEq] at hf
 (refine vU ?_;with_reducible repeat' first|exact Le.l|apply Sw|intro h)
 refine AW.aw [4] [0,3] (fun m xs o=>∃ k:Nat,xs=[.v (.int .i64 k)]/\o=[(h,some (mkC (aQ true) [.string ⟨#[]⟩,.slice none 0 0,.slice none 0 0] l k))]/\m=l.length - k/\k<=l.length) l.length [(h,some (mkC (aQ true) [.string ⟨#[]⟩,.slice none 0 0,.slice none 0 0] l 0))] (aE (iK _ _ _)) ⟨0,?_,rfl,rfl,?_⟩ ?_
 ·rfl
 ·omega
 rintro m xs o ⟨k,rfl,rfl,rfl,hk⟩
 have hml:=jJ (aQ true) [.string ⟨#[]⟩,.slice none 0 0,.slice none 0 0] 3 (fun _=>rfl) rfl l k hk
 (refine vX ?_;with_reducible repeat' first|exact Le.l|apply Sw|intro h)
 ·exact ⟨_,[_],_,by omega,⟨k+1,rfl,rfl,rfl,by omega⟩,rfl,aE (by have:=kN (aQ true) [.string ⟨#[]⟩,.slice none 0 0,.slice none 0 0] 3 (fun _=>rfl) rfl l k h;simp only [go_sem,Nat.mul_one] at this ⊢;exact this.symm)⟩
 ·refine AW.made 2 rfl h hk (fun _=>rfl) ?_
  all_goals exact uU
end
end Go.Proofs
namespace Go.Ab
end Go.Ab
namespace Go.Proofs
open Go.Ab Go.Dt
attribute [go_sem] tj eH
instance Sp(x:cL):Ctr lim Tryz.prog 184 [] [.agg [.v (.int .i64 x.ai),.sl false 2 (x.av.map (aI false)),.sl false 1 (x.ay.map AV.str),.str x.aN,.str x.aA]] (.v (.bool (isType dB x))) [] True:=Im dB x
instance R4(x:cL):Ctr lim Tryz.prog 165 [] [.agg [.v (.int .i64 x.ai),.sl false 2 (x.av.map (aI false)),.sl false 1 (x.ay.map AV.str),.str x.aN,.str x.aA]] (.v (.bool (isType dB x))) [] True:=Ht dB x
instance Nh(x:aL):Ctr lim Tryz.prog 123 [] [.agg [.str x.af,.sl false 6 (x.aC.map (aV false)),.sl false 3 (x.cD.map (ak false))]] (.v (.bool (di dB x))) [] (wt x.cD<=1048576/\x.aC.length<=1048576):=Bo dB x
instance M9(x:aL):Ctr lim Tryz.prog 108 [] [.agg [.str x.af,.sl false 6 (x.aC.map (aV false)),.sl false 3 (x.cD.map (ak false))]] (.v (.bool (di dB x))) [] (wt x.cD<=1048576/\x.aC.length<=1048576):=Bg dB x
end Go.Proofs
namespace Go.Dt
open Go.Ab
def cvB(x:cL)(s:Str):Bool:=isType dB x && cvO F8 x s
def cvS(x:cL)(s:Str):Str:=bif cvB x s then cvT x s else []
theorem BI{x:cL}{s:Str}(h:cvB x s=false):AV.tup [.str [],.v (.bool false)]=.tup [.str (cvS x s),.v (.bool (cvB x s))]:=by rw [cvS,h];rfl
theorem DE{x:cL}{s t:Str}(h:cvB x s=true)(e:cvT x s=t):AV.tup [.str t,.v (.bool true)]=.tup [.str (cvS x s),.v (.bool (cvB x s))]:=by rw [cvS,h,<- e];rfl
theorem IL{l:List Str}{k:Nat}{s:Str}(h:k<l.length):(cont (l.take k) s || at_ l k == s)=cont (l.take (k+1)) s:=by
 have e:l.take (k+1)=l.take k++[at_ l k]:=by
  rw [List.take_succ_eq_append_getElem h]
  unfold at_;rw [List.getElem?_eq_getElem h];rfl
 rw [Bool.eq_iff_iff,Bool.or_eq_true,iR,iR,e]
 rw [List.mem_append,List.mem_singleton,beq_iff_eq,eq_comm (a:=at_ l k)]
end Go.Dt
namespace Go.Proofs
open Go.Ab Go.Dt
instance Ni(x:cL)(s:Str):Ctr lim Tryz.prog 128 [] [.agg [.v (.int .i64 x.ai),.sl false 2 (x.av.map (aI false)),.sl false 1 (x.ay.map AV.str),.str x.aN,.str x.aA],.str s] (.tup [.str (cvS x s),.v (.bool (cvB x s))]) [] (s.length<=1048576):=by
 have hr:=uK s
 refine Ctr.bd Tryz.func128 Tryz.ntmps128 rfl rfl fun hp=>?_
 (repeat' first|(with_reducible first|refine Z ?_|refine Y ?_|(refine hK _ _ ?_;clear hK K)|refine And.intro ?_ ?_|exact Ct|intro (K:_->_->Prop) hK|(refine gI fun hg=>?_;try simp only [hC,reduceCtorEq] at hg;try simp only [hg]))|(refine AW.i rfl (fun h=>?_) (fun h=>?_)<;>try simp only [hC,reduceCtorEq] at h)|((with_reducible refine E ?_;repeat refine Y ?_);refine eF rfl ?_)|simp (disch:=omega) only [go_sem,cond_true]|(with_reducible intro hg;try simp only [hC,reduceCtorEq] at hg)|exact Cl|fail)
 all_goals try first|(refine BI ?_;simp_all [cvB,cvO,qx,rL,pI];done)|(refine DE ?_ ?_<;>simp_all [cvB,cvO,cvT,qx,rL,pI];done)
instance Nb(x:cL)(s:Str):Ctr lim Tryz.prog 111 [] [.agg [.v (.int .i64 x.ai),.sl false 2 (x.av.map (aI false)),.sl false 1 (x.ay.map AV.str),.str x.aN,.str x.aA],.str s] (.tup [.str (cvS x s),.v (.bool (cvB x s))]) [] (s.length<=1048576):=by
 have hr:=uK s
 refine Ctr.bd Tryz.func111 Tryz.ntmps111 rfl rfl fun hp=>?_
 (repeat' first|(with_reducible first|refine Z ?_|refine Y ?_|(refine hK _ _ ?_;clear hK K)|refine And.intro ?_ ?_|exact Ct|intro (K:_->_->Prop) hK|(refine gI fun hg=>?_;try simp only [hC,reduceCtorEq] at hg;try simp only [hg]))|(refine AW.i rfl (fun h=>?_) (fun h=>?_)<;>try simp only [hC,reduceCtorEq] at h)|((with_reducible refine E ?_;repeat refine Y ?_);refine eF rfl ?_)|simp (disch:=omega) only [go_sem,cond_true]|(with_reducible intro hg;try simp only [hC,reduceCtorEq] at hg)|exact Cl|fail)
 all_goals try first|(refine BI ?_;cases e:isType dB x<;>simp_all [cvB,cvO,qx,rL,pI];done)|(refine DE ?_ ?_<;>simp_all [cvB,cvO,cvT,qx,rL,pI];done)
 refine AW.fact 0 fun hf=>?_
 simp (disch:=omega) only [go_sem,Nat.reduceBEq] at hf
 refine AW.aw [7,10] [1,2,6] (fun m xs o=>∃ k:Nat,xs=[.v (.bool (cont (x.ay.take k) s)),.v (.int .i64 k)]/\o=[]/\m=x.ay.length - k/\k<=x.ay.length) x.ay.length [] trivial ⟨0,?_,rfl,rfl,?_⟩ ?_
 ·rfl
 ·omega
 rintro m xs o ⟨k,rfl,rfl,rfl,hk⟩
 (repeat' first|(with_reducible first|refine Z ?_|refine Y ?_|(refine hK _ _ ?_;clear hK K)|refine And.intro ?_ ?_|exact Ct|intro (K:_->_->Prop) hK|(refine gI fun hg=>?_;try simp only [hC,reduceCtorEq] at hg;try simp only [hg]))|(refine AW.i rfl (fun h=>?_) (fun h=>?_)<;>try simp only [hC,reduceCtorEq] at h)|((with_reducible refine E ?_;repeat refine Y ?_);refine eF rfl ?_)|simp (disch:=omega) only [go_sem,cond_true]|(with_reducible intro hg;try simp only [hC,reduceCtorEq] at hg)|exact Cl|fail)
 ·exact ⟨_,[_,_],[],by omega,⟨k+1,rfl,rfl,rfl,by omega⟩,by rw [IL (by assumption)];rfl,trivial⟩
 ·rw [List.take_of_length_le (by omega)] at h
  refine BI ?_
  cases e:isType dB x<;>simp_all [cvB,cvO]
 ·rw [List.take_of_length_le (by omega)] at h
  refine DE ?_ ?_<;>simp_all [cvB,cvO,cvT]
 ·refine BI ?_
  cases e:isType dB x<;>by_cases e2:s=[]<;>simp_all [cvB,cvO]
end Go.Proofs
namespace Go.Dt
open Go Go.Ab
def isVal(x:cL)(s:Str):Bool:=cvB x s && cvS x s == s
end Go.Dt
