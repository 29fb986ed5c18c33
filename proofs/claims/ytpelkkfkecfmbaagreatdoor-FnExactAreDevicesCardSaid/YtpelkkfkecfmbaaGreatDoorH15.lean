/- Part of a proof. -/
import Derived.Test.YtpelkkfkecfmbaaGreatDoorH13
import Derived.Test.YtpelkkfkecfmbaaGreatDoorH14
set_option linter.all false
set_option maxRecDepth 20000
set_option maxHeartbeats 4000000
open Go.Proofs.Tryz
namespace Go.Proofs
open Go.Ab Go.Dt
section
variable {H : Type} {enc : TypeId × Value -> H} {W : World}
def gh(z:Nat):reachBytes<=gE z:=by have:=reachBytes_lt;unfold gE;omega
instance:Inhabited Dt.da:=⟨0,0⟩
def vk(x:Dt.da):List AV:=[.v (.int .i64 x.fLo),.v (.int .i64 x.fHi)]
def Sh{L:eaa}:fe L W vk (bh false) 2:=by
 have:bh false=fun x=>.agg (vk x):=by funext x;simp only [go_sem,vk]
 rw [this];exact fe.agg fun _=>rfl
def Sp(n:Nat):aN enc prog W gE n 211 vk (fun _=>True):=by
 refine aN.mono (n:=n+1+1) ?_ Ir
 exact aN.struct (P:=prog) (t:=211) (fl:=[(3,0,1),(3,1,1)]) (tot:=2) LQ
   (aS.cons (aN.int (k:=.i64) LQ) (aS.cons (aN.int (k:=.i64) LQ) aS.nil))
   (fun p=>⟨p.1,p.2.1⟩) (fun p _=>⟨trivial,rfl⟩)
def Qd(x:Dt.da)(r:Int)(h0:0<=r)(h1:r<=1048576)(h:0<=gU x r):(bh false x).fits lim:=by simp only [bh,AV.fits,AV.dH];exact ⟨trivial,trivial,trivial⟩
instance:Inhabited Dt.cT:=⟨0,[],[],[],[]⟩
def TS(x:Dt.cT):List AV:=[.v (.int .i64 x.aj),.sl false 2 (x.aP.map (bh false)),.sl false 1 (x.aF.map AV.str),.str x.ba,.str x.az]
def Vi(n:Nat):aN enc prog W gE n 86 TS (fun _=>True):=by
 refine aN.mono (n:=n+1+1) ?_ Ir
 exact aN.struct (P:=prog) (t:=86) (fl:=[(3,0,1),(83,1,1),(84,2,1),(9,3,1),(9,4,1)]) (tot:=5) LQ
   (aS.cons (aN.int (k:=.i64) LQ) (aS.cons (aN.slice (e:=211) (bytes:=16) LQ baa baa (gh _) Sh (Sp n)) (aS.cons (aN.slice (e:=9) (bytes:=16) LQ baa baa (gh _) fe.str (aN.str LQ)) (aS.cons (aN.str LQ) (aS.cons (aN.str LQ) aS.nil)))))
   (fun p=>⟨p.1,p.2.1,p.2.2.1,p.2.2.2.1,p.2.2.2.2.1⟩) (fun p _=>⟨trivial,rfl⟩)
def TD(x:Dt.cT)(r:Int)(h0:0<=r)(h1:r<=1048576)(h:0<=eE x r):(CR false x).fits lim:=by
 unfold eE at h;obtain ⟨a0,h⟩:=bQ h;have l0:=bu gU pZ x.aP r h0;obtain ⟨a1,h⟩:=bQ h;have l1:=bu aI bE x.aF (aQ gU x.aP r) a0;obtain ⟨a2,h⟩:=bQ h;have l2:=bE x.ba (aQ aI x.aF (aQ gU x.aP r)) a1;obtain ⟨a3,h⟩:=bQ h;have l3:=bE x.az (aI x.ba (aQ aI x.aF (aQ gU x.aP r))) a2
 have z0:(AV.sl false 2 (x.aP.map (bh false))).fits lim:=fc (f:=gU) pZ x.aP r h0 Ir a0 (fun y hy r' p q s=>Qd y r' p q s)
 have z1:(AV.sl false 1 (x.aF.map AV.str)).fits lim:=fc (f:=aI) bE x.aF (aQ gU x.aP r) a0 Ir a1 (fun _ _ _ _ _ _=>trivial);simp only [AV.fits,AV.dH] at z0 z1;simp only [CR,AV.fits,AV.dH];exact ⟨trivial,z0,z1,trivial,trivial,trivial⟩
instance:Inhabited Dt.cu:=⟨[],[]⟩
def yf(x:Dt.cu):List AV:=[.str x.ag,.str x.ax]
def Vg{L:eaa}:fe L W yf (ct false) 2:=by
 have:ct false=fun x=>.agg (yf x):=by funext x;simp only [go_sem,yf]
 rw [this];exact fe.agg fun _=>rfl
def Vj(n:Nat):aN enc prog W gE n 325 yf (fun _=>True):=by
 refine aN.mono (n:=n+1+1) ?_ Ir
 exact aN.struct (P:=prog) (t:=325) (fl:=[(9,0,1),(9,1,1)]) (tot:=2) LQ
   (aS.cons (aN.str LQ) (aS.cons (aN.str LQ) aS.nil))
   (fun p=>⟨p.1,p.2.1⟩) (fun p _=>⟨trivial,rfl⟩)
def TE(x:Dt.cu)(r:Int)(h0:0<=r)(h1:r<=1048576)(h:0<=jQ x r):(ct false x).fits lim:=by unfold jQ at h;obtain ⟨a0,h⟩:=bQ h;have l0:=bE x.ag r h0;obtain ⟨a1,h⟩:=bQ h;have l1:=bE x.ax (aI x.ag r) a0;simp only [ct,AV.fits,AV.dH];exact ⟨trivial,trivial,trivial⟩
instance:Inhabited Dt.GStep:=⟨[],[]⟩
def yg(x:Dt.GStep):List AV:=[.str x.ag,.sl false 2 (x.aT.map (ct false))]
def Vh{L:eaa}:fe L W yg (aA false) 2:=by
 have:aA false=fun x=>.agg (yg x):=by funext x;simp only [go_sem,yg]
 rw [this];exact fe.agg fun _=>rfl
def Vk(n:Nat):aN enc prog W gE n 275 yg (fun _=>True):=by
 refine aN.mono (n:=n+1+1) ?_ Ir
 exact aN.struct (P:=prog) (t:=275) (fl:=[(9,0,1),(273,1,1)]) (tot:=2) LQ
   (aS.cons (aN.str LQ) (aS.cons (aN.slice (e:=325) (bytes:=32) LQ baa baa (gh _) Vg (Vj n)) aS.nil))
   (fun p=>⟨p.1,p.2.1⟩) (fun p _=>⟨trivial,rfl⟩)
def TF(x:Dt.GStep)(r:Int)(h0:0<=r)(h1:r<=1048576)(h:0<=jS x r):(aA false x).fits lim:=by
 unfold jS at h;obtain ⟨a0,h⟩:=bQ h;have l0:=bE x.ag r h0;obtain ⟨a1,h⟩:=bQ h;have l1:=bu jQ oP x.aT (aI x.ag r) a0
 have z1:(AV.sl false 2 (x.aT.map (ct false))).fits lim:=fc (f:=jQ) oP x.aT (aI x.ag r) a0 Ir a1 (fun y hy r' p q s=>TE y r' p q s);simp only [AV.fits,AV.dH] at z1;simp only [aA,AV.fits,AV.dH];exact ⟨trivial,z1,trivial⟩
instance:Inhabited Dt.bP:=⟨false,0,[]⟩
def TT(x:Dt.bP):List AV:=[.v (.bool x.bR),.v (.int .i64 x.bG),.sl false 2 (x.av.map (aA false))]
def Vl(n:Nat):aN enc prog W gE n 171 TT (fun _=>True):=by
 refine aN.mono (n:=n+1+1) ?_ Ir
 exact aN.struct (P:=prog) (t:=171) (fl:=[(4,0,1),(3,1,1),(169,2,1)]) (tot:=3) LQ
   (aS.cons (aN.bool LQ) (aS.cons (aN.int (k:=.i64) LQ) (aS.cons (aN.slice (e:=275) (bytes:=40) LQ baa baa (gh _) Vh (Vk n)) aS.nil)))
   (fun p=>⟨p.1,p.2.1,p.2.2.1⟩) (fun p _=>⟨trivial,rfl⟩)
def TG(x:Dt.bP)(r:Int)(h0:0<=r)(h1:r<=1048576)(h:0<=mA x r):(cH false x).fits lim:=by
 unfold mA at h;obtain ⟨a0,h⟩:=bQ h;have l0:=bu jS oQ x.av r h0
 have z0:(AV.sl false 2 (x.av.map (aA false))).fits lim:=fc (f:=jS) oQ x.av r h0 Ir a0 (fun y hy r' p q s=>TF y r' p q s);simp only [AV.fits,AV.dH] at z0;simp only [cH,AV.fits,AV.dH];exact ⟨trivial,trivial,z0,trivial⟩
instance:Inhabited Dt.aB:=⟨.mk 0 0 [] default []⟩
def yj(x:Dt.aB):List AV:=[.v (.int .i64 x.fOp),.v (.int .i64 x.dn),.str x.bI,.v (.bool x.az.bR),.v (.int .i64 x.az.bG),.sl false 2 (x.az.av.map (aA false)),.sl false 7 (x.af.map (aO false))]
def FK{L:eaa}:fe L W yj (aO false) 7:=by
 have:aO false=fun x=>.agg (yj x):=by funext x;simp only [go_sem,yj]
 rw [this];exact fe.agg fun _=>rfl
def MO(n:Nat):aN enc prog W gE n 173 yj (fun _=>True):=by
 induction n with
 | zero=>exact aN.zero
 | succ n ih =>
  refine aN.mono (n:=n+1+1) ?_ Ir
  exact aN.struct (P:=prog) (t:=173) (fl:=[(3,0,1),(3,1,1),(9,2,1),(171,3,3),(87,6,1)]) (tot:=7) LQ
   (aS.cons (aN.int (k:=.i64) LQ) (aS.cons (aN.int (k:=.i64) LQ) (aS.cons (aN.str LQ) (aS.cons (Vl _) (aS.cons (aN.slice (e:=173) (bytes:=96) LQ baa baa (gh _) FK ih) aS.nil)))))
   (fun p=>.mk p.1 p.2.1 p.2.2.1 p.2.2.2.1 p.2.2.2.2.1) (fun p _=>⟨trivial,rfl⟩)
def JO(x:Dt.aB)(r:Int)(h0:0<=r)(h1:r<=1048576)(h:0<=cI x r):(aO false x).fits lim:=by
 induction hs:SizeOf.sizeOf x using Nat.strongRecOn generalizing x r with
 | _ n ih =>
  rw [Df] at h;obtain ⟨a0,h⟩:=bQ h;have l0:=bE x.bI r h0;obtain ⟨a1,h⟩:=bQ h;have l1:=rr x.az (aI x.bI r) a0;obtain ⟨a2,h⟩:=bQ h;have l2:=bu cI fN x.af (mA x.az (aI x.bI r)) a1
  have z1:=TG x.az (aI x.bI r) a0 Ir a1
  have z2:(AV.sl false 7 (x.af.map (aO false))).fits lim:=fc (f:=cI) fN x.af (mA x.az (aI x.bI r)) a1 Ir a2 (fun y hy r' p q s=>ih (SizeOf.sizeOf y) (by have:=List.sizeOf_lt_of_mem hy;cases x;simp [Dt.aB.af] at *;omega) y r' p q s rfl);simp only [cH,AV.fits,AV.dH] at z1 z2;simp only [dE,AV.fits,AV.dH];exact ⟨trivial,trivial,trivial,z1.1,z1.2.1,z1.2.2.1,z2,trivial⟩
instance:Inhabited Dt.ae:=⟨.mk 0 [] default [] [] [] false false false false 0 0 [] [] []⟩
def si(x:Dt.ae):List AV:=[.v (.int .i64 x.aj),.str x.ag,.v (.int .i64 x.fType.aj),.sl false 2 (x.fType.aP.map (bh false)),.sl false 1 (x.fType.aF.map AV.str),.str x.fType.ba,.str x.fType.az,.sl false 1 (x.aE.map AV.str),.sl false 1 (x.ay.map AV.str),.str x.aV,.v (.bool x.bS),.v (.bool x.bD),.v (.bool x.aZ),.v (.bool x.cU),.v (.int .i64 x.eJ),.v (.int .i64 x.dU),.sl false 7 (x.aG.map (aO false)),.sl false 7 (x.bO.map (aO false)),.sl false 19 (x.af.map (aq false))]
def FJ{L:eaa}:fe L W si (aq false) 19:=by
 have:aq false=fun x=>.agg (si x):=by funext x;simp only [go_sem,si]
 rw [this];exact fe.agg fun _=>rfl
def O8(n:Nat):aN enc prog W gE n 89 si (fun _=>True):=by
 induction n with
 | zero=>exact aN.zero
 | succ n ih =>
  refine aN.mono (n:=n+1+1) ?_ Ir
  exact aN.struct (P:=prog) (t:=89) (fl:=[(3,0,1),(9,1,1),(86,2,5),(84,7,1),(84,8,1),(9,9,1),(4,10,1),(4,11,1),(4,12,1),(4,13,1),(3,14,1),(3,15,1),(87,16,1),(87,17,1),(22,18,1)]) (tot:=19) LQ
   (aS.cons (aN.int (k:=.i64) LQ) (aS.cons (aN.str LQ) (aS.cons (Vi _) (aS.cons (aN.slice (e:=9) (bytes:=16) LQ baa baa (gh _) fe.str (aN.str LQ)) (aS.cons (aN.slice (e:=9) (bytes:=16) LQ baa baa (gh _) fe.str (aN.str LQ)) (aS.cons (aN.str LQ) (aS.cons (aN.bool LQ) (aS.cons (aN.bool LQ) (aS.cons (aN.bool LQ) (aS.cons (aN.bool LQ) (aS.cons (aN.int (k:=.i64) LQ) (aS.cons (aN.int (k:=.i64) LQ) (aS.cons (aN.slice (e:=173) (bytes:=96) LQ baa baa (gh _) FK (MO n)) (aS.cons (aN.slice (e:=173) (bytes:=96) LQ baa baa (gh _) FK (MO n)) (aS.cons (aN.slice (e:=89) (bytes:=272) LQ baa baa (gh _) FJ ih) aS.nil)))))))))))))))
   (fun p=>.mk p.1 p.2.1 p.2.2.1 p.2.2.2.1 p.2.2.2.2.1 p.2.2.2.2.2.1 p.2.2.2.2.2.2.1 p.2.2.2.2.2.2.2.1 p.2.2.2.2.2.2.2.2.1 p.2.2.2.2.2.2.2.2.2.1 p.2.2.2.2.2.2.2.2.2.2.1 p.2.2.2.2.2.2.2.2.2.2.2.1 p.2.2.2.2.2.2.2.2.2.2.2.2.1 p.2.2.2.2.2.2.2.2.2.2.2.2.2.1 p.2.2.2.2.2.2.2.2.2.2.2.2.2.2.1) (fun p _=>⟨trivial,rfl⟩)
def NN(x:Dt.ae)(r:Int)(h0:0<=r)(h1:r<=1048576)(h:0<=bY x r):(aq false x).fits lim:=by
 induction hs:SizeOf.sizeOf x using Nat.strongRecOn generalizing x r with
 | _ n ih =>
  rw [yA] at h;obtain ⟨a0,h⟩:=bQ h;have l0:=bE x.ag r h0;obtain ⟨a1,h⟩:=bQ h;have l1:=rq x.fType (aI x.ag r) a0;obtain ⟨a2,h⟩:=bQ h;have l2:=bu aI bE x.aE (eE x.fType (aI x.ag r)) a1;obtain ⟨a3,h⟩:=bQ h;have l3:=bu aI bE x.ay (aQ aI x.aE (eE x.fType (aI x.ag r))) a2;obtain ⟨a4,h⟩:=bQ h;have l4:=bE x.aV (aQ aI x.ay (aQ aI x.aE (eE x.fType (aI x.ag r)))) a3;obtain ⟨a5,h⟩:=bQ h;have l5:=bu cI fN x.aG (aI x.aV (aQ aI x.ay (aQ aI x.aE (eE x.fType (aI x.ag r))))) a4;obtain ⟨a6,h⟩:=bQ h;have l6:=bu cI fN x.bO (aQ cI x.aG (aI x.aV (aQ aI x.ay (aQ aI x.aE (eE x.fType (aI x.ag r)))))) a5;obtain ⟨a7,h⟩:=bQ h;have l7:=bu bY gz x.af (aQ cI x.bO (aQ cI x.aG (aI x.aV (aQ aI x.ay (aQ aI x.aE (eE x.fType (aI x.ag r))))))) a6
  have z1:=TD x.fType (aI x.ag r) a0 Ir a1
  have z2:(AV.sl false 1 (x.aE.map AV.str)).fits lim:=fc (f:=aI) bE x.aE (eE x.fType (aI x.ag r)) a1 Ir a2 (fun _ _ _ _ _ _=>trivial)
  have z3:(AV.sl false 1 (x.ay.map AV.str)).fits lim:=fc (f:=aI) bE x.ay (aQ aI x.aE (eE x.fType (aI x.ag r))) a2 Ir a3 (fun _ _ _ _ _ _=>trivial)
  have z5:(AV.sl false 7 (x.aG.map (aO false))).fits lim:=fc (f:=cI) fN x.aG (aI x.aV (aQ aI x.ay (aQ aI x.aE (eE x.fType (aI x.ag r))))) a4 Ir a5 (fun y hy r' p q s=>JO y r' p q s)
  have z6:(AV.sl false 7 (x.bO.map (aO false))).fits lim:=fc (f:=cI) fN x.bO (aQ cI x.aG (aI x.aV (aQ aI x.ay (aQ aI x.aE (eE x.fType (aI x.ag r)))))) a5 Ir a6 (fun y hy r' p q s=>JO y r' p q s)
  have z7:(AV.sl false 19 (x.af.map (aq false))).fits lim:=fc (f:=bY) gz x.af (aQ cI x.bO (aQ cI x.aG (aI x.aV (aQ aI x.ay (aQ aI x.aE (eE x.fType (aI x.ag r))))))) a6 Ir a7 (fun y hy r' p q s=>ih (SizeOf.sizeOf y) (by have:=List.sizeOf_lt_of_mem hy;cases x;simp [Dt.ae.af] at *;omega) y r' p q s rfl);simp only [CR,AV.fits,AV.dH] at z1 z2 z3 z5 z6 z7;simp only [dI,AV.fits,AV.dH];exact ⟨trivial,trivial,z1.1,z1.2.1,z1.2.2.1,z1.2.2.2.1,z1.2.2.2.2.1,z2,z3,trivial,trivial,trivial,trivial,trivial,trivial,trivial,z5,z6,z7,trivial⟩
instance:Inhabited Dt.ah:=⟨.mk [] [] []⟩
def yh(x:Dt.ah):List AV:=[.str x.ag,.str x.ax,.sl false 3 (x.af.map (ak false))]
def qB{L:eaa}:fe L W yh (ak false) 3:=by
 have:ak false=fun x=>.agg (yh x):=by funext x;simp only [go_sem,yh]
 rw [this];exact fe.agg fun _=>rfl
def tv(n:Nat):aN enc prog W gE n 74 yh (fun _=>True):=by
 induction n with
 | zero=>exact aN.zero
 | succ n ih =>
  refine aN.mono (n:=n+1+1) ?_ Ir
  exact aN.struct (P:=prog) (t:=74) (fl:=[(9,0,1),(9,1,1),(23,2,1)]) (tot:=3) LQ
   (aS.cons (aN.str LQ) (aS.cons (aN.str LQ) (aS.cons (aN.slice (e:=74) (bytes:=56) LQ baa baa (gh _) qB ih) aS.nil)))
   (fun p=>.mk p.1 p.2.1 p.2.2.1) (fun p _=>⟨trivial,rfl⟩)
def qj(x:Dt.ah)(r:Int)(h0:0<=r)(h1:r<=1048576)(h:0<=bz x r):(ak false x).fits lim:=by
 induction hs:SizeOf.sizeOf x using Nat.strongRecOn generalizing x r with
 | _ n ih =>
  rw [Dd] at h;obtain ⟨a0,h⟩:=bQ h;have l0:=bE x.ag r h0;obtain ⟨a1,h⟩:=bQ h;have l1:=bE x.ax (aI x.ag r) a0;obtain ⟨a2,h⟩:=bQ h;have l2:=bu bz cw x.af (aI x.ax (aI x.ag r)) a1
  have z2:(AV.sl false 3 (x.af.map (ak false))).fits lim:=fc (f:=bz) cw x.af (aI x.ax (aI x.ag r)) a1 Ir a2 (fun y hy r' p q s=>ih (SizeOf.sizeOf y) (by have:=List.sizeOf_lt_of_mem hy;cases x;simp [Dt.ah.af] at *;omega) y r' p q s rfl);simp only [AV.fits,AV.dH] at z2;simp only [dD,AV.fits,AV.dH];exact ⟨trivial,trivial,z2,trivial⟩
instance:Inhabited Dt.eK:=⟨[],0,0⟩
def p9(x:Dt.eK):List AV:=[.sl false 3 (x.ib.map (ak false)),.v (.int .i64 x.fBy),.v (.int .i64 x.fAt)]
def MF{L:eaa}:fe L W p9 (cl false) 3:=by
 have:cl false=fun x=>.agg (p9 x):=by funext x;simp only [go_sem,p9]
 rw [this];exact fe.agg fun _=>rfl
def MM(n:Nat):aN enc prog W gE n 144 p9 (fun _=>True):=by
 refine aN.mono (n:=n+1+1) ?_ Ir
 exact aN.struct (P:=prog) (t:=144) (fl:=[(23,0,1),(3,1,1),(3,2,1)]) (tot:=3) LQ
   (aS.cons (aN.slice (e:=74) (bytes:=56) LQ baa baa (gh _) qB (tv n)) (aS.cons (aN.int (k:=.i64) LQ) (aS.cons (aN.int (k:=.i64) LQ) aS.nil)))
   (fun p=>⟨p.1,p.2.1,p.2.2.1⟩) (fun p _=>⟨trivial,rfl⟩)
def Lg(x:Dt.eK)(r:Int)(h0:0<=r)(h1:r<=1048576)(h:0<=dO x r):(cl false x).fits lim:=by
 unfold dO at h;obtain ⟨a0,h⟩:=bQ h;have l0:=bu bz cw x.ib r h0
 have z0:(AV.sl false 3 (x.ib.map (ak false))).fits lim:=fc (f:=bz) cw x.ib r h0 Ir a0 (fun y hy r' p q s=>qj y r' p q s);simp only [AV.fits,AV.dH] at z0;simp only [cl,AV.fits,AV.dH];exact ⟨z0,trivial,trivial,trivial⟩
instance:Inhabited Dt.gJ:=⟨false,0,0,[],[]⟩
def LJ(x:Dt.gJ):List AV:=[.v (.bool x.fOn),.v (.int .i64 x.ik),.v (.int .i64 x.fBy),.str x.ag,.sl false 3 (x.fT.map (ak false))]
def MN(n:Nat):aN enc prog W gE n 26 LJ (fun _=>True):=by
 refine aN.mono (n:=n+1+1) ?_ Ir
 exact aN.struct (P:=prog) (t:=26) (fl:=[(4,0,1),(3,1,1),(3,2,1),(9,3,1),(23,4,1)]) (tot:=5) LQ
   (aS.cons (aN.bool LQ) (aS.cons (aN.int (k:=.i64) LQ) (aS.cons (aN.int (k:=.i64) LQ) (aS.cons (aN.str LQ) (aS.cons (aN.slice (e:=74) (bytes:=56) LQ baa baa (gh _) qB (tv n)) aS.nil)))))
   (fun p=>⟨p.1,p.2.1,p.2.2.1,p.2.2.2.1,p.2.2.2.2.1⟩) (fun p _=>⟨trivial,rfl⟩)
def Lh(x:Dt.gJ)(r:Int)(h0:0<=r)(h1:r<=1048576)(h:0<=lq x r):(u4 false x).fits lim:=by
 unfold lq at h;obtain ⟨a0,h⟩:=bQ h;have l0:=bE x.ag r h0;obtain ⟨a1,h⟩:=bQ h;have l1:=bu bz cw x.fT (aI x.ag r) a0
 have z1:(AV.sl false 3 (x.fT.map (ak false))).fits lim:=fc (f:=bz) cw x.fT (aI x.ag r) a0 Ir a1 (fun y hy r' p q s=>qj y r' p q s);simp only [AV.fits,AV.dH] at z1;simp only [u4,AV.fits,AV.dH];exact ⟨trivial,trivial,trivial,trivial,z1,trivial⟩
instance:Inhabited Dt.gR:=⟨[],[],[],0,[],default⟩
def Qr(x:Dt.gR):List AV:=[.sl false 19 (x.bW.map (aq false)),.sl false 3 (x.cY.map (ak false)),.sl false 3 (x.fg.map (ak false)),.v (.int .i64 x.lK),.sl false 3 (x.dm.map (cl false)),.v (.bool x.cO.fOn),.v (.int .i64 x.cO.ik),.v (.int .i64 x.cO.fBy),.str x.cO.ag,.sl false 3 (x.cO.fT.map (ak false))]
def Sn(n:Nat):aN enc prog W gE n 28 Qr (fun _=>True):=by
 refine aN.mono (n:=n+1+1) ?_ Ir
 exact aN.struct (P:=prog) (t:=28) (fl:=[(22,0,1),(23,1,1),(23,2,1),(3,3,1),(24,4,1),(26,5,5)]) (tot:=10) LQ
   (aS.cons (aN.slice (e:=89) (bytes:=272) LQ baa baa (gh _) FJ (O8 n)) (aS.cons (aN.slice (e:=74) (bytes:=56) LQ baa baa (gh _) qB (tv n)) (aS.cons (aN.slice (e:=74) (bytes:=56) LQ baa baa (gh _) qB (tv n)) (aS.cons (aN.int (k:=.i64) LQ) (aS.cons (aN.slice (e:=144) (bytes:=40) LQ baa baa (gh _) MF (MM n)) (aS.cons (MN _) aS.nil))))))
   (fun p=>⟨p.1,p.2.1,p.2.2.1,p.2.2.2.1,p.2.2.2.2.1,p.2.2.2.2.2.1⟩) (fun p _=>⟨trivial,rfl⟩)
def Qc(x:Dt.gR)(r:Int)(h0:0<=r)(h1:r<=1048576)(h:0<=jR x r):(zQ false x).fits lim:=by
 unfold jR at h;obtain ⟨a0,h⟩:=bQ h;have l0:=bu bY gz x.bW r h0;obtain ⟨a1,h⟩:=bQ h;have l1:=bu bz cw x.cY (aQ bY x.bW r) a0;obtain ⟨a2,h⟩:=bQ h;have l2:=bu bz cw x.fg (aQ bz x.cY (aQ bY x.bW r)) a1;obtain ⟨a3,h⟩:=bQ h;have l3:=bu dO iR x.dm (aQ bz x.fg (aQ bz x.cY (aQ bY x.bW r))) a2;obtain ⟨a4,h⟩:=bQ h;have l4:=qx x.cO (aQ dO x.dm (aQ bz x.fg (aQ bz x.cY (aQ bY x.bW r)))) a3
 have z0:(AV.sl false 19 (x.bW.map (aq false))).fits lim:=fc (f:=bY) gz x.bW r h0 Ir a0 (fun y hy r' p q s=>NN y r' p q s)
 have z1:(AV.sl false 3 (x.cY.map (ak false))).fits lim:=fc (f:=bz) cw x.cY (aQ bY x.bW r) a0 Ir a1 (fun y hy r' p q s=>qj y r' p q s)
 have z2:(AV.sl false 3 (x.fg.map (ak false))).fits lim:=fc (f:=bz) cw x.fg (aQ bz x.cY (aQ bY x.bW r)) a1 Ir a2 (fun y hy r' p q s=>qj y r' p q s)
 have z3:(AV.sl false 3 (x.dm.map (cl false))).fits lim:=fc (f:=dO) iR x.dm (aQ bz x.fg (aQ bz x.cY (aQ bY x.bW r))) a2 Ir a3 (fun y hy r' p q s=>Lg y r' p q s)
 have z4:=Lh x.cO (aQ dO x.dm (aQ bz x.fg (aQ bz x.cY (aQ bY x.bW r)))) a3 Ir a4;simp only [u4,AV.fits,AV.dH] at z0 z1 z2 z3 z4;simp only [zQ,AV.fits,AV.dH];exact ⟨z0,z1,z2,trivial,z3,z4.1,z4.2.1,z4.2.2.1,z4.2.2.2.1,z4.2.2.2.2.1,trivial⟩
instance:Inhabited Dt.bJ:=⟨[],default,[],false,0,false⟩
def nz(x:Dt.bJ):List AV:=[.str x.ag,.sl false 19 (x.bH.bW.map (aq false)),.sl false 3 (x.bH.cY.map (ak false)),.sl false 3 (x.bH.fg.map (ak false)),.v (.int .i64 x.bH.lK),.sl false 3 (x.bH.dm.map (cl false)),.v (.bool x.bH.cO.fOn),.v (.int .i64 x.bH.cO.ik),.v (.int .i64 x.bH.cO.fBy),.str x.bH.cO.ag,.sl false 3 (x.bH.cO.fT.map (ak false)),.sl false 3 (x.mH.map (ak false)),.v (.bool x.fUp),.v (.int .i64 x.xY),.v (.bool x.EE)]
def O4{L:eaa}:fe L W nz (cq false) 15:=by
 have:cq false=fun x=>.agg (nz x):=by funext x;simp only [go_sem,nz]
 rw [this];exact fe.agg fun _=>rfl
def zf(n:Nat):aN enc prog W gE n 30 nz (fun _=>True):=by
 refine aN.mono (n:=n+1+1) ?_ Ir
 exact aN.struct (P:=prog) (t:=30) (fl:=[(9,0,1),(28,1,10),(23,11,1),(4,12,1),(3,13,1),(4,14,1)]) (tot:=15) LQ
   (aS.cons (aN.str LQ) (aS.cons (Sn _) (aS.cons (aN.slice (e:=74) (bytes:=56) LQ baa baa (gh _) qB (tv n)) (aS.cons (aN.bool LQ) (aS.cons (aN.int (k:=.i64) LQ) (aS.cons (aN.bool LQ) aS.nil))))))
   (fun p=>⟨p.1,p.2.1,p.2.2.1,p.2.2.2.1,p.2.2.2.2.1,p.2.2.2.2.2.1⟩) (fun p _=>⟨trivial,rfl⟩)
def w7(x:Dt.bJ)(r:Int)(h0:0<=r)(h1:r<=1048576)(h:0<=cD x r):(cq false x).fits lim:=by
 unfold cD at h;obtain ⟨a0,h⟩:=bQ h;have l0:=bE x.ag r h0;obtain ⟨a1,h⟩:=bQ h;have l1:=pY x.bH (aI x.ag r) a0;obtain ⟨a2,h⟩:=bQ h;have l2:=bu bz cw x.mH (jR x.bH (aI x.ag r)) a1
 have z1:=Qc x.bH (aI x.ag r) a0 Ir a1
 have z2:(AV.sl false 3 (x.mH.map (ak false))).fits lim:=fc (f:=bz) cw x.mH (jR x.bH (aI x.ag r)) a1 Ir a2 (fun y hy r' p q s=>qj y r' p q s);simp only [zQ,AV.fits,AV.dH] at z1 z2;simp only [cq,AV.fits,AV.dH];exact ⟨trivial,z1.1,z1.2.1,z1.2.2.1,z1.2.2.2.1,z1.2.2.2.2.1,z1.2.2.2.2.2.1,z1.2.2.2.2.2.2.1,z1.2.2.2.2.2.2.2.1,z1.2.2.2.2.2.2.2.2.1,z1.2.2.2.2.2.2.2.2.2.1,z2,trivial,trivial,trivial,trivial⟩
end
section
set_option maxHeartbeats 2000000
instance Xw(L:eaa)[hL:Lok L](l:List Str):Ctr L prog 92 [] [.sl false 1 (l.map AV.str),.sl false 1 (l.map AV.str)] (.ac true) [] True:=by
 refine Ctr.bd func92 ntmps92 fun hp=>?_;refine AW.f0 0 fun hf=>?_;have hf:=Nat.le_trans hf (hL.le 1)
 (refine vU1 ?_;intro h)
 refine AW.aw [5] [0,1] (fun m xs o=>∃ k:Nat,xs=[.aa k]/\o=[]/\m=l.length - k/\k<=l.length) l.length [] trivial ⟨0,?_,rfl,rfl,?_⟩ ?_
 ·rfl
 ·omega
 rintro m xs o ⟨k,rfl,rfl,rfl,hk⟩
 (refine vU1 ?_;intro h h)
 exact ⟨_,[_],[],Ir,⟨k+1,rfl,rfl,rfl,Ir⟩,rfl,trivial⟩
end
section
def UH{L:eaa}{P:Program}{c:Code}{n:Nat}{t:daa}{o:Sto}{Q:Exit->AS->Prop}(i:Nat){own:Bool}{l:List Str}(hi:T t i=.sl own 1 (l.map AV.str))(h:(∀ k,k<l.length->(at_ l k).length<=4611686018427387904)->AW L P c ⟨n,t,o⟩ Q):AW L P c ⟨n,t,o⟩ Q:=by
 intro B F0 w0 a w hd;refine h (fun k hk=>?_) B F0 w0 a w hd;obtain ⟨F,ow,fp,fs,h⟩:=hd;have hr:=h.slots i;simp only at hr;rw [hi] at hr;simp only [Rep] at hr;rcases hr with ⟨_,e,_⟩|⟨b,off,cap,vals,fp',_,_,_,_,he,_⟩
 ·have:l=[]:=by simpa using e
  subst this;simp at hk
 ·obtain ⟨y,f,_,_,hr,_⟩:=he.get (i:=k) (x:=.str (at_ l k)) (by rw [List.getElem?_map,tX hk];rfl);simp only [Rep] at hr;exact hr.2.1
instance W9(L:eaa)[hL:Lok L](l:List Str)(r:Int):Ctr L prog 84 [] [.sl false 1 (l.map AV.str),.aa r] (.aa (aQ aI l r)) [] (0<=r/\r<=1048576):=by
 refine Ctr.bd func84 ntmps84 fun hp=>?_;refine UH 0 rfl fun hfs=>?_;refine AW.f0 0 fun hf=>?_;have hf:=Nat.le_trans hf (hL.le 1)
 (refine vU2 ?_ ?_<;>intro h)
 ·rw [iy h]
 rw [iw h];refine AW.aw [1,5] [0] (fun m xs o=>∃ (k:Nat) (q:Int),xs=[.aa q,.aa k]/\o=[]/\m=l.length - k/\k<=l.length/\0<=q/\q<=1048576/\fu aI (l.drop k) q=fu aI l (r - l.length)) l.length [] trivial ⟨0,_,?_,rfl,rfl,?_,?_,?_,rfl⟩ ?_
 ·rfl
 ·omega
 ·omega
 ·omega
 rintro m xs o ⟨k,q,rfl,rfl,rfl,hk,h0,h1,hR⟩;have hle:=bE (at_ l k) q h0
 have hse:=hfs k
 have hsz:aI (at_ l k) q=q - (at_ l k).length:=rfl
 (refine vU3 ?_ ?_ ?_<;>with_reducible repeat intro h)
 ·rw [gK yG,if_pos (by first|exact h|(rw [hsz];exact h))] at hR;rw [hR]
 ·rw [gK yG,if_neg Ir] at hR;exact ⟨_,[_,_],[],Ir,⟨k+1,_,rfl,rfl,rfl,Ir,Ir,Ir,hR⟩,rfl,trivial⟩
 ·rw [lr h] at hR;rw [hR]
instance WX(l:List Str):Ctr lim prog 88 [] [.sl false 1 (l.map AV.str)] (.sl true 1 (l.map AV.str)) [] True:=by
 refine Ctr.bd func88 ntmps88 fun hp=>?_;refine AW.f0 0 fun hf=>?_
 (refine vU1 ?_;intro h)
 refine AW.aw [4] [0,3] (fun m xs o=>∃ k:Nat,xs=[.aa k]/\o=[(h,some (mkC AV.str [.string ⟨#[]⟩] l k))]/\m=l.length - k/\k<=l.length) l.length [(h,some (mkC AV.str [.string ⟨#[]⟩] l 0))] (cj (kz _ _ _)) ⟨0,?_,rfl,rfl,?_⟩ ?_
 ·rfl
 ·omega
 rintro m xs o ⟨k,rfl,rfl,rfl,hk⟩;have hml:=lZ AV.str [.string ⟨#[]⟩] 1 (fun _=>rfl) rfl l k hk
 (refine vX2 ?_ ?_<;>intro h)
 ·exact ⟨_,[_],_,Ir,⟨k+1,rfl,rfl,rfl,Ir⟩,rfl,cj (by have:=nI AV.str [.string ⟨#[]⟩] 1 (fun _=>rfl) rfl l k h;simp only [go_sem,Nat.mul_one] at this ⊢;exact this.symm)⟩
 ·refine AW.made 2 rfl h hk (fun _=>rfl) ?_
  all_goals exact uU
instance ZM(L:eaa)[hL:Lok L](x:da):Ctr L prog 173 [] [.agg [.aa x.fLo,.aa x.fHi],.agg [.aa x.fLo,.aa x.fHi]] (.ac true) [] True:=by
 refine Ctr.bd func173 ntmps173 fun hp=>?_
 all_goals exact uU
instance Yy(L:eaa)[hL:Lok L](l:List da):Ctr L prog 127 [] [.sl false 2 (l.map (bh false)),.sl false 2 (l.map (bh false))] (.ac true) [] True:=by
 refine Ctr.bd func127 ntmps127 fun hp=>?_;refine AW.f0 0 fun hf=>?_;have hf:=Nat.le_trans hf (hL.le 2)
 (refine vU1 ?_;intro h)
 refine AW.aw [5] [0,1] (fun m xs o=>∃ k:Nat,xs=[.aa k]/\o=[]/\m=l.length - k/\k<=l.length) l.length [] trivial ⟨0,?_,rfl,rfl,?_⟩ ?_
 ·rfl
 ·omega
 rintro m xs o ⟨k,rfl,rfl,rfl,hk⟩
 (refine vU1 ?_;intro h h)
 exact ⟨_,[_],[],Ir,⟨k+1,rfl,rfl,rfl,Ir⟩,rfl,trivial⟩
def Aj:∀ (l:List da) (r:Int),0<=r->fu gU l r=r
 | [],_,_=>rfl
 | x::xs,r,h=>by
  rw [fu,show gU x r=r from rfl,thn,if_neg Ir];exact Aj xs r h
instance XI(L:eaa)[hL:Lok L](l:List da)(r:Int):Ctr L prog 121 [] [.sl false 2 (l.map (bh false)),.aa r] (.aa (aQ gU l r)) [] (0<=r/\r<=1048576):=by
 refine Ctr.bd func121 ntmps121 fun hp=>?_;refine AW.f0 0 fun hf=>?_;have hf:=Nat.le_trans hf (hL.le 2)
 (refine vU2 ?_ ?_<;>intro h)
 ·rw [iy h]
 ·rw [iw h,Aj _ _ h]
instance YU(x:da):Ctr lim prog 170 [] [.agg [.aa x.fLo,.aa x.fHi]] (.agg [.aa x.fLo,.aa x.fHi]) [] True:=by
 refine Ctr.bd func170 ntmps170 fun hp=>?_
 all_goals exact uU
instance XE(l:List da):Ctr lim prog 124 [] [.sl false 2 (l.map (bh false))] (.sl true 2 (l.map (bh true))) [] True:=by
 refine Ctr.bd func124 ntmps124 fun hp=>?_;refine AW.f0 0 fun hf=>?_
 (refine vU1 ?_;intro h)
 refine AW.aw [4] [0,3] (fun m xs o=>∃ k:Nat,xs=[.aa k]/\o=[(h,some (mkC (bh true) [.int .i64 0,.int .i64 0] l k))]/\m=l.length - k/\k<=l.length) l.length [(h,some (mkC (bh true) [.int .i64 0,.int .i64 0] l 0))] (cj (kz _ _ _)) ⟨0,?_,rfl,rfl,?_⟩ ?_
 ·rfl
 ·omega
 rintro m xs o ⟨k,rfl,rfl,rfl,hk⟩;have hml:=lZ (bh true) [.int .i64 0,.int .i64 0] 2 (fun _=>rfl) rfl l k hk
 (refine vX2 ?_ ?_<;>intro h)
 ·exact ⟨_,[_],_,Ir,⟨k+1,rfl,rfl,rfl,Ir⟩,rfl,cj (by have:=nI (bh true) [.int .i64 0,.int .i64 0] 2 (fun _=>rfl) rfl l k h;simp only [go_sem,Nat.mul_one] at this ⊢;exact this.symm)⟩
 ·refine AW.made 2 rfl h hk (fun _=>rfl) ?_
  all_goals exact uU
instance abJ(L:eaa)[hL:Lok L](x:cT):Ctr L prog 91 [] [.agg [.aa x.aj,.sl false 2 (x.aP.map (bh false)),.sl false 1 (x.aF.map AV.str),.str x.ba,.str x.az],.agg [.aa x.aj,.sl false 2 (x.aP.map (bh false)),.sl false 1 (x.aF.map AV.str),.str x.ba,.str x.az]] (.ac true) [] True:=by
 refine Ctr.bd func91 ntmps91 fun hp=>?_
 all_goals exact uU
instance Z1(L:eaa)[hL:Lok L](x:cT)(r:Int):Ctr L prog 83 [] [.agg [.aa x.aj,.sl false 2 (x.aP.map (bh false)),.sl false 1 (x.aF.map AV.str),.str x.ba,.str x.az],.aa r] (.aa (eE x r)) [] (0<=r/\r<=1048576):=by
 refine Ctr.bd func83 ntmps83 fun hp=>?_;refine AW.f0 0 fun hf=>?_;have le0:=bu gU pZ x.aP r
 have le1:=bu aI bE x.aF (aQ gU x.aP r);unfold eE
 ((refine vU5 ?_ ?_ ?_ ?_ ?_<;>with_reducible repeat intro h);all_goals simp only [thn,aI,id];all_goals refine congrArg (fun z=>AV.aa z) ?_;all_goals (repeat' split);all_goals omega)
instance ZW(x:cT):Ctr lim prog 87 [] [.agg [.aa x.aj,.sl false 2 (x.aP.map (bh false)),.sl false 1 (x.aF.map AV.str),.str x.ba,.str x.az]] (.agg [.aa x.aj,.sl true 2 (x.aP.map (bh true)),.sl true 1 (x.aF.map AV.str),.str x.ba,.str x.az]) [] True:=by
 refine Ctr.bd func87 ntmps87 fun hp=>?_
 all_goals exact uU
end
section
def ah.du{x:ah}{l:List ah}(h:x∈l):SizeOf.sizeOf x.af<SizeOf.sizeOf l:=by have:=List.sizeOf_lt_of_mem h;cases x;simp [ah.af] at *;omega
theorem Qg(L:eaa)[hL:Lok L](n:Nat)(ih:∀ l:List ah,Ctr L prog 16 [] [.sl false 3 (l.map (ak false)),.sl false 3 (l.map (ak false))] (.ac true) [] (SizeOf.sizeOf l<n))(x:ah):Ctr L prog 45 [] [.agg [.str x.ag,.str x.ax,.sl false 3 (x.af.map (ak false))],.agg [.str x.ag,.str x.ax,.sl false 3 (x.af.map (ak false))]] (.ac true) [] (SizeOf.sizeOf x.af<n):=by
 refine Ctr.bd func45 ntmps45 fun hp=>?_
 all_goals exact uU
theorem DN(L:eaa)[hL:Lok L]:∀ (n:Nat) (l:List ah),Ctr L prog 16 [] [.sl false 3 (l.map (ak false)),.sl false 3 (l.map (ak false))] (.ac true) [] (SizeOf.sizeOf l<n)
 | 0,l=>⟨(aU 16),fun h=>absurd h (Nat.not_lt_zero _)⟩
 | n+1,l=>by
  have hx:=Qg L n (DN L n);refine Ctr.bd func16 ntmps16 fun hp=>?_;refine AW.f0 0 fun hf=>?_;have hf:=Nat.le_trans hf (hL.le 3)
  (refine vU1 ?_;intro h)
  refine AW.aw [5] [0,1] (fun m xs o=>∃ k:Nat,xs=[.aa k]/\o=[]/\m=l.length - k/\k<=l.length) l.length [] trivial ⟨0,?_,rfl,rfl,?_⟩ ?_
  ·rfl
  ·omega
  rintro m xs o ⟨k,rfl,rfl,rfl,hk⟩;have hkk:k<l.length->SizeOf.sizeOf (at_ l k).af<n:=fun h=>by have:=ah.du (at_mem h);omega
  (refine vU1 ?_;intro h h)
  exact ⟨_,[_],[],Ir,⟨k+1,rfl,rfl,rfl,Ir⟩,rfl,trivial⟩
instance ZN(L:eaa)[hL:Lok L](l:List ah):Ctr L prog 16 [] [.sl false 3 (l.map (ak false)),.sl false 3 (l.map (ak false))] (.ac true) [] True:=⟨(aU 16),fun _=>(DN L (SizeOf.sizeOf l+1) l).out (Nat.lt_succ_self _)⟩
theorem OH(L:eaa)[hL:Lok L](n:Nat)(ih:∀ (l:List ah) (r:Int),Ctr L prog 12 [] [.sl false 3 (l.map (ak false)),.aa r] (.aa (aQ bz l r)) [] (SizeOf.sizeOf l<n/\0<=r/\r<=1048576))(x:ah)(r:Int):Ctr L prog 40 [] [.agg [.str x.ag,.str x.ax,.sl false 3 (x.af.map (ak false))],.aa r] (.aa (bz x r)) [] (SizeOf.sizeOf x.af<n/\0<=r/\r<=1048576):=by
 refine Ctr.bd func40 ntmps40 fun hp=>?_;refine AW.f0 0 fun hf=>?_;have le2:=bu bz cw x.af ((r - x.ag.length) - x.ax.length);rw [Dd]
 ((refine vU4 ?_ ?_ ?_ ?_<;>with_reducible repeat intro h);all_goals simp only [thn,aI,id];all_goals refine congrArg (fun z=>AV.aa z) ?_;all_goals (repeat' split);all_goals omega)
theorem De(L:eaa)[hL:Lok L]:∀ (n:Nat) (l:List ah) (r:Int),Ctr L prog 12 [] [.sl false 3 (l.map (ak false)),.aa r] (.aa (aQ bz l r)) [] (SizeOf.sizeOf l<n/\0<=r/\r<=1048576)
 | 0,l,r=>⟨(aU 12),fun h=>absurd h.1 (Nat.not_lt_zero _)⟩
 | n+1,l,r=>by
  have hx:=OH L n (De L n);refine Ctr.bd func12 ntmps12 fun hp=>?_;refine AW.f0 0 fun hf=>?_;have hf:=Nat.le_trans hf (hL.le 3)
  (refine vU2 ?_ ?_<;>intro h)
  ·rw [iy h]
  rw [iw h];refine AW.aw [1,5] [0] (fun m xs o=>∃ (k:Nat) (q:Int),xs=[.aa q,.aa k]/\o=[]/\m=l.length - k/\k<=l.length/\0<=q/\q<=1048576/\fu bz (l.drop k) q=fu bz l (r - l.length)) l.length [] trivial ⟨0,_,?_,rfl,rfl,?_,?_,?_,rfl⟩ ?_
  ·rfl
  ·omega
  ·omega
  ·omega
  rintro m xs o ⟨k,q,rfl,rfl,rfl,hk,h0,h1,hR⟩;have hle:=cw (at_ l k) q h0
  have hkk:k<l.length->SizeOf.sizeOf (at_ l k).af<n:=fun h=>by have:=ah.du (at_mem h);omega
  (refine vU3 ?_ ?_ ?_<;>with_reducible repeat intro h)
  ·rw [gK yG,if_pos (by first|exact h|(rw [hsz];exact h))] at hR;rw [hR]
  ·rw [gK yG,if_neg Ir] at hR;exact ⟨_,[_,_],[],Ir,⟨k+1,_,rfl,rfl,rfl,Ir,Ir,Ir,hR⟩,rfl,trivial⟩
  ·rw [lr h] at hR;rw [hR]
instance Y0(L:eaa)[hL:Lok L](l:List ah)(r:Int):Ctr L prog 12 [] [.sl false 3 (l.map (ak false)),.aa r] (.aa (aQ bz l r)) [] (0<=r/\r<=1048576):=⟨(aU 12),fun h=>(De L (SizeOf.sizeOf l+1) l r).out ⟨Nat.lt_succ_self _,h⟩⟩
theorem OD(n:Nat)(ih:∀ l:List ah,Ctr lim prog 14 [] [.sl false 3 (l.map (ak false))] (.sl true 3 (l.map (ak true))) [] (SizeOf.sizeOf l<n))(x:ah):Ctr lim prog 43 [] [.agg [.str x.ag,.str x.ax,.sl false 3 (x.af.map (ak false))]] (.agg [.str x.ag,.str x.ax,.sl true 3 (x.af.map (ak true))]) [] (SizeOf.sizeOf x.af<n):=by
 refine Ctr.bd func43 ntmps43 fun hp=>?_
 all_goals exact uU
theorem Db:∀ (n:Nat) (l:List ah),Ctr lim prog 14 [] [.sl false 3 (l.map (ak false))] (.sl true 3 (l.map (ak true))) [] (SizeOf.sizeOf l<n)
 | 0,l=>⟨(aU 14),fun h=>absurd h (Nat.not_lt_zero _)⟩
 | n+1,l=>by
  have hx:=OD n (Db n);refine Ctr.bd func14 ntmps14 fun hp=>?_;refine AW.f0 0 fun hf=>?_
  (refine vU1 ?_;intro h)
  refine AW.aw [4] [0,3] (fun m xs o=>∃ k:Nat,xs=[.aa k]/\o=[(h,some (mkC (ak true) [.string ⟨#[]⟩,.string ⟨#[]⟩,.slice none 0 0] l k))]/\m=l.length - k/\k<=l.length) l.length [(h,some (mkC (ak true) [.string ⟨#[]⟩,.string ⟨#[]⟩,.slice none 0 0] l 0))] (cj (kz _ _ _)) ⟨0,?_,rfl,rfl,?_⟩ ?_
  ·rfl
  ·omega
  rintro m xs o ⟨k,rfl,rfl,rfl,hk⟩;have hml:=lZ (ak true) [.string ⟨#[]⟩,.string ⟨#[]⟩,.slice none 0 0] 3 (fun x=>by rw [dD];rfl) rfl l k hk
  have hkk:k<l.length->SizeOf.sizeOf (at_ l k).af<n:=fun h=>by have:=ah.du (at_mem h);omega
  (refine vX2 ?_ ?_<;>intro h)
  ·exact ⟨_,[_],_,Ir,⟨k+1,rfl,rfl,rfl,Ir⟩,rfl,cj (by have:=nI (ak true) [.string ⟨#[]⟩,.string ⟨#[]⟩,.slice none 0 0] 3 (fun x=>by rw [dD];rfl) rfl l k h;simp only [go_sem,Nat.mul_one] at this ⊢;exact this.symm)⟩
  ·refine AW.made 2 rfl h hk (fun x=>by rw [dD];rfl) ?_
   all_goals exact uU
instance YV(l:List ah):Ctr lim prog 14 [] [.sl false 3 (l.map (ak false))] (.sl true 3 (l.map (ak true))) [] True:=⟨(aU 14),fun _=>(Db (SizeOf.sizeOf l+1) l).out (Nat.lt_succ_self _)⟩
end
end Go.Proofs
namespace Go.Ab
end Go.Ab
namespace Go.Proofs
open Go.Ab Go.Dt
attribute [go_sem] Ef aR
instance Zv(x:cT):Ctr lim prog 235 [] [.agg [.aa x.aj,.sl false 2 (x.aP.map (bh false)),.sl false 1 (x.aF.map AV.str),.str x.ba,.str x.az]] (.ac (isType jO x)) [] True:=Ny jO x
instance Y9(x:cT):Ctr lim prog 219 [] [.agg [.aa x.aj,.sl false 2 (x.aP.map (bh false)),.sl false 1 (x.aF.map AV.str),.str x.ba,.str x.az]] (.ac (isType jO x)) [] True:=Mo jO x
end Go.Proofs
namespace Go.Dt
open Go.Ab
def cvB(x:cT)(s:Str):Bool:=isType jO x && cvO KG x s
def cvS(x:cT)(s:Str):Str:=bif cvB x s then cvT x s else []
def EH{x:cT}{s:Str}(h:cvB x s=false):AV.tup [.str [],.ac false]=.tup [.str (cvS x s),.ac (cvB x s)]:=by rw [cvS,h];rfl
def Hr{x:cT}{s t:Str}(h:cvB x s=true)(e:cvT x s=t):AV.tup [.str t,.ac true]=.tup [.str (cvS x s),.ac (cvB x s)]:=by rw [cvS,h,<- e];rfl
def Oa{l:List Str}{k:Nat}{s:Str}(h:k<l.length):(cont (l.take k) s || at_ l k == s)=cont (l.take (k+1)) s:=by
 have e:l.take (k+1)=l.take k++[at_ l k]:=by
  rw [List.take_succ_eq_append_getElem h];unfold at_;rw [List.getElem?_eq_getElem h];rfl
 rw [Bool.eq_iff_iff,Bool.or_eq_true,oC,oC,e];rw [List.mem_append,List.mem_singleton,beq_iff_eq,eq_comm (a:=at_ l k)]
end Go.Dt
namespace Go.Proofs
open Go.Ab Go.Dt
instance Ul(x:cT)(s:Str):Ctr lim prog 241 [] [.agg [.aa x.aj,.sl false 2 (x.aP.map (bh false)),.sl false 1 (x.aF.map AV.str),.str x.ba,.str x.az],.str s] (.tup [.str (cvS x s),.ac (cvB x s)]) [] (s.length<=1048576):=by
 have hr:=xH s;refine Ctr.bd func241 ntmps241 fun hp=>?_
 (repeat' first|(with_reducible first|refine Z ?_|refine Y ?_|(refine hK _ _ ?_;clear hK K)|refine And.intro ?_ ?_|exact Ct|intro (K:_->_->Prop) hK|(refine gI fun hg=>?_;try simp only [hC,reduceCtorEq] at hg;try simp only [hg]))|(refine AW.i rfl (fun h=>?_) (fun h=>?_)<;>try simp only [hC,reduceCtorEq] at h)|((with_reducible refine E ?_;repeat refine Y ?_);refine eF rfl ?_)|simp (disch:=omega) only [go_sem,cond_true]|(with_reducible intro hg;try simp only [hC,reduceCtorEq] at hg)|exact Cl|fail)
 all_goals try first|(refine EH ?_;simp_all [cvB,cvO,vo,xz,tM];done)|(refine Hr ?_ ?_<;>simp_all [cvB,cvO,cvT,vo,xz,tM];done)
instance Uk(x:cT)(s:Str):Ctr lim prog 225 [] [.agg [.aa x.aj,.sl false 2 (x.aP.map (bh false)),.sl false 1 (x.aF.map AV.str),.str x.ba,.str x.az],.str s] (.tup [.str (cvS x s),.ac (cvB x s)]) [] (s.length<=1048576):=by
 have hr:=xH s;refine Ctr.bd func225 ntmps225 fun hp=>?_
 (repeat' first|(with_reducible first|refine Z ?_|refine Y ?_|(refine hK _ _ ?_;clear hK K)|refine And.intro ?_ ?_|exact Ct|intro (K:_->_->Prop) hK|(refine gI fun hg=>?_;try simp only [hC,reduceCtorEq] at hg;try simp only [hg]))|(refine AW.i rfl (fun h=>?_) (fun h=>?_)<;>try simp only [hC,reduceCtorEq] at h)|((with_reducible refine E ?_;repeat refine Y ?_);refine eF rfl ?_)|simp (disch:=omega) only [go_sem,cond_true]|(with_reducible intro hg;try simp only [hC,reduceCtorEq] at hg)|exact Cl|fail)
 all_goals try first|(refine EH ?_;cases e:isType jO x<;>simp_all [cvB,cvO,vo,xz,tM];done)|(refine Hr ?_ ?_<;>simp_all [cvB,cvO,cvT,vo,xz,tM];done)
 refine AW.f0 0 fun hf=>?_;refine AW.aw [7,10] [1,2,6] (fun m xs o=>∃ k:Nat,xs=[.ac (cont (x.aF.take k) s),.aa k]/\o=[]/\m=x.aF.length - k/\k<=x.aF.length) x.aF.length [] trivial ⟨0,?_,rfl,rfl,?_⟩ ?_
 ·rfl
 ·omega
 rintro m xs o ⟨k,rfl,rfl,rfl,hk⟩
 (repeat' first|(with_reducible first|refine Z ?_|refine Y ?_|(refine hK _ _ ?_;clear hK K)|refine And.intro ?_ ?_|exact Ct|intro (K:_->_->Prop) hK|(refine gI fun hg=>?_;try simp only [hC,reduceCtorEq] at hg;try simp only [hg]))|(refine AW.i rfl (fun h=>?_) (fun h=>?_)<;>try simp only [hC,reduceCtorEq] at h)|((with_reducible refine E ?_;repeat refine Y ?_);refine eF rfl ?_)|simp (disch:=omega) only [go_sem,cond_true]|(with_reducible intro hg;try simp only [hC,reduceCtorEq] at hg)|exact Cl|fail)
 ·exact ⟨_,[_,_],[],Ir,⟨k+1,rfl,rfl,rfl,Ir⟩,by rw [Oa yG];rfl,trivial⟩
 ·rw [List.take_of_length_le Ir] at h;refine EH ?_;cases e:isType jO x<;>simp_all [cvB,cvO]
 ·rw [List.take_of_length_le Ir] at h;refine Hr ?_ ?_<;>simp_all [cvB,cvO,cvT]
 ·refine EH ?_;cases e:isType jO x<;>by_cases e2:s=[]<;>simp_all [cvB,cvO]
end Go.Proofs
namespace Go.Dt
open Go Go.Ab
def isVal(x:cT)(s:Str):Bool:=cvB x s && cvS x s == s
end Go.Dt
