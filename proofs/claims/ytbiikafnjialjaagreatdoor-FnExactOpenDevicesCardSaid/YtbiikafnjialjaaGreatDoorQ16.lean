/- Part of a proof. -/
import Derived.Test.YtbiikafnjialjaaGreatDoorQ14
import Derived.Test.YtbiikafnjialjaaGreatDoorQ15
set_option linter.all false
set_option maxRecDepth 20000
set_option maxHeartbeats 4000000
open Go.Proofs.Tryz
open List
namespace Go.Proofs
open Go.Ab Go.Dt
section
variable {H : Type} {enc : TypeId × Value -> H} {W : World}
def fI(z:Nat):reachBytes<=fN z:=by have:=reachBytes_lt;unfold fN;omega
instance:Inhabited Dt.ed:=⟨0,0⟩
def wL(x:Dt.ed):List AV:=[.v (.int .i64 x.fLo),.v (.int .i64 x.fHi)]
def S0{L:gaa}:fc L W wL (aW false) 2:=by
 have:aW false=λx=>.agg (wL x):=by funext x;simp only[go_sem,wL]
 rw[this];exact fc.agg λ_=>rfl
def Te(n:Nat):aN enc prog W fN n 313 wL (λ_=>True):=by
 refine aN.mono (n:=n+1+1) ?_ Yt
 exact aN.struct (P:=prog) (t:=313) (fl:=[(3,0,1),(3,1,1)]) (tot:=2) caa
   (aR.cons (aN.int (k:=.i64) caa) (aR.cons (aN.int (k:=.i64) caa) aR.nil))
   (λp=>⟨p.1,p.2.1⟩) (λp _=>⟨trivial,rfl⟩)
def Q1(x:Dt.ed)(r:Int)(h0:0<=r)(h1:r<=1048576)(h:0<=gP x r):(aW false x).fits lim:=by simp only[aW,AV.fits,AV.dG];exact⟨trivial,trivial,trivial⟩
instance:Inhabited Dt.dB:=⟨0,[],[],[],[]⟩
def Uz(x:Dt.dB):List AV:=[.v (.int .i64 x.aj),.sl false 2 (x.az.map (aW false)),.sl false 1 (x.aB.map AV.str),.str x.aZ,.str x.aG]
def Nl(n:Nat):aN enc prog W fN n 115 Uz (λ_=>True):=by
 refine aN.mono (n:=n+1+1) ?_ Yt
 exact aN.struct (P:=prog) (t:=115) (fl:=[(3,0,1),(113,1,1),(28,2,1),(9,3,1),(9,4,1)]) (tot:=5) caa
   (aR.cons (aN.int (k:=.i64) caa) (aR.cons (aN.slice (e:=313) (bytes:=16) caa daa daa (fI _) S0 (Te n)) (aR.cons (aN.slice (e:=9) (bytes:=16) caa daa daa (fI _) fc.str (aN.str caa)) (aR.cons (aN.str caa) (aR.cons (aN.str caa) aR.nil)))))
   (λp=>⟨p.1,p.2.1,p.2.2.1,p.2.2.2.1,p.2.2.2.2.1⟩) (λp _=>⟨trivial,rfl⟩)
def Ku(x:Dt.dB)(r:Int)(h0:0<=r)(h1:r<=1048576)(h:0<=eC x r):(y6 false x).fits lim:=by
 unfold eC at h;obtain⟨a0,h⟩:=aH h;have l0:=ba gP o6 x.az r h0;obtain⟨a1,h⟩:=aH h;have l1:=ba aA aT x.aB (aM gP x.az r) a0;obtain⟨a2,h⟩:=aH h;have l2:=aT x.aZ (aM aA x.aB (aM gP x.az r)) a1;obtain⟨a3,h⟩:=aH h;have l3:=aT x.aG (aA x.aZ (aM aA x.aB (aM gP x.az r))) a2
 have z0:(AV.ab 2 aW x.az).fits lim:=eI (f:=gP) o6 x.az r h0 Yt a0 (λy hy r' p q s=>Q1 y r' p q s)
 have z1:(AV.al x.aB).fits lim:=eI (f:=aA) aT x.aB (aM gP x.az r) a0 Yt a1 (λ_ _ _ _ _ _=>trivial);simp only[AV.fits,AV.dG]at z0 z1;simp only[y6,AV.fits,AV.dG];exact⟨trivial,z0,z1,trivial,trivial,trivial⟩
instance:Inhabited Dt.fS:=⟨[],[]⟩
def zg(x:Dt.fS):List AV:=[.str x.ae,.str x.aq]
def VS{L:gaa}:fc L W zg (cY false) 2:=by
 have:cY false=λx=>.agg (zg x):=by funext x;simp only[go_sem,zg]
 rw[this];exact fc.agg λ_=>rfl
def VW(n:Nat):aN enc prog W fN n 394 zg (λ_=>True):=by
 refine aN.mono (n:=n+1+1) ?_ Yt
 exact aN.struct (P:=prog) (t:=394) (fl:=[(9,0,1),(9,1,1)]) (tot:=2) caa
   (aR.cons (aN.str caa) (aR.cons (aN.str caa) aR.nil))
   (λp=>⟨p.1,p.2.1⟩) (λp _=>⟨trivial,rfl⟩)
def Uo(x:Dt.fS)(r:Int)(h0:0<=r)(h1:r<=1048576)(h:0<=jY x r):(cY false x).fits lim:=by unfold jY at h;obtain⟨a0,h⟩:=aH h;have l0:=aT x.ae r h0;obtain⟨a1,h⟩:=aH h;have l1:=aT x.aq (aA x.ae r) a0;simp only[cY,AV.fits,AV.dG];exact⟨trivial,trivial,trivial⟩
instance:Inhabited Dt.GStep:=⟨[],[]⟩
def zi(x:Dt.GStep):List AV:=[.str x.ae,.sl false 2 (x.cU.map (cY false))]
def VU{L:gaa}:fc L W zi (bp false) 2:=by
 have:bp false=λx=>.agg (zi x):=by funext x;simp only[go_sem,zi]
 rw[this];exact fc.agg λ_=>rfl
def VY(n:Nat):aN enc prog W fN n 367 zi (λ_=>True):=by
 refine aN.mono (n:=n+1+1) ?_ Yt
 exact aN.struct (P:=prog) (t:=367) (fl:=[(9,0,1),(365,1,1)]) (tot:=2) caa
   (aR.cons (aN.str caa) (aR.cons (aN.slice (e:=394) (bytes:=32) caa daa daa (fI _) VS (VW n)) aR.nil))
   (λp=>⟨p.1,p.2.1⟩) (λp _=>⟨trivial,rfl⟩)
def Ur(x:Dt.GStep)(r:Int)(h0:0<=r)(h1:r<=1048576)(h:0<=j0 x r):(bp false x).fits lim:=by
 unfold j0 at h;obtain⟨a0,h⟩:=aH h;have l0:=aT x.ae r h0;obtain⟨a1,h⟩:=aH h;have l1:=ba jY oK x.cU (aA x.ae r) a0
 have z1:(AV.ab 2 cY x.cU).fits lim:=eI (f:=jY) oK x.cU (aA x.ae r) a0 Yt a1 (λy hy r' p q s=>Uo y r' p q s);simp only[AV.fits,AV.dG]at z1;simp only[bp,AV.fits,AV.dG];exact⟨trivial,z1,trivial⟩
instance:Inhabited Dt.gm:=⟨false,0,[]⟩
def UA(x:Dt.gm):List AV:=[.v (.bool x.dJ),.v (.int .i64 x.dY),.sl false 2 (x.aX.map (bp false))]
def VZ(n:Nat):aN enc prog W fN n 237 UA (λ_=>True):=by
 refine aN.mono (n:=n+1+1) ?_ Yt
 exact aN.struct (P:=prog) (t:=237) (fl:=[(4,0,1),(3,1,1),(235,2,1)]) (tot:=3) caa
   (aR.cons (aN.bool caa) (aR.cons (aN.int (k:=.i64) caa) (aR.cons (aN.slice (e:=367) (bytes:=40) caa daa daa (fI _) VU (VY n)) aR.nil)))
   (λp=>⟨p.1,p.2.1,p.2.2.1⟩) (λp _=>⟨trivial,rfl⟩)
def Us(x:Dt.gm)(r:Int)(h0:0<=r)(h1:r<=1048576)(h:0<=ll x r):(DZ false x).fits lim:=by
 unfold ll at h;obtain⟨a0,h⟩:=aH h;have l0:=ba j0 oM x.aX r h0
 have z0:(AV.ab 2 bp x.aX).fits lim:=eI (f:=j0) oM x.aX r h0 Yt a0 (λy hy r' p q s=>Ur y r' p q s);simp only[AV.fits,AV.dG]at z0;simp only[DZ,AV.fits,AV.dG];exact⟨trivial,trivial,z0,trivial⟩
instance:Inhabited Dt.bf:=⟨.mk 0 0 [] default []⟩
def zk(x:Dt.bf):List AV:=[.v (.int .i64 x.fOp),.v (.int .i64 x.gZ),.str x.cX,.v (.bool x.aG.dJ),.v (.int .i64 x.aG.dY),.sl false 2 (x.aG.aX.map (bp false)),.sl false 7 (x.af.map (aS false))]
def Gv{L:gaa}:fc L W zk (aS false) 7:=by
 have:aS false=λx=>.agg (zk x):=by funext x;simp only[go_sem,zk]
 rw[this];exact fc.agg λ_=>rfl
def Nr(n:Nat):aN enc prog W fN n 239 zk (λ_=>True):=by
 induction n with
 | zero=>exact aN.zero
 | succ n ih =>
  refine aN.mono (n:=n+1+1) ?_ Yt
  exact aN.struct (P:=prog) (t:=239) (fl:=[(3,0,1),(3,1,1),(9,2,1),(237,3,3),(116,6,1)]) (tot:=7) caa
   (aR.cons (aN.int (k:=.i64) caa) (aR.cons (aN.int (k:=.i64) caa) (aR.cons (aN.str caa) (aR.cons (VZ _) (aR.cons (aN.slice (e:=239) (bytes:=96) caa daa daa (fI _) Gv ih) aR.nil)))))
   (λp=>.mk p.1 p.2.1 p.2.2.1 p.2.2.2.1 p.2.2.2.2.1) (λp _=>⟨trivial,rfl⟩)
def Kv(x:Dt.bf)(r:Int)(h0:0<=r)(h1:r<=1048576)(h:0<=dh x r):(aS false x).fits lim:=by
 induction hs:SizeOf.sizeOf x using Nat.strongRecOn generalizing x r with
 | _ n ih =>
  rw[xk]at h;obtain⟨a0,h⟩:=aH h;have l0:=aT x.cX r h0;obtain⟨a1,h⟩:=aH h;have l1:=sZ x.aG (aA x.cX r) a0;obtain⟨a2,h⟩:=aH h;have l2:=ba dh gq x.af (ll x.aG (aA x.cX r)) a1
  have z1:=Us x.aG (aA x.cX r) a0 Yt a1
  have z2:(AV.ab 7 aS x.af).fits lim:=eI (f:=dh) gq x.af (ll x.aG (aA x.cX r)) a1 Yt a2 (λy hy r' p q s=>ih (SizeOf.sizeOf y) (by have:=sizeOf_lt_of_mem hy;cases x;simp[Dt.bf.af]at *;omega) y r' p q s rfl);simp only[DZ,AV.fits,AV.dG]at z1 z2;simp only[dM,AV.fits,AV.dG];exact⟨trivial,trivial,trivial,z1.1,z1.2.1,z1.2.2.1,z2,trivial⟩
instance:Inhabited Dt.ag:=⟨.mk 0 [] default [] [] [] false false false false 0 0 [] [] []⟩
def tV(x:Dt.ag):List AV:=[.v (.int .i64 x.aj),.str x.ae,.v (.int .i64 x.fType.aj),.sl false 2 (x.fType.az.map (aW false)),.sl false 1 (x.fType.aB.map AV.str),.str x.fType.aZ,.str x.fType.aG,.sl false 1 (x.ax.map AV.str),.sl false 1 (x.aJ.map AV.str),.str x.bI,.v (.bool x.db),.v (.bool x.dz),.v (.bool x.bZ),.v (.bool x.eJ),.v (.int .i64 x.iO),.v (.int .i64 x.iP),.sl false 7 (x.bY.map (aS false)),.sl false 7 (x.cS.map (aS false)),.sl false 19 (x.af.map (ak false))]
def Al{L:gaa}:fc L W tV (ak false) 19:=by
 have:ak false=λx=>.agg (tV x):=by funext x;simp only[go_sem,tV]
 rw[this];exact fc.agg λ_=>rfl
def GH(n:Nat):aN enc prog W fN n 118 tV (λ_=>True):=by
 induction n with
 | zero=>exact aN.zero
 | succ n ih =>
  refine aN.mono (n:=n+1+1) ?_ Yt
  exact aN.struct (P:=prog) (t:=118) (fl:=[(3,0,1),(9,1,1),(115,2,5),(28,7,1),(28,8,1),(9,9,1),(4,10,1),(4,11,1),(4,12,1),(4,13,1),(3,14,1),(3,15,1),(116,16,1),(116,17,1),(26,18,1)]) (tot:=19) caa
   (aR.cons (aN.int (k:=.i64) caa) (aR.cons (aN.str caa) (aR.cons (Nl _) (aR.cons (aN.slice (e:=9) (bytes:=16) caa daa daa (fI _) fc.str (aN.str caa)) (aR.cons (aN.slice (e:=9) (bytes:=16) caa daa daa (fI _) fc.str (aN.str caa)) (aR.cons (aN.str caa) (aR.cons (aN.bool caa) (aR.cons (aN.bool caa) (aR.cons (aN.bool caa) (aR.cons (aN.bool caa) (aR.cons (aN.int (k:=.i64) caa) (aR.cons (aN.int (k:=.i64) caa) (aR.cons (aN.slice (e:=239) (bytes:=96) caa daa daa (fI _) Gv (Nr n)) (aR.cons (aN.slice (e:=239) (bytes:=96) caa daa daa (fI _) Gv (Nr n)) (aR.cons (aN.slice (e:=118) (bytes:=272) caa daa daa (fI _) Al ih) aR.nil)))))))))))))))
   (λp=>.mk p.1 p.2.1 p.2.2.1 p.2.2.2.1 p.2.2.2.2.1 p.2.2.2.2.2.1 p.2.2.2.2.2.2.1 p.2.2.2.2.2.2.2.1 p.2.2.2.2.2.2.2.2.1 p.2.2.2.2.2.2.2.2.2.1 p.2.2.2.2.2.2.2.2.2.2.1 p.2.2.2.2.2.2.2.2.2.2.2.1 p.2.2.2.2.2.2.2.2.2.2.2.2.1 p.2.2.2.2.2.2.2.2.2.2.2.2.2.1 p.2.2.2.2.2.2.2.2.2.2.2.2.2.2.1) (λp _=>⟨trivial,rfl⟩)
def EP(x:Dt.ag)(r:Int)(h0:0<=r)(h1:r<=1048576)(h:0<=bG x r):(ak false x).fits lim:=by
 induction hs:SizeOf.sizeOf x using Nat.strongRecOn generalizing x r with
 | _ n ih =>
  rw[uc]at h;obtain⟨a0,h⟩:=aH h;have l0:=aT x.ae r h0;obtain⟨a1,h⟩:=aH h;have l1:=mR x.fType (aA x.ae r) a0;obtain⟨a2,h⟩:=aH h;have l2:=ba aA aT x.ax (eC x.fType (aA x.ae r)) a1;obtain⟨a3,h⟩:=aH h;have l3:=ba aA aT x.aJ (aM aA x.ax (eC x.fType (aA x.ae r))) a2;obtain⟨a4,h⟩:=aH h;have l4:=aT x.bI (aM aA x.aJ (aM aA x.ax (eC x.fType (aA x.ae r)))) a3;obtain⟨a5,h⟩:=aH h;have l5:=ba dh gq x.bY (aA x.bI (aM aA x.aJ (aM aA x.ax (eC x.fType (aA x.ae r))))) a4;obtain⟨a6,h⟩:=aH h;have l6:=ba dh gq x.cS (aM dh x.bY (aA x.bI (aM aA x.aJ (aM aA x.ax (eC x.fType (aA x.ae r)))))) a5;obtain⟨a7,h⟩:=aH h;have l7:=ba bG fe x.af (aM dh x.cS (aM dh x.bY (aA x.bI (aM aA x.aJ (aM aA x.ax (eC x.fType (aA x.ae r))))))) a6
  have z1:=Ku x.fType (aA x.ae r) a0 Yt a1
  have z2:(AV.al x.ax).fits lim:=eI (f:=aA) aT x.ax (eC x.fType (aA x.ae r)) a1 Yt a2 (λ_ _ _ _ _ _=>trivial)
  have z3:(AV.al x.aJ).fits lim:=eI (f:=aA) aT x.aJ (aM aA x.ax (eC x.fType (aA x.ae r))) a2 Yt a3 (λ_ _ _ _ _ _=>trivial)
  have z5:(AV.ab 7 aS x.bY).fits lim:=eI (f:=dh) gq x.bY (aA x.bI (aM aA x.aJ (aM aA x.ax (eC x.fType (aA x.ae r))))) a4 Yt a5 (λy hy r' p q s=>Kv y r' p q s)
  have z6:(AV.ab 7 aS x.cS).fits lim:=eI (f:=dh) gq x.cS (aM dh x.bY (aA x.bI (aM aA x.aJ (aM aA x.ax (eC x.fType (aA x.ae r)))))) a5 Yt a6 (λy hy r' p q s=>Kv y r' p q s)
  have z7:(AV.ab 19 ak x.af).fits lim:=eI (f:=bG) fe x.af (aM dh x.cS (aM dh x.bY (aA x.bI (aM aA x.aJ (aM aA x.ax (eC x.fType (aA x.ae r))))))) a6 Yt a7 (λy hy r' p q s=>ih (SizeOf.sizeOf y) (by have:=sizeOf_lt_of_mem hy;cases x;simp[Dt.ag.af]at *;omega) y r' p q s rfl);simp only[y6,AV.fits,AV.dG]at z1 z2 z3 z5 z6 z7;simp only[dK,AV.fits,AV.dG];exact⟨trivial,trivial,z1.1,z1.2.1,z1.2.2.1,z1.2.2.2.1,z1.2.2.2.2.1,z2,z3,trivial,trivial,trivial,trivial,trivial,trivial,trivial,z5,z6,z7,trivial⟩
instance:Inhabited Dt.ah:=⟨.mk [] [] []⟩
def zj(x:Dt.ah):List AV:=[.str x.ae,.str x.aq,.sl false 3 (x.af.map (ai false))]
def pq{L:gaa}:fc L W zj (ai false) 3:=by
 have:ai false=λx=>.agg (zj x):=by funext x;simp only[go_sem,zj]
 rw[this];exact fc.agg λ_=>rfl
def qq(n:Nat):aN enc prog W fN n 153 zj (λ_=>True):=by
 induction n with
 | zero=>exact aN.zero
 | succ n ih =>
  refine aN.mono (n:=n+1+1) ?_ Yt
  exact aN.struct (P:=prog) (t:=153) (fl:=[(9,0,1),(9,1,1),(57,2,1)]) (tot:=3) caa
   (aR.cons (aN.str caa) (aR.cons (aN.str caa) (aR.cons (aN.slice (e:=153) (bytes:=56) caa daa daa (fI _) pq ih) aR.nil)))
   (λp=>.mk p.1 p.2.1 p.2.2.1) (λp _=>⟨trivial,rfl⟩)
def oV(x:Dt.ah)(r:Int)(h0:0<=r)(h1:r<=1048576)(h:0<=bA x r):(ai false x).fits lim:=by
 induction hs:SizeOf.sizeOf x using Nat.strongRecOn generalizing x r with
 | _ n ih =>
  rw[xh]at h;obtain⟨a0,h⟩:=aH h;have l0:=aT x.ae r h0;obtain⟨a1,h⟩:=aH h;have l1:=aT x.aq (aA x.ae r) a0;obtain⟨a2,h⟩:=aH h;have l2:=ba bA cf x.af (aA x.aq (aA x.ae r)) a1
  have z2:(AV.ab 3 ai x.af).fits lim:=eI (f:=bA) cf x.af (aA x.aq (aA x.ae r)) a1 Yt a2 (λy hy r' p q s=>ih (SizeOf.sizeOf y) (by have:=sizeOf_lt_of_mem hy;cases x;simp[Dt.ah.af]at *;omega) y r' p q s rfl);simp only[AV.fits,AV.dG]at z2;simp only[bW,AV.fits,AV.dG];exact⟨trivial,trivial,z2,trivial⟩
instance:Inhabited Dt.fQ:=⟨[],0,0⟩
def rE(x:Dt.fQ):List AV:=[.sl false 3 (x.eS.map (ai false)),.v (.int .i64 x.fBy),.v (.int .i64 x.fAt)]
def Nb{L:gaa}:fc L W rE (bF false) 3:=by
 have:bF false=λx=>.agg (rE x):=by funext x;simp only[go_sem,rE]
 rw[this];exact fc.agg λ_=>rfl
def Nk(n:Nat):aN enc prog W fN n 285 rE (λ_=>True):=by
 refine aN.mono (n:=n+1+1) ?_ Yt
 exact aN.struct (P:=prog) (t:=285) (fl:=[(57,0,1),(3,1,1),(3,2,1)]) (tot:=3) caa
   (aR.cons (aN.slice (e:=153) (bytes:=56) caa daa daa (fI _) pq (qq n)) (aR.cons (aN.int (k:=.i64) caa) (aR.cons (aN.int (k:=.i64) caa) aR.nil)))
   (λp=>⟨p.1,p.2.1,p.2.2.1⟩) (λp _=>⟨trivial,rfl⟩)
def L5(x:Dt.fQ)(r:Int)(h0:0<=r)(h1:r<=1048576)(h:0<=fu x r):(bF false x).fits lim:=by
 unfold fu at h;obtain⟨a0,h⟩:=aH h;have l0:=ba bA cf x.eS r h0
 have z0:(AV.ab 3 ai x.eS).fits lim:=eI (f:=bA) cf x.eS r h0 Yt a0 (λy hy r' p q s=>oV y r' p q s);simp only[AV.fits,AV.dG]at z0;simp only[bF,AV.fits,AV.dG];exact⟨z0,trivial,trivial,trivial⟩
instance:Inhabited Dt.iZ:=⟨false,0,0,[],[]⟩
def Ms(x:Dt.iZ):List AV:=[.v (.bool x.fOn),.v (.int .i64 x.gz),.v (.int .i64 x.fBy),.str x.ae,.sl false 3 (x.dS.map (ai false))]
def Np(n:Nat):aN enc prog W fN n 64 Ms (λ_=>True):=by
 refine aN.mono (n:=n+1+1) ?_ Yt
 exact aN.struct (P:=prog) (t:=64) (fl:=[(4,0,1),(3,1,1),(3,2,1),(9,3,1),(57,4,1)]) (tot:=5) caa
   (aR.cons (aN.bool caa) (aR.cons (aN.int (k:=.i64) caa) (aR.cons (aN.int (k:=.i64) caa) (aR.cons (aN.str caa) (aR.cons (aN.slice (e:=153) (bytes:=56) caa daa daa (fI _) pq (qq n)) aR.nil)))))
   (λp=>⟨p.1,p.2.1,p.2.2.1,p.2.2.2.1,p.2.2.2.2.1⟩) (λp _=>⟨trivial,rfl⟩)
def L8(x:Dt.iZ)(r:Int)(h0:0<=r)(h1:r<=1048576)(h:0<=lj x r):(wC false x).fits lim:=by
 unfold lj at h;obtain⟨a0,h⟩:=aH h;have l0:=aT x.ae r h0;obtain⟨a1,h⟩:=aH h;have l1:=ba bA cf x.dS (aA x.ae r) a0
 have z1:(AV.ab 3 ai x.dS).fits lim:=eI (f:=bA) cf x.dS (aA x.ae r) a0 Yt a1 (λy hy r' p q s=>oV y r' p q s);simp only[AV.fits,AV.dG]at z1;simp only[wC,AV.fits,AV.dG];exact⟨trivial,trivial,trivial,trivial,z1,trivial⟩
instance:Inhabited Dt.lM:=⟨[],[],[],0,[],default⟩
def Ri(x:Dt.lM):List AV:=[.sl false 19 (x.bg.map (ak false)),.sl false 3 (x.bk.map (ai false)),.sl false 3 (x.cD.map (ai false)),.v (.int .i64 x.iV),.sl false 3 (x.dL.map (bF false)),.v (.bool x.bh.fOn),.v (.int .i64 x.bh.gz),.v (.int .i64 x.bh.fBy),.str x.bh.ae,.sl false 3 (x.bh.dS.map (ai false))]
def Td(n:Nat):aN enc prog W fN n 66 Ri (λ_=>True):=by
 refine aN.mono (n:=n+1+1) ?_ Yt
 exact aN.struct (P:=prog) (t:=66) (fl:=[(26,0,1),(57,1,1),(57,2,1),(3,3,1),(62,4,1),(64,5,5)]) (tot:=10) caa
   (aR.cons (aN.slice (e:=118) (bytes:=272) caa daa daa (fI _) Al (GH n)) (aR.cons (aN.slice (e:=153) (bytes:=56) caa daa daa (fI _) pq (qq n)) (aR.cons (aN.slice (e:=153) (bytes:=56) caa daa daa (fI _) pq (qq n)) (aR.cons (aN.int (k:=.i64) caa) (aR.cons (aN.slice (e:=285) (bytes:=40) caa daa daa (fI _) Nb (Nk n)) (aR.cons (Np _) aR.nil))))))
   (λp=>⟨p.1,p.2.1,p.2.2.1,p.2.2.2.1,p.2.2.2.2.1,p.2.2.2.2.2.1⟩) (λp _=>⟨trivial,rfl⟩)
def Q0(x:Dt.lM)(r:Int)(h0:0<=r)(h1:r<=1048576)(h:0<=jL x r):(Bf false x).fits lim:=by
 unfold jL at h;obtain⟨a0,h⟩:=aH h;have l0:=ba bG fe x.bg r h0;obtain⟨a1,h⟩:=aH h;have l1:=ba bA cf x.bk (aM bG x.bg r) a0;obtain⟨a2,h⟩:=aH h;have l2:=ba bA cf x.cD (aM bA x.bk (aM bG x.bg r)) a1;obtain⟨a3,h⟩:=aH h;have l3:=ba fu lY x.dL (aM bA x.cD (aM bA x.bk (aM bG x.bg r))) a2;obtain⟨a4,h⟩:=aH h;have l4:=si x.bh (aM fu x.dL (aM bA x.cD (aM bA x.bk (aM bG x.bg r)))) a3
 have z0:(AV.ab 19 ak x.bg).fits lim:=eI (f:=bG) fe x.bg r h0 Yt a0 (λy hy r' p q s=>EP y r' p q s)
 have z1:(AV.ab 3 ai x.bk).fits lim:=eI (f:=bA) cf x.bk (aM bG x.bg r) a0 Yt a1 (λy hy r' p q s=>oV y r' p q s)
 have z2:(AV.ab 3 ai x.cD).fits lim:=eI (f:=bA) cf x.cD (aM bA x.bk (aM bG x.bg r)) a1 Yt a2 (λy hy r' p q s=>oV y r' p q s)
 have z3:(AV.ab 3 bF x.dL).fits lim:=eI (f:=fu) lY x.dL (aM bA x.cD (aM bA x.bk (aM bG x.bg r))) a2 Yt a3 (λy hy r' p q s=>L5 y r' p q s)
 have z4:=L8 x.bh (aM fu x.dL (aM bA x.cD (aM bA x.bk (aM bG x.bg r)))) a3 Yt a4;simp only[wC,AV.fits,AV.dG]at z0 z1 z2 z3 z4;simp only[Bf,AV.fits,AV.dG];exact⟨z0,z1,z2,trivial,z3,z4.1,z4.2.1,z4.2.2.1,z4.2.2.2.1,z4.2.2.2.2.1,trivial⟩
instance:Inhabited Dt.cM:=⟨[],[]⟩
def CQ(x:Dt.cM):List AV:=[.str x.ae,.str x.aq]
def YZ{L:gaa}:fc L W CQ (cn false) 2:=by
 have:cn false=λx=>.agg (CQ x):=by funext x;simp only[go_sem,CQ]
 rw[this];exact fc.agg λ_=>rfl
def Y4(n:Nat):aN enc prog W fN n 179 CQ (λ_=>True):=by
 refine aN.mono (n:=n+1+1) ?_ Yt
 exact aN.struct (P:=prog) (t:=179) (fl:=[(9,0,1),(9,1,1)]) (tot:=2) caa
   (aR.cons (aN.str caa) (aR.cons (aN.str caa) aR.nil))
   (λp=>⟨p.1,p.2.1⟩) (λp _=>⟨trivial,rfl⟩)
def Xb(x:Dt.cM)(r:Int)(h0:0<=r)(h1:r<=1048576)(h:0<=iQ x r):(cn false x).fits lim:=by unfold iQ at h;obtain⟨a0,h⟩:=aH h;have l0:=aT x.ae r h0;obtain⟨a1,h⟩:=aH h;have l1:=aT x.aq (aA x.ae r) a0;simp only[cn,AV.fits,AV.dG];exact⟨trivial,trivial,trivial⟩
instance:Inhabited Dt.bR:=⟨[],default⟩
def wM(x:Dt.bR):List AV:=[.str x.ae,.v (.int .i64 x.fType.aj),.sl false 2 (x.fType.az.map (aW false)),.sl false 1 (x.fType.aB.map AV.str),.str x.fType.aZ,.str x.fType.aG]
def S3{L:gaa}:fc L W wM (bB false) 6:=by
 have:bB false=λx=>.agg (wM x):=by funext x;simp only[go_sem,wM]
 rw[this];exact fc.agg λ_=>rfl
def Tf(n:Nat):aN enc prog W fN n 294 wM (λ_=>True):=by
 refine aN.mono (n:=n+1+1) ?_ Yt
 exact aN.struct (P:=prog) (t:=294) (fl:=[(9,0,1),(115,1,5)]) (tot:=6) caa
   (aR.cons (aN.str caa) (aR.cons (Nl _) aR.nil))
   (λp=>⟨p.1,p.2.1⟩) (λp _=>⟨trivial,rfl⟩)
def Q2(x:Dt.bR)(r:Int)(h0:0<=r)(h1:r<=1048576)(h:0<=gQ x r):(bB false x).fits lim:=by
 unfold gQ at h;obtain⟨a0,h⟩:=aH h;have l0:=aT x.ae r h0;obtain⟨a1,h⟩:=aH h;have l1:=mR x.fType (aA x.ae r) a0
 have z1:=Ku x.fType (aA x.ae r) a0 Yt a1;simp only[y6,AV.fits,AV.dG]at z1;simp only[bB,AV.fits,AV.dG];exact⟨trivial,z1.1,z1.2.1,z1.2.2.1,z1.2.2.2.1,z1.2.2.2.2.1,trivial⟩
instance:Inhabited Dt.aE:=⟨[],[],[]⟩
def qn(x:Dt.aE):List AV:=[.str x.ae,.sl false 6 (x.aI.map (bB false)),.sl false 3 (x.dq.map (ai false))]
def Ln{L:gaa}:fc L W qn (aK false) 3:=by
 have:aK false=λx=>.agg (qn x):=by funext x;simp only[go_sem,qn]
 rw[this];exact fc.agg λ_=>rfl
def Lp(n:Nat):aN enc prog W fN n 174 qn (λ_=>True):=by
 refine aN.mono (n:=n+1+1) ?_ Yt
 exact aN.struct (P:=prog) (t:=174) (fl:=[(9,0,1),(172,1,1),(57,2,1)]) (tot:=3) caa
   (aR.cons (aN.str caa) (aR.cons (aN.slice (e:=294) (bytes:=104) caa daa daa (fI _) S3 (Tf n)) (aR.cons (aN.slice (e:=153) (bytes:=56) caa daa daa (fI _) pq (qq n)) aR.nil)))
   (λp=>⟨p.1,p.2.1,p.2.2.1⟩) (λp _=>⟨trivial,rfl⟩)
def Jf(x:Dt.aE)(r:Int)(h0:0<=r)(h1:r<=1048576)(h:0<=dU x r):(aK false x).fits lim:=by
 unfold dU at h;obtain⟨a0,h⟩:=aH h;have l0:=aT x.ae r h0;obtain⟨a1,h⟩:=aH h;have l1:=ba gQ mi x.aI (aA x.ae r) a0;obtain⟨a2,h⟩:=aH h;have l2:=ba bA cf x.dq (aM gQ x.aI (aA x.ae r)) a1
 have z1:(AV.ab 6 bB x.aI).fits lim:=eI (f:=gQ) mi x.aI (aA x.ae r) a0 Yt a1 (λy hy r' p q s=>Q2 y r' p q s)
 have z2:(AV.ab 3 ai x.dq).fits lim:=eI (f:=bA) cf x.dq (aM gQ x.aI (aA x.ae r)) a1 Yt a2 (λy hy r' p q s=>oV y r' p q s);simp only[AV.fits,AV.dG]at z1 z2;simp only[aK,AV.fits,AV.dG];exact⟨trivial,z1,z2,trivial⟩
instance:Inhabited Dt.bt:=⟨[],[],[],[]⟩
def rF(x:Dt.bt):List AV:=[.str x.ae,.str x.bJ,.sl false 2 (x.fArgs.map (cn false)),.sl false 1 (x.cq.map AV.str)]
def Nc{L:gaa}:fc L W rF (aP false) 4:=by
 have:aP false=λx=>.agg (rF x):=by funext x;simp only[go_sem,rF]
 rw[this];exact fc.agg λ_=>rfl
def Nn(n:Nat):aN enc prog W fN n 30 rF (λ_=>True):=by
 refine aN.mono (n:=n+1+1) ?_ Yt
 exact aN.struct (P:=prog) (t:=30) (fl:=[(9,0,1),(9,1,1),(27,2,1),(28,3,1)]) (tot:=4) caa
   (aR.cons (aN.str caa) (aR.cons (aN.str caa) (aR.cons (aN.slice (e:=179) (bytes:=32) caa daa daa (fI _) YZ (Y4 n)) (aR.cons (aN.slice (e:=9) (bytes:=16) caa daa daa (fI _) fc.str (aN.str caa)) aR.nil))))
   (λp=>⟨p.1,p.2.1,p.2.2.1,p.2.2.2.1⟩) (λp _=>⟨trivial,rfl⟩)
def L6(x:Dt.bt)(r:Int)(h0:0<=r)(h1:r<=1048576)(h:0<=fE x r):(aP false x).fits lim:=by
 unfold fE at h;obtain⟨a0,h⟩:=aH h;have l0:=aT x.ae r h0;obtain⟨a1,h⟩:=aH h;have l1:=aT x.bJ (aA x.ae r) a0;obtain⟨a2,h⟩:=aH h;have l2:=ba iQ oy x.fArgs (aA x.bJ (aA x.ae r)) a1;obtain⟨a3,h⟩:=aH h;have l3:=ba aA aT x.cq (aM iQ x.fArgs (aA x.bJ (aA x.ae r))) a2
 have z2:(AV.ab 2 cn x.fArgs).fits lim:=eI (f:=iQ) oy x.fArgs (aA x.bJ (aA x.ae r)) a1 Yt a2 (λy hy r' p q s=>Xb y r' p q s)
 have z3:(AV.al x.cq).fits lim:=eI (f:=aA) aT x.cq (aM iQ x.fArgs (aA x.bJ (aA x.ae r))) a2 Yt a3 (λ_ _ _ _ _ _=>trivial);simp only[AV.fits,AV.dG]at z2 z3;simp only[aP,AV.fits,AV.dG];exact⟨trivial,trivial,z2,z3,trivial⟩
instance:Inhabited Dt.gN:=⟨[],[]⟩
def D8(x:Dt.gN):List AV:=[.sl false 3 (x.aC.map (aK false)),.sl false 4 (x.aO.map (aP false))]
def GI(n:Nat):aN enc prog W fN n 25 D8 (λ_=>True):=by
 refine aN.mono (n:=n+1+1) ?_ Yt
 exact aN.struct (P:=prog) (t:=25) (fl:=[(22,0,1),(23,1,1)]) (tot:=2) caa
   (aR.cons (aN.slice (e:=174) (bytes:=64) caa daa daa (fI _) Ln (Lp n)) (aR.cons (aN.slice (e:=30) (bytes:=80) caa daa daa (fI _) Nc (Nn n)) aR.nil))
   (λp=>⟨p.1,p.2.1⟩) (λp _=>⟨trivial,rfl⟩)
def DV(x:Dt.gN)(r:Int)(h0:0<=r)(h1:r<=1048576)(h:0<=cw x r):(p7 false x).fits lim:=by
 unfold cw at h;obtain⟨a0,h⟩:=aH h;have l0:=ba dU jb x.aC r h0;obtain⟨a1,h⟩:=aH h;have l1:=ba fE kI x.aO (aM dU x.aC r) a0
 have z0:(AV.ab 3 aK x.aC).fits lim:=eI (f:=dU) jb x.aC r h0 Yt a0 (λy hy r' p q s=>Jf y r' p q s)
 have z1:(AV.ab 4 aP x.aO).fits lim:=eI (f:=fE) kI x.aO (aM dU x.aC r) a0 Yt a1 (λy hy r' p q s=>L6 y r' p q s);simp only[AV.fits,AV.dG]at z0 z1;simp only[p7,AV.fits,AV.dG];exact⟨z0,z1,trivial⟩
instance:Inhabited Dt.dI:=⟨[],default,[],false,0,false⟩
def qD(x:Dt.dI):List AV:=[.str x.ae,.sl false 19 (x.av.bg.map (ak false)),.sl false 3 (x.av.bk.map (ai false)),.sl false 3 (x.av.cD.map (ai false)),.v (.int .i64 x.av.iV),.sl false 3 (x.av.dL.map (bF false)),.v (.bool x.av.bh.fOn),.v (.int .i64 x.av.bh.gz),.v (.int .i64 x.av.bh.fBy),.str x.av.bh.ae,.sl false 3 (x.av.bh.dS.map (ai false)),.sl false 3 (x.fJ.map (ai false)),.v (.bool x.fUp),.v (.int .i64 x.om),.v (.bool x.oq)]
def PW{L:gaa}:fc L W qD (cm false) 15:=by
 have:cm false=λx=>.agg (qD x):=by funext x;simp only[go_sem,qD]
 rw[this];exact fc.agg λ_=>rfl
def GJ(n:Nat):aN enc prog W fN n 68 qD (λ_=>True):=by
 refine aN.mono (n:=n+1+1) ?_ Yt
 exact aN.struct (P:=prog) (t:=68) (fl:=[(9,0,1),(66,1,10),(57,11,1),(4,12,1),(3,13,1),(4,14,1)]) (tot:=15) caa
   (aR.cons (aN.str caa) (aR.cons (Td _) (aR.cons (aN.slice (e:=153) (bytes:=56) caa daa daa (fI _) pq (qq n)) (aR.cons (aN.bool caa) (aR.cons (aN.int (k:=.i64) caa) (aR.cons (aN.bool caa) aR.nil))))))
   (λp=>⟨p.1,p.2.1,p.2.2.1,p.2.2.2.1,p.2.2.2.2.1,p.2.2.2.2.2.1⟩) (λp _=>⟨trivial,rfl⟩)
def ER(x:Dt.dI)(r:Int)(h0:0<=r)(h1:r<=1048576)(h:0<=dE x r):(cm false x).fits lim:=by
 unfold dE at h;obtain⟨a0,h⟩:=aH h;have l0:=aT x.ae r h0;obtain⟨a1,h⟩:=aH h;have l1:=ru x.av (aA x.ae r) a0;obtain⟨a2,h⟩:=aH h;have l2:=ba bA cf x.fJ (jL x.av (aA x.ae r)) a1
 have z1:=Q0 x.av (aA x.ae r) a0 Yt a1
 have z2:(AV.ab 3 ai x.fJ).fits lim:=eI (f:=bA) cf x.fJ (jL x.av (aA x.ae r)) a1 Yt a2 (λy hy r' p q s=>oV y r' p q s);simp only[Bf,AV.fits,AV.dG]at z1 z2;simp only[cm,AV.fits,AV.dG];exact⟨trivial,z1.1,z1.2.1,z1.2.2.1,z1.2.2.2.1,z1.2.2.2.2.1,z1.2.2.2.2.2.1,z1.2.2.2.2.2.2.1,z1.2.2.2.2.2.2.2.1,z1.2.2.2.2.2.2.2.2.1,z1.2.2.2.2.2.2.2.2.2.1,z2,trivial,trivial,trivial,trivial⟩
instance:Inhabited Dt.jA:=⟨[],[],0⟩
def zh(x:Dt.jA):List AV:=[.str x.jt,.sl false 3 (x.eS.map (ai false)),.v (.int .i64 x.dx)]
def VT{L:gaa}:fc L W zh (bO false) 3:=by
 have:bO false=λx=>.agg (zh x):=by funext x;simp only[go_sem,zh]
 rw[this];exact fc.agg λ_=>rfl
def VX(n:Nat):aN enc prog W fN n 290 zh (λ_=>True):=by
 refine aN.mono (n:=n+1+1) ?_ Yt
 exact aN.struct (P:=prog) (t:=290) (fl:=[(9,0,1),(57,1,1),(3,2,1)]) (tot:=3) caa
   (aR.cons (aN.str caa) (aR.cons (aN.slice (e:=153) (bytes:=56) caa daa daa (fI _) pq (qq n)) (aR.cons (aN.int (k:=.i64) caa) aR.nil)))
   (λp=>⟨p.1,p.2.1,p.2.2.1⟩) (λp _=>⟨trivial,rfl⟩)
def Uq(x:Dt.jA)(r:Int)(h0:0<=r)(h1:r<=1048576)(h:0<=jZ x r):(bO false x).fits lim:=by
 unfold jZ at h;obtain⟨a0,h⟩:=aH h;have l0:=aT x.jt r h0;obtain⟨a1,h⟩:=aH h;have l1:=ba bA cf x.eS (aA x.jt r) a0
 have z1:(AV.ab 3 ai x.eS).fits lim:=eI (f:=bA) cf x.eS (aA x.jt r) a0 Yt a1 (λy hy r' p q s=>oV y r' p q s);simp only[AV.fits,AV.dG]at z1;simp only[bO,AV.fits,AV.dG];exact⟨trivial,z1,trivial,trivial⟩
instance:Inhabited Dt.gB:=⟨0,[]⟩
def Jr(x:Dt.gB):List AV:=[.v (.int .i64 x.dx),.sl false 3 (x.ck.map (bO false))]
def Cg(n:Nat):aN enc prog W fN n 97 Jr (λ_=>True):=by
 refine aN.mono (n:=n+1+1) ?_ Yt
 exact aN.struct (P:=prog) (t:=97) (fl:=[(3,0,1),(95,1,1)]) (tot:=2) caa
   (aR.cons (aN.int (k:=.i64) caa) (aR.cons (aN.slice (e:=290) (bytes:=48) caa daa daa (fI _) VT (VX n)) aR.nil))
   (λp=>⟨p.1,p.2.1⟩) (λp _=>⟨trivial,rfl⟩)
def zV(x:Dt.gB)(r:Int)(h0:0<=r)(h1:r<=1048576)(h:0<=gV x r):(uq false x).fits lim:=by
 unfold gV at h;obtain⟨a0,h⟩:=aH h;have l0:=ba jZ oL x.ck r h0
 have z0:(AV.ab 3 bO x.ck).fits lim:=eI (f:=jZ) oL x.ck r h0 Yt a0 (λy hy r' p q s=>Uq y r' p q s);simp only[AV.fits,AV.dG]at z0;simp only[uq,AV.fits,AV.dG];exact⟨trivial,z0,trivial⟩
instance:Inhabited Dt.fB:=⟨default,[],default,default,0⟩
def CP(x:Dt.fB):List AV:=[.sl false 3 (x.aY.aC.map (aK false)),.sl false 4 (x.aY.aO.map (aP false)),.sl false 15 (x.bz.map (cm false)),.v (.int .i64 x.bQ.dx),.sl false 3 (x.bQ.ck.map (bO false)),.v (.int .i64 x.eU.dx),.sl false 3 (x.eU.ck.map (bO false)),.v (.int .i64 x.pI)]
def Nq(n:Nat):aN enc prog W fN n 99 CP (λ_=>True):=by
 refine aN.mono (n:=n+1+1) ?_ Yt
 exact aN.struct (P:=prog) (t:=99) (fl:=[(25,0,2),(81,2,1),(97,3,2),(97,5,2),(3,7,1)]) (tot:=8) caa
   (aR.cons (GI _) (aR.cons (aN.slice (e:=68) (bytes:=232) caa daa daa (fI _) PW (GJ n)) (aR.cons (Cg _) (aR.cons (Cg _) (aR.cons (aN.int (k:=.i64) caa) aR.nil)))))
   (λp=>⟨p.1,p.2.1,p.2.2.1,p.2.2.2.1,p.2.2.2.2.1⟩) (λp _=>⟨trivial,rfl⟩)
def L9(x:Dt.fB)(r:Int)(h0:0<=r)(h1:r<=1048576)(h:0<=iL x r):(rC false x).fits lim:=by
 unfold iL at h;obtain⟨a0,h⟩:=aH h;have l0:=jD x.aY r h0;obtain⟨a1,h⟩:=aH h;have l1:=ba dE jv x.bz (cw x.aY r) a0;obtain⟨a2,h⟩:=aH h;have l2:=kZ x.bQ (aM dE x.bz (cw x.aY r)) a1;obtain⟨a3,h⟩:=aH h;have l3:=kZ x.eU (gV x.bQ (aM dE x.bz (cw x.aY r))) a2
 have z0:=DV x.aY r h0 Yt a0
 have z1:(AV.ab 15 cm x.bz).fits lim:=eI (f:=dE) jv x.bz (cw x.aY r) a0 Yt a1 (λy hy r' p q s=>ER y r' p q s)
 have z2:=zV x.bQ (aM dE x.bz (cw x.aY r)) a1 Yt a2
 have z3:=zV x.eU (gV x.bQ (aM dE x.bz (cw x.aY r))) a2 Yt a3;simp only[p7,uq,AV.fits,AV.dG]at z0 z1 z2 z3;simp only[rC,AV.fits,AV.dG];exact⟨z0.1,z0.2.1,z1,z2.1,z2.2.1,z3.1,z3.2.1,trivial,trivial⟩
end
section
set_option maxHeartbeats 2000000
instance(k:Int):Ctr lim prog 75 [] [.aa k] (.str (mkT k)) [] (k<=1099511627776):=by
 refine Ctr.bd func75 ntmps75 λhp=>?_
 (refine vU2 ?_ ?_<;>intro h)
 ·rw[mkT,if_pos h]
 obtain⟨n,rfl⟩:∃n:Nat,k=n:=⟨k.toNat,Yt⟩
 refine AW.aw [0,3] [] (λm xs o=>∃(j:Nat) (out:Str),xs=[.aa j,.str out]/\o=[]/\m=j/\out.length+j<=n/\wF j out=wF n []) n [] trivial ⟨n,[],?_,rfl,rfl,?_,rfl⟩ ?_
 ·rfl
 ·simp
 rintro m xs o ⟨j,out,rfl,rfl,rfl,hl,hR⟩
 (refine vU2 ?_ ?_<;>intro h)
 ·rw[Ra Yt]at hR;exact⟨_,[_,_],[],Yt,⟨m / 10,_,rfl,rfl,rfl,by simp;omega,hR⟩,by rw[show (48+((m % 10:Nat):Int)).toNat=48+m % 10 by omega];rfl,trivial⟩
 ·have:m=0:=by omega
  subst this;rw[OY]at hR;rw[mkT,if_neg Yt,Int.toNat_natCast,hR]
instance(L:gaa)[hL:Lok L](l:List Str):Ctr L prog 47 [] [.al l,.al l] (.ac true) [] True:=by
 refine Ctr.bd func47 ntmps47 λhp=>?_;refine AW.f0 0 λhf=>?_;have hf:=Nat.le_trans hf (hL.le 1)
 (refine vU1 ?_;intro h)
 refine AW.aw [5] [0,1] (λm xs o=>∃k:Nat,xs=[.aa k]/\o=[]/\m=l.length - k/\k<=l.length) l.length [] trivial ⟨0,?_,rfl,rfl,?_⟩ ?_
 ·rfl
 ·omega
 rintro m xs o ⟨k,rfl,rfl,rfl,hk⟩
 (refine vU1 ?_;intro h h)
 exact⟨_,[_],[],Yt,⟨k+1,rfl,rfl,rfl,Yt⟩,rfl,trivial⟩
theorem Fb(b:Nat)(l:List Str)(k:Int):Ctr lim prog 50 [(b,some ((l.map AV.str).flatMap AV.cells))] [.arr b 0 (l.map AV.str).length 1,.aa k] (.aa (k+l.length)) [some (((mks l.length k).map AV.str).flatMap AV.cells)] (0<=k/\k+l.length<=1099511627776):=by
 simp only[H4,length_map];refine Ctr.bd func50 ntmps50 λhp=>?_;refine vU1 ?_;refine AW.aw [1,5] [0] (λm xs o=>∃i:Nat,xs=[.aa (k+i),.aa i]/\o=[(b,some ((mkd l k i).map AV.str))]/\m=l.length - i/\i<=l.length) l.length [(b,some (l.map AV.str))] (aF rfl) ⟨0,?_,?_,rfl,?_⟩ ?_
 ·simp[T]
 ·simp[mkd,mks]
 ·omega
 rintro m xs o ⟨i,rfl,rfl,rfl,hi⟩;have hml:=Tt l k i hi
 (refine vU3 ?_ ?_ ?_<;>intro h)
 ·exact⟨_,[_,_],_,Yt,⟨i+1,by rw[show k+((i+1:Nat):Int)=k+i+1 by omega],rfl,rfl,Yt⟩,rfl,aF (P6 l k i h).symm⟩
 ·rw[show i=l.length by omega]
 ·rw[show i=l.length by omega,mkd,drop_of_length_le (Nat.le_refl _),append_nil]
instance Fa(l:List Str)(k:Int):fU lim prog 50 1 (l.map AV.str) [.aa k] (.aa (k+l.length)) ((mks l.length k).map AV.str) (0<=k/\k+l.length<=1099511627776):=by
 refine fU.of (aU 50) (λb=>Fb b l k) (λe=>?_) (by simp[pV]) (by simpa[all_eq_true]using C4 l) (by simpa[all_eq_true]using C4 (mks l.length k));have:l=[]:=by simpa using e
 subst this;refine⟨?_,rfl⟩;refine Ctr.bd func50 ntmps50 λhp=>?_;refine vU1 ?_;refine AW.aw [] [0,1,5] (λm xs o=>xs=[]/\o=[]) 0 [] trivial ⟨rfl,rfl⟩ ?_;rintro m xs o ⟨rfl,rfl⟩
 (refine vU1 ?_;intro h)
 simp
instance Fq(n:Nat)(k:Int):Ctr lim prog 51 [] [.al (mks n k),.aa k] (.aa (k+n)) [] (0<=k/\k+n<=1099511627776):=by
 refine Ctr.bd func51 ntmps51 λhp=>?_;refine vU1 ?_;refine AW.aw [1,5] [0] (λm xs o=>∃i:Nat,xs=[.aa (k+i),.aa i]/\o=[]/\m=n - i/\i<=n) n [] trivial ⟨0,?_,rfl,rfl,?_⟩ ?_
 ·simp[T]
 ·omega
 rintro m xs o ⟨i,rfl,rfl,rfl,hi⟩;have hml:=pV n k
 have hat:=NI n k i
 (refine vU3 ?_ ?_ ?_<;>with_reducible repeat intro h)
 ·exact absurd (hat Yt) h
 ·exact⟨_,[_,_],_,Yt,⟨i+1,by rw[show k+((i+1:Nat):Int)=k+i+1 by omega],rfl,rfl,Yt⟩,rfl,trivial⟩
 ·rw[show i=n by omega]
end
def Vs{L:gaa}{P:Program}{c:Code}{n:Nat}{t:faa}{o:Sto}{Q:Exit->AS->Prop}(i:Nat){own:Bool}{l:List Str}(hi:T t i=.sl own 1 (l.map AV.str))(h:(∀k,k<l.length->(at_ l k).length<=4611686018427387904)->AW L P c ⟨n,t,o⟩ Q):AW L P c ⟨n,t,o⟩ Q:=by
 intro B F0 w0 a w hd;refine h (λk hk=>?_) B F0 w0 a w hd;obtain⟨F,ow,fp,fs,h⟩:=hd;have hr:=h.slots i;simp only at hr;rw[hi]at hr;simp only[Rep]at hr;rcases hr with⟨_,e,_⟩|⟨b,off,cap,vals,fp',_,_,_,_,he,_⟩
 ·have:l=[]:=by simpa using e
  subst this;simp at hk
 ·obtain⟨y,f,_,_,hr,_⟩:=he.get (i:=k) (x:=.str (at_ l k)) (by rw[getElem?_map,vo hk];rfl);simp only[Rep]at hr;exact hr.2.1
instance(L:gaa)[hL:Lok L](l:List Str)(r:Int):Ctr L prog 56 [] [.al l,.aa r] (.aa (aM aA l r)) [] (0<=r/\r<=1048576):=by
 refine Ctr.bd func56 ntmps56 λhp=>?_;refine Vs 0 rfl λhfs=>?_;refine AW.f0 0 λhf=>?_;have hf:=Nat.le_trans hf (hL.le 1)
 (refine vU2 ?_ ?_<;>intro h)
 ·rw[fM h]
 rw[fY h];refine AW.aw [1,5] [0] (λm xs o=>∃(k:Nat) (q:Int),xs=[.aa q,.aa k]/\o=[]/\m=l.length - k/\k<=l.length/\0<=q/\q<=1048576/\eH aA (l.drop k) q=eH aA l (r - l.length)) l.length [] trivial ⟨0,_,?_,rfl,rfl,?_,?_,?_,rfl⟩ ?_
 ·rfl
 ·omega
 ·omega
 ·omega
 rintro m xs o ⟨k,q,rfl,rfl,rfl,hk,h0,h1,hR⟩;have hle:=aT (at_ l k) q h0
 have hse:=hfs k
 have hsz:aA (at_ l k) q=q - (at_ l k).length:=rfl
 (refine vU3 ?_ ?_ ?_<;>with_reducible repeat intro h)
 ·rw[fw baa,if_pos (by first|exact h|(rw[hsz];exact h))]at hR;rw[hR]
 ·rw[fw baa,if_neg Yt]at hR;exact⟨_,[_,_],[],Yt,⟨k+1,_,rfl,rfl,rfl,Yt,Yt,Yt,hR⟩,rfl,trivial⟩
 ·rw[jm h]at hR;rw[hR]
instance(l:List Str):Ctr lim prog 64 [] [.al l] (.am l) [] True:=by
 refine Ctr.bd func64 ntmps64 λhp=>?_;refine AW.f0 0 λhf=>?_
 (refine vU1 ?_;intro h)
 refine AW.aw [4] [0,3] (λm xs o=>∃k:Nat,xs=[.aa k]/\o=[(h,some (mkC AV.str [.string ⟨#[]⟩] l k))]/\m=l.length - k/\k<=l.length) l.length [(h,some (mkC AV.str [.string ⟨#[]⟩] l 0))] (aF (iS _ _ _)) ⟨0,?_,rfl,rfl,?_⟩ ?_
 ·rfl
 ·omega
 rintro m xs o ⟨k,rfl,rfl,rfl,hk⟩;have hml:=jN AV.str [.string ⟨#[]⟩] 1 (λ_=>rfl) rfl l k hk
 (refine vX2 ?_ ?_<;>intro h)
 ·exact⟨_,[_],_,Yt,⟨k+1,rfl,rfl,rfl,Yt⟩,rfl,aF (by have:=lB AV.str [.string ⟨#[]⟩] 1 (λ_=>rfl) rfl l k h;simp only[go_sem,Nat.mul_one]at this ⊢;exact this.symm)⟩
 ·refine AW.made 2 rfl h hk (λ_=>rfl) ?_
  all_goals exact uU
instance(L:gaa)[hL:Lok L](x:ed):Ctr L prog 260 [] [.agg [.aa x.fLo,.aa x.fHi],.agg [.aa x.fLo,.aa x.fHi]] (.ac true) [] True:=by
 refine Ctr.bd func260 ntmps260 λhp=>?_
 all_goals exact uU
instance(L:gaa)[hL:Lok L](l:List ed):Ctr L prog 203 [] [.ab 2 aW l,.ab 2 aW l] (.ac true) [] True:=by
 refine Ctr.bd func203 ntmps203 λhp=>?_;refine AW.f0 0 λhf=>?_;have hf:=Nat.le_trans hf (hL.le 2)
 (refine vU1 ?_;intro h)
 refine AW.aw [5] [0,1] (λm xs o=>∃k:Nat,xs=[.aa k]/\o=[]/\m=l.length - k/\k<=l.length) l.length [] trivial ⟨0,?_,rfl,rfl,?_⟩ ?_
 ·rfl
 ·omega
 rintro m xs o ⟨k,rfl,rfl,rfl,hk⟩
 (refine vU1 ?_;intro h h)
 exact⟨_,[_],[],Yt,⟨k+1,rfl,rfl,rfl,Yt⟩,rfl,trivial⟩
def BG:∀(l:List ed) (r:Int),0<=r->eH gP l r=r
 | [],_,_=>rfl
 | x::xs,r,h=>by
  rw[eH,show gP x r=r from rfl,thn,if_neg Yt];exact BG xs r h
instance(L:gaa)[hL:Lok L](l:List ed)(r:Int):Ctr L prog 162 [] [.ab 2 aW l,.aa r] (.aa (aM gP l r)) [] (0<=r/\r<=1048576):=by
 refine Ctr.bd func162 ntmps162 λhp=>?_;refine AW.f0 0 λhf=>?_;have hf:=Nat.le_trans hf (hL.le 2)
 (refine vU2 ?_ ?_<;>intro h)
 ·rw[fM h]
 ·rw[fY h,BG _ _ h]
instance(x:ed):Ctr lim prog 238 [] [.agg [.aa x.fLo,.aa x.fHi]] (.agg [.aa x.fLo,.aa x.fHi]) [] True:=by
 refine Ctr.bd func238 ntmps238 λhp=>?_
 all_goals exact uU
instance(l:List ed):Ctr lim prog 182 [] [.ab 2 aW l] (.ad 2 aW l) [] True:=by
 refine Ctr.bd func182 ntmps182 λhp=>?_;refine AW.f0 0 λhf=>?_
 (refine vU1 ?_;intro h)
 refine AW.aw [4] [0,3] (λm xs o=>∃k:Nat,xs=[.aa k]/\o=[(h,some (mkC (aW true) [.int .i64 0,.int .i64 0] l k))]/\m=l.length - k/\k<=l.length) l.length [(h,some (mkC (aW true) [.int .i64 0,.int .i64 0] l 0))] (aF (iS _ _ _)) ⟨0,?_,rfl,rfl,?_⟩ ?_
 ·rfl
 ·omega
 rintro m xs o ⟨k,rfl,rfl,rfl,hk⟩;have hml:=jN (aW true) [.int .i64 0,.int .i64 0] 2 (λ_=>rfl) rfl l k hk
 (refine vX2 ?_ ?_<;>intro h)
 ·exact⟨_,[_],_,Yt,⟨k+1,rfl,rfl,rfl,Yt⟩,rfl,aF (by have:=lB (aW true) [.int .i64 0,.int .i64 0] 2 (λ_=>rfl) rfl l k h;simp only[go_sem,Nat.mul_one]at this ⊢;exact this.symm)⟩
 ·refine AW.made 2 rfl h hk (λ_=>rfl) ?_
  all_goals exact uU
instance(L:gaa)[hL:Lok L](x:dB):Ctr L prog 134 [] [.agg [.aa x.aj,.ab 2 aW x.az,.al x.aB,.str x.aZ,.str x.aG],.agg [.aa x.aj,.ab 2 aW x.az,.al x.aB,.str x.aZ,.str x.aG]] (.ac true) [] True:=by
 refine Ctr.bd func134 ntmps134 λhp=>?_
 all_goals exact uU
instance(L:gaa)[hL:Lok L](x:dB)(r:Int):Ctr L prog 105 [] [.agg [.aa x.aj,.ab 2 aW x.az,.al x.aB,.str x.aZ,.str x.aG],.aa r] (.aa (eC x r)) [] (0<=r/\r<=1048576):=by
 refine Ctr.bd func105 ntmps105 λhp=>?_;refine AW.f0 0 λhf=>?_;have le0:=ba gP o6 x.az r
 have le1:=ba aA aT x.aB (aM gP x.az r);unfold eC
 ((refine vU5 ?_ ?_ ?_ ?_ ?_<;>with_reducible repeat intro h);all_goals simp only[thn,aA,id];all_goals refine congrArg (λz=>AV.aa z) ?_;all_goals (repeat' split);all_goals omega)
instance(x:dB):Ctr lim prog 118 [] [.agg [.aa x.aj,.ab 2 aW x.az,.al x.aB,.str x.aZ,.str x.aG]] (.agg [.aa x.aj,.ad 2 aW x.az,.am x.aB,.str x.aZ,.str x.aG]) [] True:=by
 refine Ctr.bd func118 ntmps118 λhp=>?_
 all_goals exact uU
def ah.dH{x:ah}{l:List ah}(h:x∈l):SizeOf.sizeOf x.af<SizeOf.sizeOf l:=by have:=sizeOf_lt_of_mem h;cases x;simp[ah.af]at *;omega
theorem Q5(L:gaa)[hL:Lok L](n:Nat)(ih:∀l:List ah,Ctr L prog 16 [] [.ab 3 ai l,.ab 3 ai l] (.ac true) [] (SizeOf.sizeOf l<n))(x:ah):Ctr L prog 68 [] [.agg [.str x.ae,.str x.aq,.ab 3 ai x.af],.agg [.str x.ae,.str x.aq,.ab 3 ai x.af]] (.ac true) [] (SizeOf.sizeOf x.af<n):=by
 refine Ctr.bd func68 ntmps68 λhp=>?_
 all_goals exact uU
theorem ET(L:gaa)[hL:Lok L]:∀(n:Nat) (l:List ah),Ctr L prog 16 [] [.ab 3 ai l,.ab 3 ai l] (.ac true) [] (SizeOf.sizeOf l<n)
 | 0,l=>⟨(aU 16),λh=>absurd h (Nat.not_lt_zero _)⟩
 | n+1,l=>by
  have hx:=Q5 L n (ET L n);refine Ctr.bd func16 ntmps16 λhp=>?_;refine AW.f0 0 λhf=>?_;have hf:=Nat.le_trans hf (hL.le 3)
  (refine vU1 ?_;intro h)
  refine AW.aw [5] [0,1] (λm xs o=>∃k:Nat,xs=[.aa k]/\o=[]/\m=l.length - k/\k<=l.length) l.length [] trivial ⟨0,?_,rfl,rfl,?_⟩ ?_
  ·rfl
  ·omega
  rintro m xs o ⟨k,rfl,rfl,rfl,hk⟩;have hkk:k<l.length->SizeOf.sizeOf (at_ l k).af<n:=λh=>by have:=ah.dH (at_mem h);omega
  (refine vU1 ?_;intro h h)
  exact⟨_,[_],[],Yt,⟨k+1,rfl,rfl,rfl,Yt⟩,rfl,trivial⟩
instance(L:gaa)[hL:Lok L](l:List ah):Ctr L prog 16 [] [.ab 3 ai l,.ab 3 ai l] (.ac true) [] True:=⟨(aU 16),λ_=>(ET L (SizeOf.sizeOf l+1) l).out (Nat.lt_succ_self _)⟩
theorem Pw(L:gaa)[hL:Lok L](n:Nat)(ih:∀(l:List ah) (r:Int),Ctr L prog 25 [] [.ab 3 ai l,.aa r] (.aa (aM bA l r)) [] (SizeOf.sizeOf l<n/\0<=r/\r<=1048576))(x:ah)(r:Int):Ctr L prog 79 [] [.agg [.str x.ae,.str x.aq,.ab 3 ai x.af],.aa r] (.aa (bA x r)) [] (SizeOf.sizeOf x.af<n/\0<=r/\r<=1048576):=by
 refine Ctr.bd func79 ntmps79 λhp=>?_;refine AW.f0 0 λhf=>?_;have le2:=ba bA cf x.af ((r - x.ae.length) - x.aq.length);rw[xh]
 ((refine vU4 ?_ ?_ ?_ ?_<;>with_reducible repeat intro h);all_goals simp only[thn,aA,id];all_goals refine congrArg (λz=>AV.aa z) ?_;all_goals (repeat' split);all_goals omega)
theorem Ei(L:gaa)[hL:Lok L]:∀(n:Nat) (l:List ah) (r:Int),Ctr L prog 25 [] [.ab 3 ai l,.aa r] (.aa (aM bA l r)) [] (SizeOf.sizeOf l<n/\0<=r/\r<=1048576)
 | 0,l,r=>⟨(aU 25),λh=>absurd h.1 (Nat.not_lt_zero _)⟩
 | n+1,l,r=>by
  have hx:=Pw L n (Ei L n);refine Ctr.bd func25 ntmps25 λhp=>?_;refine AW.f0 0 λhf=>?_;have hf:=Nat.le_trans hf (hL.le 3)
  (refine vU2 ?_ ?_<;>intro h)
  ·rw[fM h]
  rw[fY h];refine AW.aw [1,5] [0] (λm xs o=>∃(k:Nat) (q:Int),xs=[.aa q,.aa k]/\o=[]/\m=l.length - k/\k<=l.length/\0<=q/\q<=1048576/\eH bA (l.drop k) q=eH bA l (r - l.length)) l.length [] trivial ⟨0,_,?_,rfl,rfl,?_,?_,?_,rfl⟩ ?_
  ·rfl
  ·omega
  ·omega
  ·omega
  rintro m xs o ⟨k,q,rfl,rfl,rfl,hk,h0,h1,hR⟩;have hle:=cf (at_ l k) q h0
  have hkk:k<l.length->SizeOf.sizeOf (at_ l k).af<n:=λh=>by have:=ah.dH (at_mem h);omega
  (refine vU3 ?_ ?_ ?_<;>with_reducible repeat intro h)
  ·rw[fw baa,if_pos (by first|exact h|(rw[hsz];exact h))]at hR;rw[hR]
  ·rw[fw baa,if_neg Yt]at hR;exact⟨_,[_,_],[],Yt,⟨k+1,_,rfl,rfl,rfl,Yt,Yt,Yt,hR⟩,rfl,trivial⟩
  ·rw[jm h]at hR;rw[hR]
instance(L:gaa)[hL:Lok L](l:List ah)(r:Int):Ctr L prog 25 [] [.ab 3 ai l,.aa r] (.aa (aM bA l r)) [] (0<=r/\r<=1048576):=⟨(aU 25),λh=>(Ei L (SizeOf.sizeOf l+1) l r).out ⟨Nat.lt_succ_self _,h⟩⟩
theorem Ps(n:Nat)(ih:∀l:List ah,Ctr lim prog 27 [] [.ab 3 ai l] (.ad 3 ai l) [] (SizeOf.sizeOf l<n))(x:ah):Ctr lim prog 86 [] [.agg [.str x.ae,.str x.aq,.ab 3 ai x.af]] (.agg [.str x.ae,.str x.aq,.ad 3 ai x.af]) [] (SizeOf.sizeOf x.af<n):=by
 refine Ctr.bd func86 ntmps86 λhp=>?_
 all_goals exact uU
theorem Eg:∀(n:Nat) (l:List ah),Ctr lim prog 27 [] [.ab 3 ai l] (.ad 3 ai l) [] (SizeOf.sizeOf l<n)
 | 0,l=>⟨(aU 27),λh=>absurd h (Nat.not_lt_zero _)⟩
 | n+1,l=>by
  have hx:=Ps n (Eg n);refine Ctr.bd func27 ntmps27 λhp=>?_;refine AW.f0 0 λhf=>?_
  (refine vU1 ?_;intro h)
  refine AW.aw [4] [0,3] (λm xs o=>∃k:Nat,xs=[.aa k]/\o=[(h,some (mkC (ai true) [.string ⟨#[]⟩,.string ⟨#[]⟩,.slice none 0 0] l k))]/\m=l.length - k/\k<=l.length) l.length [(h,some (mkC (ai true) [.string ⟨#[]⟩,.string ⟨#[]⟩,.slice none 0 0] l 0))] (aF (iS _ _ _)) ⟨0,?_,rfl,rfl,?_⟩ ?_
  ·rfl
  ·omega
  rintro m xs o ⟨k,rfl,rfl,rfl,hk⟩;have hml:=jN (ai true) [.string ⟨#[]⟩,.string ⟨#[]⟩,.slice none 0 0] 3 (λx=>by rw[bW];rfl) rfl l k hk
  have hkk:k<l.length->SizeOf.sizeOf (at_ l k).af<n:=λh=>by have:=ah.dH (at_mem h);omega
  (refine vX2 ?_ ?_<;>intro h)
  ·exact⟨_,[_],_,Yt,⟨k+1,rfl,rfl,rfl,Yt⟩,rfl,aF (by have:=lB (ai true) [.string ⟨#[]⟩,.string ⟨#[]⟩,.slice none 0 0] 3 (λx=>by rw[bW];rfl) rfl l k h;simp only[go_sem,Nat.mul_one]at this ⊢;exact this.symm)⟩
  ·refine AW.made 2 rfl h hk (λx=>by rw[bW];rfl) ?_
   all_goals exact uU
instance(l:List ah):Ctr lim prog 27 [] [.ab 3 ai l] (.ad 3 ai l) [] True:=⟨(aU 27),λ_=>(Eg (SizeOf.sizeOf l+1) l).out (Nat.lt_succ_self _)⟩
instance(L:gaa)[hL:Lok L](x:bR):Ctr L prog 259 [] [.agg [.str x.ae,.aa x.fType.aj,.ab 2 aW x.fType.az,.al x.fType.aB,.str x.fType.aZ,.str x.fType.aG],.agg [.str x.ae,.aa x.fType.aj,.ab 2 aW x.fType.az,.al x.fType.aB,.str x.fType.aZ,.str x.fType.aG]] (.ac true) [] True:=by
 refine Ctr.bd func259 ntmps259 λhp=>?_
 all_goals exact uU
instance(L:gaa)[hL:Lok L](l:List bR):Ctr L prog 202 [] [.ab 6 bB l,.ab 6 bB l] (.ac true) [] True:=by
 refine Ctr.bd func202 ntmps202 λhp=>?_;refine AW.f0 0 λhf=>?_;have hf:=Nat.le_trans hf (hL.le 6)
 (refine vU1 ?_;intro h)
 refine AW.aw [5] [0,1] (λm xs o=>∃k:Nat,xs=[.aa k]/\o=[]/\m=l.length - k/\k<=l.length) l.length [] trivial ⟨0,?_,rfl,rfl,?_⟩ ?_
 ·rfl
 ·omega
 rintro m xs o ⟨k,rfl,rfl,rfl,hk⟩
 (refine vU1 ?_;intro h h)
 exact⟨_,[_],[],Yt,⟨k+1,rfl,rfl,rfl,Yt⟩,rfl,trivial⟩
instance(L:gaa)[hL:Lok L](x:bR)(r:Int):Ctr L prog 221 [] [.agg [.str x.ae,.aa x.fType.aj,.ab 2 aW x.fType.az,.al x.fType.aB,.str x.fType.aZ,.str x.fType.aG],.aa r] (.aa (gQ x r)) [] (0<=r/\r<=1048576):=by
 refine Ctr.bd func221 ntmps221 λhp=>?_;refine AW.f0 0 λhf=>?_;have le1:=mR x.fType (r - x.ae.length);unfold gQ
 ((refine vU3 ?_ ?_ ?_<;>with_reducible repeat intro h);all_goals simp only[thn,aA,id];all_goals refine congrArg (λz=>AV.aa z) ?_;all_goals (repeat' split);all_goals omega)
instance(L:gaa)[hL:Lok L](l:List bR)(r:Int):Ctr L prog 161 [] [.ab 6 bB l,.aa r] (.aa (aM gQ l r)) [] (0<=r/\r<=1048576):=by
 refine Ctr.bd func161 ntmps161 λhp=>?_;refine AW.f0 0 λhf=>?_;have hf:=Nat.le_trans hf (hL.le 6)
 (refine vU2 ?_ ?_<;>intro h)
 ·rw[fM h]
 rw[fY h];refine AW.aw [1,5] [0] (λm xs o=>∃(k:Nat) (q:Int),xs=[.aa q,.aa k]/\o=[]/\m=l.length - k/\k<=l.length/\0<=q/\q<=1048576/\eH gQ (l.drop k) q=eH gQ l (r - l.length)) l.length [] trivial ⟨0,_,?_,rfl,rfl,?_,?_,?_,rfl⟩ ?_
 ·rfl
 ·omega
 ·omega
 ·omega
 rintro m xs o ⟨k,q,rfl,rfl,rfl,hk,h0,h1,hR⟩;have hle:=mi (at_ l k) q h0
 (refine vU3 ?_ ?_ ?_<;>with_reducible repeat intro h)
 ·rw[fw baa,if_pos (by first|exact h|(rw[hsz];exact h))]at hR;rw[hR]
 ·rw[fw baa,if_neg Yt]at hR;exact⟨_,[_,_],[],Yt,⟨k+1,_,rfl,rfl,rfl,Yt,Yt,Yt,hR⟩,rfl,trivial⟩
 ·rw[jm h]at hR;rw[hR]
instance(x:bR):Ctr lim prog 237 [] [.agg [.str x.ae,.aa x.fType.aj,.ab 2 aW x.fType.az,.al x.fType.aB,.str x.fType.aZ,.str x.fType.aG]] (.agg [.str x.ae,.aa x.fType.aj,.ad 2 aW x.fType.az,.am x.fType.aB,.str x.fType.aZ,.str x.fType.aG]) [] True:=by
 refine Ctr.bd func237 ntmps237 λhp=>?_
 all_goals exact uU
instance(l:List bR):Ctr lim prog 181 [] [.ab 6 bB l] (.ad 6 bB l) [] True:=by
 refine Ctr.bd func181 ntmps181 λhp=>?_;refine AW.f0 0 λhf=>?_
 (refine vU1 ?_;intro h)
 refine AW.aw [4] [0,3] (λm xs o=>∃k:Nat,xs=[.aa k]/\o=[(h,some (mkC (bB true) [.string ⟨#[]⟩,.int .i64 0,.slice none 0 0,.slice none 0 0,.string ⟨#[]⟩,.string ⟨#[]⟩] l k))]/\m=l.length - k/\k<=l.length) l.length [(h,some (mkC (bB true) [.string ⟨#[]⟩,.int .i64 0,.slice none 0 0,.slice none 0 0,.string ⟨#[]⟩,.string ⟨#[]⟩] l 0))] (aF (iS _ _ _)) ⟨0,?_,rfl,rfl,?_⟩ ?_
 ·rfl
 ·omega
 rintro m xs o ⟨k,rfl,rfl,rfl,hk⟩;have hml:=jN (bB true) [.string ⟨#[]⟩,.int .i64 0,.slice none 0 0,.slice none 0 0,.string ⟨#[]⟩,.string ⟨#[]⟩] 6 (λ_=>rfl) rfl l k hk
 (refine vX2 ?_ ?_<;>intro h)
 ·exact⟨_,[_],_,Yt,⟨k+1,rfl,rfl,rfl,Yt⟩,rfl,aF (by have:=lB (bB true) [.string ⟨#[]⟩,.int .i64 0,.slice none 0 0,.slice none 0 0,.string ⟨#[]⟩,.string ⟨#[]⟩] 6 (λ_=>rfl) rfl l k h;simp only[go_sem,Nat.mul_one]at this ⊢;exact this.symm)⟩
 ·refine AW.made 2 rfl h hk (λ_=>rfl) ?_
  all_goals exact uU
instance(L:gaa)[hL:Lok L](x:aE):Ctr L prog 133 [] [.agg [.str x.ae,.ab 6 bB x.aI,.ab 3 ai x.dq],.agg [.str x.ae,.ab 6 bB x.aI,.ab 3 ai x.dq]] (.ac true) [] True:=by
 refine Ctr.bd func133 ntmps133 λhp=>?_
 all_goals exact uU
instance(L:gaa)[hL:Lok L](l:List aE):Ctr L prog 69 [] [.ab 3 aK l,.ab 3 aK l] (.ac true) [] True:=by
 refine Ctr.bd func69 ntmps69 λhp=>?_;refine AW.f0 0 λhf=>?_;have hf:=Nat.le_trans hf (hL.le 3)
 (refine vU1 ?_;intro h)
 refine AW.aw [5] [0,1] (λm xs o=>∃k:Nat,xs=[.aa k]/\o=[]/\m=l.length - k/\k<=l.length) l.length [] trivial ⟨0,?_,rfl,rfl,?_⟩ ?_
 ·rfl
 ·omega
 rintro m xs o ⟨k,rfl,rfl,rfl,hk⟩
 (refine vU1 ?_;intro h h)
 exact⟨_,[_],[],Yt,⟨k+1,rfl,rfl,rfl,Yt⟩,rfl,trivial⟩
instance(L:gaa)[hL:Lok L](x:aE)(r:Int):Ctr L prog 104 [] [.agg [.str x.ae,.ab 6 bB x.aI,.ab 3 ai x.dq],.aa r] (.aa (dU x r)) [] (0<=r/\r<=1048576):=by
 refine Ctr.bd func104 ntmps104 λhp=>?_;refine AW.f0 0 λhf=>?_;have le1:=ba gQ mi x.aI (r - x.ae.length)
 have le2:=ba bA cf x.dq (aM gQ x.aI (r - x.ae.length));unfold dU
 ((refine vU4 ?_ ?_ ?_ ?_<;>with_reducible repeat intro h);all_goals simp only[thn,aA,id];all_goals refine congrArg (λz=>AV.aa z) ?_;all_goals (repeat' split);all_goals omega)
instance(L:gaa)[hL:Lok L](l:List aE)(r:Int):Ctr L prog 52 [] [.ab 3 aK l,.aa r] (.aa (aM dU l r)) [] (0<=r/\r<=1048576):=by
 refine Ctr.bd func52 ntmps52 λhp=>?_;refine AW.f0 0 λhf=>?_;have hf:=Nat.le_trans hf (hL.le 3)
 (refine vU2 ?_ ?_<;>intro h)
 ·rw[fM h]
 rw[fY h];refine AW.aw [1,5] [0] (λm xs o=>∃(k:Nat) (q:Int),xs=[.aa q,.aa k]/\o=[]/\m=l.length - k/\k<=l.length/\0<=q/\q<=1048576/\eH dU (l.drop k) q=eH dU l (r - l.length)) l.length [] trivial ⟨0,_,?_,rfl,rfl,?_,?_,?_,rfl⟩ ?_
 ·rfl
 ·omega
 ·omega
 ·omega
 rintro m xs o ⟨k,q,rfl,rfl,rfl,hk,h0,h1,hR⟩;have hle:=jb (at_ l k) q h0
 (refine vU3 ?_ ?_ ?_<;>with_reducible repeat intro h)
 ·rw[fw baa,if_pos (by first|exact h|(rw[hsz];exact h))]at hR;rw[hR]
 ·rw[fw baa,if_neg Yt]at hR;exact⟨_,[_,_],[],Yt,⟨k+1,_,rfl,rfl,rfl,Yt,Yt,Yt,hR⟩,rfl,trivial⟩
 ·rw[jm h]at hR;rw[hR]
instance(x:aE):Ctr lim prog 117 [] [.agg [.str x.ae,.ab 6 bB x.aI,.ab 3 ai x.dq]] (.agg [.str x.ae,.ad 6 bB x.aI,.ad 3 ai x.dq]) [] True:=by
 refine Ctr.bd func117 ntmps117 λhp=>?_
 all_goals exact uU
instance(l:List aE):Ctr lim prog 60 [] [.ab 3 aK l] (.ad 3 aK l) [] True:=by
 refine Ctr.bd func60 ntmps60 λhp=>?_;refine AW.f0 0 λhf=>?_
 (refine vU1 ?_;intro h)
 refine AW.aw [4] [0,3] (λm xs o=>∃k:Nat,xs=[.aa k]/\o=[(h,some (mkC (aK true) [.string ⟨#[]⟩,.slice none 0 0,.slice none 0 0] l k))]/\m=l.length - k/\k<=l.length) l.length [(h,some (mkC (aK true) [.string ⟨#[]⟩,.slice none 0 0,.slice none 0 0] l 0))] (aF (iS _ _ _)) ⟨0,?_,rfl,rfl,?_⟩ ?_
 ·rfl
 ·omega
 rintro m xs o ⟨k,rfl,rfl,rfl,hk⟩;have hml:=jN (aK true) [.string ⟨#[]⟩,.slice none 0 0,.slice none 0 0] 3 (λ_=>rfl) rfl l k hk
 (refine vX2 ?_ ?_<;>intro h)
 ·exact⟨_,[_],_,Yt,⟨k+1,rfl,rfl,rfl,Yt⟩,rfl,aF (by have:=lB (aK true) [.string ⟨#[]⟩,.slice none 0 0,.slice none 0 0] 3 (λ_=>rfl) rfl l k h;simp only[go_sem,Nat.mul_one]at this ⊢;exact this.symm)⟩
 ·refine AW.made 2 rfl h hk (λ_=>rfl) ?_
  all_goals exact uU
end Go.Proofs
namespace Go.Ab
end Go.Ab
namespace Go.Proofs
open Go.Ab Go.Dt
attribute [go_sem] w8 bu
instance(x:dB):Ctr lim prog 184 [] [.agg [.aa x.aj,.ab 2 aW x.az,.al x.aB,.str x.aZ,.str x.aG]] (.ac (isType dV x)) [] True:=Ov dV x
instance(x:dB):Ctr lim prog 165 [] [.agg [.aa x.aj,.ab 2 aW x.az,.al x.aB,.str x.aZ,.str x.aG]] (.ac (isType dV x)) [] True:=MY dV x
instance(x:aE):Ctr lim prog 123 [] [.agg [.str x.ae,.ab 6 bB x.aI,.ab 3 ai x.dq]] (.ac (dF dV x)) [] (wt x.dq<=1048576/\x.aI.length<=1048576):=Fp dV x
instance(x:aE):Ctr lim prog 108 [] [.agg [.str x.ae,.ab 6 bB x.aI,.ab 3 ai x.dq]] (.ac (dF dV x)) [] (wt x.dq<=1048576/\x.aI.length<=1048576):=E9 dV x
end Go.Proofs
namespace Go.Dt
open Go.Ab
def cvB(x:dB)(s:Str):Bool:=isType dV x && cvO Lt x s
def cvS(x:dB)(s:Str):Str:=bif cvB x s then cvT x s else []
def FJ{x:dB}{s:Str}(h:cvB x s=false):AV.tup [.str [],.ac false]=.tup [.str (cvS x s),.ac (cvB x s)]:=by rw[cvS,h];rfl
def Iu{x:dB}{s t:Str}(h:cvB x s=true)(e:cvT x s=t):AV.tup [.str t,.ac true]=.tup [.str (cvS x s),.ac (cvB x s)]:=by rw[cvS,h,<- e];rfl
def EY{l:List Str}{k:Nat}{s:Str}(h:k<l.length):(cont (l.take k) s || at_ l k == s)=cont (l.take (k+1)) s:=by
 have e:l.take (k+1)=l.take k++[at_ l k]:=by
  rw[take_succ_eq_append_getElem h];unfold at_;rw[getElem?_eq_getElem h];rfl
 rw[Bool.eq_iff_iff,Bool.or_eq_true,iW,iW,e];rw[mem_append,mem_singleton,beq_iff_eq,eq_comm (a:=at_ l k)]
end Go.Dt
namespace Go.Proofs
open Go.Ab Go.Dt
instance(x:dB)(s:Str):Ctr lim prog 128 [] [.agg [.aa x.aj,.ab 2 aW x.az,.al x.aB,.str x.aZ,.str x.aG],.str s] (.tup [.str (cvS x s),.ac (cvB x s)]) [] (s.length<=1048576):=by
 have hr:=yI s;refine Ctr.bd func128 ntmps128 λhp=>?_
 (repeat' first|(with_reducible first|refine Z ?_|refine Y ?_|(refine hK _ _ ?_;clear hK K)|refine And.intro ?_ ?_|exact Ct|intro(K:_->_->Prop) hK|(refine gI λhg=>?_;try simp only[hC,reduceCtorEq]at hg;try simp only[hg]))|(refine AW.i rfl (λh=>?_) (λh=>?_)<;>try simp only[hC,reduceCtorEq]at h)|((with_reducible refine E ?_;repeat refine Y ?_);refine eF rfl ?_)|simp(disch:=omega)only[go_sem,cond_true]|(with_reducible intro hg;try simp only[hC,reduceCtorEq]at hg)|exact Cl|fail)
 all_goals try first|(refine FJ ?_;simp_all [cvB,cvO,tW,vB,sJ];done)|(refine Iu ?_ ?_<;>simp_all [cvB,cvO,cvT,tW,vB,sJ];done)
instance(x:dB)(s:Str):Ctr lim prog 111 [] [.agg [.aa x.aj,.ab 2 aW x.az,.al x.aB,.str x.aZ,.str x.aG],.str s] (.tup [.str (cvS x s),.ac (cvB x s)]) [] (s.length<=1048576):=by
 have hr:=yI s;refine Ctr.bd func111 ntmps111 λhp=>?_
 (repeat' first|(with_reducible first|refine Z ?_|refine Y ?_|(refine hK _ _ ?_;clear hK K)|refine And.intro ?_ ?_|exact Ct|intro(K:_->_->Prop) hK|(refine gI λhg=>?_;try simp only[hC,reduceCtorEq]at hg;try simp only[hg]))|(refine AW.i rfl (λh=>?_) (λh=>?_)<;>try simp only[hC,reduceCtorEq]at h)|((with_reducible refine E ?_;repeat refine Y ?_);refine eF rfl ?_)|simp(disch:=omega)only[go_sem,cond_true]|(with_reducible intro hg;try simp only[hC,reduceCtorEq]at hg)|exact Cl|fail)
 all_goals try first|(refine FJ ?_;cases e:isType dV x<;>simp_all [cvB,cvO,tW,vB,sJ];done)|(refine Iu ?_ ?_<;>simp_all [cvB,cvO,cvT,tW,vB,sJ];done)
 refine AW.f0 0 λhf=>?_;refine AW.aw [7,10] [1,2,6] (λm xs o=>∃k:Nat,xs=[.ac (cont (x.aB.take k) s),.aa k]/\o=[]/\m=x.aB.length - k/\k<=x.aB.length) x.aB.length [] trivial ⟨0,?_,rfl,rfl,?_⟩ ?_
 ·rfl
 ·omega
 rintro m xs o ⟨k,rfl,rfl,rfl,hk⟩
 (repeat' first|(with_reducible first|refine Z ?_|refine Y ?_|(refine hK _ _ ?_;clear hK K)|refine And.intro ?_ ?_|exact Ct|intro(K:_->_->Prop) hK|(refine gI λhg=>?_;try simp only[hC,reduceCtorEq]at hg;try simp only[hg]))|(refine AW.i rfl (λh=>?_) (λh=>?_)<;>try simp only[hC,reduceCtorEq]at h)|((with_reducible refine E ?_;repeat refine Y ?_);refine eF rfl ?_)|simp(disch:=omega)only[go_sem,cond_true]|(with_reducible intro hg;try simp only[hC,reduceCtorEq]at hg)|exact Cl|fail)
 ·exact⟨_,[_,_],[],Yt,⟨k+1,rfl,rfl,rfl,Yt⟩,by rw[EY baa];rfl,trivial⟩
 ·rw[take_of_length_le Yt]at h;refine FJ ?_;cases e:isType dV x<;>simp_all [cvB,cvO]
 ·rw[take_of_length_le Yt]at h;refine Iu ?_ ?_<;>simp_all [cvB,cvO,cvT]
 ·refine FJ ?_;cases e:isType dV x<;>by_cases e2:s=[]<;>simp_all [cvB,cvO]
end Go.Proofs
namespace Go.Dt
open Go Go.Ab
def isVal(x:dB)(s:Str):Bool:=cvB x s && cvS x s == s
open Go.Ab
def rq(x:fS):Bool:=isName x.ae && isText x.aq
def lq(x:GStep):Bool:=x.cU.all rq && (isName x.ae && decide (x.cU.length<=3) && cE (x.cU.map fS.ae))
def FC(p:gm):Bool:=decide (0<=p.dY) && decide (p.dY<=8) && (!p.dJ || decide (p.dY=0)) && decide (p.aX.length<=10) && (p.dJ || decide (0<p.dY) || decide (0<p.aX.length))
def j3(p:gm):Bool:=p.aX.all lq && FC p
mutual
def ji:bf->Nat
 | .mk _ _ _ _ ks=>eK ks+1
def eK:List bf->Nat
 | []=>0
 | x::xs=>max (ji x) (eK xs)
end
def yD(p:gm):Bool:=!p.dJ && decide (p.dY=0) && p.aX.isEmpty
def iH(op:Int):Nat:=if op=5 then 1 else if 1<=op/\op<=4 then 0 else 2
def vA(p:gm):Bool:=!(!p.dJ && decide (p.dY=0) && decide (0<p.aX.length) && ((at_ p.aX 0).ae == [111,114] || (at_ p.aX 0).ae == [97,110,100])) && !(p.dJ && p.aX.isEmpty)
def exN(op num:Int)(tx:Str)(p:gm)(n:Nat):Bool :=
 decide (1<=op) && decide (op<=15) && decide (n=iH op) && (decide (op=1) || decide (num=0)) && (decide (op=2) || tx.isEmpty) && (decide (op=3) || decide (op=4) || yD p) &&
 (if op=1 then decide (0<=num) && decide (num<=1000000000) else if op=2 then isText tx else if op=4 then j3 p else if op=3 then j3 p && vA p else true)
mutual
def vE:bf->Bool
 | .mk op num tx p ks=>exN op num tx p ks.length && vEL ks
def vEL:List bf->Bool
 | []=>true
 | x::xs=>vE x && vEL xs
end
def Jw:∀l:List bf,vEL l=l.all vE
 | []=>rfl
 | x::xs=>by simp only[vEL,all_cons,Jw xs]
def Be(e:bf):Bool:=decide (ji e<=8) && vE e
def dR(k:Int):Bool:=decide (1<=k) && decide (k<=4)
def dk:List ag->List ag
 | []=>[]
 | .mk k a b c d e f g h i j l m n ks::xs=>(if dR k=true then [.mk k a b c d e f g h i j l m n ks] else if k=5\/k=6 then dk ks else [])++dk xs
def nO(x:ag)(xs:List ag):dk (x::xs)=(if dR x.aj=true then [x] else if x.aj=5\/x.aj=6 then dk x.af else [])++dk xs:=by cases x;rw[dk];rfl
def cl:List ag->Nat
 | []=>0
 | .mk _ _ _ _ _ _ _ _ _ _ _ _ _ _ ks::xs=>1+cl ks+cl xs
def fK:List ag->Nat
 | []=>0
 | .mk _ _ _ _ _ _ _ _ _ _ _ _ _ _ ks::xs=>max (1+fK ks) (fK xs)
def mxS:List ag->Nat
 | []=>0
 | .mk _ _ _ _ _ _ _ _ _ _ _ _ w m ks::xs=>max (max (eK w) (eK m)) (max (mxS ks) (mxS xs))
def nT(t:dB):Bool:=decide (t.aj=0) && t.az.isEmpty && t.aB.isEmpty && t.aZ.isEmpty && t.aG.isEmpty
def exS(l:List bf)(m:Int):Bool:=l.all Be && decide ((l.length:Int)<=m)
def pg(n:ag):Bool:=decide (0<=n.iO) && decide (n.iO<=1000000000) && (decide (n.iP=0) || (decide (n.iO<=n.iP) && decide (n.iP<=1000000000)))
def nmS(l:List ag):List Str:=l.map ag.ae
def nmP(n:Str)(x:ag):Bool:=x.ae == n
theorem j4{α:Type}[Inhabited α]{p:α->Bool}{l:List α}{k:Nat}(hk:k<l.length)(h:p (at_ l k)=false):l.all p=false:=by rw[<- rG,cV hk h]
def fR{α:Type}{p:α->Bool}{l:List α}{k:Nat}(hk:¬k<l.length)(h:∀y∈l.take k,(!p y)=false):l.all p=true:=by rw[take_of_length_le Yt]at h;rw[all_eq_true];intro x hx;simpa using h x hx
def F4{α:Type}{f:α->Str}{l:List α}{k:Nat}(h:¬k<l.length):(l.take k).map f=l.map f:=by rw[take_of_length_le Yt]
theorem tk1{α:Type}[Inhabited α]{l:List α}{k:Nat}(h:k<l.length):l.take (k+1)=l.take k++[at_ l k]:=by rw[take_succ_eq_append_getElem h];unfold at_;rw[getElem?_eq_getElem h];rfl
theorem F3{α β γ:Type}[Inhabited α]{l:List α}{k:Nat}{f:α->β}{g:β->γ}(h:k<l.length):((l.take (k+1)).map f).map g=((l.take k).map f).map g++[g (f (at_ l k))]:=by rw[tk1 h];simp
def Sh(n:Nat):decide ((n:Int)<=10)=decide (n<=10):=decide_eq_decide.2 Yt
def sP(n:Nat):decide (0<(n:Int))=decide (0<n):=decide_eq_decide.2 Yt
def kG(a b:Int):(a == b)=decide (a=b):=by rw[Bool.eq_iff_iff];simp
theorem qa{α β:Type}[Inhabited α][Inhabited β]{f:α->β}{l:List α}{k:Nat}(h:k<l.length):at_ (l.map f) k=f (at_ l k):=by unfold at_;rw[getElem?_map,getElem?_eq_getElem h];rfl
def Gw{x:gm}{k:Nat}(hk:k<x.aX.length)(h:lq (at_ x.aX k)=false):j3 x=false:=by rw[j3,j4 hk h];rfl
section
variable {s : GStep} {i j : Nat}
def SB(hi:i<j)(hj:j<s.cU.length)(h:(at_ s.cU i).ae=(at_ s.cU j).ae):lq s=false:=by
 have:cE (s.cU.map fS.ae)=false:=by
  refine cV (j:=j) (by simpa using hj) ?_;rw[wI hi (by simpa using hj) (by rw[qa Yt,qa hj];exact h)];rfl
 rw[lq,this];simp
def Sz(hj:j<s.cU.length)(h:rq (at_ s.cU j)=false):lq s=false:=by rw[lq,j4 hj h];rfl
def SA(hj:¬j<s.cU.length)(hj2:j<=s.cU.length)(hS:∀y∈s.cU.take j,(!rq y)=false)(hQ:cz (λi=>!cont ((s.cU.map fS.ae).take i) (at_ (s.cU.map fS.ae) i)) j=true):lq s=(isName s.ae && decide (s.cU.length<=3)):=by
 have e:j=s.cU.length:=by omega
 subst e;rw[lq,fR hj hS,cE,length_map,hQ];simp
end
def lC{α:Type}(l:List α):((l.length:Int) == 0)=l.isEmpty:=by
 cases l with
 | nil=>rfl
 | cons x xs=>rw[length_cons,isEmpty_cons,kG,decide_eq_false_iff_not];omega
def rA{α:Type}(l:List α):decide (0<l.length)=!l.isEmpty:=by
 cases l with
 | nil=>rfl
 | cons x xs=>rw[length_cons,isEmpty_cons];simp
def Cx{x:gm}(h:j3 x=true):0<=x.dY/\(x.dJ=true->x.dY=0)/\(x.dJ=false->x.dY<=0->0<x.aX.length):=by
 simp only[j3,FC,Bool.and_eq_true,Bool.or_eq_true,decide_eq_true_eq,Bool.not_eq_true']at h;obtain⟨_,⟨⟨⟨⟨h1,_⟩,h2⟩,_⟩,h3⟩⟩:=h;refine⟨h1,λe=>?_,λe f=>?_⟩
 ·rcases h2 with h2|h2
  ·rw[e]at h2;exact absurd h2 zH
  ·exact h2
 ·rcases h3 with(h3|h3)|h3
  ·rw[e]at h3;exact absurd h3 zH
  ·omega
  ·exact h3
def Yu{x:gm}(h:j3 x=true)(e:x.dJ=true\/0<x.dY):(decide (0<x.dY) || decide (0<(x.aX.length:Int)))=vA x:=by
 obtain⟨h1,h2,h3⟩:=Cx h
 cases r:x.dJ with
 | true =>
  have:=h2 r;rw[vA,r,sP,rA,this];simp
 | false =>
  rw[r]at e;have h4:0<x.dY:=by rcases e with e|e;exact absurd e zH;exact e
  rw[vA,r,show decide (x.dY=0)=false by simp;omega,show decide (0<x.dY)=true by simpa using h4];simp
def Rs{x:gm}(h:j3 x=true)(e:x.dJ=false/\x.dY<=0):0<x.aX.length/\(!(at_ x.aX 0).ae == [111,114] && !(at_ x.aX 0).ae == [97,110,100])=vA x:=by obtain⟨h1,h2,h3⟩:=Cx h;have h4:=h3 e.1 e.2;refine⟨h4,?_⟩;rw[vA,e.1,show decide (x.dY=0)=true by simp;omega,show decide (0<x.aX.length)=true by simpa using h4];simp
def V5{a:Bool}{n:Nat}(h:a=false\/3<(n:Int)):(a && decide (n<=3))=false:=by
 rcases h with h|h
 ·rw[h];rfl
 ·rw[show decide (n<=3)=false by simp;omega,Bool.and_false]
def rQ(x:bf):ji x=eK x.af+1:=by cases x;rw[ji];rfl
def nF(x:bf):vE x=(exN x.fOp x.gZ x.cX x.aG x.af.length && x.af.all vE):=by cases x;rw[vE,Jw];rfl
def EW:∀(l:List bf) (x:bf),eK (l++[x])=max (eK l) (ji x)
 | [],x=>by simp[eK]
 | y::l,x=>by simp only[cons_append,eK,EW l x];omega
def CL{l:List bf}{k:Nat}(h:k<l.length):eK (l.take (k+1))=max (eK (l.take k)) (ji (at_ l k)):=by rw[tk1 h,EW]
def qz:∀ {l:List bf} {y:bf},y∈l->ji y<=eK l
 | x::l,y,h=>by
  rw[eK];rcases List.mem_cons.1 h with rfl|h
  ·omega
  ·have:=qz h;omega
def wG:∀(l:List bf) (k:Nat),eK (l.take k)<=eK l
 | [],k=>by simp
 | x::l,0=>by simp[eK]
 | x::l,k+1=>by rw[take_succ_cons,eK,eK];have:=wG l k;omega
def bf.Cu{x y:bf}(h:y∈x.af):SizeOf.sizeOf y<SizeOf.sizeOf x:=by have:=sizeOf_lt_of_mem h;cases x;simp[bf.af]at *;omega
def Wx(a b:Nat):(if a<b then (b:Int) else (a:Int))=((max a b:Nat):Int):=by split<;>omega
def Ub(a b:Nat):max (a:Int) (b:Int)=((max a b:Nat):Int):=by omega
def exL(op num:Int)(tx:Str)(p:gm):Bool:=if op=1 then decide (0<=num) && decide (num<=1000000000) else if op=2 then isText tx else if op=4 then j3 p else if op=3 then j3 p && vA p else true
def ik(op num:Int)(tx:Str)(p:gm)(n:Nat):exN op num tx p n=(decide (1<=op) && decide (op<=15) && decide (n=iH op) && (decide (op=1) || decide (num=0)) && (decide (op=2) || tx.isEmpty) && (decide (op=3) || decide (op=4) || yD p) && exL op num tx p):=rfl
def fD(s:Str):s.isEmpty=decide (s=[]):=by cases s<;>simp
section
variable {x : bf} {n : Int}
def y5(h:(x.af.length:Int)=0):x.af.all vE=true:=by rw[eq_nil_of_length_eq_zero (l:=x.af) Yt];rfl
def Fy{k:Nat}(hk:k<x.af.length)(h:vE (at_ x.af k)=false):vE x=false:=by rw[nF,j4 hk h,Bool.and_false]
end
def qZ{x:bf}(h:exN x.fOp x.gZ x.cX x.aG x.af.length=false):vE x=false:=by rw[nF,h,Bool.false_and]
def mH(s:Str):(s == [])=s.isEmpty:=by cases s<;>rfl
def Ix:∀(l:List ag) (x:ag),cl (l++[x])=cl l+1+cl x.af
 | [],x=>by cases x;simp[cl,ag.af]
 | .mk _ _ _ _ _ _ _ _ _ _ _ _ _ _ ks::l,x=>by simp only[cons_append,cl,Ix l x];omega
def O5{l:List ag}{k:Nat}(h:k<l.length):cl (l.take (k+1))=cl (l.take k)+1+cl (at_ l k).af:=by rw[tk1 h,Ix]
def qA:∀(l:List ag) (k:Nat),cl (l.take k)+(l.length - k)<=cl l
 | [],k=>by simp[cl]
 | x::l,0=>by
  have:=qA l 0;cases x;simp only[take_zero,cl,length_cons]at *;omega
 | x::l,k+1=>by
  have:=qA l k;cases x;simp only[take_succ_cons,cl,length_cons]at *;omega
def sQ:∀ {l:List ag} {x:ag},x∈l->cl x.af<=cl l
 | y::l,x,h=>by
  rcases List.mem_cons.1 h with rfl|h
  ·cases x;simp only[cl,ag.af];omega
  ·have:=sQ h;cases y;simp only[cl];omega
def Iq:∀(l:List ag) (x:ag),fK (l++[x])=max (fK l) (1+fK x.af)
 | [],x=>by cases x;simp[fK,ag.af]
 | .mk _ _ _ _ _ _ _ _ _ _ _ _ _ _ ks::l,x=>by simp only[cons_append,fK,Iq l x];omega
def O1{l:List ag}{k:Nat}(h:k<l.length):fK (l.take (k+1))=max (fK (l.take k)) (1+fK (at_ l k).af):=by rw[tk1 h,Iq]
def yl:∀(l:List ag) (k:Nat),fK (l.take k)<=fK l
 | [],k=>by simp
 | x::l,0=>by simp[fK]
 | x::l,k+1=>by
  have:=yl l k;cases x;simp only[take_succ_cons,fK]at *;omega
def Bj:∀ {l:List ag} {x:ag},x∈l->1+fK x.af<=fK l
 | y::l,x,h=>by
  rcases List.mem_cons.1 h with rfl|h
  ·cases x;simp only[fK,ag.af];omega
  ·have:=Bj h;cases y;simp only[fK];omega
def ag.dH{l:List ag}{x:ag}(h:x∈l):SizeOf.sizeOf x.af<SizeOf.sizeOf l:=by have:=sizeOf_lt_of_mem h;cases x;simp[ag.af]at *;omega
open Go Go.Ab
def dkF:List ag->Bool->List Bool
 | [],_=>[]
 | .mk k _ _ _ _ _ _ _ _ _ _ _ _ _ ks::xs,h=>(if dR k=true then [h] else if k=5\/k=6 then dkF ks (h || k == 6) else [])++dkF xs h
def Bh(x:ag)(xs:List ag)(h:Bool):dkF (x::xs) h=(if dR x.aj=true then [h] else if x.aj=5\/x.aj=6 then dkF x.af (h || x.aj == 6) else [])++dkF xs h:=by cases x;rw[dkF];rfl
def OX:∀(l:List ag) (x:ag),dk (l++[x])=dk l++(if dR x.aj=true then [x] else if x.aj=5\/x.aj=6 then dk x.af else [])
 | [],x=>by rw[nil_append,nO];simp[dk]
 | y::l,x=>by rw[cons_append,nO,nO,OX l x,append_assoc]
def KC(h:Bool):∀(l:List ag) (x:ag),dkF (l++[x]) h=dkF l h++(if dR x.aj=true then [h] else if x.aj=5\/x.aj=6 then dkF x.af (h || x.aj == 6) else [])
 | [],x=>by rw[nil_append,Bh];simp[dkF]
 | y::l,x=>by rw[cons_append,Bh,Bh,KC h l x,append_assoc]
def rO{l:List ag}{k:Nat}(h:k<l.length):dk (l.take (k+1))=dk (l.take k)++(if dR (at_ l k).aj=true then [at_ l k] else if (at_ l k).aj=5\/(at_ l k).aj=6 then dk (at_ l k).af else []):=by rw[tk1 h,OX]
def Bg{l:List ag}{k:Nat}{b:Bool}(h:k<l.length):dkF (l.take (k+1)) b=dkF (l.take k) b++(if dR (at_ l k).aj=true then [b] else if (at_ l k).aj=5\/(at_ l k).aj=6 then dkF (at_ l k).af (b || (at_ l k).aj == 6) else []):=by rw[tk1 h,KC]
def n8:∀(l:List ag),(dk l).length<=cl l
 | []=>by simp[dk]
 | .mk k _ _ _ _ _ _ _ _ _ _ _ _ _ ks::xs=>by
  have h1:=n8 ks;have h2:=n8 xs;rw[dk,cl,length_append];split
  ·simp;omega
  ·split
   ·omega
   ·simp;omega
def D4:∀(l:List ag) (h:Bool),(dkF l h).length=(dk l).length
 | [],h=>by simp[dk,dkF]
 | .mk k _ _ _ _ _ _ _ _ _ _ _ _ _ ks::xs,h=>by
  rw[dk,dkF,length_append,length_append,D4 xs h];split
  ·simp
  ·split
   ·rw[D4 ks]
   ·simp
def KL{l:List ag}{k:Nat}:cl (l.take k)<=cl l:=by have:=qA l k;omega
def gW:List ag->Int->Int
 | [],q=>q
 | .mk _ _ _ _ _ _ _ _ _ _ _ _ _ _ ks::xs,q=>if q<0 then q else gW xs (gW ks (q - ks.length))
def Qh{l:List ag}{k:Nat}(h:k<l.length)(q:Int):gW (l.drop k) q=if q<0 then q else gW (l.drop (k+1)) (gW (at_ l k).af (q - (at_ l k).af.length)):=by rw[bT h];cases at_ l k;rw[gW];rfl
def qt(l:List ag){q:Int}(h:q<0):gW l q=q:=by
 cases l with
 | nil=>rw[gW]
 | cons x xs=>cases x;simp only[gW];rw[if_pos h]
def AF:∀(l:List ag) (q:Int),gW l q<=q
 | [],q=>by simp[gW]
 | .mk _ _ _ _ _ _ _ _ _ _ _ _ _ _ ks::xs,q=>by
  have h1:=AF ks (q - ks.length)
  have h2:=AF xs (gW ks (q - ks.length));simp only[gW];split<;>omega
def oA:∀(l:List ag),l.length<=cl l
 | []=>by simp
 | .mk _ _ _ _ _ _ _ _ _ _ _ _ _ _ ks::xs=>by have:=oA xs;simp only[cl,length_cons];omega
def AG:∀(l:List ag) (q:Int),-4611686018427387904<=q->cl l<=1048576->-4611686018427387904<=gW l q
 | [],q,h,_=>by simpa[gW]using h
 | .mk _ _ _ _ _ _ _ _ _ _ _ _ _ _ ks::xs,q,h,hw=>by
  simp only[gW];simp only[cl]at hw;split
  ·exact h
  ·have e2:=oA ks;exact AG xs _ (AG ks _ Yt Yt) Yt
def AJ:∀(l:List ag) (q:Int),0<=q->(0<=gW l q↔(cl l:Int) - l.length<=q)/\((cl l:Int) - l.length<=q->gW l q=q - (cl l - l.length))
 | [],q,h=>by simp only[gW,cl,length_nil];omega
 | .mk _ _ _ _ _ _ _ _ _ _ _ _ _ _ ks::xs,q,h=>by
  simp only[gW,cl,length_cons];have e1:=oA ks
  have e2:=oA xs;rw[if_neg Yt];rcases Int.lt_or_le (q - ks.length) 0 with h1|h1
  ·rw[qt ks h1,qt xs h1];omega
  ·have h2:=AJ ks _ h1;rcases Int.lt_or_le (gW ks (q - ks.length)) 0 with h3|h3
   ·rw[qt xs h3];omega
   ·have h4:=AJ xs _ h3
    have h5:=h2.2 (h2.1.1 h3);rw[h5]at h3 h4 ⊢;omega
def TN(l:List ag):decide (0<=gW l (60 - l.length))=decide (cl l<=60):=by
 have e:=oA l;refine decide_eq_decide.2 ?_;rcases Int.lt_or_le (60 - (l.length:Int)) 0 with h|h
 ·rw[qt l h];omega
 ·have:=(AJ l _ h).1;omega
def ot(n:ag):Bool:=isName n.ae && exS n.bY 1 && exS n.cS 3
def tyB(t:dB):Bool:=isType dV t
def lz(n:ag):Bool :=
 (decide (n.aj=3) || decide (n.aj=4) || nT n.fType) &&
 (decide (n.aj=2) || n.ax.isEmpty && n.aJ.isEmpty) &&
 (decide (n.aj=3) || n.bI.isEmpty && !n.db && !n.eJ) &&
 (decide (n.aj=3) || decide (n.aj=5) || !n.dz) &&
 (decide (n.aj=1) || !n.bZ) &&
 (decide (n.aj=2) || decide (n.aj=4) || decide (n.iO=0) && decide (n.iP=0)) &&
 (dR n.aj || n.cS.isEmpty) &&
 (!(decide (n.aj=3) || decide (n.aj=4)) || n.af.isEmpty)
def jk(n:ag):Bool :=
 if n.aj=1\/n.aj=5\/n.aj=6 then true
 else if n.aj=2 then decide (1<=n.ax.length) && decide (n.ax.length<=3) && cE n.ax && names n.ax && decide (n.aJ.length<=3) && cE n.aJ && names n.aJ && pg n
 else if n.aj=3 then tyB n.fType && !(n.db && (n.dz || !n.bY.isEmpty)) && (n.db && isVal n.fType n.bI || !n.db && n.bI.isEmpty)
 else if n.aj=4 then tyB n.fType && pg n
 else if n.aj=7 then n.bY.isEmpty && n.af.isEmpty
 else false
def mf(n:ag):Bool:=ot n && (lz n && jk n)
def fG(n:Str)(x:ag):Bool:=x.ae == n && decide (x.aj=3)
def nU(y:ag):Bool:=y.bY.isEmpty && !y.db && !decide (y.fType.aj=6)
def pX(ks:List ag)(k:Str):Bool:=decide (0<=idx (fG k) ks) && nU (at_ ks (idx (fG k) ks).toNat)
def tZ(ks:List ag)(k:Str):Bool:=decide (0<=idx (fG k) ks)
def sF(ks:List ag)(k:Str):Bool:=decide (0<=idx (nmP k) ks) && decide ((at_ ks (idx (nmP k) ks).toNat).aj=3) && nU (at_ ks (idx (nmP k) ks).toNat)
def rW(ks:List ag)(k:Str):Bool:=decide (0<=idx (nmP k) ks) && decide ((at_ ks (idx (nmP k) ks).toNat).aj=3)
def qj(n:ag):Bool:=n.ax.all (sF n.af) && n.aJ.all (rW n.af) && (nT n.fType && !n.ax.isEmpty && (cE n.ax && decide (n.ax.length<=3)) && (cE n.aJ && decide (n.aJ.length<=3)) && pg n && !n.db && !n.dz && !n.bZ && !n.eJ && n.bI.isEmpty)
def tE(n:ag):Bool:=n.ax.isEmpty && n.aJ.isEmpty && n.bI.isEmpty && !n.db && !n.eJ && decide (n.iO=0) && decide (n.iP=0)
def Lz(n:ag):Bool:=n.ax.isEmpty && n.aJ.isEmpty && decide (n.iO=0) && decide (n.iP=0) && !n.bZ && n.af.isEmpty && tyB n.fType
def LB(n:ag)(free:Bool):Bool :=
 if n.aj=1 then tE n && !n.dz && nT n.fType
 else if n.aj=2 then qj n
 else if n.aj=3 then (if n.db=true then Lz n && free && !n.dz && n.bY.isEmpty && isVal n.fType n.bI else Lz n && n.bI.isEmpty)
 else if n.aj=4 then n.ax.isEmpty && n.aJ.isEmpty && n.bI.isEmpty && !n.db && !n.eJ && !n.dz && !n.bZ && n.af.isEmpty && pg n && tyB n.fType
 else if n.aj=5 then tE n && !n.bZ && n.cS.isEmpty && nT n.fType
 else if n.aj=6 then tE n && !n.bZ && !n.dz && n.cS.isEmpty && nT n.fType
 else false
def ry(n:ag)(free:Bool):Bool:=ot n && LB n free
def jT(kind:Int)(bound:Bool)(n:ag):Bool:=mf n && !decide (n.aj=7) && (decide (n.aj=6) == decide (kind=5)) && !(n.db && bound) && n.ax.all (pX n.af) && n.aJ.all (tZ n.af)
def mw(l:List ag)(kind:Int):Bool:=cE (nmS l) && (decide (kind=5) || decide (kind=6) || cE (nmS (dk l)))
def kA:List ag->Int->Bool->Bool
 | [],_,_=>true
 | .mk k a b c d e f g h i j l m n ks::xs,kind,bd=>jT kind bd (.mk k a b c d e f g h i j l m n ks) && (mw ks k && kA ks k (bd || !m.isEmpty || decide (k=6))) && kA xs kind bd
def DE(x:ag)(xs:List ag)(kind:Int)(bd:Bool):kA (x::xs) kind bd=(jT kind bd x && (mw x.af x.aj && kA x.af x.aj (bd || !x.bY.isEmpty || decide (x.aj=6))) && kA xs kind bd):=by cases x;rw[kA];rfl
def kS:List ag->Int->Bool->Nat->Bool
 | [],_,_,_=>true
 | .mk k a b c d e f g h i j l m n ks::xs,kind,fr,p=>(decide (kind=5) == decide (k=6)) && ry (.mk k a b c d e f g h i j l m n ks) fr && (cE (nmS ks) && kS ks k (fr && m.isEmpty && !decide (k=6)) (p+1) && cE (nmS (dk ks)) && (decide (p+1<=8) || ks.isEmpty)) && kS xs kind fr p
def DD(x:ag)(xs:List ag)(kind:Int)(fr:Bool)(p:Nat):kS (x::xs) kind fr p=((decide (kind=5) == decide (x.aj=6)) && ry x fr && (cE (nmS x.af) && kS x.af x.aj (fr && x.bY.isEmpty && !decide (x.aj=6)) (p+1) && cE (nmS (dk x.af)) && (decide (p+1<=8) || x.af.isEmpty)) && kS xs kind fr p):=by cases x;rw[kS];rfl
def kR(l:List ag)(kind:Int)(bd:Bool):Bool:=mw l kind && kA l kind bd
def kT(l:List ag)(kind:Int)(fr:Bool)(p:Nat):Bool:=cE (nmS l) && kS l kind fr p && cE (nmS (dk l)) && (decide (p<=8) || l.isEmpty)
def kJ(l:List ag):Bool:=decide (cl l<=60) && decide (fK l<=8) && kR l 0 false
theorem zm{α:Type}[Inhabited α](x:α)(l:List α)(k:Nat):at_ (x::l) (k+1)=at_ l k:=rfl
theorem nK{α:Type}[Inhabited α]{l:List α}{i:Nat}(h:i<l.length):l[i]=at_ l i:=by unfold at_;rw[getElem?_eq_getElem h];rfl
def qy(l:List Str):cE l=true↔l.Nodup:=by
 constructor
 ·intro h;refine List.pairwise_iff_getElem.2 λi j hi' hj hi e=>?_;have h1:=o5 h hj;rw[nK,nK]at e;rw[wI hi hj e]at h1;exact absurd h1 zH
 ·intro h;rw[cE]
  have:∀n,n<=l.length->cz (λj=>!cont (l.take j) (at_ l j)) n=true:=by
   intro n
   induction n with
   | zero=>intro _;rfl
   | succ n ih =>
    intro hn;refine cy (ih Yt) ?_;rw[tT]
    ·rfl
    intro y hy;rw[beq_eq_false_iff_ne];intro e;obtain⟨i,hi,e2⟩:=getElem_of_mem hy;rw[length_take]at hi;rw[getElem_take,nK,e]at e2;refine List.pairwise_iff_getElem.1 h i n Yt Yt Yt ?_;rw[nK,nK,e2]
  exact this _ (Nat.le_refl _)
def xV{α:Type}{p:α->Bool}:∀ {l:List α},¬0<=idx p l->∀x∈l,p x=false
 | x::xs,h,y,hy=>by
  have h0:=qv p xs;simp only[idx]at h;split at h
  ·omega
  ·rename_i h1;split at h
   ·rcases List.mem_cons.1 hy with rfl|hy
    ·simpa using h1
    ·exact xV Yt y hy
   ·omega
theorem gD{α:Type}[Inhabited α]{p:α->Bool}:∀ {l:List α},0<=idx p l->(idx p l).toNat<l.length/\p (at_ l (idx p l).toNat)=true/\at_ l (idx p l).toNat∈l
 | [],h=>by simp[idx]at h
 | x::xs,h=>by
  simp only[idx]at h ⊢;split
  ·rename_i h1;exact⟨zH,h1,by simp[at_]⟩
  ·rename_i h1;rw[if_neg h1]at h;split at h
   ·omega
   ·rename_i h2;have ih:=gD (p:=p) (l:=xs) Yt;rw[if_neg h2,show (idx p xs+1).toNat=(idx p xs).toNat+1 by omega,zm];exact⟨by rw[length_cons];omega,ih.2.1,mem_cons_of_mem _ ih.2.2⟩
theorem Om{α:Type}[Inhabited α]{p:α->Bool}:∀ {l:List α} {j:Nat},j<l.length->p (at_ l j)=true->idx p l<=j/\0<=idx p l
 | x::xs,0,_,h=>by
  have:p x=true:=h;simp[idx,this]
 | x::xs,j+1,hj,h=>by
  have h1:=Om (p:=p) (l:=xs) (j:=j) (by simpa using hj) h;simp only[idx];split
  ·omega
  ·split<;>omega
def AU{l:List ag}(hd:cE (nmS l)=true){x y:ag}(hx:x∈l)(hy:y∈l)(e:x.ae=y.ae):x=y:=by
 rw[qy,nmS]at hd
 induction l with
 | nil=>simp at hx
 | cons z l ih =>
  rw[map_cons,nodup_cons]at hd;rcases List.mem_cons.1 hx with gx|gx<;>rcases List.mem_cons.1 hy with gy|gy
  ·rw[gx,gy]
  ·subst gx;exact absurd (List.mem_map.2 ⟨y,gy,e.symm⟩) hd.1
  ·subst gy;exact absurd (List.mem_map.2 ⟨x,gx,e⟩) hd.1
  ·exact ih hd.2 gx gy
def AK{ks:List ag}(hd:cE (nmS ks)=true)(k:Str):(0<=idx (fG k) ks↔0<=idx (nmP k) ks/\(at_ ks (idx (nmP k) ks).toNat).aj=3)/\(0<=idx (fG k) ks->at_ ks (idx (fG k) ks).toNat=at_ ks (idx (nmP k) ks).toNat):=by
 have key:0<=idx (fG k) ks->0<=idx (nmP k) ks/\at_ ks (idx (fG k) ks).toNat=at_ ks (idx (nmP k) ks).toNat/\(at_ ks (idx (fG k) ks).toNat).aj=3:=by
  intro h;obtain⟨h1,h2,h3⟩:=gD h;simp only[fG,Bool.and_eq_true,beq_iff_eq,decide_eq_true_eq]at h2
  have h4:0<=idx (nmP k) ks:=by
   apply Classical.byContradiction;intro h5;have:=xV h5 _ h3;simp only[nmP,beq_eq_false_iff_ne]at this;exact this h2.1
  obtain⟨g1,g2,g3⟩:=gD h4;simp only[nmP,beq_iff_eq]at g2;exact⟨h4,AU hd h3 g3 (h2.1.trans g2.symm),h2.2⟩
 refine⟨⟨λh=>⟨(key h).1,(key h).2.1 ▸ (key h).2.2⟩,λh=>?_⟩,λh=>(key h).2.1⟩;apply Classical.byContradiction;intro h5;obtain⟨g1,g2,g3⟩:=gD h.1;have:=xV h5 _ g3;simp only[nmP,beq_iff_eq]at g2;simp only[fG,g2,h.2]at this;simp at this
def Zd{ks:List ag}(hd:cE (nmS ks)=true)(k:Str):pX ks k=sF ks k:=by
 have h:=AK hd k;rw[Bool.eq_iff_iff];simp only[pX,sF,Bool.and_eq_true,decide_eq_true_eq];constructor
 ·intro g;rw[<- h.2 g.1]at *;exact⟨h.1.1 g.1,g.2⟩
 ·intro g;have:=h.1.2 g.1;rw[h.2 this];exact⟨this,g.2⟩
def Yw{ks:List ag}(hd:cE (nmS ks)=true)(k:Str):tZ ks k=rW ks k:=by have h:=AK hd k;rw[Bool.eq_iff_iff];simp only[tZ,rW,Bool.and_eq_true,decide_eq_true_eq];exact h.1
def NH(l:List Str):names l=l.all isName:=by rw[names,rG]
def Cj{ks:List ag}{l:List Str}(hn:∀y∈ks,isName y.ae=true)(h:∀k∈l,0<=idx (nmP k) ks):names l=true:=by rw[NH,all_eq_true];intro k hk;obtain⟨g1,g2,g3⟩:=gD (h k hk);simp only[nmP,beq_iff_eq]at g2;rw[<- g2];exact hn _ g3
def TL{n:ag}(hd:cE (nmS n.af)=true)(hn:∀y∈n.af,isName y.ae=true)(hk:n.aj=2)(bd:Bool):(lz n && jk n && !(n.db && bd) && n.ax.all (pX n.af) && n.aJ.all (tZ n.af))=qj n:=by
 have e1:pX n.af=sF n.af:=funext λk=>Zd hd k
 have e2:tZ n.af=rW n.af:=funext λk=>Yw hd k;rw[e1,e2,qj]
 cases h1:n.ax.all (sF n.af)with
 | false=>simp
 | true =>
  cases h2:n.aJ.all (rW n.af)with
  | false=>simp
  | true =>
   have h3:names n.ax=true:=Cj hn λk hk=>by
    have:=List.all_eq_true.1 h1 k hk;simp only[sF,Bool.and_eq_true,decide_eq_true_eq]at this;exact this.1.1
   have h4:names n.aJ=true:=Cj hn λk hk=>by
    have:=List.all_eq_true.1 h2 k hk;simp only[rW,Bool.and_eq_true,decide_eq_true_eq]at this;exact this.1
   have h5:decide (1<=n.ax.length)=!n.ax.isEmpty:=rA _;simp only[lz,jk,dR,hk,h3,h4,h5];cases nT n.fType<;>cases n.ax.isEmpty<;>cases n.db<;>cases n.dz<;>cases n.bZ<;>cases n.eJ<;>cases n.bI.isEmpty<;>simp<;>grind
def NA{n:ag}(hd:cE (nmS n.af)=true)(hn:∀y∈n.af,isName y.ae=true)(kind:Int)(bd:Bool):jT kind bd n=((decide (kind=5) == decide (n.aj=6)) && ry n (!bd)):=by
 rw[jT,ry,mf,LB]
 cases ot n with
 | false=>simp
 | true =>
  by_cases h2:n.aj=2
  ·rw[<- TL hd hn h2 bd];simp[h2];grind
  ·have e:∀(a b:Bool),(a == b)=(b == a):=by decide
   by_cases h1:n.aj=1
   ·simp only[lz,jk,tE,dR,h1];cases nT n.fType<;>cases hk:n.ax<;>cases hu:n.aJ<;>cases n.db<;>cases n.dz<;>cases n.bZ<;>cases n.eJ<;>simp<;>grind
   by_cases h5:n.aj=5
   ·simp only[lz,jk,tE,dR,h5];cases nT n.fType<;>cases hk:n.ax<;>cases hu:n.aJ<;>cases n.db<;>cases n.dz<;>cases n.bZ<;>cases n.eJ<;>simp<;>grind
   by_cases h6:n.aj=6
   ·simp only[lz,jk,tE,dR,h6];cases nT n.fType<;>cases hk:n.ax<;>cases hu:n.aJ<;>cases n.db<;>cases n.dz<;>cases n.bZ<;>cases n.eJ<;>simp<;>grind
   by_cases h4:n.aj=4
   ·simp only[lz,jk,tE,dR,h4];cases tyB n.fType<;>cases hk:n.ax<;>cases hu:n.aJ<;>cases n.db<;>cases n.dz<;>cases n.bZ<;>cases n.eJ<;>simp<;>grind
   by_cases h3:n.aj=3
   ·simp only[lz,jk,tE,dR,Lz,h3];cases tyB n.fType<;>cases hk:n.ax<;>cases hu:n.aJ<;>cases n.db<;>cases n.dz<;>cases n.bZ<;>cases n.bY.isEmpty<;>cases bd<;>simp<;>grind
   by_cases h7:n.aj=7
   ·simp[h7]
   ·simp[jk,h1,h2,h3,h4,h5,h6,h7]
def Kf:∀ {l:List ag} {kind:Int} {fr:Bool} {p:Nat},kS l kind fr p=true->∀y∈l,isName y.ae=true
 | [],_,_,_,_,y,h=>by simp at h
 | x::xs,kind,fr,p,h,y,hy=>by
  rw[DD]at h;simp only[Bool.and_eq_true]at h;rcases List.mem_cons.1 hy with rfl|hy
  ·have:=h.1.1.2;simp only[ry,ot,Bool.and_eq_true]at this;exact this.1.1.1
  ·exact Kf h.2 y hy
def Kg:∀ {l:List ag} {kind:Int} {bd:Bool},kA l kind bd=true->∀y∈l,isName y.ae=true
 | [],_,_,_,y,h=>by simp at h
 | x::xs,kind,bd,h,y,hy=>by
  rw[DE]at h;simp only[Bool.and_eq_true]at h;rcases List.mem_cons.1 hy with rfl|hy
  ·have:=h.1.1;simp only[jT,mf,ot,Bool.and_eq_true]at this;exact this.1.1.1.1.1.1.1.1
  ·exact Kg h.2 y hy
def EV(x:ag)(xs:List ag):fK (x::xs)=max (1+fK x.af) (fK xs):=by cases x;rw[fK];rfl
def OZ{a b:List ag}(h:cE (nmS (a++b))=true):cE (nmS a)=true/\cE (nmS b)=true:=by rw[qy,nmS,map_append,nodup_append]at h;rw[qy,qy];exact⟨h.1,h.2.1⟩
def uV:∀(n:Nat) (l:List ag) (kind:Int) (bd:Bool) (p:Nat),SizeOf.sizeOf l<n->p<=8->cE (nmS (dk l))=true->((kA l kind bd=true/\(fK l+p<=9))↔kS l kind (!bd) p=true)
 | 0,l,_,_,_,h=>absurd h (Nat.not_lt_zero _)
 | n+1,[],_,_,p,_=>by simp[kA,kS,fK];omega
 | n+1,x::xs,kind,bd,p,hs=>by
  intro hp hd
  have hsz:SizeOf.sizeOf x.af<n/\SizeOf.sizeOf xs<n:=by
   have:=ag.dH (l:=x::xs) (x:=x) zH;simp only[List.cons.sizeOf_spec]at *;omega
  rw[nO]at hd;have hd2:=OZ hd
  have ih1:=uV n xs kind bd p hsz.2 hp hd2.2;rw[DE,DD,EV];simp only[Bool.and_eq_true]
  have hK:(mw x.af x.aj=true/\kA x.af x.aj (bd || !x.bY.isEmpty || decide (x.aj=6))=true)/\fK x.af+(p+1)<=9↔((cE (nmS x.af)=true/\kS x.af x.aj (!bd && x.bY.isEmpty && !decide (x.aj=6)) (p+1)=true)/\cE (nmS (dk x.af))=true)/\(decide (p+1<=8) || x.af.isEmpty)=true:=by
   have hq:mw x.af x.aj=true↔cE (nmS x.af)=true/\cE (nmS (dk x.af))=true:=by
    simp only[mw,Bool.and_eq_true,Bool.or_eq_true,decide_eq_true_eq];constructor
    ·rintro⟨a,b⟩;refine⟨a,?_⟩;by_cases hk:x.aj=5\/x.aj=6
     ·have:=hd2.1;rw[if_neg (by rcases hk with h|h<;>rw[h]<;>decide),if_pos hk]at this;exact this
     ·rcases b with b|b
      ·exact absurd b hk
      ·exact b
    ·rintro⟨a,b⟩;exact⟨a,.inr b⟩
   rw[hq,show (!bd && x.bY.isEmpty && !decide (x.aj=6))=!(bd || !x.bY.isEmpty || decide (x.aj=6)) by cases bd<;>cases x.bY.isEmpty<;>simp]
   cases hx:x.af with
   | nil=>simp[kA,kS,fK,dk];omega
   | cons y ys =>
    by_cases h8:p+1<=8
    ·rw[show (decide (p+1<=8) || (y::ys).isEmpty)=true by simp;omega];rw[<- hx];constructor
     ·rintro⟨⟨⟨a,b⟩,c⟩,d⟩;exact⟨⟨⟨a,(uV n x.af x.aj _ (p+1) hsz.1 h8 b).1 ⟨c,d⟩⟩,b⟩,rfl⟩
     ·rintro⟨⟨⟨a,b⟩,c⟩,d⟩;have:=(uV n x.af x.aj _ (p+1) hsz.1 h8 c).2 b;exact⟨⟨⟨a,c⟩,this.1⟩,this.2⟩
    ·constructor
     ·rintro⟨_,d⟩;rw[EV]at d;omega
     ·rintro⟨_,d⟩;simp at d;omega
  constructor
  ·rintro⟨⟨⟨h1,h2⟩,h3⟩,h4⟩;have h5:=hK.1 ⟨h2,Yt⟩;rw[NA h5.1.1.1 (Kg h2.2),Bool.and_eq_true]at h1;exact⟨⟨h1,h5⟩,ih1.1 ⟨h3,Yt⟩⟩
  ·rintro⟨⟨h1,h2⟩,h3⟩;have h5:=hK.2 h2
   have h6:=ih1.2 h3;refine⟨⟨⟨?_,h5.1⟩,h6.1⟩,Yt⟩;rw[NA h2.1.1.1 (Kf h2.1.1.2),Bool.and_eq_true];exact h1
def NV(l:List ag):(decide (fK l<=8) && kR l 0 false)=kT l 0 true 1:=by
 rw[Bool.eq_iff_iff];simp only[kR,kT,mw,Bool.and_eq_true,Bool.or_eq_true,decide_eq_true_eq];constructor
 ·rintro⟨h1,⟨h2,h3⟩,h4⟩;have h3:cE (nmS (dk l))=true:=by rcases h3 with(h|h)|h<;>first|exact h|(exact absurd h daa)
  exact⟨⟨⟨h2,(uV _ l 0 false 1 (Nat.lt_succ_self _) Yt h3).1 ⟨h4,Yt⟩⟩,h3⟩,.inl Yt⟩
 ·rintro⟨⟨⟨h1,h2⟩,h3⟩,h4⟩;have:=(uV _ l 0 false 1 (Nat.lt_succ_self _) Yt h3).2 h2;exact⟨Yt,⟨h1,.inr h3⟩,this.1⟩
def Fk(l:List ag):kJ l=(decide (0<=gW l (60 - l.length)) && kT l 0 true 1):=by rw[TN,kJ,Bool.and_assoc,NV]
def J1{l:List ag}{k:Nat}(hk:k<l.length):idx (nmP (at_ l k).ae) l=k↔cont ((nmS l).take k) (at_ (nmS l) k)=false:=by
 have e:at_ (nmS l) k=(at_ l k).ae:=qa hk;rw[e];constructor
 ·intro h;rw[Bool.eq_false_iff];intro hc;rw[iW]at hc;obtain⟨i,hi,e2⟩:=getElem_of_mem hc;rw[length_take]at hi;have hi':i<l.length:=by omega
  rw[getElem_take,nK,nmS,qa hi']at e2;have:=Om (p:=nmP (at_ l k).ae) hi' (by simp[nmP,e2]);omega
 ·intro h;refine gR hk (λy hy=>?_) (by simp[nmP]);rw[Bool.eq_false_iff]at h ⊢;intro hc;apply h;rw[iW,nmS,<- map_take,mem_map];exact⟨y,hy,by simpa[nmP]using hc⟩
def Ng{l:List ag}{k:Nat}(hk:k<l.length)(h:¬idx (nmP (at_ l k).ae) l=k):cE (nmS l)=false:=by refine cV (j:=k) (by rw[nmS,length_map];exact hk) ?_;rw[J1 hk]at h;simpa using h
def LD{l:List ag}{k:Nat}(h:k<l.length)(kind:Int)(bd:Bool):kA (l.drop k) kind bd=(jT kind bd (at_ l k) && (mw (at_ l k).af (at_ l k).aj && kA (at_ l k).af (at_ l k).aj (bd || !(at_ l k).bY.isEmpty || decide ((at_ l k).aj=6))) && kA (l.drop (k+1)) kind bd):=by rw[bT h,DE]
def Zf{l:List ag}{k:Nat}(h:k<l.length)(kind:Int)(fr:Bool)(p:Nat):kS (l.drop k) kind fr p=((decide (kind=5) == decide ((at_ l k).aj=6)) && ry (at_ l k) fr && kT (at_ l k).af (at_ l k).aj (fr && (at_ l k).bY.isEmpty && !decide ((at_ l k).aj=6)) (p+1) && kS (l.drop (k+1)) kind fr p):=by rw[bT h,DD];rfl
def wtS:List ag->Nat
 | []=>0
 | .mk _ _ _ _ _ e _ _ _ _ _ _ m n ks::xs=>1+e.length+eK m+eK n+wtS ks+wtS xs
def Po(x:ag)(xs:List ag):wtS (x::xs)=1+x.bI.length+eK x.bY+eK x.cS+wtS x.af+wtS xs:=by cases x;rw[wtS];rfl
def iq:∀(l:List ag),cl l<=wtS l
 | []=>by simp[cl]
 | .mk _ _ _ _ _ _ _ _ _ _ _ _ _ _ ks::xs=>by have:=iq ks;have:=iq xs;simp only[cl,wtS];omega
def za:∀(l:List ag),fK l<=wtS l
 | []=>by simp[fK]
 | .mk _ _ _ _ _ _ _ _ _ _ _ _ _ _ ks::xs=>by have:=za ks;have:=za xs;simp only[fK,wtS];omega
def CZ:∀ {l:List ag} {x:ag},x∈l->1+x.bI.length+eK x.bY+eK x.cS+wtS x.af<=wtS l
 | y::l,x,h=>by
  rw[Po];rcases List.mem_cons.1 h with rfl|h
  ·omega
  ·have:=CZ h;omega
def DW:∀(l:List bf) (r:Int),0<=r->0<=jR l r->jR l r+eK l<=r+1
 | [],r,_,_=>by simp[jR,eK];omega
 | .mk op num tx p ks::xs,r,h0,h=>by
  rw[jR]at h ⊢;obtain⟨h1,e1⟩:=iK h;rw[e1]at h ⊢
  have hx:dh (.mk op num tx p ks) r+ji (.mk op num tx p ks)<=r+1:=by
   rw[dh]at h1 ⊢;obtain⟨h2,e2⟩:=iK h1;rw[e2]at h1 ⊢;obtain⟨h3,e3⟩:=iK h1;rw[e3]at h1 ⊢;obtain⟨h4,e4⟩:=iK h1;rw[e4]at h1 ⊢;simp only[id]at h1 h4 ⊢;obtain⟨h5,e5⟩:=iK h4;rw[e5]at h1 ⊢;have h6:=DW ks _ h5 h1
   have h7:=sZ p (aA tx r) h2
   have h8:=aT tx r h0;rw[ji]
   cases ks with
   | nil=>simp only[eK,jR,length_nil]at *;omega
   | cons y ys=>simp only[length_cons]at *;omega
  have h9:=DW xs _ h1 h
  have h10:=ue xs _ h1
  have h11:=gq (.mk op num tx p ks) r h0;rw[eK];rcases Nat.le_total (ji (.mk op num tx p ks)) (eK xs)with q|q
  ·rw[Nat.max_eq_right q];omega
  ·rw[Nat.max_eq_left q];omega
def Kx{l:List bf}{r:Int}(h0:0<=r)(h:0<=aM dh l r):aM dh l r+eK l<=r:=by
 rcases Int.lt_or_le (r - l.length) 0 with h2|h2
 ·rw[fM h2]at h;omega
 ·rw[fY h2,<- uf]at h ⊢;have:=DW l _ h2 h
  cases l with
  | nil=>simp only[eK,jR,length_nil]at *;omega
  | cons y ys=>simp only[length_cons]at *;omega
def FR:∀(l:List ag) (r:Int),0<=r->0<=ju l r->ju l r+wtS l<=r+l.length
 | [],r,_,_=>by simp[ju,wtS]
 | .mk k a b c d e f g hh i j lx m n ks::xs,r,h0,h=>by
  rw[ju]at h ⊢;obtain⟨h1,e1⟩:=iK h;rw[e1]at h ⊢
  have hx:bG (.mk k a b c d e f g hh i j lx m n ks) r+(e.length+eK m+eK n+wtS ks:Nat)<=r:=by
   rw[bG]at h1 ⊢;obtain⟨g0,e0⟩:=iK h1;rw[e0]at h1 ⊢;obtain⟨g1,e1⟩:=iK h1;rw[e1]at h1 ⊢;obtain⟨g2,e2⟩:=iK h1;rw[e2]at h1 ⊢;obtain⟨g3,e3⟩:=iK h1;rw[e3]at h1 ⊢;obtain⟨g4,e4⟩:=iK h1;rw[e4]at h1 ⊢;obtain⟨g5,e5⟩:=iK h1;rw[e5]at h1 ⊢;obtain⟨g6,e6⟩:=iK h1;rw[e6]at h1 ⊢;obtain⟨g7,e7⟩:=iK h1;rw[e7]at h1 ⊢;simp only[id]at h1 g7 ⊢;obtain⟨g8,e8⟩:=iK g7;rw[e8]at h1 ⊢;have q0:=aT a r h0
   have q1:=mR b _ g0
   have q2:=ba aA aT c _ g1
   have q3:=ba aA aT d _ g2
   have q5:=Kx g4 g5
   have q6:=Kx g5 g6
   have q7:=FR ks _ g8 h1;rw[show aA e (aM aA d (aM aA c (eC b (aA a r))))=aM aA d (aM aA c (eC b (aA a r))) - e.length from rfl]at *;omega
  have:=FR xs _ h1 h;rw[wtS,length_cons];omega
def Ju{l:List ag}{r:Int}(h0:0<=r)(h:0<=aM bG l r):(wtS l:Int)<=r:=by
 rcases Int.lt_or_le (r - l.length) 0 with h2|h2
 ·rw[fM h2]at h;omega
 ·rw[fY h2,<- qI]at h;have:=FR l _ h2 h;omega
def ndP(n:Str)(x:ah):Bool:=x.ae == n
def kyB(n:ag)(x:ah):Bool:=!decide (n.aj=2) || n.ax.all (λk=>decide (0<=idx (ndP k) x.af))
def kyL(n:ag)(x:ah):List Str:=if n.aj=2 then (if kyB n x=true then n.ax.map (λk=>(at_ x.af (idx (ndP k) x.af).toNat).aq) else []) else [x.aq]
def dZ:List Str->List Str->Bool
 | [],[]=>false
 | [],_::_=>true
 | _::_,[]=>false
 | x::xs,y::ys=>if x=y then dZ xs ys else Op.bytesLess x y
def pN(a b:Str):Int:=if Op.bytesLess a b=true then -1 else if a=b then 0 else 1
def cmpL:List Str->List Str->Int
 | [],[]=>0
 | [],_::_=>-1
 | _::_,[]=>1
 | x::xs,y::ys=>if pN x y=0 then cmpL xs ys else pN x y
def tG:∀a:Str,Op.bytesLess a a=false
 | []=>by simp[Op.bytesLess]
 | x::xs=>by simp[Op.bytesLess,tG xs]
def yn(a b:Str):pN a b=0↔a=b:=by
 unfold pN;constructor
 ·intro h;split at h
  ·omega
  ·split at h
   ·assumption
   ·omega
 ·rintro rfl;simp[tG]
def kP:∀a b:List Str,dZ a b=decide (cmpL a b<0)
 | [],[]=>by simp[dZ,cmpL]
 | [],_::_=>by simp[dZ,cmpL]
 | _::_,[]=>by simp[dZ,cmpL]
 | x::xs,y::ys=>by
  rw[dZ,cmpL];by_cases h:x=y
  ·rw[if_pos h,if_pos ((yn _ _).2 h),kP xs ys]
  ·rw[if_neg h,if_neg (λc=>h ((yn _ _).1 c)),pN];cases Op.bytesLess x y<;>simp[h]
def ig(k:Int):Bool:=decide (k=2) || decide (k=4)
def jH(n:ag)(a b:ah):Int:=if ig n.aj=true then cmpL (kyL n a) (kyL n b) else 0
def eB(d:List ag)(a b:ah):Bool :=
 if idx (nmP a.ae) d=idx (nmP b.ae) d/\ig (at_ d (idx (nmP b.ae) d).toNat).aj=true then dZ (kyL (at_ d (idx (nmP b.ae) d).toNat) a) (kyL (at_ d (idx (nmP b.ae) d).toNat) b) else decide (idx (nmP a.ae) d<idx (nmP b.ae) d)
def wR(d:List ag):Option ah->ah->Bool
 | none,_=>true
 | some a,b=>eB d a b
def okL(d:List ag):Option ah->List ah->Bool
 | _,[]=>true
 | p,.mk nm v ks::xs =>
  decide (0<=idx (nmP nm) d) &&
  (let n:=at_ d (idx (nmP nm) d).toNat
   if n.aj=3\/n.aj=4 then ks.isEmpty && isVal n.fType v
   else if n.aj=2 then kyB n (.mk nm v ks) && v.isEmpty && okL (dk n.af) none ks
   else v.isEmpty && (n.bZ || !ks.isEmpty) && okL (dk n.af) none ks) &&
  wR d p (.mk nm v ks) && okL d (some (.mk nm v ks)) xs
def okN(n:ag)(x:ah):Bool :=
 if n.aj=3\/n.aj=4 then x.af.isEmpty && isVal n.fType x.aq
 else if n.aj=2 then kyB n x && x.aq.isEmpty && okL (dk n.af) none x.af
 else x.aq.isEmpty && (n.bZ || !x.af.isEmpty) && okL (dk n.af) none x.af
def vV(d:List ag)(p:Option ah)(x:ah)(xs:List ah):okL d p (x::xs)=(decide (0<=idx (nmP x.ae) d) && okN (at_ d (idx (nmP x.ae) d).toNat) x && wR d p x && okL d (some x) xs):=by cases x;rw[okL];rfl
def prv(l:List ah):Nat->Option ah
 | 0=>none
 | k+1=>some (at_ l k)
def sD{d:List ag}{l:List ah}{k:Nat}(h:k<l.length):okL d (prv l k) (l.drop k)=(decide (0<=idx (nmP (at_ l k).ae) d) && okN (at_ d (idx (nmP (at_ l k).ae) d).toNat) (at_ l k) && wR d (prv l k) (at_ l k) && okL d (prv l (k+1)) (l.drop (k+1))):=by rw[bT h,vV];rfl
def jO(d:List ag)(l:List ah)(k:Nat):Int:=match prv l k with
 | none=>-1
 | some a=>idx (nmP a.ae) d
def dw(s:List ag)(l:List ah):Bool:=kJ s && decide (cnt l<=120) && okL (dk s) none l
def y9:∀(l:List ag),∀y∈dk l,dR y.aj=true
 | [],y,h=>by simp[dk]at h
 | .mk k a b c d e f g h i j l m n ks::xs,y,hy=>by
  rw[dk,mem_append]at hy;rcases hy with hy|hy
  ·split at hy
   ·rename_i h1;rw[mem_singleton]at hy;subst hy;exact h1
   ·split at hy
    ·exact y9 ks y hy
    ·simp at hy
  ·exact y9 xs y hy
def ke:∀(l:List ag),∀y∈dk l,1+y.bI.length+wtS y.af<=wtS l
 | [],y,h=>by simp[dk]at h
 | .mk k a b c d e f g h i j l m n ks::xs,y,hy=>by
  rw[dk,mem_append]at hy;rcases hy with hy|hy
  ·split at hy
   ·rename_i h1;rw[mem_singleton]at hy;subst hy;simp only[wtS,ag.af,ag.bI];omega
   ·split at hy
    ·have:=ke ks y hy;simp only[wtS];omega
    ·simp at hy
  ·have:=ke xs y hy;simp only[wtS];omega
def gC(d:List ag)(n:Str):idx (λx=>x == n) (nmS d)=idx (nmP n) d:=by rw[nmS,<- uZ ag.ae (λx=>x == n)];rfl
def Rd:List Str->List ag->ah->List ah
 | [],_,x=>[x]
 | c::cs,s,x =>
  if x.ae=c then
   (if cs=[] then [x] else
    (let n:=at_ (dk s) (idx (nmP x.ae) (dk s)).toNat
     if n.aj=1\/n.aj=2 then
     (let kids:=x.af.flatMap λk=>if cont n.ax k.ae=true then [k] else Rd cs n.af k
      if n.aj=1/\n.bZ=false/\kids=[] then [] else [.mk x.ae [] kids])
     else []))
  else []
def wH:List Str->List ag->List Str->ah->List ah
 | [],_,_,x=>[x]
 | c::cs,d,keys,x =>
  let n:=at_ d (idx (nmP x.ae) d).toNat
  if ¬n.ae=c\/(n.aj=3\/n.aj=4)/\¬cs=[] then (if cont keys n.ae=true then [x] else [])
  else (let kids:=x.af.flatMap (wH cs (dk n.af) n.ax)
   if ¬n.aj=1\/n.bZ=true\/¬kids=[] then [.mk n.ae x.aq kids] else [])
def okX(d:List ag)(x:ah):Prop:=0<=idx (nmP x.ae) d/\okN (at_ d (idx (nmP x.ae) d).toNat) x=true
def uO:∀ {l:List ah} {d:List ag} {p:Option ah},okL d p l=true->∀x∈l,okX d x
 | y::l,d,p,h,x,hx=>by
  rw[vV]at h;simp only[Bool.and_eq_true,decide_eq_true_eq]at h;rcases List.mem_cons.1 hx with rfl|hx
  ·exact⟨h.1.1.1,h.1.1.2⟩
  ·exact uO h.2 x hx
def gdS(s:List ag):Prop:=cE (nmS (dk s))=true/\∃kind bd,kA s kind bd=true
def yh:∀ {l:List ag} {m:ag},m∈l->dR m.aj=true->m∈dk l
 | x::xs,m,h,hk=>by
  rw[nO,mem_append];rcases List.mem_cons.1 h with rfl|h
  ·rw[if_pos hk];simp
  ·exact .inr (yh h hk)
def yR:∀(l:List ag) (kind:Int) (bd:Bool),kA l kind bd=true->∀n∈dk l,(∃kd b,jT kd b n=true)/\gdS n.af
 | [],_,_,_,n,h=>by simp[dk]at h
 | .mk k a b c d e f g h i j l m nn ks::xs,kind,bd,hA,n,hn=>by
  rw[dk,mem_append]at hn;rw[kA]at hA;simp only[Bool.and_eq_true]at hA;rcases hn with hn|hn
  ·split at hn
   ·rename_i hk;rw[mem_singleton]at hn;subst hn;refine⟨⟨_,_,hA.1.1⟩,?_,_,_,hA.1.2.2⟩;have:=hA.1.2.1;simp only[mw,Bool.and_eq_true,Bool.or_eq_true,decide_eq_true_eq]at this;simp only[dR,Bool.and_eq_true,decide_eq_true_eq]at hk;rcases this.2 with(h|h)|h
    ·omega
    ·omega
    ·exact h
   ·split at hn
    ·exact yR ks _ _ hA.1.2.2 n hn
    ·simp at hn
  ·exact yR xs _ _ hA.2 n hn
def pG{s:List ag}(h:gdS s){n:ag}(hn:n∈dk s):gdS n.af/\(¬n.aj=2->n.ax=[])/\∀k∈n.ax,∃m∈dk n.af,m.ae=k/\m.aj=3:=by
 obtain⟨_,kind,bd,hA⟩:=h;obtain⟨⟨kd,b,ho⟩,hg⟩:=yR s kind bd hA n hn;refine⟨hg,λh2=>?_,λk hk=>?_⟩
 ·simp only[jT,mf,lz,Bool.and_eq_true,Bool.or_eq_true,decide_eq_true_eq]at ho;have:=ho.1.1.1.1.1.2.1.1.1.1.1.1.1.2;rcases this with h|h
  ·exact absurd h h2
  ·exact List.isEmpty_iff.1 h.1
 ·simp only[jT,Bool.and_eq_true]at ho;have:=List.all_eq_true.1 ho.1.2 k hk;simp only[pX,Bool.and_eq_true,decide_eq_true_eq]at this;obtain⟨h1,h2,h3⟩:=gD this.1;simp only[fG,Bool.and_eq_true,beq_iff_eq,decide_eq_true_eq]at h2;exact⟨_,yh h3 (by rw[h2.2];rfl),h2.1,h2.2⟩
def uM{d:List ag}{x:ah}(h:okX d x):(at_ d (idx (nmP x.ae) d).toNat).ae=x.ae/\at_ d (idx (nmP x.ae) d).toNat∈d:=by obtain⟨h1,h2,h3⟩:=gD h.1;simp only[nmP,beq_iff_eq]at h2;exact⟨h2,h3⟩
def Aq{n:ag}{x:ah}(h:okN n x=true)(hk:¬(n.aj=3\/n.aj=4)):x.aq=[]/\okL (dk n.af) none x.af=true/\(¬n.aj=2->n.bZ=true\/¬x.af=[]):=by
 rw[okN,if_neg hk]at h;split at h
 ·rename_i h2;simp only[Bool.and_eq_true]at h;exact⟨List.isEmpty_iff.1 h.1.2,h.2,λc=>absurd h2 c⟩
 ·simp only[Bool.and_eq_true,Bool.or_eq_true,Bool.not_eq_true']at h;refine⟨List.isEmpty_iff.1 h.1.1,h.2,λ_=>?_⟩;rcases h.1.2 with c|c
  ·exact .inl c
  ·refine .inr λe=>?_;rw[e]at c;simp at c
def GN{n:ag}{x:ah}(h:okN n x=true)(hk:n.aj=3\/n.aj=4):x.af=[]:=by rw[okN,if_pos hk]at h;simp only[Bool.and_eq_true]at h;exact List.isEmpty_iff.1 h.1
def L3{α β:Type}{f g:α->List β}{l:List α}(h:∀x∈l,f x=g x):l.flatMap f=l.flatMap g:=by
 induction l with
 | nil=>rfl
 | cons x xs ih=>rw[flatMap_cons,flatMap_cons,h x zH,ih λy hy=>h y (by simp[hy])]
def yG{s:List ag}(h:kJ s=true):gdS s:=by simp only[kJ,kR,mw,Bool.and_eq_true,Bool.or_eq_true,decide_eq_true_eq]at h;refine⟨?_,_,_,h.2.2⟩;rcases h.2.1.2 with(h|h)|h<;>first|exact h|(exact absurd h daa)
open Go.Ab
def yp:∀(x y:Str),(Op.bytesLess x y || x == y)=!Op.bytesLess y x
 | [],[]=>by simp[Op.bytesLess]
 | [],_::_=>by simp[Op.bytesLess]
 | _::_,[]=>by simp[Op.bytesLess]
 | a::x,b::y=>by
  have ih:=yp x y;simp only[Op.bytesLess];by_cases e:a=b
  ·subst e;have:decide (a<a)=false:=by simp
   simp only[this,beq_self_eq_true,Bool.true_and,Bool.false_or,<- ih];cases Op.bytesLess x y<;>simp
  ·have e':¬b=a:=λh=>e h.symm
   have e1:(a == b)=false:=by simpa using e
   have e2:(b == a)=false:=by simpa using e'
   have e3:(a::x == b::y)=false:=by simp[e]
   rw[e1,e2,e3,Bool.false_and,Bool.false_and,Bool.or_false,Bool.or_false,Bool.or_false];by_cases h:a<b
   ·have h2:¬b<a:=λh3=>by
     have h4:=UInt8.lt_iff_toNat_lt.1 h
     have h5:=UInt8.lt_iff_toNat_lt.1 h3;omega
    simp[h,h2]
   ·have h2:b<a:=by
     have h4:¬a.toNat<b.toNat:=λh5=>h (UInt8.lt_iff_toNat_lt.2 h5)
     have h5:¬a.toNat=b.toNat:=λh6=>e (UInt8.toNat_inj.1 h6);exact UInt8.lt_iff_toNat_lt.2 Yt
    simp[h,h2]
def tmI(l:List aE)(n:Str):Int:=idx (λx=>x.ae == n) l
def svc(T:List aE)(x:bt):Bool:=(isName x.ae && decide (0<=tmI T x.bJ)) && (names x.cq && cE x.cq)
def qJ(T:List aE)(S:List bt)(j:Nat):Bool:=svc T (at_ S j) && (j == 0 || Op.bytesLess (at_ S (j - 1)).ae (at_ S j).ae)
def kK(ip:Str->Bool)(T:List aE)(S:List bt):Bool:=((cz (λj=>dF ip (at_ T j)) T.length && cE (T.map aE.ae)) && (decide (T.length<=8) && decide (S.length<=8))) && cz (qJ T S) S.length
def Hw{ip:Str->Bool}{T:List aE}{S:List bt}{j:Nat}(hj:j<T.length)(h:dF ip (at_ T j)=false):kK ip T S=false:=by rw[kK,cV hj h];rfl
def Hx{ip:Str->Bool}{T:List aE}{S:List bt}{j:Nat}(hj:j<S.length)(h:qJ T S j=false):kK ip T S=false:=by rw[kK,cV hj h,Bool.and_false]
def Qw{ip:Str->Bool}{T:List aE}{S:List bt}(h:(8<T.length\/cE (T.map aE.ae)=false)\/8<S.length):kK ip T S=false:=by
 rw[kK];rcases h with(h|h)|h
 ·rw[show decide (T.length<=8)=false from decide_eq_false Yt];simp
 ·rw[h];simp
 ·rw[show decide (S.length<=8)=false from decide_eq_false Yt];simp
theorem ES{α:Type}[Inhabited α](f:α->Str){l:List α}{k:Nat}(hk:k<l.length):idx (λx=>f x == f (at_ l k)) l=k↔cont ((l.map f).take k) (at_ (l.map f) k)=false:=by
 have hk':k<(l.map f).length:=by simpa using hk
 rw[CT f hk,uZ f (λx=>x == f (at_ l k))];have yT:((at_ (l.map f) k) == f (at_ l k))=true:=by rw[CT f hk];simp
 constructor
 ·intro h;rw[Bool.eq_false_iff];intro hc;have hm:=(iW _ _).1 hc;obtain⟨j,hj,e⟩:=getElem_of_mem hm;rw[length_take]at hj
  have e2:at_ (l.map f) j=f (at_ l k):=by
   unfold at_;rw[getElem_take]at e;rw[getElem?_eq_getElem Yt,e];rfl
  have hle:∀(m:List Str) (j:Nat),j<m.length->at_ m j=f (at_ l k)->idx (λx=>x == f (at_ l k)) m<=j:=by
   intro m
   induction m with
   | nil=>intro j h;simp at h
   | cons y ys ih =>
    intro j hj he;simp only[idx];split
    ·omega
    ·cases j with
     | zero=>rename_i hn;simp[at_]at he;simp[he]at hn;simp[at_]at hn
     | succ j =>
      have:=ih j (by simpa using hj) (by simpa[at_]using he);split
      ·omega
      ·omega
  have:=hle _ j Yt e2;omega
 ·intro h;refine gR hk' (λy hy=>?_) yT;rw[beq_eq_false_iff_ne];intro e;rw[e]at hy;rw[(iW _ _).2 hy]at h;cases h
def F5{α:Type}{f:α->Int->Int}(hf:∀x r,0<=r->f x r<=r):∀(l:List α) (r:Int),0<=r->0<=eH f l r->∀x∈l,∃r',0<=r'/\r'<=r/\0<=f x r'
 | [],_,_,_,_,hx=>by cases hx
 | y::ys,r,h0,h,x,hx=>by
  rw[eH,thn]at h;split at h
  ·omega
  ·rename_i h1;rcases List.mem_cons.1 hx with rfl|hx
   ·exact⟨r,h0,Int.le_refl r,Yt⟩
   ·obtain⟨r',a,b,c⟩:=F5 hf ys _ Yt h x hx;have:=hf y r h0;exact⟨r',a,Yt,c⟩
def Pv{α:Type}{f:α->Int->Int}(hf:∀x r,0<=r->f x r<=r){l:List α}{r:Int}(h:0<=aM f l r){x:α}(hx:x∈l):∃r',0<=r'/\r'<=r/\0<=f x r':=by
 rcases Int.lt_or_le (r - l.length) 0 with h4|h4
 ·rw[fM h4]at h;omega
 ·rw[fY h4]at h;obtain⟨r',a,b,c⟩:=F5 hf l _ h4 h x hx;exact⟨r',a,Yt,c⟩
def K5{α:Type}{f:α->Int->Int}{l:List α}{r:Int}(h:0<=aM f l r):(l.length:Int)<=r:=by
 rcases Int.lt_or_le (r - l.length) 0 with h4|h4
 ·rw[fM h4]at h;omega
 ·omega
theorem fo{α:Type}[Inhabited α]{l:List α}{i:Nat}(h:i<l.length):l.take (i+1)=l.take i++[at_ l i]:=by rw[take_succ_eq_append_getElem h];unfold at_;rw[getElem?_eq_getElem h];rfl
def Sy{T:List aE}{S:List bt}{j:Nat}(h:(((isName (at_ S j).ae=false\/0<(j:Int)/\(Op.bytesLess (at_ S j).ae (at_ S ((j:Int) - 1).toNat).ae=true\/(at_ S j).ae=(at_ S ((j:Int) - 1).toNat).ae))\/tmI T (at_ S j).bJ<0)\/names (at_ S j).cq=false)\/cE (at_ S j).cq=false):qJ T S j=false:=by
 unfold qJ svc;rcases h with(((h|⟨h0,h⟩)|h)|h)|h
 ·rw[h];simp
 ·have e:((j:Int) - 1).toNat=j - 1:=by omega
  rw[e]at h
  have h2:(Op.bytesLess (at_ S j).ae (at_ S (j - 1)).ae || (at_ S j).ae == (at_ S (j - 1)).ae)=true:=by
   rcases h with h|h
   ·rw[h];rfl
   ·simp[h]
  rw[yp]at h2;have h3:Op.bytesLess (at_ S (j - 1)).ae (at_ S j).ae=false:=by simpa using h2
  have h4:(j == 0)=false:=by simp only[beq_eq_false_iff_ne];omega
  rw[h3,h4];simp
 ·rw[show decide (0<=tmI T (at_ S j).bJ)=false from decide_eq_false Yt];simp
 ·rw[h];simp
 ·rw[h];simp
def Pz{T:List aE}{S:List bt}{j:Nat}(h:(((isName (at_ S j).ae=true/\(0<(j:Int)->Op.bytesLess (at_ S j).ae (at_ S ((j:Int) - 1).toNat).ae=false/\¬(at_ S j).ae=(at_ S ((j:Int) - 1).toNat).ae))/\0<=tmI T (at_ S j).bJ)/\names (at_ S j).cq=true)/\cE (at_ S j).cq=true):qJ T S j=true:=by
 unfold qJ svc;obtain⟨⟨⟨⟨h1,h2⟩,h3⟩,h4⟩,h5⟩:=h;rw[h1,h4,h5,show decide (0<=tmI T (at_ S j).bJ)=true from decide_eq_true h3];by_cases h0:j=0
 ·simp[h0]
 ·have e:((j:Int) - 1).toNat=j - 1:=by omega
  have h6:=h2 Yt;rw[e]at h6;have h7:=yp (at_ S j).ae (at_ S (j - 1)).ae;rw[h6.1,show ((at_ S j).ae == (at_ S (j - 1)).ae)=false by simpa using h6.2]at h7;have h8:Op.bytesLess (at_ S (j - 1)).ae (at_ S j).ae=true:=by simpa using h7
  rw[h8];simp
def PA{T:List aE}{S:List bt}{j:Nat}(h:svc T (at_ S j)=false\/0<(j:Int)/\Op.bytesLess (at_ S ((j:Int) - 1).toNat).ae (at_ S j).ae=false):qJ T S j=false:=by
 unfold qJ;rcases h with h|⟨h0,h⟩
 ·rw[h];rfl
 ·have e:((j:Int) - 1).toNat=j - 1:=by omega
  have h4:(j == 0)=false:=by simp only[beq_eq_false_iff_ne];omega
  rw[e]at h;rw[h,h4];simp
def MK{T:List aE}{S:List bt}{j:Nat}(h:svc T (at_ S j)=true/\(0<(j:Int)->Op.bytesLess (at_ S ((j:Int) - 1).toNat).ae (at_ S j).ae=true)):qJ T S j=true:=by
 unfold qJ;rw[h.1];by_cases h0:j=0
 ·simp[h0]
 ·have e:((j:Int) - 1).toNat=j - 1:=by omega
  have h6:=h.2 Yt;rw[e]at h6;rw[h6];simp
def LF{ip:Str->Bool}{T:List aE}{S:List bt}{j:Nat}(hj:j<T.length)(h:¬tmI T (at_ T j).ae=j):kK ip T S=false:=by
 rw[kK]
 have:cE (T.map aE.ae)=false:=by
  unfold cE;refine cV (j:=j) (by simpa using hj) ?_
  cases e:cont ((T.map aE.ae).take j) (at_ (T.map aE.ae) j)with
  | true=>rfl
  | false=>exact absurd ((ES aE.ae hj).2 e) h
 rw[this];simp
def nG(T:List aE):Prop:=∀t∈T,wt t.dq<=1048576/\t.aI.length<=1048576
open Go Go.Ab
def Rg(a b:Str):-1<=pN a b/\pN a b<=1:=by unfold pN;repeat' split<;>omega
def KN{a b:List Str}{i:Nat}(h1:i<a.length)(h2:i<b.length):cmpL (a.drop i) (b.drop i)=if pN (at_ a i) (at_ b i)=0 then cmpL (a.drop (i+1)) (b.drop (i+1)) else pN (at_ a i) (at_ b i):=by rw[bT h1,bT h2,cmpL]
def Xs{a b:List Str}{i:Nat}(h1:i<a.length)(h2:¬i<b.length):cmpL (a.drop i) (b.drop i)=1:=by rw[bT h1,dn h2,cmpL]
def O6{a b:List Str}{i:Nat}(h1:¬i<a.length):cmpL (a.drop i) (b.drop i)=if i<b.length then -1 else 0:=by
 rw[dn h1];split
 ·rw[bT baa,cmpL]
 ·rw[dn baa,cmpL]
def Hj{a b:List Str}{i:Nat}(h1:i<a.length)(h2:i<b.length):dZ (a.drop i) (b.drop i)=if at_ a i=at_ b i then dZ (a.drop (i+1)) (b.drop (i+1)) else Op.bytesLess (at_ a i) (at_ b i):=by rw[bT h1,bT h2,dZ]
def TM{a b:List Str}{i:Nat}(h0:i<=a.length)(h0':i<=b.length)(h1:¬(i<a.length/\i<b.length)):dZ (a.drop i) (b.drop i)=decide (a.length<b.length):=by
 by_cases h:i<a.length
 ·have:¬i<b.length:=λc=>h1 ⟨h,c⟩;rw[bT h,dn this,dZ,eq_comm,decide_eq_false_iff_not];omega
 ·rw[dn h];by_cases h2:i<b.length
  ·rw[bT h2,dZ,eq_comm,decide_eq_true_eq];omega
  ·rw[dn h2,dZ,eq_comm,decide_eq_false_iff_not];omega
def kyT(x:ah)(k:Str):Str:=(at_ x.af (idx (ndP k) x.af).toNat).aq
def mq(x:ah)(k:Str):Bool:=decide (0<=idx (ndP k) x.af)
def oT{n:ag}{x:ah}(h:n.aj=2)(hk:n.ax.all (mq x)=true):kyL n x=n.ax.map (kyT x)/\kyB n x=true:=by
 have e:kyB n x=true:=by rw[kyB,h];exact hk
 refine⟨?_,e⟩;rw[kyL,if_pos h,if_pos e];rfl
def uT{n:ag}{x:ah}(h:n.aj=2)(hk:n.ax.all (mq x)=false):kyL n x=[]/\kyB n x=false:=by
 have e:kyB n x=false:=by rw[kyB,h];exact hk
 refine⟨?_,e⟩;rw[kyL,if_pos h,if_neg (by rw[e];simp)]
def ij{n:ag}{x:ah}(h:¬n.aj=2):kyL n x=[x.aq]/\kyB n x=true:=by refine⟨by rw[kyL,if_neg h],?_⟩;rw[kyB];simp[h]
section
variable {d : List ag} {l : List ah} {k : Nat}
def IE(h0:0<=idx (nmP (at_ l k).ae) d):wR d (prv l k) (at_ l k)=(decide (jO d l k<idx (nmP (at_ l k).ae) d) || decide (idx (nmP (at_ l k).ae) d=jO d l k) && decide (jH (at_ d (idx (nmP (at_ l k).ae) d).toNat) (at_ l ((k:Int) - 1).toNat) (at_ l k)<0)):=by
 cases k with
 | zero=>rw[show jO d l 0 = -1 from rfl,show wR d (prv l 0) (at_ l 0)=true from rfl,show decide (-1<idx (nmP (at_ l 0).ae) d)=true by simp;omega];rfl
 | succ k =>
  rw[show (((k+1:Nat):Int) - 1).toNat=k by omega,show jO d l (k+1)=idx (nmP (at_ l k).ae) d from rfl,show wR d (prv l (k+1)) (at_ l (k+1))=eB d (at_ l k) (at_ l (k+1))from rfl,eB,jH];by_cases e:idx (nmP (at_ l k).ae) d=idx (nmP (at_ l (k+1)).ae) d
  ·by_cases r:ig (at_ d (idx (nmP (at_ l (k+1)).ae) d).toNat).aj=true
   ·rw[if_pos ⟨e,r⟩,if_pos r,kP,e];simp
   ·rw[if_neg (λc=>r c.2),if_neg r,e];simp
  ·rw[if_neg (λc=>e c.1),show decide (idx (nmP (at_ l (k+1)).ae) d=idx (nmP (at_ l k).ae) d)=false by simp;exact λc=>e c.symm];simp
def Tp(hk:k<l.length)(h:idx (nmP (at_ l k).ae) d<0\/idx (nmP (at_ l k).ae) d<jO d l k):okL d (prv l k) (l.drop k)=false:=by
 rw[sD hk];by_cases h0:0<=idx (nmP (at_ l k).ae) d
 ·rw[IE h0];have h1:idx (nmP (at_ l k).ae) d<jO d l k:=by omega
  rw[show decide (jO d l k<idx (nmP (at_ l k).ae) d)=false by simp;omega,show decide (idx (nmP (at_ l k).ae) d=jO d l k)=false by simp;omega];simp
 ·rw[show decide (0<=idx (nmP (at_ l k).ae) d)=false by simp;omega];rfl
def P3(hk:k<l.length)(h0:0<=idx (nmP (at_ l k).ae) d)(h:okN (at_ d (idx (nmP (at_ l k).ae) d).toNat) (at_ l k)=false\/idx (nmP (at_ l k).ae) d=jO d l k/\0<=jH (at_ d (idx (nmP (at_ l k).ae) d).toNat) (at_ l ((k:Int) - 1).toNat) (at_ l k)):okL d (prv l k) (l.drop k)=false:=by
 rw[sD hk,IE h0];rcases h with h|⟨h1,h2⟩
 ·rw[h];simp
 ·rw[show decide (jO d l k<idx (nmP (at_ l k).ae) d)=false by simp;omega,show decide (jH (at_ d (idx (nmP (at_ l k).ae) d).toNat) (at_ l ((k:Int) - 1).toNat) (at_ l k)<0)=false by rw[decide_eq_false_iff_not];omega];simp
def P2(hk:k<l.length)(h0:0<=idx (nmP (at_ l k).ae) d)(h1:jO d l k<=idx (nmP (at_ l k).ae) d)(h2:okN (at_ d (idx (nmP (at_ l k).ae) d).toNat) (at_ l k)=true)(h3:idx (nmP (at_ l k).ae) d=jO d l k->jH (at_ d (idx (nmP (at_ l k).ae) d).toNat) (at_ l ((k:Int) - 1).toNat) (at_ l k)<0):okL d (prv l k) (l.drop k)=okL d (prv l (k+1)) (l.drop (k+1)):=by
 rw[sD hk,IE h0,h2,show decide (0<=idx (nmP (at_ l k).ae) d)=true by simpa using h0];by_cases e:idx (nmP (at_ l k).ae) d=jO d l k
 ·rw[show decide (jH (at_ d (idx (nmP (at_ l k).ae) d).toNat) (at_ l ((k:Int) - 1).toNat) (at_ l k)<0)=true by rw[decide_eq_true_eq];exact h3 e,show decide (idx (nmP (at_ l k).ae) d=jO d l k)=true by simpa using e];simp
 ·rw[show decide (jO d l k<idx (nmP (at_ l k).ae) d)=true by rw[decide_eq_true_eq];omega];simp
def Qj:-1<=jO d l k:=by
 cases k with
 | zero=>exact Int.le_refl _
 | succ k=>exact qv _ _
def Qi:jO d l k<d.length:=by
 cases k with
 | zero=>rw[show jO d l 0 = -1 from rfl];omega
 | succ k=>exact gu _
end
def af3(n:ag)(cs:List Str)(k:ah):List ah:=if cont n.ax k.ae=true then [k] else Rd cs n.af k
section
variable {s : List ag} {x : ah} {c : Str} {cs : List Str}
end
def smT:List ah->List ah->Bool
 | [],[]=>true
 | [],_::_=>false
 | .mk _ _ _::_,[]=>false
 | .mk n v ks::xs,y::ys=>n == y.ae && v == y.aq && smT ks y.af && smT xs ys
def PG(x y:ah)(xs ys:List ah):smT (x::xs) (y::ys)=(x.ae == y.ae && x.aq == y.aq && smT x.af y.af && smT xs ys):=by cases x;rw[smT];try rfl
def C6:∀(a b:List ah),smT a b=true↔a=b
 | [],[]=>by simp[smT]
 | [],_::_=>by simp[smT]
 | .mk _ _ _::_,[]=>by simp[smT]
 | .mk n v ks::xs,.mk m u js::ys=>by
  have h1:=C6 ks js
  have h2:=C6 xs ys;rw[smT];simp only[Bool.and_eq_true,beq_iff_eq,ah.ae,ah.aq,ah.af,h1,h2,List.cons.injEq,ah.mk.injEq];constructor
  ·rintro⟨⟨⟨a,b⟩,c⟩,d⟩;exact⟨⟨a,b,c⟩,d⟩
  ·rintro⟨⟨a,b,c⟩,d⟩;exact⟨⟨⟨a,b⟩,c⟩,d⟩
def BQ{a b:List ah}{k:Nat}(h:k<a.length)(h2:k<b.length):smT (a.drop k) (b.drop k)=((at_ a k).ae == (at_ b k).ae && (at_ a k).aq == (at_ b k).aq && smT (at_ a k).af (at_ b k).af && smT (a.drop (k+1)) (b.drop (k+1))):=by rw[bT h,bT h2,PG]
def JD{a b:List ah}(h:¬(a.length:Int)=b.length):smT a b=false:=by rw[Bool.eq_false_iff];intro e;rw[(C6 a b).1 e]at h;exact h rfl
def JE{a b:List ah}{k:Nat}(h:¬k<a.length)(h2:¬k<b.length):smT (a.drop k) (b.drop k)=true:=by rw[dn h,dn h2,smT]
def skB(n:ag)(a b:ah):Bool:=!ig n.aj || (kyB n a && kyB n b && (kyL n a == kyL n b))
def fiP(n:ag)(x y:ah):Bool:=y.ae == n.ae && decide (jH n x y=0) && skB n x y
def fsP(n:ag)(v:Str)(key:List Str)(y:ah):Bool:=y.ae == n.ae && !(decide (n.aj=4) && !(y.aq == v)) && (!decide (n.aj=2) || !dZ (kyL n y) key && !dZ key (kyL n y))
def fnd(n:ag)(l:List ah)(x:ah):Int:=idx (fiP n x) l
def xW{α:Type}{p q:α->Bool}:∀ {l:List α},(∀x∈l,p x=q x)->idx p l=idx q l
 | [],_=>rfl
 | x::xs,h=>by
  simp only[idx];rw[h x zH,xW (p:=p) (q:=q) (l:=xs) λy hy=>h y (by simp[hy])]
def UE(x y:Str):(!Op.bytesLess x y && !Op.bytesLess y x)=(x == y):=by
 have h1:=yp x y
 have h2:=yp y x;by_cases e:x=y
 ·subst e;rw[tG];simp
 ·have e1:(x == y)=false:=by simpa using e
  have e2:(y == x)=false:=by simpa using λc=>e c.symm
  rw[e1,Bool.or_false]at h1;rw[e1,h1];cases Op.bytesLess y x<;>rfl
def mZ:∀(a b:List Str),(!dZ a b && !dZ b a)=(a == b)
 | [],[]=>by simp[dZ]
 | [],_::_=>by simp[dZ]
 | _::_,[]=>by simp[dZ]
 | x::xs,y::ys=>by
  simp only[dZ];by_cases e:x=y
  ·subst e;rw[if_pos rfl,if_pos rfl,mZ xs ys];simp
  ·rw[if_neg e,if_neg (λc=>e c.symm),UE];have:(x == y)=false:=by simpa using e
   rw[this];simp[e]
def vk:∀(a b:List Str),cmpL a b=0↔a=b
 | [],[]=>by simp[cmpL]
 | [],_::_=>by simp[cmpL]
 | _::_,[]=>by simp[cmpL]
 | x::xs,y::ys=>by
  rw[cmpL];by_cases e:x=y
  ·subst e;rw[if_pos ((yn _ _).2 rfl),vk xs ys];simp
  ·rw[if_neg (λc=>e ((yn _ _).1 c))];constructor
   ·intro h;exact absurd ((yn _ _).1 h) e
   ·intro h;injection h with h1 h2;exact absurd h1 e
def OL{n:ag}{x:ah}{l:List ah}(hx:kyB n x=true)(hl:∀y∈l,y.ae=n.ae->kyB n y=true):idx (fsP n x.aq (kyL n x)) l=fnd n l x:=by
 refine xW λy hy=>?_;unfold fsP fiP;by_cases hn:y.ae=n.ae
 ·have hk:=hl y hy hn;rw[skB,hx,hk,jH];have e1:(y.ae == n.ae)=true:=by simpa using hn
  rw[e1];by_cases h2:n.aj=2
  ·have:ig n.aj=true:=by rw[h2];try rfl
   rw[if_pos this,this,mZ];have e2:decide (n.aj=4)=false:=by rw[h2];try rfl
   have e3:decide (n.aj=2)=true:=by rw[h2];try rfl
   rw[e2,e3]
   have e4:decide (cmpL (kyL n x) (kyL n y)=0)=(kyL n x == kyL n y):=by
    rw[Bool.eq_iff_iff];simp[vk]
   rw[e4]
   have e5:(kyL n y == kyL n x)=(kyL n x == kyL n y):=by
    rw[Bool.eq_iff_iff];simp only[beq_iff_eq];exact⟨λh=>h.symm,λh=>h.symm⟩
   rw[e5];cases (kyL n x == kyL n y)<;>rfl
  ·have e3:decide (n.aj=2)=false:=by simpa using h2
   rw[e3];by_cases h4:n.aj=4
   ·have:ig n.aj=true:=by rw[h4];try rfl
    rw[if_pos this,this,h4,(ij h2).1,(ij h2).1]
    have e4:decide (cmpL [x.aq] [y.aq]=0)=(y.aq == x.aq):=by
     rw[Bool.eq_iff_iff];simp only[decide_eq_true_eq,vk,beq_iff_eq,List.cons.injEq,and_true];exact⟨λh=>h.symm,λh=>h.symm⟩
    rw[e4];by_cases hv:y.aq=x.aq
    ·have hv2:(y.aq == x.aq)=true:=by simpa using hv
     rw[hv2,hv];simp
    ·have hv2:(y.aq == x.aq)=false:=by simpa using hv
     rw[hv2];simp
   ·have:ig n.aj=false:=by rw[ig];simp[h2,h4]
    rw[if_neg (by rw[this];simp),this];have e4:decide (n.aj=4)=false:=by simpa using h4
    rw[e4];try rfl
 ·have e1:(y.ae == n.ae)=false:=by simpa using hn
  rw[e1];try rfl
def kyE(n:ag)(x:ah):List aL:=if n.aj=2 then n.ax.map λk=>.mk 1 k (kyT x k) [] else []
def edO(op:Int):List ah->List aL
 | []=>[]
 | .mk n v ks::xs=>.mk op n v (edO op ks)::edO op xs
def y8(op:Int):∀l:List ah,edO op l=l.map λx=>.mk op x.ae x.aq (edO op x.af)
 | []=>by rw[edO];try rfl
 | .mk n v ks::xs=>by rw[edO,y8 op xs];try rfl
def Kz(op:Int)(l:List ah):(edO op l).length=l.length:=by rw[y8,length_map]
def Im{op:Int}{l:List ah}{k:Nat}(h:k<l.length):edO op (l.take (k+1))=edO op (l.take k)++[.mk op (at_ l k).ae (at_ l k).aq (edO op (at_ l k).af)]:=by rw[fo h,y8,y8,map_append];try rfl
abbrev nd(s:List ag)(nm:Str):ag:=at_ (dk s) (idx (nmP nm) (dk s)).toNat
def dfA(s:List ag)(b:List ah)(x:ah):List aL:=if 0<=fnd (nd s x.ae) b x then [] else [.mk 4 x.ae (if (nd s x.ae).aj=4 then x.aq else []) (kyE (nd s x.ae) x)]
def dfB(s:List ag)(a:List ah):List ah->List aL
 | []=>[]
 | .mk nm v ks::ys =>
  (let n:=nd s nm
   let i:=fnd n a (.mk nm v ks)
   let x:=at_ a i.toNat
   if i<0 then [.mk 3 nm v (edO 3 ks)]
   else if n.aj=3/\¬x.aq=v then [.mk 2 nm v []]
   else if (n.aj=1\/n.aj=2)/\smT x.af ks=false then [.mk 1 nm [] (kyE n (.mk nm v ks)++(x.af.flatMap (dfA n.af ks)++dfB n.af x.af ks))]
   else [])++dfB s a ys
def dif(s:List ag)(a b:List ah):List aL:=a.flatMap (dfA s b)++dfB s a b
def dfY(s:List ag)(a:List ah)(y:ah):List aL :=
 if fnd (nd s y.ae) a y<0 then [.mk 3 y.ae y.aq (edO 3 y.af)]
 else if (nd s y.ae).aj=3/\¬(at_ a (fnd (nd s y.ae) a y).toNat).aq=y.aq then [.mk 2 y.ae y.aq []]
 else if ((nd s y.ae).aj=1\/(nd s y.ae).aj=2)/\smT (at_ a (fnd (nd s y.ae) a y).toNat).af y.af=false then [.mk 1 y.ae [] (kyE (nd s y.ae) y++dif (nd s y.ae).af (at_ a (fnd (nd s y.ae) a y).toNat).af y.af)]
 else []
section
variable {n : ag} {x : ah} {k : Nat}
end
def uN{n:ag}{x:ah}(h:okN n x=true):kyB n x=true:=by
 by_cases h2:n.aj=2
 ·rw[okN,if_neg Yt,if_pos h2]at h;simp only[Bool.and_eq_true]at h;exact h.1.1
 ·exact(ij h2).2
section
variable {d : List ag} {l : List ah} {k : Nat}
def V3(hk:k<l.length)(h:idx (nmP (at_ l k).ae) d<0):okL d (prv l k) (l.drop k)=false:=by rw[sD hk,show decide (0<=idx (nmP (at_ l k).ae) d)=false by simp;omega];rfl
def Tn(hk:k<l.length)(h:okN (at_ d (idx (nmP (at_ l k).ae) d).toNat) (at_ l k)=false):okL d (prv l k) (l.drop k)=false:=by rw[sD hk,h];simp
def Tm(hk:k<l.length)(h0:0<k)(h:eB d (at_ l (k - 1)) (at_ l k)=false):okL d (prv l k) (l.drop k)=false:=by
 rw[sD hk]
 obtain⟨j,rfl⟩:∃j,k=j+1:=⟨k - 1,Yt⟩
 rw[show j+1 - 1=j by omega]at h;rw[show wR d (prv l (j+1)) (at_ l (j+1))=eB d (at_ l j) (at_ l (j+1))from rfl,h];simp
def P1(hk:k<l.length)(h0:0<=idx (nmP (at_ l k).ae) d)(h1:okN (at_ d (idx (nmP (at_ l k).ae) d).toNat) (at_ l k)=true)(h2:0<k->eB d (at_ l (k - 1)) (at_ l k)=true):okL d (prv l k) (l.drop k)=okL d (prv l (k+1)) (l.drop (k+1)):=by
 rw[sD hk,h1,show decide (0<=idx (nmP (at_ l k).ae) d)=true by simpa using h0]
 have:wR d (prv l k) (at_ l k)=true:=by
  cases k with
  | zero=>rfl
  | succ j=>exact h2 Yt
 rw[this];simp
end
def Kt{s:List ag}(h:gdS s){n:ag}(hn:n∈dk s):n.ax.length<=3:=by
 obtain⟨_,kind,bd,hA⟩:=h;obtain⟨⟨kd,b,ho⟩,_⟩:=yR s kind bd hA n hn;simp only[jT,mf,Bool.and_eq_true]at ho;have hs:=ho.1.1.1.1.1.2.1
 have hk:=ho.1.1.1.1.1.2.2;by_cases h2:n.aj=2
 ·rw[jk,if_neg Yt,if_pos h2]at hk;simp only[Bool.and_eq_true,decide_eq_true_eq]at hk;omega
 ·simp only[lz,Bool.and_eq_true,Bool.or_eq_true,decide_eq_true_eq]at hs;rcases hs.1.1.1.1.1.1.2 with h|h
  ·exact absurd h h2
  ·rw[List.isEmpty_iff.1 h.1];simp
section
variable {s : List ag} {a b : List ah} {x y : ah}
def OJ(hf:0<=fnd (nd s y.ae) a y)(hy:okX (dk s) y):(fnd (nd s y.ae) a y).toNat<a.length/\(at_ a (fnd (nd s y.ae) a y).toNat).ae=y.ae/\at_ a (fnd (nd s y.ae) a y).toNat∈a:=by obtain⟨h1,h2,h3⟩:=gD hf;simp only[fiP,Bool.and_eq_true,beq_iff_eq]at h2;exact⟨h1,h2.1.1.trans (uM hy).1,h3⟩
def Wm(hx:okX (dk s) x)(h:¬((nd s x.ae).aj=3\/(nd s x.ae).aj=4)):∀k∈x.af,okX (dk (nd s x.ae).af) k :=
 uO (Aq hx.2 h).2.1
def Wg(hb:∀y∈b,okX (dk s) y)(hx:okX (dk s) x):∀y∈b,y.ae=(at_ (dk s) (idx (nmP x.ae) (dk s)).toNat).ae->kyB (at_ (dk s) (idx (nmP x.ae) (dk s)).toNat) y=true:=by intro y hy e;rw[(uM hx).1]at e;have:=uN (hb y hy).2;rw[e]at this;exact this
end
section
def IB:∀(a b c:Str),Op.bytesLess a b=true->Op.bytesLess b c=true->Op.bytesLess a c=true
 | a,[],c,h,_=>by cases a<;>simp[Op.bytesLess]at h
 | [],_::_,[],_,h=>by simp[Op.bytesLess]at h
 | [],_::_,_::_,_,_=>by simp[Op.bytesLess]
 | _::_,_::_,[],_,h=>by simp[Op.bytesLess]at h
 | x::xs,y::ys,z::zs,h1,h2=>by
  simp only[Op.bytesLess,Bool.or_eq_true,Bool.and_eq_true,decide_eq_true_eq,beq_iff_eq]at *;rcases h1 with h1|⟨rfl,h1⟩
  ·rcases h2 with h2|⟨rfl,_⟩
   ·exact .inl (UInt8.lt_trans h1 h2)
   ·exact .inl h1
  ·rcases h2 with h2|⟨rfl,h2⟩
   ·exact .inl h2
   ·exact .inr ⟨rfl,IB xs ys zs h1 h2⟩
def wg:∀(a b c:List Str),dZ a b=true->dZ b c=true->dZ a c=true
 | a,[],c,h,_=>by cases a<;>simp[dZ]at h
 | [],_::_,[],_,h=>by simp[dZ]at h
 | [],_::_,_::_,_,_=>by simp[dZ]
 | _::_,_::_,[],_,h=>by simp[dZ]at h
 | x::xs,y::ys,z::zs,h1,h2=>by
  rw[dZ]at *;by_cases e1:x=y
  ·subst e1;rw[if_pos rfl]at h1;by_cases e2:x=z
   ·subst e2;rw[if_pos rfl]at h2 ⊢;exact wg xs ys zs h1 h2
   ·rw[if_neg e2]at h2 ⊢;exact h2
  ·rw[if_neg e1]at h1;by_cases e2:y=z
   ·subst e2;rw[if_neg e1];exact h1
   ·rw[if_neg e2]at h2;have h3:=IB x y z h1 h2;rw[if_neg (λe=>by subst e;rw[tG]at h3;exact absurd h3 zH)];exact h3
def yO(a:List Str):dZ a a=false:=by
 have:=mZ a a;rw[beq_self_eq_true]at this
 cases h:dZ a a with
 | false=>rfl
 | true=>rw[h]at this;simp at this
def yq{d:List ag}{a b c:ah}(h1:eB d a b=true)(h2:eB d b c=true):eB d a c=true:=by
 unfold eB at *;by_cases e1:idx (nmP a.ae) d=idx (nmP b.ae) d/\ig (at_ d (idx (nmP b.ae) d).toNat).aj=true
 ·rw[if_pos e1]at h1;by_cases e2:idx (nmP b.ae) d=idx (nmP c.ae) d/\ig (at_ d (idx (nmP c.ae) d).toNat).aj=true
  ·rw[if_pos e2]at h2;rw[if_pos ⟨e1.1.trans e2.1,e2.2⟩];rw[e2.1]at h1;exact wg _ _ _ h1 h2
  ·rw[if_neg e2]at h2;rw[if_neg (λc=>e2 ⟨e1.1.symm.trans c.1,c.2⟩),e1.1];exact h2
 ·rw[if_neg e1,decide_eq_true_eq]at h1;by_cases e2:idx (nmP b.ae) d=idx (nmP c.ae) d/\ig (at_ d (idx (nmP c.ae) d).toNat).aj=true
  ·rw[if_neg (by rintro⟨c,_⟩;omega),decide_eq_true_eq];omega
  ·rw[if_neg e2,decide_eq_true_eq]at h2;rw[if_neg (by rintro⟨c,_⟩;omega),decide_eq_true_eq];omega
def UF{d:List ag}(a:ah):eB d a a=false:=by
 unfold eB;split
 ·exact yO _
 ·simp
def GP{d:List ag}:∀ {l:List ah} {a:ah},okL d (some a) l=true↔(∀x∈l,okX d x)/\(a::l).Pairwise λx y=>eB d x y=true
 | [],a=>by simp[okL]
 | x::xs,a=>by
  rw[vV];simp only[Bool.and_eq_true,decide_eq_true_eq];have ih:=GP (d:=d) (l:=xs) (a:=x);rw[ih];constructor
  ·rintro⟨⟨⟨h1,h2⟩,h3⟩,h4,h5⟩;refine⟨λy hy=>?_,List.pairwise_cons.2 ⟨λy hy=>?_,h5⟩⟩
   ·rcases List.mem_cons.1 hy with rfl|hy
    ·exact⟨h1,h2⟩
    ·exact h4 y hy
   ·rcases List.mem_cons.1 hy with rfl|hy
    ·exact h3
    ·exact yq h3 ((List.pairwise_cons.1 h5).1 y hy)
  ·rintro⟨h1,h2⟩;have h3:=h1 x zH
   have h4:=List.pairwise_cons.1 h2;exact⟨⟨⟨h3.1,h3.2⟩,h4.1 x zH⟩,λy hy=>h1 y (by simp[hy]),h4.2⟩
def J5{d:List ag}{l:List ah}:okL d none l=true↔(∀x∈l,okX d x)/\l.Pairwise λx y=>eB d x y=true:=by
 cases l with
 | nil=>simp[okL]
 | cons x xs =>
  rw[vV];simp only[Bool.and_eq_true,decide_eq_true_eq,wR,and_true];rw[GP];constructor
  ·rintro⟨h1,h2,h3⟩;refine⟨λy hy=>?_,h3⟩;rcases List.mem_cons.1 hy with rfl|hy
   ·exact h1
   ·exact h2 y hy
  ·rintro⟨h1,h2⟩;exact⟨h1 x zH,λy hy=>h1 y (by simp[hy]),h2⟩
def MN{α:Type}{R:α->α->Prop}(ht:∀a b c,R a b->R b c->R a c)(hi:∀a,¬R a a):∀ {l m:List α},l.Pairwise R->m.Pairwise R->(∀x,x∈l↔x∈m)->l=m
 | [],[],_,_,_=>rfl
 | [],y::m,_,_,h=>absurd ((h y).2 zH) zH
 | x::l,[],_,_,h=>absurd ((h x).1 zH) zH
 | x::l,y::m,h1,h2,h=>by
  have h3:=List.pairwise_cons.1 h1
  have h4:=List.pairwise_cons.1 h2
  have e:x=y:=by
   rcases List.mem_cons.1 ((h x).1 zH)with e|hx
   ·exact e
   ·rcases List.mem_cons.1 ((h y).2 zH)with e|hy
    ·exact e.symm
    ·exact absurd (ht _ _ _ (h3.1 y hy) (h4.1 x hx)) (hi x)
  subst e;refine congrArg (x::·) (MN ht hi h3.2 h4.2 λz=>?_);have hz:=h z;simp only[mem_cons]at hz;constructor
  ·intro q;rcases hz.1 (.inr q)with e|e
   ·subst e;exact absurd (h3.1 z q) (hi z)
   ·exact e
  ·intro q;rcases hz.2 (.inr q)with e|e
   ·subst e;exact absurd (h4.1 z q) (hi z)
   ·exact e
