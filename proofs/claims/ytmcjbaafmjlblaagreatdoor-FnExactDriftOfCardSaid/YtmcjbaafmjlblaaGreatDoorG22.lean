/-
  Part of a proof: Opn2, Fa1.
-/
import Derived.Test.YtmcjbaafmjlblaaGreatDoorG5
import Derived.Test.YtmcjbaafmjlblaaGreatDoorG6
import Derived.Test.YtmcjbaafmjlblaaGreatDoorG7
import Derived.Test.YtmcjbaafmjlblaaGreatDoorG21
set_option linter.unusedSimpArgs false
set_option linter.unusedVariables false
namespace Go.Proofs.YtmcjbaafmjlblaaGreatDoor
open Go.Ab Go.Dt
variable {H : Type} {enc : TypeId × Value → H} {W : World}
theorem hreach(z:Nat):reachBytes≤rawL z:=by
 have:=reachBytes_lt
 unfold rawL;omega
instance:Inhabited Dt.GRange:=⟨0,0⟩
def celRange(x:Dt.GRange):List AV:=[.v (.int .i64 x.fLo),.v (.int .i64 x.fHi)]
theorem pkRange{L:Nat→Nat}:Packs L W celRange (encRange false) 2:=by
 have:encRange false=fun x=>.agg (celRange x):=by funext x;simp only [go_sem,celRange]
 rw [this];exact Packs.agg fun _=>rfl
theorem opRange(n:Nat):Opens enc Tryz.prog W rawL n 238 celRange (fun _=>True):=by
 refine Opens.mono (n:=n+1+1) ?_ (by omega)
 exact Opens.struct (P:=Tryz.prog) (t:=238) (fl:=[(3,0,1),(3,1,1)]) (tot:=2) (by kernel_rfl)
   (OpensFs.cons (Opens.int (k:=.i64) (by kernel_rfl)) (OpensFs.cons (Opens.int (k:=.i64) (by kernel_rfl)) OpensFs.nil))
   (fun p=>⟨p.1,p.2.1⟩) (fun p _=>⟨trivial,rfl⟩)
theorem fitRange(x:Dt.GRange)(r:Int)(h0:0≤r)(h1:r≤1048576)(h:0≤szRange x r):(encRange false x).fits lim:=by
 simp only [encRange,AV.fits,AV.fitsL]
 exact ⟨trivial,trivial,trivial⟩
instance:Inhabited Dt.GType:=⟨0,[],[],[],[]⟩
def celType(x:Dt.GType):List AV:=[.v (.int .i64 x.fKind),.sl false 2 (x.fRanges.map (encRange false)),.sl false 1 (x.fNames.map AV.str),.str x.fPattern,.str x.fPath]
theorem opType(n:Nat):Opens enc Tryz.prog W rawL n 111 celType (fun _=>True):=by
 refine Opens.mono (n:=n+1+1) ?_ (by omega)
 exact Opens.struct (P:=Tryz.prog) (t:=111) (fl:=[(3,0,1),(109,1,1),(54,2,1),(9,3,1),(9,4,1)]) (tot:=5) (by kernel_rfl)
   (OpensFs.cons (Opens.int (k:=.i64) (by kernel_rfl)) (OpensFs.cons (Opens.slice (e:=238) (bytes:=16) (by kernel_rfl) (by decide) (by decide) (hreach _) pkRange (opRange n)) (OpensFs.cons (Opens.slice (e:=9) (bytes:=16) (by kernel_rfl) (by decide) (by decide) (hreach _) Packs.str (Opens.str (by kernel_rfl))) (OpensFs.cons (Opens.str (by kernel_rfl)) (OpensFs.cons (Opens.str (by kernel_rfl)) OpensFs.nil)))))
   (fun p=>⟨p.1,p.2.1,p.2.2.1,p.2.2.2.1,p.2.2.2.2.1⟩) (fun p _=>⟨trivial,rfl⟩)
theorem fitType(x:Dt.GType)(r:Int)(h0:0≤r)(h1:r≤1048576)(h:0≤szType x r):(encType false x).fits lim:=by
 unfold szType at h
 obtain ⟨a0,h⟩:=thn_get h
 have l0:=szSl_le szRange szRange_le x.fRanges r h0
 obtain ⟨a1,h⟩:=thn_get h
 have l1:=szSl_le szStr szStr_le x.fNames (szSl szRange x.fRanges r) a0
 obtain ⟨a2,h⟩:=thn_get h
 have l2:=szStr_le x.fPattern (szSl szStr x.fNames (szSl szRange x.fRanges r)) a1
 obtain ⟨a3,h⟩:=thn_get h
 have l3:=szStr_le x.fPath (szStr x.fPattern (szSl szStr x.fNames (szSl szRange x.fRanges r))) a2
 have z0:(AV.sl false 2 (x.fRanges.map (encRange false))).fits lim:=fits_sl (f:=szRange) szRange_le x.fRanges r h0 (by omega) a0 (fun y hy r' p q s=>fitRange y r' p q s)
 have z1:(AV.sl false 1 (x.fNames.map AV.str)).fits lim:=fits_sl (f:=szStr) szStr_le x.fNames (szSl szRange x.fRanges r) a0 (by omega) a1 (fun _ _ _ _ _ _=>trivial)
 simp only [AV.fits,AV.fitsL] at z0 z1
 simp only [encType,AV.fits,AV.fitsL]
 exact ⟨trivial,z0,z1,trivial,trivial,trivial⟩
instance:Inhabited Dt.GTest:=⟨[],[]⟩
def celTest(x:Dt.GTest):List AV:=[.str x.fName,.str x.fValue]
theorem pkTest{L:Nat→Nat}:Packs L W celTest (encTest false) 2:=by
 have:encTest false=fun x=>.agg (celTest x):=by funext x;simp only [go_sem,celTest]
 rw [this];exact Packs.agg fun _=>rfl
theorem opTest(n:Nat):Opens enc Tryz.prog W rawL n 309 celTest (fun _=>True):=by
 refine Opens.mono (n:=n+1+1) ?_ (by omega)
 exact Opens.struct (P:=Tryz.prog) (t:=309) (fl:=[(9,0,1),(9,1,1)]) (tot:=2) (by kernel_rfl)
   (OpensFs.cons (Opens.str (by kernel_rfl)) (OpensFs.cons (Opens.str (by kernel_rfl)) OpensFs.nil))
   (fun p=>⟨p.1,p.2.1⟩) (fun p _=>⟨trivial,rfl⟩)
theorem fitTest(x:Dt.GTest)(r:Int)(h0:0≤r)(h1:r≤1048576)(h:0≤szTest x r):(encTest false x).fits lim:=by
 unfold szTest at h
 obtain ⟨a0,h⟩:=thn_get h
 have l0:=szStr_le x.fName r h0
 obtain ⟨a1,h⟩:=thn_get h
 have l1:=szStr_le x.fValue (szStr x.fName r) a0
 simp only [encTest,AV.fits,AV.fitsL]
 exact ⟨trivial,trivial,trivial⟩
instance:Inhabited Dt.GStep:=⟨[],[]⟩
def celStep(x:Dt.GStep):List AV:=[.str x.fName,.sl false 2 (x.fTests.map (encTest false))]
theorem pkStep{L:Nat→Nat}:Packs L W celStep (encStep false) 2:=by
 have:encStep false=fun x=>.agg (celStep x):=by funext x;simp only [go_sem,celStep]
 rw [this];exact Packs.agg fun _=>rfl
theorem opStep(n:Nat):Opens enc Tryz.prog W rawL n 286 celStep (fun _=>True):=by
 refine Opens.mono (n:=n+1+1) ?_ (by omega)
 exact Opens.struct (P:=Tryz.prog) (t:=286) (fl:=[(9,0,1),(284,1,1)]) (tot:=2) (by kernel_rfl)
   (OpensFs.cons (Opens.str (by kernel_rfl)) (OpensFs.cons (Opens.slice (e:=309) (bytes:=32) (by kernel_rfl) (by decide) (by decide) (hreach _) pkTest (opTest n)) OpensFs.nil))
   (fun p=>⟨p.1,p.2.1⟩) (fun p _=>⟨trivial,rfl⟩)
theorem fitStep(x:Dt.GStep)(r:Int)(h0:0≤r)(h1:r≤1048576)(h:0≤szStep x r):(encStep false x).fits lim:=by
 unfold szStep at h
 obtain ⟨a0,h⟩:=thn_get h
 have l0:=szStr_le x.fName r h0
 obtain ⟨a1,h⟩:=thn_get h
 have l1:=szSl_le szTest szTest_le x.fTests (szStr x.fName r) a0
 have z1:(AV.sl false 2 (x.fTests.map (encTest false))).fits lim:=fits_sl (f:=szTest) szTest_le x.fTests (szStr x.fName r) a0 (by omega) a1 (fun y hy r' p q s=>fitTest y r' p q s)
 simp only [AV.fits,AV.fitsL] at z1
 simp only [encStep,AV.fits,AV.fitsL]
 exact ⟨trivial,z1,trivial⟩
instance:Inhabited Dt.GPath:=⟨false,0,[]⟩
def celPath(x:Dt.GPath):List AV:=[.v (.bool x.fRoot),.v (.int .i64 x.fUps),.sl false 2 (x.fSteps.map (encStep false))]
theorem opPath(n:Nat):Opens enc Tryz.prog W rawL n 204 celPath (fun _=>True):=by
 refine Opens.mono (n:=n+1+1) ?_ (by omega)
 exact Opens.struct (P:=Tryz.prog) (t:=204) (fl:=[(4,0,1),(3,1,1),(202,2,1)]) (tot:=3) (by kernel_rfl)
   (OpensFs.cons (Opens.bool (by kernel_rfl)) (OpensFs.cons (Opens.int (k:=.i64) (by kernel_rfl)) (OpensFs.cons (Opens.slice (e:=286) (bytes:=40) (by kernel_rfl) (by decide) (by decide) (hreach _) pkStep (opStep n)) OpensFs.nil)))
   (fun p=>⟨p.1,p.2.1,p.2.2.1⟩) (fun p _=>⟨trivial,rfl⟩)
theorem fitPath(x:Dt.GPath)(r:Int)(h0:0≤r)(h1:r≤1048576)(h:0≤szPath x r):(encPath false x).fits lim:=by
 unfold szPath at h
 obtain ⟨a0,h⟩:=thn_get h
 have l0:=szSl_le szStep szStep_le x.fSteps r h0
 have z0:(AV.sl false 2 (x.fSteps.map (encStep false))).fits lim:=fits_sl (f:=szStep) szStep_le x.fSteps r h0 (by omega) a0 (fun y hy r' p q s=>fitStep y r' p q s)
 simp only [AV.fits,AV.fitsL] at z0
 simp only [encPath,AV.fits,AV.fitsL]
 exact ⟨trivial,trivial,z0,trivial⟩
instance:Inhabited Dt.GExpr:=⟨.mk 0 0 [] default []⟩
def celExpr(x:Dt.GExpr):List AV:=[.v (.int .i64 x.fOp),.v (.int .i64 x.fNum),.str x.fText,.v (.bool x.fPath.fRoot),.v (.int .i64 x.fPath.fUps),.sl false 2 (x.fPath.fSteps.map (encStep false)),.sl false 7 (x.fKids.map (encExpr false))]
theorem pkExpr{L:Nat→Nat}:Packs L W celExpr (encExpr false) 7:=by
 have:encExpr false=fun x=>.agg (celExpr x):=by funext x;simp only [go_sem,celExpr]
 rw [this];exact Packs.agg fun _=>rfl
theorem opExpr(n:Nat):Opens enc Tryz.prog W rawL n 206 celExpr (fun _=>True):=by
 induction n with
 | zero=>exact Opens.zero
 | succ n ih =>
  refine Opens.mono (n:=n+1+1) ?_ (by omega)
  exact Opens.struct (P:=Tryz.prog) (t:=206) (fl:=[(3,0,1),(3,1,1),(9,2,1),(204,3,3),(112,6,1)]) (tot:=7) (by kernel_rfl)
   (OpensFs.cons (Opens.int (k:=.i64) (by kernel_rfl)) (OpensFs.cons (Opens.int (k:=.i64) (by kernel_rfl)) (OpensFs.cons (Opens.str (by kernel_rfl)) (OpensFs.cons (opPath _) (OpensFs.cons (Opens.slice (e:=206) (bytes:=96) (by kernel_rfl) (by decide) (by decide) (hreach _) pkExpr ih) OpensFs.nil)))))
   (fun p=>.mk p.1 p.2.1 p.2.2.1 p.2.2.2.1 p.2.2.2.2.1) (fun p _=>⟨trivial,rfl⟩)
theorem fitExpr(x:Dt.GExpr)(r:Int)(h0:0≤r)(h1:r≤1048576)(h:0≤szExpr x r):(encExpr false x).fits lim:=by
 induction hs:SizeOf.sizeOf x using Nat.strongRecOn generalizing x r with
 | _ n ih =>
  rw [szExpr_eq] at h
  obtain ⟨a0,h⟩:=thn_get h
  have l0:=szStr_le x.fText r h0
  obtain ⟨a1,h⟩:=thn_get h
  have l1:=szPath_le x.fPath (szStr x.fText r) a0
  obtain ⟨a2,h⟩:=thn_get h
  have l2:=szSl_le szExpr szExpr_le x.fKids (szPath x.fPath (szStr x.fText r)) a1
  have z1:=fitPath x.fPath (szStr x.fText r) a0 (by omega) a1
  have z2:(AV.sl false 7 (x.fKids.map (encExpr false))).fits lim:=fits_sl (f:=szExpr) szExpr_le x.fKids (szPath x.fPath (szStr x.fText r)) a1 (by omega) a2 (fun y hy r' p q s=>ih (SizeOf.sizeOf y) (by have:=List.sizeOf_lt_of_mem hy;cases x;simp [Dt.GExpr.fKids] at *;omega) y r' p q s rfl)
  simp only [encPath,AV.fits,AV.fitsL] at z1 z2
  simp only [encExpr_eq,AV.fits,AV.fitsL]
  exact ⟨trivial,trivial,trivial,z1.1,z1.2.1,z1.2.2.1,z2,trivial⟩
instance:Inhabited Dt.GSchema:=⟨.mk 0 [] default [] [] [] false false false false 0 0 [] [] []⟩
def celSchema(x:Dt.GSchema):List AV:=[.v (.int .i64 x.fKind),.str x.fName,.v (.int .i64 x.fType.fKind),.sl false 2 (x.fType.fRanges.map (encRange false)),.sl false 1 (x.fType.fNames.map AV.str),.str x.fType.fPattern,.str x.fType.fPath,.sl false 1 (x.fKeys.map AV.str),.sl false 1 (x.fUnique.map AV.str),.str x.fDefault,.v (.bool x.fGiven),.v (.bool x.fNeeded),.v (.bool x.fPresent),.v (.bool x.fFixed),.v (.int .i64 x.fMin),.v (.int .i64 x.fMax),.sl false 7 (x.fWhen.map (encExpr false)),.sl false 7 (x.fMust.map (encExpr false)),.sl false 19 (x.fKids.map (encSchema false))]
theorem pkSchema{L:Nat→Nat}:Packs L W celSchema (encSchema false) 19:=by
 have:encSchema false=fun x=>.agg (celSchema x):=by funext x;simp only [go_sem,celSchema]
 rw [this];exact Packs.agg fun _=>rfl
theorem opSchema(n:Nat):Opens enc Tryz.prog W rawL n 114 celSchema (fun _=>True):=by
 induction n with
 | zero=>exact Opens.zero
 | succ n ih =>
  refine Opens.mono (n:=n+1+1) ?_ (by omega)
  exact Opens.struct (P:=Tryz.prog) (t:=114) (fl:=[(3,0,1),(9,1,1),(111,2,5),(54,7,1),(54,8,1),(9,9,1),(4,10,1),(4,11,1),(4,12,1),(4,13,1),(3,14,1),(3,15,1),(112,16,1),(112,17,1),(22,18,1)]) (tot:=19) (by kernel_rfl)
   (OpensFs.cons (Opens.int (k:=.i64) (by kernel_rfl)) (OpensFs.cons (Opens.str (by kernel_rfl)) (OpensFs.cons (opType _) (OpensFs.cons (Opens.slice (e:=9) (bytes:=16) (by kernel_rfl) (by decide) (by decide) (hreach _) Packs.str (Opens.str (by kernel_rfl))) (OpensFs.cons (Opens.slice (e:=9) (bytes:=16) (by kernel_rfl) (by decide) (by decide) (hreach _) Packs.str (Opens.str (by kernel_rfl))) (OpensFs.cons (Opens.str (by kernel_rfl)) (OpensFs.cons (Opens.bool (by kernel_rfl)) (OpensFs.cons (Opens.bool (by kernel_rfl)) (OpensFs.cons (Opens.bool (by kernel_rfl)) (OpensFs.cons (Opens.bool (by kernel_rfl)) (OpensFs.cons (Opens.int (k:=.i64) (by kernel_rfl)) (OpensFs.cons (Opens.int (k:=.i64) (by kernel_rfl)) (OpensFs.cons (Opens.slice (e:=206) (bytes:=96) (by kernel_rfl) (by decide) (by decide) (hreach _) pkExpr (opExpr n)) (OpensFs.cons (Opens.slice (e:=206) (bytes:=96) (by kernel_rfl) (by decide) (by decide) (hreach _) pkExpr (opExpr n)) (OpensFs.cons (Opens.slice (e:=114) (bytes:=272) (by kernel_rfl) (by decide) (by decide) (hreach _) pkSchema ih) OpensFs.nil)))))))))))))))
   (fun p=>.mk p.1 p.2.1 p.2.2.1 p.2.2.2.1 p.2.2.2.2.1 p.2.2.2.2.2.1 p.2.2.2.2.2.2.1 p.2.2.2.2.2.2.2.1 p.2.2.2.2.2.2.2.2.1 p.2.2.2.2.2.2.2.2.2.1 p.2.2.2.2.2.2.2.2.2.2.1 p.2.2.2.2.2.2.2.2.2.2.2.1 p.2.2.2.2.2.2.2.2.2.2.2.2.1 p.2.2.2.2.2.2.2.2.2.2.2.2.2.1 p.2.2.2.2.2.2.2.2.2.2.2.2.2.2.1) (fun p _=>⟨trivial,rfl⟩)
theorem fitSchema(x:Dt.GSchema)(r:Int)(h0:0≤r)(h1:r≤1048576)(h:0≤szSchema x r):(encSchema false x).fits lim:=by
 induction hs:SizeOf.sizeOf x using Nat.strongRecOn generalizing x r with
 | _ n ih =>
  rw [szSchema_eq] at h
  obtain ⟨a0,h⟩:=thn_get h
  have l0:=szStr_le x.fName r h0
  obtain ⟨a1,h⟩:=thn_get h
  have l1:=szType_le x.fType (szStr x.fName r) a0
  obtain ⟨a2,h⟩:=thn_get h
  have l2:=szSl_le szStr szStr_le x.fKeys (szType x.fType (szStr x.fName r)) a1
  obtain ⟨a3,h⟩:=thn_get h
  have l3:=szSl_le szStr szStr_le x.fUnique (szSl szStr x.fKeys (szType x.fType (szStr x.fName r))) a2
  obtain ⟨a4,h⟩:=thn_get h
  have l4:=szStr_le x.fDefault (szSl szStr x.fUnique (szSl szStr x.fKeys (szType x.fType (szStr x.fName r)))) a3
  obtain ⟨a5,h⟩:=thn_get h
  have l5:=szSl_le szExpr szExpr_le x.fWhen (szStr x.fDefault (szSl szStr x.fUnique (szSl szStr x.fKeys (szType x.fType (szStr x.fName r))))) a4
  obtain ⟨a6,h⟩:=thn_get h
  have l6:=szSl_le szExpr szExpr_le x.fMust (szSl szExpr x.fWhen (szStr x.fDefault (szSl szStr x.fUnique (szSl szStr x.fKeys (szType x.fType (szStr x.fName r)))))) a5
  obtain ⟨a7,h⟩:=thn_get h
  have l7:=szSl_le szSchema szSchema_le x.fKids (szSl szExpr x.fMust (szSl szExpr x.fWhen (szStr x.fDefault (szSl szStr x.fUnique (szSl szStr x.fKeys (szType x.fType (szStr x.fName r))))))) a6
  have z1:=fitType x.fType (szStr x.fName r) a0 (by omega) a1
  have z2:(AV.sl false 1 (x.fKeys.map AV.str)).fits lim:=fits_sl (f:=szStr) szStr_le x.fKeys (szType x.fType (szStr x.fName r)) a1 (by omega) a2 (fun _ _ _ _ _ _=>trivial)
  have z3:(AV.sl false 1 (x.fUnique.map AV.str)).fits lim:=fits_sl (f:=szStr) szStr_le x.fUnique (szSl szStr x.fKeys (szType x.fType (szStr x.fName r))) a2 (by omega) a3 (fun _ _ _ _ _ _=>trivial)
  have z5:(AV.sl false 7 (x.fWhen.map (encExpr false))).fits lim:=fits_sl (f:=szExpr) szExpr_le x.fWhen (szStr x.fDefault (szSl szStr x.fUnique (szSl szStr x.fKeys (szType x.fType (szStr x.fName r))))) a4 (by omega) a5 (fun y hy r' p q s=>fitExpr y r' p q s)
  have z6:(AV.sl false 7 (x.fMust.map (encExpr false))).fits lim:=fits_sl (f:=szExpr) szExpr_le x.fMust (szSl szExpr x.fWhen (szStr x.fDefault (szSl szStr x.fUnique (szSl szStr x.fKeys (szType x.fType (szStr x.fName r)))))) a5 (by omega) a6 (fun y hy r' p q s=>fitExpr y r' p q s)
  have z7:(AV.sl false 19 (x.fKids.map (encSchema false))).fits lim:=fits_sl (f:=szSchema) szSchema_le x.fKids (szSl szExpr x.fMust (szSl szExpr x.fWhen (szStr x.fDefault (szSl szStr x.fUnique (szSl szStr x.fKeys (szType x.fType (szStr x.fName r))))))) a6 (by omega) a7 (fun y hy r' p q s=>ih (SizeOf.sizeOf y) (by have:=List.sizeOf_lt_of_mem hy;cases x;simp [Dt.GSchema.fKids] at *;omega) y r' p q s rfl)
  simp only [encType,AV.fits,AV.fitsL] at z1 z2 z3 z5 z6 z7
  simp only [encSchema_eq,AV.fits,AV.fitsL]
  exact ⟨trivial,trivial,z1.1,z1.2.1,z1.2.2.1,z1.2.2.2.1,z1.2.2.2.2.1,z2,z3,trivial,trivial,trivial,trivial,trivial,trivial,trivial,z5,z6,z7,trivial⟩
instance:Inhabited Dt.GNode:=⟨.mk [] [] []⟩
def celNode(x:Dt.GNode):List AV:=[.str x.fName,.str x.fValue,.sl false 3 (x.fKids.map (encNode false))]
theorem pkNode{L:Nat→Nat}:Packs L W celNode (encNode false) 3:=by
 have:encNode false=fun x=>.agg (celNode x):=by funext x;simp only [go_sem,celNode]
 rw [this];exact Packs.agg fun _=>rfl
theorem opNode(n:Nat):Opens enc Tryz.prog W rawL n 95 celNode (fun _=>True):=by
 induction n with
 | zero=>exact Opens.zero
 | succ n ih =>
  refine Opens.mono (n:=n+1+1) ?_ (by omega)
  exact Opens.struct (P:=Tryz.prog) (t:=95) (fl:=[(9,0,1),(9,1,1),(23,2,1)]) (tot:=3) (by kernel_rfl)
   (OpensFs.cons (Opens.str (by kernel_rfl)) (OpensFs.cons (Opens.str (by kernel_rfl)) (OpensFs.cons (Opens.slice (e:=95) (bytes:=56) (by kernel_rfl) (by decide) (by decide) (hreach _) pkNode ih) OpensFs.nil)))
   (fun p=>.mk p.1 p.2.1 p.2.2.1) (fun p _=>⟨trivial,rfl⟩)
theorem fitNode(x:Dt.GNode)(r:Int)(h0:0≤r)(h1:r≤1048576)(h:0≤szNode x r):(encNode false x).fits lim:=by
 induction hs:SizeOf.sizeOf x using Nat.strongRecOn generalizing x r with
 | _ n ih =>
  rw [szNode_eq] at h
  obtain ⟨a0,h⟩:=thn_get h
  have l0:=szStr_le x.fName r h0
  obtain ⟨a1,h⟩:=thn_get h
  have l1:=szStr_le x.fValue (szStr x.fName r) a0
  obtain ⟨a2,h⟩:=thn_get h
  have l2:=szSl_le szNode szNode_le x.fKids (szStr x.fValue (szStr x.fName r)) a1
  have z2:(AV.sl false 3 (x.fKids.map (encNode false))).fits lim:=fits_sl (f:=szNode) szNode_le x.fKids (szStr x.fValue (szStr x.fName r)) a1 (by omega) a2 (fun y hy r' p q s=>ih (SizeOf.sizeOf y) (by have:=List.sizeOf_lt_of_mem hy;cases x;simp [Dt.GNode.fKids] at *;omega) y r' p q s rfl)
  simp only [AV.fits,AV.fitsL] at z2
  simp only [encNode_eq,AV.fits,AV.fitsL]
  exact ⟨trivial,trivial,z2,trivial⟩
instance:Inhabited Dt.GEdit:=⟨.mk 0 [] [] []⟩
def celEdit(x:Dt.GEdit):List AV:=[.v (.int .i64 x.fOp),.str x.fName,.str x.fValue,.sl false 4 (x.fKids.map (encEdit false))]
instance:Inhabited Dt.GVersion:=⟨[],0,0⟩
def celVersion(x:Dt.GVersion):List AV:=[.sl false 3 (x.fTree.map (encNode false)),.v (.int .i64 x.fBy),.v (.int .i64 x.fAt)]
theorem pkVersion{L:Nat→Nat}:Packs L W celVersion (encVersion false) 3:=by
 have:encVersion false=fun x=>.agg (celVersion x):=by funext x;simp only [go_sem,celVersion]
 rw [this];exact Packs.agg fun _=>rfl
theorem opVersion(n:Nat):Opens enc Tryz.prog W rawL n 194 celVersion (fun _=>True):=by
 refine Opens.mono (n:=n+1+1) ?_ (by omega)
 exact Opens.struct (P:=Tryz.prog) (t:=194) (fl:=[(23,0,1),(3,1,1),(3,2,1)]) (tot:=3) (by kernel_rfl)
   (OpensFs.cons (Opens.slice (e:=95) (bytes:=56) (by kernel_rfl) (by decide) (by decide) (hreach _) pkNode (opNode n)) (OpensFs.cons (Opens.int (k:=.i64) (by kernel_rfl)) (OpensFs.cons (Opens.int (k:=.i64) (by kernel_rfl)) OpensFs.nil)))
   (fun p=>⟨p.1,p.2.1,p.2.2.1⟩) (fun p _=>⟨trivial,rfl⟩)
theorem fitVersion(x:Dt.GVersion)(r:Int)(h0:0≤r)(h1:r≤1048576)(h:0≤szVersion x r):(encVersion false x).fits lim:=by
 unfold szVersion at h
 obtain ⟨a0,h⟩:=thn_get h
 have l0:=szSl_le szNode szNode_le x.fTree r h0
 have z0:(AV.sl false 3 (x.fTree.map (encNode false))).fits lim:=fits_sl (f:=szNode) szNode_le x.fTree r h0 (by omega) a0 (fun y hy r' p q s=>fitNode y r' p q s)
 simp only [AV.fits,AV.fitsL] at z0
 simp only [encVersion,AV.fits,AV.fitsL]
 exact ⟨z0,trivial,trivial,trivial⟩
instance:Inhabited Dt.GPending:=⟨false,0,0,[],[]⟩
def celPending(x:Dt.GPending):List AV:=[.v (.bool x.fOn),.v (.int .i64 x.fUntil),.v (.int .i64 x.fBy),.str x.fName,.sl false 3 (x.fBack.map (encNode false))]
theorem opPending(n:Nat):Opens enc Tryz.prog W rawL n 26 celPending (fun _=>True):=by
 refine Opens.mono (n:=n+1+1) ?_ (by omega)
 exact Opens.struct (P:=Tryz.prog) (t:=26) (fl:=[(4,0,1),(3,1,1),(3,2,1),(9,3,1),(23,4,1)]) (tot:=5) (by kernel_rfl)
   (OpensFs.cons (Opens.bool (by kernel_rfl)) (OpensFs.cons (Opens.int (k:=.i64) (by kernel_rfl)) (OpensFs.cons (Opens.int (k:=.i64) (by kernel_rfl)) (OpensFs.cons (Opens.str (by kernel_rfl)) (OpensFs.cons (Opens.slice (e:=95) (bytes:=56) (by kernel_rfl) (by decide) (by decide) (hreach _) pkNode (opNode n)) OpensFs.nil)))))
   (fun p=>⟨p.1,p.2.1,p.2.2.1,p.2.2.2.1,p.2.2.2.2.1⟩) (fun p _=>⟨trivial,rfl⟩)
theorem fitPending(x:Dt.GPending)(r:Int)(h0:0≤r)(h1:r≤1048576)(h:0≤szPending x r):(encPending false x).fits lim:=by
 unfold szPending at h
 obtain ⟨a0,h⟩:=thn_get h
 have l0:=szStr_le x.fName r h0
 obtain ⟨a1,h⟩:=thn_get h
 have l1:=szSl_le szNode szNode_le x.fBack (szStr x.fName r) a0
 have z1:(AV.sl false 3 (x.fBack.map (encNode false))).fits lim:=fits_sl (f:=szNode) szNode_le x.fBack (szStr x.fName r) a0 (by omega) a1 (fun y hy r' p q s=>fitNode y r' p q s)
 simp only [AV.fits,AV.fitsL] at z1
 simp only [encPending,AV.fits,AV.fitsL]
 exact ⟨trivial,trivial,trivial,trivial,z1,trivial⟩
instance:Inhabited Dt.GStore:=⟨[],[],[],0,[],default⟩
def celStore(x:Dt.GStore):List AV:=[.sl false 19 (x.fSchema.map (encSchema false)),.sl false 3 (x.fRunning.map (encNode false)),.sl false 3 (x.fDraft.map (encNode false)),.v (.int .i64 x.fOwner),.sl false 3 (x.fPast.map (encVersion false)),.v (.bool x.fWait.fOn),.v (.int .i64 x.fWait.fUntil),.v (.int .i64 x.fWait.fBy),.str x.fWait.fName,.sl false 3 (x.fWait.fBack.map (encNode false))]
theorem opStore(n:Nat):Opens enc Tryz.prog W rawL n 28 celStore (fun _=>True):=by
 refine Opens.mono (n:=n+1+1) ?_ (by omega)
 exact Opens.struct (P:=Tryz.prog) (t:=28) (fl:=[(22,0,1),(23,1,1),(23,2,1),(3,3,1),(24,4,1),(26,5,5)]) (tot:=10) (by kernel_rfl)
   (OpensFs.cons (Opens.slice (e:=114) (bytes:=272) (by kernel_rfl) (by decide) (by decide) (hreach _) pkSchema (opSchema n)) (OpensFs.cons (Opens.slice (e:=95) (bytes:=56) (by kernel_rfl) (by decide) (by decide) (hreach _) pkNode (opNode n)) (OpensFs.cons (Opens.slice (e:=95) (bytes:=56) (by kernel_rfl) (by decide) (by decide) (hreach _) pkNode (opNode n)) (OpensFs.cons (Opens.int (k:=.i64) (by kernel_rfl)) (OpensFs.cons (Opens.slice (e:=194) (bytes:=40) (by kernel_rfl) (by decide) (by decide) (hreach _) pkVersion (opVersion n)) (OpensFs.cons (opPending _) OpensFs.nil))))))
   (fun p=>⟨p.1,p.2.1,p.2.2.1,p.2.2.2.1,p.2.2.2.2.1,p.2.2.2.2.2.1⟩) (fun p _=>⟨trivial,rfl⟩)
theorem fitStore(x:Dt.GStore)(r:Int)(h0:0≤r)(h1:r≤1048576)(h:0≤szStore x r):(encStore false x).fits lim:=by
 unfold szStore at h
 obtain ⟨a0,h⟩:=thn_get h
 have l0:=szSl_le szSchema szSchema_le x.fSchema r h0
 obtain ⟨a1,h⟩:=thn_get h
 have l1:=szSl_le szNode szNode_le x.fRunning (szSl szSchema x.fSchema r) a0
 obtain ⟨a2,h⟩:=thn_get h
 have l2:=szSl_le szNode szNode_le x.fDraft (szSl szNode x.fRunning (szSl szSchema x.fSchema r)) a1
 obtain ⟨a3,h⟩:=thn_get h
 have l3:=szSl_le szVersion szVersion_le x.fPast (szSl szNode x.fDraft (szSl szNode x.fRunning (szSl szSchema x.fSchema r))) a2
 obtain ⟨a4,h⟩:=thn_get h
 have l4:=szPending_le x.fWait (szSl szVersion x.fPast (szSl szNode x.fDraft (szSl szNode x.fRunning (szSl szSchema x.fSchema r)))) a3
 have z0:(AV.sl false 19 (x.fSchema.map (encSchema false))).fits lim:=fits_sl (f:=szSchema) szSchema_le x.fSchema r h0 (by omega) a0 (fun y hy r' p q s=>fitSchema y r' p q s)
 have z1:(AV.sl false 3 (x.fRunning.map (encNode false))).fits lim:=fits_sl (f:=szNode) szNode_le x.fRunning (szSl szSchema x.fSchema r) a0 (by omega) a1 (fun y hy r' p q s=>fitNode y r' p q s)
 have z2:(AV.sl false 3 (x.fDraft.map (encNode false))).fits lim:=fits_sl (f:=szNode) szNode_le x.fDraft (szSl szNode x.fRunning (szSl szSchema x.fSchema r)) a1 (by omega) a2 (fun y hy r' p q s=>fitNode y r' p q s)
 have z3:(AV.sl false 3 (x.fPast.map (encVersion false))).fits lim:=fits_sl (f:=szVersion) szVersion_le x.fPast (szSl szNode x.fDraft (szSl szNode x.fRunning (szSl szSchema x.fSchema r))) a2 (by omega) a3 (fun y hy r' p q s=>fitVersion y r' p q s)
 have z4:=fitPending x.fWait (szSl szVersion x.fPast (szSl szNode x.fDraft (szSl szNode x.fRunning (szSl szSchema x.fSchema r)))) a3 (by omega) a4
 simp only [encPending,AV.fits,AV.fitsL] at z0 z1 z2 z3 z4
 simp only [encStore,AV.fits,AV.fitsL]
 exact ⟨z0,z1,z2,trivial,z3,z4.1,z4.2.1,z4.2.2.1,z4.2.2.2.1,z4.2.2.2.2.1,trivial⟩
instance:Inhabited Dt.GChange:=⟨0,0,[]⟩
def celChange(x:Dt.GChange):List AV:=[.v (.int .i64 x.fAt),.v (.int .i64 x.fBy),.sl false 4 (x.fEdits.map (encEdit false))]
instance:Inhabited Dt.GJournal:=⟨[],[]⟩
def celJournal(x:Dt.GJournal):List AV:=[.sl false 3 (x.fBase.map (encNode false)),.sl false 3 (x.fList.map (encChange false))]
instance:Inhabited Dt.GWatcher:=⟨[],[],[]⟩
def celWatcher(x:Dt.GWatcher):List AV:=[.sl false 1 (x.fNames.map AV.str),.sl false 3 (x.fSeen.map (encNode false)),.sl false 1 (x.fNotices.map (encEditS false))]
instance:Inhabited Dt.GDevice:=⟨[],default,[],false,0,false⟩
def celDevice(x:Dt.GDevice):List AV:=[.str x.fName,.sl false 19 (x.fStore.fSchema.map (encSchema false)),.sl false 3 (x.fStore.fRunning.map (encNode false)),.sl false 3 (x.fStore.fDraft.map (encNode false)),.v (.int .i64 x.fStore.fOwner),.sl false 3 (x.fStore.fPast.map (encVersion false)),.v (.bool x.fStore.fWait.fOn),.v (.int .i64 x.fStore.fWait.fUntil),.v (.int .i64 x.fStore.fWait.fBy),.str x.fStore.fWait.fName,.sl false 3 (x.fStore.fWait.fBack.map (encNode false)),.sl false 3 (x.fBase.map (encNode false)),.v (.bool x.fUp),.v (.int .i64 x.fWeak),.v (.bool x.fHeld)]
theorem opDevice(n:Nat):Opens enc Tryz.prog W rawL n 30 celDevice (fun _=>True):=by
 refine Opens.mono (n:=n+1+1) ?_ (by omega)
 exact Opens.struct (P:=Tryz.prog) (t:=30) (fl:=[(9,0,1),(28,1,10),(23,11,1),(4,12,1),(3,13,1),(4,14,1)]) (tot:=15) (by kernel_rfl)
   (OpensFs.cons (Opens.str (by kernel_rfl)) (OpensFs.cons (opStore _) (OpensFs.cons (Opens.slice (e:=95) (bytes:=56) (by kernel_rfl) (by decide) (by decide) (hreach _) pkNode (opNode n)) (OpensFs.cons (Opens.bool (by kernel_rfl)) (OpensFs.cons (Opens.int (k:=.i64) (by kernel_rfl)) (OpensFs.cons (Opens.bool (by kernel_rfl)) OpensFs.nil))))))
   (fun p=>⟨p.1,p.2.1,p.2.2.1,p.2.2.2.1,p.2.2.2.2.1,p.2.2.2.2.2.1⟩) (fun p _=>⟨trivial,rfl⟩)
theorem fitDevice(x:Dt.GDevice)(r:Int)(h0:0≤r)(h1:r≤1048576)(h:0≤szDevice x r):(encDevice false x).fits lim:=by
 unfold szDevice at h
 obtain ⟨a0,h⟩:=thn_get h
 have l0:=szStr_le x.fName r h0
 obtain ⟨a1,h⟩:=thn_get h
 have l1:=szStore_le x.fStore (szStr x.fName r) a0
 obtain ⟨a2,h⟩:=thn_get h
 have l2:=szSl_le szNode szNode_le x.fBase (szStore x.fStore (szStr x.fName r)) a1
 have z1:=fitStore x.fStore (szStr x.fName r) a0 (by omega) a1
 have z2:(AV.sl false 3 (x.fBase.map (encNode false))).fits lim:=fits_sl (f:=szNode) szNode_le x.fBase (szStore x.fStore (szStr x.fName r)) a1 (by omega) a2 (fun y hy r' p q s=>fitNode y r' p q s)
 simp only [encStore,AV.fits,AV.fitsL] at z1 z2
 simp only [encDevice,AV.fits,AV.fitsL]
 exact ⟨trivial,z1.1,z1.2.1,z1.2.2.1,z1.2.2.2.1,z1.2.2.2.2.1,z1.2.2.2.2.2.1,z1.2.2.2.2.2.2.1,z1.2.2.2.2.2.2.2.1,z1.2.2.2.2.2.2.2.2.1,z1.2.2.2.2.2.2.2.2.2.1,z2,trivial,trivial,trivial,trivial⟩
end Go.Proofs.YtmcjbaafmjlblaaGreatDoor
namespace Go.Proofs.YtmcjbaafmjlblaaGreatDoor
open Go.Ab Go.Dt
set_option maxRecDepth 20000
set_option maxHeartbeats 2000000
instance markText_i(k:Int):Ctr lim Tryz.prog 57 [] [.v (.int .i64 k)] (.str (mkT k)) [] (k≤1099511627776):=by
 refine Ctr.of_body en57 Tryz.func57 rfl rfl fun hp=>(?_);rw [Tryz.ntmps57]
 (refine vU ?_;with_reducible repeat' first|exact Le.l|refine Sw ?_ ?_|intro h)
 ·rw [mkT,if_pos h]
 obtain ⟨n,rfl⟩:∃ n:Nat,k=n:=⟨k.toNat,by omega⟩
 refine AW.loopV [0,3] [] (fun m xs o=>∃ (j:Nat) (out:Str),xs=[.v (.int .i64 j),.str out]∧o=[]∧m=j∧out.length+j≤n∧digs j out=digs n []) n [] trivial ⟨n,[],?_,rfl,rfl,?_,rfl⟩ ?_
 ·rfl
 ·simp
 rintro m xs o ⟨j,out,rfl,rfl,rfl,hl,hR⟩
 (refine vU ?_;with_reducible repeat' first|exact Le.l|refine Sw ?_ ?_|intro h)
 ·rw [digs_pos (by omega)] at hR
  exact ⟨_,[_,_],[],by omega,⟨m / 10,_,rfl,rfl,rfl,by simp;omega,hR⟩,by rw [show (48+((m % 10:Nat):Int)).toNat=48+m % 10 by omega];rfl,trivial⟩
 ·have:m=0:=by omega
  subst this
  rw [digs_zero] at hR
  rw [mkT,if_neg (by omega),Int.toNat_natCast,hR]
instance eqStringS_i(L:Nat→Nat)[hL:Lok L](l:List Str):Ctr L Tryz.prog 70 [] [.sl false 1 (l.map AV.str),.sl false 1 (l.map AV.str)] (.v (.bool true)) [] True:=by
 refine Ctr.of_body en70 Tryz.func70 rfl rfl fun hp=>(?_);rw [Tryz.ntmps70]
 refine AW.fact 0 fun hf=>?_
 simp (disch:=omega) only [go_sem,Nat.reduceBEq] at hf
 have hf:=Nat.le_trans hf (hL.le 1)
 (refine vU ?_;with_reducible repeat' first|exact Le.l|refine Sw ?_ ?_|intro h)
 refine AW.loopV [5] [0,1] (fun m xs o=>∃ k:Nat,xs=[.v (.int .i64 k)]∧o=[]∧m=l.length - k∧k≤l.length) l.length [] trivial ⟨0,?_,rfl,rfl,?_⟩ ?_
 ·rfl
 ·omega
 rintro m xs o ⟨k,rfl,rfl,rfl,hk⟩
 (refine vU ?_;with_reducible repeat' first|exact Le.l|refine Sw ?_ ?_|intro h)
 exact ⟨_,[_],[],by omega,⟨k+1,rfl,rfl,rfl,by omega⟩,rfl,trivial⟩
theorem markStringS_g(b:Nat)(l:List Str)(k:Int):Ctr lim Tryz.prog 74 [(b,some ((l.map AV.str).flatMap AV.cells))] [.arr b 0 (l.map AV.str).length 1,.v (.int .i64 k)] (.v (.int .i64 (k+l.length))) [some (((mks l.length k).map AV.str).flatMap AV.cells)] (0≤k∧k+l.length≤1099511627776):=by
 simp only [fl_str,List.length_map]
 refine Ctr.of_body en74 Tryz.func74 rfl rfl fun hp=>(?_);rw [Tryz.ntmps74]
 (refine vU ?_;with_reducible repeat' first|exact Le.l|refine Sw ?_ ?_|intro h)
 refine AW.loopV [1,5] [0] (fun m xs o=>∃ i:Nat,xs=[.v (.int .i64 (k+i)),.v (.int .i64 i)]∧o=[(b,some ((mkd l k i).map AV.str))]∧m=l.length - i∧i≤l.length) l.length [(b,some (l.map AV.str))] (subO_one rfl) ⟨0,?_,?_,rfl,?_⟩ ?_
 ·simp [T]
 ·simp [mkd,mks]
 ·omega
 rintro m xs o ⟨i,rfl,rfl,rfl,hi⟩
 have hml:=mkd_len l k i hi
 (refine vU ?_;with_reducible repeat' first|exact Le.l|refine Sw ?_ ?_|intro h)
 ·exact ⟨_,[_,_],_,by omega,⟨i+1,by rw [show k+((i+1:Nat):Int)=k+i+1 by omega],rfl,rfl,by omega⟩,rfl,subO_one (mkd_step l k i h).symm⟩
 ·rw [show i=l.length by omega]
 ·rw [show i=l.length by omega,mkd,List.drop_of_length_le (Nat.le_refl _),List.append_nil]
instance markStringS_i(l:List Str)(k:Int):BCtr lim Tryz.prog 74 1 (l.map AV.str) [.v (.int .i64 k)] (.v (.int .i64 (k+l.length))) ((mks l.length k).map AV.str) (0≤k∧k+l.length≤1099511627776):=by
 refine BCtr.of en74 (fun b=>markStringS_g b l k) (fun e=>?_) (by simp [mks_len]) (by simpa [List.all_eq_true] using str_all l) (by simpa [List.all_eq_true] using str_all (mks l.length k))
 have:l=[]:=by simpa using e
 subst this
 refine ⟨?_,rfl⟩
 refine Ctr.of_body en74 Tryz.func74 rfl rfl fun hp=>(?_);rw [Tryz.ntmps74]
 (refine vU ?_;with_reducible repeat' first|exact Le.l|refine Sw ?_ ?_|intro h)
 refine AW.loopV [] [0,1,5] (fun m xs o=>xs=[]∧o=[]) 0 [] trivial ⟨rfl,rfl⟩ ?_
 rintro m xs o ⟨rfl,rfl⟩
 (refine vU ?_;with_reducible repeat' first|exact Le.l|refine Sw ?_ ?_|intro h)
 simp
end Go.Proofs.YtmcjbaafmjlblaaGreatDoor
