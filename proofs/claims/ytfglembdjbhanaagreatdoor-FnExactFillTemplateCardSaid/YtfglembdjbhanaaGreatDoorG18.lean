/-
  Part of a proof: Opn2, Fa1.
-/
import Derived.Test.YtfglembdjbhanaaGreatDoorG9
import Derived.Test.YtfglembdjbhanaaGreatDoorG10
import Derived.Test.YtfglembdjbhanaaGreatDoorG12
import Derived.Test.YtfglembdjbhanaaGreatDoorG16
import Derived.Test.YtfglembdjbhanaaGreatDoorG17
set_option linter.unusedSimpArgs false
set_option linter.unusedVariables false
namespace Go.Proofs.YtfglembdjbhanaaGreatDoor
open Go.Ab Go.Dt
variable {H : Type} {enc : TypeId × Value → H} {W : World}
theorem hreach (z : Nat) : reachBytes ≤ rawL z := by
  have := reachBytes_lt
  unfold rawL; omega

instance : Inhabited Dt.GRange := ⟨0, 0⟩
def celRange (x : Dt.GRange) : List AV := [.v (.int .i64 x.fLo), .v (.int .i64 x.fHi)]
theorem pkRange {L : Nat → Nat} : Packs L W celRange (encRange false) 2 := by
  have : encRange false = fun x => .agg (celRange x) := by funext x; simp only [go_sem, celRange]
  rw [this]; exact Packs.agg fun _ => rfl
theorem opRange (n : Nat) : Opens enc Tryz.prog W rawL n 169 celRange (fun _ => True) := by
  refine Opens.mono (n := n + 1 + 1) ?_ (by omega)
  exact Opens.struct (P := Tryz.prog) (t := 169) (fl := [(3, 0, 1), (3, 1, 1)]) (tot := 2) (by kernel_rfl)
      (OpensFs.cons (Opens.int (k := .i64) (by kernel_rfl)) (OpensFs.cons (Opens.int (k := .i64) (by kernel_rfl)) OpensFs.nil))
      (fun p => ⟨p.1, p.2.1⟩) (fun p _ => ⟨trivial, rfl⟩)
theorem fitRange (x : Dt.GRange) (r : Int) (h0 : 0 ≤ r) (h1 : r ≤ 1048576) (h : 0 ≤ szRange x r) : (encRange false x).fits lim := by
  simp only [encRange, AV.fits, AV.fitsL]
  exact ⟨trivial, trivial, trivial⟩
instance : Inhabited Dt.GType := ⟨0, [], [], [], []⟩
def celType (x : Dt.GType) : List AV := [.v (.int .i64 x.fKind), .sl false 2 (x.fRanges.map (encRange false)), .sl false 1 (x.fNames.map AV.str), .str x.fPattern, .str x.fPath]
theorem opType (n : Nat) : Opens enc Tryz.prog W rawL n 130 celType (fun _ => True) := by
  refine Opens.mono (n := n + 1 + 1) ?_ (by omega)
  exact Opens.struct (P := Tryz.prog) (t := 130) (fl := [(3, 0, 1), (128, 1, 1), (37, 2, 1), (9, 3, 1), (9, 4, 1)]) (tot := 5) (by kernel_rfl)
      (OpensFs.cons (Opens.int (k := .i64) (by kernel_rfl)) (OpensFs.cons (Opens.slice (e := 169) (bytes := 16) (by kernel_rfl) (by decide) (by decide) (hreach _) pkRange (opRange n)) (OpensFs.cons (Opens.slice (e := 9) (bytes := 16) (by kernel_rfl) (by decide) (by decide) (hreach _) Packs.str (Opens.str (by kernel_rfl))) (OpensFs.cons (Opens.str (by kernel_rfl)) (OpensFs.cons (Opens.str (by kernel_rfl)) OpensFs.nil)))))
      (fun p => ⟨p.1, p.2.1, p.2.2.1, p.2.2.2.1, p.2.2.2.2.1⟩) (fun p _ => ⟨trivial, rfl⟩)
theorem fitType (x : Dt.GType) (r : Int) (h0 : 0 ≤ r) (h1 : r ≤ 1048576) (h : 0 ≤ szType x r) : (encType false x).fits lim := by
  unfold szType at h
  obtain ⟨a0, h⟩ := thn_get h
  have l0 := szSl_le szRange szRange_le x.fRanges r h0
  obtain ⟨a1, h⟩ := thn_get h
  have l1 := szSl_le szStr szStr_le x.fNames (szSl szRange x.fRanges r) a0
  obtain ⟨a2, h⟩ := thn_get h
  have l2 := szStr_le x.fPattern (szSl szStr x.fNames (szSl szRange x.fRanges r)) a1
  obtain ⟨a3, h⟩ := thn_get h
  have l3 := szStr_le x.fPath (szStr x.fPattern (szSl szStr x.fNames (szSl szRange x.fRanges r))) a2
  have z0 : (AV.sl false 2 (x.fRanges.map (encRange false))).fits lim := fits_sl (f := szRange) szRange_le x.fRanges r h0 (by omega) a0 (fun y hy r' p q s => fitRange y r' p q s)
  have z1 : (AV.sl false 1 (x.fNames.map AV.str)).fits lim := fits_sl (f := szStr) szStr_le x.fNames (szSl szRange x.fRanges r) a0 (by omega) a1 (fun _ _ _ _ _ _ => trivial)
  simp only [AV.fits, AV.fitsL] at z0 z1
  simp only [encType, AV.fits, AV.fitsL]
  exact ⟨trivial, z0, z1, trivial, trivial, trivial⟩
instance : Inhabited Dt.GNode := ⟨.mk [] [] []⟩
def celNode (x : Dt.GNode) : List AV := [.str x.fName, .str x.fValue, .sl false 3 (x.fKids.map (encNode false))]
theorem pkNode {L : Nat → Nat} : Packs L W celNode (encNode false) 3 := by
  have : encNode false = fun x => .agg (celNode x) := by funext x; simp only [go_sem, celNode]
  rw [this]; exact Packs.agg fun _ => rfl
theorem opNode (n : Nat) : Opens enc Tryz.prog W rawL n 135 celNode (fun _ => True) := by
  induction n with
  | zero => exact Opens.zero
  | succ n ih =>
    refine Opens.mono (n := n + 1 + 1) ?_ (by omega)
    exact Opens.struct (P := Tryz.prog) (t := 135) (fl := [(9, 0, 1), (9, 1, 1), (51, 2, 1)]) (tot := 3) (by kernel_rfl)
      (OpensFs.cons (Opens.str (by kernel_rfl)) (OpensFs.cons (Opens.str (by kernel_rfl)) (OpensFs.cons (Opens.slice (e := 135) (bytes := 56) (by kernel_rfl) (by decide) (by decide) (hreach _) pkNode ih) OpensFs.nil)))
      (fun p => .mk p.1 p.2.1 p.2.2.1) (fun p _ => ⟨trivial, rfl⟩)
theorem fitNode (x : Dt.GNode) (r : Int) (h0 : 0 ≤ r) (h1 : r ≤ 1048576) (h : 0 ≤ szNode x r) : (encNode false x).fits lim := by
  induction hs : SizeOf.sizeOf x using Nat.strongRecOn generalizing x r with
  | _ n ih =>
    rw [szNode_eq] at h
    obtain ⟨a0, h⟩ := thn_get h
    have l0 := szStr_le x.fName r h0
    obtain ⟨a1, h⟩ := thn_get h
    have l1 := szStr_le x.fValue (szStr x.fName r) a0
    obtain ⟨a2, h⟩ := thn_get h
    have l2 := szSl_le szNode szNode_le x.fKids (szStr x.fValue (szStr x.fName r)) a1
    have z2 : (AV.sl false 3 (x.fKids.map (encNode false))).fits lim := fits_sl (f := szNode) szNode_le x.fKids (szStr x.fValue (szStr x.fName r)) a1 (by omega) a2 (fun y hy r' p q s => ih (SizeOf.sizeOf y) (by have := List.sizeOf_lt_of_mem hy; cases x; simp [Dt.GNode.fKids] at *; omega) y r' p q s rfl)
    simp only [AV.fits, AV.fitsL] at z2
    simp only [encNode_eq, AV.fits, AV.fitsL]
    exact ⟨trivial, trivial, z2, trivial⟩
instance : Inhabited Dt.GArg := ⟨[], []⟩
def celArg (x : Dt.GArg) : List AV := [.str x.fName, .str x.fValue]
theorem pkArg {L : Nat → Nat} : Packs L W celArg (encArg false) 2 := by
  have : encArg false = fun x => .agg (celArg x) := by funext x; simp only [go_sem, celArg]
  rw [this]; exact Packs.agg fun _ => rfl
theorem opArg (n : Nat) : Opens enc Tryz.prog W rawL n 98 celArg (fun _ => True) := by
  refine Opens.mono (n := n + 1 + 1) ?_ (by omega)
  exact Opens.struct (P := Tryz.prog) (t := 98) (fl := [(9, 0, 1), (9, 1, 1)]) (tot := 2) (by kernel_rfl)
      (OpensFs.cons (Opens.str (by kernel_rfl)) (OpensFs.cons (Opens.str (by kernel_rfl)) OpensFs.nil))
      (fun p => ⟨p.1, p.2.1⟩) (fun p _ => ⟨trivial, rfl⟩)
theorem fitArg (x : Dt.GArg) (r : Int) (h0 : 0 ≤ r) (h1 : r ≤ 1048576) (h : 0 ≤ szArg x r) : (encArg false x).fits lim := by
  unfold szArg at h
  obtain ⟨a0, h⟩ := thn_get h
  have l0 := szStr_le x.fName r h0
  obtain ⟨a1, h⟩ := thn_get h
  have l1 := szStr_le x.fValue (szStr x.fName r) a0
  simp only [encArg, AV.fits, AV.fitsL]
  exact ⟨trivial, trivial, trivial⟩
instance : Inhabited Dt.GParam := ⟨[], default⟩
def celParam (x : Dt.GParam) : List AV := [.str x.fName, .v (.int .i64 x.fType.fKind), .sl false 2 (x.fType.fRanges.map (encRange false)), .sl false 1 (x.fType.fNames.map AV.str), .str x.fType.fPattern, .str x.fType.fPath]
theorem pkParam {L : Nat → Nat} : Packs L W celParam (encParam false) 6 := by
  have : encParam false = fun x => .agg (celParam x) := by funext x; simp only [go_sem, celParam]
  rw [this]; exact Packs.agg fun _ => rfl
theorem opParam (n : Nat) : Opens enc Tryz.prog W rawL n 132 celParam (fun _ => True) := by
  refine Opens.mono (n := n + 1 + 1) ?_ (by omega)
  exact Opens.struct (P := Tryz.prog) (t := 132) (fl := [(9, 0, 1), (130, 1, 5)]) (tot := 6) (by kernel_rfl)
      (OpensFs.cons (Opens.str (by kernel_rfl)) (OpensFs.cons (opType _) OpensFs.nil))
      (fun p => ⟨p.1, p.2.1⟩) (fun p _ => ⟨trivial, rfl⟩)
theorem fitParam (x : Dt.GParam) (r : Int) (h0 : 0 ≤ r) (h1 : r ≤ 1048576) (h : 0 ≤ szParam x r) : (encParam false x).fits lim := by
  unfold szParam at h
  obtain ⟨a0, h⟩ := thn_get h
  have l0 := szStr_le x.fName r h0
  obtain ⟨a1, h⟩ := thn_get h
  have l1 := szType_le x.fType (szStr x.fName r) a0
  have z1 := fitType x.fType (szStr x.fName r) a0 (by omega) a1
  simp only [encType, AV.fits, AV.fitsL] at z1
  simp only [encParam, AV.fits, AV.fitsL]
  exact ⟨trivial, z1.1, z1.2.1, z1.2.2.1, z1.2.2.2.1, z1.2.2.2.2.1, trivial⟩
instance : Inhabited Dt.GTemplate := ⟨[], [], []⟩
def celTemplate (x : Dt.GTemplate) : List AV := [.str x.fName, .sl false 6 (x.fParams.map (encParam false)), .sl false 3 (x.fBody.map (encNode false))]
theorem opTemplate (n : Nat) : Opens enc Tryz.prog W rawL n 53 celTemplate (fun _ => True) := by
  refine Opens.mono (n := n + 1 + 1) ?_ (by omega)
  exact Opens.struct (P := Tryz.prog) (t := 53) (fl := [(9, 0, 1), (50, 1, 1), (51, 2, 1)]) (tot := 3) (by kernel_rfl)
      (OpensFs.cons (Opens.str (by kernel_rfl)) (OpensFs.cons (Opens.slice (e := 132) (bytes := 104) (by kernel_rfl) (by decide) (by decide) (hreach _) pkParam (opParam n)) (OpensFs.cons (Opens.slice (e := 135) (bytes := 56) (by kernel_rfl) (by decide) (by decide) (hreach _) pkNode (opNode n)) OpensFs.nil)))
      (fun p => ⟨p.1, p.2.1, p.2.2.1⟩) (fun p _ => ⟨trivial, rfl⟩)
theorem fitTemplate (x : Dt.GTemplate) (r : Int) (h0 : 0 ≤ r) (h1 : r ≤ 1048576) (h : 0 ≤ szTemplate x r) : (encTemplate false x).fits lim := by
  unfold szTemplate at h
  obtain ⟨a0, h⟩ := thn_get h
  have l0 := szStr_le x.fName r h0
  obtain ⟨a1, h⟩ := thn_get h
  have l1 := szSl_le szParam szParam_le x.fParams (szStr x.fName r) a0
  obtain ⟨a2, h⟩ := thn_get h
  have l2 := szSl_le szNode szNode_le x.fBody (szSl szParam x.fParams (szStr x.fName r)) a1
  have z1 : (AV.sl false 6 (x.fParams.map (encParam false))).fits lim := fits_sl (f := szParam) szParam_le x.fParams (szStr x.fName r) a0 (by omega) a1 (fun y hy r' p q s => fitParam y r' p q s)
  have z2 : (AV.sl false 3 (x.fBody.map (encNode false))).fits lim := fits_sl (f := szNode) szNode_le x.fBody (szSl szParam x.fParams (szStr x.fName r)) a1 (by omega) a2 (fun y hy r' p q s => fitNode y r' p q s)
  simp only [AV.fits, AV.fitsL] at z1 z2
  simp only [encTemplate, AV.fits, AV.fitsL]
  exact ⟨trivial, z1, z2, trivial⟩
end Go.Proofs.YtfglembdjbhanaaGreatDoor
namespace Go.Proofs.YtfglembdjbhanaaGreatDoor
open Go.Ab Go.Dt
set_option maxRecDepth 20000
set_option maxHeartbeats 2000000

instance markText_i (k : Int) : Ctr lim Tryz.prog 69 [] [.v (.int .i64 k)] (.str (mkT k)) [] (k ≤ 1099511627776) := by
  refine Ctr.of_body en69 Tryz.func69 rfl rfl fun hp => (?_); rw [Tryz.ntmps69]
  (refine vU ?_; with_reducible repeat' first | exact Le.l | refine Sw ?_ ?_ | intro h)
  · rw [mkT, if_pos h]
  obtain ⟨n, rfl⟩ : ∃ n : Nat, k = n := ⟨k.toNat, by omega⟩
  refine AW.loopV [0, 3] [] (fun m xs o => ∃ (j : Nat) (out : Str), xs = [.v (.int .i64 j), .str out] ∧ o = [] ∧ m = j ∧ out.length + j ≤ n ∧ digs j out = digs n []) n [] trivial ⟨n, [], ?_, rfl, rfl, ?_, rfl⟩ ?_
  · rfl
  · simp
  rintro m xs o ⟨j, out, rfl, rfl, rfl, hl, hR⟩
  (refine vU ?_; with_reducible repeat' first | exact Le.l | refine Sw ?_ ?_ | intro h)
  · rw [digs_pos (by omega)] at hR
    exact ⟨_, [_, _], [], by omega, ⟨m / 10, _, rfl, rfl, rfl, by simp; omega, hR⟩, by rw [show (48 + ((m % 10 : Nat) : Int)).toNat = 48 + m % 10 by omega]; rfl, trivial⟩
  · have : m = 0 := by omega
    subst this
    rw [digs_zero] at hR
    rw [mkT, if_neg (by omega), Int.toNat_natCast, hR]

instance eqStringS_i (L : Nat → Nat) [hL : Lok L] (l : List Str) : Ctr L Tryz.prog 134 [] [.sl false 1 (l.map AV.str), .sl false 1 (l.map AV.str)] (.v (.bool true)) [] True := by
  refine Ctr.of_body en134 Tryz.func134 rfl rfl fun hp => (?_); rw [Tryz.ntmps134]
  refine AW.fact 0 fun hf => ?_
  simp (disch := omega) only [go_sem, Nat.reduceBEq] at hf
  have hf := Nat.le_trans hf (hL.le 1)
  (refine vU ?_; with_reducible repeat' first | exact Le.l | refine Sw ?_ ?_ | intro h)
  refine AW.loopV [5] [0, 1] (fun m xs o => ∃ k : Nat, xs = [.v (.int .i64 k)] ∧ o = [] ∧ m = l.length - k ∧ k ≤ l.length) l.length [] trivial ⟨0, ?_, rfl, rfl, ?_⟩ ?_
  · rfl
  · omega
  rintro m xs o ⟨k, rfl, rfl, rfl, hk⟩
  (refine vU ?_; with_reducible repeat' first | exact Le.l | refine Sw ?_ ?_ | intro h)
  exact ⟨_, [_], [], by omega, ⟨k + 1, rfl, rfl, rfl, by omega⟩, rfl, trivial⟩

theorem markStringS_g (b : Nat) (l : List Str) (k : Int) : Ctr lim Tryz.prog 103 [(b, some ((l.map AV.str).flatMap AV.cells))] [.arr b 0 (l.map AV.str).length 1, .v (.int .i64 k)] (.v (.int .i64 (k + l.length))) [some (((mks l.length k).map AV.str).flatMap AV.cells)] (0 ≤ k ∧ k + l.length ≤ 1099511627776) := by
  simp only [fl_str, List.length_map]
  refine Ctr.of_body en103 Tryz.func103 rfl rfl fun hp => (?_); rw [Tryz.ntmps103]
  (refine vU ?_; with_reducible repeat' first | exact Le.l | refine Sw ?_ ?_ | intro h)
  refine AW.loopV [1, 5] [0] (fun m xs o => ∃ i : Nat, xs = [.v (.int .i64 (k + i)), .v (.int .i64 i)] ∧ o = [(b, some ((mkd l k i).map AV.str))] ∧ m = l.length - i ∧ i ≤ l.length) l.length [(b, some (l.map AV.str))] (subO_one rfl) ⟨0, ?_, ?_, rfl, ?_⟩ ?_
  · simp [T]
  · simp [mkd, mks]
  · omega
  rintro m xs o ⟨i, rfl, rfl, rfl, hi⟩
  have hml := mkd_len l k i hi
  (refine vU ?_; with_reducible repeat' first | exact Le.l | refine Sw ?_ ?_ | intro h)
  · exact ⟨_, [_, _], _, by omega, ⟨i + 1, by rw [show k + ((i + 1 : Nat) : Int) = k + i + 1 by omega], rfl, rfl, by omega⟩, rfl, subO_one (mkd_step l k i h).symm⟩
  · rw [show i = l.length by omega]
  · rw [show i = l.length by omega, mkd, List.drop_of_length_le (Nat.le_refl _), List.append_nil]

instance markStringS_i (l : List Str) (k : Int) : BCtr lim Tryz.prog 103 1 (l.map AV.str) [.v (.int .i64 k)] (.v (.int .i64 (k + l.length))) ((mks l.length k).map AV.str) (0 ≤ k ∧ k + l.length ≤ 1099511627776) := by
  refine BCtr.of en103 (fun b => markStringS_g b l k) (fun e => ?_) (by simp [mks_len]) (by simpa [List.all_eq_true] using str_all l) (by simpa [List.all_eq_true] using str_all (mks l.length k))
  have : l = [] := by simpa using e
  subst this
  refine ⟨?_, rfl⟩
  refine Ctr.of_body en103 Tryz.func103 rfl rfl fun hp => (?_); rw [Tryz.ntmps103]
  (refine vU ?_; with_reducible repeat' first | exact Le.l | refine Sw ?_ ?_ | intro h)
  refine AW.loopV [] [0, 1, 5] (fun m xs o => xs = [] ∧ o = []) 0 [] trivial ⟨rfl, rfl⟩ ?_
  rintro m xs o ⟨rfl, rfl⟩
  (refine vU ?_; with_reducible repeat' first | exact Le.l | refine Sw ?_ ?_ | intro h)
  simp

end Go.Proofs.YtfglembdjbhanaaGreatDoor
