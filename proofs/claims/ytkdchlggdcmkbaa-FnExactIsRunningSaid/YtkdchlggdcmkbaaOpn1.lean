/-
  Arguments of the types node, task, campaign, as read.
-/
import Derived.Test.YtkdchlggdcmkbaaAbFit
import Derived.Test.YtkdchlggdcmkbaaTysTry
set_option linter.unusedSimpArgs false
set_option linter.unusedVariables false
namespace Go.Proofs.Ytkdchlggdcmkbaa
open Go.Ab Go.Dt
variable {H : Type} {enc : TypeId × Value → H} {W : World}

theorem hreach (z : Nat) : reachBytes ≤ rawL z := by
  have := reachBytes_lt
  unfold rawL; omega

instance : Inhabited Dt.Node := ⟨.mk [] [] []⟩
instance : Inhabited Dt.Task := ⟨[], [], 0⟩

def celNode (x : Dt.Node) : List AV := [.str x.name, .str x.value, .sl false 3 (x.kids.map (encNode false))]
def celTask (t : Dt.Task) : List AV := [.str t.device, .sl false 3 (t.tree.map (encNode false)), .v (.int .i64 t.state)]
def celCampaign (c : Dt.Campaign) : List AV := [.v (.int .i64 c.state), .sl false 3 (c.tasks.map (encTask false))]
theorem pkNode {L : Nat → Nat} : Packs L W celNode (encNode false) 3 := by
  have : encNode false = fun x => .agg (celNode x) := by funext x; simp only [go_sem, celNode]
  rw [this]; exact Packs.agg fun _ => rfl
theorem pkTask {L : Nat → Nat} : Packs L W celTask (encTask false) 3 := by
  have : encTask false = fun x => .agg (celTask x) := by funext x; simp only [go_sem, celTask]
  rw [this]; exact Packs.agg fun _ => rfl

theorem opNode (n : Nat) : Opens enc Try.prog W rawL n 183 celNode (fun _ => True) := by
  induction n with
  | zero => exact Opens.zero
  | succ n ih =>
    refine Opens.mono (n := n + 1 + 1) ?_ (by omega)
    exact Opens.struct (P := Try.prog) (t := 183) (fl := [(9, 0, 1), (9, 1, 1), (70, 2, 1)]) (tot := 3) (by kernel_rfl)
      (OpensFs.cons (Opens.str (by kernel_rfl)) (OpensFs.cons (Opens.str (by kernel_rfl)) (OpensFs.cons (Opens.slice (e := 183) (bytes := 56) (by kernel_rfl) (by decide) (by decide) (hreach _) pkNode ih) OpensFs.nil)))
      (fun p => .mk p.1 p.2.1 p.2.2.1) (fun p _ => ⟨trivial, rfl⟩)
theorem opTask (n : Nat) : Opens enc Try.prog W rawL n 156 celTask (fun _ => True) := by
  refine Opens.mono (n := n + 1 + 1) ?_ (by omega)
  exact Opens.struct (P := Try.prog) (t := 156) (fl := [(9, 0, 1), (70, 1, 1), (3, 2, 1)]) (tot := 3) (by kernel_rfl)
      (OpensFs.cons (Opens.str (by kernel_rfl)) (OpensFs.cons (Opens.slice (e := 183) (bytes := 56) (by kernel_rfl) (by decide) (by decide) (hreach _) pkNode (opNode n)) (OpensFs.cons (Opens.int (k := .i64) (by kernel_rfl)) OpensFs.nil)))
      (fun p => ⟨p.1, p.2.1, p.2.2.1⟩) (fun p _ => ⟨trivial, rfl⟩)
theorem opCampaign (n : Nat) : Opens enc Try.prog W rawL n 30 celCampaign (fun _ => True) := by
  refine Opens.mono (n := n + 1 + 1) ?_ (by omega)
  exact Opens.struct (P := Try.prog) (t := 30) (fl := [(3, 0, 1), (28, 1, 1)]) (tot := 2) (by kernel_rfl)
      (OpensFs.cons (Opens.int (k := .i64) (by kernel_rfl)) (OpensFs.cons (Opens.slice (e := 156) (bytes := 48) (by kernel_rfl) (by decide) (by decide) (hreach _) pkTask (opTask n)) OpensFs.nil))
      (fun p => ⟨p.1, p.2.1⟩) (fun p _ => ⟨trivial, rfl⟩)

theorem fitNode (x : Dt.Node) (r : Int) (h0 : 0 ≤ r) (h1 : r ≤ 1048576) (h : 0 ≤ szNode x r) : (encNode false x).fits lim := by
  induction hs : SizeOf.sizeOf x using Nat.strongRecOn generalizing x r with
  | _ n ih =>
    rw [szNode_eq] at h
    rw [encNode_eq]
    obtain ⟨a1, h⟩ := thn_ge h
    obtain ⟨a2, h⟩ := thn_ge h
    obtain ⟨a3, h⟩ := thn_ge h
    have l1 := szStr_le x.name r h0
    have l2 := szStr_le x.value _ a1
    simp only [AV.fits, AV.fitsL]
    refine ⟨trivial, trivial, ?_, trivial⟩
    refine fits_sl (o := false) (f := szNode) (e := encNode false) szNode_le x.kids _ a2 (by omega) a3 fun y hy r' p q s => ih (SizeOf.sizeOf y) ?_ y r' p q s rfl
    have := List.sizeOf_lt_of_mem hy
    cases x; simp [Dt.Node.kids] at *; omega
theorem fitTask (x : Dt.Task) (r : Int) (h0 : 0 ≤ r) (h1 : r ≤ 1048576) (h : 0 ≤ szTask x r) : (encTask false x).fits lim := by
  unfold szTask at h
  obtain ⟨a1, h⟩ := thn_ge h
  obtain ⟨a2, h⟩ := thn_ge h
  have l1 := szStr_le x.device r h0
  simp only [encTask, AV.fits, AV.fitsL]
  exact ⟨trivial, fits_sl (o := false) (f := szNode) (e := encNode false) szNode_le x.tree _ a1 (by omega) a2 fun y hy r' p q s => fitNode y r' p q s, trivial, trivial⟩
theorem fitCampaign (x : Dt.Campaign) (r : Int) (h0 : 0 ≤ r) (h1 : r ≤ 1048576) (h : 0 ≤ szCampaign x r) : (encCampaign false x).fits lim := by
  unfold szCampaign at h
  obtain ⟨a1, h⟩ := thn_ge h
  simp only [encCampaign, AV.fits, AV.fitsL]
  exact ⟨trivial, fits_sl (o := false) (f := szTask) (e := encTask false) szTask_le x.tasks _ h0 (by omega) a1 fun y hy r' p q s => fitTask y r' p q s, trivial⟩
end Go.Proofs.Ytkdchlggdcmkbaa
