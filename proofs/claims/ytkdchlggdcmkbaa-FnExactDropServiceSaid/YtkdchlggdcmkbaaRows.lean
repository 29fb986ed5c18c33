/-
  NARROWER THAN 'FOR EVERY INPUT', by the rows' own cells (each row's printed sentence says how): FnExactIsRunning: loops · FnExactFindDevice: loops · FnExactDropService: loops · FnExactIsTemplate: loops.
  DERIVED. THE GIVEN ROWS OF THIS SEAT. 6 by the template 'for every input the law returns true; each argument reads behind the call as it read before'; 0 by the template 'total and deterministic' (their statements: YtkdchlggdcmkbaaTotals.lean).
  GIVEN WITH THE SEED: the statements are not yours to turn. If you find one false, say at which input.
  Laid BY PROGRAM, IN A SANDBOX (cutbox-rows.mjs): the forced cells as the released guide's own fill.sh prints them over the translation 0e2816875eccabec… (all of the seat's roots in one cut). By AI agents, Wed Nov 11 2026. No macro, syntax, notation, axiom, sorry.
-/
import Derived.Test.YtkdchlggdcmkbaaChecked
import GoSem.Claim
import GoSem.ClaimJoined
import GoSem.ClaimMapViews
import Derived.JoinedTies
import Derived.KernelRfl
namespace Go.Proofs.Ytkdchlggdcmkbaa
/- THE CELL 'sum', in the pinned program and in every row, IS THE sha256 OF THE DUMP (.gsa) THAT YtkdchlggdcmkbaaProg.lean LOADS. Nothing in Lean hashes anything: it is a label: what it is worth is what the hold of that sum in a sandbox is worth. -/
noncomputable def Try.pinned : Pinned := { name := "ytkdchlggdcmkbaa", sum := "0e2816875eccabec4dfe6574120884593915e8e475dc022aab315f103e4108bd", checked := Try.checked }
namespace Rows
def none {H : Type} : Left H := { results := [], args := [] }

/-- 'laws.FnExactNamesIn': WHATEVER THE INPUT: true; the input reads as it did. -/
def fnExactNamesInSpec : ChangeSpec := { name := "fnExactNamesIn", fn := fun _ => fun
  | [d] => { results := [.lit (.bool true)], args := [d] }
  | _ => none }
def fnExactNamesInRow : OpenClaim := { program := "ytkdchlggdcmkbaa", sum := "0e2816875eccabec4dfe6574120884593915e8e475dc022aab315f103e4108bd", func := "loop.example/g03013/laws.FnExactNamesIn", spec := "fnExactNamesIn", unfollowed := true, recurses := true, apart := false }
def FnExactNamesInSaid : Prop := fnExactNamesInRow.holds Try.pinned (OpenSpec.ofChange fnExactNamesInSpec)

/-- ITS FALSE NEIGHBOUR: 'it returns false'. Refute it at one input. -/
def fnExactNamesInWrong : ChangeSpec := { name := "fnExactNamesIn", fn := fun _ => fun
  | [d] => { results := [.lit (.bool false)], args := [d] }
  | _ => none }
def FnExactNamesInWrongFalsely : Prop := fnExactNamesInRow.holds Try.pinned (OpenSpec.ofChange fnExactNamesInWrong)

/-- 'laws.FnExactIsRunning': WHATEVER THE INPUT: true; the input reads as it did. -/
def fnExactIsRunningSpec : ChangeSpec := { name := "fnExactIsRunning", fn := fun _ => fun
  | [d] => { results := [.lit (.bool true)], args := [d] }
  | _ => none }
def fnExactIsRunningRow : OpenClaim := { program := "ytkdchlggdcmkbaa", sum := "0e2816875eccabec4dfe6574120884593915e8e475dc022aab315f103e4108bd", func := "loop.example/g03013/laws.FnExactIsRunning", spec := "fnExactIsRunning", recurses := true, loops := true, apart := false }
def FnExactIsRunningSaid : Prop := fnExactIsRunningRow.holds Try.pinned (OpenSpec.ofChange fnExactIsRunningSpec)

/-- ITS FALSE NEIGHBOUR: 'it returns false'. Refute it at one input. -/
def fnExactIsRunningWrong : ChangeSpec := { name := "fnExactIsRunning", fn := fun _ => fun
  | [d] => { results := [.lit (.bool false)], args := [d] }
  | _ => none }
def FnExactIsRunningWrongFalsely : Prop := fnExactIsRunningRow.holds Try.pinned (OpenSpec.ofChange fnExactIsRunningWrong)

/-- 'laws.FnExactFillText': WHATEVER THE INPUT: true; the input reads as it did. -/
def fnExactFillTextSpec : ChangeSpec := { name := "fnExactFillText", fn := fun _ => fun
  | [d1, d2] => { results := [.lit (.bool true)], args := [d1, d2] }
  | _ => none }
def fnExactFillTextRow : OpenClaim := { program := "ytkdchlggdcmkbaa", sum := "0e2816875eccabec4dfe6574120884593915e8e475dc022aab315f103e4108bd", func := "loop.example/g03013/laws.FnExactFillText", spec := "fnExactFillText", unfollowed := true, recurses := true, apart := false }
def FnExactFillTextSaid : Prop := fnExactFillTextRow.holds Try.pinned (OpenSpec.ofChange fnExactFillTextSpec)

/-- ITS FALSE NEIGHBOUR: 'it returns false'. Refute it at one input. -/
def fnExactFillTextWrong : ChangeSpec := { name := "fnExactFillText", fn := fun _ => fun
  | [d1, d2] => { results := [.lit (.bool false)], args := [d1, d2] }
  | _ => none }
def FnExactFillTextWrongFalsely : Prop := fnExactFillTextRow.holds Try.pinned (OpenSpec.ofChange fnExactFillTextWrong)

/-- 'laws.FnExactFindDevice': WHATEVER THE INPUT: true; the input reads as it did. -/
def fnExactFindDeviceSpec : ChangeSpec := { name := "fnExactFindDevice", fn := fun _ => fun
  | [d1, d2] => { results := [.lit (.bool true)], args := [d1, d2] }
  | _ => none }
def fnExactFindDeviceRow : OpenClaim := { program := "ytkdchlggdcmkbaa", sum := "0e2816875eccabec4dfe6574120884593915e8e475dc022aab315f103e4108bd", func := "loop.example/g03013/laws.FnExactFindDevice", spec := "fnExactFindDevice", unfollowed := true, recurses := true, loops := true, apart := false }
def FnExactFindDeviceSaid : Prop := fnExactFindDeviceRow.holds Try.pinned (OpenSpec.ofChange fnExactFindDeviceSpec)

/-- ITS FALSE NEIGHBOUR: 'it returns false'. Refute it at one input. -/
def fnExactFindDeviceWrong : ChangeSpec := { name := "fnExactFindDevice", fn := fun _ => fun
  | [d1, d2] => { results := [.lit (.bool false)], args := [d1, d2] }
  | _ => none }
def FnExactFindDeviceWrongFalsely : Prop := fnExactFindDeviceRow.holds Try.pinned (OpenSpec.ofChange fnExactFindDeviceWrong)

/-- 'laws.FnExactDropService': WHATEVER THE INPUT: true; the input reads as it did. -/
def fnExactDropServiceSpec : ChangeSpec := { name := "fnExactDropService", fn := fun _ => fun
  | [d1, d2] => { results := [.lit (.bool true)], args := [d1, d2] }
  | _ => none }
def fnExactDropServiceRow : OpenClaim := { program := "ytkdchlggdcmkbaa", sum := "0e2816875eccabec4dfe6574120884593915e8e475dc022aab315f103e4108bd", func := "loop.example/g03013/laws.FnExactDropService", spec := "fnExactDropService", unfollowed := true, recurses := true, loops := true, apart := false }
def FnExactDropServiceSaid : Prop := fnExactDropServiceRow.holds Try.pinned (OpenSpec.ofChange fnExactDropServiceSpec)

/-- ITS FALSE NEIGHBOUR: 'it returns false'. Refute it at one input. -/
def fnExactDropServiceWrong : ChangeSpec := { name := "fnExactDropService", fn := fun _ => fun
  | [d1, d2] => { results := [.lit (.bool false)], args := [d1, d2] }
  | _ => none }
def FnExactDropServiceWrongFalsely : Prop := fnExactDropServiceRow.holds Try.pinned (OpenSpec.ofChange fnExactDropServiceWrong)

/-- 'laws.FnExactIsTemplate': WHATEVER THE INPUT: true; the input reads as it did. -/
def fnExactIsTemplateSpec : ChangeSpec := { name := "fnExactIsTemplate", fn := fun _ => fun
  | [d] => { results := [.lit (.bool true)], args := [d] }
  | _ => none }
def fnExactIsTemplateRow : OpenClaim := { program := "ytkdchlggdcmkbaa", sum := "0e2816875eccabec4dfe6574120884593915e8e475dc022aab315f103e4108bd", func := "loop.example/g03013/laws.FnExactIsTemplate", spec := "fnExactIsTemplate", unfollowed := true, recurses := true, loops := true, apart := false }
def FnExactIsTemplateSaid : Prop := fnExactIsTemplateRow.holds Try.pinned (OpenSpec.ofChange fnExactIsTemplateSpec)

/-- ITS FALSE NEIGHBOUR: 'it returns false'. Refute it at one input. -/
def fnExactIsTemplateWrong : ChangeSpec := { name := "fnExactIsTemplate", fn := fun _ => fun
  | [d] => { results := [.lit (.bool false)], args := [d] }
  | _ => none }
def FnExactIsTemplateWrongFalsely : Prop := fnExactIsTemplateRow.holds Try.pinned (OpenSpec.ofChange fnExactIsTemplateWrong)

/- THE SECOND FORM. 'bulk': how many values and letters a reading holds, each counted each time it is reached (what is shared counts as often as it is met; a slice's spare places count too). A statement '..UptoSaid' is the law's where the arguments, and the package variables that the reading takes, are together of bulk at most 1048576: NARROWER than '..Said'. Prove '..Said' where nothing that the law and all that it calls make is longer than what came in: it says more and counts as full. Else prove '..UptoSaid'. A law counts once. -/
mutual
def uptoBulk {H : Type} : DataW H → Nat
  | .lit (.string bytes) => bytes.length + 1
  | .lit _ => 1
  | .nil => 1
  | .ptr d => uptoBulk d + 1
  | .slice elems spare => uptoBulkAll elems + uptoBulkAll spare + 1
  | .agg parts => uptoBulkAll parts + 1
  | .iface _ d => uptoBulk d + 1
  | .map entries => uptoBulkEntries entries + 1
  | .held _ => 1
def uptoBulkAll {H : Type} : List (DataW H) → Nat
  | [] => 0
  | d :: r => uptoBulk d + uptoBulkAll r
def uptoBulkEntries {H : Type} : List (Lit × DataW H) → Nat
  | [] => 0
  | x :: r => uptoBulkEntry x + uptoBulkEntries r
def uptoBulkEntry {H : Type} : Lit × DataW H → Nat
  | (.string bytes, d) => bytes.length + uptoBulk d + 1
  | (_, d) => uptoBulk d + 1
 end
def uptoSmall : (H : Type) → List (DataW H) → Bool := fun _ ds => decide (uptoBulkAll ds ≤ 1048576)
def OpenSpec.upto (s : _root_.Go.ChangeSpec) : _root_.Go.OpenSpec := { _root_.Go.OpenSpec.ofChange s with cond := some uptoSmall }

/-- 'laws.FnExactNamesIn', WHERE WHAT IT READS IS OF BULK AT MOST 1048576: true; the input reads as it did. -/
def fnExactNamesInUptoRow : OpenClaim := { program := "ytkdchlggdcmkbaa", sum := "0e2816875eccabec4dfe6574120884593915e8e475dc022aab315f103e4108bd", func := "loop.example/g03013/laws.FnExactNamesIn", spec := "fnExactNamesIn", unfollowed := true, recurses := true, apart := false, narrowed := true }
def FnExactNamesInUptoSaid : Prop := fnExactNamesInUptoRow.holds Try.pinned (OpenSpec.upto fnExactNamesInSpec)

/-- 'laws.FnExactIsRunning', WHERE WHAT IT READS IS OF BULK AT MOST 1048576: true; the input reads as it did. -/
def fnExactIsRunningUptoRow : OpenClaim := { program := "ytkdchlggdcmkbaa", sum := "0e2816875eccabec4dfe6574120884593915e8e475dc022aab315f103e4108bd", func := "loop.example/g03013/laws.FnExactIsRunning", spec := "fnExactIsRunning", recurses := true, loops := true, apart := false, narrowed := true }
def FnExactIsRunningUptoSaid : Prop := fnExactIsRunningUptoRow.holds Try.pinned (OpenSpec.upto fnExactIsRunningSpec)

/-- 'laws.FnExactFillText', WHERE WHAT IT READS IS OF BULK AT MOST 1048576: true; the input reads as it did. -/
def fnExactFillTextUptoRow : OpenClaim := { program := "ytkdchlggdcmkbaa", sum := "0e2816875eccabec4dfe6574120884593915e8e475dc022aab315f103e4108bd", func := "loop.example/g03013/laws.FnExactFillText", spec := "fnExactFillText", unfollowed := true, recurses := true, apart := false, narrowed := true }
def FnExactFillTextUptoSaid : Prop := fnExactFillTextUptoRow.holds Try.pinned (OpenSpec.upto fnExactFillTextSpec)

/-- 'laws.FnExactFindDevice', WHERE WHAT IT READS IS OF BULK AT MOST 1048576: true; the input reads as it did. -/
def fnExactFindDeviceUptoRow : OpenClaim := { program := "ytkdchlggdcmkbaa", sum := "0e2816875eccabec4dfe6574120884593915e8e475dc022aab315f103e4108bd", func := "loop.example/g03013/laws.FnExactFindDevice", spec := "fnExactFindDevice", unfollowed := true, recurses := true, loops := true, apart := false, narrowed := true }
def FnExactFindDeviceUptoSaid : Prop := fnExactFindDeviceUptoRow.holds Try.pinned (OpenSpec.upto fnExactFindDeviceSpec)

/-- 'laws.FnExactDropService', WHERE WHAT IT READS IS OF BULK AT MOST 1048576: true; the input reads as it did. -/
def fnExactDropServiceUptoRow : OpenClaim := { program := "ytkdchlggdcmkbaa", sum := "0e2816875eccabec4dfe6574120884593915e8e475dc022aab315f103e4108bd", func := "loop.example/g03013/laws.FnExactDropService", spec := "fnExactDropService", unfollowed := true, recurses := true, loops := true, apart := false, narrowed := true }
def FnExactDropServiceUptoSaid : Prop := fnExactDropServiceUptoRow.holds Try.pinned (OpenSpec.upto fnExactDropServiceSpec)

/-- 'laws.FnExactIsTemplate', WHERE WHAT IT READS IS OF BULK AT MOST 1048576: true; the input reads as it did. -/
def fnExactIsTemplateUptoRow : OpenClaim := { program := "ytkdchlggdcmkbaa", sum := "0e2816875eccabec4dfe6574120884593915e8e475dc022aab315f103e4108bd", func := "loop.example/g03013/laws.FnExactIsTemplate", spec := "fnExactIsTemplate", unfollowed := true, recurses := true, loops := true, apart := false, narrowed := true }
def FnExactIsTemplateUptoSaid : Prop := fnExactIsTemplateUptoRow.holds Try.pinned (OpenSpec.upto fnExactIsTemplateSpec)

end Rows
end Go.Proofs.Ytkdchlggdcmkbaa
