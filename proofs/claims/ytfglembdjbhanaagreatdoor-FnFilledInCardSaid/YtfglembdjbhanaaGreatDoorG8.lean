/-
  Part of a proof: TysTry.
-/
import Derived.Test.YtfglembdjbhanaaGreatDoorProg
import Derived.KernelRfl
import Derived.Test.YtfglembdjbhanaaGreatDoorG1
set_option linter.unusedSimpArgs false
set_option linter.unusedVariables false
namespace Go.Proofs.YtfglembdjbhanaaGreatDoor
open Go.Ab
instance : MixOK Tryz.prog := ⟨by kernel_rfl⟩
@[go_sem] theorem ty_2 : ty Tryz.prog 2 = some (false, 1) := by kernel_rfl
@[go_sem] theorem zer_2 : zer Tryz.prog 2 = some [.int .i64 0] := by kernel_rfl
@[go_sem] theorem ik_2 : ikd Tryz.prog 2 = some .i64 := by kernel_rfl
@[go_sem] theorem hu_2 : hasU Tryz.prog 2 = true := by kernel_rfl
@[go_sem] theorem ty_3 : ty Tryz.prog 3 = some (false, 1) := by kernel_rfl
@[go_sem] theorem zer_3 : zer Tryz.prog 3 = some [.int .i64 0] := by kernel_rfl
@[go_sem] theorem ik_3 : ikd Tryz.prog 3 = some .i64 := by kernel_rfl
@[go_sem] theorem hu_3 : hasU Tryz.prog 3 = true := by kernel_rfl
@[go_sem] theorem ty_4 : ty Tryz.prog 4 = some (false, 1) := by kernel_rfl
@[go_sem] theorem zer_4 : zer Tryz.prog 4 = some [.bool false] := by kernel_rfl
@[go_sem] theorem hu_4 : hasU Tryz.prog 4 = true := by kernel_rfl
@[go_sem] theorem isB_4 : isB Tryz.prog 4 = true := by kernel_rfl
@[go_sem] theorem ty_5 : ty Tryz.prog 5 = some (false, 1) := by kernel_rfl
@[go_sem] theorem zer_5 : zer Tryz.prog 5 = some [.int .u8 0] := by kernel_rfl
@[go_sem] theorem ik_5 : ikd Tryz.prog 5 = some .u8 := by kernel_rfl
@[go_sem] theorem hu_5 : hasU Tryz.prog 5 = true := by kernel_rfl
@[go_sem] theorem ty_9 : ty Tryz.prog 9 = some (false, 1) := by kernel_rfl
@[go_sem] theorem zer_9 : zer Tryz.prog 9 = some [.string ⟨([] : List UInt8).toArray⟩] := by kernel_rfl
@[go_sem] theorem hu_9 : hasU Tryz.prog 9 = true := by kernel_rfl
@[go_sem] theorem knd_9 : knd Tryz.prog 9 = some true := by kernel_rfl
@[go_sem] theorem ty_22 : ty Tryz.prog 22 = some (false, 1) := by kernel_rfl
@[go_sem] theorem zer_22 : zer Tryz.prog 22 = some [.slice none 0 0] := by kernel_rfl
@[go_sem] theorem hu_22 : hasU Tryz.prog 22 = true := by kernel_rfl
@[go_sem] theorem by_22 : byS Tryz.prog 22 = true := by kernel_rfl
@[go_sem] theorem knd_22 : knd Tryz.prog 22 = some false := by kernel_rfl
@[go_sem] theorem elm_22 : elm Tryz.prog 22 = some (5, 1, 1) := by kernel_rfl
@[go_sem] theorem ty_24 : ty Tryz.prog 24 = some (false, 1) := by kernel_rfl
@[go_sem] theorem zer_24 : zer Tryz.prog 24 = some [.slice none 0 0] := by kernel_rfl
@[go_sem] theorem hu_24 : hasU Tryz.prog 24 = true := by kernel_rfl
@[go_sem] theorem by_24 : byS Tryz.prog 24 = false := by kernel_rfl
@[go_sem] theorem knd_24 : knd Tryz.prog 24 = some false := by kernel_rfl
@[go_sem] theorem elm_24 : elm Tryz.prog 24 = some (47, 6, 104) := by kernel_rfl
@[go_sem] theorem ty_25 : ty Tryz.prog 25 = some (false, 1) := by kernel_rfl
@[go_sem] theorem zer_25 : zer Tryz.prog 25 = some [.slice none 0 0] := by kernel_rfl
@[go_sem] theorem hu_25 : hasU Tryz.prog 25 = true := by kernel_rfl
@[go_sem] theorem by_25 : byS Tryz.prog 25 = false := by kernel_rfl
@[go_sem] theorem knd_25 : knd Tryz.prog 25 = some false := by kernel_rfl
@[go_sem] theorem elm_25 : elm Tryz.prog 25 = some (94, 3, 56) := by kernel_rfl
@[go_sem] theorem ty_27 : ty Tryz.prog 27 = some (true, 3) := by kernel_rfl
@[go_sem] theorem zer_27 : zer Tryz.prog 27 = some [.string ⟨([] : List UInt8).toArray⟩, .slice none 0 0, .slice none 0 0] := by kernel_rfl
@[go_sem] theorem hu_27 : hasU Tryz.prog 27 = true := by kernel_rfl
@[go_sem] theorem fld_27_0 : fld Tryz.prog 27 0 = some (0, false, 1) := by kernel_rfl
@[go_sem] theorem fld_27_1 : fld Tryz.prog 27 1 = some (1, false, 1) := by kernel_rfl
@[go_sem] theorem fld_27_2 : fld Tryz.prog 27 2 = some (2, false, 1) := by kernel_rfl
@[go_sem] theorem plc_27 : plc Tryz.prog 27 = some ([(0, 1), (1, 1), (2, 1)], [.string ⟨([] : List UInt8).toArray⟩, .slice none 0 0, .slice none 0 0]) := by kernel_rfl
@[go_sem] theorem ty_28 : ty Tryz.prog 28 = some (false, 1) := by kernel_rfl
@[go_sem] theorem zer_28 : zer Tryz.prog 28 = some [.slice none 0 0] := by kernel_rfl
@[go_sem] theorem hu_28 : hasU Tryz.prog 28 = true := by kernel_rfl
@[go_sem] theorem by_28 : byS Tryz.prog 28 = false := by kernel_rfl
@[go_sem] theorem knd_28 : knd Tryz.prog 28 = some false := by kernel_rfl
@[go_sem] theorem elm_28 : elm Tryz.prog 28 = some (41, 2, 32) := by kernel_rfl
@[go_sem] theorem ty_37 : ty Tryz.prog 37 = some (false, 1) := by kernel_rfl
@[go_sem] theorem zer_37 : zer Tryz.prog 37 = some [.slice none 0 0] := by kernel_rfl
@[go_sem] theorem hu_37 : hasU Tryz.prog 37 = true := by kernel_rfl
@[go_sem] theorem by_37 : byS Tryz.prog 37 = false := by kernel_rfl
@[go_sem] theorem knd_37 : knd Tryz.prog 37 = some false := by kernel_rfl
@[go_sem] theorem elm_37 : elm Tryz.prog 37 = some (9, 1, 16) := by kernel_rfl
@[go_sem] theorem ty_41 : ty Tryz.prog 41 = some (true, 2) := by kernel_rfl
@[go_sem] theorem zer_41 : zer Tryz.prog 41 = some [.string ⟨([] : List UInt8).toArray⟩, .string ⟨([] : List UInt8).toArray⟩] := by kernel_rfl
@[go_sem] theorem hu_41 : hasU Tryz.prog 41 = true := by kernel_rfl
@[go_sem] theorem fld_41_0 : fld Tryz.prog 41 0 = some (0, false, 1) := by kernel_rfl
@[go_sem] theorem fld_41_1 : fld Tryz.prog 41 1 = some (1, false, 1) := by kernel_rfl
@[go_sem] theorem plc_41 : plc Tryz.prog 41 = some ([(0, 1), (1, 1)], [.string ⟨([] : List UInt8).toArray⟩, .string ⟨([] : List UInt8).toArray⟩]) := by kernel_rfl
@[go_sem] theorem ty_43 : ty Tryz.prog 43 = some (false, 1) := by kernel_rfl
@[go_sem] theorem zer_43 : zer Tryz.prog 43 = some [.slice none 0 0] := by kernel_rfl
@[go_sem] theorem hu_43 : hasU Tryz.prog 43 = true := by kernel_rfl
@[go_sem] theorem by_43 : byS Tryz.prog 43 = false := by kernel_rfl
@[go_sem] theorem knd_43 : knd Tryz.prog 43 = some false := by kernel_rfl
@[go_sem] theorem elm_43 : elm Tryz.prog 43 = some (110, 2, 16) := by kernel_rfl
@[go_sem] theorem ty_45 : ty Tryz.prog 45 = some (true, 5) := by kernel_rfl
@[go_sem] theorem zer_45 : zer Tryz.prog 45 = some [.int .i64 0, .slice none 0 0, .slice none 0 0, .string ⟨([] : List UInt8).toArray⟩, .string ⟨([] : List UInt8).toArray⟩] := by kernel_rfl
@[go_sem] theorem hu_45 : hasU Tryz.prog 45 = true := by kernel_rfl
@[go_sem] theorem fld_45_0 : fld Tryz.prog 45 0 = some (0, false, 1) := by kernel_rfl
@[go_sem] theorem fld_45_1 : fld Tryz.prog 45 1 = some (1, false, 1) := by kernel_rfl
@[go_sem] theorem fld_45_2 : fld Tryz.prog 45 2 = some (2, false, 1) := by kernel_rfl
@[go_sem] theorem fld_45_3 : fld Tryz.prog 45 3 = some (3, false, 1) := by kernel_rfl
@[go_sem] theorem fld_45_4 : fld Tryz.prog 45 4 = some (4, false, 1) := by kernel_rfl
@[go_sem] theorem plc_45 : plc Tryz.prog 45 = some ([(0, 1), (1, 1), (2, 1), (3, 1), (4, 1)], [.int .i64 0, .slice none 0 0, .slice none 0 0, .string ⟨([] : List UInt8).toArray⟩, .string ⟨([] : List UInt8).toArray⟩]) := by kernel_rfl
@[go_sem] theorem ty_47 : ty Tryz.prog 47 = some (true, 6) := by kernel_rfl
@[go_sem] theorem zer_47 : zer Tryz.prog 47 = some [.string ⟨([] : List UInt8).toArray⟩, .int .i64 0, .slice none 0 0, .slice none 0 0, .string ⟨([] : List UInt8).toArray⟩, .string ⟨([] : List UInt8).toArray⟩] := by kernel_rfl
@[go_sem] theorem hu_47 : hasU Tryz.prog 47 = true := by kernel_rfl
@[go_sem] theorem fld_47_0 : fld Tryz.prog 47 0 = some (0, false, 1) := by kernel_rfl
@[go_sem] theorem fld_47_1 : fld Tryz.prog 47 1 = some (1, true, 5) := by kernel_rfl
@[go_sem] theorem plc_47 : plc Tryz.prog 47 = some ([(0, 1), (1, 5)], [.string ⟨([] : List UInt8).toArray⟩, .int .i64 0, .slice none 0 0, .slice none 0 0, .string ⟨([] : List UInt8).toArray⟩, .string ⟨([] : List UInt8).toArray⟩]) := by kernel_rfl
@[go_sem] theorem ty_50 : ty Tryz.prog 50 = some (false, 1) := by kernel_rfl
@[go_sem] theorem zer_50 : zer Tryz.prog 50 = some [.slice none 0 0] := by kernel_rfl
@[go_sem] theorem hu_50 : hasU Tryz.prog 50 = true := by kernel_rfl
@[go_sem] theorem by_50 : byS Tryz.prog 50 = false := by kernel_rfl
@[go_sem] theorem knd_50 : knd Tryz.prog 50 = some false := by kernel_rfl
@[go_sem] theorem elm_50 : elm Tryz.prog 50 = some (132, 6, 104) := by kernel_rfl
@[go_sem] theorem ty_51 : ty Tryz.prog 51 = some (false, 1) := by kernel_rfl
@[go_sem] theorem zer_51 : zer Tryz.prog 51 = some [.slice none 0 0] := by kernel_rfl
@[go_sem] theorem hu_51 : hasU Tryz.prog 51 = true := by kernel_rfl
@[go_sem] theorem by_51 : byS Tryz.prog 51 = false := by kernel_rfl
@[go_sem] theorem knd_51 : knd Tryz.prog 51 = some false := by kernel_rfl
@[go_sem] theorem elm_51 : elm Tryz.prog 51 = some (135, 3, 56) := by kernel_rfl
@[go_sem] theorem ty_53 : ty Tryz.prog 53 = some (true, 3) := by kernel_rfl
@[go_sem] theorem zer_53 : zer Tryz.prog 53 = some [.string ⟨([] : List UInt8).toArray⟩, .slice none 0 0, .slice none 0 0] := by kernel_rfl
@[go_sem] theorem hu_53 : hasU Tryz.prog 53 = true := by kernel_rfl
@[go_sem] theorem fld_53_0 : fld Tryz.prog 53 0 = some (0, false, 1) := by kernel_rfl
@[go_sem] theorem fld_53_1 : fld Tryz.prog 53 1 = some (1, false, 1) := by kernel_rfl
@[go_sem] theorem fld_53_2 : fld Tryz.prog 53 2 = some (2, false, 1) := by kernel_rfl
@[go_sem] theorem plc_53 : plc Tryz.prog 53 = some ([(0, 1), (1, 1), (2, 1)], [.string ⟨([] : List UInt8).toArray⟩, .slice none 0 0, .slice none 0 0]) := by kernel_rfl
@[go_sem] theorem ty_54 : ty Tryz.prog 54 = some (false, 1) := by kernel_rfl
@[go_sem] theorem zer_54 : zer Tryz.prog 54 = some [.slice none 0 0] := by kernel_rfl
@[go_sem] theorem hu_54 : hasU Tryz.prog 54 = true := by kernel_rfl
@[go_sem] theorem by_54 : byS Tryz.prog 54 = false := by kernel_rfl
@[go_sem] theorem knd_54 : knd Tryz.prog 54 = some false := by kernel_rfl
@[go_sem] theorem elm_54 : elm Tryz.prog 54 = some (98, 2, 32) := by kernel_rfl
@[go_sem] theorem ty_66 : ty Tryz.prog 66 = some (false, 1) := by kernel_rfl
@[go_sem] theorem zer_66 : zer Tryz.prog 66 = some [.pointer none] := by kernel_rfl
@[go_sem] theorem hu_66 : hasU Tryz.prog 66 = true := by kernel_rfl
@[go_sem] theorem ty_94 : ty Tryz.prog 94 = some (true, 3) := by kernel_rfl
@[go_sem] theorem zer_94 : zer Tryz.prog 94 = some [.string ⟨([] : List UInt8).toArray⟩, .string ⟨([] : List UInt8).toArray⟩, .slice none 0 0] := by kernel_rfl
@[go_sem] theorem hu_94 : hasU Tryz.prog 94 = true := by kernel_rfl
@[go_sem] theorem fld_94_0 : fld Tryz.prog 94 0 = some (0, false, 1) := by kernel_rfl
@[go_sem] theorem fld_94_1 : fld Tryz.prog 94 1 = some (1, false, 1) := by kernel_rfl
@[go_sem] theorem fld_94_2 : fld Tryz.prog 94 2 = some (2, false, 1) := by kernel_rfl
@[go_sem] theorem plc_94 : plc Tryz.prog 94 = some ([(0, 1), (1, 1), (2, 1)], [.string ⟨([] : List UInt8).toArray⟩, .string ⟨([] : List UInt8).toArray⟩, .slice none 0 0]) := by kernel_rfl
@[go_sem] theorem ty_98 : ty Tryz.prog 98 = some (true, 2) := by kernel_rfl
@[go_sem] theorem zer_98 : zer Tryz.prog 98 = some [.string ⟨([] : List UInt8).toArray⟩, .string ⟨([] : List UInt8).toArray⟩] := by kernel_rfl
@[go_sem] theorem hu_98 : hasU Tryz.prog 98 = true := by kernel_rfl
@[go_sem] theorem fld_98_0 : fld Tryz.prog 98 0 = some (0, false, 1) := by kernel_rfl
@[go_sem] theorem fld_98_1 : fld Tryz.prog 98 1 = some (1, false, 1) := by kernel_rfl
@[go_sem] theorem plc_98 : plc Tryz.prog 98 = some ([(0, 1), (1, 1)], [.string ⟨([] : List UInt8).toArray⟩, .string ⟨([] : List UInt8).toArray⟩]) := by kernel_rfl
@[go_sem] theorem ty_108 : ty Tryz.prog 108 = some (true, 3) := by kernel_rfl
@[go_sem] theorem zer_108 : zer Tryz.prog 108 = some [.slice none 0 0, .int .i64 0, .int .i64 0] := by kernel_rfl
@[go_sem] theorem hu_108 : hasU Tryz.prog 108 = true := by kernel_rfl
@[go_sem] theorem fld_108_0 : fld Tryz.prog 108 0 = some (0, false, 1) := by kernel_rfl
@[go_sem] theorem fld_108_1 : fld Tryz.prog 108 1 = some (1, false, 1) := by kernel_rfl
@[go_sem] theorem fld_108_2 : fld Tryz.prog 108 2 = some (2, false, 1) := by kernel_rfl
@[go_sem] theorem plc_108 : plc Tryz.prog 108 = some ([(0, 1), (1, 1), (2, 1)], [.slice none 0 0, .int .i64 0, .int .i64 0]) := by kernel_rfl
@[go_sem] theorem ty_110 : ty Tryz.prog 110 = some (true, 2) := by kernel_rfl
@[go_sem] theorem zer_110 : zer Tryz.prog 110 = some [.int .i64 0, .int .i64 0] := by kernel_rfl
@[go_sem] theorem hu_110 : hasU Tryz.prog 110 = true := by kernel_rfl
@[go_sem] theorem fld_110_0 : fld Tryz.prog 110 0 = some (0, false, 1) := by kernel_rfl
@[go_sem] theorem fld_110_1 : fld Tryz.prog 110 1 = some (1, false, 1) := by kernel_rfl
@[go_sem] theorem plc_110 : plc Tryz.prog 110 = some ([(0, 1), (1, 1)], [.int .i64 0, .int .i64 0]) := by kernel_rfl
@[go_sem] theorem ty_121 : ty Tryz.prog 121 = some (false, 1) := by kernel_rfl
@[go_sem] theorem zer_121 : zer Tryz.prog 121 = some [.slice none 0 0] := by kernel_rfl
@[go_sem] theorem hu_121 : hasU Tryz.prog 121 = true := by kernel_rfl
@[go_sem] theorem by_121 : byS Tryz.prog 121 = false := by kernel_rfl
@[go_sem] theorem knd_121 : knd Tryz.prog 121 = some false := by kernel_rfl
@[go_sem] theorem elm_121 : elm Tryz.prog 121 = some (123, 3, 48) := by kernel_rfl
@[go_sem] theorem ty_123 : ty Tryz.prog 123 = some (true, 3) := by kernel_rfl
@[go_sem] theorem zer_123 : zer Tryz.prog 123 = some [.int .i64 0, .string ⟨([] : List UInt8).toArray⟩, .slice none 0 0] := by kernel_rfl
@[go_sem] theorem hu_123 : hasU Tryz.prog 123 = true := by kernel_rfl
@[go_sem] theorem fld_123_0 : fld Tryz.prog 123 0 = some (0, false, 1) := by kernel_rfl
@[go_sem] theorem fld_123_1 : fld Tryz.prog 123 1 = some (1, false, 1) := by kernel_rfl
@[go_sem] theorem fld_123_2 : fld Tryz.prog 123 2 = some (2, false, 1) := by kernel_rfl
@[go_sem] theorem plc_123 : plc Tryz.prog 123 = some ([(0, 1), (1, 1), (2, 1)], [.int .i64 0, .string ⟨([] : List UInt8).toArray⟩, .slice none 0 0]) := by kernel_rfl
@[go_sem] theorem ty_128 : ty Tryz.prog 128 = some (false, 1) := by kernel_rfl
@[go_sem] theorem zer_128 : zer Tryz.prog 128 = some [.slice none 0 0] := by kernel_rfl
@[go_sem] theorem hu_128 : hasU Tryz.prog 128 = true := by kernel_rfl
@[go_sem] theorem by_128 : byS Tryz.prog 128 = false := by kernel_rfl
@[go_sem] theorem knd_128 : knd Tryz.prog 128 = some false := by kernel_rfl
@[go_sem] theorem elm_128 : elm Tryz.prog 128 = some (169, 2, 16) := by kernel_rfl
@[go_sem] theorem ty_130 : ty Tryz.prog 130 = some (true, 5) := by kernel_rfl
@[go_sem] theorem zer_130 : zer Tryz.prog 130 = some [.int .i64 0, .slice none 0 0, .slice none 0 0, .string ⟨([] : List UInt8).toArray⟩, .string ⟨([] : List UInt8).toArray⟩] := by kernel_rfl
@[go_sem] theorem hu_130 : hasU Tryz.prog 130 = true := by kernel_rfl
@[go_sem] theorem fld_130_0 : fld Tryz.prog 130 0 = some (0, false, 1) := by kernel_rfl
@[go_sem] theorem fld_130_1 : fld Tryz.prog 130 1 = some (1, false, 1) := by kernel_rfl
@[go_sem] theorem fld_130_2 : fld Tryz.prog 130 2 = some (2, false, 1) := by kernel_rfl
@[go_sem] theorem fld_130_3 : fld Tryz.prog 130 3 = some (3, false, 1) := by kernel_rfl
@[go_sem] theorem fld_130_4 : fld Tryz.prog 130 4 = some (4, false, 1) := by kernel_rfl
@[go_sem] theorem plc_130 : plc Tryz.prog 130 = some ([(0, 1), (1, 1), (2, 1), (3, 1), (4, 1)], [.int .i64 0, .slice none 0 0, .slice none 0 0, .string ⟨([] : List UInt8).toArray⟩, .string ⟨([] : List UInt8).toArray⟩]) := by kernel_rfl
@[go_sem] theorem ty_132 : ty Tryz.prog 132 = some (true, 6) := by kernel_rfl
@[go_sem] theorem zer_132 : zer Tryz.prog 132 = some [.string ⟨([] : List UInt8).toArray⟩, .int .i64 0, .slice none 0 0, .slice none 0 0, .string ⟨([] : List UInt8).toArray⟩, .string ⟨([] : List UInt8).toArray⟩] := by kernel_rfl
@[go_sem] theorem hu_132 : hasU Tryz.prog 132 = true := by kernel_rfl
@[go_sem] theorem fld_132_0 : fld Tryz.prog 132 0 = some (0, false, 1) := by kernel_rfl
@[go_sem] theorem fld_132_1 : fld Tryz.prog 132 1 = some (1, true, 5) := by kernel_rfl
@[go_sem] theorem plc_132 : plc Tryz.prog 132 = some ([(0, 1), (1, 5)], [.string ⟨([] : List UInt8).toArray⟩, .int .i64 0, .slice none 0 0, .slice none 0 0, .string ⟨([] : List UInt8).toArray⟩, .string ⟨([] : List UInt8).toArray⟩]) := by kernel_rfl
@[go_sem] theorem ty_135 : ty Tryz.prog 135 = some (true, 3) := by kernel_rfl
@[go_sem] theorem zer_135 : zer Tryz.prog 135 = some [.string ⟨([] : List UInt8).toArray⟩, .string ⟨([] : List UInt8).toArray⟩, .slice none 0 0] := by kernel_rfl
@[go_sem] theorem hu_135 : hasU Tryz.prog 135 = true := by kernel_rfl
@[go_sem] theorem fld_135_0 : fld Tryz.prog 135 0 = some (0, false, 1) := by kernel_rfl
@[go_sem] theorem fld_135_1 : fld Tryz.prog 135 1 = some (1, false, 1) := by kernel_rfl
@[go_sem] theorem fld_135_2 : fld Tryz.prog 135 2 = some (2, false, 1) := by kernel_rfl
@[go_sem] theorem plc_135 : plc Tryz.prog 135 = some ([(0, 1), (1, 1), (2, 1)], [.string ⟨([] : List UInt8).toArray⟩, .string ⟨([] : List UInt8).toArray⟩, .slice none 0 0]) := by kernel_rfl
@[go_sem] theorem ty_141 : ty Tryz.prog 141 = some (false, 1) := by kernel_rfl
@[go_sem] theorem zer_141 : zer Tryz.prog 141 = some [.int .u64 0] := by kernel_rfl
@[go_sem] theorem ik_141 : ikd Tryz.prog 141 = some .u64 := by kernel_rfl
@[go_sem] theorem hu_141 : hasU Tryz.prog 141 = true := by kernel_rfl
@[go_sem] theorem ty_143 : ty Tryz.prog 143 = some (false, 1) := by kernel_rfl
@[go_sem] theorem zer_143 : zer Tryz.prog 143 = some [.pointer none] := by kernel_rfl
@[go_sem] theorem hu_143 : hasU Tryz.prog 143 = true := by kernel_rfl
@[go_sem] theorem ty_145 : ty Tryz.prog 145 = some (true, 3) := by kernel_rfl
@[go_sem] theorem zer_145 : zer Tryz.prog 145 = some [.string ⟨([] : List UInt8).toArray⟩, .int .i64 0, .bool false] := by kernel_rfl
@[go_sem] theorem hu_145 : hasU Tryz.prog 145 = true := by kernel_rfl
@[go_sem] theorem fld_145_0 : fld Tryz.prog 145 0 = some (0, false, 1) := by kernel_rfl
@[go_sem] theorem fld_145_1 : fld Tryz.prog 145 1 = some (1, false, 1) := by kernel_rfl
@[go_sem] theorem fld_145_2 : fld Tryz.prog 145 2 = some (2, false, 1) := by kernel_rfl
@[go_sem] theorem plc_145 : plc Tryz.prog 145 = some ([(0, 1), (1, 1), (2, 1)], [.string ⟨([] : List UInt8).toArray⟩, .int .i64 0, .bool false]) := by kernel_rfl
@[go_sem] theorem ty_147 : ty Tryz.prog 147 = some (false, 1) := by kernel_rfl
@[go_sem] theorem zer_147 : zer Tryz.prog 147 = some [.slice none 0 0] := by kernel_rfl
@[go_sem] theorem hu_147 : hasU Tryz.prog 147 = true := by kernel_rfl
@[go_sem] theorem by_147 : byS Tryz.prog 147 = false := by kernel_rfl
@[go_sem] theorem knd_147 : knd Tryz.prog 147 = some false := by kernel_rfl
@[go_sem] theorem elm_147 : elm Tryz.prog 147 = some (4, 1, 1) := by kernel_rfl
@[go_sem] theorem ty_153 : ty Tryz.prog 153 = some (false, 1) := by kernel_rfl
@[go_sem] theorem zer_153 : zer Tryz.prog 153 = some [.pointer none] := by kernel_rfl
@[go_sem] theorem hu_153 : hasU Tryz.prog 153 = true := by kernel_rfl
@[go_sem] theorem ty_155 : ty Tryz.prog 155 = some (true, 3) := by kernel_rfl
@[go_sem] theorem zer_155 : zer Tryz.prog 155 = some [.string ⟨([] : List UInt8).toArray⟩, .int .i64 0, .bool false] := by kernel_rfl
@[go_sem] theorem hu_155 : hasU Tryz.prog 155 = true := by kernel_rfl
@[go_sem] theorem fld_155_0 : fld Tryz.prog 155 0 = some (0, false, 1) := by kernel_rfl
@[go_sem] theorem fld_155_1 : fld Tryz.prog 155 1 = some (1, false, 1) := by kernel_rfl
@[go_sem] theorem fld_155_2 : fld Tryz.prog 155 2 = some (2, false, 1) := by kernel_rfl
@[go_sem] theorem plc_155 : plc Tryz.prog 155 = some ([(0, 1), (1, 1), (2, 1)], [.string ⟨([] : List UInt8).toArray⟩, .int .i64 0, .bool false]) := by kernel_rfl
@[go_sem] theorem ty_169 : ty Tryz.prog 169 = some (true, 2) := by kernel_rfl
@[go_sem] theorem zer_169 : zer Tryz.prog 169 = some [.int .i64 0, .int .i64 0] := by kernel_rfl
@[go_sem] theorem hu_169 : hasU Tryz.prog 169 = true := by kernel_rfl
@[go_sem] theorem fld_169_0 : fld Tryz.prog 169 0 = some (0, false, 1) := by kernel_rfl
@[go_sem] theorem fld_169_1 : fld Tryz.prog 169 1 = some (1, false, 1) := by kernel_rfl
@[go_sem] theorem plc_169 : plc Tryz.prog 169 = some ([(0, 1), (1, 1)], [.int .i64 0, .int .i64 0]) := by kernel_rfl
@[go_sem] theorem ty_172 : ty Tryz.prog 172 = some (false, 1) := by kernel_rfl
@[go_sem] theorem zer_172 : zer Tryz.prog 172 = some [.int .u64 0] := by kernel_rfl
@[go_sem] theorem ik_172 : ikd Tryz.prog 172 = some .u64 := by kernel_rfl
@[go_sem] theorem hu_172 : hasU Tryz.prog 172 = true := by kernel_rfl
@[go_sem] theorem ty_181 : ty Tryz.prog 181 = some (false, 1) := by kernel_rfl
@[go_sem] theorem zer_181 : zer Tryz.prog 181 = some [.int .u32 0] := by kernel_rfl
@[go_sem] theorem ik_181 : ikd Tryz.prog 181 = some .u32 := by kernel_rfl
@[go_sem] theorem hu_181 : hasU Tryz.prog 181 = true := by kernel_rfl
theorem en3 : enters Tryz.prog 3 = true := by kernel_rfl
theorem en5 : enters Tryz.prog 5 = true := by kernel_rfl
theorem en6 : enters Tryz.prog 6 = true := by kernel_rfl
theorem en7 : enters Tryz.prog 7 = true := by kernel_rfl
theorem en8 : enters Tryz.prog 8 = true := by kernel_rfl
theorem en9 : enters Tryz.prog 9 = true := by kernel_rfl
theorem en10 : enters Tryz.prog 10 = true := by kernel_rfl
theorem en11 : enters Tryz.prog 11 = true := by kernel_rfl
theorem en12 : enters Tryz.prog 12 = true := by kernel_rfl
theorem en13 : enters Tryz.prog 13 = true := by kernel_rfl
theorem en26 : enters Tryz.prog 26 = true := by kernel_rfl
theorem en27 : enters Tryz.prog 27 = true := by kernel_rfl
theorem en28 : enters Tryz.prog 28 = true := by kernel_rfl
theorem en29 : enters Tryz.prog 29 = true := by kernel_rfl
theorem en30 : enters Tryz.prog 30 = true := by kernel_rfl
theorem en31 : enters Tryz.prog 31 = true := by kernel_rfl
theorem en32 : enters Tryz.prog 32 = true := by kernel_rfl
theorem en33 : enters Tryz.prog 33 = true := by kernel_rfl
theorem en34 : enters Tryz.prog 34 = true := by kernel_rfl
theorem en35 : enters Tryz.prog 35 = true := by kernel_rfl
theorem en36 : enters Tryz.prog 36 = true := by kernel_rfl
theorem en37 : enters Tryz.prog 37 = true := by kernel_rfl
theorem en38 : enters Tryz.prog 38 = true := by kernel_rfl
theorem en39 : enters Tryz.prog 39 = true := by kernel_rfl
theorem en40 : enters Tryz.prog 40 = true := by kernel_rfl
theorem en41 : enters Tryz.prog 41 = true := by kernel_rfl
theorem en42 : enters Tryz.prog 42 = true := by kernel_rfl
theorem en43 : enters Tryz.prog 43 = true := by kernel_rfl
theorem en44 : enters Tryz.prog 44 = true := by kernel_rfl
theorem en45 : enters Tryz.prog 45 = true := by kernel_rfl
theorem en46 : enters Tryz.prog 46 = true := by kernel_rfl
theorem en47 : enters Tryz.prog 47 = true := by kernel_rfl
theorem en48 : enters Tryz.prog 48 = true := by kernel_rfl
theorem en49 : enters Tryz.prog 49 = true := by kernel_rfl
theorem en50 : enters Tryz.prog 50 = true := by kernel_rfl
theorem en51 : enters Tryz.prog 51 = true := by kernel_rfl
theorem en52 : enters Tryz.prog 52 = true := by kernel_rfl
theorem en53 : enters Tryz.prog 53 = true := by kernel_rfl
theorem en54 : enters Tryz.prog 54 = true := by kernel_rfl
theorem en55 : enters Tryz.prog 55 = true := by kernel_rfl
theorem en56 : enters Tryz.prog 56 = true := by kernel_rfl
theorem en70 : enters Tryz.prog 70 = true := by kernel_rfl
theorem en71 : enters Tryz.prog 71 = true := by kernel_rfl
theorem en72 : enters Tryz.prog 72 = true := by kernel_rfl
theorem en73 : enters Tryz.prog 73 = true := by kernel_rfl
theorem en74 : enters Tryz.prog 74 = true := by kernel_rfl
theorem en75 : enters Tryz.prog 75 = true := by kernel_rfl
theorem en76 : enters Tryz.prog 76 = true := by kernel_rfl
theorem en77 : enters Tryz.prog 77 = true := by kernel_rfl
theorem en78 : enters Tryz.prog 78 = true := by kernel_rfl
theorem en79 : enters Tryz.prog 79 = true := by kernel_rfl
theorem en80 : enters Tryz.prog 80 = true := by kernel_rfl
theorem en81 : enters Tryz.prog 81 = true := by kernel_rfl
theorem en82 : enters Tryz.prog 82 = true := by kernel_rfl
theorem en83 : enters Tryz.prog 83 = true := by kernel_rfl
theorem en84 : enters Tryz.prog 84 = true := by kernel_rfl
theorem en85 : enters Tryz.prog 85 = true := by kernel_rfl
theorem en86 : enters Tryz.prog 86 = true := by kernel_rfl
theorem en87 : enters Tryz.prog 87 = true := by kernel_rfl
theorem en88 : enters Tryz.prog 88 = true := by kernel_rfl
theorem en89 : enters Tryz.prog 89 = true := by kernel_rfl
theorem en90 : enters Tryz.prog 90 = true := by kernel_rfl
theorem en91 : enters Tryz.prog 91 = true := by kernel_rfl
theorem en92 : enters Tryz.prog 92 = true := by kernel_rfl
theorem en93 : enters Tryz.prog 93 = true := by kernel_rfl
theorem en94 : enters Tryz.prog 94 = true := by kernel_rfl
theorem en95 : enters Tryz.prog 95 = true := by kernel_rfl
theorem en104 : enters Tryz.prog 104 = true := by kernel_rfl
theorem en105 : enters Tryz.prog 105 = true := by kernel_rfl
theorem en106 : enters Tryz.prog 106 = true := by kernel_rfl
theorem en107 : enters Tryz.prog 107 = true := by kernel_rfl
theorem en108 : enters Tryz.prog 108 = true := by kernel_rfl
theorem en109 : enters Tryz.prog 109 = true := by kernel_rfl
theorem en110 : enters Tryz.prog 110 = true := by kernel_rfl
theorem en111 : enters Tryz.prog 111 = true := by kernel_rfl
theorem en112 : enters Tryz.prog 112 = true := by kernel_rfl
theorem en113 : enters Tryz.prog 113 = true := by kernel_rfl
theorem en114 : enters Tryz.prog 114 = true := by kernel_rfl
theorem en115 : enters Tryz.prog 115 = true := by kernel_rfl
theorem en116 : enters Tryz.prog 116 = true := by kernel_rfl
theorem en120 : enters Tryz.prog 120 = true := by kernel_rfl
theorem en122 : enters Tryz.prog 122 = true := by kernel_rfl
theorem en123 : enters Tryz.prog 123 = true := by kernel_rfl
theorem en124 : enters Tryz.prog 124 = true := by kernel_rfl
theorem en125 : enters Tryz.prog 125 = true := by kernel_rfl
theorem en126 : enters Tryz.prog 126 = true := by kernel_rfl
theorem en127 : enters Tryz.prog 127 = true := by kernel_rfl
theorem en128 : enters Tryz.prog 128 = true := by kernel_rfl
theorem en136 : enters Tryz.prog 136 = true := by kernel_rfl
theorem en137 : enters Tryz.prog 137 = true := by kernel_rfl
theorem en138 : enters Tryz.prog 138 = true := by kernel_rfl
theorem en139 : enters Tryz.prog 139 = true := by kernel_rfl
theorem en140 : enters Tryz.prog 140 = true := by kernel_rfl
theorem en141 : enters Tryz.prog 141 = true := by kernel_rfl
theorem en148 : enters Tryz.prog 148 = true := by kernel_rfl
theorem en150 : enters Tryz.prog 150 = true := by kernel_rfl
theorem en151 : enters Tryz.prog 151 = true := by kernel_rfl
theorem en157 : enters Tryz.prog 157 = true := by kernel_rfl
theorem en158 : enters Tryz.prog 158 = true := by kernel_rfl
theorem en160 : enters Tryz.prog 160 = true := by kernel_rfl
theorem en163 : enters Tryz.prog 163 = true := by kernel_rfl
theorem en164 : enters Tryz.prog 164 = true := by kernel_rfl
theorem en165 : enters Tryz.prog 165 = true := by kernel_rfl
end Go.Proofs.YtfglembdjbhanaaGreatDoor
