/-
  Part of a proof: TysTry.
-/
import Derived.Test.YtkdchlggdcmkbaaGreatProg
import Derived.KernelRfl
import Derived.Test.YtkdchlggdcmkbaaGreatG2
set_option linter.unusedSimpArgs false
set_option linter.unusedVariables false
namespace Go.Proofs.YtkdchlggdcmkbaaGreat
open Go.Ab
@[go_sem] theorem ty_3 : ty Tryz.prog 3 = some (false, 1) := by kernel_rfl
@[go_sem] theorem zer_3 : zer Tryz.prog 3 = some [.int .i64 0] := by kernel_rfl
@[go_sem] theorem ik_3 : ikd Tryz.prog 3 = some .i64 := by kernel_rfl
@[go_sem] theorem hu_3 : hasU Tryz.prog 3 = true := by kernel_rfl
@[go_sem] theorem ty_4 : ty Tryz.prog 4 = some (false, 1) := by kernel_rfl
@[go_sem] theorem zer_4 : zer Tryz.prog 4 = some [.bool false] := by kernel_rfl
@[go_sem] theorem hu_4 : hasU Tryz.prog 4 = true := by kernel_rfl
@[go_sem] theorem isB_4 : isB Tryz.prog 4 = true := by kernel_rfl
@[go_sem] theorem ty_5 : ty Tryz.prog 5 = some (false, 1) := by kernel_rfl
@[go_sem] theorem zer_5 : zer Tryz.prog 5 = some [.int .u8 0] := by kernel_rfl
@[go_sem] theorem ik_5 : ikd Tryz.prog 5 = some .u8 := by kernel_rfl
@[go_sem] theorem hu_5 : hasU Tryz.prog 5 = true := by kernel_rfl
@[go_sem] theorem ty_9 : ty Tryz.prog 9 = some (false, 1) := by kernel_rfl
@[go_sem] theorem zer_9 : zer Tryz.prog 9 = some [.string ⟨([] : List UInt8).toArray⟩] := by kernel_rfl
@[go_sem] theorem hu_9 : hasU Tryz.prog 9 = true := by kernel_rfl
@[go_sem] theorem knd_9 : knd Tryz.prog 9 = some true := by kernel_rfl
@[go_sem] theorem ty_22 : ty Tryz.prog 22 = some (false, 1) := by kernel_rfl
@[go_sem] theorem zer_22 : zer Tryz.prog 22 = some [.slice none 0 0] := by kernel_rfl
@[go_sem] theorem hu_22 : hasU Tryz.prog 22 = true := by kernel_rfl
@[go_sem] theorem by_22 : byS Tryz.prog 22 = false := by kernel_rfl
@[go_sem] theorem knd_22 : knd Tryz.prog 22 = some false := by kernel_rfl
@[go_sem] theorem elm_22 : elm Tryz.prog 22 = some (141, 3, 64) := by kernel_rfl
@[go_sem] theorem ty_23 : ty Tryz.prog 23 = some (false, 1) := by kernel_rfl
@[go_sem] theorem zer_23 : zer Tryz.prog 23 = some [.slice none 0 0] := by kernel_rfl
@[go_sem] theorem hu_23 : hasU Tryz.prog 23 = true := by kernel_rfl
@[go_sem] theorem by_23 : byS Tryz.prog 23 = false := by kernel_rfl
@[go_sem] theorem knd_23 : knd Tryz.prog 23 = some false := by kernel_rfl
@[go_sem] theorem elm_23 : elm Tryz.prog 23 = some (82, 4, 80) := by kernel_rfl
@[go_sem] theorem ty_25 : ty Tryz.prog 25 = some (true, 2) := by kernel_rfl
@[go_sem] theorem zer_25 : zer Tryz.prog 25 = some [.slice none 0 0, .slice none 0 0] := by kernel_rfl
@[go_sem] theorem hu_25 : hasU Tryz.prog 25 = true := by kernel_rfl
@[go_sem] theorem fld_25_0 : fld Tryz.prog 25 0 = some (0, false, 1) := by kernel_rfl
@[go_sem] theorem fld_25_1 : fld Tryz.prog 25 1 = some (1, false, 1) := by kernel_rfl
@[go_sem] theorem plc_25 : plc Tryz.prog 25 = some ([(0, 1), (1, 1)], [.slice none 0 0, .slice none 0 0]) := by kernel_rfl
@[go_sem] theorem ty_28 : ty Tryz.prog 28 = some (false, 1) := by kernel_rfl
@[go_sem] theorem zer_28 : zer Tryz.prog 28 = some [.slice none 0 0] := by kernel_rfl
@[go_sem] theorem hu_28 : hasU Tryz.prog 28 = true := by kernel_rfl
@[go_sem] theorem by_28 : byS Tryz.prog 28 = false := by kernel_rfl
@[go_sem] theorem knd_28 : knd Tryz.prog 28 = some false := by kernel_rfl
@[go_sem] theorem elm_28 : elm Tryz.prog 28 = some (99, 3, 64) := by kernel_rfl
@[go_sem] theorem ty_29 : ty Tryz.prog 29 = some (false, 1) := by kernel_rfl
@[go_sem] theorem zer_29 : zer Tryz.prog 29 = some [.slice none 0 0] := by kernel_rfl
@[go_sem] theorem hu_29 : hasU Tryz.prog 29 = true := by kernel_rfl
@[go_sem] theorem by_29 : byS Tryz.prog 29 = false := by kernel_rfl
@[go_sem] theorem knd_29 : knd Tryz.prog 29 = some false := by kernel_rfl
@[go_sem] theorem elm_29 : elm Tryz.prog 29 = some (88, 4, 80) := by kernel_rfl
@[go_sem] theorem ty_31 : ty Tryz.prog 31 = some (true, 2) := by kernel_rfl
@[go_sem] theorem zer_31 : zer Tryz.prog 31 = some [.slice none 0 0, .slice none 0 0] := by kernel_rfl
@[go_sem] theorem hu_31 : hasU Tryz.prog 31 = true := by kernel_rfl
@[go_sem] theorem fld_31_0 : fld Tryz.prog 31 0 = some (0, false, 1) := by kernel_rfl
@[go_sem] theorem fld_31_1 : fld Tryz.prog 31 1 = some (1, false, 1) := by kernel_rfl
@[go_sem] theorem plc_31 : plc Tryz.prog 31 = some ([(0, 1), (1, 1)], [.slice none 0 0, .slice none 0 0]) := by kernel_rfl
@[go_sem] theorem ty_35 : ty Tryz.prog 35 = some (false, 1) := by kernel_rfl
@[go_sem] theorem zer_35 : zer Tryz.prog 35 = some [.slice none 0 0] := by kernel_rfl
@[go_sem] theorem hu_35 : hasU Tryz.prog 35 = true := by kernel_rfl
@[go_sem] theorem by_35 : byS Tryz.prog 35 = false := by kernel_rfl
@[go_sem] theorem knd_35 : knd Tryz.prog 35 = some false := by kernel_rfl
@[go_sem] theorem elm_35 : elm Tryz.prog 35 = some (211, 19, 272) := by kernel_rfl
@[go_sem] theorem ty_36 : ty Tryz.prog 36 = some (false, 1) := by kernel_rfl
@[go_sem] theorem zer_36 : zer Tryz.prog 36 = some [.slice none 0 0] := by kernel_rfl
@[go_sem] theorem hu_36 : hasU Tryz.prog 36 = true := by kernel_rfl
@[go_sem] theorem by_36 : byS Tryz.prog 36 = false := by kernel_rfl
@[go_sem] theorem knd_36 : knd Tryz.prog 36 = some false := by kernel_rfl
@[go_sem] theorem elm_36 : elm Tryz.prog 36 = some (162, 3, 56) := by kernel_rfl
@[go_sem] theorem ty_37 : ty Tryz.prog 37 = some (false, 1) := by kernel_rfl
@[go_sem] theorem zer_37 : zer Tryz.prog 37 = some [.slice none 0 0] := by kernel_rfl
@[go_sem] theorem hu_37 : hasU Tryz.prog 37 = true := by kernel_rfl
@[go_sem] theorem by_37 : byS Tryz.prog 37 = false := by kernel_rfl
@[go_sem] theorem knd_37 : knd Tryz.prog 37 = some false := by kernel_rfl
@[go_sem] theorem elm_37 : elm Tryz.prog 37 = some (214, 3, 40) := by kernel_rfl
@[go_sem] theorem ty_39 : ty Tryz.prog 39 = some (true, 5) := by kernel_rfl
@[go_sem] theorem zer_39 : zer Tryz.prog 39 = some [.bool false, .int .i64 0, .int .i64 0, .string ⟨([] : List UInt8).toArray⟩, .slice none 0 0] := by kernel_rfl
@[go_sem] theorem hu_39 : hasU Tryz.prog 39 = true := by kernel_rfl
@[go_sem] theorem fld_39_0 : fld Tryz.prog 39 0 = some (0, false, 1) := by kernel_rfl
@[go_sem] theorem fld_39_1 : fld Tryz.prog 39 1 = some (1, false, 1) := by kernel_rfl
@[go_sem] theorem fld_39_2 : fld Tryz.prog 39 2 = some (2, false, 1) := by kernel_rfl
@[go_sem] theorem fld_39_3 : fld Tryz.prog 39 3 = some (3, false, 1) := by kernel_rfl
@[go_sem] theorem fld_39_4 : fld Tryz.prog 39 4 = some (4, false, 1) := by kernel_rfl
@[go_sem] theorem plc_39 : plc Tryz.prog 39 = some ([(0, 1), (1, 1), (2, 1), (3, 1), (4, 1)], [.bool false, .int .i64 0, .int .i64 0, .string ⟨([] : List UInt8).toArray⟩, .slice none 0 0]) := by kernel_rfl
@[go_sem] theorem ty_41 : ty Tryz.prog 41 = some (true, 10) := by kernel_rfl
@[go_sem] theorem zer_41 : zer Tryz.prog 41 = some [.slice none 0 0, .slice none 0 0, .slice none 0 0, .int .i64 0, .slice none 0 0, .bool false, .int .i64 0, .int .i64 0, .string ⟨([] : List UInt8).toArray⟩, .slice none 0 0] := by kernel_rfl
@[go_sem] theorem hu_41 : hasU Tryz.prog 41 = true := by kernel_rfl
@[go_sem] theorem fld_41_0 : fld Tryz.prog 41 0 = some (0, false, 1) := by kernel_rfl
@[go_sem] theorem fld_41_1 : fld Tryz.prog 41 1 = some (1, false, 1) := by kernel_rfl
@[go_sem] theorem fld_41_2 : fld Tryz.prog 41 2 = some (2, false, 1) := by kernel_rfl
@[go_sem] theorem fld_41_3 : fld Tryz.prog 41 3 = some (3, false, 1) := by kernel_rfl
@[go_sem] theorem fld_41_4 : fld Tryz.prog 41 4 = some (4, false, 1) := by kernel_rfl
@[go_sem] theorem fld_41_5 : fld Tryz.prog 41 5 = some (5, true, 5) := by kernel_rfl
@[go_sem] theorem plc_41 : plc Tryz.prog 41 = some ([(0, 1), (1, 1), (2, 1), (3, 1), (4, 1), (5, 5)], [.slice none 0 0, .slice none 0 0, .slice none 0 0, .int .i64 0, .slice none 0 0, .bool false, .int .i64 0, .int .i64 0, .string ⟨([] : List UInt8).toArray⟩, .slice none 0 0]) := by kernel_rfl
@[go_sem] theorem ty_43 : ty Tryz.prog 43 = some (true, 15) := by kernel_rfl
@[go_sem] theorem zer_43 : zer Tryz.prog 43 = some [.string ⟨([] : List UInt8).toArray⟩, .slice none 0 0, .slice none 0 0, .slice none 0 0, .int .i64 0, .slice none 0 0, .bool false, .int .i64 0, .int .i64 0, .string ⟨([] : List UInt8).toArray⟩, .slice none 0 0, .slice none 0 0, .bool false, .int .i64 0, .bool false] := by kernel_rfl
@[go_sem] theorem hu_43 : hasU Tryz.prog 43 = true := by kernel_rfl
@[go_sem] theorem fld_43_0 : fld Tryz.prog 43 0 = some (0, false, 1) := by kernel_rfl
@[go_sem] theorem fld_43_1 : fld Tryz.prog 43 1 = some (1, true, 10) := by kernel_rfl
@[go_sem] theorem fld_43_2 : fld Tryz.prog 43 2 = some (11, false, 1) := by kernel_rfl
@[go_sem] theorem fld_43_3 : fld Tryz.prog 43 3 = some (12, false, 1) := by kernel_rfl
@[go_sem] theorem fld_43_4 : fld Tryz.prog 43 4 = some (13, false, 1) := by kernel_rfl
@[go_sem] theorem fld_43_5 : fld Tryz.prog 43 5 = some (14, false, 1) := by kernel_rfl
@[go_sem] theorem plc_43 : plc Tryz.prog 43 = some ([(0, 1), (1, 10), (11, 1), (12, 1), (13, 1), (14, 1)], [.string ⟨([] : List UInt8).toArray⟩, .slice none 0 0, .slice none 0 0, .slice none 0 0, .int .i64 0, .slice none 0 0, .bool false, .int .i64 0, .int .i64 0, .string ⟨([] : List UInt8).toArray⟩, .slice none 0 0, .slice none 0 0, .bool false, .int .i64 0, .bool false]) := by kernel_rfl
@[go_sem] theorem ty_45 : ty Tryz.prog 45 = some (false, 1) := by kernel_rfl
@[go_sem] theorem zer_45 : zer Tryz.prog 45 = some [.slice none 0 0] := by kernel_rfl
@[go_sem] theorem hu_45 : hasU Tryz.prog 45 = true := by kernel_rfl
@[go_sem] theorem by_45 : byS Tryz.prog 45 = false := by kernel_rfl
@[go_sem] theorem knd_45 : knd Tryz.prog 45 = some false := by kernel_rfl
@[go_sem] theorem elm_45 : elm Tryz.prog 45 = some (219, 19, 272) := by kernel_rfl
@[go_sem] theorem ty_46 : ty Tryz.prog 46 = some (false, 1) := by kernel_rfl
@[go_sem] theorem zer_46 : zer Tryz.prog 46 = some [.slice none 0 0] := by kernel_rfl
@[go_sem] theorem hu_46 : hasU Tryz.prog 46 = true := by kernel_rfl
@[go_sem] theorem by_46 : byS Tryz.prog 46 = false := by kernel_rfl
@[go_sem] theorem knd_46 : knd Tryz.prog 46 = some false := by kernel_rfl
@[go_sem] theorem elm_46 : elm Tryz.prog 46 = some (170, 3, 56) := by kernel_rfl
@[go_sem] theorem ty_47 : ty Tryz.prog 47 = some (false, 1) := by kernel_rfl
@[go_sem] theorem zer_47 : zer Tryz.prog 47 = some [.slice none 0 0] := by kernel_rfl
@[go_sem] theorem hu_47 : hasU Tryz.prog 47 = true := by kernel_rfl
@[go_sem] theorem by_47 : byS Tryz.prog 47 = false := by kernel_rfl
@[go_sem] theorem knd_47 : knd Tryz.prog 47 = some false := by kernel_rfl
@[go_sem] theorem elm_47 : elm Tryz.prog 47 = some (222, 3, 40) := by kernel_rfl
@[go_sem] theorem ty_49 : ty Tryz.prog 49 = some (true, 5) := by kernel_rfl
@[go_sem] theorem zer_49 : zer Tryz.prog 49 = some [.bool false, .int .i64 0, .int .i64 0, .string ⟨([] : List UInt8).toArray⟩, .slice none 0 0] := by kernel_rfl
@[go_sem] theorem hu_49 : hasU Tryz.prog 49 = true := by kernel_rfl
@[go_sem] theorem fld_49_0 : fld Tryz.prog 49 0 = some (0, false, 1) := by kernel_rfl
@[go_sem] theorem fld_49_1 : fld Tryz.prog 49 1 = some (1, false, 1) := by kernel_rfl
@[go_sem] theorem fld_49_2 : fld Tryz.prog 49 2 = some (2, false, 1) := by kernel_rfl
@[go_sem] theorem fld_49_3 : fld Tryz.prog 49 3 = some (3, false, 1) := by kernel_rfl
@[go_sem] theorem fld_49_4 : fld Tryz.prog 49 4 = some (4, false, 1) := by kernel_rfl
@[go_sem] theorem plc_49 : plc Tryz.prog 49 = some ([(0, 1), (1, 1), (2, 1), (3, 1), (4, 1)], [.bool false, .int .i64 0, .int .i64 0, .string ⟨([] : List UInt8).toArray⟩, .slice none 0 0]) := by kernel_rfl
@[go_sem] theorem ty_51 : ty Tryz.prog 51 = some (true, 10) := by kernel_rfl
@[go_sem] theorem zer_51 : zer Tryz.prog 51 = some [.slice none 0 0, .slice none 0 0, .slice none 0 0, .int .i64 0, .slice none 0 0, .bool false, .int .i64 0, .int .i64 0, .string ⟨([] : List UInt8).toArray⟩, .slice none 0 0] := by kernel_rfl
@[go_sem] theorem hu_51 : hasU Tryz.prog 51 = true := by kernel_rfl
@[go_sem] theorem fld_51_0 : fld Tryz.prog 51 0 = some (0, false, 1) := by kernel_rfl
@[go_sem] theorem fld_51_1 : fld Tryz.prog 51 1 = some (1, false, 1) := by kernel_rfl
@[go_sem] theorem fld_51_2 : fld Tryz.prog 51 2 = some (2, false, 1) := by kernel_rfl
@[go_sem] theorem fld_51_3 : fld Tryz.prog 51 3 = some (3, false, 1) := by kernel_rfl
@[go_sem] theorem fld_51_4 : fld Tryz.prog 51 4 = some (4, false, 1) := by kernel_rfl
@[go_sem] theorem fld_51_5 : fld Tryz.prog 51 5 = some (5, true, 5) := by kernel_rfl
@[go_sem] theorem plc_51 : plc Tryz.prog 51 = some ([(0, 1), (1, 1), (2, 1), (3, 1), (4, 1), (5, 5)], [.slice none 0 0, .slice none 0 0, .slice none 0 0, .int .i64 0, .slice none 0 0, .bool false, .int .i64 0, .int .i64 0, .string ⟨([] : List UInt8).toArray⟩, .slice none 0 0]) := by kernel_rfl
@[go_sem] theorem ty_53 : ty Tryz.prog 53 = some (true, 15) := by kernel_rfl
@[go_sem] theorem zer_53 : zer Tryz.prog 53 = some [.string ⟨([] : List UInt8).toArray⟩, .slice none 0 0, .slice none 0 0, .slice none 0 0, .int .i64 0, .slice none 0 0, .bool false, .int .i64 0, .int .i64 0, .string ⟨([] : List UInt8).toArray⟩, .slice none 0 0, .slice none 0 0, .bool false, .int .i64 0, .bool false] := by kernel_rfl
@[go_sem] theorem hu_53 : hasU Tryz.prog 53 = true := by kernel_rfl
@[go_sem] theorem fld_53_0 : fld Tryz.prog 53 0 = some (0, false, 1) := by kernel_rfl
@[go_sem] theorem fld_53_1 : fld Tryz.prog 53 1 = some (1, true, 10) := by kernel_rfl
@[go_sem] theorem fld_53_2 : fld Tryz.prog 53 2 = some (11, false, 1) := by kernel_rfl
@[go_sem] theorem fld_53_3 : fld Tryz.prog 53 3 = some (12, false, 1) := by kernel_rfl
@[go_sem] theorem fld_53_4 : fld Tryz.prog 53 4 = some (13, false, 1) := by kernel_rfl
@[go_sem] theorem fld_53_5 : fld Tryz.prog 53 5 = some (14, false, 1) := by kernel_rfl
@[go_sem] theorem plc_53 : plc Tryz.prog 53 = some ([(0, 1), (1, 10), (11, 1), (12, 1), (13, 1), (14, 1)], [.string ⟨([] : List UInt8).toArray⟩, .slice none 0 0, .slice none 0 0, .slice none 0 0, .int .i64 0, .slice none 0 0, .bool false, .int .i64 0, .int .i64 0, .string ⟨([] : List UInt8).toArray⟩, .slice none 0 0, .slice none 0 0, .bool false, .int .i64 0, .bool false]) := by kernel_rfl
@[go_sem] theorem ty_59 : ty Tryz.prog 59 = some (false, 1) := by kernel_rfl
@[go_sem] theorem zer_59 : zer Tryz.prog 59 = some [.slice none 0 0] := by kernel_rfl
@[go_sem] theorem hu_59 : hasU Tryz.prog 59 = true := by kernel_rfl
@[go_sem] theorem by_59 : byS Tryz.prog 59 = false := by kernel_rfl
@[go_sem] theorem knd_59 : knd Tryz.prog 59 = some false := by kernel_rfl
@[go_sem] theorem elm_59 : elm Tryz.prog 59 = some (43, 15, 232) := by kernel_rfl
@[go_sem] theorem ty_60 : ty Tryz.prog 60 = some (false, 1) := by kernel_rfl
@[go_sem] theorem zer_60 : zer Tryz.prog 60 = some [.slice none 0 0] := by kernel_rfl
@[go_sem] theorem hu_60 : hasU Tryz.prog 60 = true := by kernel_rfl
@[go_sem] theorem by_60 : byS Tryz.prog 60 = false := by kernel_rfl
@[go_sem] theorem knd_60 : knd Tryz.prog 60 = some false := by kernel_rfl
@[go_sem] theorem elm_60 : elm Tryz.prog 60 = some (230, 3, 48) := by kernel_rfl
@[go_sem] theorem ty_62 : ty Tryz.prog 62 = some (true, 2) := by kernel_rfl
@[go_sem] theorem zer_62 : zer Tryz.prog 62 = some [.int .i64 0, .slice none 0 0] := by kernel_rfl
@[go_sem] theorem hu_62 : hasU Tryz.prog 62 = true := by kernel_rfl
@[go_sem] theorem fld_62_0 : fld Tryz.prog 62 0 = some (0, false, 1) := by kernel_rfl
@[go_sem] theorem fld_62_1 : fld Tryz.prog 62 1 = some (1, false, 1) := by kernel_rfl
@[go_sem] theorem plc_62 : plc Tryz.prog 62 = some ([(0, 1), (1, 1)], [.int .i64 0, .slice none 0 0]) := by kernel_rfl
@[go_sem] theorem ty_64 : ty Tryz.prog 64 = some (true, 8) := by kernel_rfl
@[go_sem] theorem zer_64 : zer Tryz.prog 64 = some [.slice none 0 0, .slice none 0 0, .slice none 0 0, .int .i64 0, .slice none 0 0, .int .i64 0, .slice none 0 0, .int .i64 0] := by kernel_rfl
@[go_sem] theorem hu_64 : hasU Tryz.prog 64 = true := by kernel_rfl
@[go_sem] theorem fld_64_0 : fld Tryz.prog 64 0 = some (0, true, 2) := by kernel_rfl
@[go_sem] theorem fld_64_1 : fld Tryz.prog 64 1 = some (2, false, 1) := by kernel_rfl
@[go_sem] theorem fld_64_2 : fld Tryz.prog 64 2 = some (3, true, 2) := by kernel_rfl
@[go_sem] theorem fld_64_3 : fld Tryz.prog 64 3 = some (5, true, 2) := by kernel_rfl
@[go_sem] theorem fld_64_4 : fld Tryz.prog 64 4 = some (7, false, 1) := by kernel_rfl
@[go_sem] theorem plc_64 : plc Tryz.prog 64 = some ([(0, 2), (2, 1), (3, 2), (5, 2), (7, 1)], [.slice none 0 0, .slice none 0 0, .slice none 0 0, .int .i64 0, .slice none 0 0, .int .i64 0, .slice none 0 0, .int .i64 0]) := by kernel_rfl
@[go_sem] theorem ty_66 : ty Tryz.prog 66 = some (false, 1) := by kernel_rfl
@[go_sem] theorem zer_66 : zer Tryz.prog 66 = some [.slice none 0 0] := by kernel_rfl
@[go_sem] theorem hu_66 : hasU Tryz.prog 66 = true := by kernel_rfl
@[go_sem] theorem by_66 : byS Tryz.prog 66 = false := by kernel_rfl
@[go_sem] theorem knd_66 : knd Tryz.prog 66 = some false := by kernel_rfl
@[go_sem] theorem elm_66 : elm Tryz.prog 66 = some (9, 1, 16) := by kernel_rfl
@[go_sem] theorem ty_68 : ty Tryz.prog 68 = some (false, 1) := by kernel_rfl
@[go_sem] theorem zer_68 : zer Tryz.prog 68 = some [.slice none 0 0] := by kernel_rfl
@[go_sem] theorem hu_68 : hasU Tryz.prog 68 = true := by kernel_rfl
@[go_sem] theorem by_68 : byS Tryz.prog 68 = false := by kernel_rfl
@[go_sem] theorem knd_68 : knd Tryz.prog 68 = some false := by kernel_rfl
@[go_sem] theorem elm_68 : elm Tryz.prog 68 = some (53, 15, 232) := by kernel_rfl
@[go_sem] theorem ty_69 : ty Tryz.prog 69 = some (false, 1) := by kernel_rfl
@[go_sem] theorem zer_69 : zer Tryz.prog 69 = some [.slice none 0 0] := by kernel_rfl
@[go_sem] theorem hu_69 : hasU Tryz.prog 69 = true := by kernel_rfl
@[go_sem] theorem by_69 : byS Tryz.prog 69 = false := by kernel_rfl
@[go_sem] theorem knd_69 : knd Tryz.prog 69 = some false := by kernel_rfl
@[go_sem] theorem elm_69 : elm Tryz.prog 69 = some (232, 3, 48) := by kernel_rfl
@[go_sem] theorem ty_71 : ty Tryz.prog 71 = some (true, 2) := by kernel_rfl
@[go_sem] theorem zer_71 : zer Tryz.prog 71 = some [.int .i64 0, .slice none 0 0] := by kernel_rfl
@[go_sem] theorem hu_71 : hasU Tryz.prog 71 = true := by kernel_rfl
@[go_sem] theorem fld_71_0 : fld Tryz.prog 71 0 = some (0, false, 1) := by kernel_rfl
@[go_sem] theorem fld_71_1 : fld Tryz.prog 71 1 = some (1, false, 1) := by kernel_rfl
@[go_sem] theorem plc_71 : plc Tryz.prog 71 = some ([(0, 1), (1, 1)], [.int .i64 0, .slice none 0 0]) := by kernel_rfl
@[go_sem] theorem ty_73 : ty Tryz.prog 73 = some (true, 8) := by kernel_rfl
@[go_sem] theorem zer_73 : zer Tryz.prog 73 = some [.slice none 0 0, .slice none 0 0, .slice none 0 0, .int .i64 0, .slice none 0 0, .int .i64 0, .slice none 0 0, .int .i64 0] := by kernel_rfl
@[go_sem] theorem hu_73 : hasU Tryz.prog 73 = true := by kernel_rfl
@[go_sem] theorem fld_73_0 : fld Tryz.prog 73 0 = some (0, true, 2) := by kernel_rfl
@[go_sem] theorem fld_73_1 : fld Tryz.prog 73 1 = some (2, false, 1) := by kernel_rfl
@[go_sem] theorem fld_73_2 : fld Tryz.prog 73 2 = some (3, true, 2) := by kernel_rfl
@[go_sem] theorem fld_73_3 : fld Tryz.prog 73 3 = some (5, true, 2) := by kernel_rfl
@[go_sem] theorem fld_73_4 : fld Tryz.prog 73 4 = some (7, false, 1) := by kernel_rfl
@[go_sem] theorem plc_73 : plc Tryz.prog 73 = some ([(0, 2), (2, 1), (3, 2), (5, 2), (7, 1)], [.slice none 0 0, .slice none 0 0, .slice none 0 0, .int .i64 0, .slice none 0 0, .int .i64 0, .slice none 0 0, .int .i64 0]) := by kernel_rfl
@[go_sem] theorem ty_80 : ty Tryz.prog 80 = some (false, 1) := by kernel_rfl
@[go_sem] theorem zer_80 : zer Tryz.prog 80 = some [.slice none 0 0] := by kernel_rfl
@[go_sem] theorem hu_80 : hasU Tryz.prog 80 = true := by kernel_rfl
@[go_sem] theorem by_80 : byS Tryz.prog 80 = false := by kernel_rfl
@[go_sem] theorem knd_80 : knd Tryz.prog 80 = some false := by kernel_rfl
@[go_sem] theorem elm_80 : elm Tryz.prog 80 = some (186, 2, 32) := by kernel_rfl
@[go_sem] theorem ty_82 : ty Tryz.prog 82 = some (true, 4) := by kernel_rfl
@[go_sem] theorem zer_82 : zer Tryz.prog 82 = some [.string ⟨([] : List UInt8).toArray⟩, .string ⟨([] : List UInt8).toArray⟩, .slice none 0 0, .slice none 0 0] := by kernel_rfl
@[go_sem] theorem hu_82 : hasU Tryz.prog 82 = true := by kernel_rfl
@[go_sem] theorem fld_82_0 : fld Tryz.prog 82 0 = some (0, false, 1) := by kernel_rfl
@[go_sem] theorem fld_82_1 : fld Tryz.prog 82 1 = some (1, false, 1) := by kernel_rfl
@[go_sem] theorem fld_82_2 : fld Tryz.prog 82 2 = some (2, false, 1) := by kernel_rfl
@[go_sem] theorem fld_82_3 : fld Tryz.prog 82 3 = some (3, false, 1) := by kernel_rfl
@[go_sem] theorem plc_82 : plc Tryz.prog 82 = some ([(0, 1), (1, 1), (2, 1), (3, 1)], [.string ⟨([] : List UInt8).toArray⟩, .string ⟨([] : List UInt8).toArray⟩, .slice none 0 0, .slice none 0 0]) := by kernel_rfl
@[go_sem] theorem ty_86 : ty Tryz.prog 86 = some (false, 1) := by kernel_rfl
@[go_sem] theorem zer_86 : zer Tryz.prog 86 = some [.slice none 0 0] := by kernel_rfl
@[go_sem] theorem hu_86 : hasU Tryz.prog 86 = true := by kernel_rfl
@[go_sem] theorem by_86 : byS Tryz.prog 86 = false := by kernel_rfl
@[go_sem] theorem knd_86 : knd Tryz.prog 86 = some false := by kernel_rfl
@[go_sem] theorem elm_86 : elm Tryz.prog 86 = some (188, 2, 32) := by kernel_rfl
@[go_sem] theorem ty_88 : ty Tryz.prog 88 = some (true, 4) := by kernel_rfl
@[go_sem] theorem zer_88 : zer Tryz.prog 88 = some [.string ⟨([] : List UInt8).toArray⟩, .string ⟨([] : List UInt8).toArray⟩, .slice none 0 0, .slice none 0 0] := by kernel_rfl
@[go_sem] theorem hu_88 : hasU Tryz.prog 88 = true := by kernel_rfl
@[go_sem] theorem fld_88_0 : fld Tryz.prog 88 0 = some (0, false, 1) := by kernel_rfl
@[go_sem] theorem fld_88_1 : fld Tryz.prog 88 1 = some (1, false, 1) := by kernel_rfl
@[go_sem] theorem fld_88_2 : fld Tryz.prog 88 2 = some (2, false, 1) := by kernel_rfl
@[go_sem] theorem fld_88_3 : fld Tryz.prog 88 3 = some (3, false, 1) := by kernel_rfl
@[go_sem] theorem plc_88 : plc Tryz.prog 88 = some ([(0, 1), (1, 1), (2, 1), (3, 1)], [.string ⟨([] : List UInt8).toArray⟩, .string ⟨([] : List UInt8).toArray⟩, .slice none 0 0, .slice none 0 0]) := by kernel_rfl
@[go_sem] theorem ty_97 : ty Tryz.prog 97 = some (false, 1) := by kernel_rfl
@[go_sem] theorem zer_97 : zer Tryz.prog 97 = some [.slice none 0 0] := by kernel_rfl
@[go_sem] theorem hu_97 : hasU Tryz.prog 97 = true := by kernel_rfl
@[go_sem] theorem by_97 : byS Tryz.prog 97 = false := by kernel_rfl
@[go_sem] theorem knd_97 : knd Tryz.prog 97 = some false := by kernel_rfl
@[go_sem] theorem elm_97 : elm Tryz.prog 97 = some (146, 6, 104) := by kernel_rfl
@[go_sem] theorem ty_99 : ty Tryz.prog 99 = some (true, 3) := by kernel_rfl
@[go_sem] theorem zer_99 : zer Tryz.prog 99 = some [.string ⟨([] : List UInt8).toArray⟩, .slice none 0 0, .slice none 0 0] := by kernel_rfl
@[go_sem] theorem hu_99 : hasU Tryz.prog 99 = true := by kernel_rfl
@[go_sem] theorem fld_99_0 : fld Tryz.prog 99 0 = some (0, false, 1) := by kernel_rfl
@[go_sem] theorem fld_99_1 : fld Tryz.prog 99 1 = some (1, false, 1) := by kernel_rfl
@[go_sem] theorem fld_99_2 : fld Tryz.prog 99 2 = some (2, false, 1) := by kernel_rfl
@[go_sem] theorem plc_99 : plc Tryz.prog 99 = some ([(0, 1), (1, 1), (2, 1)], [.string ⟨([] : List UInt8).toArray⟩, .slice none 0 0, .slice none 0 0]) := by kernel_rfl
@[go_sem] theorem ty_139 : ty Tryz.prog 139 = some (false, 1) := by kernel_rfl
@[go_sem] theorem zer_139 : zer Tryz.prog 139 = some [.slice none 0 0] := by kernel_rfl
@[go_sem] theorem hu_139 : hasU Tryz.prog 139 = true := by kernel_rfl
@[go_sem] theorem by_139 : byS Tryz.prog 139 = false := by kernel_rfl
@[go_sem] theorem knd_139 : knd Tryz.prog 139 = some false := by kernel_rfl
@[go_sem] theorem elm_139 : elm Tryz.prog 139 = some (237, 6, 104) := by kernel_rfl
@[go_sem] theorem ty_141 : ty Tryz.prog 141 = some (true, 3) := by kernel_rfl
@[go_sem] theorem zer_141 : zer Tryz.prog 141 = some [.string ⟨([] : List UInt8).toArray⟩, .slice none 0 0, .slice none 0 0] := by kernel_rfl
@[go_sem] theorem hu_141 : hasU Tryz.prog 141 = true := by kernel_rfl
@[go_sem] theorem fld_141_0 : fld Tryz.prog 141 0 = some (0, false, 1) := by kernel_rfl
@[go_sem] theorem fld_141_1 : fld Tryz.prog 141 1 = some (1, false, 1) := by kernel_rfl
@[go_sem] theorem fld_141_2 : fld Tryz.prog 141 2 = some (2, false, 1) := by kernel_rfl
@[go_sem] theorem plc_141 : plc Tryz.prog 141 = some ([(0, 1), (1, 1), (2, 1)], [.string ⟨([] : List UInt8).toArray⟩, .slice none 0 0, .slice none 0 0]) := by kernel_rfl
@[go_sem] theorem ty_142 : ty Tryz.prog 142 = some (false, 1) := by kernel_rfl
@[go_sem] theorem zer_142 : zer Tryz.prog 142 = some [.slice none 0 0] := by kernel_rfl
@[go_sem] theorem hu_142 : hasU Tryz.prog 142 = true := by kernel_rfl
@[go_sem] theorem by_142 : byS Tryz.prog 142 = false := by kernel_rfl
@[go_sem] theorem knd_142 : knd Tryz.prog 142 = some false := by kernel_rfl
@[go_sem] theorem elm_142 : elm Tryz.prog 142 = some (197, 2, 16) := by kernel_rfl
@[go_sem] theorem ty_144 : ty Tryz.prog 144 = some (true, 5) := by kernel_rfl
@[go_sem] theorem zer_144 : zer Tryz.prog 144 = some [.int .i64 0, .slice none 0 0, .slice none 0 0, .string ⟨([] : List UInt8).toArray⟩, .string ⟨([] : List UInt8).toArray⟩] := by kernel_rfl
@[go_sem] theorem hu_144 : hasU Tryz.prog 144 = true := by kernel_rfl
@[go_sem] theorem fld_144_0 : fld Tryz.prog 144 0 = some (0, false, 1) := by kernel_rfl
@[go_sem] theorem fld_144_1 : fld Tryz.prog 144 1 = some (1, false, 1) := by kernel_rfl
@[go_sem] theorem fld_144_2 : fld Tryz.prog 144 2 = some (2, false, 1) := by kernel_rfl
@[go_sem] theorem fld_144_3 : fld Tryz.prog 144 3 = some (3, false, 1) := by kernel_rfl
@[go_sem] theorem fld_144_4 : fld Tryz.prog 144 4 = some (4, false, 1) := by kernel_rfl
@[go_sem] theorem plc_144 : plc Tryz.prog 144 = some ([(0, 1), (1, 1), (2, 1), (3, 1), (4, 1)], [.int .i64 0, .slice none 0 0, .slice none 0 0, .string ⟨([] : List UInt8).toArray⟩, .string ⟨([] : List UInt8).toArray⟩]) := by kernel_rfl
@[go_sem] theorem ty_146 : ty Tryz.prog 146 = some (true, 6) := by kernel_rfl
@[go_sem] theorem zer_146 : zer Tryz.prog 146 = some [.string ⟨([] : List UInt8).toArray⟩, .int .i64 0, .slice none 0 0, .slice none 0 0, .string ⟨([] : List UInt8).toArray⟩, .string ⟨([] : List UInt8).toArray⟩] := by kernel_rfl
@[go_sem] theorem hu_146 : hasU Tryz.prog 146 = true := by kernel_rfl
@[go_sem] theorem fld_146_0 : fld Tryz.prog 146 0 = some (0, false, 1) := by kernel_rfl
@[go_sem] theorem fld_146_1 : fld Tryz.prog 146 1 = some (1, true, 5) := by kernel_rfl
@[go_sem] theorem plc_146 : plc Tryz.prog 146 = some ([(0, 1), (1, 5)], [.string ⟨([] : List UInt8).toArray⟩, .int .i64 0, .slice none 0 0, .slice none 0 0, .string ⟨([] : List UInt8).toArray⟩, .string ⟨([] : List UInt8).toArray⟩]) := by kernel_rfl
@[go_sem] theorem ty_162 : ty Tryz.prog 162 = some (true, 3) := by kernel_rfl
@[go_sem] theorem zer_162 : zer Tryz.prog 162 = some [.string ⟨([] : List UInt8).toArray⟩, .string ⟨([] : List UInt8).toArray⟩, .slice none 0 0] := by kernel_rfl
@[go_sem] theorem hu_162 : hasU Tryz.prog 162 = true := by kernel_rfl
@[go_sem] theorem fld_162_0 : fld Tryz.prog 162 0 = some (0, false, 1) := by kernel_rfl
@[go_sem] theorem fld_162_1 : fld Tryz.prog 162 1 = some (1, false, 1) := by kernel_rfl
@[go_sem] theorem fld_162_2 : fld Tryz.prog 162 2 = some (2, false, 1) := by kernel_rfl
@[go_sem] theorem plc_162 : plc Tryz.prog 162 = some ([(0, 1), (1, 1), (2, 1)], [.string ⟨([] : List UInt8).toArray⟩, .string ⟨([] : List UInt8).toArray⟩, .slice none 0 0]) := by kernel_rfl
@[go_sem] theorem ty_165 : ty Tryz.prog 165 = some (false, 1) := by kernel_rfl
@[go_sem] theorem zer_165 : zer Tryz.prog 165 = some [.pointer none] := by kernel_rfl
@[go_sem] theorem hu_165 : hasU Tryz.prog 165 = true := by kernel_rfl
@[go_sem] theorem ty_170 : ty Tryz.prog 170 = some (true, 3) := by kernel_rfl
@[go_sem] theorem zer_170 : zer Tryz.prog 170 = some [.string ⟨([] : List UInt8).toArray⟩, .string ⟨([] : List UInt8).toArray⟩, .slice none 0 0] := by kernel_rfl
@[go_sem] theorem hu_170 : hasU Tryz.prog 170 = true := by kernel_rfl
@[go_sem] theorem fld_170_0 : fld Tryz.prog 170 0 = some (0, false, 1) := by kernel_rfl
@[go_sem] theorem fld_170_1 : fld Tryz.prog 170 1 = some (1, false, 1) := by kernel_rfl
@[go_sem] theorem fld_170_2 : fld Tryz.prog 170 2 = some (2, false, 1) := by kernel_rfl
@[go_sem] theorem plc_170 : plc Tryz.prog 170 = some ([(0, 1), (1, 1), (2, 1)], [.string ⟨([] : List UInt8).toArray⟩, .string ⟨([] : List UInt8).toArray⟩, .slice none 0 0]) := by kernel_rfl
@[go_sem] theorem ty_183 : ty Tryz.prog 183 = some (false, 1) := by kernel_rfl
@[go_sem] theorem zer_183 : zer Tryz.prog 183 = some [.slice none 0 0] := by kernel_rfl
@[go_sem] theorem hu_183 : hasU Tryz.prog 183 = true := by kernel_rfl
@[go_sem] theorem by_183 : byS Tryz.prog 183 = true := by kernel_rfl
@[go_sem] theorem knd_183 : knd Tryz.prog 183 = some false := by kernel_rfl
@[go_sem] theorem elm_183 : elm Tryz.prog 183 = some (5, 1, 1) := by kernel_rfl
@[go_sem] theorem ty_186 : ty Tryz.prog 186 = some (true, 2) := by kernel_rfl
@[go_sem] theorem zer_186 : zer Tryz.prog 186 = some [.string ⟨([] : List UInt8).toArray⟩, .string ⟨([] : List UInt8).toArray⟩] := by kernel_rfl
@[go_sem] theorem hu_186 : hasU Tryz.prog 186 = true := by kernel_rfl
@[go_sem] theorem fld_186_0 : fld Tryz.prog 186 0 = some (0, false, 1) := by kernel_rfl
@[go_sem] theorem fld_186_1 : fld Tryz.prog 186 1 = some (1, false, 1) := by kernel_rfl
@[go_sem] theorem plc_186 : plc Tryz.prog 186 = some ([(0, 1), (1, 1)], [.string ⟨([] : List UInt8).toArray⟩, .string ⟨([] : List UInt8).toArray⟩]) := by kernel_rfl
@[go_sem] theorem ty_188 : ty Tryz.prog 188 = some (true, 2) := by kernel_rfl
@[go_sem] theorem zer_188 : zer Tryz.prog 188 = some [.string ⟨([] : List UInt8).toArray⟩, .string ⟨([] : List UInt8).toArray⟩] := by kernel_rfl
@[go_sem] theorem hu_188 : hasU Tryz.prog 188 = true := by kernel_rfl
@[go_sem] theorem fld_188_0 : fld Tryz.prog 188 0 = some (0, false, 1) := by kernel_rfl
@[go_sem] theorem fld_188_1 : fld Tryz.prog 188 1 = some (1, false, 1) := by kernel_rfl
@[go_sem] theorem plc_188 : plc Tryz.prog 188 = some ([(0, 1), (1, 1)], [.string ⟨([] : List UInt8).toArray⟩, .string ⟨([] : List UInt8).toArray⟩]) := by kernel_rfl
@[go_sem] theorem ty_197 : ty Tryz.prog 197 = some (true, 2) := by kernel_rfl
@[go_sem] theorem zer_197 : zer Tryz.prog 197 = some [.int .i64 0, .int .i64 0] := by kernel_rfl
@[go_sem] theorem hu_197 : hasU Tryz.prog 197 = true := by kernel_rfl
@[go_sem] theorem fld_197_0 : fld Tryz.prog 197 0 = some (0, false, 1) := by kernel_rfl
@[go_sem] theorem fld_197_1 : fld Tryz.prog 197 1 = some (1, false, 1) := by kernel_rfl
@[go_sem] theorem plc_197 : plc Tryz.prog 197 = some ([(0, 1), (1, 1)], [.int .i64 0, .int .i64 0]) := by kernel_rfl
@[go_sem] theorem ty_206 : ty Tryz.prog 206 = some (false, 1) := by kernel_rfl
@[go_sem] theorem zer_206 : zer Tryz.prog 206 = some [.slice none 0 0] := by kernel_rfl
@[go_sem] theorem hu_206 : hasU Tryz.prog 206 = true := by kernel_rfl
@[go_sem] theorem by_206 : byS Tryz.prog 206 = false := by kernel_rfl
@[go_sem] theorem knd_206 : knd Tryz.prog 206 = some false := by kernel_rfl
@[go_sem] theorem elm_206 : elm Tryz.prog 206 = some (293, 2, 16) := by kernel_rfl
@[go_sem] theorem ty_208 : ty Tryz.prog 208 = some (true, 5) := by kernel_rfl
@[go_sem] theorem zer_208 : zer Tryz.prog 208 = some [.int .i64 0, .slice none 0 0, .slice none 0 0, .string ⟨([] : List UInt8).toArray⟩, .string ⟨([] : List UInt8).toArray⟩] := by kernel_rfl
@[go_sem] theorem hu_208 : hasU Tryz.prog 208 = true := by kernel_rfl
@[go_sem] theorem fld_208_0 : fld Tryz.prog 208 0 = some (0, false, 1) := by kernel_rfl
@[go_sem] theorem fld_208_1 : fld Tryz.prog 208 1 = some (1, false, 1) := by kernel_rfl
@[go_sem] theorem fld_208_2 : fld Tryz.prog 208 2 = some (2, false, 1) := by kernel_rfl
@[go_sem] theorem fld_208_3 : fld Tryz.prog 208 3 = some (3, false, 1) := by kernel_rfl
@[go_sem] theorem fld_208_4 : fld Tryz.prog 208 4 = some (4, false, 1) := by kernel_rfl
@[go_sem] theorem plc_208 : plc Tryz.prog 208 = some ([(0, 1), (1, 1), (2, 1), (3, 1), (4, 1)], [.int .i64 0, .slice none 0 0, .slice none 0 0, .string ⟨([] : List UInt8).toArray⟩, .string ⟨([] : List UInt8).toArray⟩]) := by kernel_rfl
@[go_sem] theorem ty_209 : ty Tryz.prog 209 = some (false, 1) := by kernel_rfl
@[go_sem] theorem zer_209 : zer Tryz.prog 209 = some [.slice none 0 0] := by kernel_rfl
@[go_sem] theorem hu_209 : hasU Tryz.prog 209 = true := by kernel_rfl
@[go_sem] theorem by_209 : byS Tryz.prog 209 = false := by kernel_rfl
@[go_sem] theorem knd_209 : knd Tryz.prog 209 = some false := by kernel_rfl
@[go_sem] theorem elm_209 : elm Tryz.prog 209 = some (278, 7, 96) := by kernel_rfl
@[go_sem] theorem ty_211 : ty Tryz.prog 211 = some (true, 19) := by kernel_rfl
@[go_sem] theorem zer_211 : zer Tryz.prog 211 = some [.int .i64 0, .string ⟨([] : List UInt8).toArray⟩, .int .i64 0, .slice none 0 0, .slice none 0 0, .string ⟨([] : List UInt8).toArray⟩, .string ⟨([] : List UInt8).toArray⟩, .slice none 0 0, .slice none 0 0, .string ⟨([] : List UInt8).toArray⟩, .bool false, .bool false, .bool false, .bool false, .int .i64 0, .int .i64 0, .slice none 0 0, .slice none 0 0, .slice none 0 0] := by kernel_rfl
@[go_sem] theorem hu_211 : hasU Tryz.prog 211 = true := by kernel_rfl
@[go_sem] theorem fld_211_0 : fld Tryz.prog 211 0 = some (0, false, 1) := by kernel_rfl
@[go_sem] theorem fld_211_1 : fld Tryz.prog 211 1 = some (1, false, 1) := by kernel_rfl
@[go_sem] theorem fld_211_2 : fld Tryz.prog 211 2 = some (2, true, 5) := by kernel_rfl
@[go_sem] theorem fld_211_3 : fld Tryz.prog 211 3 = some (7, false, 1) := by kernel_rfl
@[go_sem] theorem fld_211_4 : fld Tryz.prog 211 4 = some (8, false, 1) := by kernel_rfl
@[go_sem] theorem fld_211_5 : fld Tryz.prog 211 5 = some (9, false, 1) := by kernel_rfl
@[go_sem] theorem fld_211_6 : fld Tryz.prog 211 6 = some (10, false, 1) := by kernel_rfl
@[go_sem] theorem fld_211_7 : fld Tryz.prog 211 7 = some (11, false, 1) := by kernel_rfl
@[go_sem] theorem fld_211_8 : fld Tryz.prog 211 8 = some (12, false, 1) := by kernel_rfl
@[go_sem] theorem fld_211_9 : fld Tryz.prog 211 9 = some (13, false, 1) := by kernel_rfl
@[go_sem] theorem fld_211_10 : fld Tryz.prog 211 10 = some (14, false, 1) := by kernel_rfl
@[go_sem] theorem fld_211_11 : fld Tryz.prog 211 11 = some (15, false, 1) := by kernel_rfl
@[go_sem] theorem fld_211_12 : fld Tryz.prog 211 12 = some (16, false, 1) := by kernel_rfl
@[go_sem] theorem fld_211_13 : fld Tryz.prog 211 13 = some (17, false, 1) := by kernel_rfl
@[go_sem] theorem fld_211_14 : fld Tryz.prog 211 14 = some (18, false, 1) := by kernel_rfl
@[go_sem] theorem plc_211 : plc Tryz.prog 211 = some ([(0, 1), (1, 1), (2, 5), (7, 1), (8, 1), (9, 1), (10, 1), (11, 1), (12, 1), (13, 1), (14, 1), (15, 1), (16, 1), (17, 1), (18, 1)], [.int .i64 0, .string ⟨([] : List UInt8).toArray⟩, .int .i64 0, .slice none 0 0, .slice none 0 0, .string ⟨([] : List UInt8).toArray⟩, .string ⟨([] : List UInt8).toArray⟩, .slice none 0 0, .slice none 0 0, .string ⟨([] : List UInt8).toArray⟩, .bool false, .bool false, .bool false, .bool false, .int .i64 0, .int .i64 0, .slice none 0 0, .slice none 0 0, .slice none 0 0]) := by kernel_rfl
@[go_sem] theorem ty_214 : ty Tryz.prog 214 = some (true, 3) := by kernel_rfl
@[go_sem] theorem zer_214 : zer Tryz.prog 214 = some [.slice none 0 0, .int .i64 0, .int .i64 0] := by kernel_rfl
@[go_sem] theorem hu_214 : hasU Tryz.prog 214 = true := by kernel_rfl
@[go_sem] theorem fld_214_0 : fld Tryz.prog 214 0 = some (0, false, 1) := by kernel_rfl
@[go_sem] theorem fld_214_1 : fld Tryz.prog 214 1 = some (1, false, 1) := by kernel_rfl
@[go_sem] theorem fld_214_2 : fld Tryz.prog 214 2 = some (2, false, 1) := by kernel_rfl
@[go_sem] theorem plc_214 : plc Tryz.prog 214 = some ([(0, 1), (1, 1), (2, 1)], [.slice none 0 0, .int .i64 0, .int .i64 0]) := by kernel_rfl
@[go_sem] theorem ty_217 : ty Tryz.prog 217 = some (false, 1) := by kernel_rfl
@[go_sem] theorem zer_217 : zer Tryz.prog 217 = some [.slice none 0 0] := by kernel_rfl
@[go_sem] theorem hu_217 : hasU Tryz.prog 217 = true := by kernel_rfl
@[go_sem] theorem by_217 : byS Tryz.prog 217 = false := by kernel_rfl
@[go_sem] theorem knd_217 : knd Tryz.prog 217 = some false := by kernel_rfl
@[go_sem] theorem elm_217 : elm Tryz.prog 217 = some (261, 7, 96) := by kernel_rfl
@[go_sem] theorem ty_219 : ty Tryz.prog 219 = some (true, 19) := by kernel_rfl
@[go_sem] theorem zer_219 : zer Tryz.prog 219 = some [.int .i64 0, .string ⟨([] : List UInt8).toArray⟩, .int .i64 0, .slice none 0 0, .slice none 0 0, .string ⟨([] : List UInt8).toArray⟩, .string ⟨([] : List UInt8).toArray⟩, .slice none 0 0, .slice none 0 0, .string ⟨([] : List UInt8).toArray⟩, .bool false, .bool false, .bool false, .bool false, .int .i64 0, .int .i64 0, .slice none 0 0, .slice none 0 0, .slice none 0 0] := by kernel_rfl
@[go_sem] theorem hu_219 : hasU Tryz.prog 219 = true := by kernel_rfl
@[go_sem] theorem fld_219_0 : fld Tryz.prog 219 0 = some (0, false, 1) := by kernel_rfl
@[go_sem] theorem fld_219_1 : fld Tryz.prog 219 1 = some (1, false, 1) := by kernel_rfl
@[go_sem] theorem fld_219_2 : fld Tryz.prog 219 2 = some (2, true, 5) := by kernel_rfl
@[go_sem] theorem fld_219_3 : fld Tryz.prog 219 3 = some (7, false, 1) := by kernel_rfl
@[go_sem] theorem fld_219_4 : fld Tryz.prog 219 4 = some (8, false, 1) := by kernel_rfl
@[go_sem] theorem fld_219_5 : fld Tryz.prog 219 5 = some (9, false, 1) := by kernel_rfl
@[go_sem] theorem fld_219_6 : fld Tryz.prog 219 6 = some (10, false, 1) := by kernel_rfl
@[go_sem] theorem fld_219_7 : fld Tryz.prog 219 7 = some (11, false, 1) := by kernel_rfl
@[go_sem] theorem fld_219_8 : fld Tryz.prog 219 8 = some (12, false, 1) := by kernel_rfl
@[go_sem] theorem fld_219_9 : fld Tryz.prog 219 9 = some (13, false, 1) := by kernel_rfl
@[go_sem] theorem fld_219_10 : fld Tryz.prog 219 10 = some (14, false, 1) := by kernel_rfl
@[go_sem] theorem fld_219_11 : fld Tryz.prog 219 11 = some (15, false, 1) := by kernel_rfl
@[go_sem] theorem fld_219_12 : fld Tryz.prog 219 12 = some (16, false, 1) := by kernel_rfl
@[go_sem] theorem fld_219_13 : fld Tryz.prog 219 13 = some (17, false, 1) := by kernel_rfl
@[go_sem] theorem fld_219_14 : fld Tryz.prog 219 14 = some (18, false, 1) := by kernel_rfl
@[go_sem] theorem plc_219 : plc Tryz.prog 219 = some ([(0, 1), (1, 1), (2, 5), (7, 1), (8, 1), (9, 1), (10, 1), (11, 1), (12, 1), (13, 1), (14, 1), (15, 1), (16, 1), (17, 1), (18, 1)], [.int .i64 0, .string ⟨([] : List UInt8).toArray⟩, .int .i64 0, .slice none 0 0, .slice none 0 0, .string ⟨([] : List UInt8).toArray⟩, .string ⟨([] : List UInt8).toArray⟩, .slice none 0 0, .slice none 0 0, .string ⟨([] : List UInt8).toArray⟩, .bool false, .bool false, .bool false, .bool false, .int .i64 0, .int .i64 0, .slice none 0 0, .slice none 0 0, .slice none 0 0]) := by kernel_rfl
@[go_sem] theorem ty_222 : ty Tryz.prog 222 = some (true, 3) := by kernel_rfl
@[go_sem] theorem zer_222 : zer Tryz.prog 222 = some [.slice none 0 0, .int .i64 0, .int .i64 0] := by kernel_rfl
@[go_sem] theorem hu_222 : hasU Tryz.prog 222 = true := by kernel_rfl
@[go_sem] theorem fld_222_0 : fld Tryz.prog 222 0 = some (0, false, 1) := by kernel_rfl
@[go_sem] theorem fld_222_1 : fld Tryz.prog 222 1 = some (1, false, 1) := by kernel_rfl
@[go_sem] theorem fld_222_2 : fld Tryz.prog 222 2 = some (2, false, 1) := by kernel_rfl
@[go_sem] theorem plc_222 : plc Tryz.prog 222 = some ([(0, 1), (1, 1), (2, 1)], [.slice none 0 0, .int .i64 0, .int .i64 0]) := by kernel_rfl
@[go_sem] theorem ty_230 : ty Tryz.prog 230 = some (true, 3) := by kernel_rfl
@[go_sem] theorem zer_230 : zer Tryz.prog 230 = some [.string ⟨([] : List UInt8).toArray⟩, .slice none 0 0, .int .i64 0] := by kernel_rfl
@[go_sem] theorem hu_230 : hasU Tryz.prog 230 = true := by kernel_rfl
@[go_sem] theorem fld_230_0 : fld Tryz.prog 230 0 = some (0, false, 1) := by kernel_rfl
@[go_sem] theorem fld_230_1 : fld Tryz.prog 230 1 = some (1, false, 1) := by kernel_rfl
@[go_sem] theorem fld_230_2 : fld Tryz.prog 230 2 = some (2, false, 1) := by kernel_rfl
@[go_sem] theorem plc_230 : plc Tryz.prog 230 = some ([(0, 1), (1, 1), (2, 1)], [.string ⟨([] : List UInt8).toArray⟩, .slice none 0 0, .int .i64 0]) := by kernel_rfl
@[go_sem] theorem ty_232 : ty Tryz.prog 232 = some (true, 3) := by kernel_rfl
@[go_sem] theorem zer_232 : zer Tryz.prog 232 = some [.string ⟨([] : List UInt8).toArray⟩, .slice none 0 0, .int .i64 0] := by kernel_rfl
@[go_sem] theorem hu_232 : hasU Tryz.prog 232 = true := by kernel_rfl
@[go_sem] theorem fld_232_0 : fld Tryz.prog 232 0 = some (0, false, 1) := by kernel_rfl
@[go_sem] theorem fld_232_1 : fld Tryz.prog 232 1 = some (1, false, 1) := by kernel_rfl
@[go_sem] theorem fld_232_2 : fld Tryz.prog 232 2 = some (2, false, 1) := by kernel_rfl
@[go_sem] theorem plc_232 : plc Tryz.prog 232 = some ([(0, 1), (1, 1), (2, 1)], [.string ⟨([] : List UInt8).toArray⟩, .slice none 0 0, .int .i64 0]) := by kernel_rfl
@[go_sem] theorem ty_237 : ty Tryz.prog 237 = some (true, 6) := by kernel_rfl
@[go_sem] theorem zer_237 : zer Tryz.prog 237 = some [.string ⟨([] : List UInt8).toArray⟩, .int .i64 0, .slice none 0 0, .slice none 0 0, .string ⟨([] : List UInt8).toArray⟩, .string ⟨([] : List UInt8).toArray⟩] := by kernel_rfl
@[go_sem] theorem hu_237 : hasU Tryz.prog 237 = true := by kernel_rfl
@[go_sem] theorem fld_237_0 : fld Tryz.prog 237 0 = some (0, false, 1) := by kernel_rfl
@[go_sem] theorem fld_237_1 : fld Tryz.prog 237 1 = some (1, true, 5) := by kernel_rfl
@[go_sem] theorem plc_237 : plc Tryz.prog 237 = some ([(0, 1), (1, 5)], [.string ⟨([] : List UInt8).toArray⟩, .int .i64 0, .slice none 0 0, .slice none 0 0, .string ⟨([] : List UInt8).toArray⟩, .string ⟨([] : List UInt8).toArray⟩]) := by kernel_rfl
@[go_sem] theorem ty_238 : ty Tryz.prog 238 = some (false, 1) := by kernel_rfl
@[go_sem] theorem zer_238 : zer Tryz.prog 238 = some [.slice none 0 0] := by kernel_rfl
@[go_sem] theorem hu_238 : hasU Tryz.prog 238 = true := by kernel_rfl
@[go_sem] theorem by_238 : byS Tryz.prog 238 = false := by kernel_rfl
@[go_sem] theorem knd_238 : knd Tryz.prog 238 = some false := by kernel_rfl
@[go_sem] theorem elm_238 : elm Tryz.prog 238 = some (240, 3, 48) := by kernel_rfl
@[go_sem] theorem ty_240 : ty Tryz.prog 240 = some (true, 3) := by kernel_rfl
@[go_sem] theorem zer_240 : zer Tryz.prog 240 = some [.int .i64 0, .string ⟨([] : List UInt8).toArray⟩, .slice none 0 0] := by kernel_rfl
@[go_sem] theorem hu_240 : hasU Tryz.prog 240 = true := by kernel_rfl
@[go_sem] theorem fld_240_0 : fld Tryz.prog 240 0 = some (0, false, 1) := by kernel_rfl
@[go_sem] theorem fld_240_1 : fld Tryz.prog 240 1 = some (1, false, 1) := by kernel_rfl
@[go_sem] theorem fld_240_2 : fld Tryz.prog 240 2 = some (2, false, 1) := by kernel_rfl
@[go_sem] theorem plc_240 : plc Tryz.prog 240 = some ([(0, 1), (1, 1), (2, 1)], [.int .i64 0, .string ⟨([] : List UInt8).toArray⟩, .slice none 0 0]) := by kernel_rfl
@[go_sem] theorem ty_257 : ty Tryz.prog 257 = some (false, 1) := by kernel_rfl
@[go_sem] theorem zer_257 : zer Tryz.prog 257 = some [.slice none 0 0] := by kernel_rfl
@[go_sem] theorem hu_257 : hasU Tryz.prog 257 = true := by kernel_rfl
@[go_sem] theorem by_257 : byS Tryz.prog 257 = false := by kernel_rfl
@[go_sem] theorem knd_257 : knd Tryz.prog 257 = some false := by kernel_rfl
@[go_sem] theorem elm_257 : elm Tryz.prog 257 = some (287, 2, 40) := by kernel_rfl
@[go_sem] theorem ty_259 : ty Tryz.prog 259 = some (true, 3) := by kernel_rfl
@[go_sem] theorem zer_259 : zer Tryz.prog 259 = some [.bool false, .int .i64 0, .slice none 0 0] := by kernel_rfl
@[go_sem] theorem hu_259 : hasU Tryz.prog 259 = true := by kernel_rfl
@[go_sem] theorem fld_259_0 : fld Tryz.prog 259 0 = some (0, false, 1) := by kernel_rfl
@[go_sem] theorem fld_259_1 : fld Tryz.prog 259 1 = some (1, false, 1) := by kernel_rfl
@[go_sem] theorem fld_259_2 : fld Tryz.prog 259 2 = some (2, false, 1) := by kernel_rfl
@[go_sem] theorem plc_259 : plc Tryz.prog 259 = some ([(0, 1), (1, 1), (2, 1)], [.bool false, .int .i64 0, .slice none 0 0]) := by kernel_rfl
@[go_sem] theorem ty_261 : ty Tryz.prog 261 = some (true, 7) := by kernel_rfl
@[go_sem] theorem zer_261 : zer Tryz.prog 261 = some [.int .i64 0, .int .i64 0, .string ⟨([] : List UInt8).toArray⟩, .bool false, .int .i64 0, .slice none 0 0, .slice none 0 0] := by kernel_rfl
@[go_sem] theorem hu_261 : hasU Tryz.prog 261 = true := by kernel_rfl
@[go_sem] theorem fld_261_0 : fld Tryz.prog 261 0 = some (0, false, 1) := by kernel_rfl
@[go_sem] theorem fld_261_1 : fld Tryz.prog 261 1 = some (1, false, 1) := by kernel_rfl
@[go_sem] theorem fld_261_2 : fld Tryz.prog 261 2 = some (2, false, 1) := by kernel_rfl
@[go_sem] theorem fld_261_3 : fld Tryz.prog 261 3 = some (3, true, 3) := by kernel_rfl
@[go_sem] theorem fld_261_4 : fld Tryz.prog 261 4 = some (6, false, 1) := by kernel_rfl
@[go_sem] theorem plc_261 : plc Tryz.prog 261 = some ([(0, 1), (1, 1), (2, 1), (3, 3), (6, 1)], [.int .i64 0, .int .i64 0, .string ⟨([] : List UInt8).toArray⟩, .bool false, .int .i64 0, .slice none 0 0, .slice none 0 0]) := by kernel_rfl
@[go_sem] theorem ty_264 : ty Tryz.prog 264 = some (false, 1) := by kernel_rfl
@[go_sem] theorem zer_264 : zer Tryz.prog 264 = some [.pointer none] := by kernel_rfl
@[go_sem] theorem hu_264 : hasU Tryz.prog 264 = true := by kernel_rfl
@[go_sem] theorem ty_266 : ty Tryz.prog 266 = some (true, 3) := by kernel_rfl
@[go_sem] theorem zer_266 : zer Tryz.prog 266 = some [.string ⟨([] : List UInt8).toArray⟩, .int .i64 0, .bool false] := by kernel_rfl
@[go_sem] theorem hu_266 : hasU Tryz.prog 266 = true := by kernel_rfl
@[go_sem] theorem fld_266_0 : fld Tryz.prog 266 0 = some (0, false, 1) := by kernel_rfl
@[go_sem] theorem fld_266_1 : fld Tryz.prog 266 1 = some (1, false, 1) := by kernel_rfl
@[go_sem] theorem fld_266_2 : fld Tryz.prog 266 2 = some (2, false, 1) := by kernel_rfl
@[go_sem] theorem plc_266 : plc Tryz.prog 266 = some ([(0, 1), (1, 1), (2, 1)], [.string ⟨([] : List UInt8).toArray⟩, .int .i64 0, .bool false]) := by kernel_rfl
@[go_sem] theorem ty_268 : ty Tryz.prog 268 = some (false, 1) := by kernel_rfl
@[go_sem] theorem zer_268 : zer Tryz.prog 268 = some [.pointer none] := by kernel_rfl
@[go_sem] theorem hu_268 : hasU Tryz.prog 268 = true := by kernel_rfl
@[go_sem] theorem ty_270 : ty Tryz.prog 270 = some (true, 3) := by kernel_rfl
@[go_sem] theorem zer_270 : zer Tryz.prog 270 = some [.string ⟨([] : List UInt8).toArray⟩, .int .i64 0, .bool false] := by kernel_rfl
@[go_sem] theorem hu_270 : hasU Tryz.prog 270 = true := by kernel_rfl
@[go_sem] theorem fld_270_0 : fld Tryz.prog 270 0 = some (0, false, 1) := by kernel_rfl
@[go_sem] theorem fld_270_1 : fld Tryz.prog 270 1 = some (1, false, 1) := by kernel_rfl
@[go_sem] theorem fld_270_2 : fld Tryz.prog 270 2 = some (2, false, 1) := by kernel_rfl
@[go_sem] theorem plc_270 : plc Tryz.prog 270 = some ([(0, 1), (1, 1), (2, 1)], [.string ⟨([] : List UInt8).toArray⟩, .int .i64 0, .bool false]) := by kernel_rfl
@[go_sem] theorem ty_274 : ty Tryz.prog 274 = some (false, 1) := by kernel_rfl
@[go_sem] theorem zer_274 : zer Tryz.prog 274 = some [.slice none 0 0] := by kernel_rfl
@[go_sem] theorem hu_274 : hasU Tryz.prog 274 = true := by kernel_rfl
@[go_sem] theorem by_274 : byS Tryz.prog 274 = false := by kernel_rfl
@[go_sem] theorem knd_274 : knd Tryz.prog 274 = some false := by kernel_rfl
@[go_sem] theorem elm_274 : elm Tryz.prog 274 = some (306, 2, 40) := by kernel_rfl
@[go_sem] theorem ty_276 : ty Tryz.prog 276 = some (true, 3) := by kernel_rfl
@[go_sem] theorem zer_276 : zer Tryz.prog 276 = some [.bool false, .int .i64 0, .slice none 0 0] := by kernel_rfl
@[go_sem] theorem hu_276 : hasU Tryz.prog 276 = true := by kernel_rfl
@[go_sem] theorem fld_276_0 : fld Tryz.prog 276 0 = some (0, false, 1) := by kernel_rfl
@[go_sem] theorem fld_276_1 : fld Tryz.prog 276 1 = some (1, false, 1) := by kernel_rfl
@[go_sem] theorem fld_276_2 : fld Tryz.prog 276 2 = some (2, false, 1) := by kernel_rfl
@[go_sem] theorem plc_276 : plc Tryz.prog 276 = some ([(0, 1), (1, 1), (2, 1)], [.bool false, .int .i64 0, .slice none 0 0]) := by kernel_rfl
@[go_sem] theorem ty_278 : ty Tryz.prog 278 = some (true, 7) := by kernel_rfl
@[go_sem] theorem zer_278 : zer Tryz.prog 278 = some [.int .i64 0, .int .i64 0, .string ⟨([] : List UInt8).toArray⟩, .bool false, .int .i64 0, .slice none 0 0, .slice none 0 0] := by kernel_rfl
@[go_sem] theorem hu_278 : hasU Tryz.prog 278 = true := by kernel_rfl
@[go_sem] theorem fld_278_0 : fld Tryz.prog 278 0 = some (0, false, 1) := by kernel_rfl
@[go_sem] theorem fld_278_1 : fld Tryz.prog 278 1 = some (1, false, 1) := by kernel_rfl
@[go_sem] theorem fld_278_2 : fld Tryz.prog 278 2 = some (2, false, 1) := by kernel_rfl
@[go_sem] theorem fld_278_3 : fld Tryz.prog 278 3 = some (3, true, 3) := by kernel_rfl
@[go_sem] theorem fld_278_4 : fld Tryz.prog 278 4 = some (6, false, 1) := by kernel_rfl
@[go_sem] theorem plc_278 : plc Tryz.prog 278 = some ([(0, 1), (1, 1), (2, 1), (3, 3), (6, 1)], [.int .i64 0, .int .i64 0, .string ⟨([] : List UInt8).toArray⟩, .bool false, .int .i64 0, .slice none 0 0, .slice none 0 0]) := by kernel_rfl
@[go_sem] theorem ty_285 : ty Tryz.prog 285 = some (false, 1) := by kernel_rfl
@[go_sem] theorem zer_285 : zer Tryz.prog 285 = some [.slice none 0 0] := by kernel_rfl
@[go_sem] theorem hu_285 : hasU Tryz.prog 285 = true := by kernel_rfl
@[go_sem] theorem by_285 : byS Tryz.prog 285 = false := by kernel_rfl
@[go_sem] theorem knd_285 : knd Tryz.prog 285 = some false := by kernel_rfl
@[go_sem] theorem elm_285 : elm Tryz.prog 285 = some (297, 2, 32) := by kernel_rfl
@[go_sem] theorem ty_287 : ty Tryz.prog 287 = some (true, 2) := by kernel_rfl
@[go_sem] theorem zer_287 : zer Tryz.prog 287 = some [.string ⟨([] : List UInt8).toArray⟩, .slice none 0 0] := by kernel_rfl
@[go_sem] theorem hu_287 : hasU Tryz.prog 287 = true := by kernel_rfl
@[go_sem] theorem fld_287_0 : fld Tryz.prog 287 0 = some (0, false, 1) := by kernel_rfl
@[go_sem] theorem fld_287_1 : fld Tryz.prog 287 1 = some (1, false, 1) := by kernel_rfl
@[go_sem] theorem plc_287 : plc Tryz.prog 287 = some ([(0, 1), (1, 1)], [.string ⟨([] : List UInt8).toArray⟩, .slice none 0 0]) := by kernel_rfl
@[go_sem] theorem ty_293 : ty Tryz.prog 293 = some (true, 2) := by kernel_rfl
@[go_sem] theorem zer_293 : zer Tryz.prog 293 = some [.int .i64 0, .int .i64 0] := by kernel_rfl
@[go_sem] theorem hu_293 : hasU Tryz.prog 293 = true := by kernel_rfl
@[go_sem] theorem fld_293_0 : fld Tryz.prog 293 0 = some (0, false, 1) := by kernel_rfl
@[go_sem] theorem fld_293_1 : fld Tryz.prog 293 1 = some (1, false, 1) := by kernel_rfl
@[go_sem] theorem plc_293 : plc Tryz.prog 293 = some ([(0, 1), (1, 1)], [.int .i64 0, .int .i64 0]) := by kernel_rfl
@[go_sem] theorem ty_297 : ty Tryz.prog 297 = some (true, 2) := by kernel_rfl
@[go_sem] theorem zer_297 : zer Tryz.prog 297 = some [.string ⟨([] : List UInt8).toArray⟩, .string ⟨([] : List UInt8).toArray⟩] := by kernel_rfl
@[go_sem] theorem hu_297 : hasU Tryz.prog 297 = true := by kernel_rfl
@[go_sem] theorem fld_297_0 : fld Tryz.prog 297 0 = some (0, false, 1) := by kernel_rfl
@[go_sem] theorem fld_297_1 : fld Tryz.prog 297 1 = some (1, false, 1) := by kernel_rfl
@[go_sem] theorem plc_297 : plc Tryz.prog 297 = some ([(0, 1), (1, 1)], [.string ⟨([] : List UInt8).toArray⟩, .string ⟨([] : List UInt8).toArray⟩]) := by kernel_rfl
@[go_sem] theorem ty_304 : ty Tryz.prog 304 = some (false, 1) := by kernel_rfl
@[go_sem] theorem zer_304 : zer Tryz.prog 304 = some [.slice none 0 0] := by kernel_rfl
@[go_sem] theorem hu_304 : hasU Tryz.prog 304 = true := by kernel_rfl
@[go_sem] theorem by_304 : byS Tryz.prog 304 = false := by kernel_rfl
@[go_sem] theorem knd_304 : knd Tryz.prog 304 = some false := by kernel_rfl
@[go_sem] theorem elm_304 : elm Tryz.prog 304 = some (317, 2, 32) := by kernel_rfl
@[go_sem] theorem ty_306 : ty Tryz.prog 306 = some (true, 2) := by kernel_rfl
@[go_sem] theorem zer_306 : zer Tryz.prog 306 = some [.string ⟨([] : List UInt8).toArray⟩, .slice none 0 0] := by kernel_rfl
@[go_sem] theorem hu_306 : hasU Tryz.prog 306 = true := by kernel_rfl
@[go_sem] theorem fld_306_0 : fld Tryz.prog 306 0 = some (0, false, 1) := by kernel_rfl
@[go_sem] theorem fld_306_1 : fld Tryz.prog 306 1 = some (1, false, 1) := by kernel_rfl
@[go_sem] theorem plc_306 : plc Tryz.prog 306 = some ([(0, 1), (1, 1)], [.string ⟨([] : List UInt8).toArray⟩, .slice none 0 0]) := by kernel_rfl
@[go_sem] theorem ty_309 : ty Tryz.prog 309 = some (false, 1) := by kernel_rfl
@[go_sem] theorem zer_309 : zer Tryz.prog 309 = some [.slice none 0 0] := by kernel_rfl
@[go_sem] theorem hu_309 : hasU Tryz.prog 309 = true := by kernel_rfl
@[go_sem] theorem by_309 : byS Tryz.prog 309 = false := by kernel_rfl
@[go_sem] theorem knd_309 : knd Tryz.prog 309 = some false := by kernel_rfl
@[go_sem] theorem elm_309 : elm Tryz.prog 309 = some (4, 1, 1) := by kernel_rfl
@[go_sem] theorem ty_317 : ty Tryz.prog 317 = some (true, 2) := by kernel_rfl
@[go_sem] theorem zer_317 : zer Tryz.prog 317 = some [.string ⟨([] : List UInt8).toArray⟩, .string ⟨([] : List UInt8).toArray⟩] := by kernel_rfl
@[go_sem] theorem hu_317 : hasU Tryz.prog 317 = true := by kernel_rfl
@[go_sem] theorem fld_317_0 : fld Tryz.prog 317 0 = some (0, false, 1) := by kernel_rfl
@[go_sem] theorem fld_317_1 : fld Tryz.prog 317 1 = some (1, false, 1) := by kernel_rfl
@[go_sem] theorem plc_317 : plc Tryz.prog 317 = some ([(0, 1), (1, 1)], [.string ⟨([] : List UInt8).toArray⟩, .string ⟨([] : List UInt8).toArray⟩]) := by kernel_rfl
theorem en6 : enters Tryz.prog 6 = true := by kernel_rfl
theorem en7 : enters Tryz.prog 7 = true := by kernel_rfl
theorem en8 : enters Tryz.prog 8 = true := by kernel_rfl
theorem en9 : enters Tryz.prog 9 = true := by kernel_rfl
theorem en10 : enters Tryz.prog 10 = true := by kernel_rfl
theorem en11 : enters Tryz.prog 11 = true := by kernel_rfl
theorem en23 : enters Tryz.prog 23 = true := by kernel_rfl
theorem en26 : enters Tryz.prog 26 = true := by kernel_rfl
theorem en27 : enters Tryz.prog 27 = true := by kernel_rfl
theorem en28 : enters Tryz.prog 28 = true := by kernel_rfl
theorem en29 : enters Tryz.prog 29 = true := by kernel_rfl
theorem en30 : enters Tryz.prog 30 = true := by kernel_rfl
theorem en31 : enters Tryz.prog 31 = true := by kernel_rfl
theorem en32 : enters Tryz.prog 32 = true := by kernel_rfl
theorem en33 : enters Tryz.prog 33 = true := by kernel_rfl
theorem en34 : enters Tryz.prog 34 = true := by kernel_rfl
theorem en35 : enters Tryz.prog 35 = true := by kernel_rfl
theorem en36 : enters Tryz.prog 36 = true := by kernel_rfl
theorem en37 : enters Tryz.prog 37 = true := by kernel_rfl
theorem en38 : enters Tryz.prog 38 = true := by kernel_rfl
theorem en39 : enters Tryz.prog 39 = true := by kernel_rfl
theorem en40 : enters Tryz.prog 40 = true := by kernel_rfl
theorem en41 : enters Tryz.prog 41 = true := by kernel_rfl
theorem en42 : enters Tryz.prog 42 = true := by kernel_rfl
theorem en43 : enters Tryz.prog 43 = true := by kernel_rfl
theorem en44 : enters Tryz.prog 44 = true := by kernel_rfl
theorem en45 : enters Tryz.prog 45 = true := by kernel_rfl
theorem en46 : enters Tryz.prog 46 = true := by kernel_rfl
theorem en47 : enters Tryz.prog 47 = true := by kernel_rfl
theorem en48 : enters Tryz.prog 48 = true := by kernel_rfl
theorem en49 : enters Tryz.prog 49 = true := by kernel_rfl
theorem en51 : enters Tryz.prog 51 = true := by kernel_rfl
theorem en55 : enters Tryz.prog 55 = true := by kernel_rfl
theorem en59 : enters Tryz.prog 59 = true := by kernel_rfl
theorem en61 : enters Tryz.prog 61 = true := by kernel_rfl
theorem en63 : enters Tryz.prog 63 = true := by kernel_rfl
theorem en72 : enters Tryz.prog 72 = true := by kernel_rfl
theorem en73 : enters Tryz.prog 73 = true := by kernel_rfl
theorem en74 : enters Tryz.prog 74 = true := by kernel_rfl
theorem en75 : enters Tryz.prog 75 = true := by kernel_rfl
theorem en76 : enters Tryz.prog 76 = true := by kernel_rfl
theorem en77 : enters Tryz.prog 77 = true := by kernel_rfl
theorem en78 : enters Tryz.prog 78 = true := by kernel_rfl
theorem en79 : enters Tryz.prog 79 = true := by kernel_rfl
theorem en80 : enters Tryz.prog 80 = true := by kernel_rfl
theorem en81 : enters Tryz.prog 81 = true := by kernel_rfl
theorem en82 : enters Tryz.prog 82 = true := by kernel_rfl
theorem en83 : enters Tryz.prog 83 = true := by kernel_rfl
theorem en84 : enters Tryz.prog 84 = true := by kernel_rfl
theorem en85 : enters Tryz.prog 85 = true := by kernel_rfl
theorem en86 : enters Tryz.prog 86 = true := by kernel_rfl
theorem en87 : enters Tryz.prog 87 = true := by kernel_rfl
theorem en88 : enters Tryz.prog 88 = true := by kernel_rfl
theorem en89 : enters Tryz.prog 89 = true := by kernel_rfl
theorem en90 : enters Tryz.prog 90 = true := by kernel_rfl
theorem en91 : enters Tryz.prog 91 = true := by kernel_rfl
theorem en92 : enters Tryz.prog 92 = true := by kernel_rfl
theorem en93 : enters Tryz.prog 93 = true := by kernel_rfl
theorem en94 : enters Tryz.prog 94 = true := by kernel_rfl
theorem en95 : enters Tryz.prog 95 = true := by kernel_rfl
theorem en96 : enters Tryz.prog 96 = true := by kernel_rfl
theorem en97 : enters Tryz.prog 97 = true := by kernel_rfl
theorem en98 : enters Tryz.prog 98 = true := by kernel_rfl
theorem en99 : enters Tryz.prog 99 = true := by kernel_rfl
theorem en100 : enters Tryz.prog 100 = true := by kernel_rfl
theorem en101 : enters Tryz.prog 101 = true := by kernel_rfl
theorem en102 : enters Tryz.prog 102 = true := by kernel_rfl
theorem en103 : enters Tryz.prog 103 = true := by kernel_rfl
theorem en104 : enters Tryz.prog 104 = true := by kernel_rfl
theorem en105 : enters Tryz.prog 105 = true := by kernel_rfl
theorem en106 : enters Tryz.prog 106 = true := by kernel_rfl
theorem en110 : enters Tryz.prog 110 = true := by kernel_rfl
theorem en112 : enters Tryz.prog 112 = true := by kernel_rfl
theorem en117 : enters Tryz.prog 117 = true := by kernel_rfl
theorem en119 : enters Tryz.prog 119 = true := by kernel_rfl
theorem en124 : enters Tryz.prog 124 = true := by kernel_rfl
theorem en135 : enters Tryz.prog 135 = true := by kernel_rfl
theorem en136 : enters Tryz.prog 136 = true := by kernel_rfl
theorem en137 : enters Tryz.prog 137 = true := by kernel_rfl
theorem en138 : enters Tryz.prog 138 = true := by kernel_rfl
theorem en141 : enters Tryz.prog 141 = true := by kernel_rfl
theorem en142 : enters Tryz.prog 142 = true := by kernel_rfl
theorem en143 : enters Tryz.prog 143 = true := by kernel_rfl
theorem en144 : enters Tryz.prog 144 = true := by kernel_rfl
theorem en145 : enters Tryz.prog 145 = true := by kernel_rfl
theorem en146 : enters Tryz.prog 146 = true := by kernel_rfl
theorem en147 : enters Tryz.prog 147 = true := by kernel_rfl
theorem en148 : enters Tryz.prog 148 = true := by kernel_rfl
theorem en149 : enters Tryz.prog 149 = true := by kernel_rfl
theorem en150 : enters Tryz.prog 150 = true := by kernel_rfl
theorem en151 : enters Tryz.prog 151 = true := by kernel_rfl
theorem en152 : enters Tryz.prog 152 = true := by kernel_rfl
theorem en153 : enters Tryz.prog 153 = true := by kernel_rfl
theorem en154 : enters Tryz.prog 154 = true := by kernel_rfl
theorem en155 : enters Tryz.prog 155 = true := by kernel_rfl
theorem en156 : enters Tryz.prog 156 = true := by kernel_rfl
theorem en157 : enters Tryz.prog 157 = true := by kernel_rfl
theorem en158 : enters Tryz.prog 158 = true := by kernel_rfl
theorem en159 : enters Tryz.prog 159 = true := by kernel_rfl
theorem en160 : enters Tryz.prog 160 = true := by kernel_rfl
theorem en161 : enters Tryz.prog 161 = true := by kernel_rfl
theorem en162 : enters Tryz.prog 162 = true := by kernel_rfl
theorem en163 : enters Tryz.prog 163 = true := by kernel_rfl
theorem en173 : enters Tryz.prog 173 = true := by kernel_rfl
theorem en175 : enters Tryz.prog 175 = true := by kernel_rfl
theorem en181 : enters Tryz.prog 181 = true := by kernel_rfl
theorem en182 : enters Tryz.prog 182 = true := by kernel_rfl
theorem en183 : enters Tryz.prog 183 = true := by kernel_rfl
theorem en184 : enters Tryz.prog 184 = true := by kernel_rfl
theorem en185 : enters Tryz.prog 185 = true := by kernel_rfl
theorem en186 : enters Tryz.prog 186 = true := by kernel_rfl
theorem en187 : enters Tryz.prog 187 = true := by kernel_rfl
theorem en188 : enters Tryz.prog 188 = true := by kernel_rfl
theorem en189 : enters Tryz.prog 189 = true := by kernel_rfl
theorem en190 : enters Tryz.prog 190 = true := by kernel_rfl
theorem en191 : enters Tryz.prog 191 = true := by kernel_rfl
theorem en194 : enters Tryz.prog 194 = true := by kernel_rfl
theorem en197 : enters Tryz.prog 197 = true := by kernel_rfl
theorem en202 : enters Tryz.prog 202 = true := by kernel_rfl
theorem en203 : enters Tryz.prog 203 = true := by kernel_rfl
theorem en204 : enters Tryz.prog 204 = true := by kernel_rfl
theorem en205 : enters Tryz.prog 205 = true := by kernel_rfl
theorem en206 : enters Tryz.prog 206 = true := by kernel_rfl
theorem en209 : enters Tryz.prog 209 = true := by kernel_rfl
theorem en212 : enters Tryz.prog 212 = true := by kernel_rfl
theorem en216 : enters Tryz.prog 216 = true := by kernel_rfl
theorem en217 : enters Tryz.prog 217 = true := by kernel_rfl
theorem en218 : enters Tryz.prog 218 = true := by kernel_rfl
theorem en219 : enters Tryz.prog 219 = true := by kernel_rfl
theorem en222 : enters Tryz.prog 222 = true := by kernel_rfl
theorem en225 : enters Tryz.prog 225 = true := by kernel_rfl
theorem en227 : enters Tryz.prog 227 = true := by kernel_rfl
theorem en228 : enters Tryz.prog 228 = true := by kernel_rfl
theorem en229 : enters Tryz.prog 229 = true := by kernel_rfl
theorem en234 : enters Tryz.prog 234 = true := by kernel_rfl
theorem en235 : enters Tryz.prog 235 = true := by kernel_rfl
theorem en236 : enters Tryz.prog 236 = true := by kernel_rfl
theorem en237 : enters Tryz.prog 237 = true := by kernel_rfl
theorem en242 : enters Tryz.prog 242 = true := by kernel_rfl
theorem en243 : enters Tryz.prog 243 = true := by kernel_rfl
theorem en244 : enters Tryz.prog 244 = true := by kernel_rfl
theorem en248 : enters Tryz.prog 248 = true := by kernel_rfl
end Go.Proofs.YtkdchlggdcmkbaaGreat
