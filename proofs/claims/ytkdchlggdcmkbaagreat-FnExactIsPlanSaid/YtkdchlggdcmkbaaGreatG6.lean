/-
  Part of a proof: TysTry, Nm1, Tx1, Tp1, Tp2, Tp4, Tp5, Tp6, Tp7, Pl1, Pl2.
-/
import Derived.Test.YtkdchlggdcmkbaaGreatProg
import Derived.KernelRfl
import Derived.Test.YtkdchlggdcmkbaaGreatG1
import Derived.Test.YtkdchlggdcmkbaaGreatG2
import Derived.Test.YtkdchlggdcmkbaaGreatG3
import Derived.Test.YtkdchlggdcmkbaaGreatG4
import Derived.Test.YtkdchlggdcmkbaaGreatG5
set_option linter.unusedSimpArgs false
set_option linter.unusedVariables false
namespace Go.Proofs.YtkdchlggdcmkbaaGreat
open Go.Ab
@[go_sem] theorem ty_3 : ty Tryz.prog 3 = some (false, 1) := by kernel_rfl
@[go_sem] theorem zer_3 : zer Tryz.prog 3 = some [.int .i64 0] := by kernel_rfl
@[go_sem] theorem ik_3 : ikd Tryz.prog 3 = some .i64 := by kernel_rfl
@[go_sem] theorem hu_3 : hasU Tryz.prog 3 = true := by kernel_rfl
@[go_sem] theorem ty_4 : ty Tryz.prog 4 = some (false, 1) := by kernel_rfl
@[go_sem] theorem zer_4 : zer Tryz.prog 4 = some [.bool false] := by kernel_rfl
@[go_sem] theorem hu_4 : hasU Tryz.prog 4 = true := by kernel_rfl
@[go_sem] theorem isB_4 : isB Tryz.prog 4 = true := by kernel_rfl
@[go_sem] theorem ty_5 : ty Tryz.prog 5 = some (false, 1) := by kernel_rfl
@[go_sem] theorem zer_5 : zer Tryz.prog 5 = some [.int .u8 0] := by kernel_rfl
@[go_sem] theorem ik_5 : ikd Tryz.prog 5 = some .u8 := by kernel_rfl
@[go_sem] theorem hu_5 : hasU Tryz.prog 5 = true := by kernel_rfl
@[go_sem] theorem ty_9 : ty Tryz.prog 9 = some (false, 1) := by kernel_rfl
@[go_sem] theorem zer_9 : zer Tryz.prog 9 = some [.string ⟨([] : List UInt8).toArray⟩] := by kernel_rfl
@[go_sem] theorem hu_9 : hasU Tryz.prog 9 = true := by kernel_rfl
@[go_sem] theorem knd_9 : knd Tryz.prog 9 = some true := by kernel_rfl
@[go_sem] theorem ty_22 : ty Tryz.prog 22 = some (false, 1) := by kernel_rfl
@[go_sem] theorem zer_22 : zer Tryz.prog 22 = some [.slice none 0 0] := by kernel_rfl
@[go_sem] theorem hu_22 : hasU Tryz.prog 22 = true := by kernel_rfl
@[go_sem] theorem by_22 : byS Tryz.prog 22 = false := by kernel_rfl
@[go_sem] theorem knd_22 : knd Tryz.prog 22 = some false := by kernel_rfl
@[go_sem] theorem elm_22 : elm Tryz.prog 22 = some (141, 3, 64) := by kernel_rfl
@[go_sem] theorem ty_23 : ty Tryz.prog 23 = some (false, 1) := by kernel_rfl
@[go_sem] theorem zer_23 : zer Tryz.prog 23 = some [.slice none 0 0] := by kernel_rfl
@[go_sem] theorem hu_23 : hasU Tryz.prog 23 = true := by kernel_rfl
@[go_sem] theorem by_23 : byS Tryz.prog 23 = false := by kernel_rfl
@[go_sem] theorem knd_23 : knd Tryz.prog 23 = some false := by kernel_rfl
@[go_sem] theorem elm_23 : elm Tryz.prog 23 = some (82, 4, 80) := by kernel_rfl
@[go_sem] theorem ty_25 : ty Tryz.prog 25 = some (true, 2) := by kernel_rfl
@[go_sem] theorem zer_25 : zer Tryz.prog 25 = some [.slice none 0 0, .slice none 0 0] := by kernel_rfl
@[go_sem] theorem hu_25 : hasU Tryz.prog 25 = true := by kernel_rfl
@[go_sem] theorem fld_25_0 : fld Tryz.prog 25 0 = some (0, false, 1) := by kernel_rfl
@[go_sem] theorem fld_25_1 : fld Tryz.prog 25 1 = some (1, false, 1) := by kernel_rfl
@[go_sem] theorem plc_25 : plc Tryz.prog 25 = some ([(0, 1), (1, 1)], [.slice none 0 0, .slice none 0 0]) := by kernel_rfl
@[go_sem] theorem ty_28 : ty Tryz.prog 28 = some (false, 1) := by kernel_rfl
@[go_sem] theorem zer_28 : zer Tryz.prog 28 = some [.slice none 0 0] := by kernel_rfl
@[go_sem] theorem hu_28 : hasU Tryz.prog 28 = true := by kernel_rfl
@[go_sem] theorem by_28 : byS Tryz.prog 28 = false := by kernel_rfl
@[go_sem] theorem knd_28 : knd Tryz.prog 28 = some false := by kernel_rfl
@[go_sem] theorem elm_28 : elm Tryz.prog 28 = some (99, 3, 64) := by kernel_rfl
@[go_sem] theorem ty_29 : ty Tryz.prog 29 = some (false, 1) := by kernel_rfl
@[go_sem] theorem zer_29 : zer Tryz.prog 29 = some [.slice none 0 0] := by kernel_rfl
@[go_sem] theorem hu_29 : hasU Tryz.prog 29 = true := by kernel_rfl
@[go_sem] theorem by_29 : byS Tryz.prog 29 = false := by kernel_rfl
@[go_sem] theorem knd_29 : knd Tryz.prog 29 = some false := by kernel_rfl
@[go_sem] theorem elm_29 : elm Tryz.prog 29 = some (88, 4, 80) := by kernel_rfl
@[go_sem] theorem ty_31 : ty Tryz.prog 31 = some (true, 2) := by kernel_rfl
@[go_sem] theorem zer_31 : zer Tryz.prog 31 = some [.slice none 0 0, .slice none 0 0] := by kernel_rfl
@[go_sem] theorem hu_31 : hasU Tryz.prog 31 = true := by kernel_rfl
@[go_sem] theorem fld_31_0 : fld Tryz.prog 31 0 = some (0, false, 1) := by kernel_rfl
@[go_sem] theorem fld_31_1 : fld Tryz.prog 31 1 = some (1, false, 1) := by kernel_rfl
@[go_sem] theorem plc_31 : plc Tryz.prog 31 = some ([(0, 1), (1, 1)], [.slice none 0 0, .slice none 0 0]) := by kernel_rfl
@[go_sem] theorem ty_35 : ty Tryz.prog 35 = some (false, 1) := by kernel_rfl
@[go_sem] theorem zer_35 : zer Tryz.prog 35 = some [.slice none 0 0] := by kernel_rfl
@[go_sem] theorem hu_35 : hasU Tryz.prog 35 = true := by kernel_rfl
@[go_sem] theorem by_35 : byS Tryz.prog 35 = false := by kernel_rfl
@[go_sem] theorem knd_35 : knd Tryz.prog 35 = some false := by kernel_rfl
@[go_sem] theorem elm_35 : elm Tryz.prog 35 = some (211, 19, 272) := by kernel_rfl
@[go_sem] theorem ty_36 : ty Tryz.prog 36 = some (false, 1) := by kernel_rfl
@[go_sem] theorem zer_36 : zer Tryz.prog 36 = some [.slice none 0 0] := by kernel_rfl
@[go_sem] theorem hu_36 : hasU Tryz.prog 36 = true := by kernel_rfl
@[go_sem] theorem by_36 : byS Tryz.prog 36 = false := by kernel_rfl
@[go_sem] theorem knd_36 : knd Tryz.prog 36 = some false := by kernel_rfl
@[go_sem] theorem elm_36 : elm Tryz.prog 36 = some (162, 3, 56) := by kernel_rfl
@[go_sem] theorem ty_37 : ty Tryz.prog 37 = some (false, 1) := by kernel_rfl
@[go_sem] theorem zer_37 : zer Tryz.prog 37 = some [.slice none 0 0] := by kernel_rfl
@[go_sem] theorem hu_37 : hasU Tryz.prog 37 = true := by kernel_rfl
@[go_sem] theorem by_37 : byS Tryz.prog 37 = false := by kernel_rfl
@[go_sem] theorem knd_37 : knd Tryz.prog 37 = some false := by kernel_rfl
@[go_sem] theorem elm_37 : elm Tryz.prog 37 = some (214, 3, 40) := by kernel_rfl
@[go_sem] theorem ty_39 : ty Tryz.prog 39 = some (true, 5) := by kernel_rfl
@[go_sem] theorem zer_39 : zer Tryz.prog 39 = some [.bool false, .int .i64 0, .int .i64 0, .string ⟨([] : List UInt8).toArray⟩, .slice none 0 0] := by kernel_rfl
@[go_sem] theorem hu_39 : hasU Tryz.prog 39 = true := by kernel_rfl
@[go_sem] theorem fld_39_0 : fld Tryz.prog 39 0 = some (0, false, 1) := by kernel_rfl
@[go_sem] theorem fld_39_1 : fld Tryz.prog 39 1 = some (1, false, 1) := by kernel_rfl
@[go_sem] theorem fld_39_2 : fld Tryz.prog 39 2 = some (2, false, 1) := by kernel_rfl
@[go_sem] theorem fld_39_3 : fld Tryz.prog 39 3 = some (3, false, 1) := by kernel_rfl
@[go_sem] theorem fld_39_4 : fld Tryz.prog 39 4 = some (4, false, 1) := by kernel_rfl
@[go_sem] theorem plc_39 : plc Tryz.prog 39 = some ([(0, 1), (1, 1), (2, 1), (3, 1), (4, 1)], [.bool false, .int .i64 0, .int .i64 0, .string ⟨([] : List UInt8).toArray⟩, .slice none 0 0]) := by kernel_rfl
@[go_sem] theorem ty_41 : ty Tryz.prog 41 = some (true, 10) := by kernel_rfl
@[go_sem] theorem zer_41 : zer Tryz.prog 41 = some [.slice none 0 0, .slice none 0 0, .slice none 0 0, .int .i64 0, .slice none 0 0, .bool false, .int .i64 0, .int .i64 0, .string ⟨([] : List UInt8).toArray⟩, .slice none 0 0] := by kernel_rfl
@[go_sem] theorem hu_41 : hasU Tryz.prog 41 = true := by kernel_rfl
@[go_sem] theorem fld_41_0 : fld Tryz.prog 41 0 = some (0, false, 1) := by kernel_rfl
@[go_sem] theorem fld_41_1 : fld Tryz.prog 41 1 = some (1, false, 1) := by kernel_rfl
@[go_sem] theorem fld_41_2 : fld Tryz.prog 41 2 = some (2, false, 1) := by kernel_rfl
@[go_sem] theorem fld_41_3 : fld Tryz.prog 41 3 = some (3, false, 1) := by kernel_rfl
@[go_sem] theorem fld_41_4 : fld Tryz.prog 41 4 = some (4, false, 1) := by kernel_rfl
@[go_sem] theorem fld_41_5 : fld Tryz.prog 41 5 = some (5, true, 5) := by kernel_rfl
@[go_sem] theorem plc_41 : plc Tryz.prog 41 = some ([(0, 1), (1, 1), (2, 1), (3, 1), (4, 1), (5, 5)], [.slice none 0 0, .slice none 0 0, .slice none 0 0, .int .i64 0, .slice none 0 0, .bool false, .int .i64 0, .int .i64 0, .string ⟨([] : List UInt8).toArray⟩, .slice none 0 0]) := by kernel_rfl
@[go_sem] theorem ty_43 : ty Tryz.prog 43 = some (true, 15) := by kernel_rfl
@[go_sem] theorem zer_43 : zer Tryz.prog 43 = some [.string ⟨([] : List UInt8).toArray⟩, .slice none 0 0, .slice none 0 0, .slice none 0 0, .int .i64 0, .slice none 0 0, .bool false, .int .i64 0, .int .i64 0, .string ⟨([] : List UInt8).toArray⟩, .slice none 0 0, .slice none 0 0, .bool false, .int .i64 0, .bool false] := by kernel_rfl
@[go_sem] theorem hu_43 : hasU Tryz.prog 43 = true := by kernel_rfl
@[go_sem] theorem fld_43_0 : fld Tryz.prog 43 0 = some (0, false, 1) := by kernel_rfl
@[go_sem] theorem fld_43_1 : fld Tryz.prog 43 1 = some (1, true, 10) := by kernel_rfl
@[go_sem] theorem fld_43_2 : fld Tryz.prog 43 2 = some (11, false, 1) := by kernel_rfl
@[go_sem] theorem fld_43_3 : fld Tryz.prog 43 3 = some (12, false, 1) := by kernel_rfl
@[go_sem] theorem fld_43_4 : fld Tryz.prog 43 4 = some (13, false, 1) := by kernel_rfl
@[go_sem] theorem fld_43_5 : fld Tryz.prog 43 5 = some (14, false, 1) := by kernel_rfl
@[go_sem] theorem plc_43 : plc Tryz.prog 43 = some ([(0, 1), (1, 10), (11, 1), (12, 1), (13, 1), (14, 1)], [.string ⟨([] : List UInt8).toArray⟩, .slice none 0 0, .slice none 0 0, .slice none 0 0, .int .i64 0, .slice none 0 0, .bool false, .int .i64 0, .int .i64 0, .string ⟨([] : List UInt8).toArray⟩, .slice none 0 0, .slice none 0 0, .bool false, .int .i64 0, .bool false]) := by kernel_rfl
@[go_sem] theorem ty_45 : ty Tryz.prog 45 = some (false, 1) := by kernel_rfl
@[go_sem] theorem zer_45 : zer Tryz.prog 45 = some [.slice none 0 0] := by kernel_rfl
@[go_sem] theorem hu_45 : hasU Tryz.prog 45 = true := by kernel_rfl
@[go_sem] theorem by_45 : byS Tryz.prog 45 = false := by kernel_rfl
@[go_sem] theorem knd_45 : knd Tryz.prog 45 = some false := by kernel_rfl
@[go_sem] theorem elm_45 : elm Tryz.prog 45 = some (219, 19, 272) := by kernel_rfl
@[go_sem] theorem ty_46 : ty Tryz.prog 46 = some (false, 1) := by kernel_rfl
@[go_sem] theorem zer_46 : zer Tryz.prog 46 = some [.slice none 0 0] := by kernel_rfl
@[go_sem] theorem hu_46 : hasU Tryz.prog 46 = true := by kernel_rfl
@[go_sem] theorem by_46 : byS Tryz.prog 46 = false := by kernel_rfl
@[go_sem] theorem knd_46 : knd Tryz.prog 46 = some false := by kernel_rfl
@[go_sem] theorem elm_46 : elm Tryz.prog 46 = some (170, 3, 56) := by kernel_rfl
@[go_sem] theorem ty_47 : ty Tryz.prog 47 = some (false, 1) := by kernel_rfl
@[go_sem] theorem zer_47 : zer Tryz.prog 47 = some [.slice none 0 0] := by kernel_rfl
@[go_sem] theorem hu_47 : hasU Tryz.prog 47 = true := by kernel_rfl
@[go_sem] theorem by_47 : byS Tryz.prog 47 = false := by kernel_rfl
@[go_sem] theorem knd_47 : knd Tryz.prog 47 = some false := by kernel_rfl
@[go_sem] theorem elm_47 : elm Tryz.prog 47 = some (222, 3, 40) := by kernel_rfl
@[go_sem] theorem ty_49 : ty Tryz.prog 49 = some (true, 5) := by kernel_rfl
@[go_sem] theorem zer_49 : zer Tryz.prog 49 = some [.bool false, .int .i64 0, .int .i64 0, .string ⟨([] : List UInt8).toArray⟩, .slice none 0 0] := by kernel_rfl
@[go_sem] theorem hu_49 : hasU Tryz.prog 49 = true := by kernel_rfl
@[go_sem] theorem fld_49_0 : fld Tryz.prog 49 0 = some (0, false, 1) := by kernel_rfl
@[go_sem] theorem fld_49_1 : fld Tryz.prog 49 1 = some (1, false, 1) := by kernel_rfl
@[go_sem] theorem fld_49_2 : fld Tryz.prog 49 2 = some (2, false, 1) := by kernel_rfl
@[go_sem] theorem fld_49_3 : fld Tryz.prog 49 3 = some (3, false, 1) := by kernel_rfl
@[go_sem] theorem fld_49_4 : fld Tryz.prog 49 4 = some (4, false, 1) := by kernel_rfl
@[go_sem] theorem plc_49 : plc Tryz.prog 49 = some ([(0, 1), (1, 1), (2, 1), (3, 1), (4, 1)], [.bool false, .int .i64 0, .int .i64 0, .string ⟨([] : List UInt8).toArray⟩, .slice none 0 0]) := by kernel_rfl
@[go_sem] theorem ty_51 : ty Tryz.prog 51 = some (true, 10) := by kernel_rfl
@[go_sem] theorem zer_51 : zer Tryz.prog 51 = some [.slice none 0 0, .slice none 0 0, .slice none 0 0, .int .i64 0, .slice none 0 0, .bool false, .int .i64 0, .int .i64 0, .string ⟨([] : List UInt8).toArray⟩, .slice none 0 0] := by kernel_rfl
@[go_sem] theorem hu_51 : hasU Tryz.prog 51 = true := by kernel_rfl
@[go_sem] theorem fld_51_0 : fld Tryz.prog 51 0 = some (0, false, 1) := by kernel_rfl
@[go_sem] theorem fld_51_1 : fld Tryz.prog 51 1 = some (1, false, 1) := by kernel_rfl
@[go_sem] theorem fld_51_2 : fld Tryz.prog 51 2 = some (2, false, 1) := by kernel_rfl
@[go_sem] theorem fld_51_3 : fld Tryz.prog 51 3 = some (3, false, 1) := by kernel_rfl
@[go_sem] theorem fld_51_4 : fld Tryz.prog 51 4 = some (4, false, 1) := by kernel_rfl
@[go_sem] theorem fld_51_5 : fld Tryz.prog 51 5 = some (5, true, 5) := by kernel_rfl
@[go_sem] theorem plc_51 : plc Tryz.prog 51 = some ([(0, 1), (1, 1), (2, 1), (3, 1), (4, 1), (5, 5)], [.slice none 0 0, .slice none 0 0, .slice none 0 0, .int .i64 0, .slice none 0 0, .bool false, .int .i64 0, .int .i64 0, .string ⟨([] : List UInt8).toArray⟩, .slice none 0 0]) := by kernel_rfl
@[go_sem] theorem ty_53 : ty Tryz.prog 53 = some (true, 15) := by kernel_rfl
@[go_sem] theorem zer_53 : zer Tryz.prog 53 = some [.string ⟨([] : List UInt8).toArray⟩, .slice none 0 0, .slice none 0 0, .slice none 0 0, .int .i64 0, .slice none 0 0, .bool false, .int .i64 0, .int .i64 0, .string ⟨([] : List UInt8).toArray⟩, .slice none 0 0, .slice none 0 0, .bool false, .int .i64 0, .bool false] := by kernel_rfl
@[go_sem] theorem hu_53 : hasU Tryz.prog 53 = true := by kernel_rfl
@[go_sem] theorem fld_53_0 : fld Tryz.prog 53 0 = some (0, false, 1) := by kernel_rfl
@[go_sem] theorem fld_53_1 : fld Tryz.prog 53 1 = some (1, true, 10) := by kernel_rfl
@[go_sem] theorem fld_53_2 : fld Tryz.prog 53 2 = some (11, false, 1) := by kernel_rfl
@[go_sem] theorem fld_53_3 : fld Tryz.prog 53 3 = some (12, false, 1) := by kernel_rfl
@[go_sem] theorem fld_53_4 : fld Tryz.prog 53 4 = some (13, false, 1) := by kernel_rfl
@[go_sem] theorem fld_53_5 : fld Tryz.prog 53 5 = some (14, false, 1) := by kernel_rfl
@[go_sem] theorem plc_53 : plc Tryz.prog 53 = some ([(0, 1), (1, 10), (11, 1), (12, 1), (13, 1), (14, 1)], [.string ⟨([] : List UInt8).toArray⟩, .slice none 0 0, .slice none 0 0, .slice none 0 0, .int .i64 0, .slice none 0 0, .bool false, .int .i64 0, .int .i64 0, .string ⟨([] : List UInt8).toArray⟩, .slice none 0 0, .slice none 0 0, .bool false, .int .i64 0, .bool false]) := by kernel_rfl
@[go_sem] theorem ty_59 : ty Tryz.prog 59 = some (false, 1) := by kernel_rfl
@[go_sem] theorem zer_59 : zer Tryz.prog 59 = some [.slice none 0 0] := by kernel_rfl
@[go_sem] theorem hu_59 : hasU Tryz.prog 59 = true := by kernel_rfl
@[go_sem] theorem by_59 : byS Tryz.prog 59 = false := by kernel_rfl
@[go_sem] theorem knd_59 : knd Tryz.prog 59 = some false := by kernel_rfl
@[go_sem] theorem elm_59 : elm Tryz.prog 59 = some (43, 15, 232) := by kernel_rfl
@[go_sem] theorem ty_60 : ty Tryz.prog 60 = some (false, 1) := by kernel_rfl
@[go_sem] theorem zer_60 : zer Tryz.prog 60 = some [.slice none 0 0] := by kernel_rfl
@[go_sem] theorem hu_60 : hasU Tryz.prog 60 = true := by kernel_rfl
@[go_sem] theorem by_60 : byS Tryz.prog 60 = false := by kernel_rfl
@[go_sem] theorem knd_60 : knd Tryz.prog 60 = some false := by kernel_rfl
@[go_sem] theorem elm_60 : elm Tryz.prog 60 = some (230, 3, 48) := by kernel_rfl
@[go_sem] theorem ty_62 : ty Tryz.prog 62 = some (true, 2) := by kernel_rfl
@[go_sem] theorem zer_62 : zer Tryz.prog 62 = some [.int .i64 0, .slice none 0 0] := by kernel_rfl
@[go_sem] theorem hu_62 : hasU Tryz.prog 62 = true := by kernel_rfl
@[go_sem] theorem fld_62_0 : fld Tryz.prog 62 0 = some (0, false, 1) := by kernel_rfl
@[go_sem] theorem fld_62_1 : fld Tryz.prog 62 1 = some (1, false, 1) := by kernel_rfl
@[go_sem] theorem plc_62 : plc Tryz.prog 62 = some ([(0, 1), (1, 1)], [.int .i64 0, .slice none 0 0]) := by kernel_rfl
@[go_sem] theorem ty_64 : ty Tryz.prog 64 = some (true, 8) := by kernel_rfl
@[go_sem] theorem zer_64 : zer Tryz.prog 64 = some [.slice none 0 0, .slice none 0 0, .slice none 0 0, .int .i64 0, .slice none 0 0, .int .i64 0, .slice none 0 0, .int .i64 0] := by kernel_rfl
@[go_sem] theorem hu_64 : hasU Tryz.prog 64 = true := by kernel_rfl
@[go_sem] theorem fld_64_0 : fld Tryz.prog 64 0 = some (0, true, 2) := by kernel_rfl
@[go_sem] theorem fld_64_1 : fld Tryz.prog 64 1 = some (2, false, 1) := by kernel_rfl
@[go_sem] theorem fld_64_2 : fld Tryz.prog 64 2 = some (3, true, 2) := by kernel_rfl
@[go_sem] theorem fld_64_3 : fld Tryz.prog 64 3 = some (5, true, 2) := by kernel_rfl
@[go_sem] theorem fld_64_4 : fld Tryz.prog 64 4 = some (7, false, 1) := by kernel_rfl
@[go_sem] theorem plc_64 : plc Tryz.prog 64 = some ([(0, 2), (2, 1), (3, 2), (5, 2), (7, 1)], [.slice none 0 0, .slice none 0 0, .slice none 0 0, .int .i64 0, .slice none 0 0, .int .i64 0, .slice none 0 0, .int .i64 0]) := by kernel_rfl
@[go_sem] theorem ty_66 : ty Tryz.prog 66 = some (false, 1) := by kernel_rfl
@[go_sem] theorem zer_66 : zer Tryz.prog 66 = some [.slice none 0 0] := by kernel_rfl
@[go_sem] theorem hu_66 : hasU Tryz.prog 66 = true := by kernel_rfl
@[go_sem] theorem by_66 : byS Tryz.prog 66 = false := by kernel_rfl
@[go_sem] theorem knd_66 : knd Tryz.prog 66 = some false := by kernel_rfl
@[go_sem] theorem elm_66 : elm Tryz.prog 66 = some (9, 1, 16) := by kernel_rfl
@[go_sem] theorem ty_68 : ty Tryz.prog 68 = some (false, 1) := by kernel_rfl
@[go_sem] theorem zer_68 : zer Tryz.prog 68 = some [.slice none 0 0] := by kernel_rfl
@[go_sem] theorem hu_68 : hasU Tryz.prog 68 = true := by kernel_rfl
@[go_sem] theorem by_68 : byS Tryz.prog 68 = false := by kernel_rfl
@[go_sem] theorem knd_68 : knd Tryz.prog 68 = some false := by kernel_rfl
@[go_sem] theorem elm_68 : elm Tryz.prog 68 = some (53, 15, 232) := by kernel_rfl
@[go_sem] theorem ty_69 : ty Tryz.prog 69 = some (false, 1) := by kernel_rfl
@[go_sem] theorem zer_69 : zer Tryz.prog 69 = some [.slice none 0 0] := by kernel_rfl
@[go_sem] theorem hu_69 : hasU Tryz.prog 69 = true := by kernel_rfl
@[go_sem] theorem by_69 : byS Tryz.prog 69 = false := by kernel_rfl
@[go_sem] theorem knd_69 : knd Tryz.prog 69 = some false := by kernel_rfl
@[go_sem] theorem elm_69 : elm Tryz.prog 69 = some (232, 3, 48) := by kernel_rfl
@[go_sem] theorem ty_71 : ty Tryz.prog 71 = some (true, 2) := by kernel_rfl
@[go_sem] theorem zer_71 : zer Tryz.prog 71 = some [.int .i64 0, .slice none 0 0] := by kernel_rfl
@[go_sem] theorem hu_71 : hasU Tryz.prog 71 = true := by kernel_rfl
@[go_sem] theorem fld_71_0 : fld Tryz.prog 71 0 = some (0, false, 1) := by kernel_rfl
@[go_sem] theorem fld_71_1 : fld Tryz.prog 71 1 = some (1, false, 1) := by kernel_rfl
@[go_sem] theorem plc_71 : plc Tryz.prog 71 = some ([(0, 1), (1, 1)], [.int .i64 0, .slice none 0 0]) := by kernel_rfl
@[go_sem] theorem ty_73 : ty Tryz.prog 73 = some (true, 8) := by kernel_rfl
@[go_sem] theorem zer_73 : zer Tryz.prog 73 = some [.slice none 0 0, .slice none 0 0, .slice none 0 0, .int .i64 0, .slice none 0 0, .int .i64 0, .slice none 0 0, .int .i64 0] := by kernel_rfl
@[go_sem] theorem hu_73 : hasU Tryz.prog 73 = true := by kernel_rfl
@[go_sem] theorem fld_73_0 : fld Tryz.prog 73 0 = some (0, true, 2) := by kernel_rfl
@[go_sem] theorem fld_73_1 : fld Tryz.prog 73 1 = some (2, false, 1) := by kernel_rfl
@[go_sem] theorem fld_73_2 : fld Tryz.prog 73 2 = some (3, true, 2) := by kernel_rfl
@[go_sem] theorem fld_73_3 : fld Tryz.prog 73 3 = some (5, true, 2) := by kernel_rfl
@[go_sem] theorem fld_73_4 : fld Tryz.prog 73 4 = some (7, false, 1) := by kernel_rfl
@[go_sem] theorem plc_73 : plc Tryz.prog 73 = some ([(0, 2), (2, 1), (3, 2), (5, 2), (7, 1)], [.slice none 0 0, .slice none 0 0, .slice none 0 0, .int .i64 0, .slice none 0 0, .int .i64 0, .slice none 0 0, .int .i64 0]) := by kernel_rfl
@[go_sem] theorem ty_80 : ty Tryz.prog 80 = some (false, 1) := by kernel_rfl
@[go_sem] theorem zer_80 : zer Tryz.prog 80 = some [.slice none 0 0] := by kernel_rfl
@[go_sem] theorem hu_80 : hasU Tryz.prog 80 = true := by kernel_rfl
@[go_sem] theorem by_80 : byS Tryz.prog 80 = false := by kernel_rfl
@[go_sem] theorem knd_80 : knd Tryz.prog 80 = some false := by kernel_rfl
@[go_sem] theorem elm_80 : elm Tryz.prog 80 = some (186, 2, 32) := by kernel_rfl
@[go_sem] theorem ty_82 : ty Tryz.prog 82 = some (true, 4) := by kernel_rfl
@[go_sem] theorem zer_82 : zer Tryz.prog 82 = some [.string ⟨([] : List UInt8).toArray⟩, .string ⟨([] : List UInt8).toArray⟩, .slice none 0 0, .slice none 0 0] := by kernel_rfl
@[go_sem] theorem hu_82 : hasU Tryz.prog 82 = true := by kernel_rfl
@[go_sem] theorem fld_82_0 : fld Tryz.prog 82 0 = some (0, false, 1) := by kernel_rfl
@[go_sem] theorem fld_82_1 : fld Tryz.prog 82 1 = some (1, false, 1) := by kernel_rfl
@[go_sem] theorem fld_82_2 : fld Tryz.prog 82 2 = some (2, false, 1) := by kernel_rfl
@[go_sem] theorem fld_82_3 : fld Tryz.prog 82 3 = some (3, false, 1) := by kernel_rfl
@[go_sem] theorem plc_82 : plc Tryz.prog 82 = some ([(0, 1), (1, 1), (2, 1), (3, 1)], [.string ⟨([] : List UInt8).toArray⟩, .string ⟨([] : List UInt8).toArray⟩, .slice none 0 0, .slice none 0 0]) := by kernel_rfl
@[go_sem] theorem ty_86 : ty Tryz.prog 86 = some (false, 1) := by kernel_rfl
@[go_sem] theorem zer_86 : zer Tryz.prog 86 = some [.slice none 0 0] := by kernel_rfl
@[go_sem] theorem hu_86 : hasU Tryz.prog 86 = true := by kernel_rfl
@[go_sem] theorem by_86 : byS Tryz.prog 86 = false := by kernel_rfl
@[go_sem] theorem knd_86 : knd Tryz.prog 86 = some false := by kernel_rfl
@[go_sem] theorem elm_86 : elm Tryz.prog 86 = some (188, 2, 32) := by kernel_rfl
@[go_sem] theorem ty_88 : ty Tryz.prog 88 = some (true, 4) := by kernel_rfl
@[go_sem] theorem zer_88 : zer Tryz.prog 88 = some [.string ⟨([] : List UInt8).toArray⟩, .string ⟨([] : List UInt8).toArray⟩, .slice none 0 0, .slice none 0 0] := by kernel_rfl
@[go_sem] theorem hu_88 : hasU Tryz.prog 88 = true := by kernel_rfl
@[go_sem] theorem fld_88_0 : fld Tryz.prog 88 0 = some (0, false, 1) := by kernel_rfl
@[go_sem] theorem fld_88_1 : fld Tryz.prog 88 1 = some (1, false, 1) := by kernel_rfl
@[go_sem] theorem fld_88_2 : fld Tryz.prog 88 2 = some (2, false, 1) := by kernel_rfl
@[go_sem] theorem fld_88_3 : fld Tryz.prog 88 3 = some (3, false, 1) := by kernel_rfl
@[go_sem] theorem plc_88 : plc Tryz.prog 88 = some ([(0, 1), (1, 1), (2, 1), (3, 1)], [.string ⟨([] : List UInt8).toArray⟩, .string ⟨([] : List UInt8).toArray⟩, .slice none 0 0, .slice none 0 0]) := by kernel_rfl
@[go_sem] theorem ty_97 : ty Tryz.prog 97 = some (false, 1) := by kernel_rfl
@[go_sem] theorem zer_97 : zer Tryz.prog 97 = some [.slice none 0 0] := by kernel_rfl
@[go_sem] theorem hu_97 : hasU Tryz.prog 97 = true := by kernel_rfl
@[go_sem] theorem by_97 : byS Tryz.prog 97 = false := by kernel_rfl
@[go_sem] theorem knd_97 : knd Tryz.prog 97 = some false := by kernel_rfl
@[go_sem] theorem elm_97 : elm Tryz.prog 97 = some (146, 6, 104) := by kernel_rfl
@[go_sem] theorem ty_99 : ty Tryz.prog 99 = some (true, 3) := by kernel_rfl
@[go_sem] theorem zer_99 : zer Tryz.prog 99 = some [.string ⟨([] : List UInt8).toArray⟩, .slice none 0 0, .slice none 0 0] := by kernel_rfl
@[go_sem] theorem hu_99 : hasU Tryz.prog 99 = true := by kernel_rfl
@[go_sem] theorem fld_99_0 : fld Tryz.prog 99 0 = some (0, false, 1) := by kernel_rfl
@[go_sem] theorem fld_99_1 : fld Tryz.prog 99 1 = some (1, false, 1) := by kernel_rfl
@[go_sem] theorem fld_99_2 : fld Tryz.prog 99 2 = some (2, false, 1) := by kernel_rfl
@[go_sem] theorem plc_99 : plc Tryz.prog 99 = some ([(0, 1), (1, 1), (2, 1)], [.string ⟨([] : List UInt8).toArray⟩, .slice none 0 0, .slice none 0 0]) := by kernel_rfl
@[go_sem] theorem ty_139 : ty Tryz.prog 139 = some (false, 1) := by kernel_rfl
@[go_sem] theorem zer_139 : zer Tryz.prog 139 = some [.slice none 0 0] := by kernel_rfl
@[go_sem] theorem hu_139 : hasU Tryz.prog 139 = true := by kernel_rfl
@[go_sem] theorem by_139 : byS Tryz.prog 139 = false := by kernel_rfl
@[go_sem] theorem knd_139 : knd Tryz.prog 139 = some false := by kernel_rfl
@[go_sem] theorem elm_139 : elm Tryz.prog 139 = some (237, 6, 104) := by kernel_rfl
@[go_sem] theorem ty_141 : ty Tryz.prog 141 = some (true, 3) := by kernel_rfl
@[go_sem] theorem zer_141 : zer Tryz.prog 141 = some [.string ⟨([] : List UInt8).toArray⟩, .slice none 0 0, .slice none 0 0] := by kernel_rfl
@[go_sem] theorem hu_141 : hasU Tryz.prog 141 = true := by kernel_rfl
@[go_sem] theorem fld_141_0 : fld Tryz.prog 141 0 = some (0, false, 1) := by kernel_rfl
@[go_sem] theorem fld_141_1 : fld Tryz.prog 141 1 = some (1, false, 1) := by kernel_rfl
@[go_sem] theorem fld_141_2 : fld Tryz.prog 141 2 = some (2, false, 1) := by kernel_rfl
@[go_sem] theorem plc_141 : plc Tryz.prog 141 = some ([(0, 1), (1, 1), (2, 1)], [.string ⟨([] : List UInt8).toArray⟩, .slice none 0 0, .slice none 0 0]) := by kernel_rfl
@[go_sem] theorem ty_142 : ty Tryz.prog 142 = some (false, 1) := by kernel_rfl
@[go_sem] theorem zer_142 : zer Tryz.prog 142 = some [.slice none 0 0] := by kernel_rfl
@[go_sem] theorem hu_142 : hasU Tryz.prog 142 = true := by kernel_rfl
@[go_sem] theorem by_142 : byS Tryz.prog 142 = false := by kernel_rfl
@[go_sem] theorem knd_142 : knd Tryz.prog 142 = some false := by kernel_rfl
@[go_sem] theorem elm_142 : elm Tryz.prog 142 = some (197, 2, 16) := by kernel_rfl
@[go_sem] theorem ty_144 : ty Tryz.prog 144 = some (true, 5) := by kernel_rfl
@[go_sem] theorem zer_144 : zer Tryz.prog 144 = some [.int .i64 0, .slice none 0 0, .slice none 0 0, .string ⟨([] : List UInt8).toArray⟩, .string ⟨([] : List UInt8).toArray⟩] := by kernel_rfl
@[go_sem] theorem hu_144 : hasU Tryz.prog 144 = true := by kernel_rfl
@[go_sem] theorem fld_144_0 : fld Tryz.prog 144 0 = some (0, false, 1) := by kernel_rfl
@[go_sem] theorem fld_144_1 : fld Tryz.prog 144 1 = some (1, false, 1) := by kernel_rfl
@[go_sem] theorem fld_144_2 : fld Tryz.prog 144 2 = some (2, false, 1) := by kernel_rfl
@[go_sem] theorem fld_144_3 : fld Tryz.prog 144 3 = some (3, false, 1) := by kernel_rfl
@[go_sem] theorem fld_144_4 : fld Tryz.prog 144 4 = some (4, false, 1) := by kernel_rfl
@[go_sem] theorem plc_144 : plc Tryz.prog 144 = some ([(0, 1), (1, 1), (2, 1), (3, 1), (4, 1)], [.int .i64 0, .slice none 0 0, .slice none 0 0, .string ⟨([] : List UInt8).toArray⟩, .string ⟨([] : List UInt8).toArray⟩]) := by kernel_rfl
@[go_sem] theorem ty_146 : ty Tryz.prog 146 = some (true, 6) := by kernel_rfl
@[go_sem] theorem zer_146 : zer Tryz.prog 146 = some [.string ⟨([] : List UInt8).toArray⟩, .int .i64 0, .slice none 0 0, .slice none 0 0, .string ⟨([] : List UInt8).toArray⟩, .string ⟨([] : List UInt8).toArray⟩] := by kernel_rfl
@[go_sem] theorem hu_146 : hasU Tryz.prog 146 = true := by kernel_rfl
@[go_sem] theorem fld_146_0 : fld Tryz.prog 146 0 = some (0, false, 1) := by kernel_rfl
@[go_sem] theorem fld_146_1 : fld Tryz.prog 146 1 = some (1, true, 5) := by kernel_rfl
@[go_sem] theorem plc_146 : plc Tryz.prog 146 = some ([(0, 1), (1, 5)], [.string ⟨([] : List UInt8).toArray⟩, .int .i64 0, .slice none 0 0, .slice none 0 0, .string ⟨([] : List UInt8).toArray⟩, .string ⟨([] : List UInt8).toArray⟩]) := by kernel_rfl
@[go_sem] theorem ty_162 : ty Tryz.prog 162 = some (true, 3) := by kernel_rfl
@[go_sem] theorem zer_162 : zer Tryz.prog 162 = some [.string ⟨([] : List UInt8).toArray⟩, .string ⟨([] : List UInt8).toArray⟩, .slice none 0 0] := by kernel_rfl
@[go_sem] theorem hu_162 : hasU Tryz.prog 162 = true := by kernel_rfl
@[go_sem] theorem fld_162_0 : fld Tryz.prog 162 0 = some (0, false, 1) := by kernel_rfl
@[go_sem] theorem fld_162_1 : fld Tryz.prog 162 1 = some (1, false, 1) := by kernel_rfl
@[go_sem] theorem fld_162_2 : fld Tryz.prog 162 2 = some (2, false, 1) := by kernel_rfl
@[go_sem] theorem plc_162 : plc Tryz.prog 162 = some ([(0, 1), (1, 1), (2, 1)], [.string ⟨([] : List UInt8).toArray⟩, .string ⟨([] : List UInt8).toArray⟩, .slice none 0 0]) := by kernel_rfl
@[go_sem] theorem ty_165 : ty Tryz.prog 165 = some (false, 1) := by kernel_rfl
@[go_sem] theorem zer_165 : zer Tryz.prog 165 = some [.pointer none] := by kernel_rfl
@[go_sem] theorem hu_165 : hasU Tryz.prog 165 = true := by kernel_rfl
@[go_sem] theorem ty_170 : ty Tryz.prog 170 = some (true, 3) := by kernel_rfl
@[go_sem] theorem zer_170 : zer Tryz.prog 170 = some [.string ⟨([] : List UInt8).toArray⟩, .string ⟨([] : List UInt8).toArray⟩, .slice none 0 0] := by kernel_rfl
@[go_sem] theorem hu_170 : hasU Tryz.prog 170 = true := by kernel_rfl
@[go_sem] theorem fld_170_0 : fld Tryz.prog 170 0 = some (0, false, 1) := by kernel_rfl
@[go_sem] theorem fld_170_1 : fld Tryz.prog 170 1 = some (1, false, 1) := by kernel_rfl
@[go_sem] theorem fld_170_2 : fld Tryz.prog 170 2 = some (2, false, 1) := by kernel_rfl
@[go_sem] theorem plc_170 : plc Tryz.prog 170 = some ([(0, 1), (1, 1), (2, 1)], [.string ⟨([] : List UInt8).toArray⟩, .string ⟨([] : List UInt8).toArray⟩, .slice none 0 0]) := by kernel_rfl
@[go_sem] theorem ty_183 : ty Tryz.prog 183 = some (false, 1) := by kernel_rfl
@[go_sem] theorem zer_183 : zer Tryz.prog 183 = some [.slice none 0 0] := by kernel_rfl
@[go_sem] theorem hu_183 : hasU Tryz.prog 183 = true := by kernel_rfl
@[go_sem] theorem by_183 : byS Tryz.prog 183 = true := by kernel_rfl
@[go_sem] theorem knd_183 : knd Tryz.prog 183 = some false := by kernel_rfl
@[go_sem] theorem elm_183 : elm Tryz.prog 183 = some (5, 1, 1) := by kernel_rfl
@[go_sem] theorem ty_186 : ty Tryz.prog 186 = some (true, 2) := by kernel_rfl
@[go_sem] theorem zer_186 : zer Tryz.prog 186 = some [.string ⟨([] : List UInt8).toArray⟩, .string ⟨([] : List UInt8).toArray⟩] := by kernel_rfl
@[go_sem] theorem hu_186 : hasU Tryz.prog 186 = true := by kernel_rfl
@[go_sem] theorem fld_186_0 : fld Tryz.prog 186 0 = some (0, false, 1) := by kernel_rfl
@[go_sem] theorem fld_186_1 : fld Tryz.prog 186 1 = some (1, false, 1) := by kernel_rfl
@[go_sem] theorem plc_186 : plc Tryz.prog 186 = some ([(0, 1), (1, 1)], [.string ⟨([] : List UInt8).toArray⟩, .string ⟨([] : List UInt8).toArray⟩]) := by kernel_rfl
@[go_sem] theorem ty_188 : ty Tryz.prog 188 = some (true, 2) := by kernel_rfl
@[go_sem] theorem zer_188 : zer Tryz.prog 188 = some [.string ⟨([] : List UInt8).toArray⟩, .string ⟨([] : List UInt8).toArray⟩] := by kernel_rfl
@[go_sem] theorem hu_188 : hasU Tryz.prog 188 = true := by kernel_rfl
@[go_sem] theorem fld_188_0 : fld Tryz.prog 188 0 = some (0, false, 1) := by kernel_rfl
@[go_sem] theorem fld_188_1 : fld Tryz.prog 188 1 = some (1, false, 1) := by kernel_rfl
@[go_sem] theorem plc_188 : plc Tryz.prog 188 = some ([(0, 1), (1, 1)], [.string ⟨([] : List UInt8).toArray⟩, .string ⟨([] : List UInt8).toArray⟩]) := by kernel_rfl
@[go_sem] theorem ty_197 : ty Tryz.prog 197 = some (true, 2) := by kernel_rfl
@[go_sem] theorem zer_197 : zer Tryz.prog 197 = some [.int .i64 0, .int .i64 0] := by kernel_rfl
@[go_sem] theorem hu_197 : hasU Tryz.prog 197 = true := by kernel_rfl
@[go_sem] theorem fld_197_0 : fld Tryz.prog 197 0 = some (0, false, 1) := by kernel_rfl
@[go_sem] theorem fld_197_1 : fld Tryz.prog 197 1 = some (1, false, 1) := by kernel_rfl
@[go_sem] theorem plc_197 : plc Tryz.prog 197 = some ([(0, 1), (1, 1)], [.int .i64 0, .int .i64 0]) := by kernel_rfl
@[go_sem] theorem ty_206 : ty Tryz.prog 206 = some (false, 1) := by kernel_rfl
@[go_sem] theorem zer_206 : zer Tryz.prog 206 = some [.slice none 0 0] := by kernel_rfl
@[go_sem] theorem hu_206 : hasU Tryz.prog 206 = true := by kernel_rfl
@[go_sem] theorem by_206 : byS Tryz.prog 206 = false := by kernel_rfl
@[go_sem] theorem knd_206 : knd Tryz.prog 206 = some false := by kernel_rfl
@[go_sem] theorem elm_206 : elm Tryz.prog 206 = some (293, 2, 16) := by kernel_rfl
@[go_sem] theorem ty_208 : ty Tryz.prog 208 = some (true, 5) := by kernel_rfl
@[go_sem] theorem zer_208 : zer Tryz.prog 208 = some [.int .i64 0, .slice none 0 0, .slice none 0 0, .string ⟨([] : List UInt8).toArray⟩, .string ⟨([] : List UInt8).toArray⟩] := by kernel_rfl
@[go_sem] theorem hu_208 : hasU Tryz.prog 208 = true := by kernel_rfl
@[go_sem] theorem fld_208_0 : fld Tryz.prog 208 0 = some (0, false, 1) := by kernel_rfl
@[go_sem] theorem fld_208_1 : fld Tryz.prog 208 1 = some (1, false, 1) := by kernel_rfl
@[go_sem] theorem fld_208_2 : fld Tryz.prog 208 2 = some (2, false, 1) := by kernel_rfl
@[go_sem] theorem fld_208_3 : fld Tryz.prog 208 3 = some (3, false, 1) := by kernel_rfl
@[go_sem] theorem fld_208_4 : fld Tryz.prog 208 4 = some (4, false, 1) := by kernel_rfl
@[go_sem] theorem plc_208 : plc Tryz.prog 208 = some ([(0, 1), (1, 1), (2, 1), (3, 1), (4, 1)], [.int .i64 0, .slice none 0 0, .slice none 0 0, .string ⟨([] : List UInt8).toArray⟩, .string ⟨([] : List UInt8).toArray⟩]) := by kernel_rfl
@[go_sem] theorem ty_209 : ty Tryz.prog 209 = some (false, 1) := by kernel_rfl
@[go_sem] theorem zer_209 : zer Tryz.prog 209 = some [.slice none 0 0] := by kernel_rfl
@[go_sem] theorem hu_209 : hasU Tryz.prog 209 = true := by kernel_rfl
@[go_sem] theorem by_209 : byS Tryz.prog 209 = false := by kernel_rfl
@[go_sem] theorem knd_209 : knd Tryz.prog 209 = some false := by kernel_rfl
@[go_sem] theorem elm_209 : elm Tryz.prog 209 = some (278, 7, 96) := by kernel_rfl
@[go_sem] theorem ty_211 : ty Tryz.prog 211 = some (true, 19) := by kernel_rfl
@[go_sem] theorem zer_211 : zer Tryz.prog 211 = some [.int .i64 0, .string ⟨([] : List UInt8).toArray⟩, .int .i64 0, .slice none 0 0, .slice none 0 0, .string ⟨([] : List UInt8).toArray⟩, .string ⟨([] : List UInt8).toArray⟩, .slice none 0 0, .slice none 0 0, .string ⟨([] : List UInt8).toArray⟩, .bool false, .bool false, .bool false, .bool false, .int .i64 0, .int .i64 0, .slice none 0 0, .slice none 0 0, .slice none 0 0] := by kernel_rfl
@[go_sem] theorem hu_211 : hasU Tryz.prog 211 = true := by kernel_rfl
@[go_sem] theorem fld_211_0 : fld Tryz.prog 211 0 = some (0, false, 1) := by kernel_rfl
@[go_sem] theorem fld_211_1 : fld Tryz.prog 211 1 = some (1, false, 1) := by kernel_rfl
@[go_sem] theorem fld_211_2 : fld Tryz.prog 211 2 = some (2, true, 5) := by kernel_rfl
@[go_sem] theorem fld_211_3 : fld Tryz.prog 211 3 = some (7, false, 1) := by kernel_rfl
@[go_sem] theorem fld_211_4 : fld Tryz.prog 211 4 = some (8, false, 1) := by kernel_rfl
@[go_sem] theorem fld_211_5 : fld Tryz.prog 211 5 = some (9, false, 1) := by kernel_rfl
@[go_sem] theorem fld_211_6 : fld Tryz.prog 211 6 = some (10, false, 1) := by kernel_rfl
@[go_sem] theorem fld_211_7 : fld Tryz.prog 211 7 = some (11, false, 1) := by kernel_rfl
@[go_sem] theorem fld_211_8 : fld Tryz.prog 211 8 = some (12, false, 1) := by kernel_rfl
@[go_sem] theorem fld_211_9 : fld Tryz.prog 211 9 = some (13, false, 1) := by kernel_rfl
@[go_sem] theorem fld_211_10 : fld Tryz.prog 211 10 = some (14, false, 1) := by kernel_rfl
@[go_sem] theorem fld_211_11 : fld Tryz.prog 211 11 = some (15, false, 1) := by kernel_rfl
@[go_sem] theorem fld_211_12 : fld Tryz.prog 211 12 = some (16, false, 1) := by kernel_rfl
@[go_sem] theorem fld_211_13 : fld Tryz.prog 211 13 = some (17, false, 1) := by kernel_rfl
@[go_sem] theorem fld_211_14 : fld Tryz.prog 211 14 = some (18, false, 1) := by kernel_rfl
@[go_sem] theorem plc_211 : plc Tryz.prog 211 = some ([(0, 1), (1, 1), (2, 5), (7, 1), (8, 1), (9, 1), (10, 1), (11, 1), (12, 1), (13, 1), (14, 1), (15, 1), (16, 1), (17, 1), (18, 1)], [.int .i64 0, .string ⟨([] : List UInt8).toArray⟩, .int .i64 0, .slice none 0 0, .slice none 0 0, .string ⟨([] : List UInt8).toArray⟩, .string ⟨([] : List UInt8).toArray⟩, .slice none 0 0, .slice none 0 0, .string ⟨([] : List UInt8).toArray⟩, .bool false, .bool false, .bool false, .bool false, .int .i64 0, .int .i64 0, .slice none 0 0, .slice none 0 0, .slice none 0 0]) := by kernel_rfl
@[go_sem] theorem ty_214 : ty Tryz.prog 214 = some (true, 3) := by kernel_rfl
@[go_sem] theorem zer_214 : zer Tryz.prog 214 = some [.slice none 0 0, .int .i64 0, .int .i64 0] := by kernel_rfl
@[go_sem] theorem hu_214 : hasU Tryz.prog 214 = true := by kernel_rfl
@[go_sem] theorem fld_214_0 : fld Tryz.prog 214 0 = some (0, false, 1) := by kernel_rfl
@[go_sem] theorem fld_214_1 : fld Tryz.prog 214 1 = some (1, false, 1) := by kernel_rfl
@[go_sem] theorem fld_214_2 : fld Tryz.prog 214 2 = some (2, false, 1) := by kernel_rfl
@[go_sem] theorem plc_214 : plc Tryz.prog 214 = some ([(0, 1), (1, 1), (2, 1)], [.slice none 0 0, .int .i64 0, .int .i64 0]) := by kernel_rfl
@[go_sem] theorem ty_217 : ty Tryz.prog 217 = some (false, 1) := by kernel_rfl
@[go_sem] theorem zer_217 : zer Tryz.prog 217 = some [.slice none 0 0] := by kernel_rfl
@[go_sem] theorem hu_217 : hasU Tryz.prog 217 = true := by kernel_rfl
@[go_sem] theorem by_217 : byS Tryz.prog 217 = false := by kernel_rfl
@[go_sem] theorem knd_217 : knd Tryz.prog 217 = some false := by kernel_rfl
@[go_sem] theorem elm_217 : elm Tryz.prog 217 = some (261, 7, 96) := by kernel_rfl
@[go_sem] theorem ty_219 : ty Tryz.prog 219 = some (true, 19) := by kernel_rfl
@[go_sem] theorem zer_219 : zer Tryz.prog 219 = some [.int .i64 0, .string ⟨([] : List UInt8).toArray⟩, .int .i64 0, .slice none 0 0, .slice none 0 0, .string ⟨([] : List UInt8).toArray⟩, .string ⟨([] : List UInt8).toArray⟩, .slice none 0 0, .slice none 0 0, .string ⟨([] : List UInt8).toArray⟩, .bool false, .bool false, .bool false, .bool false, .int .i64 0, .int .i64 0, .slice none 0 0, .slice none 0 0, .slice none 0 0] := by kernel_rfl
@[go_sem] theorem hu_219 : hasU Tryz.prog 219 = true := by kernel_rfl
@[go_sem] theorem fld_219_0 : fld Tryz.prog 219 0 = some (0, false, 1) := by kernel_rfl
@[go_sem] theorem fld_219_1 : fld Tryz.prog 219 1 = some (1, false, 1) := by kernel_rfl
@[go_sem] theorem fld_219_2 : fld Tryz.prog 219 2 = some (2, true, 5) := by kernel_rfl
@[go_sem] theorem fld_219_3 : fld Tryz.prog 219 3 = some (7, false, 1) := by kernel_rfl
@[go_sem] theorem fld_219_4 : fld Tryz.prog 219 4 = some (8, false, 1) := by kernel_rfl
@[go_sem] theorem fld_219_5 : fld Tryz.prog 219 5 = some (9, false, 1) := by kernel_rfl
@[go_sem] theorem fld_219_6 : fld Tryz.prog 219 6 = some (10, false, 1) := by kernel_rfl
@[go_sem] theorem fld_219_7 : fld Tryz.prog 219 7 = some (11, false, 1) := by kernel_rfl
@[go_sem] theorem fld_219_8 : fld Tryz.prog 219 8 = some (12, false, 1) := by kernel_rfl
@[go_sem] theorem fld_219_9 : fld Tryz.prog 219 9 = some (13, false, 1) := by kernel_rfl
@[go_sem] theorem fld_219_10 : fld Tryz.prog 219 10 = some (14, false, 1) := by kernel_rfl
@[go_sem] theorem fld_219_11 : fld Tryz.prog 219 11 = some (15, false, 1) := by kernel_rfl
@[go_sem] theorem fld_219_12 : fld Tryz.prog 219 12 = some (16, false, 1) := by kernel_rfl
@[go_sem] theorem fld_219_13 : fld Tryz.prog 219 13 = some (17, false, 1) := by kernel_rfl
@[go_sem] theorem fld_219_14 : fld Tryz.prog 219 14 = some (18, false, 1) := by kernel_rfl
@[go_sem] theorem plc_219 : plc Tryz.prog 219 = some ([(0, 1), (1, 1), (2, 5), (7, 1), (8, 1), (9, 1), (10, 1), (11, 1), (12, 1), (13, 1), (14, 1), (15, 1), (16, 1), (17, 1), (18, 1)], [.int .i64 0, .string ⟨([] : List UInt8).toArray⟩, .int .i64 0, .slice none 0 0, .slice none 0 0, .string ⟨([] : List UInt8).toArray⟩, .string ⟨([] : List UInt8).toArray⟩, .slice none 0 0, .slice none 0 0, .string ⟨([] : List UInt8).toArray⟩, .bool false, .bool false, .bool false, .bool false, .int .i64 0, .int .i64 0, .slice none 0 0, .slice none 0 0, .slice none 0 0]) := by kernel_rfl
@[go_sem] theorem ty_222 : ty Tryz.prog 222 = some (true, 3) := by kernel_rfl
@[go_sem] theorem zer_222 : zer Tryz.prog 222 = some [.slice none 0 0, .int .i64 0, .int .i64 0] := by kernel_rfl
@[go_sem] theorem hu_222 : hasU Tryz.prog 222 = true := by kernel_rfl
@[go_sem] theorem fld_222_0 : fld Tryz.prog 222 0 = some (0, false, 1) := by kernel_rfl
@[go_sem] theorem fld_222_1 : fld Tryz.prog 222 1 = some (1, false, 1) := by kernel_rfl
@[go_sem] theorem fld_222_2 : fld Tryz.prog 222 2 = some (2, false, 1) := by kernel_rfl
@[go_sem] theorem plc_222 : plc Tryz.prog 222 = some ([(0, 1), (1, 1), (2, 1)], [.slice none 0 0, .int .i64 0, .int .i64 0]) := by kernel_rfl
@[go_sem] theorem ty_230 : ty Tryz.prog 230 = some (true, 3) := by kernel_rfl
@[go_sem] theorem zer_230 : zer Tryz.prog 230 = some [.string ⟨([] : List UInt8).toArray⟩, .slice none 0 0, .int .i64 0] := by kernel_rfl
@[go_sem] theorem hu_230 : hasU Tryz.prog 230 = true := by kernel_rfl
@[go_sem] theorem fld_230_0 : fld Tryz.prog 230 0 = some (0, false, 1) := by kernel_rfl
@[go_sem] theorem fld_230_1 : fld Tryz.prog 230 1 = some (1, false, 1) := by kernel_rfl
@[go_sem] theorem fld_230_2 : fld Tryz.prog 230 2 = some (2, false, 1) := by kernel_rfl
@[go_sem] theorem plc_230 : plc Tryz.prog 230 = some ([(0, 1), (1, 1), (2, 1)], [.string ⟨([] : List UInt8).toArray⟩, .slice none 0 0, .int .i64 0]) := by kernel_rfl
@[go_sem] theorem ty_232 : ty Tryz.prog 232 = some (true, 3) := by kernel_rfl
@[go_sem] theorem zer_232 : zer Tryz.prog 232 = some [.string ⟨([] : List UInt8).toArray⟩, .slice none 0 0, .int .i64 0] := by kernel_rfl
@[go_sem] theorem hu_232 : hasU Tryz.prog 232 = true := by kernel_rfl
@[go_sem] theorem fld_232_0 : fld Tryz.prog 232 0 = some (0, false, 1) := by kernel_rfl
@[go_sem] theorem fld_232_1 : fld Tryz.prog 232 1 = some (1, false, 1) := by kernel_rfl
@[go_sem] theorem fld_232_2 : fld Tryz.prog 232 2 = some (2, false, 1) := by kernel_rfl
@[go_sem] theorem plc_232 : plc Tryz.prog 232 = some ([(0, 1), (1, 1), (2, 1)], [.string ⟨([] : List UInt8).toArray⟩, .slice none 0 0, .int .i64 0]) := by kernel_rfl
@[go_sem] theorem ty_237 : ty Tryz.prog 237 = some (true, 6) := by kernel_rfl
@[go_sem] theorem zer_237 : zer Tryz.prog 237 = some [.string ⟨([] : List UInt8).toArray⟩, .int .i64 0, .slice none 0 0, .slice none 0 0, .string ⟨([] : List UInt8).toArray⟩, .string ⟨([] : List UInt8).toArray⟩] := by kernel_rfl
@[go_sem] theorem hu_237 : hasU Tryz.prog 237 = true := by kernel_rfl
@[go_sem] theorem fld_237_0 : fld Tryz.prog 237 0 = some (0, false, 1) := by kernel_rfl
@[go_sem] theorem fld_237_1 : fld Tryz.prog 237 1 = some (1, true, 5) := by kernel_rfl
@[go_sem] theorem plc_237 : plc Tryz.prog 237 = some ([(0, 1), (1, 5)], [.string ⟨([] : List UInt8).toArray⟩, .int .i64 0, .slice none 0 0, .slice none 0 0, .string ⟨([] : List UInt8).toArray⟩, .string ⟨([] : List UInt8).toArray⟩]) := by kernel_rfl
@[go_sem] theorem ty_238 : ty Tryz.prog 238 = some (false, 1) := by kernel_rfl
@[go_sem] theorem zer_238 : zer Tryz.prog 238 = some [.slice none 0 0] := by kernel_rfl
@[go_sem] theorem hu_238 : hasU Tryz.prog 238 = true := by kernel_rfl
@[go_sem] theorem by_238 : byS Tryz.prog 238 = false := by kernel_rfl
@[go_sem] theorem knd_238 : knd Tryz.prog 238 = some false := by kernel_rfl
@[go_sem] theorem elm_238 : elm Tryz.prog 238 = some (240, 3, 48) := by kernel_rfl
@[go_sem] theorem ty_240 : ty Tryz.prog 240 = some (true, 3) := by kernel_rfl
@[go_sem] theorem zer_240 : zer Tryz.prog 240 = some [.int .i64 0, .string ⟨([] : List UInt8).toArray⟩, .slice none 0 0] := by kernel_rfl
@[go_sem] theorem hu_240 : hasU Tryz.prog 240 = true := by kernel_rfl
@[go_sem] theorem fld_240_0 : fld Tryz.prog 240 0 = some (0, false, 1) := by kernel_rfl
@[go_sem] theorem fld_240_1 : fld Tryz.prog 240 1 = some (1, false, 1) := by kernel_rfl
@[go_sem] theorem fld_240_2 : fld Tryz.prog 240 2 = some (2, false, 1) := by kernel_rfl
@[go_sem] theorem plc_240 : plc Tryz.prog 240 = some ([(0, 1), (1, 1), (2, 1)], [.int .i64 0, .string ⟨([] : List UInt8).toArray⟩, .slice none 0 0]) := by kernel_rfl
@[go_sem] theorem ty_257 : ty Tryz.prog 257 = some (false, 1) := by kernel_rfl
@[go_sem] theorem zer_257 : zer Tryz.prog 257 = some [.slice none 0 0] := by kernel_rfl
@[go_sem] theorem hu_257 : hasU Tryz.prog 257 = true := by kernel_rfl
@[go_sem] theorem by_257 : byS Tryz.prog 257 = false := by kernel_rfl
@[go_sem] theorem knd_257 : knd Tryz.prog 257 = some false := by kernel_rfl
@[go_sem] theorem elm_257 : elm Tryz.prog 257 = some (287, 2, 40) := by kernel_rfl
@[go_sem] theorem ty_259 : ty Tryz.prog 259 = some (true, 3) := by kernel_rfl
@[go_sem] theorem zer_259 : zer Tryz.prog 259 = some [.bool false, .int .i64 0, .slice none 0 0] := by kernel_rfl
@[go_sem] theorem hu_259 : hasU Tryz.prog 259 = true := by kernel_rfl
@[go_sem] theorem fld_259_0 : fld Tryz.prog 259 0 = some (0, false, 1) := by kernel_rfl
@[go_sem] theorem fld_259_1 : fld Tryz.prog 259 1 = some (1, false, 1) := by kernel_rfl
@[go_sem] theorem fld_259_2 : fld Tryz.prog 259 2 = some (2, false, 1) := by kernel_rfl
@[go_sem] theorem plc_259 : plc Tryz.prog 259 = some ([(0, 1), (1, 1), (2, 1)], [.bool false, .int .i64 0, .slice none 0 0]) := by kernel_rfl
@[go_sem] theorem ty_261 : ty Tryz.prog 261 = some (true, 7) := by kernel_rfl
@[go_sem] theorem zer_261 : zer Tryz.prog 261 = some [.int .i64 0, .int .i64 0, .string ⟨([] : List UInt8).toArray⟩, .bool false, .int .i64 0, .slice none 0 0, .slice none 0 0] := by kernel_rfl
@[go_sem] theorem hu_261 : hasU Tryz.prog 261 = true := by kernel_rfl
@[go_sem] theorem fld_261_0 : fld Tryz.prog 261 0 = some (0, false, 1) := by kernel_rfl
@[go_sem] theorem fld_261_1 : fld Tryz.prog 261 1 = some (1, false, 1) := by kernel_rfl
@[go_sem] theorem fld_261_2 : fld Tryz.prog 261 2 = some (2, false, 1) := by kernel_rfl
@[go_sem] theorem fld_261_3 : fld Tryz.prog 261 3 = some (3, true, 3) := by kernel_rfl
@[go_sem] theorem fld_261_4 : fld Tryz.prog 261 4 = some (6, false, 1) := by kernel_rfl
@[go_sem] theorem plc_261 : plc Tryz.prog 261 = some ([(0, 1), (1, 1), (2, 1), (3, 3), (6, 1)], [.int .i64 0, .int .i64 0, .string ⟨([] : List UInt8).toArray⟩, .bool false, .int .i64 0, .slice none 0 0, .slice none 0 0]) := by kernel_rfl
@[go_sem] theorem ty_264 : ty Tryz.prog 264 = some (false, 1) := by kernel_rfl
@[go_sem] theorem zer_264 : zer Tryz.prog 264 = some [.pointer none] := by kernel_rfl
@[go_sem] theorem hu_264 : hasU Tryz.prog 264 = true := by kernel_rfl
@[go_sem] theorem ty_266 : ty Tryz.prog 266 = some (true, 3) := by kernel_rfl
@[go_sem] theorem zer_266 : zer Tryz.prog 266 = some [.string ⟨([] : List UInt8).toArray⟩, .int .i64 0, .bool false] := by kernel_rfl
@[go_sem] theorem hu_266 : hasU Tryz.prog 266 = true := by kernel_rfl
@[go_sem] theorem fld_266_0 : fld Tryz.prog 266 0 = some (0, false, 1) := by kernel_rfl
@[go_sem] theorem fld_266_1 : fld Tryz.prog 266 1 = some (1, false, 1) := by kernel_rfl
@[go_sem] theorem fld_266_2 : fld Tryz.prog 266 2 = some (2, false, 1) := by kernel_rfl
@[go_sem] theorem plc_266 : plc Tryz.prog 266 = some ([(0, 1), (1, 1), (2, 1)], [.string ⟨([] : List UInt8).toArray⟩, .int .i64 0, .bool false]) := by kernel_rfl
@[go_sem] theorem ty_268 : ty Tryz.prog 268 = some (false, 1) := by kernel_rfl
@[go_sem] theorem zer_268 : zer Tryz.prog 268 = some [.pointer none] := by kernel_rfl
@[go_sem] theorem hu_268 : hasU Tryz.prog 268 = true := by kernel_rfl
@[go_sem] theorem ty_270 : ty Tryz.prog 270 = some (true, 3) := by kernel_rfl
@[go_sem] theorem zer_270 : zer Tryz.prog 270 = some [.string ⟨([] : List UInt8).toArray⟩, .int .i64 0, .bool false] := by kernel_rfl
@[go_sem] theorem hu_270 : hasU Tryz.prog 270 = true := by kernel_rfl
@[go_sem] theorem fld_270_0 : fld Tryz.prog 270 0 = some (0, false, 1) := by kernel_rfl
@[go_sem] theorem fld_270_1 : fld Tryz.prog 270 1 = some (1, false, 1) := by kernel_rfl
@[go_sem] theorem fld_270_2 : fld Tryz.prog 270 2 = some (2, false, 1) := by kernel_rfl
@[go_sem] theorem plc_270 : plc Tryz.prog 270 = some ([(0, 1), (1, 1), (2, 1)], [.string ⟨([] : List UInt8).toArray⟩, .int .i64 0, .bool false]) := by kernel_rfl
@[go_sem] theorem ty_274 : ty Tryz.prog 274 = some (false, 1) := by kernel_rfl
@[go_sem] theorem zer_274 : zer Tryz.prog 274 = some [.slice none 0 0] := by kernel_rfl
@[go_sem] theorem hu_274 : hasU Tryz.prog 274 = true := by kernel_rfl
@[go_sem] theorem by_274 : byS Tryz.prog 274 = false := by kernel_rfl
@[go_sem] theorem knd_274 : knd Tryz.prog 274 = some false := by kernel_rfl
@[go_sem] theorem elm_274 : elm Tryz.prog 274 = some (306, 2, 40) := by kernel_rfl
@[go_sem] theorem ty_276 : ty Tryz.prog 276 = some (true, 3) := by kernel_rfl
@[go_sem] theorem zer_276 : zer Tryz.prog 276 = some [.bool false, .int .i64 0, .slice none 0 0] := by kernel_rfl
@[go_sem] theorem hu_276 : hasU Tryz.prog 276 = true := by kernel_rfl
@[go_sem] theorem fld_276_0 : fld Tryz.prog 276 0 = some (0, false, 1) := by kernel_rfl
@[go_sem] theorem fld_276_1 : fld Tryz.prog 276 1 = some (1, false, 1) := by kernel_rfl
@[go_sem] theorem fld_276_2 : fld Tryz.prog 276 2 = some (2, false, 1) := by kernel_rfl
@[go_sem] theorem plc_276 : plc Tryz.prog 276 = some ([(0, 1), (1, 1), (2, 1)], [.bool false, .int .i64 0, .slice none 0 0]) := by kernel_rfl
@[go_sem] theorem ty_278 : ty Tryz.prog 278 = some (true, 7) := by kernel_rfl
@[go_sem] theorem zer_278 : zer Tryz.prog 278 = some [.int .i64 0, .int .i64 0, .string ⟨([] : List UInt8).toArray⟩, .bool false, .int .i64 0, .slice none 0 0, .slice none 0 0] := by kernel_rfl
@[go_sem] theorem hu_278 : hasU Tryz.prog 278 = true := by kernel_rfl
@[go_sem] theorem fld_278_0 : fld Tryz.prog 278 0 = some (0, false, 1) := by kernel_rfl
@[go_sem] theorem fld_278_1 : fld Tryz.prog 278 1 = some (1, false, 1) := by kernel_rfl
@[go_sem] theorem fld_278_2 : fld Tryz.prog 278 2 = some (2, false, 1) := by kernel_rfl
@[go_sem] theorem fld_278_3 : fld Tryz.prog 278 3 = some (3, true, 3) := by kernel_rfl
@[go_sem] theorem fld_278_4 : fld Tryz.prog 278 4 = some (6, false, 1) := by kernel_rfl
@[go_sem] theorem plc_278 : plc Tryz.prog 278 = some ([(0, 1), (1, 1), (2, 1), (3, 3), (6, 1)], [.int .i64 0, .int .i64 0, .string ⟨([] : List UInt8).toArray⟩, .bool false, .int .i64 0, .slice none 0 0, .slice none 0 0]) := by kernel_rfl
@[go_sem] theorem ty_285 : ty Tryz.prog 285 = some (false, 1) := by kernel_rfl
@[go_sem] theorem zer_285 : zer Tryz.prog 285 = some [.slice none 0 0] := by kernel_rfl
@[go_sem] theorem hu_285 : hasU Tryz.prog 285 = true := by kernel_rfl
@[go_sem] theorem by_285 : byS Tryz.prog 285 = false := by kernel_rfl
@[go_sem] theorem knd_285 : knd Tryz.prog 285 = some false := by kernel_rfl
@[go_sem] theorem elm_285 : elm Tryz.prog 285 = some (297, 2, 32) := by kernel_rfl
@[go_sem] theorem ty_287 : ty Tryz.prog 287 = some (true, 2) := by kernel_rfl
@[go_sem] theorem zer_287 : zer Tryz.prog 287 = some [.string ⟨([] : List UInt8).toArray⟩, .slice none 0 0] := by kernel_rfl
@[go_sem] theorem hu_287 : hasU Tryz.prog 287 = true := by kernel_rfl
@[go_sem] theorem fld_287_0 : fld Tryz.prog 287 0 = some (0, false, 1) := by kernel_rfl
@[go_sem] theorem fld_287_1 : fld Tryz.prog 287 1 = some (1, false, 1) := by kernel_rfl
@[go_sem] theorem plc_287 : plc Tryz.prog 287 = some ([(0, 1), (1, 1)], [.string ⟨([] : List UInt8).toArray⟩, .slice none 0 0]) := by kernel_rfl
@[go_sem] theorem ty_293 : ty Tryz.prog 293 = some (true, 2) := by kernel_rfl
@[go_sem] theorem zer_293 : zer Tryz.prog 293 = some [.int .i64 0, .int .i64 0] := by kernel_rfl
@[go_sem] theorem hu_293 : hasU Tryz.prog 293 = true := by kernel_rfl
@[go_sem] theorem fld_293_0 : fld Tryz.prog 293 0 = some (0, false, 1) := by kernel_rfl
@[go_sem] theorem fld_293_1 : fld Tryz.prog 293 1 = some (1, false, 1) := by kernel_rfl
@[go_sem] theorem plc_293 : plc Tryz.prog 293 = some ([(0, 1), (1, 1)], [.int .i64 0, .int .i64 0]) := by kernel_rfl
@[go_sem] theorem ty_297 : ty Tryz.prog 297 = some (true, 2) := by kernel_rfl
@[go_sem] theorem zer_297 : zer Tryz.prog 297 = some [.string ⟨([] : List UInt8).toArray⟩, .string ⟨([] : List UInt8).toArray⟩] := by kernel_rfl
@[go_sem] theorem hu_297 : hasU Tryz.prog 297 = true := by kernel_rfl
@[go_sem] theorem fld_297_0 : fld Tryz.prog 297 0 = some (0, false, 1) := by kernel_rfl
@[go_sem] theorem fld_297_1 : fld Tryz.prog 297 1 = some (1, false, 1) := by kernel_rfl
@[go_sem] theorem plc_297 : plc Tryz.prog 297 = some ([(0, 1), (1, 1)], [.string ⟨([] : List UInt8).toArray⟩, .string ⟨([] : List UInt8).toArray⟩]) := by kernel_rfl
@[go_sem] theorem ty_304 : ty Tryz.prog 304 = some (false, 1) := by kernel_rfl
@[go_sem] theorem zer_304 : zer Tryz.prog 304 = some [.slice none 0 0] := by kernel_rfl
@[go_sem] theorem hu_304 : hasU Tryz.prog 304 = true := by kernel_rfl
@[go_sem] theorem by_304 : byS Tryz.prog 304 = false := by kernel_rfl
@[go_sem] theorem knd_304 : knd Tryz.prog 304 = some false := by kernel_rfl
@[go_sem] theorem elm_304 : elm Tryz.prog 304 = some (317, 2, 32) := by kernel_rfl
@[go_sem] theorem ty_306 : ty Tryz.prog 306 = some (true, 2) := by kernel_rfl
@[go_sem] theorem zer_306 : zer Tryz.prog 306 = some [.string ⟨([] : List UInt8).toArray⟩, .slice none 0 0] := by kernel_rfl
@[go_sem] theorem hu_306 : hasU Tryz.prog 306 = true := by kernel_rfl
@[go_sem] theorem fld_306_0 : fld Tryz.prog 306 0 = some (0, false, 1) := by kernel_rfl
@[go_sem] theorem fld_306_1 : fld Tryz.prog 306 1 = some (1, false, 1) := by kernel_rfl
@[go_sem] theorem plc_306 : plc Tryz.prog 306 = some ([(0, 1), (1, 1)], [.string ⟨([] : List UInt8).toArray⟩, .slice none 0 0]) := by kernel_rfl
@[go_sem] theorem ty_309 : ty Tryz.prog 309 = some (false, 1) := by kernel_rfl
@[go_sem] theorem zer_309 : zer Tryz.prog 309 = some [.slice none 0 0] := by kernel_rfl
@[go_sem] theorem hu_309 : hasU Tryz.prog 309 = true := by kernel_rfl
@[go_sem] theorem by_309 : byS Tryz.prog 309 = false := by kernel_rfl
@[go_sem] theorem knd_309 : knd Tryz.prog 309 = some false := by kernel_rfl
@[go_sem] theorem elm_309 : elm Tryz.prog 309 = some (4, 1, 1) := by kernel_rfl
@[go_sem] theorem ty_317 : ty Tryz.prog 317 = some (true, 2) := by kernel_rfl
@[go_sem] theorem zer_317 : zer Tryz.prog 317 = some [.string ⟨([] : List UInt8).toArray⟩, .string ⟨([] : List UInt8).toArray⟩] := by kernel_rfl
@[go_sem] theorem hu_317 : hasU Tryz.prog 317 = true := by kernel_rfl
@[go_sem] theorem fld_317_0 : fld Tryz.prog 317 0 = some (0, false, 1) := by kernel_rfl
@[go_sem] theorem fld_317_1 : fld Tryz.prog 317 1 = some (1, false, 1) := by kernel_rfl
@[go_sem] theorem plc_317 : plc Tryz.prog 317 = some ([(0, 1), (1, 1)], [.string ⟨([] : List UInt8).toArray⟩, .string ⟨([] : List UInt8).toArray⟩]) := by kernel_rfl
theorem en3 : enters Tryz.prog 3 = true := by kernel_rfl
theorem en7 : enters Tryz.prog 7 = true := by kernel_rfl
theorem en8 : enters Tryz.prog 8 = true := by kernel_rfl
theorem en9 : enters Tryz.prog 9 = true := by kernel_rfl
theorem en10 : enters Tryz.prog 10 = true := by kernel_rfl
theorem en11 : enters Tryz.prog 11 = true := by kernel_rfl
theorem en23 : enters Tryz.prog 23 = true := by kernel_rfl
theorem en28 : enters Tryz.prog 28 = true := by kernel_rfl
theorem en30 : enters Tryz.prog 30 = true := by kernel_rfl
theorem en32 : enters Tryz.prog 32 = true := by kernel_rfl
theorem en36 : enters Tryz.prog 36 = true := by kernel_rfl
theorem en37 : enters Tryz.prog 37 = true := by kernel_rfl
theorem en38 : enters Tryz.prog 38 = true := by kernel_rfl
theorem en39 : enters Tryz.prog 39 = true := by kernel_rfl
theorem en40 : enters Tryz.prog 40 = true := by kernel_rfl
theorem en41 : enters Tryz.prog 41 = true := by kernel_rfl
theorem en42 : enters Tryz.prog 42 = true := by kernel_rfl
theorem en43 : enters Tryz.prog 43 = true := by kernel_rfl
theorem en44 : enters Tryz.prog 44 = true := by kernel_rfl
theorem en45 : enters Tryz.prog 45 = true := by kernel_rfl
theorem en46 : enters Tryz.prog 46 = true := by kernel_rfl
theorem en47 : enters Tryz.prog 47 = true := by kernel_rfl
theorem en48 : enters Tryz.prog 48 = true := by kernel_rfl
theorem en49 : enters Tryz.prog 49 = true := by kernel_rfl
theorem en51 : enters Tryz.prog 51 = true := by kernel_rfl
theorem en55 : enters Tryz.prog 55 = true := by kernel_rfl
theorem en59 : enters Tryz.prog 59 = true := by kernel_rfl
theorem en73 : enters Tryz.prog 73 = true := by kernel_rfl
theorem en74 : enters Tryz.prog 74 = true := by kernel_rfl
theorem en77 : enters Tryz.prog 77 = true := by kernel_rfl
theorem en78 : enters Tryz.prog 78 = true := by kernel_rfl
theorem en84 : enters Tryz.prog 84 = true := by kernel_rfl
theorem en90 : enters Tryz.prog 90 = true := by kernel_rfl
theorem en91 : enters Tryz.prog 91 = true := by kernel_rfl
theorem en92 : enters Tryz.prog 92 = true := by kernel_rfl
theorem en93 : enters Tryz.prog 93 = true := by kernel_rfl
theorem en94 : enters Tryz.prog 94 = true := by kernel_rfl
theorem en95 : enters Tryz.prog 95 = true := by kernel_rfl
theorem en96 : enters Tryz.prog 96 = true := by kernel_rfl
theorem en97 : enters Tryz.prog 97 = true := by kernel_rfl
theorem en98 : enters Tryz.prog 98 = true := by kernel_rfl
theorem en99 : enters Tryz.prog 99 = true := by kernel_rfl
theorem en100 : enters Tryz.prog 100 = true := by kernel_rfl
theorem en101 : enters Tryz.prog 101 = true := by kernel_rfl
theorem en102 : enters Tryz.prog 102 = true := by kernel_rfl
theorem en103 : enters Tryz.prog 103 = true := by kernel_rfl
theorem en104 : enters Tryz.prog 104 = true := by kernel_rfl
theorem en105 : enters Tryz.prog 105 = true := by kernel_rfl
theorem en106 : enters Tryz.prog 106 = true := by kernel_rfl
theorem en110 : enters Tryz.prog 110 = true := by kernel_rfl
theorem en117 : enters Tryz.prog 117 = true := by kernel_rfl
theorem en124 : enters Tryz.prog 124 = true := by kernel_rfl
theorem en135 : enters Tryz.prog 135 = true := by kernel_rfl
theorem en137 : enters Tryz.prog 137 = true := by kernel_rfl
theorem en141 : enters Tryz.prog 141 = true := by kernel_rfl
theorem en145 : enters Tryz.prog 145 = true := by kernel_rfl
theorem en146 : enters Tryz.prog 146 = true := by kernel_rfl
theorem en147 : enters Tryz.prog 147 = true := by kernel_rfl
theorem en148 : enters Tryz.prog 148 = true := by kernel_rfl
theorem en149 : enters Tryz.prog 149 = true := by kernel_rfl
theorem en150 : enters Tryz.prog 150 = true := by kernel_rfl
theorem en151 : enters Tryz.prog 151 = true := by kernel_rfl
theorem en152 : enters Tryz.prog 152 = true := by kernel_rfl
theorem en153 : enters Tryz.prog 153 = true := by kernel_rfl
theorem en154 : enters Tryz.prog 154 = true := by kernel_rfl
theorem en155 : enters Tryz.prog 155 = true := by kernel_rfl
theorem en156 : enters Tryz.prog 156 = true := by kernel_rfl
theorem en157 : enters Tryz.prog 157 = true := by kernel_rfl
theorem en158 : enters Tryz.prog 158 = true := by kernel_rfl
theorem en159 : enters Tryz.prog 159 = true := by kernel_rfl
theorem en160 : enters Tryz.prog 160 = true := by kernel_rfl
theorem en161 : enters Tryz.prog 161 = true := by kernel_rfl
theorem en162 : enters Tryz.prog 162 = true := by kernel_rfl
theorem en163 : enters Tryz.prog 163 = true := by kernel_rfl
theorem en181 : enters Tryz.prog 181 = true := by kernel_rfl
theorem en182 : enters Tryz.prog 182 = true := by kernel_rfl
theorem en183 : enters Tryz.prog 183 = true := by kernel_rfl
theorem en184 : enters Tryz.prog 184 = true := by kernel_rfl
theorem en185 : enters Tryz.prog 185 = true := by kernel_rfl
theorem en186 : enters Tryz.prog 186 = true := by kernel_rfl
theorem en187 : enters Tryz.prog 187 = true := by kernel_rfl
theorem en188 : enters Tryz.prog 188 = true := by kernel_rfl
theorem en189 : enters Tryz.prog 189 = true := by kernel_rfl
theorem en190 : enters Tryz.prog 190 = true := by kernel_rfl
theorem en191 : enters Tryz.prog 191 = true := by kernel_rfl
theorem en194 : enters Tryz.prog 194 = true := by kernel_rfl
theorem en197 : enters Tryz.prog 197 = true := by kernel_rfl
theorem en202 : enters Tryz.prog 202 = true := by kernel_rfl
theorem en203 : enters Tryz.prog 203 = true := by kernel_rfl
theorem en204 : enters Tryz.prog 204 = true := by kernel_rfl
theorem en205 : enters Tryz.prog 205 = true := by kernel_rfl
theorem en206 : enters Tryz.prog 206 = true := by kernel_rfl
theorem en209 : enters Tryz.prog 209 = true := by kernel_rfl
theorem en212 : enters Tryz.prog 212 = true := by kernel_rfl
theorem en216 : enters Tryz.prog 216 = true := by kernel_rfl
theorem en217 : enters Tryz.prog 217 = true := by kernel_rfl
theorem en218 : enters Tryz.prog 218 = true := by kernel_rfl
theorem en219 : enters Tryz.prog 219 = true := by kernel_rfl
theorem en222 : enters Tryz.prog 222 = true := by kernel_rfl
theorem en225 : enters Tryz.prog 225 = true := by kernel_rfl
theorem en227 : enters Tryz.prog 227 = true := by kernel_rfl
theorem en228 : enters Tryz.prog 228 = true := by kernel_rfl
theorem en229 : enters Tryz.prog 229 = true := by kernel_rfl
theorem en234 : enters Tryz.prog 234 = true := by kernel_rfl
theorem en235 : enters Tryz.prog 235 = true := by kernel_rfl
theorem en236 : enters Tryz.prog 236 = true := by kernel_rfl
theorem en237 : enters Tryz.prog 237 = true := by kernel_rfl
theorem en242 : enters Tryz.prog 242 = true := by kernel_rfl
theorem en243 : enters Tryz.prog 243 = true := by kernel_rfl
theorem en244 : enters Tryz.prog 244 = true := by kernel_rfl
theorem en248 : enters Tryz.prog 248 = true := by kernel_rfl
end Go.Proofs.YtkdchlggdcmkbaaGreat
namespace Go.Proofs.YtkdchlggdcmkbaaGreat
open Go.Ab Go.Dt
set_option maxRecDepth 20000

instance l1In_i (L : Nat → Nat) (x a b : Int) : Ctr L Tryz.prog 146 [] [.v (.int .i64 x), .v (.int .i64 a), .v (.int .i64 b)] (.v (.bool (decide (a ≤ x) && decide (x ≤ b)))) [] True := by
  refine Ctr.of_body en146 Tryz.func146 rfl rfl fun hp => (?_); rw [Tryz.ntmps146]
  (repeat' (first | (with_reducible first | refine Z ?_ | refine Y ?_ | (refine hK _ _ ?_; clear hK K) | exact trivial | refine And.intro ?_ ?_) | (refine AW.i rfl (fun h => ?_) (fun h => ?_) <;> try simp only [hC, reduceCtorEq] at h) | with_reducible rfl | ((with_reducible refine E ?_); (with_reducible repeat refine Y ?_); refine eF rfl ?_) | (with_reducible refine fun (K : _ → _ → Prop) hK => ?_) | (with_reducible show drawOK _ _ = true; kernel_rfl) | (with_reducible refine gI fun hg => ?_; try simp only [hC, reduceCtorEq] at hg; try simp only [hg]) | simp (maxSteps := 2000000) (disch := omega) only [go_sem] | (with_reducible intro hg; try simp only [hC, reduceCtorEq] at hg) | (with_reducible show List.Nodup _; decide) | (with_reducible show (_ : Bool) = false; first | rfl | (simp [*]; done)) | with_reducible exact at8_le _ _ | with_reducible exact at8_ge _ _ | (simp only [hC, reduceCtorEq]; omega) | omega | with_reducible assumption | (with_reducible show (_ : Bool) = true; first | (simp [*]; done) | (simp only [hC, reduceCtorEq]; (repeat' (first | assumption | apply And.intro)); done))))

instance l3Letter_i (L : Nat → Nat) (n : Int) : Ctr L Tryz.prog 203 [] [.v (.int .u8 n)] (.v (.bool (ltI n))) [] (0 ≤ n ∧ n ≤ 255) := by
  refine Ctr.of_body en203 Tryz.func203 rfl rfl fun hp => (?_); rw [Tryz.ntmps203]
  (repeat' (first | (with_reducible first | refine Z ?_ | refine Y ?_ | (refine hK _ _ ?_; clear hK K) | exact trivial | refine And.intro ?_ ?_) | (refine AW.i rfl (fun h => ?_) (fun h => ?_) <;> try simp only [hC, reduceCtorEq] at h) | with_reducible rfl | ((with_reducible refine E ?_); (with_reducible repeat refine Y ?_); refine eF rfl ?_) | (with_reducible refine fun (K : _ → _ → Prop) hK => ?_) | (with_reducible show drawOK _ _ = true; kernel_rfl) | (with_reducible refine gI fun hg => ?_; try simp only [hC, reduceCtorEq] at hg; try simp only [hg]) | simp (maxSteps := 2000000) (disch := omega) only [go_sem, ltI] | (with_reducible intro hg; try simp only [hC, reduceCtorEq] at hg) | (with_reducible show List.Nodup _; decide) | (with_reducible show (_ : Bool) = false; first | rfl | (simp [*]; done)) | with_reducible exact at8_le _ _ | with_reducible exact at8_ge _ _ | (simp only [hC, reduceCtorEq]; omega) | omega | with_reducible assumption | (with_reducible show (_ : Bool) = true; first | (simp [*]; done) | (simp only [hC, reduceCtorEq]; (repeat' (first | assumption | apply And.intro)); done))))
instance l3Digit_i (L : Nat → Nat) (n : Int) : Ctr L Tryz.prog 204 [] [.v (.int .u8 n)] (.v (.bool (digI n))) [] (0 ≤ n ∧ n ≤ 255) := by
  refine Ctr.of_body en204 Tryz.func204 rfl rfl fun hp => (?_); rw [Tryz.ntmps204]
  (repeat' (first | (with_reducible first | refine Z ?_ | refine Y ?_ | (refine hK _ _ ?_; clear hK K) | exact trivial | refine And.intro ?_ ?_) | (refine AW.i rfl (fun h => ?_) (fun h => ?_) <;> try simp only [hC, reduceCtorEq] at h) | with_reducible rfl | ((with_reducible refine E ?_); (with_reducible repeat refine Y ?_); refine eF rfl ?_) | (with_reducible refine fun (K : _ → _ → Prop) hK => ?_) | (with_reducible show drawOK _ _ = true; kernel_rfl) | (with_reducible refine gI fun hg => ?_; try simp only [hC, reduceCtorEq] at hg; try simp only [hg]) | simp (maxSteps := 2000000) (disch := omega) only [go_sem, digI] | (with_reducible intro hg; try simp only [hC, reduceCtorEq] at hg) | (with_reducible show List.Nodup _; decide) | (with_reducible show (_ : Bool) = false; first | rfl | (simp [*]; done)) | with_reducible exact at8_le _ _ | with_reducible exact at8_ge _ _ | (simp only [hC, reduceCtorEq]; omega) | omega | with_reducible assumption | (with_reducible show (_ : Bool) = true; first | (simp [*]; done) | (simp only [hC, reduceCtorEq]; (repeat' (first | assumption | apply And.intro)); done))))

instance l28Name_i (L : Nat → Nat) (s : List UInt8) (k : Int) : Ctr L Tryz.prog 183 [] [.str s, .v (.int .i64 k)] (.v (.int .i64 (nameEnd s k.toNat))) [] (0 ≤ k ∧ k ≤ s.length) := by
  refine Ctr.of_body en183 Tryz.func183 rfl rfl fun hp => (?_); rw [Tryz.ntmps183]
  obtain ⟨k, rfl⟩ : ∃ k' : Nat, k = k' := ⟨k.toNat, by omega⟩
  refine AW.fact 0 fun hf => ?_
  simp only [go_sem, Nat.reduceBEq] at hf
  (repeat' (first | (with_reducible first | refine Z ?_ | refine Y ?_ | (refine hK _ _ ?_; clear hK K) | exact trivial | refine And.intro ?_ ?_) | (refine AW.i rfl (fun h => ?_) (fun h => ?_) <;> try simp only [hC, reduceCtorEq] at h) | with_reducible rfl | ((with_reducible refine E ?_); (with_reducible repeat refine Y ?_); refine eF rfl ?_) | (with_reducible refine fun (K : _ → _ → Prop) hK => ?_) | (with_reducible show drawOK _ _ = true; kernel_rfl) | (with_reducible refine gI fun hg => ?_; try simp only [hC, reduceCtorEq] at hg; try simp only [hg]) | simp (maxSteps := 2000000) (disch := omega) only [go_sem] | (with_reducible intro hg; try simp only [hC, reduceCtorEq] at hg) | (with_reducible show List.Nodup _; decide) | (with_reducible show (_ : Bool) = false; first | rfl | (simp [*]; done)) | with_reducible exact at8_le _ _ | with_reducible exact at8_ge _ _ | (simp only [hC, reduceCtorEq]; omega) | omega | with_reducible assumption | (with_reducible show (_ : Bool) = true; first | (simp [*]; done) | (simp only [hC, reduceCtorEq]; (repeat' (first | assumption | apply And.intro)); done))))
  · rw [nameEnd, if_neg]
    rcases h with h | h
    · simp; omega
    · simp [h]
  · refine AW.loopV [5] [0] (fun m xs o => ∃ j : Nat, xs = [.v (.int .i64 j)] ∧ o = [] ∧ m = s.length - j ∧ j ≤ s.length ∧ j + ((s.drop j).takeWhile nmU).length = nameEnd s k) (s.length - k) [] trivial ⟨k, rfl, rfl, rfl, ?_, ?_⟩ ?_
    · omega
    · rw [nameEnd, if_pos (by simp [h.2]; omega)]
    rintro m xs o ⟨j, rfl, rfl, rfl, hj, hR⟩
    (repeat' (first | (with_reducible first | refine Z ?_ | refine Y ?_ | (refine hK _ _ ?_; clear hK K) | exact trivial | refine And.intro ?_ ?_) | (refine AW.i rfl (fun h => ?_) (fun h => ?_) <;> try simp only [hC, reduceCtorEq] at h) | with_reducible rfl | ((with_reducible refine E ?_); (with_reducible repeat refine Y ?_); refine eF rfl ?_) | (with_reducible refine fun (K : _ → _ → Prop) hK => ?_) | (with_reducible show drawOK _ _ = true; kernel_rfl) | (with_reducible refine gI fun hg => ?_; try simp only [hC, reduceCtorEq] at hg; try simp only [hg]) | simp (maxSteps := 2000000) (disch := omega) only [go_sem] | (with_reducible intro hg; try simp only [hC, reduceCtorEq] at hg) | (with_reducible show List.Nodup _; decide) | (with_reducible show (_ : Bool) = false; first | rfl | (simp [*]; done)) | with_reducible exact at8_le _ _ | with_reducible exact at8_ge _ _ | (simp only [hC, reduceCtorEq]; omega) | omega | with_reducible assumption | (with_reducible show (_ : Bool) = true; first | (simp [*]; done) | (simp only [hC, reduceCtorEq]; (repeat' (first | assumption | apply And.intro)); done))))
    · rw [tw_yes h.1 (by simpa [nmI] using h.2)] at hR
      exact ⟨_, [_], [], by omega, ⟨j + 1, rfl, rfl, rfl, by omega, by omega⟩, rfl, trivial⟩
    · rw [tw_no (by simpa [nmI] using h)] at hR
      simp at hR; rw [hR]

instance sNamesIn_i (s : List UInt8) : Ctr lim Tryz.prog 152 [] [.str s] (.tup [.sl true 1 ((nmL (tk s)).map AV.str), .v (.bool (tk s).2)]) [] (s.length ≤ 1048576) := by
  refine Ctr.of_body en152 Tryz.func152 rfl rfl fun hp => (?_); rw [Tryz.ntmps152]
  (repeat' (first | (with_reducible first | refine Z ?_ | refine Y ?_ | (refine hK _ _ ?_; clear hK K) | exact trivial | refine And.intro ?_ ?_) | (refine AW.i rfl (fun h => ?_) (fun h => ?_) <;> try simp only [hC, reduceCtorEq] at h) | with_reducible rfl | ((with_reducible refine E ?_); (with_reducible repeat refine Y ?_); refine eF rfl ?_) | (with_reducible refine fun (K : _ → _ → Prop) hK => ?_) | (with_reducible show drawOK _ _ = true; kernel_rfl) | (with_reducible refine gI fun hg => ?_; try simp only [hC, reduceCtorEq] at hg; try simp only [hg]) | simp (maxSteps := 2000000) (disch := omega) only [go_sem] | (with_reducible intro hg; try simp only [hC, reduceCtorEq] at hg) | (with_reducible show List.Nodup _; decide) | (with_reducible show (_ : Bool) = false; first | rfl | (simp [*]; done)) | with_reducible exact at8_le _ _ | with_reducible exact at8_ge _ _ | (simp only [hC, reduceCtorEq]; omega) | omega | with_reducible assumption | (with_reducible show (_ : Bool) = true; first | (simp [*]; done) | (simp only [hC, reduceCtorEq]; (repeat' (first | assumption | apply And.intro)); done))))
  refine AW.loopV [4, 5] [0] (fun m xs o => ∃ (k : Nat) (d : List Tok), xs = [.sl true 1 ((rights d).map AV.str), .v (.int .i64 k)] ∧ o = [] ∧ m = s.length - k ∧ k ≤ s.length ∧ (rights d).length ≤ k ∧ tkAt s k d) s.length [] trivial ⟨0, [], ?_, rfl, rfl, ?_, ?_, tkAt_zero s⟩ ?_
  · rfl
  · omega
  · simp [rights]
  rintro m xs o ⟨k, d, rfl, rfl, rfl, hk, ha, hR⟩
  have he := nameEnd_le s (k + 1)
  (repeat' (first | (with_reducible first | refine Z ?_ | refine Y ?_ | (refine hK _ _ ?_; clear hK K) | exact trivial | refine And.intro ?_ ?_) | (refine AW.i rfl (fun h => ?_) (fun h => ?_) <;> try simp only [hC, reduceCtorEq] at h) | with_reducible rfl | ((with_reducible refine E ?_); (with_reducible repeat refine Y ?_); refine eF rfl ?_) | (with_reducible refine fun (K : _ → _ → Prop) hK => ?_) | (with_reducible show drawOK _ _ = true; kernel_rfl) | (with_reducible refine gI fun hg => ?_; try simp only [hC, reduceCtorEq] at hg; try simp only [hg]) | simp (maxSteps := 2000000) (disch := omega) only [go_sem] | (with_reducible intro hg; try simp only [hC, reduceCtorEq] at hg) | (with_reducible show List.Nodup _; decide) | (with_reducible show (_ : Bool) = false; first | rfl | (simp [*]; done)) | with_reducible exact at8_le _ _ | with_reducible exact at8_ge _ _ | (simp only [hC, reduceCtorEq]; omega) | omega | with_reducible assumption | (with_reducible show (_ : Bool) = true; first | (simp [*]; done) | (simp only [hC, reduceCtorEq]; (repeat' (first | assumption | apply And.intro)); done))))
  · exact ⟨_, [_, _], [], by omega, ⟨k + 1, d ++ [_], by simp [rights_append, rights], rfl, rfl, by omega, by simp [rights_append, rights]; omega, hR.next (tk_plain (by assumption) h)⟩, rfl, trivial⟩
  · exact ⟨_, [_, _], [], by omega, ⟨k + 1 + 1, d ++ [_], by simp [rights_append, rights], rfl, rfl, by omega, by simp [rights_append, rights]; omega, hR.next (tk_two h.1 (by assumption) h.2)⟩, rfl, trivial⟩
  · rw [hR.bad (tk_bad (by assumption) (by assumption) (by assumption) (nameEnd_no (by omega)))]; rfl
  · refine ⟨_, [_, _], [], ?_, ⟨nameEnd s (k + 1), d ++ [.inr ((s.take (nameEnd s (k + 1))).drop (k + 1))], rfl, rfl, rfl, by omega, by simp [rights_append, rights]; omega, hR.next (tk_name (by assumption) (by assumption) (by assumption) (by omega))⟩, ?_, trivial⟩
    · omega
    · rw [Nat.sub_add_cancel (by omega)]; simp [rights_append, rights]
  · rw [hR.fin h]; rfl

instance isLower_i (L : Nat → Nat) (n : Int) : Ctr L Tryz.prog 102 [] [.v (.int .u8 n)] (.v (.bool (ltI n))) [] True := by
  refine Ctr.of_body en102 Tryz.func102 rfl rfl fun hp => (?_); rw [Tryz.ntmps102]
  (repeat' (first | (with_reducible first | refine Z ?_ | refine Y ?_ | (refine hK _ _ ?_; clear hK K) | exact trivial | refine And.intro ?_ ?_) | (refine AW.i rfl (fun h => ?_) (fun h => ?_) <;> try simp only [hC, reduceCtorEq] at h) | with_reducible rfl | ((with_reducible refine E ?_); (with_reducible repeat refine Y ?_); refine eF rfl ?_) | (with_reducible refine fun (K : _ → _ → Prop) hK => ?_) | (with_reducible show drawOK _ _ = true; kernel_rfl) | (with_reducible refine gI fun hg => ?_; try simp only [hC, reduceCtorEq] at hg; try simp only [hg]) | simp (maxSteps := 2000000) (disch := omega) only [go_sem, ltI] | (with_reducible intro hg; try simp only [hC, reduceCtorEq] at hg) | (with_reducible show List.Nodup _; decide) | (with_reducible show (_ : Bool) = false; first | rfl | (simp [*]; done)) | with_reducible exact at8_le _ _ | with_reducible exact at8_ge _ _ | (simp only [hC, reduceCtorEq]; omega) | omega | with_reducible assumption | (with_reducible show (_ : Bool) = true; first | (simp [*]; done) | (simp only [hC, reduceCtorEq]; (repeat' (first | assumption | apply And.intro)); done))))
instance isDigit_i (L : Nat → Nat) (n : Int) : Ctr L Tryz.prog 162 [] [.v (.int .u8 n)] (.v (.bool (digI n))) [] True := by
  refine Ctr.of_body en162 Tryz.func162 rfl rfl fun hp => (?_); rw [Tryz.ntmps162]
  (repeat' (first | (with_reducible first | refine Z ?_ | refine Y ?_ | (refine hK _ _ ?_; clear hK K) | exact trivial | refine And.intro ?_ ?_) | (refine AW.i rfl (fun h => ?_) (fun h => ?_) <;> try simp only [hC, reduceCtorEq] at h) | with_reducible rfl | ((with_reducible refine E ?_); (with_reducible repeat refine Y ?_); refine eF rfl ?_) | (with_reducible refine fun (K : _ → _ → Prop) hK => ?_) | (with_reducible show drawOK _ _ = true; kernel_rfl) | (with_reducible refine gI fun hg => ?_; try simp only [hC, reduceCtorEq] at hg; try simp only [hg]) | simp (maxSteps := 2000000) (disch := omega) only [go_sem, digI] | (with_reducible intro hg; try simp only [hC, reduceCtorEq] at hg) | (with_reducible show List.Nodup _; decide) | (with_reducible show (_ : Bool) = false; first | rfl | (simp [*]; done)) | with_reducible exact at8_le _ _ | with_reducible exact at8_ge _ _ | (simp only [hC, reduceCtorEq]; omega) | omega | with_reducible assumption | (with_reducible show (_ : Bool) = true; first | (simp [*]; done) | (simp only [hC, reduceCtorEq]; (repeat' (first | assumption | apply And.intro)); done))))
instance isNameByte_i (L : Nat → Nat) (n : Int) : Ctr L Tryz.prog 103 [] [.v (.int .u8 n)] (.v (.bool (nmI n))) [] True := by
  refine Ctr.of_body en103 Tryz.func103 rfl rfl fun hp => (?_); rw [Tryz.ntmps103]
  (repeat' (first | (with_reducible first | refine Z ?_ | refine Y ?_ | (refine hK _ _ ?_; clear hK K) | exact trivial | refine And.intro ?_ ?_) | (refine AW.i rfl (fun h => ?_) (fun h => ?_) <;> try simp only [hC, reduceCtorEq] at h) | with_reducible rfl | ((with_reducible refine E ?_); (with_reducible repeat refine Y ?_); refine eF rfl ?_) | (with_reducible refine fun (K : _ → _ → Prop) hK => ?_) | (with_reducible show drawOK _ _ = true; kernel_rfl) | (with_reducible refine gI fun hg => ?_; try simp only [hC, reduceCtorEq] at hg; try simp only [hg]) | simp (maxSteps := 2000000) (disch := omega) only [go_sem, nmI] | (with_reducible intro hg; try simp only [hC, reduceCtorEq] at hg) | (with_reducible show List.Nodup _; decide) | (with_reducible show (_ : Bool) = false; first | rfl | (simp [*]; done)) | with_reducible exact at8_le _ _ | with_reducible exact at8_ge _ _ | (simp only [hC, reduceCtorEq]; omega) | omega | with_reducible assumption | (with_reducible show (_ : Bool) = true; first | (simp [*]; done) | (simp only [hC, reduceCtorEq]; (repeat' (first | assumption | apply And.intro)); done))))
instance nNamesIn1_i (L : Nat → Nat) (n : Int) : Ctr L Tryz.prog 188 [] [.v (.int .u8 n)] (.tup []) [] True := by
  refine Ctr.of_body en188 Tryz.func188 rfl rfl fun hp => (?_); rw [Tryz.ntmps188]
  (repeat' (first | (with_reducible first | refine Z ?_ | refine Y ?_ | (refine hK _ _ ?_; clear hK K) | exact trivial | refine And.intro ?_ ?_) | (refine AW.i rfl (fun h => ?_) (fun h => ?_) <;> try simp only [hC, reduceCtorEq] at h) | with_reducible rfl | ((with_reducible refine E ?_); (with_reducible repeat refine Y ?_); refine eF rfl ?_) | (with_reducible refine fun (K : _ → _ → Prop) hK => ?_) | (with_reducible show drawOK _ _ = true; kernel_rfl) | (with_reducible refine gI fun hg => ?_; try simp only [hC, reduceCtorEq] at hg; try simp only [hg]) | simp (maxSteps := 2000000) (disch := omega) only [go_sem] | (with_reducible intro hg; try simp only [hC, reduceCtorEq] at hg) | (with_reducible show List.Nodup _; decide) | (with_reducible show (_ : Bool) = false; first | rfl | (simp [*]; done)) | with_reducible exact at8_le _ _ | with_reducible exact at8_ge _ _ | (simp only [hC, reduceCtorEq]; omega) | omega | with_reducible assumption | (with_reducible show (_ : Bool) = true; first | (simp [*]; done) | (simp only [hC, reduceCtorEq]; (repeat' (first | assumption | apply And.intro)); done))))
instance nNamesIn2_i (b : Nat) (n : Str) (l : List Str) : Ctr lim Tryz.prog 189 [(b, some [.sl true 1 (l.map AV.str)])] [.str n, .ptr b 0] (.tup []) [some [.sl true 1 ((l ++ [n]).map AV.str)]] (l.length ≤ 1048576) := by
  refine Ctr.of_body en189 Tryz.func189 rfl rfl fun hp => (?_); rw [Tryz.ntmps189]
  (repeat' (first | (with_reducible first | refine Z ?_ | refine Y ?_ | (refine hK _ _ ?_; clear hK K) | exact trivial | refine And.intro ?_ ?_) | (refine AW.i rfl (fun h => ?_) (fun h => ?_) <;> try simp only [hC, reduceCtorEq] at h) | with_reducible rfl | ((with_reducible refine E ?_); (with_reducible repeat refine Y ?_); refine eF rfl ?_) | (with_reducible refine fun (K : _ → _ → Prop) hK => ?_) | (with_reducible show drawOK _ _ = true; kernel_rfl) | (with_reducible refine gI fun hg => ?_; try simp only [hC, reduceCtorEq] at hg; try simp only [hg]) | simp (maxSteps := 2000000) (disch := omega) only [go_sem] | (with_reducible intro hg; try simp only [hC, reduceCtorEq] at hg) | (with_reducible show List.Nodup _; decide) | (with_reducible show (_ : Bool) = false; first | rfl | (simp [*]; done)) | with_reducible exact at8_le _ _ | with_reducible exact at8_ge _ _ | (simp only [hC, reduceCtorEq]; omega) | omega | with_reducible assumption | (with_reducible show (_ : Bool) = true; first | (simp [*]; done) | (simp only [hC, reduceCtorEq]; (repeat' (first | assumption | apply And.intro)); done))))
  simp

instance dolN_i (b : Nat) (s : Str) : Ctr lim Tryz.prog 187 [(b, some [.sl true 1 []])] [.str s, .v (.func (.func 188) #[] #[]), .fn 189 [.ptr b 0]] (.v (.bool (tk s).2)) [some [.sl true 1 ((rights (tk s).1).map AV.str)]] (s.length ≤ 1048576) := by
  refine Ctr.of_body en187 Tryz.func187 rfl rfl fun hp => (?_); rw [Tryz.ntmps187]
  (repeat' (first | (with_reducible first | refine Z ?_ | refine Y ?_ | (refine hK _ _ ?_; clear hK K) | exact trivial | refine And.intro ?_ ?_) | (refine AW.i rfl (fun h => ?_) (fun h => ?_) <;> try simp only [hC, reduceCtorEq] at h) | with_reducible rfl | ((with_reducible refine E ?_); (with_reducible repeat refine Y ?_); refine eF rfl ?_) | (with_reducible refine fun (K : _ → _ → Prop) hK => ?_) | (with_reducible show drawOK _ _ = true; kernel_rfl) | (with_reducible refine gI fun hg => ?_; try simp only [hC, reduceCtorEq] at hg; try simp only [hg]) | simp (maxSteps := 2000000) (disch := omega) only [go_sem] | (with_reducible intro hg; try simp only [hC, reduceCtorEq] at hg) | (with_reducible show List.Nodup _; decide) | (with_reducible show (_ : Bool) = false; first | rfl | (simp [*]; done)) | with_reducible exact at8_le _ _ | with_reducible exact at8_ge _ _ | (simp only [hC, reduceCtorEq]; omega) | omega | with_reducible assumption | (with_reducible show (_ : Bool) = true; first | (simp [*]; done) | (simp only [hC, reduceCtorEq]; (repeat' (first | assumption | apply And.intro)); done))))
  refine AW.loopV [7] [0, 1, 2] (fun m xs o => ∃ (k : Nat) (d : List Tok), xs = [.v (.int .i64 k)] ∧ o = [(b, some [.sl true 1 ((rights d).map AV.str)])] ∧ m = s.length - k ∧ k ≤ s.length ∧ (rights d).length ≤ k ∧ tkAt s k d) s.length [(b, some [.sl true 1 []])] ⟨O_eq _ _ _, trivial⟩ ⟨0, [], ?_, rfl, rfl, ?_, ?_, tkAt_zero s⟩ ?_
  · rfl
  · omega
  · simp [rights]
  rintro m xs o ⟨k, d, rfl, rfl, rfl, hk, ha, hR⟩
  (repeat' (first | (with_reducible first | refine Z ?_ | refine Y ?_ | (refine hK _ _ ?_; clear hK K) | exact trivial | refine And.intro ?_ ?_) | (refine AW.i rfl (fun h => ?_) (fun h => ?_) <;> try simp only [hC, reduceCtorEq] at h) | with_reducible rfl | ((with_reducible refine E ?_); (with_reducible repeat refine Y ?_); refine eF rfl ?_) | (with_reducible refine fun (K : _ → _ → Prop) hK => ?_) | (with_reducible show drawOK _ _ = true; kernel_rfl) | (with_reducible refine gI fun hg => ?_; try simp only [hC, reduceCtorEq] at hg; try simp only [hg]) | simp (maxSteps := 2000000) (disch := omega) only [go_sem] | (with_reducible intro hg; try simp only [hC, reduceCtorEq] at hg) | (with_reducible show List.Nodup _; decide) | (with_reducible show (_ : Bool) = false; first | rfl | (simp [*]; done)) | with_reducible exact at8_le _ _ | with_reducible exact at8_ge _ _ | (simp only [hC, reduceCtorEq]; omega) | omega | with_reducible assumption | (with_reducible show (_ : Bool) = true; first | (simp [*]; done) | (simp only [hC, reduceCtorEq]; (repeat' (first | assumption | apply And.intro)); done))))
  · exact ⟨_, [_], _, by omega, ⟨k + 1, d ++ [_], rfl, rfl, rfl, by omega, by simp [rights_append, rights]; omega, hR.next (tk_plain (by assumption) h)⟩, rfl, subO_one (by simp [rights_append, rights])⟩
  · exact ⟨_, [_], _, by omega, ⟨k + 1 + 1, d ++ [_], rfl, rfl, rfl, by omega, by simp [rights_append, rights]; omega, hR.next (tk_two h.1 (by assumption) h.2)⟩, rfl, subO_one (by simp [rights_append, rights])⟩
  · have hne : nameEnd s (k + 1) = k + 1 + 1 + ((s.drop (k + 1 + 1)).takeWhile nmU).length := by rw [nameEnd, if_pos (by simp only [h.2, Bool.and_true, decide_eq_true_eq]; omega), tw_yes h.1 (nm_of_lt h.2)]; omega
    have hle := nameEnd_le s (k + 1) (by omega)
    refine AW.loopV [7] [0, 1, 2, 8] (fun m xs o => ∃ j : Nat, xs = [.v (.int .i64 j)] ∧ o = [(b, some [.sl true 1 ((rights d).map AV.str)])] ∧ m = s.length - j ∧ k + 1 ≤ j ∧ j ≤ s.length ∧ j + ((s.drop j).takeWhile nmU).length = nameEnd s (k + 1)) (s.length - (k + 1)) [(b, some [.sl true 1 ((rights d).map AV.str)])] ⟨O_eq _ _ _, trivial⟩ ⟨k + 1, ?_, rfl, rfl, ?_, ?_, ?_⟩ ?_
    · rfl
    · omega
    · omega
    · rw [tw_yes h.1 (nm_of_lt h.2)]; omega
    have h3 : nameEnd s (k + 1) ≠ k + 1 := by omega
    rintro m xs o ⟨j, rfl, rfl, rfl, hj0, hj, hQ⟩
    (repeat' (first | (with_reducible first | refine Z ?_ | refine Y ?_ | (refine hK _ _ ?_; clear hK K) | exact trivial | refine And.intro ?_ ?_) | (refine AW.i rfl (fun h => ?_) (fun h => ?_) <;> try simp only [hC, reduceCtorEq] at h) | with_reducible rfl | ((with_reducible refine E ?_); (with_reducible repeat refine Y ?_); refine eF rfl ?_) | (with_reducible refine fun (K : _ → _ → Prop) hK => ?_) | (with_reducible show drawOK _ _ = true; kernel_rfl) | (with_reducible refine gI fun hg => ?_; try simp only [hC, reduceCtorEq] at hg; try simp only [hg]) | simp (maxSteps := 2000000) (disch := omega) only [go_sem] | (with_reducible intro hg; try simp only [hC, reduceCtorEq] at hg) | (with_reducible show List.Nodup _; decide) | (with_reducible show (_ : Bool) = false; first | rfl | (simp [*]; done)) | with_reducible exact at8_le _ _ | with_reducible exact at8_ge _ _ | (simp only [hC, reduceCtorEq]; omega) | omega | with_reducible assumption | (with_reducible show (_ : Bool) = true; first | (simp [*]; done) | (simp only [hC, reduceCtorEq]; (repeat' (first | assumption | apply And.intro)); done))))
    · rw [tw_yes h.1 h.2] at hQ
      exact ⟨_, [_], _, by omega, ⟨j + 1, rfl, rfl, rfl, by omega, by omega, by omega⟩, rfl, subO_one rfl⟩
    · rw [tw_no h] at hQ
      have hj : j = nameEnd s (k + 1) := by simpa using hQ
      subst hj
      exact ⟨_, [_], _, by omega, ⟨_, d ++ [_], rfl, rfl, rfl, by omega, by simp [rights_append, rights]; omega, hR.next (tk_name (by assumption) (by assumption) (by assumption) h3)⟩, rfl, subO_one (by simp [rights_append, rights])⟩
  · rw [hR.bad (tk_bad (by assumption) (by assumption) (by assumption) h)]
  · rw [hR.bad (tk_bad (by assumption) (by assumption) (by assumption) h)]
  · rw [hR.fin h]
  · rw [hR.fin h]

instance iNamesIn_i (s : Str) : Ctr lim Tryz.prog 160 [] [.str s] (.tup [.sl true 1 ((nmL (tk s)).map AV.str), .v (.bool (tk s).2)]) [] (s.length ≤ 1048576) := by
  refine Ctr.of_body en160 Tryz.func160 rfl rfl fun hp => (?_); rw [Tryz.ntmps160]
  (repeat' (first | (with_reducible first | refine Z ?_ | refine Y ?_ | (refine hK _ _ ?_; clear hK K) | exact trivial | refine And.intro ?_ ?_) | (refine AW.i rfl (fun h => ?_) (fun h => ?_) <;> try simp only [hC, reduceCtorEq] at h) | with_reducible rfl | ((with_reducible refine E ?_); (with_reducible repeat refine Y ?_); refine eF rfl ?_) | (with_reducible refine fun (K : _ → _ → Prop) hK => ?_) | (with_reducible show drawOK _ _ = true; kernel_rfl) | (with_reducible refine gI fun hg => ?_; try simp only [hC, reduceCtorEq] at hg; try simp only [hg]) | simp (maxSteps := 2000000) (disch := omega) only [go_sem] | (with_reducible intro hg; try simp only [hC, reduceCtorEq] at hg) | (with_reducible show List.Nodup _; decide) | (with_reducible show (_ : Bool) = false; first | rfl | (simp [*]; done)) | with_reducible exact at8_le _ _ | with_reducible exact at8_ge _ _ | (simp only [hC, reduceCtorEq]; omega) | omega | with_reducible assumption | (with_reducible show (_ : Bool) = true; first | (simp [*]; done) | (simp only [hC, reduceCtorEq]; (repeat' (first | assumption | apply And.intro)); done))))
  all_goals simp [nmL, h]
end Go.Proofs.YtkdchlggdcmkbaaGreat
namespace Go.Proofs.YtkdchlggdcmkbaaGreat
open Go.Ab Go.Dt
set_option maxRecDepth 20000
set_option maxHeartbeats 1000000

instance sIsText_i (L : Nat → Nat) (s : Str) : Ctr L Tryz.prog 149 [] [.str s] (.v (.bool (isText s))) [] True := by
  refine Ctr.of_body en149 Tryz.func149 rfl rfl fun hp => (?_); rw [Tryz.ntmps149]
  refine AW.fact 0 fun hf => ?_
  simp (disch := omega) only [go_sem, Nat.reduceBEq] at hf
  (repeat' (first | (with_reducible first | refine Z ?_ | refine Y ?_ | (refine hK _ _ ?_; clear hK K) | exact trivial | refine And.intro ?_ ?_) | (refine AW.i rfl (fun h => ?_) (fun h => ?_) <;> try simp only [hC, reduceCtorEq] at h) | with_reducible rfl | ((with_reducible refine E ?_); (with_reducible repeat refine Y ?_); refine eF rfl ?_) | (with_reducible refine fun (K : _ → _ → Prop) hK => ?_) | (with_reducible show drawOK _ _ = true; kernel_rfl) | (with_reducible refine gI fun hg => ?_; try simp only [hC, reduceCtorEq] at hg; try simp only [hg]) | simp (maxSteps := 2000000) (disch := omega) only [go_sem] | (with_reducible intro hg; try simp only [hC, reduceCtorEq] at hg) | (with_reducible show List.Nodup _; decide) | (with_reducible show (_ : Bool) = false; first | rfl | (simp [*]; done)) | with_reducible exact at8_le _ _ | with_reducible exact at8_ge _ _ | (simp only [hC, reduceCtorEq]; omega) | omega | with_reducible assumption | (with_reducible show (_ : Bool) = true; first | (simp [*]; done) | (simp only [hC, reduceCtorEq]; (repeat' (first | assumption | apply And.intro)); done))))
  refine AW.loopV [3] [0] (fun m xs o => ∃ k : Nat, xs = [.v (.int .i64 k)] ∧ o = [] ∧ m = s.length - k ∧ k ≤ s.length ∧ allTo (chT s) k = true) s.length [] trivial ⟨0, ?_, rfl, rfl, ?_, rfl⟩ ?_
  · rfl
  · omega
  rintro m xs o ⟨k, rfl, rfl, rfl, hk, hR⟩
  (repeat' (first | (with_reducible first | refine Z ?_ | refine Y ?_ | (refine hK _ _ ?_; clear hK K) | exact trivial | refine And.intro ?_ ?_) | (refine AW.i rfl (fun h => ?_) (fun h => ?_) <;> try simp only [hC, reduceCtorEq] at h) | with_reducible rfl | ((with_reducible refine E ?_); (with_reducible repeat refine Y ?_); refine eF rfl ?_) | (with_reducible refine fun (K : _ → _ → Prop) hK => ?_) | (with_reducible show drawOK _ _ = true; kernel_rfl) | (with_reducible refine gI fun hg => ?_; try simp only [hC, reduceCtorEq] at hg; try simp only [hg]) | simp (maxSteps := 2000000) (disch := omega) only [go_sem] | (with_reducible intro hg; try simp only [hC, reduceCtorEq] at hg) | (with_reducible show List.Nodup _; decide) | (with_reducible show (_ : Bool) = false; first | rfl | (simp [*]; done)) | with_reducible exact at8_le _ _ | with_reducible exact at8_ge _ _ | (simp only [hC, reduceCtorEq]; omega) | omega | with_reducible assumption | (with_reducible show (_ : Bool) = true; first | (simp [*]; done) | (simp only [hC, reduceCtorEq]; (repeat' (first | assumption | apply And.intro)); done))))
  · rw [isText, allTo_false (by assumption) (by simp [chT]; omega)]; rfl
  · exact ⟨_, [_], [], by omega, ⟨k + 1, rfl, rfl, rfl, by omega, allTo_step hR (by simp [chT]; omega)⟩, rfl, trivial⟩
  · rw [show k = s.length by omega] at hR
    rw [isText, hR]; simp; omega
instance iIsText_i (L : Nat → Nat) (s : Str) : Ctr L Tryz.prog 156 [] [.str s] (.v (.bool (isText s))) [] True := by
  refine Ctr.of_body en156 Tryz.func156 rfl rfl fun hp => (?_); rw [Tryz.ntmps156]
  refine AW.fact 0 fun hf => ?_
  simp (disch := omega) only [go_sem, Nat.reduceBEq] at hf
  (repeat' (first | (with_reducible first | refine Z ?_ | refine Y ?_ | (refine hK _ _ ?_; clear hK K) | exact trivial | refine And.intro ?_ ?_) | (refine AW.i rfl (fun h => ?_) (fun h => ?_) <;> try simp only [hC, reduceCtorEq] at h) | with_reducible rfl | ((with_reducible refine E ?_); (with_reducible repeat refine Y ?_); refine eF rfl ?_) | (with_reducible refine fun (K : _ → _ → Prop) hK => ?_) | (with_reducible show drawOK _ _ = true; kernel_rfl) | (with_reducible refine gI fun hg => ?_; try simp only [hC, reduceCtorEq] at hg; try simp only [hg]) | simp (maxSteps := 2000000) (disch := omega) only [go_sem] | (with_reducible intro hg; try simp only [hC, reduceCtorEq] at hg) | (with_reducible show List.Nodup _; decide) | (with_reducible show (_ : Bool) = false; first | rfl | (simp [*]; done)) | with_reducible exact at8_le _ _ | with_reducible exact at8_ge _ _ | (simp only [hC, reduceCtorEq]; omega) | omega | with_reducible assumption | (with_reducible show (_ : Bool) = true; first | (simp [*]; done) | (simp only [hC, reduceCtorEq]; (repeat' (first | assumption | apply And.intro)); done))))
  refine AW.loopV [3] [0] (fun m xs o => ∃ k : Nat, xs = [.v (.int .i64 k)] ∧ o = [] ∧ m = s.length - k ∧ k ≤ s.length ∧ allTo (chT s) k = true) s.length [] trivial ⟨0, ?_, rfl, rfl, ?_, rfl⟩ ?_
  · rfl
  · omega
  rintro m xs o ⟨k, rfl, rfl, rfl, hk, hR⟩
  (repeat' (first | (with_reducible first | refine Z ?_ | refine Y ?_ | (refine hK _ _ ?_; clear hK K) | exact trivial | refine And.intro ?_ ?_) | (refine AW.i rfl (fun h => ?_) (fun h => ?_) <;> try simp only [hC, reduceCtorEq] at h) | with_reducible rfl | ((with_reducible refine E ?_); (with_reducible repeat refine Y ?_); refine eF rfl ?_) | (with_reducible refine fun (K : _ → _ → Prop) hK => ?_) | (with_reducible show drawOK _ _ = true; kernel_rfl) | (with_reducible refine gI fun hg => ?_; try simp only [hC, reduceCtorEq] at hg; try simp only [hg]) | simp (maxSteps := 2000000) (disch := omega) only [go_sem] | (with_reducible intro hg; try simp only [hC, reduceCtorEq] at hg) | (with_reducible show List.Nodup _; decide) | (with_reducible show (_ : Bool) = false; first | rfl | (simp [*]; done)) | with_reducible exact at8_le _ _ | with_reducible exact at8_ge _ _ | (simp only [hC, reduceCtorEq]; omega) | omega | with_reducible assumption | (with_reducible show (_ : Bool) = true; first | (simp [*]; done) | (simp only [hC, reduceCtorEq]; (repeat' (first | assumption | apply And.intro)); done))))
  · rw [isText, allTo_false (by assumption) (by simp [chT]; omega)]; rfl
  · exact ⟨_, [_], [], by omega, ⟨k + 1, rfl, rfl, rfl, by omega, allTo_step hR (by simp [chT]; omega)⟩, rfl, trivial⟩
  · rw [show k = s.length by omega] at hR
    rw [isText, hR]; simp; omega
instance sIsName_i (L : Nat → Nat) (s : Str) : Ctr L Tryz.prog 91 [] [.str s] (.v (.bool (isName s))) [] True := by
  refine Ctr.of_body en91 Tryz.func91 rfl rfl fun hp => (?_); rw [Tryz.ntmps91]
  refine AW.fact 0 fun hf => ?_
  simp (disch := omega) only [go_sem, Nat.reduceBEq] at hf
  (repeat' (first | (with_reducible first | refine Z ?_ | refine Y ?_ | (refine hK _ _ ?_; clear hK K) | exact trivial | refine And.intro ?_ ?_) | (refine AW.i rfl (fun h => ?_) (fun h => ?_) <;> try simp only [hC, reduceCtorEq] at h) | with_reducible rfl | ((with_reducible refine E ?_); (with_reducible repeat refine Y ?_); refine eF rfl ?_) | (with_reducible refine fun (K : _ → _ → Prop) hK => ?_) | (with_reducible show drawOK _ _ = true; kernel_rfl) | (with_reducible refine gI fun hg => ?_; try simp only [hC, reduceCtorEq] at hg; try simp only [hg]) | simp (maxSteps := 2000000) (disch := omega) only [go_sem] | (with_reducible intro hg; try simp only [hC, reduceCtorEq] at hg) | (with_reducible show List.Nodup _; decide) | (with_reducible show (_ : Bool) = false; first | rfl | (simp [*]; done)) | with_reducible exact at8_le _ _ | with_reducible exact at8_ge _ _ | (simp only [hC, reduceCtorEq]; omega) | omega | with_reducible assumption | (with_reducible show (_ : Bool) = true; first | (simp [*]; done) | (simp only [hC, reduceCtorEq]; (repeat' (first | assumption | apply And.intro)); done))))
  refine AW.loopV [3] [0] (fun m xs o => ∃ k : Nat, xs = [.v (.int .i64 k)] ∧ o = [] ∧ m = s.length - k ∧ k ≤ s.length ∧ allTo (chN s) k = true) s.length [] trivial ⟨0, ?_, rfl, rfl, ?_, rfl⟩ ?_
  · rfl
  · omega
  rintro m xs o ⟨k, rfl, rfl, rfl, hk, hR⟩
  (repeat' (first | (with_reducible first | refine Z ?_ | refine Y ?_ | (refine hK _ _ ?_; clear hK K) | exact trivial | refine And.intro ?_ ?_) | (refine AW.i rfl (fun h => ?_) (fun h => ?_) <;> try simp only [hC, reduceCtorEq] at h) | with_reducible rfl | ((with_reducible refine E ?_); (with_reducible repeat refine Y ?_); refine eF rfl ?_) | (with_reducible refine fun (K : _ → _ → Prop) hK => ?_) | (with_reducible show drawOK _ _ = true; kernel_rfl) | (with_reducible refine gI fun hg => ?_; try simp only [hC, reduceCtorEq] at hg; try simp only [hg]) | simp (maxSteps := 2000000) (disch := omega) only [go_sem] | (with_reducible intro hg; try simp only [hC, reduceCtorEq] at hg) | (with_reducible show List.Nodup _; decide) | (with_reducible show (_ : Bool) = false; first | rfl | (simp [*]; done)) | with_reducible exact at8_le _ _ | with_reducible exact at8_ge _ _ | (simp only [hC, reduceCtorEq]; omega) | omega | with_reducible assumption | (with_reducible show (_ : Bool) = true; first | (simp [*]; done) | (simp only [hC, reduceCtorEq]; (repeat' (first | assumption | apply And.intro)); done))))
  · rw [isName, allTo_false (by assumption) ?_]; rfl
    simp only [chN, nmI, ltI, digI]
    obtain ⟨h1, h2⟩ := h
    have e1 : (decide (97 ≤ at8 s k) && decide (at8 s k ≤ 122)) = false := by simp; omega
    rw [e1]
    rcases h2 with h2 | h2
    · have : k = 0 := by omega
      simp [this]
    · have e2 : (decide (48 ≤ at8 s k) && decide (at8 s k ≤ 57)) = false := by simp; omega
      rw [e2]; simp [h2.2]
  · refine ⟨_, [_], [], by omega, ⟨k + 1, rfl, rfl, rfl, by omega, allTo_step hR ?_⟩, rfl, trivial⟩
    simp only [chN, nmI, ltI, digI]
    cases e1 : (decide (97 ≤ at8 s k) && decide (at8 s k ≤ 122)) with
    | true => rfl
    | false =>
      simp only [Bool.and_eq_false_imp, decide_eq_true_eq, decide_eq_false_iff_not, Int.not_le] at e1
      obtain ⟨h1, h2⟩ := h e1
      have h3 : (k == 0) = false := by simp; omega
      rw [h3]
      cases e2 : (decide (48 ≤ at8 s k) && decide (at8 s k ≤ 57)) with
      | true => rfl
      | false =>
        simp only [Bool.and_eq_false_imp, decide_eq_true_eq, decide_eq_false_iff_not, Int.not_le] at e2
        simp [h2 e2]
  · rw [show k = s.length by omega] at hR
    rw [isName, hR]
    by_cases h0 : s.length = 0
    · simp [h0]
    · rw [castS (by omega)]
      rw [show decide ((1 : Int) ≤ (s.length : Int)) = decide (1 ≤ s.length) from decide_eq_decide.2 (by omega), show decide ((s.length : Int) ≤ 16) = decide (s.length ≤ 16) from decide_eq_decide.2 (by omega)]
      simp only [Bool.true_and, bne]
instance iIsName_i (L : Nat → Nat) (s : Str) : Ctr L Tryz.prog 45 [] [.str s] (.v (.bool (isName s))) [] True := by
  refine Ctr.of_body en45 Tryz.func45 rfl rfl fun hp => (?_); rw [Tryz.ntmps45]
  refine AW.fact 0 fun hf => ?_
  simp (disch := omega) only [go_sem, Nat.reduceBEq] at hf
  (repeat' (first | (with_reducible first | refine Z ?_ | refine Y ?_ | (refine hK _ _ ?_; clear hK K) | exact trivial | refine And.intro ?_ ?_) | (refine AW.i rfl (fun h => ?_) (fun h => ?_) <;> try simp only [hC, reduceCtorEq] at h) | with_reducible rfl | ((with_reducible refine E ?_); (with_reducible repeat refine Y ?_); refine eF rfl ?_) | (with_reducible refine fun (K : _ → _ → Prop) hK => ?_) | (with_reducible show drawOK _ _ = true; kernel_rfl) | (with_reducible refine gI fun hg => ?_; try simp only [hC, reduceCtorEq] at hg; try simp only [hg]) | simp (maxSteps := 2000000) (disch := omega) only [go_sem] | (with_reducible intro hg; try simp only [hC, reduceCtorEq] at hg) | (with_reducible show List.Nodup _; decide) | (with_reducible show (_ : Bool) = false; first | rfl | (simp [*]; done)) | with_reducible exact at8_le _ _ | with_reducible exact at8_ge _ _ | (simp only [hC, reduceCtorEq]; omega) | omega | with_reducible assumption | (with_reducible show (_ : Bool) = true; first | (simp [*]; done) | (simp only [hC, reduceCtorEq]; (repeat' (first | assumption | apply And.intro)); done))))
  · have : isName s = false := by
      rcases h with (h | h) | h
      · simp [isName]; intro _ _; omega
      · simp [isName]; intro _ _ _; omega
      · by_cases h0 : s.length = 0
        · simp [isName, h0]
        · rw [isName, allTo_false (j := 0) (by omega) (by simp [chN, h])]; rfl
    rw [this]
  refine AW.loopV [3] [0] (fun m xs o => ∃ k : Nat, xs = [.v (.int .i64 k)] ∧ o = [] ∧ m = s.length - k ∧ 1 ≤ k ∧ k ≤ s.length ∧ allTo (chN s) k = true) (s.length - 1) [] trivial ⟨1, ?_, rfl, rfl, ?_, ?_, ?_⟩ ?_
  · rfl
  · omega
  · omega
  · simp [allTo, chN, h.2]
  rintro m xs o ⟨k, rfl, rfl, rfl, hk0, hk, hR⟩
  (repeat' (first | (with_reducible first | refine Z ?_ | refine Y ?_ | (refine hK _ _ ?_; clear hK K) | exact trivial | refine And.intro ?_ ?_) | (refine AW.i rfl (fun h => ?_) (fun h => ?_) <;> try simp only [hC, reduceCtorEq] at h) | with_reducible rfl | ((with_reducible refine E ?_); (with_reducible repeat refine Y ?_); refine eF rfl ?_) | (with_reducible refine fun (K : _ → _ → Prop) hK => ?_) | (with_reducible show drawOK _ _ = true; kernel_rfl) | (with_reducible refine gI fun hg => ?_; try simp only [hC, reduceCtorEq] at hg; try simp only [hg]) | simp (maxSteps := 2000000) (disch := omega) only [go_sem] | (with_reducible intro hg; try simp only [hC, reduceCtorEq] at hg) | (with_reducible show List.Nodup _; decide) | (with_reducible show (_ : Bool) = false; first | rfl | (simp [*]; done)) | with_reducible exact at8_le _ _ | with_reducible exact at8_ge _ _ | (simp only [hC, reduceCtorEq]; omega) | omega | with_reducible assumption | (with_reducible show (_ : Bool) = true; first | (simp [*]; done) | (simp only [hC, reduceCtorEq]; (repeat' (first | assumption | apply And.intro)); done))))
  · have h2 : ltI (at8 s k) = false := by
      simp only [nmI, Bool.or_eq_false_iff] at h; exact h.1.1
    rw [isName, allTo_false (by assumption) (by simp [chN, h, h2])]; rfl
  · exact ⟨_, [_], [], by omega, ⟨k + 1, rfl, rfl, rfl, by omega, by omega, allTo_step hR (by simp [chN, h]; omega)⟩, rfl, trivial⟩
  · rw [show k = s.length by omega] at hR
    rw [isName, hR]
    rename_i hh
    have e1 : decide (1 ≤ s.length) = true := by simp; omega
    have e2 : decide (s.length ≤ 16) = true := by simp; omega
    rw [e1, e2]; simp [bne]
end Go.Proofs.YtkdchlggdcmkbaaGreat
namespace Go.Proofs.YtkdchlggdcmkbaaGreat
open Go.Ab Go.Dt
set_option maxRecDepth 20000
set_option maxHeartbeats 1000000

instance inNumbers_i (L : Nat → Nat) (n : Int) : Ctr L Tryz.prog 185 [] [.v (.int .i64 n)] (.v (.bool (decide (-1000000000 ≤ n) && decide (n ≤ 1000000000)))) [] True := by
  refine Ctr.of_body en185 Tryz.func185 rfl rfl fun hp => (?_); rw [Tryz.ntmps185]
  (repeat' (first | (with_reducible first | refine Z ?_ | refine Y ?_ | (refine hK _ _ ?_; clear hK K) | exact trivial | refine And.intro ?_ ?_) | (refine AW.i rfl (fun h => ?_) (fun h => ?_) <;> try simp only [hC, reduceCtorEq] at h) | with_reducible rfl | ((with_reducible refine E ?_); (with_reducible repeat refine Y ?_); refine eF rfl ?_) | (with_reducible refine fun (K : _ → _ → Prop) hK => ?_) | (with_reducible show drawOK _ _ = true; kernel_rfl) | (with_reducible refine gI fun hg => ?_; try simp only [hC, reduceCtorEq] at hg; try simp only [hg]) | simp (maxSteps := 2000000) (disch := omega) only [go_sem] | (with_reducible intro hg; try simp only [hC, reduceCtorEq] at hg) | (with_reducible show List.Nodup _; decide) | (with_reducible show (_ : Bool) = false; first | rfl | (simp [*]; done)) | with_reducible exact at8_le _ _ | with_reducible exact at8_ge _ _ | (simp only [hC, reduceCtorEq]; omega) | omega | with_reducible assumption | (with_reducible show (_ : Bool) = true; first | (simp [*]; done) | (simp only [hC, reduceCtorEq]; (repeat' (first | assumption | apply And.intro)); done))))
instance sAreRanges_i (L : Nat → Nat) [hL : Lok L] (l : List GRange) : Ctr L Tryz.prog 147 [] [.sl false 2 (l.map (encRange false))] (.v (.bool (areRanges l))) [] True := by
  refine Ctr.of_body en147 Tryz.func147 rfl rfl fun hp => (?_); rw [Tryz.ntmps147]
  refine AW.fact 0 fun hf => ?_
  simp (disch := omega) only [go_sem, Nat.reduceBEq] at hf
  have hf := Nat.le_trans hf (hL.le 2)
  (repeat' (first | (with_reducible first | refine Z ?_ | refine Y ?_ | (refine hK _ _ ?_; clear hK K) | exact trivial | refine And.intro ?_ ?_) | (refine AW.i rfl (fun h => ?_) (fun h => ?_) <;> try simp only [hC, reduceCtorEq] at h) | with_reducible rfl | ((with_reducible refine E ?_); (with_reducible repeat refine Y ?_); refine eF rfl ?_) | (with_reducible refine fun (K : _ → _ → Prop) hK => ?_) | (with_reducible show drawOK _ _ = true; kernel_rfl) | (with_reducible refine gI fun hg => ?_; try simp only [hC, reduceCtorEq] at hg; try simp only [hg]) | simp (maxSteps := 2000000) (disch := omega) only [go_sem] | (with_reducible intro hg; try simp only [hC, reduceCtorEq] at hg) | (with_reducible show List.Nodup _; decide) | (with_reducible show (_ : Bool) = false; first | rfl | (simp [*]; done)) | with_reducible exact at8_le _ _ | with_reducible exact at8_ge _ _ | (simp only [hC, reduceCtorEq]; omega) | omega | with_reducible assumption | (with_reducible show (_ : Bool) = true; first | (simp [*]; done) | (simp only [hC, reduceCtorEq]; (repeat' (first | assumption | apply And.intro)); done))))
  refine AW.loopV [3] [0] (fun m xs o => ∃ k : Nat, xs = [.v (.int .i64 k)] ∧ o = [] ∧ m = l.length - k ∧ k ≤ l.length ∧ allTo (rgOk l) k = true) l.length [] trivial ⟨0, ?_, rfl, rfl, ?_, rfl⟩ ?_
  · rfl
  · omega
  rintro m xs o ⟨k, rfl, rfl, rfl, hk, hR⟩
  rcases k with _ | k
  · (repeat' (first | (with_reducible first | refine Z ?_ | refine Y ?_ | (refine hK _ _ ?_; clear hK K) | exact trivial | refine And.intro ?_ ?_) | (refine AW.i rfl (fun h => ?_) (fun h => ?_) <;> try simp only [hC, reduceCtorEq] at h) | with_reducible rfl | ((with_reducible refine E ?_); (with_reducible repeat refine Y ?_); refine eF rfl ?_) | (with_reducible refine fun (K : _ → _ → Prop) hK => ?_) | (with_reducible show drawOK _ _ = true; kernel_rfl) | (with_reducible refine gI fun hg => ?_; try simp only [hC, reduceCtorEq] at hg; try simp only [hg]) | simp (maxSteps := 2000000) (disch := omega) only [go_sem] | (with_reducible intro hg; try simp only [hC, reduceCtorEq] at hg) | (with_reducible show List.Nodup _; decide) | (with_reducible show (_ : Bool) = false; first | rfl | (simp [*]; done)) | with_reducible exact at8_le _ _ | with_reducible exact at8_ge _ _ | (simp only [hC, reduceCtorEq]; omega) | omega | with_reducible assumption | (with_reducible show (_ : Bool) = true; first | (simp [*]; done) | (simp only [hC, reduceCtorEq]; (repeat' (first | assumption | apply And.intro)); done))))
    · rw [areRanges_no (by assumption) (Bool.eq_false_iff.2 fun hc => by have := (rg0 l).1 hc; omega)]
    · exact ⟨_, [_], [], by omega, ⟨0 + 1, rfl, rfl, rfl, by omega, allTo_step hR ((rg0 l).2 (by omega))⟩, rfl, trivial⟩
    · rw [areRanges_end hR (by omega)]
  · have hh := rgOk_hi (allTo_get hR (Nat.lt_succ_self k))
    (repeat' (first | (with_reducible first | refine Z ?_ | refine Y ?_ | (refine hK _ _ ?_; clear hK K) | exact trivial | refine And.intro ?_ ?_) | (refine AW.i rfl (fun h => ?_) (fun h => ?_) <;> try simp only [hC, reduceCtorEq] at h) | with_reducible rfl | ((with_reducible refine E ?_); (with_reducible repeat refine Y ?_); refine eF rfl ?_) | (with_reducible refine fun (K : _ → _ → Prop) hK => ?_) | (with_reducible show drawOK _ _ = true; kernel_rfl) | (with_reducible refine gI fun hg => ?_; try simp only [hC, reduceCtorEq] at hg; try simp only [hg]) | simp (maxSteps := 2000000) (disch := omega) only [go_sem] | (with_reducible intro hg; try simp only [hC, reduceCtorEq] at hg) | (with_reducible show List.Nodup _; decide) | (with_reducible show (_ : Bool) = false; first | rfl | (simp [*]; done)) | with_reducible exact at8_le _ _ | with_reducible exact at8_ge _ _ | (simp only [hC, reduceCtorEq]; omega) | omega | with_reducible assumption | (with_reducible show (_ : Bool) = true; first | (simp [*]; done) | (simp only [hC, reduceCtorEq]; (repeat' (first | assumption | apply And.intro)); done))))
    · rw [areRanges_no (by assumption) (Bool.eq_false_iff.2 fun hc => by have := (rgS l k).1 hc; omega)]
    · exact ⟨_, [_], [], by omega, ⟨k + 1 + 1, rfl, rfl, rfl, by omega, allTo_step hR ((rgS l k).2 (by omega))⟩, rfl, trivial⟩
    · rw [areRanges_end hR (by omega)]
instance iAreRanges_i (L : Nat → Nat) [hL : Lok L] (l : List GRange) : Ctr L Tryz.prog 154 [] [.sl false 2 (l.map (encRange false))] (.v (.bool (areRanges l))) [] True := by
  refine Ctr.of_body en154 Tryz.func154 rfl rfl fun hp => (?_); rw [Tryz.ntmps154]
  refine AW.fact 0 fun hf => ?_
  simp (disch := omega) only [go_sem, Nat.reduceBEq] at hf
  have hf := Nat.le_trans hf (hL.le 2)
  (repeat' (first | (with_reducible first | refine Z ?_ | refine Y ?_ | (refine hK _ _ ?_; clear hK K) | exact trivial | refine And.intro ?_ ?_) | (refine AW.i rfl (fun h => ?_) (fun h => ?_) <;> try simp only [hC, reduceCtorEq] at h) | with_reducible rfl | ((with_reducible refine E ?_); (with_reducible repeat refine Y ?_); refine eF rfl ?_) | (with_reducible refine fun (K : _ → _ → Prop) hK => ?_) | (with_reducible show drawOK _ _ = true; kernel_rfl) | (with_reducible refine gI fun hg => ?_; try simp only [hC, reduceCtorEq] at hg; try simp only [hg]) | simp (maxSteps := 2000000) (disch := omega) only [go_sem] | (with_reducible intro hg; try simp only [hC, reduceCtorEq] at hg) | (with_reducible show List.Nodup _; decide) | (with_reducible show (_ : Bool) = false; first | rfl | (simp [*]; done)) | with_reducible exact at8_le _ _ | with_reducible exact at8_ge _ _ | (simp only [hC, reduceCtorEq]; omega) | omega | with_reducible assumption | (with_reducible show (_ : Bool) = true; first | (simp [*]; done) | (simp only [hC, reduceCtorEq]; (repeat' (first | assumption | apply And.intro)); done))))
  refine AW.loopV [7] [0, 5, 6] (fun m xs o => ∃ k : Nat, xs = [.v (.int .i64 k)] ∧ o = [] ∧ m = l.length - k ∧ k ≤ l.length ∧ allTo (rgOk l) k = true) l.length [] trivial ⟨0, ?_, rfl, rfl, ?_, rfl⟩ ?_
  · rfl
  · omega
  rintro m xs o ⟨k, rfl, rfl, rfl, hk, hR⟩
  rcases k with _ | k
  · (repeat' (first | (with_reducible first | refine Z ?_ | refine Y ?_ | (refine hK _ _ ?_; clear hK K) | exact trivial | refine And.intro ?_ ?_) | (refine AW.i rfl (fun h => ?_) (fun h => ?_) <;> try simp only [hC, reduceCtorEq] at h) | with_reducible rfl | ((with_reducible refine E ?_); (with_reducible repeat refine Y ?_); refine eF rfl ?_) | (with_reducible refine fun (K : _ → _ → Prop) hK => ?_) | (with_reducible show drawOK _ _ = true; kernel_rfl) | (with_reducible refine gI fun hg => ?_; try simp only [hC, reduceCtorEq] at hg; try simp only [hg]) | simp (maxSteps := 2000000) (disch := omega) only [go_sem] | (with_reducible intro hg; try simp only [hC, reduceCtorEq] at hg) | (with_reducible show List.Nodup _; decide) | (with_reducible show (_ : Bool) = false; first | rfl | (simp [*]; done)) | with_reducible exact at8_le _ _ | with_reducible exact at8_ge _ _ | (simp only [hC, reduceCtorEq]; omega) | omega | with_reducible assumption | (with_reducible show (_ : Bool) = true; first | (simp [*]; done) | (simp only [hC, reduceCtorEq]; (repeat' (first | assumption | apply And.intro)); done))))
    · rw [areRanges_no (by assumption) (Bool.eq_false_iff.2 fun hc => by have := (rg0 l).1 hc; omega)]
    · exact ⟨_, [_], [], by omega, ⟨0 + 1, rfl, rfl, rfl, by omega, allTo_step hR ((rg0 l).2 (by omega))⟩, rfl, trivial⟩
    · rw [areRanges_end hR (by omega)]
  · have hh := rgOk_hi (allTo_get hR (Nat.lt_succ_self k))
    (repeat' (first | (with_reducible first | refine Z ?_ | refine Y ?_ | (refine hK _ _ ?_; clear hK K) | exact trivial | refine And.intro ?_ ?_) | (refine AW.i rfl (fun h => ?_) (fun h => ?_) <;> try simp only [hC, reduceCtorEq] at h) | with_reducible rfl | ((with_reducible refine E ?_); (with_reducible repeat refine Y ?_); refine eF rfl ?_) | (with_reducible refine fun (K : _ → _ → Prop) hK => ?_) | (with_reducible show drawOK _ _ = true; kernel_rfl) | (with_reducible refine gI fun hg => ?_; try simp only [hC, reduceCtorEq] at hg; try simp only [hg]) | simp (maxSteps := 2000000) (disch := omega) only [go_sem] | (with_reducible intro hg; try simp only [hC, reduceCtorEq] at hg) | (with_reducible show List.Nodup _; decide) | (with_reducible show (_ : Bool) = false; first | rfl | (simp [*]; done)) | with_reducible exact at8_le _ _ | with_reducible exact at8_ge _ _ | (simp only [hC, reduceCtorEq]; omega) | omega | with_reducible assumption | (with_reducible show (_ : Bool) = true; first | (simp [*]; done) | (simp only [hC, reduceCtorEq]; (repeat' (first | assumption | apply And.intro)); done))))
    · rw [areRanges_no (by assumption) (Bool.eq_false_iff.2 fun hc => by have := (rgS l k).1 hc; omega)]
    · exact ⟨_, [_], [], by omega, ⟨k + 1 + 1, rfl, rfl, rfl, by omega, allTo_step hR ((rgS l k).2 (by omega))⟩, rfl, trivial⟩
    · rw [areRanges_end hR (by omega)]
end Go.Proofs.YtkdchlggdcmkbaaGreat
namespace Go.Proofs.YtkdchlggdcmkbaaGreat
open Go.Ab Go.Dt
set_option maxRecDepth 20000
set_option maxHeartbeats 1000000

instance ixStr_i (L : Nat → Nat) [hL : Lok L] (l : List Str) (n : Str) : Ctr L Tryz.prog 161 [] [.sl false 1 (l.map AV.str), .str n] (.v (.int .i64 (idx (fun x => x == n) l))) [] True := by
  refine Ctr.of_body en161 Tryz.func161 rfl rfl fun hp => (?_); rw [Tryz.ntmps161]
  refine AW.fact 0 fun hf => ?_
  simp (disch := omega) only [go_sem, Nat.reduceBEq] at hf
  have hf := Nat.le_trans hf (hL.le 1)
  (repeat' (first | (with_reducible first | refine Z ?_ | refine Y ?_ | (refine hK _ _ ?_; clear hK K) | exact trivial | refine And.intro ?_ ?_) | (refine AW.i rfl (fun h => ?_) (fun h => ?_) <;> try simp only [hC, reduceCtorEq] at h) | with_reducible rfl | ((with_reducible refine E ?_); (with_reducible repeat refine Y ?_); refine eF rfl ?_) | (with_reducible refine fun (K : _ → _ → Prop) hK => ?_) | (with_reducible show drawOK _ _ = true; kernel_rfl) | (with_reducible refine gI fun hg => ?_; try simp only [hC, reduceCtorEq] at hg; try simp only [hg]) | simp (maxSteps := 2000000) (disch := omega) only [go_sem] | (with_reducible intro hg; try simp only [hC, reduceCtorEq] at hg) | (with_reducible show List.Nodup _; decide) | (with_reducible show (_ : Bool) = false; first | rfl | (simp [*]; done)) | with_reducible exact at8_le _ _ | with_reducible exact at8_ge _ _ | (simp only [hC, reduceCtorEq]; omega) | omega | with_reducible assumption | (with_reducible show (_ : Bool) = true; first | (simp [*]; done) | (simp only [hC, reduceCtorEq]; (repeat' (first | assumption | apply And.intro)); done))))
  refine AW.loopV [8] [0, 1, 6, 7] (fun m xs o => ∃ k : Nat, xs = [.v (.int .i64 k)] ∧ o = [] ∧ m = l.length - k ∧ k ≤ l.length ∧ ∀ x ∈ l.take k, (fun x : Str => x == n) x = false) l.length [] trivial ⟨0, ?_, rfl, rfl, ?_, ?_⟩ ?_
  · rfl
  · omega
  · simp
  rintro m xs o ⟨k, rfl, rfl, rfl, hk, hR⟩
  (repeat' (first | (with_reducible first | refine Z ?_ | refine Y ?_ | (refine hK _ _ ?_; clear hK K) | exact trivial | refine And.intro ?_ ?_) | (refine AW.i rfl (fun h => ?_) (fun h => ?_) <;> try simp only [hC, reduceCtorEq] at h) | with_reducible rfl | ((with_reducible refine E ?_); (with_reducible repeat refine Y ?_); refine eF rfl ?_) | (with_reducible refine fun (K : _ → _ → Prop) hK => ?_) | (with_reducible show drawOK _ _ = true; kernel_rfl) | (with_reducible refine gI fun hg => ?_; try simp only [hC, reduceCtorEq] at hg; try simp only [hg]) | simp (maxSteps := 2000000) (disch := omega) only [go_sem] | (with_reducible intro hg; try simp only [hC, reduceCtorEq] at hg) | (with_reducible show List.Nodup _; decide) | (with_reducible show (_ : Bool) = false; first | rfl | (simp [*]; done)) | with_reducible exact at8_le _ _ | with_reducible exact at8_ge _ _ | (simp only [hC, reduceCtorEq]; omega) | omega | with_reducible assumption | (with_reducible show (_ : Bool) = true; first | (simp [*]; done) | (simp only [hC, reduceCtorEq]; (repeat' (first | assumption | apply And.intro)); done))))
  · rw [idx_at' (by assumption) hR (by simpa using eq_comm.1 h)]
  · exact ⟨_, [_], [], by omega, ⟨k + 1, rfl, rfl, rfl, by omega, take_step' (by assumption) hR (by simpa using fun e => h (Eq.symm e))⟩, rfl, trivial⟩
  · rw [idx_end h hR]
instance sl28Param_i (L : Nat → Nat) [hL : Lok L] (l : List GParam) (n : Str) : Ctr L Tryz.prog 93 [] [.sl false 6 (l.map (encParam false)), .str n] (.v (.int .i64 (prmI l n))) [] True := by
  refine Ctr.of_body en93 Tryz.func93 rfl rfl fun hp => (?_); rw [Tryz.ntmps93]
  refine AW.fact 0 fun hf => ?_
  simp (disch := omega) only [go_sem, Nat.reduceBEq] at hf
  have hf := Nat.le_trans hf (hL.le 6)
  (repeat' (first | (with_reducible first | refine Z ?_ | refine Y ?_ | (refine hK _ _ ?_; clear hK K) | exact trivial | refine And.intro ?_ ?_) | (refine AW.i rfl (fun h => ?_) (fun h => ?_) <;> try simp only [hC, reduceCtorEq] at h) | with_reducible rfl | ((with_reducible refine E ?_); (with_reducible repeat refine Y ?_); refine eF rfl ?_) | (with_reducible refine fun (K : _ → _ → Prop) hK => ?_) | (with_reducible show drawOK _ _ = true; kernel_rfl) | (with_reducible refine gI fun hg => ?_; try simp only [hC, reduceCtorEq] at hg; try simp only [hg]) | simp (maxSteps := 2000000) (disch := omega) only [go_sem] | (with_reducible intro hg; try simp only [hC, reduceCtorEq] at hg) | (with_reducible show List.Nodup _; decide) | (with_reducible show (_ : Bool) = false; first | rfl | (simp [*]; done)) | with_reducible exact at8_le _ _ | with_reducible exact at8_ge _ _ | (simp only [hC, reduceCtorEq]; omega) | omega | with_reducible assumption | (with_reducible show (_ : Bool) = true; first | (simp [*]; done) | (simp only [hC, reduceCtorEq]; (repeat' (first | assumption | apply And.intro)); done))))
  refine AW.loopV [5] [0, 1] (fun m xs o => ∃ k : Nat, xs = [.v (.int .i64 k)] ∧ o = [] ∧ m = l.length - k ∧ k ≤ l.length ∧ ∀ x ∈ l.take k, (fun x : GParam => x.fName == n) x = false) l.length [] trivial ⟨0, ?_, rfl, rfl, ?_, ?_⟩ ?_
  · rfl
  · omega
  · simp
  rintro m xs o ⟨k, rfl, rfl, rfl, hk, hR⟩
  (repeat' (first | (with_reducible first | refine Z ?_ | refine Y ?_ | (refine hK _ _ ?_; clear hK K) | exact trivial | refine And.intro ?_ ?_) | (refine AW.i rfl (fun h => ?_) (fun h => ?_) <;> try simp only [hC, reduceCtorEq] at h) | with_reducible rfl | ((with_reducible refine E ?_); (with_reducible repeat refine Y ?_); refine eF rfl ?_) | (with_reducible refine fun (K : _ → _ → Prop) hK => ?_) | (with_reducible show drawOK _ _ = true; kernel_rfl) | (with_reducible refine gI fun hg => ?_; try simp only [hC, reduceCtorEq] at hg; try simp only [hg]) | simp (maxSteps := 2000000) (disch := omega) only [go_sem] | (with_reducible intro hg; try simp only [hC, reduceCtorEq] at hg) | (with_reducible show List.Nodup _; decide) | (with_reducible show (_ : Bool) = false; first | rfl | (simp [*]; done)) | with_reducible exact at8_le _ _ | with_reducible exact at8_ge _ _ | (simp only [hC, reduceCtorEq]; omega) | omega | with_reducible assumption | (with_reducible show (_ : Bool) = true; first | (simp [*]; done) | (simp only [hC, reduceCtorEq]; (repeat' (first | assumption | apply And.intro)); done))))
  · rw [prmI, idx_at' (by assumption) hR (by simpa using h)]
  · exact ⟨_, [_], [], by omega, ⟨k + 1, rfl, rfl, rfl, by omega, take_step' (by assumption) hR (by simpa using h)⟩, rfl, trivial⟩
  · rw [prmI, idx_end h hR]

instance contStr_i (L : Nat → Nat) [hL : Lok L] (l : List Str) (n : Str) : Ctr L Tryz.prog 101 [] [.sl false 1 (l.map AV.str), .str n] (.v (.bool (cont l n))) [] True := by
  refine Ctr.of_body en101 Tryz.func101 rfl rfl fun hp => (?_); rw [Tryz.ntmps101]
  (repeat' (first | (with_reducible first | refine Z ?_ | refine Y ?_ | (refine hK _ _ ?_; clear hK K) | exact trivial | refine And.intro ?_ ?_) | (refine AW.i rfl (fun h => ?_) (fun h => ?_) <;> try simp only [hC, reduceCtorEq] at h) | with_reducible rfl | ((with_reducible refine E ?_); (with_reducible repeat refine Y ?_); refine eF rfl ?_) | (with_reducible refine fun (K : _ → _ → Prop) hK => ?_) | (with_reducible show drawOK _ _ = true; kernel_rfl) | (with_reducible refine gI fun hg => ?_; try simp only [hC, reduceCtorEq] at hg; try simp only [hg]) | simp (maxSteps := 2000000) (disch := omega) only [go_sem] | (with_reducible intro hg; try simp only [hC, reduceCtorEq] at hg) | (with_reducible show List.Nodup _; decide) | (with_reducible show (_ : Bool) = false; first | rfl | (simp [*]; done)) | with_reducible exact at8_le _ _ | with_reducible exact at8_ge _ _ | (simp only [hC, reduceCtorEq]; omega) | omega | with_reducible assumption | (with_reducible show (_ : Bool) = true; first | (simp [*]; done) | (simp only [hC, reduceCtorEq]; (repeat' (first | assumption | apply And.intro)); done))))
  rfl
instance differentTexts_i (L : Nat → Nat) [hL : Lok L] (l : List Str) : Ctr L Tryz.prog 44 [] [.sl false 1 (l.map AV.str)] (.v (.bool (diffs l))) [] True := by
  refine Ctr.of_body en44 Tryz.func44 rfl rfl fun hp => (?_); rw [Tryz.ntmps44]
  refine AW.fact 0 fun hf => ?_
  simp (disch := omega) only [go_sem, Nat.reduceBEq] at hf
  have hf := Nat.le_trans hf (hL.le 1)
  (repeat' (first | (with_reducible first | refine Z ?_ | refine Y ?_ | (refine hK _ _ ?_; clear hK K) | exact trivial | refine And.intro ?_ ?_) | (refine AW.i rfl (fun h => ?_) (fun h => ?_) <;> try simp only [hC, reduceCtorEq] at h) | with_reducible rfl | ((with_reducible refine E ?_); (with_reducible repeat refine Y ?_); refine eF rfl ?_) | (with_reducible refine fun (K : _ → _ → Prop) hK => ?_) | (with_reducible show drawOK _ _ = true; kernel_rfl) | (with_reducible refine gI fun hg => ?_; try simp only [hC, reduceCtorEq] at hg; try simp only [hg]) | simp (maxSteps := 2000000) (disch := omega) only [go_sem] | (with_reducible intro hg; try simp only [hC, reduceCtorEq] at hg) | (with_reducible show List.Nodup _; decide) | (with_reducible show (_ : Bool) = false; first | rfl | (simp [*]; done)) | with_reducible exact at8_le _ _ | with_reducible exact at8_ge _ _ | (simp only [hC, reduceCtorEq]; omega) | omega | with_reducible assumption | (with_reducible show (_ : Bool) = true; first | (simp [*]; done) | (simp only [hC, reduceCtorEq]; (repeat' (first | assumption | apply And.intro)); done))))
  refine AW.loopV [6] [0, 4, 5] (fun m xs o => ∃ k : Nat, xs = [.v (.int .i64 k)] ∧ o = [] ∧ m = l.length - k ∧ k ≤ l.length ∧ allTo (fun j => !cont (l.take j) (at_ l j)) k = true) l.length [] trivial ⟨0, ?_, rfl, rfl, ?_, rfl⟩ ?_
  · rfl
  · omega
  rintro m xs o ⟨k, rfl, rfl, rfl, hk, hR⟩
  (repeat' (first | (with_reducible first | refine Z ?_ | refine Y ?_ | (refine hK _ _ ?_; clear hK K) | exact trivial | refine And.intro ?_ ?_) | (refine AW.i rfl (fun h => ?_) (fun h => ?_) <;> try simp only [hC, reduceCtorEq] at h) | with_reducible rfl | ((with_reducible refine E ?_); (with_reducible repeat refine Y ?_); refine eF rfl ?_) | (with_reducible refine fun (K : _ → _ → Prop) hK => ?_) | (with_reducible show drawOK _ _ = true; kernel_rfl) | (with_reducible refine gI fun hg => ?_; try simp only [hC, reduceCtorEq] at hg; try simp only [hg]) | simp (maxSteps := 2000000) (disch := omega) only [go_sem, ← List.map_take, Int.toNat_zero, List.drop_zero] | (with_reducible intro hg; try simp only [hC, reduceCtorEq] at hg) | (with_reducible show List.Nodup _; decide) | (with_reducible show (_ : Bool) = false; first | rfl | (simp [*]; done)) | with_reducible exact at8_le _ _ | with_reducible exact at8_ge _ _ | (simp only [hC, reduceCtorEq]; omega) | omega | with_reducible assumption | (with_reducible show (_ : Bool) = true; first | (simp [*]; done) | (simp only [hC, reduceCtorEq]; (repeat' (first | assumption | apply And.intro)); done))))
  · rw [diffs, allTo_false (by assumption) (by simp [h])]
  · exact ⟨_, [_], [], by omega, ⟨k + 1, rfl, rfl, rfl, by omega, allTo_step hR (by simp [h])⟩, rfl, trivial⟩
  · rw [show k = l.length by omega] at hR
    rw [diffs, hR]
instance areNames_i (L : Nat → Nat) [hL : Lok L] (l : List Str) : Ctr L Tryz.prog 47 [] [.sl false 1 (l.map AV.str)] (.v (.bool (names l))) [] True := by
  refine Ctr.of_body en47 Tryz.func47 rfl rfl fun hp => (?_); rw [Tryz.ntmps47]
  refine AW.fact 0 fun hf => ?_
  simp (disch := omega) only [go_sem, Nat.reduceBEq] at hf
  have hf := Nat.le_trans hf (hL.le 1)
  (repeat' (first | (with_reducible first | refine Z ?_ | refine Y ?_ | (refine hK _ _ ?_; clear hK K) | exact trivial | refine And.intro ?_ ?_) | (refine AW.i rfl (fun h => ?_) (fun h => ?_) <;> try simp only [hC, reduceCtorEq] at h) | with_reducible rfl | ((with_reducible refine E ?_); (with_reducible repeat refine Y ?_); refine eF rfl ?_) | (with_reducible refine fun (K : _ → _ → Prop) hK => ?_) | (with_reducible show drawOK _ _ = true; kernel_rfl) | (with_reducible refine gI fun hg => ?_; try simp only [hC, reduceCtorEq] at hg; try simp only [hg]) | simp (maxSteps := 2000000) (disch := omega) only [go_sem] | (with_reducible intro hg; try simp only [hC, reduceCtorEq] at hg) | (with_reducible show List.Nodup _; decide) | (with_reducible show (_ : Bool) = false; first | rfl | (simp [*]; done)) | with_reducible exact at8_le _ _ | with_reducible exact at8_ge _ _ | (simp only [hC, reduceCtorEq]; omega) | omega | with_reducible assumption | (with_reducible show (_ : Bool) = true; first | (simp [*]; done) | (simp only [hC, reduceCtorEq]; (repeat' (first | assumption | apply And.intro)); done))))
  refine AW.loopV [7] [0, 5, 6] (fun m xs o => ∃ k : Nat, xs = [.v (.int .i64 k)] ∧ o = [] ∧ m = l.length - k ∧ k ≤ l.length ∧ allTo (fun j => isName (at_ l j)) k = true) l.length [] trivial ⟨0, ?_, rfl, rfl, ?_, rfl⟩ ?_
  · rfl
  · omega
  rintro m xs o ⟨k, rfl, rfl, rfl, hk, hR⟩
  (repeat' (first | (with_reducible first | refine Z ?_ | refine Y ?_ | (refine hK _ _ ?_; clear hK K) | exact trivial | refine And.intro ?_ ?_) | (refine AW.i rfl (fun h => ?_) (fun h => ?_) <;> try simp only [hC, reduceCtorEq] at h) | with_reducible rfl | ((with_reducible refine E ?_); (with_reducible repeat refine Y ?_); refine eF rfl ?_) | (with_reducible refine fun (K : _ → _ → Prop) hK => ?_) | (with_reducible show drawOK _ _ = true; kernel_rfl) | (with_reducible refine gI fun hg => ?_; try simp only [hC, reduceCtorEq] at hg; try simp only [hg]) | simp (maxSteps := 2000000) (disch := omega) only [go_sem] | (with_reducible intro hg; try simp only [hC, reduceCtorEq] at hg) | (with_reducible show List.Nodup _; decide) | (with_reducible show (_ : Bool) = false; first | rfl | (simp [*]; done)) | with_reducible exact at8_le _ _ | with_reducible exact at8_ge _ _ | (simp only [hC, reduceCtorEq]; omega) | omega | with_reducible assumption | (with_reducible show (_ : Bool) = true; first | (simp [*]; done) | (simp only [hC, reduceCtorEq]; (repeat' (first | assumption | apply And.intro)); done))))
  · rw [names, allTo_false (by assumption) (by simp [h])]
  · exact ⟨_, [_], [], by omega, ⟨k + 1, rfl, rfl, rfl, by omega, allTo_step hR (by simp [h])⟩, rfl, trivial⟩
  · rw [show k = l.length by omega] at hR
    rw [names, hR]
end Go.Proofs.YtkdchlggdcmkbaaGreat
namespace Go.Proofs.YtkdchlggdcmkbaaGreat
open Go.Ab Go.Dt
set_option maxRecDepth 20000
set_option maxHeartbeats 2000000

theorem iCountTree_n (L : Nat → Nat) [hL : Lok L] : ∀ (n : Nat) (l : List GNode), Ctr L Tryz.prog 157 [] [.sl false 3 (l.map (encNode false))] (.v (.int .i64 (cnt l))) [] (wt l < n ∧ n ≤ 1048577)
  | 0, l => ⟨en157, fun h => absurd h.1 (Nat.not_lt_zero _)⟩
  | n + 1, l => by
    have ih := iCountTree_n L n
    refine Ctr.of_body en157 Tryz.func157 rfl rfl fun hp => (?_); rw [Tryz.ntmps157]
    have hc := cnt_le l
    have hl : l.length ≤ wt l := by unfold wt; omega
    (repeat' (first | (with_reducible first | refine Z ?_ | refine Y ?_ | (refine hK _ _ ?_; clear hK K) | exact trivial | refine And.intro ?_ ?_) | (refine AW.i rfl (fun h => ?_) (fun h => ?_) <;> try simp only [hC, reduceCtorEq] at h) | with_reducible rfl | ((with_reducible refine E ?_); (with_reducible repeat refine Y ?_); refine eF rfl ?_) | (with_reducible refine fun (K : _ → _ → Prop) hK => ?_) | (with_reducible show drawOK _ _ = true; kernel_rfl) | (with_reducible refine gI fun hg => ?_; try simp only [hC, reduceCtorEq] at hg; try simp only [hg]) | simp (maxSteps := 2000000) (disch := omega) only [go_sem] | (with_reducible intro hg; try simp only [hC, reduceCtorEq] at hg) | (with_reducible show List.Nodup _; decide) | (with_reducible show (_ : Bool) = false; first | rfl | (simp [*]; done)) | with_reducible exact at8_le _ _ | with_reducible exact at8_ge _ _ | (simp only [hC, reduceCtorEq]; omega) | omega | with_reducible assumption | (with_reducible show (_ : Bool) = true; first | (simp [*]; done) | (simp only [hC, reduceCtorEq]; (repeat' (first | assumption | apply And.intro)); done))))
    refine AW.loopV [3, 10] [0, 8, 9] (fun m xs o => ∃ k q : Nat, xs = [.v (.int .i64 q), .v (.int .i64 k)] ∧ o = [] ∧ m = l.length - k ∧ k ≤ l.length ∧ q + kc (l.drop k) = cnt l) l.length [] trivial ⟨0, l.length, ?_, rfl, rfl, ?_, rfl⟩ ?_
    · rfl
    · omega
    rintro m xs o ⟨k, q, rfl, rfl, rfl, hk, hR⟩
    have h1 : k < l.length → _ := wt_kid (l := l) (k := k)
    have h2 : k < l.length → _ := kc_at (l := l) (k := k)
    have h3 : cnt (at_ l k).fKids = (at_ l k).fKids.length + kc (at_ l k).fKids := rfl
    (repeat' (first | (with_reducible first | refine Z ?_ | refine Y ?_ | (refine hK _ _ ?_; clear hK K) | exact trivial | refine And.intro ?_ ?_) | (refine AW.i rfl (fun h => ?_) (fun h => ?_) <;> try simp only [hC, reduceCtorEq] at h) | with_reducible rfl | ((with_reducible refine E ?_); (with_reducible repeat refine Y ?_); refine eF rfl ?_) | (with_reducible refine fun (K : _ → _ → Prop) hK => ?_) | (with_reducible show drawOK _ _ = true; kernel_rfl) | (with_reducible refine gI fun hg => ?_; try simp only [hC, reduceCtorEq] at hg; try simp only [hg]) | simp (maxSteps := 2000000) (disch := omega) only [go_sem] | (with_reducible intro hg; try simp only [hC, reduceCtorEq] at hg) | (with_reducible show List.Nodup _; decide) | (with_reducible show (_ : Bool) = false; first | rfl | (simp [*]; done)) | with_reducible exact at8_le _ _ | with_reducible exact at8_ge _ _ | (simp only [hC, reduceCtorEq]; omega) | omega | with_reducible assumption | (with_reducible show (_ : Bool) = true; first | (simp [*]; done) | (simp only [hC, reduceCtorEq]; (repeat' (first | assumption | apply And.intro)); done))))
    · exact ⟨_, [_, _], [], by omega, ⟨k + 1, q + cnt (at_ l k).fKids, rfl, rfl, rfl, by omega, by omega⟩, rfl, trivial⟩
    · rw [drop_end h, kc] at hR; rw [← hR, Nat.add_zero]
theorem itreeDepth_n (L : Nat → Nat) [hL : Lok L] : ∀ (n : Nat) (l : List GNode), Ctr L Tryz.prog 158 [] [.sl false 3 (l.map (encNode false))] (.v (.int .i64 (dep l))) [] (wt l < n ∧ n ≤ 1048577)
  | 0, l => ⟨en158, fun h => absurd h.1 (Nat.not_lt_zero _)⟩
  | n + 1, l => by
    have ih := itreeDepth_n L n
    refine Ctr.of_body en158 Tryz.func158 rfl rfl fun hp => (?_); rw [Tryz.ntmps158]
    have hc := dep_le l
    have hl : l.length ≤ wt l := by unfold wt; omega
    (repeat' (first | (with_reducible first | refine Z ?_ | refine Y ?_ | (refine hK _ _ ?_; clear hK K) | exact trivial | refine And.intro ?_ ?_) | (refine AW.i rfl (fun h => ?_) (fun h => ?_) <;> try simp only [hC, reduceCtorEq] at h) | with_reducible rfl | ((with_reducible refine E ?_); (with_reducible repeat refine Y ?_); refine eF rfl ?_) | (with_reducible refine fun (K : _ → _ → Prop) hK => ?_) | (with_reducible show drawOK _ _ = true; kernel_rfl) | (with_reducible refine gI fun hg => ?_; try simp only [hC, reduceCtorEq] at hg; try simp only [hg]) | simp (maxSteps := 2000000) (disch := omega) only [go_sem] | (with_reducible intro hg; try simp only [hC, reduceCtorEq] at hg) | (with_reducible show List.Nodup _; decide) | (with_reducible show (_ : Bool) = false; first | rfl | (simp [*]; done)) | with_reducible exact at8_le _ _ | with_reducible exact at8_ge _ _ | (simp only [hC, reduceCtorEq]; omega) | omega | with_reducible assumption | (with_reducible show (_ : Bool) = true; first | (simp [*]; done) | (simp only [hC, reduceCtorEq]; (repeat' (first | assumption | apply And.intro)); done))))
    refine AW.loopV [3, 8] [0, 6, 7] (fun m xs o => ∃ k q : Nat, xs = [.v (.int .i64 q), .v (.int .i64 k)] ∧ o = [] ∧ m = l.length - k ∧ k ≤ l.length ∧ max q (dep (l.drop k)) = dep l) l.length [] trivial ⟨0, 0, ?_, rfl, rfl, ?_, ?_⟩ ?_
    · rfl
    · omega
    · simp
    rintro m xs o ⟨k, q, rfl, rfl, rfl, hk, hR⟩
    have h1 : k < l.length → _ := wt_kid (l := l) (k := k)
    have h2 : k < l.length → _ := dep_at (l := l) (k := k)
    (repeat' (first | (with_reducible first | refine Z ?_ | refine Y ?_ | (refine hK _ _ ?_; clear hK K) | exact trivial | refine And.intro ?_ ?_) | (refine AW.i rfl (fun h => ?_) (fun h => ?_) <;> try simp only [hC, reduceCtorEq] at h) | with_reducible rfl | ((with_reducible refine E ?_); (with_reducible repeat refine Y ?_); refine eF rfl ?_) | (with_reducible refine fun (K : _ → _ → Prop) hK => ?_) | (with_reducible show drawOK _ _ = true; kernel_rfl) | (with_reducible refine gI fun hg => ?_; try simp only [hC, reduceCtorEq] at hg; try simp only [hg]) | simp (maxSteps := 2000000) (disch := omega) only [go_sem] | (with_reducible intro hg; try simp only [hC, reduceCtorEq] at hg) | (with_reducible show List.Nodup _; decide) | (with_reducible show (_ : Bool) = false; first | rfl | (simp [*]; done)) | with_reducible exact at8_le _ _ | with_reducible exact at8_ge _ _ | (simp only [hC, reduceCtorEq]; omega) | omega | with_reducible assumption | (with_reducible show (_ : Bool) = true; first | (simp [*]; done) | (simp only [hC, reduceCtorEq]; (repeat' (first | assumption | apply And.intro)); done))))
    · refine ⟨_, [_, _], [], by omega, ⟨k + 1, max q (1 + dep (at_ l k).fKids), ?_, rfl, rfl, by omega, by omega⟩, rfl, trivial⟩
      refine congrArg (fun z => [AV.v (.int .i64 z), _]) ?_
      split <;> omega
    · rw [drop_end h, dep] at hR; rw [← hR, Nat.max_zero]
theorem iisForm_n (L : Nat → Nat) [hL : Lok L] : ∀ (n : Nat) (l : List GNode), Ctr L Tryz.prog 159 [] [.sl false 3 (l.map (encNode false))] (.v (.bool (frm l))) [] (wt l < n ∧ n ≤ 1048577)
  | 0, l => ⟨en159, fun h => absurd h.1 (Nat.not_lt_zero _)⟩
  | n + 1, l => by
    have ih := iisForm_n L n
    refine Ctr.of_body en159 Tryz.func159 rfl rfl fun hp => (?_); rw [Tryz.ntmps159]
    have hl : l.length ≤ wt l := by unfold wt; omega
    (repeat' (first | (with_reducible first | refine Z ?_ | refine Y ?_ | (refine hK _ _ ?_; clear hK K) | exact trivial | refine And.intro ?_ ?_) | (refine AW.i rfl (fun h => ?_) (fun h => ?_) <;> try simp only [hC, reduceCtorEq] at h) | with_reducible rfl | ((with_reducible refine E ?_); (with_reducible repeat refine Y ?_); refine eF rfl ?_) | (with_reducible refine fun (K : _ → _ → Prop) hK => ?_) | (with_reducible show drawOK _ _ = true; kernel_rfl) | (with_reducible refine gI fun hg => ?_; try simp only [hC, reduceCtorEq] at hg; try simp only [hg]) | simp (maxSteps := 2000000) (disch := omega) only [go_sem] | (with_reducible intro hg; try simp only [hC, reduceCtorEq] at hg) | (with_reducible show List.Nodup _; decide) | (with_reducible show (_ : Bool) = false; first | rfl | (simp [*]; done)) | with_reducible exact at8_le _ _ | with_reducible exact at8_ge _ _ | (simp only [hC, reduceCtorEq]; omega) | omega | with_reducible assumption | (with_reducible show (_ : Bool) = true; first | (simp [*]; done) | (simp only [hC, reduceCtorEq]; (repeat' (first | assumption | apply And.intro)); done))))
    refine AW.loopV [7] [0, 5, 6] (fun m xs o => ∃ k : Nat, xs = [.v (.int .i64 k)] ∧ o = [] ∧ m = l.length - k ∧ k ≤ l.length ∧ frm (l.drop k) = frm l) l.length [] trivial ⟨0, ?_, rfl, rfl, ?_, rfl⟩ ?_
    · rfl
    · omega
    rintro m xs o ⟨k, rfl, rfl, rfl, hk, hR⟩
    have h1 : k < l.length → _ := wt_kid (l := l) (k := k)
    (repeat' (first | (with_reducible first | refine Z ?_ | refine Y ?_ | (refine hK _ _ ?_; clear hK K) | exact trivial | refine And.intro ?_ ?_) | (refine AW.i rfl (fun h => ?_) (fun h => ?_) <;> try simp only [hC, reduceCtorEq] at h) | with_reducible rfl | ((with_reducible refine E ?_); (with_reducible repeat refine Y ?_); refine eF rfl ?_) | (with_reducible refine fun (K : _ → _ → Prop) hK => ?_) | (with_reducible show drawOK _ _ = true; kernel_rfl) | (with_reducible refine gI fun hg => ?_; try simp only [hC, reduceCtorEq] at hg; try simp only [hg]) | simp (maxSteps := 2000000) (disch := omega) only [go_sem] | (with_reducible intro hg; try simp only [hC, reduceCtorEq] at hg) | (with_reducible show List.Nodup _; decide) | (with_reducible show (_ : Bool) = false; first | rfl | (simp [*]; done)) | with_reducible exact at8_le _ _ | with_reducible exact at8_ge _ _ | (simp only [hC, reduceCtorEq]; omega) | omega | with_reducible assumption | (with_reducible show (_ : Bool) = true; first | (simp [*]; done) | (simp only [hC, reduceCtorEq]; (repeat' (first | assumption | apply And.intro)); done))))
    · rw [← hR, frm_at (l := l) (k := k) (by assumption)]
      rcases h with h | h
      · rw [nodeOk_no h]; rfl
      · rw [h, Bool.and_false]; rfl
    · exact ⟨_, [_], [], by omega, ⟨k + 1, rfl, rfl, rfl, by omega, by rw [← hR, frm_at (l := l) (k := k) (by assumption), nodeOk_yes h.1, h.2]; rfl⟩, rfl, trivial⟩
    · rw [← hR, drop_end h, frm]
theorem sl20Form_n (L : Nat → Nat) [hL : Lok L] : ∀ (n : Nat) (l : List GNode) (d : Nat), Ctr L Tryz.prog 151 [] [.sl false 3 (l.map (encNode false)), .v (.int .i64 d)] (.v (.bool (lfr l d && (l.length == 0 || decide (d ≤ 10))))) [] (wt l < n ∧ n + d ≤ 1048579)
  | 0, l, d => ⟨en151, fun h => absurd h.1 (Nat.not_lt_zero _)⟩
  | n + 1, l, d => by
    have ih := sl20Form_n L n
    refine Ctr.of_body en151 Tryz.func151 rfl rfl fun hp => (?_); rw [Tryz.ntmps151]
    have hl : l.length ≤ wt l := by unfold wt; omega
    (repeat' (first | (with_reducible first | refine Z ?_ | refine Y ?_ | (refine hK _ _ ?_; clear hK K) | exact trivial | refine And.intro ?_ ?_) | (refine AW.i rfl (fun h => ?_) (fun h => ?_) <;> try simp only [hC, reduceCtorEq] at h) | with_reducible rfl | ((with_reducible refine E ?_); (with_reducible repeat refine Y ?_); refine eF rfl ?_) | (with_reducible refine fun (K : _ → _ → Prop) hK => ?_) | (with_reducible show drawOK _ _ = true; kernel_rfl) | (with_reducible refine gI fun hg => ?_; try simp only [hC, reduceCtorEq] at hg; try simp only [hg]) | simp (maxSteps := 2000000) (disch := omega) only [go_sem] | (with_reducible intro hg; try simp only [hC, reduceCtorEq] at hg) | (with_reducible show List.Nodup _; decide) | (with_reducible show (_ : Bool) = false; first | rfl | (simp [*]; done)) | with_reducible exact at8_le _ _ | with_reducible exact at8_ge _ _ | (simp only [hC, reduceCtorEq]; omega) | omega | with_reducible assumption | (with_reducible show (_ : Bool) = true; first | (simp [*]; done) | (simp only [hC, reduceCtorEq]; (repeat' (first | assumption | apply And.intro)); done))))
    refine AW.loopV [5] [0, 1] (fun m xs o => ∃ k : Nat, xs = [.v (.int .i64 k)] ∧ o = [] ∧ m = l.length - k ∧ k ≤ l.length ∧ lfr (l.drop k) d = lfr l d) l.length [] trivial ⟨0, ?_, rfl, rfl, ?_, rfl⟩ ?_
    · rfl
    · omega
    rintro m xs o ⟨k, rfl, rfl, rfl, hk, hR⟩
    have h1 : k < l.length → _ := wt_kid (l := l) (k := k)
    (repeat' (first | (with_reducible first | refine Z ?_ | refine Y ?_ | (refine hK _ _ ?_; clear hK K) | exact trivial | refine And.intro ?_ ?_) | (refine AW.i rfl (fun h => ?_) (fun h => ?_) <;> try simp only [hC, reduceCtorEq] at h) | with_reducible rfl | ((with_reducible refine E ?_); (with_reducible repeat refine Y ?_); refine eF rfl ?_) | (with_reducible refine fun (K : _ → _ → Prop) hK => ?_) | (with_reducible show drawOK _ _ = true; kernel_rfl) | (with_reducible refine gI fun hg => ?_; try simp only [hC, reduceCtorEq] at hg; try simp only [hg]) | simp (maxSteps := 2000000) (disch := omega) only [go_sem] | (with_reducible intro hg; try simp only [hC, reduceCtorEq] at hg) | (with_reducible show List.Nodup _; decide) | (with_reducible show (_ : Bool) = false; first | rfl | (simp [*]; done)) | with_reducible exact at8_le _ _ | with_reducible exact at8_ge _ _ | (simp only [hC, reduceCtorEq]; omega) | omega | with_reducible assumption | (with_reducible show (_ : Bool) = true; first | (simp [*]; done) | (simp only [hC, reduceCtorEq]; (repeat' (first | assumption | apply And.intro)); done))))
    · rw [← hR, lfr_at (l := l) (k := k) (by assumption)]
      rcases h with h | h
      · rw [nodeOk_no h]; rfl
      · have : (lfr (at_ l k).fKids (d + 1) && ((at_ l k).fKids.length == 0 || decide (d + 1 ≤ 10))) = false := by
          cases e : lfr (at_ l k).fKids (d + 1) with
          | false => rfl
          | true =>
            have h5 := h e
            have e1 : ((at_ l k).fKids.length == 0) = false := by simpa using h5.1
            have e2 : decide (d + 1 ≤ 10) = false := by simp only [decide_eq_false_iff_not]; omega
            rw [e1, e2]; rfl
        rw [this, Bool.and_false]; rfl
    · refine ⟨_, [_], [], by omega, ⟨k + 1, rfl, rfl, rfl, by omega, ?_⟩, rfl, trivial⟩
      rw [← hR, lfr_at (l := l) (k := k) (by assumption), nodeOk_yes h.1, h.2.1]
      have : ((at_ l k).fKids.length == 0 || decide (d + 1 ≤ 10)) = true := by rw [Bool.or_eq_true, beq_iff_eq, decide_eq_true_eq]; omega
      rw [this]; rfl
    · rw [← hR, drop_end h, lfr, Bool.true_and]
      refine congrArg (fun z => AV.v (.bool z)) ?_
      congr 1
      · exact Bool.eq_iff_iff.2 (by simp)
      · exact decide_eq_decide.2 (by omega)
theorem sl13Left_n (L : Nat → Nat) [hL : Lok L] : ∀ (n : Nat) (l : List GNode) (r : Int), Ctr L Tryz.prog 150 [] [.sl false 3 (l.map (encNode false)), .v (.int .i64 r)] (.v (.int .i64 (l13g l (r - l.length)))) [] (wt l < n ∧ n ≤ 1048577 ∧ 0 ≤ r ∧ r ≤ 1048576)
  | 0, l, r => ⟨en150, fun h => absurd h.1 (Nat.not_lt_zero _)⟩
  | n + 1, l, r => by
    have ih := sl13Left_n L n
    refine Ctr.of_body en150 Tryz.func150 rfl rfl fun hp => (?_); rw [Tryz.ntmps150]
    have hl : l.length ≤ wt l := by unfold wt; omega
    (repeat' (first | (with_reducible first | refine Z ?_ | refine Y ?_ | (refine hK _ _ ?_; clear hK K) | exact trivial | refine And.intro ?_ ?_) | (refine AW.i rfl (fun h => ?_) (fun h => ?_) <;> try simp only [hC, reduceCtorEq] at h) | with_reducible rfl | ((with_reducible refine E ?_); (with_reducible repeat refine Y ?_); refine eF rfl ?_) | (with_reducible refine fun (K : _ → _ → Prop) hK => ?_) | (with_reducible show drawOK _ _ = true; kernel_rfl) | (with_reducible refine gI fun hg => ?_; try simp only [hC, reduceCtorEq] at hg; try simp only [hg]) | simp (maxSteps := 2000000) (disch := omega) only [go_sem] | (with_reducible intro hg; try simp only [hC, reduceCtorEq] at hg) | (with_reducible show List.Nodup _; decide) | (with_reducible show (_ : Bool) = false; first | rfl | (simp [*]; done)) | with_reducible exact at8_le _ _ | with_reducible exact at8_ge _ _ | (simp only [hC, reduceCtorEq]; omega) | omega | with_reducible assumption | (with_reducible show (_ : Bool) = true; first | (simp [*]; done) | (simp only [hC, reduceCtorEq]; (repeat' (first | assumption | apply And.intro)); done))))
    refine AW.loopV [1, 5] [0] (fun m xs o => ∃ (k : Nat) (q : Int), xs = [.v (.int .i64 q), .v (.int .i64 k)] ∧ o = [] ∧ m = l.length - k ∧ k ≤ l.length ∧ -4611686018427387904 ≤ q ∧ q ≤ 1048576 ∧ l13g (l.drop k) q = l13g l (r - l.length)) l.length [] trivial ⟨0, r - l.length, ?_, rfl, rfl, ?_, ?_, ?_, rfl⟩ ?_
    · rfl
    · omega
    · omega
    · omega
    rintro m xs o ⟨k, q, rfl, rfl, rfl, hk, h0, h1, hR⟩
    have hw : k < l.length → _ := wt_kid (l := l) (k := k)
    have h3 := l13g_le (at_ l k).fKids (q - (at_ l k).fKids.length)
    (repeat' (first | (with_reducible first | refine Z ?_ | refine Y ?_ | (refine hK _ _ ?_; clear hK K) | exact trivial | refine And.intro ?_ ?_) | (refine AW.i rfl (fun h => ?_) (fun h => ?_) <;> try simp only [hC, reduceCtorEq] at h) | with_reducible rfl | ((with_reducible refine E ?_); (with_reducible repeat refine Y ?_); refine eF rfl ?_) | (with_reducible refine fun (K : _ → _ → Prop) hK => ?_) | (with_reducible show drawOK _ _ = true; kernel_rfl) | (with_reducible refine gI fun hg => ?_; try simp only [hC, reduceCtorEq] at hg; try simp only [hg]) | simp (maxSteps := 2000000) (disch := omega) only [go_sem] | (with_reducible intro hg; try simp only [hC, reduceCtorEq] at hg) | (with_reducible show List.Nodup _; decide) | (with_reducible show (_ : Bool) = false; first | rfl | (simp [*]; done)) | with_reducible exact at8_le _ _ | with_reducible exact at8_ge _ _ | (simp only [hC, reduceCtorEq]; omega) | omega | with_reducible assumption | (with_reducible show (_ : Bool) = true; first | (simp [*]; done) | (simp only [hC, reduceCtorEq]; (repeat' (first | assumption | apply And.intro)); done))))
    · have h4 : -4611686018427387904 ≤ l13g (at_ l k).fKids (q - (at_ l k).fKids.length) := l13g_ge _ _ (by have := hw h.1; unfold wt at *; omega) (by have := hw h.1; omega)
      refine ⟨_, [_, _], [], by omega, ⟨k + 1, _, rfl, rfl, rfl, by omega, h4, by omega, ?_⟩, rfl, trivial⟩
      rw [← hR, l13g_at h.1, if_neg (by omega)]
    · rw [← hR]
      by_cases e : k < l.length
      · rw [l13g_neg _ (h e)]
      · rw [drop_end e, l13g]

instance iCountTree_i (L : Nat → Nat) [hL : Lok L] (l : List GNode) : Ctr L Tryz.prog 157 [] [.sl false 3 (l.map (encNode false))] (.v (.int .i64 (cnt l))) [] (wt l ≤ 1048576) := ⟨en157, fun h => (iCountTree_n L 1048577 l).out ⟨by omega, by omega⟩⟩
instance itreeDepth_i (L : Nat → Nat) [hL : Lok L] (l : List GNode) : Ctr L Tryz.prog 158 [] [.sl false 3 (l.map (encNode false))] (.v (.int .i64 (dep l))) [] (wt l ≤ 1048576) := ⟨en158, fun h => (itreeDepth_n L 1048577 l).out ⟨by omega, by omega⟩⟩
instance iisForm_i (L : Nat → Nat) [hL : Lok L] (l : List GNode) : Ctr L Tryz.prog 159 [] [.sl false 3 (l.map (encNode false))] (.v (.bool (frm l))) [] (wt l ≤ 1048576) := ⟨en159, fun h => (iisForm_n L 1048577 l).out ⟨by omega, by omega⟩⟩
instance sl20Form_i (L : Nat → Nat) [hL : Lok L] (l : List GNode) : Ctr L Tryz.prog 151 [] [.sl false 3 (l.map (encNode false)), .v (.int .i64 1)] (.v (.bool (lfr l 1 && (l.length == 0 || decide (1 ≤ 10))))) [] (wt l ≤ 1048576) := ⟨en151, fun h => (sl20Form_n L 1048577 l 1).out ⟨by omega, by omega⟩⟩
instance sl13Left_i (L : Nat → Nat) [hL : Lok L] (l : List GNode) (r : Int) : Ctr L Tryz.prog 150 [] [.sl false 3 (l.map (encNode false)), .v (.int .i64 r)] (.v (.int .i64 (l13g l (r - l.length)))) [] (wt l ≤ 1048576 ∧ 0 ≤ r ∧ r ≤ 1048576) := ⟨en150, fun h => (sl13Left_n L 1048577 l r).out ⟨by omega, by omega, h.2⟩⟩
instance iIsForm_i (L : Nat → Nat) [hL : Lok L] (l : List GNode) : Ctr L Tryz.prog 99 [] [.sl false 3 (l.map (encNode false))] (.v (.bool (isForm l))) [] (wt l ≤ 1048576) := by
  refine Ctr.of_body en99 Tryz.func99 rfl rfl fun hp => (?_); rw [Tryz.ntmps99]
  (repeat' (first | (with_reducible first | refine Z ?_ | refine Y ?_ | (refine hK _ _ ?_; clear hK K) | exact trivial | refine And.intro ?_ ?_) | (refine AW.i rfl (fun h => ?_) (fun h => ?_) <;> try simp only [hC, reduceCtorEq] at h) | with_reducible rfl | ((with_reducible refine E ?_); (with_reducible repeat refine Y ?_); refine eF rfl ?_) | (with_reducible refine fun (K : _ → _ → Prop) hK => ?_) | (with_reducible show drawOK _ _ = true; kernel_rfl) | (with_reducible refine gI fun hg => ?_; try simp only [hC, reduceCtorEq] at hg; try simp only [hg]) | simp (maxSteps := 2000000) (disch := omega) only [go_sem] | (with_reducible intro hg; try simp only [hC, reduceCtorEq] at hg) | (with_reducible show List.Nodup _; decide) | (with_reducible show (_ : Bool) = false; first | rfl | (simp [*]; done)) | with_reducible exact at8_le _ _ | with_reducible exact at8_ge _ _ | (simp only [hC, reduceCtorEq]; omega) | omega | with_reducible assumption | (with_reducible show (_ : Bool) = true; first | (simp [*]; done) | (simp only [hC, reduceCtorEq]; (repeat' (first | assumption | apply And.intro)); done))))
  rw [isForm]
  refine congrArg (fun z => AV.v (.bool z)) ?_
  rw [show decide ((cnt l : Int) ≤ 120) = decide (cnt l ≤ 120) from decide_eq_decide.2 (by omega), show decide ((dep l : Int) ≤ 10) = decide (dep l ≤ 10) from decide_eq_decide.2 (by omega)]
instance sIsForm_i (L : Nat → Nat) [hL : Lok L] (l : List GNode) : Ctr L Tryz.prog 94 [] [.sl false 3 (l.map (encNode false))] (.v (.bool (isForm l))) [] (wt l ≤ 1048576) := by
  refine Ctr.of_body en94 Tryz.func94 rfl rfl fun hp => (?_); rw [Tryz.ntmps94]
  (repeat' (first | (with_reducible first | refine Z ?_ | refine Y ?_ | (refine hK _ _ ?_; clear hK K) | exact trivial | refine And.intro ?_ ?_) | (refine AW.i rfl (fun h => ?_) (fun h => ?_) <;> try simp only [hC, reduceCtorEq] at h) | with_reducible rfl | ((with_reducible refine E ?_); (with_reducible repeat refine Y ?_); refine eF rfl ?_) | (with_reducible refine fun (K : _ → _ → Prop) hK => ?_) | (with_reducible show drawOK _ _ = true; kernel_rfl) | (with_reducible refine gI fun hg => ?_; try simp only [hC, reduceCtorEq] at hg; try simp only [hg]) | simp (maxSteps := 2000000) (disch := omega) only [go_sem] | (with_reducible intro hg; try simp only [hC, reduceCtorEq] at hg) | (with_reducible show List.Nodup _; decide) | (with_reducible show (_ : Bool) = false; first | rfl | (simp [*]; done)) | with_reducible exact at8_le _ _ | with_reducible exact at8_ge _ _ | (simp only [hC, reduceCtorEq]; omega) | omega | with_reducible assumption | (with_reducible show (_ : Bool) = true; first | (simp [*]; done) | (simp only [hC, reduceCtorEq]; (repeat' (first | assumption | apply And.intro)); done))))
  rw [← isForm_spec]; rfl
end Go.Proofs.YtkdchlggdcmkbaaGreat
namespace Go.Proofs.YtkdchlggdcmkbaaGreat
open Go.Ab Go.Dt
set_option maxRecDepth 20000
set_option maxHeartbeats 2000000

theorem valuesFit_n : ∀ (n : Nat) (l : List GNode) (ps : List Str), Ctr lim Tryz.prog 100 [] [.sl false 3 (l.map (encNode false)), .sl false 1 (ps.map AV.str)] (.v (.bool (bodyOk ps l))) [] (wt l < n ∧ n ≤ 1048577)
  | 0, l, ps => ⟨en100, fun h => absurd h.1 (Nat.not_lt_zero _)⟩
  | n + 1, l, ps => by
    have ih := valuesFit_n n
    refine Ctr.of_body en100 Tryz.func100 rfl rfl fun hp => (?_); rw [Tryz.ntmps100]
    have hl : l.length ≤ wt l := by unfold wt; omega
    (repeat' (first | (with_reducible first | refine Z ?_ | refine Y ?_ | (refine hK _ _ ?_; clear hK K) | exact trivial | refine And.intro ?_ ?_) | (refine AW.i rfl (fun h => ?_) (fun h => ?_) <;> try simp only [hC, reduceCtorEq] at h) | with_reducible rfl | ((with_reducible refine E ?_); (with_reducible repeat refine Y ?_); refine eF rfl ?_) | (with_reducible refine fun (K : _ → _ → Prop) hK => ?_) | (with_reducible show drawOK _ _ = true; kernel_rfl) | (with_reducible refine gI fun hg => ?_; try simp only [hC, reduceCtorEq] at hg; try simp only [hg]) | simp (maxSteps := 2000000) (disch := omega) only [go_sem] | (with_reducible intro hg; try simp only [hC, reduceCtorEq] at hg) | (with_reducible show List.Nodup _; decide) | (with_reducible show (_ : Bool) = false; first | rfl | (simp [*]; done)) | with_reducible exact at8_le _ _ | with_reducible exact at8_ge _ _ | (simp only [hC, reduceCtorEq]; omega) | omega | with_reducible assumption | (with_reducible show (_ : Bool) = true; first | (simp [*]; done) | (simp only [hC, reduceCtorEq]; (repeat' (first | assumption | apply And.intro)); done))))
    refine AW.loopV [13] [0, 1, 11, 12] (fun m xs o => ∃ k : Nat, xs = [.v (.int .i64 k)] ∧ o = [] ∧ m = l.length - k ∧ k ≤ l.length ∧ bodyOk ps (l.drop k) = bodyOk ps l) l.length [] trivial ⟨0, ?_, rfl, rfl, ?_, rfl⟩ ?_
    · rfl
    · omega
    rintro m xs o ⟨k, rfl, rfl, rfl, hk, hR⟩
    have h1 : k < l.length → _ := wt_kid (l := l) (k := k)
    (repeat' (first | (with_reducible first | refine Z ?_ | refine Y ?_ | (refine hK _ _ ?_; clear hK K) | exact trivial | refine And.intro ?_ ?_) | with_reducible rfl | ((with_reducible refine E ?_); (with_reducible repeat refine Y ?_); refine eF rfl ?_) | (with_reducible refine fun (K : _ → _ → Prop) hK => ?_) | (with_reducible show drawOK _ _ = true; kernel_rfl) | (with_reducible refine gI fun hg => ?_; try simp only [hC, reduceCtorEq] at hg; try simp only [hg]) | simp (maxSteps := 2000000) (disch := omega) only [go_sem] | (with_reducible intro hg; try simp only [hC, reduceCtorEq] at hg) | (with_reducible show List.Nodup _; decide) | (with_reducible show (_ : Bool) = false; first | rfl | (simp [*]; done)) | with_reducible exact at8_le _ _ | with_reducible exact at8_ge _ _ | (simp only [hC, reduceCtorEq]; omega) | omega | with_reducible assumption | (with_reducible show (_ : Bool) = true; first | (simp [*]; done) | (simp only [hC, reduceCtorEq]; (repeat' (first | assumption | apply And.intro)); done))))
    (refine AW.i rfl (fun h => ?_) (fun h => ?_) <;> try simp only [hC, reduceCtorEq] at h)
    · (repeat' (first | (with_reducible first | refine Z ?_ | refine Y ?_ | (refine hK _ _ ?_; clear hK K) | exact trivial | refine And.intro ?_ ?_) | with_reducible rfl | ((with_reducible refine E ?_); (with_reducible repeat refine Y ?_); refine eF rfl ?_) | (with_reducible refine fun (K : _ → _ → Prop) hK => ?_) | (with_reducible show drawOK _ _ = true; kernel_rfl) | (with_reducible refine gI fun hg => ?_; try simp only [hC, reduceCtorEq] at hg; try simp only [hg]) | simp (maxSteps := 2000000) (disch := omega) only [go_sem] | (with_reducible intro hg; try simp only [hC, reduceCtorEq] at hg) | (with_reducible show List.Nodup _; decide) | (with_reducible show (_ : Bool) = false; first | rfl | (simp [*]; done)) | with_reducible exact at8_le _ _ | with_reducible exact at8_ge _ _ | (simp only [hC, reduceCtorEq]; omega) | omega | with_reducible assumption | (with_reducible show (_ : Bool) = true; first | (simp [*]; done) | (simp only [hC, reduceCtorEq]; (repeat' (first | assumption | apply And.intro)); done))))
      (refine AW.i rfl (fun h => ?_) (fun h => ?_) <;> try simp only [hC, reduceCtorEq] at h)
      · rw [← hR, bodyOk_at ps (l := l) (k := k) (by assumption)]
        rcases h with h | h
        · (repeat' (first | (with_reducible first | refine Z ?_ | refine Y ?_ | (refine hK _ _ ?_; clear hK K) | exact trivial | refine And.intro ?_ ?_) | (refine AW.i rfl (fun h => ?_) (fun h => ?_) <;> try simp only [hC, reduceCtorEq] at h) | with_reducible rfl | ((with_reducible refine E ?_); (with_reducible repeat refine Y ?_); refine eF rfl ?_) | (with_reducible refine fun (K : _ → _ → Prop) hK => ?_) | (with_reducible show drawOK _ _ = true; kernel_rfl) | (with_reducible refine gI fun hg => ?_; try simp only [hC, reduceCtorEq] at hg; try simp only [hg]) | simp (maxSteps := 2000000) (disch := omega) only [go_sem] | (with_reducible intro hg; try simp only [hC, reduceCtorEq] at hg) | (with_reducible show List.Nodup _; decide) | (with_reducible show (_ : Bool) = false; first | rfl | (simp [*]; done)) | with_reducible exact at8_le _ _ | with_reducible exact at8_ge _ _ | (simp only [hC, reduceCtorEq]; omega) | omega | with_reducible assumption | (with_reducible show (_ : Bool) = true; first | (simp [*]; done) | (simp only [hC, reduceCtorEq]; (repeat' (first | assumption | apply And.intro)); done))))
          simp [h]
        · (repeat' (first | (with_reducible first | refine Z ?_ | refine Y ?_ | (refine hK _ _ ?_; clear hK K) | exact trivial | refine And.intro ?_ ?_) | (refine AW.i rfl (fun h => ?_) (fun h => ?_) <;> try simp only [hC, reduceCtorEq] at h) | with_reducible rfl | ((with_reducible refine E ?_); (with_reducible repeat refine Y ?_); refine eF rfl ?_) | (with_reducible refine fun (K : _ → _ → Prop) hK => ?_) | (with_reducible show drawOK _ _ = true; kernel_rfl) | (with_reducible refine gI fun hg => ?_; try simp only [hC, reduceCtorEq] at hg; try simp only [hg]) | simp (maxSteps := 2000000) (disch := omega) only [go_sem] | (with_reducible intro hg; try simp only [hC, reduceCtorEq] at hg) | (with_reducible show List.Nodup _; decide) | (with_reducible show (_ : Bool) = false; first | rfl | (simp [*]; done)) | with_reducible exact at8_le _ _ | with_reducible exact at8_ge _ _ | (simp only [hC, reduceCtorEq]; omega) | omega | with_reducible assumption | (with_reducible show (_ : Bool) = true; first | (simp [*]; done) | (simp only [hC, reduceCtorEq]; (repeat' (first | assumption | apply And.intro)); done))))
          simp [h]
      · have hn := allTo_list (cont ps) (nmL (tk (at_ l k).fValue))
        have hnl := nmL_len (at_ l k).fValue
        refine AW.imp (Imp.frz 7 ?_)
        simp (maxSteps := 2000000) (disch := omega) only [go_sem, frzL_str]
        (repeat' (first | (with_reducible first | refine Z ?_ | refine Y ?_ | (refine hK _ _ ?_; clear hK K) | exact trivial | refine And.intro ?_ ?_) | (refine AW.i rfl (fun h => ?_) (fun h => ?_) <;> try simp only [hC, reduceCtorEq] at h) | with_reducible rfl | ((with_reducible refine E ?_); (with_reducible repeat refine Y ?_); refine eF rfl ?_) | (with_reducible refine fun (K : _ → _ → Prop) hK => ?_) | (with_reducible show drawOK _ _ = true; kernel_rfl) | (with_reducible refine gI fun hg => ?_; try simp only [hC, reduceCtorEq] at hg; try simp only [hg]) | simp (maxSteps := 2000000) (disch := omega) only [go_sem] | (with_reducible intro hg; try simp only [hC, reduceCtorEq] at hg) | (with_reducible show List.Nodup _; decide) | (with_reducible show (_ : Bool) = false; first | rfl | (simp [*]; done)) | with_reducible exact at8_le _ _ | with_reducible exact at8_ge _ _ | (simp only [hC, reduceCtorEq]; omega) | omega | with_reducible assumption | (with_reducible show (_ : Bool) = true; first | (simp [*]; done) | (simp only [hC, reduceCtorEq]; (repeat' (first | assumption | apply And.intro)); done))))
        refine AW.loopV [34] [0, 1, 11, 12, 13, 32, 33] (fun m xs o => ∃ j : Nat, xs = [.v (.int .i64 j)] ∧ o = [] ∧ m = (nmL (tk (at_ l k).fValue)).length - j ∧ j ≤ (nmL (tk (at_ l k).fValue)).length ∧ allTo (fun j => cont ps (at_ (nmL (tk (at_ l k).fValue)) j)) j = true) _ [] trivial ⟨0, ?_, rfl, rfl, ?_, rfl⟩ ?_
        · rfl
        · omega
        rintro m xs o ⟨j, rfl, rfl, rfl, hj, hQ⟩
        (repeat' (first | (with_reducible first | refine Z ?_ | refine Y ?_ | (refine hK _ _ ?_; clear hK K) | exact trivial | refine And.intro ?_ ?_) | (refine AW.i rfl (fun h => ?_) (fun h => ?_) <;> try simp only [hC, reduceCtorEq] at h) | with_reducible rfl | ((with_reducible refine E ?_); (with_reducible repeat refine Y ?_); refine eF rfl ?_) | (with_reducible refine fun (K : _ → _ → Prop) hK => ?_) | (with_reducible show drawOK _ _ = true; kernel_rfl) | (with_reducible refine gI fun hg => ?_; try simp only [hC, reduceCtorEq] at hg; try simp only [hg]) | simp (maxSteps := 2000000) (disch := omega) only [go_sem] | (with_reducible intro hg; try simp only [hC, reduceCtorEq] at hg) | (with_reducible show List.Nodup _; decide) | (with_reducible show (_ : Bool) = false; first | rfl | (simp [*]; done)) | with_reducible exact at8_le _ _ | with_reducible exact at8_ge _ _ | (simp only [hC, reduceCtorEq]; omega) | omega | with_reducible assumption | (with_reducible show (_ : Bool) = true; first | (simp [*]; done) | (simp only [hC, reduceCtorEq]; (repeat' (first | assumption | apply And.intro)); done))))
        · rw [← hR, bodyOk_at ps (l := l) (k := k) (by assumption), ← hn, allTo_false (by assumption) h]; simp
        · exact ⟨_, [_], [], by omega, ⟨j + 1, rfl, rfl, rfl, by omega, allTo_step hQ h⟩, rfl, trivial⟩
        · rw [show j = (nmL (tk (at_ l k).fValue)).length by omega] at hQ
          rename_i h8 h9
          refine ⟨_, [_], [], by omega, ⟨k + 1, rfl, rfl, rfl, by omega, ?_⟩, rfl, trivial⟩
          rw [← hR, bodyOk_at ps (l := l) (k := k) (by assumption), ← hn, hQ, h9.1, h9.2]; rfl
    · (repeat' (first | (with_reducible first | refine Z ?_ | refine Y ?_ | (refine hK _ _ ?_; clear hK K) | exact trivial | refine And.intro ?_ ?_) | (refine AW.i rfl (fun h => ?_) (fun h => ?_) <;> try simp only [hC, reduceCtorEq] at h) | with_reducible rfl | ((with_reducible refine E ?_); (with_reducible repeat refine Y ?_); refine eF rfl ?_) | (with_reducible refine fun (K : _ → _ → Prop) hK => ?_) | (with_reducible show drawOK _ _ = true; kernel_rfl) | (with_reducible refine gI fun hg => ?_; try simp only [hC, reduceCtorEq] at hg; try simp only [hg]) | simp (maxSteps := 2000000) (disch := omega) only [go_sem] | (with_reducible intro hg; try simp only [hC, reduceCtorEq] at hg) | (with_reducible show List.Nodup _; decide) | (with_reducible show (_ : Bool) = false; first | rfl | (simp [*]; done)) | with_reducible exact at8_le _ _ | with_reducible exact at8_ge _ _ | (simp only [hC, reduceCtorEq]; omega) | omega | with_reducible assumption | (with_reducible show (_ : Bool) = true; first | (simp [*]; done) | (simp only [hC, reduceCtorEq]; (repeat' (first | assumption | apply And.intro)); done))))
      rw [← hR, drop_end h, bodyOk]
theorem l28Body_n : ∀ (n : Nat) (l : List GNode) (nm : Str) (ps : List GParam) (bd : List GNode), Ctr lim Tryz.prog 95 [] [.agg [.str nm, .sl false 6 (ps.map (encParam false)), .sl false 3 (bd.map (encNode false))], .sl false 3 (l.map (encNode false))] (.v (.bool (bodyOk (ps.map GParam.fName) l))) [] (wt l < n ∧ n ≤ 1048577)
  | 0, l, nm, ps, bd => ⟨en95, fun h => absurd h.1 (Nat.not_lt_zero _)⟩
  | n + 1, l, nm, ps, bd => by
    have ih := l28Body_n n
    refine Ctr.of_body en95 Tryz.func95 rfl rfl fun hp => (?_); rw [Tryz.ntmps95]
    have hl : l.length ≤ wt l := by unfold wt; omega
    (repeat' (first | (with_reducible first | refine Z ?_ | refine Y ?_ | (refine hK _ _ ?_; clear hK K) | exact trivial | refine And.intro ?_ ?_) | (refine AW.i rfl (fun h => ?_) (fun h => ?_) <;> try simp only [hC, reduceCtorEq] at h) | with_reducible rfl | ((with_reducible refine E ?_); (with_reducible repeat refine Y ?_); refine eF rfl ?_) | (with_reducible refine fun (K : _ → _ → Prop) hK => ?_) | (with_reducible show drawOK _ _ = true; kernel_rfl) | (with_reducible refine gI fun hg => ?_; try simp only [hC, reduceCtorEq] at hg; try simp only [hg]) | simp (maxSteps := 2000000) (disch := omega) only [go_sem] | (with_reducible intro hg; try simp only [hC, reduceCtorEq] at hg) | (with_reducible show List.Nodup _; decide) | (with_reducible show (_ : Bool) = false; first | rfl | (simp [*]; done)) | with_reducible exact at8_le _ _ | with_reducible exact at8_ge _ _ | (simp only [hC, reduceCtorEq]; omega) | omega | with_reducible assumption | (with_reducible show (_ : Bool) = true; first | (simp [*]; done) | (simp only [hC, reduceCtorEq]; (repeat' (first | assumption | apply And.intro)); done))))
    refine AW.loopV [5] [0, 1, 2] (fun m xs o => ∃ k : Nat, xs = [.v (.int .i64 k)] ∧ o = [] ∧ m = l.length - k ∧ k ≤ l.length ∧ bodyOk (ps.map GParam.fName) (l.drop k) = bodyOk (ps.map GParam.fName) l) l.length [] trivial ⟨0, ?_, rfl, rfl, ?_, rfl⟩ ?_
    · rfl
    · omega
    rintro m xs o ⟨k, rfl, rfl, rfl, hk, hR⟩
    have h1 : k < l.length → _ := wt_kid (l := l) (k := k)
    (repeat' (first | (with_reducible first | refine Z ?_ | refine Y ?_ | (refine hK _ _ ?_; clear hK K) | exact trivial | refine And.intro ?_ ?_) | with_reducible rfl | ((with_reducible refine E ?_); (with_reducible repeat refine Y ?_); refine eF rfl ?_) | (with_reducible refine fun (K : _ → _ → Prop) hK => ?_) | (with_reducible show drawOK _ _ = true; kernel_rfl) | (with_reducible refine gI fun hg => ?_; try simp only [hC, reduceCtorEq] at hg; try simp only [hg]) | simp (maxSteps := 2000000) (disch := omega) only [go_sem] | (with_reducible intro hg; try simp only [hC, reduceCtorEq] at hg) | (with_reducible show List.Nodup _; decide) | (with_reducible show (_ : Bool) = false; first | rfl | (simp [*]; done)) | with_reducible exact at8_le _ _ | with_reducible exact at8_ge _ _ | (simp only [hC, reduceCtorEq]; omega) | omega | with_reducible assumption | (with_reducible show (_ : Bool) = true; first | (simp [*]; done) | (simp only [hC, reduceCtorEq]; (repeat' (first | assumption | apply And.intro)); done))))
    (refine AW.i rfl (fun h => ?_) (fun h => ?_) <;> try simp only [hC, reduceCtorEq] at h)
    · (repeat' (first | (with_reducible first | refine Z ?_ | refine Y ?_ | (refine hK _ _ ?_; clear hK K) | exact trivial | refine And.intro ?_ ?_) | with_reducible rfl | ((with_reducible refine E ?_); (with_reducible repeat refine Y ?_); refine eF rfl ?_) | (with_reducible refine fun (K : _ → _ → Prop) hK => ?_) | (with_reducible show drawOK _ _ = true; kernel_rfl) | (with_reducible refine gI fun hg => ?_; try simp only [hC, reduceCtorEq] at hg; try simp only [hg]) | simp (maxSteps := 2000000) (disch := omega) only [go_sem] | (with_reducible intro hg; try simp only [hC, reduceCtorEq] at hg) | (with_reducible show List.Nodup _; decide) | (with_reducible show (_ : Bool) = false; first | rfl | (simp [*]; done)) | with_reducible exact at8_le _ _ | with_reducible exact at8_ge _ _ | (simp only [hC, reduceCtorEq]; omega) | omega | with_reducible assumption | (with_reducible show (_ : Bool) = true; first | (simp [*]; done) | (simp only [hC, reduceCtorEq]; (repeat' (first | assumption | apply And.intro)); done))))
      have hn := allTo_list (cont (ps.map GParam.fName)) (nmL (tk (at_ l k).fValue))
      have hnl := nmL_len (at_ l k).fValue
      refine AW.imp (Imp.frz 6 ?_)
      simp (maxSteps := 2000000) (disch := omega) only [go_sem, frzL_str]
      refine AW.loopV [7, 8] [0, 1, 2, 5, 6] (fun m xs o => ∃ j : Nat, xs = [.v (.bool ((tk (at_ l k).fValue).2 && allTo (fun j => cont (ps.map GParam.fName) (at_ (nmL (tk (at_ l k).fValue)) j)) j)), .v (.int .i64 j)] ∧ o = [] ∧ m = (nmL (tk (at_ l k).fValue)).length - j ∧ j ≤ (nmL (tk (at_ l k).fValue)).length) _ [] trivial ⟨0, ?_, rfl, rfl, ?_⟩ ?_
      · simp only [allTo, Bool.and_true]; rfl
      · omega
      rintro m xs o ⟨j, rfl, rfl, rfl, hj⟩
      (repeat' (first | (with_reducible first | refine Z ?_ | refine Y ?_ | (refine hK _ _ ?_; clear hK K) | exact trivial | refine And.intro ?_ ?_) | (refine AW.i rfl (fun h => ?_) (fun h => ?_) <;> try simp only [hC, reduceCtorEq] at h) | with_reducible rfl | ((with_reducible refine E ?_); (with_reducible repeat refine Y ?_); refine eF rfl ?_) | (with_reducible refine fun (K : _ → _ → Prop) hK => ?_) | (with_reducible show drawOK _ _ = true; kernel_rfl) | (with_reducible refine gI fun hg => ?_; try simp only [hC, reduceCtorEq] at hg; try simp only [hg]) | simp (maxSteps := 2000000) (disch := omega) only [go_sem] | (with_reducible intro hg; try simp only [hC, reduceCtorEq] at hg) | (with_reducible show List.Nodup _; decide) | (with_reducible show (_ : Bool) = false; first | rfl | (simp [*]; done)) | with_reducible exact at8_le _ _ | with_reducible exact at8_ge _ _ | (simp only [hC, reduceCtorEq]; omega) | omega | with_reducible assumption | (with_reducible show (_ : Bool) = true; first | (simp [*]; done) | (simp only [hC, reduceCtorEq]; (repeat' (first | assumption | apply And.intro)); done))))
      · exact ⟨_, [_, _], [], by omega, ⟨j + 1, by rw [prm_cont, Bool.and_assoc]; rfl, rfl, rfl, by omega⟩, rfl, trivial⟩
      · rw [← hR, bodyOk_at _ (l := l) (k := k) (by assumption), ← hn]
        rw [show j = (nmL (tk (at_ l k).fValue)).length by omega] at h
        rcases h with h | h
        · cases e : (tk (at_ l k).fValue).2 with
          | false => rfl
          | true => rw [h e]; rfl
        · rw [h, Bool.and_false]; rfl
      · rw [show j = (nmL (tk (at_ l k).fValue)).length by omega] at h
        refine ⟨_, [_], [], by omega, ⟨k + 1, rfl, rfl, rfl, by omega, ?_⟩, rfl, trivial⟩
        rw [← hR, bodyOk_at _ (l := l) (k := k) (by assumption), ← hn, h.1.1, h.1.2, h.2]; rfl
    · (repeat' (first | (with_reducible first | refine Z ?_ | refine Y ?_ | (refine hK _ _ ?_; clear hK K) | exact trivial | refine And.intro ?_ ?_) | (refine AW.i rfl (fun h => ?_) (fun h => ?_) <;> try simp only [hC, reduceCtorEq] at h) | with_reducible rfl | ((with_reducible refine E ?_); (with_reducible repeat refine Y ?_); refine eF rfl ?_) | (with_reducible refine fun (K : _ → _ → Prop) hK => ?_) | (with_reducible show drawOK _ _ = true; kernel_rfl) | (with_reducible refine gI fun hg => ?_; try simp only [hC, reduceCtorEq] at hg; try simp only [hg]) | simp (maxSteps := 2000000) (disch := omega) only [go_sem] | (with_reducible intro hg; try simp only [hC, reduceCtorEq] at hg) | (with_reducible show List.Nodup _; decide) | (with_reducible show (_ : Bool) = false; first | rfl | (simp [*]; done)) | with_reducible exact at8_le _ _ | with_reducible exact at8_ge _ _ | (simp only [hC, reduceCtorEq]; omega) | omega | with_reducible assumption | (with_reducible show (_ : Bool) = true; first | (simp [*]; done) | (simp only [hC, reduceCtorEq]; (repeat' (first | assumption | apply And.intro)); done))))
      rw [← hR, drop_end h, bodyOk]

instance valuesFit_i (l : List GNode) (ps : List Str) : Ctr lim Tryz.prog 100 [] [.sl false 3 (l.map (encNode false)), .sl false 1 (ps.map AV.str)] (.v (.bool (bodyOk ps l))) [] (wt l ≤ 1048576) := ⟨en100, fun h => (valuesFit_n 1048577 l ps).out ⟨by omega, by omega⟩⟩
instance l28Body_i (l : List GNode) (nm : Str) (ps : List GParam) (bd : List GNode) : Ctr lim Tryz.prog 95 [] [.agg [.str nm, .sl false 6 (ps.map (encParam false)), .sl false 3 (bd.map (encNode false))], .sl false 3 (l.map (encNode false))] (.v (.bool (bodyOk (ps.map GParam.fName) l))) [] (wt l ≤ 1048576) := ⟨en95, fun h => (l28Body_n 1048577 l nm ps bd).out ⟨by omega, by omega⟩⟩
end Go.Proofs.YtkdchlggdcmkbaaGreat
namespace Go.Proofs.YtkdchlggdcmkbaaGreat
open Go.Ab Go.Dt
set_option maxRecDepth 20000
set_option maxHeartbeats 4000000

section
variable (ip : Str → Bool)
variable [hs : ∀ s, Ctr lim Tryz.prog 148 [] [.str s] (.v (.bool (ip s))) [] True] [hi : ∀ s, Ctr lim Tryz.prog 155 [] [.str s] (.v (.bool (ip s))) [] True]
omit hs in
include hi in
theorem iIsType_t (x : GType) : Ctr lim Tryz.prog 98 [] [.agg [.v (.int .i64 x.fKind), .sl false 2 (x.fRanges.map (encRange false)), .sl false 1 (x.fNames.map AV.str), .str x.fPattern, .str x.fPath]] (.v (.bool (isType ip x))) [] True := by
  refine Ctr.of_body en98 Tryz.func98 rfl rfl fun hp => (?_); rw [Tryz.ntmps98]
  refine AW.fact 0 fun hf => ?_
  simp (disch := omega) only [go_sem, Nat.reduceBEq] at hf
  (repeat' (first | (with_reducible first | refine Z ?_ | refine Y ?_ | (refine hK _ _ ?_; clear hK K) | exact trivial | refine And.intro ?_ ?_) | (refine AW.i rfl (fun h => ?_) (fun h => ?_) <;> try simp only [hC, reduceCtorEq] at h) | with_reducible rfl | ((with_reducible refine E ?_); (with_reducible repeat refine Y ?_); refine eF rfl ?_) | (with_reducible refine fun (K : _ → _ → Prop) hK => ?_) | (with_reducible show drawOK _ _ = true; kernel_rfl) | (with_reducible refine gI fun hg => ?_; try simp only [hC, reduceCtorEq] at hg; try simp only [hg]) | simp (maxSteps := 2000000) (disch := omega) only [go_sem] | (with_reducible intro hg; try simp only [hC, reduceCtorEq] at hg) | (with_reducible show List.Nodup _; decide) | (with_reducible show (_ : Bool) = false; first | rfl | (simp [*]; done)) | with_reducible exact at8_le _ _ | with_reducible exact at8_ge _ _ | (simp only [hC, reduceCtorEq]; omega) | omega | with_reducible assumption | (with_reducible show (_ : Bool) = true; first | (simp [*]; done) | (simp only [hC, reduceCtorEq]; (repeat' (first | assumption | apply And.intro)); done))))
  · rw [← isType_w0 h]
  · rw [← isType_w1 (by assumption) h]
  · rw [← isType_w2 (by assumption) h]; rfl
  · rw [← isType_w4 (by assumption) h]
  · rw [← isType_w5 (by assumption) h]
  · rw [← isType_wz (by assumption) (by assumption) (by assumption) (by assumption) h]
omit hi in
include hs in
theorem sIsType_t (x : GType) : Ctr lim Tryz.prog 92 [] [.agg [.v (.int .i64 x.fKind), .sl false 2 (x.fRanges.map (encRange false)), .sl false 1 (x.fNames.map AV.str), .str x.fPattern, .str x.fPath]] (.v (.bool (isType ip x))) [] True := by
  refine Ctr.of_body en92 Tryz.func92 rfl rfl fun hp => (?_); rw [Tryz.ntmps92]
  refine AW.fact 0 fun hf => ?_
  simp (disch := omega) only [go_sem, Nat.reduceBEq] at hf
  (repeat' (first | (with_reducible first | refine Z ?_ | refine Y ?_ | (refine hK _ _ ?_; clear hK K) | exact trivial | refine And.intro ?_ ?_) | (refine AW.i rfl (fun h => ?_) (fun h => ?_) <;> try simp only [hC, reduceCtorEq] at h) | with_reducible rfl | ((with_reducible refine E ?_); (with_reducible repeat refine Y ?_); refine eF rfl ?_) | (with_reducible refine fun (K : _ → _ → Prop) hK => ?_) | (with_reducible show drawOK _ _ = true; kernel_rfl) | (with_reducible refine gI fun hg => ?_; try simp only [hC, reduceCtorEq] at hg; try simp only [hg]) | simp (maxSteps := 2000000) (disch := omega) only [go_sem] | (with_reducible intro hg; try simp only [hC, reduceCtorEq] at hg) | (with_reducible show List.Nodup _; decide) | (with_reducible show (_ : Bool) = false; first | rfl | (simp [*]; done)) | with_reducible exact at8_le _ _ | with_reducible exact at8_ge _ _ | (simp only [hC, reduceCtorEq]; omega) | omega | with_reducible assumption | (with_reducible show (_ : Bool) = true; first | (simp [*]; done) | (simp only [hC, reduceCtorEq]; (repeat' (first | assumption | apply And.intro)); done))))
  refine AW.loopV [3] [0, 1] (fun m xs o => ∃ k : Nat, xs = [.v (.int .i64 k)] ∧ o = [] ∧ m = x.fNames.length - k ∧ k ≤ x.fNames.length ∧ allTo (fun j => isName (at_ x.fNames j)) k = true ∧ allTo (fun j => !cont (x.fNames.take j) (at_ x.fNames j)) k = true) x.fNames.length [] trivial ⟨0, ?_, rfl, rfl, ?_, rfl, rfl⟩ ?_
  · rfl
  · omega
  rintro m xs o ⟨k, rfl, rfl, rfl, hk, hR, hQ⟩
  (repeat' (first | (with_reducible first | refine Z ?_ | refine Y ?_ | (refine hK _ _ ?_; clear hK K) | exact trivial | refine And.intro ?_ ?_) | with_reducible rfl | ((with_reducible refine E ?_); (with_reducible repeat refine Y ?_); refine eF rfl ?_) | (with_reducible refine fun (K : _ → _ → Prop) hK => ?_) | (with_reducible show drawOK _ _ = true; kernel_rfl) | (with_reducible refine gI fun hg => ?_; try simp only [hC, reduceCtorEq] at hg; try simp only [hg]) | simp (maxSteps := 2000000) (disch := omega) only [go_sem] | (with_reducible intro hg; try simp only [hC, reduceCtorEq] at hg) | (with_reducible show List.Nodup _; decide) | (with_reducible show (_ : Bool) = false; first | rfl | (simp [*]; done)) | with_reducible exact at8_le _ _ | with_reducible exact at8_ge _ _ | (simp only [hC, reduceCtorEq]; omega) | omega | with_reducible assumption | (with_reducible show (_ : Bool) = true; first | (simp [*]; done) | (simp only [hC, reduceCtorEq]; (repeat' (first | assumption | apply And.intro)); done))))
  (refine AW.i rfl (fun h => ?_) (fun h => ?_) <;> try simp only [hC, reduceCtorEq] at h)
  · (repeat' (first | (with_reducible first | refine Z ?_ | refine Y ?_ | (refine hK _ _ ?_; clear hK K) | exact trivial | refine And.intro ?_ ?_) | with_reducible rfl | ((with_reducible refine E ?_); (with_reducible repeat refine Y ?_); refine eF rfl ?_) | (with_reducible refine fun (K : _ → _ → Prop) hK => ?_) | (with_reducible show drawOK _ _ = true; kernel_rfl) | (with_reducible refine gI fun hg => ?_; try simp only [hC, reduceCtorEq] at hg; try simp only [hg]) | simp (maxSteps := 2000000) (disch := omega) only [go_sem] | (with_reducible intro hg; try simp only [hC, reduceCtorEq] at hg) | (with_reducible show List.Nodup _; decide) | (with_reducible show (_ : Bool) = false; first | rfl | (simp [*]; done)) | with_reducible exact at8_le _ _ | with_reducible exact at8_ge _ _ | (simp only [hC, reduceCtorEq]; omega) | omega | with_reducible assumption | (with_reducible show (_ : Bool) = true; first | (simp [*]; done) | (simp only [hC, reduceCtorEq]; (repeat' (first | assumption | apply And.intro)); done))))
    refine AW.loopV [4] [0, 1, 3] (fun m xs o => ∃ j : Nat, xs = [.v (.int .i64 j)] ∧ o = [] ∧ m = k - j ∧ j ≤ k ∧ ∀ y ∈ (x.fNames.take k).take j, (y == at_ x.fNames k) = false) k [] trivial ⟨0, ?_, rfl, rfl, ?_, ?_⟩ ?_
    · rfl
    · omega
    · simp
    rintro m xs o ⟨j, rfl, rfl, rfl, hj, hS⟩
    (repeat' (first | (with_reducible first | refine Z ?_ | refine Y ?_ | (refine hK _ _ ?_; clear hK K) | exact trivial | refine And.intro ?_ ?_) | (refine AW.i rfl (fun h => ?_) (fun h => ?_) <;> try simp only [hC, reduceCtorEq] at h) | with_reducible rfl | ((with_reducible refine E ?_); (with_reducible repeat refine Y ?_); refine eF rfl ?_) | (with_reducible refine fun (K : _ → _ → Prop) hK => ?_) | (with_reducible show drawOK _ _ = true; kernel_rfl) | (with_reducible refine gI fun hg => ?_; try simp only [hC, reduceCtorEq] at hg; try simp only [hg]) | simp (maxSteps := 2000000) (disch := omega) only [go_sem] | (with_reducible intro hg; try simp only [hC, reduceCtorEq] at hg) | (with_reducible show List.Nodup _; decide) | (with_reducible show (_ : Bool) = false; first | rfl | (simp [*]; done)) | with_reducible exact at8_le _ _ | with_reducible exact at8_ge _ _ | (simp only [hC, reduceCtorEq]; omega) | omega | with_reducible assumption | (with_reducible show (_ : Bool) = true; first | (simp [*]; done) | (simp only [hC, reduceCtorEq]; (repeat' (first | assumption | apply And.intro)); done))))
    · rw [← isType_bad (by assumption) (.inr (allTo_false (by assumption) (by rw [cont_dup (by assumption) (by assumption) h]; rfl)))]
    · exact ⟨_, [_], [], by omega, ⟨j + 1, rfl, rfl, rfl, by omega, take_step' (by rw [List.length_take]; omega) hS (by rw [at_take (by assumption)]; simpa using h)⟩, rfl, trivial⟩
    · rw [← isType_bad (by assumption) (.inl (allTo_false (by assumption) h))]
    · rw [show j = k by omega, List.take_take, Nat.min_self] at hS
      exact ⟨_, [_], [], by omega, ⟨k + 1, rfl, rfl, rfl, by omega, allTo_step hR h, allTo_step hQ (by rw [cont_free hS]; rfl)⟩, rfl, trivial⟩
  · rw [show k = x.fNames.length by omega] at hR hQ
    (repeat' (first | (with_reducible first | refine Z ?_ | refine Y ?_ | (refine hK _ _ ?_; clear hK K) | exact trivial | refine And.intro ?_ ?_) | (refine AW.i rfl (fun h => ?_) (fun h => ?_) <;> try simp only [hC, reduceCtorEq] at h) | with_reducible rfl | ((with_reducible refine E ?_); (with_reducible repeat refine Y ?_); refine eF rfl ?_) | (with_reducible refine fun (K : _ → _ → Prop) hK => ?_) | (with_reducible show drawOK _ _ = true; kernel_rfl) | (with_reducible refine gI fun hg => ?_; try simp only [hC, reduceCtorEq] at hg; try simp only [hg]) | simp (maxSteps := 2000000) (disch := omega) only [go_sem] | (with_reducible intro hg; try simp only [hC, reduceCtorEq] at hg) | (with_reducible show List.Nodup _; decide) | (with_reducible show (_ : Bool) = false; first | rfl | (simp [*]; done)) | with_reducible exact at8_le _ _ | with_reducible exact at8_ge _ _ | (simp only [hC, reduceCtorEq]; omega) | omega | with_reducible assumption | (with_reducible show (_ : Bool) = true; first | (simp [*]; done) | (simp only [hC, reduceCtorEq]; (repeat' (first | assumption | apply And.intro)); done))))
    · rw [← isType_v1 h]
    · rw [← isType_v2 h]; rfl
    · rw [← isType_v4 h hR hQ]
    · rw [← isType_v5 h]
    · rw [← isType_v3 (by assumption) (by assumption) (by assumption) (by assumption) (.inl h)]
    · rw [← isType_v3 (by assumption) (by assumption) (by assumption) (by assumption) (.inr h)]
    · rw [← isType_vz (by assumption) (by assumption) (by assumption) (by assumption) (by assumption) (by assumption)]
end
end Go.Proofs.YtkdchlggdcmkbaaGreat
namespace Go.Proofs.YtkdchlggdcmkbaaGreat
open Go.Ab Go.Dt
set_option maxRecDepth 20000
set_option maxHeartbeats 4000000

section
variable (ip : Str → Bool)
variable [hs : ∀ x : GType, Ctr lim Tryz.prog 92 [] [.agg [.v (.int .i64 x.fKind), .sl false 2 (x.fRanges.map (encRange false)), .sl false 1 (x.fNames.map AV.str), .str x.fPattern, .str x.fPath]] (.v (.bool (isType ip x))) [] True]
variable [hi : ∀ x : GType, Ctr lim Tryz.prog 98 [] [.agg [.v (.int .i64 x.fKind), .sl false 2 (x.fRanges.map (encRange false)), .sl false 1 (x.fNames.map AV.str), .str x.fPattern, .str x.fPath]] (.v (.bool (isType ip x))) [] True]
omit hs in
include hi in
theorem iIsTemplate_t (x : GTemplate) : Ctr lim Tryz.prog 43 [] [.agg [.str x.fName, .sl false 6 (x.fParams.map (encParam false)), .sl false 3 (x.fBody.map (encNode false))]] (.v (.bool (isTemplate ip x))) [] (wt x.fBody ≤ 1048576 ∧ x.fParams.length ≤ 1048576) := by
  refine Ctr.of_body en43 Tryz.func43 rfl rfl fun hp => (?_); rw [Tryz.ntmps43]
  refine AW.fact 0 fun hf => ?_
  simp (disch := omega) only [go_sem, Nat.reduceBEq] at hf
  (repeat' (first | (with_reducible first | refine Z ?_ | refine Y ?_ | (refine hK _ _ ?_; clear hK K) | exact trivial | refine And.intro ?_ ?_) | (refine AW.i rfl (fun h => ?_) (fun h => ?_) <;> try simp only [hC, reduceCtorEq] at h) | with_reducible rfl | ((with_reducible refine E ?_); (with_reducible repeat refine Y ?_); refine eF rfl ?_) | (with_reducible refine fun (K : _ → _ → Prop) hK => ?_) | (with_reducible show drawOK _ _ = true; kernel_rfl) | (with_reducible refine gI fun hg => ?_; try simp only [hC, reduceCtorEq] at hg; try simp only [hg]) | simp (maxSteps := 2000000) (disch := omega) only [go_sem] | (with_reducible intro hg; try simp only [hC, reduceCtorEq] at hg) | (with_reducible show List.Nodup _; decide) | (with_reducible show (_ : Bool) = false; first | rfl | (simp [*]; done)) | with_reducible exact at8_le _ _ | with_reducible exact at8_ge _ _ | (simp only [hC, reduceCtorEq]; omega) | omega | with_reducible assumption | (with_reducible show (_ : Bool) = true; first | (simp [*]; done) | (simp only [hC, reduceCtorEq]; (repeat' (first | assumption | apply And.intro)); done))))
  refine AW.loopV [3, 10] [0, 1, 8, 9] (fun m xs o => ∃ k : Nat, xs = [.sl true 1 (((x.fParams.take k).map GParam.fName).map AV.str), .v (.int .i64 k)] ∧ o = [] ∧ m = x.fParams.length - k ∧ k ≤ x.fParams.length ∧ allTo (prmOk ip x.fParams) k = true) x.fParams.length [] trivial ⟨0, ?_, rfl, rfl, ?_, rfl⟩ ?_
  · rfl
  · omega
  rintro m xs o ⟨k, rfl, rfl, rfl, hk, hR⟩
  have hlt : (x.fParams.take k).length = k := by rw [List.length_take]; omega
  (repeat' (first | (with_reducible first | refine Z ?_ | refine Y ?_ | (refine hK _ _ ?_; clear hK K) | exact trivial | refine And.intro ?_ ?_) | with_reducible rfl | ((with_reducible refine E ?_); (with_reducible repeat refine Y ?_); refine eF rfl ?_) | (with_reducible refine fun (K : _ → _ → Prop) hK => ?_) | (with_reducible show drawOK _ _ = true; kernel_rfl) | (with_reducible refine gI fun hg => ?_; try simp only [hC, reduceCtorEq] at hg; try simp only [hg]) | simp (maxSteps := 2000000) (disch := omega) only [go_sem] | (with_reducible intro hg; try simp only [hC, reduceCtorEq] at hg) | (with_reducible show List.Nodup _; decide) | (with_reducible show (_ : Bool) = false; first | rfl | (simp [*]; done)) | with_reducible exact at8_le _ _ | with_reducible exact at8_ge _ _ | (simp only [hC, reduceCtorEq]; omega) | omega | with_reducible assumption | (with_reducible show (_ : Bool) = true; first | (simp [*]; done) | (simp only [hC, reduceCtorEq]; (repeat' (first | assumption | apply And.intro)); done))))
  (refine AW.i rfl (fun h => ?_) (fun h => ?_) <;> try simp only [hC, reduceCtorEq] at h)
  · (repeat' (first | (with_reducible first | refine Z ?_ | refine Y ?_ | (refine hK _ _ ?_; clear hK K) | exact trivial | refine And.intro ?_ ?_) | (refine AW.i rfl (fun h => ?_) (fun h => ?_) <;> try simp only [hC, reduceCtorEq] at h) | with_reducible rfl | ((with_reducible refine E ?_); (with_reducible repeat refine Y ?_); refine eF rfl ?_) | (with_reducible refine fun (K : _ → _ → Prop) hK => ?_) | (with_reducible show drawOK _ _ = true; kernel_rfl) | (with_reducible refine gI fun hg => ?_; try simp only [hC, reduceCtorEq] at hg; try simp only [hg]) | simp (maxSteps := 2000000) (disch := omega) only [go_sem] | (with_reducible intro hg; try simp only [hC, reduceCtorEq] at hg) | (with_reducible show List.Nodup _; decide) | (with_reducible show (_ : Bool) = false; first | rfl | (simp [*]; done)) | with_reducible exact at8_le _ _ | with_reducible exact at8_ge _ _ | (simp only [hC, reduceCtorEq]; omega) | omega | with_reducible assumption | (with_reducible show (_ : Bool) = true; first | (simp [*]; done) | (simp only [hC, reduceCtorEq]; (repeat' (first | assumption | apply And.intro)); done))))
    · rw [isTemplate_no (by assumption) (by rcases h with h | h <;> simp [prmOk, h])]
    · refine ⟨_, [_, _], [], by omega, ⟨k + 1, rfl, rfl, rfl, by omega, allTo_step hR (by simp [prmOk, h])⟩, ?_, trivial⟩
      have e : x.fParams.take (k + 1) = x.fParams.take k ++ [at_ x.fParams k] := by
        rw [List.take_succ_eq_append_getElem (by assumption)]
        unfold at_; rw [List.getElem?_eq_getElem (by assumption)]; rfl
      rw [e, List.map_append, List.map_append]; rfl
  · refine AW.imp (Imp.frz 3 ?_)
    simp (maxSteps := 2000000) (disch := omega) only [go_sem, frzL_str]
    (repeat' (first | (with_reducible first | refine Z ?_ | refine Y ?_ | (refine hK _ _ ?_; clear hK K) | exact trivial | refine And.intro ?_ ?_) | (refine AW.i rfl (fun h => ?_) (fun h => ?_) <;> try simp only [hC, reduceCtorEq] at h) | with_reducible rfl | ((with_reducible refine E ?_); (with_reducible repeat refine Y ?_); refine eF rfl ?_) | (with_reducible refine fun (K : _ → _ → Prop) hK => ?_) | (with_reducible show drawOK _ _ = true; kernel_rfl) | (with_reducible refine gI fun hg => ?_; try simp only [hC, reduceCtorEq] at hg; try simp only [hg]) | simp (maxSteps := 2000000) (disch := omega) only [go_sem] | (with_reducible intro hg; try simp only [hC, reduceCtorEq] at hg) | (with_reducible show List.Nodup _; decide) | (with_reducible show (_ : Bool) = false; first | rfl | (simp [*]; done)) | with_reducible exact at8_le _ _ | with_reducible exact at8_ge _ _ | (simp only [hC, reduceCtorEq]; omega) | omega | with_reducible assumption | (with_reducible show (_ : Bool) = true; first | (simp [*]; done) | (simp only [hC, reduceCtorEq]; (repeat' (first | assumption | apply And.intro)); done))))
    rw [show k = x.fParams.length by omega] at hR hlt ⊢
    rw [hlt, List.take_length]
    refine congrArg (fun z => AV.v (.bool z)) ?_
    rw [isTemplate, hR, Bool.true_and, show decide ((x.fParams.length : Int) ≤ 6) = decide (x.fParams.length ≤ 6) from decide_eq_decide.2 (by omega)]
    cases diffs (x.fParams.map GParam.fName) <;> simp
omit hi in
include hs in
theorem sIsTemplate_t (x : GTemplate) : Ctr lim Tryz.prog 38 [] [.agg [.str x.fName, .sl false 6 (x.fParams.map (encParam false)), .sl false 3 (x.fBody.map (encNode false))]] (.v (.bool (isTemplate ip x))) [] (wt x.fBody ≤ 1048576 ∧ x.fParams.length ≤ 1048576) := by
  refine Ctr.of_body en38 Tryz.func38 rfl rfl fun hp => (?_); rw [Tryz.ntmps38]
  refine AW.fact 0 fun hf => ?_
  simp (disch := omega) only [go_sem, Nat.reduceBEq] at hf
  (repeat' (first | (with_reducible first | refine Z ?_ | refine Y ?_ | (refine hK _ _ ?_; clear hK K) | exact trivial | refine And.intro ?_ ?_) | (refine AW.i rfl (fun h => ?_) (fun h => ?_) <;> try simp only [hC, reduceCtorEq] at h) | with_reducible rfl | ((with_reducible refine E ?_); (with_reducible repeat refine Y ?_); refine eF rfl ?_) | (with_reducible refine fun (K : _ → _ → Prop) hK => ?_) | (with_reducible show drawOK _ _ = true; kernel_rfl) | (with_reducible refine gI fun hg => ?_; try simp only [hC, reduceCtorEq] at hg; try simp only [hg]) | simp (maxSteps := 2000000) (disch := omega) only [go_sem] | (with_reducible intro hg; try simp only [hC, reduceCtorEq] at hg) | (with_reducible show List.Nodup _; decide) | (with_reducible show (_ : Bool) = false; first | rfl | (simp [*]; done)) | with_reducible exact at8_le _ _ | with_reducible exact at8_ge _ _ | (simp only [hC, reduceCtorEq]; omega) | omega | with_reducible assumption | (with_reducible show (_ : Bool) = true; first | (simp [*]; done) | (simp only [hC, reduceCtorEq]; (repeat' (first | assumption | apply And.intro)); done))))
  refine AW.loopV [3] [0, 1] (fun m xs o => ∃ k : Nat, xs = [.v (.int .i64 k)] ∧ o = [] ∧ m = x.fParams.length - k ∧ k ≤ x.fParams.length ∧ allTo (prmOk ip x.fParams) k = true ∧ allTo (fun j => !cont ((x.fParams.map GParam.fName).take j) (at_ (x.fParams.map GParam.fName) j)) k = true) x.fParams.length [] trivial ⟨0, ?_, rfl, rfl, ?_, rfl, rfl⟩ ?_
  · rfl
  · omega
  rintro m xs o ⟨k, rfl, rfl, rfl, hk, hR, hQ⟩
  (repeat' (first | (with_reducible first | refine Z ?_ | refine Y ?_ | (refine hK _ _ ?_; clear hK K) | exact trivial | refine And.intro ?_ ?_) | (refine AW.i rfl (fun h => ?_) (fun h => ?_) <;> try simp only [hC, reduceCtorEq] at h) | with_reducible rfl | ((with_reducible refine E ?_); (with_reducible repeat refine Y ?_); refine eF rfl ?_) | (with_reducible refine fun (K : _ → _ → Prop) hK => ?_) | (with_reducible show drawOK _ _ = true; kernel_rfl) | (with_reducible refine gI fun hg => ?_; try simp only [hC, reduceCtorEq] at hg; try simp only [hg]) | simp (maxSteps := 2000000) (disch := omega) only [go_sem] | (with_reducible intro hg; try simp only [hC, reduceCtorEq] at hg) | (with_reducible show List.Nodup _; decide) | (with_reducible show (_ : Bool) = false; first | rfl | (simp [*]; done)) | with_reducible exact at8_le _ _ | with_reducible exact at8_ge _ _ | (simp only [hC, reduceCtorEq]; omega) | omega | with_reducible assumption | (with_reducible show (_ : Bool) = true; first | (simp [*]; done) | (simp only [hC, reduceCtorEq]; (repeat' (first | assumption | apply And.intro)); done))))
  · rename_i h9
    rcases h with h | h
    · rw [isTemplate_no h9 (by rcases h with h | h <;> simp [prmOk, h])]
    · rw [isTemplate_dup h9 (by
        cases e : cont ((x.fParams.map GParam.fName).take k) (at_ (x.fParams.map GParam.fName) k) with
        | true => rfl
        | false => exact absurd ((prm_first h9).2 e) h)]
  · exact ⟨_, [_], [], by omega, ⟨k + 1, rfl, rfl, rfl, by omega, allTo_step hR (by simp [prmOk, h]), allTo_step hQ (by rw [(prm_first (by assumption)).1 h.2]; rfl)⟩, rfl, trivial⟩
  · rw [show k = x.fParams.length by omega] at hR hQ
    refine congrArg (fun z => AV.v (.bool z)) ?_
    have hd : diffs (x.fParams.map GParam.fName) = true := by unfold diffs; rw [List.length_map]; exact hQ
    rw [isTemplate, hR, hd, Bool.true_and, Bool.true_and, show decide ((x.fParams.length : Int) ≤ 6) = decide (x.fParams.length ≤ 6) from decide_eq_decide.2 (by omega)]
end
end Go.Proofs.YtkdchlggdcmkbaaGreat
namespace Go.Proofs.YtkdchlggdcmkbaaGreat
open Go.Ab Go.Dt
set_option maxRecDepth 20000
set_option maxHeartbeats 4000000

instance tNam1_i (L : Nat → Nat) (x : GTemplate) (n : Str) : Ctr L Tryz.prog 105 [] [.agg [.str x.fName, .sl false 6 (x.fParams.map (encParam false)), .sl false 3 (x.fBody.map (encNode false))], .vp [.str n]] (.v (.bool (x.fName == n))) [] True := by
  refine Ctr.of_body en105 Tryz.func105 rfl rfl fun hp => (?_); rw [Tryz.ntmps105]
  (repeat' (first | (with_reducible first | refine Z ?_ | refine Y ?_ | (refine hK _ _ ?_; clear hK K) | exact trivial | refine And.intro ?_ ?_) | (refine AW.i rfl (fun h => ?_) (fun h => ?_) <;> try simp only [hC, reduceCtorEq] at h) | with_reducible rfl | ((with_reducible refine E ?_); (with_reducible repeat refine Y ?_); refine eF rfl ?_) | (with_reducible refine fun (K : _ → _ → Prop) hK => ?_) | (with_reducible show drawOK _ _ = true; kernel_rfl) | (with_reducible refine gI fun hg => ?_; try simp only [hC, reduceCtorEq] at hg; try simp only [hg]) | simp (maxSteps := 2000000) (disch := omega) only [go_sem] | (with_reducible intro hg; try simp only [hC, reduceCtorEq] at hg) | (with_reducible show List.Nodup _; decide) | (with_reducible show (_ : Bool) = false; first | rfl | (simp [*]; done)) | with_reducible exact at8_le _ _ | with_reducible exact at8_ge _ _ | (simp only [hC, reduceCtorEq]; omega) | omega | with_reducible assumption | (with_reducible show (_ : Bool) = true; first | (simp [*]; done) | (simp only [hC, reduceCtorEq]; (repeat' (first | assumption | apply And.intro)); done))))
instance ixTemplate_i (L : Nat → Nat) [hL : Lok L] (l : List GTemplate) (n : Str) : Ctr L Tryz.prog 104 [] [.sl false 3 (l.map (encTemplate false)), .fn 105 [.vp [.str n]]] (.v (.int .i64 (tmI l n))) [] True := by
  refine Ctr.of_body en104 Tryz.func104 rfl rfl fun hp => (?_); rw [Tryz.ntmps104]
  refine AW.fact 0 fun hf => ?_
  simp (disch := omega) only [go_sem] at hf
  have hf := Nat.le_trans hf (hL.le 3)
  (repeat' (first | (with_reducible first | refine Z ?_ | refine Y ?_ | (refine hK _ _ ?_; clear hK K) | exact trivial | refine And.intro ?_ ?_) | (refine AW.i rfl (fun h => ?_) (fun h => ?_) <;> try simp only [hC, reduceCtorEq] at h) | with_reducible rfl | ((with_reducible refine E ?_); (with_reducible repeat refine Y ?_); refine eF rfl ?_) | (with_reducible refine fun (K : _ → _ → Prop) hK => ?_) | (with_reducible show drawOK _ _ = true; kernel_rfl) | (with_reducible refine gI fun hg => ?_; try simp only [hC, reduceCtorEq] at hg; try simp only [hg]) | simp (maxSteps := 2000000) (disch := omega) only [go_sem] | (with_reducible intro hg; try simp only [hC, reduceCtorEq] at hg) | (with_reducible show List.Nodup _; decide) | (with_reducible show (_ : Bool) = false; first | rfl | (simp [*]; done)) | with_reducible exact at8_le _ _ | with_reducible exact at8_ge _ _ | (simp only [hC, reduceCtorEq]; omega) | omega | with_reducible assumption | (with_reducible show (_ : Bool) = true; first | (simp [*]; done) | (simp only [hC, reduceCtorEq]; (repeat' (first | assumption | apply And.intro)); done))))
  refine AW.loopV [8] [0, 1, 7] (fun m xs o => ∃ k : Nat, xs = [.v (.int .i64 k)] ∧ o = [] ∧ m = l.length - k ∧ k ≤ l.length ∧ ∀ x ∈ l.take k, (x.fName == n) = false) l.length [] trivial ⟨0, ?_, rfl, rfl, ?_, ?_⟩ ?_
  · rfl
  · omega
  · simp
  rintro m xs o ⟨k, rfl, rfl, rfl, hk, hR⟩
  (repeat' (first | (with_reducible first | refine Z ?_ | refine Y ?_ | (refine hK _ _ ?_; clear hK K) | exact trivial | refine And.intro ?_ ?_) | (refine AW.i rfl (fun h => ?_) (fun h => ?_) <;> try simp only [hC, reduceCtorEq] at h) | with_reducible rfl | ((with_reducible refine E ?_); (with_reducible repeat refine Y ?_); refine eF rfl ?_) | (with_reducible refine fun (K : _ → _ → Prop) hK => ?_) | (with_reducible show drawOK _ _ = true; kernel_rfl) | (with_reducible refine gI fun hg => ?_; try simp only [hC, reduceCtorEq] at hg; try simp only [hg]) | simp (maxSteps := 2000000) (disch := omega) only [go_sem] | (with_reducible intro hg; try simp only [hC, reduceCtorEq] at hg) | (with_reducible show List.Nodup _; decide) | (with_reducible show (_ : Bool) = false; first | rfl | (simp [*]; done)) | with_reducible exact at8_le _ _ | with_reducible exact at8_ge _ _ | (simp only [hC, reduceCtorEq]; omega) | omega | with_reducible assumption | (with_reducible show (_ : Bool) = true; first | (simp [*]; done) | (simp only [hC, reduceCtorEq]; (repeat' (first | assumption | apply And.intro)); done))))
  · rw [tmI, idx_at' (p := fun x : GTemplate => x.fName == n) (by assumption) hR (by simpa using h)]
  · exact ⟨_, [_], [], by omega, ⟨k + 1, rfl, rfl, rfl, by omega, take_step' (p := fun x : GTemplate => x.fName == n) (by assumption) hR (by simpa using h)⟩, rfl, trivial⟩
  · rw [tmI, idx_end (p := fun x : GTemplate => x.fName == n) h hR]
instance templateNamed_i (L : Nat → Nat) [hL : Lok L] (T : List GTemplate) (S : List GService) (n : Str) : Ctr L Tryz.prog 46 [] [.agg [.sl false 3 (T.map (encTemplate false)), .sl false 4 (S.map (encService false))], .str n] (.v (.int .i64 (tmI T n))) [] True := by
  refine Ctr.of_body en46 Tryz.func46 rfl rfl fun hp => (?_); rw [Tryz.ntmps46]
  (repeat' (first | (with_reducible first | refine Z ?_ | refine Y ?_ | (refine hK _ _ ?_; clear hK K) | exact trivial | refine And.intro ?_ ?_) | (refine AW.i rfl (fun h => ?_) (fun h => ?_) <;> try simp only [hC, reduceCtorEq] at h) | with_reducible rfl | ((with_reducible refine E ?_); (with_reducible repeat refine Y ?_); refine eF rfl ?_) | (with_reducible refine fun (K : _ → _ → Prop) hK => ?_) | (with_reducible show drawOK _ _ = true; kernel_rfl) | (with_reducible refine gI fun hg => ?_; try simp only [hC, reduceCtorEq] at hg; try simp only [hg]) | simp (maxSteps := 2000000) (disch := omega) only [go_sem] | (with_reducible intro hg; try simp only [hC, reduceCtorEq] at hg) | (with_reducible show List.Nodup _; decide) | (with_reducible show (_ : Bool) = false; first | rfl | (simp [*]; done)) | with_reducible exact at8_le _ _ | with_reducible exact at8_ge _ _ | (simp only [hC, reduceCtorEq]; omega) | omega | with_reducible assumption | (with_reducible show (_ : Bool) = true; first | (simp [*]; done) | (simp only [hC, reduceCtorEq]; (repeat' (first | assumption | apply And.intro)); done))))
instance l29Template_i (L : Nat → Nat) [hL : Lok L] (l : List GTemplate) (S : List GService) (n : Str) : Ctr L Tryz.prog 39 [] [.agg [.sl false 3 (l.map (encTemplate false)), .sl false 4 (S.map (encService false))], .str n] (.v (.int .i64 (tmI l n))) [] True := by
  refine Ctr.of_body en39 Tryz.func39 rfl rfl fun hp => (?_); rw [Tryz.ntmps39]
  refine AW.fact 0 fun hf => ?_
  simp (disch := omega) only [go_sem] at hf
  have hf := Nat.le_trans hf.1 (hL.le 3)
  (repeat' (first | (with_reducible first | refine Z ?_ | refine Y ?_ | (refine hK _ _ ?_; clear hK K) | exact trivial | refine And.intro ?_ ?_) | (refine AW.i rfl (fun h => ?_) (fun h => ?_) <;> try simp only [hC, reduceCtorEq] at h) | with_reducible rfl | ((with_reducible refine E ?_); (with_reducible repeat refine Y ?_); refine eF rfl ?_) | (with_reducible refine fun (K : _ → _ → Prop) hK => ?_) | (with_reducible show drawOK _ _ = true; kernel_rfl) | (with_reducible refine gI fun hg => ?_; try simp only [hC, reduceCtorEq] at hg; try simp only [hg]) | simp (maxSteps := 2000000) (disch := omega) only [go_sem] | (with_reducible intro hg; try simp only [hC, reduceCtorEq] at hg) | (with_reducible show List.Nodup _; decide) | (with_reducible show (_ : Bool) = false; first | rfl | (simp [*]; done)) | with_reducible exact at8_le _ _ | with_reducible exact at8_ge _ _ | (simp only [hC, reduceCtorEq]; omega) | omega | with_reducible assumption | (with_reducible show (_ : Bool) = true; first | (simp [*]; done) | (simp only [hC, reduceCtorEq]; (repeat' (first | assumption | apply And.intro)); done))))
  refine AW.loopV [5] [1, 2] (fun m xs o => ∃ k : Nat, xs = [.v (.int .i64 k)] ∧ o = [] ∧ m = l.length - k ∧ k ≤ l.length ∧ ∀ x ∈ l.take k, (x.fName == n) = false) l.length [] trivial ⟨0, ?_, rfl, rfl, ?_, ?_⟩ ?_
  · rfl
  · omega
  · simp
  rintro m xs o ⟨k, rfl, rfl, rfl, hk, hR⟩
  (repeat' (first | (with_reducible first | refine Z ?_ | refine Y ?_ | (refine hK _ _ ?_; clear hK K) | exact trivial | refine And.intro ?_ ?_) | (refine AW.i rfl (fun h => ?_) (fun h => ?_) <;> try simp only [hC, reduceCtorEq] at h) | with_reducible rfl | ((with_reducible refine E ?_); (with_reducible repeat refine Y ?_); refine eF rfl ?_) | (with_reducible refine fun (K : _ → _ → Prop) hK => ?_) | (with_reducible show drawOK _ _ = true; kernel_rfl) | (with_reducible refine gI fun hg => ?_; try simp only [hC, reduceCtorEq] at hg; try simp only [hg]) | simp (maxSteps := 2000000) (disch := omega) only [go_sem] | (with_reducible intro hg; try simp only [hC, reduceCtorEq] at hg) | (with_reducible show List.Nodup _; decide) | (with_reducible show (_ : Bool) = false; first | rfl | (simp [*]; done)) | with_reducible exact at8_le _ _ | with_reducible exact at8_ge _ _ | (simp only [hC, reduceCtorEq]; omega) | omega | with_reducible assumption | (with_reducible show (_ : Bool) = true; first | (simp [*]; done) | (simp only [hC, reduceCtorEq]; (repeat' (first | assumption | apply And.intro)); done))))
  · rw [tmI, idx_at' (p := fun x : GTemplate => x.fName == n) (by assumption) hR (by simpa using h)]
  · exact ⟨_, [_], [], by omega, ⟨k + 1, rfl, rfl, rfl, by omega, take_step' (p := fun x : GTemplate => x.fName == n) (by assumption) hR (by simpa using h)⟩, rfl, trivial⟩
  · rw [tmI, idx_end (p := fun x : GTemplate => x.fName == n) h hR]
instance l23In_i (L : Nat → Nat) [hL : Lok L] (l : List Str) (n : Str) : Ctr L Tryz.prog 96 [] [.sl false 1 (l.map AV.str), .str n] (.v (.bool (cont l n))) [] True := by
  refine Ctr.of_body en96 Tryz.func96 rfl rfl fun hp => (?_); rw [Tryz.ntmps96]
  refine AW.fact 0 fun hf => ?_
  simp (disch := omega) only [go_sem] at hf
  have hf := Nat.le_trans hf (hL.le 1)
  (repeat' (first | (with_reducible first | refine Z ?_ | refine Y ?_ | (refine hK _ _ ?_; clear hK K) | exact trivial | refine And.intro ?_ ?_) | (refine AW.i rfl (fun h => ?_) (fun h => ?_) <;> try simp only [hC, reduceCtorEq] at h) | with_reducible rfl | ((with_reducible refine E ?_); (with_reducible repeat refine Y ?_); refine eF rfl ?_) | (with_reducible refine fun (K : _ → _ → Prop) hK => ?_) | (with_reducible show drawOK _ _ = true; kernel_rfl) | (with_reducible refine gI fun hg => ?_; try simp only [hC, reduceCtorEq] at hg; try simp only [hg]) | simp (maxSteps := 2000000) (disch := omega) only [go_sem] | (with_reducible intro hg; try simp only [hC, reduceCtorEq] at hg) | (with_reducible show List.Nodup _; decide) | (with_reducible show (_ : Bool) = false; first | rfl | (simp [*]; done)) | with_reducible exact at8_le _ _ | with_reducible exact at8_ge _ _ | (simp only [hC, reduceCtorEq]; omega) | omega | with_reducible assumption | (with_reducible show (_ : Bool) = true; first | (simp [*]; done) | (simp only [hC, reduceCtorEq]; (repeat' (first | assumption | apply And.intro)); done))))
  refine AW.loopV [5] [0, 1] (fun m xs o => ∃ k : Nat, xs = [.v (.int .i64 k)] ∧ o = [] ∧ m = l.length - k ∧ k ≤ l.length ∧ ∀ x ∈ l.take k, (x == n) = false) l.length [] trivial ⟨0, ?_, rfl, rfl, ?_, ?_⟩ ?_
  · rfl
  · omega
  · simp
  rintro m xs o ⟨k, rfl, rfl, rfl, hk, hR⟩
  (repeat' (first | (with_reducible first | refine Z ?_ | refine Y ?_ | (refine hK _ _ ?_; clear hK K) | exact trivial | refine And.intro ?_ ?_) | (refine AW.i rfl (fun h => ?_) (fun h => ?_) <;> try simp only [hC, reduceCtorEq] at h) | with_reducible rfl | ((with_reducible refine E ?_); (with_reducible repeat refine Y ?_); refine eF rfl ?_) | (with_reducible refine fun (K : _ → _ → Prop) hK => ?_) | (with_reducible show drawOK _ _ = true; kernel_rfl) | (with_reducible refine gI fun hg => ?_; try simp only [hC, reduceCtorEq] at hg; try simp only [hg]) | simp (maxSteps := 2000000) (disch := omega) only [go_sem] | (with_reducible intro hg; try simp only [hC, reduceCtorEq] at hg) | (with_reducible show List.Nodup _; decide) | (with_reducible show (_ : Bool) = false; first | rfl | (simp [*]; done)) | with_reducible exact at8_le _ _ | with_reducible exact at8_ge _ _ | (simp only [hC, reduceCtorEq]; omega) | omega | with_reducible assumption | (with_reducible show (_ : Bool) = true; first | (simp [*]; done) | (simp only [hC, reduceCtorEq]; (repeat' (first | assumption | apply And.intro)); done))))
  · rw [cont, idx_at' (p := fun x : Str => x == n) (by assumption) hR (by simpa using h)]; simp
  · exact ⟨_, [_], [], by omega, ⟨k + 1, rfl, rfl, rfl, by omega, take_step' (p := fun x : Str => x == n) (by assumption) hR (by simpa using h)⟩, rfl, trivial⟩
  · rw [cont, idx_end (p := fun x : Str => x == n) h hR]; rfl
instance l29Service_i (T : List GTemplate) (S : List GService) (x : GService) : Ctr lim Tryz.prog 40 [] [.agg [.sl false 3 (T.map (encTemplate false)), .sl false 4 (S.map (encService false))], .agg [.str x.fName, .str x.fTemplate, .sl false 2 (x.fArgs.map (encArg false)), .sl false 1 (x.fTargets.map AV.str)]] (.v (.bool (svc T x))) [] True := by
  refine Ctr.of_body en40 Tryz.func40 rfl rfl fun hp => (?_); rw [Tryz.ntmps40]
  refine AW.fact 1 fun hf => ?_
  simp (disch := omega) only [go_sem] at hf
  (repeat' (first | (with_reducible first | refine Z ?_ | refine Y ?_ | (refine hK _ _ ?_; clear hK K) | exact trivial | refine And.intro ?_ ?_) | (refine AW.i rfl (fun h => ?_) (fun h => ?_) <;> try simp only [hC, reduceCtorEq] at h) | with_reducible rfl | ((with_reducible refine E ?_); (with_reducible repeat refine Y ?_); refine eF rfl ?_) | (with_reducible refine fun (K : _ → _ → Prop) hK => ?_) | (with_reducible show drawOK _ _ = true; kernel_rfl) | (with_reducible refine gI fun hg => ?_; try simp only [hC, reduceCtorEq] at hg; try simp only [hg]) | simp (maxSteps := 2000000) (disch := omega) only [go_sem] | (with_reducible intro hg; try simp only [hC, reduceCtorEq] at hg) | (with_reducible show List.Nodup _; decide) | (with_reducible show (_ : Bool) = false; first | rfl | (simp [*]; done)) | with_reducible exact at8_le _ _ | with_reducible exact at8_ge _ _ | (simp only [hC, reduceCtorEq]; omega) | omega | with_reducible assumption | (with_reducible show (_ : Bool) = true; first | (simp [*]; done) | (simp only [hC, reduceCtorEq]; (repeat' (first | assumption | apply And.intro)); done))))
  refine AW.loopV [5] [2, 3] (fun m xs o => ∃ k : Nat, xs = [.v (.int .i64 k)] ∧ o = [] ∧ m = x.fTargets.length - k ∧ k ≤ x.fTargets.length ∧ allTo (fun j => isName (at_ x.fTargets j)) k = true ∧ allTo (fun j => !cont (x.fTargets.take j) (at_ x.fTargets j)) k = true) x.fTargets.length [] trivial ⟨0, ?_, rfl, rfl, ?_, rfl, rfl⟩ ?_
  · rfl
  · omega
  rintro m xs o ⟨k, rfl, rfl, rfl, hk, hR, hQ⟩
  (repeat' (first | (with_reducible first | refine Z ?_ | refine Y ?_ | (refine hK _ _ ?_; clear hK K) | exact trivial | refine And.intro ?_ ?_) | (refine AW.i rfl (fun h => ?_) (fun h => ?_) <;> try simp only [hC, reduceCtorEq] at h) | with_reducible rfl | ((with_reducible refine E ?_); (with_reducible repeat refine Y ?_); refine eF rfl ?_) | (with_reducible refine fun (K : _ → _ → Prop) hK => ?_) | (with_reducible show drawOK _ _ = true; kernel_rfl) | (with_reducible refine gI fun hg => ?_; try simp only [hC, reduceCtorEq] at hg; try simp only [hg]) | simp (maxSteps := 2000000) (disch := omega) only [go_sem, ← List.map_take, Int.toNat_zero, List.drop_zero] | (with_reducible intro hg; try simp only [hC, reduceCtorEq] at hg) | (with_reducible show List.Nodup _; decide) | (with_reducible show (_ : Bool) = false; first | rfl | (simp [*]; done)) | with_reducible exact at8_le _ _ | with_reducible exact at8_ge _ _ | (simp only [hC, reduceCtorEq]; omega) | omega | with_reducible assumption | (with_reducible show (_ : Bool) = true; first | (simp [*]; done) | (simp only [hC, reduceCtorEq]; (repeat' (first | assumption | apply And.intro)); done))))
  · rename_i hkl
    rcases h with h | h
    · rw [svc, show names x.fTargets = false from allTo_false hkl h]; simp
    · rw [svc, show diffs x.fTargets = false from allTo_false hkl (by simp [h])]; simp
  · exact ⟨_, [_], [], by omega, ⟨k + 1, rfl, rfl, rfl, by omega, allTo_step hR h.1, allTo_step hQ (by simp [h.2])⟩, rfl, trivial⟩
  · rw [show k = x.fTargets.length by omega] at hR hQ
    rw [svc, show names x.fTargets = true from hR, show diffs x.fTargets = true from hQ]; simp
end Go.Proofs.YtkdchlggdcmkbaaGreat
namespace Go.Proofs.YtkdchlggdcmkbaaGreat
open Go.Ab Go.Dt
set_option maxRecDepth 20000
set_option maxHeartbeats 4000000
section
variable (ip : Str → Bool)
variable [hs : ∀ x : GTemplate, Ctr lim Tryz.prog 38 [] [.agg [.str x.fName, .sl false 6 (x.fParams.map (encParam false)), .sl false 3 (x.fBody.map (encNode false))]] (.v (.bool (isTemplate ip x))) [] (wt x.fBody ≤ 1048576 ∧ x.fParams.length ≤ 1048576)]
variable [hi : ∀ x : GTemplate, Ctr lim Tryz.prog 43 [] [.agg [.str x.fName, .sl false 6 (x.fParams.map (encParam false)), .sl false 3 (x.fBody.map (encNode false))]] (.v (.bool (isTemplate ip x))) [] (wt x.fBody ≤ 1048576 ∧ x.fParams.length ≤ 1048576)]
omit hs in
include hi in
theorem iIsPlan_t (T : List GTemplate) (S : List GService) : Ctr lim Tryz.prog 10 [] [.agg [.sl false 3 (T.map (encTemplate false)), .sl false 4 (S.map (encService false))]] (.v (.bool (isPlan ip T S))) [] (tmsOk T) := by
  refine Ctr.of_body en10 Tryz.func10 rfl rfl fun hp => (?_); rw [Tryz.ntmps10]
  refine AW.fact 0 fun hf => ?_
  simp (disch := omega) only [go_sem] at hf
  (repeat' (first | (with_reducible first | refine Z ?_ | refine Y ?_ | (refine hK _ _ ?_; clear hK K) | exact trivial | refine And.intro ?_ ?_) | (refine AW.i rfl (fun h => ?_) (fun h => ?_) <;> try simp only [hC, reduceCtorEq] at h) | with_reducible rfl | ((with_reducible refine E ?_); (with_reducible repeat refine Y ?_); refine eF rfl ?_) | (with_reducible refine fun (K : _ → _ → Prop) hK => ?_) | (with_reducible show drawOK _ _ = true; kernel_rfl) | (with_reducible refine gI fun hg => ?_; try simp only [hC, reduceCtorEq] at hg; try simp only [hg]) | simp (maxSteps := 2000000) (disch := omega) only [go_sem] | (with_reducible intro hg; try simp only [hC, reduceCtorEq] at hg) | (with_reducible show List.Nodup _; decide) | (with_reducible show (_ : Bool) = false; first | rfl | (simp [*]; done)) | with_reducible exact at8_le _ _ | with_reducible exact at8_ge _ _ | (simp only [hC, reduceCtorEq]; omega) | omega | with_reducible assumption | (with_reducible show (_ : Bool) = true; first | (simp [*]; done) | (simp only [hC, reduceCtorEq]; (repeat' (first | assumption | apply And.intro)); done))))
  refine AW.loopV [3, 12] [1, 10, 11] (fun m xs o => ∃ k : Nat, xs = [.sl true 1 (((T.take k).map GTemplate.fName).map AV.str), .v (.int .i64 k)] ∧ o = [] ∧ m = T.length - k ∧ k ≤ T.length ∧ allTo (fun j => isTemplate ip (at_ T j)) k = true) T.length [] trivial ⟨0, ?_, rfl, rfl, ?_, rfl⟩ ?_
  · rfl
  · omega
  rintro m xs o ⟨k, rfl, rfl, rfl, hk, hR⟩
  have hlt : (T.take k).length = k := by rw [List.length_take]; omega
  (repeat' (first | (with_reducible first | refine Z ?_ | refine Y ?_ | (refine hK _ _ ?_; clear hK K) | exact trivial | refine And.intro ?_ ?_) | with_reducible rfl | ((with_reducible refine E ?_); (with_reducible repeat refine Y ?_); refine eF rfl ?_) | (with_reducible refine fun (K : _ → _ → Prop) hK => ?_) | (with_reducible show drawOK _ _ = true; kernel_rfl) | (with_reducible refine gI fun hg => ?_; try simp only [hC, reduceCtorEq] at hg; try simp only [hg]) | simp (maxSteps := 2000000) (disch := omega) only [go_sem] | (with_reducible intro hg; try simp only [hC, reduceCtorEq] at hg) | (with_reducible show List.Nodup _; decide) | (with_reducible show (_ : Bool) = false; first | rfl | (simp [*]; done)) | with_reducible exact at8_le _ _ | with_reducible exact at8_ge _ _ | (simp only [hC, reduceCtorEq]; omega) | omega | with_reducible assumption | (with_reducible show (_ : Bool) = true; first | (simp [*]; done) | (simp only [hC, reduceCtorEq]; (repeat' (first | assumption | apply And.intro)); done))))
  (refine AW.i rfl (fun h => ?_) (fun h => ?_) <;> try simp only [hC, reduceCtorEq] at h)
  · have hpk := hp _ (at_mem (l := T) (k := k) (by omega))
    have hkT : k < T.length := by omega
    (repeat' (first | (with_reducible first | refine Z ?_ | refine Y ?_ | (refine hK _ _ ?_; clear hK K) | exact trivial | refine And.intro ?_ ?_) | (refine AW.i rfl (fun h => ?_) (fun h => ?_) <;> try simp only [hC, reduceCtorEq] at h) | with_reducible rfl | ((with_reducible refine E ?_); (with_reducible repeat refine Y ?_); refine eF rfl ?_) | (with_reducible refine fun (K : _ → _ → Prop) hK => ?_) | (with_reducible show drawOK _ _ = true; kernel_rfl) | (with_reducible refine gI fun hg => ?_; try simp only [hC, reduceCtorEq] at hg; try simp only [hg]) | simp (maxSteps := 2000000) (disch := omega) only [go_sem] | (with_reducible intro hg; try simp only [hC, reduceCtorEq] at hg) | (with_reducible show List.Nodup _; decide) | (with_reducible show (_ : Bool) = false; first | rfl | (simp [*]; done)) | with_reducible exact at8_le _ _ | with_reducible exact at8_ge _ _ | (simp only [hC, reduceCtorEq]; omega) | omega | with_reducible assumption | (with_reducible show (_ : Bool) = true; first | (simp [*]; done) | (simp only [hC, reduceCtorEq]; (repeat' (first | assumption | apply And.intro)); done))))
    · rw [isPlan_t hkT h]
    · refine ⟨_, [_, _], [], by omega, ⟨k + 1, ?_, rfl, rfl, by omega, allTo_step hR h⟩, rfl, trivial⟩
      rw [take_at' hkT, List.map_append, List.map_append]; rfl
  · refine AW.imp (Imp.frz 3 ?_)
    simp (maxSteps := 2000000) (disch := omega) only [go_sem, frzL_str]
    (repeat' (first | (with_reducible first | refine Z ?_ | refine Y ?_ | (refine hK _ _ ?_; clear hK K) | exact trivial | refine And.intro ?_ ?_) | (refine AW.i rfl (fun h => ?_) (fun h => ?_) <;> try simp only [hC, reduceCtorEq] at h) | with_reducible rfl | ((with_reducible refine E ?_); (with_reducible repeat refine Y ?_); refine eF rfl ?_) | (with_reducible refine fun (K : _ → _ → Prop) hK => ?_) | (with_reducible show drawOK _ _ = true; kernel_rfl) | (with_reducible refine gI fun hg => ?_; try simp only [hC, reduceCtorEq] at hg; try simp only [hg]) | simp (maxSteps := 2000000) (disch := omega) only [go_sem] | (with_reducible intro hg; try simp only [hC, reduceCtorEq] at hg) | (with_reducible show List.Nodup _; decide) | (with_reducible show (_ : Bool) = false; first | rfl | (simp [*]; done)) | with_reducible exact at8_le _ _ | with_reducible exact at8_ge _ _ | (simp only [hC, reduceCtorEq]; omega) | omega | with_reducible assumption | (with_reducible show (_ : Bool) = true; first | (simp [*]; done) | (simp only [hC, reduceCtorEq]; (repeat' (first | assumption | apply And.intro)); done))))
    · rw [show k = T.length by omega, List.take_length] at h
      rw [isPlan_n (by rcases h with (h | h) | h; exact .inl (.inl (by omega)); exact .inl (.inr h); exact .inr (by omega))]
    · refine AW.loopV [42] [1, 40, 41] (fun m xs o => ∃ j : Nat, xs = [.v (.int .i64 j)] ∧ o = [] ∧ m = S.length - j ∧ j ≤ S.length ∧ allTo (svOk T S) j = true) S.length [] trivial ⟨0, ?_, rfl, rfl, ?_, rfl⟩ ?_
      · rfl
      · omega
      rintro m xs o ⟨j, rfl, rfl, rfl, hj, hQ⟩
      (repeat' (first | (with_reducible first | refine Z ?_ | refine Y ?_ | (refine hK _ _ ?_; clear hK K) | exact trivial | refine And.intro ?_ ?_) | (refine AW.i rfl (fun h => ?_) (fun h => ?_) <;> try simp only [hC, reduceCtorEq] at h) | with_reducible rfl | ((with_reducible refine E ?_); (with_reducible repeat refine Y ?_); refine eF rfl ?_) | (with_reducible refine fun (K : _ → _ → Prop) hK => ?_) | (with_reducible show drawOK _ _ = true; kernel_rfl) | (with_reducible refine gI fun hg => ?_; try simp only [hC, reduceCtorEq] at hg; try simp only [hg]) | simp (maxSteps := 2000000) (disch := omega) only [go_sem] | (with_reducible intro hg; try simp only [hC, reduceCtorEq] at hg) | (with_reducible show List.Nodup _; decide) | (with_reducible show (_ : Bool) = false; first | rfl | (simp [*]; done)) | with_reducible exact at8_le _ _ | with_reducible exact at8_ge _ _ | (simp only [hC, reduceCtorEq]; omega) | omega | with_reducible assumption | (with_reducible show (_ : Bool) = true; first | (simp [*]; done) | (simp only [hC, reduceCtorEq]; (repeat' (first | assumption | apply And.intro)); done))))
      · rw [isPlan_s (by assumption) (svOk_no h)]
      · exact ⟨_, [_], [], by omega, ⟨j + 1, rfl, rfl, rfl, by omega, allTo_step hQ (svOk_yes h)⟩, rfl, trivial⟩
      · rename_i h8 h9
        rw [show k = T.length by omega, List.take_length] at h9
        rw [show k = T.length by omega] at hR
        rw [show j = S.length by omega] at hQ
        rw [isPlan, hR, hQ, h9.1.2, show decide (T.length ≤ 8) = true from decide_eq_true (by omega), show decide (S.length ≤ 8) = true from decide_eq_true (by omega)]; rfl
omit hi in
include hs in
theorem sIsPlan_t (T : List GTemplate) (S : List GService) : Ctr lim Tryz.prog 8 [] [.agg [.sl false 3 (T.map (encTemplate false)), .sl false 4 (S.map (encService false))]] (.v (.bool (isPlan ip T S))) [] (tmsOk T) := by
  refine Ctr.of_body en8 Tryz.func8 rfl rfl fun hp => (?_); rw [Tryz.ntmps8]
  refine AW.fact 0 fun hf => ?_
  simp (disch := omega) only [go_sem] at hf
  (repeat' (first | (with_reducible first | refine Z ?_ | refine Y ?_ | (refine hK _ _ ?_; clear hK K) | exact trivial | refine And.intro ?_ ?_) | (refine AW.i rfl (fun h => ?_) (fun h => ?_) <;> try simp only [hC, reduceCtorEq] at h) | with_reducible rfl | ((with_reducible refine E ?_); (with_reducible repeat refine Y ?_); refine eF rfl ?_) | (with_reducible refine fun (K : _ → _ → Prop) hK => ?_) | (with_reducible show drawOK _ _ = true; kernel_rfl) | (with_reducible refine gI fun hg => ?_; try simp only [hC, reduceCtorEq] at hg; try simp only [hg]) | simp (maxSteps := 2000000) (disch := omega) only [go_sem] | (with_reducible intro hg; try simp only [hC, reduceCtorEq] at hg) | (with_reducible show List.Nodup _; decide) | (with_reducible show (_ : Bool) = false; first | rfl | (simp [*]; done)) | with_reducible exact at8_le _ _ | with_reducible exact at8_ge _ _ | (simp only [hC, reduceCtorEq]; omega) | omega | with_reducible assumption | (with_reducible show (_ : Bool) = true; first | (simp [*]; done) | (simp only [hC, reduceCtorEq]; (repeat' (first | assumption | apply And.intro)); done))))
  refine AW.loopV [3] [1] (fun m xs o => ∃ k : Nat, xs = [.v (.int .i64 k)] ∧ o = [] ∧ m = T.length - k ∧ k ≤ T.length ∧ allTo (fun j => isTemplate ip (at_ T j)) k = true ∧ allTo (fun j => !cont ((T.map GTemplate.fName).take j) (at_ (T.map GTemplate.fName) j)) k = true) T.length [] trivial ⟨0, ?_, rfl, rfl, ?_, rfl, rfl⟩ ?_
  · rfl
  · omega
  rintro m xs o ⟨k, rfl, rfl, rfl, hk, hR, hD⟩
  (repeat' (first | (with_reducible first | refine Z ?_ | refine Y ?_ | (refine hK _ _ ?_; clear hK K) | exact trivial | refine And.intro ?_ ?_) | with_reducible rfl | ((with_reducible refine E ?_); (with_reducible repeat refine Y ?_); refine eF rfl ?_) | (with_reducible refine fun (K : _ → _ → Prop) hK => ?_) | (with_reducible show drawOK _ _ = true; kernel_rfl) | (with_reducible refine gI fun hg => ?_; try simp only [hC, reduceCtorEq] at hg; try simp only [hg]) | simp (maxSteps := 2000000) (disch := omega) only [go_sem] | (with_reducible intro hg; try simp only [hC, reduceCtorEq] at hg) | (with_reducible show List.Nodup _; decide) | (with_reducible show (_ : Bool) = false; first | rfl | (simp [*]; done)) | with_reducible exact at8_le _ _ | with_reducible exact at8_ge _ _ | (simp only [hC, reduceCtorEq]; omega) | omega | with_reducible assumption | (with_reducible show (_ : Bool) = true; first | (simp [*]; done) | (simp only [hC, reduceCtorEq]; (repeat' (first | assumption | apply And.intro)); done))))
  (refine AW.i rfl (fun h => ?_) (fun h => ?_) <;> try simp only [hC, reduceCtorEq] at h)
  · have hpk := hp _ (at_mem (l := T) (k := k) (by omega))
    have hkT : k < T.length := by omega
    (repeat' (first | (with_reducible first | refine Z ?_ | refine Y ?_ | (refine hK _ _ ?_; clear hK K) | exact trivial | refine And.intro ?_ ?_) | (refine AW.i rfl (fun h => ?_) (fun h => ?_) <;> try simp only [hC, reduceCtorEq] at h) | with_reducible rfl | ((with_reducible refine E ?_); (with_reducible repeat refine Y ?_); refine eF rfl ?_) | (with_reducible refine fun (K : _ → _ → Prop) hK => ?_) | (with_reducible show drawOK _ _ = true; kernel_rfl) | (with_reducible refine gI fun hg => ?_; try simp only [hC, reduceCtorEq] at hg; try simp only [hg]) | simp (maxSteps := 2000000) (disch := omega) only [go_sem] | (with_reducible intro hg; try simp only [hC, reduceCtorEq] at hg) | (with_reducible show List.Nodup _; decide) | (with_reducible show (_ : Bool) = false; first | rfl | (simp [*]; done)) | with_reducible exact at8_le _ _ | with_reducible exact at8_ge _ _ | (simp only [hC, reduceCtorEq]; omega) | omega | with_reducible assumption | (with_reducible show (_ : Bool) = true; first | (simp [*]; done) | (simp only [hC, reduceCtorEq]; (repeat' (first | assumption | apply And.intro)); done))))
    · rcases h with h | h
      · rw [isPlan_t hkT h]
      · rw [isPlan_dup hkT h]
    · exact ⟨_, [_], [], by omega, ⟨k + 1, rfl, rfl, rfl, by omega, allTo_step hR h.1, allTo_step hD (by rw [(first_iff GTemplate.fName hkT).1 h.2]; rfl)⟩, rfl, trivial⟩
  · (repeat' (first | (with_reducible first | refine Z ?_ | refine Y ?_ | (refine hK _ _ ?_; clear hK K) | exact trivial | refine And.intro ?_ ?_) | (refine AW.i rfl (fun h => ?_) (fun h => ?_) <;> try simp only [hC, reduceCtorEq] at h) | with_reducible rfl | ((with_reducible refine E ?_); (with_reducible repeat refine Y ?_); refine eF rfl ?_) | (with_reducible refine fun (K : _ → _ → Prop) hK => ?_) | (with_reducible show drawOK _ _ = true; kernel_rfl) | (with_reducible refine gI fun hg => ?_; try simp only [hC, reduceCtorEq] at hg; try simp only [hg]) | simp (maxSteps := 2000000) (disch := omega) only [go_sem] | (with_reducible intro hg; try simp only [hC, reduceCtorEq] at hg) | (with_reducible show List.Nodup _; decide) | (with_reducible show (_ : Bool) = false; first | rfl | (simp [*]; done)) | with_reducible exact at8_le _ _ | with_reducible exact at8_ge _ _ | (simp only [hC, reduceCtorEq]; omega) | omega | with_reducible assumption | (with_reducible show (_ : Bool) = true; first | (simp [*]; done) | (simp only [hC, reduceCtorEq]; (repeat' (first | assumption | apply And.intro)); done))))
    refine AW.loopV [4] [1] (fun m xs o => ∃ j : Nat, xs = [.v (.int .i64 j)] ∧ o = [] ∧ m = S.length - j ∧ j ≤ S.length ∧ allTo (svOk T S) j = true) S.length [] trivial ⟨0, ?_, rfl, rfl, ?_, rfl⟩ ?_
    · rfl
    · omega
    rintro m xs o ⟨j, rfl, rfl, rfl, hj, hQ⟩
    (repeat' (first | (with_reducible first | refine Z ?_ | refine Y ?_ | (refine hK _ _ ?_; clear hK K) | exact trivial | refine And.intro ?_ ?_) | (refine AW.i rfl (fun h => ?_) (fun h => ?_) <;> try simp only [hC, reduceCtorEq] at h) | with_reducible rfl | ((with_reducible refine E ?_); (with_reducible repeat refine Y ?_); refine eF rfl ?_) | (with_reducible refine fun (K : _ → _ → Prop) hK => ?_) | (with_reducible show drawOK _ _ = true; kernel_rfl) | (with_reducible refine gI fun hg => ?_; try simp only [hC, reduceCtorEq] at hg; try simp only [hg]) | simp (maxSteps := 2000000) (disch := omega) only [go_sem] | (with_reducible intro hg; try simp only [hC, reduceCtorEq] at hg) | (with_reducible show List.Nodup _; decide) | (with_reducible show (_ : Bool) = false; first | rfl | (simp [*]; done)) | with_reducible exact at8_le _ _ | with_reducible exact at8_ge _ _ | (simp only [hC, reduceCtorEq]; omega) | omega | with_reducible assumption | (with_reducible show (_ : Bool) = true; first | (simp [*]; done) | (simp only [hC, reduceCtorEq]; (repeat' (first | assumption | apply And.intro)); done))))
    · rw [isPlan_s (by assumption) (svOk_no2 h)]
    · exact ⟨_, [_], [], by omega, ⟨j + 1, rfl, rfl, rfl, by omega, allTo_step hQ (svOk_yes2 h)⟩, rfl, trivial⟩
    · rw [show k = T.length by omega] at hR hD
      rw [show j = S.length by omega] at hQ
      have hd : diffs (T.map GTemplate.fName) = true := by unfold diffs; rw [List.length_map]; exact hD
      rw [isPlan, hR, hQ, hd, show decide ((T.length : Int) ≤ 8) = decide (T.length ≤ 8) from decide_eq_decide.2 (by omega), show decide ((S.length : Int) ≤ 8) = decide (S.length ≤ 8) from decide_eq_decide.2 (by omega)]; simp
end
end Go.Proofs.YtkdchlggdcmkbaaGreat
