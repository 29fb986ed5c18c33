/-
  Part of a proof: TysTry.
-/
import Derived.Test.YtmdbmmmlccipdaaGreatDoorProg
import Derived.KernelRfl
import Derived.Test.YtmdbmmmlccipdaaGreatDoorG1
set_option linter.unusedSimpArgs false
set_option linter.unusedVariables false
namespace Go.Proofs.YtmdbmmmlccipdaaGreatDoor
open Go.Ab
instance : MixOK Tryz.prog := ⟨by kernel_rfl⟩
@[go_sem] theorem ty_2 : ty Tryz.prog 2 = some (false, 1) := by kernel_rfl
@[go_sem] theorem zer_2 : zer Tryz.prog 2 = some [.int .i64 0] := by kernel_rfl
@[go_sem] theorem ik_2 : ikd Tryz.prog 2 = some .i64 := by kernel_rfl
@[go_sem] theorem hu_2 : hasU Tryz.prog 2 = true := by kernel_rfl
@[go_sem] theorem ty_3 : ty Tryz.prog 3 = some (false, 1) := by kernel_rfl
@[go_sem] theorem zer_3 : zer Tryz.prog 3 = some [.int .i64 0] := by kernel_rfl
@[go_sem] theorem ik_3 : ikd Tryz.prog 3 = some .i64 := by kernel_rfl
@[go_sem] theorem hu_3 : hasU Tryz.prog 3 = true := by kernel_rfl
@[go_sem] theorem ty_4 : ty Tryz.prog 4 = some (false, 1) := by kernel_rfl
@[go_sem] theorem zer_4 : zer Tryz.prog 4 = some [.bool false] := by kernel_rfl
@[go_sem] theorem hu_4 : hasU Tryz.prog 4 = true := by kernel_rfl
@[go_sem] theorem isB_4 : isB Tryz.prog 4 = true := by kernel_rfl
@[go_sem] theorem ty_5 : ty Tryz.prog 5 = some (false, 1) := by kernel_rfl
@[go_sem] theorem zer_5 : zer Tryz.prog 5 = some [.int .u8 0] := by kernel_rfl
@[go_sem] theorem ik_5 : ikd Tryz.prog 5 = some .u8 := by kernel_rfl
@[go_sem] theorem hu_5 : hasU Tryz.prog 5 = true := by kernel_rfl
@[go_sem] theorem ty_9 : ty Tryz.prog 9 = some (false, 1) := by kernel_rfl
@[go_sem] theorem zer_9 : zer Tryz.prog 9 = some [.string ⟨([] : List UInt8).toArray⟩] := by kernel_rfl
@[go_sem] theorem hu_9 : hasU Tryz.prog 9 = true := by kernel_rfl
@[go_sem] theorem knd_9 : knd Tryz.prog 9 = some true := by kernel_rfl
@[go_sem] theorem ty_22 : ty Tryz.prog 22 = some (false, 1) := by kernel_rfl
@[go_sem] theorem zer_22 : zer Tryz.prog 22 = some [.slice none 0 0] := by kernel_rfl
@[go_sem] theorem hu_22 : hasU Tryz.prog 22 = true := by kernel_rfl
@[go_sem] theorem by_22 : byS Tryz.prog 22 = true := by kernel_rfl
@[go_sem] theorem knd_22 : knd Tryz.prog 22 = some false := by kernel_rfl
@[go_sem] theorem elm_22 : elm Tryz.prog 22 = some (5, 1, 1) := by kernel_rfl
@[go_sem] theorem ty_24 : ty Tryz.prog 24 = some (false, 1) := by kernel_rfl
@[go_sem] theorem zer_24 : zer Tryz.prog 24 = some [.slice none 0 0] := by kernel_rfl
@[go_sem] theorem hu_24 : hasU Tryz.prog 24 = true := by kernel_rfl
@[go_sem] theorem by_24 : byS Tryz.prog 24 = false := by kernel_rfl
@[go_sem] theorem knd_24 : knd Tryz.prog 24 = some false := by kernel_rfl
@[go_sem] theorem elm_24 : elm Tryz.prog 24 = some (107, 19, 272) := by kernel_rfl
@[go_sem] theorem ty_25 : ty Tryz.prog 25 = some (false, 1) := by kernel_rfl
@[go_sem] theorem zer_25 : zer Tryz.prog 25 = some [.slice none 0 0] := by kernel_rfl
@[go_sem] theorem hu_25 : hasU Tryz.prog 25 = true := by kernel_rfl
@[go_sem] theorem by_25 : byS Tryz.prog 25 = false := by kernel_rfl
@[go_sem] theorem knd_25 : knd Tryz.prog 25 = some false := by kernel_rfl
@[go_sem] theorem elm_25 : elm Tryz.prog 25 = some (90, 3, 56) := by kernel_rfl
@[go_sem] theorem ty_26 : ty Tryz.prog 26 = some (false, 1) := by kernel_rfl
@[go_sem] theorem zer_26 : zer Tryz.prog 26 = some [.slice none 0 0] := by kernel_rfl
@[go_sem] theorem hu_26 : hasU Tryz.prog 26 = true := by kernel_rfl
@[go_sem] theorem by_26 : byS Tryz.prog 26 = false := by kernel_rfl
@[go_sem] theorem knd_26 : knd Tryz.prog 26 = some false := by kernel_rfl
@[go_sem] theorem elm_26 : elm Tryz.prog 26 = some (9, 1, 16) := by kernel_rfl
@[go_sem] theorem ty_34 : ty Tryz.prog 34 = some (false, 1) := by kernel_rfl
@[go_sem] theorem zer_34 : zer Tryz.prog 34 = some [.slice none 0 0] := by kernel_rfl
@[go_sem] theorem hu_34 : hasU Tryz.prog 34 = true := by kernel_rfl
@[go_sem] theorem by_34 : byS Tryz.prog 34 = false := by kernel_rfl
@[go_sem] theorem knd_34 : knd Tryz.prog 34 = some false := by kernel_rfl
@[go_sem] theorem elm_34 : elm Tryz.prog 34 = some (97, 19, 272) := by kernel_rfl
@[go_sem] theorem ty_35 : ty Tryz.prog 35 = some (false, 1) := by kernel_rfl
@[go_sem] theorem zer_35 : zer Tryz.prog 35 = some [.slice none 0 0] := by kernel_rfl
@[go_sem] theorem hu_35 : hasU Tryz.prog 35 = true := by kernel_rfl
@[go_sem] theorem by_35 : byS Tryz.prog 35 = false := by kernel_rfl
@[go_sem] theorem knd_35 : knd Tryz.prog 35 = some false := by kernel_rfl
@[go_sem] theorem elm_35 : elm Tryz.prog 35 = some (100, 3, 56) := by kernel_rfl
@[go_sem] theorem ty_47 : ty Tryz.prog 47 = some (false, 1) := by kernel_rfl
@[go_sem] theorem zer_47 : zer Tryz.prog 47 = some [.slice none 0 0] := by kernel_rfl
@[go_sem] theorem hu_47 : hasU Tryz.prog 47 = true := by kernel_rfl
@[go_sem] theorem by_47 : byS Tryz.prog 47 = false := by kernel_rfl
@[go_sem] theorem knd_47 : knd Tryz.prog 47 = some false := by kernel_rfl
@[go_sem] theorem elm_47 : elm Tryz.prog 47 = some (147, 1, 24) := by kernel_rfl
@[go_sem] theorem ty_49 : ty Tryz.prog 49 = some (true, 3) := by kernel_rfl
@[go_sem] theorem zer_49 : zer Tryz.prog 49 = some [.slice none 0 0, .slice none 0 0, .slice none 0 0] := by kernel_rfl
@[go_sem] theorem hu_49 : hasU Tryz.prog 49 = true := by kernel_rfl
@[go_sem] theorem fld_49_0 : fld Tryz.prog 49 0 = some (0, false, 1) := by kernel_rfl
@[go_sem] theorem fld_49_1 : fld Tryz.prog 49 1 = some (1, false, 1) := by kernel_rfl
@[go_sem] theorem fld_49_2 : fld Tryz.prog 49 2 = some (2, false, 1) := by kernel_rfl
@[go_sem] theorem plc_49 : plc Tryz.prog 49 = some ([(0, 1), (1, 1), (2, 1)], [.slice none 0 0, .slice none 0 0, .slice none 0 0]) := by kernel_rfl
@[go_sem] theorem ty_54 : ty Tryz.prog 54 = some (false, 1) := by kernel_rfl
@[go_sem] theorem zer_54 : zer Tryz.prog 54 = some [.slice none 0 0] := by kernel_rfl
@[go_sem] theorem hu_54 : hasU Tryz.prog 54 = true := by kernel_rfl
@[go_sem] theorem by_54 : byS Tryz.prog 54 = false := by kernel_rfl
@[go_sem] theorem knd_54 : knd Tryz.prog 54 = some false := by kernel_rfl
@[go_sem] theorem elm_54 : elm Tryz.prog 54 = some (124, 15, 232) := by kernel_rfl
@[go_sem] theorem ty_55 : ty Tryz.prog 55 = some (false, 1) := by kernel_rfl
@[go_sem] theorem zer_55 : zer Tryz.prog 55 = some [.slice none 0 0] := by kernel_rfl
@[go_sem] theorem hu_55 : hasU Tryz.prog 55 = true := by kernel_rfl
@[go_sem] theorem by_55 : byS Tryz.prog 55 = false := by kernel_rfl
@[go_sem] theorem knd_55 : knd Tryz.prog 55 = some false := by kernel_rfl
@[go_sem] theorem elm_55 : elm Tryz.prog 55 = some (194, 3, 48) := by kernel_rfl
@[go_sem] theorem ty_57 : ty Tryz.prog 57 = some (true, 2) := by kernel_rfl
@[go_sem] theorem zer_57 : zer Tryz.prog 57 = some [.int .i64 0, .slice none 0 0] := by kernel_rfl
@[go_sem] theorem hu_57 : hasU Tryz.prog 57 = true := by kernel_rfl
@[go_sem] theorem fld_57_0 : fld Tryz.prog 57 0 = some (0, false, 1) := by kernel_rfl
@[go_sem] theorem fld_57_1 : fld Tryz.prog 57 1 = some (1, false, 1) := by kernel_rfl
@[go_sem] theorem plc_57 : plc Tryz.prog 57 = some ([(0, 1), (1, 1)], [.int .i64 0, .slice none 0 0]) := by kernel_rfl
@[go_sem] theorem ty_61 : ty Tryz.prog 61 = some (false, 1) := by kernel_rfl
@[go_sem] theorem zer_61 : zer Tryz.prog 61 = some [.slice none 0 0] := by kernel_rfl
@[go_sem] theorem hu_61 : hasU Tryz.prog 61 = true := by kernel_rfl
@[go_sem] theorem by_61 : byS Tryz.prog 61 = false := by kernel_rfl
@[go_sem] theorem knd_61 : knd Tryz.prog 61 = some false := by kernel_rfl
@[go_sem] theorem elm_61 : elm Tryz.prog 61 = some (135, 15, 232) := by kernel_rfl
@[go_sem] theorem ty_63 : ty Tryz.prog 63 = some (false, 1) := by kernel_rfl
@[go_sem] theorem zer_63 : zer Tryz.prog 63 = some [.slice none 0 0] := by kernel_rfl
@[go_sem] theorem hu_63 : hasU Tryz.prog 63 = true := by kernel_rfl
@[go_sem] theorem by_63 : byS Tryz.prog 63 = false := by kernel_rfl
@[go_sem] theorem knd_63 : knd Tryz.prog 63 = some false := by kernel_rfl
@[go_sem] theorem elm_63 : elm Tryz.prog 63 = some (127, 3, 48) := by kernel_rfl
@[go_sem] theorem ty_65 : ty Tryz.prog 65 = some (true, 2) := by kernel_rfl
@[go_sem] theorem zer_65 : zer Tryz.prog 65 = some [.int .i64 0, .slice none 0 0] := by kernel_rfl
@[go_sem] theorem hu_65 : hasU Tryz.prog 65 = true := by kernel_rfl
@[go_sem] theorem fld_65_0 : fld Tryz.prog 65 0 = some (0, false, 1) := by kernel_rfl
@[go_sem] theorem fld_65_1 : fld Tryz.prog 65 1 = some (1, false, 1) := by kernel_rfl
@[go_sem] theorem plc_65 : plc Tryz.prog 65 = some ([(0, 1), (1, 1)], [.int .i64 0, .slice none 0 0]) := by kernel_rfl
@[go_sem] theorem ty_70 : ty Tryz.prog 70 = some (false, 1) := by kernel_rfl
@[go_sem] theorem zer_70 : zer Tryz.prog 70 = some [.slice none 0 0] := by kernel_rfl
@[go_sem] theorem hu_70 : hasU Tryz.prog 70 = true := by kernel_rfl
@[go_sem] theorem by_70 : byS Tryz.prog 70 = false := by kernel_rfl
@[go_sem] theorem knd_70 : knd Tryz.prog 70 = some false := by kernel_rfl
@[go_sem] theorem elm_70 : elm Tryz.prog 70 = some (202, 1, 24) := by kernel_rfl
@[go_sem] theorem ty_72 : ty Tryz.prog 72 = some (true, 3) := by kernel_rfl
@[go_sem] theorem zer_72 : zer Tryz.prog 72 = some [.slice none 0 0, .slice none 0 0, .slice none 0 0] := by kernel_rfl
@[go_sem] theorem hu_72 : hasU Tryz.prog 72 = true := by kernel_rfl
@[go_sem] theorem fld_72_0 : fld Tryz.prog 72 0 = some (0, false, 1) := by kernel_rfl
@[go_sem] theorem fld_72_1 : fld Tryz.prog 72 1 = some (1, false, 1) := by kernel_rfl
@[go_sem] theorem fld_72_2 : fld Tryz.prog 72 2 = some (2, false, 1) := by kernel_rfl
@[go_sem] theorem plc_72 : plc Tryz.prog 72 = some ([(0, 1), (1, 1), (2, 1)], [.slice none 0 0, .slice none 0 0, .slice none 0 0]) := by kernel_rfl
@[go_sem] theorem ty_79 : ty Tryz.prog 79 = some (false, 1) := by kernel_rfl
@[go_sem] theorem zer_79 : zer Tryz.prog 79 = some [.pointer none] := by kernel_rfl
@[go_sem] theorem hu_79 : hasU Tryz.prog 79 = true := by kernel_rfl
@[go_sem] theorem ty_90 : ty Tryz.prog 90 = some (true, 3) := by kernel_rfl
@[go_sem] theorem zer_90 : zer Tryz.prog 90 = some [.string ⟨([] : List UInt8).toArray⟩, .string ⟨([] : List UInt8).toArray⟩, .slice none 0 0] := by kernel_rfl
@[go_sem] theorem hu_90 : hasU Tryz.prog 90 = true := by kernel_rfl
@[go_sem] theorem fld_90_0 : fld Tryz.prog 90 0 = some (0, false, 1) := by kernel_rfl
@[go_sem] theorem fld_90_1 : fld Tryz.prog 90 1 = some (1, false, 1) := by kernel_rfl
@[go_sem] theorem fld_90_2 : fld Tryz.prog 90 2 = some (2, false, 1) := by kernel_rfl
@[go_sem] theorem plc_90 : plc Tryz.prog 90 = some ([(0, 1), (1, 1), (2, 1)], [.string ⟨([] : List UInt8).toArray⟩, .string ⟨([] : List UInt8).toArray⟩, .slice none 0 0]) := by kernel_rfl
@[go_sem] theorem ty_92 : ty Tryz.prog 92 = some (false, 1) := by kernel_rfl
@[go_sem] theorem zer_92 : zer Tryz.prog 92 = some [.slice none 0 0] := by kernel_rfl
@[go_sem] theorem hu_92 : hasU Tryz.prog 92 = true := by kernel_rfl
@[go_sem] theorem by_92 : byS Tryz.prog 92 = false := by kernel_rfl
@[go_sem] theorem knd_92 : knd Tryz.prog 92 = some false := by kernel_rfl
@[go_sem] theorem elm_92 : elm Tryz.prog 92 = some (276, 2, 16) := by kernel_rfl
@[go_sem] theorem ty_94 : ty Tryz.prog 94 = some (true, 5) := by kernel_rfl
@[go_sem] theorem zer_94 : zer Tryz.prog 94 = some [.int .i64 0, .slice none 0 0, .slice none 0 0, .string ⟨([] : List UInt8).toArray⟩, .string ⟨([] : List UInt8).toArray⟩] := by kernel_rfl
@[go_sem] theorem hu_94 : hasU Tryz.prog 94 = true := by kernel_rfl
@[go_sem] theorem fld_94_0 : fld Tryz.prog 94 0 = some (0, false, 1) := by kernel_rfl
@[go_sem] theorem fld_94_1 : fld Tryz.prog 94 1 = some (1, false, 1) := by kernel_rfl
@[go_sem] theorem fld_94_2 : fld Tryz.prog 94 2 = some (2, false, 1) := by kernel_rfl
@[go_sem] theorem fld_94_3 : fld Tryz.prog 94 3 = some (3, false, 1) := by kernel_rfl
@[go_sem] theorem fld_94_4 : fld Tryz.prog 94 4 = some (4, false, 1) := by kernel_rfl
@[go_sem] theorem plc_94 : plc Tryz.prog 94 = some ([(0, 1), (1, 1), (2, 1), (3, 1), (4, 1)], [.int .i64 0, .slice none 0 0, .slice none 0 0, .string ⟨([] : List UInt8).toArray⟩, .string ⟨([] : List UInt8).toArray⟩]) := by kernel_rfl
@[go_sem] theorem ty_95 : ty Tryz.prog 95 = some (false, 1) := by kernel_rfl
@[go_sem] theorem zer_95 : zer Tryz.prog 95 = some [.slice none 0 0] := by kernel_rfl
@[go_sem] theorem hu_95 : hasU Tryz.prog 95 = true := by kernel_rfl
@[go_sem] theorem by_95 : byS Tryz.prog 95 = false := by kernel_rfl
@[go_sem] theorem knd_95 : knd Tryz.prog 95 = some false := by kernel_rfl
@[go_sem] theorem elm_95 : elm Tryz.prog 95 = some (233, 7, 96) := by kernel_rfl
@[go_sem] theorem ty_97 : ty Tryz.prog 97 = some (true, 19) := by kernel_rfl
@[go_sem] theorem zer_97 : zer Tryz.prog 97 = some [.int .i64 0, .string ⟨([] : List UInt8).toArray⟩, .int .i64 0, .slice none 0 0, .slice none 0 0, .string ⟨([] : List UInt8).toArray⟩, .string ⟨([] : List UInt8).toArray⟩, .slice none 0 0, .slice none 0 0, .string ⟨([] : List UInt8).toArray⟩, .bool false, .bool false, .bool false, .bool false, .int .i64 0, .int .i64 0, .slice none 0 0, .slice none 0 0, .slice none 0 0] := by kernel_rfl
@[go_sem] theorem hu_97 : hasU Tryz.prog 97 = true := by kernel_rfl
@[go_sem] theorem fld_97_0 : fld Tryz.prog 97 0 = some (0, false, 1) := by kernel_rfl
@[go_sem] theorem fld_97_1 : fld Tryz.prog 97 1 = some (1, false, 1) := by kernel_rfl
@[go_sem] theorem fld_97_2 : fld Tryz.prog 97 2 = some (2, true, 5) := by kernel_rfl
@[go_sem] theorem fld_97_3 : fld Tryz.prog 97 3 = some (7, false, 1) := by kernel_rfl
@[go_sem] theorem fld_97_4 : fld Tryz.prog 97 4 = some (8, false, 1) := by kernel_rfl
@[go_sem] theorem fld_97_5 : fld Tryz.prog 97 5 = some (9, false, 1) := by kernel_rfl
@[go_sem] theorem fld_97_6 : fld Tryz.prog 97 6 = some (10, false, 1) := by kernel_rfl
@[go_sem] theorem fld_97_7 : fld Tryz.prog 97 7 = some (11, false, 1) := by kernel_rfl
@[go_sem] theorem fld_97_8 : fld Tryz.prog 97 8 = some (12, false, 1) := by kernel_rfl
@[go_sem] theorem fld_97_9 : fld Tryz.prog 97 9 = some (13, false, 1) := by kernel_rfl
@[go_sem] theorem fld_97_10 : fld Tryz.prog 97 10 = some (14, false, 1) := by kernel_rfl
@[go_sem] theorem fld_97_11 : fld Tryz.prog 97 11 = some (15, false, 1) := by kernel_rfl
@[go_sem] theorem fld_97_12 : fld Tryz.prog 97 12 = some (16, false, 1) := by kernel_rfl
@[go_sem] theorem fld_97_13 : fld Tryz.prog 97 13 = some (17, false, 1) := by kernel_rfl
@[go_sem] theorem fld_97_14 : fld Tryz.prog 97 14 = some (18, false, 1) := by kernel_rfl
@[go_sem] theorem plc_97 : plc Tryz.prog 97 = some ([(0, 1), (1, 1), (2, 5), (7, 1), (8, 1), (9, 1), (10, 1), (11, 1), (12, 1), (13, 1), (14, 1), (15, 1), (16, 1), (17, 1), (18, 1)], [.int .i64 0, .string ⟨([] : List UInt8).toArray⟩, .int .i64 0, .slice none 0 0, .slice none 0 0, .string ⟨([] : List UInt8).toArray⟩, .string ⟨([] : List UInt8).toArray⟩, .slice none 0 0, .slice none 0 0, .string ⟨([] : List UInt8).toArray⟩, .bool false, .bool false, .bool false, .bool false, .int .i64 0, .int .i64 0, .slice none 0 0, .slice none 0 0, .slice none 0 0]) := by kernel_rfl
@[go_sem] theorem ty_100 : ty Tryz.prog 100 = some (true, 3) := by kernel_rfl
@[go_sem] theorem zer_100 : zer Tryz.prog 100 = some [.string ⟨([] : List UInt8).toArray⟩, .string ⟨([] : List UInt8).toArray⟩, .slice none 0 0] := by kernel_rfl
@[go_sem] theorem hu_100 : hasU Tryz.prog 100 = true := by kernel_rfl
@[go_sem] theorem fld_100_0 : fld Tryz.prog 100 0 = some (0, false, 1) := by kernel_rfl
@[go_sem] theorem fld_100_1 : fld Tryz.prog 100 1 = some (1, false, 1) := by kernel_rfl
@[go_sem] theorem fld_100_2 : fld Tryz.prog 100 2 = some (2, false, 1) := by kernel_rfl
@[go_sem] theorem plc_100 : plc Tryz.prog 100 = some ([(0, 1), (1, 1), (2, 1)], [.string ⟨([] : List UInt8).toArray⟩, .string ⟨([] : List UInt8).toArray⟩, .slice none 0 0]) := by kernel_rfl
@[go_sem] theorem ty_102 : ty Tryz.prog 102 = some (false, 1) := by kernel_rfl
@[go_sem] theorem zer_102 : zer Tryz.prog 102 = some [.slice none 0 0] := by kernel_rfl
@[go_sem] theorem hu_102 : hasU Tryz.prog 102 = true := by kernel_rfl
@[go_sem] theorem by_102 : byS Tryz.prog 102 = false := by kernel_rfl
@[go_sem] theorem knd_102 : knd Tryz.prog 102 = some false := by kernel_rfl
@[go_sem] theorem elm_102 : elm Tryz.prog 102 = some (182, 2, 16) := by kernel_rfl
@[go_sem] theorem ty_104 : ty Tryz.prog 104 = some (true, 5) := by kernel_rfl
@[go_sem] theorem zer_104 : zer Tryz.prog 104 = some [.int .i64 0, .slice none 0 0, .slice none 0 0, .string ⟨([] : List UInt8).toArray⟩, .string ⟨([] : List UInt8).toArray⟩] := by kernel_rfl
@[go_sem] theorem hu_104 : hasU Tryz.prog 104 = true := by kernel_rfl
@[go_sem] theorem fld_104_0 : fld Tryz.prog 104 0 = some (0, false, 1) := by kernel_rfl
@[go_sem] theorem fld_104_1 : fld Tryz.prog 104 1 = some (1, false, 1) := by kernel_rfl
@[go_sem] theorem fld_104_2 : fld Tryz.prog 104 2 = some (2, false, 1) := by kernel_rfl
@[go_sem] theorem fld_104_3 : fld Tryz.prog 104 3 = some (3, false, 1) := by kernel_rfl
@[go_sem] theorem fld_104_4 : fld Tryz.prog 104 4 = some (4, false, 1) := by kernel_rfl
@[go_sem] theorem plc_104 : plc Tryz.prog 104 = some ([(0, 1), (1, 1), (2, 1), (3, 1), (4, 1)], [.int .i64 0, .slice none 0 0, .slice none 0 0, .string ⟨([] : List UInt8).toArray⟩, .string ⟨([] : List UInt8).toArray⟩]) := by kernel_rfl
@[go_sem] theorem ty_105 : ty Tryz.prog 105 = some (false, 1) := by kernel_rfl
@[go_sem] theorem zer_105 : zer Tryz.prog 105 = some [.slice none 0 0] := by kernel_rfl
@[go_sem] theorem hu_105 : hasU Tryz.prog 105 = true := by kernel_rfl
@[go_sem] theorem by_105 : byS Tryz.prog 105 = false := by kernel_rfl
@[go_sem] theorem knd_105 : knd Tryz.prog 105 = some false := by kernel_rfl
@[go_sem] theorem elm_105 : elm Tryz.prog 105 = some (187, 7, 96) := by kernel_rfl
@[go_sem] theorem ty_107 : ty Tryz.prog 107 = some (true, 19) := by kernel_rfl
@[go_sem] theorem zer_107 : zer Tryz.prog 107 = some [.int .i64 0, .string ⟨([] : List UInt8).toArray⟩, .int .i64 0, .slice none 0 0, .slice none 0 0, .string ⟨([] : List UInt8).toArray⟩, .string ⟨([] : List UInt8).toArray⟩, .slice none 0 0, .slice none 0 0, .string ⟨([] : List UInt8).toArray⟩, .bool false, .bool false, .bool false, .bool false, .int .i64 0, .int .i64 0, .slice none 0 0, .slice none 0 0, .slice none 0 0] := by kernel_rfl
@[go_sem] theorem hu_107 : hasU Tryz.prog 107 = true := by kernel_rfl
@[go_sem] theorem fld_107_0 : fld Tryz.prog 107 0 = some (0, false, 1) := by kernel_rfl
@[go_sem] theorem fld_107_1 : fld Tryz.prog 107 1 = some (1, false, 1) := by kernel_rfl
@[go_sem] theorem fld_107_2 : fld Tryz.prog 107 2 = some (2, true, 5) := by kernel_rfl
@[go_sem] theorem fld_107_3 : fld Tryz.prog 107 3 = some (7, false, 1) := by kernel_rfl
@[go_sem] theorem fld_107_4 : fld Tryz.prog 107 4 = some (8, false, 1) := by kernel_rfl
@[go_sem] theorem fld_107_5 : fld Tryz.prog 107 5 = some (9, false, 1) := by kernel_rfl
@[go_sem] theorem fld_107_6 : fld Tryz.prog 107 6 = some (10, false, 1) := by kernel_rfl
@[go_sem] theorem fld_107_7 : fld Tryz.prog 107 7 = some (11, false, 1) := by kernel_rfl
@[go_sem] theorem fld_107_8 : fld Tryz.prog 107 8 = some (12, false, 1) := by kernel_rfl
@[go_sem] theorem fld_107_9 : fld Tryz.prog 107 9 = some (13, false, 1) := by kernel_rfl
@[go_sem] theorem fld_107_10 : fld Tryz.prog 107 10 = some (14, false, 1) := by kernel_rfl
@[go_sem] theorem fld_107_11 : fld Tryz.prog 107 11 = some (15, false, 1) := by kernel_rfl
@[go_sem] theorem fld_107_12 : fld Tryz.prog 107 12 = some (16, false, 1) := by kernel_rfl
@[go_sem] theorem fld_107_13 : fld Tryz.prog 107 13 = some (17, false, 1) := by kernel_rfl
@[go_sem] theorem fld_107_14 : fld Tryz.prog 107 14 = some (18, false, 1) := by kernel_rfl
@[go_sem] theorem plc_107 : plc Tryz.prog 107 = some ([(0, 1), (1, 1), (2, 5), (7, 1), (8, 1), (9, 1), (10, 1), (11, 1), (12, 1), (13, 1), (14, 1), (15, 1), (16, 1), (17, 1), (18, 1)], [.int .i64 0, .string ⟨([] : List UInt8).toArray⟩, .int .i64 0, .slice none 0 0, .slice none 0 0, .string ⟨([] : List UInt8).toArray⟩, .string ⟨([] : List UInt8).toArray⟩, .slice none 0 0, .slice none 0 0, .string ⟨([] : List UInt8).toArray⟩, .bool false, .bool false, .bool false, .bool false, .int .i64 0, .int .i64 0, .slice none 0 0, .slice none 0 0, .slice none 0 0]) := by kernel_rfl
@[go_sem] theorem ty_118 : ty Tryz.prog 118 = some (false, 1) := by kernel_rfl
@[go_sem] theorem zer_118 : zer Tryz.prog 118 = some [.slice none 0 0] := by kernel_rfl
@[go_sem] theorem hu_118 : hasU Tryz.prog 118 = true := by kernel_rfl
@[go_sem] theorem by_118 : byS Tryz.prog 118 = false := by kernel_rfl
@[go_sem] theorem knd_118 : knd Tryz.prog 118 = some false := by kernel_rfl
@[go_sem] theorem elm_118 : elm Tryz.prog 118 = some (284, 3, 40) := by kernel_rfl
@[go_sem] theorem ty_120 : ty Tryz.prog 120 = some (true, 5) := by kernel_rfl
@[go_sem] theorem zer_120 : zer Tryz.prog 120 = some [.bool false, .int .i64 0, .int .i64 0, .string ⟨([] : List UInt8).toArray⟩, .slice none 0 0] := by kernel_rfl
@[go_sem] theorem hu_120 : hasU Tryz.prog 120 = true := by kernel_rfl
@[go_sem] theorem fld_120_0 : fld Tryz.prog 120 0 = some (0, false, 1) := by kernel_rfl
@[go_sem] theorem fld_120_1 : fld Tryz.prog 120 1 = some (1, false, 1) := by kernel_rfl
@[go_sem] theorem fld_120_2 : fld Tryz.prog 120 2 = some (2, false, 1) := by kernel_rfl
@[go_sem] theorem fld_120_3 : fld Tryz.prog 120 3 = some (3, false, 1) := by kernel_rfl
@[go_sem] theorem fld_120_4 : fld Tryz.prog 120 4 = some (4, false, 1) := by kernel_rfl
@[go_sem] theorem plc_120 : plc Tryz.prog 120 = some ([(0, 1), (1, 1), (2, 1), (3, 1), (4, 1)], [.bool false, .int .i64 0, .int .i64 0, .string ⟨([] : List UInt8).toArray⟩, .slice none 0 0]) := by kernel_rfl
@[go_sem] theorem ty_122 : ty Tryz.prog 122 = some (true, 10) := by kernel_rfl
@[go_sem] theorem zer_122 : zer Tryz.prog 122 = some [.slice none 0 0, .slice none 0 0, .slice none 0 0, .int .i64 0, .slice none 0 0, .bool false, .int .i64 0, .int .i64 0, .string ⟨([] : List UInt8).toArray⟩, .slice none 0 0] := by kernel_rfl
@[go_sem] theorem hu_122 : hasU Tryz.prog 122 = true := by kernel_rfl
@[go_sem] theorem fld_122_0 : fld Tryz.prog 122 0 = some (0, false, 1) := by kernel_rfl
@[go_sem] theorem fld_122_1 : fld Tryz.prog 122 1 = some (1, false, 1) := by kernel_rfl
@[go_sem] theorem fld_122_2 : fld Tryz.prog 122 2 = some (2, false, 1) := by kernel_rfl
@[go_sem] theorem fld_122_3 : fld Tryz.prog 122 3 = some (3, false, 1) := by kernel_rfl
@[go_sem] theorem fld_122_4 : fld Tryz.prog 122 4 = some (4, false, 1) := by kernel_rfl
@[go_sem] theorem fld_122_5 : fld Tryz.prog 122 5 = some (5, true, 5) := by kernel_rfl
@[go_sem] theorem plc_122 : plc Tryz.prog 122 = some ([(0, 1), (1, 1), (2, 1), (3, 1), (4, 1), (5, 5)], [.slice none 0 0, .slice none 0 0, .slice none 0 0, .int .i64 0, .slice none 0 0, .bool false, .int .i64 0, .int .i64 0, .string ⟨([] : List UInt8).toArray⟩, .slice none 0 0]) := by kernel_rfl
@[go_sem] theorem ty_124 : ty Tryz.prog 124 = some (true, 15) := by kernel_rfl
@[go_sem] theorem zer_124 : zer Tryz.prog 124 = some [.string ⟨([] : List UInt8).toArray⟩, .slice none 0 0, .slice none 0 0, .slice none 0 0, .int .i64 0, .slice none 0 0, .bool false, .int .i64 0, .int .i64 0, .string ⟨([] : List UInt8).toArray⟩, .slice none 0 0, .slice none 0 0, .bool false, .int .i64 0, .bool false] := by kernel_rfl
@[go_sem] theorem hu_124 : hasU Tryz.prog 124 = true := by kernel_rfl
@[go_sem] theorem fld_124_0 : fld Tryz.prog 124 0 = some (0, false, 1) := by kernel_rfl
@[go_sem] theorem fld_124_1 : fld Tryz.prog 124 1 = some (1, true, 10) := by kernel_rfl
@[go_sem] theorem fld_124_2 : fld Tryz.prog 124 2 = some (11, false, 1) := by kernel_rfl
@[go_sem] theorem fld_124_3 : fld Tryz.prog 124 3 = some (12, false, 1) := by kernel_rfl
@[go_sem] theorem fld_124_4 : fld Tryz.prog 124 4 = some (13, false, 1) := by kernel_rfl
@[go_sem] theorem fld_124_5 : fld Tryz.prog 124 5 = some (14, false, 1) := by kernel_rfl
@[go_sem] theorem plc_124 : plc Tryz.prog 124 = some ([(0, 1), (1, 10), (11, 1), (12, 1), (13, 1), (14, 1)], [.string ⟨([] : List UInt8).toArray⟩, .slice none 0 0, .slice none 0 0, .slice none 0 0, .int .i64 0, .slice none 0 0, .bool false, .int .i64 0, .int .i64 0, .string ⟨([] : List UInt8).toArray⟩, .slice none 0 0, .slice none 0 0, .bool false, .int .i64 0, .bool false]) := by kernel_rfl
@[go_sem] theorem ty_127 : ty Tryz.prog 127 = some (true, 3) := by kernel_rfl
@[go_sem] theorem zer_127 : zer Tryz.prog 127 = some [.string ⟨([] : List UInt8).toArray⟩, .slice none 0 0, .int .i64 0] := by kernel_rfl
@[go_sem] theorem hu_127 : hasU Tryz.prog 127 = true := by kernel_rfl
@[go_sem] theorem fld_127_0 : fld Tryz.prog 127 0 = some (0, false, 1) := by kernel_rfl
@[go_sem] theorem fld_127_1 : fld Tryz.prog 127 1 = some (1, false, 1) := by kernel_rfl
@[go_sem] theorem fld_127_2 : fld Tryz.prog 127 2 = some (2, false, 1) := by kernel_rfl
@[go_sem] theorem plc_127 : plc Tryz.prog 127 = some ([(0, 1), (1, 1), (2, 1)], [.string ⟨([] : List UInt8).toArray⟩, .slice none 0 0, .int .i64 0]) := by kernel_rfl
@[go_sem] theorem ty_129 : ty Tryz.prog 129 = some (false, 1) := by kernel_rfl
@[go_sem] theorem zer_129 : zer Tryz.prog 129 = some [.slice none 0 0] := by kernel_rfl
@[go_sem] theorem hu_129 : hasU Tryz.prog 129 = true := by kernel_rfl
@[go_sem] theorem by_129 : byS Tryz.prog 129 = false := by kernel_rfl
@[go_sem] theorem knd_129 : knd Tryz.prog 129 = some false := by kernel_rfl
@[go_sem] theorem elm_129 : elm Tryz.prog 129 = some (286, 3, 40) := by kernel_rfl
@[go_sem] theorem ty_131 : ty Tryz.prog 131 = some (true, 5) := by kernel_rfl
@[go_sem] theorem zer_131 : zer Tryz.prog 131 = some [.bool false, .int .i64 0, .int .i64 0, .string ⟨([] : List UInt8).toArray⟩, .slice none 0 0] := by kernel_rfl
@[go_sem] theorem hu_131 : hasU Tryz.prog 131 = true := by kernel_rfl
@[go_sem] theorem fld_131_0 : fld Tryz.prog 131 0 = some (0, false, 1) := by kernel_rfl
@[go_sem] theorem fld_131_1 : fld Tryz.prog 131 1 = some (1, false, 1) := by kernel_rfl
@[go_sem] theorem fld_131_2 : fld Tryz.prog 131 2 = some (2, false, 1) := by kernel_rfl
@[go_sem] theorem fld_131_3 : fld Tryz.prog 131 3 = some (3, false, 1) := by kernel_rfl
@[go_sem] theorem fld_131_4 : fld Tryz.prog 131 4 = some (4, false, 1) := by kernel_rfl
@[go_sem] theorem plc_131 : plc Tryz.prog 131 = some ([(0, 1), (1, 1), (2, 1), (3, 1), (4, 1)], [.bool false, .int .i64 0, .int .i64 0, .string ⟨([] : List UInt8).toArray⟩, .slice none 0 0]) := by kernel_rfl
@[go_sem] theorem ty_133 : ty Tryz.prog 133 = some (true, 10) := by kernel_rfl
@[go_sem] theorem zer_133 : zer Tryz.prog 133 = some [.slice none 0 0, .slice none 0 0, .slice none 0 0, .int .i64 0, .slice none 0 0, .bool false, .int .i64 0, .int .i64 0, .string ⟨([] : List UInt8).toArray⟩, .slice none 0 0] := by kernel_rfl
@[go_sem] theorem hu_133 : hasU Tryz.prog 133 = true := by kernel_rfl
@[go_sem] theorem fld_133_0 : fld Tryz.prog 133 0 = some (0, false, 1) := by kernel_rfl
@[go_sem] theorem fld_133_1 : fld Tryz.prog 133 1 = some (1, false, 1) := by kernel_rfl
@[go_sem] theorem fld_133_2 : fld Tryz.prog 133 2 = some (2, false, 1) := by kernel_rfl
@[go_sem] theorem fld_133_3 : fld Tryz.prog 133 3 = some (3, false, 1) := by kernel_rfl
@[go_sem] theorem fld_133_4 : fld Tryz.prog 133 4 = some (4, false, 1) := by kernel_rfl
@[go_sem] theorem fld_133_5 : fld Tryz.prog 133 5 = some (5, true, 5) := by kernel_rfl
@[go_sem] theorem plc_133 : plc Tryz.prog 133 = some ([(0, 1), (1, 1), (2, 1), (3, 1), (4, 1), (5, 5)], [.slice none 0 0, .slice none 0 0, .slice none 0 0, .int .i64 0, .slice none 0 0, .bool false, .int .i64 0, .int .i64 0, .string ⟨([] : List UInt8).toArray⟩, .slice none 0 0]) := by kernel_rfl
@[go_sem] theorem ty_135 : ty Tryz.prog 135 = some (true, 15) := by kernel_rfl
@[go_sem] theorem zer_135 : zer Tryz.prog 135 = some [.string ⟨([] : List UInt8).toArray⟩, .slice none 0 0, .slice none 0 0, .slice none 0 0, .int .i64 0, .slice none 0 0, .bool false, .int .i64 0, .int .i64 0, .string ⟨([] : List UInt8).toArray⟩, .slice none 0 0, .slice none 0 0, .bool false, .int .i64 0, .bool false] := by kernel_rfl
@[go_sem] theorem hu_135 : hasU Tryz.prog 135 = true := by kernel_rfl
@[go_sem] theorem fld_135_0 : fld Tryz.prog 135 0 = some (0, false, 1) := by kernel_rfl
@[go_sem] theorem fld_135_1 : fld Tryz.prog 135 1 = some (1, true, 10) := by kernel_rfl
@[go_sem] theorem fld_135_2 : fld Tryz.prog 135 2 = some (11, false, 1) := by kernel_rfl
@[go_sem] theorem fld_135_3 : fld Tryz.prog 135 3 = some (12, false, 1) := by kernel_rfl
@[go_sem] theorem fld_135_4 : fld Tryz.prog 135 4 = some (13, false, 1) := by kernel_rfl
@[go_sem] theorem fld_135_5 : fld Tryz.prog 135 5 = some (14, false, 1) := by kernel_rfl
@[go_sem] theorem plc_135 : plc Tryz.prog 135 = some ([(0, 1), (1, 10), (11, 1), (12, 1), (13, 1), (14, 1)], [.string ⟨([] : List UInt8).toArray⟩, .slice none 0 0, .slice none 0 0, .slice none 0 0, .int .i64 0, .slice none 0 0, .bool false, .int .i64 0, .int .i64 0, .string ⟨([] : List UInt8).toArray⟩, .slice none 0 0, .slice none 0 0, .bool false, .int .i64 0, .bool false]) := by kernel_rfl
@[go_sem] theorem ty_147 : ty Tryz.prog 147 = some (false, 1) := by kernel_rfl
@[go_sem] theorem zer_147 : zer Tryz.prog 147 = some [.slice none 0 0] := by kernel_rfl
@[go_sem] theorem hu_147 : hasU Tryz.prog 147 = true := by kernel_rfl
@[go_sem] theorem by_147 : byS Tryz.prog 147 = false := by kernel_rfl
@[go_sem] theorem knd_147 : knd Tryz.prog 147 = some false := by kernel_rfl
@[go_sem] theorem elm_147 : elm Tryz.prog 147 = some (207, 4, 64) := by kernel_rfl
@[go_sem] theorem ty_154 : ty Tryz.prog 154 = some (true, 3) := by kernel_rfl
@[go_sem] theorem zer_154 : zer Tryz.prog 154 = some [.slice none 0 0, .int .i64 0, .int .i64 0] := by kernel_rfl
@[go_sem] theorem hu_154 : hasU Tryz.prog 154 = true := by kernel_rfl
@[go_sem] theorem fld_154_0 : fld Tryz.prog 154 0 = some (0, false, 1) := by kernel_rfl
@[go_sem] theorem fld_154_1 : fld Tryz.prog 154 1 = some (1, false, 1) := by kernel_rfl
@[go_sem] theorem fld_154_2 : fld Tryz.prog 154 2 = some (2, false, 1) := by kernel_rfl
@[go_sem] theorem plc_154 : plc Tryz.prog 154 = some ([(0, 1), (1, 1), (2, 1)], [.slice none 0 0, .int .i64 0, .int .i64 0]) := by kernel_rfl
@[go_sem] theorem ty_163 : ty Tryz.prog 163 = some (false, 1) := by kernel_rfl
@[go_sem] theorem zer_163 : zer Tryz.prog 163 = some [.slice none 0 0] := by kernel_rfl
@[go_sem] theorem hu_163 : hasU Tryz.prog 163 = true := by kernel_rfl
@[go_sem] theorem by_163 : byS Tryz.prog 163 = false := by kernel_rfl
@[go_sem] theorem knd_163 : knd Tryz.prog 163 = some false := by kernel_rfl
@[go_sem] theorem elm_163 : elm Tryz.prog 163 = some (26, 1, 24) := by kernel_rfl
@[go_sem] theorem ty_182 : ty Tryz.prog 182 = some (true, 2) := by kernel_rfl
@[go_sem] theorem zer_182 : zer Tryz.prog 182 = some [.int .i64 0, .int .i64 0] := by kernel_rfl
@[go_sem] theorem hu_182 : hasU Tryz.prog 182 = true := by kernel_rfl
@[go_sem] theorem fld_182_0 : fld Tryz.prog 182 0 = some (0, false, 1) := by kernel_rfl
@[go_sem] theorem fld_182_1 : fld Tryz.prog 182 1 = some (1, false, 1) := by kernel_rfl
@[go_sem] theorem plc_182 : plc Tryz.prog 182 = some ([(0, 1), (1, 1)], [.int .i64 0, .int .i64 0]) := by kernel_rfl
@[go_sem] theorem ty_183 : ty Tryz.prog 183 = some (false, 1) := by kernel_rfl
@[go_sem] theorem zer_183 : zer Tryz.prog 183 = some [.slice none 0 0] := by kernel_rfl
@[go_sem] theorem hu_183 : hasU Tryz.prog 183 = true := by kernel_rfl
@[go_sem] theorem by_183 : byS Tryz.prog 183 = false := by kernel_rfl
@[go_sem] theorem knd_183 : knd Tryz.prog 183 = some false := by kernel_rfl
@[go_sem] theorem elm_183 : elm Tryz.prog 183 = some (240, 2, 40) := by kernel_rfl
@[go_sem] theorem ty_185 : ty Tryz.prog 185 = some (true, 3) := by kernel_rfl
@[go_sem] theorem zer_185 : zer Tryz.prog 185 = some [.bool false, .int .i64 0, .slice none 0 0] := by kernel_rfl
@[go_sem] theorem hu_185 : hasU Tryz.prog 185 = true := by kernel_rfl
@[go_sem] theorem fld_185_0 : fld Tryz.prog 185 0 = some (0, false, 1) := by kernel_rfl
@[go_sem] theorem fld_185_1 : fld Tryz.prog 185 1 = some (1, false, 1) := by kernel_rfl
@[go_sem] theorem fld_185_2 : fld Tryz.prog 185 2 = some (2, false, 1) := by kernel_rfl
@[go_sem] theorem plc_185 : plc Tryz.prog 185 = some ([(0, 1), (1, 1), (2, 1)], [.bool false, .int .i64 0, .slice none 0 0]) := by kernel_rfl
@[go_sem] theorem ty_187 : ty Tryz.prog 187 = some (true, 7) := by kernel_rfl
@[go_sem] theorem zer_187 : zer Tryz.prog 187 = some [.int .i64 0, .int .i64 0, .string ⟨([] : List UInt8).toArray⟩, .bool false, .int .i64 0, .slice none 0 0, .slice none 0 0] := by kernel_rfl
@[go_sem] theorem hu_187 : hasU Tryz.prog 187 = true := by kernel_rfl
@[go_sem] theorem fld_187_0 : fld Tryz.prog 187 0 = some (0, false, 1) := by kernel_rfl
@[go_sem] theorem fld_187_1 : fld Tryz.prog 187 1 = some (1, false, 1) := by kernel_rfl
@[go_sem] theorem fld_187_2 : fld Tryz.prog 187 2 = some (2, false, 1) := by kernel_rfl
@[go_sem] theorem fld_187_3 : fld Tryz.prog 187 3 = some (3, true, 3) := by kernel_rfl
@[go_sem] theorem fld_187_4 : fld Tryz.prog 187 4 = some (6, false, 1) := by kernel_rfl
@[go_sem] theorem plc_187 : plc Tryz.prog 187 = some ([(0, 1), (1, 1), (2, 1), (3, 3), (6, 1)], [.int .i64 0, .int .i64 0, .string ⟨([] : List UInt8).toArray⟩, .bool false, .int .i64 0, .slice none 0 0, .slice none 0 0]) := by kernel_rfl
@[go_sem] theorem ty_194 : ty Tryz.prog 194 = some (true, 3) := by kernel_rfl
@[go_sem] theorem zer_194 : zer Tryz.prog 194 = some [.string ⟨([] : List UInt8).toArray⟩, .slice none 0 0, .int .i64 0] := by kernel_rfl
@[go_sem] theorem hu_194 : hasU Tryz.prog 194 = true := by kernel_rfl
@[go_sem] theorem fld_194_0 : fld Tryz.prog 194 0 = some (0, false, 1) := by kernel_rfl
@[go_sem] theorem fld_194_1 : fld Tryz.prog 194 1 = some (1, false, 1) := by kernel_rfl
@[go_sem] theorem fld_194_2 : fld Tryz.prog 194 2 = some (2, false, 1) := by kernel_rfl
@[go_sem] theorem plc_194 : plc Tryz.prog 194 = some ([(0, 1), (1, 1), (2, 1)], [.string ⟨([] : List UInt8).toArray⟩, .slice none 0 0, .int .i64 0]) := by kernel_rfl
@[go_sem] theorem ty_202 : ty Tryz.prog 202 = some (false, 1) := by kernel_rfl
@[go_sem] theorem zer_202 : zer Tryz.prog 202 = some [.slice none 0 0] := by kernel_rfl
@[go_sem] theorem hu_202 : hasU Tryz.prog 202 = true := by kernel_rfl
@[go_sem] theorem by_202 : byS Tryz.prog 202 = false := by kernel_rfl
@[go_sem] theorem knd_202 : knd Tryz.prog 202 = some false := by kernel_rfl
@[go_sem] theorem elm_202 : elm Tryz.prog 202 = some (251, 4, 64) := by kernel_rfl
@[go_sem] theorem ty_207 : ty Tryz.prog 207 = some (true, 4) := by kernel_rfl
@[go_sem] theorem zer_207 : zer Tryz.prog 207 = some [.int .i64 0, .string ⟨([] : List UInt8).toArray⟩, .string ⟨([] : List UInt8).toArray⟩, .slice none 0 0] := by kernel_rfl
@[go_sem] theorem hu_207 : hasU Tryz.prog 207 = true := by kernel_rfl
@[go_sem] theorem fld_207_0 : fld Tryz.prog 207 0 = some (0, false, 1) := by kernel_rfl
@[go_sem] theorem fld_207_1 : fld Tryz.prog 207 1 = some (1, false, 1) := by kernel_rfl
@[go_sem] theorem fld_207_2 : fld Tryz.prog 207 2 = some (2, false, 1) := by kernel_rfl
@[go_sem] theorem fld_207_3 : fld Tryz.prog 207 3 = some (3, false, 1) := by kernel_rfl
@[go_sem] theorem plc_207 : plc Tryz.prog 207 = some ([(0, 1), (1, 1), (2, 1), (3, 1)], [.int .i64 0, .string ⟨([] : List UInt8).toArray⟩, .string ⟨([] : List UInt8).toArray⟩, .slice none 0 0]) := by kernel_rfl
@[go_sem] theorem ty_229 : ty Tryz.prog 229 = some (false, 1) := by kernel_rfl
@[go_sem] theorem zer_229 : zer Tryz.prog 229 = some [.slice none 0 0] := by kernel_rfl
@[go_sem] theorem hu_229 : hasU Tryz.prog 229 = true := by kernel_rfl
@[go_sem] theorem by_229 : byS Tryz.prog 229 = false := by kernel_rfl
@[go_sem] theorem knd_229 : knd Tryz.prog 229 = some false := by kernel_rfl
@[go_sem] theorem elm_229 : elm Tryz.prog 229 = some (346, 2, 40) := by kernel_rfl
@[go_sem] theorem ty_231 : ty Tryz.prog 231 = some (true, 3) := by kernel_rfl
@[go_sem] theorem zer_231 : zer Tryz.prog 231 = some [.bool false, .int .i64 0, .slice none 0 0] := by kernel_rfl
@[go_sem] theorem hu_231 : hasU Tryz.prog 231 = true := by kernel_rfl
@[go_sem] theorem fld_231_0 : fld Tryz.prog 231 0 = some (0, false, 1) := by kernel_rfl
@[go_sem] theorem fld_231_1 : fld Tryz.prog 231 1 = some (1, false, 1) := by kernel_rfl
@[go_sem] theorem fld_231_2 : fld Tryz.prog 231 2 = some (2, false, 1) := by kernel_rfl
@[go_sem] theorem plc_231 : plc Tryz.prog 231 = some ([(0, 1), (1, 1), (2, 1)], [.bool false, .int .i64 0, .slice none 0 0]) := by kernel_rfl
@[go_sem] theorem ty_233 : ty Tryz.prog 233 = some (true, 7) := by kernel_rfl
@[go_sem] theorem zer_233 : zer Tryz.prog 233 = some [.int .i64 0, .int .i64 0, .string ⟨([] : List UInt8).toArray⟩, .bool false, .int .i64 0, .slice none 0 0, .slice none 0 0] := by kernel_rfl
@[go_sem] theorem hu_233 : hasU Tryz.prog 233 = true := by kernel_rfl
@[go_sem] theorem fld_233_0 : fld Tryz.prog 233 0 = some (0, false, 1) := by kernel_rfl
@[go_sem] theorem fld_233_1 : fld Tryz.prog 233 1 = some (1, false, 1) := by kernel_rfl
@[go_sem] theorem fld_233_2 : fld Tryz.prog 233 2 = some (2, false, 1) := by kernel_rfl
@[go_sem] theorem fld_233_3 : fld Tryz.prog 233 3 = some (3, true, 3) := by kernel_rfl
@[go_sem] theorem fld_233_4 : fld Tryz.prog 233 4 = some (6, false, 1) := by kernel_rfl
@[go_sem] theorem plc_233 : plc Tryz.prog 233 = some ([(0, 1), (1, 1), (2, 1), (3, 3), (6, 1)], [.int .i64 0, .int .i64 0, .string ⟨([] : List UInt8).toArray⟩, .bool false, .int .i64 0, .slice none 0 0, .slice none 0 0]) := by kernel_rfl
@[go_sem] theorem ty_238 : ty Tryz.prog 238 = some (false, 1) := by kernel_rfl
@[go_sem] theorem zer_238 : zer Tryz.prog 238 = some [.slice none 0 0] := by kernel_rfl
@[go_sem] theorem hu_238 : hasU Tryz.prog 238 = true := by kernel_rfl
@[go_sem] theorem by_238 : byS Tryz.prog 238 = false := by kernel_rfl
@[go_sem] theorem knd_238 : knd Tryz.prog 238 = some false := by kernel_rfl
@[go_sem] theorem elm_238 : elm Tryz.prog 238 = some (281, 2, 32) := by kernel_rfl
@[go_sem] theorem ty_240 : ty Tryz.prog 240 = some (true, 2) := by kernel_rfl
@[go_sem] theorem zer_240 : zer Tryz.prog 240 = some [.string ⟨([] : List UInt8).toArray⟩, .slice none 0 0] := by kernel_rfl
@[go_sem] theorem hu_240 : hasU Tryz.prog 240 = true := by kernel_rfl
@[go_sem] theorem fld_240_0 : fld Tryz.prog 240 0 = some (0, false, 1) := by kernel_rfl
@[go_sem] theorem fld_240_1 : fld Tryz.prog 240 1 = some (1, false, 1) := by kernel_rfl
@[go_sem] theorem plc_240 : plc Tryz.prog 240 = some ([(0, 1), (1, 1)], [.string ⟨([] : List UInt8).toArray⟩, .slice none 0 0]) := by kernel_rfl
@[go_sem] theorem ty_251 : ty Tryz.prog 251 = some (true, 4) := by kernel_rfl
@[go_sem] theorem zer_251 : zer Tryz.prog 251 = some [.int .i64 0, .string ⟨([] : List UInt8).toArray⟩, .string ⟨([] : List UInt8).toArray⟩, .slice none 0 0] := by kernel_rfl
@[go_sem] theorem hu_251 : hasU Tryz.prog 251 = true := by kernel_rfl
@[go_sem] theorem fld_251_0 : fld Tryz.prog 251 0 = some (0, false, 1) := by kernel_rfl
@[go_sem] theorem fld_251_1 : fld Tryz.prog 251 1 = some (1, false, 1) := by kernel_rfl
@[go_sem] theorem fld_251_2 : fld Tryz.prog 251 2 = some (2, false, 1) := by kernel_rfl
@[go_sem] theorem fld_251_3 : fld Tryz.prog 251 3 = some (3, false, 1) := by kernel_rfl
@[go_sem] theorem plc_251 : plc Tryz.prog 251 = some ([(0, 1), (1, 1), (2, 1), (3, 1)], [.int .i64 0, .string ⟨([] : List UInt8).toArray⟩, .string ⟨([] : List UInt8).toArray⟩, .slice none 0 0]) := by kernel_rfl
@[go_sem] theorem ty_265 : ty Tryz.prog 265 = some (false, 1) := by kernel_rfl
@[go_sem] theorem zer_265 : zer Tryz.prog 265 = some [.int .u64 0] := by kernel_rfl
@[go_sem] theorem ik_265 : ikd Tryz.prog 265 = some .u64 := by kernel_rfl
@[go_sem] theorem hu_265 : hasU Tryz.prog 265 = true := by kernel_rfl
@[go_sem] theorem ty_268 : ty Tryz.prog 268 = some (false, 1) := by kernel_rfl
@[go_sem] theorem zer_268 : zer Tryz.prog 268 = some [.slice none 0 0] := by kernel_rfl
@[go_sem] theorem hu_268 : hasU Tryz.prog 268 = true := by kernel_rfl
@[go_sem] theorem by_268 : byS Tryz.prog 268 = false := by kernel_rfl
@[go_sem] theorem knd_268 : knd Tryz.prog 268 = some false := by kernel_rfl
@[go_sem] theorem elm_268 : elm Tryz.prog 268 = some (4, 1, 1) := by kernel_rfl
@[go_sem] theorem ty_276 : ty Tryz.prog 276 = some (true, 2) := by kernel_rfl
@[go_sem] theorem zer_276 : zer Tryz.prog 276 = some [.int .i64 0, .int .i64 0] := by kernel_rfl
@[go_sem] theorem hu_276 : hasU Tryz.prog 276 = true := by kernel_rfl
@[go_sem] theorem fld_276_0 : fld Tryz.prog 276 0 = some (0, false, 1) := by kernel_rfl
@[go_sem] theorem fld_276_1 : fld Tryz.prog 276 1 = some (1, false, 1) := by kernel_rfl
@[go_sem] theorem plc_276 : plc Tryz.prog 276 = some ([(0, 1), (1, 1)], [.int .i64 0, .int .i64 0]) := by kernel_rfl
@[go_sem] theorem ty_281 : ty Tryz.prog 281 = some (true, 2) := by kernel_rfl
@[go_sem] theorem zer_281 : zer Tryz.prog 281 = some [.string ⟨([] : List UInt8).toArray⟩, .string ⟨([] : List UInt8).toArray⟩] := by kernel_rfl
@[go_sem] theorem hu_281 : hasU Tryz.prog 281 = true := by kernel_rfl
@[go_sem] theorem fld_281_0 : fld Tryz.prog 281 0 = some (0, false, 1) := by kernel_rfl
@[go_sem] theorem fld_281_1 : fld Tryz.prog 281 1 = some (1, false, 1) := by kernel_rfl
@[go_sem] theorem plc_281 : plc Tryz.prog 281 = some ([(0, 1), (1, 1)], [.string ⟨([] : List UInt8).toArray⟩, .string ⟨([] : List UInt8).toArray⟩]) := by kernel_rfl
@[go_sem] theorem ty_284 : ty Tryz.prog 284 = some (true, 3) := by kernel_rfl
@[go_sem] theorem zer_284 : zer Tryz.prog 284 = some [.slice none 0 0, .int .i64 0, .int .i64 0] := by kernel_rfl
@[go_sem] theorem hu_284 : hasU Tryz.prog 284 = true := by kernel_rfl
@[go_sem] theorem fld_284_0 : fld Tryz.prog 284 0 = some (0, false, 1) := by kernel_rfl
@[go_sem] theorem fld_284_1 : fld Tryz.prog 284 1 = some (1, false, 1) := by kernel_rfl
@[go_sem] theorem fld_284_2 : fld Tryz.prog 284 2 = some (2, false, 1) := by kernel_rfl
@[go_sem] theorem plc_284 : plc Tryz.prog 284 = some ([(0, 1), (1, 1), (2, 1)], [.slice none 0 0, .int .i64 0, .int .i64 0]) := by kernel_rfl
@[go_sem] theorem ty_286 : ty Tryz.prog 286 = some (true, 3) := by kernel_rfl
@[go_sem] theorem zer_286 : zer Tryz.prog 286 = some [.slice none 0 0, .int .i64 0, .int .i64 0] := by kernel_rfl
@[go_sem] theorem hu_286 : hasU Tryz.prog 286 = true := by kernel_rfl
@[go_sem] theorem fld_286_0 : fld Tryz.prog 286 0 = some (0, false, 1) := by kernel_rfl
@[go_sem] theorem fld_286_1 : fld Tryz.prog 286 1 = some (1, false, 1) := by kernel_rfl
@[go_sem] theorem fld_286_2 : fld Tryz.prog 286 2 = some (2, false, 1) := by kernel_rfl
@[go_sem] theorem plc_286 : plc Tryz.prog 286 = some ([(0, 1), (1, 1), (2, 1)], [.slice none 0 0, .int .i64 0, .int .i64 0]) := by kernel_rfl
@[go_sem] theorem ty_300 : ty Tryz.prog 300 = some (false, 1) := by kernel_rfl
@[go_sem] theorem zer_300 : zer Tryz.prog 300 = some [.pointer none] := by kernel_rfl
@[go_sem] theorem hu_300 : hasU Tryz.prog 300 = true := by kernel_rfl
@[go_sem] theorem ty_302 : ty Tryz.prog 302 = some (false, 1) := by kernel_rfl
@[go_sem] theorem zer_302 : zer Tryz.prog 302 = some [.slice none 0 0] := by kernel_rfl
@[go_sem] theorem hu_302 : hasU Tryz.prog 302 = true := by kernel_rfl
@[go_sem] theorem by_302 : byS Tryz.prog 302 = false := by kernel_rfl
@[go_sem] theorem knd_302 : knd Tryz.prog 302 = some false := by kernel_rfl
@[go_sem] theorem elm_302 : elm Tryz.prog 302 = some (352, 3, 32) := by kernel_rfl
@[go_sem] theorem ty_304 : ty Tryz.prog 304 = some (true, 4) := by kernel_rfl
@[go_sem] theorem zer_304 : zer Tryz.prog 304 = some [.slice none 0 0, .int .i64 0, .bool false, .int .i64 0] := by kernel_rfl
@[go_sem] theorem hu_304 : hasU Tryz.prog 304 = true := by kernel_rfl
@[go_sem] theorem fld_304_0 : fld Tryz.prog 304 0 = some (0, false, 1) := by kernel_rfl
@[go_sem] theorem fld_304_1 : fld Tryz.prog 304 1 = some (1, false, 1) := by kernel_rfl
@[go_sem] theorem fld_304_2 : fld Tryz.prog 304 2 = some (2, false, 1) := by kernel_rfl
@[go_sem] theorem fld_304_3 : fld Tryz.prog 304 3 = some (3, false, 1) := by kernel_rfl
@[go_sem] theorem plc_304 : plc Tryz.prog 304 = some ([(0, 1), (1, 1), (2, 1), (3, 1)], [.slice none 0 0, .int .i64 0, .bool false, .int .i64 0]) := by kernel_rfl
@[go_sem] theorem ty_308 : ty Tryz.prog 308 = some (false, 1) := by kernel_rfl
@[go_sem] theorem zer_308 : zer Tryz.prog 308 = some [.slice none 0 0] := by kernel_rfl
@[go_sem] theorem hu_308 : hasU Tryz.prog 308 = true := by kernel_rfl
@[go_sem] theorem by_308 : byS Tryz.prog 308 = false := by kernel_rfl
@[go_sem] theorem knd_308 : knd Tryz.prog 308 = some false := by kernel_rfl
@[go_sem] theorem elm_308 : elm Tryz.prog 308 = some (185, 3, 40) := by kernel_rfl
@[go_sem] theorem ty_313 : ty Tryz.prog 313 = some (false, 1) := by kernel_rfl
@[go_sem] theorem zer_313 : zer Tryz.prog 313 = some [.slice none 0 0] := by kernel_rfl
@[go_sem] theorem hu_313 : hasU Tryz.prog 313 = true := by kernel_rfl
@[go_sem] theorem by_313 : byS Tryz.prog 313 = false := by kernel_rfl
@[go_sem] theorem knd_313 : knd Tryz.prog 313 = some false := by kernel_rfl
@[go_sem] theorem elm_313 : elm Tryz.prog 313 = some (315, 3, 48) := by kernel_rfl
@[go_sem] theorem ty_315 : ty Tryz.prog 315 = some (true, 3) := by kernel_rfl
@[go_sem] theorem zer_315 : zer Tryz.prog 315 = some [.int .i64 0, .string ⟨([] : List UInt8).toArray⟩, .slice none 0 0] := by kernel_rfl
@[go_sem] theorem hu_315 : hasU Tryz.prog 315 = true := by kernel_rfl
@[go_sem] theorem fld_315_0 : fld Tryz.prog 315 0 = some (0, false, 1) := by kernel_rfl
@[go_sem] theorem fld_315_1 : fld Tryz.prog 315 1 = some (1, false, 1) := by kernel_rfl
@[go_sem] theorem fld_315_2 : fld Tryz.prog 315 2 = some (2, false, 1) := by kernel_rfl
@[go_sem] theorem plc_315 : plc Tryz.prog 315 = some ([(0, 1), (1, 1), (2, 1)], [.int .i64 0, .string ⟨([] : List UInt8).toArray⟩, .slice none 0 0]) := by kernel_rfl
@[go_sem] theorem ty_337 : ty Tryz.prog 337 = some (false, 1) := by kernel_rfl
@[go_sem] theorem zer_337 : zer Tryz.prog 337 = some [.pointer none] := by kernel_rfl
@[go_sem] theorem hu_337 : hasU Tryz.prog 337 = true := by kernel_rfl
@[go_sem] theorem ty_339 : ty Tryz.prog 339 = some (true, 3) := by kernel_rfl
@[go_sem] theorem zer_339 : zer Tryz.prog 339 = some [.string ⟨([] : List UInt8).toArray⟩, .int .i64 0, .bool false] := by kernel_rfl
@[go_sem] theorem hu_339 : hasU Tryz.prog 339 = true := by kernel_rfl
@[go_sem] theorem fld_339_0 : fld Tryz.prog 339 0 = some (0, false, 1) := by kernel_rfl
@[go_sem] theorem fld_339_1 : fld Tryz.prog 339 1 = some (1, false, 1) := by kernel_rfl
@[go_sem] theorem fld_339_2 : fld Tryz.prog 339 2 = some (2, false, 1) := by kernel_rfl
@[go_sem] theorem plc_339 : plc Tryz.prog 339 = some ([(0, 1), (1, 1), (2, 1)], [.string ⟨([] : List UInt8).toArray⟩, .int .i64 0, .bool false]) := by kernel_rfl
@[go_sem] theorem ty_344 : ty Tryz.prog 344 = some (false, 1) := by kernel_rfl
@[go_sem] theorem zer_344 : zer Tryz.prog 344 = some [.slice none 0 0] := by kernel_rfl
@[go_sem] theorem hu_344 : hasU Tryz.prog 344 = true := by kernel_rfl
@[go_sem] theorem by_344 : byS Tryz.prog 344 = false := by kernel_rfl
@[go_sem] theorem knd_344 : knd Tryz.prog 344 = some false := by kernel_rfl
@[go_sem] theorem elm_344 : elm Tryz.prog 344 = some (373, 2, 32) := by kernel_rfl
@[go_sem] theorem ty_346 : ty Tryz.prog 346 = some (true, 2) := by kernel_rfl
@[go_sem] theorem zer_346 : zer Tryz.prog 346 = some [.string ⟨([] : List UInt8).toArray⟩, .slice none 0 0] := by kernel_rfl
@[go_sem] theorem hu_346 : hasU Tryz.prog 346 = true := by kernel_rfl
@[go_sem] theorem fld_346_0 : fld Tryz.prog 346 0 = some (0, false, 1) := by kernel_rfl
@[go_sem] theorem fld_346_1 : fld Tryz.prog 346 1 = some (1, false, 1) := by kernel_rfl
@[go_sem] theorem plc_346 : plc Tryz.prog 346 = some ([(0, 1), (1, 1)], [.string ⟨([] : List UInt8).toArray⟩, .slice none 0 0]) := by kernel_rfl
@[go_sem] theorem ty_352 : ty Tryz.prog 352 = some (true, 3) := by kernel_rfl
@[go_sem] theorem zer_352 : zer Tryz.prog 352 = some [.int .i64 0, .string ⟨([] : List UInt8).toArray⟩, .int .i64 0] := by kernel_rfl
@[go_sem] theorem hu_352 : hasU Tryz.prog 352 = true := by kernel_rfl
@[go_sem] theorem fld_352_0 : fld Tryz.prog 352 0 = some (0, false, 1) := by kernel_rfl
@[go_sem] theorem fld_352_1 : fld Tryz.prog 352 1 = some (1, false, 1) := by kernel_rfl
@[go_sem] theorem fld_352_2 : fld Tryz.prog 352 2 = some (2, false, 1) := by kernel_rfl
@[go_sem] theorem plc_352 : plc Tryz.prog 352 = some ([(0, 1), (1, 1), (2, 1)], [.int .i64 0, .string ⟨([] : List UInt8).toArray⟩, .int .i64 0]) := by kernel_rfl
@[go_sem] theorem ty_368 : ty Tryz.prog 368 = some (false, 1) := by kernel_rfl
@[go_sem] theorem zer_368 : zer Tryz.prog 368 = some [.pointer none] := by kernel_rfl
@[go_sem] theorem hu_368 : hasU Tryz.prog 368 = true := by kernel_rfl
@[go_sem] theorem ty_370 : ty Tryz.prog 370 = some (true, 3) := by kernel_rfl
@[go_sem] theorem zer_370 : zer Tryz.prog 370 = some [.string ⟨([] : List UInt8).toArray⟩, .int .i64 0, .bool false] := by kernel_rfl
@[go_sem] theorem hu_370 : hasU Tryz.prog 370 = true := by kernel_rfl
@[go_sem] theorem fld_370_0 : fld Tryz.prog 370 0 = some (0, false, 1) := by kernel_rfl
@[go_sem] theorem fld_370_1 : fld Tryz.prog 370 1 = some (1, false, 1) := by kernel_rfl
@[go_sem] theorem fld_370_2 : fld Tryz.prog 370 2 = some (2, false, 1) := by kernel_rfl
@[go_sem] theorem plc_370 : plc Tryz.prog 370 = some ([(0, 1), (1, 1), (2, 1)], [.string ⟨([] : List UInt8).toArray⟩, .int .i64 0, .bool false]) := by kernel_rfl
@[go_sem] theorem ty_373 : ty Tryz.prog 373 = some (true, 2) := by kernel_rfl
@[go_sem] theorem zer_373 : zer Tryz.prog 373 = some [.string ⟨([] : List UInt8).toArray⟩, .string ⟨([] : List UInt8).toArray⟩] := by kernel_rfl
@[go_sem] theorem hu_373 : hasU Tryz.prog 373 = true := by kernel_rfl
@[go_sem] theorem fld_373_0 : fld Tryz.prog 373 0 = some (0, false, 1) := by kernel_rfl
@[go_sem] theorem fld_373_1 : fld Tryz.prog 373 1 = some (1, false, 1) := by kernel_rfl
@[go_sem] theorem plc_373 : plc Tryz.prog 373 = some ([(0, 1), (1, 1)], [.string ⟨([] : List UInt8).toArray⟩, .string ⟨([] : List UInt8).toArray⟩]) := by kernel_rfl
@[go_sem] theorem ty_383 : ty Tryz.prog 383 = some (false, 1) := by kernel_rfl
@[go_sem] theorem zer_383 : zer Tryz.prog 383 = some [.int .u64 0] := by kernel_rfl
@[go_sem] theorem ik_383 : ikd Tryz.prog 383 = some .u64 := by kernel_rfl
@[go_sem] theorem hu_383 : hasU Tryz.prog 383 = true := by kernel_rfl
@[go_sem] theorem ty_391 : ty Tryz.prog 391 = some (false, 1) := by kernel_rfl
@[go_sem] theorem zer_391 : zer Tryz.prog 391 = some [.int .u32 0] := by kernel_rfl
@[go_sem] theorem ik_391 : ikd Tryz.prog 391 = some .u32 := by kernel_rfl
@[go_sem] theorem hu_391 : hasU Tryz.prog 391 = true := by kernel_rfl
theorem en4 : enters Tryz.prog 4 = true := by kernel_rfl
theorem en5 : enters Tryz.prog 5 = true := by kernel_rfl
theorem en11 : enters Tryz.prog 11 = true := by kernel_rfl
theorem en12 : enters Tryz.prog 12 = true := by kernel_rfl
theorem en15 : enters Tryz.prog 15 = true := by kernel_rfl
theorem en16 : enters Tryz.prog 16 = true := by kernel_rfl
theorem en17 : enters Tryz.prog 17 = true := by kernel_rfl
theorem en18 : enters Tryz.prog 18 = true := by kernel_rfl
theorem en19 : enters Tryz.prog 19 = true := by kernel_rfl
theorem en20 : enters Tryz.prog 20 = true := by kernel_rfl
theorem en21 : enters Tryz.prog 21 = true := by kernel_rfl
theorem en22 : enters Tryz.prog 22 = true := by kernel_rfl
theorem en23 : enters Tryz.prog 23 = true := by kernel_rfl
theorem en24 : enters Tryz.prog 24 = true := by kernel_rfl
theorem en25 : enters Tryz.prog 25 = true := by kernel_rfl
theorem en26 : enters Tryz.prog 26 = true := by kernel_rfl
theorem en27 : enters Tryz.prog 27 = true := by kernel_rfl
theorem en28 : enters Tryz.prog 28 = true := by kernel_rfl
theorem en29 : enters Tryz.prog 29 = true := by kernel_rfl
theorem en30 : enters Tryz.prog 30 = true := by kernel_rfl
theorem en31 : enters Tryz.prog 31 = true := by kernel_rfl
theorem en32 : enters Tryz.prog 32 = true := by kernel_rfl
theorem en33 : enters Tryz.prog 33 = true := by kernel_rfl
theorem en54 : enters Tryz.prog 54 = true := by kernel_rfl
theorem en55 : enters Tryz.prog 55 = true := by kernel_rfl
theorem en56 : enters Tryz.prog 56 = true := by kernel_rfl
theorem en57 : enters Tryz.prog 57 = true := by kernel_rfl
theorem en58 : enters Tryz.prog 58 = true := by kernel_rfl
theorem en59 : enters Tryz.prog 59 = true := by kernel_rfl
theorem en61 : enters Tryz.prog 61 = true := by kernel_rfl
theorem en62 : enters Tryz.prog 62 = true := by kernel_rfl
theorem en63 : enters Tryz.prog 63 = true := by kernel_rfl
theorem en64 : enters Tryz.prog 64 = true := by kernel_rfl
theorem en65 : enters Tryz.prog 65 = true := by kernel_rfl
theorem en66 : enters Tryz.prog 66 = true := by kernel_rfl
theorem en67 : enters Tryz.prog 67 = true := by kernel_rfl
theorem en68 : enters Tryz.prog 68 = true := by kernel_rfl
theorem en69 : enters Tryz.prog 69 = true := by kernel_rfl
theorem en70 : enters Tryz.prog 70 = true := by kernel_rfl
theorem en71 : enters Tryz.prog 71 = true := by kernel_rfl
theorem en72 : enters Tryz.prog 72 = true := by kernel_rfl
theorem en73 : enters Tryz.prog 73 = true := by kernel_rfl
theorem en74 : enters Tryz.prog 74 = true := by kernel_rfl
theorem en79 : enters Tryz.prog 79 = true := by kernel_rfl
theorem en84 : enters Tryz.prog 84 = true := by kernel_rfl
theorem en88 : enters Tryz.prog 88 = true := by kernel_rfl
theorem en91 : enters Tryz.prog 91 = true := by kernel_rfl
theorem en106 : enters Tryz.prog 106 = true := by kernel_rfl
theorem en107 : enters Tryz.prog 107 = true := by kernel_rfl
theorem en108 : enters Tryz.prog 108 = true := by kernel_rfl
theorem en109 : enters Tryz.prog 109 = true := by kernel_rfl
theorem en110 : enters Tryz.prog 110 = true := by kernel_rfl
theorem en111 : enters Tryz.prog 111 = true := by kernel_rfl
theorem en112 : enters Tryz.prog 112 = true := by kernel_rfl
theorem en113 : enters Tryz.prog 113 = true := by kernel_rfl
theorem en114 : enters Tryz.prog 114 = true := by kernel_rfl
theorem en115 : enters Tryz.prog 115 = true := by kernel_rfl
theorem en116 : enters Tryz.prog 116 = true := by kernel_rfl
theorem en117 : enters Tryz.prog 117 = true := by kernel_rfl
theorem en119 : enters Tryz.prog 119 = true := by kernel_rfl
theorem en120 : enters Tryz.prog 120 = true := by kernel_rfl
theorem en121 : enters Tryz.prog 121 = true := by kernel_rfl
theorem en122 : enters Tryz.prog 122 = true := by kernel_rfl
theorem en123 : enters Tryz.prog 123 = true := by kernel_rfl
theorem en124 : enters Tryz.prog 124 = true := by kernel_rfl
theorem en125 : enters Tryz.prog 125 = true := by kernel_rfl
theorem en126 : enters Tryz.prog 126 = true := by kernel_rfl
theorem en150 : enters Tryz.prog 150 = true := by kernel_rfl
theorem en151 : enters Tryz.prog 151 = true := by kernel_rfl
theorem en153 : enters Tryz.prog 153 = true := by kernel_rfl
theorem en154 : enters Tryz.prog 154 = true := by kernel_rfl
theorem en155 : enters Tryz.prog 155 = true := by kernel_rfl
theorem en156 : enters Tryz.prog 156 = true := by kernel_rfl
theorem en157 : enters Tryz.prog 157 = true := by kernel_rfl
theorem en158 : enters Tryz.prog 158 = true := by kernel_rfl
theorem en159 : enters Tryz.prog 159 = true := by kernel_rfl
theorem en160 : enters Tryz.prog 160 = true := by kernel_rfl
theorem en161 : enters Tryz.prog 161 = true := by kernel_rfl
theorem en162 : enters Tryz.prog 162 = true := by kernel_rfl
theorem en163 : enters Tryz.prog 163 = true := by kernel_rfl
theorem en164 : enters Tryz.prog 164 = true := by kernel_rfl
theorem en165 : enters Tryz.prog 165 = true := by kernel_rfl
theorem en166 : enters Tryz.prog 166 = true := by kernel_rfl
theorem en167 : enters Tryz.prog 167 = true := by kernel_rfl
theorem en169 : enters Tryz.prog 169 = true := by kernel_rfl
theorem en170 : enters Tryz.prog 170 = true := by kernel_rfl
theorem en171 : enters Tryz.prog 171 = true := by kernel_rfl
theorem en172 : enters Tryz.prog 172 = true := by kernel_rfl
theorem en173 : enters Tryz.prog 173 = true := by kernel_rfl
theorem en174 : enters Tryz.prog 174 = true := by kernel_rfl
theorem en175 : enters Tryz.prog 175 = true := by kernel_rfl
theorem en191 : enters Tryz.prog 191 = true := by kernel_rfl
theorem en195 : enters Tryz.prog 195 = true := by kernel_rfl
theorem en196 : enters Tryz.prog 196 = true := by kernel_rfl
theorem en197 : enters Tryz.prog 197 = true := by kernel_rfl
theorem en198 : enters Tryz.prog 198 = true := by kernel_rfl
theorem en199 : enters Tryz.prog 199 = true := by kernel_rfl
theorem en200 : enters Tryz.prog 200 = true := by kernel_rfl
theorem en201 : enters Tryz.prog 201 = true := by kernel_rfl
theorem en202 : enters Tryz.prog 202 = true := by kernel_rfl
theorem en203 : enters Tryz.prog 203 = true := by kernel_rfl
theorem en204 : enters Tryz.prog 204 = true := by kernel_rfl
theorem en205 : enters Tryz.prog 205 = true := by kernel_rfl
theorem en206 : enters Tryz.prog 206 = true := by kernel_rfl
theorem en207 : enters Tryz.prog 207 = true := by kernel_rfl
theorem en208 : enters Tryz.prog 208 = true := by kernel_rfl
theorem en209 : enters Tryz.prog 209 = true := by kernel_rfl
theorem en210 : enters Tryz.prog 210 = true := by kernel_rfl
theorem en211 : enters Tryz.prog 211 = true := by kernel_rfl
theorem en212 : enters Tryz.prog 212 = true := by kernel_rfl
theorem en214 : enters Tryz.prog 214 = true := by kernel_rfl
theorem en215 : enters Tryz.prog 215 = true := by kernel_rfl
theorem en216 : enters Tryz.prog 216 = true := by kernel_rfl
theorem en217 : enters Tryz.prog 217 = true := by kernel_rfl
theorem en218 : enters Tryz.prog 218 = true := by kernel_rfl
theorem en231 : enters Tryz.prog 231 = true := by kernel_rfl
theorem en235 : enters Tryz.prog 235 = true := by kernel_rfl
theorem en240 : enters Tryz.prog 240 = true := by kernel_rfl
theorem en241 : enters Tryz.prog 241 = true := by kernel_rfl
theorem en242 : enters Tryz.prog 242 = true := by kernel_rfl
theorem en243 : enters Tryz.prog 243 = true := by kernel_rfl
theorem en244 : enters Tryz.prog 244 = true := by kernel_rfl
theorem en245 : enters Tryz.prog 245 = true := by kernel_rfl
theorem en246 : enters Tryz.prog 246 = true := by kernel_rfl
theorem en247 : enters Tryz.prog 247 = true := by kernel_rfl
theorem en248 : enters Tryz.prog 248 = true := by kernel_rfl
theorem en249 : enters Tryz.prog 249 = true := by kernel_rfl
theorem en250 : enters Tryz.prog 250 = true := by kernel_rfl
theorem en251 : enters Tryz.prog 251 = true := by kernel_rfl
theorem en252 : enters Tryz.prog 252 = true := by kernel_rfl
theorem en253 : enters Tryz.prog 253 = true := by kernel_rfl
theorem en254 : enters Tryz.prog 254 = true := by kernel_rfl
theorem en255 : enters Tryz.prog 255 = true := by kernel_rfl
theorem en256 : enters Tryz.prog 256 = true := by kernel_rfl
theorem en257 : enters Tryz.prog 257 = true := by kernel_rfl
theorem en263 : enters Tryz.prog 263 = true := by kernel_rfl
theorem en264 : enters Tryz.prog 264 = true := by kernel_rfl
theorem en269 : enters Tryz.prog 269 = true := by kernel_rfl
theorem en270 : enters Tryz.prog 270 = true := by kernel_rfl
theorem en271 : enters Tryz.prog 271 = true := by kernel_rfl
theorem en273 : enters Tryz.prog 273 = true := by kernel_rfl
theorem en274 : enters Tryz.prog 274 = true := by kernel_rfl
theorem en275 : enters Tryz.prog 275 = true := by kernel_rfl
theorem en276 : enters Tryz.prog 276 = true := by kernel_rfl
theorem en277 : enters Tryz.prog 277 = true := by kernel_rfl
theorem en278 : enters Tryz.prog 278 = true := by kernel_rfl
theorem en279 : enters Tryz.prog 279 = true := by kernel_rfl
theorem en280 : enters Tryz.prog 280 = true := by kernel_rfl
theorem en281 : enters Tryz.prog 281 = true := by kernel_rfl
theorem en282 : enters Tryz.prog 282 = true := by kernel_rfl
theorem en283 : enters Tryz.prog 283 = true := by kernel_rfl
theorem en284 : enters Tryz.prog 284 = true := by kernel_rfl
theorem en285 : enters Tryz.prog 285 = true := by kernel_rfl
theorem en286 : enters Tryz.prog 286 = true := by kernel_rfl
theorem en287 : enters Tryz.prog 287 = true := by kernel_rfl
theorem en288 : enters Tryz.prog 288 = true := by kernel_rfl
theorem en290 : enters Tryz.prog 290 = true := by kernel_rfl
theorem en292 : enters Tryz.prog 292 = true := by kernel_rfl
theorem en298 : enters Tryz.prog 298 = true := by kernel_rfl
theorem en299 : enters Tryz.prog 299 = true := by kernel_rfl
theorem en300 : enters Tryz.prog 300 = true := by kernel_rfl
theorem en304 : enters Tryz.prog 304 = true := by kernel_rfl
theorem en305 : enters Tryz.prog 305 = true := by kernel_rfl
theorem en306 : enters Tryz.prog 306 = true := by kernel_rfl
theorem en307 : enters Tryz.prog 307 = true := by kernel_rfl
theorem en308 : enters Tryz.prog 308 = true := by kernel_rfl
theorem en309 : enters Tryz.prog 309 = true := by kernel_rfl
theorem en310 : enters Tryz.prog 310 = true := by kernel_rfl
theorem en311 : enters Tryz.prog 311 = true := by kernel_rfl
theorem en312 : enters Tryz.prog 312 = true := by kernel_rfl
theorem en313 : enters Tryz.prog 313 = true := by kernel_rfl
theorem en314 : enters Tryz.prog 314 = true := by kernel_rfl
theorem en315 : enters Tryz.prog 315 = true := by kernel_rfl
theorem en316 : enters Tryz.prog 316 = true := by kernel_rfl
theorem en322 : enters Tryz.prog 322 = true := by kernel_rfl
theorem en323 : enters Tryz.prog 323 = true := by kernel_rfl
theorem en324 : enters Tryz.prog 324 = true := by kernel_rfl
theorem en325 : enters Tryz.prog 325 = true := by kernel_rfl
theorem en326 : enters Tryz.prog 326 = true := by kernel_rfl
theorem en328 : enters Tryz.prog 328 = true := by kernel_rfl
theorem en329 : enters Tryz.prog 329 = true := by kernel_rfl
theorem en330 : enters Tryz.prog 330 = true := by kernel_rfl
theorem en331 : enters Tryz.prog 331 = true := by kernel_rfl
theorem en334 : enters Tryz.prog 334 = true := by kernel_rfl
theorem en335 : enters Tryz.prog 335 = true := by kernel_rfl
theorem en336 : enters Tryz.prog 336 = true := by kernel_rfl
theorem en337 : enters Tryz.prog 337 = true := by kernel_rfl
theorem en338 : enters Tryz.prog 338 = true := by kernel_rfl
theorem en340 : enters Tryz.prog 340 = true := by kernel_rfl
theorem en341 : enters Tryz.prog 341 = true := by kernel_rfl
theorem en345 : enters Tryz.prog 345 = true := by kernel_rfl
theorem en346 : enters Tryz.prog 346 = true := by kernel_rfl
theorem en352 : enters Tryz.prog 352 = true := by kernel_rfl
theorem en353 : enters Tryz.prog 353 = true := by kernel_rfl
theorem en360 : enters Tryz.prog 360 = true := by kernel_rfl
theorem en361 : enters Tryz.prog 361 = true := by kernel_rfl
theorem en364 : enters Tryz.prog 364 = true := by kernel_rfl
end Go.Proofs.YtmdbmmmlccipdaaGreatDoor
