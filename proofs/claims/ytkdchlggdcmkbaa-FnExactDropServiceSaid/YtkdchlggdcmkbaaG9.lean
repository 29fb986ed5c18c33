/-
  Part of a proof: TysTry, Nm1, Tx1, Tp1, Tp2, Tp4, Tp5, Tp6, Tp7.
-/
import Derived.Test.YtkdchlggdcmkbaaProg
import Derived.KernelRfl
import Derived.Test.YtkdchlggdcmkbaaG1
import Derived.Test.YtkdchlggdcmkbaaG5
import Derived.Test.YtkdchlggdcmkbaaG7
import Derived.Test.YtkdchlggdcmkbaaG8
set_option linter.unusedSimpArgs false
set_option linter.unusedVariables false
namespace Go.Proofs.Ytkdchlggdcmkbaa
open Go.Ab
@[go_sem] theorem ty_3 : ty Try.prog 3 = some (false, 1) := by kernel_rfl
@[go_sem] theorem zer_3 : zer Try.prog 3 = some [.int .i64 0] := by kernel_rfl
@[go_sem] theorem ik_3 : ikd Try.prog 3 = some .i64 := by kernel_rfl
@[go_sem] theorem hu_3 : hasU Try.prog 3 = true := by kernel_rfl
@[go_sem] theorem ty_4 : ty Try.prog 4 = some (false, 1) := by kernel_rfl
@[go_sem] theorem zer_4 : zer Try.prog 4 = some [.bool false] := by kernel_rfl
@[go_sem] theorem hu_4 : hasU Try.prog 4 = true := by kernel_rfl
@[go_sem] theorem isB_4 : isB Try.prog 4 = true := by kernel_rfl
@[go_sem] theorem ty_5 : ty Try.prog 5 = some (false, 1) := by kernel_rfl
@[go_sem] theorem zer_5 : zer Try.prog 5 = some [.int .u8 0] := by kernel_rfl
@[go_sem] theorem ik_5 : ikd Try.prog 5 = some .u8 := by kernel_rfl
@[go_sem] theorem hu_5 : hasU Try.prog 5 = true := by kernel_rfl
@[go_sem] theorem ty_9 : ty Try.prog 9 = some (false, 1) := by kernel_rfl
@[go_sem] theorem zer_9 : zer Try.prog 9 = some [.string ⟨([] : List UInt8).toArray⟩] := by kernel_rfl
@[go_sem] theorem hu_9 : hasU Try.prog 9 = true := by kernel_rfl
@[go_sem] theorem knd_9 : knd Try.prog 9 = some true := by kernel_rfl
@[go_sem] theorem ty_22 : ty Try.prog 22 = some (false, 1) := by kernel_rfl
@[go_sem] theorem zer_22 : zer Try.prog 22 = some [.slice none 0 0] := by kernel_rfl
@[go_sem] theorem hu_22 : hasU Try.prog 22 = true := by kernel_rfl
@[go_sem] theorem by_22 : byS Try.prog 22 = false := by kernel_rfl
@[go_sem] theorem knd_22 : knd Try.prog 22 = some false := by kernel_rfl
@[go_sem] theorem elm_22 : elm Try.prog 22 = some (9, 1, 16) := by kernel_rfl
@[go_sem] theorem ty_28 : ty Try.prog 28 = some (false, 1) := by kernel_rfl
@[go_sem] theorem zer_28 : zer Try.prog 28 = some [.slice none 0 0] := by kernel_rfl
@[go_sem] theorem hu_28 : hasU Try.prog 28 = true := by kernel_rfl
@[go_sem] theorem by_28 : byS Try.prog 28 = false := by kernel_rfl
@[go_sem] theorem knd_28 : knd Try.prog 28 = some false := by kernel_rfl
@[go_sem] theorem elm_28 : elm Try.prog 28 = some (156, 3, 48) := by kernel_rfl
@[go_sem] theorem ty_30 : ty Try.prog 30 = some (true, 2) := by kernel_rfl
@[go_sem] theorem zer_30 : zer Try.prog 30 = some [.int .i64 0, .slice none 0 0] := by kernel_rfl
@[go_sem] theorem hu_30 : hasU Try.prog 30 = true := by kernel_rfl
@[go_sem] theorem fld_30_0 : fld Try.prog 30 0 = some (0, false, 1) := by kernel_rfl
@[go_sem] theorem fld_30_1 : fld Try.prog 30 1 = some (1, false, 1) := by kernel_rfl
@[go_sem] theorem plc_30 : plc Try.prog 30 = some ([(0, 1), (1, 1)], [.int .i64 0, .slice none 0 0]) := by kernel_rfl
@[go_sem] theorem ty_33 : ty Try.prog 33 = some (false, 1) := by kernel_rfl
@[go_sem] theorem zer_33 : zer Try.prog 33 = some [.slice none 0 0] := by kernel_rfl
@[go_sem] theorem hu_33 : hasU Try.prog 33 = true := by kernel_rfl
@[go_sem] theorem by_33 : byS Try.prog 33 = false := by kernel_rfl
@[go_sem] theorem knd_33 : knd Try.prog 33 = some false := by kernel_rfl
@[go_sem] theorem elm_33 : elm Try.prog 33 = some (158, 3, 48) := by kernel_rfl
@[go_sem] theorem ty_35 : ty Try.prog 35 = some (true, 2) := by kernel_rfl
@[go_sem] theorem zer_35 : zer Try.prog 35 = some [.int .i64 0, .slice none 0 0] := by kernel_rfl
@[go_sem] theorem hu_35 : hasU Try.prog 35 = true := by kernel_rfl
@[go_sem] theorem fld_35_0 : fld Try.prog 35 0 = some (0, false, 1) := by kernel_rfl
@[go_sem] theorem fld_35_1 : fld Try.prog 35 1 = some (1, false, 1) := by kernel_rfl
@[go_sem] theorem plc_35 : plc Try.prog 35 = some ([(0, 1), (1, 1)], [.int .i64 0, .slice none 0 0]) := by kernel_rfl
@[go_sem] theorem ty_39 : ty Try.prog 39 = some (false, 1) := by kernel_rfl
@[go_sem] theorem zer_39 : zer Try.prog 39 = some [.slice none 0 0] := by kernel_rfl
@[go_sem] theorem hu_39 : hasU Try.prog 39 = true := by kernel_rfl
@[go_sem] theorem by_39 : byS Try.prog 39 = false := by kernel_rfl
@[go_sem] theorem knd_39 : knd Try.prog 39 = some false := by kernel_rfl
@[go_sem] theorem elm_39 : elm Try.prog 39 = some (93, 2, 32) := by kernel_rfl
@[go_sem] theorem ty_43 : ty Try.prog 43 = some (false, 1) := by kernel_rfl
@[go_sem] theorem zer_43 : zer Try.prog 43 = some [.slice none 0 0] := by kernel_rfl
@[go_sem] theorem hu_43 : hasU Try.prog 43 = true := by kernel_rfl
@[go_sem] theorem by_43 : byS Try.prog 43 = false := by kernel_rfl
@[go_sem] theorem knd_43 : knd Try.prog 43 = some false := by kernel_rfl
@[go_sem] theorem elm_43 : elm Try.prog 43 = some (95, 2, 32) := by kernel_rfl
@[go_sem] theorem ty_47 : ty Try.prog 47 = some (false, 1) := by kernel_rfl
@[go_sem] theorem zer_47 : zer Try.prog 47 = some [.slice none 0 0] := by kernel_rfl
@[go_sem] theorem hu_47 : hasU Try.prog 47 = true := by kernel_rfl
@[go_sem] theorem by_47 : byS Try.prog 47 = false := by kernel_rfl
@[go_sem] theorem knd_47 : knd Try.prog 47 = some false := by kernel_rfl
@[go_sem] theorem elm_47 : elm Try.prog 47 = some (109, 15, 232) := by kernel_rfl
@[go_sem] theorem ty_50 : ty Try.prog 50 = some (false, 1) := by kernel_rfl
@[go_sem] theorem zer_50 : zer Try.prog 50 = some [.slice none 0 0] := by kernel_rfl
@[go_sem] theorem hu_50 : hasU Try.prog 50 = true := by kernel_rfl
@[go_sem] theorem by_50 : byS Try.prog 50 = false := by kernel_rfl
@[go_sem] theorem knd_50 : knd Try.prog 50 = some false := by kernel_rfl
@[go_sem] theorem elm_50 : elm Try.prog 50 = some (117, 15, 232) := by kernel_rfl
@[go_sem] theorem ty_54 : ty Try.prog 54 = some (false, 1) := by kernel_rfl
@[go_sem] theorem zer_54 : zer Try.prog 54 = some [.slice none 0 0] := by kernel_rfl
@[go_sem] theorem hu_54 : hasU Try.prog 54 = true := by kernel_rfl
@[go_sem] theorem by_54 : byS Try.prog 54 = false := by kernel_rfl
@[go_sem] theorem knd_54 : knd Try.prog 54 = some false := by kernel_rfl
@[go_sem] theorem elm_54 : elm Try.prog 54 = some (72, 3, 64) := by kernel_rfl
@[go_sem] theorem ty_55 : ty Try.prog 55 = some (false, 1) := by kernel_rfl
@[go_sem] theorem zer_55 : zer Try.prog 55 = some [.slice none 0 0] := by kernel_rfl
@[go_sem] theorem hu_55 : hasU Try.prog 55 = true := by kernel_rfl
@[go_sem] theorem by_55 : byS Try.prog 55 = false := by kernel_rfl
@[go_sem] theorem knd_55 : knd Try.prog 55 = some false := by kernel_rfl
@[go_sem] theorem elm_55 : elm Try.prog 55 = some (166, 4, 80) := by kernel_rfl
@[go_sem] theorem ty_57 : ty Try.prog 57 = some (true, 2) := by kernel_rfl
@[go_sem] theorem zer_57 : zer Try.prog 57 = some [.slice none 0 0, .slice none 0 0] := by kernel_rfl
@[go_sem] theorem hu_57 : hasU Try.prog 57 = true := by kernel_rfl
@[go_sem] theorem fld_57_0 : fld Try.prog 57 0 = some (0, false, 1) := by kernel_rfl
@[go_sem] theorem fld_57_1 : fld Try.prog 57 1 = some (1, false, 1) := by kernel_rfl
@[go_sem] theorem plc_57 : plc Try.prog 57 = some ([(0, 1), (1, 1)], [.slice none 0 0, .slice none 0 0]) := by kernel_rfl
@[go_sem] theorem ty_59 : ty Try.prog 59 = some (false, 1) := by kernel_rfl
@[go_sem] theorem zer_59 : zer Try.prog 59 = some [.slice none 0 0] := by kernel_rfl
@[go_sem] theorem hu_59 : hasU Try.prog 59 = true := by kernel_rfl
@[go_sem] theorem by_59 : byS Try.prog 59 = false := by kernel_rfl
@[go_sem] theorem knd_59 : knd Try.prog 59 = some false := by kernel_rfl
@[go_sem] theorem elm_59 : elm Try.prog 59 = some (78, 3, 64) := by kernel_rfl
@[go_sem] theorem ty_60 : ty Try.prog 60 = some (false, 1) := by kernel_rfl
@[go_sem] theorem zer_60 : zer Try.prog 60 = some [.slice none 0 0] := by kernel_rfl
@[go_sem] theorem hu_60 : hasU Try.prog 60 = true := by kernel_rfl
@[go_sem] theorem by_60 : byS Try.prog 60 = false := by kernel_rfl
@[go_sem] theorem knd_60 : knd Try.prog 60 = some false := by kernel_rfl
@[go_sem] theorem elm_60 : elm Try.prog 60 = some (126, 4, 80) := by kernel_rfl
@[go_sem] theorem ty_62 : ty Try.prog 62 = some (true, 2) := by kernel_rfl
@[go_sem] theorem zer_62 : zer Try.prog 62 = some [.slice none 0 0, .slice none 0 0] := by kernel_rfl
@[go_sem] theorem hu_62 : hasU Try.prog 62 = true := by kernel_rfl
@[go_sem] theorem fld_62_0 : fld Try.prog 62 0 = some (0, false, 1) := by kernel_rfl
@[go_sem] theorem fld_62_1 : fld Try.prog 62 1 = some (1, false, 1) := by kernel_rfl
@[go_sem] theorem plc_62 : plc Try.prog 62 = some ([(0, 1), (1, 1)], [.slice none 0 0, .slice none 0 0]) := by kernel_rfl
@[go_sem] theorem ty_69 : ty Try.prog 69 = some (false, 1) := by kernel_rfl
@[go_sem] theorem zer_69 : zer Try.prog 69 = some [.slice none 0 0] := by kernel_rfl
@[go_sem] theorem hu_69 : hasU Try.prog 69 = true := by kernel_rfl
@[go_sem] theorem by_69 : byS Try.prog 69 = false := by kernel_rfl
@[go_sem] theorem knd_69 : knd Try.prog 69 = some false := by kernel_rfl
@[go_sem] theorem elm_69 : elm Try.prog 69 = some (180, 6, 104) := by kernel_rfl
@[go_sem] theorem ty_70 : ty Try.prog 70 = some (false, 1) := by kernel_rfl
@[go_sem] theorem zer_70 : zer Try.prog 70 = some [.slice none 0 0] := by kernel_rfl
@[go_sem] theorem hu_70 : hasU Try.prog 70 = true := by kernel_rfl
@[go_sem] theorem by_70 : byS Try.prog 70 = false := by kernel_rfl
@[go_sem] theorem knd_70 : knd Try.prog 70 = some false := by kernel_rfl
@[go_sem] theorem elm_70 : elm Try.prog 70 = some (183, 3, 56) := by kernel_rfl
@[go_sem] theorem ty_72 : ty Try.prog 72 = some (true, 3) := by kernel_rfl
@[go_sem] theorem zer_72 : zer Try.prog 72 = some [.string ⟨([] : List UInt8).toArray⟩, .slice none 0 0, .slice none 0 0] := by kernel_rfl
@[go_sem] theorem hu_72 : hasU Try.prog 72 = true := by kernel_rfl
@[go_sem] theorem fld_72_0 : fld Try.prog 72 0 = some (0, false, 1) := by kernel_rfl
@[go_sem] theorem fld_72_1 : fld Try.prog 72 1 = some (1, false, 1) := by kernel_rfl
@[go_sem] theorem fld_72_2 : fld Try.prog 72 2 = some (2, false, 1) := by kernel_rfl
@[go_sem] theorem plc_72 : plc Try.prog 72 = some ([(0, 1), (1, 1), (2, 1)], [.string ⟨([] : List UInt8).toArray⟩, .slice none 0 0, .slice none 0 0]) := by kernel_rfl
@[go_sem] theorem ty_75 : ty Try.prog 75 = some (false, 1) := by kernel_rfl
@[go_sem] theorem zer_75 : zer Try.prog 75 = some [.slice none 0 0] := by kernel_rfl
@[go_sem] theorem hu_75 : hasU Try.prog 75 = true := by kernel_rfl
@[go_sem] theorem by_75 : byS Try.prog 75 = false := by kernel_rfl
@[go_sem] theorem knd_75 : knd Try.prog 75 = some false := by kernel_rfl
@[go_sem] theorem elm_75 : elm Try.prog 75 = some (142, 6, 104) := by kernel_rfl
@[go_sem] theorem ty_76 : ty Try.prog 76 = some (false, 1) := by kernel_rfl
@[go_sem] theorem zer_76 : zer Try.prog 76 = some [.slice none 0 0] := by kernel_rfl
@[go_sem] theorem hu_76 : hasU Try.prog 76 = true := by kernel_rfl
@[go_sem] theorem by_76 : byS Try.prog 76 = false := by kernel_rfl
@[go_sem] theorem knd_76 : knd Try.prog 76 = some false := by kernel_rfl
@[go_sem] theorem elm_76 : elm Try.prog 76 = some (189, 3, 56) := by kernel_rfl
@[go_sem] theorem ty_78 : ty Try.prog 78 = some (true, 3) := by kernel_rfl
@[go_sem] theorem zer_78 : zer Try.prog 78 = some [.string ⟨([] : List UInt8).toArray⟩, .slice none 0 0, .slice none 0 0] := by kernel_rfl
@[go_sem] theorem hu_78 : hasU Try.prog 78 = true := by kernel_rfl
@[go_sem] theorem fld_78_0 : fld Try.prog 78 0 = some (0, false, 1) := by kernel_rfl
@[go_sem] theorem fld_78_1 : fld Try.prog 78 1 = some (1, false, 1) := by kernel_rfl
@[go_sem] theorem fld_78_2 : fld Try.prog 78 2 = some (2, false, 1) := by kernel_rfl
@[go_sem] theorem plc_78 : plc Try.prog 78 = some ([(0, 1), (1, 1), (2, 1)], [.string ⟨([] : List UInt8).toArray⟩, .slice none 0 0, .slice none 0 0]) := by kernel_rfl
@[go_sem] theorem ty_93 : ty Try.prog 93 = some (true, 2) := by kernel_rfl
@[go_sem] theorem zer_93 : zer Try.prog 93 = some [.string ⟨([] : List UInt8).toArray⟩, .string ⟨([] : List UInt8).toArray⟩] := by kernel_rfl
@[go_sem] theorem hu_93 : hasU Try.prog 93 = true := by kernel_rfl
@[go_sem] theorem fld_93_0 : fld Try.prog 93 0 = some (0, false, 1) := by kernel_rfl
@[go_sem] theorem fld_93_1 : fld Try.prog 93 1 = some (1, false, 1) := by kernel_rfl
@[go_sem] theorem plc_93 : plc Try.prog 93 = some ([(0, 1), (1, 1)], [.string ⟨([] : List UInt8).toArray⟩, .string ⟨([] : List UInt8).toArray⟩]) := by kernel_rfl
@[go_sem] theorem ty_95 : ty Try.prog 95 = some (true, 2) := by kernel_rfl
@[go_sem] theorem zer_95 : zer Try.prog 95 = some [.string ⟨([] : List UInt8).toArray⟩, .string ⟨([] : List UInt8).toArray⟩] := by kernel_rfl
@[go_sem] theorem hu_95 : hasU Try.prog 95 = true := by kernel_rfl
@[go_sem] theorem fld_95_0 : fld Try.prog 95 0 = some (0, false, 1) := by kernel_rfl
@[go_sem] theorem fld_95_1 : fld Try.prog 95 1 = some (1, false, 1) := by kernel_rfl
@[go_sem] theorem plc_95 : plc Try.prog 95 = some ([(0, 1), (1, 1)], [.string ⟨([] : List UInt8).toArray⟩, .string ⟨([] : List UInt8).toArray⟩]) := by kernel_rfl
@[go_sem] theorem ty_97 : ty Try.prog 97 = some (false, 1) := by kernel_rfl
@[go_sem] theorem zer_97 : zer Try.prog 97 = some [.slice none 0 0] := by kernel_rfl
@[go_sem] theorem hu_97 : hasU Try.prog 97 = true := by kernel_rfl
@[go_sem] theorem by_97 : byS Try.prog 97 = true := by kernel_rfl
@[go_sem] theorem knd_97 : knd Try.prog 97 = some false := by kernel_rfl
@[go_sem] theorem elm_97 : elm Try.prog 97 = some (5, 1, 1) := by kernel_rfl
@[go_sem] theorem ty_102 : ty Try.prog 102 = some (false, 1) := by kernel_rfl
@[go_sem] theorem zer_102 : zer Try.prog 102 = some [.slice none 0 0] := by kernel_rfl
@[go_sem] theorem hu_102 : hasU Try.prog 102 = true := by kernel_rfl
@[go_sem] theorem by_102 : byS Try.prog 102 = false := by kernel_rfl
@[go_sem] theorem knd_102 : knd Try.prog 102 = some false := by kernel_rfl
@[go_sem] theorem elm_102 : elm Try.prog 102 = some (220, 19, 272) := by kernel_rfl
@[go_sem] theorem ty_103 : ty Try.prog 103 = some (false, 1) := by kernel_rfl
@[go_sem] theorem zer_103 : zer Try.prog 103 = some [.slice none 0 0] := by kernel_rfl
@[go_sem] theorem hu_103 : hasU Try.prog 103 = true := by kernel_rfl
@[go_sem] theorem by_103 : byS Try.prog 103 = false := by kernel_rfl
@[go_sem] theorem knd_103 : knd Try.prog 103 = some false := by kernel_rfl
@[go_sem] theorem elm_103 : elm Try.prog 103 = some (223, 3, 40) := by kernel_rfl
@[go_sem] theorem ty_105 : ty Try.prog 105 = some (true, 5) := by kernel_rfl
@[go_sem] theorem zer_105 : zer Try.prog 105 = some [.bool false, .int .i64 0, .int .i64 0, .string ⟨([] : List UInt8).toArray⟩, .slice none 0 0] := by kernel_rfl
@[go_sem] theorem hu_105 : hasU Try.prog 105 = true := by kernel_rfl
@[go_sem] theorem fld_105_0 : fld Try.prog 105 0 = some (0, false, 1) := by kernel_rfl
@[go_sem] theorem fld_105_1 : fld Try.prog 105 1 = some (1, false, 1) := by kernel_rfl
@[go_sem] theorem fld_105_2 : fld Try.prog 105 2 = some (2, false, 1) := by kernel_rfl
@[go_sem] theorem fld_105_3 : fld Try.prog 105 3 = some (3, false, 1) := by kernel_rfl
@[go_sem] theorem fld_105_4 : fld Try.prog 105 4 = some (4, false, 1) := by kernel_rfl
@[go_sem] theorem plc_105 : plc Try.prog 105 = some ([(0, 1), (1, 1), (2, 1), (3, 1), (4, 1)], [.bool false, .int .i64 0, .int .i64 0, .string ⟨([] : List UInt8).toArray⟩, .slice none 0 0]) := by kernel_rfl
@[go_sem] theorem ty_107 : ty Try.prog 107 = some (true, 10) := by kernel_rfl
@[go_sem] theorem zer_107 : zer Try.prog 107 = some [.slice none 0 0, .slice none 0 0, .slice none 0 0, .int .i64 0, .slice none 0 0, .bool false, .int .i64 0, .int .i64 0, .string ⟨([] : List UInt8).toArray⟩, .slice none 0 0] := by kernel_rfl
@[go_sem] theorem hu_107 : hasU Try.prog 107 = true := by kernel_rfl
@[go_sem] theorem fld_107_0 : fld Try.prog 107 0 = some (0, false, 1) := by kernel_rfl
@[go_sem] theorem fld_107_1 : fld Try.prog 107 1 = some (1, false, 1) := by kernel_rfl
@[go_sem] theorem fld_107_2 : fld Try.prog 107 2 = some (2, false, 1) := by kernel_rfl
@[go_sem] theorem fld_107_3 : fld Try.prog 107 3 = some (3, false, 1) := by kernel_rfl
@[go_sem] theorem fld_107_4 : fld Try.prog 107 4 = some (4, false, 1) := by kernel_rfl
@[go_sem] theorem fld_107_5 : fld Try.prog 107 5 = some (5, true, 5) := by kernel_rfl
@[go_sem] theorem plc_107 : plc Try.prog 107 = some ([(0, 1), (1, 1), (2, 1), (3, 1), (4, 1), (5, 5)], [.slice none 0 0, .slice none 0 0, .slice none 0 0, .int .i64 0, .slice none 0 0, .bool false, .int .i64 0, .int .i64 0, .string ⟨([] : List UInt8).toArray⟩, .slice none 0 0]) := by kernel_rfl
@[go_sem] theorem ty_109 : ty Try.prog 109 = some (true, 15) := by kernel_rfl
@[go_sem] theorem zer_109 : zer Try.prog 109 = some [.string ⟨([] : List UInt8).toArray⟩, .slice none 0 0, .slice none 0 0, .slice none 0 0, .int .i64 0, .slice none 0 0, .bool false, .int .i64 0, .int .i64 0, .string ⟨([] : List UInt8).toArray⟩, .slice none 0 0, .slice none 0 0, .bool false, .int .i64 0, .bool false] := by kernel_rfl
@[go_sem] theorem hu_109 : hasU Try.prog 109 = true := by kernel_rfl
@[go_sem] theorem fld_109_0 : fld Try.prog 109 0 = some (0, false, 1) := by kernel_rfl
@[go_sem] theorem fld_109_1 : fld Try.prog 109 1 = some (1, true, 10) := by kernel_rfl
@[go_sem] theorem fld_109_2 : fld Try.prog 109 2 = some (11, false, 1) := by kernel_rfl
@[go_sem] theorem fld_109_3 : fld Try.prog 109 3 = some (12, false, 1) := by kernel_rfl
@[go_sem] theorem fld_109_4 : fld Try.prog 109 4 = some (13, false, 1) := by kernel_rfl
@[go_sem] theorem fld_109_5 : fld Try.prog 109 5 = some (14, false, 1) := by kernel_rfl
@[go_sem] theorem plc_109 : plc Try.prog 109 = some ([(0, 1), (1, 10), (11, 1), (12, 1), (13, 1), (14, 1)], [.string ⟨([] : List UInt8).toArray⟩, .slice none 0 0, .slice none 0 0, .slice none 0 0, .int .i64 0, .slice none 0 0, .bool false, .int .i64 0, .int .i64 0, .string ⟨([] : List UInt8).toArray⟩, .slice none 0 0, .slice none 0 0, .bool false, .int .i64 0, .bool false]) := by kernel_rfl
@[go_sem] theorem ty_110 : ty Try.prog 110 = some (false, 1) := by kernel_rfl
@[go_sem] theorem zer_110 : zer Try.prog 110 = some [.slice none 0 0] := by kernel_rfl
@[go_sem] theorem hu_110 : hasU Try.prog 110 = true := by kernel_rfl
@[go_sem] theorem by_110 : byS Try.prog 110 = false := by kernel_rfl
@[go_sem] theorem knd_110 : knd Try.prog 110 = some false := by kernel_rfl
@[go_sem] theorem elm_110 : elm Try.prog 110 = some (226, 19, 272) := by kernel_rfl
@[go_sem] theorem ty_111 : ty Try.prog 111 = some (false, 1) := by kernel_rfl
@[go_sem] theorem zer_111 : zer Try.prog 111 = some [.slice none 0 0] := by kernel_rfl
@[go_sem] theorem hu_111 : hasU Try.prog 111 = true := by kernel_rfl
@[go_sem] theorem by_111 : byS Try.prog 111 = false := by kernel_rfl
@[go_sem] theorem knd_111 : knd Try.prog 111 = some false := by kernel_rfl
@[go_sem] theorem elm_111 : elm Try.prog 111 = some (229, 3, 40) := by kernel_rfl
@[go_sem] theorem ty_113 : ty Try.prog 113 = some (true, 5) := by kernel_rfl
@[go_sem] theorem zer_113 : zer Try.prog 113 = some [.bool false, .int .i64 0, .int .i64 0, .string ⟨([] : List UInt8).toArray⟩, .slice none 0 0] := by kernel_rfl
@[go_sem] theorem hu_113 : hasU Try.prog 113 = true := by kernel_rfl
@[go_sem] theorem fld_113_0 : fld Try.prog 113 0 = some (0, false, 1) := by kernel_rfl
@[go_sem] theorem fld_113_1 : fld Try.prog 113 1 = some (1, false, 1) := by kernel_rfl
@[go_sem] theorem fld_113_2 : fld Try.prog 113 2 = some (2, false, 1) := by kernel_rfl
@[go_sem] theorem fld_113_3 : fld Try.prog 113 3 = some (3, false, 1) := by kernel_rfl
@[go_sem] theorem fld_113_4 : fld Try.prog 113 4 = some (4, false, 1) := by kernel_rfl
@[go_sem] theorem plc_113 : plc Try.prog 113 = some ([(0, 1), (1, 1), (2, 1), (3, 1), (4, 1)], [.bool false, .int .i64 0, .int .i64 0, .string ⟨([] : List UInt8).toArray⟩, .slice none 0 0]) := by kernel_rfl
@[go_sem] theorem ty_115 : ty Try.prog 115 = some (true, 10) := by kernel_rfl
@[go_sem] theorem zer_115 : zer Try.prog 115 = some [.slice none 0 0, .slice none 0 0, .slice none 0 0, .int .i64 0, .slice none 0 0, .bool false, .int .i64 0, .int .i64 0, .string ⟨([] : List UInt8).toArray⟩, .slice none 0 0] := by kernel_rfl
@[go_sem] theorem hu_115 : hasU Try.prog 115 = true := by kernel_rfl
@[go_sem] theorem fld_115_0 : fld Try.prog 115 0 = some (0, false, 1) := by kernel_rfl
@[go_sem] theorem fld_115_1 : fld Try.prog 115 1 = some (1, false, 1) := by kernel_rfl
@[go_sem] theorem fld_115_2 : fld Try.prog 115 2 = some (2, false, 1) := by kernel_rfl
@[go_sem] theorem fld_115_3 : fld Try.prog 115 3 = some (3, false, 1) := by kernel_rfl
@[go_sem] theorem fld_115_4 : fld Try.prog 115 4 = some (4, false, 1) := by kernel_rfl
@[go_sem] theorem fld_115_5 : fld Try.prog 115 5 = some (5, true, 5) := by kernel_rfl
@[go_sem] theorem plc_115 : plc Try.prog 115 = some ([(0, 1), (1, 1), (2, 1), (3, 1), (4, 1), (5, 5)], [.slice none 0 0, .slice none 0 0, .slice none 0 0, .int .i64 0, .slice none 0 0, .bool false, .int .i64 0, .int .i64 0, .string ⟨([] : List UInt8).toArray⟩, .slice none 0 0]) := by kernel_rfl
@[go_sem] theorem ty_117 : ty Try.prog 117 = some (true, 15) := by kernel_rfl
@[go_sem] theorem zer_117 : zer Try.prog 117 = some [.string ⟨([] : List UInt8).toArray⟩, .slice none 0 0, .slice none 0 0, .slice none 0 0, .int .i64 0, .slice none 0 0, .bool false, .int .i64 0, .int .i64 0, .string ⟨([] : List UInt8).toArray⟩, .slice none 0 0, .slice none 0 0, .bool false, .int .i64 0, .bool false] := by kernel_rfl
@[go_sem] theorem hu_117 : hasU Try.prog 117 = true := by kernel_rfl
@[go_sem] theorem fld_117_0 : fld Try.prog 117 0 = some (0, false, 1) := by kernel_rfl
@[go_sem] theorem fld_117_1 : fld Try.prog 117 1 = some (1, true, 10) := by kernel_rfl
@[go_sem] theorem fld_117_2 : fld Try.prog 117 2 = some (11, false, 1) := by kernel_rfl
@[go_sem] theorem fld_117_3 : fld Try.prog 117 3 = some (12, false, 1) := by kernel_rfl
@[go_sem] theorem fld_117_4 : fld Try.prog 117 4 = some (13, false, 1) := by kernel_rfl
@[go_sem] theorem fld_117_5 : fld Try.prog 117 5 = some (14, false, 1) := by kernel_rfl
@[go_sem] theorem plc_117 : plc Try.prog 117 = some ([(0, 1), (1, 10), (11, 1), (12, 1), (13, 1), (14, 1)], [.string ⟨([] : List UInt8).toArray⟩, .slice none 0 0, .slice none 0 0, .slice none 0 0, .int .i64 0, .slice none 0 0, .bool false, .int .i64 0, .int .i64 0, .string ⟨([] : List UInt8).toArray⟩, .slice none 0 0, .slice none 0 0, .bool false, .int .i64 0, .bool false]) := by kernel_rfl
@[go_sem] theorem ty_126 : ty Try.prog 126 = some (true, 4) := by kernel_rfl
@[go_sem] theorem zer_126 : zer Try.prog 126 = some [.string ⟨([] : List UInt8).toArray⟩, .string ⟨([] : List UInt8).toArray⟩, .slice none 0 0, .slice none 0 0] := by kernel_rfl
@[go_sem] theorem hu_126 : hasU Try.prog 126 = true := by kernel_rfl
@[go_sem] theorem fld_126_0 : fld Try.prog 126 0 = some (0, false, 1) := by kernel_rfl
@[go_sem] theorem fld_126_1 : fld Try.prog 126 1 = some (1, false, 1) := by kernel_rfl
@[go_sem] theorem fld_126_2 : fld Try.prog 126 2 = some (2, false, 1) := by kernel_rfl
@[go_sem] theorem fld_126_3 : fld Try.prog 126 3 = some (3, false, 1) := by kernel_rfl
@[go_sem] theorem plc_126 : plc Try.prog 126 = some ([(0, 1), (1, 1), (2, 1), (3, 1)], [.string ⟨([] : List UInt8).toArray⟩, .string ⟨([] : List UInt8).toArray⟩, .slice none 0 0, .slice none 0 0]) := by kernel_rfl
@[go_sem] theorem ty_138 : ty Try.prog 138 = some (false, 1) := by kernel_rfl
@[go_sem] theorem zer_138 : zer Try.prog 138 = some [.slice none 0 0] := by kernel_rfl
@[go_sem] theorem hu_138 : hasU Try.prog 138 = true := by kernel_rfl
@[go_sem] theorem by_138 : byS Try.prog 138 = false := by kernel_rfl
@[go_sem] theorem knd_138 : knd Try.prog 138 = some false := by kernel_rfl
@[go_sem] theorem elm_138 : elm Try.prog 138 = some (186, 2, 16) := by kernel_rfl
@[go_sem] theorem ty_140 : ty Try.prog 140 = some (true, 5) := by kernel_rfl
@[go_sem] theorem zer_140 : zer Try.prog 140 = some [.int .i64 0, .slice none 0 0, .slice none 0 0, .string ⟨([] : List UInt8).toArray⟩, .string ⟨([] : List UInt8).toArray⟩] := by kernel_rfl
@[go_sem] theorem hu_140 : hasU Try.prog 140 = true := by kernel_rfl
@[go_sem] theorem fld_140_0 : fld Try.prog 140 0 = some (0, false, 1) := by kernel_rfl
@[go_sem] theorem fld_140_1 : fld Try.prog 140 1 = some (1, false, 1) := by kernel_rfl
@[go_sem] theorem fld_140_2 : fld Try.prog 140 2 = some (2, false, 1) := by kernel_rfl
@[go_sem] theorem fld_140_3 : fld Try.prog 140 3 = some (3, false, 1) := by kernel_rfl
@[go_sem] theorem fld_140_4 : fld Try.prog 140 4 = some (4, false, 1) := by kernel_rfl
@[go_sem] theorem plc_140 : plc Try.prog 140 = some ([(0, 1), (1, 1), (2, 1), (3, 1), (4, 1)], [.int .i64 0, .slice none 0 0, .slice none 0 0, .string ⟨([] : List UInt8).toArray⟩, .string ⟨([] : List UInt8).toArray⟩]) := by kernel_rfl
@[go_sem] theorem ty_142 : ty Try.prog 142 = some (true, 6) := by kernel_rfl
@[go_sem] theorem zer_142 : zer Try.prog 142 = some [.string ⟨([] : List UInt8).toArray⟩, .int .i64 0, .slice none 0 0, .slice none 0 0, .string ⟨([] : List UInt8).toArray⟩, .string ⟨([] : List UInt8).toArray⟩] := by kernel_rfl
@[go_sem] theorem hu_142 : hasU Try.prog 142 = true := by kernel_rfl
@[go_sem] theorem fld_142_0 : fld Try.prog 142 0 = some (0, false, 1) := by kernel_rfl
@[go_sem] theorem fld_142_1 : fld Try.prog 142 1 = some (1, true, 5) := by kernel_rfl
@[go_sem] theorem plc_142 : plc Try.prog 142 = some ([(0, 1), (1, 5)], [.string ⟨([] : List UInt8).toArray⟩, .int .i64 0, .slice none 0 0, .slice none 0 0, .string ⟨([] : List UInt8).toArray⟩, .string ⟨([] : List UInt8).toArray⟩]) := by kernel_rfl
@[go_sem] theorem ty_156 : ty Try.prog 156 = some (true, 3) := by kernel_rfl
@[go_sem] theorem zer_156 : zer Try.prog 156 = some [.string ⟨([] : List UInt8).toArray⟩, .slice none 0 0, .int .i64 0] := by kernel_rfl
@[go_sem] theorem hu_156 : hasU Try.prog 156 = true := by kernel_rfl
@[go_sem] theorem fld_156_0 : fld Try.prog 156 0 = some (0, false, 1) := by kernel_rfl
@[go_sem] theorem fld_156_1 : fld Try.prog 156 1 = some (1, false, 1) := by kernel_rfl
@[go_sem] theorem fld_156_2 : fld Try.prog 156 2 = some (2, false, 1) := by kernel_rfl
@[go_sem] theorem plc_156 : plc Try.prog 156 = some ([(0, 1), (1, 1), (2, 1)], [.string ⟨([] : List UInt8).toArray⟩, .slice none 0 0, .int .i64 0]) := by kernel_rfl
@[go_sem] theorem ty_158 : ty Try.prog 158 = some (true, 3) := by kernel_rfl
@[go_sem] theorem zer_158 : zer Try.prog 158 = some [.string ⟨([] : List UInt8).toArray⟩, .slice none 0 0, .int .i64 0] := by kernel_rfl
@[go_sem] theorem hu_158 : hasU Try.prog 158 = true := by kernel_rfl
@[go_sem] theorem fld_158_0 : fld Try.prog 158 0 = some (0, false, 1) := by kernel_rfl
@[go_sem] theorem fld_158_1 : fld Try.prog 158 1 = some (1, false, 1) := by kernel_rfl
@[go_sem] theorem fld_158_2 : fld Try.prog 158 2 = some (2, false, 1) := by kernel_rfl
@[go_sem] theorem plc_158 : plc Try.prog 158 = some ([(0, 1), (1, 1), (2, 1)], [.string ⟨([] : List UInt8).toArray⟩, .slice none 0 0, .int .i64 0]) := by kernel_rfl
@[go_sem] theorem ty_166 : ty Try.prog 166 = some (true, 4) := by kernel_rfl
@[go_sem] theorem zer_166 : zer Try.prog 166 = some [.string ⟨([] : List UInt8).toArray⟩, .string ⟨([] : List UInt8).toArray⟩, .slice none 0 0, .slice none 0 0] := by kernel_rfl
@[go_sem] theorem hu_166 : hasU Try.prog 166 = true := by kernel_rfl
@[go_sem] theorem fld_166_0 : fld Try.prog 166 0 = some (0, false, 1) := by kernel_rfl
@[go_sem] theorem fld_166_1 : fld Try.prog 166 1 = some (1, false, 1) := by kernel_rfl
@[go_sem] theorem fld_166_2 : fld Try.prog 166 2 = some (2, false, 1) := by kernel_rfl
@[go_sem] theorem fld_166_3 : fld Try.prog 166 3 = some (3, false, 1) := by kernel_rfl
@[go_sem] theorem plc_166 : plc Try.prog 166 = some ([(0, 1), (1, 1), (2, 1), (3, 1)], [.string ⟨([] : List UInt8).toArray⟩, .string ⟨([] : List UInt8).toArray⟩, .slice none 0 0, .slice none 0 0]) := by kernel_rfl
@[go_sem] theorem ty_176 : ty Try.prog 176 = some (false, 1) := by kernel_rfl
@[go_sem] theorem zer_176 : zer Try.prog 176 = some [.slice none 0 0] := by kernel_rfl
@[go_sem] theorem hu_176 : hasU Try.prog 176 = true := by kernel_rfl
@[go_sem] theorem by_176 : byS Try.prog 176 = false := by kernel_rfl
@[go_sem] theorem knd_176 : knd Try.prog 176 = some false := by kernel_rfl
@[go_sem] theorem elm_176 : elm Try.prog 176 = some (249, 2, 16) := by kernel_rfl
@[go_sem] theorem ty_178 : ty Try.prog 178 = some (true, 5) := by kernel_rfl
@[go_sem] theorem zer_178 : zer Try.prog 178 = some [.int .i64 0, .slice none 0 0, .slice none 0 0, .string ⟨([] : List UInt8).toArray⟩, .string ⟨([] : List UInt8).toArray⟩] := by kernel_rfl
@[go_sem] theorem hu_178 : hasU Try.prog 178 = true := by kernel_rfl
@[go_sem] theorem fld_178_0 : fld Try.prog 178 0 = some (0, false, 1) := by kernel_rfl
@[go_sem] theorem fld_178_1 : fld Try.prog 178 1 = some (1, false, 1) := by kernel_rfl
@[go_sem] theorem fld_178_2 : fld Try.prog 178 2 = some (2, false, 1) := by kernel_rfl
@[go_sem] theorem fld_178_3 : fld Try.prog 178 3 = some (3, false, 1) := by kernel_rfl
@[go_sem] theorem fld_178_4 : fld Try.prog 178 4 = some (4, false, 1) := by kernel_rfl
@[go_sem] theorem plc_178 : plc Try.prog 178 = some ([(0, 1), (1, 1), (2, 1), (3, 1), (4, 1)], [.int .i64 0, .slice none 0 0, .slice none 0 0, .string ⟨([] : List UInt8).toArray⟩, .string ⟨([] : List UInt8).toArray⟩]) := by kernel_rfl
@[go_sem] theorem ty_180 : ty Try.prog 180 = some (true, 6) := by kernel_rfl
@[go_sem] theorem zer_180 : zer Try.prog 180 = some [.string ⟨([] : List UInt8).toArray⟩, .int .i64 0, .slice none 0 0, .slice none 0 0, .string ⟨([] : List UInt8).toArray⟩, .string ⟨([] : List UInt8).toArray⟩] := by kernel_rfl
@[go_sem] theorem hu_180 : hasU Try.prog 180 = true := by kernel_rfl
@[go_sem] theorem fld_180_0 : fld Try.prog 180 0 = some (0, false, 1) := by kernel_rfl
@[go_sem] theorem fld_180_1 : fld Try.prog 180 1 = some (1, true, 5) := by kernel_rfl
@[go_sem] theorem plc_180 : plc Try.prog 180 = some ([(0, 1), (1, 5)], [.string ⟨([] : List UInt8).toArray⟩, .int .i64 0, .slice none 0 0, .slice none 0 0, .string ⟨([] : List UInt8).toArray⟩, .string ⟨([] : List UInt8).toArray⟩]) := by kernel_rfl
@[go_sem] theorem ty_183 : ty Try.prog 183 = some (true, 3) := by kernel_rfl
@[go_sem] theorem zer_183 : zer Try.prog 183 = some [.string ⟨([] : List UInt8).toArray⟩, .string ⟨([] : List UInt8).toArray⟩, .slice none 0 0] := by kernel_rfl
@[go_sem] theorem hu_183 : hasU Try.prog 183 = true := by kernel_rfl
@[go_sem] theorem fld_183_0 : fld Try.prog 183 0 = some (0, false, 1) := by kernel_rfl
@[go_sem] theorem fld_183_1 : fld Try.prog 183 1 = some (1, false, 1) := by kernel_rfl
@[go_sem] theorem fld_183_2 : fld Try.prog 183 2 = some (2, false, 1) := by kernel_rfl
@[go_sem] theorem plc_183 : plc Try.prog 183 = some ([(0, 1), (1, 1), (2, 1)], [.string ⟨([] : List UInt8).toArray⟩, .string ⟨([] : List UInt8).toArray⟩, .slice none 0 0]) := by kernel_rfl
@[go_sem] theorem ty_186 : ty Try.prog 186 = some (true, 2) := by kernel_rfl
@[go_sem] theorem zer_186 : zer Try.prog 186 = some [.int .i64 0, .int .i64 0] := by kernel_rfl
@[go_sem] theorem hu_186 : hasU Try.prog 186 = true := by kernel_rfl
@[go_sem] theorem fld_186_0 : fld Try.prog 186 0 = some (0, false, 1) := by kernel_rfl
@[go_sem] theorem fld_186_1 : fld Try.prog 186 1 = some (1, false, 1) := by kernel_rfl
@[go_sem] theorem plc_186 : plc Try.prog 186 = some ([(0, 1), (1, 1)], [.int .i64 0, .int .i64 0]) := by kernel_rfl
@[go_sem] theorem ty_189 : ty Try.prog 189 = some (true, 3) := by kernel_rfl
@[go_sem] theorem zer_189 : zer Try.prog 189 = some [.string ⟨([] : List UInt8).toArray⟩, .string ⟨([] : List UInt8).toArray⟩, .slice none 0 0] := by kernel_rfl
@[go_sem] theorem hu_189 : hasU Try.prog 189 = true := by kernel_rfl
@[go_sem] theorem fld_189_0 : fld Try.prog 189 0 = some (0, false, 1) := by kernel_rfl
@[go_sem] theorem fld_189_1 : fld Try.prog 189 1 = some (1, false, 1) := by kernel_rfl
@[go_sem] theorem fld_189_2 : fld Try.prog 189 2 = some (2, false, 1) := by kernel_rfl
@[go_sem] theorem plc_189 : plc Try.prog 189 = some ([(0, 1), (1, 1), (2, 1)], [.string ⟨([] : List UInt8).toArray⟩, .string ⟨([] : List UInt8).toArray⟩, .slice none 0 0]) := by kernel_rfl
@[go_sem] theorem ty_208 : ty Try.prog 208 = some (false, 1) := by kernel_rfl
@[go_sem] theorem zer_208 : zer Try.prog 208 = some [.slice none 0 0] := by kernel_rfl
@[go_sem] theorem hu_208 : hasU Try.prog 208 = true := by kernel_rfl
@[go_sem] theorem by_208 : byS Try.prog 208 = false := by kernel_rfl
@[go_sem] theorem knd_208 : knd Try.prog 208 = some false := by kernel_rfl
@[go_sem] theorem elm_208 : elm Try.prog 208 = some (210, 3, 48) := by kernel_rfl
@[go_sem] theorem ty_210 : ty Try.prog 210 = some (true, 3) := by kernel_rfl
@[go_sem] theorem zer_210 : zer Try.prog 210 = some [.int .i64 0, .string ⟨([] : List UInt8).toArray⟩, .slice none 0 0] := by kernel_rfl
@[go_sem] theorem hu_210 : hasU Try.prog 210 = true := by kernel_rfl
@[go_sem] theorem fld_210_0 : fld Try.prog 210 0 = some (0, false, 1) := by kernel_rfl
@[go_sem] theorem fld_210_1 : fld Try.prog 210 1 = some (1, false, 1) := by kernel_rfl
@[go_sem] theorem fld_210_2 : fld Try.prog 210 2 = some (2, false, 1) := by kernel_rfl
@[go_sem] theorem plc_210 : plc Try.prog 210 = some ([(0, 1), (1, 1), (2, 1)], [.int .i64 0, .string ⟨([] : List UInt8).toArray⟩, .slice none 0 0]) := by kernel_rfl
@[go_sem] theorem ty_218 : ty Try.prog 218 = some (false, 1) := by kernel_rfl
@[go_sem] theorem zer_218 : zer Try.prog 218 = some [.slice none 0 0] := by kernel_rfl
@[go_sem] theorem hu_218 : hasU Try.prog 218 = true := by kernel_rfl
@[go_sem] theorem by_218 : byS Try.prog 218 = false := by kernel_rfl
@[go_sem] theorem knd_218 : knd Try.prog 218 = some false := by kernel_rfl
@[go_sem] theorem elm_218 : elm Try.prog 218 = some (256, 7, 96) := by kernel_rfl
@[go_sem] theorem ty_220 : ty Try.prog 220 = some (true, 19) := by kernel_rfl
@[go_sem] theorem zer_220 : zer Try.prog 220 = some [.int .i64 0, .string ⟨([] : List UInt8).toArray⟩, .int .i64 0, .slice none 0 0, .slice none 0 0, .string ⟨([] : List UInt8).toArray⟩, .string ⟨([] : List UInt8).toArray⟩, .slice none 0 0, .slice none 0 0, .string ⟨([] : List UInt8).toArray⟩, .bool false, .bool false, .bool false, .bool false, .int .i64 0, .int .i64 0, .slice none 0 0, .slice none 0 0, .slice none 0 0] := by kernel_rfl
@[go_sem] theorem hu_220 : hasU Try.prog 220 = true := by kernel_rfl
@[go_sem] theorem fld_220_0 : fld Try.prog 220 0 = some (0, false, 1) := by kernel_rfl
@[go_sem] theorem fld_220_1 : fld Try.prog 220 1 = some (1, false, 1) := by kernel_rfl
@[go_sem] theorem fld_220_2 : fld Try.prog 220 2 = some (2, true, 5) := by kernel_rfl
@[go_sem] theorem fld_220_3 : fld Try.prog 220 3 = some (7, false, 1) := by kernel_rfl
@[go_sem] theorem fld_220_4 : fld Try.prog 220 4 = some (8, false, 1) := by kernel_rfl
@[go_sem] theorem fld_220_5 : fld Try.prog 220 5 = some (9, false, 1) := by kernel_rfl
@[go_sem] theorem fld_220_6 : fld Try.prog 220 6 = some (10, false, 1) := by kernel_rfl
@[go_sem] theorem fld_220_7 : fld Try.prog 220 7 = some (11, false, 1) := by kernel_rfl
@[go_sem] theorem fld_220_8 : fld Try.prog 220 8 = some (12, false, 1) := by kernel_rfl
@[go_sem] theorem fld_220_9 : fld Try.prog 220 9 = some (13, false, 1) := by kernel_rfl
@[go_sem] theorem fld_220_10 : fld Try.prog 220 10 = some (14, false, 1) := by kernel_rfl
@[go_sem] theorem fld_220_11 : fld Try.prog 220 11 = some (15, false, 1) := by kernel_rfl
@[go_sem] theorem fld_220_12 : fld Try.prog 220 12 = some (16, false, 1) := by kernel_rfl
@[go_sem] theorem fld_220_13 : fld Try.prog 220 13 = some (17, false, 1) := by kernel_rfl
@[go_sem] theorem fld_220_14 : fld Try.prog 220 14 = some (18, false, 1) := by kernel_rfl
@[go_sem] theorem plc_220 : plc Try.prog 220 = some ([(0, 1), (1, 1), (2, 5), (7, 1), (8, 1), (9, 1), (10, 1), (11, 1), (12, 1), (13, 1), (14, 1), (15, 1), (16, 1), (17, 1), (18, 1)], [.int .i64 0, .string ⟨([] : List UInt8).toArray⟩, .int .i64 0, .slice none 0 0, .slice none 0 0, .string ⟨([] : List UInt8).toArray⟩, .string ⟨([] : List UInt8).toArray⟩, .slice none 0 0, .slice none 0 0, .string ⟨([] : List UInt8).toArray⟩, .bool false, .bool false, .bool false, .bool false, .int .i64 0, .int .i64 0, .slice none 0 0, .slice none 0 0, .slice none 0 0]) := by kernel_rfl
@[go_sem] theorem ty_223 : ty Try.prog 223 = some (true, 3) := by kernel_rfl
@[go_sem] theorem zer_223 : zer Try.prog 223 = some [.slice none 0 0, .int .i64 0, .int .i64 0] := by kernel_rfl
@[go_sem] theorem hu_223 : hasU Try.prog 223 = true := by kernel_rfl
@[go_sem] theorem fld_223_0 : fld Try.prog 223 0 = some (0, false, 1) := by kernel_rfl
@[go_sem] theorem fld_223_1 : fld Try.prog 223 1 = some (1, false, 1) := by kernel_rfl
@[go_sem] theorem fld_223_2 : fld Try.prog 223 2 = some (2, false, 1) := by kernel_rfl
@[go_sem] theorem plc_223 : plc Try.prog 223 = some ([(0, 1), (1, 1), (2, 1)], [.slice none 0 0, .int .i64 0, .int .i64 0]) := by kernel_rfl
@[go_sem] theorem ty_224 : ty Try.prog 224 = some (false, 1) := by kernel_rfl
@[go_sem] theorem zer_224 : zer Try.prog 224 = some [.slice none 0 0] := by kernel_rfl
@[go_sem] theorem hu_224 : hasU Try.prog 224 = true := by kernel_rfl
@[go_sem] theorem by_224 : byS Try.prog 224 = false := by kernel_rfl
@[go_sem] theorem knd_224 : knd Try.prog 224 = some false := by kernel_rfl
@[go_sem] theorem elm_224 : elm Try.prog 224 = some (261, 7, 96) := by kernel_rfl
@[go_sem] theorem ty_226 : ty Try.prog 226 = some (true, 19) := by kernel_rfl
@[go_sem] theorem zer_226 : zer Try.prog 226 = some [.int .i64 0, .string ⟨([] : List UInt8).toArray⟩, .int .i64 0, .slice none 0 0, .slice none 0 0, .string ⟨([] : List UInt8).toArray⟩, .string ⟨([] : List UInt8).toArray⟩, .slice none 0 0, .slice none 0 0, .string ⟨([] : List UInt8).toArray⟩, .bool false, .bool false, .bool false, .bool false, .int .i64 0, .int .i64 0, .slice none 0 0, .slice none 0 0, .slice none 0 0] := by kernel_rfl
@[go_sem] theorem hu_226 : hasU Try.prog 226 = true := by kernel_rfl
@[go_sem] theorem fld_226_0 : fld Try.prog 226 0 = some (0, false, 1) := by kernel_rfl
@[go_sem] theorem fld_226_1 : fld Try.prog 226 1 = some (1, false, 1) := by kernel_rfl
@[go_sem] theorem fld_226_2 : fld Try.prog 226 2 = some (2, true, 5) := by kernel_rfl
@[go_sem] theorem fld_226_3 : fld Try.prog 226 3 = some (7, false, 1) := by kernel_rfl
@[go_sem] theorem fld_226_4 : fld Try.prog 226 4 = some (8, false, 1) := by kernel_rfl
@[go_sem] theorem fld_226_5 : fld Try.prog 226 5 = some (9, false, 1) := by kernel_rfl
@[go_sem] theorem fld_226_6 : fld Try.prog 226 6 = some (10, false, 1) := by kernel_rfl
@[go_sem] theorem fld_226_7 : fld Try.prog 226 7 = some (11, false, 1) := by kernel_rfl
@[go_sem] theorem fld_226_8 : fld Try.prog 226 8 = some (12, false, 1) := by kernel_rfl
@[go_sem] theorem fld_226_9 : fld Try.prog 226 9 = some (13, false, 1) := by kernel_rfl
@[go_sem] theorem fld_226_10 : fld Try.prog 226 10 = some (14, false, 1) := by kernel_rfl
@[go_sem] theorem fld_226_11 : fld Try.prog 226 11 = some (15, false, 1) := by kernel_rfl
@[go_sem] theorem fld_226_12 : fld Try.prog 226 12 = some (16, false, 1) := by kernel_rfl
@[go_sem] theorem fld_226_13 : fld Try.prog 226 13 = some (17, false, 1) := by kernel_rfl
@[go_sem] theorem fld_226_14 : fld Try.prog 226 14 = some (18, false, 1) := by kernel_rfl
@[go_sem] theorem plc_226 : plc Try.prog 226 = some ([(0, 1), (1, 1), (2, 5), (7, 1), (8, 1), (9, 1), (10, 1), (11, 1), (12, 1), (13, 1), (14, 1), (15, 1), (16, 1), (17, 1), (18, 1)], [.int .i64 0, .string ⟨([] : List UInt8).toArray⟩, .int .i64 0, .slice none 0 0, .slice none 0 0, .string ⟨([] : List UInt8).toArray⟩, .string ⟨([] : List UInt8).toArray⟩, .slice none 0 0, .slice none 0 0, .string ⟨([] : List UInt8).toArray⟩, .bool false, .bool false, .bool false, .bool false, .int .i64 0, .int .i64 0, .slice none 0 0, .slice none 0 0, .slice none 0 0]) := by kernel_rfl
@[go_sem] theorem ty_229 : ty Try.prog 229 = some (true, 3) := by kernel_rfl
@[go_sem] theorem zer_229 : zer Try.prog 229 = some [.slice none 0 0, .int .i64 0, .int .i64 0] := by kernel_rfl
@[go_sem] theorem hu_229 : hasU Try.prog 229 = true := by kernel_rfl
@[go_sem] theorem fld_229_0 : fld Try.prog 229 0 = some (0, false, 1) := by kernel_rfl
@[go_sem] theorem fld_229_1 : fld Try.prog 229 1 = some (1, false, 1) := by kernel_rfl
@[go_sem] theorem fld_229_2 : fld Try.prog 229 2 = some (2, false, 1) := by kernel_rfl
@[go_sem] theorem plc_229 : plc Try.prog 229 = some ([(0, 1), (1, 1), (2, 1)], [.slice none 0 0, .int .i64 0, .int .i64 0]) := by kernel_rfl
@[go_sem] theorem ty_234 : ty Try.prog 234 = some (false, 1) := by kernel_rfl
@[go_sem] theorem zer_234 : zer Try.prog 234 = some [.pointer none] := by kernel_rfl
@[go_sem] theorem hu_234 : hasU Try.prog 234 = true := by kernel_rfl
@[go_sem] theorem ty_236 : ty Try.prog 236 = some (true, 3) := by kernel_rfl
@[go_sem] theorem zer_236 : zer Try.prog 236 = some [.string ⟨([] : List UInt8).toArray⟩, .int .i64 0, .bool false] := by kernel_rfl
@[go_sem] theorem hu_236 : hasU Try.prog 236 = true := by kernel_rfl
@[go_sem] theorem fld_236_0 : fld Try.prog 236 0 = some (0, false, 1) := by kernel_rfl
@[go_sem] theorem fld_236_1 : fld Try.prog 236 1 = some (1, false, 1) := by kernel_rfl
@[go_sem] theorem fld_236_2 : fld Try.prog 236 2 = some (2, false, 1) := by kernel_rfl
@[go_sem] theorem plc_236 : plc Try.prog 236 = some ([(0, 1), (1, 1), (2, 1)], [.string ⟨([] : List UInt8).toArray⟩, .int .i64 0, .bool false]) := by kernel_rfl
@[go_sem] theorem ty_239 : ty Try.prog 239 = some (false, 1) := by kernel_rfl
@[go_sem] theorem zer_239 : zer Try.prog 239 = some [.pointer none] := by kernel_rfl
@[go_sem] theorem hu_239 : hasU Try.prog 239 = true := by kernel_rfl
@[go_sem] theorem ty_241 : ty Try.prog 241 = some (true, 3) := by kernel_rfl
@[go_sem] theorem zer_241 : zer Try.prog 241 = some [.string ⟨([] : List UInt8).toArray⟩, .int .i64 0, .bool false] := by kernel_rfl
@[go_sem] theorem hu_241 : hasU Try.prog 241 = true := by kernel_rfl
@[go_sem] theorem fld_241_0 : fld Try.prog 241 0 = some (0, false, 1) := by kernel_rfl
@[go_sem] theorem fld_241_1 : fld Try.prog 241 1 = some (1, false, 1) := by kernel_rfl
@[go_sem] theorem fld_241_2 : fld Try.prog 241 2 = some (2, false, 1) := by kernel_rfl
@[go_sem] theorem plc_241 : plc Try.prog 241 = some ([(0, 1), (1, 1), (2, 1)], [.string ⟨([] : List UInt8).toArray⟩, .int .i64 0, .bool false]) := by kernel_rfl
@[go_sem] theorem ty_249 : ty Try.prog 249 = some (true, 2) := by kernel_rfl
@[go_sem] theorem zer_249 : zer Try.prog 249 = some [.int .i64 0, .int .i64 0] := by kernel_rfl
@[go_sem] theorem hu_249 : hasU Try.prog 249 = true := by kernel_rfl
@[go_sem] theorem fld_249_0 : fld Try.prog 249 0 = some (0, false, 1) := by kernel_rfl
@[go_sem] theorem fld_249_1 : fld Try.prog 249 1 = some (1, false, 1) := by kernel_rfl
@[go_sem] theorem plc_249 : plc Try.prog 249 = some ([(0, 1), (1, 1)], [.int .i64 0, .int .i64 0]) := by kernel_rfl
@[go_sem] theorem ty_252 : ty Try.prog 252 = some (false, 1) := by kernel_rfl
@[go_sem] theorem zer_252 : zer Try.prog 252 = some [.slice none 0 0] := by kernel_rfl
@[go_sem] theorem hu_252 : hasU Try.prog 252 = true := by kernel_rfl
@[go_sem] theorem by_252 : byS Try.prog 252 = false := by kernel_rfl
@[go_sem] theorem knd_252 : knd Try.prog 252 = some false := by kernel_rfl
@[go_sem] theorem elm_252 : elm Try.prog 252 = some (279, 2, 40) := by kernel_rfl
@[go_sem] theorem ty_254 : ty Try.prog 254 = some (true, 3) := by kernel_rfl
@[go_sem] theorem zer_254 : zer Try.prog 254 = some [.bool false, .int .i64 0, .slice none 0 0] := by kernel_rfl
@[go_sem] theorem hu_254 : hasU Try.prog 254 = true := by kernel_rfl
@[go_sem] theorem fld_254_0 : fld Try.prog 254 0 = some (0, false, 1) := by kernel_rfl
@[go_sem] theorem fld_254_1 : fld Try.prog 254 1 = some (1, false, 1) := by kernel_rfl
@[go_sem] theorem fld_254_2 : fld Try.prog 254 2 = some (2, false, 1) := by kernel_rfl
@[go_sem] theorem plc_254 : plc Try.prog 254 = some ([(0, 1), (1, 1), (2, 1)], [.bool false, .int .i64 0, .slice none 0 0]) := by kernel_rfl
@[go_sem] theorem ty_256 : ty Try.prog 256 = some (true, 7) := by kernel_rfl
@[go_sem] theorem zer_256 : zer Try.prog 256 = some [.int .i64 0, .int .i64 0, .string ⟨([] : List UInt8).toArray⟩, .bool false, .int .i64 0, .slice none 0 0, .slice none 0 0] := by kernel_rfl
@[go_sem] theorem hu_256 : hasU Try.prog 256 = true := by kernel_rfl
@[go_sem] theorem fld_256_0 : fld Try.prog 256 0 = some (0, false, 1) := by kernel_rfl
@[go_sem] theorem fld_256_1 : fld Try.prog 256 1 = some (1, false, 1) := by kernel_rfl
@[go_sem] theorem fld_256_2 : fld Try.prog 256 2 = some (2, false, 1) := by kernel_rfl
@[go_sem] theorem fld_256_3 : fld Try.prog 256 3 = some (3, true, 3) := by kernel_rfl
@[go_sem] theorem fld_256_4 : fld Try.prog 256 4 = some (6, false, 1) := by kernel_rfl
@[go_sem] theorem plc_256 : plc Try.prog 256 = some ([(0, 1), (1, 1), (2, 1), (3, 3), (6, 1)], [.int .i64 0, .int .i64 0, .string ⟨([] : List UInt8).toArray⟩, .bool false, .int .i64 0, .slice none 0 0, .slice none 0 0]) := by kernel_rfl
@[go_sem] theorem ty_257 : ty Try.prog 257 = some (false, 1) := by kernel_rfl
@[go_sem] theorem zer_257 : zer Try.prog 257 = some [.slice none 0 0] := by kernel_rfl
@[go_sem] theorem hu_257 : hasU Try.prog 257 = true := by kernel_rfl
@[go_sem] theorem by_257 : byS Try.prog 257 = false := by kernel_rfl
@[go_sem] theorem knd_257 : knd Try.prog 257 = some false := by kernel_rfl
@[go_sem] theorem elm_257 : elm Try.prog 257 = some (282, 2, 40) := by kernel_rfl
@[go_sem] theorem ty_259 : ty Try.prog 259 = some (true, 3) := by kernel_rfl
@[go_sem] theorem zer_259 : zer Try.prog 259 = some [.bool false, .int .i64 0, .slice none 0 0] := by kernel_rfl
@[go_sem] theorem hu_259 : hasU Try.prog 259 = true := by kernel_rfl
@[go_sem] theorem fld_259_0 : fld Try.prog 259 0 = some (0, false, 1) := by kernel_rfl
@[go_sem] theorem fld_259_1 : fld Try.prog 259 1 = some (1, false, 1) := by kernel_rfl
@[go_sem] theorem fld_259_2 : fld Try.prog 259 2 = some (2, false, 1) := by kernel_rfl
@[go_sem] theorem plc_259 : plc Try.prog 259 = some ([(0, 1), (1, 1), (2, 1)], [.bool false, .int .i64 0, .slice none 0 0]) := by kernel_rfl
@[go_sem] theorem ty_261 : ty Try.prog 261 = some (true, 7) := by kernel_rfl
@[go_sem] theorem zer_261 : zer Try.prog 261 = some [.int .i64 0, .int .i64 0, .string ⟨([] : List UInt8).toArray⟩, .bool false, .int .i64 0, .slice none 0 0, .slice none 0 0] := by kernel_rfl
@[go_sem] theorem hu_261 : hasU Try.prog 261 = true := by kernel_rfl
@[go_sem] theorem fld_261_0 : fld Try.prog 261 0 = some (0, false, 1) := by kernel_rfl
@[go_sem] theorem fld_261_1 : fld Try.prog 261 1 = some (1, false, 1) := by kernel_rfl
@[go_sem] theorem fld_261_2 : fld Try.prog 261 2 = some (2, false, 1) := by kernel_rfl
@[go_sem] theorem fld_261_3 : fld Try.prog 261 3 = some (3, true, 3) := by kernel_rfl
@[go_sem] theorem fld_261_4 : fld Try.prog 261 4 = some (6, false, 1) := by kernel_rfl
@[go_sem] theorem plc_261 : plc Try.prog 261 = some ([(0, 1), (1, 1), (2, 1), (3, 3), (6, 1)], [.int .i64 0, .int .i64 0, .string ⟨([] : List UInt8).toArray⟩, .bool false, .int .i64 0, .slice none 0 0, .slice none 0 0]) := by kernel_rfl
@[go_sem] theorem ty_272 : ty Try.prog 272 = some (false, 1) := by kernel_rfl
@[go_sem] theorem zer_272 : zer Try.prog 272 = some [.slice none 0 0] := by kernel_rfl
@[go_sem] theorem hu_272 : hasU Try.prog 272 = true := by kernel_rfl
@[go_sem] theorem by_272 : byS Try.prog 272 = false := by kernel_rfl
@[go_sem] theorem knd_272 : knd Try.prog 272 = some false := by kernel_rfl
@[go_sem] theorem elm_272 : elm Try.prog 272 = some (4, 1, 1) := by kernel_rfl
@[go_sem] theorem ty_277 : ty Try.prog 277 = some (false, 1) := by kernel_rfl
@[go_sem] theorem zer_277 : zer Try.prog 277 = some [.slice none 0 0] := by kernel_rfl
@[go_sem] theorem hu_277 : hasU Try.prog 277 = true := by kernel_rfl
@[go_sem] theorem by_277 : byS Try.prog 277 = false := by kernel_rfl
@[go_sem] theorem knd_277 : knd Try.prog 277 = some false := by kernel_rfl
@[go_sem] theorem elm_277 : elm Try.prog 277 = some (289, 2, 32) := by kernel_rfl
@[go_sem] theorem ty_279 : ty Try.prog 279 = some (true, 2) := by kernel_rfl
@[go_sem] theorem zer_279 : zer Try.prog 279 = some [.string ⟨([] : List UInt8).toArray⟩, .slice none 0 0] := by kernel_rfl
@[go_sem] theorem hu_279 : hasU Try.prog 279 = true := by kernel_rfl
@[go_sem] theorem fld_279_0 : fld Try.prog 279 0 = some (0, false, 1) := by kernel_rfl
@[go_sem] theorem fld_279_1 : fld Try.prog 279 1 = some (1, false, 1) := by kernel_rfl
@[go_sem] theorem plc_279 : plc Try.prog 279 = some ([(0, 1), (1, 1)], [.string ⟨([] : List UInt8).toArray⟩, .slice none 0 0]) := by kernel_rfl
@[go_sem] theorem ty_280 : ty Try.prog 280 = some (false, 1) := by kernel_rfl
@[go_sem] theorem zer_280 : zer Try.prog 280 = some [.slice none 0 0] := by kernel_rfl
@[go_sem] theorem hu_280 : hasU Try.prog 280 = true := by kernel_rfl
@[go_sem] theorem by_280 : byS Try.prog 280 = false := by kernel_rfl
@[go_sem] theorem knd_280 : knd Try.prog 280 = some false := by kernel_rfl
@[go_sem] theorem elm_280 : elm Try.prog 280 = some (290, 2, 32) := by kernel_rfl
@[go_sem] theorem ty_282 : ty Try.prog 282 = some (true, 2) := by kernel_rfl
@[go_sem] theorem zer_282 : zer Try.prog 282 = some [.string ⟨([] : List UInt8).toArray⟩, .slice none 0 0] := by kernel_rfl
@[go_sem] theorem hu_282 : hasU Try.prog 282 = true := by kernel_rfl
@[go_sem] theorem fld_282_0 : fld Try.prog 282 0 = some (0, false, 1) := by kernel_rfl
@[go_sem] theorem fld_282_1 : fld Try.prog 282 1 = some (1, false, 1) := by kernel_rfl
@[go_sem] theorem plc_282 : plc Try.prog 282 = some ([(0, 1), (1, 1)], [.string ⟨([] : List UInt8).toArray⟩, .slice none 0 0]) := by kernel_rfl
@[go_sem] theorem ty_289 : ty Try.prog 289 = some (true, 2) := by kernel_rfl
@[go_sem] theorem zer_289 : zer Try.prog 289 = some [.string ⟨([] : List UInt8).toArray⟩, .string ⟨([] : List UInt8).toArray⟩] := by kernel_rfl
@[go_sem] theorem hu_289 : hasU Try.prog 289 = true := by kernel_rfl
@[go_sem] theorem fld_289_0 : fld Try.prog 289 0 = some (0, false, 1) := by kernel_rfl
@[go_sem] theorem fld_289_1 : fld Try.prog 289 1 = some (1, false, 1) := by kernel_rfl
@[go_sem] theorem plc_289 : plc Try.prog 289 = some ([(0, 1), (1, 1)], [.string ⟨([] : List UInt8).toArray⟩, .string ⟨([] : List UInt8).toArray⟩]) := by kernel_rfl
@[go_sem] theorem ty_290 : ty Try.prog 290 = some (true, 2) := by kernel_rfl
@[go_sem] theorem zer_290 : zer Try.prog 290 = some [.string ⟨([] : List UInt8).toArray⟩, .string ⟨([] : List UInt8).toArray⟩] := by kernel_rfl
@[go_sem] theorem hu_290 : hasU Try.prog 290 = true := by kernel_rfl
@[go_sem] theorem fld_290_0 : fld Try.prog 290 0 = some (0, false, 1) := by kernel_rfl
@[go_sem] theorem fld_290_1 : fld Try.prog 290 1 = some (1, false, 1) := by kernel_rfl
@[go_sem] theorem plc_290 : plc Try.prog 290 = some ([(0, 1), (1, 1)], [.string ⟨([] : List UInt8).toArray⟩, .string ⟨([] : List UInt8).toArray⟩]) := by kernel_rfl
theorem en7 : enters Try.prog 7 = true := by kernel_rfl
theorem en11 : enters Try.prog 11 = true := by kernel_rfl
theorem en12 : enters Try.prog 12 = true := by kernel_rfl
theorem en13 : enters Try.prog 13 = true := by kernel_rfl
theorem en19 : enters Try.prog 19 = true := by kernel_rfl
theorem en21 : enters Try.prog 21 = true := by kernel_rfl
theorem en23 : enters Try.prog 23 = true := by kernel_rfl
theorem en29 : enters Try.prog 29 = true := by kernel_rfl
theorem en30 : enters Try.prog 30 = true := by kernel_rfl
theorem en31 : enters Try.prog 31 = true := by kernel_rfl
theorem en32 : enters Try.prog 32 = true := by kernel_rfl
theorem en33 : enters Try.prog 33 = true := by kernel_rfl
theorem en34 : enters Try.prog 34 = true := by kernel_rfl
theorem en35 : enters Try.prog 35 = true := by kernel_rfl
theorem en36 : enters Try.prog 36 = true := by kernel_rfl
theorem en38 : enters Try.prog 38 = true := by kernel_rfl
theorem en40 : enters Try.prog 40 = true := by kernel_rfl
theorem en45 : enters Try.prog 45 = true := by kernel_rfl
theorem en50 : enters Try.prog 50 = true := by kernel_rfl
theorem en52 : enters Try.prog 52 = true := by kernel_rfl
theorem en57 : enters Try.prog 57 = true := by kernel_rfl
theorem en63 : enters Try.prog 63 = true := by kernel_rfl
theorem en64 : enters Try.prog 64 = true := by kernel_rfl
theorem en65 : enters Try.prog 65 = true := by kernel_rfl
theorem en66 : enters Try.prog 66 = true := by kernel_rfl
theorem en67 : enters Try.prog 67 = true := by kernel_rfl
theorem en68 : enters Try.prog 68 = true := by kernel_rfl
theorem en69 : enters Try.prog 69 = true := by kernel_rfl
theorem en70 : enters Try.prog 70 = true := by kernel_rfl
theorem en71 : enters Try.prog 71 = true := by kernel_rfl
theorem en72 : enters Try.prog 72 = true := by kernel_rfl
theorem en73 : enters Try.prog 73 = true := by kernel_rfl
theorem en74 : enters Try.prog 74 = true := by kernel_rfl
theorem en75 : enters Try.prog 75 = true := by kernel_rfl
theorem en76 : enters Try.prog 76 = true := by kernel_rfl
theorem en77 : enters Try.prog 77 = true := by kernel_rfl
theorem en78 : enters Try.prog 78 = true := by kernel_rfl
theorem en79 : enters Try.prog 79 = true := by kernel_rfl
theorem en85 : enters Try.prog 85 = true := by kernel_rfl
theorem en86 : enters Try.prog 86 = true := by kernel_rfl
theorem en92 : enters Try.prog 92 = true := by kernel_rfl
theorem en93 : enters Try.prog 93 = true := by kernel_rfl
theorem en104 : enters Try.prog 104 = true := by kernel_rfl
theorem en105 : enters Try.prog 105 = true := by kernel_rfl
theorem en106 : enters Try.prog 106 = true := by kernel_rfl
theorem en107 : enters Try.prog 107 = true := by kernel_rfl
theorem en108 : enters Try.prog 108 = true := by kernel_rfl
theorem en109 : enters Try.prog 109 = true := by kernel_rfl
theorem en110 : enters Try.prog 110 = true := by kernel_rfl
theorem en111 : enters Try.prog 111 = true := by kernel_rfl
theorem en112 : enters Try.prog 112 = true := by kernel_rfl
theorem en113 : enters Try.prog 113 = true := by kernel_rfl
theorem en114 : enters Try.prog 114 = true := by kernel_rfl
theorem en115 : enters Try.prog 115 = true := by kernel_rfl
theorem en116 : enters Try.prog 116 = true := by kernel_rfl
theorem en117 : enters Try.prog 117 = true := by kernel_rfl
theorem en118 : enters Try.prog 118 = true := by kernel_rfl
theorem en119 : enters Try.prog 119 = true := by kernel_rfl
theorem en120 : enters Try.prog 120 = true := by kernel_rfl
theorem en126 : enters Try.prog 126 = true := by kernel_rfl
theorem en127 : enters Try.prog 127 = true := by kernel_rfl
theorem en136 : enters Try.prog 136 = true := by kernel_rfl
theorem en137 : enters Try.prog 137 = true := by kernel_rfl
theorem en148 : enters Try.prog 148 = true := by kernel_rfl
theorem en149 : enters Try.prog 149 = true := by kernel_rfl
theorem en150 : enters Try.prog 150 = true := by kernel_rfl
theorem en151 : enters Try.prog 151 = true := by kernel_rfl
theorem en152 : enters Try.prog 152 = true := by kernel_rfl
theorem en154 : enters Try.prog 154 = true := by kernel_rfl
theorem en158 : enters Try.prog 158 = true := by kernel_rfl
theorem en165 : enters Try.prog 165 = true := by kernel_rfl
theorem en167 : enters Try.prog 167 = true := by kernel_rfl
theorem en169 : enters Try.prog 169 = true := by kernel_rfl
theorem en175 : enters Try.prog 175 = true := by kernel_rfl
theorem en178 : enters Try.prog 178 = true := by kernel_rfl
end Go.Proofs.Ytkdchlggdcmkbaa
namespace Go.Proofs.Ytkdchlggdcmkbaa
open Go.Ab Go.Dt
set_option maxRecDepth 20000

end Go.Proofs.Ytkdchlggdcmkbaa
namespace Go.Proofs.Ytkdchlggdcmkbaa
open Go.Ab Go.Dt
set_option maxRecDepth 20000
set_option maxHeartbeats 1000000

end Go.Proofs.Ytkdchlggdcmkbaa
namespace Go.Proofs.Ytkdchlggdcmkbaa
open Go.Ab Go.Dt
set_option maxRecDepth 20000
set_option maxHeartbeats 1000000

end Go.Proofs.Ytkdchlggdcmkbaa
namespace Go.Proofs.Ytkdchlggdcmkbaa
open Go.Ab Go.Dt
set_option maxRecDepth 20000
set_option maxHeartbeats 1000000

end Go.Proofs.Ytkdchlggdcmkbaa
namespace Go.Proofs.Ytkdchlggdcmkbaa
open Go.Ab Go.Dt
set_option maxRecDepth 20000
set_option maxHeartbeats 2000000

end Go.Proofs.Ytkdchlggdcmkbaa
namespace Go.Proofs.Ytkdchlggdcmkbaa
open Go.Ab Go.Dt
set_option maxRecDepth 20000
set_option maxHeartbeats 2000000

end Go.Proofs.Ytkdchlggdcmkbaa
namespace Go.Proofs.Ytkdchlggdcmkbaa
open Go.Ab Go.Dt
set_option maxRecDepth 20000
set_option maxHeartbeats 4000000

section
variable (ip : Str → Bool)
variable [hs : ∀ s, Ctr lim Try.prog 122 [] [.str s] (.v (.bool (ip s))) [] True] [hi : ∀ s, Ctr lim Try.prog 129 [] [.str s] (.v (.bool (ip s))) [] True]
end
end Go.Proofs.Ytkdchlggdcmkbaa
namespace Go.Proofs.Ytkdchlggdcmkbaa
open Go.Ab Go.Dt
set_option maxRecDepth 20000
set_option maxHeartbeats 4000000

section
variable (ip : Str → Bool)
variable [hs : ∀ x : GType, Ctr lim Try.prog 81 [] [.agg [.v (.int .i64 x.fKind), .sl false 2 (x.fRanges.map (encRange false)), .sl false 1 (x.fNames.map AV.str), .str x.fPattern, .str x.fPath]] (.v (.bool (isType ip x))) [] True]
variable [hi : ∀ x : GType, Ctr lim Try.prog 88 [] [.agg [.v (.int .i64 x.fKind), .sl false 2 (x.fRanges.map (encRange false)), .sl false 1 (x.fNames.map AV.str), .str x.fPattern, .str x.fPath]] (.v (.bool (isType ip x))) [] True]
end
end Go.Proofs.Ytkdchlggdcmkbaa
