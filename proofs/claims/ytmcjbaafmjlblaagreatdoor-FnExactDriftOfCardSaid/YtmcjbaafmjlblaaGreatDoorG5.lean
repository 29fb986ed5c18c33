/-
  Part of a proof: TysTry.
-/
import Derived.Test.YtmcjbaafmjlblaaGreatDoorProg
import Derived.KernelRfl
import Derived.Test.YtmcjbaafmjlblaaGreatDoorG1
set_option linter.unusedSimpArgs false
set_option linter.unusedVariables false
namespace Go.Proofs.YtmcjbaafmjlblaaGreatDoor
open Go.Ab
instance:MixOK Tryz.prog:=⟨by kernel_rfl⟩
@[go_sem] theorem ty_2:ty Tryz.prog 2=some (false,1):=by kernel_rfl
@[go_sem] theorem zer_2:zer Tryz.prog 2=some [.int .i64 0]:=by kernel_rfl
@[go_sem] theorem ik_2:ikd Tryz.prog 2=some .i64:=by kernel_rfl
@[go_sem] theorem hu_2:hasU Tryz.prog 2=true:=by kernel_rfl
@[go_sem] theorem ty_3:ty Tryz.prog 3=some (false,1):=by kernel_rfl
@[go_sem] theorem zer_3:zer Tryz.prog 3=some [.int .i64 0]:=by kernel_rfl
@[go_sem] theorem ik_3:ikd Tryz.prog 3=some .i64:=by kernel_rfl
@[go_sem] theorem hu_3:hasU Tryz.prog 3=true:=by kernel_rfl
@[go_sem] theorem ty_4:ty Tryz.prog 4=some (false,1):=by kernel_rfl
@[go_sem] theorem zer_4:zer Tryz.prog 4=some [.bool false]:=by kernel_rfl
@[go_sem] theorem hu_4:hasU Tryz.prog 4=true:=by kernel_rfl
@[go_sem] theorem isB_4:isB Tryz.prog 4=true:=by kernel_rfl
@[go_sem] theorem ty_5:ty Tryz.prog 5=some (false,1):=by kernel_rfl
@[go_sem] theorem zer_5:zer Tryz.prog 5=some [.int .u8 0]:=by kernel_rfl
@[go_sem] theorem ik_5:ikd Tryz.prog 5=some .u8:=by kernel_rfl
@[go_sem] theorem hu_5:hasU Tryz.prog 5=true:=by kernel_rfl
@[go_sem] theorem ty_9:ty Tryz.prog 9=some (false,1):=by kernel_rfl
@[go_sem] theorem zer_9:zer Tryz.prog 9=some [.string ⟨([]:List UInt8).toArray⟩]:=by kernel_rfl
@[go_sem] theorem hu_9:hasU Tryz.prog 9=true:=by kernel_rfl
@[go_sem] theorem knd_9:knd Tryz.prog 9=some true:=by kernel_rfl
@[go_sem] theorem ty_22:ty Tryz.prog 22=some (false,1):=by kernel_rfl
@[go_sem] theorem zer_22:zer Tryz.prog 22=some [.slice none 0 0]:=by kernel_rfl
@[go_sem] theorem hu_22:hasU Tryz.prog 22=true:=by kernel_rfl
@[go_sem] theorem by_22:byS Tryz.prog 22=false:=by kernel_rfl
@[go_sem] theorem knd_22:knd Tryz.prog 22=some false:=by kernel_rfl
@[go_sem] theorem elm_22:elm Tryz.prog 22=some (114,19,272):=by kernel_rfl
@[go_sem] theorem ty_23:ty Tryz.prog 23=some (false,1):=by kernel_rfl
@[go_sem] theorem zer_23:zer Tryz.prog 23=some [.slice none 0 0]:=by kernel_rfl
@[go_sem] theorem hu_23:hasU Tryz.prog 23=true:=by kernel_rfl
@[go_sem] theorem by_23:byS Tryz.prog 23=false:=by kernel_rfl
@[go_sem] theorem knd_23:knd Tryz.prog 23=some false:=by kernel_rfl
@[go_sem] theorem elm_23:elm Tryz.prog 23=some (95,3,56):=by kernel_rfl
@[go_sem] theorem ty_24:ty Tryz.prog 24=some (false,1):=by kernel_rfl
@[go_sem] theorem zer_24:zer Tryz.prog 24=some [.slice none 0 0]:=by kernel_rfl
@[go_sem] theorem hu_24:hasU Tryz.prog 24=true:=by kernel_rfl
@[go_sem] theorem by_24:byS Tryz.prog 24=false:=by kernel_rfl
@[go_sem] theorem knd_24:knd Tryz.prog 24=some false:=by kernel_rfl
@[go_sem] theorem elm_24:elm Tryz.prog 24=some (194,3,40):=by kernel_rfl
@[go_sem] theorem ty_26:ty Tryz.prog 26=some (true,5):=by kernel_rfl
@[go_sem] theorem zer_26:zer Tryz.prog 26=some [.bool false,.int .i64 0,.int .i64 0,.string ⟨([]:List UInt8).toArray⟩,.slice none 0 0]:=by kernel_rfl
@[go_sem] theorem hu_26:hasU Tryz.prog 26=true:=by kernel_rfl
@[go_sem] theorem fld_26_0:fld Tryz.prog 26 0=some (0,false,1):=by kernel_rfl
@[go_sem] theorem fld_26_1:fld Tryz.prog 26 1=some (1,false,1):=by kernel_rfl
@[go_sem] theorem fld_26_2:fld Tryz.prog 26 2=some (2,false,1):=by kernel_rfl
@[go_sem] theorem fld_26_3:fld Tryz.prog 26 3=some (3,false,1):=by kernel_rfl
@[go_sem] theorem fld_26_4:fld Tryz.prog 26 4=some (4,false,1):=by kernel_rfl
@[go_sem] theorem plc_26:plc Tryz.prog 26=some ([(0,1),(1,1),(2,1),(3,1),(4,1)],[.bool false,.int .i64 0,.int .i64 0,.string ⟨([]:List UInt8).toArray⟩,.slice none 0 0]):=by kernel_rfl
@[go_sem] theorem ty_28:ty Tryz.prog 28=some (true,10):=by kernel_rfl
@[go_sem] theorem zer_28:zer Tryz.prog 28=some [.slice none 0 0,.slice none 0 0,.slice none 0 0,.int .i64 0,.slice none 0 0,.bool false,.int .i64 0,.int .i64 0,.string ⟨([]:List UInt8).toArray⟩,.slice none 0 0]:=by kernel_rfl
@[go_sem] theorem hu_28:hasU Tryz.prog 28=true:=by kernel_rfl
@[go_sem] theorem fld_28_0:fld Tryz.prog 28 0=some (0,false,1):=by kernel_rfl
@[go_sem] theorem fld_28_1:fld Tryz.prog 28 1=some (1,false,1):=by kernel_rfl
@[go_sem] theorem fld_28_2:fld Tryz.prog 28 2=some (2,false,1):=by kernel_rfl
@[go_sem] theorem fld_28_3:fld Tryz.prog 28 3=some (3,false,1):=by kernel_rfl
@[go_sem] theorem fld_28_4:fld Tryz.prog 28 4=some (4,false,1):=by kernel_rfl
@[go_sem] theorem fld_28_5:fld Tryz.prog 28 5=some (5,true,5):=by kernel_rfl
@[go_sem] theorem plc_28:plc Tryz.prog 28=some ([(0,1),(1,1),(2,1),(3,1),(4,1),(5,5)],[.slice none 0 0,.slice none 0 0,.slice none 0 0,.int .i64 0,.slice none 0 0,.bool false,.int .i64 0,.int .i64 0,.string ⟨([]:List UInt8).toArray⟩,.slice none 0 0]):=by kernel_rfl
@[go_sem] theorem ty_30:ty Tryz.prog 30=some (true,15):=by kernel_rfl
@[go_sem] theorem zer_30:zer Tryz.prog 30=some [.string ⟨([]:List UInt8).toArray⟩,.slice none 0 0,.slice none 0 0,.slice none 0 0,.int .i64 0,.slice none 0 0,.bool false,.int .i64 0,.int .i64 0,.string ⟨([]:List UInt8).toArray⟩,.slice none 0 0,.slice none 0 0,.bool false,.int .i64 0,.bool false]:=by kernel_rfl
@[go_sem] theorem hu_30:hasU Tryz.prog 30=true:=by kernel_rfl
@[go_sem] theorem fld_30_0:fld Tryz.prog 30 0=some (0,false,1):=by kernel_rfl
@[go_sem] theorem fld_30_1:fld Tryz.prog 30 1=some (1,true,10):=by kernel_rfl
@[go_sem] theorem fld_30_2:fld Tryz.prog 30 2=some (11,false,1):=by kernel_rfl
@[go_sem] theorem fld_30_3:fld Tryz.prog 30 3=some (12,false,1):=by kernel_rfl
@[go_sem] theorem fld_30_4:fld Tryz.prog 30 4=some (13,false,1):=by kernel_rfl
@[go_sem] theorem fld_30_5:fld Tryz.prog 30 5=some (14,false,1):=by kernel_rfl
@[go_sem] theorem plc_30:plc Tryz.prog 30=some ([(0,1),(1,10),(11,1),(12,1),(13,1),(14,1)],[.string ⟨([]:List UInt8).toArray⟩,.slice none 0 0,.slice none 0 0,.slice none 0 0,.int .i64 0,.slice none 0 0,.bool false,.int .i64 0,.int .i64 0,.string ⟨([]:List UInt8).toArray⟩,.slice none 0 0,.slice none 0 0,.bool false,.int .i64 0,.bool false]):=by kernel_rfl
@[go_sem] theorem ty_33:ty Tryz.prog 33=some (false,1):=by kernel_rfl
@[go_sem] theorem zer_33:zer Tryz.prog 33=some [.slice none 0 0]:=by kernel_rfl
@[go_sem] theorem hu_33:hasU Tryz.prog 33=true:=by kernel_rfl
@[go_sem] theorem by_33:byS Tryz.prog 33=false:=by kernel_rfl
@[go_sem] theorem knd_33:knd Tryz.prog 33=some false:=by kernel_rfl
@[go_sem] theorem elm_33:elm Tryz.prog 33=some (103,4,64):=by kernel_rfl
@[go_sem] theorem ty_36:ty Tryz.prog 36=some (false,1):=by kernel_rfl
@[go_sem] theorem zer_36:zer Tryz.prog 36=some [.slice none 0 0]:=by kernel_rfl
@[go_sem] theorem hu_36:hasU Tryz.prog 36=true:=by kernel_rfl
@[go_sem] theorem by_36:byS Tryz.prog 36=false:=by kernel_rfl
@[go_sem] theorem knd_36:knd Tryz.prog 36=some false:=by kernel_rfl
@[go_sem] theorem elm_36:elm Tryz.prog 36=some (124,19,272):=by kernel_rfl
@[go_sem] theorem ty_37:ty Tryz.prog 37=some (false,1):=by kernel_rfl
@[go_sem] theorem zer_37:zer Tryz.prog 37=some [.slice none 0 0]:=by kernel_rfl
@[go_sem] theorem hu_37:hasU Tryz.prog 37=true:=by kernel_rfl
@[go_sem] theorem by_37:byS Tryz.prog 37=false:=by kernel_rfl
@[go_sem] theorem knd_37:knd Tryz.prog 37=some false:=by kernel_rfl
@[go_sem] theorem elm_37:elm Tryz.prog 37=some (99,3,56):=by kernel_rfl
@[go_sem] theorem ty_38:ty Tryz.prog 38=some (false,1):=by kernel_rfl
@[go_sem] theorem zer_38:zer Tryz.prog 38=some [.slice none 0 0]:=by kernel_rfl
@[go_sem] theorem hu_38:hasU Tryz.prog 38=true:=by kernel_rfl
@[go_sem] theorem by_38:byS Tryz.prog 38=false:=by kernel_rfl
@[go_sem] theorem knd_38:knd Tryz.prog 38=some false:=by kernel_rfl
@[go_sem] theorem elm_38:elm Tryz.prog 38=some (197,3,40):=by kernel_rfl
@[go_sem] theorem ty_40:ty Tryz.prog 40=some (true,5):=by kernel_rfl
@[go_sem] theorem zer_40:zer Tryz.prog 40=some [.bool false,.int .i64 0,.int .i64 0,.string ⟨([]:List UInt8).toArray⟩,.slice none 0 0]:=by kernel_rfl
@[go_sem] theorem hu_40:hasU Tryz.prog 40=true:=by kernel_rfl
@[go_sem] theorem fld_40_0:fld Tryz.prog 40 0=some (0,false,1):=by kernel_rfl
@[go_sem] theorem fld_40_1:fld Tryz.prog 40 1=some (1,false,1):=by kernel_rfl
@[go_sem] theorem fld_40_2:fld Tryz.prog 40 2=some (2,false,1):=by kernel_rfl
@[go_sem] theorem fld_40_3:fld Tryz.prog 40 3=some (3,false,1):=by kernel_rfl
@[go_sem] theorem fld_40_4:fld Tryz.prog 40 4=some (4,false,1):=by kernel_rfl
@[go_sem] theorem plc_40:plc Tryz.prog 40=some ([(0,1),(1,1),(2,1),(3,1),(4,1)],[.bool false,.int .i64 0,.int .i64 0,.string ⟨([]:List UInt8).toArray⟩,.slice none 0 0]):=by kernel_rfl
@[go_sem] theorem ty_42:ty Tryz.prog 42=some (true,10):=by kernel_rfl
@[go_sem] theorem zer_42:zer Tryz.prog 42=some [.slice none 0 0,.slice none 0 0,.slice none 0 0,.int .i64 0,.slice none 0 0,.bool false,.int .i64 0,.int .i64 0,.string ⟨([]:List UInt8).toArray⟩,.slice none 0 0]:=by kernel_rfl
@[go_sem] theorem hu_42:hasU Tryz.prog 42=true:=by kernel_rfl
@[go_sem] theorem fld_42_0:fld Tryz.prog 42 0=some (0,false,1):=by kernel_rfl
@[go_sem] theorem fld_42_1:fld Tryz.prog 42 1=some (1,false,1):=by kernel_rfl
@[go_sem] theorem fld_42_2:fld Tryz.prog 42 2=some (2,false,1):=by kernel_rfl
@[go_sem] theorem fld_42_3:fld Tryz.prog 42 3=some (3,false,1):=by kernel_rfl
@[go_sem] theorem fld_42_4:fld Tryz.prog 42 4=some (4,false,1):=by kernel_rfl
@[go_sem] theorem fld_42_5:fld Tryz.prog 42 5=some (5,true,5):=by kernel_rfl
@[go_sem] theorem plc_42:plc Tryz.prog 42=some ([(0,1),(1,1),(2,1),(3,1),(4,1),(5,5)],[.slice none 0 0,.slice none 0 0,.slice none 0 0,.int .i64 0,.slice none 0 0,.bool false,.int .i64 0,.int .i64 0,.string ⟨([]:List UInt8).toArray⟩,.slice none 0 0]):=by kernel_rfl
@[go_sem] theorem ty_44:ty Tryz.prog 44=some (true,15):=by kernel_rfl
@[go_sem] theorem zer_44:zer Tryz.prog 44=some [.string ⟨([]:List UInt8).toArray⟩,.slice none 0 0,.slice none 0 0,.slice none 0 0,.int .i64 0,.slice none 0 0,.bool false,.int .i64 0,.int .i64 0,.string ⟨([]:List UInt8).toArray⟩,.slice none 0 0,.slice none 0 0,.bool false,.int .i64 0,.bool false]:=by kernel_rfl
@[go_sem] theorem hu_44:hasU Tryz.prog 44=true:=by kernel_rfl
@[go_sem] theorem fld_44_0:fld Tryz.prog 44 0=some (0,false,1):=by kernel_rfl
@[go_sem] theorem fld_44_1:fld Tryz.prog 44 1=some (1,true,10):=by kernel_rfl
@[go_sem] theorem fld_44_2:fld Tryz.prog 44 2=some (11,false,1):=by kernel_rfl
@[go_sem] theorem fld_44_3:fld Tryz.prog 44 3=some (12,false,1):=by kernel_rfl
@[go_sem] theorem fld_44_4:fld Tryz.prog 44 4=some (13,false,1):=by kernel_rfl
@[go_sem] theorem fld_44_5:fld Tryz.prog 44 5=some (14,false,1):=by kernel_rfl
@[go_sem] theorem plc_44:plc Tryz.prog 44=some ([(0,1),(1,10),(11,1),(12,1),(13,1),(14,1)],[.string ⟨([]:List UInt8).toArray⟩,.slice none 0 0,.slice none 0 0,.slice none 0 0,.int .i64 0,.slice none 0 0,.bool false,.int .i64 0,.int .i64 0,.string ⟨([]:List UInt8).toArray⟩,.slice none 0 0,.slice none 0 0,.bool false,.int .i64 0,.bool false]):=by kernel_rfl
@[go_sem] theorem ty_54:ty Tryz.prog 54=some (false,1):=by kernel_rfl
@[go_sem] theorem zer_54:zer Tryz.prog 54=some [.slice none 0 0]:=by kernel_rfl
@[go_sem] theorem hu_54:hasU Tryz.prog 54=true:=by kernel_rfl
@[go_sem] theorem by_54:byS Tryz.prog 54=false:=by kernel_rfl
@[go_sem] theorem knd_54:knd Tryz.prog 54=some false:=by kernel_rfl
@[go_sem] theorem elm_54:elm Tryz.prog 54=some (9,1,16):=by kernel_rfl
@[go_sem] theorem ty_55:ty Tryz.prog 55=some (false,1):=by kernel_rfl
@[go_sem] theorem zer_55:zer Tryz.prog 55=some [.slice none 0 0]:=by kernel_rfl
@[go_sem] theorem hu_55:hasU Tryz.prog 55=true:=by kernel_rfl
@[go_sem] theorem by_55:byS Tryz.prog 55=false:=by kernel_rfl
@[go_sem] theorem knd_55:knd Tryz.prog 55=some false:=by kernel_rfl
@[go_sem] theorem elm_55:elm Tryz.prog 55=some (163,1,24):=by kernel_rfl
@[go_sem] theorem ty_57:ty Tryz.prog 57=some (true,3):=by kernel_rfl
@[go_sem] theorem zer_57:zer Tryz.prog 57=some [.slice none 0 0,.slice none 0 0,.slice none 0 0]:=by kernel_rfl
@[go_sem] theorem hu_57:hasU Tryz.prog 57=true:=by kernel_rfl
@[go_sem] theorem fld_57_0:fld Tryz.prog 57 0=some (0,false,1):=by kernel_rfl
@[go_sem] theorem fld_57_1:fld Tryz.prog 57 1=some (1,false,1):=by kernel_rfl
@[go_sem] theorem fld_57_2:fld Tryz.prog 57 2=some (2,false,1):=by kernel_rfl
@[go_sem] theorem plc_57:plc Tryz.prog 57=some ([(0,1),(1,1),(2,1)],[.slice none 0 0,.slice none 0 0,.slice none 0 0]):=by kernel_rfl
@[go_sem] theorem ty_60:ty Tryz.prog 60=some (false,1):=by kernel_rfl
@[go_sem] theorem zer_60:zer Tryz.prog 60=some [.slice none 0 0]:=by kernel_rfl
@[go_sem] theorem hu_60:hasU Tryz.prog 60=true:=by kernel_rfl
@[go_sem] theorem by_60:byS Tryz.prog 60=false:=by kernel_rfl
@[go_sem] theorem knd_60:knd Tryz.prog 60=some false:=by kernel_rfl
@[go_sem] theorem elm_60:elm Tryz.prog 60=some (33,1,24):=by kernel_rfl
@[go_sem] theorem ty_62:ty Tryz.prog 62=some (true,3):=by kernel_rfl
@[go_sem] theorem zer_62:zer Tryz.prog 62=some [.slice none 0 0,.slice none 0 0,.slice none 0 0]:=by kernel_rfl
@[go_sem] theorem hu_62:hasU Tryz.prog 62=true:=by kernel_rfl
@[go_sem] theorem fld_62_0:fld Tryz.prog 62 0=some (0,false,1):=by kernel_rfl
@[go_sem] theorem fld_62_1:fld Tryz.prog 62 1=some (1,false,1):=by kernel_rfl
@[go_sem] theorem fld_62_2:fld Tryz.prog 62 2=some (2,false,1):=by kernel_rfl
@[go_sem] theorem plc_62:plc Tryz.prog 62=some ([(0,1),(1,1),(2,1)],[.slice none 0 0,.slice none 0 0,.slice none 0 0]):=by kernel_rfl
@[go_sem] theorem ty_77:ty Tryz.prog 77=some (false,1):=by kernel_rfl
@[go_sem] theorem zer_77:zer Tryz.prog 77=some [.slice none 0 0]:=by kernel_rfl
@[go_sem] theorem hu_77:hasU Tryz.prog 77=true:=by kernel_rfl
@[go_sem] theorem by_77:byS Tryz.prog 77=false:=by kernel_rfl
@[go_sem] theorem knd_77:knd Tryz.prog 77=some false:=by kernel_rfl
@[go_sem] theorem elm_77:elm Tryz.prog 77=some (189,3,40):=by kernel_rfl
@[go_sem] theorem ty_79:ty Tryz.prog 79=some (true,2):=by kernel_rfl
@[go_sem] theorem zer_79:zer Tryz.prog 79=some [.slice none 0 0,.slice none 0 0]:=by kernel_rfl
@[go_sem] theorem hu_79:hasU Tryz.prog 79=true:=by kernel_rfl
@[go_sem] theorem fld_79_0:fld Tryz.prog 79 0=some (0,false,1):=by kernel_rfl
@[go_sem] theorem fld_79_1:fld Tryz.prog 79 1=some (1,false,1):=by kernel_rfl
@[go_sem] theorem plc_79:plc Tryz.prog 79=some ([(0,1),(1,1)],[.slice none 0 0,.slice none 0 0]):=by kernel_rfl
@[go_sem] theorem ty_81:ty Tryz.prog 81=some (false,1):=by kernel_rfl
@[go_sem] theorem zer_81:zer Tryz.prog 81=some [.slice none 0 0]:=by kernel_rfl
@[go_sem] theorem hu_81:hasU Tryz.prog 81=true:=by kernel_rfl
@[go_sem] theorem by_81:byS Tryz.prog 81=false:=by kernel_rfl
@[go_sem] theorem knd_81:knd Tryz.prog 81=some false:=by kernel_rfl
@[go_sem] theorem elm_81:elm Tryz.prog 81=some (150,3,40):=by kernel_rfl
@[go_sem] theorem ty_83:ty Tryz.prog 83=some (true,2):=by kernel_rfl
@[go_sem] theorem zer_83:zer Tryz.prog 83=some [.slice none 0 0,.slice none 0 0]:=by kernel_rfl
@[go_sem] theorem hu_83:hasU Tryz.prog 83=true:=by kernel_rfl
@[go_sem] theorem fld_83_0:fld Tryz.prog 83 0=some (0,false,1):=by kernel_rfl
@[go_sem] theorem fld_83_1:fld Tryz.prog 83 1=some (1,false,1):=by kernel_rfl
@[go_sem] theorem plc_83:plc Tryz.prog 83=some ([(0,1),(1,1)],[.slice none 0 0,.slice none 0 0]):=by kernel_rfl
@[go_sem] theorem ty_95:ty Tryz.prog 95=some (true,3):=by kernel_rfl
@[go_sem] theorem zer_95:zer Tryz.prog 95=some [.string ⟨([]:List UInt8).toArray⟩,.string ⟨([]:List UInt8).toArray⟩,.slice none 0 0]:=by kernel_rfl
@[go_sem] theorem hu_95:hasU Tryz.prog 95=true:=by kernel_rfl
@[go_sem] theorem fld_95_0:fld Tryz.prog 95 0=some (0,false,1):=by kernel_rfl
@[go_sem] theorem fld_95_1:fld Tryz.prog 95 1=some (1,false,1):=by kernel_rfl
@[go_sem] theorem fld_95_2:fld Tryz.prog 95 2=some (2,false,1):=by kernel_rfl
@[go_sem] theorem plc_95:plc Tryz.prog 95=some ([(0,1),(1,1),(2,1)],[.string ⟨([]:List UInt8).toArray⟩,.string ⟨([]:List UInt8).toArray⟩,.slice none 0 0]):=by kernel_rfl
@[go_sem] theorem ty_99:ty Tryz.prog 99=some (true,3):=by kernel_rfl
@[go_sem] theorem zer_99:zer Tryz.prog 99=some [.string ⟨([]:List UInt8).toArray⟩,.string ⟨([]:List UInt8).toArray⟩,.slice none 0 0]:=by kernel_rfl
@[go_sem] theorem hu_99:hasU Tryz.prog 99=true:=by kernel_rfl
@[go_sem] theorem fld_99_0:fld Tryz.prog 99 0=some (0,false,1):=by kernel_rfl
@[go_sem] theorem fld_99_1:fld Tryz.prog 99 1=some (1,false,1):=by kernel_rfl
@[go_sem] theorem fld_99_2:fld Tryz.prog 99 2=some (2,false,1):=by kernel_rfl
@[go_sem] theorem plc_99:plc Tryz.prog 99=some ([(0,1),(1,1),(2,1)],[.string ⟨([]:List UInt8).toArray⟩,.string ⟨([]:List UInt8).toArray⟩,.slice none 0 0]):=by kernel_rfl
@[go_sem] theorem ty_103:ty Tryz.prog 103=some (true,4):=by kernel_rfl
@[go_sem] theorem zer_103:zer Tryz.prog 103=some [.int .i64 0,.string ⟨([]:List UInt8).toArray⟩,.string ⟨([]:List UInt8).toArray⟩,.slice none 0 0]:=by kernel_rfl
@[go_sem] theorem hu_103:hasU Tryz.prog 103=true:=by kernel_rfl
@[go_sem] theorem fld_103_0:fld Tryz.prog 103 0=some (0,false,1):=by kernel_rfl
@[go_sem] theorem fld_103_1:fld Tryz.prog 103 1=some (1,false,1):=by kernel_rfl
@[go_sem] theorem fld_103_2:fld Tryz.prog 103 2=some (2,false,1):=by kernel_rfl
@[go_sem] theorem fld_103_3:fld Tryz.prog 103 3=some (3,false,1):=by kernel_rfl
@[go_sem] theorem plc_103:plc Tryz.prog 103=some ([(0,1),(1,1),(2,1),(3,1)],[.int .i64 0,.string ⟨([]:List UInt8).toArray⟩,.string ⟨([]:List UInt8).toArray⟩,.slice none 0 0]):=by kernel_rfl
@[go_sem] theorem ty_109:ty Tryz.prog 109=some (false,1):=by kernel_rfl
@[go_sem] theorem zer_109:zer Tryz.prog 109=some [.slice none 0 0]:=by kernel_rfl
@[go_sem] theorem hu_109:hasU Tryz.prog 109=true:=by kernel_rfl
@[go_sem] theorem by_109:byS Tryz.prog 109=false:=by kernel_rfl
@[go_sem] theorem knd_109:knd Tryz.prog 109=some false:=by kernel_rfl
@[go_sem] theorem elm_109:elm Tryz.prog 109=some (238,2,16):=by kernel_rfl
@[go_sem] theorem ty_111:ty Tryz.prog 111=some (true,5):=by kernel_rfl
@[go_sem] theorem zer_111:zer Tryz.prog 111=some [.int .i64 0,.slice none 0 0,.slice none 0 0,.string ⟨([]:List UInt8).toArray⟩,.string ⟨([]:List UInt8).toArray⟩]:=by kernel_rfl
@[go_sem] theorem hu_111:hasU Tryz.prog 111=true:=by kernel_rfl
@[go_sem] theorem fld_111_0:fld Tryz.prog 111 0=some (0,false,1):=by kernel_rfl
@[go_sem] theorem fld_111_1:fld Tryz.prog 111 1=some (1,false,1):=by kernel_rfl
@[go_sem] theorem fld_111_2:fld Tryz.prog 111 2=some (2,false,1):=by kernel_rfl
@[go_sem] theorem fld_111_3:fld Tryz.prog 111 3=some (3,false,1):=by kernel_rfl
@[go_sem] theorem fld_111_4:fld Tryz.prog 111 4=some (4,false,1):=by kernel_rfl
@[go_sem] theorem plc_111:plc Tryz.prog 111=some ([(0,1),(1,1),(2,1),(3,1),(4,1)],[.int .i64 0,.slice none 0 0,.slice none 0 0,.string ⟨([]:List UInt8).toArray⟩,.string ⟨([]:List UInt8).toArray⟩]):=by kernel_rfl
@[go_sem] theorem ty_112:ty Tryz.prog 112=some (false,1):=by kernel_rfl
@[go_sem] theorem zer_112:zer Tryz.prog 112=some [.slice none 0 0]:=by kernel_rfl
@[go_sem] theorem hu_112:hasU Tryz.prog 112=true:=by kernel_rfl
@[go_sem] theorem by_112:byS Tryz.prog 112=false:=by kernel_rfl
@[go_sem] theorem knd_112:knd Tryz.prog 112=some false:=by kernel_rfl
@[go_sem] theorem elm_112:elm Tryz.prog 112=some (206,7,96):=by kernel_rfl
@[go_sem] theorem ty_114:ty Tryz.prog 114=some (true,19):=by kernel_rfl
@[go_sem] theorem zer_114:zer Tryz.prog 114=some [.int .i64 0,.string ⟨([]:List UInt8).toArray⟩,.int .i64 0,.slice none 0 0,.slice none 0 0,.string ⟨([]:List UInt8).toArray⟩,.string ⟨([]:List UInt8).toArray⟩,.slice none 0 0,.slice none 0 0,.string ⟨([]:List UInt8).toArray⟩,.bool false,.bool false,.bool false,.bool false,.int .i64 0,.int .i64 0,.slice none 0 0,.slice none 0 0,.slice none 0 0]:=by kernel_rfl
@[go_sem] theorem hu_114:hasU Tryz.prog 114=true:=by kernel_rfl
@[go_sem] theorem fld_114_0:fld Tryz.prog 114 0=some (0,false,1):=by kernel_rfl
@[go_sem] theorem fld_114_1:fld Tryz.prog 114 1=some (1,false,1):=by kernel_rfl
@[go_sem] theorem fld_114_2:fld Tryz.prog 114 2=some (2,true,5):=by kernel_rfl
@[go_sem] theorem fld_114_3:fld Tryz.prog 114 3=some (7,false,1):=by kernel_rfl
@[go_sem] theorem fld_114_4:fld Tryz.prog 114 4=some (8,false,1):=by kernel_rfl
@[go_sem] theorem fld_114_5:fld Tryz.prog 114 5=some (9,false,1):=by kernel_rfl
@[go_sem] theorem fld_114_6:fld Tryz.prog 114 6=some (10,false,1):=by kernel_rfl
@[go_sem] theorem fld_114_7:fld Tryz.prog 114 7=some (11,false,1):=by kernel_rfl
@[go_sem] theorem fld_114_8:fld Tryz.prog 114 8=some (12,false,1):=by kernel_rfl
@[go_sem] theorem fld_114_9:fld Tryz.prog 114 9=some (13,false,1):=by kernel_rfl
@[go_sem] theorem fld_114_10:fld Tryz.prog 114 10=some (14,false,1):=by kernel_rfl
@[go_sem] theorem fld_114_11:fld Tryz.prog 114 11=some (15,false,1):=by kernel_rfl
@[go_sem] theorem fld_114_12:fld Tryz.prog 114 12=some (16,false,1):=by kernel_rfl
@[go_sem] theorem fld_114_13:fld Tryz.prog 114 13=some (17,false,1):=by kernel_rfl
@[go_sem] theorem fld_114_14:fld Tryz.prog 114 14=some (18,false,1):=by kernel_rfl
@[go_sem] theorem plc_114:plc Tryz.prog 114=some ([(0,1),(1,1),(2,5),(7,1),(8,1),(9,1),(10,1),(11,1),(12,1),(13,1),(14,1),(15,1),(16,1),(17,1),(18,1)],[.int .i64 0,.string ⟨([]:List UInt8).toArray⟩,.int .i64 0,.slice none 0 0,.slice none 0 0,.string ⟨([]:List UInt8).toArray⟩,.string ⟨([]:List UInt8).toArray⟩,.slice none 0 0,.slice none 0 0,.string ⟨([]:List UInt8).toArray⟩,.bool false,.bool false,.bool false,.bool false,.int .i64 0,.int .i64 0,.slice none 0 0,.slice none 0 0,.slice none 0 0]):=by kernel_rfl
@[go_sem] theorem ty_119:ty Tryz.prog 119=some (false,1):=by kernel_rfl
@[go_sem] theorem zer_119:zer Tryz.prog 119=some [.slice none 0 0]:=by kernel_rfl
@[go_sem] theorem hu_119:hasU Tryz.prog 119=true:=by kernel_rfl
@[go_sem] theorem by_119:byS Tryz.prog 119=false:=by kernel_rfl
@[go_sem] theorem knd_119:knd Tryz.prog 119=some false:=by kernel_rfl
@[go_sem] theorem elm_119:elm Tryz.prog 119=some (177,2,16):=by kernel_rfl
@[go_sem] theorem ty_121:ty Tryz.prog 121=some (true,5):=by kernel_rfl
@[go_sem] theorem zer_121:zer Tryz.prog 121=some [.int .i64 0,.slice none 0 0,.slice none 0 0,.string ⟨([]:List UInt8).toArray⟩,.string ⟨([]:List UInt8).toArray⟩]:=by kernel_rfl
@[go_sem] theorem hu_121:hasU Tryz.prog 121=true:=by kernel_rfl
@[go_sem] theorem fld_121_0:fld Tryz.prog 121 0=some (0,false,1):=by kernel_rfl
@[go_sem] theorem fld_121_1:fld Tryz.prog 121 1=some (1,false,1):=by kernel_rfl
@[go_sem] theorem fld_121_2:fld Tryz.prog 121 2=some (2,false,1):=by kernel_rfl
@[go_sem] theorem fld_121_3:fld Tryz.prog 121 3=some (3,false,1):=by kernel_rfl
@[go_sem] theorem fld_121_4:fld Tryz.prog 121 4=some (4,false,1):=by kernel_rfl
@[go_sem] theorem plc_121:plc Tryz.prog 121=some ([(0,1),(1,1),(2,1),(3,1),(4,1)],[.int .i64 0,.slice none 0 0,.slice none 0 0,.string ⟨([]:List UInt8).toArray⟩,.string ⟨([]:List UInt8).toArray⟩]):=by kernel_rfl
@[go_sem] theorem ty_122:ty Tryz.prog 122=some (false,1):=by kernel_rfl
@[go_sem] theorem zer_122:zer Tryz.prog 122=some [.slice none 0 0]:=by kernel_rfl
@[go_sem] theorem hu_122:hasU Tryz.prog 122=true:=by kernel_rfl
@[go_sem] theorem by_122:byS Tryz.prog 122=false:=by kernel_rfl
@[go_sem] theorem knd_122:knd Tryz.prog 122=some false:=by kernel_rfl
@[go_sem] theorem elm_122:elm Tryz.prog 122=some (182,7,96):=by kernel_rfl
@[go_sem] theorem ty_124:ty Tryz.prog 124=some (true,19):=by kernel_rfl
@[go_sem] theorem zer_124:zer Tryz.prog 124=some [.int .i64 0,.string ⟨([]:List UInt8).toArray⟩,.int .i64 0,.slice none 0 0,.slice none 0 0,.string ⟨([]:List UInt8).toArray⟩,.string ⟨([]:List UInt8).toArray⟩,.slice none 0 0,.slice none 0 0,.string ⟨([]:List UInt8).toArray⟩,.bool false,.bool false,.bool false,.bool false,.int .i64 0,.int .i64 0,.slice none 0 0,.slice none 0 0,.slice none 0 0]:=by kernel_rfl
@[go_sem] theorem hu_124:hasU Tryz.prog 124=true:=by kernel_rfl
@[go_sem] theorem fld_124_0:fld Tryz.prog 124 0=some (0,false,1):=by kernel_rfl
@[go_sem] theorem fld_124_1:fld Tryz.prog 124 1=some (1,false,1):=by kernel_rfl
@[go_sem] theorem fld_124_2:fld Tryz.prog 124 2=some (2,true,5):=by kernel_rfl
@[go_sem] theorem fld_124_3:fld Tryz.prog 124 3=some (7,false,1):=by kernel_rfl
@[go_sem] theorem fld_124_4:fld Tryz.prog 124 4=some (8,false,1):=by kernel_rfl
@[go_sem] theorem fld_124_5:fld Tryz.prog 124 5=some (9,false,1):=by kernel_rfl
@[go_sem] theorem fld_124_6:fld Tryz.prog 124 6=some (10,false,1):=by kernel_rfl
@[go_sem] theorem fld_124_7:fld Tryz.prog 124 7=some (11,false,1):=by kernel_rfl
@[go_sem] theorem fld_124_8:fld Tryz.prog 124 8=some (12,false,1):=by kernel_rfl
@[go_sem] theorem fld_124_9:fld Tryz.prog 124 9=some (13,false,1):=by kernel_rfl
@[go_sem] theorem fld_124_10:fld Tryz.prog 124 10=some (14,false,1):=by kernel_rfl
@[go_sem] theorem fld_124_11:fld Tryz.prog 124 11=some (15,false,1):=by kernel_rfl
@[go_sem] theorem fld_124_12:fld Tryz.prog 124 12=some (16,false,1):=by kernel_rfl
@[go_sem] theorem fld_124_13:fld Tryz.prog 124 13=some (17,false,1):=by kernel_rfl
@[go_sem] theorem fld_124_14:fld Tryz.prog 124 14=some (18,false,1):=by kernel_rfl
@[go_sem] theorem plc_124:plc Tryz.prog 124=some ([(0,1),(1,1),(2,5),(7,1),(8,1),(9,1),(10,1),(11,1),(12,1),(13,1),(14,1),(15,1),(16,1),(17,1),(18,1)],[.int .i64 0,.string ⟨([]:List UInt8).toArray⟩,.int .i64 0,.slice none 0 0,.slice none 0 0,.string ⟨([]:List UInt8).toArray⟩,.string ⟨([]:List UInt8).toArray⟩,.slice none 0 0,.slice none 0 0,.string ⟨([]:List UInt8).toArray⟩,.bool false,.bool false,.bool false,.bool false,.int .i64 0,.int .i64 0,.slice none 0 0,.slice none 0 0,.slice none 0 0]):=by kernel_rfl
@[go_sem] theorem ty_150:ty Tryz.prog 150=some (true,3):=by kernel_rfl
@[go_sem] theorem zer_150:zer Tryz.prog 150=some [.int .i64 0,.int .i64 0,.slice none 0 0]:=by kernel_rfl
@[go_sem] theorem hu_150:hasU Tryz.prog 150=true:=by kernel_rfl
@[go_sem] theorem fld_150_0:fld Tryz.prog 150 0=some (0,false,1):=by kernel_rfl
@[go_sem] theorem fld_150_1:fld Tryz.prog 150 1=some (1,false,1):=by kernel_rfl
@[go_sem] theorem fld_150_2:fld Tryz.prog 150 2=some (2,false,1):=by kernel_rfl
@[go_sem] theorem plc_150:plc Tryz.prog 150=some ([(0,1),(1,1),(2,1)],[.int .i64 0,.int .i64 0,.slice none 0 0]):=by kernel_rfl
@[go_sem] theorem ty_159:ty Tryz.prog 159=some (false,1):=by kernel_rfl
@[go_sem] theorem zer_159:zer Tryz.prog 159=some [.slice none 0 0]:=by kernel_rfl
@[go_sem] theorem hu_159:hasU Tryz.prog 159=true:=by kernel_rfl
@[go_sem] theorem by_159:byS Tryz.prog 159=true:=by kernel_rfl
@[go_sem] theorem knd_159:knd Tryz.prog 159=some false:=by kernel_rfl
@[go_sem] theorem elm_159:elm Tryz.prog 159=some (5,1,1):=by kernel_rfl
@[go_sem] theorem ty_163:ty Tryz.prog 163=some (false,1):=by kernel_rfl
@[go_sem] theorem zer_163:zer Tryz.prog 163=some [.slice none 0 0]:=by kernel_rfl
@[go_sem] theorem hu_163:hasU Tryz.prog 163=true:=by kernel_rfl
@[go_sem] theorem by_163:byS Tryz.prog 163=false:=by kernel_rfl
@[go_sem] theorem knd_163:knd Tryz.prog 163=some false:=by kernel_rfl
@[go_sem] theorem elm_163:elm Tryz.prog 163=some (209,4,64):=by kernel_rfl
@[go_sem] theorem ty_177:ty Tryz.prog 177=some (true,2):=by kernel_rfl
@[go_sem] theorem zer_177:zer Tryz.prog 177=some [.int .i64 0,.int .i64 0]:=by kernel_rfl
@[go_sem] theorem hu_177:hasU Tryz.prog 177=true:=by kernel_rfl
@[go_sem] theorem fld_177_0:fld Tryz.prog 177 0=some (0,false,1):=by kernel_rfl
@[go_sem] theorem fld_177_1:fld Tryz.prog 177 1=some (1,false,1):=by kernel_rfl
@[go_sem] theorem plc_177:plc Tryz.prog 177=some ([(0,1),(1,1)],[.int .i64 0,.int .i64 0]):=by kernel_rfl
@[go_sem] theorem ty_178:ty Tryz.prog 178=some (false,1):=by kernel_rfl
@[go_sem] theorem zer_178:zer Tryz.prog 178=some [.slice none 0 0]:=by kernel_rfl
@[go_sem] theorem hu_178:hasU Tryz.prog 178=true:=by kernel_rfl
@[go_sem] theorem by_178:byS Tryz.prog 178=false:=by kernel_rfl
@[go_sem] theorem knd_178:knd Tryz.prog 178=some false:=by kernel_rfl
@[go_sem] theorem elm_178:elm Tryz.prog 178=some (224,2,40):=by kernel_rfl
@[go_sem] theorem ty_180:ty Tryz.prog 180=some (true,3):=by kernel_rfl
@[go_sem] theorem zer_180:zer Tryz.prog 180=some [.bool false,.int .i64 0,.slice none 0 0]:=by kernel_rfl
@[go_sem] theorem hu_180:hasU Tryz.prog 180=true:=by kernel_rfl
@[go_sem] theorem fld_180_0:fld Tryz.prog 180 0=some (0,false,1):=by kernel_rfl
@[go_sem] theorem fld_180_1:fld Tryz.prog 180 1=some (1,false,1):=by kernel_rfl
@[go_sem] theorem fld_180_2:fld Tryz.prog 180 2=some (2,false,1):=by kernel_rfl
@[go_sem] theorem plc_180:plc Tryz.prog 180=some ([(0,1),(1,1),(2,1)],[.bool false,.int .i64 0,.slice none 0 0]):=by kernel_rfl
@[go_sem] theorem ty_182:ty Tryz.prog 182=some (true,7):=by kernel_rfl
@[go_sem] theorem zer_182:zer Tryz.prog 182=some [.int .i64 0,.int .i64 0,.string ⟨([]:List UInt8).toArray⟩,.bool false,.int .i64 0,.slice none 0 0,.slice none 0 0]:=by kernel_rfl
@[go_sem] theorem hu_182:hasU Tryz.prog 182=true:=by kernel_rfl
@[go_sem] theorem fld_182_0:fld Tryz.prog 182 0=some (0,false,1):=by kernel_rfl
@[go_sem] theorem fld_182_1:fld Tryz.prog 182 1=some (1,false,1):=by kernel_rfl
@[go_sem] theorem fld_182_2:fld Tryz.prog 182 2=some (2,false,1):=by kernel_rfl
@[go_sem] theorem fld_182_3:fld Tryz.prog 182 3=some (3,true,3):=by kernel_rfl
@[go_sem] theorem fld_182_4:fld Tryz.prog 182 4=some (6,false,1):=by kernel_rfl
@[go_sem] theorem plc_182:plc Tryz.prog 182=some ([(0,1),(1,1),(2,1),(3,3),(6,1)],[.int .i64 0,.int .i64 0,.string ⟨([]:List UInt8).toArray⟩,.bool false,.int .i64 0,.slice none 0 0,.slice none 0 0]):=by kernel_rfl
@[go_sem] theorem ty_189:ty Tryz.prog 189=some (true,3):=by kernel_rfl
@[go_sem] theorem zer_189:zer Tryz.prog 189=some [.int .i64 0,.int .i64 0,.slice none 0 0]:=by kernel_rfl
@[go_sem] theorem hu_189:hasU Tryz.prog 189=true:=by kernel_rfl
@[go_sem] theorem fld_189_0:fld Tryz.prog 189 0=some (0,false,1):=by kernel_rfl
@[go_sem] theorem fld_189_1:fld Tryz.prog 189 1=some (1,false,1):=by kernel_rfl
@[go_sem] theorem fld_189_2:fld Tryz.prog 189 2=some (2,false,1):=by kernel_rfl
@[go_sem] theorem plc_189:plc Tryz.prog 189=some ([(0,1),(1,1),(2,1)],[.int .i64 0,.int .i64 0,.slice none 0 0]):=by kernel_rfl
@[go_sem] theorem ty_194:ty Tryz.prog 194=some (true,3):=by kernel_rfl
@[go_sem] theorem zer_194:zer Tryz.prog 194=some [.slice none 0 0,.int .i64 0,.int .i64 0]:=by kernel_rfl
@[go_sem] theorem hu_194:hasU Tryz.prog 194=true:=by kernel_rfl
@[go_sem] theorem fld_194_0:fld Tryz.prog 194 0=some (0,false,1):=by kernel_rfl
@[go_sem] theorem fld_194_1:fld Tryz.prog 194 1=some (1,false,1):=by kernel_rfl
@[go_sem] theorem fld_194_2:fld Tryz.prog 194 2=some (2,false,1):=by kernel_rfl
@[go_sem] theorem plc_194:plc Tryz.prog 194=some ([(0,1),(1,1),(2,1)],[.slice none 0 0,.int .i64 0,.int .i64 0]):=by kernel_rfl
@[go_sem] theorem ty_197:ty Tryz.prog 197=some (true,3):=by kernel_rfl
@[go_sem] theorem zer_197:zer Tryz.prog 197=some [.slice none 0 0,.int .i64 0,.int .i64 0]:=by kernel_rfl
@[go_sem] theorem hu_197:hasU Tryz.prog 197=true:=by kernel_rfl
@[go_sem] theorem fld_197_0:fld Tryz.prog 197 0=some (0,false,1):=by kernel_rfl
@[go_sem] theorem fld_197_1:fld Tryz.prog 197 1=some (1,false,1):=by kernel_rfl
@[go_sem] theorem fld_197_2:fld Tryz.prog 197 2=some (2,false,1):=by kernel_rfl
@[go_sem] theorem plc_197:plc Tryz.prog 197=some ([(0,1),(1,1),(2,1)],[.slice none 0 0,.int .i64 0,.int .i64 0]):=by kernel_rfl
@[go_sem] theorem ty_202:ty Tryz.prog 202=some (false,1):=by kernel_rfl
@[go_sem] theorem zer_202:zer Tryz.prog 202=some [.slice none 0 0]:=by kernel_rfl
@[go_sem] theorem hu_202:hasU Tryz.prog 202=true:=by kernel_rfl
@[go_sem] theorem by_202:byS Tryz.prog 202=false:=by kernel_rfl
@[go_sem] theorem knd_202:knd Tryz.prog 202=some false:=by kernel_rfl
@[go_sem] theorem elm_202:elm Tryz.prog 202=some (286,2,40):=by kernel_rfl
@[go_sem] theorem ty_204:ty Tryz.prog 204=some (true,3):=by kernel_rfl
@[go_sem] theorem zer_204:zer Tryz.prog 204=some [.bool false,.int .i64 0,.slice none 0 0]:=by kernel_rfl
@[go_sem] theorem hu_204:hasU Tryz.prog 204=true:=by kernel_rfl
@[go_sem] theorem fld_204_0:fld Tryz.prog 204 0=some (0,false,1):=by kernel_rfl
@[go_sem] theorem fld_204_1:fld Tryz.prog 204 1=some (1,false,1):=by kernel_rfl
@[go_sem] theorem fld_204_2:fld Tryz.prog 204 2=some (2,false,1):=by kernel_rfl
@[go_sem] theorem plc_204:plc Tryz.prog 204=some ([(0,1),(1,1),(2,1)],[.bool false,.int .i64 0,.slice none 0 0]):=by kernel_rfl
@[go_sem] theorem ty_206:ty Tryz.prog 206=some (true,7):=by kernel_rfl
@[go_sem] theorem zer_206:zer Tryz.prog 206=some [.int .i64 0,.int .i64 0,.string ⟨([]:List UInt8).toArray⟩,.bool false,.int .i64 0,.slice none 0 0,.slice none 0 0]:=by kernel_rfl
@[go_sem] theorem hu_206:hasU Tryz.prog 206=true:=by kernel_rfl
@[go_sem] theorem fld_206_0:fld Tryz.prog 206 0=some (0,false,1):=by kernel_rfl
@[go_sem] theorem fld_206_1:fld Tryz.prog 206 1=some (1,false,1):=by kernel_rfl
@[go_sem] theorem fld_206_2:fld Tryz.prog 206 2=some (2,false,1):=by kernel_rfl
@[go_sem] theorem fld_206_3:fld Tryz.prog 206 3=some (3,true,3):=by kernel_rfl
@[go_sem] theorem fld_206_4:fld Tryz.prog 206 4=some (6,false,1):=by kernel_rfl
@[go_sem] theorem plc_206:plc Tryz.prog 206=some ([(0,1),(1,1),(2,1),(3,3),(6,1)],[.int .i64 0,.int .i64 0,.string ⟨([]:List UInt8).toArray⟩,.bool false,.int .i64 0,.slice none 0 0,.slice none 0 0]):=by kernel_rfl
@[go_sem] theorem ty_209:ty Tryz.prog 209=some (true,4):=by kernel_rfl
@[go_sem] theorem zer_209:zer Tryz.prog 209=some [.int .i64 0,.string ⟨([]:List UInt8).toArray⟩,.string ⟨([]:List UInt8).toArray⟩,.slice none 0 0]:=by kernel_rfl
@[go_sem] theorem hu_209:hasU Tryz.prog 209=true:=by kernel_rfl
@[go_sem] theorem fld_209_0:fld Tryz.prog 209 0=some (0,false,1):=by kernel_rfl
@[go_sem] theorem fld_209_1:fld Tryz.prog 209 1=some (1,false,1):=by kernel_rfl
@[go_sem] theorem fld_209_2:fld Tryz.prog 209 2=some (2,false,1):=by kernel_rfl
@[go_sem] theorem fld_209_3:fld Tryz.prog 209 3=some (3,false,1):=by kernel_rfl
@[go_sem] theorem plc_209:plc Tryz.prog 209=some ([(0,1),(1,1),(2,1),(3,1)],[.int .i64 0,.string ⟨([]:List UInt8).toArray⟩,.string ⟨([]:List UInt8).toArray⟩,.slice none 0 0]):=by kernel_rfl
@[go_sem] theorem ty_222:ty Tryz.prog 222=some (false,1):=by kernel_rfl
@[go_sem] theorem zer_222:zer Tryz.prog 222=some [.slice none 0 0]:=by kernel_rfl
@[go_sem] theorem hu_222:hasU Tryz.prog 222=true:=by kernel_rfl
@[go_sem] theorem by_222:byS Tryz.prog 222=false:=by kernel_rfl
@[go_sem] theorem knd_222:knd Tryz.prog 222=some false:=by kernel_rfl
@[go_sem] theorem elm_222:elm Tryz.prog 222=some (247,2,32):=by kernel_rfl
@[go_sem] theorem ty_224:ty Tryz.prog 224=some (true,2):=by kernel_rfl
@[go_sem] theorem zer_224:zer Tryz.prog 224=some [.string ⟨([]:List UInt8).toArray⟩,.slice none 0 0]:=by kernel_rfl
@[go_sem] theorem hu_224:hasU Tryz.prog 224=true:=by kernel_rfl
@[go_sem] theorem fld_224_0:fld Tryz.prog 224 0=some (0,false,1):=by kernel_rfl
@[go_sem] theorem fld_224_1:fld Tryz.prog 224 1=some (1,false,1):=by kernel_rfl
@[go_sem] theorem plc_224:plc Tryz.prog 224=some ([(0,1),(1,1)],[.string ⟨([]:List UInt8).toArray⟩,.slice none 0 0]):=by kernel_rfl
@[go_sem] theorem ty_238:ty Tryz.prog 238=some (true,2):=by kernel_rfl
@[go_sem] theorem zer_238:zer Tryz.prog 238=some [.int .i64 0,.int .i64 0]:=by kernel_rfl
@[go_sem] theorem hu_238:hasU Tryz.prog 238=true:=by kernel_rfl
@[go_sem] theorem fld_238_0:fld Tryz.prog 238 0=some (0,false,1):=by kernel_rfl
@[go_sem] theorem fld_238_1:fld Tryz.prog 238 1=some (1,false,1):=by kernel_rfl
@[go_sem] theorem plc_238:plc Tryz.prog 238=some ([(0,1),(1,1)],[.int .i64 0,.int .i64 0]):=by kernel_rfl
@[go_sem] theorem ty_240:ty Tryz.prog 240=some (false,1):=by kernel_rfl
@[go_sem] theorem zer_240:zer Tryz.prog 240=some [.slice none 0 0]:=by kernel_rfl
@[go_sem] theorem hu_240:hasU Tryz.prog 240=true:=by kernel_rfl
@[go_sem] theorem by_240:byS Tryz.prog 240=false:=by kernel_rfl
@[go_sem] theorem knd_240:knd Tryz.prog 240=some false:=by kernel_rfl
@[go_sem] theorem elm_240:elm Tryz.prog 240=some (4,1,1):=by kernel_rfl
@[go_sem] theorem ty_247:ty Tryz.prog 247=some (true,2):=by kernel_rfl
@[go_sem] theorem zer_247:zer Tryz.prog 247=some [.string ⟨([]:List UInt8).toArray⟩,.string ⟨([]:List UInt8).toArray⟩]:=by kernel_rfl
@[go_sem] theorem hu_247:hasU Tryz.prog 247=true:=by kernel_rfl
@[go_sem] theorem fld_247_0:fld Tryz.prog 247 0=some (0,false,1):=by kernel_rfl
@[go_sem] theorem fld_247_1:fld Tryz.prog 247 1=some (1,false,1):=by kernel_rfl
@[go_sem] theorem plc_247:plc Tryz.prog 247=some ([(0,1),(1,1)],[.string ⟨([]:List UInt8).toArray⟩,.string ⟨([]:List UInt8).toArray⟩]):=by kernel_rfl
@[go_sem] theorem ty_284:ty Tryz.prog 284=some (false,1):=by kernel_rfl
@[go_sem] theorem zer_284:zer Tryz.prog 284=some [.slice none 0 0]:=by kernel_rfl
@[go_sem] theorem hu_284:hasU Tryz.prog 284=true:=by kernel_rfl
@[go_sem] theorem by_284:byS Tryz.prog 284=false:=by kernel_rfl
@[go_sem] theorem knd_284:knd Tryz.prog 284=some false:=by kernel_rfl
@[go_sem] theorem elm_284:elm Tryz.prog 284=some (309,2,32):=by kernel_rfl
@[go_sem] theorem ty_286:ty Tryz.prog 286=some (true,2):=by kernel_rfl
@[go_sem] theorem zer_286:zer Tryz.prog 286=some [.string ⟨([]:List UInt8).toArray⟩,.slice none 0 0]:=by kernel_rfl
@[go_sem] theorem hu_286:hasU Tryz.prog 286=true:=by kernel_rfl
@[go_sem] theorem fld_286_0:fld Tryz.prog 286 0=some (0,false,1):=by kernel_rfl
@[go_sem] theorem fld_286_1:fld Tryz.prog 286 1=some (1,false,1):=by kernel_rfl
@[go_sem] theorem plc_286:plc Tryz.prog 286=some ([(0,1),(1,1)],[.string ⟨([]:List UInt8).toArray⟩,.slice none 0 0]):=by kernel_rfl
@[go_sem] theorem ty_300:ty Tryz.prog 300=some (false,1):=by kernel_rfl
@[go_sem] theorem zer_300:zer Tryz.prog 300=some [.slice none 0 0]:=by kernel_rfl
@[go_sem] theorem hu_300:hasU Tryz.prog 300=true:=by kernel_rfl
@[go_sem] theorem by_300:byS Tryz.prog 300=false:=by kernel_rfl
@[go_sem] theorem knd_300:knd Tryz.prog 300=some false:=by kernel_rfl
@[go_sem] theorem elm_300:elm Tryz.prog 300=some (302,3,48):=by kernel_rfl
@[go_sem] theorem ty_302:ty Tryz.prog 302=some (true,3):=by kernel_rfl
@[go_sem] theorem zer_302:zer Tryz.prog 302=some [.int .i64 0,.string ⟨([]:List UInt8).toArray⟩,.slice none 0 0]:=by kernel_rfl
@[go_sem] theorem hu_302:hasU Tryz.prog 302=true:=by kernel_rfl
@[go_sem] theorem fld_302_0:fld Tryz.prog 302 0=some (0,false,1):=by kernel_rfl
@[go_sem] theorem fld_302_1:fld Tryz.prog 302 1=some (1,false,1):=by kernel_rfl
@[go_sem] theorem fld_302_2:fld Tryz.prog 302 2=some (2,false,1):=by kernel_rfl
@[go_sem] theorem plc_302:plc Tryz.prog 302=some ([(0,1),(1,1),(2,1)],[.int .i64 0,.string ⟨([]:List UInt8).toArray⟩,.slice none 0 0]):=by kernel_rfl
@[go_sem] theorem ty_309:ty Tryz.prog 309=some (true,2):=by kernel_rfl
@[go_sem] theorem zer_309:zer Tryz.prog 309=some [.string ⟨([]:List UInt8).toArray⟩,.string ⟨([]:List UInt8).toArray⟩]:=by kernel_rfl
@[go_sem] theorem hu_309:hasU Tryz.prog 309=true:=by kernel_rfl
@[go_sem] theorem fld_309_0:fld Tryz.prog 309 0=some (0,false,1):=by kernel_rfl
@[go_sem] theorem fld_309_1:fld Tryz.prog 309 1=some (1,false,1):=by kernel_rfl
@[go_sem] theorem plc_309:plc Tryz.prog 309=some ([(0,1),(1,1)],[.string ⟨([]:List UInt8).toArray⟩,.string ⟨([]:List UInt8).toArray⟩]):=by kernel_rfl
@[go_sem] theorem ty_312:ty Tryz.prog 312=some (false,1):=by kernel_rfl
@[go_sem] theorem zer_312:zer Tryz.prog 312=some [.pointer none]:=by kernel_rfl
@[go_sem] theorem hu_312:hasU Tryz.prog 312=true:=by kernel_rfl
@[go_sem] theorem ty_314:ty Tryz.prog 314=some (true,3):=by kernel_rfl
@[go_sem] theorem zer_314:zer Tryz.prog 314=some [.string ⟨([]:List UInt8).toArray⟩,.int .i64 0,.bool false]:=by kernel_rfl
@[go_sem] theorem hu_314:hasU Tryz.prog 314=true:=by kernel_rfl
@[go_sem] theorem fld_314_0:fld Tryz.prog 314 0=some (0,false,1):=by kernel_rfl
@[go_sem] theorem fld_314_1:fld Tryz.prog 314 1=some (1,false,1):=by kernel_rfl
@[go_sem] theorem fld_314_2:fld Tryz.prog 314 2=some (2,false,1):=by kernel_rfl
@[go_sem] theorem plc_314:plc Tryz.prog 314=some ([(0,1),(1,1),(2,1)],[.string ⟨([]:List UInt8).toArray⟩,.int .i64 0,.bool false]):=by kernel_rfl
@[go_sem] theorem ty_318:ty Tryz.prog 318=some (false,1):=by kernel_rfl
@[go_sem] theorem zer_318:zer Tryz.prog 318=some [.pointer none]:=by kernel_rfl
@[go_sem] theorem hu_318:hasU Tryz.prog 318=true:=by kernel_rfl
@[go_sem] theorem ty_320:ty Tryz.prog 320=some (true,3):=by kernel_rfl
@[go_sem] theorem zer_320:zer Tryz.prog 320=some [.string ⟨([]:List UInt8).toArray⟩,.int .i64 0,.bool false]:=by kernel_rfl
@[go_sem] theorem hu_320:hasU Tryz.prog 320=true:=by kernel_rfl
@[go_sem] theorem fld_320_0:fld Tryz.prog 320 0=some (0,false,1):=by kernel_rfl
@[go_sem] theorem fld_320_1:fld Tryz.prog 320 1=some (1,false,1):=by kernel_rfl
@[go_sem] theorem fld_320_2:fld Tryz.prog 320 2=some (2,false,1):=by kernel_rfl
@[go_sem] theorem plc_320:plc Tryz.prog 320=some ([(0,1),(1,1),(2,1)],[.string ⟨([]:List UInt8).toArray⟩,.int .i64 0,.bool false]):=by kernel_rfl
@[go_sem] theorem ty_331:ty Tryz.prog 331=some (false,1):=by kernel_rfl
@[go_sem] theorem zer_331:zer Tryz.prog 331=some [.int .u64 0]:=by kernel_rfl
@[go_sem] theorem ik_331:ikd Tryz.prog 331=some .u64:=by kernel_rfl
@[go_sem] theorem hu_331:hasU Tryz.prog 331=true:=by kernel_rfl
@[go_sem] theorem ty_340:ty Tryz.prog 340=some (false,1):=by kernel_rfl
@[go_sem] theorem zer_340:zer Tryz.prog 340=some [.int .u32 0]:=by kernel_rfl
@[go_sem] theorem ik_340:ikd Tryz.prog 340=some .u32:=by kernel_rfl
@[go_sem] theorem hu_340:hasU Tryz.prog 340=true:=by kernel_rfl
@[go_sem] theorem ty_342:ty Tryz.prog 342=some (false,1):=by kernel_rfl
@[go_sem] theorem zer_342:zer Tryz.prog 342=some [.int .u64 0]:=by kernel_rfl
@[go_sem] theorem ik_342:ikd Tryz.prog 342=some .u64:=by kernel_rfl
@[go_sem] theorem hu_342:hasU Tryz.prog 342=true:=by kernel_rfl
theorem en3:enters Tryz.prog 3=true:=by kernel_rfl
theorem en9:enters Tryz.prog 9=true:=by kernel_rfl
theorem en10:enters Tryz.prog 10=true:=by kernel_rfl
theorem en11:enters Tryz.prog 11=true:=by kernel_rfl
theorem en12:enters Tryz.prog 12=true:=by kernel_rfl
theorem en13:enters Tryz.prog 13=true:=by kernel_rfl
theorem en14:enters Tryz.prog 14=true:=by kernel_rfl
theorem en15:enters Tryz.prog 15=true:=by kernel_rfl
theorem en16:enters Tryz.prog 16=true:=by kernel_rfl
theorem en17:enters Tryz.prog 17=true:=by kernel_rfl
theorem en18:enters Tryz.prog 18=true:=by kernel_rfl
theorem en19:enters Tryz.prog 19=true:=by kernel_rfl
theorem en20:enters Tryz.prog 20=true:=by kernel_rfl
theorem en21:enters Tryz.prog 21=true:=by kernel_rfl
theorem en22:enters Tryz.prog 22=true:=by kernel_rfl
theorem en25:enters Tryz.prog 25=true:=by kernel_rfl
theorem en29:enters Tryz.prog 29=true:=by kernel_rfl
theorem en30:enters Tryz.prog 30=true:=by kernel_rfl
theorem en47:enters Tryz.prog 47=true:=by kernel_rfl
theorem en48:enters Tryz.prog 48=true:=by kernel_rfl
theorem en49:enters Tryz.prog 49=true:=by kernel_rfl
theorem en50:enters Tryz.prog 50=true:=by kernel_rfl
theorem en51:enters Tryz.prog 51=true:=by kernel_rfl
theorem en52:enters Tryz.prog 52=true:=by kernel_rfl
theorem en53:enters Tryz.prog 53=true:=by kernel_rfl
theorem en54:enters Tryz.prog 54=true:=by kernel_rfl
theorem en55:enters Tryz.prog 55=true:=by kernel_rfl
theorem en56:enters Tryz.prog 56=true:=by kernel_rfl
theorem en57:enters Tryz.prog 57=true:=by kernel_rfl
theorem en58:enters Tryz.prog 58=true:=by kernel_rfl
theorem en59:enters Tryz.prog 59=true:=by kernel_rfl
theorem en63:enters Tryz.prog 63=true:=by kernel_rfl
theorem en64:enters Tryz.prog 64=true:=by kernel_rfl
theorem en68:enters Tryz.prog 68=true:=by kernel_rfl
theorem en69:enters Tryz.prog 69=true:=by kernel_rfl
theorem en70:enters Tryz.prog 70=true:=by kernel_rfl
theorem en72:enters Tryz.prog 72=true:=by kernel_rfl
theorem en73:enters Tryz.prog 73=true:=by kernel_rfl
theorem en74:enters Tryz.prog 74=true:=by kernel_rfl
theorem en75:enters Tryz.prog 75=true:=by kernel_rfl
theorem en81:enters Tryz.prog 81=true:=by kernel_rfl
theorem en84:enters Tryz.prog 84=true:=by kernel_rfl
theorem en91:enters Tryz.prog 91=true:=by kernel_rfl
theorem en100:enters Tryz.prog 100=true:=by kernel_rfl
theorem en101:enters Tryz.prog 101=true:=by kernel_rfl
theorem en102:enters Tryz.prog 102=true:=by kernel_rfl
theorem en103:enters Tryz.prog 103=true:=by kernel_rfl
theorem en104:enters Tryz.prog 104=true:=by kernel_rfl
theorem en105:enters Tryz.prog 105=true:=by kernel_rfl
theorem en106:enters Tryz.prog 106=true:=by kernel_rfl
theorem en107:enters Tryz.prog 107=true:=by kernel_rfl
theorem en108:enters Tryz.prog 108=true:=by kernel_rfl
theorem en109:enters Tryz.prog 109=true:=by kernel_rfl
theorem en110:enters Tryz.prog 110=true:=by kernel_rfl
theorem en111:enters Tryz.prog 111=true:=by kernel_rfl
theorem en114:enters Tryz.prog 114=true:=by kernel_rfl
theorem en115:enters Tryz.prog 115=true:=by kernel_rfl
theorem en118:enters Tryz.prog 118=true:=by kernel_rfl
theorem en119:enters Tryz.prog 119=true:=by kernel_rfl
theorem en120:enters Tryz.prog 120=true:=by kernel_rfl
theorem en121:enters Tryz.prog 121=true:=by kernel_rfl
theorem en122:enters Tryz.prog 122=true:=by kernel_rfl
theorem en123:enters Tryz.prog 123=true:=by kernel_rfl
theorem en124:enters Tryz.prog 124=true:=by kernel_rfl
theorem en126:enters Tryz.prog 126=true:=by kernel_rfl
theorem en127:enters Tryz.prog 127=true:=by kernel_rfl
theorem en128:enters Tryz.prog 128=true:=by kernel_rfl
theorem en129:enters Tryz.prog 129=true:=by kernel_rfl
theorem en131:enters Tryz.prog 131=true:=by kernel_rfl
theorem en132:enters Tryz.prog 132=true:=by kernel_rfl
theorem en133:enters Tryz.prog 133=true:=by kernel_rfl
theorem en137:enters Tryz.prog 137=true:=by kernel_rfl
theorem en138:enters Tryz.prog 138=true:=by kernel_rfl
theorem en139:enters Tryz.prog 139=true:=by kernel_rfl
theorem en140:enters Tryz.prog 140=true:=by kernel_rfl
theorem en141:enters Tryz.prog 141=true:=by kernel_rfl
theorem en142:enters Tryz.prog 142=true:=by kernel_rfl
theorem en143:enters Tryz.prog 143=true:=by kernel_rfl
theorem en144:enters Tryz.prog 144=true:=by kernel_rfl
theorem en145:enters Tryz.prog 145=true:=by kernel_rfl
theorem en148:enters Tryz.prog 148=true:=by kernel_rfl
theorem en149:enters Tryz.prog 149=true:=by kernel_rfl
theorem en151:enters Tryz.prog 151=true:=by kernel_rfl
theorem en152:enters Tryz.prog 152=true:=by kernel_rfl
theorem en153:enters Tryz.prog 153=true:=by kernel_rfl
theorem en154:enters Tryz.prog 154=true:=by kernel_rfl
theorem en155:enters Tryz.prog 155=true:=by kernel_rfl
theorem en156:enters Tryz.prog 156=true:=by kernel_rfl
theorem en157:enters Tryz.prog 157=true:=by kernel_rfl
theorem en158:enters Tryz.prog 158=true:=by kernel_rfl
theorem en159:enters Tryz.prog 159=true:=by kernel_rfl
theorem en160:enters Tryz.prog 160=true:=by kernel_rfl
theorem en162:enters Tryz.prog 162=true:=by kernel_rfl
theorem en163:enters Tryz.prog 163=true:=by kernel_rfl
theorem en164:enters Tryz.prog 164=true:=by kernel_rfl
theorem en165:enters Tryz.prog 165=true:=by kernel_rfl
theorem en166:enters Tryz.prog 166=true:=by kernel_rfl
theorem en167:enters Tryz.prog 167=true:=by kernel_rfl
theorem en169:enters Tryz.prog 169=true:=by kernel_rfl
theorem en170:enters Tryz.prog 170=true:=by kernel_rfl
theorem en171:enters Tryz.prog 171=true:=by kernel_rfl
theorem en172:enters Tryz.prog 172=true:=by kernel_rfl
theorem en173:enters Tryz.prog 173=true:=by kernel_rfl
theorem en174:enters Tryz.prog 174=true:=by kernel_rfl
theorem en175:enters Tryz.prog 175=true:=by kernel_rfl
theorem en176:enters Tryz.prog 176=true:=by kernel_rfl
theorem en177:enters Tryz.prog 177=true:=by kernel_rfl
theorem en178:enters Tryz.prog 178=true:=by kernel_rfl
theorem en179:enters Tryz.prog 179=true:=by kernel_rfl
theorem en180:enters Tryz.prog 180=true:=by kernel_rfl
theorem en181:enters Tryz.prog 181=true:=by kernel_rfl
theorem en182:enters Tryz.prog 182=true:=by kernel_rfl
theorem en183:enters Tryz.prog 183=true:=by kernel_rfl
theorem en184:enters Tryz.prog 184=true:=by kernel_rfl
theorem en188:enters Tryz.prog 188=true:=by kernel_rfl
theorem en189:enters Tryz.prog 189=true:=by kernel_rfl
theorem en190:enters Tryz.prog 190=true:=by kernel_rfl
theorem en191:enters Tryz.prog 191=true:=by kernel_rfl
theorem en192:enters Tryz.prog 192=true:=by kernel_rfl
theorem en193:enters Tryz.prog 193=true:=by kernel_rfl
theorem en194:enters Tryz.prog 194=true:=by kernel_rfl
theorem en195:enters Tryz.prog 195=true:=by kernel_rfl
theorem en201:enters Tryz.prog 201=true:=by kernel_rfl
theorem en202:enters Tryz.prog 202=true:=by kernel_rfl
theorem en203:enters Tryz.prog 203=true:=by kernel_rfl
theorem en204:enters Tryz.prog 204=true:=by kernel_rfl
theorem en205:enters Tryz.prog 205=true:=by kernel_rfl
theorem en206:enters Tryz.prog 206=true:=by kernel_rfl
theorem en207:enters Tryz.prog 207=true:=by kernel_rfl
theorem en208:enters Tryz.prog 208=true:=by kernel_rfl
theorem en209:enters Tryz.prog 209=true:=by kernel_rfl
theorem en210:enters Tryz.prog 210=true:=by kernel_rfl
theorem en211:enters Tryz.prog 211=true:=by kernel_rfl
theorem en212:enters Tryz.prog 212=true:=by kernel_rfl
theorem en217:enters Tryz.prog 217=true:=by kernel_rfl
theorem en218:enters Tryz.prog 218=true:=by kernel_rfl
theorem en219:enters Tryz.prog 219=true:=by kernel_rfl
theorem en220:enters Tryz.prog 220=true:=by kernel_rfl
theorem en221:enters Tryz.prog 221=true:=by kernel_rfl
theorem en222:enters Tryz.prog 222=true:=by kernel_rfl
theorem en223:enters Tryz.prog 223=true:=by kernel_rfl
theorem en224:enters Tryz.prog 224=true:=by kernel_rfl
theorem en227:enters Tryz.prog 227=true:=by kernel_rfl
theorem en228:enters Tryz.prog 228=true:=by kernel_rfl
theorem en229:enters Tryz.prog 229=true:=by kernel_rfl
theorem en230:enters Tryz.prog 230=true:=by kernel_rfl
theorem en231:enters Tryz.prog 231=true:=by kernel_rfl
theorem en232:enters Tryz.prog 232=true:=by kernel_rfl
theorem en233:enters Tryz.prog 233=true:=by kernel_rfl
theorem en234:enters Tryz.prog 234=true:=by kernel_rfl
theorem en235:enters Tryz.prog 235=true:=by kernel_rfl
theorem en236:enters Tryz.prog 236=true:=by kernel_rfl
theorem en237:enters Tryz.prog 237=true:=by kernel_rfl
theorem en238:enters Tryz.prog 238=true:=by kernel_rfl
theorem en239:enters Tryz.prog 239=true:=by kernel_rfl
theorem en240:enters Tryz.prog 240=true:=by kernel_rfl
theorem en241:enters Tryz.prog 241=true:=by kernel_rfl
theorem en242:enters Tryz.prog 242=true:=by kernel_rfl
theorem en243:enters Tryz.prog 243=true:=by kernel_rfl
theorem en244:enters Tryz.prog 244=true:=by kernel_rfl
theorem en245:enters Tryz.prog 245=true:=by kernel_rfl
theorem en246:enters Tryz.prog 246=true:=by kernel_rfl
theorem en247:enters Tryz.prog 247=true:=by kernel_rfl
theorem en248:enters Tryz.prog 248=true:=by kernel_rfl
theorem en249:enters Tryz.prog 249=true:=by kernel_rfl
theorem en250:enters Tryz.prog 250=true:=by kernel_rfl
theorem en252:enters Tryz.prog 252=true:=by kernel_rfl
theorem en253:enters Tryz.prog 253=true:=by kernel_rfl
theorem en254:enters Tryz.prog 254=true:=by kernel_rfl
theorem en255:enters Tryz.prog 255=true:=by kernel_rfl
theorem en256:enters Tryz.prog 256=true:=by kernel_rfl
theorem en257:enters Tryz.prog 257=true:=by kernel_rfl
theorem en258:enters Tryz.prog 258=true:=by kernel_rfl
theorem en259:enters Tryz.prog 259=true:=by kernel_rfl
theorem en260:enters Tryz.prog 260=true:=by kernel_rfl
theorem en261:enters Tryz.prog 261=true:=by kernel_rfl
theorem en262:enters Tryz.prog 262=true:=by kernel_rfl
theorem en263:enters Tryz.prog 263=true:=by kernel_rfl
theorem en264:enters Tryz.prog 264=true:=by kernel_rfl
theorem en265:enters Tryz.prog 265=true:=by kernel_rfl
theorem en266:enters Tryz.prog 266=true:=by kernel_rfl
theorem en267:enters Tryz.prog 267=true:=by kernel_rfl
theorem en270:enters Tryz.prog 270=true:=by kernel_rfl
theorem en271:enters Tryz.prog 271=true:=by kernel_rfl
theorem en272:enters Tryz.prog 272=true:=by kernel_rfl
theorem en273:enters Tryz.prog 273=true:=by kernel_rfl
theorem en274:enters Tryz.prog 274=true:=by kernel_rfl
theorem en275:enters Tryz.prog 275=true:=by kernel_rfl
theorem en276:enters Tryz.prog 276=true:=by kernel_rfl
theorem en277:enters Tryz.prog 277=true:=by kernel_rfl
theorem en278:enters Tryz.prog 278=true:=by kernel_rfl
theorem en279:enters Tryz.prog 279=true:=by kernel_rfl
theorem en280:enters Tryz.prog 280=true:=by kernel_rfl
theorem en281:enters Tryz.prog 281=true:=by kernel_rfl
theorem en283:enters Tryz.prog 283=true:=by kernel_rfl
theorem en284:enters Tryz.prog 284=true:=by kernel_rfl
theorem en286:enters Tryz.prog 286=true:=by kernel_rfl
theorem en287:enters Tryz.prog 287=true:=by kernel_rfl
theorem en288:enters Tryz.prog 288=true:=by kernel_rfl
theorem en289:enters Tryz.prog 289=true:=by kernel_rfl
theorem en290:enters Tryz.prog 290=true:=by kernel_rfl
theorem en292:enters Tryz.prog 292=true:=by kernel_rfl
theorem en293:enters Tryz.prog 293=true:=by kernel_rfl
theorem en294:enters Tryz.prog 294=true:=by kernel_rfl
theorem en295:enters Tryz.prog 295=true:=by kernel_rfl
theorem en297:enters Tryz.prog 297=true:=by kernel_rfl
theorem en298:enters Tryz.prog 298=true:=by kernel_rfl
theorem en299:enters Tryz.prog 299=true:=by kernel_rfl
theorem en304:enters Tryz.prog 304=true:=by kernel_rfl
theorem en306:enters Tryz.prog 306=true:=by kernel_rfl
theorem en307:enters Tryz.prog 307=true:=by kernel_rfl
theorem en308:enters Tryz.prog 308=true:=by kernel_rfl
theorem en309:enters Tryz.prog 309=true:=by kernel_rfl
theorem en315:enters Tryz.prog 315=true:=by kernel_rfl
theorem en316:enters Tryz.prog 316=true:=by kernel_rfl
theorem en318:enters Tryz.prog 318=true:=by kernel_rfl
theorem en321:enters Tryz.prog 321=true:=by kernel_rfl
theorem en322:enters Tryz.prog 322=true:=by kernel_rfl
theorem en323:enters Tryz.prog 323=true:=by kernel_rfl
end Go.Proofs.YtmcjbaafmjlblaaGreatDoor
