/- Part of a proof. -/
import Derived.Test.YtbiikafnjialjaaGreatDoorProg
import Derived.Test.YtbiikafnjialjaaGreatDoorG5
set_option linter.all false
set_option maxRecDepth 20000
set_option maxHeartbeats 4000000
namespace Go.Proofs
open Go.Ab
instance:gH Tryz.prog:=⟨by kernel_rfl⟩
@[go_sem] theorem W5:ty Tryz.prog 2=some (false,1)/\zer Tryz.prog 2=some [.int .i64 0]/\ikd Tryz.prog 2=some .i64/\bE Tryz.prog 2=true/\ty Tryz.prog 3=some (false,1)/\zer Tryz.prog 3=some [.int .i64 0]/\ikd Tryz.prog 3=some .i64/\bE Tryz.prog 3=true/\ty Tryz.prog 4=some (false,1)/\zer Tryz.prog 4=some [.bool false]/\bE Tryz.prog 4=true/\isB Tryz.prog 4=true/\ty Tryz.prog 5=some (false,1)/\zer Tryz.prog 5=some [.int .u8 0]/\ikd Tryz.prog 5=some .u8/\bE Tryz.prog 5=true/\ty Tryz.prog 9=some (false,1)/\zer Tryz.prog 9=some [.string ⟨([]:List UInt8).toArray⟩]/\bE Tryz.prog 9=true/\knd Tryz.prog 9=some true/\ty Tryz.prog 22=some (false,1)/\zer Tryz.prog 22=some [.slice none 0 0]/\bE Tryz.prog 22=true/\byS Tryz.prog 22=false/\knd Tryz.prog 22=some false/\elm Tryz.prog 22=some (174,3,64)/\ty Tryz.prog 23=some (false,1)/\zer Tryz.prog 23=some [.slice none 0 0]/\bE Tryz.prog 23=true/\byS Tryz.prog 23=false/\knd Tryz.prog 23=some false/\elm Tryz.prog 23=some (30,4,80)/\ty Tryz.prog 25=some (true,2)/\zer Tryz.prog 25=some [.slice none 0 0,.slice none 0 0]/\bE Tryz.prog 25=true/\fld Tryz.prog 25 0=some (0,false,1)/\fld Tryz.prog 25 1=some (1,false,1)/\plc Tryz.prog 25=some ([(0,1),(1,1)],[.slice none 0 0,.slice none 0 0])/\ty Tryz.prog 26=some (false,1)/\zer Tryz.prog 26=some [.slice none 0 0]/\bE Tryz.prog 26=true/\byS Tryz.prog 26=false/\knd Tryz.prog 26=some false/\elm Tryz.prog 26=some (118,19,272)/\ty Tryz.prog 27=some (false,1)/\zer Tryz.prog 27=some [.slice none 0 0]/\bE Tryz.prog 27=true/\byS Tryz.prog 27=false/\knd Tryz.prog 27=some false/\elm Tryz.prog 27=some (179,2,32)/\ty Tryz.prog 28=some (false,1)/\zer Tryz.prog 28=some [.slice none 0 0]/\bE Tryz.prog 28=true/\byS Tryz.prog 28=false/\knd Tryz.prog 28=some false/\elm Tryz.prog 28=some (9,1,16)/\ty Tryz.prog 30=some (true,4)/\zer Tryz.prog 30=some [.string ⟨([]:List UInt8).toArray⟩,.string ⟨([]:List UInt8).toArray⟩,.slice none 0 0,.slice none 0 0]/\bE Tryz.prog 30=true/\fld Tryz.prog 30 0=some (0,false,1):=by and_intros<;>kernel_rfl
@[go_sem] theorem UA:fld Tryz.prog 30 1=some (1,false,1)/\fld Tryz.prog 30 2=some (2,false,1)/\fld Tryz.prog 30 3=some (3,false,1)/\plc Tryz.prog 30=some ([(0,1),(1,1),(2,1),(3,1)],[.string ⟨([]:List UInt8).toArray⟩,.string ⟨([]:List UInt8).toArray⟩,.slice none 0 0,.slice none 0 0])/\ty Tryz.prog 34=some (false,1)/\zer Tryz.prog 34=some [.slice none 0 0]/\bE Tryz.prog 34=true/\byS Tryz.prog 34=false/\knd Tryz.prog 34=some false/\elm Tryz.prog 34=some (140,3,56)/\ty Tryz.prog 37=some (false,1)/\zer Tryz.prog 37=some [.slice none 0 0]/\bE Tryz.prog 37=true/\byS Tryz.prog 37=false/\knd Tryz.prog 37=some false/\elm Tryz.prog 37=some (124,3,64)/\ty Tryz.prog 38=some (false,1)/\zer Tryz.prog 38=some [.slice none 0 0]/\bE Tryz.prog 38=true/\byS Tryz.prog 38=false/\knd Tryz.prog 38=some false/\elm Tryz.prog 38=some (46,4,80)/\ty Tryz.prog 40=some (true,2)/\zer Tryz.prog 40=some [.slice none 0 0,.slice none 0 0]/\bE Tryz.prog 40=true/\fld Tryz.prog 40 0=some (0,false,1)/\fld Tryz.prog 40 1=some (1,false,1)/\plc Tryz.prog 40=some ([(0,1),(1,1)],[.slice none 0 0,.slice none 0 0])/\ty Tryz.prog 42=some (false,1)/\zer Tryz.prog 42=some [.slice none 0 0]/\bE Tryz.prog 42=true/\byS Tryz.prog 42=false/\knd Tryz.prog 42=some false/\elm Tryz.prog 42=some (134,19,272)/\ty Tryz.prog 44=some (false,1)/\zer Tryz.prog 44=some [.slice none 0 0]/\bE Tryz.prog 44=true/\byS Tryz.prog 44=false/\knd Tryz.prog 44=some false/\elm Tryz.prog 44=some (182,2,32)/\ty Tryz.prog 46=some (true,4)/\zer Tryz.prog 46=some [.string ⟨([]:List UInt8).toArray⟩,.string ⟨([]:List UInt8).toArray⟩,.slice none 0 0,.slice none 0 0]/\bE Tryz.prog 46=true/\fld Tryz.prog 46 0=some (0,false,1)/\fld Tryz.prog 46 1=some (1,false,1)/\fld Tryz.prog 46 2=some (2,false,1)/\fld Tryz.prog 46 3=some (3,false,1)/\plc Tryz.prog 46=some ([(0,1),(1,1),(2,1),(3,1)],[.string ⟨([]:List UInt8).toArray⟩,.string ⟨([]:List UInt8).toArray⟩,.slice none 0 0,.slice none 0 0])/\ty Tryz.prog 57=some (false,1)/\zer Tryz.prog 57=some [.slice none 0 0]/\bE Tryz.prog 57=true/\byS Tryz.prog 57=false/\knd Tryz.prog 57=some false/\elm Tryz.prog 57=some (153,3,56)/\ty Tryz.prog 62=some (false,1)/\zer Tryz.prog 62=some [.slice none 0 0]/\bE Tryz.prog 62=true/\byS Tryz.prog 62=false/\knd Tryz.prog 62=some false/\elm Tryz.prog 62=some (285,3,40):=by and_intros<;>kernel_rfl
@[go_sem] theorem Wt:ty Tryz.prog 64=some (true,5)/\zer Tryz.prog 64=some [.bool false,.int .i64 0,.int .i64 0,.string ⟨([]:List UInt8).toArray⟩,.slice none 0 0]/\bE Tryz.prog 64=true/\fld Tryz.prog 64 0=some (0,false,1)/\fld Tryz.prog 64 1=some (1,false,1)/\fld Tryz.prog 64 2=some (2,false,1)/\fld Tryz.prog 64 3=some (3,false,1)/\fld Tryz.prog 64 4=some (4,false,1)/\plc Tryz.prog 64=some ([(0,1),(1,1),(2,1),(3,1),(4,1)],[.bool false,.int .i64 0,.int .i64 0,.string ⟨([]:List UInt8).toArray⟩,.slice none 0 0])/\ty Tryz.prog 66=some (true,10)/\zer Tryz.prog 66=some [.slice none 0 0,.slice none 0 0,.slice none 0 0,.int .i64 0,.slice none 0 0,.bool false,.int .i64 0,.int .i64 0,.string ⟨([]:List UInt8).toArray⟩,.slice none 0 0]/\bE Tryz.prog 66=true/\fld Tryz.prog 66 0=some (0,false,1)/\fld Tryz.prog 66 1=some (1,false,1)/\fld Tryz.prog 66 2=some (2,false,1)/\fld Tryz.prog 66 3=some (3,false,1)/\fld Tryz.prog 66 4=some (4,false,1)/\fld Tryz.prog 66 5=some (5,true,5)/\plc Tryz.prog 66=some ([(0,1),(1,1),(2,1),(3,1),(4,1),(5,5)],[.slice none 0 0,.slice none 0 0,.slice none 0 0,.int .i64 0,.slice none 0 0,.bool false,.int .i64 0,.int .i64 0,.string ⟨([]:List UInt8).toArray⟩,.slice none 0 0])/\ty Tryz.prog 68=some (true,15)/\zer Tryz.prog 68=some [.string ⟨([]:List UInt8).toArray⟩,.slice none 0 0,.slice none 0 0,.slice none 0 0,.int .i64 0,.slice none 0 0,.bool false,.int .i64 0,.int .i64 0,.string ⟨([]:List UInt8).toArray⟩,.slice none 0 0,.slice none 0 0,.bool false,.int .i64 0,.bool false]/\bE Tryz.prog 68=true/\fld Tryz.prog 68 0=some (0,false,1)/\fld Tryz.prog 68 1=some (1,true,10)/\fld Tryz.prog 68 2=some (11,false,1)/\fld Tryz.prog 68 3=some (12,false,1)/\fld Tryz.prog 68 4=some (13,false,1)/\fld Tryz.prog 68 5=some (14,false,1)/\plc Tryz.prog 68=some ([(0,1),(1,10),(11,1),(12,1),(13,1),(14,1)],[.string ⟨([]:List UInt8).toArray⟩,.slice none 0 0,.slice none 0 0,.slice none 0 0,.int .i64 0,.slice none 0 0,.bool false,.int .i64 0,.int .i64 0,.string ⟨([]:List UInt8).toArray⟩,.slice none 0 0,.slice none 0 0,.bool false,.int .i64 0,.bool false])/\ty Tryz.prog 71=some (false,1)/\zer Tryz.prog 71=some [.slice none 0 0]/\bE Tryz.prog 71=true/\byS Tryz.prog 71=false/\knd Tryz.prog 71=some false/\elm Tryz.prog 71=some (229,3,40)/\ty Tryz.prog 73=some (true,5)/\zer Tryz.prog 73=some [.bool false,.int .i64 0,.int .i64 0,.string ⟨([]:List UInt8).toArray⟩,.slice none 0 0]/\bE Tryz.prog 73=true/\fld Tryz.prog 73 0=some (0,false,1)/\fld Tryz.prog 73 1=some (1,false,1)/\fld Tryz.prog 73 2=some (2,false,1)/\fld Tryz.prog 73 3=some (3,false,1)/\fld Tryz.prog 73 4=some (4,false,1)/\plc Tryz.prog 73=some ([(0,1),(1,1),(2,1),(3,1),(4,1)],[.bool false,.int .i64 0,.int .i64 0,.string ⟨([]:List UInt8).toArray⟩,.slice none 0 0])/\ty Tryz.prog 75=some (true,10)/\zer Tryz.prog 75=some [.slice none 0 0,.slice none 0 0,.slice none 0 0,.int .i64 0,.slice none 0 0,.bool false,.int .i64 0,.int .i64 0,.string ⟨([]:List UInt8).toArray⟩,.slice none 0 0]/\bE Tryz.prog 75=true/\fld Tryz.prog 75 0=some (0,false,1)/\fld Tryz.prog 75 1=some (1,false,1)/\fld Tryz.prog 75 2=some (2,false,1)/\fld Tryz.prog 75 3=some (3,false,1)/\fld Tryz.prog 75 4=some (4,false,1)/\fld Tryz.prog 75 5=some (5,true,5)/\plc Tryz.prog 75=some ([(0,1),(1,1),(2,1),(3,1),(4,1),(5,5)],[.slice none 0 0,.slice none 0 0,.slice none 0 0,.int .i64 0,.slice none 0 0,.bool false,.int .i64 0,.int .i64 0,.string ⟨([]:List UInt8).toArray⟩,.slice none 0 0])/\ty Tryz.prog 77=some (true,15)/\zer Tryz.prog 77=some [.string ⟨([]:List UInt8).toArray⟩,.slice none 0 0,.slice none 0 0,.slice none 0 0,.int .i64 0,.slice none 0 0,.bool false,.int .i64 0,.int .i64 0,.string ⟨([]:List UInt8).toArray⟩,.slice none 0 0,.slice none 0 0,.bool false,.int .i64 0,.bool false]/\bE Tryz.prog 77=true/\fld Tryz.prog 77 0=some (0,false,1)/\fld Tryz.prog 77 1=some (1,true,10)/\fld Tryz.prog 77 2=some (11,false,1):=by and_intros<;>kernel_rfl
@[go_sem] theorem Uz:fld Tryz.prog 77 3=some (12,false,1)/\fld Tryz.prog 77 4=some (13,false,1)/\fld Tryz.prog 77 5=some (14,false,1)/\plc Tryz.prog 77=some ([(0,1),(1,10),(11,1),(12,1),(13,1),(14,1)],[.string ⟨([]:List UInt8).toArray⟩,.slice none 0 0,.slice none 0 0,.slice none 0 0,.int .i64 0,.slice none 0 0,.bool false,.int .i64 0,.int .i64 0,.string ⟨([]:List UInt8).toArray⟩,.slice none 0 0,.slice none 0 0,.bool false,.int .i64 0,.bool false])/\ty Tryz.prog 81=some (false,1)/\zer Tryz.prog 81=some [.slice none 0 0]/\bE Tryz.prog 81=true/\byS Tryz.prog 81=false/\knd Tryz.prog 81=some false/\elm Tryz.prog 81=some (68,15,232)/\ty Tryz.prog 83=some (false,1)/\zer Tryz.prog 83=some [.slice none 0 0]/\bE Tryz.prog 83=true/\byS Tryz.prog 83=false/\knd Tryz.prog 83=some false/\elm Tryz.prog 83=some (165,3,48)/\ty Tryz.prog 85=some (true,2)/\zer Tryz.prog 85=some [.int .i64 0,.slice none 0 0]/\bE Tryz.prog 85=true/\fld Tryz.prog 85 0=some (0,false,1)/\fld Tryz.prog 85 1=some (1,false,1)/\plc Tryz.prog 85=some ([(0,1),(1,1)],[.int .i64 0,.slice none 0 0])/\ty Tryz.prog 88=some (false,1)/\zer Tryz.prog 88=some [.slice none 0 0]/\bE Tryz.prog 88=true/\byS Tryz.prog 88=false/\knd Tryz.prog 88=some false/\elm Tryz.prog 88=some (77,15,232)/\ty Tryz.prog 95=some (false,1)/\zer Tryz.prog 95=some [.slice none 0 0]/\bE Tryz.prog 95=true/\byS Tryz.prog 95=false/\knd Tryz.prog 95=some false/\elm Tryz.prog 95=some (290,3,48)/\ty Tryz.prog 97=some (true,2)/\zer Tryz.prog 97=some [.int .i64 0,.slice none 0 0]/\bE Tryz.prog 97=true/\fld Tryz.prog 97 0=some (0,false,1)/\fld Tryz.prog 97 1=some (1,false,1)/\plc Tryz.prog 97=some ([(0,1),(1,1)],[.int .i64 0,.slice none 0 0])/\ty Tryz.prog 99=some (true,8)/\zer Tryz.prog 99=some [.slice none 0 0,.slice none 0 0,.slice none 0 0,.int .i64 0,.slice none 0 0,.int .i64 0,.slice none 0 0,.int .i64 0]/\bE Tryz.prog 99=true/\fld Tryz.prog 99 0=some (0,true,2)/\fld Tryz.prog 99 1=some (2,false,1)/\fld Tryz.prog 99 2=some (3,true,2)/\fld Tryz.prog 99 3=some (5,true,2)/\fld Tryz.prog 99 4=some (7,false,1)/\plc Tryz.prog 99=some ([(0,2),(2,1),(3,2),(5,2),(7,1)],[.slice none 0 0,.slice none 0 0,.slice none 0 0,.int .i64 0,.slice none 0 0,.int .i64 0,.slice none 0 0,.int .i64 0])/\ty Tryz.prog 103=some (true,8)/\zer Tryz.prog 103=some [.slice none 0 0,.slice none 0 0,.slice none 0 0,.int .i64 0,.slice none 0 0,.int .i64 0,.slice none 0 0,.int .i64 0]/\bE Tryz.prog 103=true/\fld Tryz.prog 103 0=some (0,true,2)/\fld Tryz.prog 103 1=some (2,false,1)/\fld Tryz.prog 103 2=some (3,true,2)/\fld Tryz.prog 103 3=some (5,true,2)/\fld Tryz.prog 103 4=some (7,false,1)/\plc Tryz.prog 103=some ([(0,2),(2,1),(3,2),(5,2),(7,1)],[.slice none 0 0,.slice none 0 0,.slice none 0 0,.int .i64 0,.slice none 0 0,.int .i64 0,.slice none 0 0,.int .i64 0])/\ty Tryz.prog 113=some (false,1)/\zer Tryz.prog 113=some [.slice none 0 0]:=by and_intros<;>kernel_rfl
@[go_sem] theorem Wa:bE Tryz.prog 113=true/\byS Tryz.prog 113=false/\knd Tryz.prog 113=some false/\elm Tryz.prog 113=some (313,2,16)/\ty Tryz.prog 115=some (true,5)/\zer Tryz.prog 115=some [.int .i64 0,.slice none 0 0,.slice none 0 0,.string ⟨([]:List UInt8).toArray⟩,.string ⟨([]:List UInt8).toArray⟩]/\bE Tryz.prog 115=true/\fld Tryz.prog 115 0=some (0,false,1)/\fld Tryz.prog 115 1=some (1,false,1)/\fld Tryz.prog 115 2=some (2,false,1)/\fld Tryz.prog 115 3=some (3,false,1)/\fld Tryz.prog 115 4=some (4,false,1)/\plc Tryz.prog 115=some ([(0,1),(1,1),(2,1),(3,1),(4,1)],[.int .i64 0,.slice none 0 0,.slice none 0 0,.string ⟨([]:List UInt8).toArray⟩,.string ⟨([]:List UInt8).toArray⟩])/\ty Tryz.prog 116=some (false,1)/\zer Tryz.prog 116=some [.slice none 0 0]/\bE Tryz.prog 116=true/\byS Tryz.prog 116=false/\knd Tryz.prog 116=some false/\elm Tryz.prog 116=some (239,7,96)/\ty Tryz.prog 118=some (true,19)/\zer Tryz.prog 118=some [.int .i64 0,.string ⟨([]:List UInt8).toArray⟩,.int .i64 0,.slice none 0 0,.slice none 0 0,.string ⟨([]:List UInt8).toArray⟩,.string ⟨([]:List UInt8).toArray⟩,.slice none 0 0,.slice none 0 0,.string ⟨([]:List UInt8).toArray⟩,.bool false,.bool false,.bool false,.bool false,.int .i64 0,.int .i64 0,.slice none 0 0,.slice none 0 0,.slice none 0 0]/\bE Tryz.prog 118=true/\fld Tryz.prog 118 0=some (0,false,1)/\fld Tryz.prog 118 1=some (1,false,1)/\fld Tryz.prog 118 2=some (2,true,5)/\fld Tryz.prog 118 3=some (7,false,1)/\fld Tryz.prog 118 4=some (8,false,1)/\fld Tryz.prog 118 5=some (9,false,1)/\fld Tryz.prog 118 6=some (10,false,1)/\fld Tryz.prog 118 7=some (11,false,1)/\fld Tryz.prog 118 8=some (12,false,1)/\fld Tryz.prog 118 9=some (13,false,1)/\fld Tryz.prog 118 10=some (14,false,1)/\fld Tryz.prog 118 11=some (15,false,1)/\fld Tryz.prog 118 12=some (16,false,1)/\fld Tryz.prog 118 13=some (17,false,1)/\fld Tryz.prog 118 14=some (18,false,1)/\plc Tryz.prog 118=some ([(0,1),(1,1),(2,5),(7,1),(8,1),(9,1),(10,1),(11,1),(12,1),(13,1),(14,1),(15,1),(16,1),(17,1),(18,1)],[.int .i64 0,.string ⟨([]:List UInt8).toArray⟩,.int .i64 0,.slice none 0 0,.slice none 0 0,.string ⟨([]:List UInt8).toArray⟩,.string ⟨([]:List UInt8).toArray⟩,.slice none 0 0,.slice none 0 0,.string ⟨([]:List UInt8).toArray⟩,.bool false,.bool false,.bool false,.bool false,.int .i64 0,.int .i64 0,.slice none 0 0,.slice none 0 0,.slice none 0 0])/\ty Tryz.prog 122=some (false,1)/\zer Tryz.prog 122=some [.slice none 0 0]/\bE Tryz.prog 122=true/\byS Tryz.prog 122=false/\knd Tryz.prog 122=some false/\elm Tryz.prog 122=some (187,6,104)/\ty Tryz.prog 124=some (true,3)/\zer Tryz.prog 124=some [.string ⟨([]:List UInt8).toArray⟩,.slice none 0 0,.slice none 0 0]/\bE Tryz.prog 124=true/\fld Tryz.prog 124 0=some (0,false,1)/\fld Tryz.prog 124 1=some (1,false,1)/\fld Tryz.prog 124 2=some (2,false,1)/\plc Tryz.prog 124=some ([(0,1),(1,1),(2,1)],[.string ⟨([]:List UInt8).toArray⟩,.slice none 0 0,.slice none 0 0])/\ty Tryz.prog 129=some (false,1)/\zer Tryz.prog 129=some [.slice none 0 0]/\bE Tryz.prog 129=true/\byS Tryz.prog 129=false/\knd Tryz.prog 129=some false/\elm Tryz.prog 129=some (207,2,16)/\ty Tryz.prog 131=some (true,5)/\zer Tryz.prog 131=some [.int .i64 0,.slice none 0 0,.slice none 0 0,.string ⟨([]:List UInt8).toArray⟩,.string ⟨([]:List UInt8).toArray⟩]/\bE Tryz.prog 131=true:=by and_intros<;>kernel_rfl
@[go_sem] theorem SC:fld Tryz.prog 131 0=some (0,false,1)/\fld Tryz.prog 131 1=some (1,false,1)/\fld Tryz.prog 131 2=some (2,false,1)/\fld Tryz.prog 131 3=some (3,false,1)/\fld Tryz.prog 131 4=some (4,false,1)/\plc Tryz.prog 131=some ([(0,1),(1,1),(2,1),(3,1),(4,1)],[.int .i64 0,.slice none 0 0,.slice none 0 0,.string ⟨([]:List UInt8).toArray⟩,.string ⟨([]:List UInt8).toArray⟩])/\ty Tryz.prog 132=some (false,1)/\zer Tryz.prog 132=some [.slice none 0 0]/\bE Tryz.prog 132=true/\byS Tryz.prog 132=false/\knd Tryz.prog 132=some false/\elm Tryz.prog 132=some (212,7,96)/\ty Tryz.prog 134=some (true,19)/\zer Tryz.prog 134=some [.int .i64 0,.string ⟨([]:List UInt8).toArray⟩,.int .i64 0,.slice none 0 0,.slice none 0 0,.string ⟨([]:List UInt8).toArray⟩,.string ⟨([]:List UInt8).toArray⟩,.slice none 0 0,.slice none 0 0,.string ⟨([]:List UInt8).toArray⟩,.bool false,.bool false,.bool false,.bool false,.int .i64 0,.int .i64 0,.slice none 0 0,.slice none 0 0,.slice none 0 0]/\bE Tryz.prog 134=true/\fld Tryz.prog 134 0=some (0,false,1)/\fld Tryz.prog 134 1=some (1,false,1)/\fld Tryz.prog 134 2=some (2,true,5)/\fld Tryz.prog 134 3=some (7,false,1)/\fld Tryz.prog 134 4=some (8,false,1)/\fld Tryz.prog 134 5=some (9,false,1)/\fld Tryz.prog 134 6=some (10,false,1)/\fld Tryz.prog 134 7=some (11,false,1)/\fld Tryz.prog 134 8=some (12,false,1)/\fld Tryz.prog 134 9=some (13,false,1)/\fld Tryz.prog 134 10=some (14,false,1)/\fld Tryz.prog 134 11=some (15,false,1)/\fld Tryz.prog 134 12=some (16,false,1)/\fld Tryz.prog 134 13=some (17,false,1)/\fld Tryz.prog 134 14=some (18,false,1)/\plc Tryz.prog 134=some ([(0,1),(1,1),(2,5),(7,1),(8,1),(9,1),(10,1),(11,1),(12,1),(13,1),(14,1),(15,1),(16,1),(17,1),(18,1)],[.int .i64 0,.string ⟨([]:List UInt8).toArray⟩,.int .i64 0,.slice none 0 0,.slice none 0 0,.string ⟨([]:List UInt8).toArray⟩,.string ⟨([]:List UInt8).toArray⟩,.slice none 0 0,.slice none 0 0,.string ⟨([]:List UInt8).toArray⟩,.bool false,.bool false,.bool false,.bool false,.int .i64 0,.int .i64 0,.slice none 0 0,.slice none 0 0,.slice none 0 0])/\ty Tryz.prog 140=some (true,3)/\zer Tryz.prog 140=some [.string ⟨([]:List UInt8).toArray⟩,.string ⟨([]:List UInt8).toArray⟩,.slice none 0 0]/\bE Tryz.prog 140=true/\fld Tryz.prog 140 0=some (0,false,1)/\fld Tryz.prog 140 1=some (1,false,1)/\fld Tryz.prog 140 2=some (2,false,1)/\plc Tryz.prog 140=some ([(0,1),(1,1),(2,1)],[.string ⟨([]:List UInt8).toArray⟩,.string ⟨([]:List UInt8).toArray⟩,.slice none 0 0])/\ty Tryz.prog 153=some (true,3)/\zer Tryz.prog 153=some [.string ⟨([]:List UInt8).toArray⟩,.string ⟨([]:List UInt8).toArray⟩,.slice none 0 0]/\bE Tryz.prog 153=true/\fld Tryz.prog 153 0=some (0,false,1)/\fld Tryz.prog 153 1=some (1,false,1)/\fld Tryz.prog 153 2=some (2,false,1)/\plc Tryz.prog 153=some ([(0,1),(1,1),(2,1)],[.string ⟨([]:List UInt8).toArray⟩,.string ⟨([]:List UInt8).toArray⟩,.slice none 0 0])/\ty Tryz.prog 165=some (true,3)/\zer Tryz.prog 165=some [.string ⟨([]:List UInt8).toArray⟩,.slice none 0 0,.int .i64 0]/\bE Tryz.prog 165=true/\fld Tryz.prog 165 0=some (0,false,1)/\fld Tryz.prog 165 1=some (1,false,1)/\fld Tryz.prog 165 2=some (2,false,1)/\plc Tryz.prog 165=some ([(0,1),(1,1),(2,1)],[.string ⟨([]:List UInt8).toArray⟩,.slice none 0 0,.int .i64 0])/\ty Tryz.prog 172=some (false,1)/\zer Tryz.prog 172=some [.slice none 0 0]/\bE Tryz.prog 172=true/\byS Tryz.prog 172=false/\knd Tryz.prog 172=some false/\elm Tryz.prog 172=some (294,6,104)/\ty Tryz.prog 174=some (true,3)/\zer Tryz.prog 174=some [.string ⟨([]:List UInt8).toArray⟩,.slice none 0 0,.slice none 0 0]:=by and_intros<;>kernel_rfl
@[go_sem] theorem V9:bE Tryz.prog 174=true/\fld Tryz.prog 174 0=some (0,false,1)/\fld Tryz.prog 174 1=some (1,false,1)/\fld Tryz.prog 174 2=some (2,false,1)/\plc Tryz.prog 174=some ([(0,1),(1,1),(2,1)],[.string ⟨([]:List UInt8).toArray⟩,.slice none 0 0,.slice none 0 0])/\ty Tryz.prog 179=some (true,2)/\zer Tryz.prog 179=some [.string ⟨([]:List UInt8).toArray⟩,.string ⟨([]:List UInt8).toArray⟩]/\bE Tryz.prog 179=true/\fld Tryz.prog 179 0=some (0,false,1)/\fld Tryz.prog 179 1=some (1,false,1)/\plc Tryz.prog 179=some ([(0,1),(1,1)],[.string ⟨([]:List UInt8).toArray⟩,.string ⟨([]:List UInt8).toArray⟩])/\ty Tryz.prog 182=some (true,2)/\zer Tryz.prog 182=some [.string ⟨([]:List UInt8).toArray⟩,.string ⟨([]:List UInt8).toArray⟩]/\bE Tryz.prog 182=true/\fld Tryz.prog 182 0=some (0,false,1)/\fld Tryz.prog 182 1=some (1,false,1)/\plc Tryz.prog 182=some ([(0,1),(1,1)],[.string ⟨([]:List UInt8).toArray⟩,.string ⟨([]:List UInt8).toArray⟩])/\ty Tryz.prog 187=some (true,6)/\zer Tryz.prog 187=some [.string ⟨([]:List UInt8).toArray⟩,.int .i64 0,.slice none 0 0,.slice none 0 0,.string ⟨([]:List UInt8).toArray⟩,.string ⟨([]:List UInt8).toArray⟩]/\bE Tryz.prog 187=true/\fld Tryz.prog 187 0=some (0,false,1)/\fld Tryz.prog 187 1=some (1,true,5)/\plc Tryz.prog 187=some ([(0,1),(1,5)],[.string ⟨([]:List UInt8).toArray⟩,.int .i64 0,.slice none 0 0,.slice none 0 0,.string ⟨([]:List UInt8).toArray⟩,.string ⟨([]:List UInt8).toArray⟩])/\ty Tryz.prog 205=some (false,1)/\zer Tryz.prog 205=some [.slice none 0 0]/\bE Tryz.prog 205=true/\byS Tryz.prog 205=true/\knd Tryz.prog 205=some false/\elm Tryz.prog 205=some (5,1,1)/\ty Tryz.prog 207=some (true,2)/\zer Tryz.prog 207=some [.int .i64 0,.int .i64 0]/\bE Tryz.prog 207=true/\fld Tryz.prog 207 0=some (0,false,1)/\fld Tryz.prog 207 1=some (1,false,1)/\plc Tryz.prog 207=some ([(0,1),(1,1)],[.int .i64 0,.int .i64 0])/\ty Tryz.prog 208=some (false,1)/\zer Tryz.prog 208=some [.slice none 0 0]/\bE Tryz.prog 208=true/\byS Tryz.prog 208=false/\knd Tryz.prog 208=some false/\elm Tryz.prog 208=some (273,2,40)/\ty Tryz.prog 210=some (true,3)/\zer Tryz.prog 210=some [.bool false,.int .i64 0,.slice none 0 0]/\bE Tryz.prog 210=true/\fld Tryz.prog 210 0=some (0,false,1)/\fld Tryz.prog 210 1=some (1,false,1)/\fld Tryz.prog 210 2=some (2,false,1)/\plc Tryz.prog 210=some ([(0,1),(1,1),(2,1)],[.bool false,.int .i64 0,.slice none 0 0])/\ty Tryz.prog 212=some (true,7)/\zer Tryz.prog 212=some [.int .i64 0,.int .i64 0,.string ⟨([]:List UInt8).toArray⟩,.bool false,.int .i64 0,.slice none 0 0,.slice none 0 0]/\bE Tryz.prog 212=true/\fld Tryz.prog 212 0=some (0,false,1)/\fld Tryz.prog 212 1=some (1,false,1)/\fld Tryz.prog 212 2=some (2,false,1)/\fld Tryz.prog 212 3=some (3,true,3)/\fld Tryz.prog 212 4=some (6,false,1)/\plc Tryz.prog 212=some ([(0,1),(1,1),(2,1),(3,3),(6,1)],[.int .i64 0,.int .i64 0,.string ⟨([]:List UInt8).toArray⟩,.bool false,.int .i64 0,.slice none 0 0,.slice none 0 0])/\ty Tryz.prog 216=some (false,1)/\zer Tryz.prog 216=some [.slice none 0 0]/\bE Tryz.prog 216=true:=by and_intros<;>kernel_rfl
@[go_sem] theorem Wo:byS Tryz.prog 216=false/\knd Tryz.prog 216=some false/\elm Tryz.prog 216=some (278,4,64)/\ty Tryz.prog 229=some (true,3)/\zer Tryz.prog 229=some [.slice none 0 0,.int .i64 0,.int .i64 0]/\bE Tryz.prog 229=true/\fld Tryz.prog 229 0=some (0,false,1)/\fld Tryz.prog 229 1=some (1,false,1)/\fld Tryz.prog 229 2=some (2,false,1)/\plc Tryz.prog 229=some ([(0,1),(1,1),(2,1)],[.slice none 0 0,.int .i64 0,.int .i64 0])/\ty Tryz.prog 235=some (false,1)/\zer Tryz.prog 235=some [.slice none 0 0]/\bE Tryz.prog 235=true/\byS Tryz.prog 235=false/\knd Tryz.prog 235=some false/\elm Tryz.prog 235=some (367,2,40)/\ty Tryz.prog 237=some (true,3)/\zer Tryz.prog 237=some [.bool false,.int .i64 0,.slice none 0 0]/\bE Tryz.prog 237=true/\fld Tryz.prog 237 0=some (0,false,1)/\fld Tryz.prog 237 1=some (1,false,1)/\fld Tryz.prog 237 2=some (2,false,1)/\plc Tryz.prog 237=some ([(0,1),(1,1),(2,1)],[.bool false,.int .i64 0,.slice none 0 0])/\ty Tryz.prog 239=some (true,7)/\zer Tryz.prog 239=some [.int .i64 0,.int .i64 0,.string ⟨([]:List UInt8).toArray⟩,.bool false,.int .i64 0,.slice none 0 0,.slice none 0 0]/\bE Tryz.prog 239=true/\fld Tryz.prog 239 0=some (0,false,1)/\fld Tryz.prog 239 1=some (1,false,1)/\fld Tryz.prog 239 2=some (2,false,1)/\fld Tryz.prog 239 3=some (3,true,3)/\fld Tryz.prog 239 4=some (6,false,1)/\plc Tryz.prog 239=some ([(0,1),(1,1),(2,1),(3,3),(6,1)],[.int .i64 0,.int .i64 0,.string ⟨([]:List UInt8).toArray⟩,.bool false,.int .i64 0,.slice none 0 0,.slice none 0 0])/\ty Tryz.prog 262=some (false,1)/\zer Tryz.prog 262=some [.slice none 0 0]/\bE Tryz.prog 262=true/\byS Tryz.prog 262=false/\knd Tryz.prog 262=some false/\elm Tryz.prog 262=some (264,4,64)/\ty Tryz.prog 264=some (true,4)/\zer Tryz.prog 264=some [.int .i64 0,.string ⟨([]:List UInt8).toArray⟩,.string ⟨([]:List UInt8).toArray⟩,.slice none 0 0]/\bE Tryz.prog 264=true/\fld Tryz.prog 264 0=some (0,false,1)/\fld Tryz.prog 264 1=some (1,true,3)/\plc Tryz.prog 264=some ([(0,1),(1,3)],[.int .i64 0,.string ⟨([]:List UInt8).toArray⟩,.string ⟨([]:List UInt8).toArray⟩,.slice none 0 0])/\ty Tryz.prog 271=some (false,1)/\zer Tryz.prog 271=some [.slice none 0 0]/\bE Tryz.prog 271=true/\byS Tryz.prog 271=false/\knd Tryz.prog 271=some false/\elm Tryz.prog 271=some (330,2,32)/\ty Tryz.prog 273=some (true,2)/\zer Tryz.prog 273=some [.string ⟨([]:List UInt8).toArray⟩,.slice none 0 0]/\bE Tryz.prog 273=true/\fld Tryz.prog 273 0=some (0,false,1)/\fld Tryz.prog 273 1=some (1,false,1)/\plc Tryz.prog 273=some ([(0,1),(1,1)],[.string ⟨([]:List UInt8).toArray⟩,.slice none 0 0])/\ty Tryz.prog 278=some (true,4)/\zer Tryz.prog 278=some [.int .i64 0,.string ⟨([]:List UInt8).toArray⟩,.string ⟨([]:List UInt8).toArray⟩,.slice none 0 0]/\bE Tryz.prog 278=true/\fld Tryz.prog 278 0=some (0,false,1):=by and_intros<;>kernel_rfl
@[go_sem] theorem SB:fld Tryz.prog 278 1=some (1,false,1)/\fld Tryz.prog 278 2=some (2,false,1)/\fld Tryz.prog 278 3=some (3,false,1)/\plc Tryz.prog 278=some ([(0,1),(1,1),(2,1),(3,1)],[.int .i64 0,.string ⟨([]:List UInt8).toArray⟩,.string ⟨([]:List UInt8).toArray⟩,.slice none 0 0])/\ty Tryz.prog 285=some (true,3)/\zer Tryz.prog 285=some [.slice none 0 0,.int .i64 0,.int .i64 0]/\bE Tryz.prog 285=true/\fld Tryz.prog 285 0=some (0,false,1)/\fld Tryz.prog 285 1=some (1,false,1)/\fld Tryz.prog 285 2=some (2,false,1)/\plc Tryz.prog 285=some ([(0,1),(1,1),(2,1)],[.slice none 0 0,.int .i64 0,.int .i64 0])/\ty Tryz.prog 290=some (true,3)/\zer Tryz.prog 290=some [.string ⟨([]:List UInt8).toArray⟩,.slice none 0 0,.int .i64 0]/\bE Tryz.prog 290=true/\fld Tryz.prog 290 0=some (0,false,1)/\fld Tryz.prog 290 1=some (1,false,1)/\fld Tryz.prog 290 2=some (2,false,1)/\plc Tryz.prog 290=some ([(0,1),(1,1),(2,1)],[.string ⟨([]:List UInt8).toArray⟩,.slice none 0 0,.int .i64 0])/\ty Tryz.prog 294=some (true,6)/\zer Tryz.prog 294=some [.string ⟨([]:List UInt8).toArray⟩,.int .i64 0,.slice none 0 0,.slice none 0 0,.string ⟨([]:List UInt8).toArray⟩,.string ⟨([]:List UInt8).toArray⟩]/\bE Tryz.prog 294=true/\fld Tryz.prog 294 0=some (0,false,1)/\fld Tryz.prog 294 1=some (1,true,5)/\plc Tryz.prog 294=some ([(0,1),(1,5)],[.string ⟨([]:List UInt8).toArray⟩,.int .i64 0,.slice none 0 0,.slice none 0 0,.string ⟨([]:List UInt8).toArray⟩,.string ⟨([]:List UInt8).toArray⟩])/\ty Tryz.prog 300=some (false,1)/\zer Tryz.prog 300=some [.slice none 0 0]/\bE Tryz.prog 300=true/\byS Tryz.prog 300=false/\knd Tryz.prog 300=some false/\elm Tryz.prog 300=some (302,3,48)/\ty Tryz.prog 302=some (true,3)/\zer Tryz.prog 302=some [.int .i64 0,.string ⟨([]:List UInt8).toArray⟩,.slice none 0 0]/\bE Tryz.prog 302=true/\fld Tryz.prog 302 0=some (0,false,1)/\fld Tryz.prog 302 1=some (1,false,1)/\fld Tryz.prog 302 2=some (2,false,1)/\plc Tryz.prog 302=some ([(0,1),(1,1),(2,1)],[.int .i64 0,.string ⟨([]:List UInt8).toArray⟩,.slice none 0 0])/\ty Tryz.prog 313=some (true,2)/\zer Tryz.prog 313=some [.int .i64 0,.int .i64 0]/\bE Tryz.prog 313=true/\fld Tryz.prog 313 0=some (0,false,1)/\fld Tryz.prog 313 1=some (1,false,1)/\plc Tryz.prog 313=some ([(0,1),(1,1)],[.int .i64 0,.int .i64 0])/\ty Tryz.prog 322=some (false,1)/\zer Tryz.prog 322=some [.slice none 0 0]/\bE Tryz.prog 322=true/\byS Tryz.prog 322=false/\knd Tryz.prog 322=some false/\elm Tryz.prog 322=some (4,1,1)/\ty Tryz.prog 330=some (true,2)/\zer Tryz.prog 330=some [.string ⟨([]:List UInt8).toArray⟩,.string ⟨([]:List UInt8).toArray⟩]/\bE Tryz.prog 330=true/\fld Tryz.prog 330 0=some (0,false,1)/\fld Tryz.prog 330 1=some (1,false,1)/\plc Tryz.prog 330=some ([(0,1),(1,1)],[.string ⟨([]:List UInt8).toArray⟩,.string ⟨([]:List UInt8).toArray⟩])/\ty Tryz.prog 336=some (false,1)/\zer Tryz.prog 336=some [.pointer none]/\bE Tryz.prog 336=true/\ty Tryz.prog 338=some (true,3)/\zer Tryz.prog 338=some [.string ⟨([]:List UInt8).toArray⟩,.int .i64 0,.bool false]:=by and_intros<;>kernel_rfl
@[go_sem] theorem V8:bE Tryz.prog 338=true/\fld Tryz.prog 338 0=some (0,false,1)/\fld Tryz.prog 338 1=some (1,false,1)/\fld Tryz.prog 338 2=some (2,false,1)/\plc Tryz.prog 338=some ([(0,1),(1,1),(2,1)],[.string ⟨([]:List UInt8).toArray⟩,.int .i64 0,.bool false])/\ty Tryz.prog 344=some (false,1)/\zer Tryz.prog 344=some [.pointer none]/\bE Tryz.prog 344=true/\ty Tryz.prog 346=some (true,3)/\zer Tryz.prog 346=some [.string ⟨([]:List UInt8).toArray⟩,.int .i64 0,.bool false]/\bE Tryz.prog 346=true/\fld Tryz.prog 346 0=some (0,false,1)/\fld Tryz.prog 346 1=some (1,false,1)/\fld Tryz.prog 346 2=some (2,false,1)/\plc Tryz.prog 346=some ([(0,1),(1,1),(2,1)],[.string ⟨([]:List UInt8).toArray⟩,.int .i64 0,.bool false])/\ty Tryz.prog 365=some (false,1)/\zer Tryz.prog 365=some [.slice none 0 0]/\bE Tryz.prog 365=true/\byS Tryz.prog 365=false/\knd Tryz.prog 365=some false/\elm Tryz.prog 365=some (394,2,32)/\ty Tryz.prog 367=some (true,2)/\zer Tryz.prog 367=some [.string ⟨([]:List UInt8).toArray⟩,.slice none 0 0]/\bE Tryz.prog 367=true/\fld Tryz.prog 367 0=some (0,false,1)/\fld Tryz.prog 367 1=some (1,false,1)/\plc Tryz.prog 367=some ([(0,1),(1,1)],[.string ⟨([]:List UInt8).toArray⟩,.slice none 0 0])/\ty Tryz.prog 375=some (false,1)/\zer Tryz.prog 375=some [.int .u64 0]/\ikd Tryz.prog 375=some .u64/\bE Tryz.prog 375=true/\ty Tryz.prog 386=some (false,1)/\zer Tryz.prog 386=some [.int .u64 0]/\ikd Tryz.prog 386=some .u64/\bE Tryz.prog 386=true/\ty Tryz.prog 394=some (true,2)/\zer Tryz.prog 394=some [.string ⟨([]:List UInt8).toArray⟩,.string ⟨([]:List UInt8).toArray⟩]/\bE Tryz.prog 394=true/\fld Tryz.prog 394 0=some (0,false,1)/\fld Tryz.prog 394 1=some (1,false,1)/\plc Tryz.prog 394=some ([(0,1),(1,1)],[.string ⟨([]:List UInt8).toArray⟩,.string ⟨([]:List UInt8).toArray⟩])/\ty Tryz.prog 402=some (false,1)/\zer Tryz.prog 402=some [.int .u32 0]/\ikd Tryz.prog 402=some .u32/\bE Tryz.prog 402=true:=by and_intros<;>kernel_rfl
end Go.Proofs
namespace Go.Proofs
open Go.Ab Go.Dt
instance V3(L:Nat->Nat)(x a b:Int):Ctr L Tryz.prog 223 [] [.v (.int .i64 x),.v (.int .i64 a),.v (.int .i64 b)] (.v (.bool (decide (a<=x) && decide (x<=b)))) [] True:=by
 refine Ctr.bd Tryz.func223 Tryz.ntmps223 rfl rfl fun hp=>?_
 all_goals exact uU
instance QT(L:Nat->Nat)(n:Int):Ctr L Tryz.prog 274 [] [.v (.int .u8 n)] (.v (.bool (ltI n))) [] (0<=n/\n<=255):=by
 refine Ctr.bd Tryz.func274 Tryz.ntmps274 rfl rfl fun hp=>?_
 (repeat' first|(with_reducible first|refine Z ?_|refine Y ?_|(refine hK _ _ ?_;clear hK K)|refine And.intro ?_ ?_|exact Ct|intro (K:_->_->Prop) hK|(refine gI fun hg=>?_;try simp only [hC,reduceCtorEq] at hg;try simp only [hg]))|(refine AW.i rfl (fun h=>?_) (fun h=>?_)<;>try simp only [hC,reduceCtorEq] at h)|((with_reducible refine E ?_;repeat refine Y ?_);refine eF rfl ?_)|simp (disch:=omega) only [go_sem,ltI]|(with_reducible intro hg;try simp only [hC,reduceCtorEq] at hg)|exact Cl|fail)
instance Sg(L:Nat->Nat)(n:Int):Ctr L Tryz.prog 275 [] [.v (.int .u8 n)] (.v (.bool (l8 n))) [] (0<=n/\n<=255):=by
 refine Ctr.bd Tryz.func275 Tryz.ntmps275 rfl rfl fun hp=>?_
 (repeat' first|(with_reducible first|refine Z ?_|refine Y ?_|(refine hK _ _ ?_;clear hK K)|refine And.intro ?_ ?_|exact Ct|intro (K:_->_->Prop) hK|(refine gI fun hg=>?_;try simp only [hC,reduceCtorEq] at hg;try simp only [hg]))|(refine AW.i rfl (fun h=>?_) (fun h=>?_)<;>try simp only [hC,reduceCtorEq] at h)|((with_reducible refine E ?_;repeat refine Y ?_);refine eF rfl ?_)|simp (disch:=omega) only [go_sem,l8]|(with_reducible intro hg;try simp only [hC,reduceCtorEq] at hg)|exact Cl|fail)
instance Sh(L:Nat->Nat)(s:List UInt8)(k:Int):Ctr L Tryz.prog 231 [] [.str s,.v (.int .i64 k)] (.v (.int .i64 (cX s k.toNat))) [] (0<=k/\k<=s.length):=by
 refine Ctr.bd Tryz.func231 Tryz.ntmps231 rfl rfl fun hp=>?_
 obtain ⟨k,rfl⟩:∃ k':Nat,k=k':=⟨k.toNat,by omega⟩
 refine AW.fact 0 fun hf=>?_
 simp only [go_sem,Nat.reduceBEq] at hf
 (refine vU ?_;with_reducible repeat' first|exact Le.l|apply Sw|intro h)
 ·rw [cX,if_neg]
  rcases h with h|h
  ·simp;omega
  ·simp [h]
 ·refine AW.aw [5] [0] (fun m xs o=>∃ j:Nat,xs=[.v (.int .i64 j)]/\o=[]/\m=s.length - j/\j<=s.length/\j+((s.drop j).takeWhile nmU).length=cX s k) (s.length - k) [] trivial ⟨k,rfl,rfl,rfl,?_,?_⟩ ?_
  ·omega
  ·rw [cX,if_pos (by simp [h.2];omega)]
  rintro m xs o ⟨j,rfl,rfl,rfl,hj,hR⟩
  (refine vU ?_;with_reducible repeat' first|exact Le.l|apply Sw|intro h)
  ·rw [lL h.1 (by simpa [nmI] using h.2)] at hR
   exact ⟨_,[_],[],by omega,⟨j+1,rfl,rfl,rfl,by omega,by omega⟩,rfl,trivial⟩
  ·rw [FH (by simpa [nmI] using h)] at hR
   simp at hR;rw [hR]
instance QC(s:List UInt8):Ctr lim Tryz.prog 227 [] [.str s] (.tup [.sl true 1 ((nmL (tk s)).map AV.str),.v (.bool (tk s).2)]) [] (s.length<=1048576):=by
 refine Ctr.bd Tryz.func227 Tryz.ntmps227 rfl rfl fun hp=>?_
 (refine vU ?_;with_reducible repeat' first|exact Le.l|apply Sw|intro h)
 refine AW.aw [4,5] [0] (fun m xs o=>∃ (k:Nat) (d:List Tok),xs=[.sl true 1 ((dI d).map AV.str),.v (.int .i64 k)]/\o=[]/\m=s.length - k/\k<=s.length/\(dI d).length<=k/\gV s k d) s.length [] trivial ⟨0,[],?_,rfl,rfl,?_,?_,pX s⟩ ?_
 ·rfl
 ·omega
 ·simp [dI]
 rintro m xs o ⟨k,d,rfl,rfl,rfl,hk,ha,hR⟩
 have he:=oI s (k+1)
 (refine vU ?_;with_reducible repeat' first|exact Le.l|apply Sw|intro h)
 ·exact ⟨_,[_,_],[],by omega,⟨k+1,d++[_],by simp [dN,dI],rfl,rfl,by omega,by simp [dN,dI];omega,hR.next (rM (by assumption) h)⟩,rfl,trivial⟩
 ·exact ⟨_,[_,_],[],by omega,⟨k+1+1,d++[_],by simp [dN,dI],rfl,rfl,by omega,by simp [dN,dI];omega,hR.next (xo h.1 (by assumption) h.2)⟩,rfl,trivial⟩
 ·rw [hR.bad (qW (by assumption) (by assumption) (by assumption) (x8 (by omega)))];rfl
 ·refine ⟨_,[_,_],[],?_,⟨cX s (k+1),d++[.inr ((s.take (cX s (k+1))).drop (k+1))],rfl,rfl,rfl,by omega,by simp [dN,dI];omega,hR.next (qU (by assumption) (by assumption) (by assumption) (by omega))⟩,?_,trivial⟩
  ·omega
  ·rw [Nat.sub_add_cancel (by omega)];simp [dN,dI]
 ·rw [hR.fin h];rfl
instance Sj(L:Nat->Nat)(n:Int):Ctr L Tryz.prog 210 [] [.v (.int .u8 n)] (.v (.bool (ltI n))) [] True:=by
 refine Ctr.bd Tryz.func210 Tryz.ntmps210 rfl rfl fun hp=>?_
 (repeat' first|(with_reducible first|refine Z ?_|refine Y ?_|(refine hK _ _ ?_;clear hK K)|refine And.intro ?_ ?_|exact Ct|intro (K:_->_->Prop) hK|(refine gI fun hg=>?_;try simp only [hC,reduceCtorEq] at hg;try simp only [hg]))|(refine AW.i rfl (fun h=>?_) (fun h=>?_)<;>try simp only [hC,reduceCtorEq] at h)|((with_reducible refine E ?_;repeat refine Y ?_);refine eF rfl ?_)|simp (disch:=omega) only [go_sem,ltI]|(with_reducible intro hg;try simp only [hC,reduceCtorEq] at hg)|exact Cl|fail)
instance Sk(L:Nat->Nat)(n:Int):Ctr L Tryz.prog 267 [] [.v (.int .u8 n)] (.v (.bool (l8 n))) [] True:=by
 refine Ctr.bd Tryz.func267 Tryz.ntmps267 rfl rfl fun hp=>?_
 (repeat' first|(with_reducible first|refine Z ?_|refine Y ?_|(refine hK _ _ ?_;clear hK K)|refine And.intro ?_ ?_|exact Ct|intro (K:_->_->Prop) hK|(refine gI fun hg=>?_;try simp only [hC,reduceCtorEq] at hg;try simp only [hg]))|(refine AW.i rfl (fun h=>?_) (fun h=>?_)<;>try simp only [hC,reduceCtorEq] at h)|((with_reducible refine E ?_;repeat refine Y ?_);refine eF rfl ?_)|simp (disch:=omega) only [go_sem,l8]|(with_reducible intro hg;try simp only [hC,reduceCtorEq] at hg)|exact Cl|fail)
instance OJ(L:Nat->Nat)(n:Int):Ctr L Tryz.prog 211 [] [.v (.int .u8 n)] (.v (.bool (nmI n))) [] True:=by
 refine Ctr.bd Tryz.func211 Tryz.ntmps211 rfl rfl fun hp=>?_
 (repeat' first|(with_reducible first|refine Z ?_|refine Y ?_|(refine hK _ _ ?_;clear hK K)|refine And.intro ?_ ?_|exact Ct|intro (K:_->_->Prop) hK|(refine gI fun hg=>?_;try simp only [hC,reduceCtorEq] at hg;try simp only [hg]))|(refine AW.i rfl (fun h=>?_) (fun h=>?_)<;>try simp only [hC,reduceCtorEq] at h)|((with_reducible refine E ?_;repeat refine Y ?_);refine eF rfl ?_)|simp (disch:=omega) only [go_sem,nmI]|(with_reducible intro hg;try simp only [hC,reduceCtorEq] at hg)|exact Cl|fail)
instance PW(L:Nat->Nat)(n:Int):Ctr L Tryz.prog 283 [] [.v (.int .u8 n)] (.tup []) [] True:=by
 refine Ctr.bd Tryz.func283 Tryz.ntmps283 rfl rfl fun hp=>?_
 all_goals exact uU
instance PV(b:Nat)(n:Str)(l:List Str):Ctr lim Tryz.prog 284 [(b,some [.sl true 1 (l.map AV.str)])] [.str n,.ptr b 0] (.tup []) [some [.sl true 1 ((l++[n]).map AV.str)]] (l.length<=1048576):=by
 refine Ctr.bd Tryz.func284 Tryz.ntmps284 rfl rfl fun hp=>?_
 (refine vU ?_;with_reducible repeat' first|exact Le.l|apply Sw|intro h)
 simp
instance Wh(b:Nat)(s:Str):Ctr lim Tryz.prog 248 [(b,some [.sl true 1 []])] [.str s,.v (.func (.func 283) #[] #[]),.fn 284 [.ptr b 0]] (.v (.bool (tk s).2)) [some [.sl true 1 ((dI (tk s).1).map AV.str)]] (s.length<=1048576):=by
 refine Ctr.bd Tryz.func248 Tryz.ntmps248 rfl rfl fun hp=>?_
 (refine vU ?_;with_reducible repeat' first|exact Le.l|apply Sw|intro h)
 refine AW.aw [7] [0,1,2] (fun m xs o=>∃ (k:Nat) (d:List Tok),xs=[.v (.int .i64 k)]/\o=[(b,some [.sl true 1 ((dI d).map AV.str)])]/\m=s.length - k/\k<=s.length/\(dI d).length<=k/\gV s k d) s.length [(b,some [.sl true 1 []])] ⟨eI _ _ _,trivial⟩ ⟨0,[],?_,rfl,rfl,?_,?_,pX s⟩ ?_
 ·rfl
 ·omega
 ·simp [dI]
 rintro m xs o ⟨k,d,rfl,rfl,rfl,hk,ha,hR⟩
 (refine vU ?_;with_reducible repeat' first|exact Le.l|apply Sw|intro h)
 ·exact ⟨_,[_],_,by omega,⟨k+1,d++[_],rfl,rfl,rfl,by omega,by simp [dN,dI];omega,hR.next (rM (by assumption) h)⟩,rfl,aE (by simp [dN,dI])⟩
 ·exact ⟨_,[_],_,by omega,⟨k+1+1,d++[_],rfl,rfl,rfl,by omega,by simp [dN,dI];omega,hR.next (xo h.1 (by assumption) h.2)⟩,rfl,aE (by simp [dN,dI])⟩
 ·have hne:cX s (k+1)=k+1+1+((s.drop (k+1+1)).takeWhile nmU).length:=by rw [cX,if_pos (by simp only [h.2,Bool.and_true,decide_eq_true_eq];omega),lL h.1 (kL h.2)];omega
  have hle:=oI s (k+1) (by omega)
  refine AW.aw [7] [0,1,2,8] (fun m xs o=>∃ j:Nat,xs=[.v (.int .i64 j)]/\o=[(b,some [.sl true 1 ((dI d).map AV.str)])]/\m=s.length - j/\k+1<=j/\j<=s.length/\j+((s.drop j).takeWhile nmU).length=cX s (k+1)) (s.length - (k+1)) [(b,some [.sl true 1 ((dI d).map AV.str)])] ⟨eI _ _ _,trivial⟩ ⟨k+1,?_,rfl,rfl,?_,?_,?_⟩ ?_
  ·rfl
  ·omega
  ·omega
  ·rw [lL h.1 (kL h.2)];omega
  have h3:cX s (k+1)≠k+1:=by omega
  rintro m xs o ⟨j,rfl,rfl,rfl,hj0,hj,hQ⟩
  (refine vU ?_;with_reducible repeat' first|exact Le.l|apply Sw|intro h)
  ·rw [lL h.1 h.2] at hQ
   exact ⟨_,[_],_,by omega,⟨j+1,rfl,rfl,rfl,by omega,by omega,by omega⟩,rfl,aE rfl⟩
  ·rw [FH h] at hQ
   have hj:j=cX s (k+1):=by simpa using hQ
   subst hj
   exact ⟨_,[_],_,by omega,⟨_,d++[_],rfl,rfl,rfl,by omega,by simp [dN,dI];omega,hR.next (qU (by assumption) (by assumption) (by assumption) h3)⟩,rfl,aE (by simp [dN,dI])⟩
 ·rw [hR.bad (qW (by assumption) (by assumption) (by assumption) h)]
 ·rw [hR.bad (qW (by assumption) (by assumption) (by assumption) h)]
 ·rw [hR.fin h]
 ·rw [hR.fin h]
instance Q1(s:Str):Ctr lim Tryz.prog 244 [] [.str s] (.tup [.sl true 1 ((nmL (tk s)).map AV.str),.v (.bool (tk s).2)]) [] (s.length<=1048576):=by
 refine Ctr.bd Tryz.func244 Tryz.ntmps244 rfl rfl fun hp=>?_
 (refine vU ?_;with_reducible repeat' first|exact Le.l|apply Sw|intro h)
 all_goals simp [nmL,h]
end Go.Proofs
namespace Go.Dt
def idx{α:Type}(p:α->Bool):List α->Int
 | []=>-1
 | x::xs=>if p x then 0 else if idx p xs<0 then -1 else idx p xs+1
theorem pG{α:Type}(p:α->Bool):∀ l:List α,-1<=idx p l
 | []=>by simp [idx]
 | x::xs=>by
  have:=pG p xs
  simp only [idx];split
  ·omega
  ·split<;>omega
theorem CY{α:Type}{p:α->Bool}:∀ {l:List α},(∀ x∈l,p x=false)->idx p l = -1
 | [],_=>rfl
 | x::xs,h=>by
  have h1:=h x (by simp)
  have h2:=CY (l:=xs) fun y hy=>h y (by simp [hy])
  simp [idx,h1,h2]
theorem Il{α:Type}{p:α->Bool}:∀ {l:List α} {k:Nat} (hk:k<l.length),(∀ x∈l.take k,p x=false)->p l[k]=true->idx p l=k
 | x::xs,0,_,_,h=>by
  have:p x=true:=by simpa using h
  simp [idx,this]
 | x::xs,k+1,hk,h,e=>by
  have h1:=h x (by simp)
  have h2:=Il (l:=xs) (k:=k) (by simpa using hk) (fun y hy=>h y (by simp [hy])) (by simpa using e)
  simp only [idx,h1,h2]
  simp;omega
theorem Hb{α:Type}{p:α->Bool}{l:List α}{k:Nat}(hk:k<l.length)(h:∀ x∈l.take k,p x=false)(e:p l[k]=false):∀ x∈l.take (k+1),p x=false:=by
 intro x hx
 rw [List.take_succ_eq_append_getElem hk,List.mem_append] at hx
 rcases hx with hx|hx
 ·exact h x hx
 ·simp at hx;rw [hx];exact e
end Go.Dt
namespace Go.Dt
open Go.Ab
theorem gB{α:Type}[Inhabited α]{p:α->Bool}{l:List α}{k:Nat}(hk:k<l.length)(h:∀ x∈l.take k,p x=false)(e:p (at_ l k)=true):idx p l=k:=by
 refine Il hk h ?_
 have:l[k]=at_ l k:=by unfold at_;rw [List.getElem?_eq_getElem hk];rfl
 rw [this];exact e
theorem bD{α:Type}[Inhabited α]{p:α->Bool}{l:List α}{k:Nat}(hk:k<l.length)(h:∀ x∈l.take k,p x=false)(e:p (at_ l k)=false):∀ x∈l.take (k+1),p x=false:=by
 refine Hb hk h ?_
 have:l[k]=at_ l k:=by unfold at_;rw [List.getElem?_eq_getElem hk];rfl
 rw [this];exact e
theorem jb{α:Type}{p:α->Bool}{l:List α}{k:Nat}(hk:¬ k<l.length)(h:∀ x∈l.take k,p x=false):idx p l = -1 :=
 CY (by rw [List.take_of_length_le (by omega)] at h;exact h)
theorem iL{α:Type}{p:α->Bool}:∀ (l:List α),idx p l<l.length
 | []=>by simp [idx]
 | x::xs=>by
  have:=iL (p:=p) xs
  simp only [idx,List.length_cons]
  split
  ·omega
  ·split<;>omega
def fU(n:Str)(a:bI):Bool:=a.af == n
def lg(l:List bI)(n:Str):Option Str:=if idx (fU n) l<0 then none else some (at_ l (idx (fU n) l).toNat).ax
def gF(l:List bI):List Tok->Str
 | []=>[]
 | .inl c::t=>c::gF l t
 | .inr n::t=>(lg l n).getD []++gF l t
def iX(l:List bI):List Tok->Bool
 | []=>true
 | .inl _::t=>iX l t
 | .inr n::t=>(lg l n).isSome && iX l t
theorem kI(l:List bI):∀ a b:List Tok,gF l (a++b)=gF l a++gF l b
 | [],_=>rfl
 | .inl _::a,b=>by simp [gF,kI l a b]
 | .inr _::a,b=>by simp [gF,kI l a b]
theorem jV(l:List bI):∀ a b:List Tok,iX l (a++b)=(iX l a && iX l b)
 | [],_=>by simp [iX]
 | .inl _::a,b=>by simp [iX,jV l a b]
 | .inr _::a,b=>by simp [iX,jV l a b,Bool.and_assoc]
def ek(l:List bI):Prop:=∀ a∈l,a.ax.length<=1048576
theorem zN{l:List bI}(h:ek l)(n:Str):((lg l n).getD []).length<=1048576:=by
 unfold lg
 split
 ·simp
 ·rename_i hn
  have:=iL (p:=fU n) l
  exact h _ (at_mem (by omega))
theorem mU{l:List bI}(h:ek l):∀ t:List Tok,(gF l t).length<=t.length * 1048576
 | []=>by simp [gF]
 | .inl c::t=>by simp only [gF,List.length_cons];have:=mU h t;omega
 | .inr n::t=>by
  simp only [gF,List.length_cons,List.length_append]
  have:=mU h t
  have:=zN h n
  omega
theorem xp(s:Str):(tk s).1.length<=s.length:=by
 induction h:s.length using Nat.strongRecOn generalizing s with
 | _ n ih =>
  cases s with
  | nil=>rw [Ha];simp
  | cons c r =>
   simp only [List.length_cons] at h
   rw [qV]
   split
   ·cases r with
    | nil=>simp
    | cons d r' =>
     simp only [List.length_cons] at h ⊢
     split
     ·have:=ih r'.length (by omega) r' rfl
      simp only [jB,List.length_cons];omega
     ·split
      ·have h1:=(List.dropWhile_suffix (p:=nmU) (l:=r')).length_le
       have:=ih (r'.dropWhile nmU).length (by omega) _ rfl
       simp only [jB,List.length_cons];omega
      ·simp
   ·have:=ih r.length (by omega) r rfl
    simp only [jB,List.length_cons];omega
theorem DQ(s:Str)(k:Nat):UInt8.ofNat (at8 s k).toNat=at_ s k:=by rw [nk,Int.toNat_natCast,UInt8.ofNat_toNat]
theorem UK{s:Str}{k:Nat}(h:k<s.length):(s.take (k+1)).drop k=[at_ s k]:=by
 rw [List.drop_take,ct h];simp
theorem gV.snd{s:Str}{k:Nat}{d:List Tok}(h:gV s k d):(tk s).2=(tk (s.drop k)).2:=by
 unfold gV at h
 have:=congrArg Prod.snd h
 exact this
theorem gV.fst{s:Str}{k:Nat}{d:List Tok}(h:gV s k d):(tk s).1=d++(tk (s.drop k)).1:=by
 unfold gV at h
 have:=congrArg Prod.fst h
 exact this
theorem gV.more{s:Str}{k:Nat}{d:List Tok}(h:gV s k d)(hok:(tk s).2=true)(hk:k<s.length)(h36:at8 s k=36):k+1<s.length/\(at8 s (k+1:Nat)≠36->cX s (k+1)≠k+1):=by
 rw [h.snd] at hok
 constructor
 ·rcases Nat.lt_or_ge (k+1) s.length with h1|h1
  ·exact h1
  ·rw [qW hk h36 (fun h=>by omega) (fun h=>by omega)] at hok;cases hok
 ·intro h2 h3
  rw [qW hk h36 (fun _=>h2) (x8 h3)] at hok;cases hok
def flB(l:List bI)(p:List Tok×Bool):Bool:=p.2 && iX l p.1
def flS(l:List bI)(p:List Tok×Bool):Str:=bif flB l p then gF l p.1 else []
theorem MF{s:Str}{k:Nat}{d:List Tok}{l:List bI}{n:Str}{j:Nat}(h:gV s k d)(e:tk (s.drop k)=jB (.inr n) (tk (s.drop j)))(hn:idx (fU n) l<0):flB l (tk s)=false:=by
 unfold flB
 rw [h.fst,e,jV]
 simp [jB,iX,lg,hn]
theorem ME{s:Str}{k:Nat}{d:List Tok}{l:List bI}(h:gV s k d)(hk:k<=s.length)(he:k<s.length->(tk s).2=false)(hall:iX l d=true)(hd:(tk s).2=false->d=[]):gF l d=flS l (tk s)/\(tk s).2=flB l (tk s):=by
 by_cases hlt:k<s.length
 ·have h1:=he hlt
  rw [hd h1]
  simp [flS,flB,h1,gF]
 ·have:=h.fin hlt
  simp [flS,flB,this,hall]
end Go.Dt
