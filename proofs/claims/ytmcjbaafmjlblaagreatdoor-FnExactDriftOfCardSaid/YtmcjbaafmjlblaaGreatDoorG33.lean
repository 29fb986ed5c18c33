/-
  Part of a proof: Mkb.
-/
import Derived.Test.YtmcjbaafmjlblaaGreatDoorG11
import Derived.Test.YtmcjbaafmjlblaaGreatDoorG22
import Derived.Test.YtmcjbaafmjlblaaGreatDoorG32
set_option linter.unusedSimpArgs false
set_option linter.unusedVariables false
namespace Go.Ab
open Go.Ab
theorem map_elem{α:Type}{e:α→AV}{sz:Nat}(h:∀ x,(e x).elem sz=true)(l:List α):∀ x,x∈l.map e→x.elem sz=true:=by
 intro x hx
 obtain ⟨y,_,rfl⟩:=List.mem_map.1 hx
 exact h y
end Go.Ab
namespace Go.Proofs.YtmcjbaafmjlblaaGreatDoor
open Go.Ab Go.Dt
set_option maxRecDepth 20000
set_option maxHeartbeats 4000000
theorem mks_mkL:∀ (l:List Str) (k:Int),mkL stString l k=(mks l.length k,k+l.length)
 | [],k=>by simp [mkL,mks]
 | x::xs,k=>by
  have:=mks_mkL xs (k+1)
  simp only [mkL,stString,this,List.length_cons,mks]
  congr 1;omega
instance markString2_i(l:List Str)(k:Int):BCtr lim Tryz.prog 74 1 (l.map AV.str) [.v (.int .i64 k)] (.v (.int .i64 (mkL stString l k).2)) ((mkL stString l k).1.map AV.str) (0≤k∧(mkL stString l k).2≤1099511627776):=by
 rw [mks_mkL];exact markStringS_i l k
end Go.Proofs.YtmcjbaafmjlblaaGreatDoor
