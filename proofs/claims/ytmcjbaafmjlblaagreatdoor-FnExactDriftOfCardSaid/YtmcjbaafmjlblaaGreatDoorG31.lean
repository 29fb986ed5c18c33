/-
  Part of a proof: Cp1t, AbA.
-/
import Derived.Test.YtmcjbaafmjlblaaGreatDoorG11
import Derived.Test.YtmcjbaafmjlblaaGreatDoorG29
import Derived.Test.YtmcjbaafmjlblaaGreatDoorG30
set_option linter.unusedSimpArgs false
set_option linter.unusedVariables false
namespace Go.Proofs.YtmcjbaafmjlblaaGreatDoor
open Go.Ab Go.Dt
set_option maxRecDepth 20000
set_option maxHeartbeats 4000000
instance sCopyType_i(x:GType):Ctr lim Tryz.prog 193 [] [.agg [.v (.int .i64 x.fKind),.sl false 2 (x.fRanges.map (encRange false)),.sl false 1 (x.fNames.map AV.str),.str x.fPattern,.str x.fPath]] (.agg [.v (.int .i64 x.fKind),.sl true 2 (x.fRanges.map (encRange true)),.sl true 1 (x.fNames.map AV.str),.str x.fPattern,.str x.fPath]) [] True:=by
 refine Ctr.of_body en193 Tryz.func193 rfl rfl fun hp=>(?_);rw [Tryz.ntmps193]
 refine AW.fact 0 fun hf=>?_
 simp (disch:=omega) only [go_sem] at hf
 (refine bU ?_;with_reducible repeat' first|exact Le.l|refine Sw ?_ ?_|intro h)
 rfl
end Go.Proofs.YtmcjbaafmjlblaaGreatDoor
namespace Go.Ab
section
variable {L : Nat → Nat} {n : Nat} {t : List (Nat × AV)} {o : Sto} {Q : AS → Prop}
theorem Imp.foldA{b0 k b sz:Nat}{cells0 l:List AV}(x:AV)(hO0:O o b0=some cells0)(hk:cells0[k]? = some (.arr b 0 (l.length+1) sz))(hO:O o b=some (l.flatMap AV.cells++x.cells))(hne:b≠b0)(hel:∀ y,y∈l→y.elem sz=true)(hx:x.elem sz=true)
  (h:Q ⟨n,t,(b,none)::(b0,some (cells0.set k (.sl true sz (l++[x]))))::o⟩):Imp L ⟨n,t,o⟩ Q:=by
 have hel':∀ y,y∈l++[x]→y.elem sz=true:=by
  intro y hy
  rcases List.mem_append.1 hy with hy|hy
  ·exact hel y hy
  ·rw [List.mem_singleton.1 hy];exact hx
 refine Imp.foldO (b0:=b0) (k:=k) (b:=b) (len:=l.length+1) (sz:=sz) (l:=l++[x]) hO0 hk hO hne (by simp) ?_ hel' h
 have h1:=flat_elem_len hel'
 rw [List.length_append,List.length_singleton,List.flatMap_append,List.flatMap_cons,List.flatMap_nil,List.append_nil] at h1
 rw [List.flatMap_append,List.flatMap_cons,List.flatMap_nil,List.append_nil,List.take_of_length_le (Nat.le_of_eq h1)]
end
end Go.Ab
