/-
  The program's AreDevices returns what the reference's returns, for all arguments (the given card, tied, no further condition).
-/
import Derived.ProofKit
import Derived.OpenShut
import Derived.Test.YtpelkkfkecfmbaaGreatDoorCards
import Derived.Test.YtpelkkfkecfmbaaGreatDoorH55
import Derived.Test.YtpelkkfkecfmbaaGreatDoorH56
import Derived.Test.YtpelkkfkecfmbaaGreatDoorH57
set_option linter.all false
namespace Go.Proofs.YtpelkkfkecfmbaaGreatDoor.fnExactAreDevices
open Go.ChangeShapes Go.WideShapes Go.ChangeAt Go.RowKit Go.Ab Go.Dt
set_option linter.unusedVariables false
theorem own:ownKnob Tryz.prog.godebug=none:=by kernel_rfl
theorem laidOut:laidOutB Tryz.prog=true:=by kernel_rfl
def eV:List (String×DataW Unit):=[("math/bits.deBruijn32tab",Rows.laid_math_bits_deBruijn32tab),("math/bits.deBruijn64tab",Rows.laid_math_bits_deBruijn64tab),("internal/strconv.uint64pow10",Rows.laid_internal_strconv_uint64pow10)]
theorem wy(os:Os)(args:Array Value):laidMetH Tryz.prog eV ((World.laidAll Tryz.prog os eV).forCall (fun _ _=>0) ⟨#[],args,[]⟩).memory :=
 zy args (by kernel_rfl) (by kernel_rfl) (by kernel_rfl)
theorem Ai:(Rows.laid_internal_strconv_uint64pow10:DataW Unit)=Lib.tabData .u64 Lib.pow10Tab:=by kernel_rfl
theorem vT:("internal/strconv.uint64pow10",(Lib.tabData .u64 Lib.pow10Tab:DataW Unit))∈eV:=by rw [<- Ai];simp [eV]
theorem Ah{W:World}(h:laidMetH Tryz.prog eV W):Tb lim (fun b=>b<W.heap.size) W:=by
 rw [MakeChecks.laidMetH_plain _ _ _ (by kernel_rfl)] at h
 obtain ⟨ps,h,_⟩:=h
 refine Kj (g:=1) (by kernel_rfl) (fun k c g' hk hg hl=>?_) (rp (g:=1) (t:=356) (e:=348) (n:=20) (by kernel_rfl) (by kernel_rfl) (by kernel_rfl) (by kernel_rfl) (by kernel_rfl) (by kernel_rfl) vT h)
 match k,hk with
 | 0,_=>exact ⟨rfl,by simp only [lim,zm] at hl;simp at hl;omega⟩
set_option maxRecDepth 100000 in
theorem lifted(os:Os)(started:os.Started)(H:Type)(enc:TypeId×Value->H) :
  ReturnsInHanded {} Tryz.checked os 5 .any (fun w args=>(Rows.fnExactAreDevicesSpec.pre enc Tryz.prog Tryz.f5 Rows.fnExactAreDevicesRow.domain false w args/\laidMetH Tryz.prog eV w)/\sizedMet enc Tryz.prog Tryz.f5 (OpenSpec.ofChange Rows.fnExactAreDevicesSpec) false w args) (Rows.fnExactAreDevicesSpec.post enc Tryz.prog Tryz.f5 false true false false):=by
 refine returnsInHanded_of_change_and (C:=Tryz.checked) (X:=fun w _=>laidMetH Tryz.prog eV w) (fun _ _ _ hh h=>h.of_heap hh) own started (by kernel_rfl) Tryz.func5
  (ChangeSpec.witness_shaped (enc:=enc) (C:=Tryz.checked) (os:=os) (X:=fun w _=>laidMetH Tryz.prog eV w) false (World.laidAll Tryz.prog os eV) #[.slice none 0 0] 8 (World.laidAll_os _ _ _) (World.shaped_of_ZipB (by kernel_rfl) (by kernel_rfl)) (by kernel_rfl) (by kernel_rfl) (by kernel_rfl) (wy os _)) ?_
 intro W base args ds gs before rL hW hcnd wO hL _
 have hval:∀ (j:Nat) t v,Tryz.f5.params[j]? = some t->args[j]? = some v->Value.okWide Tryz.prog W .any base t v:=rL
 have hsz:(DataW.weightsEach Tryz.prog (Tryz.f5.params.toList++Rows.fnExactAreDevicesSpec.plain.varTypes Tryz.prog) (ds++gs)).all (·<=reachBytes)=true:=wO
 have hW':=hW
 obtain ⟨p,q,hA0,hV,rfl,hfz,hnd⟩:=hW
 have hA:DataW.TrodAll enc Tryz.prog W 0 (fun _=>true) true Tryz.f5.params.toList args.toList ds p:=hA0
 rw [Tryz.params5] at hA hval hsz
 obtain ⟨v0,vs0,d0,ds0,p0,q0,hargs,rfl,rfl,h0,r0⟩:=trodAll_cons hA
 obtain ⟨rfl,rfl,rfl⟩:=trodAll_nil r0
 obtain rfl:args=#[v0]:=by cases args;simp_all
 obtain ⟨rfl,rfl⟩:=trodVars_none hV
 have k0:=h0
 have lt0:∀ x∈p0,x.block<W.heap.size:=by obtain ⟨m,hm⟩:=k0;exact DataW.trod_lt m _ _ _ hm
 have hz:=List.all_eq_true.1 hsz
 obtain ⟨x0,r0⟩:∃ l:List Dt.bJ,Rep gE (fun b=>b<W.heap.size) W (.sl false 15 (l.map (cq false))) v0 []:=by
  obtain ⟨m,hm⟩:=h0
  obtain ⟨l,_,hr⟩:=aN.slice (enc:=enc) (P:=Tryz.prog) (t:=50) (e:=30) (bytes:=232) (by kernel_rfl) (by decide) (by decide) (gh _) O4 (zf m) m (by omega) _ _ hm (fun k hk=>by
   have:=hz k (by simp only [List.cons_append,DataW.weightsEach,List.mem_append];exact .inl hk)
   simpa using this)
  obtain ⟨a,n,c,rfl⟩:=okWide_slice (e:=30) (by kernel_rfl) (hval 0 50 v0 rfl rfl)
  exact ⟨l,au.one (by simpa [Value.cells] using hr)⟩
 clear hA0 rL wO
 refine ((Bh x0).walk W [v0] (Ah hL) (au.single r0)).mono fun e W' ⟨he,bel⟩=>?_
 subst he
 exact ⟨_,rfl,_,_,_,[],_,[],hW',trodAll_mk1 (shut_bool (by kernel_rfl) _),(trodAll_cons_mk (Below.trod laidOut (by kernel_rfl) (of_decide_eq_true (by kernel_rfl)) k0 bel lt0) trodAll_mk0),rfl,bel.frame _,fun h=>by cases h⟩
theorem over:Rows.fnExactAreDevicesRow.holds Tryz.pinned (OpenSpec.ofChange Rows.fnExactAreDevicesSpec) :=
 OpenClaim.holds_of_wide 5 Tryz.f5 rfl rfl rfl rfl rfl rfl rfl ⟨rfl,rfl,rfl,rfl,rfl⟩ rfl rfl rfl rfl rfl (by kernel_rfl) Tryz.func5 closed
  (of_decide_eq_true (by kernel_rfl)) (by unfold Func.isWrapper;first|(rw [if_pos (by decide +kernel)];kernel_rfl)|(rw [if_neg (by decide +kernel)];exact ⟨rfl,rfl⟩))
  (fun os started H enc _=>lifted os started H enc)
theorem w1:Rows.fnExactAreDevicesRow.wfByText (OpenSpec.ofChange Rows.fnExactAreDevicesSpec)=true:=by kernel_rfl
theorem w2:Tryz.pinned.checked.prog.mainIs=some (true, "a7fd6ab52fcd751b7aa872e545bcf0ed984d16b0d3595c5d8d84f01f64a01ca3".toList):=by kernel_rfl
theorem w3:false=Tryz.pinned.checked.prog.looks []:=by kernel_rfl
theorem w5:Tryz.prog.funcNamed "loop.example/g03013/laws.FnExactAreDevices"=some 5:=by kernel_rfl
theorem w6:([50].all fun u=>!Tryz.prog.wantsStandIn u)=true:=by kernel_rfl
theorem proved:Rows.FnExactAreDevicesCardSaid :=
 Claim7.holds_tied_plain_at .later [] [.data,.data,.data] true (true, "a7fd6ab52fcd751b7aa872e545bcf0ed984d16b0d3595c5d8d84f01f64a01ca3") false
  over (fun _ h=>by cases h) w1 (fun _ h=>by cases h) fnExactAreDevices_row_tie rfl ⟨rfl,rfl⟩ w2 rfl
  (fun f fn hf hfn=>by
   obtain rfl:f=5:=Option.some.inj (w5.symm.trans hf) |>.symm
   obtain rfl:fn=Tryz.f5:=(Option.some.inj (Tryz.func5.symm.trans hfn)).symm
   exact ⟨w3,fun j t ht=>by
    rw [Tryz.params5] at ht
    have hm:t∈[50]:=by simpa using Array.mem_of_getElem? ht
    exact (show Tryz.prog.wantsStandIn t=false by simpa using List.all_eq_true.1 w6 t hm)⟩)
  w4
#print axioms proved
end Go.Proofs.YtpelkkfkecfmbaaGreatDoor.fnExactAreDevices
