/-
  The program's OpenDevices returns what the reference's returns, for all arguments (the given card, tied, no further condition).
-/
import Derived.ProofKit
import Derived.OpenShut
import Derived.Test.YtbiikafnjialjaaGreatDoorCards
import Derived.Test.YtbiikafnjialjaaGreatDoorQ53
import Derived.Test.YtbiikafnjialjaaGreatDoorQ54
import Derived.Test.YtbiikafnjialjaaGreatDoorQ55
set_option linter.all false
namespace Go.Proofs.YtbiikafnjialjaaGreatDoor.fnExactOpenDevices
open Go.ChangeShapes Go.WideShapes Go.ChangeAt Go.RowKit Go.Ab Go.Dt
set_option linter.unusedVariables false
theorem own:ownKnob Tryz.prog.godebug=none:=by kernel_rfl
theorem laidOut:laidOutB Tryz.prog=true:=by kernel_rfl
def gX:List (String×DataW Unit):=[("math/bits.deBruijn32tab",Rows.laid_math_bits_deBruijn32tab),("math/bits.deBruijn64tab",Rows.laid_math_bits_deBruijn64tab),("internal/strconv.uint64pow10",Rows.laid_internal_strconv_uint64pow10)]
theorem xJ(os:Os)(args:Array Value):laidMetH Tryz.prog gX ((World.laidAll Tryz.prog os gX).forCall (fun _ _=>0) ⟨#[],args,[]⟩).memory :=
 AP args (by kernel_rfl) (by kernel_rfl) (by kernel_rfl)
theorem BF:(Rows.laid_internal_strconv_uint64pow10:DataW Unit)=Lib.tabData .u64 Lib.pow10Tab:=by kernel_rfl
theorem xe:("internal/strconv.uint64pow10",(Lib.tabData .u64 Lib.pow10Tab:DataW Unit))∈gX:=by rw [<- BF];simp [gX]
theorem BD{W:World}(h:laidMetH Tryz.prog gX W):Tb lim (fun b=>b<W.heap.size) W:=by
 rw [MakeChecks.laidMetH_plain _ _ _ (by kernel_rfl)] at h
 obtain ⟨ps,h,_⟩:=h
 refine K2 (g:=0) (by kernel_rfl) (fun k c g' hk hg hl=>?_) (sY (g:=0) (t:=401) (e:=386) (n:=20) (by kernel_rfl) (by kernel_rfl) (by kernel_rfl) (by kernel_rfl) (by kernel_rfl) (by kernel_rfl) xe h)
 match k,hk with
 | 0,_=>exact ⟨rfl,by simp only [lim,AE] at hl;simp at hl;omega⟩
set_option maxRecDepth 100000 in
theorem lifted(os:Os)(started:os.Started)(H:Type)(enc:TypeId×Value->H) :
  ReturnsInHanded {} Tryz.checked os 7 .any (fun w args=>(Rows.fnExactOpenDevicesSpec.pre enc Tryz.prog Tryz.f7 Rows.fnExactOpenDevicesRow.domain false w args/\laidMetH Tryz.prog gX w)/\sizedMet enc Tryz.prog Tryz.f7 (OpenSpec.ofChange Rows.fnExactOpenDevicesSpec) false w args) (Rows.fnExactOpenDevicesSpec.post enc Tryz.prog Tryz.f7 false true false false):=by
 refine returnsInHanded_of_change_and (C:=Tryz.checked) (X:=fun w _=>laidMetH Tryz.prog gX w) (fun _ _ _ hh h=>h.of_heap hh) own started (by kernel_rfl) Tryz.func7
  (ChangeSpec.witness_shaped (enc:=enc) (C:=Tryz.checked) (os:=os) (X:=fun w _=>laidMetH Tryz.prog gX w) false (World.laidAll Tryz.prog os gX) #[.agg #[.slice none 0 0,.slice none 0 0,.slice none 0 0,.int .i64 0,.slice none 0 0,.int .i64 0,.slice none 0 0,.int .i64 0]] 8 (World.laidAll_os _ _ _) (World.shaped_of_ZipB (by kernel_rfl) (by kernel_rfl)) (by kernel_rfl) (by kernel_rfl) (by kernel_rfl) (xJ os _)) ?_
 intro W base args ds gs before tL hW hcnd yc hL _
 have hval:∀ (j:Nat) t v,Tryz.f7.params[j]? = some t->args[j]? = some v->Value.okWide Tryz.prog W .any base t v:=tL
 have hsz:(DataW.weightsEach Tryz.prog (Tryz.f7.params.toList++Rows.fnExactOpenDevicesSpec.plain.varTypes Tryz.prog) (ds++gs)).all (·<=reachBytes)=true:=yc
 have hW':=hW
 obtain ⟨p,q,hA0,hV,rfl,hfz,hnd⟩:=hW
 have hA:DataW.TrodAll enc Tryz.prog W 0 (fun _=>true) true Tryz.f7.params.toList args.toList ds p:=hA0
 rw [Tryz.params7] at hA hval hsz
 obtain ⟨v0,vs0,d0,ds0,p0,q0,hargs,rfl,rfl,h0,r0⟩:=trodAll_cons hA
 obtain ⟨rfl,rfl,rfl⟩:=trodAll_nil r0
 obtain rfl:args=#[v0]:=by cases args;simp_all
 obtain ⟨rfl,rfl⟩:=trodVars_none hV
 have k0:=h0
 have lt0:∀ x∈p0,x.block<W.heap.size:=by obtain ⟨m,hm⟩:=k0;exact DataW.trod_lt m _ _ _ hm
 have hz:=List.all_eq_true.1 hsz
 obtain ⟨x0,r0⟩:∃ x:Dt.fB,Rep fN (fun b=>b<W.heap.size) W (rC false x) v0 []:=by
  obtain ⟨m,hm⟩:=h0
  obtain ⟨c,_,hr⟩:=Nq m m (Nat.le_refl _) _ _ hm (fun k hk=>by
   have:=hz k (by simp only [List.cons_append,DataW.weightsEach,List.mem_append];exact .inl hk)
   simpa using this)
  obtain ⟨cs,rfl⟩:=rv (x:=(8,[(25,0,2),(81,2,1),(97,3,2),(97,5,2),(3,7,1)])) (by kernel_rfl) (hval 0 99 v0 rfl rfl)
  refine ⟨c,?_⟩
  simp only [go_sem,Rep]
  exact ⟨cs.toList,by simp,by simpa [Value.cells,CP] using hr⟩
 clear hA0 tL yc
 refine ((AL x0).walk W [v0] (BD hL) (au.single r0)).mono fun e W' ⟨he,bel⟩=>?_
 subst he
 exact ⟨_,rfl,_,_,_,[],_,[],hW',trodAll_mk1 (shut_bool (by kernel_rfl) _),(trodAll_cons_mk (Below.trod laidOut (by kernel_rfl) (of_decide_eq_true (by kernel_rfl)) k0 bel lt0) trodAll_mk0),rfl,bel.frame _,fun h=>by cases h⟩
theorem over:Rows.fnExactOpenDevicesRow.holds Tryz.pinned (OpenSpec.ofChange Rows.fnExactOpenDevicesSpec) :=
 OpenClaim.holds_of_wide 7 Tryz.f7 rfl rfl rfl rfl rfl rfl rfl ⟨rfl,rfl,rfl,rfl,rfl⟩ rfl rfl rfl rfl rfl (by kernel_rfl) Tryz.func7 closed
  (of_decide_eq_true (by kernel_rfl)) (by unfold Func.isWrapper;first|(rw [if_pos (by decide +kernel)];kernel_rfl)|(rw [if_neg (by decide +kernel)];exact ⟨rfl,rfl⟩))
  (fun os started H enc _=>lifted os started H enc)
theorem w1:Rows.fnExactOpenDevicesRow.wfByText (OpenSpec.ofChange Rows.fnExactOpenDevicesSpec)=true:=by kernel_rfl
theorem w2:Tryz.pinned.checked.prog.mainIs=some (true, "d2c10dc79398d925296a6135311dc9ab319987c0b3181c3b904e541ccba5af2c".toList):=by kernel_rfl
theorem w3:false=Tryz.pinned.checked.prog.looks []:=by kernel_rfl
theorem w5:Tryz.prog.funcNamed "loop.example/g03013/laws.FnExactOpenDevices"=some 7:=by kernel_rfl
theorem w6:([99].all fun u=>!Tryz.prog.wantsStandIn u)=true:=by kernel_rfl
theorem proved:Rows.FnExactOpenDevicesCardSaid :=
 Claim7.holds_tied_plain_at .later [] [.data,.data,.data] true (true, "d2c10dc79398d925296a6135311dc9ab319987c0b3181c3b904e541ccba5af2c") false
  over (fun _ h=>by cases h) w1 (fun _ h=>by cases h) fnExactOpenDevices_row_tie rfl ⟨rfl,rfl⟩ w2 rfl
  (fun f fn hf hfn=>by
   obtain rfl:f=7:=Option.some.inj (w5.symm.trans hf) |>.symm
   obtain rfl:fn=Tryz.f7:=(Option.some.inj (Tryz.func7.symm.trans hfn)).symm
   exact ⟨w3,fun j t ht=>by
    rw [Tryz.params7] at ht
    have hm:t∈[99]:=by simpa using Array.mem_of_getElem? ht
    exact (show Tryz.prog.wantsStandIn t=false by simpa using List.all_eq_true.1 w6 t hm)⟩)
  w4
#print axioms proved
end Go.Proofs.YtbiikafnjialjaaGreatDoor.fnExactOpenDevices
