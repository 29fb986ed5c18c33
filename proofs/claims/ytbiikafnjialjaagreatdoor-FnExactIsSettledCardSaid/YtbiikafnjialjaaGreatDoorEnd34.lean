/-
  The program's IsSettled returns what the reference's returns, for all arguments (the given card, tied, no further condition).
-/
import Derived.ProofKit
import Derived.OpenShut
import Derived.Test.YtbiikafnjialjaaGreatDoorCards
import Derived.Test.YtbiikafnjialjaaGreatDoorQ48
import Derived.Test.YtbiikafnjialjaaGreatDoorQ49
import Derived.Test.YtbiikafnjialjaaGreatDoorQ50
set_option linter.all false
namespace Go.Proofs.YtbiikafnjialjaaGreatDoor.fnExactIsSettled
open Go.ChangeShapes Go.WideShapes Go.ChangeAt Go.RowKit Go.Ab Go.Dt
set_option linter.unusedVariables false
theorem own:ownKnob Tryz.prog.godebug=none:=by kernel_rfl
theorem laidOut:laidOutB Tryz.prog=true:=by kernel_rfl
def gX:List (String×DataW Unit):=[("math/bits.deBruijn32tab",Rows.laid_math_bits_deBruijn32tab),("math/bits.deBruijn64tab",Rows.laid_math_bits_deBruijn64tab),("internal/strconv.uint64pow10",Rows.laid_internal_strconv_uint64pow10)]
theorem xJ(os:Os)(args:Array Value):laidMetH Tryz.prog gX ((World.laidAll Tryz.prog os gX).forCall (fun _ _=>0) ⟨#[],args,[]⟩).memory :=
 AP args (by kernel_rfl) (by kernel_rfl) (by kernel_rfl)
theorem BF:(Rows.laid_internal_strconv_uint64pow10:DataW Unit)=Lib.tabData .u64 Lib.pow10Tab:=by kernel_rfl
theorem xe:("internal/strconv.uint64pow10",(Lib.tabData .u64 Lib.pow10Tab:DataW Unit))∈gX:=by rw [<- BF];simp [gX]
theorem BD{W:World}(h:laidMetH Tryz.prog gX W):Tb lim (fun b=>b<W.heap.size) W:=by
 rw [MakeChecks.laidMetH_plain _ _ _ (by kernel_rfl)] at h
 obtain ⟨ps,h,_⟩:=h
 refine K2 (g:=0) (by kernel_rfl) (fun k c g' hk hg hl=>?_) (sY (g:=0) (t:=401) (e:=386) (n:=20) (by kernel_rfl) (by kernel_rfl) (by kernel_rfl) (by kernel_rfl) (by kernel_rfl) (by kernel_rfl) xe h)
 match k,hk with
 | 0,_=>exact ⟨rfl,by simp only [lim,AE] at hl;simp at hl;omega⟩
set_option maxRecDepth 100000 in
theorem lifted(os:Os)(started:os.Started)(H:Type)(enc:TypeId×Value->H) :
  ReturnsInHanded {} Tryz.checked os 5 .any (fun w args=>(Rows.fnExactIsSettledSpec.pre enc Tryz.prog Tryz.f5 Rows.fnExactIsSettledRow.domain false w args/\laidMetH Tryz.prog gX w)/\sizedMet enc Tryz.prog Tryz.f5 (OpenSpec.ofChange Rows.fnExactIsSettledSpec) false w args) (Rows.fnExactIsSettledSpec.post enc Tryz.prog Tryz.f5 false true false false):=by
 refine returnsInHanded_of_change_and (C:=Tryz.checked) (X:=fun w _=>laidMetH Tryz.prog gX w) (fun _ _ _ hh h=>h.of_heap hh) own started (by kernel_rfl) Tryz.func5
  (ChangeSpec.witness_shaped (enc:=enc) (C:=Tryz.checked) (os:=os) (X:=fun w _=>laidMetH Tryz.prog gX w) false (World.laidAll Tryz.prog os gX) #[.agg #[.slice none 0 0,.slice none 0 0],.agg #[.string ⟨#[]⟩,.slice none 0 0,.slice none 0 0,.slice none 0 0,.int .i64 0,.slice none 0 0,.bool false,.int .i64 0,.int .i64 0,.string ⟨#[]⟩,.slice none 0 0,.slice none 0 0,.bool false,.int .i64 0,.bool false]] 8 (World.laidAll_os _ _ _) (World.shaped_of_ZipB (by kernel_rfl) (by kernel_rfl)) (by kernel_rfl) (by kernel_rfl) (by kernel_rfl) (xJ os _)) ?_
 intro W base args ds gs before tL hW hcnd yc hL _
 have hval:∀ (j:Nat) t v,Tryz.f5.params[j]? = some t->args[j]? = some v->Value.okWide Tryz.prog W .any base t v:=tL
 have hsz:(DataW.weightsEach Tryz.prog (Tryz.f5.params.toList++Rows.fnExactIsSettledSpec.plain.varTypes Tryz.prog) (ds++gs)).all (·<=reachBytes)=true:=yc
 have hW':=hW
 obtain ⟨p,q,hA0,hV,rfl,hfz,hnd⟩:=hW
 have hA:DataW.TrodAll enc Tryz.prog W 0 (fun _=>true) true Tryz.f5.params.toList args.toList ds p:=hA0
 rw [Tryz.params5] at hA hval hsz
 obtain ⟨v0,vs0,d0,ds0,p0,q0,hargs,rfl,rfl,h0,r0⟩:=trodAll_cons hA
 obtain ⟨v1,vs1,d1,ds1,p1,q1,rfl,rfl,rfl,h1,r1⟩:=trodAll_cons r0
 obtain ⟨rfl,rfl,rfl⟩:=trodAll_nil r1
 obtain rfl:args=#[v0,v1]:=by cases args;simp_all
 obtain ⟨rfl,rfl⟩:=trodVars_none hV
 have k0:=h0
 have lt0:∀ x∈p0,x.block<W.heap.size:=by obtain ⟨m,hm⟩:=k0;exact DataW.trod_lt m _ _ _ hm
 have k1:=h1
 have lt1:∀ x∈p1,x.block<W.heap.size:=by obtain ⟨m,hm⟩:=k1;exact DataW.trod_lt m _ _ _ hm
 have hz:=List.all_eq_true.1 hsz
 obtain ⟨x0,r0⟩:∃ x:Dt.gN,Rep fN (fun b=>b<W.heap.size) W (p7 false x) v0 []:=by
  obtain ⟨m,hm⟩:=h0
  obtain ⟨c,_,hr⟩:=GI m m (Nat.le_refl _) _ _ hm (fun k hk=>by
   have:=hz k (by simp only [List.cons_append,DataW.weightsEach,List.mem_append];exact .inl hk)
   simpa using this)
  obtain ⟨cs,rfl⟩:=rv (x:=(2,[(22,0,1),(23,1,1)])) (by kernel_rfl) (hval 0 25 v0 rfl rfl)
  refine ⟨c,?_⟩
  simp only [go_sem,Rep]
  exact ⟨cs.toList,by simp,by simpa [Value.cells,D8] using hr⟩
 obtain ⟨x1,r1⟩:∃ x:Dt.dI,Rep fN (fun b=>b<W.heap.size) W (cm false x) v1 []:=by
  obtain ⟨m,hm⟩:=h1
  obtain ⟨c,_,hr⟩:=GJ m m (Nat.le_refl _) _ _ hm (fun k hk=>by
   have:=hz k (by simp only [List.cons_append,DataW.weightsEach,List.mem_append];exact .inr (.inl hk))
   simpa using this)
  obtain ⟨cs,rfl⟩:=rv (x:=(15,[(9,0,1),(66,1,10),(57,11,1),(4,12,1),(3,13,1),(4,14,1)])) (by kernel_rfl) (hval 1 68 v1 rfl rfl)
  refine ⟨c,?_⟩
  simp only [go_sem,Rep]
  exact ⟨cs.toList,by simp,by simpa [Value.cells,qD] using hr⟩
 clear hA0 tL yc
 refine ((Dr x0 x1).walk W [v0,v1] (BD hL) (au.app (au.single r0) (au.single r1))).mono fun e W' ⟨he,bel⟩=>?_
 subst he
 exact ⟨_,rfl,_,_,_,[],_,[],hW',trodAll_mk1 (shut_bool (by kernel_rfl) _),(trodAll_cons_mk (Below.trod laidOut (by kernel_rfl) (of_decide_eq_true (by kernel_rfl)) k0 bel lt0) (trodAll_cons_mk (Below.trod laidOut (by kernel_rfl) (of_decide_eq_true (by kernel_rfl)) k1 bel lt1) trodAll_mk0)),rfl,bel.frame _,fun h=>by cases h⟩
theorem over:Rows.fnExactIsSettledRow.holds Tryz.pinned (OpenSpec.ofChange Rows.fnExactIsSettledSpec) :=
 OpenClaim.holds_of_wide 5 Tryz.f5 rfl rfl rfl rfl rfl rfl rfl ⟨rfl,rfl,rfl,rfl,rfl⟩ rfl rfl rfl rfl rfl (by kernel_rfl) Tryz.func5 closed
  (of_decide_eq_true (by kernel_rfl)) (by unfold Func.isWrapper;first|(rw [if_pos (by decide +kernel)];kernel_rfl)|(rw [if_neg (by decide +kernel)];exact ⟨rfl,rfl⟩))
  (fun os started H enc _=>lifted os started H enc)
theorem w1:Rows.fnExactIsSettledRow.wfByText (OpenSpec.ofChange Rows.fnExactIsSettledSpec)=true:=by kernel_rfl
theorem w2:Tryz.pinned.checked.prog.mainIs=some (true, "d2c10dc79398d925296a6135311dc9ab319987c0b3181c3b904e541ccba5af2c".toList):=by kernel_rfl
theorem w3:false=Tryz.pinned.checked.prog.looks []:=by kernel_rfl
theorem w5:Tryz.prog.funcNamed "loop.example/g03013/laws.FnExactIsSettled"=some 5:=by kernel_rfl
theorem w6:([25,68].all fun u=>!Tryz.prog.wantsStandIn u)=true:=by kernel_rfl
theorem proved:Rows.FnExactIsSettledCardSaid :=
 Claim7.holds_tied_plain_at .later [] [.data,.data,.data] true (true, "d2c10dc79398d925296a6135311dc9ab319987c0b3181c3b904e541ccba5af2c") false
  over (fun _ h=>by cases h) w1 (fun _ h=>by cases h) fnExactIsSettled_row_tie rfl ⟨rfl,rfl⟩ w2 rfl
  (fun f fn hf hfn=>by
   obtain rfl:f=5:=Option.some.inj (w5.symm.trans hf) |>.symm
   obtain rfl:fn=Tryz.f5:=(Option.some.inj (Tryz.func5.symm.trans hfn)).symm
   exact ⟨w3,fun j t ht=>by
    rw [Tryz.params5] at ht
    have hm:t∈[25,68]:=by simpa using Array.mem_of_getElem? ht
    exact (show Tryz.prog.wantsStandIn t=false by simpa using List.all_eq_true.1 w6 t hm)⟩)
  w4
#print axioms proved
end Go.Proofs.YtbiikafnjialjaaGreatDoor.fnExactIsSettled
