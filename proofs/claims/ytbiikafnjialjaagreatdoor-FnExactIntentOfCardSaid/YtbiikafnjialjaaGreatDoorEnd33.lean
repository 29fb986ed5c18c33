/-
  The program's IntentOf returns what the reference's returns, for all arguments (the given card, tied, no further condition).
-/
import Derived.ProofKit
import Derived.OpenShut
import Derived.Test.YtbiikafnjialjaaGreatDoorCards
import Derived.Test.YtbiikafnjialjaaGreatDoorQ43
import Derived.Test.YtbiikafnjialjaaGreatDoorQ44
import Derived.Test.YtbiikafnjialjaaGreatDoorQ45
set_option linter.all false
namespace Go.Proofs.YtbiikafnjialjaaGreatDoor.fnExactIntentOf
open Go.ChangeShapes Go.WideShapes Go.ChangeAt Go.RowKit Go.Ab Go.Dt
set_option linter.unusedVariables false
theorem own:ownKnob Tryz.prog.godebug=none:=by kernel_rfl
theorem laidOut:laidOutB Tryz.prog=true:=by kernel_rfl
def gX:List (String×DataW Unit):=[("math/bits.deBruijn32tab",Rows.laid_math_bits_deBruijn32tab),("math/bits.deBruijn64tab",Rows.laid_math_bits_deBruijn64tab),("internal/strconv.uint64pow10",Rows.laid_internal_strconv_uint64pow10)]
theorem xJ(os:Os)(args:Array Value):laidMetH Tryz.prog gX ((World.laidAll Tryz.prog os gX).forCall (fun _ _=>0) ⟨#[],args,[]⟩).memory :=
 AP args (by kernel_rfl) (by kernel_rfl) (by kernel_rfl)
theorem BF:(Rows.laid_internal_strconv_uint64pow10:DataW Unit)=Lib.tabData .u64 Lib.pow10Tab:=by kernel_rfl
theorem xe:("internal/strconv.uint64pow10",(Lib.tabData .u64 Lib.pow10Tab:DataW Unit))∈gX:=by rw [<- BF];simp [gX]
theorem BD{W:World}(h:laidMetH Tryz.prog gX W):Tb lim (fun b=>b<W.heap.size) W:=by
 rw [MakeChecks.laidMetH_plain _ _ _ (by kernel_rfl)] at h
 obtain ⟨ps,h,_⟩:=h
 refine K2 (g:=0) (by kernel_rfl) (fun k c g' hk hg hl=>?_) (sY (g:=0) (t:=401) (e:=386) (n:=20) (by kernel_rfl) (by kernel_rfl) (by kernel_rfl) (by kernel_rfl) (by kernel_rfl) (by kernel_rfl) xe h)
 match k,hk with
 | 0,_=>exact ⟨rfl,by simp only [lim,AE] at hl;simp at hl;omega⟩
set_option maxRecDepth 100000 in
theorem lifted(os:Os)(started:os.Started)(H:Type)(enc:TypeId×Value->H) :
  ReturnsInHanded {} Tryz.checked os 4 .any (fun w args=>(Rows.fnExactIntentOfSpec.pre enc Tryz.prog Tryz.f4 Rows.fnExactIntentOfRow.domain false w args/\laidMetH Tryz.prog gX w)/\sizedMet enc Tryz.prog Tryz.f4 (OpenSpec.ofChange Rows.fnExactIntentOfSpec) false w args) (Rows.fnExactIntentOfSpec.post enc Tryz.prog Tryz.f4 false true false false):=by
 refine returnsInHanded_of_change_and (C:=Tryz.checked) (X:=fun w _=>laidMetH Tryz.prog gX w) (fun _ _ _ hh h=>h.of_heap hh) own started (by kernel_rfl) Tryz.func4
  (ChangeSpec.witness_shaped (enc:=enc) (C:=Tryz.checked) (os:=os) (X:=fun w _=>laidMetH Tryz.prog gX w) false (World.laidAll Tryz.prog os gX) #[.agg #[.slice none 0 0,.slice none 0 0],.slice none 0 0,.string ⟨#[]⟩,.slice none 0 0] 8 (World.laidAll_os _ _ _) (World.shaped_of_ZipB (by kernel_rfl) (by kernel_rfl)) (by kernel_rfl) (by kernel_rfl) (by kernel_rfl) (xJ os _)) ?_
 intro W base args ds gs before tL hW hcnd yc hL _
 have hval:∀ (j:Nat) t v,Tryz.f4.params[j]? = some t->args[j]? = some v->Value.okWide Tryz.prog W .any base t v:=tL
 have hsz:(DataW.weightsEach Tryz.prog (Tryz.f4.params.toList++Rows.fnExactIntentOfSpec.plain.varTypes Tryz.prog) (ds++gs)).all (·<=reachBytes)=true:=yc
 have hW':=hW
 obtain ⟨p,q,hA0,hV,rfl,hfz,hnd⟩:=hW
 have hA:DataW.TrodAll enc Tryz.prog W 0 (fun _=>true) true Tryz.f4.params.toList args.toList ds p:=hA0
 rw [Tryz.params4] at hA hval hsz
 obtain ⟨v0,vs0,d0,ds0,p0,q0,hargs,rfl,rfl,h0,r0⟩:=trodAll_cons hA
 obtain ⟨v1,vs1,d1,ds1,p1,q1,rfl,rfl,rfl,h1,r1⟩:=trodAll_cons r0
 obtain ⟨v2,vs2,d2,ds2,p2,q2,rfl,rfl,rfl,h2,r2⟩:=trodAll_cons r1
 obtain ⟨v3,vs3,d3,ds3,p3,q3,rfl,rfl,rfl,h3,r3⟩:=trodAll_cons r2
 obtain ⟨rfl,rfl,rfl⟩:=trodAll_nil r3
 obtain rfl:args=#[v0,v1,v2,v3]:=by cases args;simp_all
 obtain ⟨rfl,rfl⟩:=trodVars_none hV
 have k0:=h0
 have lt0:∀ x∈p0,x.block<W.heap.size:=by obtain ⟨m,hm⟩:=k0;exact DataW.trod_lt m _ _ _ hm
 have k1:=h1
 have lt1:∀ x∈p1,x.block<W.heap.size:=by obtain ⟨m,hm⟩:=k1;exact DataW.trod_lt m _ _ _ hm
 have k2:=h2
 have lt2:∀ x∈p2,x.block<W.heap.size:=by obtain ⟨m,hm⟩:=k2;exact DataW.trod_lt m _ _ _ hm
 have k3:=h3
 have lt3:∀ x∈p3,x.block<W.heap.size:=by obtain ⟨m,hm⟩:=k3;exact DataW.trod_lt m _ _ _ hm
 have hz:=List.all_eq_true.1 hsz
 obtain ⟨x0,r0⟩:∃ x:Dt.gN,Rep fN (fun b=>b<W.heap.size) W (p7 false x) v0 []:=by
  obtain ⟨m,hm⟩:=h0
  obtain ⟨c,_,hr⟩:=GI m m (Nat.le_refl _) _ _ hm (fun k hk=>by
   have:=hz k (by simp only [List.cons_append,DataW.weightsEach,List.mem_append];exact .inl hk)
   simpa using this)
  obtain ⟨cs,rfl⟩:=rv (x:=(2,[(22,0,1),(23,1,1)])) (by kernel_rfl) (hval 0 25 v0 rfl rfl)
  refine ⟨c,?_⟩
  simp only [go_sem,Rep]
  exact ⟨cs.toList,by simp,by simpa [Value.cells,D8] using hr⟩
 obtain ⟨x1,r1⟩:∃ l:List Dt.ag,Rep fN (fun b=>b<W.heap.size) W (.sl false 19 (l.map (ak false))) v1 []:=by
  obtain ⟨m,hm⟩:=h1
  obtain ⟨l,_,hr⟩:=aN.slice (enc:=enc) (P:=Tryz.prog) (t:=26) (e:=118) (bytes:=272) (by kernel_rfl) (by decide) (by decide) (fI _) Al (GH m) m (by omega) _ _ hm (fun k hk=>by
   have:=hz k (by simp only [List.cons_append,DataW.weightsEach,List.mem_append];exact .inr (.inl hk))
   simpa using this)
  obtain ⟨a,n,c,rfl⟩:=okWide_slice (e:=118) (by kernel_rfl) (hval 1 26 v1 rfl rfl)
  exact ⟨l,au.one (by simpa [Value.cells] using hr)⟩
 obtain ⟨x2,r2⟩:∃ s:Str,Rep fN (fun b=>b<W.heap.size) W (.str s) v2 []:=by
  obtain ⟨m,hm⟩:=h2
  obtain ⟨s,_,hr⟩:=aN.str (n:=m) (enc:=enc) (P:=Tryz.prog) (t:=9) (by kernel_rfl) m (by omega) _ _ hm (fun k hk=>by
   have:=hz k (by simp only [List.cons_append,DataW.weightsEach,List.mem_append];exact .inr (.inr (.inl hk)))
   simpa using this)
  obtain ⟨x,rfl⟩:=okWide_string (by kernel_rfl) (hval 2 9 v2 rfl rfl)
  exact ⟨s,au.one (by simpa [Value.cells] using hr)⟩
 obtain ⟨x3,r3⟩:∃ l:List Dt.ah,Rep fN (fun b=>b<W.heap.size) W (.sl false 3 (l.map (ai false))) v3 []:=by
  obtain ⟨m,hm⟩:=h3
  obtain ⟨l,_,hr⟩:=aN.slice (enc:=enc) (P:=Tryz.prog) (t:=57) (e:=153) (bytes:=56) (by kernel_rfl) (by decide) (by decide) (fI _) pq (qq m) m (by omega) _ _ hm (fun k hk=>by
   have:=hz k (by simp only [List.cons_append,DataW.weightsEach,List.mem_append];exact .inr (.inr (.inr (.inl hk))))
   simpa using this)
  obtain ⟨a,n,c,rfl⟩:=okWide_slice (e:=153) (by kernel_rfl) (hval 3 57 v3 rfl rfl)
  exact ⟨l,au.one (by simpa [Value.cells] using hr)⟩
 clear hA0 tL yc
 refine ((Fh x0 x1 x2 x3).walk W [v0,v1,v2,v3] (BD hL) (au.app (au.single r0) (au.app (au.single r1) (au.app (au.single r2) (au.single r3))))).mono fun e W' ⟨he,bel⟩=>?_
 subst he
 exact ⟨_,rfl,_,_,_,[],_,[],hW',trodAll_mk1 (shut_bool (by kernel_rfl) _),(trodAll_cons_mk (Below.trod laidOut (by kernel_rfl) (of_decide_eq_true (by kernel_rfl)) k0 bel lt0) (trodAll_cons_mk (Below.trod laidOut (by kernel_rfl) (of_decide_eq_true (by kernel_rfl)) k1 bel lt1) (trodAll_cons_mk (Below.trod laidOut (by kernel_rfl) (of_decide_eq_true (by kernel_rfl)) k2 bel lt2) (trodAll_cons_mk (Below.trod laidOut (by kernel_rfl) (of_decide_eq_true (by kernel_rfl)) k3 bel lt3) trodAll_mk0)))),rfl,bel.frame _,fun h=>by cases h⟩
theorem over:Rows.fnExactIntentOfRow.holds Tryz.pinned (OpenSpec.ofChange Rows.fnExactIntentOfSpec) :=
 OpenClaim.holds_of_wide 4 Tryz.f4 rfl rfl rfl rfl rfl rfl rfl ⟨rfl,rfl,rfl,rfl,rfl⟩ rfl rfl rfl rfl rfl (by kernel_rfl) Tryz.func4 closed
  (of_decide_eq_true (by kernel_rfl)) (by unfold Func.isWrapper;first|(rw [if_pos (by decide +kernel)];kernel_rfl)|(rw [if_neg (by decide +kernel)];exact ⟨rfl,rfl⟩))
  (fun os started H enc _=>lifted os started H enc)
theorem w1:Rows.fnExactIntentOfRow.wfByText (OpenSpec.ofChange Rows.fnExactIntentOfSpec)=true:=by kernel_rfl
theorem w2:Tryz.pinned.checked.prog.mainIs=some (true, "d2c10dc79398d925296a6135311dc9ab319987c0b3181c3b904e541ccba5af2c".toList):=by kernel_rfl
theorem w3:false=Tryz.pinned.checked.prog.looks []:=by kernel_rfl
theorem w5:Tryz.prog.funcNamed "loop.example/g03013/laws.FnExactIntentOf"=some 4:=by kernel_rfl
theorem w6:([25,26,9,57].all fun u=>!Tryz.prog.wantsStandIn u)=true:=by kernel_rfl
theorem proved:Rows.FnExactIntentOfCardSaid :=
 Claim7.holds_tied_plain_at .later [] [.data,.data,.data] true (true, "d2c10dc79398d925296a6135311dc9ab319987c0b3181c3b904e541ccba5af2c") false
  over (fun _ h=>by cases h) w1 (fun _ h=>by cases h) fnExactIntentOf_row_tie rfl ⟨rfl,rfl⟩ w2 rfl
  (fun f fn hf hfn=>by
   obtain rfl:f=4:=Option.some.inj (w5.symm.trans hf) |>.symm
   obtain rfl:fn=Tryz.f4:=(Option.some.inj (Tryz.func4.symm.trans hfn)).symm
   exact ⟨w3,fun j t ht=>by
    rw [Tryz.params4] at ht
    have hm:t∈[25,26,9,57]:=by simpa using Array.mem_of_getElem? ht
    exact (show Tryz.prog.wantsStandIn t=false by simpa using List.all_eq_true.1 w6 t hm)⟩)
  w4
#print axioms proved
end Go.Proofs.YtbiikafnjialjaaGreatDoor.fnExactIntentOf
