/-
  The program's ServiceTree returns what the reference's returns, for all arguments (the given card, tied, no further condition).
-/
import Derived.ProofKit
import Derived.OpenShut
import Derived.Test.YtbiikafnjialjaaGreatDoorTie
import Derived.Test.YtbiikafnjialjaaGreatDoorCards
import Derived.Test.YtbiikafnjialjaaGreatDoorG37
import Derived.Test.YtbiikafnjialjaaGreatDoorG38
set_option linter.all false
namespace Go.Proofs.YtbiikafnjialjaaGreatDoor.fnExactServiceTree
open Go.ChangeShapes Go.WideShapes Go.ChangeAt Go.RowKit Go.Ab Go.Dt
set_option linter.unusedVariables false
theorem own:ownKnob Tryz.prog.godebug=none:=by kernel_rfl
theorem laidOut:laidOutB Tryz.prog=true:=by kernel_rfl
def oJ:List (String×DataW Unit):=[("math/bits.deBruijn32tab",Rows.laid_math_bits_deBruijn32tab),("math/bits.deBruijn64tab",Rows.laid_math_bits_deBruijn64tab),("internal/strconv.uint64pow10",Rows.laid_internal_strconv_uint64pow10)]
theorem Ox(os:Os)(args:Array Value):laidMetH Tryz.prog oJ ((World.laidAll Tryz.prog os oJ).forCall (fun _ _=>0) ⟨#[],args,[]⟩).memory :=
 JO args (by kernel_rfl) (by kernel_rfl) (by kernel_rfl)
theorem Qm:(Rows.laid_internal_strconv_uint64pow10:DataW Unit)=Lib.tabData .u64 Lib.pow10Tab:=by kernel_rfl
theorem Nu:("internal/strconv.uint64pow10",(Lib.tabData .u64 Lib.pow10Tab:DataW Unit))∈oJ:=by rw [<- Qm];simp [oJ]
theorem Qk{W:World}(h:laidMetH Tryz.prog oJ W):Tb lim (fun b=>b<W.heap.size) W:=by
 rw [MakeChecks.laidMetH_plain _ _ _ (by kernel_rfl)] at h
 obtain ⟨ps,h,_⟩:=h
 refine Qj (g:=0) (by kernel_rfl) (fun k c g' hk hg hl=>?_) (zT (g:=0) (t:=401) (e:=386) (n:=20) (by kernel_rfl) (by kernel_rfl) (by kernel_rfl) (by kernel_rfl) (by kernel_rfl) (by kernel_rfl) Nu h)
 match k,hk with
 | 0,_=>exact ⟨rfl,by simp only [lim,CN] at hl;simp at hl;omega⟩
set_option maxRecDepth 100000 in
theorem lifted(os:Os)(started:os.Started)(H:Type)(enc:TypeId×Value->H) :
  ReturnsInHanded {} Tryz.checked os 3 .any (fun w args=>(Rows.fnExactServiceTreeSpec.pre enc Tryz.prog Tryz.f3 Rows.fnExactServiceTreeRow.domain false w args/\laidMetH Tryz.prog oJ w)/\sizedMet enc Tryz.prog Tryz.f3 (OpenSpec.ofChange Rows.fnExactServiceTreeSpec) false w args) (Rows.fnExactServiceTreeSpec.post enc Tryz.prog Tryz.f3 false true false false):=by
 refine returnsInHanded_of_change_and (C:=Tryz.checked) (X:=fun w _=>laidMetH Tryz.prog oJ w) (fun _ _ _ hh h=>h.of_heap hh) own started (by kernel_rfl) Tryz.func3
  (ChangeSpec.witness_shaped (enc:=enc) (C:=Tryz.checked) (os:=os) (X:=fun w _=>laidMetH Tryz.prog oJ w) false (World.laidAll Tryz.prog os oJ) #[.agg #[.slice none 0 0,.slice none 0 0],.slice none 0 0,.agg #[.string ⟨#[]⟩,.string ⟨#[]⟩,.slice none 0 0,.slice none 0 0]] 8 (World.laidAll_os _ _ _) (World.shaped_of_ZipB (by kernel_rfl) (by kernel_rfl)) (by kernel_rfl) (by kernel_rfl) (by kernel_rfl) (Ox os _)) ?_
 intro W base args ds gs before KV hW hcnd OV hL _
 have hval:∀ (j:Nat) t v,Tryz.f3.params[j]? = some t->args[j]? = some v->Value.okWide Tryz.prog W .any base t v:=KV
 have hsz:(DataW.weightsEach Tryz.prog (Tryz.f3.params.toList++Rows.fnExactServiceTreeSpec.plain.varTypes Tryz.prog) (ds++gs)).all (·<=reachBytes)=true:=OV
 have hW':=hW
 obtain ⟨p,q,hA0,hV,rfl,hfz,hnd⟩:=hW
 have hA:DataW.TrodAll enc Tryz.prog W 0 (fun _=>true) true Tryz.f3.params.toList args.toList ds p:=hA0
 rw [Tryz.params3] at hA hval hsz
 obtain ⟨v0,vs0,d0,ds0,p0,q0,hargs,rfl,rfl,h0,r0⟩:=trodAll_cons hA
 obtain ⟨v1,vs1,d1,ds1,p1,q1,rfl,rfl,rfl,h1,r1⟩:=trodAll_cons r0
 obtain ⟨v2,vs2,d2,ds2,p2,q2,rfl,rfl,rfl,h2,r2⟩:=trodAll_cons r1
 obtain ⟨rfl,rfl,rfl⟩:=trodAll_nil r2
 obtain rfl:args=#[v0,v1,v2]:=by cases args;simp_all
 obtain ⟨rfl,rfl⟩:=trodVars_none hV
 have k0:=h0
 have lt0:∀ x∈p0,x.block<W.heap.size:=by obtain ⟨m,hm⟩:=k0;exact DataW.trod_lt m _ _ _ hm
 have k1:=h1
 have lt1:∀ x∈p1,x.block<W.heap.size:=by obtain ⟨m,hm⟩:=k1;exact DataW.trod_lt m _ _ _ hm
 have k2:=h2
 have lt2:∀ x∈p2,x.block<W.heap.size:=by obtain ⟨m,hm⟩:=k2;exact DataW.trod_lt m _ _ _ hm
 have hz:=List.all_eq_true.1 hsz
 obtain ⟨x0,r0⟩:∃ x:Dt.gz,Rep gD (fun b=>b<W.heap.size) W (uY false x) v0 []:=by
  obtain ⟨m,hm⟩:=h0
  obtain ⟨c,_,hr⟩:=Og m m (Nat.le_refl _) _ _ hm (fun k hk=>by
   have:=hz k (by simp only [List.cons_append,DataW.weightsEach,List.mem_append];exact .inl hk)
   simpa using this)
  obtain ⟨cs,rfl⟩:=x4 (x:=(2,[(22,0,1),(23,1,1)])) (by kernel_rfl) (hval 0 25 v0 rfl rfl)
  refine ⟨c,?_⟩
  simp only [go_sem,Rep]
  exact ⟨cs.toList,by simp,by simpa [Value.cells,Fy] using hr⟩
 obtain ⟨x1,r1⟩:∃ l:List Dt.ae,Rep gD (fun b=>b<W.heap.size) W (.sl false 19 (l.map (aq false))) v1 []:=by
  obtain ⟨m,hm⟩:=h1
  obtain ⟨l,_,hr⟩:=aR.slice (enc:=enc) (P:=Tryz.prog) (t:=26) (e:=118) (bytes:=272) (by kernel_rfl) (by decide) (by decide) (gK _) Cp (Jx m) m (by omega) _ _ hm (fun k hk=>by
   have:=hz k (by simp only [List.cons_append,DataW.weightsEach,List.mem_append];exact .inr (.inl hk))
   simpa using this)
  obtain ⟨a,n,c,rfl⟩:=okWide_slice (e:=118) (by kernel_rfl) (hval 1 26 v1 rfl rfl)
  exact ⟨l,aj.one (by simpa [Value.cells] using hr)⟩
 obtain ⟨x2,r2⟩:∃ x:Dt.bt,Rep gD (fun b=>b<W.heap.size) W (aT false x) v2 []:=by
  obtain ⟨m,hm⟩:=h2
  obtain ⟨c,_,hr⟩:=Aj m m (Nat.le_refl _) _ _ hm (fun k hk=>by
   have:=hz k (by simp only [List.cons_append,DataW.weightsEach,List.mem_append];exact .inr (.inr (.inl hk)))
   simpa using this)
  obtain ⟨cs,rfl⟩:=x4 (x:=(4,[(9,0,1),(9,1,1),(27,2,1),(28,3,1)])) (by kernel_rfl) (hval 2 30 v2 rfl rfl)
  refine ⟨c,?_⟩
  simp only [go_sem,Rep]
  exact ⟨cs.toList,by simp,by simpa [Value.cells,mQ] using hr⟩
 clear hA0 KV OV
 refine ((wQ x0 x1 x2).walk W [v0,v1,v2] (Qk hL) (aj.app (aj.single r0) (aj.app (aj.single r1) (aj.single r2)))).mono fun e W' ⟨he,bel⟩=>?_
 subst he
 exact ⟨_,rfl,_,_,_,[],_,[],hW',trodAll_mk1 (shut_bool (by kernel_rfl) _),(trodAll_cons_mk (Below.trod laidOut (by kernel_rfl) (of_decide_eq_true (by kernel_rfl)) k0 bel lt0) (trodAll_cons_mk (Below.trod laidOut (by kernel_rfl) (of_decide_eq_true (by kernel_rfl)) k1 bel lt1) (trodAll_cons_mk (Below.trod laidOut (by kernel_rfl) (of_decide_eq_true (by kernel_rfl)) k2 bel lt2) trodAll_mk0))),rfl,bel.frame _,fun h=>by cases h⟩
theorem over:Rows.fnExactServiceTreeRow.holds Tryz.pinned (OpenSpec.ofChange Rows.fnExactServiceTreeSpec) :=
 OpenClaim.holds_of_wide 3 Tryz.f3 rfl rfl rfl rfl rfl rfl rfl ⟨rfl,rfl,rfl,rfl,rfl⟩ rfl rfl rfl rfl rfl (by kernel_rfl) Tryz.func3 closed
  (of_decide_eq_true (by kernel_rfl)) (by unfold Func.isWrapper;first|(rw [if_pos (by decide +kernel)];kernel_rfl)|(rw [if_neg (by decide +kernel)];exact ⟨rfl,rfl⟩))
  (fun os started H enc _=>lifted os started H enc)
theorem w1:Rows.fnExactServiceTreeRow.wfByText (OpenSpec.ofChange Rows.fnExactServiceTreeSpec)=true:=by kernel_rfl
theorem w2:Tryz.pinned.checked.prog.mainIs=some (true, "d2c10dc79398d925296a6135311dc9ab319987c0b3181c3b904e541ccba5af2c".toList):=by kernel_rfl
theorem w3:false=Tryz.pinned.checked.prog.looks []:=by kernel_rfl
theorem w4:false=Rows.fnExactServiceTreeRow.goesBy Tryz.pinned.checked.prog:=by kernel_rfl
theorem w5:Tryz.prog.funcNamed "loop.example/g03013/laws.FnExactServiceTree"=some 3:=by kernel_rfl
theorem w6:([25,26,30].all fun u=>!Tryz.prog.wantsStandIn u)=true:=by kernel_rfl
theorem proved:Rows.FnExactServiceTreeCardSaid :=
 Claim7.holds_tied_plain_at .later [] [.data,.data,.data] true (true, "d2c10dc79398d925296a6135311dc9ab319987c0b3181c3b904e541ccba5af2c") false
  over (fun _ h=>by cases h) w1 (fun _ h=>by cases h) fnExactServiceTree_row_tie rfl ⟨rfl,rfl⟩ w2 rfl
  (fun f fn hf hfn=>by
   obtain rfl:f=3:=Option.some.inj (w5.symm.trans hf) |>.symm
   obtain rfl:fn=Tryz.f3:=(Option.some.inj (Tryz.func3.symm.trans hfn)).symm
   exact ⟨w3,fun j t ht=>by
    rw [Tryz.params3] at ht
    have hm:t∈[25,26,30]:=by simpa using Array.mem_of_getElem? ht
    exact (show Tryz.prog.wantsStandIn t=false by simpa using List.all_eq_true.1 w6 t hm)⟩)
  w4
#print axioms proved
end Go.Proofs.YtbiikafnjialjaaGreatDoor.fnExactServiceTree
