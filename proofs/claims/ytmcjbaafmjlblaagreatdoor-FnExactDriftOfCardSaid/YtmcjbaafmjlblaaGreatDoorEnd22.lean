/-
  The program's DriftOf returns what the reference's returns, for all arguments (the given card, tied; no further condition).
-/
import Derived.Test.YtmcjbaafmjlblaaGreatDoorRows
import Derived.WalkKit
import Derived.ProofKit
import Derived.OpenShut
import Derived.Carry
import Derived.SizedLaws
import Derived.Test.YtmcjbaafmjlblaaGreatDoorTie
import Derived.Test.YtmcjbaafmjlblaaGreatDoorCards
import Derived.LaidLaws
import Derived.Lay
import Derived.SevenTiedAt
import Derived.ChangeVars
import Derived.MakeChecks
import Derived.Test.YtmcjbaafmjlblaaGreatDoorG21
import Derived.Test.YtmcjbaafmjlblaaGreatDoorG22
import Derived.Test.YtmcjbaafmjlblaaGreatDoorG50
import Derived.Test.YtmcjbaafmjlblaaGreatDoorG51
import Derived.Test.YtmcjbaafmjlblaaGreatDoorG52
set_option linter.unusedSimpArgs false
set_option linter.unusedVariables false
namespace Go.Proofs.YtmcjbaafmjlblaaGreatDoor.fnExactDriftOf
open Go.ChangeShapes Go.WideShapes Go.ChangeAt Go.RowKit Go.Ab Go.Dt
set_option linter.unusedVariables false
theorem own:ownKnob Tryz.prog.godebug=none:=by kernel_rfl
theorem laidOut:laidOutB Tryz.prog=true:=by kernel_rfl
def laidL:List (String×DataW Unit):=[("math/bits.deBruijn32tab",Rows.laid_math_bits_deBruijn32tab),("math/bits.deBruijn64tab",Rows.laid_math_bits_deBruijn64tab),("internal/strconv.uint64pow10",Rows.laid_internal_strconv_uint64pow10)]
theorem laid_m(os:Os)(args:Array Value):laidMetH Tryz.prog laidL ((World.laidAll Tryz.prog os laidL).forCall (fun _ _=>0) ⟨#[],args,[]⟩).memory :=
 laid_met args (by kernel_rfl) (by kernel_rfl) (by kernel_rfl)
theorem tabEq:(Rows.laid_internal_strconv_uint64pow10:DataW Unit)=Lib.tabData .u64 Lib.pow10Tab:=by kernel_rfl
theorem tabMem:("internal/strconv.uint64pow10",(Lib.tabData .u64 Lib.pow10Tab:DataW Unit))∈laidL:=by rw [← tabEq];simp [laidL]
theorem tabTb{W:World}(h:laidMetH Tryz.prog laidL W):Tb lim (fun b=>b<W.heap.size) W:=by
 rw [MakeChecks.laidMetH_plain _ _ _ (by kernel_rfl)] at h
 obtain ⟨ps,h,_⟩:=h
 refine tb_of (g:=0) (by kernel_rfl) (fun k c g' hk hg hl=>?_) (tabIs_mem (g:=0) (t:=339) (e:=331) (n:=20) (by kernel_rfl) (by kernel_rfl) (by kernel_rfl) (by kernel_rfl) (by kernel_rfl) (by kernel_rfl) tabMem h)
 match k,hk with
 | 0,_=>exact ⟨rfl,by simp only [lim,limT] at hl;simp at hl;omega⟩
set_option maxRecDepth 100000 in
theorem lifted(os:Os)(started:os.Started)(H:Type)(enc:TypeId×Value→H) :
  ReturnsInHanded {} Tryz.checked os 3 .any (fun w args=>(Rows.fnExactDriftOfSpec.pre enc Tryz.prog Tryz.f3 Rows.fnExactDriftOfRow.domain false w args∧laidMetH Tryz.prog laidL w)∧sizedMet enc Tryz.prog Tryz.f3 (OpenSpec.ofChange Rows.fnExactDriftOfSpec) false w args) (Rows.fnExactDriftOfSpec.post enc Tryz.prog Tryz.f3 false true false false):=by
 refine returnsInHanded_of_change_and (C:=Tryz.checked) (X:=fun w _=>laidMetH Tryz.prog laidL w) (fun _ _ _ hh h=>h.of_heap hh) own started (by kernel_rfl) Tryz.func3
  (ChangeSpec.witness_shaped (enc:=enc) (C:=Tryz.checked) (os:=os) (X:=fun w _=>laidMetH Tryz.prog laidL w) false (World.laidAll Tryz.prog os laidL) #[.agg #[.string ⟨#[]⟩,.slice none 0 0,.slice none 0 0,.slice none 0 0,.int .i64 0,.slice none 0 0,.bool false,.int .i64 0,.int .i64 0,.string ⟨#[]⟩,.slice none 0 0,.slice none 0 0,.bool false,.int .i64 0,.bool false],.slice none 0 0] 8 (World.laidAll_os _ _ _) (World.shaped_of_ZipB (by kernel_rfl) (by kernel_rfl)) (by kernel_rfl) (by kernel_rfl) (by kernel_rfl) (laid_m os _)) ?_
 intro W base args ds gs before hval0 hW hcnd hsz0 hL _
 have hval:∀ (j:Nat) t v,Tryz.f3.params[j]? = some t→args[j]? = some v→Value.okWide Tryz.prog W .any base t v:=hval0
 have hsz:(DataW.weightsEach Tryz.prog (Tryz.f3.params.toList++Rows.fnExactDriftOfSpec.plain.varTypes Tryz.prog) (ds++gs)).all (·≤reachBytes)=true:=hsz0
 have hW':=hW
 obtain ⟨p,q,hA0,hV,rfl,hfz,hnd⟩:=hW
 have hA:DataW.TrodAll enc Tryz.prog W 0 (fun _=>true) true Tryz.f3.params.toList args.toList ds p:=hA0
 rw [Tryz.params3] at hA hval hsz
 obtain ⟨v0,vs0,d0,ds0,p0,q0,hargs,rfl,rfl,h0,r0⟩:=trodAll_cons hA
 obtain ⟨v1,vs1,d1,ds1,p1,q1,rfl,rfl,rfl,h1,r1⟩:=trodAll_cons r0
 obtain ⟨rfl,rfl,rfl⟩:=trodAll_nil r1
 obtain rfl:args=#[v0,v1]:=by cases args;simp_all
 obtain ⟨rfl,rfl⟩:=trodVars_none hV
 have k0:=h0
 have lt0:∀ x∈p0,x.block<W.heap.size:=by obtain ⟨m,hm⟩:=k0;exact DataW.trod_lt m _ _ _ hm
 have k1:=h1
 have lt1:∀ x∈p1,x.block<W.heap.size:=by obtain ⟨m,hm⟩:=k1;exact DataW.trod_lt m _ _ _ hm
 have hz:=List.all_eq_true.1 hsz
 obtain ⟨x0,r0⟩:∃ x:Dt.GDevice,Rep rawL (fun b=>b<W.heap.size) W (encDevice false x) v0 []:=by
  obtain ⟨m,hm⟩:=h0
  obtain ⟨c,_,hr⟩:=opDevice m m (Nat.le_refl _) _ _ hm (fun k hk=>by
   have:=hz k (by simp only [List.cons_append,DataW.weightsEach,List.mem_append];exact .inl hk)
   simpa using this)
  obtain ⟨cs,rfl⟩:=okWide_sfl (x:=(15,[(9,0,1),(28,1,10),(23,11,1),(4,12,1),(3,13,1),(4,14,1)])) (by kernel_rfl) (hval 0 30 v0 rfl rfl)
  refine ⟨c,?_⟩
  simp only [go_sem,Rep]
  exact ⟨cs.toList,by simp,by simpa [Value.cells,celDevice] using hr⟩
 obtain ⟨x1,r1⟩:∃ l:List Dt.GNode,Rep rawL (fun b=>b<W.heap.size) W (.sl false 3 (l.map (encNode false))) v1 []:=by
  obtain ⟨m,hm⟩:=h1
  obtain ⟨l,_,hr⟩:=Opens.slice (enc:=enc) (P:=Tryz.prog) (t:=23) (e:=95) (bytes:=56) (by kernel_rfl) (by decide) (by decide) (hreach _) pkNode (opNode m) m (by omega) _ _ hm (fun k hk=>by
   have:=hz k (by simp only [List.cons_append,DataW.weightsEach,List.mem_append];exact .inr (.inl hk))
   simpa using this)
  obtain ⟨a,n,c,rfl⟩:=okWide_slice (e:=95) (by kernel_rfl) (hval 1 23 v1 rfl rfl)
  exact ⟨l,RepL.one (by simpa [Value.cells] using hr)⟩
 clear hA0 hval0 hsz0
 refine ((lawDriftOf_c x0 x1).walk W [v0,v1] (tabTb hL) (RepL.app (RepL.single r0) (RepL.single r1))).mono fun e W' ⟨he,bel⟩=>?_
 subst he
 exact ⟨_,rfl,_,_,_,[],_,[],hW',trodAll_mk1 (shut_bool (by kernel_rfl) _),(trodAll_cons_mk (Below.trod laidOut (by kernel_rfl) (of_decide_eq_true (by kernel_rfl)) k0 bel lt0) (trodAll_cons_mk (Below.trod laidOut (by kernel_rfl) (of_decide_eq_true (by kernel_rfl)) k1 bel lt1) trodAll_mk0)),rfl,bel.frame _,fun h=>by cases h⟩
theorem over:Rows.fnExactDriftOfRow.holds Tryz.pinned (OpenSpec.ofChange Rows.fnExactDriftOfSpec) :=
 OpenClaim.holds_of_wide 3 Tryz.f3 rfl rfl rfl rfl rfl rfl rfl ⟨rfl,rfl,rfl,rfl,rfl⟩ rfl rfl rfl rfl rfl (by kernel_rfl) Tryz.func3 closed
  (of_decide_eq_true (by kernel_rfl)) (by unfold Func.isWrapper;first|(rw [if_pos (by decide +kernel)];kernel_rfl)|(rw [if_neg (by decide +kernel)];exact ⟨rfl,rfl⟩))
  (fun os started H enc _=>lifted os started H enc)
theorem w1:Rows.fnExactDriftOfRow.wfByText (OpenSpec.ofChange Rows.fnExactDriftOfSpec)=true:=by kernel_rfl
theorem w2:Tryz.pinned.checked.prog.mainIs=some (true, "29264439cd0b055dbc997b5f83bec61b3e64a54213da982893ef11e8327c87ea".toList):=by kernel_rfl
theorem w3:false=Tryz.pinned.checked.prog.looks []:=by kernel_rfl
theorem w4:false=Rows.fnExactDriftOfRow.goesBy Tryz.pinned.checked.prog:=by kernel_rfl
theorem w5:Tryz.prog.funcNamed "loop.example/g03013/laws.FnExactDriftOf"=some 3:=by kernel_rfl
theorem w6:([30,23].all fun u=>!Tryz.prog.wantsStandIn u)=true:=by kernel_rfl
theorem proved:Rows.FnExactDriftOfCardSaid :=
 Claim7.holds_tied_plain_at .later [] [.data,.data,.data] true (true, "29264439cd0b055dbc997b5f83bec61b3e64a54213da982893ef11e8327c87ea") false
  over (fun _ h=>by cases h) w1 (fun _ h=>by cases h) fnExactDriftOf_row_tie rfl ⟨rfl,rfl⟩ w2 rfl
  (fun f fn hf hfn=>by
   obtain rfl:f=3:=Option.some.inj (w5.symm.trans hf) |>.symm
   obtain rfl:fn=Tryz.f3:=(Option.some.inj (Tryz.func3.symm.trans hfn)).symm
   exact ⟨w3,fun j t ht=>by
    rw [Tryz.params3] at ht
    have hm:t∈[30,23]:=by simpa using Array.mem_of_getElem? ht
    exact (show Tryz.prog.wantsStandIn t=false by simpa using List.all_eq_true.1 w6 t hm)⟩)
  w4
#print axioms proved
end Go.Proofs.YtmcjbaafmjlblaaGreatDoor.fnExactDriftOf
