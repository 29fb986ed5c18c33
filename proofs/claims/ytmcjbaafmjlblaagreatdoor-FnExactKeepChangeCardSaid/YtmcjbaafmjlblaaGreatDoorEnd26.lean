/-
  The program's KeepChange returns what the reference's returns, for all arguments (the given card, tied, no further condition).
-/
import Derived.ProofKit
import Derived.OpenShut
import Derived.Test.YtmcjbaafmjlblaaGreatDoorTie
import Derived.Test.YtmcjbaafmjlblaaGreatDoorCards
import Derived.Test.YtmcjbaafmjlblaaGreatDoorM8
import Derived.Test.YtmcjbaafmjlblaaGreatDoorJ55
set_option linter.all false
namespace Go.Proofs.YtmcjbaafmjlblaaGreatDoor.fnExactKeepChange
open Go.ChangeShapes Go.WideShapes Go.ChangeAt Go.RowKit Go.Ab Go.Dt
set_option linter.unusedVariables false
theorem own:ownKnob Tryz.prog.godebug=none:=by kernel_rfl
theorem laidOut:laidOutB Tryz.prog=true:=by kernel_rfl
def fA:List (String×DataW Unit):=[("math/bits.deBruijn32tab",Rows.laid_math_bits_deBruijn32tab),("math/bits.deBruijn64tab",Rows.laid_math_bits_deBruijn64tab),("internal/strconv.uint64pow10",Rows.laid_internal_strconv_uint64pow10)]
theorem uN(os:Os)(args:Array Value):laidMetH Tryz.prog fA ((World.laidAll Tryz.prog os fA).forCall (fun _ _=>0) ⟨#[],args,[]⟩).memory :=
 ym args (by kernel_rfl) (by kernel_rfl) (by kernel_rfl)
theorem yR:(Rows.laid_internal_strconv_uint64pow10:DataW Unit)=Lib.tabData .u64 Lib.pow10Tab:=by kernel_rfl
theorem uk:("internal/strconv.uint64pow10",(Lib.tabData .u64 Lib.pow10Tab:DataW Unit))∈fA:=by rw [<- yR];simp [fA]
theorem yQ{W:World}(h:laidMetH Tryz.prog fA W):Tb lim (fun b=>b<W.heap.size) W:=by
 rw [MakeChecks.laidMetH_plain _ _ _ (by kernel_rfl)] at h
 obtain ⟨ps,h,_⟩:=h
 refine HU (g:=0) (by kernel_rfl) (fun k c g' hk hg hl=>?_) (qp (g:=0) (t:=339) (e:=331) (n:=20) (by kernel_rfl) (by kernel_rfl) (by kernel_rfl) (by kernel_rfl) (by kernel_rfl) (by kernel_rfl) uk h)
 match k,hk with
 | 0,_=>exact ⟨rfl,by simp only [lim,xY] at hl;simp at hl;omega⟩
set_option maxRecDepth 100000 in
theorem lifted(os:Os)(started:os.Started)(H:Type)(enc:TypeId×Value->H) :
  ReturnsInHanded {} Tryz.checked os 8 .any (fun w args=>(Rows.fnExactKeepChangeSpec.pre enc Tryz.prog Tryz.f8 Rows.fnExactKeepChangeRow.domain false w args/\laidMetH Tryz.prog fA w)/\sizedMet enc Tryz.prog Tryz.f8 (OpenSpec.ofChange Rows.fnExactKeepChangeSpec) false w args) (Rows.fnExactKeepChangeSpec.post enc Tryz.prog Tryz.f8 false true false false):=by
 refine returnsInHanded_of_change_and (C:=Tryz.checked) (X:=fun w _=>laidMetH Tryz.prog fA w) (fun _ _ _ hh h=>h.of_heap hh) own started (by kernel_rfl) Tryz.func8
  (ChangeSpec.witness_shaped (enc:=enc) (C:=Tryz.checked) (os:=os) (X:=fun w _=>laidMetH Tryz.prog fA w) false (World.laidAll Tryz.prog os fA) #[.slice none 0 0,.agg #[.slice none 0 0,.slice none 0 0],.slice none 0 0,.int .i64 0,.int .i64 0] 8 (World.laidAll_os _ _ _) (World.shaped_of_ZipB (by kernel_rfl) (by kernel_rfl)) (by kernel_rfl) (by kernel_rfl) (by kernel_rfl) (uN os _)) ?_
 intro W base args ds gs before qH hW RR ve hL _
 have hval:∀ (j:Nat) t v,Tryz.f8.params[j]? = some t->args[j]? = some v->Value.okWide Tryz.prog W .any base t v:=qH
 have hsz:(DataW.weightsEach Tryz.prog (Tryz.f8.params.toList++Rows.fnExactKeepChangeSpec.plain.varTypes Tryz.prog) (ds++gs)).all (·<=reachBytes)=true:=ve
 have hW':=hW
 obtain ⟨p,q,hA0,hV,rfl,hfz,hnd⟩:=hW
 have hA:DataW.TrodAll enc Tryz.prog W 0 (fun _=>true) true Tryz.f8.params.toList args.toList ds p:=hA0
 rw [Tryz.params8] at hA hval hsz
 obtain ⟨v0,vs0,d0,ds0,p0,q0,hargs,rfl,rfl,h0,r0⟩:=trodAll_cons hA
 obtain ⟨v1,vs1,d1,ds1,p1,q1,rfl,rfl,rfl,h1,r1⟩:=trodAll_cons r0
 obtain ⟨v2,vs2,d2,ds2,p2,q2,rfl,rfl,rfl,h2,r2⟩:=trodAll_cons r1
 obtain ⟨v3,vs3,d3,ds3,p3,q3,rfl,rfl,rfl,h3,r3⟩:=trodAll_cons r2
 obtain ⟨v4,vs4,d4,ds4,p4,q4,rfl,rfl,rfl,h4,r4⟩:=trodAll_cons r3
 obtain ⟨rfl,rfl,rfl⟩:=trodAll_nil r4
 obtain rfl:args=#[v0,v1,v2,v3,v4]:=by cases args;simp_all
 obtain ⟨rfl,rfl⟩:=trodVars_none hV
 have k0:=h0
 have lt0:∀ x∈p0,x.block<W.heap.size:=by obtain ⟨m,hm⟩:=k0;exact DataW.trod_lt m _ _ _ hm
 have k1:=h1
 have lt1:∀ x∈p1,x.block<W.heap.size:=by obtain ⟨m,hm⟩:=k1;exact DataW.trod_lt m _ _ _ hm
 have k2:=h2
 have lt2:∀ x∈p2,x.block<W.heap.size:=by obtain ⟨m,hm⟩:=k2;exact DataW.trod_lt m _ _ _ hm
 have k3:=h3
 have lt3:∀ x∈p3,x.block<W.heap.size:=by obtain ⟨m,hm⟩:=k3;exact DataW.trod_lt m _ _ _ hm
 have k4:=h4
 have lt4:∀ x∈p4,x.block<W.heap.size:=by obtain ⟨m,hm⟩:=k4;exact DataW.trod_lt m _ _ _ hm
 have hz:=List.all_eq_true.1 hsz
 obtain ⟨x0,r0⟩:∃ l:List Dt.ag,Rep eW (fun b=>b<W.heap.size) W (.sl false 19 (l.map (ak false))) v0 []:=by
  obtain ⟨m,hm⟩:=h0
  obtain ⟨l,_,hr⟩:=aP.slice (enc:=enc) (P:=Tryz.prog) (t:=22) (e:=114) (bytes:=272) (by kernel_rfl) (by decide) (by decide) (fF _) sM (xN m) m (by omega) _ _ hm (fun k hk=>by
   have:=hz k (by simp only [List.cons_append,DataW.weightsEach,List.mem_append];exact .inl hk)
   simpa using this)
  obtain ⟨a,n,c,rfl⟩:=okWide_slice (e:=114) (by kernel_rfl) (hval 0 22 v0 rfl rfl)
  exact ⟨l,aq.one (by simpa [Value.cells] using hr)⟩
 obtain ⟨x1,r1⟩:∃ x:Dt.bu,Rep eW (fun b=>b<W.heap.size) W (lP false x) v1 []:=by
  obtain ⟨m,hm⟩:=h1
  obtain ⟨c,_,hr⟩:=BO m m (Nat.le_refl _) _ _ hm (fun k hk=>by
   have:=hz k (by simp only [List.cons_append,DataW.weightsEach,List.mem_append];exact .inr (.inl hk))
   simpa using this)
  obtain ⟨cs,rfl⟩:=sP (x:=(2,[(23,0,1),(77,1,1)])) (by kernel_rfl) (hval 1 79 v1 rfl rfl)
  refine ⟨c,?_⟩
  simp only [go_sem,Rep]
  exact ⟨cs.toList,by simp,by simpa [Value.cells,tJ] using hr⟩
 obtain ⟨x2,r2⟩:∃ l:List Dt.ah,Rep eW (fun b=>b<W.heap.size) W (.sl false 3 (l.map (aj false))) v2 []:=by
  obtain ⟨m,hm⟩:=h2
  obtain ⟨l,_,hr⟩:=aP.slice (enc:=enc) (P:=Tryz.prog) (t:=23) (e:=95) (bytes:=56) (by kernel_rfl) (by decide) (by decide) (fF _) y9 (DP m) m (by omega) _ _ hm (fun k hk=>by
   have:=hz k (by simp only [List.cons_append,DataW.weightsEach,List.mem_append];exact .inr (.inr (.inl hk)))
   simpa using this)
  obtain ⟨a,n,c,rfl⟩:=okWide_slice (e:=95) (by kernel_rfl) (hval 2 23 v2 rfl rfl)
  exact ⟨l,aq.one (by simpa [Value.cells] using hr)⟩
 obtain ⟨x3,r3⟩:∃ i:Int,Rep eW (fun b=>b<W.heap.size) W (.v (.int .i64 i)) v3 []:=by
  obtain ⟨m,hm⟩:=h3
  obtain ⟨i,_,hr⟩:=aP.int (n:=m) (enc:=enc) (P:=Tryz.prog) (t:=3) (k:=.i64) (by kernel_rfl) m (by omega) _ _ hm (fun k hk=>by
   have:=hz k (by simp only [List.cons_append,DataW.weightsEach,List.mem_append];exact .inr (.inr (.inr (.inl hk))))
   simpa using this)
  obtain ⟨x,rfl⟩:=okWide_int (k:=.i64) (by kernel_rfl) (hval 3 3 v3 rfl rfl)
  exact ⟨i,aq.one (by simpa [Value.cells] using hr)⟩
 obtain ⟨x4,r4⟩:∃ i:Int,Rep eW (fun b=>b<W.heap.size) W (.v (.int .i64 i)) v4 []:=by
  obtain ⟨m,hm⟩:=h4
  obtain ⟨i,_,hr⟩:=aP.int (n:=m) (enc:=enc) (P:=Tryz.prog) (t:=3) (k:=.i64) (by kernel_rfl) m (by omega) _ _ hm (fun k hk=>by
   have:=hz k (by simp only [List.cons_append,DataW.weightsEach,List.mem_append];exact .inr (.inr (.inr (.inr (.inl hk)))))
   simpa using this)
  obtain ⟨x,rfl⟩:=okWide_int (k:=.i64) (by kernel_rfl) (hval 4 3 v4 rfl rfl)
  exact ⟨i,aq.one (by simpa [Value.cells] using hr)⟩
 clear hA0 qH ve
 refine ((zr x0 x1 x2 x3 x4).walk W [v0,v1,v2,v3,v4] (yQ hL) (aq.app (aq.single r0) (aq.app (aq.single r1) (aq.app (aq.single r2) (aq.app (aq.single r3) (aq.single r4)))))).mono fun e W' ⟨he,bel⟩=>?_
 subst he
 exact ⟨_,rfl,_,_,_,[],_,[],hW',trodAll_mk1 (shut_bool (by kernel_rfl) _),(trodAll_cons_mk (Below.trod laidOut (by kernel_rfl) (of_decide_eq_true (by kernel_rfl)) k0 bel lt0) (trodAll_cons_mk (Below.trod laidOut (by kernel_rfl) (of_decide_eq_true (by kernel_rfl)) k1 bel lt1) (trodAll_cons_mk (Below.trod laidOut (by kernel_rfl) (of_decide_eq_true (by kernel_rfl)) k2 bel lt2) (trodAll_cons_mk (Below.trod laidOut (by kernel_rfl) (of_decide_eq_true (by kernel_rfl)) k3 bel lt3) (trodAll_cons_mk (Below.trod laidOut (by kernel_rfl) (of_decide_eq_true (by kernel_rfl)) k4 bel lt4) trodAll_mk0))))),rfl,bel.frame _,fun h=>by cases h⟩
theorem over:Rows.fnExactKeepChangeRow.holds Tryz.pinned (OpenSpec.ofChange Rows.fnExactKeepChangeSpec) :=
 OpenClaim.holds_of_wide 8 Tryz.f8 rfl rfl rfl rfl rfl rfl rfl ⟨rfl,rfl,rfl,rfl,rfl⟩ rfl rfl rfl rfl rfl (by kernel_rfl) Tryz.func8 closed
  (of_decide_eq_true (by kernel_rfl)) (by unfold Func.isWrapper;first|(rw [if_pos (by decide +kernel)];kernel_rfl)|(rw [if_neg (by decide +kernel)];exact ⟨rfl,rfl⟩))
  (fun os started H enc _=>lifted os started H enc)
theorem w1:Rows.fnExactKeepChangeRow.wfByText (OpenSpec.ofChange Rows.fnExactKeepChangeSpec)=true:=by kernel_rfl
theorem w2:Tryz.pinned.checked.prog.mainIs=some (true, "29264439cd0b055dbc997b5f83bec61b3e64a54213da982893ef11e8327c87ea".toList):=by kernel_rfl
theorem w3:false=Tryz.pinned.checked.prog.looks []:=by kernel_rfl
theorem w4:false=Rows.fnExactKeepChangeRow.goesBy Tryz.pinned.checked.prog:=by kernel_rfl
theorem w5:Tryz.prog.funcNamed "loop.example/g03013/laws.FnExactKeepChange"=some 8:=by kernel_rfl
theorem w6:([22,79,23,3,3].all fun u=>!Tryz.prog.wantsStandIn u)=true:=by kernel_rfl
theorem proved:Rows.FnExactKeepChangeCardSaid :=
 Claim7.holds_tied_plain_at .later [] [.data,.data,.data] true (true, "29264439cd0b055dbc997b5f83bec61b3e64a54213da982893ef11e8327c87ea") false
  over (fun _ h=>by cases h) w1 (fun _ h=>by cases h) fnExactKeepChange_row_tie rfl ⟨rfl,rfl⟩ w2 rfl
  (fun f fn hf hfn=>by
   obtain rfl:f=8:=Option.some.inj (w5.symm.trans hf) |>.symm
   obtain rfl:fn=Tryz.f8:=(Option.some.inj (Tryz.func8.symm.trans hfn)).symm
   exact ⟨w3,fun j t ht=>by
    rw [Tryz.params8] at ht
    have hm:t∈[22,79,23,3,3]:=by simpa using Array.mem_of_getElem? ht
    exact (show Tryz.prog.wantsStandIn t=false by simpa using List.all_eq_true.1 w6 t hm)⟩)
  w4
#print axioms proved
end Go.Proofs.YtmcjbaafmjlblaaGreatDoor.fnExactKeepChange
