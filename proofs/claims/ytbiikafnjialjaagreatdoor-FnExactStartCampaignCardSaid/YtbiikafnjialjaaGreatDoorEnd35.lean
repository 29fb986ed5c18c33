/-
  The program's StartCampaign returns what the reference's returns, for all arguments (the given card, tied, no further condition).
-/
import Derived.ProofKit
import Derived.OpenShut
import Derived.Test.YtbiikafnjialjaaGreatDoorCards
import Derived.Test.YtbiikafnjialjaaGreatDoorS44
import Derived.Test.YtbiikafnjialjaaGreatDoorS45
import Derived.Test.YtbiikafnjialjaaGreatDoorS46
set_option linter.all false
namespace Go.Proofs.YtbiikafnjialjaaGreatDoor.fnExactStartCampaign
open Go.ChangeShapes Go.WideShapes Go.ChangeAt Go.RowKit Go.Ab Go.Dt
set_option linter.unusedVariables false
theorem own:ownKnob Tryz.prog.godebug=none:=by kernel_rfl
theorem laidOut:laidOutB Tryz.prog=true:=by kernel_rfl
def qO:List (String×DataW Unit):=[("math/bits.deBruijn32tab",Rows.laid_math_bits_deBruijn32tab),("math/bits.deBruijn64tab",Rows.laid_math_bits_deBruijn64tab),("internal/strconv.uint64pow10",Rows.laid_internal_strconv_uint64pow10)]
theorem VA(os:Os)(args:Array Value):laidMetH Tryz.prog qO ((World.laidAll Tryz.prog os qO).forCall (fun _ _=>0) ⟨#[],args,[]⟩).memory :=
 Px args (by kernel_rfl) (by kernel_rfl) (by kernel_rfl)
theorem XZ:(Rows.laid_internal_strconv_uint64pow10:DataW Unit)=Lib.tabData .u64 Lib.pow10Tab:=by kernel_rfl
theorem UH:("internal/strconv.uint64pow10",(Lib.tabData .u64 Lib.pow10Tab:DataW Unit))∈qO:=by rw [<- XZ];simp [qO]
theorem XX{W:World}(h:laidMetH Tryz.prog qO W):Tb lim (fun b=>b<W.heap.size) W:=by
 rw [MakeChecks.laidMetH_plain _ _ _ (by kernel_rfl)] at h
 obtain ⟨ps,h,_⟩:=h
 refine XW (g:=0) (by kernel_rfl) (fun k c g' hk hg hl=>?_) (Dy (g:=0) (t:=401) (e:=386) (n:=20) (by kernel_rfl) (by kernel_rfl) (by kernel_rfl) (by kernel_rfl) (by kernel_rfl) (by kernel_rfl) UH h)
 match k,hk with
 | 0,_=>exact ⟨rfl,by simp only [lim,Gj] at hl;simp at hl;omega⟩
set_option maxRecDepth 100000 in
theorem lifted(os:Os)(started:os.Started)(H:Type)(enc:TypeId×Value->H) :
  ReturnsInHanded {} Tryz.checked os 6 .any (fun w args=>(Rows.fnExactStartCampaignSpec.pre enc Tryz.prog Tryz.f6 Rows.fnExactStartCampaignRow.domain false w args/\laidMetH Tryz.prog qO w)/\sizedMet enc Tryz.prog Tryz.f6 (OpenSpec.ofChange Rows.fnExactStartCampaignSpec) false w args) (Rows.fnExactStartCampaignSpec.post enc Tryz.prog Tryz.f6 false true false false):=by
 refine returnsInHanded_of_change_and (C:=Tryz.checked) (X:=fun w _=>laidMetH Tryz.prog qO w) (fun _ _ _ hh h=>h.of_heap hh) own started (by kernel_rfl) Tryz.func6
  (ChangeSpec.witness_shaped (enc:=enc) (C:=Tryz.checked) (os:=os) (X:=fun w _=>laidMetH Tryz.prog qO w) false (World.laidAll Tryz.prog os qO) #[.slice none 0 0,.agg #[.slice none 0 0,.slice none 0 0]] 8 (World.laidAll_os _ _ _) (World.shaped_of_ZipB (by kernel_rfl) (by kernel_rfl)) (by kernel_rfl) (by kernel_rfl) (by kernel_rfl) (VA os _)) ?_
 intro W base args ds gs before Rh hW hcnd V2 hL _
 have hval:∀ (j:Nat) t v,Tryz.f6.params[j]? = some t->args[j]? = some v->Value.okWide Tryz.prog W .any base t v:=Rh
 have hsz:(DataW.weightsEach Tryz.prog (Tryz.f6.params.toList++Rows.fnExactStartCampaignSpec.plain.varTypes Tryz.prog) (ds++gs)).all (·<=reachBytes)=true:=V2
 have hW':=hW
 obtain ⟨p,q,hA0,hV,rfl,hfz,hnd⟩:=hW
 have hA:DataW.TrodAll enc Tryz.prog W 0 (fun _=>true) true Tryz.f6.params.toList args.toList ds p:=hA0
 rw [Tryz.params6] at hA hval hsz
 obtain ⟨v0,vs0,d0,ds0,p0,q0,hargs,rfl,rfl,h0,r0⟩:=trodAll_cons hA
 obtain ⟨v1,vs1,d1,ds1,p1,q1,rfl,rfl,rfl,h1,r1⟩:=trodAll_cons r0
 obtain ⟨rfl,rfl,rfl⟩:=trodAll_nil r1
 obtain rfl:args=#[v0,v1]:=by cases args;simp_all
 obtain ⟨rfl,rfl⟩:=trodVars_none hV
 have k0:=h0
 have lt0:∀ x∈p0,x.block<W.heap.size:=by obtain ⟨m,hm⟩:=k0;exact DataW.trod_lt m _ _ _ hm
 have k1:=h1
 have lt1:∀ x∈p1,x.block<W.heap.size:=by obtain ⟨m,hm⟩:=k1;exact DataW.trod_lt m _ _ _ hm
 have hz:=List.all_eq_true.1 hsz
 obtain ⟨x0,r0⟩:∃ l:List Dt.dx,Rep iF (fun b=>b<W.heap.size) W (.sl false 15 (l.map (cn false))) v0 []:=by
  obtain ⟨m,hm⟩:=h0
  obtain ⟨l,_,hr⟩:=aO.slice (enc:=enc) (P:=Tryz.prog) (t:=81) (e:=68) (bytes:=232) (by kernel_rfl) (by decide) (by decide) (gr _) O3 (O7 m) m (by omega) _ _ hm (fun k hk=>by
   have:=hz k (by simp only [List.cons_append,DataW.weightsEach,List.mem_append];exact .inl hk)
   simpa using this)
  obtain ⟨a,n,c,rfl⟩:=okWide_slice (e:=68) (by kernel_rfl) (hval 0 81 v0 rfl rfl)
  exact ⟨l,au.one (by simpa [Value.cells] using hr)⟩
 obtain ⟨x1,r1⟩:∃ x:Dt.iC,Rep iF (fun b=>b<W.heap.size) W (yF false x) v1 []:=by
  obtain ⟨m,hm⟩:=h1
  obtain ⟨c,_,hr⟩:=Vl m m (Nat.le_refl _) _ _ hm (fun k hk=>by
   have:=hz k (by simp only [List.cons_append,DataW.weightsEach,List.mem_append];exact .inr (.inl hk))
   simpa using this)
  obtain ⟨cs,rfl⟩:=Kw (x:=(2,[(22,0,1),(23,1,1)])) (by kernel_rfl) (hval 1 25 v1 rfl rfl)
  refine ⟨c,?_⟩
  simp only [go_sem,Rep]
  exact ⟨cs.toList,by simp,by simpa [Value.cells,JZ] using hr⟩
 clear hA0 Rh V2
 refine ((xk x0 x1).walk W [v0,v1] (XX hL) (au.app (au.single r0) (au.single r1))).mono fun e W' ⟨he,bel⟩=>?_
 subst he
 exact ⟨_,rfl,_,_,_,[],_,[],hW',trodAll_mk1 (shut_bool (by kernel_rfl) _),(trodAll_cons_mk (Below.trod laidOut (by kernel_rfl) (of_decide_eq_true (by kernel_rfl)) k0 bel lt0) (trodAll_cons_mk (Below.trod laidOut (by kernel_rfl) (of_decide_eq_true (by kernel_rfl)) k1 bel lt1) trodAll_mk0)),rfl,bel.frame _,fun h=>by cases h⟩
theorem over:Rows.fnExactStartCampaignRow.holds Tryz.pinned (OpenSpec.ofChange Rows.fnExactStartCampaignSpec) :=
 OpenClaim.holds_of_wide 6 Tryz.f6 rfl rfl rfl rfl rfl rfl rfl ⟨rfl,rfl,rfl,rfl,rfl⟩ rfl rfl rfl rfl rfl (by kernel_rfl) Tryz.func6 closed
  (of_decide_eq_true (by kernel_rfl)) (by unfold Func.isWrapper;first|(rw [if_pos (by decide +kernel)];kernel_rfl)|(rw [if_neg (by decide +kernel)];exact ⟨rfl,rfl⟩))
  (fun os started H enc _=>lifted os started H enc)
theorem w1:Rows.fnExactStartCampaignRow.wfByText (OpenSpec.ofChange Rows.fnExactStartCampaignSpec)=true:=by kernel_rfl
theorem w2:Tryz.pinned.checked.prog.mainIs=some (true, "d2c10dc79398d925296a6135311dc9ab319987c0b3181c3b904e541ccba5af2c".toList):=by kernel_rfl
theorem w3:false=Tryz.pinned.checked.prog.looks []:=by kernel_rfl
theorem w5:Tryz.prog.funcNamed "loop.example/g03013/laws.FnExactStartCampaign"=some 6:=by kernel_rfl
theorem w6:([81,25].all fun u=>!Tryz.prog.wantsStandIn u)=true:=by kernel_rfl
theorem proved:Rows.FnExactStartCampaignCardSaid :=
 Claim7.holds_tied_plain_at .later [] [.data,.data,.data] true (true, "d2c10dc79398d925296a6135311dc9ab319987c0b3181c3b904e541ccba5af2c") false
  over (fun _ h=>by cases h) w1 (fun _ h=>by cases h) fnExactStartCampaign_row_tie rfl ⟨rfl,rfl⟩ w2 rfl
  (fun f fn hf hfn=>by
   obtain rfl:f=6:=Option.some.inj (w5.symm.trans hf) |>.symm
   obtain rfl:fn=Tryz.f6:=(Option.some.inj (Tryz.func6.symm.trans hfn)).symm
   exact ⟨w3,fun j t ht=>by
    rw [Tryz.params6] at ht
    have hm:t∈[81,25]:=by simpa using Array.mem_of_getElem? ht
    exact (show Tryz.prog.wantsStandIn t=false by simpa using List.all_eq_true.1 w6 t hm)⟩)
  w4
#print axioms proved
end Go.Proofs.YtbiikafnjialjaaGreatDoor.fnExactStartCampaign
