/-
  Part of a proof: Nu1, AbIto, Lay0.
-/
import Derived.Shelf.Strconv.Itoa3
import Derived.Test.YtmcjbaafmjlblaaGreatDoorProg
import Derived.Shelf.Small.Strs
import Derived.Test.YtmcjbaafmjlblaaGreatDoorG1
import Derived.Test.YtmcjbaafmjlblaaGreatDoorG8
import Derived.Test.YtmcjbaafmjlblaaGreatDoorG19
set_option linter.unusedSimpArgs false
set_option linter.unusedVariables false
namespace Go.Proofs.YtmcjbaafmjlblaaGreatDoor
open Go.Ab Go.Dt
set_option maxRecDepth 20000
set_option maxHeartbeats 1000000
instance sFormatInt_i(n:Int):Ctr lim Tryz.prog 238 [] [.v (.int .i64 n)] (.str (Lib.itoa n)) [] (-9223372036854775808≤n∧n≤9223372036854775807):=by
 refine Ctr.of_body en238 Tryz.func238 rfl rfl fun hp=>(?_);rw [Tryz.ntmps238]
 (refine vU ?_;with_reducible repeat' first|exact Le.l|refine Sw ?_ ?_|intro h)
 ·rw [h,itoa_zero]
 have hl:=dg_len n.natAbs
 refine AW.loopV [3,4] [0,2] (fun m xs o=>∃ (s:Str) (x:Int),xs=[.str s,.v (.int .i64 x)]∧o=[]∧m=x.natAbs∧dg x.natAbs++s=dg n.natAbs∧s.length≤n.natAbs / 10+1∧-9223372036854775808≤x∧x≤9223372036854775807) n.natAbs [] trivial ⟨[],n,?_,rfl,rfl,?_,?_,?_,?_⟩ ?_
 ·rfl
 ·simp
 ·simp
 ·omega
 ·omega
 rintro m xs o ⟨s,x,rfl,rfl,rfl,hs,hl2,hx1,hx2⟩
 have hd:=tdiv10 x
 have hm:=tmod10 x
 (refine vU ?_;with_reducible repeat' first|exact Le.l|refine Sw ?_ ?_|intro h)
 ·have e:=dg_next (c:=UInt8.ofNat (48+(0 - x.tmod 10)).toNat) (by assumption) hs (by congr 1;omega)
  exact ⟨_,[_,_],[],by omega,⟨_,_,rfl,rfl,rfl,e,by have:=app_le e;omega,by omega,by omega⟩,rfl,trivial⟩
 ·have e:=dg_next (c:=UInt8.ofNat (48+x.tmod 10).toNat) (by assumption) hs (by congr 1;omega)
  exact ⟨_,[_,_],[],by omega,⟨_,_,rfl,rfl,rfl,e,by have:=app_le e;omega,by omega,by omega⟩,rfl,trivial⟩
 ·rename_i hx;subst hx;rw [itoa_dg (by omega),if_pos h,← hs];rfl
 ·rename_i hx;subst hx;rw [itoa_dg (by omega),if_neg (by omega),← hs];rfl
instance s1Digits_i(L:Nat→Nat)(s:Str):Ctr L Tryz.prog 260 [] [.str s] (.tup [.v (.int .i64 (rdN s)),.v (.bool (rdB s))]) [] True:=by
 refine Ctr.of_body en260 Tryz.func260 rfl rfl fun hp=>(?_);rw [Tryz.ntmps260]
 refine AW.fact 0 fun hf=>?_
 simp (disch:=omega) only [go_sem,Nat.reduceBEq] at hf
 (refine vU ?_;with_reducible repeat' first|exact Le.l|refine Sw ?_ ?_|intro h)
 refine AW.loopV [4,5] [0] (fun m xs o=>∃ k:Nat,xs=[.v (.int .i64 (valN s k)),.v (.int .i64 k)]∧o=[]∧m=s.length - k∧k≤s.length∧allTo (dgt s) k=true∧valN s k≤1000000000) s.length [] trivial ⟨0,?_,rfl,rfl,?_,rfl,?_⟩ ?_
 ·rfl
 ·omega
 ·simp [valN]
 rintro m xs o ⟨k,rfl,rfl,rfl,hk,hR,hv⟩
 have hst:=@val_step s k
 (refine vU ?_;with_reducible repeat' first|exact Le.l|refine Sw ?_ ?_|intro h)
 ·have:=rd_no (s:=s) (k:=k) (by assumption) (by omega)
  simp [rdN,this]
 ·have:=rd_big (s:=s) (k:=k+1) (by omega) (by omega)
  simp [rdN,this]
 ·exact ⟨_,[_,_],[],by omega,⟨k+1,rfl,rfl,rfl,by omega,allTo_step hR (dgt_iff.2 (by assumption)),by omega⟩,by rw [hst (by omega)];rfl,trivial⟩
 ·obtain ⟨e1,e2⟩:=rd_end hR hv hk h
  rw [e1,e2]
instance sInRanges_i(L:Nat→Nat)[hL:Lok L](l:List GRange)(n:Int):Ctr L Tryz.prog 239 [] [.sl false 2 (l.map (encRange false)),.v (.int .i64 n)] (.v (.bool (inRg l n))) [] True:=by
 refine Ctr.of_body en239 Tryz.func239 rfl rfl fun hp=>(?_);rw [Tryz.ntmps239]
 refine AW.fact 0 fun hf=>?_
 simp (disch:=omega) only [go_sem,Nat.reduceBEq] at hf
 have hf:=Nat.le_trans hf (hL.le 2)
 (refine vU ?_;with_reducible repeat' first|exact Le.l|refine Sw ?_ ?_|intro h)
 refine AW.loopV [5] [0,1] (fun m xs o=>∃ k:Nat,xs=[.v (.int .i64 k)]∧o=[]∧m=l.length - k∧k≤l.length∧∀ x∈l.take k,rgHas n x=false) l.length [] trivial ⟨0,?_,rfl,rfl,?_,?_⟩ ?_
 ·rfl
 ·omega
 ·simp
 rintro m xs o ⟨k,rfl,rfl,rfl,hk,hR⟩
 (refine vU ?_;with_reducible repeat' first|exact Le.l|refine Sw ?_ ?_|intro h)
 ·rw [inRg,any_at (by assumption) (by simp [rgHas,h])];rfl
 ·exact ⟨_,[_],[],by omega,⟨k+1,rfl,rfl,rfl,by omega,take_step' (by assumption) hR (by simp [rgHas];omega)⟩,rfl,trivial⟩
 ·rw [inRg,any_end h hR,len_beq];rfl
instance iInRanges_i(L:Nat→Nat)[hL:Lok L](l:List GRange)(n:Int):Ctr L Tryz.prog 247 [] [.sl false 2 (l.map (encRange false)),.v (.int .i64 n)] (.v (.bool (inRg l n))) [] True:=by
 refine Ctr.of_body en247 Tryz.func247 rfl rfl fun hp=>(?_);rw [Tryz.ntmps247]
 refine AW.fact 0 fun hf=>?_
 simp (disch:=omega) only [go_sem,Nat.reduceBEq] at hf
 have hf:=Nat.le_trans hf (hL.le 2)
 (refine vU ?_;with_reducible repeat' first|exact Le.l|refine Sw ?_ ?_|intro h)
 refine AW.loopV [9] [0,1,7,8] (fun m xs o=>∃ k:Nat,xs=[.v (.int .i64 k)]∧o=[]∧m=l.length - k∧k≤l.length∧∀ x∈l.take k,rgHas n x=false) l.length [] trivial ⟨0,?_,rfl,rfl,?_,?_⟩ ?_
 ·rfl
 ·omega
 ·simp
 rintro m xs o ⟨k,rfl,rfl,rfl,hk,hR⟩
 (refine vU ?_;with_reducible repeat' first|exact Le.l|refine Sw ?_ ?_|intro h)
 ·rw [inRg,any_at (by assumption) (by simp [rgHas,h])];rfl
 ·exact ⟨_,[_],[],by omega,⟨k+1,rfl,rfl,rfl,by omega,take_step' (by assumption) hR (by simp [rgHas];omega)⟩,rfl,trivial⟩
 ·rw [inRg,any_end h hR,len_beq];rfl
instance sReadInt_i(L:Nat→Nat)(s:Str):Ctr L Tryz.prog 237 [] [.str s] (.tup [.v (.int .i64 (readV s)),.v (.bool (readB s))]) [] True:=by
 refine Ctr.of_body en237 Tryz.func237 rfl rfl fun hp=>(?_);rw [Tryz.ntmps237]
 refine AW.fact 0 fun hf=>?_
 simp (disch:=omega) only [go_sem,Nat.reduceBEq] at hf
 have h1:=rd_le s
 have h2:=rd_le ((s.take s.length).drop (Int.toNat 1))
 rcases Nat.eq_zero_or_pos s.length with h0|h0
 ·obtain rfl:=List.eq_nil_of_length_eq_zero h0
  (refine vU ?_;with_reducible repeat' first|exact Le.l|refine Sw ?_ ?_|intro h)
  rfl
 (refine vU ?_;with_reducible repeat' first|exact Le.l|refine Sw ?_ ?_|intro h)
 ·rw [take_drop_tl] at h;simp only [readV,readB,tl_yes (by assumption),h,cond_false]
 ·rename_i h3 h4;rw [take_drop_tl] at h4 ⊢;simp only [readV,readB,tl_yes h3,h4,h,cond_true,if_true,Int.zero_sub]
 ·rename_i h3 h4;rw [take_drop_tl] at h4 ⊢;simp only [readV,readB,tl_yes h3,h4,h,cond_true,if_false]
 ·simp only [readV,readB,tl_no (by assumption),h,cond_false]
 ·rename_i h3 h4;simp only [readV,readB,tl_no h3,h4,h,cond_true,if_false]
instance iReadInt_i(L:Nat→Nat)(s:Str):Ctr L Tryz.prog 246 [] [.str s] (.tup [.v (.int .i64 (readV s)),.v (.bool (readB s))]) [] True:=by
 refine Ctr.of_body en246 Tryz.func246 rfl rfl fun hp=>(?_);rw [Tryz.ntmps246]
 refine AW.fact 0 fun hf=>?_
 simp (disch:=omega) only [go_sem,Nat.reduceBEq] at hf
 rcases Nat.eq_zero_or_pos s.length with h0|h0
 ·obtain rfl:=List.eq_nil_of_length_eq_zero h0
  (refine vU ?_;with_reducible repeat' first|exact Le.l|refine Sw ?_ ?_|intro h)
  rfl
 have hs0:(0:Int)<(s.length:Int):=by omega
 have hsn:¬ s=[]:=fun e=>by rw [e] at h0;exact absurd h0 (by decide)
 (refine vU ?_;with_reducible repeat' first|exact Le.l|refine Sw ?_ ?_|intro h)
 ·rename_i h3;rw [take_drop_tl] at h;simp only [readV,readB,tl_yes ⟨hs0,h3.2⟩,h];rfl
 ·rename_i h3
  rw [take_drop_tl]
  rw [take_drop_tl] at h
  have ht:=tl_yes ⟨hs0,h3.2⟩
  have hl:(s.drop 1).length≤s.length:=by simp
  have hne:=h
  clear h
  generalize s.drop 1=t at *
  refine AW.loopV [5,6] [0,4] (fun m xs o=>∃ (k:Nat) (v:Int),xs=[.v (.int .i64 v),.v (.int .i64 k)]∧o=[]∧m=t.length - k∧k≤t.length∧allTo (dgt t) k=true∧(valN t k≤1000000000→v=valN t k)∧(1000000000<valN t k→1000000000<v)∧0≤v∧v≤10000000009) t.length [] trivial ⟨0,0,?_,rfl,rfl,?_,rfl,fun _=>rfl,?_,?_,?_⟩ ?_
  ·rfl
  ·omega
  ·intro hh;simp [valN] at hh
  ·omega
  ·omega
  rintro m xs o ⟨k,v,rfl,rfl,rfl,hk,hR,e1,e2,hv1,hv2⟩
  (refine vU ?_;with_reducible repeat' first|exact Le.l|refine Sw ?_ ?_|intro h)
  ·simp only [readV,readB,ht,rd_no (by assumption) (show ¬ (48≤at8 t k∧at8 t k≤57) by omega),cond_false]
  ·have e:=(valS (by assumption) e1 e2).1 h
   exact ⟨_,[_,_],[],by omega,⟨k+1,_,rfl,rfl,rfl,by omega,allTo_step hR (dgt_iff.2 (by assumption)),e.1,e.2,by omega,by omega⟩,rfl,trivial⟩
  ·have e:=(valS (by assumption) e1 e2).2 h
   exact ⟨_,[_,_],[],by omega,⟨k+1,_,rfl,rfl,rfl,by omega,allTo_step hR (dgt_iff.2 (by assumption)),e.1,e.2,by omega,by omega⟩,rfl,trivial⟩
  all_goals
   obtain ⟨a,b⟩:=rd_fin hR hk (by assumption) hne e1 e2
  ·simp only [readV,readB,ht,a,decide_eq_false (show ¬ v≤1000000000 by omega),cond_false]
  ·rename_i hv;simp only [readV,readB,ht,a,decide_eq_true hv,b hv,h,cond_true,if_true,Int.zero_sub]
  ·rename_i hv;simp only [readV,readB,ht,a,decide_eq_true hv,b hv,h,cond_true,if_false]
 ·exact absurd h hsn
 ·rename_i h3
  have ht:=tl_no fun _=>h3 h
  have hne:=h
  refine AW.loopV [5,6] [0,4] (fun m xs o=>∃ (k:Nat) (v:Int),xs=[.v (.int .i64 v),.v (.int .i64 k)]∧o=[]∧m=s.length - k∧k≤s.length∧allTo (dgt s) k=true∧(valN s k≤1000000000→v=valN s k)∧(1000000000<valN s k→1000000000<v)∧0≤v∧v≤10000000009) s.length [] trivial ⟨0,0,?_,rfl,rfl,?_,rfl,fun _=>rfl,?_,?_,?_⟩ ?_
  ·rfl
  ·omega
  ·intro hh;simp [valN] at hh
  ·omega
  ·omega
  rintro m xs o ⟨k,v,rfl,rfl,rfl,hk,hR,e1,e2,hv1,hv2⟩
  (refine vU ?_;with_reducible repeat' first|exact Le.l|refine Sw ?_ ?_|intro h)
  ·simp only [readV,readB,ht,rd_no (by assumption) (show ¬ (48≤at8 s k∧at8 s k≤57) by omega),cond_false]
  ·have e:=(valS (by assumption) e1 e2).1 h
   exact ⟨_,[_,_],[],by omega,⟨k+1,_,rfl,rfl,rfl,by omega,allTo_step hR (dgt_iff.2 (by assumption)),e.1,e.2,by omega,by omega⟩,rfl,trivial⟩
  ·have e:=(valS (by assumption) e1 e2).2 h
   exact ⟨_,[_,_],[],by omega,⟨k+1,_,rfl,rfl,rfl,by omega,allTo_step hR (dgt_iff.2 (by assumption)),e.1,e.2,by omega,by omega⟩,rfl,trivial⟩
  all_goals
   obtain ⟨a,b⟩:=rd_fin hR hk (by assumption) hne e1 e2
  ·simp only [readV,readB,ht,a,decide_eq_false (show ¬ v≤1000000000 by omega),cond_false]
  ·rename_i hv;simp only [readV,readB,ht,a,decide_eq_true hv,b hv,(h3 hsn).1,cond_true,if_false]
end Go.Proofs.YtmcjbaafmjlblaaGreatDoor
namespace Go.Ab
open Go.RowKit (Below)
open Go.Sort (grow)
theorem tabIs{P:Program}{L:Nat→Nat}{B:Nat→Prop}{w:World}{name:String}{g:Nat}(hg:P.globalNamed name=some g)(hl:g<1048576)(h:L 1000000000=2097152+g)(ht:Tb L B w):Lib.TabIs P w name .u64 Lib.pow10Tab:=by
 obtain ⟨_,T,z,e⟩:=ht 0 g _ rfl hl h
 simp [Lib.TabIs,World.var?,hg,e]
theorem tb_of{P:Program}{L:Nat→Nat}{w:World}{name:String}{g:Nat}(hg:P.globalNamed name=some g)(hL:∀ k c g',tabs k=some c→g'<1048576→L (1000000000+k)=2097152+g'→k=0∧g'=g)(h:Lib.TabIs P w name .u64 Lib.pow10Tab):Tb L (fun b=>b<w.heap.size) w:=by
 intro k g' c hc hl hk
 obtain ⟨rfl,rfl⟩:=hL k c g' hc hl hk
 obtain rfl:=Option.some.inj hc
 simp only [Lib.TabIs,World.var?,hg,Option.bind_some] at h
 split at h
 ·rename_i cs T z hh
  refine ⟨?_,T,z,?_⟩
  ·rcases Nat.lt_or_ge g' w.heap.size with q|q
   ·exact q
   ·rw [Array.getElem?_eq_none q] at hh;cases hh
  ·rw [hh,Option.some.inj h]
 ·cases h
theorem dec_len(u:Nat):(Lib.decDigits u).length≤u / 10+1:=by
 induction u using Nat.strongRecOn with
 | _ u ih =>
  rw [Lib.decDigits]
  split
  ·simp
  ·have:=ih (u / 10) (by omega)
   simp only [List.length_append,List.length_singleton]
   omega
theorem itoa_len(n:Int)(h0:-9223372036854775808≤n)(h1:n≤9223372036854775807):(Lib.itoa n).length≤4611686018427387904:=by
 unfold Lib.itoa
 split
 ·have:=dec_len n.natAbs
  simp only [List.length_cons];omega
 ·have:=dec_len n.toNat
  omega
theorem itoa_pure{L:Nat→Nat}{P:Program}{f:FuncId}{T:World→Prop}(hT:∀ w,Tb L (fun b=>b<w.heap.size) w→T w){n:Int}(h0:-9223372036854775808≤n)(h1:n≤9223372036854775807)
  (h:∀ w,T w→Calls P f #[.int .i64 n] w fun e w'=>e=.returned (.string ⟨(Lib.itoa n).toArray⟩)∧∃ k os,w'=grow (w.drewN k) os):PureC L P f [.v (.int .i64 n)] (.str (Lib.itoa n)):=by
 intro w F vs hF ht hr
 obtain rfl:vs=[.int .i64 n]:=by
  simp only [RepL,Rep] at hr
  obtain ⟨y,vs',f1,f2,rfl,_,⟨rfl,_⟩,rfl,_⟩:=hr
  rfl
 refine (h w (hT w ht)).mono ?_
 rintro e w' ⟨rfl,k,os,rfl⟩
 have hb:Below w.heap.size w (grow (w.drewN k) os):=by
  refine ⟨rfl,rfl,rfl,by simp [grow,World.drewN],fun k hk=>?_⟩
  simp only [grow,World.drewN]
  exact Array.getElem?_append_left hk
 exact ⟨_,F,[],rfl,hb,fun _ h=>h,fun b h=>.inl h,by simp only [Rep];exact ⟨trivial,itoa_len n h0 h1,trivial⟩,by simp,by simp⟩
end Go.Ab
namespace Go.Proofs
open Go.Shelf
def Tryz.lays171_ren:Go.Shelf.Ren:=⟨fun|171=>265|243=>282|246=>291|283=>300|284=>301|285=>302|286=>303|129=>311|317=>310|318=>312|319=>313|320=>314|337=>319|338=>320|n=>n,fun|3=>3|9=>9|2=>2|4=>4|171=>330|0=>0|53=>331|37=>159|5=>5|173=>334|212=>339|51=>340|20=>20|213=>341|46=>342|232=>348|233=>349|n=>n,fun|17=>0|18=>2|19=>3|n=>n⟩
theorem Tryz.lays171:Go.Proofs.LaysM.n171 Tryz.prog Tryz.lays171_ren:={
 mixed:=by kernel_rfl
 f129:=Tryz.func311.trans (congrArg some (by kernel_rfl))
 f171:=Tryz.func265.trans (congrArg some (by kernel_rfl))
 f243:=Tryz.func282.trans (congrArg some (by kernel_rfl))
 f246:=Tryz.func291.trans (congrArg some (by kernel_rfl))
 f283:=Tryz.func300.trans (congrArg some (by kernel_rfl))
 f284:=Tryz.func301.trans (congrArg some (by kernel_rfl))
 f285:=Tryz.func302.trans (congrArg some (by kernel_rfl))
 f286:=Tryz.func303.trans (congrArg some (by kernel_rfl))
 f317:=Tryz.func310.trans (congrArg some (by kernel_rfl))
 f318:=Tryz.func312.trans (congrArg some (by kernel_rfl))
 f319:=Tryz.func313.trans (congrArg some (by kernel_rfl))
 f320:=Tryz.func314.trans (congrArg some (by kernel_rfl))
 f337:=Tryz.func319.trans (congrArg some (by kernel_rfl))
 f338:=Tryz.func320.trans (congrArg some (by kernel_rfl))
 t0:=Tryz.underlying0
 a0:=Tryz.isAgg0
 z0:=Tryz.sizeOf0
 v0:=Tryz.zeroValue0
 t2:=Tryz.underlying2
 a2:=Tryz.isAgg2
 z2:=Tryz.sizeOf2
 v2:=Tryz.zeroValue2
 t3:=Tryz.underlying3
 a3:=Tryz.isAgg3
 z3:=Tryz.sizeOf3
 v3:=Tryz.zeroValue3
 t4:=Tryz.underlying4
 a4:=Tryz.isAgg4
 z4:=Tryz.sizeOf4
 v4:=Tryz.zeroValue4
 t5:=Tryz.underlying5
 a5:=Tryz.isAgg5
 z5:=Tryz.sizeOf5
 v5:=Tryz.zeroValue5
 t9:=Tryz.underlying9
 a9:=Tryz.isAgg9
 z9:=Tryz.sizeOf9
 v9:=Tryz.zeroValue9
 t20:=Tryz.underlying20
 a20:=Tryz.isAgg20
 z20:=Tryz.sizeOf20
 v20:=Tryz.zeroValue20
 t37:=Tryz.underlying159
 a37:=Tryz.isAgg159
 z37:=Tryz.sizeOf159
 v37:=Tryz.zeroValue159
 t46:=Tryz.underlying342
 a46:=Tryz.isAgg342
 z46:=Tryz.sizeOf342
 v46:=Tryz.zeroValue342
 t51:=Tryz.underlying340
 a51:=Tryz.isAgg340
 z51:=Tryz.sizeOf340
 v51:=Tryz.zeroValue340
 t53:=Tryz.underlying331
 a53:=Tryz.isAgg331
 z53:=Tryz.sizeOf331
 v53:=Tryz.zeroValue331
 t171:=Tryz.underlying330
 a171:=Tryz.isAgg330
 z171:=Tryz.sizeOf330
 v171:=Tryz.zeroValue330
 t173:=Tryz.underlying334
 a173:=Tryz.isAgg334
 z173:=Tryz.sizeOf334
 v173:=Tryz.zeroValue334
 t212:=Tryz.underlying339
 a212:=Tryz.isAgg339
 z212:=Tryz.sizeOf339
 v212:=Tryz.zeroValue339
 t213:=Tryz.underlying341
 a213:=Tryz.isAgg341
 z213:=Tryz.sizeOf341
 t232:=Tryz.underlying348
 a232:=Tryz.isAgg348
 z232:=Tryz.sizeOf348
 v232:=Tryz.zeroValue348
 t233:=Tryz.underlying349
 a233:=Tryz.isAgg349
 z233:=Tryz.sizeOf349
 v233:=Tryz.zeroValue349
 g17:=by kernel_rfl
 g18:=by kernel_rfl
 g19:=by kernel_rfl
 i0:=by kernel_rfl
 i2:=by kernel_rfl
 i3:=by kernel_rfl
 i4:=by kernel_rfl
 i5:=by kernel_rfl
 i9:=by kernel_rfl
 i20:=by kernel_rfl
 i37:=by kernel_rfl
 i46:=by kernel_rfl
 i51:=by kernel_rfl
 i53:=by kernel_rfl
 i171:=by kernel_rfl
 i173:=by kernel_rfl
 i212:=by kernel_rfl
 i232:=by kernel_rfl
 i233:=by kernel_rfl
 m17:=by kernel_rfl
 m18:=by kernel_rfl
 m19:=by kernel_rfl }
def Tryz.lays137_ren:Go.Shelf.Ren:=⟨fun|137=>294|217=>305|266=>317|n=>n,fun|9=>9|5=>5|3=>3|n=>n,fun|n=>n⟩
theorem Tryz.lays137:Go.Proofs.Lays.n137 Tryz.prog Tryz.lays137_ren:={
 mixed:=by kernel_rfl
 f137:=Tryz.func294.trans (congrArg some (by kernel_rfl))
 f217:=Tryz.func305.trans (congrArg some (by kernel_rfl))
 f266:=Tryz.func317.trans (congrArg some (by kernel_rfl))
 t3:=Tryz.underlying3
 a3:=Tryz.isAgg3
 z3:=Tryz.sizeOf3
 v3:=Tryz.zeroValue3
 t5:=Tryz.underlying5
 a5:=Tryz.isAgg5
 z5:=Tryz.sizeOf5
 v5:=Tryz.zeroValue5
 t9:=Tryz.underlying9
 a9:=Tryz.isAgg9
 z9:=Tryz.sizeOf9
 v9:=Tryz.zeroValue9 }
end Go.Proofs
