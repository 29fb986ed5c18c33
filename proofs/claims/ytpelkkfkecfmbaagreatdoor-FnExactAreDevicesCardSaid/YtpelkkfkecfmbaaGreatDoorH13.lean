/- Part of a proof. -/
import Derived.Shelf.Strconv.Itoa3
import Derived.Shelf.Small.Strs
import Derived.Test.YtpelkkfkecfmbaaGreatDoorH11
import Derived.Test.YtpelkkfkecfmbaaGreatDoorH12
set_option linter.all false
set_option maxRecDepth 20000
set_option maxHeartbeats 4000000
open Go.Proofs.Tryz
namespace Go.Proofs
open Go.Ab Go.Dt
set_option maxHeartbeats 1000000
instance U0(n:Int):Ctr lim prog 263 [] [.aa n] (.str (Lib.itoa n)) [] (-9223372036854775808<=n/\n<=9223372036854775807):=by
 refine Ctr.bd func263 ntmps263 fun hp=>?_
 (refine vU2 ?_ ?_<;>intro h)
 ·rw [h,DD]
 have hl:=WC n.natAbs;refine AW.aw [3,4] [0,2] (fun m xs o=>∃ (s:Str) (x:Int),xs=[.str s,.aa x]/\o=[]/\m=x.natAbs/\dg x.natAbs++s=dg n.natAbs/\s.length<=n.natAbs / 10+1/\-9223372036854775808<=x/\x<=9223372036854775807) n.natAbs [] trivial ⟨[],n,?_,rfl,rfl,?_,?_,?_,?_⟩ ?_
 ·rfl
 ·simp
 ·simp
 ·omega
 ·omega
 rintro m xs o ⟨s,x,rfl,rfl,rfl,hs,hl2,hx1,hx2⟩;have hd:=vS x
 have hm:=E6 x
 (refine vU4 ?_ ?_ ?_ ?_<;>with_reducible repeat intro h)
 ·have e:=JX (c:=UInt8.ofNat (48+(0 - x.tmod 10)).toNat) yG hs (by congr 1;omega);exact ⟨_,[_,_],[],Ir,⟨_,_,rfl,rfl,rfl,e,by have:=Om e;omega,Ir,Ir⟩,rfl,trivial⟩
 ·have e:=JX (c:=UInt8.ofNat (48+x.tmod 10).toNat) yG hs (by congr 1;omega);exact ⟨_,[_,_],[],Ir,⟨_,_,rfl,rfl,rfl,e,by have:=Om e;omega,Ir,Ir⟩,rfl,trivial⟩
 ·rename_i hx;subst hx;rw [Cx Ir,if_pos h,<- hs];rfl
 ·rename_i hx;subst hx;rw [Cx Ir,if_neg Ir,<- hs];rfl
instance XW(L:eaa)(s:Str):Ctr L prog 304 [] [.str s] (.tup [.aa (rdN s),.ac (rdB s)]) [] True:=by
 refine Ctr.bd func304 ntmps304 fun hp=>?_;refine AW.f0 0 fun hf=>?_;refine vU1 ?_;refine AW.aw [4,5] [0] (fun m xs o=>∃ k:Nat,xs=[.aa (eT s k),.aa k]/\o=[]/\m=s.length - k/\k<=s.length/\cS (dgt s) k=true/\eT s k<=1000000000) s.length [] trivial ⟨0,?_,rfl,rfl,?_,rfl,?_⟩ ?_
 ·rfl
 ·omega
 ·simp [eT]
 rintro m xs o ⟨k,rfl,rfl,rfl,hk,hR,hv⟩;have hst:=@EU s k
 (refine vU4 ?_ ?_ ?_ ?_<;>with_reducible repeat intro h)
 ·have:=Es (s:=s) (k:=k) yG Ir;simp [rdN,this]
 ·have:=Mv (s:=s) (k:=k+1) Ir Ir;simp [rdN,this]
 ·exact ⟨_,[_,_],[],Ir,⟨k+1,rfl,rfl,rfl,Ir,dc hR (qn.2 yG),Ir⟩,by rw [hst Ir];rfl,trivial⟩
 ·obtain ⟨e1,e2⟩:=Mu hR hv hk h;rw [e1,e2]
instance Xf(L:eaa)[hL:Lok L](l:List da)(n:Int):Ctr L prog 264 [] [.sl false 2 (l.map (bh false)),.aa n] (.ac (wJ l n)) [] True:=by
 refine Ctr.bd func264 ntmps264 fun hp=>?_;refine AW.f0 0 fun hf=>?_;have hf:=Nat.le_trans hf (hL.le 2);refine vU1 ?_;refine AW.aw [5] [0,1] (fun m xs o=>∃ k:Nat,xs=[.aa k]/\o=[]/\m=l.length - k/\k<=l.length/\∀ x∈l.take k,uz n x=false) l.length [] trivial ⟨0,?_,rfl,rfl,?_,?_⟩ ?_
 ·rfl
 ·omega
 ·simp
 rintro m xs o ⟨k,rfl,rfl,rfl,hk,hR⟩
 (refine vU3 ?_ ?_ ?_<;>with_reducible repeat intro h)
 ·rw [wJ,tY yG (by simp [uz,h])];rfl
 ·exact ⟨_,[_],[],Ir,⟨k+1,rfl,rfl,rfl,Ir,aL yG hR (by simp [uz];omega)⟩,rfl,trivial⟩
 ·rw [wJ,qt h hR,Js];rfl
instance Xs(L:eaa)[hL:Lok L](l:List da)(n:Int):Ctr L prog 281 [] [.sl false 2 (l.map (bh false)),.aa n] (.ac (wJ l n)) [] True:=by
 refine Ctr.bd func281 ntmps281 fun hp=>?_;refine AW.f0 0 fun hf=>?_;have hf:=Nat.le_trans hf (hL.le 2);refine vU1 ?_;refine AW.aw [9] [0,1,7,8] (fun m xs o=>∃ k:Nat,xs=[.aa k]/\o=[]/\m=l.length - k/\k<=l.length/\∀ x∈l.take k,uz n x=false) l.length [] trivial ⟨0,?_,rfl,rfl,?_,?_⟩ ?_
 ·rfl
 ·omega
 ·simp
 rintro m xs o ⟨k,rfl,rfl,rfl,hk,hR⟩
 (refine vU3 ?_ ?_ ?_<;>with_reducible repeat intro h)
 ·rw [wJ,tY yG (by simp [uz,h])];rfl
 ·exact ⟨_,[_],[],Ir,⟨k+1,rfl,rfl,rfl,Ir,aL yG hR (by simp [uz];omega)⟩,rfl,trivial⟩
 ·rw [wJ,qt h hR,Js];rfl
instance XS(L:eaa)(s:Str):Ctr L prog 262 [] [.str s] (.tup [.aa (eH s),.ac (gD s)]) [] True:=by
 refine Ctr.bd func262 ntmps262 fun hp=>?_;refine AW.f0 0 fun hf=>?_;have h1:=AA s
 have h2:=AA ((s.take s.length).drop (Int.toNat 1));rcases Nat.eq_zero_or_pos s.length with h0|h0
 ·obtain rfl:=List.eq_nil_of_length_eq_zero h0
  (refine vU1 ?_;intro h h)
  rfl
 (refine vU5 ?_ ?_ ?_ ?_ ?_<;>with_reducible repeat intro h)
 ·rw [jP] at h;simp only [eH,gD,vQ yG,h,cond_false]
 ·rename_i h3 h4;rw [jP] at h4 ⊢;simp only [eH,gD,vQ h3,h4,h,cond_true,if_true,Int.zero_sub]
 ·rename_i h3 h4;rw [jP] at h4 ⊢;simp only [eH,gD,vQ h3,h4,h,cond_true,if_false]
 ·simp only [eH,gD,Kh yG,h,cond_false]
 ·rename_i h3 h4;simp only [eH,gD,Kh h3,h4,h,cond_true,if_false]
instance Yl(L:eaa)(s:Str):Ctr L prog 280 [] [.str s] (.tup [.aa (eH s),.ac (gD s)]) [] True:=by
 refine Ctr.bd func280 ntmps280 fun hp=>?_;refine AW.f0 0 fun hf=>?_;rcases Nat.eq_zero_or_pos s.length with h0|h0
 ·obtain rfl:=List.eq_nil_of_length_eq_zero h0
  (refine vU1 ?_;intro h h)
  rfl
 have hs0:(0:Int)<(s.length:Int):=by omega
 have hsn:¬ s=[]:=fun e=>by rw [e] at h0;exact absurd h0 baa
 (refine vU4 ?_ ?_ ?_ ?_<;>with_reducible repeat intro h)
 ·rename_i h3;rw [jP] at h;simp only [eH,gD,vQ ⟨hs0,h3.2⟩,h];rfl
 ·rename_i h3;rw [jP];rw [jP] at h;have ht:=vQ ⟨hs0,h3.2⟩
  have hl:(s.drop 1).length<=s.length:=by simp
  have hne:=h;clear h;generalize s.drop 1=t at *;refine AW.aw [5,6] [0,4] (fun m xs o=>∃ (k:Nat) (v:Int),xs=[.aa v,.aa k]/\o=[]/\m=t.length - k/\k<=t.length/\cS (dgt t) k=true/\(eT t k<=1000000000->v=eT t k)/\(1000000000<eT t k->1000000000<v)/\0<=v/\v<=10000000009) t.length [] trivial ⟨0,0,?_,rfl,rfl,?_,rfl,fun _=>rfl,?_,?_,?_⟩ ?_
  ·rfl
  ·omega
  ·intro hh;simp [eT] at hh
  ·omega
  ·omega
  rintro m xs o ⟨k,v,rfl,rfl,rfl,hk,hR,e1,e2,hv1,hv2⟩
  (refine vU6 ?_ ?_ ?_ ?_ ?_ ?_<;>with_reducible repeat intro h)
  ·simp only [eH,gD,ht,Es yG (show ¬ (48<=at8 t k/\at8 t k<=57) by omega),cond_false]
  ·have e:=(Kf yG e1 e2).1 h;exact ⟨_,[_,_],[],Ir,⟨k+1,_,rfl,rfl,rfl,Ir,dc hR (qn.2 yG),e.1,e.2,Ir,Ir⟩,rfl,trivial⟩
  ·have e:=(Kf yG e1 e2).2 h;exact ⟨_,[_,_],[],Ir,⟨k+1,_,rfl,rfl,rfl,Ir,dc hR (qn.2 yG),e.1,e.2,Ir,Ir⟩,rfl,trivial⟩
  all_goals
   obtain ⟨a,b⟩:=Mt hR hk yG hne e1 e2
  ·simp only [eH,gD,ht,a,decide_eq_false (show ¬ v<=1000000000 by omega),cond_false]
  ·rename_i hv;simp only [eH,gD,ht,a,decide_eq_true hv,b hv,h,cond_true,if_true,Int.zero_sub]
  ·rename_i hv;simp only [eH,gD,ht,a,decide_eq_true hv,b hv,h,cond_true,if_false]
 ·exact absurd h hsn
 ·rename_i h3;have ht:=Kh fun _=>h3 h
  have hne:=h;refine AW.aw [5,6] [0,4] (fun m xs o=>∃ (k:Nat) (v:Int),xs=[.aa v,.aa k]/\o=[]/\m=s.length - k/\k<=s.length/\cS (dgt s) k=true/\(eT s k<=1000000000->v=eT s k)/\(1000000000<eT s k->1000000000<v)/\0<=v/\v<=10000000009) s.length [] trivial ⟨0,0,?_,rfl,rfl,?_,rfl,fun _=>rfl,?_,?_,?_⟩ ?_
  ·rfl
  ·omega
  ·intro hh;simp [eT] at hh
  ·omega
  ·omega
  rintro m xs o ⟨k,v,rfl,rfl,rfl,hk,hR,e1,e2,hv1,hv2⟩
  (refine vU5 ?_ ?_ ?_ ?_ ?_<;>with_reducible repeat intro h)
  ·simp only [eH,gD,ht,Es yG (show ¬ (48<=at8 s k/\at8 s k<=57) by omega),cond_false]
  ·have e:=(Kf yG e1 e2).1 h;exact ⟨_,[_,_],[],Ir,⟨k+1,_,rfl,rfl,rfl,Ir,dc hR (qn.2 yG),e.1,e.2,Ir,Ir⟩,rfl,trivial⟩
  ·have e:=(Kf yG e1 e2).2 h;exact ⟨_,[_,_],[],Ir,⟨k+1,_,rfl,rfl,rfl,Ir,dc hR (qn.2 yG),e.1,e.2,Ir,Ir⟩,rfl,trivial⟩
  all_goals
   obtain ⟨a,b⟩:=Mt hR hk yG hne e1 e2
  ·simp only [eH,gD,ht,a,decide_eq_false (show ¬ v<=1000000000 by omega),cond_false]
  ·rename_i hv;simp only [eH,gD,ht,a,decide_eq_true hv,b hv,(h3 hsn).1,cond_true,if_false]
end Go.Proofs
namespace Go.Ab
open Go.RowKit (Below)
open Go.Sort (grow)
def XH{P:Program}{L:eaa}{B:faa}{w:World}{name:String}{g:Nat}(hg:P.globalNamed name=some g)(hl:g<1048576)(h:L 1000000000=2097152+g)(ht:Tb L B w):Lib.TabIs P w name .u64 Lib.pow10Tab:=by obtain ⟨_,T,z,e⟩:=ht 0 g _ rfl hl h;simp [Lib.TabIs,World.var?,hg,e]
def Kj{P:Program}{L:eaa}{w:World}{name:String}{g:Nat}(hg:P.globalNamed name=some g)(hL:∀ k c g',tabs k=some c->g'<1048576->L (1000000000+k)=2097152+g'->k=0/\g'=g)(h:Lib.TabIs P w name .u64 Lib.pow10Tab):Tb L (fun b=>b<w.heap.size) w:=by
 intro k g' c hc hl hk;obtain ⟨rfl,rfl⟩:=hL k c g' hc hl hk;obtain rfl:=Option.some.inj hc;simp only [Lib.TabIs,World.var?,hg,Option.bind_some] at h;split at h
 ·rename_i cs T z hh;refine ⟨?_,T,z,?_⟩
  ·rcases Nat.lt_or_ge g' w.heap.size with q|q
   ·exact q
   ·rw [Array.getElem?_eq_none q] at hh;cases hh
  ·rw [hh,Option.some.inj h]
 ·cases h
def JY(u:Nat):(Lib.decDigits u).length<=u / 10+1:=by
 induction u using Nat.strongRecOn with
 | _ u ih =>
  rw [Lib.decDigits];split
  ·simp
  ·have:=ih (u / 10) Ir;simp only [List.length_append,List.length_singleton];omega
def PH(n:Int)(h0:-9223372036854775808<=n)(h1:n<=9223372036854775807):(Lib.itoa n).length<=4611686018427387904:=by
 unfold Lib.itoa;split
 ·have:=JY n.natAbs;simp only [List.length_cons];omega
 ·have:=JY n.toNat;omega
def M9{L:eaa}{P:Program}{f:FuncId}{T:World->Prop}(hT:∀ w,Tb L (fun b=>b<w.heap.size) w->T w){n:Int}(h0:-9223372036854775808<=n)(h1:n<=9223372036854775807)
  (h:∀ w,T w->Calls P f #[.int .i64 n] w fun e w'=>e=.returned (.string ⟨(Lib.itoa n).toArray⟩)/\∃ k os,w'=grow (w.drewN k) os):eY L P f [.v (.int .i64 n)] (.str (Lib.itoa n)):=by
 intro w F vs hF ht hr
 obtain rfl:vs=[.int .i64 n]:=by
  simp only [au,Rep] at hr;obtain ⟨y,vs',f1,f2,rfl,_,⟨rfl,_⟩,rfl,_⟩:=hr;rfl
 refine (h w (hT w ht)).mono ?_;rintro e w' ⟨rfl,k,os,rfl⟩
 have hb:Below w.heap.size w (grow (w.drewN k) os):=by
  refine ⟨rfl,rfl,rfl,by simp [grow,World.drewN],fun k hk=>?_⟩;simp only [grow,World.drewN];exact Array.getElem?_append_left hk
 exact ⟨_,F,[],rfl,hb,fun _ h=>h,fun b h=>.inl h,by simp only [Rep];exact ⟨trivial,PH n h0 h1,trivial⟩,QC,QC⟩
end Go.Ab
namespace Go.Proofs
open Go.Shelf
def Tryz.H7:Go.Shelf.Ren:=⟨fun|171=>318|243=>337|246=>351|283=>358|284=>359|285=>360|286=>361|129=>367|317=>366|318=>368|319=>369|320=>370|337=>374|338=>375|n=>n,fun|3=>3|9=>9|2=>2|4=>4|171=>347|0=>0|53=>348|37=>131|5=>5|173=>351|212=>356|51=>357|20=>20|213=>358|46=>359|232=>365|233=>366|n=>n,fun|17=>1|18=>2|19=>3|n=>n⟩
def Tryz.SR:Go.Proofs.LaysM.n171 prog Tryz.H7:={
 mixed:=by kernel_rfl
 f129:=func367.trans (congrArg some LQ)
 f171:=func318.trans (congrArg some LQ)
 f243:=func337.trans (congrArg some LQ)
 f246:=func351.trans (congrArg some LQ)
 f283:=func358.trans (congrArg some LQ)
 f284:=func359.trans (congrArg some LQ)
 f285:=func360.trans (congrArg some LQ)
 f286:=func361.trans (congrArg some LQ)
 f317:=func366.trans (congrArg some LQ)
 f318:=func368.trans (congrArg some LQ)
 f319:=func369.trans (congrArg some LQ)
 f320:=func370.trans (congrArg some LQ)
 f337:=func374.trans (congrArg some LQ)
 f338:=func375.trans (congrArg some LQ)
 t0:=Tryz.underlying0
 a0:=Tryz.isAgg0
 z0:=Tryz.sizeOf0
 v0:=Tryz.zeroValue0
 t2:=Tryz.underlying2
 a2:=Tryz.isAgg2
 z2:=Tryz.sizeOf2
 v2:=Tryz.zeroValue2
 t3:=Tryz.underlying3
 a3:=Tryz.isAgg3
 z3:=Tryz.sizeOf3
 v3:=Tryz.zeroValue3
 t4:=Tryz.underlying4
 a4:=Tryz.isAgg4
 z4:=Tryz.sizeOf4
 v4:=Tryz.zeroValue4
 t5:=Tryz.underlying5
 a5:=Tryz.isAgg5
 z5:=Tryz.sizeOf5
 v5:=Tryz.zeroValue5
 t9:=Tryz.underlying9
 a9:=Tryz.isAgg9
 z9:=Tryz.sizeOf9
 v9:=Tryz.zeroValue9
 t20:=Tryz.underlying20
 a20:=Tryz.isAgg20
 z20:=Tryz.sizeOf20
 v20:=Tryz.zeroValue20
 t37:=Tryz.underlying131
 a37:=Tryz.isAgg131
 z37:=Tryz.sizeOf131
 v37:=Tryz.zeroValue131
 t46:=Tryz.underlying359
 a46:=Tryz.isAgg359
 z46:=Tryz.sizeOf359
 v46:=Tryz.zeroValue359
 t51:=Tryz.underlying357
 a51:=Tryz.isAgg357
 z51:=Tryz.sizeOf357
 v51:=Tryz.zeroValue357
 t53:=Tryz.underlying348
 a53:=Tryz.isAgg348
 z53:=Tryz.sizeOf348
 v53:=Tryz.zeroValue348
 t171:=Tryz.underlying347
 a171:=Tryz.isAgg347
 z171:=Tryz.sizeOf347
 v171:=Tryz.zeroValue347
 t173:=Tryz.underlying351
 a173:=Tryz.isAgg351
 z173:=Tryz.sizeOf351
 v173:=Tryz.zeroValue351
 t212:=Tryz.underlying356
 a212:=Tryz.isAgg356
 z212:=Tryz.sizeOf356
 v212:=Tryz.zeroValue356
 t213:=Tryz.underlying358
 a213:=Tryz.isAgg358
 z213:=Tryz.sizeOf358
 t232:=Tryz.underlying365
 a232:=Tryz.isAgg365
 z232:=Tryz.sizeOf365
 v232:=Tryz.zeroValue365
 t233:=Tryz.underlying366
 a233:=Tryz.isAgg366
 z233:=Tryz.sizeOf366
 v233:=Tryz.zeroValue366
 g17:=by kernel_rfl
 g18:=by kernel_rfl
 g19:=by kernel_rfl
 i0:=by kernel_rfl
 i2:=by kernel_rfl
 i3:=by kernel_rfl
 i4:=by kernel_rfl
 i5:=by kernel_rfl
 i9:=by kernel_rfl
 i20:=by kernel_rfl
 i37:=by kernel_rfl
 i46:=by kernel_rfl
 i51:=by kernel_rfl
 i53:=by kernel_rfl
 i171:=by kernel_rfl
 i173:=by kernel_rfl
 i212:=by kernel_rfl
 i232:=by kernel_rfl
 i233:=by kernel_rfl
 m17:=by kernel_rfl
 m18:=by kernel_rfl
 m19:=by kernel_rfl }
def Tryz.H8:Go.Shelf.Ren:=⟨fun|137=>336|217=>350|266=>357|n=>n,fun|9=>9|5=>5|3=>3|n=>n,fun|n=>n⟩
def Tryz.SS:Go.Proofs.Lays.n137 prog Tryz.H8:={
 mixed:=by kernel_rfl
 f137:=func336.trans (congrArg some LQ)
 f217:=func350.trans (congrArg some LQ)
 f266:=func357.trans (congrArg some LQ)
 t3:=Tryz.underlying3
 a3:=Tryz.isAgg3
 z3:=Tryz.sizeOf3
 v3:=Tryz.zeroValue3
 t5:=Tryz.underlying5
 a5:=Tryz.isAgg5
 z5:=Tryz.sizeOf5
 v5:=Tryz.zeroValue5
 t9:=Tryz.underlying9
 a9:=Tryz.isAgg9
 z9:=Tryz.sizeOf9
 v9:=Tryz.zeroValue9 }
end Go.Proofs
namespace Go.Proofs
open Go.Ab Go.Dt
set_option maxHeartbeats 1000000
instance adk(n:Int):Ctr lim prog 318 [] [.aa n] (.str (Lib.itoa n)) [] (-9223372036854775808<=n/\n<=9223372036854775807) :=
 Ctr.kQ (aU 318) fun hp=>M9 (fun w ht=>XH (g:=1) LQ baa rfl ht) hp.1 hp.2 fun w hT=>Any.strconv_Itoa Tryz.SR n hp.1 hp.2 w hT
instance VW(n:Int):Ctr lim prog 282 [] [.aa n] (.str (Lib.itoa n)) [] (-9223372036854775808<=n/\n<=9223372036854775807):=by
 refine Ctr.bd func282 ntmps282 fun hp=>?_
 all_goals exact uU
def eY.YI{L:eaa}{f:FuncId}{args:List AV}{vs0:List Value}{res:AV}{v:Value}(ha:∀ F w vs,au L F w args vs []->vs=vs0)(hr:∀ F w,Rep L F w res v [])(h:∀ w,Calls prog f vs0.toArray w fun e w'=>e=.returned v/\w'=w):eY L prog f args res:=by intro w F vs hF ht hv;obtain rfl:=ha F w vs hv;refine (h w).mono ?_;rintro e w' ⟨rfl,rfl⟩;exact ⟨_,F,[],rfl,Go.RowKit.Below.refl _ _,fun _ h=>h,fun b h=>.inl h,hr F _,QC,QC⟩
instance Xn(L:eaa)(s:Str)(c:Int):Ctr L prog 336 [] [.str s,.v (.int .u8 c)] (.aa (Lib.indexByte s (UInt8.ofNat c.toNat))) [] True :=
 Ctr.kQ (aU 336) fun _=>eY.YI (vs0:=[.string ⟨s.toArray⟩,.int .u8 c]) (v:=.int .i64 (Lib.indexByte s (UInt8.ofNat c.toNat))) (fun F w vs h=>by
  simp only [au,Rep] at h;obtain ⟨y,vs',f1,f2,rfl,_,⟨rfl,_⟩,y2,vs2,f3,f4,rfl,_,⟨rfl,_⟩,rfl,_⟩:=h
  rfl) (fun F w=>by simp [Rep]) fun w=>by
  have h:=Any.strings_IndexByte Tryz.SS ⟨s.toArray⟩ c w;exact h
end Go.Proofs
namespace Go.Proofs
open Go.Ab Go.Dt
section
attribute [local go_sem] bk.eta
instance Yg(n:Nat)(a g:Nat->Bool):xq lim prog 352 1 (bC n a) [.sl false 1 (bC n g)] (.ac (grew n g a)) (bC n (orB a g)) (0<n/\n<=4611686018427387904):=by
 refine xq.of (aU 352) (fun b=>?_) (fun e=>?_) (by simp [dx]) (eP _ _) (eP _ _)
 ·simp only [dx,iv];refine Ctr.bd func352 ntmps352 fun hp=>?_;refine vU1 ?_;refine AW.aw [5,9] [0,1,8] (fun m xs o=>∃ k:Nat,xs=[.ac (grew k g a),.aa k]/\o=[(b,some (bC n (joK a g k)))]/\m=n - k/\k<=n) n [(b,some (bC n a))] (cj rfl) ⟨0,rfl,?_,rfl,?_⟩ ?_
  ·rw [PF]
  ·omega
  rintro m xs o ⟨k,rfl,rfl,rfl,hk⟩
  (refine vU4 ?_ ?_ ?_ ?_<;>with_reducible repeat intro h)
  ·rw [M8] at h;refine ⟨_,[_,_],_,Ir,⟨k+1,rfl,rfl,rfl,Ir⟩,by rw [rN,h.1,h.2,Bool.not_false,Bool.and_self,Bool.or_true];rfl,cj ?_⟩;rw [SY h.1]
  ·rw [M8] at h;refine ⟨_,[_,_],_,Ir,⟨k+1,rfl,rfl,rfl,Ir⟩,?_,cj ?_⟩
   ·rw [rN]
    cases h1:g k with
    | false=>rw [Bool.false_and,Bool.or_false];rfl
    | true=>rw [h h1,Bool.not_true,Bool.and_false,Bool.or_false];rfl
   ·rw [PG h]
  ·rw [show k=n by omega]
  ·rw [SZ n a g h]
 ·have e0:n=0:=by have:=congrArg List.length e;simpa [dx] using this
  subst e0;exact ⟨⟨(aU 352),fun hp=>absurd hp.1 Ir⟩,rfl⟩
theorem Dp:∀ (n:Nat) (op:Int) (t:Str) (ks:List bk) (s:Str) (f:Nat->Bool),Ctr lim prog 338 [] [.agg [.aa op,.str t,.sl false 3 (ks.map bM)],.str s,.sl false 1 (bC (s.length+1) f)] (.sl true 1 (bC (s.length+1) (ends s (.mk op t ks) f))) [] (nF ks<n/\s.length<=1048576)
 | 0,op,t,ks,s,f=>⟨(aU 338),fun h=>absurd h.1 (Nat.not_lt_zero _)⟩
 | n+1,op,t,ks,s,f=>by
  have ih:=Dp n;refine Ctr.bd func338 ntmps338 fun hp=>?_;have hls:=hp.2
  have hq:=fun k=>wj (l:=ks) (k:=k)
  have hq2:=fun k=>AF (at_ ks k);by_cases h1:op=1
  ·subst h1;rw [jq,if_pos rfl]
   (refine vX1 ?_;intro h h)
   rename_i b;refine AW.aw [8] [1,2,3,7] (fun m xs o=>∃ k:Nat,xs=[.aa k]/\o=[(b,some (bC (s.length+1) (chK t s f k)))]/\m=s.length - k/\k<=s.length) s.length [(b,some (bC (s.length+1) (chK t s f 0)))] (cj (HA _ _ _ _).symm) ⟨0,?_,rfl,rfl,?_⟩ ?_
   ·rfl
   ·omega
   rintro m xs o ⟨k,rfl,rfl,rfl,hk⟩
   (refine vX2 ?_ ?_<;>intro h)
   ·exact ⟨_,[_],_,Ir,⟨k+1,rfl,rfl,rfl,Ir⟩,rfl,cj (J6 (by rw [Qz])).symm⟩
   ·rw [J7 Ir];refine AW.ret (EndsG.imp (Imp.fold 6 (b:=b) (len:=s.length+1) (sz:=1) (cells:=bC (s.length+1) (chE t s f)) (l:=bC (s.length+1) (chE t s f)) gO gO (dx _ _) (by rw [iv,Nat.mul_one,fD]) (eP _ _) ?_));refine EndsG.fin rfl ?_;exact gO
  by_cases h2:op=2
  ·subst h2;rw [jq,if_neg baa,if_pos rfl]
   (refine vX1 ?_;intro h h h)
   rename_i b g1;refine AW.imp (Imp.fold 7 (b:=b) (len:=s.length+1) (sz:=1) (cells:=bC (s.length+1) (f)) (l:=bC (s.length+1) (f)) gO gO (dx _ _) (by rw [iv,Nat.mul_one,fD]) (eP _ _) ?_)
   try simp (maxSteps:=2000000) (disch:=omega) only [go_sem]
   refine AW.f0 50 fun hf=>?_;refine AW.aw [7,52] [1,50,51] (fun m xs o=>∃ (k:Nat) (a:Nat->Bool),xs=[.sl true 1 (bC (s.length+1) a),.aa k]/\o=[]/\m=ks.length - k/\k<=ks.length/\pg s (ks.drop k) a=pg s ks f) ks.length [] trivial ⟨0,f,?_,rfl,rfl,?_,rfl⟩ ?_
   ·rfl
   ·omega
   rintro m xs o ⟨k,a,rfl,rfl,rfl,hk,hR⟩;have hqk:=hq k
   have PQ:=hq2 k
   (refine vU2 ?_ ?_<;>with_reducible repeat intro h)
   ·exact ⟨_,[_,_],[],Ir,⟨k+1,_,rfl,rfl,rfl,Ir,by rw [<- hR,Dj (k:=k) yG]⟩,rfl,trivial⟩
   ·rw [<- hR,Fo h]
  by_cases h3:op=3
  ·subst h3;rw [jq,if_neg baa,if_neg baa,if_pos rfl]
   (refine vX1 ?_;intro h h h h)
   rename_i b g1 g2;refine AW.imp (Imp.fold 7 (b:=b) (len:=s.length+1) (sz:=1) (cells:=bC (s.length+1) (fun _=>false)) (l:=bC (s.length+1) (fun _=>false)) gO gO (dx _ _) (by rw [iv,Nat.mul_one,fD]) (eP _ _) ?_)
   try simp (maxSteps:=2000000) (disch:=omega) only [go_sem]
   refine AW.f0 64 fun hf=>?_;refine AW.aw [7,66] [1,2,64,65] (fun m xs o=>∃ (k:Nat) (a:Nat->Bool),xs=[.sl true 1 (bC (s.length+1) a),.aa k]/\o=[]/\m=ks.length - k/\k<=ks.length/\pU s (ks.drop k) f a=pU s ks f (fun _=>false)) ks.length [] trivial ⟨0,_,?_,rfl,rfl,?_,rfl⟩ ?_
   ·rfl
   ·omega
   rintro m xs o ⟨k,a,rfl,rfl,rfl,hk,hR⟩;have hqk:=hq k
   have PQ:=hq2 k
   (refine vU2 ?_ ?_<;>with_reducible repeat intro h)
   ·exact ⟨_,[_,_],[],Ir,⟨k+1,_,rfl,rfl,rfl,Ir,by rw [<- hR,D5 (k:=k) yG]⟩,rfl,trivial⟩
   ·rw [<- hR,HS h]
  have hq0:=hq 0
  have abl:=hq2 0;by_cases h4:op=4
  ·subst h4;rw [jq,if_neg baa,if_neg baa,if_neg baa,if_pos baa]
   (refine vX2 ?_ ?_<;>with_reducible repeat intro h)
   ·rename_i b g1 g2 g3 g4 g5;rw [uh Ir];refine AW.ret (EndsG.imp (Imp.fold 6 (b:=b) (len:=s.length+1) (sz:=1) (cells:=bC (s.length+1) (f)) (l:=bC (s.length+1) (f)) gO gO (dx _ _) (by rw [iv,Nat.mul_one,fD]) (eP _ _) ?_));refine EndsG.fin rfl ?_;exact gO
   ·rename_i b g1 g2 g3 g4 g5;rw [ru Ir,if_pos rfl];refine AW.imp (Imp.fold 7 (b:=b) (len:=s.length+1) (sz:=1) (cells:=bC (s.length+1) (f)) (l:=bC (s.length+1) (f)) gO gO (dx _ _) (by rw [iv,Nat.mul_one,fD]) (eP _ _) ?_)
    try simp (maxSteps:=2000000) (disch:=omega) only [go_sem]
    refine AW.aw [7] [1,3] (fun m xs o=>∃ a:Nat->Bool,xs=[.sl true 1 (bC (s.length+1) a)]/\o=[]/\kL (s.length+1) (ends s (at_ ks 0)) m a=kL (s.length+1) (ends s (at_ ks 0)) (s.length+1) f/\oD a (s.length+1)<=m) (s.length+1) [] trivial ⟨f,?_,rfl,rfl,CX _ _⟩ ?_
    ·rfl
    rintro m xs o ⟨a,rfl,rfl,hR,hm⟩
    (refine vU2 ?_ ?_<;>intro h)
    ·obtain ⟨j,rfl,e1,e2⟩:=DE h hm;exact ⟨j,[_],[],Ir,⟨_,rfl,rfl,by rw [<- e1];exact hR,e2⟩,rfl,trivial⟩
    ·rw [<- hR,Gn h,jz (JD h)]
  by_cases h5:op=5
  ·subst h5;rw [jq,if_neg baa,if_neg baa,if_neg baa,if_pos baa]
   (refine vX2 ?_ ?_<;>with_reducible repeat intro h)
   ·rename_i b g1 g2 g3 g4 g5;rw [uh Ir];refine AW.ret (EndsG.imp (Imp.fold 6 (b:=b) (len:=s.length+1) (sz:=1) (cells:=bC (s.length+1) (f)) (l:=bC (s.length+1) (f)) gO gO (dx _ _) (by rw [iv,Nat.mul_one,fD]) (eP _ _) ?_));refine EndsG.fin rfl ?_;exact gO
   ·rename_i b g1 g2 g3 g4 g5;rw [ru Ir,if_neg baa];refine AW.imp (Imp.fold 7 (b:=b) (len:=s.length+1) (sz:=1) (cells:=bC (s.length+1) (f)) (l:=bC (s.length+1) (f)) gO gO (dx _ _) (by rw [iv,Nat.mul_one,fD]) (eP _ _) ?_)
    try simp (maxSteps:=2000000) (disch:=omega) only [go_sem]
    refine AW.aw [7] [1,3] (fun m xs o=>xs=[.sl true 1 (bC (s.length+1) f)]/\o=[]) 0 [] trivial ⟨?_,rfl⟩ ?_
    ·rfl
    rintro m xs o ⟨rfl,rfl⟩
    all_goals exact uU
  rw [jq,if_neg h1,if_neg h2,if_neg h3,if_neg Ir]
  (refine vX1 ?_;intro h h h h h h)
  rename_i b g1 g2 g3 g4;refine AW.ret (EndsG.imp (Imp.fold 6 (b:=b) (len:=s.length+1) (sz:=1) (cells:=bC (s.length+1) (fun _=>false)) (l:=bC (s.length+1) (fun _=>false)) gO gO (dx _ _) (by rw [iv,Nat.mul_one,fD]) (eP _ _) ?_));refine EndsG.fin rfl ?_;exact gO
end
section
attribute [local go_sem] bk.eta
instance aaK(n:Nat)(a g:Nat->Bool):Ctr lim prog 346 [] [.sl false 1 (bC n a),.sl false 1 (bC n g)] (.sl true 1 (bC n (orB a g))) [] (n<=1099511627776):=by
 refine Ctr.bd func346 ntmps346 fun hp=>?_
 (refine vX1 ?_;intro h)
 obtain ⟨b,rfl⟩:∃ b,b=h:=⟨_,rfl⟩
 refine AW.aw [6] [0,1,5] (fun m xs o=>∃ k:Nat,xs=[.aa k]/\o=[(b,some (bC n (boK a g k)))]/\m=n - k/\k<=n) n [(b,some (bC n (boK a g 0)))] (cj (Qx _ _ _).symm) ⟨0,?_,rfl,rfl,?_⟩ ?_
 ·rfl
 ·omega
 rintro m xs o ⟨k,rfl,rfl,rfl,hk⟩
 (refine vX2 ?_ ?_<;>intro h)
 ·exact ⟨_,[_],_,Ir,⟨k+1,rfl,rfl,rfl,Ir⟩,rfl,cj (TZ rfl).symm⟩
 ·rw [T9 Ir];refine AW.ret (EndsG.imp (Imp.fold 4 (b:=b) (len:=n) (sz:=1) (cells:=bC n (orB a g)) (l:=bC n (orB a g)) gO gO (dx _ _) (by rw [iv,Nat.mul_one,fD]) (eP _ _) ?_));refine EndsG.fin rfl ?_;exact gO
theorem Gk:∀ (n:Nat) (op:Int) (t:Str) (ks:List bk) (s:Str) (f:Nat->Bool),Ctr lim prog 330 [] [.agg [.aa op,.str t,.sl false 3 (ks.map bM)],.str s,.sl false 1 (bC (s.length+1) f)] (.sl true 1 (bC (s.length+1) (ends s (.mk op t ks) f))) [] (nF ks<n/\s.length<=1048576)
 | 0,op,t,ks,s,f=>⟨(aU 330),fun h=>absurd h.1 (Nat.not_lt_zero _)⟩
 | n+1,op,t,ks,s,f=>by
  have ih:=Gk n;refine Ctr.bd func330 ntmps330 fun hp=>?_;have hls:=hp.2
  have hq:=fun k=>wj (l:=ks) (k:=k)
  have hq2:=fun k=>AF (at_ ks k);by_cases h1:op=1
  ·subst h1;rw [jq,if_pos rfl]
   (refine vX1 ?_;intro h h)
   rename_i b;refine AW.f0 3 fun hf=>?_;refine AW.aw [8] [1,2,3,7] (fun m xs o=>∃ k:Nat,xs=[.aa k]/\o=[(b,some (bC (s.length+1) (chK t s f k)))]/\m=s.length - k/\k<=s.length) s.length [(b,some (bC (s.length+1) (chK t s f 0)))] (cj (HA _ _ _ _).symm) ⟨0,?_,rfl,rfl,?_⟩ ?_
   ·rfl
   ·omega
   rintro m xs o ⟨i,rfl,rfl,rfl,hi⟩
   (refine vX2 ?_ ?_<;>intro h)
   ·rename_i hi2;refine AW.aw [9] [1,2,3,7,8] (fun m xs o=>∃ k:Nat,xs=[.aa k]/\o=[(b,some (bC (s.length+1) (uK t s f i k)))]/\m=t.length - k/\k<=t.length) t.length [(b,some (bC (s.length+1) (uK t s f i 0)))] (cj (Ns _ _ _ _ _).symm) ⟨0,?_,rfl,rfl,?_⟩ ?_
    ·rfl
    ·omega
    rintro m xs o ⟨k,rfl,rfl,rfl,hk⟩
    (refine vX2 ?_ ?_<;>intro h)
    ·exact ⟨_,[_],_,Ir,⟨k+1,rfl,rfl,rfl,Ir⟩,rfl,cj (PJ (by rw [S5,Ug,PK h.1 h.2])).symm⟩
    ·refine ⟨_,[_],_,Ir,⟨i+1,rfl,rfl,rfl,Ir⟩,rfl,cj ?_⟩;rw [<- J6 (S9 h)];rfl
   ·rw [J7 Ir];refine AW.ret (EndsG.imp (Imp.fold 6 (b:=b) (len:=s.length+1) (sz:=1) (cells:=bC (s.length+1) (chE t s f)) (l:=bC (s.length+1) (chE t s f)) gO gO (dx _ _) (by rw [iv,Nat.mul_one,fD]) (eP _ _) ?_));refine EndsG.fin rfl ?_;exact gO
  by_cases h2:op=2
  ·subst h2;rw [jq,if_neg baa,if_pos rfl]
   (refine vX1 ?_;intro h h h)
   rename_i b g1;refine AW.imp (Imp.fold 7 (b:=b) (len:=s.length+1) (sz:=1) (cells:=bC (s.length+1) (f)) (l:=bC (s.length+1) (f)) gO gO (dx _ _) (by rw [iv,Nat.mul_one,fD]) (eP _ _) ?_)
   try simp (maxSteps:=2000000) (disch:=omega) only [go_sem]
   refine AW.f0 3 fun hf=>?_;refine AW.aw [7,10] [1,3] (fun m xs o=>∃ (k:Nat) (a:Nat->Bool),xs=[.sl true 1 (bC (s.length+1) a),.aa k]/\o=[]/\m=ks.length - k/\k<=ks.length/\pg s (ks.drop k) a=pg s ks f) ks.length [] trivial ⟨0,f,?_,rfl,rfl,?_,rfl⟩ ?_
   ·rfl
   ·omega
   rintro m xs o ⟨k,a,rfl,rfl,rfl,hk,hR⟩;have hqk:=hq k
   have PQ:=hq2 k
   (refine vU2 ?_ ?_<;>intro h)
   ·exact ⟨_,[_,_],[],Ir,⟨k+1,_,rfl,rfl,rfl,Ir,by rw [<- hR,Dj (k:=k) yG]⟩,rfl,trivial⟩
   ·rw [<- hR,Fo h]
  by_cases h3:op=3
  ·subst h3;rw [jq,if_neg baa,if_neg baa,if_pos rfl]
   (refine vX1 ?_;intro h h h h)
   rename_i b g1 g2;refine AW.imp (Imp.fold 7 (b:=b) (len:=s.length+1) (sz:=1) (cells:=bC (s.length+1) (fun _=>false)) (l:=bC (s.length+1) (fun _=>false)) gO gO (dx _ _) (by rw [iv,Nat.mul_one,fD]) (eP _ _) ?_)
   try simp (maxSteps:=2000000) (disch:=omega) only [go_sem]
   refine AW.f0 3 fun hf=>?_;refine AW.aw [7,11] [1,2,3] (fun m xs o=>∃ (k:Nat) (a:Nat->Bool),xs=[.sl true 1 (bC (s.length+1) a),.aa k]/\o=[]/\m=ks.length - k/\k<=ks.length/\pU s (ks.drop k) f a=pU s ks f (fun _=>false)) ks.length [] trivial ⟨0,_,?_,rfl,rfl,?_,rfl⟩ ?_
   ·rfl
   ·omega
   rintro m xs o ⟨k,a,rfl,rfl,rfl,hk,hR⟩;have hqk:=hq k
   have PQ:=hq2 k
   (refine vU2 ?_ ?_<;>intro h)
   ·exact ⟨_,[_,_],[],Ir,⟨k+1,_,rfl,rfl,rfl,Ir,by rw [<- hR,D5 (k:=k) yG]⟩,rfl,trivial⟩
   ·rw [<- hR,HS h]
  have hq0:=hq 0
  have abl:=hq2 0;by_cases h4:op=4
  ·subst h4;rw [jq,if_neg baa,if_neg baa,if_neg baa,if_pos baa]
   (refine vX1 ?_;intro h h h h h h)
   rename_i b g1 g2 g3 g4;refine AW.imp (Imp.fold 7 (b:=b) (len:=s.length+1) (sz:=1) (cells:=bC (s.length+1) (f)) (l:=bC (s.length+1) (f)) gO gO (dx _ _) (by rw [iv,Nat.mul_one,fD]) (eP _ _) ?_)
   try simp (maxSteps:=2000000) (disch:=omega) only [go_sem]
   by_cases hk1:ks.length=1
   ·rw [ru hk1,if_pos rfl];refine AW.aw [7] [1,3] (fun m xs o=>∃ a:Nat->Bool,xs=[.sl true 1 (bC (s.length+1) a)]/\o=[]/\kL (s.length+1) (ends s (at_ ks 0)) m a=kL (s.length+1) (ends s (at_ ks 0)) (s.length+1) f/\oD a (s.length+1)<=m) (s.length+1) [] trivial ⟨f,?_,rfl,rfl,CX _ _⟩ ?_
    ·rfl
    rintro m xs o ⟨a,rfl,rfl,hR,hm⟩
    (refine vX1 ?_;intro h)
    refine AW.imp (Imp.unfold 7 (sz:=1) (l:=bC (s.length+1) a) gO (EM _ _) (eP _ _) fun b1 hb1=>?_);refine AW.imp (Imp.unfold 12 (sz:=1) (l:=bC (s.length+1) (orB a (ends s (at_ ks 0) a))) gO (EM _ _) (eP _ _) fun b2 hb2=>?_);have hb2:=hb2.nf;refine gS ?_;simp only [go_sem] at hb2;refine AW.aw [13,14] [1,3,7,12] (fun m xs o=>∃ k:Nat,xs=[.ac (grew k (ends s (at_ ks 0) a) a),.aa k]/\o=[(b2,some (bC (s.length+1) (orB a (ends s (at_ ks 0) a)))),(b1,some (bC (s.length+1) a))]/\m=s.length+1 - k/\k<=s.length+1) (s.length+1) [(b2,some (bC (s.length+1) (orB a (ends s (at_ ks 0) a)))),(b1,some (bC (s.length+1) a))] ?_ ⟨0,?_,rfl,?_,?_⟩ ?_
    ·exact iA Ir rfl rfl
    ·rfl
    ·omega
    ·omega
    rintro m2 xs o ⟨k,rfl,rfl,rfl,hk⟩;refine vK1 ?_;refine AW.c (fun h=>?_) fun h=>?_
    ·refine vX1 ?_;exact ⟨_,[_,_],_,Ir,⟨k+1,rfl,rfl,rfl,Ir⟩,by rw [Jn,rN];rfl,iA Ir rfl rfl⟩
    ·refine AW.imp (Imp.fold 12 (b:=b2) (len:=s.length+1) (sz:=1) (cells:=bC (s.length+1) (orB a (ends s (at_ ks 0) a))) (l:=bC (s.length+1) (orB a (ends s (at_ ks 0) a))) gO gO (dx _ _) (by rw [iv,Nat.mul_one,fD]) (eP _ _) ?_)
     try simp (maxSteps:=2000000) (disch:=omega) only [go_sem]
     (refine vU2 ?_ ?_<;>intro h)
     ·obtain rfl:k=s.length+1:=by omega
      have h':=h.resolve_right baa;rw [<- hR,Gn h',jz (JD h')]
     ·obtain rfl:k=s.length+1:=by omega
      obtain ⟨j,rfl,e1,e2⟩:=DE h.1 hm;exact ⟨j,[_],[],Ir,⟨_,rfl,rfl,by rw [<- e1];exact hR,e2⟩,rfl,trivial⟩
   ·rw [uh hk1];refine AW.aw [7] [1,3] (fun m xs o=>xs=[.sl true 1 (bC (s.length+1) f)]/\o=[]) 0 [] trivial ⟨?_,rfl⟩ ?_
    ·rfl
    rintro m xs o ⟨rfl,rfl⟩
    all_goals exact uU
  by_cases h5:op=5
  ·subst h5;rw [jq,if_neg baa,if_neg baa,if_neg baa,if_pos baa]
   (refine vX1 ?_;intro h h h h h h)
   rename_i b g1 g2 g3 g4;refine AW.imp (Imp.fold 7 (b:=b) (len:=s.length+1) (sz:=1) (cells:=bC (s.length+1) (f)) (l:=bC (s.length+1) (f)) gO gO (dx _ _) (by rw [iv,Nat.mul_one,fD]) (eP _ _) ?_)
   try simp (maxSteps:=2000000) (disch:=omega) only [go_sem]
   by_cases hk1:ks.length=1
   ·rw [ru hk1,if_neg baa];refine AW.aw [7] [1,3] (fun m xs o=>∃ a:Nat->Bool,xs=[.sl true 1 (bC (s.length+1) a)]/\o=[]/\a=f) (0) [] trivial ⟨f,?_,rfl,rfl⟩ ?_
    ·rfl
    rintro m xs o ⟨a,rfl,rfl,rfl⟩
    (refine vX1 ?_;intro h)
    refine AW.imp (Imp.unfold 7 (sz:=1) (l:=bC (s.length+1) a) gO (EM _ _) (eP _ _) fun b1 hb1=>?_);refine AW.imp (Imp.unfold 12 (sz:=1) (l:=bC (s.length+1) (orB a (ends s (at_ ks 0) a))) gO (EM _ _) (eP _ _) fun b2 hb2=>?_);have hb2:=hb2.nf;refine gS ?_;simp only [go_sem] at hb2;refine AW.aw [13,14] [1,3,7,12] (fun m xs o=>∃ k:Nat,xs=[.ac (grew k (ends s (at_ ks 0) a) a),.aa k]/\o=[(b2,some (bC (s.length+1) (orB a (ends s (at_ ks 0) a)))),(b1,some (bC (s.length+1) a))]/\m=s.length+1 - k/\k<=s.length+1) (s.length+1) [(b2,some (bC (s.length+1) (orB a (ends s (at_ ks 0) a)))),(b1,some (bC (s.length+1) a))] ?_ ⟨0,?_,rfl,?_,?_⟩ ?_
    ·exact iA Ir rfl rfl
    ·rfl
    ·omega
    ·omega
    rintro m2 xs o ⟨k,rfl,rfl,rfl,hk⟩;refine vK1 ?_;refine AW.c (fun h=>?_) fun h=>?_
    ·refine vX1 ?_;exact ⟨_,[_,_],_,Ir,⟨k+1,rfl,rfl,rfl,Ir⟩,by rw [Jn,rN];rfl,iA Ir rfl rfl⟩
    ·refine AW.imp (Imp.fold 12 (b:=b2) (len:=s.length+1) (sz:=1) (cells:=bC (s.length+1) (orB a (ends s (at_ ks 0) a))) (l:=bC (s.length+1) (orB a (ends s (at_ ks 0) a))) gO gO (dx _ _) (by rw [iv,Nat.mul_one,fD]) (eP _ _) ?_)
     try simp (maxSteps:=2000000) (disch:=omega) only [go_sem]
     all_goals exact uU
   ·rw [uh hk1];refine AW.aw [7] [1,3] (fun m xs o=>xs=[.sl true 1 (bC (s.length+1) f)]/\o=[]) 0 [] trivial ⟨?_,rfl⟩ ?_
    ·rfl
    rintro m xs o ⟨rfl,rfl⟩
    all_goals exact uU
  rw [jq,if_neg h1,if_neg h2,if_neg h3,if_neg Ir]
  (refine vX1 ?_;intro h h h h h h)
  rename_i b g1 g2 g3 g4;refine AW.ret (EndsG.imp (Imp.fold 6 (b:=b) (len:=s.length+1) (sz:=1) (cells:=bC (s.length+1) (fun _=>false)) (l:=bC (s.length+1) (fun _=>false)) gO gO (dx _ _) (by rw [iv,Nat.mul_one,fD]) (eP _ _) ?_));refine EndsG.fin rfl ?_;exact gO
theorem MH(op:Int)(t:Str)(ks:List bk)(s:Str)(f:Nat->Bool):Ctr lim prog 338 [] [.agg [.aa op,.str t,.sl false 3 (ks.map bM)],.str s,.sl false 1 (bC (s.length+1) f)] (.sl true 1 (bC (s.length+1) (ends s (.mk op t ks) f))) [] (s.length<=1048576):=⟨(aU 338),fun h=>(Dp (nF ks+1) op t ks s f).out ⟨Ir,h⟩⟩
theorem Pz(op:Int)(t:Str)(ks:List bk)(s:Str)(f:Nat->Bool):Ctr lim prog 330 [] [.agg [.aa op,.str t,.sl false 3 (ks.map bM)],.str s,.sl false 1 (bC (s.length+1) f)] (.sl true 1 (bC (s.length+1) (ends s (.mk op t ks) f))) [] (s.length<=1048576):=⟨(aU 330),fun h=>(Gk (nF ks+1) op t ks s f).out ⟨Ir,h⟩⟩
end
end Go.Proofs
namespace Go.Dt
open Go.Ab
def KG(p s:Str):Bool:=(eu p).2 && Pk (eu p).1 s
end Go.Dt
namespace Go.Proofs
open Go.Ab Go.Dt
attribute [local go_sem] bk.eta
instance aaC(op:Int)(t:Str)(ks:List bk)(s:Str)(f:Nat->Bool):iM lim prog 338 [.agg [.aa op,.str t,.sl false 3 (ks.map bM)],.str s,.sl false 1 (bC (s.length+1) f)] (.sl false 1 (bC (s.length+1) (ends s (.mk op t ks) f))) (s.length<=1048576) :=
 ⟨(aU 338),fun h=>by
  have:=((MH op t ks s f).pure h).frz
  simpa only [AV.frz,Oi,cond_true] using this⟩
instance acp(op:Int)(t:Str)(ks:List bk)(s:Str)(f:Nat->Bool):iM lim prog 330 [.agg [.aa op,.str t,.sl false 3 (ks.map bM)],.str s,.sl false 1 (bC (s.length+1) f)] (.sl false 1 (bC (s.length+1) (ends s (.mk op t ks) f))) (s.length<=1048576) :=
 ⟨(aU 330),fun h=>by
  have:=((Pz op t ks s f).pure h).frz
  simpa only [AV.frz,Oi,cond_true] using this⟩
instance Q2(x:bk)(s:Str):Ctr lim prog 319 [] [.agg [.aa x.fOp,.str x.bI,.sl false 3 (x.af.map bM)],.str s] (.ac (Pk x s)) [] (s.length<=1048576):=by
 refine Ctr.bd func319 ntmps319 fun hp=>?_;refine vN1 ?_;refine Z ?_;refine vN1 ?_;refine Z ?_
 (refine vN1 ?_;intro h)
 refine Z ?_;refine vN1 ?_;refine AW.imp (Imp.fold 5 (b:=h) (len:=s.length+1) (sz:=1) (cells:=bC (s.length+1) (fun c=>if c=0 then true else false)) (l:=bC (s.length+1) (fun c=>if c=0 then true else false)) gO gO (dx _ _) (by rw [iv,Nat.mul_one,fD]) (eP _ _) ?_)
 try simp (maxSteps:=2000000) (disch:=omega) only [go_sem]
 refine vU1 ?_;rfl
instance QW(x:bk)(s:Str):Ctr lim prog 305 [] [.agg [.aa x.fOp,.str x.bI,.sl false 3 (x.af.map bM)],.str s] (.ac (Pk x s)) [] (s.length<=1048576):=by
 refine Ctr.bd func305 ntmps305 fun hp=>?_;refine vN1 ?_;refine Z ?_;refine vN1 ?_;refine Z ?_
 (refine vN1 ?_;intro h)
 refine Z ?_;refine vN1 ?_;refine AW.imp (Imp.fold 5 (b:=h) (len:=s.length+1) (sz:=1) (cells:=bC (s.length+1) (fun c=>if c=0 then true else false)) (l:=bC (s.length+1) (fun c=>if c=0 then true else false)) gO gO (dx _ _) (by rw [iv,Nat.mul_one,fD]) (eP _ _) ?_)
 try simp (maxSteps:=2000000) (disch:=omega) only [go_sem]
 refine vU1 ?_;rfl
instance VU(p s:Str):Ctr lim prog 283 [] [.str p,.str s] (.ac (KG p s)) [] (s.length<=1048576):=by
 refine Ctr.bd func283 ntmps283 fun hp=>?_
 (refine vU1 ?_;intro h)
 rfl
instance UX(p s:Str):Ctr lim prog 265 [] [.str p,.str s] (.ac (KG p s)) [] (s.length<=1048576):=by
 refine Ctr.bd func265 ntmps265 fun hp=>?_
 (refine vU1 ?_;intro h)
 rfl
end Go.Proofs
namespace Go.Dt
open Go.Ab
def xz:Str:=[116,114,117,101]
def tM:Str:=[102,97,108,115,101]
def vo(s:Str):Str:=if s=[49] then xz else if s=[48] then tM else s
def cvO(mt:Str->Str->Bool)(x:cT)(s:Str):Bool :=
 if x.aj=1 then gD s && wJ x.aP (eH s)
 else if x.aj=2 then isText s && wJ x.aP s.length && (decide (x.ba=[]) || mt x.ba s)
 else if x.aj=3 then vo s == xz || vo s == tM
 else if x.aj=4 then cont x.aF s
 else if x.aj=5 then !decide (s=[]) && isText s
 else if x.aj=6 then decide (s=[]) else false
def cvT(x:cT)(s:Str):Str:=if x.aj=1 then Lib.itoa (eH s) else if x.aj=3 then vo s else s
end Go.Dt
