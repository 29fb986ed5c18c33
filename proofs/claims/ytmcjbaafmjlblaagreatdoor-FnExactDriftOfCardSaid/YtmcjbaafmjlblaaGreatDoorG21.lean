/-
  Part of a proof: Nu2, Pm1, Pm2, Pm3, Cv0, Mk0, AbFit2, AbLaw.
-/
import Derived.Test.YtmcjbaafmjlblaaGreatDoorG2
import Derived.Test.YtmcjbaafmjlblaaGreatDoorG3
import Derived.Test.YtmcjbaafmjlblaaGreatDoorG6
import Derived.Test.YtmcjbaafmjlblaaGreatDoorG9
import Derived.Test.YtmcjbaafmjlblaaGreatDoorG17
import Derived.Test.YtmcjbaafmjlblaaGreatDoorG18
import Derived.Test.YtmcjbaafmjlblaaGreatDoorG19
import Derived.Test.YtmcjbaafmjlblaaGreatDoorG20
set_option linter.unusedSimpArgs false
set_option linter.unusedVariables false
namespace Go.Proofs.YtmcjbaafmjlblaaGreatDoor
open Go.Ab Go.Dt
set_option maxRecDepth 20000
set_option maxHeartbeats 1000000
instance itoa_i(n:Int):Ctr lim Tryz.prog 265 [] [.v (.int .i64 n)] (.str (Lib.itoa n)) [] (-9223372036854775808≤n∧n≤9223372036854775807) :=
 Ctr.of_pure en265 fun hp=>itoa_pure (fun w ht=>tabIs (g:=0) (by kernel_rfl) (by decide) rfl ht) hp.1 hp.2 fun w hT=>Any.strconv_Itoa Tryz.lays171 n hp.1 hp.2 w hT
instance iFormatInt_i(n:Int):Ctr lim Tryz.prog 248 [] [.v (.int .i64 n)] (.str (Lib.itoa n)) [] (-9223372036854775808≤n∧n≤9223372036854775807):=by
 refine Ctr.of_body en248 Tryz.func248 rfl rfl fun hp=>(?_);rw [Tryz.ntmps248]
 all_goals exact uU
theorem PureC.call1{L:Nat→Nat}{f:FuncId}{args:List AV}{vs0:List Value}{res:AV}{v:Value}(ha:∀ F w vs,RepL L F w args vs []→vs=vs0)(hr:∀ F w,Rep L F w res v [])(h:∀ w,Calls Tryz.prog f vs0.toArray w fun e w'=>e=.returned v∧w'=w):PureC L Tryz.prog f args res:=by
 intro w F vs hF ht hv
 obtain rfl:=ha F w vs hv
 refine (h w).mono ?_
 rintro e w' ⟨rfl,rfl⟩
 exact ⟨_,F,[],rfl,Go.RowKit.Below.refl _ _,fun _ h=>h,fun b h=>.inl h,hr F _,by simp,by simp⟩
instance indexByte_i(L:Nat→Nat)(s:Str)(c:Int):Ctr L Tryz.prog 294 [] [.str s,.v (.int .u8 c)] (.v (.int .i64 (Lib.indexByte s (UInt8.ofNat c.toNat)))) [] True :=
 Ctr.of_pure en294 fun _=>PureC.call1 (vs0:=[.string ⟨s.toArray⟩,.int .u8 c]) (v:=.int .i64 (Lib.indexByte s (UInt8.ofNat c.toNat))) (fun F w vs h=>by
  simp only [RepL,Rep] at h
  obtain ⟨y,vs',f1,f2,rfl,_,⟨rfl,_⟩,y2,vs2,f3,f4,rfl,_,⟨rfl,_⟩,rfl,_⟩:=h
  rfl) (fun F w=>by simp [Rep]) fun w=>by
  have h:=Any.strings_IndexByte Tryz.lays137 ⟨s.toArray⟩ c w
  exact h
end Go.Proofs.YtmcjbaafmjlblaaGreatDoor
namespace Go.Proofs.YtmcjbaafmjlblaaGreatDoor
open Go.Ab Go.Dt
set_option maxRecDepth 20000
set_option maxHeartbeats 4000000
attribute [local go_sem] GPat.eta
instance joinSets_i(n:Nat)(a g:Nat→Bool):BCtr lim Tryz.prog 295 1 (bC n a) [.sl false 1 (bC n g)] (.v (.bool (grew n g a))) (bC n (orB a g)) (0<n∧n≤4611686018427387904):=by
 refine BCtr.of en295 (fun b=>?_) (fun e=>?_) (by simp [bC_len]) (bC_elm _ _) (bC_elm _ _)
 ·simp only [bC_len,bC_fl]
  refine Ctr.of_body en295 Tryz.func295 rfl rfl fun hp=>(?_);rw [Tryz.ntmps295]
  (refine vU ?_;with_reducible repeat' first|exact Le.l|refine Sw ?_ ?_|intro (K:_→_→Prop) hK|intro h)
  refine AW.loopV [5,9] [0,1,8] (fun m xs o=>∃ k:Nat,xs=[.v (.bool (grew k g a)),.v (.int .i64 k)]∧o=[(b,some (bC n (joK a g k)))]∧m=n - k∧k≤n) n [(b,some (bC n a))] (subO_one rfl) ⟨0,rfl,?_,rfl,?_⟩ ?_
  ·rw [joK_zero]
  ·omega
  rintro m xs o ⟨k,rfl,rfl,rfl,hk⟩
  (refine vU ?_;with_reducible repeat' first|exact Le.l|refine Sw ?_ ?_|intro (K:_→_→Prop) hK|intro h)
  ·rw [joK_at] at h
   refine ⟨_,[_,_],_,by omega,⟨k+1,rfl,rfl,rfl,by omega⟩,by rw [grew_step,h.1,h.2,Bool.not_false,Bool.and_self,Bool.or_true];rfl,subO_one ?_⟩
   rw [joK_set h.1]
  ·rw [joK_at] at h
   refine ⟨_,[_,_],_,by omega,⟨k+1,rfl,rfl,rfl,by omega⟩,?_,subO_one ?_⟩
   ·rw [grew_step]
    cases h1:g k with
    | false=>rw [Bool.false_and,Bool.or_false];rfl
    | true=>rw [h h1,Bool.not_true,Bool.and_false,Bool.or_false];rfl
   ·rw [joK_same h]
  ·rw [show k=n by omega]
  ·rw [joK_end n a g h]
 ·have e0:n=0:=by have:=congrArg List.length e;simpa [bC_len] using this
  subst e0
  exact ⟨⟨en295,fun hp=>absurd hp.1 (by omega)⟩,rfl⟩
theorem patEnds_n:∀ (n:Nat) (op:Int) (t:Str) (ks:List GPat) (s:Str) (f:Nat→Bool),Ctr lim Tryz.prog 284 [] [.agg [.v (.int .i64 op),.str t,.sl false 3 (ks.map encPat)],.str s,.sl false 1 (bC (s.length+1) f)] (.sl true 1 (bC (s.length+1) (ends s (.mk op t ks) f))) [] (pszL ks<n∧s.length≤1048576)
 | 0,op,t,ks,s,f=>⟨en284,fun h=>absurd h.1 (Nat.not_lt_zero _)⟩
 | n+1,op,t,ks,s,f=>by
  have ih:=patEnds_n n
  refine Ctr.of_body en284 Tryz.func284 rfl rfl fun hp=>(?_);rw [Tryz.ntmps284]
  have hls:=hp.2
  have hq:=fun k=>psz_at (l:=ks) (k:=k)
  have hq2:=fun k=>psz_eq (at_ ks k)
  by_cases h1:op=1
  ·subst h1
   rw [ends_eq,if_pos rfl]
   (refine vX ?_;with_reducible repeat' first|exact Le.l|refine Sw ?_ ?_|intro (K:_→_→Prop) hK|intro h)
   rename_i b
   refine AW.loopV [8] [1,2,3,7] (fun m xs o=>∃ k:Nat,xs=[.v (.int .i64 k)]∧o=[(b,some (bC (s.length+1) (chK t s f k)))]∧m=s.length - k∧k≤s.length) s.length [(b,some (bC (s.length+1) (chK t s f 0)))] (subO_one (chK_zero _ _ _ _).symm) ⟨0,?_,rfl,rfl,?_⟩ ?_
   ·rfl
   ·omega
   rintro m xs o ⟨k,rfl,rfl,rfl,hk⟩
   (refine vX ?_;with_reducible repeat' first|exact Le.l|refine Sw ?_ ?_|intro (K:_→_→Prop) hK|intro h)
   ·exact ⟨_,[_],_,by omega,⟨k+1,rfl,rfl,rfl,by omega⟩,rfl,subO_one (chK_set (by rw [at8_byte])).symm⟩
   ·rw [chK_end (by omega)]
    refine AW.ret (EndsG.imp (Imp.fold 6 (b:=b) (len:=s.length+1) (sz:=1) (cells:=bC (s.length+1) (chE t s f)) (l:=bC (s.length+1) (chE t s f)) gO gO (bC_len _ _) (by rw [bC_fl,Nat.mul_one,bC_take]) (bC_elm _ _) ?_))
    refine EndsG.fin rfl ?_
    simp (maxSteps:=2000000) (disch:=omega) only [go_sem]
  by_cases h2:op=2
  ·subst h2
   rw [ends_eq,if_neg (by decide),if_pos rfl]
   (refine vX ?_;with_reducible repeat' first|exact Le.l|refine Sw ?_ ?_|intro (K:_→_→Prop) hK|intro h)
   rename_i b g1
   refine AW.imp (Imp.fold 7 (b:=b) (len:=s.length+1) (sz:=1) (cells:=bC (s.length+1) (f)) (l:=bC (s.length+1) (f)) gO gO (bC_len _ _) (by rw [bC_fl,Nat.mul_one,bC_take]) (bC_elm _ _) ?_)
   try simp (maxSteps:=2000000) (disch:=omega) only [go_sem]
   refine AW.fact 50 fun hf=>?_
   simp (disch:=omega) only [go_sem,Nat.reduceBEq] at hf
   refine AW.loopV [7,52] [1,50,51] (fun m xs o=>∃ (k:Nat) (a:Nat→Bool),xs=[.sl true 1 (bC (s.length+1) a),.v (.int .i64 k)]∧o=[]∧m=ks.length - k∧k≤ks.length∧seqE s (ks.drop k) a=seqE s ks f) ks.length [] trivial ⟨0,f,?_,rfl,rfl,?_,rfl⟩ ?_
   ·rfl
   ·omega
   rintro m xs o ⟨k,a,rfl,rfl,rfl,hk,hR⟩
   have hqk:=hq k
   have hqk2:=hq2 k
   (refine vU ?_;with_reducible repeat' first|exact Le.l|refine Sw ?_ ?_|intro (K:_→_→Prop) hK|intro h)
   ·exact ⟨_,[_,_],[],by omega,⟨k+1,_,rfl,rfl,rfl,by omega,by rw [← hR,seqE_step (k:=k) (by assumption)]⟩,rfl,trivial⟩
   ·rw [← hR,seqE_end h]
  by_cases h3:op=3
  ·subst h3
   rw [ends_eq,if_neg (by decide),if_neg (by decide),if_pos rfl]
   (refine vX ?_;with_reducible repeat' first|exact Le.l|refine Sw ?_ ?_|intro (K:_→_→Prop) hK|intro h)
   rename_i b g1 g2
   refine AW.imp (Imp.fold 7 (b:=b) (len:=s.length+1) (sz:=1) (cells:=bC (s.length+1) (fun _=>false)) (l:=bC (s.length+1) (fun _=>false)) gO gO (bC_len _ _) (by rw [bC_fl,Nat.mul_one,bC_take]) (bC_elm _ _) ?_)
   try simp (maxSteps:=2000000) (disch:=omega) only [go_sem]
   refine AW.fact 64 fun hf=>?_
   simp (disch:=omega) only [go_sem,Nat.reduceBEq] at hf
   refine AW.loopV [7,66] [1,2,64,65] (fun m xs o=>∃ (k:Nat) (a:Nat→Bool),xs=[.sl true 1 (bC (s.length+1) a),.v (.int .i64 k)]∧o=[]∧m=ks.length - k∧k≤ks.length∧altE s (ks.drop k) f a=altE s ks f (fun _=>false)) ks.length [] trivial ⟨0,_,?_,rfl,rfl,?_,rfl⟩ ?_
   ·rfl
   ·omega
   rintro m xs o ⟨k,a,rfl,rfl,rfl,hk,hR⟩
   have hqk:=hq k
   have hqk2:=hq2 k
   (refine vU ?_;with_reducible repeat' first|exact Le.l|refine Sw ?_ ?_|intro (K:_→_→Prop) hK|intro h)
   ·exact ⟨_,[_,_],[],by omega,⟨k+1,_,rfl,rfl,rfl,by omega,by rw [← hR,altE_step (k:=k) (by assumption)]⟩,rfl,trivial⟩
   ·rw [← hR,altE_end h]
  have hq0:=hq 0
  have hq20:=hq2 0
  by_cases h4:op=4
  ·subst h4
   rw [ends_eq,if_neg (by decide),if_neg (by decide),if_neg (by decide),if_pos (by decide)]
   (refine vX ?_;with_reducible repeat' first|exact Le.l|refine Sw ?_ ?_|intro (K:_→_→Prop) hK|intro h)
   ·rename_i b g1 g2 g3 g4 g5
    rw [starE_no (by omega)]
    refine AW.ret (EndsG.imp (Imp.fold 6 (b:=b) (len:=s.length+1) (sz:=1) (cells:=bC (s.length+1) (f)) (l:=bC (s.length+1) (f)) gO gO (bC_len _ _) (by rw [bC_fl,Nat.mul_one,bC_take]) (bC_elm _ _) ?_))
    refine EndsG.fin rfl ?_
    simp (maxSteps:=2000000) (disch:=omega) only [go_sem]
   ·rename_i b g1 g2 g3 g4 g5
    rw [starE_one (by omega),if_pos rfl]
    refine AW.imp (Imp.fold 7 (b:=b) (len:=s.length+1) (sz:=1) (cells:=bC (s.length+1) (f)) (l:=bC (s.length+1) (f)) gO gO (bC_len _ _) (by rw [bC_fl,Nat.mul_one,bC_take]) (bC_elm _ _) ?_)
    try simp (maxSteps:=2000000) (disch:=omega) only [go_sem]
    refine AW.loopV [7] [1,3] (fun m xs o=>∃ a:Nat→Bool,xs=[.sl true 1 (bC (s.length+1) a)]∧o=[]∧iter (s.length+1) (ends s (at_ ks 0)) m a=iter (s.length+1) (ends s (at_ ks 0)) (s.length+1) f∧cntF a (s.length+1)≤m) (s.length+1) [] trivial ⟨f,?_,rfl,rfl,cntF_le _ _⟩ ?_
    ·rfl
    rintro m xs o ⟨a,rfl,rfl,hR,hm⟩
    (refine vU ?_;with_reducible repeat' first|exact Le.l|refine Sw ?_ ?_|intro (K:_→_→Prop) hK|intro h)
    ·obtain ⟨j,rfl,e1,e2⟩:=iter_more h hm
     exact ⟨j,[_],[],by omega,⟨_,rfl,rfl,by rw [← e1];exact hR,e2⟩,rfl,trivial⟩
    ·rw [← hR,iter_end h,bC_ext (grew_no h)]
  by_cases h5:op=5
  ·subst h5
   rw [ends_eq,if_neg (by decide),if_neg (by decide),if_neg (by decide),if_pos (by decide)]
   (refine vX ?_;with_reducible repeat' first|exact Le.l|refine Sw ?_ ?_|intro (K:_→_→Prop) hK|intro h)
   ·rename_i b g1 g2 g3 g4 g5
    rw [starE_no (by omega)]
    refine AW.ret (EndsG.imp (Imp.fold 6 (b:=b) (len:=s.length+1) (sz:=1) (cells:=bC (s.length+1) (f)) (l:=bC (s.length+1) (f)) gO gO (bC_len _ _) (by rw [bC_fl,Nat.mul_one,bC_take]) (bC_elm _ _) ?_))
    refine EndsG.fin rfl ?_
    simp (maxSteps:=2000000) (disch:=omega) only [go_sem]
   ·rename_i b g1 g2 g3 g4 g5
    rw [starE_one (by omega),if_neg (by decide)]
    refine AW.imp (Imp.fold 7 (b:=b) (len:=s.length+1) (sz:=1) (cells:=bC (s.length+1) (f)) (l:=bC (s.length+1) (f)) gO gO (bC_len _ _) (by rw [bC_fl,Nat.mul_one,bC_take]) (bC_elm _ _) ?_)
    try simp (maxSteps:=2000000) (disch:=omega) only [go_sem]
    refine AW.loopV [7] [1,3] (fun m xs o=>xs=[.sl true 1 (bC (s.length+1) f)]∧o=[]) 0 [] trivial ⟨?_,rfl⟩ ?_
    ·rfl
    rintro m xs o ⟨rfl,rfl⟩
    all_goals exact uU
  rw [ends_eq,if_neg h1,if_neg h2,if_neg h3,if_neg (by omega)]
  (refine vX ?_;with_reducible repeat' first|exact Le.l|refine Sw ?_ ?_|intro (K:_→_→Prop) hK|intro h)
  rename_i b g1 g2 g3 g4
  refine AW.ret (EndsG.imp (Imp.fold 6 (b:=b) (len:=s.length+1) (sz:=1) (cells:=bC (s.length+1) (fun _=>false)) (l:=bC (s.length+1) (fun _=>false)) gO gO (bC_len _ _) (by rw [bC_fl,Nat.mul_one,bC_take]) (bC_elm _ _) ?_))
  refine EndsG.fin rfl ?_
  simp (maxSteps:=2000000) (disch:=omega) only [go_sem]
end Go.Proofs.YtmcjbaafmjlblaaGreatDoor
namespace Go.Proofs.YtmcjbaafmjlblaaGreatDoor
open Go.Ab Go.Dt
set_option maxRecDepth 20000
set_option maxHeartbeats 4000000
attribute [local go_sem] GPat.eta
instance l5Both_i(n:Nat)(a g:Nat→Bool):Ctr lim Tryz.prog 290 [] [.sl false 1 (bC n a),.sl false 1 (bC n g)] (.sl true 1 (bC n (orB a g))) [] (n≤1099511627776):=by
 refine Ctr.of_body en290 Tryz.func290 rfl rfl fun hp=>(?_);rw [Tryz.ntmps290]
 (refine vX ?_;with_reducible repeat' first|exact Le.l|refine Sw ?_ ?_|intro h)
 obtain ⟨b,rfl⟩:∃ b,b=h:=⟨_,rfl⟩
 refine AW.loopV [6] [0,1,5] (fun m xs o=>∃ k:Nat,xs=[.v (.int .i64 k)]∧o=[(b,some (bC n (boK a g k)))]∧m=n - k∧k≤n) n [(b,some (bC n (boK a g 0)))] (subO_one (boK_zero _ _ _).symm) ⟨0,?_,rfl,rfl,?_⟩ ?_
 ·rfl
 ·omega
 rintro m xs o ⟨k,rfl,rfl,rfl,hk⟩
 (refine vX ?_;with_reducible repeat' first|exact Le.l|refine Sw ?_ ?_|intro h)
 ·exact ⟨_,[_],_,by omega,⟨k+1,rfl,rfl,rfl,by omega⟩,rfl,subO_one (boK_set rfl).symm⟩
 ·rw [boK_end (by omega)]
  refine AW.ret (EndsG.imp (Imp.fold 4 (b:=b) (len:=n) (sz:=1) (cells:=bC n (orB a g)) (l:=bC n (orB a g)) gO gO (bC_len _ _) (by rw [bC_fl,Nat.mul_one,bC_take]) (bC_elm _ _) ?_))
  refine EndsG.fin rfl ?_
  simp (maxSteps:=2000000) (disch:=omega) only [go_sem]
theorem l5Ends_n:∀ (n:Nat) (op:Int) (t:Str) (ks:List GPat) (s:Str) (f:Nat→Bool),Ctr lim Tryz.prog 278 [] [.agg [.v (.int .i64 op),.str t,.sl false 3 (ks.map encPat)],.str s,.sl false 1 (bC (s.length+1) f)] (.sl true 1 (bC (s.length+1) (ends s (.mk op t ks) f))) [] (pszL ks<n∧s.length≤1048576)
 | 0,op,t,ks,s,f=>⟨en278,fun h=>absurd h.1 (Nat.not_lt_zero _)⟩
 | n+1,op,t,ks,s,f=>by
  have ih:=l5Ends_n n
  refine Ctr.of_body en278 Tryz.func278 rfl rfl fun hp=>(?_);rw [Tryz.ntmps278]
  have hls:=hp.2
  have hq:=fun k=>psz_at (l:=ks) (k:=k)
  have hq2:=fun k=>psz_eq (at_ ks k)
  by_cases h1:op=1
  ·subst h1
   rw [ends_eq,if_pos rfl]
   (refine vX ?_;with_reducible repeat' first|exact Le.l|refine Sw ?_ ?_|intro h)
   rename_i b
   refine AW.fact 3 fun hf=>?_
   simp (disch:=omega) only [go_sem,Nat.reduceBEq] at hf
   refine AW.loopV [8] [1,2,3,7] (fun m xs o=>∃ k:Nat,xs=[.v (.int .i64 k)]∧o=[(b,some (bC (s.length+1) (chK t s f k)))]∧m=s.length - k∧k≤s.length) s.length [(b,some (bC (s.length+1) (chK t s f 0)))] (subO_one (chK_zero _ _ _ _).symm) ⟨0,?_,rfl,rfl,?_⟩ ?_
   ·rfl
   ·omega
   rintro m xs o ⟨i,rfl,rfl,rfl,hi⟩
   (refine vX ?_;with_reducible repeat' first|exact Le.l|refine Sw ?_ ?_|intro h)
   ·rename_i hi2
    refine AW.loopV [9] [1,2,3,7,8] (fun m xs o=>∃ k:Nat,xs=[.v (.int .i64 k)]∧o=[(b,some (bC (s.length+1) (innK t s f i k)))]∧m=t.length - k∧k≤t.length) t.length [(b,some (bC (s.length+1) (innK t s f i 0)))] (subO_one (innK_zero _ _ _ _ _).symm) ⟨0,?_,rfl,rfl,?_⟩ ?_
    ·rfl
    ·omega
    rintro m xs o ⟨k,rfl,rfl,rfl,hk⟩
    (refine vX ?_;with_reducible repeat' first|exact Le.l|refine Sw ?_ ?_|intro h)
    ·exact ⟨_,[_],_,by omega,⟨k+1,rfl,rfl,rfl,by omega⟩,rfl,subO_one (innK_set (by rw [innK_at,at8_eqB,inK_step h.1 h.2])).symm⟩
    ·refine ⟨_,[_],_,by omega,⟨i+1,rfl,rfl,rfl,by omega⟩,rfl,subO_one ?_⟩
     rw [← chK_set (inK_end h)];rfl
   ·rw [chK_end (by omega)]
    refine AW.ret (EndsG.imp (Imp.fold 6 (b:=b) (len:=s.length+1) (sz:=1) (cells:=bC (s.length+1) (chE t s f)) (l:=bC (s.length+1) (chE t s f)) gO gO (bC_len _ _) (by rw [bC_fl,Nat.mul_one,bC_take]) (bC_elm _ _) ?_))
    refine EndsG.fin rfl ?_
    simp (maxSteps:=2000000) (disch:=omega) only [go_sem]
  by_cases h2:op=2
  ·subst h2
   rw [ends_eq,if_neg (by decide),if_pos rfl]
   (refine vX ?_;with_reducible repeat' first|exact Le.l|refine Sw ?_ ?_|intro h)
   rename_i b g1
   refine AW.imp (Imp.fold 7 (b:=b) (len:=s.length+1) (sz:=1) (cells:=bC (s.length+1) (f)) (l:=bC (s.length+1) (f)) gO gO (bC_len _ _) (by rw [bC_fl,Nat.mul_one,bC_take]) (bC_elm _ _) ?_)
   try simp (maxSteps:=2000000) (disch:=omega) only [go_sem]
   refine AW.fact 3 fun hf=>?_
   simp (disch:=omega) only [go_sem,Nat.reduceBEq] at hf
   refine AW.loopV [7,10] [1,3] (fun m xs o=>∃ (k:Nat) (a:Nat→Bool),xs=[.sl true 1 (bC (s.length+1) a),.v (.int .i64 k)]∧o=[]∧m=ks.length - k∧k≤ks.length∧seqE s (ks.drop k) a=seqE s ks f) ks.length [] trivial ⟨0,f,?_,rfl,rfl,?_,rfl⟩ ?_
   ·rfl
   ·omega
   rintro m xs o ⟨k,a,rfl,rfl,rfl,hk,hR⟩
   have hqk:=hq k
   have hqk2:=hq2 k
   (refine vU ?_;with_reducible repeat' first|exact Le.l|refine Sw ?_ ?_|intro h)
   ·exact ⟨_,[_,_],[],by omega,⟨k+1,_,rfl,rfl,rfl,by omega,by rw [← hR,seqE_step (k:=k) (by assumption)]⟩,rfl,trivial⟩
   ·rw [← hR,seqE_end h]
  by_cases h3:op=3
  ·subst h3
   rw [ends_eq,if_neg (by decide),if_neg (by decide),if_pos rfl]
   (refine vX ?_;with_reducible repeat' first|exact Le.l|refine Sw ?_ ?_|intro h)
   rename_i b g1 g2
   refine AW.imp (Imp.fold 7 (b:=b) (len:=s.length+1) (sz:=1) (cells:=bC (s.length+1) (fun _=>false)) (l:=bC (s.length+1) (fun _=>false)) gO gO (bC_len _ _) (by rw [bC_fl,Nat.mul_one,bC_take]) (bC_elm _ _) ?_)
   try simp (maxSteps:=2000000) (disch:=omega) only [go_sem]
   refine AW.fact 3 fun hf=>?_
   simp (disch:=omega) only [go_sem,Nat.reduceBEq] at hf
   refine AW.loopV [7,11] [1,2,3] (fun m xs o=>∃ (k:Nat) (a:Nat→Bool),xs=[.sl true 1 (bC (s.length+1) a),.v (.int .i64 k)]∧o=[]∧m=ks.length - k∧k≤ks.length∧altE s (ks.drop k) f a=altE s ks f (fun _=>false)) ks.length [] trivial ⟨0,_,?_,rfl,rfl,?_,rfl⟩ ?_
   ·rfl
   ·omega
   rintro m xs o ⟨k,a,rfl,rfl,rfl,hk,hR⟩
   have hqk:=hq k
   have hqk2:=hq2 k
   (refine vU ?_;with_reducible repeat' first|exact Le.l|refine Sw ?_ ?_|intro h)
   ·exact ⟨_,[_,_],[],by omega,⟨k+1,_,rfl,rfl,rfl,by omega,by rw [← hR,altE_step (k:=k) (by assumption)]⟩,rfl,trivial⟩
   ·rw [← hR,altE_end h]
  have hq0:=hq 0
  have hq20:=hq2 0
  by_cases h4:op=4
  ·subst h4
   rw [ends_eq,if_neg (by decide),if_neg (by decide),if_neg (by decide),if_pos (by decide)]
   (refine vX ?_;with_reducible repeat' first|exact Le.l|refine Sw ?_ ?_|intro h)
   rename_i b g1 g2 g3 g4
   refine AW.imp (Imp.fold 7 (b:=b) (len:=s.length+1) (sz:=1) (cells:=bC (s.length+1) (f)) (l:=bC (s.length+1) (f)) gO gO (bC_len _ _) (by rw [bC_fl,Nat.mul_one,bC_take]) (bC_elm _ _) ?_)
   try simp (maxSteps:=2000000) (disch:=omega) only [go_sem]
   by_cases hk1:ks.length=1
   ·rw [starE_one hk1,if_pos rfl]
    refine AW.loopV [7] [1,3] (fun m xs o=>∃ a:Nat→Bool,xs=[.sl true 1 (bC (s.length+1) a)]∧o=[]∧iter (s.length+1) (ends s (at_ ks 0)) m a=iter (s.length+1) (ends s (at_ ks 0)) (s.length+1) f∧cntF a (s.length+1)≤m) (s.length+1) [] trivial ⟨f,?_,rfl,rfl,cntF_le _ _⟩ ?_
    ·rfl
    rintro m xs o ⟨a,rfl,rfl,hR,hm⟩
    (refine vX ?_;with_reducible repeat' first|exact Le.l|refine Sw ?_ ?_|intro h)
    refine AW.imp (Imp.unfold 7 (sz:=1) (l:=bC (s.length+1) a) gO (bC_ne _ _) (bC_elm _ _) fun b1 hb1=>?_)
    refine AW.imp (Imp.unfold 12 (sz:=1) (l:=bC (s.length+1) (orB a (ends s (at_ ks 0) a))) gO (bC_ne _ _) (bC_elm _ _) fun b2 hb2=>?_)
    have hb2:=hb2.nf
    simp (maxSteps:=2000000) (disch:=omega) only [go_sem]
    simp only [go_sem] at hb2
    refine AW.loopV [13,14] [1,3,7,12] (fun m xs o=>∃ k:Nat,xs=[.v (.bool (grew k (ends s (at_ ks 0) a) a)),.v (.int .i64 k)]∧o=[(b2,some (bC (s.length+1) (orB a (ends s (at_ ks 0) a)))),(b1,some (bC (s.length+1) a))]∧m=s.length+1 - k∧k≤s.length+1) (s.length+1) [(b2,some (bC (s.length+1) (orB a (ends s (at_ ks 0) a)))),(b1,some (bC (s.length+1) a))] ?_ ⟨0,?_,rfl,?_,?_⟩ ?_
    ·exact subO_two (by omega) rfl rfl
    ·rfl
    ·omega
    ·omega
    rintro m2 xs o ⟨k,rfl,rfl,rfl,hk⟩
    (refine vK ?_;with_reducible repeat' first|exact Le.l|refine Sw ?_ ?_|intro h)
    (refine AW.i rfl (fun h=>?_) (fun h=>?_)<;>try simp only [hC,reduceCtorEq] at h)
    ·(refine vX ?_;with_reducible repeat' first|exact Le.l|refine Sw ?_ ?_|intro h)
     exact ⟨_,[_,_],_,by omega,⟨k+1,rfl,rfl,rfl,by omega⟩,by rw [ne_grew,grew_step];rfl,subO_two (by omega) rfl rfl⟩
    ·refine AW.imp (Imp.fold 12 (b:=b2) (len:=s.length+1) (sz:=1) (cells:=bC (s.length+1) (orB a (ends s (at_ ks 0) a))) (l:=bC (s.length+1) (orB a (ends s (at_ ks 0) a))) gO gO (bC_len _ _) (by rw [bC_fl,Nat.mul_one,bC_take]) (bC_elm _ _) ?_)
     try simp (maxSteps:=2000000) (disch:=omega) only [go_sem]
     (refine vU ?_;with_reducible repeat' first|exact Le.l|refine Sw ?_ ?_|intro h)
     ·obtain rfl:k=s.length+1:=by omega
      have h':=h.resolve_right (by decide)
      rw [← hR,iter_end h',bC_ext (grew_no h')]
     ·obtain rfl:k=s.length+1:=by omega
      obtain ⟨j,rfl,e1,e2⟩:=iter_more h.1 hm
      exact ⟨j,[_],[],by omega,⟨_,rfl,rfl,by rw [← e1];exact hR,e2⟩,rfl,trivial⟩
   ·rw [starE_no hk1]
    refine AW.loopV [7] [1,3] (fun m xs o=>xs=[.sl true 1 (bC (s.length+1) f)]∧o=[]) 0 [] trivial ⟨?_,rfl⟩ ?_
    ·rfl
    rintro m xs o ⟨rfl,rfl⟩
    all_goals exact uU
  by_cases h5:op=5
  ·subst h5
   rw [ends_eq,if_neg (by decide),if_neg (by decide),if_neg (by decide),if_pos (by decide)]
   (refine vX ?_;with_reducible repeat' first|exact Le.l|refine Sw ?_ ?_|intro h)
   rename_i b g1 g2 g3 g4
   refine AW.imp (Imp.fold 7 (b:=b) (len:=s.length+1) (sz:=1) (cells:=bC (s.length+1) (f)) (l:=bC (s.length+1) (f)) gO gO (bC_len _ _) (by rw [bC_fl,Nat.mul_one,bC_take]) (bC_elm _ _) ?_)
   try simp (maxSteps:=2000000) (disch:=omega) only [go_sem]
   by_cases hk1:ks.length=1
   ·rw [starE_one hk1,if_neg (by decide)]
    refine AW.loopV [7] [1,3] (fun m xs o=>∃ a:Nat→Bool,xs=[.sl true 1 (bC (s.length+1) a)]∧o=[]∧a=f) (0) [] trivial ⟨f,?_,rfl,rfl⟩ ?_
    ·rfl
    rintro m xs o ⟨a,rfl,rfl,rfl⟩
    (refine vX ?_;with_reducible repeat' first|exact Le.l|refine Sw ?_ ?_|intro h)
    refine AW.imp (Imp.unfold 7 (sz:=1) (l:=bC (s.length+1) a) gO (bC_ne _ _) (bC_elm _ _) fun b1 hb1=>?_)
    refine AW.imp (Imp.unfold 12 (sz:=1) (l:=bC (s.length+1) (orB a (ends s (at_ ks 0) a))) gO (bC_ne _ _) (bC_elm _ _) fun b2 hb2=>?_)
    have hb2:=hb2.nf
    simp (maxSteps:=2000000) (disch:=omega) only [go_sem]
    simp only [go_sem] at hb2
    refine AW.loopV [13,14] [1,3,7,12] (fun m xs o=>∃ k:Nat,xs=[.v (.bool (grew k (ends s (at_ ks 0) a) a)),.v (.int .i64 k)]∧o=[(b2,some (bC (s.length+1) (orB a (ends s (at_ ks 0) a)))),(b1,some (bC (s.length+1) a))]∧m=s.length+1 - k∧k≤s.length+1) (s.length+1) [(b2,some (bC (s.length+1) (orB a (ends s (at_ ks 0) a)))),(b1,some (bC (s.length+1) a))] ?_ ⟨0,?_,rfl,?_,?_⟩ ?_
    ·exact subO_two (by omega) rfl rfl
    ·rfl
    ·omega
    ·omega
    rintro m2 xs o ⟨k,rfl,rfl,rfl,hk⟩
    (refine vK ?_;with_reducible repeat' first|exact Le.l|refine Sw ?_ ?_|intro h)
    (refine AW.i rfl (fun h=>?_) (fun h=>?_)<;>try simp only [hC,reduceCtorEq] at h)
    ·(refine vX ?_;with_reducible repeat' first|exact Le.l|refine Sw ?_ ?_|intro h)
     exact ⟨_,[_,_],_,by omega,⟨k+1,rfl,rfl,rfl,by omega⟩,by rw [ne_grew,grew_step];rfl,subO_two (by omega) rfl rfl⟩
    ·refine AW.imp (Imp.fold 12 (b:=b2) (len:=s.length+1) (sz:=1) (cells:=bC (s.length+1) (orB a (ends s (at_ ks 0) a))) (l:=bC (s.length+1) (orB a (ends s (at_ ks 0) a))) gO gO (bC_len _ _) (by rw [bC_fl,Nat.mul_one,bC_take]) (bC_elm _ _) ?_)
     try simp (maxSteps:=2000000) (disch:=omega) only [go_sem]
     all_goals exact uU
   ·rw [starE_no hk1]
    refine AW.loopV [7] [1,3] (fun m xs o=>xs=[.sl true 1 (bC (s.length+1) f)]∧o=[]) 0 [] trivial ⟨?_,rfl⟩ ?_
    ·rfl
    rintro m xs o ⟨rfl,rfl⟩
    all_goals exact uU
  rw [ends_eq,if_neg h1,if_neg h2,if_neg h3,if_neg (by omega)]
  (refine vX ?_;with_reducible repeat' first|exact Le.l|refine Sw ?_ ?_|intro h)
  rename_i b g1 g2 g3 g4
  refine AW.ret (EndsG.imp (Imp.fold 6 (b:=b) (len:=s.length+1) (sz:=1) (cells:=bC (s.length+1) (fun _=>false)) (l:=bC (s.length+1) (fun _=>false)) gO gO (bC_len _ _) (by rw [bC_fl,Nat.mul_one,bC_take]) (bC_elm _ _) ?_))
  refine EndsG.fin rfl ?_
  simp (maxSteps:=2000000) (disch:=omega) only [go_sem]
theorem patEnds_i(op:Int)(t:Str)(ks:List GPat)(s:Str)(f:Nat→Bool):Ctr lim Tryz.prog 284 [] [.agg [.v (.int .i64 op),.str t,.sl false 3 (ks.map encPat)],.str s,.sl false 1 (bC (s.length+1) f)] (.sl true 1 (bC (s.length+1) (ends s (.mk op t ks) f))) [] (s.length≤1048576):=⟨en284,fun h=>(patEnds_n (pszL ks+1) op t ks s f).out ⟨by omega,h⟩⟩
theorem l5Ends_i(op:Int)(t:Str)(ks:List GPat)(s:Str)(f:Nat→Bool):Ctr lim Tryz.prog 278 [] [.agg [.v (.int .i64 op),.str t,.sl false 3 (ks.map encPat)],.str s,.sl false 1 (bC (s.length+1) f)] (.sl true 1 (bC (s.length+1) (ends s (.mk op t ks) f))) [] (s.length≤1048576):=⟨en278,fun h=>(l5Ends_n (pszL ks+1) op t ks s f).out ⟨by omega,h⟩⟩
end Go.Proofs.YtmcjbaafmjlblaaGreatDoor
namespace Go.Dt
open Go.Ab
def mtchT(p s:Str):Bool:=(parsePat p).2 && mtch (parsePat p).1 s
end Go.Dt
namespace Go.Proofs.YtmcjbaafmjlblaaGreatDoor
open Go.Ab Go.Dt
set_option maxRecDepth 20000
set_option maxHeartbeats 4000000
attribute [local go_sem] GPat.eta
instance patEndsF(op:Int)(t:Str)(ks:List GPat)(s:Str)(f:Nat→Bool):FCtr lim Tryz.prog 284 [.agg [.v (.int .i64 op),.str t,.sl false 3 (ks.map encPat)],.str s,.sl false 1 (bC (s.length+1) f)] (.sl false 1 (bC (s.length+1) (ends s (.mk op t ks) f))) (s.length≤1048576) :=
 ⟨en284,fun h=>by
  have:=((patEnds_i op t ks s f).pure h).frz
  simpa only [AV.frz,bC_frz,cond_true] using this⟩
instance l5EndsF(op:Int)(t:Str)(ks:List GPat)(s:Str)(f:Nat→Bool):FCtr lim Tryz.prog 278 [.agg [.v (.int .i64 op),.str t,.sl false 3 (ks.map encPat)],.str s,.sl false 1 (bC (s.length+1) f)] (.sl false 1 (bC (s.length+1) (ends s (.mk op t ks) f))) (s.length≤1048576) :=
 ⟨en278,fun h=>by
  have:=((l5Ends_i op t ks s f).pure h).frz
  simpa only [AV.frz,bC_frz,cond_true] using this⟩
instance iMatchPattern_i(x:GPat)(s:Str):Ctr lim Tryz.prog 267 [] [.agg [.v (.int .i64 x.fOp),.str x.fText,.sl false 3 (x.fKids.map encPat)],.str s] (.v (.bool (mtch x s))) [] (s.length≤1048576):=by
 refine Ctr.of_body en267 Tryz.func267 rfl rfl fun hp=>(?_);rw [Tryz.ntmps267]
 (refine vN ?_;with_reducible repeat' first|exact Le.l|refine Sw ?_ ?_|intro (K:_→_→Prop) hK|intro h)
 refine Z ?_
 (refine vN ?_;with_reducible repeat' first|exact Le.l|refine Sw ?_ ?_|intro (K:_→_→Prop) hK|intro h)
 refine Z ?_
 (refine vN ?_;with_reducible repeat' first|exact Le.l|refine Sw ?_ ?_|intro (K:_→_→Prop) hK|intro h)
 refine Z ?_
 (refine vN ?_;with_reducible repeat' first|exact Le.l|refine Sw ?_ ?_|intro (K:_→_→Prop) hK|intro h)
 refine AW.imp (Imp.fold 5 (b:=h) (len:=s.length+1) (sz:=1) (cells:=bC (s.length+1) (fun c=>if c=0 then true else false)) (l:=bC (s.length+1) (fun c=>if c=0 then true else false)) gO gO (bC_len _ _) (by rw [bC_fl,Nat.mul_one,bC_take]) (bC_elm _ _) ?_)
 try simp (maxSteps:=2000000) (disch:=omega) only [go_sem]
 (refine vU ?_;with_reducible repeat' first|exact Le.l|refine Sw ?_ ?_|intro (K:_→_→Prop) hK|intro h)
 rfl
instance sMatchPattern_i(x:GPat)(s:Str):Ctr lim Tryz.prog 262 [] [.agg [.v (.int .i64 x.fOp),.str x.fText,.sl false 3 (x.fKids.map encPat)],.str s] (.v (.bool (mtch x s))) [] (s.length≤1048576):=by
 refine Ctr.of_body en262 Tryz.func262 rfl rfl fun hp=>(?_);rw [Tryz.ntmps262]
 (refine vN ?_;with_reducible repeat' first|exact Le.l|refine Sw ?_ ?_|intro (K:_→_→Prop) hK|intro h)
 refine Z ?_
 (refine vN ?_;with_reducible repeat' first|exact Le.l|refine Sw ?_ ?_|intro (K:_→_→Prop) hK|intro h)
 refine Z ?_
 (refine vN ?_;with_reducible repeat' first|exact Le.l|refine Sw ?_ ?_|intro (K:_→_→Prop) hK|intro h)
 refine Z ?_
 (refine vN ?_;with_reducible repeat' first|exact Le.l|refine Sw ?_ ?_|intro (K:_→_→Prop) hK|intro h)
 refine AW.imp (Imp.fold 5 (b:=h) (len:=s.length+1) (sz:=1) (cells:=bC (s.length+1) (fun c=>if c=0 then true else false)) (l:=bC (s.length+1) (fun c=>if c=0 then true else false)) gO gO (bC_len _ _) (by rw [bC_fl,Nat.mul_one,bC_take]) (bC_elm _ _) ?_)
 try simp (maxSteps:=2000000) (disch:=omega) only [go_sem]
 (refine vU ?_;with_reducible repeat' first|exact Le.l|refine Sw ?_ ?_|intro (K:_→_→Prop) hK|intro h)
 rfl
instance iMatchText_i(p s:Str):Ctr lim Tryz.prog 250 [] [.str p,.str s] (.v (.bool (mtchT p s))) [] (s.length≤1048576):=by
 refine Ctr.of_body en250 Tryz.func250 rfl rfl fun hp=>(?_);rw [Tryz.ntmps250]
 (refine vU ?_;with_reducible repeat' first|exact Le.l|refine Sw ?_ ?_|intro (K:_→_→Prop) hK|intro h)
 rfl
instance sMatchText_i(p s:Str):Ctr lim Tryz.prog 241 [] [.str p,.str s] (.v (.bool (mtchT p s))) [] (s.length≤1048576):=by
 refine Ctr.of_body en241 Tryz.func241 rfl rfl fun hp=>(?_);rw [Tryz.ntmps241]
 (refine vU ?_;with_reducible repeat' first|exact Le.l|refine Sw ?_ ?_|intro (K:_→_→Prop) hK|intro h)
 rfl
end Go.Proofs.YtmcjbaafmjlblaaGreatDoor
namespace Go.Dt
open Go.Ab
def trueS:Str:=[116,114,117,101]
def falseS:Str:=[102,97,108,115,101]
def boolS(s:Str):Str:=if s=[49] then trueS else if s=[48] then falseS else s
def cvO(mt:Str→Str→Bool)(x:GType)(s:Str):Bool :=
 if x.fKind=1 then readB s && inRg x.fRanges (readV s)
 else if x.fKind=2 then isText s && inRg x.fRanges s.length && (decide (x.fPattern=[]) || mt x.fPattern s)
 else if x.fKind=3 then boolS s == trueS || boolS s == falseS
 else if x.fKind=4 then cont x.fNames s
 else if x.fKind=5 then !decide (s=[]) && isText s
 else if x.fKind=6 then decide (s=[]) else false
def cvT(x:GType)(s:Str):Str:=if x.fKind=1 then Lib.itoa (readV s) else if x.fKind=3 then boolS s else s
end Go.Dt
namespace Go.Dt
open Go.Ab
attribute [go_sem] frzL_str
def digs(n:Nat)(acc:Str):Str:=if h:n=0 then acc else digs (n / 10) (UInt8.ofNat (48+n % 10)::acc)
termination_by n
decreasing_by omega
theorem digs_zero(acc:Str):digs 0 acc=acc:=by rw [digs];simp
theorem digs_pos{n:Nat}(h:n≠0)(acc:Str):digs n acc=digs (n / 10) (UInt8.ofNat (48+n % 10)::acc):=by rw [digs];simp [h]
def mkT(k:Int):Str:=109::(if k≤0 then [48] else digs k.toNat [])
def mks:Nat→Int→List Str
 | 0,_=>[]
 | n+1,k=>mkT k::mks n (k+1)
theorem mks_len:∀ (n:Nat) (k:Int),(mks n k).length=n
 | 0,_=>rfl
 | n+1,k=>by simp [mks,mks_len n]
theorem mks_snoc:∀ (n:Nat) (k:Int),mks (n+1) k=mks n k++[mkT (k+n)]
 | 0,k=>by simp [mks]
 | n+1,k=>by
  rw [mks,mks_snoc n (k+1)]
  simp only [mks,List.cons_append]
  congr 3
  rw [show k+1+(n:Int)=k+((n+1:Nat):Int) by omega]
def mkd(l:List Str)(k:Int)(i:Nat):List Str:=mks i k++l.drop i
theorem mkd_len(l:List Str)(k:Int)(i:Nat)(h:i≤l.length):(mkd l k i).length=l.length:=by simp [mkd,mks_len];omega
theorem mkd_step(l:List Str)(k:Int)(i:Nat)(h:i<l.length):((mkd l k i).map AV.str).take i++[.str (mkT (k+i))]++((mkd l k i).map AV.str).drop (i+1)=(mkd l k (i+1)).map AV.str:=by
 have e1:(mkd l k i).take i=mks i k:=by rw [mkd,List.take_append_of_le_length (by simp [mks_len]),List.take_of_length_le (by simp [mks_len])]
 have hA:(mkd l k i).drop i=l.drop i:=by
  have:=List.drop_left (l₁:=mks i k) (l₂:=l.drop i)
  rw [mks_len] at this;exact this
 have e2:(mkd l k i).drop (i+1)=l.drop (i+1):=by
  have:(mkd l k i).drop (i+1)=((mkd l k i).drop i).drop 1:=by rw [List.drop_drop]
  rw [this,hA,List.drop_drop]
 rw [← List.map_take,← List.map_drop,e1,e2,mkd,mks_snoc]
 simp
end Go.Dt
namespace Go.Ab
mutual
def AV.fits(L:Nat→Nat):AV→Prop
 | .sl _ sz l=>l.length≤L sz∧AV.fitsL L l
 | .vp l=>AV.fitsL L l
 | .arr _ _ len sz=>len≤L sz
 | .agg l=>AV.fitsL L l
 | .tup l=>AV.fitsL L l
 | .fn _ l=>AV.fitsL L l
 | .cnd _ x=>x.fits L
 | .pin _ x=>x.fits L
 | _=>True
def AV.fitsL(L:Nat→Nat):List AV→Prop
 | []=>True
 | x::xs=>x.fits L∧AV.fitsL L xs
end
theorem AV.fitsL_iff{L:Nat→Nat}:∀ {l:List AV},AV.fitsL L l↔∀ x∈l,x.fits L
 | []=>by simp [AV.fitsL]
 | x::xs=>by simp [AV.fitsL,AV.fitsL_iff (l:=xs)]
mutual
theorem Rep.fit{L L':Nat→Nat}{F:Nat→Prop}{w:World}:∀ {x:AV} {y:Value} {fp:List Nat},x.fits L'→Rep L F w x y fp→Rep L' F w x y fp
 | .dead,_,_,_,r=>by simpa [Rep] using r
 | .v _,_,_,_,r=>by simpa [Rep] using r
 | .str _,_,_,_,r=>by simpa [Rep] using r
 | .sl own sz l,y,fp,h,r=>by
  simp only [Rep] at r ⊢
  simp only [AV.fits] at h
  rcases r with r|⟨b,off,cap,vals,fp',hy,h1,h2,hrow,he,ho⟩
  ·exact .inl r
  ·exact .inr ⟨b,off,cap,vals,fp',hy,h1,h.1,hrow,RepE.fit h.2 he,ho⟩
 | .vp l,y,fp,h,r=>by
  simp only [Rep] at r ⊢
  simp only [AV.fits] at h
  obtain ⟨e,b,off,vals,hy,hb,hrow,hl⟩:=r
  exact ⟨e,b,off,vals,hy,hb,hrow,RepL.fit h hl⟩
 | .arr b off len sz,y,fp,h,r=>by
  simp only [Rep] at r ⊢
  simp only [AV.fits] at h
  obtain ⟨e,cap,hy,h1,h2,o⟩:=r
  exact ⟨e,cap,hy,h1,h,o⟩
 | .ptr _ _,_,_,_,r=>by simpa [Rep] using r
 | .agg l,y,fp,h,r=>by
  simp only [Rep] at r ⊢
  simp only [AV.fits] at h
  obtain ⟨vs,hy,hl⟩:=r
  exact ⟨vs,hy,RepL.fit h hl⟩
 | .tup l,y,fp,h,r=>by
  simp only [Rep] at r ⊢
  simp only [AV.fits] at h
  obtain ⟨vs,hy,hl⟩:=r
  exact ⟨vs,hy,RepL.fit h hl⟩
 | .fn f l,y,fp,h,r=>by
  simp only [Rep] at r ⊢
  simp only [AV.fits] at h
  obtain ⟨vs,hy,hl⟩:=r
  exact ⟨vs,hy,RepL.fit h hl⟩
 | .cnd g x,y,fp,h,r=>by
  simp only [Rep] at r ⊢
  simp only [AV.fits] at h
  exact ⟨fun e=>Rep.fit h (r.1 e),r.2⟩
 | .pin v x,y,fp,h,r=>by
  simp only [Rep] at r ⊢
  simp only [AV.fits] at h
  exact ⟨r.1,Rep.fit h r.2⟩
theorem RepL.fit{L L':Nat→Nat}{F:Nat→Prop}{w:World}:∀ {l:List AV} {vs:List Value} {fp:List Nat},AV.fitsL L' l→RepL L F w l vs fp→RepL L' F w l vs fp
 | [],_,_,_,r=>by simpa [RepL] using r
 | x::xs,vs,fp,h,r=>by
  simp only [RepL] at r ⊢
  simp only [AV.fitsL] at h
  obtain ⟨y,vs',f1,f2,hv,rfl,hx,hxs⟩:=r
  exact ⟨y,vs',f1,f2,hv,rfl,Rep.fit h.1 hx,RepL.fit h.2 hxs⟩
theorem RepE.fit{L L':Nat→Nat}{F:Nat→Prop}{w:World}{sz:Nat}:∀ {l:List AV} {vs:List Value} {fp:List Nat},AV.fitsL L' l→RepE L F w sz l vs fp→RepE L' F w sz l vs fp
 | [],_,_,_,r=>by simpa [RepE] using r
 | x::xs,vs,fp,h,r=>by
  simp only [RepE] at r ⊢
  simp only [AV.fitsL] at h
  obtain ⟨y,vs',f1,f2,hv,hsz,rfl,hx,hxs⟩:=r
  exact ⟨y,vs',f1,f2,hv,hsz,rfl,Rep.fit h.1 hx,RepE.fit h.2 hxs⟩
end
end Go.Ab
namespace Go.Dt
open Go.Ab
theorem thn_get{a:Int}{k:Int→Int}(h:0≤thn a k):0≤a∧0≤k a:=by
 unfold thn at h
 split at h<;>omega
theorem szGo_fit{α:Type}(f:α→Int→Int)(hf:∀ x r,0≤r→f x r≤r):∀ (l:List α) (r:Int),0≤r→0≤szGo f l r→∀ x∈l,∃ r',0≤r'∧r'≤r∧0≤f x r'
 | y::l,r,h0,h,x,hx=>by
  have h2:=thn_get h
  rcases List.mem_cons.1 hx with rfl|hx
  ·exact ⟨r,h0,Int.le_refl _,h2.1⟩
  ·obtain ⟨r',a,b,c⟩:=szGo_fit f hf l _ h2.1 h2.2 x hx
   exact ⟨r',a,by have:=hf y r h0;omega,c⟩
theorem szSl_fit{α:Type}(f:α→Int→Int)(hf:∀ x r,0≤r→f x r≤r)(l:List α)(r:Int)(_:0≤r)(h:0≤szSl f l r):l.length≤r∧∀ x∈l,∃ r',0≤r'∧r'≤r∧0≤f x r':=by
 have h2:=thn_get h
 refine ⟨by omega,fun x hx=>?_⟩
 obtain ⟨r',a,b,c⟩:=szGo_fit f hf l _ h2.1 h2.2 x hx
 exact ⟨r',a,by omega,c⟩
theorem lim_ge(z:Nat):1048576≤lim z:=by
 have:=limT_b (z - 1000000000)
 unfold lim;split
 ·omega
 ·split<;>omega
theorem fits_sl{α:Type}{f:α→Int→Int}{e:α→AV}{o:Bool}{sz:Nat}(hf:∀ x r,0≤r→f x r≤r)(l:List α)(r:Int)(h0:0≤r)(h1:r≤1048576)(h:0≤szSl f l r)
  (ih:∀ x∈l,∀ r',0≤r'→r'≤1048576→0≤f x r'→(e x).fits lim):(AV.sl o sz (l.map e)).fits lim:=by
 obtain ⟨a,b⟩:=szSl_fit f hf l r h0 h
 simp only [AV.fits,List.length_map]
 refine ⟨by have:=lim_ge sz;omega,AV.fitsL_iff.2 fun x hx=>?_⟩
 obtain ⟨y,hy,rfl⟩:=List.mem_map.1 hx
 obtain ⟨r',p,q,s⟩:=b y hy
 exact ih y hy r' p (by omega) s
end Go.Dt
namespace Go.Ab
open Go.RowKit (Below)
open Go.Dt
def LawC(P:Program)(f:FuncId)(args:List AV):Prop :=
 PureC rawL P f args (.v (.bool true))∨(AV.fitsL lim args∧PureC lim P f args (.v (.bool true)))
theorem LawC.walk{P:Program}{f:FuncId}{args:List AV}(h:LawC P f args)(w:World)(vs:List Value)(ht:Tb lim (fun b=>b<w.heap.size) w)(hr:RepL rawL (fun b=>b<w.heap.size) w args vs []) :
  Calls P f vs.toArray w fun e w'=>e=.returned (.bool true)∧Below w.heap.size w w':=by
 have fin:∀ {e:Ending} {w':World} {L:Nat→Nat},(∃ v' F' fp,e=.returned v'∧Below w.heap.size w w'∧(∀ b,(fun b=>b<w.heap.size) b→F' b)∧(∀ b,F' b→(fun b=>b<w.heap.size) b∨(w.heap.size≤b∧b<w'.heap.size)) ∧
   Rep L F' w' (.v (.bool true)) v' fp∧fp.Nodup∧∀ b,b∈fp→¬ F' b∧w.heap.size≤b∧b<w'.heap.size)→e=.returned (.bool true)∧Below w.heap.size w w':=by
  rintro e w' L ⟨v',F',fp,rfl,hb,_,_,hv,_⟩
  simp only [Rep] at hv
  exact ⟨by rw [hv.1],hb⟩
 rcases h with h|⟨hf,h⟩
 ·exact (h w _ vs (fun b hb=>hb) (fun k g c _ hl hg=>by simp only [rawL] at hg;omega) hr).mono fun e w' he=>fin he
 ·exact (h w _ vs (fun b hb=>hb) ht (RepL.fit hf hr)).mono fun e w' he=>fin he
theorem LawC.raw{P:Program}{f:FuncId}{args:List AV}{cs:List (Option (List AV))}{pre:Prop}(h:Ctr rawL P f [] args (.v (.bool true)) cs pre)(hp:pre):LawC P f args:=.inl (h.pure hp)
theorem LawC.fit{P:Program}{f:FuncId}{args:List AV}{cs:List (Option (List AV))}{pre:Prop}(hf:AV.fitsL lim args)(h:Ctr lim P f [] args (.v (.bool true)) cs pre)(hp:pre):LawC P f args:=.inr ⟨hf,h.pure hp⟩
end Go.Ab
