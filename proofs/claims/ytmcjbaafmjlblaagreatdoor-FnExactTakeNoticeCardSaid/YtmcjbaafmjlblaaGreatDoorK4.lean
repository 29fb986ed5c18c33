/- A part. -/
import Derived.Lay
import Derived.MakeChecks
import Derived.Test.YtmcjbaafmjlblaaGreatDoorJ41
set_option linter.all false
set_option maxRecDepth 20000
set_option maxHeartbeats 4000000
namespace Go.Ab
section
section
variable {L : Nat -> Nat} {P : Program} {n : Nat} {t : List (Nat × AV)} {o : Sto} {Q : Exit -> AS -> Prop} {id : Nat} {ops : Array Oper} {c x y : Code} {s : AS}
end
section
variable {L : Nat -> Nat} {P : Program} {os rs : Sto} {la : List AV} {bo : Option (Nat × Nat × List AV)} {rest : List AV} {f : FuncId} {args : List AV} {K : AV -> Sto -> Prop} {KB : Nat -> Nat -> List AV -> AV -> Prop} {KX : tU}
end
end
section
theorem aaA{p:Prop}(k:Nat)(h:p):MV k (p:=⟨p⟩):=h
end
end Go.Ab
namespace Go.Proofs
open Go.Ab
end Go.Proofs
namespace Go.Dt
open Go.Ab
theorem aan:∀ (n:Nat) (k:Int) (i:Nat),i<n->at_ (mks n k) i=mkT (k+i)
 | 0,_,_,h=>by omega
 | n+1,k,0,_=>by simp [mks,at_]
 | n+1,k,i+1,h=>by
  have:=aan n (k+1) i (by omega)
  rw [show k+((i+1:Nat):Int)=k+1+i by omega,<- this]
  simp [mks,at_]
end Go.Dt
namespace Go.Proofs
open Go.Ab Go.Dt
attribute [-instance] F4 Ji cPf
set_option maxHeartbeats 2000000
instance aai(n:Nat)(k:Int):Ctr lim Tryz.prog 77 [] [.sl false 1 ((mks n k).map AV.str),.v (.int .i64 k)] (.v (.int .i64 (k+n))) [] (0<=k/\k+n<=1099511627776):=by
 refine Ctr.bd Tryz.func77 Tryz.ntmps77 rfl rfl fun hp=>?_
 (refine vU ?_;with_reducible repeat' first|exact Le.l|apply Sw|intro h)
 refine AW.aA [1,5] [0] (fun m xs o=>∃ i:Nat,xs=[.v (.int .i64 (k+i)),.v (.int .i64 i)]/\o=[]/\m=n - i/\i<=n) n [] trivial ⟨0,?_,rfl,rfl,?_⟩ ?_
 ·simp [T]
 ·omega
 rintro m xs o ⟨i,rfl,rfl,rfl,hi⟩
 have hml:=pM n k
 have hat:=aan n k i
 (refine vU ?_;with_reducible repeat' first|exact Le.l|apply Sw|intro h)
 ·exact absurd (hat (by omega)) h
 ·exact ⟨_,[_,_],_,by omega,⟨i+1,by rw [show k+((i+1:Nat):Int)=k+i+1 by omega],rfl,rfl,by omega⟩,rfl,trivial⟩
 ·rw [show i=n by omega]
end Go.Proofs
namespace Go.Ab
open Go.Ab
end Go.Ab
namespace Go.Proofs
open Go.Ab Go.Dt
attribute [-instance] F4 Ji cPf
instance aav(l:List Str)(k:Int):Ctr lim Tryz.prog 77 [] [.sl false 1 ((mkL ay l k).1.map AV.str),.v (.int .i64 k)] (.v (.int .i64 (mkL ay l k).2)) [] (0<=k/\(mkL ay l k).2<=1099511627776):=by
 rw [GJ];exact aai l.length k
end Go.Proofs
namespace Go.Ab
open Go.RowKit (Below)
theorem Ctr.frz{L:Nat->Nat}{P:Program}{f:FuncId}{args:List AV}{res:AV}{cs:List (Option (List AV))}{pre:Prop}(h:Ctr L P f [] args res cs pre):Ctr L P f [] args res.frz [] pre :=
 Ctr.lJ h.en fun hp=>(h.pure hp).frz
section
variable {L : Nat -> Nat} {P : Program} {ops : Array Oper} {n : Nat} {K : AS -> Prop}
theorem aah{f:Nat}{l:Array Bool}{t:List (Nat×AV)}{os:Sto}{Inv:Nat->Array Bool->AS->Prop}(ih:∀ l s,Inv f l s->bP L P ops f l s K):∀ {rs:List Nat},allI L P ops n f l t os Inv rs ->
  ∀ i,i∈rs->∃ o,ops[i]? = some o/\o.guard=none/\cN n o.dst=true/\nvc L P os t o.dst o.op (fun t' os'=>VR n f (l.setIfInBounds i true) Inv t' os')
 | [],_,i,hi=>by simp at hi
 | j::rs,h,i,hi=>by
  simp only [allI] at h
  rcases List.mem_cons.1 hi with rfl|hi
  ·have h1:=h.1
   split at h1
   ·rename_i o ho
    exact ⟨o,ho,h1.1.1,h1.1.2,h1.2⟩
   ·exact h1.elim
  ·exact aah ih h.2 i hi
theorem bP.inv(Inv:Nat->Array Bool->AS->Prop)(h0:∀ l s,Inv 0 l s->Region.ready .any ops l=[]/\K s)
  (hs:∀ f l s,Inv (f+1) l s->∃ rs,Region.ready .any ops l=rs/\rs≠[]/\allI L P ops s.n f l s.t s.o Inv rs):∀ f l s,Inv f l s->bP L P ops f l s K
 | 0,l,s,h=>fun B F0 w0 a w R hd hR=>wpAny_done (h0 l s h).1 ⟨rfl,hR _ _ _ (h0 l s h).2 hd⟩ 0
 | f+1,l,s,h=>by
  have ih:=bP.inv Inv h0 hs f
  obtain ⟨rs,hr,hne,hall⟩:=hs f l s h
  obtain ⟨n,t,os⟩:=s
  intro B F0 w0 a w R hd hR
  refine wpAny_all hr hne fun i hi=>?_
  obtain ⟨o,ho,hg,nM,hn⟩:=aah (fun l s h=>ih l s h) hall i hi
  unfold wpOp
  simp only [ho]
  have hw:Region.wanted o (yielded ops a.tmps)=true:=by simp [Region.wanted,hg]
  rw [if_pos hw]
  refine .inl (BP nM hn B F0 w0 a w _ _ hd fun s' a' w' hs' hd'=>?_)
  obtain ⟨hn',live,o0,hsub,hI⟩:=hs'
  obtain ⟨n',t',o'⟩:=s'
  simp only at hn' hsub hI
  subst hn'
  exact ih _ _ hI B F0 w0 a' w' R (hd'.weaken rfl (Fx t' live) fun _ _ hb=>ry hsub hb) hR
end
theorem AW.anyI{L:Nat->Nat}{P:Program}{ops:Array Oper}{n id:Nat}{t:List (Nat×AV)}{os:Sto}{Q:Exit->AS->Prop}(Inv:Nat->Array Bool->AS->Prop)(live:List Nat)(o0:Sto)(ho:jS o0 os)(hm:P.follows .mixedOrders=true)
  (h:Inv ops.size (Array.replicate ops.size false) ⟨n,eN t live,o0⟩) (h0:∀ l s,Inv 0 l s->Region.ready .any ops l=[]/\Q .normal s)
  (hs:∀ f l s,Inv (f+1) l s->∃ rs,Region.ready .any ops l=rs/\rs≠[]/\allI L P ops s.n f l s.t s.o Inv rs):AW L P (.region id ops true) ⟨n,t,os⟩ Q :=
 AW.any hm fun B F0 w0 a w R hd hR=>bP.inv (K:=fun s'=>Q .normal s') Inv h0 hs _ _ _ h B F0 w0 a w R (hd.weaken rfl (Fx t live) fun _ _ hb=>ry ho hb) hR
end Go.Ab
namespace Go.Proofs
open Go.Ab Go.Dt
section
attribute [-instance] F4 Ji cPf
theorem au.cd{x:au}{l:List au}(h:x∈l):SizeOf.sizeOf x.af<SizeOf.sizeOf l:=by
 have:=List.sizeOf_lt_of_mem h
 cases x;simp [au.af] at *;omega
theorem M7(L:Nat->Nat)[hL:Lok L](n:Nat)(ih:∀ l:List au,Ctr L Tryz.prog 15 [] [.sl false 4 (l.map (aH false)),.sl false 4 (l.map (aH false))] (.v (.bool true)) [] (SizeOf.sizeOf l<n))(x:au):Ctr L Tryz.prog 53 [] [.agg (cEd x),.agg (cEd x)] (.v (.bool true)) [] (SizeOf.sizeOf x.af<n):=by
 refine Ctr.bd Tryz.func53 Tryz.ntmps53 rfl rfl fun hp=>?_
 all_goals exact uU
theorem Cc(L:Nat->Nat)[hL:Lok L]:∀ (n:Nat) (l:List au),Ctr L Tryz.prog 15 [] [.sl false 4 (l.map (aH false)),.sl false 4 (l.map (aH false))] (.v (.bool true)) [] (SizeOf.sizeOf l<n)
 | 0,l=>⟨(aM 15),fun h=>absurd h (Nat.not_lt_zero _)⟩
 | n+1,l=>by
  have hx:=M7 L n (Cc L n)
  refine Ctr.bd Tryz.func15 Tryz.ntmps15 rfl rfl fun hp=>?_
  refine AW.fact 0 fun hf=>?_
  simp (disch:=omega) only [go_sem,Nat.reduceBEq] at hf
  have hf:=Nat.le_trans hf (hL.le 4)
  (refine vU ?_;with_reducible repeat' first|exact Le.l|apply Sw|intro h)
  refine AW.aA [5] [0,1] (fun m xs o=>∃ k:Nat,xs=[.v (.int .i64 k)]/\o=[]/\m=l.length - k/\k<=l.length) l.length [] trivial ⟨0,?_,rfl,rfl,?_⟩ ?_
  ·rfl
  ·omega
  rintro m xs o ⟨k,rfl,rfl,rfl,hk⟩
  have hkk:k<l.length->SizeOf.sizeOf (at_ l k).af<n:=fun h=>by have:=au.cd (at_mem h);omega
  (refine vU ?_;with_reducible repeat' first|exact Le.l|apply Sw|intro h)
  exact ⟨_,[_],[],by omega,⟨k+1,rfl,rfl,rfl,by omega⟩,rfl,trivial⟩
instance Vv(L:Nat->Nat)[hL:Lok L](l:List au):Ctr L Tryz.prog 15 [] [.sl false 4 (l.map (aH false)),.sl false 4 (l.map (aH false))] (.v (.bool true)) [] True:=⟨(aM 15),fun _=>(Cc L (SizeOf.sizeOf l+1) l).out (Nat.lt_succ_self _)⟩
theorem LD(L:Nat->Nat)[hL:Lok L](n:Nat)(ih:∀ (l:List au) (r:Int),Ctr L Tryz.prog 112 [] [.sl false 4 (l.map (aH false)),.v (.int .i64 r)] (.v (.int .i64 (aG dM l r))) [] (SizeOf.sizeOf l<n/\0<=r/\r<=1048576))(x:au)(r:Int):Ctr L Tryz.prog 146 [] [.agg (cEd x),.v (.int .i64 r)] (.v (.int .i64 (dM x r))) [] (SizeOf.sizeOf x.af<n/\0<=r/\r<=1048576):=by
 refine Ctr.bd Tryz.func146 Tryz.ntmps146 rfl rfl fun hp=>?_
 refine AW.fact 0 fun hf=>?_
 simp (disch:=omega) only [go_sem,Nat.reduceBEq] at hf
 have le2:=aZ dM fT x.af ((r - x.ae.length) - x.av.length)
 rw [ur]
 ((refine vU ?_;with_reducible repeat' first|exact Le.l|apply Sw|intro h);all_goals simp only [thn,aC,id];all_goals refine congrArg (fun z=>AV.v (.int .i64 z)) ?_;all_goals (repeat' split);all_goals omega)
theorem BC(L:Nat->Nat)[hL:Lok L]:∀ (n:Nat) (l:List au) (r:Int),Ctr L Tryz.prog 112 [] [.sl false 4 (l.map (aH false)),.v (.int .i64 r)] (.v (.int .i64 (aG dM l r))) [] (SizeOf.sizeOf l<n/\0<=r/\r<=1048576)
 | 0,l,r=>⟨(aM 112),fun h=>absurd h.1 (Nat.not_lt_zero _)⟩
 | n+1,l,r=>by
  have hx:=LD L n (BC L n)
  refine Ctr.bd Tryz.func112 Tryz.ntmps112 rfl rfl fun hp=>?_
  refine AW.fact 0 fun hf=>?_
  simp (disch:=omega) only [go_sem,Nat.reduceBEq] at hf
  have hf:=Nat.le_trans hf (hL.le 4)
  (refine vU ?_;with_reducible repeat' first|exact Le.l|apply Sw|intro h)
  ·rw [fQ h]
  rw [gr h]
  refine AW.aA [1,5] [0] (fun m xs o=>∃ (k:Nat) (q:Int),xs=[.v (.int .i64 q),.v (.int .i64 k)]/\o=[]/\m=l.length - k/\k<=l.length/\0<=q/\q<=1048576/\eD dM (l.drop k) q=eD dM l (r - l.length)) l.length [] trivial ⟨0,_,?_,rfl,rfl,?_,?_,?_,rfl⟩ ?_
  ·rfl
  ·omega
  ·omega
  ·omega
  rintro m xs o ⟨k,q,rfl,rfl,rfl,hk,h0,h1,hR⟩
  have hle:=fT (at_ l k) q h0
  have hkk:k<l.length->SizeOf.sizeOf (at_ l k).af<n:=fun h=>by have:=au.cd (at_mem h);omega
  (refine vU ?_;with_reducible repeat' first|exact Le.l|apply Sw|intro h)
  ·rw [fX (by assumption),if_pos (by first|exact h|(rw [hsz];exact h))] at hR;rw [hR]
  ·rw [fX (by assumption),if_neg (by omega)] at hR
   exact ⟨_,[_,_],[],by omega,⟨k+1,_,rfl,rfl,rfl,by omega,by omega,by omega,hR⟩,rfl,trivial⟩
  ·rw [j4 h] at hR;rw [hR]
instance US(L:Nat->Nat)[hL:Lok L](l:List au)(r:Int):Ctr L Tryz.prog 112 [] [.sl false 4 (l.map (aH false)),.v (.int .i64 r)] (.v (.int .i64 (aG dM l r))) [] (0<=r/\r<=1048576):=⟨(aM 112),fun h=>(BC L (SizeOf.sizeOf l+1) l r).out ⟨Nat.lt_succ_self _,h⟩⟩
theorem Ly(n:Nat)(ih:∀ l:List au,Ctr lim Tryz.prog 116 [] [.sl false 4 (l.map (aH false))] (.sl true 4 (l.map (aH true))) [] (SizeOf.sizeOf l<n))(x:au):Ctr lim Tryz.prog 150 [] [.agg (cEd x)] (.agg [.v (.int .i64 x.fOp),.str x.ae,.str x.av,.sl true 4 (x.af.map (aH true))]) [] (SizeOf.sizeOf x.af<n):=by
 refine Ctr.bd Tryz.func150 Tryz.ntmps150 rfl rfl fun hp=>?_
 all_goals exact uU
theorem Bz:∀ (n:Nat) (l:List au),Ctr lim Tryz.prog 116 [] [.sl false 4 (l.map (aH false))] (.sl true 4 (l.map (aH true))) [] (SizeOf.sizeOf l<n)
 | 0,l=>⟨(aM 116),fun h=>absurd h (Nat.not_lt_zero _)⟩
 | n+1,l=>by
  have hx:=Ly n (Bz n)
  refine Ctr.bd Tryz.func116 Tryz.ntmps116 rfl rfl fun hp=>?_
  refine AW.fact 0 fun hf=>?_
  simp (disch:=omega) only [go_sem,Nat.reduceBEq] at hf
  (refine vU ?_;with_reducible repeat' first|exact Le.l|apply Sw|intro h)
  refine AW.aA [4] [0,3] (fun m xs o=>∃ k:Nat,xs=[.v (.int .i64 k)]/\o=[(h,some (mkC (aH true) [.int .i64 0,.string ⟨#[]⟩,.string ⟨#[]⟩,.slice none 0 0] l k))]/\m=l.length - k/\k<=l.length) l.length [(h,some (mkC (aH true) [.int .i64 0,.string ⟨#[]⟩,.string ⟨#[]⟩,.slice none 0 0] l 0))] (bw (jN _ _ _)) ⟨0,?_,rfl,rfl,?_⟩ ?_
  ·rfl
  ·omega
  rintro m xs o ⟨k,rfl,rfl,rfl,hk⟩
  have hml:=kH (aH true) [.int .i64 0,.string ⟨#[]⟩,.string ⟨#[]⟩,.slice none 0 0] 4 (fun x=>by rw [bS];rfl) rfl l k hk
  have hkk:k<l.length->SizeOf.sizeOf (at_ l k).af<n:=fun h=>by have:=au.cd (at_mem h);omega
  (refine vX ?_;with_reducible repeat' first|exact Le.l|apply Sw|intro h)
  ·exact ⟨_,[_],_,by omega,⟨k+1,rfl,rfl,rfl,by omega⟩,rfl,bw (by have:=l9 (aH true) [.int .i64 0,.string ⟨#[]⟩,.string ⟨#[]⟩,.slice none 0 0] 4 (fun x=>by rw [bS];rfl) rfl l k h;simp only [go_sem,Nat.mul_one] at this ⊢;exact this.symm)⟩
  ·refine AW.made 2 rfl h hk (fun x=>by rw [bS];rfl) ?_
   all_goals exact uU
instance UM(l:List au):Ctr lim Tryz.prog 116 [] [.sl false 4 (l.map (aH false))] (.sl true 4 (l.map (aH true))) [] True:=⟨(aM 116),fun _=>(Bz (SizeOf.sizeOf l+1) l).out (Nat.lt_succ_self _)⟩
end
section
attribute [-instance] F4 Ji cPf
attribute [local go_sem] ba aI aS gV gU
theorem BX:∀ (n:Nat) (l:List au),Ctr lim Tryz.prog 86 [] [.sl false 4 (l.map (aH false))] (.sl true 4 (l.map (aH true))) [] (SizeOf.sizeOf l<n)
 | 0,l=>⟨(aM 86),fun h=>absurd h (Nat.not_lt_zero _)⟩
 | n+1,l=>by
  have ih:=BX n
  refine Ctr.bd Tryz.func86 Tryz.ntmps86 rfl rfl fun hp=>?_
  have gOn:=bA.on
  refine AW.fact 0 fun hf=>?_
  simp (disch:=omega) only [go_sem] at hf
  (refine vK ?_;with_reducible repeat' first|exact Le.l|apply Sw|intro h)
  refine AW.aA [3,9] [7,8] (fun m xs o=>∃ k:Nat,xs=[.sl true 4 ((l.take k).map (aH true)),.v (.int .i64 k)]/\o=[]/\m=l.length - k/\k<=l.length) l.length [] trivial ⟨0,?_,rfl,rfl,?_⟩ ?_
  ·rfl
  ·omega
  rintro m xs o ⟨k,rfl,rfl,rfl,hk⟩
  have hlt:(l.take k).length=k:=by rw [List.length_take];omega
  have hkk:k<l.length->SizeOf.sizeOf (at_ l k).af<n:=fun h=>by have:=au.cd (at_mem h);omega
  (refine vU ?_;with_reducible repeat' first|exact Le.l|apply Sw|intro h)
  ·exact ⟨_,[_,_],_,by omega,⟨k+1,by rw [db (by assumption),List.map_append,List.map_cons,List.map_nil,bS],rfl,rfl,by omega⟩,rfl,by simp (maxSteps:=2000000) (disch:=omega) only [go_sem]⟩
  ·rw [show k=l.length by omega,List.take_length]
theorem BG:∀ (n:Nat) (l:List au),Ctr lim Tryz.prog 85 [] [.sl false 4 (l.map (aH false))] (.sl true 4 (l.map (aH true))) [] (SizeOf.sizeOf l<n)
 | 0,l=>⟨(aM 85),fun h=>absurd h (Nat.not_lt_zero _)⟩
 | n+1,l=>by
  have ih:=BG n
  refine Ctr.bd Tryz.func85 Tryz.ntmps85 rfl rfl fun hp=>?_
  have gOn:=bA.on
  refine AW.fact 0 fun hf=>?_
  simp (disch:=omega) only [go_sem] at hf
  (refine vK ?_;with_reducible repeat' first|exact Le.l|apply Sw|intro h)
  refine AW.aA [3,4] [0] (fun m xs o=>∃ k:Nat,xs=[.sl true 4 ((l.take k).map (aH true)),.v (.int .i64 k)]/\o=[]/\m=l.length - k/\k<=l.length) l.length [] trivial ⟨0,?_,rfl,rfl,?_⟩ ?_
  ·rfl
  ·omega
  rintro m xs o ⟨k,rfl,rfl,rfl,hk⟩
  have hlt:(l.take k).length=k:=by rw [List.length_take];omega
  have hkk:k<l.length->SizeOf.sizeOf (at_ l k).af<n:=fun h=>by have:=au.cd (at_mem h);omega
  refine vO ?_;intros;refine AW.c (fun h=>?_) fun h=>?_
  ·(refine vN ?_;with_reducible repeat' first|exact Le.l|apply Sw|intro h)
   refine Z ?_
   intro K hK
   simp (maxSteps:=2000000) (disch:=omega) only [go_sem]
   refine Y ?_
   simp (maxSteps:=2000000) (disch:=omega) only [go_sem]
   refine And.intro (hkk h) (And.intro (by decide) (And.intro (by decide) ?_))
   refine Y ?_
   simp (maxSteps:=2000000) (disch:=omega) only [go_sem]
   refine And.intro ⟨by omega,by omega,by omega⟩ ?_
   refine hK _ _ ⟨Ct,?_⟩
   clear hK K
   intro K hK
   simp (maxSteps:=2000000) (disch:=omega) only [go_sem]
   refine hK _ _ ?_
   clear hK K
   (refine vU ?_;with_reducible repeat' first|exact Le.l|apply Sw|intro h)
   exact ⟨_,[_,_],_,by omega,⟨k+1,by rw [db (by assumption),List.map_append,List.map_cons,List.map_nil,bS],rfl,rfl,by omega⟩,rfl,by simp (maxSteps:=2000000) (disch:=omega) only [go_sem]⟩
  ·(refine vU ?_;with_reducible repeat' first|exact Le.l|apply Sw|intro h)
   rw [show k=l.length by omega,List.take_length]
instance Vk(l:List au):Ctr lim Tryz.prog 86 [] [.sl false 4 (l.map (aH false))] (.sl true 4 (l.map (aH true))) [] True:=⟨(aM 86),fun _=>(BX (SizeOf.sizeOf l+1) l).out (Nat.lt_succ_self _)⟩
instance U3(l:List au):Ctr lim Tryz.prog 85 [] [.sl false 4 (l.map (aH false))] (.sl true 4 (l.map (aH true))) [] True:=⟨(aM 85),fun _=>(BG (SizeOf.sizeOf l+1) l).out (Nat.lt_succ_self _)⟩
end
section
attribute [-instance] F4 Ji cPf
attribute [local go_sem] ba aI aS gV gU bD
theorem vz(o:Bool)(l:List (List au)):(l.map (bD o)).all (AV.elem 1)=true:=cX (fun _=>rfl) l
theorem vw(o:Bool)(l:List (List au)):((l.map (bD o)).flatMap AV.cells).all AV.one=true:=dw (fun _=>rfl) l
attribute [local go_sem] vz vw
instance aaE(x:dm):Ctr lim Tryz.prog 66 [] [.agg [.sl false 1 (x.ax.map AV.str),.sl false 3 (x.cL.map (aj false)),.sl false 1 (x.bt.map (bD false))]] (.agg [.sl true 1 (x.ax.map AV.str),.sl true 3 (x.cL.map (aj true)),.sl true 1 (x.bt.map (bD true))]) [] True:=by
 refine Ctr.bd Tryz.func66 Tryz.ntmps66 rfl rfl fun hp=>?_
 have gOn:=bA.on
 refine AW.kU 0 rfl (xs:=x.ax.map AV.str) (own:=false) (sz:=1) (by simp) fun hf=>?_
 refine AW.kU 0 rfl (xs:=x.bt.map (bD false)) (own:=false) (sz:=1) (by simp) fun hg=>?_
 simp (disch:=omega) only [go_sem] at hf hg
 (refine vN ?_;with_reducible repeat' first|exact Le.l|apply Sw|intro h)
 refine Z ?_
 (refine vN ?_;with_reducible repeat' first|exact Le.l|apply Sw|intro h)
 rename Nat=>b1
 first|refine AW.rB ?_|refine AW.wH ?_
 (refine vN ?_;with_reducible repeat' first|exact Le.l|apply Sw|intro h)
 rename Nat=>b2
 refine AW.imp (Imp.nZ (b:=b2) 1 [.sl true 1 (x.ax.map AV.str),.sl true 3 (x.cL.map (aj true))] [] gO ?_)
 simp (maxSteps:=2000000) (disch:=omega) only [go_sem]
 (refine vK ?_;with_reducible repeat' first|exact Le.l|apply Sw|intro h)
 refine AW.iA [17] [1,2,3,15,16] (fun m xs o=>∃ k:Nat,xs=[.v (.int .i64 k)]/\o=[(b2,some [.sl true 1 (x.ax.map AV.str),.sl true 3 (x.cL.map (aj true)),.sl true 1 ((x.bt.take k).map (bD true))]),(b1,some [.v (.slice none 0 0),.v (.slice none 0 0),.v (.slice none 0 0)])]/\m=x.bt.length - k/\k<=x.bt.length) x.bt.length [(b2,some [.sl true 1 (x.ax.map AV.str),.sl true 3 (x.cL.map (aj true)),.sl true 1 ((x.bt.take 0).map (bD true))]),(b1,some [.v (.slice none 0 0),.v (.slice none 0 0),.v (.slice none 0 0)])] gO ⟨0,rfl,rfl,rfl,by omega⟩ ?_
 rintro m xs o ⟨k,rfl,rfl,rfl,hk⟩
 have hlt:(x.bt.take k).length=k:=by rw [List.length_take];omega
 refine vO ?_;intros;refine AW.c (fun h=>?_) fun h=>?_
 ·refine AW.imp (Imp.iZ (b0:=b2) (k:=2) (sz:=1) (l:=(x.bt.take k).map (bD true)) (eQ _ _ _) rfl (bB (fun _=>rfl) _) (fun g hg'=>?_) (fun hnil=>?_))
  ·have hb1:=hg'.nf
   simp only [go_sem] at hb1
   simp only [List.set_cons_zero,List.set_cons_succ,List.length_map]
   (refine vU ?_;with_reducible repeat' first|exact Le.l|apply Sw|intro h)
   ·rw [bH (sz:=1) (bB (fun _=>rfl) _),List.length_map,Nat.mul_one]
   rename Nat=>g2
   refine Imp.tq (b0:=b2) (k:=2) (b:=g2) (sz:=1) (cells0:=[.sl true 1 (x.ax.map AV.str),.sl true 3 (x.cL.map (aj true)),.arr g2 0 ((x.bt.take k).length+1) 1]) (l:=(x.bt.take k).map (bD true)) (bD true (at_ x.bt k)) gO (by rw [List.length_map];rfl) (by simp (maxSteps:=2000000) (disch:=omega) only [go_sem];try rfl) (by omega) (bB (fun _=>rfl) _) rfl ?_
   simp only [List.set_cons_zero,List.set_cons_succ]
   exact ⟨trivial,_,[_],_,by omega,⟨k+1,rfl,rfl,rfl,by omega⟩,rfl,by rw [db (by assumption),List.map_append];simp (maxSteps:=2000000) (disch:=omega) only [go_sem];try rfl⟩
  ·simp only [List.set_cons_zero,List.set_cons_succ,hnil]
   (refine vU ?_;with_reducible repeat' first|exact Le.l|apply Sw|intro h)
   have hk0:k=0:=by rw [List.map_eq_nil_iff] at hnil;rw [hnil] at hlt;exact hlt.symm
   subst hk0
   refine Imp.id ?_
   simp (maxSteps:=2000000) (disch:=omega) only [go_sem]
   exact ⟨_,[_],_,by omega,⟨1,rfl,rfl,rfl,by omega⟩,rfl,by rw [db (by assumption)];simp (maxSteps:=2000000) (disch:=omega) only [go_sem];try rfl⟩
 ·rw [show k=x.bt.length by omega,List.take_length]
  all_goals exact uU
instance aaF(x:dm):Ctr lim Tryz.prog 61 [] [.agg [.sl false 1 (x.ax.map AV.str),.sl false 3 (x.cL.map (aj false)),.sl false 1 (x.bt.map (bD false))]] (.agg [.sl true 1 (x.ax.map AV.str),.sl true 3 (x.cL.map (aj true)),.sl true 1 (x.bt.map (bD true))]) [] True:=by
 refine Ctr.bd Tryz.func61 Tryz.ntmps61 rfl rfl fun hp=>?_
 have gOn:=bA.on
 refine AW.kU 0 rfl (xs:=x.ax.map AV.str) (own:=false) (sz:=1) (by simp) fun hf=>?_
 refine AW.kU 0 rfl (xs:=x.bt.map (bD false)) (own:=false) (sz:=1) (by simp) fun hg=>?_
 simp (disch:=omega) only [go_sem] at hf hg
 (refine vN ?_;with_reducible repeat' first|exact Le.l|apply Sw|intro h)
 refine Z ?_
 (refine vN ?_;with_reducible repeat' first|exact Le.l|apply Sw|intro h)
 rename Nat=>b1
 first|refine AW.rB ?_|refine AW.wH ?_
 (refine vN ?_;with_reducible repeat' first|exact Le.l|apply Sw|intro h)
 rename Nat=>b2
 refine AW.imp (Imp.nZ (b:=b2) 1 [.sl true 1 (x.ax.map AV.str),.sl true 3 (x.cL.map (aj true))] [] gO ?_)
 simp (maxSteps:=2000000) (disch:=omega) only [go_sem]
 (refine vK ?_;with_reducible repeat' first|exact Le.l|apply Sw|intro h)
 refine AW.iA [4] [1,2,3] (fun m xs o=>∃ k:Nat,xs=[.v (.int .i64 k)]/\o=[(b2,some [.sl true 1 (x.ax.map AV.str),.sl true 3 (x.cL.map (aj true)),.sl true 1 ((x.bt.take k).map (bD true))]),(b1,some [.v (.slice none 0 0),.v (.slice none 0 0),.v (.slice none 0 0)])]/\m=x.bt.length - k/\k<=x.bt.length) x.bt.length [(b2,some [.sl true 1 (x.ax.map AV.str),.sl true 3 (x.cL.map (aj true)),.sl true 1 ((x.bt.take 0).map (bD true))]),(b1,some [.v (.slice none 0 0),.v (.slice none 0 0),.v (.slice none 0 0)])] gO ⟨0,rfl,rfl,rfl,by omega⟩ ?_
 rintro m xs o ⟨k,rfl,rfl,rfl,hk⟩
 have hlt:(x.bt.take k).length=k:=by rw [List.length_take];omega
 refine vO ?_;intros;refine AW.c (fun h=>?_) fun h=>?_
 ·refine AW.imp (Imp.iZ (b0:=b2) (k:=2) (sz:=1) (l:=(x.bt.take k).map (bD true)) (eQ _ _ _) rfl (bB (fun _=>rfl) _) (fun g hg'=>?_) (fun hnil=>?_))
  ·have hb1:=hg'.nf
   simp only [go_sem] at hb1
   simp only [List.set_cons_zero,List.set_cons_succ,List.length_map]
   (refine vU ?_;with_reducible repeat' first|exact Le.l|apply Sw|intro h)
   ·rw [bH (sz:=1) (bB (fun _=>rfl) _),List.length_map,Nat.mul_one]
   rename Nat=>g2
   refine Imp.tq (b0:=b2) (k:=2) (b:=g2) (sz:=1) (cells0:=[.sl true 1 (x.ax.map AV.str),.sl true 3 (x.cL.map (aj true)),.arr g2 0 ((x.bt.take k).length+1) 1]) (l:=(x.bt.take k).map (bD true)) (bD true (at_ x.bt k)) gO (by rw [List.length_map];rfl) (by simp (maxSteps:=2000000) (disch:=omega) only [go_sem];try rfl) (by omega) (bB (fun _=>rfl) _) rfl ?_
   simp only [List.set_cons_zero,List.set_cons_succ]
   exact ⟨trivial,_,[_],_,by omega,⟨k+1,rfl,rfl,rfl,by omega⟩,rfl,by rw [db (by assumption),List.map_append];simp (maxSteps:=2000000) (disch:=omega) only [go_sem];try rfl⟩
  ·simp only [List.set_cons_zero,List.set_cons_succ,hnil]
   (refine vU ?_;with_reducible repeat' first|exact Le.l|apply Sw|intro h)
   have hk0:k=0:=by rw [List.map_eq_nil_iff] at hnil;rw [hnil] at hlt;exact hlt.symm
   subst hk0
   refine Imp.id ?_
   simp (maxSteps:=2000000) (disch:=omega) only [go_sem]
   exact ⟨_,[_],_,by omega,⟨1,rfl,rfl,rfl,by omega⟩,rfl,by rw [db (by assumption)];simp (maxSteps:=2000000) (disch:=omega) only [go_sem];try rfl⟩
 ·rw [show k=x.bt.length by omega,List.take_length]
  all_goals exact uU
end
section
attribute [-instance] F4 Ji cPf
theorem xl:∀ (n:Nat) (l:List au) (k:Int),fS lim Tryz.prog 20 4 (l.map (aH true)) [.v (.int .i64 k)] (.v (.int .i64 (mkL cf l k).2)) ((mkL cf l k).1.map (aH true)) (SizeOf.sizeOf l<n/\0<=k/\(mkL cf l k).2<=1099511627776)
 | 0,l,k=>⟨(aM 20),fun h=>absurd h.1 (Nat.not_lt_zero _)⟩
 | n+1,l,k=>by
  have ih:=xl n
  refine fS.of (aM 20) (fun b=>?_) (fun e=>?_) (by simp [gB]) (bB (fun x=>by rw [bS];rfl) _) (bB (fun x=>by rw [bS];rfl) _)
  ·simp only [List.length_map]
   refine Ctr.bd Tryz.func20 Tryz.ntmps20 rfl rfl fun hp=>?_
   have hup:=bG eT l k
   (refine vU ?_;with_reducible repeat' first|exact Le.l|apply Sw|intro h)
   refine AW.iA [1,5] [0] (fun m xs o=>∃ i:Nat,xs=[.v (.int .i64 (mkc cf l k i)),.v (.int .i64 i)]/\o=[(b,some (((mkp cf l k i).map (aH true)).flatMap AV.cells))]/\m=l.length - i/\i<=l.length) l.length [(b,some ((l.map (aH true)).flatMap AV.cells))] (bw rfl) ⟨0,rfl,?_,rfl,?_⟩ ?_
   ·rw [jL]
   ·omega
   rintro m xs o ⟨i,rfl,rfl,rfl,hi⟩
   have h1:=jV (dV eT) l k i
   have h2:=eV (dV eT) l k i
   refine vO ?_;intros;refine AW.c (fun h=>?_) fun h=>?_
   ·have h3:=eV (dV eT) l k (i+1)
    rw [l8 h]
    rw [dD h] at h3
    have hpre:=kG (e:=aH true) (f:=cf) (sz:=4) (k:=k) (fun x=>by rw [bS];rfl) hi
    have hpost:(((l.drop (i+1)).map (aH true)).flatMap AV.cells).length=(l.length - (i+1)) * 4:=by
     rw [lq (e:=aH true) (sz:=4) (fun x=>by rw [bS];rfl),List.length_drop]
    have hnx:=jM (e:=aH true) (f:=cf) (k:=k) h
    have hkk:SizeOf.sizeOf (at_ l i).af<n:=by have:=au.cd (at_mem h);omega
    rw [mK] at hnx
    generalize mkb (aH true) cf l k i=pre at hpre hnx ⊢
    generalize ((l.drop (i+1)).map (aH true)).flatMap AV.cells=post at hnx hpost ⊢
    generalize e1:at_ l i=x at *
    generalize e2:mkc cf l k i=c at *
    rw [bS]
    simp only [bS] at hnx
    refine AW.imp (Imp.sO (b:=b) pre [_,_,_,_] post (eQ _ _ _) fun hs=>?_)
    simp (maxSteps:=2000000) (disch:=omega) only [go_sem]
    have g0:=bG eT x.af (c+1+1+1)
    rw [mK] at h3;simp only at h3
    (refine vK ?_;with_reducible repeat' first|exact Le.l|apply Sw|intro h)
    refine Imp.uf (b:=b) pre [_,_,_,_] post (eQ _ _ _) ?_
    simp (maxSteps:=2000000) (disch:=omega) only [go_sem]
    exact ⟨_,[_,_],_,by omega,⟨i+1,by rw [dD h,e1,e2,mK],rfl,rfl,by omega⟩,rfl,bw hnx⟩
   ·rw [iW h,kF h]
    all_goals exact uU
  ·have:l=[]:=by simpa using e
   subst this
   refine ⟨?_,rfl⟩
   refine Ctr.bd Tryz.func20 Tryz.ntmps20 rfl rfl fun hp=>?_
   (refine vU ?_;with_reducible repeat' first|exact Le.l|apply Sw|intro h)
   refine AW.aA [] [0,1,5] (fun m xs o=>xs=[]/\o=[]) 0 [] trivial ⟨rfl,rfl⟩ ?_
   rintro m xs o ⟨rfl,rfl⟩
   (refine vU ?_;with_reducible repeat' first|exact Le.l|apply Sw|intro h)
   rfl
instance SL(l:List au)(k:Int):fS lim Tryz.prog 20 4 (l.map (aH true)) [.v (.int .i64 k)] (.v (.int .i64 (mkL cf l k).2)) ((mkL cf l k).1.map (aH true)) (0<=k/\(mkL cf l k).2<=1099511627776):=⟨(aM 20),fun h=>(xl (SizeOf.sizeOf l+1) l k).out ⟨Nat.lt_succ_self _,h⟩⟩
theorem xo:∀ (n:Nat) (l:List au) (k:Int),Ctr lim Tryz.prog 21 [] [.sl false 4 ((mkL cf l k).1.map (aH false)),.v (.int .i64 k)] (.v (.int .i64 (mkL cf l k).2)) [] (SizeOf.sizeOf l<n/\0<=k/\(mkL cf l k).2<=1099511627776)
 | 0,l,k=>⟨(aM 21),fun h=>absurd h.1 (Nat.not_lt_zero _)⟩
 | n+1,l,k=>by
  have ih:=xo n
  refine Ctr.bd Tryz.func21 Tryz.ntmps21 rfl rfl fun hp=>?_
  have hup:=bG eT l k
  have hml:=gB (f:=cf) l k
  (refine vU ?_;with_reducible repeat' first|exact Le.l|apply Sw|intro h)
  refine AW.aA [1,5] [0] (fun m xs o=>∃ i:Nat,xs=[.v (.int .i64 (mkc cf l k i)),.v (.int .i64 i)]/\o=[]/\m=l.length - i/\i<=l.length) l.length [] trivial ⟨0,rfl,rfl,rfl,?_⟩ ?_
  ·omega
  rintro m xs o ⟨i,rfl,rfl,rfl,hi⟩
  have h1:=jV (dV eT) l k i
  have h2:=eV (dV eT) l k i
  refine vO ?_;intros;refine AW.c (fun h=>?_) fun h=>?_
  ·rw [hml] at h
   have h3:=eV (dV eT) l k (i+1)
   have hat:=DW (f:=cf) (k:=k) h
   rw [dD h] at h3
   have hlt:=h
   have hkk:SizeOf.sizeOf (at_ l i).af<n:=by have:=au.cd (at_mem h);omega
   rw [mK] at h3 hat
   simp only at h3 hat
   have g0:=bG eT (at_ l i).af ((mkc cf l k i)+1+1+1)
   have MT:(at_ (mkL cf l k).1 i).fOp=(mkc cf l k i):=by rw [hat];rfl
   have nO:(at_ (mkL cf l k).1 i).ae=mkT ((mkc cf l k i)+1):=by rw [hat];rfl
   have vl:(at_ (mkL cf l k).1 i).av=mkT ((mkc cf l k i)+1+1):=by rw [hat];rfl
   have Xc:(at_ (mkL cf l k).1 i).af=(mkL cf (at_ l i).af ((mkc cf l k i)+1+1+1)).1:=by rw [hat];rfl
   (repeat' first|(with_reducible first|refine Z ?_|refine Y ?_|(refine hK _ _ ?_;clear hK K)|refine And.intro ?_ ?_|exact Ct|intro (K:_->_->Prop) hK|(refine gI fun hg=>?_;try simp only [hC,reduceCtorEq] at hg;try simp only [hg]))|(refine AW.i rfl (fun h=>?_) (fun h=>?_)<;>try simp only [hC,reduceCtorEq] at h)|((with_reducible refine E ?_;repeat refine Y ?_);refine eF rfl ?_)|simp (disch:=omega) only [go_sem,MT,nO,vl,Xc,beq_self_eq_true,bne_self_eq_false,Bool.not_true]|(with_reducible intro hg;try simp only [hC,reduceCtorEq] at hg)|exact Cl|fail)
   exact ⟨_,[_,_],[],by omega,⟨i+1,by rw [dD hlt,mK],rfl,rfl,by omega⟩,rfl,trivial⟩
  ·rw [hml] at h
   rw [iW h]
   all_goals exact uU
instance SV(l:List au)(k:Int):Ctr lim Tryz.prog 21 [] [.sl false 4 ((mkL cf l k).1.map (aH false)),.v (.int .i64 k)] (.v (.int .i64 (mkL cf l k).2)) [] (0<=k/\(mkL cf l k).2<=1099511627776):=⟨(aM 21),fun h=>(xo (SizeOf.sizeOf l+1) l k).out ⟨Nat.lt_succ_self _,h⟩⟩
end
section
attribute [-instance] F4 Ji cPf
attribute [local go_sem] bD ba aI aS gf ub vz vw gV gU Xr VG
instance Ui(L:Nat->Nat)[hL:Lok L](l:List (List au)):Ctr L Tryz.prog 71 [] [.sl false 1 (l.map (bD false)),.sl false 1 (l.map (bD false))] (.v (.bool true)) [] True:=by
 refine Ctr.bd Tryz.func71 Tryz.ntmps71 rfl rfl fun hp=>?_
 refine AW.fact 0 fun hf=>?_
 simp (disch:=omega) only [go_sem,Nat.reduceBEq] at hf
 have hf:=Nat.le_trans hf (hL.le 1)
 (refine vU ?_;with_reducible repeat' first|exact Le.l|apply Sw|intro h)
 refine AW.aA [5] [0,1] (fun m xs o=>∃ k:Nat,xs=[.v (.int .i64 k)]/\o=[]/\m=l.length - k/\k<=l.length) l.length [] trivial ⟨0,?_,rfl,rfl,?_⟩ ?_
 ·rfl
 ·omega
 rintro m xs o ⟨k,rfl,rfl,rfl,hk⟩
 (refine vU ?_;with_reducible repeat' first|exact Le.l|apply Sw|intro h)
 exact ⟨_,[_],[],by omega,⟨k+1,rfl,rfl,rfl,by omega⟩,rfl,trivial⟩
instance Tg(L:Nat->Nat)[hL:Lok L](l:List (List au))(r:Int):Ctr L Tryz.prog 60 [] [.sl false 1 (l.map (bD false)),.v (.int .i64 r)] (.v (.int .i64 (aG gW l r))) [] (0<=r/\r<=1048576):=by
 refine Ctr.bd Tryz.func60 Tryz.ntmps60 rfl rfl fun hp=>?_
 refine AW.fact 0 fun hf=>?_
 simp (disch:=omega) only [go_sem,Nat.reduceBEq] at hf
 have hf:=Nat.le_trans hf (hL.le 1)
 (refine vU ?_;with_reducible repeat' first|exact Le.l|apply Sw|intro h)
 ·rw [fQ h]
 rw [gr h]
 refine AW.aA [1,5] [0] (fun m xs o=>∃ (k:Nat) (q:Int),xs=[.v (.int .i64 q),.v (.int .i64 k)]/\o=[]/\m=l.length - k/\k<=l.length/\0<=q/\q<=1048576/\eD gW (l.drop k) q=eD gW l (r - l.length)) l.length [] trivial ⟨0,_,?_,rfl,rfl,?_,?_,?_,rfl⟩ ?_
 ·rfl
 ·omega
 ·omega
 ·omega
 rintro m xs o ⟨k,q,rfl,rfl,rfl,hk,h0,h1,hR⟩
 have hle:=j5 (at_ l k) q h0
 have hz:gW (at_ l k) q=aG dM (at_ l k) q:=rfl
 (refine vU ?_;with_reducible repeat' first|exact Le.l|apply Sw|intro h)
 ·rw [fX (by assumption),if_pos (by first|exact h|(rw [hsz];exact h))] at hR;rw [hR]
 ·rw [fX (by assumption),if_neg (by omega)] at hR
  exact ⟨_,[_,_],[],by omega,⟨k+1,_,rfl,rfl,rfl,by omega,by omega,by omega,hR⟩,rfl,trivial⟩
 ·rw [j4 h] at hR;rw [hR]
instance Ta(l:List (List au)):Ctr lim Tryz.prog 65 [] [.sl false 1 (l.map (bD false))] (.sl true 1 (l.map (bD true))) [] True:=by
 refine Ctr.bd Tryz.func65 Tryz.ntmps65 rfl rfl fun hp=>?_
 refine AW.fact 0 fun hf=>?_
 simp (disch:=omega) only [go_sem,Nat.reduceBEq] at hf
 (refine vU ?_;with_reducible repeat' first|exact Le.l|apply Sw|intro h)
 refine AW.aA [4] [0,3] (fun m xs o=>∃ k:Nat,xs=[.v (.int .i64 k)]/\o=[(h,some (mkC (bD true) [.slice none 0 0] l k))]/\m=l.length - k/\k<=l.length) l.length [(h,some (mkC (bD true) [.slice none 0 0] l 0))] (bw (jN _ _ _)) ⟨0,?_,rfl,rfl,?_⟩ ?_
 ·rfl
 ·omega
 rintro m xs o ⟨k,rfl,rfl,rfl,hk⟩
 have hml:=kH (bD true) [.slice none 0 0] 1 (fun _=>rfl) rfl l k hk
 (refine vX ?_;with_reducible repeat' first|exact Le.l|apply Sw|intro h)
 ·exact ⟨_,[_],_,by omega,⟨k+1,rfl,rfl,rfl,by omega⟩,rfl,bw (by have:=l9 (bD true) [.slice none 0 0] 1 (fun _=>rfl) rfl l k h;simp only [go_sem,Nat.mul_one] at this ⊢;exact this.symm)⟩
 ·refine AW.made 2 rfl h hk (fun _=>rfl) ?_
  all_goals exact uU
instance Q6(l:List (List au))(k:Int):fS lim Tryz.prog 76 1 (l.map (bD true)) [.v (.int .i64 k)] (.v (.int .i64 (mkL eJ l k).2)) ((mkL eJ l k).1.map (bD true)) ((0<=k/\(mkL eJ l k).2<=1099511627776)/\l.length<=1048576):=by
 refine fS.of (aM 76) (fun b=>?_) (fun e=>?_) (by simp [gB]) (bB (fun _=>rfl) _) (bB (fun _=>rfl) _)
 ·simp only [List.length_map]
  refine Ctr.bd Tryz.func76 Tryz.ntmps76 rfl rfl fun hp=>?_
  have hup:=nG (f:=eJ) kD l k
  (refine vU ?_;with_reducible repeat' first|exact Le.l|apply Sw|intro h)
  refine AW.iA [1,5] [0] (fun m xs o=>∃ i:Nat,xs=[.v (.int .i64 (mkc eJ l k i)),.v (.int .i64 i)]/\o=[(b,some (((mkp eJ l k i).map (bD true)).flatMap AV.cells))]/\m=l.length - i/\i<=l.length) l.length [(b,some ((l.map (bD true)).flatMap AV.cells))] (bw rfl) ⟨0,rfl,?_,rfl,?_⟩ ?_
  ·rw [jL]
  ·omega
  rintro m xs o ⟨i,rfl,rfl,rfl,hi⟩
  have h1:=jV (kD) l k i
  have h2:=eV (kD) l k i
  refine vO ?_;intros;refine AW.c (fun h=>?_) fun h=>?_
  ·have h3:=eV (kD) l k (i+1)
   rw [l8 h]
   rw [dD h] at h3
   have hpre:=kG (e:=bD true) (f:=eJ) (sz:=1) (k:=k) (fun _=>rfl) hi
   have hpost:(((l.drop (i+1)).map (bD true)).flatMap AV.cells).length=(l.length - (i+1)) * 1:=by
    rw [lq (e:=bD true) (sz:=1) (fun _=>rfl),List.length_drop]
   have hnx:=jM (e:=bD true) (f:=eJ) (k:=k) h
   rw [Nat.mul_one] at hpre hpost
   generalize mkb (bD true) eJ l k i=pre at hpre hnx ⊢
   generalize ((l.drop (i+1)).map (bD true)).flatMap AV.cells=post at hnx hpost ⊢
   generalize e1:at_ l i=x at *
   generalize e2:mkc eJ l k i=c at *
   refine AW.imp (Imp.sO (b:=b) pre [_] post (eQ _ _ _) fun hs=>?_)
   simp (maxSteps:=2000000) (disch:=omega) only [go_sem]
   have g0:=bG eT x c
   simp only [eJ] at h3
   (refine vK ?_;with_reducible repeat' first|exact Le.l|apply Sw|intro h)
   refine Imp.uf (b:=b) pre [_] post (eQ _ _ _) ?_
   simp (maxSteps:=2000000) (disch:=omega) only [go_sem]
   exact ⟨_,[_,_],_,by omega,⟨i+1,by rw [dD h,e1,e2];rfl,rfl,rfl,by omega⟩,rfl,bw hnx⟩
  ·rw [iW h,kF h]
   all_goals exact uU
 ·have:l=[]:=by simpa using e
  subst this
  refine ⟨?_,rfl⟩
  refine Ctr.bd Tryz.func76 Tryz.ntmps76 rfl rfl fun hp=>?_
  (refine vU ?_;with_reducible repeat' first|exact Le.l|apply Sw|intro h)
  refine AW.aA [] [0,1,5] (fun m xs o=>xs=[]/\o=[]) 0 [] trivial ⟨rfl,rfl⟩ ?_
  rintro m xs o ⟨rfl,rfl⟩
  (refine vU ?_;with_reducible repeat' first|exact Le.l|apply Sw|intro h)
  rfl
instance aaB(l:List (List au))(k:Int):Ctr lim Tryz.prog 78 [] [.sl false 1 ((mkL eJ l k).1.map (bD false)),.v (.int .i64 k)] (.v (.int .i64 (mkL eJ l k).2)) [] ((0<=k/\(mkL eJ l k).2<=1099511627776)/\l.length<=1048576):=by
 refine Ctr.bd Tryz.func78 Tryz.ntmps78 rfl rfl fun hp=>?_
 have hup:=nG (f:=eJ) kD l k
 have hml:=gB (f:=eJ) l k
 (refine vU ?_;with_reducible repeat' first|exact Le.l|apply Sw|intro h)
 refine AW.aA [1,5] [0] (fun m xs o=>∃ i:Nat,xs=[.v (.int .i64 (mkc eJ l k i)),.v (.int .i64 i)]/\o=[]/\m=l.length - i/\i<=l.length) l.length [] trivial ⟨0,rfl,rfl,rfl,?_⟩ ?_
 ·omega
 rintro m xs o ⟨i,rfl,rfl,rfl,hi⟩
 have h1:=jV (kD) l k i
 have h2:=eV (kD) l k i
 refine vO ?_;intros;refine AW.c (fun h=>?_) fun h=>?_
 ·rw [hml] at h
  have h3:=eV (kD) l k (i+1)
  have hat:=DW (f:=eJ) (k:=k) h
  rw [dD h] at h3
  have hlt:=h
  simp only [eJ] at h3 hat
  have g0:=bG eT (at_ l i) ((mkc eJ l k i))
  (repeat' first|(with_reducible first|refine Z ?_|refine Y ?_|(refine hK _ _ ?_;clear hK K)|refine And.intro ?_ ?_|exact Ct|intro (K:_->_->Prop) hK|(refine gI fun hg=>?_;try simp only [hC,reduceCtorEq] at hg;try simp only [hg]))|(refine AW.i rfl (fun h=>?_) (fun h=>?_)<;>try simp only [hC,reduceCtorEq] at h)|((with_reducible refine E ?_;repeat refine Y ?_);refine eF rfl ?_)|simp (disch:=omega) only [go_sem,hat,beq_self_eq_true,bne_self_eq_false,Bool.not_true]|(with_reducible intro hg;try simp only [hC,reduceCtorEq] at hg)|exact Cl|fail)
  exact ⟨_,[_,_],[],by omega,⟨i+1,by rw [dD hlt];rfl,rfl,rfl,by omega⟩,rfl,trivial⟩
 ·rw [hml] at h
  rw [iW h]
  all_goals exact uU
instance SW(L:Nat->Nat)[hL:Lok L](x:dm):Ctr L Tryz.prog 28 [] [.agg [.sl false 1 (x.ax.map AV.str),.sl false 3 (x.cL.map (aj false)),.sl false 1 (x.bt.map (bD false))],.agg [.sl false 1 (x.ax.map AV.str),.sl false 3 (x.cL.map (aj false)),.sl false 1 (x.bt.map (bD false))]] (.v (.bool true)) [] True:=by
 refine Ctr.bd Tryz.func28 Tryz.ntmps28 rfl rfl fun hp=>?_
 all_goals exact uU
instance Sx(L:Nat->Nat)[hL:Lok L](x:dm)(r:Int):Ctr L Tryz.prog 23 [] [.agg [.sl false 1 (x.ax.map AV.str),.sl false 3 (x.cL.map (aj false)),.sl false 1 (x.bt.map (bD false))],.v (.int .i64 r)] (.v (.int .i64 (fE x r))) [] (0<=r/\r<=1048576):=by
 refine Ctr.bd Tryz.func23 Tryz.ntmps23 rfl rfl fun hp=>?_
 refine AW.fact 0 fun hf=>?_
 simp (disch:=omega) only [go_sem,Nat.reduceBEq] at hf
 have le0:=aZ aC aY x.ax r
 have le1:=aZ bM dC x.cL (aG aC x.ax r)
 have le2:=aZ gW j5 x.bt (aG bM x.cL (aG aC x.ax r))
 unfold fE
 ((refine vU ?_;with_reducible repeat' first|exact Le.l|apply Sw|intro h);all_goals simp only [thn,aC,id];all_goals refine congrArg (fun z=>AV.v (.int .i64 z)) ?_;all_goals (repeat' split);all_goals omega)
instance Sr(x:dm):Ctr lim Tryz.prog 26 [] [.agg [.sl false 1 (x.ax.map AV.str),.sl false 3 (x.cL.map (aj false)),.sl false 1 (x.bt.map (bD false))]] (.agg [.sl true 1 (x.ax.map AV.str),.sl true 3 (x.cL.map (aj true)),.sl true 1 (x.bt.map (bD true))]) [] True:=by
 refine Ctr.bd Tryz.func26 Tryz.ntmps26 rfl rfl fun hp=>?_
 all_goals exact uU
end
section
theorem OC(cs:List Str):List.drop (Int.toNat 1) (List.take cs.length (cs.map AV.str))=(cs.drop 1).map AV.str:=by
 rw [List.take_of_length_le (by simp),List.map_drop];rfl
attribute [local go_sem] ba aI aS cU cT dy fZ gH OC
end
section
attribute [-instance] F4 Ji cPf
theorem E0(x:au):(aH true x).closed=true:=by
 rw [bS]
 simp only [AV.closed,AV.ck,dz x.af (fun y hy=>E0 y),Bool.true_and,Bool.and_true]
termination_by SizeOf.sizeOf x
decreasing_by have:=List.sizeOf_lt_of_mem hy;cases x;simp [au.af] at *;omega
theorem jz(l:List au):AV.ck (l.map (aH true))=true:=dz l fun x _=>E0 x
attribute [local go_sem] bD ba aI aS gf vz vw gV gU jz
instance XZ(x:dm)(k:Int):nF lim Tryz.prog 31 true [.sl true 1 (x.ax.map AV.str),.sl true 3 (x.cL.map (aj true)),.sl true 1 (x.bt.map (bD true))] [.v (.int .i64 k)] (.v (.int .i64 (mkL eJ x.bt (mkL aT x.cL (mkL ay x.ax k).2).2).2)) [.sl true 1 ((mkL ay x.ax k).1.map AV.str),.sl true 3 ((mkL aT x.cL (mkL ay x.ax k).2).1.map (aj true)),.sl true 1 ((mkL eJ x.bt (mkL aT x.cL (mkL ay x.ax k).2).2).1.map (bD true))] ((0<=k/\(mkL eJ x.bt (mkL aT x.cL (mkL ay x.ax k).2).2).2<=1099511627776)/\x.bt.length<=1048576):=by
 refine ⟨(aM 31),fun hp=>InC.gA Tryz.func31 rfl rfl rfl (fun hs=>rfl) (fun hs=>rfl) (fun hs=>rfl) rfl fun hs=>?_⟩
 rw [Tryz.ntmps31]
 have g0:=bG iP x.ax k
 have g1:=bG dO x.cL (mkL ay x.ax k).2
 have g2:=nG (f:=eJ) kD x.bt (mkL aT x.cL (mkL ay x.ax k).2).2
 (refine bX ?_;with_reducible repeat' first|exact Le.l|apply Sw|intro h)
 refine AW.ret (aJ.inp h rfl ?_)
 simp (maxSteps:=2000000) (disch:=omega) only [go_sem]
instance aau(x:dm)(k:Int):Ctr lim Tryz.prog 32 [] [.agg [.sl false 1 ((mkL ay x.ax k).1.map AV.str),.sl false 3 ((mkL aT x.cL (mkL ay x.ax k).2).1.map (aj false)),.sl false 1 ((mkL eJ x.bt (mkL aT x.cL (mkL ay x.ax k).2).2).1.map (bD false))],.v (.int .i64 k)] (.v (.int .i64 (mkL eJ x.bt (mkL aT x.cL (mkL ay x.ax k).2).2).2)) [] ((0<=k/\(mkL eJ x.bt (mkL aT x.cL (mkL ay x.ax k).2).2).2<=1099511627776)/\x.bt.length<=1048576):=by
 refine Ctr.bd Tryz.func32 Tryz.ntmps32 rfl rfl fun hp=>?_
 have g0:=bG iP x.ax k
 have g1:=bG dO x.cL (mkL ay x.ax k).2
 have g2:=nG (f:=eJ) kD x.bt (mkL aT x.cL (mkL ay x.ax k).2).2
 all_goals exact uU
end
end Go.Proofs
namespace Go.Ab
end Go.Ab
namespace Go.Ab
open Go.Dt
theorem qp{P:Program}{W:World}{name:String}{k:IntKind}{zs:List Int}{g:Nat}{t e:TypeId}{n:Nat}
  (hg:P.globalNamed name=some g) (hty:(P.globals[g]?).map (·.type)=some t) (ht:P.underlying t=some (.array n e)) (he:P.underlying e=some (.int k)) (hce:P.cellsOf e=1) (hct:P.cellsOf t=n) :
  ∀ {l:List (String×DataW Unit)} {ps:List MemPlace},(name,Lib.tabData k zs)∈l->DataW.LaidVars P W l ps->Lib.TabIs P W name k zs
 | [],_,hm,_=>by cases hm
 | (nm,d)::r,ps,hm,h=>by
  obtain ⟨g',t',cs,fuel,p,q,hg',ht',hvar,hd,hr,_⟩:=h
  rcases List.mem_cons.1 hm with e1|hm
  ·obtain ⟨rfl,rfl⟩:=Prod.mk.inj e1
   obtain rfl:=Option.some.inj (hg.symm.trans hg')
   obtain rfl:=Option.some.inj (hty.symm.trans ht')
   unfold Lib.TabIs
   rw [hvar,<- Lib.cells_of_tab ht he hce hct hd]
  ·exact qp hg hty ht he hce hct hm hr
theorem ym{P:Program}{os:Os}{laid:List (String×DataW Unit)}(args:Array Value)(hp:(laid.all fun x=>x.2.handleName?.isNone)=true)
  (hf:(World.holding P os ⟨#[],#[],[]⟩).layFits P laid []=true)
  (hi:(World.holding P os ⟨#[],#[],[]⟩).layIfaces P laid (World.laidAll P os laid)=true) :
  laidMetH P laid ((World.laidAll P os laid).forCall (fun _ _=>0) ⟨#[],args,[]⟩).memory:=by
 rw [MakeChecks.laidMetH_plain _ _ _ hp];exact laidMet_laidAll args hf hi
end Go.Ab
namespace Go.Proofs
open Go.Ab Go.Dt
section
attribute [local go_sem] bD ba aI aS gf vz vw gV gU jz
end
section
attribute [-instance] F4 Ji cPf
theorem I5(l:List (List au)):AV.ck (l.map (bD true))=true:=dz l fun x _=>by simp only [bD,AV.closed,jz,Bool.and_self]
instance eqW_z(L:Nat->Nat)[hL:Lok L](a:List Str)(b:List ah)(c:List (List au)):Ctr L Tryz.prog 28 [] [.agg [.sl false 1 (a.map AV.str),.sl false 3 (b.map (aj false)),.sl false 1 (c.map (bD false))],.agg [.sl false 1 (a.map AV.str),.sl false 3 (b.map (aj false)),.sl false 1 (c.map (bD false))]] (.v (.bool true)) [] True:=SW L ⟨a,b,c⟩
instance aaH(a:List Str)(b:List ah)(c:List (List au))(k:Int):Ctr lim Tryz.prog 32 [] [.agg [.sl false 1 ((mkL ay a k).1.map AV.str),.sl false 3 ((mkL aT b (mkL ay a k).2).1.map (aj false)),.sl false 1 ((mkL eJ c (mkL aT b (mkL ay a k).2).2).1.map (bD false))],.v (.int .i64 k)] (.v (.int .i64 (mkL eJ c (mkL aT b (mkL ay a k).2).2).2)) [] ((0<=k/\(mkL eJ c (mkL aT b (mkL ay a k).2).2).2<=1099511627776)/\c.length<=1048576):=aau ⟨a,b,c⟩ k
end
end Go.Proofs
