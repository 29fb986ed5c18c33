/- Part of a proof. -/
import Derived.Test.YtbiikafnjialjaaGreatDoorG11
import Derived.Test.YtbiikafnjialjaaGreatDoorG12
set_option linter.all false
set_option maxRecDepth 20000
set_option maxHeartbeats 4000000
namespace Go.Dt
open Go.Ab
@[go_sem] theorem kW(a:Int)(b:Str)(c:List bg):(bg.mk a b c).fOp=a:=rfl
@[go_sem] theorem iP(a:Int)(b:Str)(c:List bg):(bg.mk a b c).bW=b:=rfl
@[go_sem] theorem iQ(a:Int)(b:Str)(c:List bg):(bg.mk a b c).ag=c:=rfl
def rdC(s:Str)(i:Nat)(bad:Bool):List AV:=[.str s,.v (.int .i64 i),.v (.bool bad)]
def RdQ(b:Nat)(s:Str)(i:Nat)(r:Option (bg×Nat))(res:AV)(os:Sto):Prop :=
 ∃ p j bad,(bad=false/\r=some (p,j)\/bad=true/\r=none)/\(i<=j/\j<=s.length)/\res=bF p/\os=[(b,some (rdC s j bad))]
theorem RdQ.yes{b:Nat}{s:Str}{i:Nat}{r:Option (bg×Nat)}{p:bg}{j:Nat}(h:r=some (p,j))(hj:i<=j/\j<=s.length):RdQ b s i r (bF p) [(b,some (rdC s j false))]:=⟨p,j,false,.inl ⟨rfl,h⟩,hj,rfl,rfl⟩
theorem RdQ.no{b:Nat}{s:Str}{i:Nat}{r:Option (bg×Nat)}(p:bg){j:Nat}(h:r=none)(hj:i<=j/\j<=s.length):RdQ b s i r (bF p) [(b,some (rdC s j true))]:=⟨p,j,true,.inr ⟨rfl,h⟩,hj,rfl,rfl⟩
theorem GK.rdB{os:Sto}{b:Nat}{c:Option (List AV)}{s:Str}{i:Nat}{r:Option (bg×Nat)}{K:AV->Sto->Prop}(h:∀ p j bad,(bad=false/\r=some (p,j)\/bad=true/\r=none)->i<=j/\j<=s.length->K (bF p) (gJ os [(b,some (rdC s j bad))])):GK os [(b,c)] (RdQ b s i r) (K:=⟨K⟩):=by
 refine GK.intro ?_
 rintro res os' ⟨p,j,bad,hr,hj,rfl,rfl⟩
 exact ⟨rfl,h p j bad hr hj⟩
theorem GK.rd{os:Sto}{b:Nat}{c:Option (List AV)}{s:Str}{i:Nat}{r:Option (bg×Nat)}{K:AV->Sto->Prop}(h1:∀ p j,r=some (p,j)->i<=j/\j<=s.length->K (bF p) (gJ os [(b,some (rdC s j false))]))(h2:∀ p j,r=none->i<=j/\j<=s.length->K (bF p) (gJ os [(b,some (rdC s j true))])):GK os [(b,c)] (RdQ b s i r) (K:=⟨K⟩):=by
 refine GK.rdB ?_
 rintro p j bad (⟨rfl,h⟩|⟨rfl,h⟩) hj
 ·exact h1 p j h hj
 ·exact h2 p j h hj
theorem aF.dO{L:Nat->Nat}{P:Program}{n:Nat}{fn:Func}{t:List (Nat×AV)}{o o':Sto}{rs:List ResultVar}{res:AV}{Q:AV->Sto->Prop}(hr:fn.results=rs.toArray)(hQ:Q res o')(h:n8 P n rs t o [] (fun xs os=>pj xs=res/\iz o' os)):aF L P fn ⟨n,t,o⟩ Q:=by
 have:=aF.fin (L:=L) hr h
 intro B F0 w0 a w hd
 obtain ⟨v,Cj,os',F',own',fs',fp,h3,⟨rfl,rfl⟩,h5⟩:=this B F0 w0 a w hd
 exact ⟨v,Cj,os',F',own',fs',fp,h3,hQ,h5⟩
attribute [go_sem] rdC Int.toNat_zero
end Go.Dt
namespace Go.Proofs
open Go.Ab Go.Dt
section
theorem OI(n:Nat)(Rf:∀ (b:Nat) (s:Str) (i:Nat),dS lim Tryz.prog 358 [(b,some [.str s,.v (.int .i64 i),.v (.bool false)])] [.ptr b 0] (RdQ b s i (iT s i)) (i<s.length/\s.length<=30/\s.length - i<n))(b:Nat)(s:Str)(i:Nat) :
  dS lim Tryz.prog 338 [(b,some [.str s,.v (.int .i64 i),.v (.bool false)])] [.ptr b 0] (RdQ b s i (j9 s i)) (i<s.length/\s.length<=30/\s.length - i<n):=by
 refine dS.eO (aW 338) Tryz.func338 rfl rfl fun hp=>(?_);rw [Tryz.ntmps338]
 (refine vK ?_;with_reducible repeat' first|exact Le.l|apply Sw|intro (K:_->_->Prop) hK|intro h)
 rename_i b2
 have T9:∀ p j,iT s i=some (p,j)->j9 s i=some (post s p j):=fun p j h=>by rw [j9,h]
 refine GK.rd (fun p j hq hj=>?_) (fun p j hq hj=>?_)
 ·have hb:=wG hq
  have hpi:=T9 p j hq
  (refine vK ?_;with_reducible repeat' first|exact Le.l|apply Sw|intro (K:_->_->Prop) hK|intro h)
  rename_i b3
  refine AW.c (fun h=>?_) fun h=>?_
  ·simp only [h,cond_true]
   have hlt:=cw.1 h
   (refine vK ?_;with_reducible repeat' first|exact Le.l|apply Sw|intro (K:_->_->Prop) hK|intro h)
   (refine AW.ret (aF.imp (Imp.eK (b:=b2) (by simp (maxSteps:=2000000) (disch:=omega) only [go_sem];rfl) ?_));simp (maxSteps:=2000000) (disch:=omega) only [go_sem];refine aF.dO rfl (RdQ.yes (p:=.mk 4 [] [p]) (j:=j+1) (by rw [hpi,post];simp [*]) (by omega)) ?_;simp (maxSteps:=2000000) (disch:=omega) only [go_sem])
  ·simp only [h,cond_false]
   (refine vK ?_;with_reducible repeat' first|exact Le.l|apply Sw|intro (K:_->_->Prop) hK|intro h)
   refine AW.c (fun h=>?_) fun h=>?_
   ·simp only [h,cond_true]
    have hlt:=cw.1 h
    (refine vK ?_;with_reducible repeat' first|exact Le.l|apply Sw|intro (K:_->_->Prop) hK|intro h)
    (refine AW.ret (aF.imp (Imp.eK (b:=b2) (by simp (maxSteps:=2000000) (disch:=omega) only [go_sem];rfl) ?_));simp (maxSteps:=2000000) (disch:=omega) only [go_sem];refine aF.dO rfl (RdQ.yes (p:=.mk 2 [] [p,.mk 4 [] [p]]) (j:=j+1) (by rw [hpi,post];simp [*]) (by omega)) ?_;simp (maxSteps:=2000000) (disch:=omega) only [go_sem])
   ·simp only [h,cond_false]
    (refine vK ?_;with_reducible repeat' first|exact Le.l|apply Sw|intro (K:_->_->Prop) hK|intro h)
    refine AW.c (fun h=>?_) fun h=>?_
    ·simp only [h,cond_true]
     have hlt:=cw.1 h
     (refine vK ?_;with_reducible repeat' first|exact Le.l|apply Sw|intro (K:_->_->Prop) hK|intro h)
     (refine AW.ret (aF.imp (Imp.eK (b:=b2) (by simp (maxSteps:=2000000) (disch:=omega) only [go_sem];rfl) ?_));simp (maxSteps:=2000000) (disch:=omega) only [go_sem];refine aF.dO rfl (RdQ.yes (p:=.mk 5 [] [p]) (j:=j+1) (by rw [hpi,post];simp [*]) (by omega)) ?_;simp (maxSteps:=2000000) (disch:=omega) only [go_sem])
    ·simp only [h,cond_false]
     (refine vK ?_;with_reducible repeat' first|exact Le.l|apply Sw|intro (K:_->_->Prop) hK|intro h)
     (refine AW.ret (aF.imp (Imp.eK (b:=b2) (by simp (maxSteps:=2000000) (disch:=omega) only [go_sem];rfl) ?_));simp (maxSteps:=2000000) (disch:=omega) only [go_sem];refine aF.dO rfl (RdQ.yes (p:=p) (j:=j) (by rw [hpi,post];simp [*]) (by omega)) ?_;simp (maxSteps:=2000000) (disch:=omega) only [go_sem])
 ·have hpi:j9 s i=none:=by rw [j9,hq]
  (refine vK ?_;with_reducible repeat' first|exact Le.l|apply Sw|intro (K:_->_->Prop) hK|intro h)
  rename_i b3
  refine AW.c (fun h=>?_) fun h=>?_
  ·simp only [h,cond_true]
   have hlt:=cw.1 h
   (refine vK ?_;with_reducible repeat' first|exact Le.l|apply Sw|intro (K:_->_->Prop) hK|intro h)
   (refine AW.ret (aF.imp (Imp.eK (b:=b2) (by simp (maxSteps:=2000000) (disch:=omega) only [go_sem];rfl) ?_));simp (maxSteps:=2000000) (disch:=omega) only [go_sem];refine aF.dO rfl (RdQ.no (.mk 4 [] [p]) (j:=j+1) hpi (by omega)) ?_;simp (maxSteps:=2000000) (disch:=omega) only [go_sem])
  ·simp only [h,cond_false]
   (refine vK ?_;with_reducible repeat' first|exact Le.l|apply Sw|intro (K:_->_->Prop) hK|intro h)
   refine AW.c (fun h=>?_) fun h=>?_
   ·simp only [h,cond_true]
    have hlt:=cw.1 h
    (refine vK ?_;with_reducible repeat' first|exact Le.l|apply Sw|intro (K:_->_->Prop) hK|intro h)
    (refine AW.ret (aF.imp (Imp.eK (b:=b2) (by simp (maxSteps:=2000000) (disch:=omega) only [go_sem];rfl) ?_));simp (maxSteps:=2000000) (disch:=omega) only [go_sem];refine aF.dO rfl (RdQ.no (.mk 2 [] [p,.mk 4 [] [p]]) (j:=j+1) hpi (by omega)) ?_;simp (maxSteps:=2000000) (disch:=omega) only [go_sem])
   ·simp only [h,cond_false]
    (refine vK ?_;with_reducible repeat' first|exact Le.l|apply Sw|intro (K:_->_->Prop) hK|intro h)
    refine AW.c (fun h=>?_) fun h=>?_
    ·simp only [h,cond_true]
     have hlt:=cw.1 h
     (refine vK ?_;with_reducible repeat' first|exact Le.l|apply Sw|intro (K:_->_->Prop) hK|intro h)
     (refine AW.ret (aF.imp (Imp.eK (b:=b2) (by simp (maxSteps:=2000000) (disch:=omega) only [go_sem];rfl) ?_));simp (maxSteps:=2000000) (disch:=omega) only [go_sem];refine aF.dO rfl (RdQ.no (.mk 5 [] [p]) (j:=j+1) hpi (by omega)) ?_;simp (maxSteps:=2000000) (disch:=omega) only [go_sem])
    ·simp only [h,cond_false]
     (refine vK ?_;with_reducible repeat' first|exact Le.l|apply Sw|intro (K:_->_->Prop) hK|intro h)
     (refine AW.ret (aF.imp (Imp.eK (b:=b2) (by simp (maxSteps:=2000000) (disch:=omega) only [go_sem];rfl) ?_));simp (maxSteps:=2000000) (disch:=omega) only [go_sem];refine aF.dO rfl (RdQ.no p (j:=j) hpi (by omega)) ?_;simp (maxSteps:=2000000) (disch:=omega) only [go_sem])
end
section
theorem Qz(n:Nat)(WN:∀ (b:Nat) (s:Str) (i:Nat),dS lim Tryz.prog 338 [(b,some [.str s,.v (.int .i64 i),.v (.bool false)])] [.ptr b 0] (RdQ b s i (j9 s i)) (i<s.length/\s.length<=30/\s.length - i<n))(b:Nat)(s:Str)(i:Nat) :
  dS lim Tryz.prog 315 [(b,some [.str s,.v (.int .i64 i),.v (.bool false)])] [.ptr b 0] (RdQ b s i (gp s i [])) (i<=s.length/\s.length<=30/\s.length - i<n):=by
 refine dS.eO (aW 315) Tryz.func315 rfl rfl fun hp=>(?_);rw [Tryz.ntmps315]
 (refine vK ?_;with_reducible repeat' first|exact Le.l|apply Sw|intro (K:_->_->Prop) hK|intro h)
 rename_i b2
 refine AW.aw [3] [0,2] (fun m xs o=>∃ (l:List bg) (j:Nat) (bad:Bool),xs=[.sl true 3 (l.map bF)]/\o=[(b2,some [.v (.int .i64 0),.str [],.v (.slice none 0 0)]),(b,some [.str s,.v (.int .i64 j),.v (.bool bad)])]/\m=(if bad then 0 else s.length - j+1)/\j<=s.length/\l.length<=31/\i<=j/\(bad=false->i<=j/\l.length<=j/\gp s j l=gp s i [])/\(bad=true->gp s i []=none)) _ [(b2,some [.v (.int .i64 0),.str [],.v (.slice none 0 0)]),(b,some [.str s,.v (.int .i64 i),.v (.bool false)])] (fJ (Ne.symm h) rfl rfl) ⟨[],i,false,?_,rfl,rfl,?_,?_,?_,?_,?_⟩ ?_
 ·rfl
 ·omega
 ·simp
 ·omega
 ·simp
 ·simp
 rintro m xs o ⟨l,j,bad,rfl,rfl,rfl,hj,hl0,hij,hR,hN⟩
 cases bad with
 | true =>
  have hN:=hN rfl
  (refine vK ?_;with_reducible repeat' first|exact Le.l|apply Sw|intro (K:_->_->Prop) hK|intro h)
  (refine AW.i rfl (fun h=>?_) (fun h=>?_)<;>try simp only [hC,reduceCtorEq] at h)
  refine AW.imp (Imp.frz 3 ?_)
  simp (maxSteps:=2000000) (disch:=omega) only [go_sem]
  (refine vK ?_;with_reducible repeat' first|exact Le.l|apply Sw|intro (K:_->_->Prop) hK|intro h)
  refine AW.c (fun h=>?_) fun h=>?_
  ·(refine vK ?_;with_reducible repeat' first|exact Le.l|apply Sw|intro (K:_->_->Prop) hK|intro h)
   (refine AW.ret (aF.imp (Imp.eK (b:=b2) (by simp (maxSteps:=2000000) (disch:=omega) only [go_sem];rfl) ?_));simp (maxSteps:=2000000) (disch:=omega) only [go_sem];refine aF.dO rfl (RdQ.no (at_ l 0) (j:=j) hN (by omega)) ?_;simp (maxSteps:=2000000) (disch:=omega) only [go_sem])
  ·(refine vK ?_;with_reducible repeat' first|exact Le.l|apply Sw|intro (K:_->_->Prop) hK|intro h)
   (refine AW.ret (aF.imp (Imp.eK (b:=b2) (by simp (maxSteps:=2000000) (disch:=omega) only [go_sem];rfl) ?_));simp (maxSteps:=2000000) (disch:=omega) only [go_sem];refine aF.dO rfl (RdQ.no (.mk 2 [] l) (j:=j) hN (by omega)) ?_;simp (maxSteps:=2000000) (disch:=omega) only [go_sem])
 | false =>
  have hR:=hR rfl
  (refine vK ?_;with_reducible repeat' first|exact Le.l|apply Sw|intro (K:_->_->Prop) hK|intro h)
  refine AW.c (fun h=>?_) fun h=>?_
  ·rename_i hc
   (refine vK ?_;with_reducible repeat' first|exact Le.l|apply Sw|intro (K:_->_->Prop) hK|intro h)
   refine GK.rd (fun p k hq hk=>?_) (fun p k hq hk=>?_)
   ·have hb:=Cu hq
    (refine vK ?_;with_reducible repeat' first|exact Le.l|apply Sw|intro (K:_->_->Prop) hK|intro h)
    exact ⟨_,[_],[(b2,some [.v (.int .i64 0),.str [],.v (.slice none 0 0)]),(b,some [.str s,.v (.int .i64 k),.v (.bool false)])],by simp;omega,⟨l++[p],k,false,rfl,rfl,rfl,by omega,by simp;omega,by omega,fun _=>⟨by omega,by simp;omega,by rw [<- hR.2.2,ES l h.1.1 h.1.2 h.2 hq]⟩,by simp⟩,by simp [dG],by simp (maxSteps:=2000000) (disch:=omega) only [go_sem]⟩
   ·(refine vK ?_;with_reducible repeat' first|exact Le.l|apply Sw|intro (K:_->_->Prop) hK|intro h)
    exact ⟨_,[_],[(b2,some [.v (.int .i64 0),.str [],.v (.slice none 0 0)]),(b,some [.str s,.v (.int .i64 k),.v (.bool true)])],by simp,⟨l++[p],k,true,rfl,rfl,rfl,by omega,by simp;omega,by omega,by simp,fun _=>by rw [<- hR.2.2,Ag l h.1.1 h.1.2 h.2 hq]⟩,by simp [dG],by simp (maxSteps:=2000000) (disch:=omega) only [go_sem]⟩
  ·refine AW.imp (Imp.frz 3 ?_)
   simp (maxSteps:=2000000) (disch:=omega) only [go_sem]
   (refine vK ?_;with_reducible repeat' first|exact Le.l|apply Sw|intro (K:_->_->Prop) hK|intro h)
   refine AW.c (fun h=>?_) fun h=>?_
   ·(refine vK ?_;with_reducible repeat' first|exact Le.l|apply Sw|intro (K:_->_->Prop) hK|intro h)
    (refine AW.ret (aF.imp (Imp.eK (b:=b2) (by simp (maxSteps:=2000000) (disch:=omega) only [go_sem];rfl) ?_));simp (maxSteps:=2000000) (disch:=omega) only [go_sem];refine aF.dO rfl (RdQ.yes (p:=at_ l 0) (j:=j) (by rw [<- hR.2.2,qb l (by omega),mkSeq,if_pos (by omega)]) (by omega)) ?_;simp (maxSteps:=2000000) (disch:=omega) only [go_sem])
   ·(refine vK ?_;with_reducible repeat' first|exact Le.l|apply Sw|intro (K:_->_->Prop) hK|intro h)
    (refine AW.ret (aF.imp (Imp.eK (b:=b2) (by simp (maxSteps:=2000000) (disch:=omega) only [go_sem];rfl) ?_));simp (maxSteps:=2000000) (disch:=omega) only [go_sem];refine aF.dO rfl (RdQ.yes (p:=.mk 2 [] l) (j:=j) (by rw [<- hR.2.2,qb l (by omega),mkSeq,if_neg (by omega)]) (by omega)) ?_;simp (maxSteps:=2000000) (disch:=omega) only [go_sem])
instance Vb(b:Nat)(s:Str)(i:Nat):Ctr lim Tryz.prog 315 [(b,some [.str s,.v (.int .i64 i),.v (.bool true)])] [.ptr b 0] (.agg [.v (.int .i64 2),.str [],.sl false 3 []]) [some [.str s,.v (.int .i64 i),.v (.bool true)]] True:=by
 refine Ctr.bd Tryz.func315 Tryz.ntmps315 rfl rfl fun hp=>?_
 (refine vK ?_;with_reducible repeat' first|exact Le.l|apply Sw|intro (K:_->_->Prop) hK|intro h)
 rename_i b2
 refine AW.aw [3] [0,2] (fun m xs o=>xs=[.sl true 3 []]/\o=[(b2,some [.v (.int .i64 0),.str [],.v (.slice none 0 0)]),(b,some [.str s,.v (.int .i64 i),.v (.bool true)])]) 0 [(b2,some [.v (.int .i64 0),.str [],.v (.slice none 0 0)]),(b,some [.str s,.v (.int .i64 i),.v (.bool true)])] (fJ (Ne.symm h) rfl rfl) ⟨rfl,rfl⟩ ?_
 rintro m xs o ⟨rfl,rfl⟩
 (refine vK ?_;with_reducible repeat' first|exact Le.l|apply Sw|intro (K:_->_->Prop) hK|intro h)
 (refine AW.i rfl (fun h=>?_) (fun h=>?_)<;>try simp only [hC,reduceCtorEq] at h)
 refine AW.imp (Imp.frz 3 ?_)
 simp (maxSteps:=2000000) (disch:=omega) only [go_sem]
 (refine vK ?_;with_reducible repeat' first|exact Le.l|apply Sw|intro (K:_->_->Prop) hK|intro h)
 refine AW.c (fun h=>?_) fun h=>?_
 ·simp at h
 ·all_goals exact uU
theorem RI(n:Nat)(TV:∀ (b:Nat) (s:Str) (i:Nat),dS lim Tryz.prog 315 [(b,some [.str s,.v (.int .i64 i),.v (.bool false)])] [.ptr b 0] (RdQ b s i (gp s i [])) (i<=s.length/\s.length<=30/\s.length - i<n))(b:Nat)(s:Str)(i:Nat) :
  dS lim Tryz.prog 286 [(b,some [.str s,.v (.int .i64 i),.v (.bool false)])] [.ptr b 0] (RdQ b s i (gE s i)) (i<=s.length/\s.length<=30/\s.length - i<n):=by
 refine dS.eO (aW 286) Tryz.func286 rfl rfl fun hp=>(?_);rw [Tryz.ntmps286]
 (refine vK ?_;with_reducible repeat' first|exact Le.l|apply Sw|intro (K:_->_->Prop) hK|intro h)
 rename_i b2
 refine GK.rdB fun p j bad hq hj=>?_
 (refine vK ?_;with_reducible repeat' first|exact Le.l|apply Sw|intro (K:_->_->Prop) hK|intro h)
 refine AW.aw [3] [0,2] (fun m xs o=>∃ (l:List bg) (j:Nat) (bad:Bool),xs=[.sl true 3 (l.map bF)]/\o=[(b2,some [.v (.int .i64 0),.str [],.v (.slice none 0 0)]),(b,some [.str s,.v (.int .i64 j),.v (.bool bad)])]/\m=s.length - j/\j<=s.length/\l.length<=j+1/\i<=j/\(bad=false->ke s j l=gE s i)/\(bad=true->gE s i=none)) _ [(b2,some [.v (.int .i64 0),.str [],.v (.slice none 0 0)]),(b,some [.str s,.v (.int .i64 j),.v (.bool bad)])] (fJ (Ne.symm h) rfl rfl) ⟨[p],j,bad,?_,rfl,rfl,?_,?_,?_,?_,?_⟩ ?_
 ·simp [T,dG]
 ·omega
 ·simp
 ·omega
 ·rintro rfl
  rcases hq with ⟨_,hq⟩|⟨h,_⟩
  ·exact (EU hp.1 hq).symm
  ·cases h
 ·rintro rfl
  rcases hq with ⟨h,_⟩|⟨_,hq⟩
  ·cases h
  ·exact Ah hq
 clear hq hj bad
 rintro m xs o ⟨l,j,bad,rfl,rfl,rfl,hj,hl,hij,hR,hN⟩
 (refine vK ?_;with_reducible repeat' first|exact Le.l|apply Sw|intro (K:_->_->Prop) hK|intro h)
 refine AW.c (fun h=>?_) fun h=>?_
 ·simp only [h,cond_true]
  have hlt:=cw.1 h
  cases bad with
  | true =>
   have hN:=hN rfl
   (refine vK ?_;with_reducible repeat' first|exact Le.l|apply Sw|intro (K:_->_->Prop) hK|intro h)
   exact ⟨_,[_],[(b2,some [.v (.int .i64 0),.str [],.v (.slice none 0 0)]),(b,some [.str s,.v (.int .i64 (j+1:Nat)),.v (.bool true)])],by omega,⟨l++[.mk 2 [] []],j+1,true,rfl,rfl,rfl,by omega,by simp;omega,by omega,by simp,fun _=>hN⟩,by simp [dG,kW,iP,iQ],by simp (maxSteps:=2000000) (disch:=omega) only [go_sem]⟩
  | false =>
   have hR:=hR rfl
   (refine vK ?_;with_reducible repeat' first|exact Le.l|apply Sw|intro (K:_->_->Prop) hK|intro h)
   refine GK.rd (fun p k hq hk=>?_) (fun p k hq hk=>?_)
   ·(refine vK ?_;with_reducible repeat' first|exact Le.l|apply Sw|intro (K:_->_->Prop) hK|intro h)
    exact ⟨_,[_],[(b2,some [.v (.int .i64 0),.str [],.v (.slice none 0 0)]),(b,some [.str s,.v (.int .i64 k),.v (.bool false)])],by omega,⟨l++[p],k,false,rfl,rfl,rfl,by omega,by simp;omega,by omega,fun _=>by rw [<- hR,Cv l h hq],by simp⟩,by simp [dG],by simp (maxSteps:=2000000) (disch:=omega) only [go_sem]⟩
   ·(refine vK ?_;with_reducible repeat' first|exact Le.l|apply Sw|intro (K:_->_->Prop) hK|intro h)
    exact ⟨_,[_],[(b2,some [.v (.int .i64 0),.str [],.v (.slice none 0 0)]),(b,some [.str s,.v (.int .i64 k),.v (.bool true)])],by omega,⟨l++[p],k,true,rfl,rfl,rfl,by omega,by simp;omega,by omega,by simp,fun _=>by rw [<- hR,xY l h hq]⟩,by simp [dG],by simp (maxSteps:=2000000) (disch:=omega) only [go_sem]⟩
 ·rename_i WL
  simp only [h,cond_false]
  refine AW.imp (Imp.frz 3 ?_)
  simp (maxSteps:=2000000) (disch:=omega) only [go_sem]
  (refine vK ?_;with_reducible repeat' first|exact Le.l|apply Sw|intro (K:_->_->Prop) hK|intro h)
  cases bad with
  | true =>
   have hN:=hN rfl
   refine AW.c (fun h=>?_) fun h=>?_
   ·(refine vK ?_;with_reducible repeat' first|exact Le.l|apply Sw|intro (K:_->_->Prop) hK|intro h)
    (refine AW.ret (aF.imp (Imp.eK (b:=b2) (by simp (maxSteps:=2000000) (disch:=omega) only [go_sem];rfl) ?_));simp (maxSteps:=2000000) (disch:=omega) only [go_sem];refine aF.dO rfl (RdQ.no (at_ l 0) (j:=j) hN (by omega)) ?_;simp (maxSteps:=2000000) (disch:=omega) only [go_sem])
   ·(refine vK ?_;with_reducible repeat' first|exact Le.l|apply Sw|intro (K:_->_->Prop) hK|intro h)
    (refine AW.ret (aF.imp (Imp.eK (b:=b2) (by simp (maxSteps:=2000000) (disch:=omega) only [go_sem];rfl) ?_));simp (maxSteps:=2000000) (disch:=omega) only [go_sem];refine aF.dO rfl (RdQ.no (.mk 3 [] l) (j:=j) hN (by omega)) ?_;simp (maxSteps:=2000000) (disch:=omega) only [go_sem])
  | false =>
   have hR:=hR rfl
   have hst:=xX l h
   refine AW.c (fun h=>?_) fun h=>?_
   ·(refine vK ?_;with_reducible repeat' first|exact Le.l|apply Sw|intro (K:_->_->Prop) hK|intro h)
    (refine AW.ret (aF.imp (Imp.eK (b:=b2) (by simp (maxSteps:=2000000) (disch:=omega) only [go_sem];rfl) ?_));simp (maxSteps:=2000000) (disch:=omega) only [go_sem];refine aF.dO rfl (RdQ.yes (p:=at_ l 0) (j:=j) (by rw [<- hR,hst,su,if_pos (by omega)]) (by omega)) ?_;simp (maxSteps:=2000000) (disch:=omega) only [go_sem])
   ·(refine vK ?_;with_reducible repeat' first|exact Le.l|apply Sw|intro (K:_->_->Prop) hK|intro h)
    (refine AW.ret (aF.imp (Imp.eK (b:=b2) (by simp (maxSteps:=2000000) (disch:=omega) only [go_sem];rfl) ?_));simp (maxSteps:=2000000) (disch:=omega) only [go_sem];refine aF.dO rfl (RdQ.yes (p:=.mk 3 [] l) (j:=j) (by rw [<- hR,hst,su,if_neg (by omega)]) (by omega)) ?_;simp (maxSteps:=2000000) (disch:=omega) only [go_sem])
end
end Go.Proofs
namespace Go.Dt
open Go.Ab
section
def l9(s:Str)(j:Nat)(h:Nat->Bool):Option ((Nat->Bool)×Nat) :=
 match lK s j with
 | none=>none
 | some (a,z,k)=>nj s k (fun c=>h c || (decide (a<=(c:Int)) && decide ((c:Int)<=z)))
theorem DJ{s:Str}{j:Nat}(h:Nat->Bool)(e:dJ s j 93=true):nj s j h=some (h,j+1):=by rw [nj,if_pos e]
theorem Fu{s:Str}{j:Nat}(h:Nat->Bool)(e:dJ s j 93=false):nj s j h=l9 s j h:=by
 rw [nj,if_neg (by rw [e];simp),l9]
 split
 ·rename_i he;rw [he]
 ·rename_i a z k he;rw [he]
theorem jk{s:Str}{j:Nat}(h:Nat->Bool)(e:lK s j=none):l9 s j h=none:=by rw [l9,e]
theorem mq{s:Str}{j:Nat}(h:Nat->Bool){a z:Int}{k:Nat}(e:lK s j=some (a,z,k)):l9 s j h=nj s k (fun c=>h c || (decide (a<=(c:Int)) && decide ((c:Int)<=z))):=by rw [l9,e]
theorem kZ(s:Str)(i:Nat):il s i=(decide (i<s.length) && mW (at8 s i)):=rfl
theorem mr{s:Str}{i:Nat}(h:il s i=true):i<s.length:=by
 rw [kZ,Bool.and_eq_true,decide_eq_true_eq] at h;exact h.1
theorem u7{s:Str}{j:Nat}(h:il s j=false):lK s j=none:=by
 rw [kZ] at h;rw [lK,h];rfl
theorem xe{s:Str}{j:Nat}(h:il s j=true)(e:dJ s (j+1) 126=false):lK s j=some (at8 s j,at8 s j,j+1):=by
 rw [kZ] at h;rw [lK,h,if_pos rfl,e];simp
theorem xd{s:Str}{j:Nat}(h:il s j=true)(e:dJ s (j+1) 126=true)(h2:il s (j+2)=true)(h3:at8 s j<=at8 s (j+2:Nat)):lK s j=some (at8 s j,at8 s (j+2:Nat),j+3):=by
 rw [kZ] at h h2;rw [lK,h,if_pos rfl,e,if_pos rfl,h2,decide_eq_true h3];rfl
theorem pQ{s:Str}{j:Nat}(e:dJ s (j+1) 126=true)(h2:il s (j+2)=false\/at8 s (j+2:Nat)<at8 s j):lK s j=none:=by
 rw [lK]
 split
 ·rw [if_neg]
  rcases h2 with h2|h2
  ·rw [kZ] at h2;rw [h2];simp
  ·simp only [Bool.and_eq_true,decide_eq_true_eq,not_and]
   intro _;omega
 ·rfl
theorem Bb{s:Str}{i:Nat}(h1:dJ s i 46=false)(h2:dJ s i 91=true):jn s i=(match l9 s (i+1) (fun _=>false) with|none=>none|some (has,k)=>some (n9 (oA has),k)):=by
 rw [jn,if_neg (by rw [h1];simp),if_pos h2,l9]
 cases e:lK s (i+1) with
 | none=>rfl
 | some p =>
  obtain ⟨a,z,j⟩:=p
  simp only [Bool.false_or]
  rfl
theorem Ba{s:Str}{i:Nat}(h1:dJ s i 46=true):jn s i=some (n9 oB,i+1):=by rw [jn,if_pos h1]
theorem IZ{s:Str}{i:Nat}(h1:dJ s i 46=false)(h2:dJ s i 91=false)(hi:i<s.length)(h3:il s i=true)(h4:¬ at8 s i=95):jn s i=some (n9 ((s.take (i+1)).drop i),i+1):=by
 have h5:¬ at8 s i=46:=fun e=>by rw [kO ⟨hi,e⟩] at h1;cases h1
 rw [jn,if_neg (by rw [h1];simp),if_neg (by rw [h2];simp),if_pos]
 rw [kZ,mW] at h3
 have e1:(at8 s i == 95)=false:=by simpa using h4
 have e2:(at8 s i == 46)=false:=by simpa using h5
 rw [e1,e2,Bool.or_false,Bool.or_false] at h3
 exact h3
theorem DP{s:Str}{i:Nat}(h1:dJ s i 46=false)(h2:dJ s i 91=false)(hi:i<s.length)(h3:il s i=true->at8 s i=95):jn s i=none:=by
 rw [jn,if_neg (by rw [h1];simp),if_neg (by rw [h2];simp),if_neg]
 intro h
 have hc:il s i=true:=by
  rw [kZ,mW]
  simp only [Bool.and_eq_true,Bool.or_eq_true] at h ⊢
  exact ⟨h.1,by rcases h.2 with (e|e)|e<;>simp [e]⟩
 have:=h3 hc
 rw [this] at h
 simp [ltI,l8] at h
end
section
theorem Ir:aY (fun c=>decide (32<=c) && decide (c<32))=aY (fun _=>false):=by
 congr 1;funext c;simp
theorem Iq{k:Nat}(h:32<=k):aY (fun c=>if c=k then true else decide (32<=c) && decide (c<k))=aY (fun c=>decide (32<=c) && decide (c<k+1)):=by
 congr 1;funext c
 by_cases e:c=k
 ·subst e;simp [h]
 ·rw [if_neg e]
  congr 1
  exact decide_eq_decide.2 (by omega)
theorem ep(ha:Nat->Bool)(a:Int):aY (fun c=>ha c || (decide (a<=(c:Int)) && decide ((c:Int)<a)))=aY ha:=by
 congr 1;funext c
 have:(decide (a<=(c:Int)) && decide ((c:Int)<a))=false:=by simp
 rw [this,Bool.or_false]
theorem eu(ha:Nat->Bool){a:Int}{y:Nat}(h:a<=(y:Int)):aY (fun c=>if c=y then true else ha c || (decide (a<=(c:Int)) && decide ((c:Int)<(y:Int))))=aY (fun c=>ha c || (decide (a<=(c:Int)) && decide ((c:Int)<((y+1:Nat):Int)))):=by
 congr 1;funext c
 by_cases e:c=y
 ·subst e;simp [h];right;omega
 ·rw [if_neg e]
  congr 2
  exact decide_eq_decide.2 (by omega)
@[go_sem] theorem U2(s:Str)(n:Int):unb [.v (.int .u8 (at8 s n))]=some [UInt8.ofNat (at8 s n).toNat]:=by
 have h1:=ld s n
 have h2:=lf s n
 simp only [unb,if_pos (And.intro h2 h1),Option.map_some]
theorem FM{s:Str}{i:Nat}(h:i<s.length):(s.take (i+1)).drop i=[UInt8.ofNat (at8 s i).toNat]:=by
 have e:UInt8.ofNat (at8 s i).toNat=s[i]:=by simp [at8,List.getElem?_eq_getElem h]
 rw [List.drop_take,show i+1 - i=1 by omega,List.drop_eq_getElem_cons h,e]
 rfl
theorem mo(ha:Nat->Bool){a z:Int}{y:Int}(h:y=z+1):(fun c:Nat=>ha c || (decide (a<=(c:Int)) && decide ((c:Int)<y)))=(fun c:Nat=>ha c || (decide (a<=(c:Int)) && decide ((c:Int)<=z))):=by
 funext c
 congr 2
 exact decide_eq_decide.2 (by omega)
theorem any_eq:oA (fun c=>decide (32<=c) && decide (c<127))=oB:=by
 unfold oB
 congr 1;funext c
 congr 1
 exact decide_eq_decide.2 (by omega)
end
end Go.Dt
namespace Go.Proofs
open Go.Ab Go.Dt
theorem Px(n:Nat)(halt:∀ (b:Nat) (s:Str) (i:Nat),dS lim Tryz.prog 286 [(b,some [.str s,.v (.int .i64 i),.v (.bool false)])] [.ptr b 0] (RdQ b s i (gE s i)) (i<=s.length/\s.length<=30/\s.length - i<n))(b:Nat)(s:Str)(i:Nat) :
  dS lim Tryz.prog 358 [(b,some [.str s,.v (.int .i64 i),.v (.bool false)])] [.ptr b 0] (RdQ b s i (iT s i)) (i<s.length/\s.length<=30/\s.length - i<n+1):=by
 refine dS.eO (aW 358) Tryz.func358 rfl rfl fun hp=>(?_);rw [Tryz.ntmps358]
 (refine vK ?_;with_reducible repeat' first|exact Le.l|apply Sw|intro (K:_->_->Prop) hK|intro h)
 rename_i b2 hg1 b3
 refine AW.c (fun h=>?_) fun h=>?_
 ·simp only [h,cond_true]
  have hlt:=cw.1 h
  have Gs:=vS h
  have J4:=fun p j=>vR (p:=p) (j:=j) h
  have J3:=fun p j=>vQ (p:=p) (j:=j) h
  (refine vK ?_;with_reducible repeat' first|exact Le.l|apply Sw|intro (K:_->_->Prop) hK|intro h)
  refine GK.rd (fun p j hq hj=>?_) (fun p j hq hj=>?_)
  ·(refine vK ?_;with_reducible repeat' first|exact Le.l|apply Sw|intro (K:_->_->Prop) hK|intro h)
   refine AW.c (fun h=>?_) fun h=>?_
   ·simp only [h,cond_false]
    (refine vK ?_;with_reducible repeat' first|exact Le.l|apply Sw|intro (K:_->_->Prop) hK|intro h)
    (refine AW.ret (aF.imp (Imp.eK (b:=b2) (by simp (maxSteps:=2000000) (disch:=omega) only [go_sem];rfl) ?_));simp (maxSteps:=2000000) (disch:=omega) only [go_sem];refine aF.dO rfl (RdQ.no p (j:=j) (J3 p j hq h) (by omega)) ?_;simp (maxSteps:=2000000) (disch:=omega) only [go_sem])
   ·simp only [h,cond_true]
    have hl2:=cw.1 h
    (refine vK ?_;with_reducible repeat' first|exact Le.l|apply Sw|intro (K:_->_->Prop) hK|intro h)
    (refine AW.ret (aF.imp (Imp.eK (b:=b2) (by simp (maxSteps:=2000000) (disch:=omega) only [go_sem];rfl) ?_));simp (maxSteps:=2000000) (disch:=omega) only [go_sem];refine aF.dO rfl (RdQ.yes (p:=p) (j:=j+1) (J4 p j hq h) (by omega)) ?_;simp (maxSteps:=2000000) (disch:=omega) only [go_sem])
  ·(refine vK ?_;with_reducible repeat' first|exact Le.l|apply Sw|intro (K:_->_->Prop) hK|intro h)
   refine AW.c (fun h=>?_) fun h=>?_
   ·simp only [h,cond_false]
    (refine vK ?_;with_reducible repeat' first|exact Le.l|apply Sw|intro (K:_->_->Prop) hK|intro h)
    (refine AW.ret (aF.imp (Imp.eK (b:=b2) (by simp (maxSteps:=2000000) (disch:=omega) only [go_sem];rfl) ?_));simp (maxSteps:=2000000) (disch:=omega) only [go_sem];refine aF.dO rfl (RdQ.no p (j:=j) (Gs hq) (by omega)) ?_;simp (maxSteps:=2000000) (disch:=omega) only [go_sem])
   ·simp only [h,cond_true]
    have hl2:=cw.1 h
    (refine vK ?_;with_reducible repeat' first|exact Le.l|apply Sw|intro (K:_->_->Prop) hK|intro h)
    (refine AW.ret (aF.imp (Imp.eK (b:=b2) (by simp (maxSteps:=2000000) (disch:=omega) only [go_sem];rfl) ?_));simp (maxSteps:=2000000) (disch:=omega) only [go_sem];refine aF.dO rfl (RdQ.no p (j:=j+1) (Gs hq) (by omega)) ?_;simp (maxSteps:=2000000) (disch:=omega) only [go_sem])
 simp only [h,cond_false]
 have ou:=xW hp.1 h
 (refine vK ?_;with_reducible repeat' first|exact Le.l|apply Sw|intro (K:_->_->Prop) hK|intro h)
 refine AW.c (fun h=>?_) fun h=>?_
 ·have Ka:=Ba h
  simp only [h,cond_true]
  (refine vK ?_;with_reducible repeat' first|exact Le.l|apply Sw|intro (K:_->_->Prop) hK|intro h)
  refine AW.aw [5] [0,2,3] (fun m xs o=>∃ k:Nat,xs=[.v (.int .i64 k)]/\o=[(b3,some (aY (fun c=>decide (32<=c) && decide (c<k)))),(b2,some [.v (.int .i64 0),.str [],.v (.slice none 0 0)]),(b,some [.str s,.v (.int .i64 (i+1:Nat)),.v (.bool false)])]/\m=127 - k/\32<=k/\k<=127) 95 [(b3,some (aY (fun _=>false))),(b2,some [.v (.int .i64 0),.str [],.v (.slice none 0 0)]),(b,some [.str s,.v (.int .i64 (i+1:Nat)),.v (.bool false)])] gO ⟨32,rfl,?_,rfl,by omega,by omega⟩ ?_
  ·rw [Ir]
  rintro m xs o ⟨k,rfl,rfl,rfl,hk1,hk2⟩
  (refine vK ?_;with_reducible repeat' first|exact Le.l|apply Sw|intro (K:_->_->Prop) hK|intro h)
  refine AW.c (fun h=>?_) fun h=>?_
  ·(refine vK ?_;with_reducible repeat' first|exact Le.l|apply Sw|intro (K:_->_->Prop) hK|intro h)
   exact ⟨_,[_],[(b3,some (aY (fun c=>decide (32<=c) && decide (c<k+1)))),(b2,some [.v (.int .i64 0),.str [],.v (.slice none 0 0)]),(b,some [.str s,.v (.int .i64 (i+1:Nat)),.v (.bool false)])],by omega,⟨k+1,rfl,rfl,rfl,by omega,by omega⟩,rfl,by rw [<- Iq hk1];simp (maxSteps:=2000000) (disch:=omega) only [go_sem]⟩
  ·have:k=127:=by omega
   subst this
   (refine vK ?_;with_reducible repeat' first|exact Le.l|apply Sw|intro (K:_->_->Prop) hK|intro h)
   (refine AW.ret (aF.imp (Imp.eK (b:=b2) (by simp (maxSteps:=2000000) (disch:=omega) only [go_sem];rfl) ?_));simp (maxSteps:=2000000) (disch:=omega) only [go_sem];refine aF.dO rfl (RdQ.yes (p:=.mk 1 (oA (fun c=>decide (32<=c) && decide (c<127))) []) (j:=i+1) (by rw [ou,Ka,any_eq,n9]) (by omega)) ?_;simp (maxSteps:=2000000) (disch:=omega) only [go_sem])
 simp only [h,cond_false]
 have hnd:=h
 (refine vK ?_;with_reducible repeat' first|exact Le.l|apply Sw|intro (K:_->_->Prop) hK|intro h)
 refine AW.c (fun h=>?_) fun h=>?_
 ·have zt:=Bb hnd h
  simp only [h,cond_true]
  generalize hRR:l9 s (i+1) (fun _=>false)=R at zt
  (refine vK ?_;with_reducible repeat' first|exact Le.l|apply Sw|intro (K:_->_->Prop) hK|intro h)
  refine AW.aw [6] [0,2,3] (fun m xs o=>∃ (k j:Nat) (ha:Nat->Bool) (bad:Bool),xs=[.v (.int .i64 k)]/\o=[(b3,some (aY ha)),(b2,some [.v (.int .i64 0),.str [],.v (.slice none 0 0)]),(b,some [.str s,.v (.int .i64 j),.v (.bool bad)])]/\m=(if bad then 0 else s.length - j+1)/\j<=s.length/\i<=j/\k<=31/\(bad=false->k<=j/\(if k=0 then l9 s j ha else nj s j ha)=R)/\(bad=true->R=none)) _ [(b3,some (aY (fun _=>false))),(b2,some [.v (.int .i64 0),.str [],.v (.slice none 0 0)]),(b,some [.str s,.v (.int .i64 (i+1:Nat)),.v (.bool false)])] gO ⟨0,i+1,fun _=>false,false,rfl,rfl,rfl,by omega,by omega,by omega,fun _=>⟨by omega,by rw [if_pos rfl];exact hRR⟩,by simp⟩ ?_
  rintro m xs o ⟨k,j,ha,bad,rfl,rfl,rfl,hj,hij,hk,hR,hN⟩
  cases bad with
  | true =>
   have hN:=hN rfl
   (refine vK ?_;with_reducible repeat' first|exact Le.l|apply Sw|intro (K:_->_->Prop) hK|intro h)
   (refine AW.i rfl (fun h=>?_) (fun h=>?_)<;>try simp only [hC,reduceCtorEq] at h)
   (refine vK ?_;with_reducible repeat' first|exact Le.l|apply Sw|intro (K:_->_->Prop) hK|intro h)
   (refine AW.ret (aF.imp (Imp.eK (b:=b2) (by simp (maxSteps:=2000000) (disch:=omega) only [go_sem];rfl) ?_));simp (maxSteps:=2000000) (disch:=omega) only [go_sem];refine aF.dO rfl (RdQ.no (.mk 1 (oA ha) []) (j:=j) (by rw [ou,zt,hN]) (by omega)) ?_;simp (maxSteps:=2000000) (disch:=omega) only [go_sem])
  | false =>
   have hR:=hR rfl
   by_cases hk0:k=0
   ·subst hk0
    have hS:l9 s j ha=R:=by simpa using hR.2
    rw [show ((0:Nat):Int)=0 from rfl]
    (refine vK ?_;with_reducible repeat' first|exact Le.l|apply Sw|intro (K:_->_->Prop) hK|intro h)
    (refine AW.i rfl (fun h=>?_) (fun h=>?_)<;>try simp only [hC,reduceCtorEq] at h)
    have hge:=lf s (j:Int)
    have hle:=ld s (j:Int)
    have Ui:=lf s ((j+1:Nat):Int)
    have hle1:=ld s ((j+1:Nat):Int)
    have O1:=lf s ((j+1+1:Nat):Int)
    have hle2:=ld s ((j+1+1:Nat):Int)
    cases hch:il s j with
    | false =>
     have hN':R=none:=by rw [<- hS,jk ha (u7 hch)]
     (repeat' first|(with_reducible first|refine Z ?_|refine Y ?_|(refine hK _ _ ?_;clear hK K)|refine And.intro ?_ ?_|exact Ct|intro (K:_->_->Prop) hK|(refine gI fun hg=>?_;try simp only [hC,reduceCtorEq] at hg;try simp only [hg]))|((with_reducible refine E ?_;repeat refine Y ?_);refine eF rfl ?_)|simp (disch:=omega) only [go_sem,hch]|(with_reducible intro hg;try simp only [hC,reduceCtorEq] at hg)|exact Cl|fail)
     refine AW.c (fun h=>?_) fun h=>?_
     ·simp only [h,cond_true]
      have hl2:=cw.1 h
      cases hc2:il s (j+1) with
      | true =>
       have hl3:=mr hc2
       (repeat' first|(with_reducible first|refine Z ?_|refine Y ?_|(refine hK _ _ ?_;clear hK K)|refine And.intro ?_ ?_|exact Ct|intro (K:_->_->Prop) hK|(refine gI fun hg=>?_;try simp only [hC,reduceCtorEq] at hg;try simp only [hg]))|((with_reducible refine E ?_;repeat refine Y ?_);refine eF rfl ?_)|simp (disch:=omega) only [go_sem,hc2]|(with_reducible intro hg;try simp only [hC,reduceCtorEq] at hg)|exact Cl|fail)
       refine AW.c (fun h=>?_) fun h=>?_
       ·omega
       ·(refine vK ?_;with_reducible repeat' first|exact Le.l|apply Sw|intro (K:_->_->Prop) hK|intro h)
        refine AW.aw [9] [0,2,3,6,7,8] (fun m xs o=>∃ x:Int,xs=[.v (.int .i64 x)]/\o=[(b3,some (aY (fun c=>ha c || (decide (0<=(c:Int)) && decide ((c:Int)<x))))),(b2,some [.v (.int .i64 0),.str [],.v (.slice none 0 0)]),(b,some [.str s,.v (.int .i64 (j+1+1:Nat)),.v (.bool true)])]/\m=(256 - x).toNat/\0<=x/\x<=256/\(0<=at8 s ((j+1:Nat):Int)->x<=at8 s ((j+1:Nat):Int)+1)/\(at8 s ((j+1:Nat):Int)<0->x=0)) _ [(b3,some (aY ha)),(b2,some [.v (.int .i64 0),.str [],.v (.slice none 0 0)]),(b,some [.str s,.v (.int .i64 (j+1+1:Nat)),.v (.bool true)])] gO ⟨0,rfl,by rw [ep],rfl,by omega,by omega,by omega,by omega⟩ ?_
        rintro m xs o ⟨x,rfl,rfl,rfl,hx1,hx2,hx3,hx4⟩
        obtain ⟨y,rfl⟩:∃ y:Nat,x=y:=⟨x.toNat,by omega⟩
        (refine vK ?_;with_reducible repeat' first|exact Le.l|apply Sw|intro (K:_->_->Prop) hK|intro h)
        refine AW.c (fun h=>?_) fun h=>?_
        ·(refine vK ?_;with_reducible repeat' first|exact Le.l|apply Sw|intro (K:_->_->Prop) hK|intro h)
         try exact ⟨_,[_],[(b3,some (aY (fun c=>ha c || (decide (0<=(c:Int)) && decide ((c:Int)<((y+1:Nat):Int)))))),(b2,some [.v (.int .i64 0),.str [],.v (.slice none 0 0)]),(b,some [.str s,.v (.int .i64 (j+1+1:Nat)),.v (.bool true)])],by omega,⟨((y+1:Nat):Int),rfl,rfl,rfl,by omega,by omega,by omega,by omega⟩,by simp,by rw [<- eu ha (by omega)];simp (maxSteps:=2000000) (disch:=omega) only [go_sem]⟩
        ·(refine vK ?_;with_reducible repeat' first|exact Le.l|apply Sw|intro (K:_->_->Prop) hK|intro h)
         exact ⟨0,[_],[(b3,some (aY (fun c=>ha c || (decide (0<=(c:Int)) && decide ((c:Int)<(y:Int)))))),(b2,some [.v (.int .i64 0),.str [],.v (.slice none 0 0)]),(b,some [.str s,.v (.int .i64 (j+1+1:Nat)),.v (.bool true)])],by simp,⟨0+1,j+1+1,_,true,rfl,rfl,rfl,by omega,by omega,by omega,by simp,fun _=>hN'⟩,rfl,by simp (maxSteps:=2000000) (disch:=omega) only [go_sem]⟩
      | false =>
       (repeat' first|(with_reducible first|refine Z ?_|refine Y ?_|(refine hK _ _ ?_;clear hK K)|refine And.intro ?_ ?_|exact Ct|intro (K:_->_->Prop) hK|(refine gI fun hg=>?_;try simp only [hC,reduceCtorEq] at hg;try simp only [hg]))|((with_reducible refine E ?_;repeat refine Y ?_);refine eF rfl ?_)|simp (disch:=omega) only [go_sem,hc2]|(with_reducible intro hg;try simp only [hC,reduceCtorEq] at hg)|exact Cl|fail)
       refine AW.c (fun h=>?_) fun h=>?_
       ·omega
       ·(refine vK ?_;with_reducible repeat' first|exact Le.l|apply Sw|intro (K:_->_->Prop) hK|intro h)
        refine AW.aw [9] [0,2,3,6,7,8] (fun m xs o=>∃ x:Int,xs=[.v (.int .i64 x)]/\o=[(b3,some (aY (fun c=>ha c || (decide (0<=(c:Int)) && decide ((c:Int)<x))))),(b2,some [.v (.int .i64 0),.str [],.v (.slice none 0 0)]),(b,some [.str s,.v (.int .i64 (j+1:Nat)),.v (.bool true)])]/\m=(256 - x).toNat/\0<=x/\x<=256/\(0<=0->x<=0+1)/\(0<0->x=0)) _ [(b3,some (aY ha)),(b2,some [.v (.int .i64 0),.str [],.v (.slice none 0 0)]),(b,some [.str s,.v (.int .i64 (j+1:Nat)),.v (.bool true)])] gO ⟨0,rfl,by rw [ep],rfl,by omega,by omega,by omega,by omega⟩ ?_
        rintro m xs o ⟨x,rfl,rfl,rfl,hx1,hx2,hx3,hx4⟩
        obtain ⟨y,rfl⟩:∃ y:Nat,x=y:=⟨x.toNat,by omega⟩
        (refine vK ?_;with_reducible repeat' first|exact Le.l|apply Sw|intro (K:_->_->Prop) hK|intro h)
        refine AW.c (fun h=>?_) fun h=>?_
        ·(refine vK ?_;with_reducible repeat' first|exact Le.l|apply Sw|intro (K:_->_->Prop) hK|intro h)
         try exact ⟨_,[_],[(b3,some (aY (fun c=>ha c || (decide (0<=(c:Int)) && decide ((c:Int)<((y+1:Nat):Int)))))),(b2,some [.v (.int .i64 0),.str [],.v (.slice none 0 0)]),(b,some [.str s,.v (.int .i64 (j+1:Nat)),.v (.bool true)])],by omega,⟨((y+1:Nat):Int),rfl,rfl,rfl,by omega,by omega,by omega,by omega⟩,by simp,by rw [<- eu ha (by omega)];simp (maxSteps:=2000000) (disch:=omega) only [go_sem]⟩
        ·(refine vK ?_;with_reducible repeat' first|exact Le.l|apply Sw|intro (K:_->_->Prop) hK|intro h)
         exact ⟨0,[_],[(b3,some (aY (fun c=>ha c || (decide (0<=(c:Int)) && decide ((c:Int)<(y:Int)))))),(b2,some [.v (.int .i64 0),.str [],.v (.slice none 0 0)]),(b,some [.str s,.v (.int .i64 (j+1:Nat)),.v (.bool true)])],by simp,⟨0+1,j+1,_,true,rfl,rfl,rfl,by omega,by omega,by omega,by simp,fun _=>hN'⟩,rfl,by simp (maxSteps:=2000000) (disch:=omega) only [go_sem]⟩
     ·simp only [h,cond_false]
      (refine vK ?_;with_reducible repeat' first|exact Le.l|apply Sw|intro (K:_->_->Prop) hK|intro h)
      refine AW.c (fun h=>?_) fun h=>?_
      ·omega
      ·(refine vK ?_;with_reducible repeat' first|exact Le.l|apply Sw|intro (K:_->_->Prop) hK|intro h)
       refine AW.aw [9] [0,2,3,6,7,8] (fun m xs o=>∃ x:Int,xs=[.v (.int .i64 x)]/\o=[(b3,some (aY (fun c=>ha c || (decide (0<=(c:Int)) && decide ((c:Int)<x))))),(b2,some [.v (.int .i64 0),.str [],.v (.slice none 0 0)]),(b,some [.str s,.v (.int .i64 (j:Nat)),.v (.bool true)])]/\m=(256 - x).toNat/\0<=x/\x<=256/\(0<=0->x<=0+1)/\(0<0->x=0)) _ [(b3,some (aY ha)),(b2,some [.v (.int .i64 0),.str [],.v (.slice none 0 0)]),(b,some [.str s,.v (.int .i64 (j:Nat)),.v (.bool true)])] gO ⟨0,rfl,by rw [ep],rfl,by omega,by omega,by omega,by omega⟩ ?_
       rintro m xs o ⟨x,rfl,rfl,rfl,hx1,hx2,hx3,hx4⟩
       obtain ⟨y,rfl⟩:∃ y:Nat,x=y:=⟨x.toNat,by omega⟩
       (refine vK ?_;with_reducible repeat' first|exact Le.l|apply Sw|intro (K:_->_->Prop) hK|intro h)
       refine AW.c (fun h=>?_) fun h=>?_
       ·(refine vK ?_;with_reducible repeat' first|exact Le.l|apply Sw|intro (K:_->_->Prop) hK|intro h)
        try exact ⟨_,[_],[(b3,some (aY (fun c=>ha c || (decide (0<=(c:Int)) && decide ((c:Int)<((y+1:Nat):Int)))))),(b2,some [.v (.int .i64 0),.str [],.v (.slice none 0 0)]),(b,some [.str s,.v (.int .i64 (j:Nat)),.v (.bool true)])],by omega,⟨((y+1:Nat):Int),rfl,rfl,rfl,by omega,by omega,by omega,by omega⟩,by simp,by rw [<- eu ha (by omega)];simp (maxSteps:=2000000) (disch:=omega) only [go_sem]⟩
       ·(refine vK ?_;with_reducible repeat' first|exact Le.l|apply Sw|intro (K:_->_->Prop) hK|intro h)
        exact ⟨0,[_],[(b3,some (aY (fun c=>ha c || (decide (0<=(c:Int)) && decide ((c:Int)<(y:Int)))))),(b2,some [.v (.int .i64 0),.str [],.v (.slice none 0 0)]),(b,some [.str s,.v (.int .i64 (j:Nat)),.v (.bool true)])],by simp,⟨0+1,j,_,true,rfl,rfl,rfl,by omega,by omega,by omega,by simp,fun _=>hN'⟩,rfl,by simp (maxSteps:=2000000) (disch:=omega) only [go_sem]⟩
    | true =>
     have hl1:=mr hch
     (repeat' first|(with_reducible first|refine Z ?_|refine Y ?_|(refine hK _ _ ?_;clear hK K)|refine And.intro ?_ ?_|exact Ct|intro (K:_->_->Prop) hK|(refine gI fun hg=>?_;try simp only [hC,reduceCtorEq] at hg;try simp only [hg]))|((with_reducible refine E ?_;repeat refine Y ?_);refine eF rfl ?_)|simp (disch:=omega) only [go_sem,hch]|(with_reducible intro hg;try simp only [hC,reduceCtorEq] at hg)|exact Cl|fail)
     refine AW.c (fun h=>?_) fun h=>?_
     ·simp only [h,cond_true]
      have qK:=h
      have hl2:=cw.1 h
      cases hc2:il s (j+1+1) with
      | true =>
       have hl3:=mr hc2
       (repeat' first|(with_reducible first|refine Z ?_|refine Y ?_|(refine hK _ _ ?_;clear hK K)|refine And.intro ?_ ?_|exact Ct|intro (K:_->_->Prop) hK|(refine gI fun hg=>?_;try simp only [hC,reduceCtorEq] at hg;try simp only [hg]))|((with_reducible refine E ?_;repeat refine Y ?_);refine eF rfl ?_)|simp (disch:=omega) only [go_sem,hc2]|(with_reducible intro hg;try simp only [hC,reduceCtorEq] at hg)|exact Cl|fail)
       refine AW.c (fun h=>?_) fun h=>?_
       ·have hN':R=none:=by rw [<- hS,jk ha (pQ qK (.inr h))]
        (refine vK ?_;with_reducible repeat' first|exact Le.l|apply Sw|intro (K:_->_->Prop) hK|intro h)
        refine AW.aw [9] [0,2,3,6,7,8] (fun m xs o=>∃ x:Int,xs=[.v (.int .i64 x)]/\o=[(b3,some (aY (fun c=>ha c || (decide (at8 s (j:Int)<=(c:Int)) && decide ((c:Int)<x))))),(b2,some [.v (.int .i64 0),.str [],.v (.slice none 0 0)]),(b,some [.str s,.v (.int .i64 (j+1+1+1:Nat)),.v (.bool true)])]/\m=(256 - x).toNat/\at8 s (j:Int)<=x/\x<=256/\(at8 s (j:Int)<=at8 s ((j+1+1:Nat):Int)->x<=at8 s ((j+1+1:Nat):Int)+1)/\(at8 s ((j+1+1:Nat):Int)<at8 s (j:Int)->x=at8 s (j:Int))) _ [(b3,some (aY ha)),(b2,some [.v (.int .i64 0),.str [],.v (.slice none 0 0)]),(b,some [.str s,.v (.int .i64 (j+1+1+1:Nat)),.v (.bool true)])] gO ⟨at8 s (j:Int),rfl,by rw [ep],rfl,by omega,by omega,by omega,by omega⟩ ?_
        rintro m xs o ⟨x,rfl,rfl,rfl,hx1,hx2,hx3,hx4⟩
        obtain ⟨y,rfl⟩:∃ y:Nat,x=y:=⟨x.toNat,by omega⟩
        (refine vK ?_;with_reducible repeat' first|exact Le.l|apply Sw|intro (K:_->_->Prop) hK|intro h)
        refine AW.c (fun h=>?_) fun h=>?_
        ·(refine vK ?_;with_reducible repeat' first|exact Le.l|apply Sw|intro (K:_->_->Prop) hK|intro h)
         try exact ⟨_,[_],[(b3,some (aY (fun c=>ha c || (decide (at8 s (j:Int)<=(c:Int)) && decide ((c:Int)<((y+1:Nat):Int)))))),(b2,some [.v (.int .i64 0),.str [],.v (.slice none 0 0)]),(b,some [.str s,.v (.int .i64 (j+1+1+1:Nat)),.v (.bool true)])],by omega,⟨((y+1:Nat):Int),rfl,rfl,rfl,by omega,by omega,by omega,by omega⟩,by simp,by rw [<- eu ha (by omega)];simp (maxSteps:=2000000) (disch:=omega) only [go_sem]⟩
        ·(refine vK ?_;with_reducible repeat' first|exact Le.l|apply Sw|intro (K:_->_->Prop) hK|intro h)
         exact ⟨0,[_],[(b3,some (aY (fun c=>ha c || (decide (at8 s (j:Int)<=(c:Int)) && decide ((c:Int)<(y:Int)))))),(b2,some [.v (.int .i64 0),.str [],.v (.slice none 0 0)]),(b,some [.str s,.v (.int .i64 (j+1+1+1:Nat)),.v (.bool true)])],by simp,⟨0+1,j+1+1+1,_,true,rfl,rfl,rfl,by omega,by omega,by omega,by simp,fun _=>hN'⟩,rfl,by simp (maxSteps:=2000000) (disch:=omega) only [go_sem]⟩
       ·have hS2:=mq ha (xd hch qK hc2 h)
        (refine vK ?_;with_reducible repeat' first|exact Le.l|apply Sw|intro (K:_->_->Prop) hK|intro h)
        refine AW.aw [9] [0,2,3,6,7,8] (fun m xs o=>∃ x:Int,xs=[.v (.int .i64 x)]/\o=[(b3,some (aY (fun c=>ha c || (decide (at8 s (j:Int)<=(c:Int)) && decide ((c:Int)<x))))),(b2,some [.v (.int .i64 0),.str [],.v (.slice none 0 0)]),(b,some [.str s,.v (.int .i64 (j+1+1+1:Nat)),.v (.bool false)])]/\m=(256 - x).toNat/\at8 s (j:Int)<=x/\x<=256/\(at8 s (j:Int)<=at8 s ((j+1+1:Nat):Int)->x<=at8 s ((j+1+1:Nat):Int)+1)/\(at8 s ((j+1+1:Nat):Int)<at8 s (j:Int)->x=at8 s (j:Int))) _ [(b3,some (aY ha)),(b2,some [.v (.int .i64 0),.str [],.v (.slice none 0 0)]),(b,some [.str s,.v (.int .i64 (j+1+1+1:Nat)),.v (.bool false)])] gO ⟨at8 s (j:Int),rfl,by rw [ep],rfl,by omega,by omega,by omega,by omega⟩ ?_
        rintro m xs o ⟨x,rfl,rfl,rfl,hx1,hx2,hx3,hx4⟩
        obtain ⟨y,rfl⟩:∃ y:Nat,x=y:=⟨x.toNat,by omega⟩
        (refine vK ?_;with_reducible repeat' first|exact Le.l|apply Sw|intro (K:_->_->Prop) hK|intro h)
        refine AW.c (fun h=>?_) fun h=>?_
        ·(refine vK ?_;with_reducible repeat' first|exact Le.l|apply Sw|intro (K:_->_->Prop) hK|intro h)
         try exact ⟨_,[_],[(b3,some (aY (fun c=>ha c || (decide (at8 s (j:Int)<=(c:Int)) && decide ((c:Int)<((y+1:Nat):Int)))))),(b2,some [.v (.int .i64 0),.str [],.v (.slice none 0 0)]),(b,some [.str s,.v (.int .i64 (j+1+1+1:Nat)),.v (.bool false)])],by omega,⟨((y+1:Nat):Int),rfl,rfl,rfl,by omega,by omega,by omega,by omega⟩,by simp,by rw [<- eu ha (by omega)];simp (maxSteps:=2000000) (disch:=omega) only [go_sem]⟩
        ·(refine vK ?_;with_reducible repeat' first|exact Le.l|apply Sw|intro (K:_->_->Prop) hK|intro h)
         exact ⟨_,[_],[(b3,some (aY (fun c=>ha c || (decide (at8 s (j:Int)<=(c:Int)) && decide ((c:Int)<(y:Int)))))),(b2,some [.v (.int .i64 0),.str [],.v (.slice none 0 0)]),(b,some [.str s,.v (.int .i64 (j+1+1+1:Nat)),.v (.bool false)])],by simp;omega,⟨0+1,j+1+1+1,_,false,rfl,rfl,rfl,by omega,by omega,by omega,fun _=>⟨by omega,by rw [if_neg (by omega),mo ha (a:=at8 s (j:Int)) (z:=at8 s ((j+1+1:Nat):Int)) (y:=(y:Int)) (by omega),<- hS2,hS]⟩,by simp⟩,rfl,by simp (maxSteps:=2000000) (disch:=omega) only [go_sem]⟩
      | false =>
       have hN':R=none:=by rw [<- hS,jk ha (pQ qK (.inl hc2))]
       (repeat' first|(with_reducible first|refine Z ?_|refine Y ?_|(refine hK _ _ ?_;clear hK K)|refine And.intro ?_ ?_|exact Ct|intro (K:_->_->Prop) hK|(refine gI fun hg=>?_;try simp only [hC,reduceCtorEq] at hg;try simp only [hg]))|((with_reducible refine E ?_;repeat refine Y ?_);refine eF rfl ?_)|simp (disch:=omega) only [go_sem,hc2]|(with_reducible intro hg;try simp only [hC,reduceCtorEq] at hg)|exact Cl|fail)
       refine AW.c (fun h=>?_) fun h=>?_
       ·(refine vK ?_;with_reducible repeat' first|exact Le.l|apply Sw|intro (K:_->_->Prop) hK|intro h)
        refine AW.aw [9] [0,2,3,6,7,8] (fun m xs o=>∃ x:Int,xs=[.v (.int .i64 x)]/\o=[(b3,some (aY (fun c=>ha c || (decide (at8 s (j:Int)<=(c:Int)) && decide ((c:Int)<x))))),(b2,some [.v (.int .i64 0),.str [],.v (.slice none 0 0)]),(b,some [.str s,.v (.int .i64 (j+1+1:Nat)),.v (.bool true)])]/\m=(256 - x).toNat/\at8 s (j:Int)<=x/\x<=256/\(at8 s (j:Int)<=0->x<=0+1)/\(0<at8 s (j:Int)->x=at8 s (j:Int))) _ [(b3,some (aY ha)),(b2,some [.v (.int .i64 0),.str [],.v (.slice none 0 0)]),(b,some [.str s,.v (.int .i64 (j+1+1:Nat)),.v (.bool true)])] gO ⟨at8 s (j:Int),rfl,by rw [ep],rfl,by omega,by omega,by omega,by omega⟩ ?_
        rintro m xs o ⟨x,rfl,rfl,rfl,hx1,hx2,hx3,hx4⟩
        obtain ⟨y,rfl⟩:∃ y:Nat,x=y:=⟨x.toNat,by omega⟩
        (refine vK ?_;with_reducible repeat' first|exact Le.l|apply Sw|intro (K:_->_->Prop) hK|intro h)
        refine AW.c (fun h=>?_) fun h=>?_
        ·(refine vK ?_;with_reducible repeat' first|exact Le.l|apply Sw|intro (K:_->_->Prop) hK|intro h)
         try exact ⟨_,[_],[(b3,some (aY (fun c=>ha c || (decide (at8 s (j:Int)<=(c:Int)) && decide ((c:Int)<((y+1:Nat):Int)))))),(b2,some [.v (.int .i64 0),.str [],.v (.slice none 0 0)]),(b,some [.str s,.v (.int .i64 (j+1+1:Nat)),.v (.bool true)])],by omega,⟨((y+1:Nat):Int),rfl,rfl,rfl,by omega,by omega,by omega,by omega⟩,by simp,by rw [<- eu ha (by omega)];simp (maxSteps:=2000000) (disch:=omega) only [go_sem]⟩
        ·(refine vK ?_;with_reducible repeat' first|exact Le.l|apply Sw|intro (K:_->_->Prop) hK|intro h)
         exact ⟨0,[_],[(b3,some (aY (fun c=>ha c || (decide (at8 s (j:Int)<=(c:Int)) && decide ((c:Int)<(y:Int)))))),(b2,some [.v (.int .i64 0),.str [],.v (.slice none 0 0)]),(b,some [.str s,.v (.int .i64 (j+1+1:Nat)),.v (.bool true)])],by simp,⟨0+1,j+1+1,_,true,rfl,rfl,rfl,by omega,by omega,by omega,by simp,fun _=>hN'⟩,rfl,by simp (maxSteps:=2000000) (disch:=omega) only [go_sem]⟩
       ·(refine vK ?_;with_reducible repeat' first|exact Le.l|apply Sw|intro (K:_->_->Prop) hK|intro h)
        refine AW.aw [9] [0,2,3,6,7,8] (fun m xs o=>∃ x:Int,xs=[.v (.int .i64 x)]/\o=[(b3,some (aY (fun c=>ha c || (decide (at8 s (j:Int)<=(c:Int)) && decide ((c:Int)<x))))),(b2,some [.v (.int .i64 0),.str [],.v (.slice none 0 0)]),(b,some [.str s,.v (.int .i64 (j+1+1:Nat)),.v (.bool true)])]/\m=(256 - x).toNat/\at8 s (j:Int)<=x/\x<=256/\(at8 s (j:Int)<=0->x<=0+1)/\(0<at8 s (j:Int)->x=at8 s (j:Int))) _ [(b3,some (aY ha)),(b2,some [.v (.int .i64 0),.str [],.v (.slice none 0 0)]),(b,some [.str s,.v (.int .i64 (j+1+1:Nat)),.v (.bool true)])] gO ⟨at8 s (j:Int),rfl,by rw [ep],rfl,by omega,by omega,by omega,by omega⟩ ?_
        rintro m xs o ⟨x,rfl,rfl,rfl,hx1,hx2,hx3,hx4⟩
        obtain ⟨y,rfl⟩:∃ y:Nat,x=y:=⟨x.toNat,by omega⟩
        (refine vK ?_;with_reducible repeat' first|exact Le.l|apply Sw|intro (K:_->_->Prop) hK|intro h)
        refine AW.c (fun h=>?_) fun h=>?_
        ·(refine vK ?_;with_reducible repeat' first|exact Le.l|apply Sw|intro (K:_->_->Prop) hK|intro h)
         try exact ⟨_,[_],[(b3,some (aY (fun c=>ha c || (decide (at8 s (j:Int)<=(c:Int)) && decide ((c:Int)<((y+1:Nat):Int)))))),(b2,some [.v (.int .i64 0),.str [],.v (.slice none 0 0)]),(b,some [.str s,.v (.int .i64 (j+1+1:Nat)),.v (.bool true)])],by omega,⟨((y+1:Nat):Int),rfl,rfl,rfl,by omega,by omega,by omega,by omega⟩,by simp,by rw [<- eu ha (by omega)];simp (maxSteps:=2000000) (disch:=omega) only [go_sem]⟩
        ·(refine vK ?_;with_reducible repeat' first|exact Le.l|apply Sw|intro (K:_->_->Prop) hK|intro h)
         exact ⟨0,[_],[(b3,some (aY (fun c=>ha c || (decide (at8 s (j:Int)<=(c:Int)) && decide ((c:Int)<(y:Int)))))),(b2,some [.v (.int .i64 0),.str [],.v (.slice none 0 0)]),(b,some [.str s,.v (.int .i64 (j+1+1:Nat)),.v (.bool true)])],by simp,⟨0+1,j+1+1,_,true,rfl,rfl,rfl,by omega,by omega,by omega,by simp,fun _=>hN'⟩,rfl,by simp (maxSteps:=2000000) (disch:=omega) only [go_sem]⟩
     ·simp only [h,cond_false]
      have hS2:=mq ha (xe hch h)
      (refine vK ?_;with_reducible repeat' first|exact Le.l|apply Sw|intro (K:_->_->Prop) hK|intro h)
      refine AW.c (fun h=>?_) fun h=>?_
      ·omega
      ·(refine vK ?_;with_reducible repeat' first|exact Le.l|apply Sw|intro (K:_->_->Prop) hK|intro h)
       refine AW.aw [9] [0,2,3,6,7,8] (fun m xs o=>∃ x:Int,xs=[.v (.int .i64 x)]/\o=[(b3,some (aY (fun c=>ha c || (decide (at8 s (j:Int)<=(c:Int)) && decide ((c:Int)<x))))),(b2,some [.v (.int .i64 0),.str [],.v (.slice none 0 0)]),(b,some [.str s,.v (.int .i64 (j+1:Nat)),.v (.bool false)])]/\m=(256 - x).toNat/\at8 s (j:Int)<=x/\x<=256/\(at8 s (j:Int)<=at8 s (j:Int)->x<=at8 s (j:Int)+1)/\(at8 s (j:Int)<at8 s (j:Int)->x=at8 s (j:Int))) _ [(b3,some (aY ha)),(b2,some [.v (.int .i64 0),.str [],.v (.slice none 0 0)]),(b,some [.str s,.v (.int .i64 (j+1:Nat)),.v (.bool false)])] gO ⟨at8 s (j:Int),rfl,by rw [ep],rfl,by omega,by omega,by omega,by omega⟩ ?_
       rintro m xs o ⟨x,rfl,rfl,rfl,hx1,hx2,hx3,hx4⟩
       obtain ⟨y,rfl⟩:∃ y:Nat,x=y:=⟨x.toNat,by omega⟩
       (refine vK ?_;with_reducible repeat' first|exact Le.l|apply Sw|intro (K:_->_->Prop) hK|intro h)
       refine AW.c (fun h=>?_) fun h=>?_
       ·(refine vK ?_;with_reducible repeat' first|exact Le.l|apply Sw|intro (K:_->_->Prop) hK|intro h)
        try exact ⟨_,[_],[(b3,some (aY (fun c=>ha c || (decide (at8 s (j:Int)<=(c:Int)) && decide ((c:Int)<((y+1:Nat):Int)))))),(b2,some [.v (.int .i64 0),.str [],.v (.slice none 0 0)]),(b,some [.str s,.v (.int .i64 (j+1:Nat)),.v (.bool false)])],by omega,⟨((y+1:Nat):Int),rfl,rfl,rfl,by omega,by omega,by omega,by omega⟩,by simp,by rw [<- eu ha (by omega)];simp (maxSteps:=2000000) (disch:=omega) only [go_sem]⟩
       ·(refine vK ?_;with_reducible repeat' first|exact Le.l|apply Sw|intro (K:_->_->Prop) hK|intro h)
        exact ⟨_,[_],[(b3,some (aY (fun c=>ha c || (decide (at8 s (j:Int)<=(c:Int)) && decide ((c:Int)<(y:Int)))))),(b2,some [.v (.int .i64 0),.str [],.v (.slice none 0 0)]),(b,some [.str s,.v (.int .i64 (j+1:Nat)),.v (.bool false)])],by simp;omega,⟨0+1,j+1,_,false,rfl,rfl,rfl,by omega,by omega,by omega,fun _=>⟨by omega,by rw [if_neg (by omega),mo ha (a:=at8 s (j:Int)) (z:=at8 s (j:Int)) (y:=(y:Int)) (by omega),<- hS2,hS]⟩,by simp⟩,rfl,by simp (maxSteps:=2000000) (disch:=omega) only [go_sem]⟩
   ·have hS:nj s j ha=R:=by simpa [hk0] using hR.2
    have hk1:((k:Int) == 0)=false:=by simp;omega
    (repeat' first|(with_reducible first|refine Z ?_|refine Y ?_|(refine hK _ _ ?_;clear hK K)|refine And.intro ?_ ?_|exact Ct|intro (K:_->_->Prop) hK|(refine gI fun hg=>?_;try simp only [hC,reduceCtorEq] at hg;try simp only [hg]))|((with_reducible refine E ?_;repeat refine Y ?_);refine eF rfl ?_)|simp (disch:=omega) only [go_sem,hk1]|(with_reducible intro hg;try simp only [hC,reduceCtorEq] at hg)|exact Cl|fail)
    refine AW.c (fun h=>?_) fun h=>?_
    ·simp only [h,cond_false]
     have hS:=(Fu ha h).symm.trans hS
     have hge:=lf s (j:Int)
     have hle:=ld s (j:Int)
     have Ui:=lf s ((j+1:Nat):Int)
     have hle1:=ld s ((j+1:Nat):Int)
     have O1:=lf s ((j+1+1:Nat):Int)
     have hle2:=ld s ((j+1+1:Nat):Int)
     cases hch:il s j with
     | false =>
      have hN':R=none:=by rw [<- hS,jk ha (u7 hch)]
      (repeat' first|(with_reducible first|refine Z ?_|refine Y ?_|(refine hK _ _ ?_;clear hK K)|refine And.intro ?_ ?_|exact Ct|intro (K:_->_->Prop) hK|(refine gI fun hg=>?_;try simp only [hC,reduceCtorEq] at hg;try simp only [hg]))|((with_reducible refine E ?_;repeat refine Y ?_);refine eF rfl ?_)|simp (disch:=omega) only [go_sem,hch]|(with_reducible intro hg;try simp only [hC,reduceCtorEq] at hg)|exact Cl|fail)
      refine AW.c (fun h=>?_) fun h=>?_
      ·simp only [h,cond_true]
       have hl2:=cw.1 h
       cases hc2:il s (j+1) with
       | true =>
        have hl3:=mr hc2
        (repeat' first|(with_reducible first|refine Z ?_|refine Y ?_|(refine hK _ _ ?_;clear hK K)|refine And.intro ?_ ?_|exact Ct|intro (K:_->_->Prop) hK|(refine gI fun hg=>?_;try simp only [hC,reduceCtorEq] at hg;try simp only [hg]))|((with_reducible refine E ?_;repeat refine Y ?_);refine eF rfl ?_)|simp (disch:=omega) only [go_sem,hc2]|(with_reducible intro hg;try simp only [hC,reduceCtorEq] at hg)|exact Cl|fail)
        refine AW.c (fun h=>?_) fun h=>?_
        ·omega
        ·(refine vK ?_;with_reducible repeat' first|exact Le.l|apply Sw|intro (K:_->_->Prop) hK|intro h)
         refine AW.aw [9] [0,2,3,6,7,8] (fun m xs o=>∃ x:Int,xs=[.v (.int .i64 x)]/\o=[(b3,some (aY (fun c=>ha c || (decide (0<=(c:Int)) && decide ((c:Int)<x))))),(b2,some [.v (.int .i64 0),.str [],.v (.slice none 0 0)]),(b,some [.str s,.v (.int .i64 (j+1+1:Nat)),.v (.bool true)])]/\m=(256 - x).toNat/\0<=x/\x<=256/\(0<=at8 s ((j+1:Nat):Int)->x<=at8 s ((j+1:Nat):Int)+1)/\(at8 s ((j+1:Nat):Int)<0->x=0)) _ [(b3,some (aY ha)),(b2,some [.v (.int .i64 0),.str [],.v (.slice none 0 0)]),(b,some [.str s,.v (.int .i64 (j+1+1:Nat)),.v (.bool true)])] gO ⟨0,rfl,by rw [ep],rfl,by omega,by omega,by omega,by omega⟩ ?_
         rintro m xs o ⟨x,rfl,rfl,rfl,hx1,hx2,hx3,hx4⟩
         obtain ⟨y,rfl⟩:∃ y:Nat,x=y:=⟨x.toNat,by omega⟩
         (refine vK ?_;with_reducible repeat' first|exact Le.l|apply Sw|intro (K:_->_->Prop) hK|intro h)
         refine AW.c (fun h=>?_) fun h=>?_
         ·(refine vK ?_;with_reducible repeat' first|exact Le.l|apply Sw|intro (K:_->_->Prop) hK|intro h)
          try exact ⟨_,[_],[(b3,some (aY (fun c=>ha c || (decide (0<=(c:Int)) && decide ((c:Int)<((y+1:Nat):Int)))))),(b2,some [.v (.int .i64 0),.str [],.v (.slice none 0 0)]),(b,some [.str s,.v (.int .i64 (j+1+1:Nat)),.v (.bool true)])],by omega,⟨((y+1:Nat):Int),rfl,rfl,rfl,by omega,by omega,by omega,by omega⟩,by simp,by rw [<- eu ha (by omega)];simp (maxSteps:=2000000) (disch:=omega) only [go_sem]⟩
         ·(refine vK ?_;with_reducible repeat' first|exact Le.l|apply Sw|intro (K:_->_->Prop) hK|intro h)
          exact ⟨0,[_],[(b3,some (aY (fun c=>ha c || (decide (0<=(c:Int)) && decide ((c:Int)<(y:Int)))))),(b2,some [.v (.int .i64 0),.str [],.v (.slice none 0 0)]),(b,some [.str s,.v (.int .i64 (j+1+1:Nat)),.v (.bool true)])],by simp,⟨k+1,j+1+1,_,true,rfl,rfl,rfl,by omega,by omega,by omega,by simp,fun _=>hN'⟩,rfl,by simp (maxSteps:=2000000) (disch:=omega) only [go_sem]⟩
       | false =>
        (repeat' first|(with_reducible first|refine Z ?_|refine Y ?_|(refine hK _ _ ?_;clear hK K)|refine And.intro ?_ ?_|exact Ct|intro (K:_->_->Prop) hK|(refine gI fun hg=>?_;try simp only [hC,reduceCtorEq] at hg;try simp only [hg]))|((with_reducible refine E ?_;repeat refine Y ?_);refine eF rfl ?_)|simp (disch:=omega) only [go_sem,hc2]|(with_reducible intro hg;try simp only [hC,reduceCtorEq] at hg)|exact Cl|fail)
        refine AW.c (fun h=>?_) fun h=>?_
        ·omega
        ·(refine vK ?_;with_reducible repeat' first|exact Le.l|apply Sw|intro (K:_->_->Prop) hK|intro h)
         refine AW.aw [9] [0,2,3,6,7,8] (fun m xs o=>∃ x:Int,xs=[.v (.int .i64 x)]/\o=[(b3,some (aY (fun c=>ha c || (decide (0<=(c:Int)) && decide ((c:Int)<x))))),(b2,some [.v (.int .i64 0),.str [],.v (.slice none 0 0)]),(b,some [.str s,.v (.int .i64 (j+1:Nat)),.v (.bool true)])]/\m=(256 - x).toNat/\0<=x/\x<=256/\(0<=0->x<=0+1)/\(0<0->x=0)) _ [(b3,some (aY ha)),(b2,some [.v (.int .i64 0),.str [],.v (.slice none 0 0)]),(b,some [.str s,.v (.int .i64 (j+1:Nat)),.v (.bool true)])] gO ⟨0,rfl,by rw [ep],rfl,by omega,by omega,by omega,by omega⟩ ?_
         rintro m xs o ⟨x,rfl,rfl,rfl,hx1,hx2,hx3,hx4⟩
         obtain ⟨y,rfl⟩:∃ y:Nat,x=y:=⟨x.toNat,by omega⟩
         (refine vK ?_;with_reducible repeat' first|exact Le.l|apply Sw|intro (K:_->_->Prop) hK|intro h)
         refine AW.c (fun h=>?_) fun h=>?_
         ·(refine vK ?_;with_reducible repeat' first|exact Le.l|apply Sw|intro (K:_->_->Prop) hK|intro h)
          try exact ⟨_,[_],[(b3,some (aY (fun c=>ha c || (decide (0<=(c:Int)) && decide ((c:Int)<((y+1:Nat):Int)))))),(b2,some [.v (.int .i64 0),.str [],.v (.slice none 0 0)]),(b,some [.str s,.v (.int .i64 (j+1:Nat)),.v (.bool true)])],by omega,⟨((y+1:Nat):Int),rfl,rfl,rfl,by omega,by omega,by omega,by omega⟩,by simp,by rw [<- eu ha (by omega)];simp (maxSteps:=2000000) (disch:=omega) only [go_sem]⟩
         ·(refine vK ?_;with_reducible repeat' first|exact Le.l|apply Sw|intro (K:_->_->Prop) hK|intro h)
          exact ⟨0,[_],[(b3,some (aY (fun c=>ha c || (decide (0<=(c:Int)) && decide ((c:Int)<(y:Int)))))),(b2,some [.v (.int .i64 0),.str [],.v (.slice none 0 0)]),(b,some [.str s,.v (.int .i64 (j+1:Nat)),.v (.bool true)])],by simp,⟨k+1,j+1,_,true,rfl,rfl,rfl,by omega,by omega,by omega,by simp,fun _=>hN'⟩,rfl,by simp (maxSteps:=2000000) (disch:=omega) only [go_sem]⟩
      ·simp only [h,cond_false]
       (refine vK ?_;with_reducible repeat' first|exact Le.l|apply Sw|intro (K:_->_->Prop) hK|intro h)
       refine AW.c (fun h=>?_) fun h=>?_
       ·omega
       ·(refine vK ?_;with_reducible repeat' first|exact Le.l|apply Sw|intro (K:_->_->Prop) hK|intro h)
        refine AW.aw [9] [0,2,3,6,7,8] (fun m xs o=>∃ x:Int,xs=[.v (.int .i64 x)]/\o=[(b3,some (aY (fun c=>ha c || (decide (0<=(c:Int)) && decide ((c:Int)<x))))),(b2,some [.v (.int .i64 0),.str [],.v (.slice none 0 0)]),(b,some [.str s,.v (.int .i64 (j:Nat)),.v (.bool true)])]/\m=(256 - x).toNat/\0<=x/\x<=256/\(0<=0->x<=0+1)/\(0<0->x=0)) _ [(b3,some (aY ha)),(b2,some [.v (.int .i64 0),.str [],.v (.slice none 0 0)]),(b,some [.str s,.v (.int .i64 (j:Nat)),.v (.bool true)])] gO ⟨0,rfl,by rw [ep],rfl,by omega,by omega,by omega,by omega⟩ ?_
        rintro m xs o ⟨x,rfl,rfl,rfl,hx1,hx2,hx3,hx4⟩
        obtain ⟨y,rfl⟩:∃ y:Nat,x=y:=⟨x.toNat,by omega⟩
        (refine vK ?_;with_reducible repeat' first|exact Le.l|apply Sw|intro (K:_->_->Prop) hK|intro h)
        refine AW.c (fun h=>?_) fun h=>?_
        ·(refine vK ?_;with_reducible repeat' first|exact Le.l|apply Sw|intro (K:_->_->Prop) hK|intro h)
         try exact ⟨_,[_],[(b3,some (aY (fun c=>ha c || (decide (0<=(c:Int)) && decide ((c:Int)<((y+1:Nat):Int)))))),(b2,some [.v (.int .i64 0),.str [],.v (.slice none 0 0)]),(b,some [.str s,.v (.int .i64 (j:Nat)),.v (.bool true)])],by omega,⟨((y+1:Nat):Int),rfl,rfl,rfl,by omega,by omega,by omega,by omega⟩,by simp,by rw [<- eu ha (by omega)];simp (maxSteps:=2000000) (disch:=omega) only [go_sem]⟩
        ·(refine vK ?_;with_reducible repeat' first|exact Le.l|apply Sw|intro (K:_->_->Prop) hK|intro h)
         exact ⟨0,[_],[(b3,some (aY (fun c=>ha c || (decide (0<=(c:Int)) && decide ((c:Int)<(y:Int)))))),(b2,some [.v (.int .i64 0),.str [],.v (.slice none 0 0)]),(b,some [.str s,.v (.int .i64 (j:Nat)),.v (.bool true)])],by simp,⟨k+1,j,_,true,rfl,rfl,rfl,by omega,by omega,by omega,by simp,fun _=>hN'⟩,rfl,by simp (maxSteps:=2000000) (disch:=omega) only [go_sem]⟩
     | true =>
      have hl1:=mr hch
      (repeat' first|(with_reducible first|refine Z ?_|refine Y ?_|(refine hK _ _ ?_;clear hK K)|refine And.intro ?_ ?_|exact Ct|intro (K:_->_->Prop) hK|(refine gI fun hg=>?_;try simp only [hC,reduceCtorEq] at hg;try simp only [hg]))|((with_reducible refine E ?_;repeat refine Y ?_);refine eF rfl ?_)|simp (disch:=omega) only [go_sem,hch]|(with_reducible intro hg;try simp only [hC,reduceCtorEq] at hg)|exact Cl|fail)
      refine AW.c (fun h=>?_) fun h=>?_
      ·simp only [h,cond_true]
       have qK:=h
       have hl2:=cw.1 h
       cases hc2:il s (j+1+1) with
       | true =>
        have hl3:=mr hc2
        (repeat' first|(with_reducible first|refine Z ?_|refine Y ?_|(refine hK _ _ ?_;clear hK K)|refine And.intro ?_ ?_|exact Ct|intro (K:_->_->Prop) hK|(refine gI fun hg=>?_;try simp only [hC,reduceCtorEq] at hg;try simp only [hg]))|((with_reducible refine E ?_;repeat refine Y ?_);refine eF rfl ?_)|simp (disch:=omega) only [go_sem,hc2]|(with_reducible intro hg;try simp only [hC,reduceCtorEq] at hg)|exact Cl|fail)
        refine AW.c (fun h=>?_) fun h=>?_
        ·have hN':R=none:=by rw [<- hS,jk ha (pQ qK (.inr h))]
         (refine vK ?_;with_reducible repeat' first|exact Le.l|apply Sw|intro (K:_->_->Prop) hK|intro h)
         refine AW.aw [9] [0,2,3,6,7,8] (fun m xs o=>∃ x:Int,xs=[.v (.int .i64 x)]/\o=[(b3,some (aY (fun c=>ha c || (decide (at8 s (j:Int)<=(c:Int)) && decide ((c:Int)<x))))),(b2,some [.v (.int .i64 0),.str [],.v (.slice none 0 0)]),(b,some [.str s,.v (.int .i64 (j+1+1+1:Nat)),.v (.bool true)])]/\m=(256 - x).toNat/\at8 s (j:Int)<=x/\x<=256/\(at8 s (j:Int)<=at8 s ((j+1+1:Nat):Int)->x<=at8 s ((j+1+1:Nat):Int)+1)/\(at8 s ((j+1+1:Nat):Int)<at8 s (j:Int)->x=at8 s (j:Int))) _ [(b3,some (aY ha)),(b2,some [.v (.int .i64 0),.str [],.v (.slice none 0 0)]),(b,some [.str s,.v (.int .i64 (j+1+1+1:Nat)),.v (.bool true)])] gO ⟨at8 s (j:Int),rfl,by rw [ep],rfl,by omega,by omega,by omega,by omega⟩ ?_
         rintro m xs o ⟨x,rfl,rfl,rfl,hx1,hx2,hx3,hx4⟩
         obtain ⟨y,rfl⟩:∃ y:Nat,x=y:=⟨x.toNat,by omega⟩
         (refine vK ?_;with_reducible repeat' first|exact Le.l|apply Sw|intro (K:_->_->Prop) hK|intro h)
         refine AW.c (fun h=>?_) fun h=>?_
         ·(refine vK ?_;with_reducible repeat' first|exact Le.l|apply Sw|intro (K:_->_->Prop) hK|intro h)
          try exact ⟨_,[_],[(b3,some (aY (fun c=>ha c || (decide (at8 s (j:Int)<=(c:Int)) && decide ((c:Int)<((y+1:Nat):Int)))))),(b2,some [.v (.int .i64 0),.str [],.v (.slice none 0 0)]),(b,some [.str s,.v (.int .i64 (j+1+1+1:Nat)),.v (.bool true)])],by omega,⟨((y+1:Nat):Int),rfl,rfl,rfl,by omega,by omega,by omega,by omega⟩,by simp,by rw [<- eu ha (by omega)];simp (maxSteps:=2000000) (disch:=omega) only [go_sem]⟩
         ·(refine vK ?_;with_reducible repeat' first|exact Le.l|apply Sw|intro (K:_->_->Prop) hK|intro h)
          exact ⟨0,[_],[(b3,some (aY (fun c=>ha c || (decide (at8 s (j:Int)<=(c:Int)) && decide ((c:Int)<(y:Int)))))),(b2,some [.v (.int .i64 0),.str [],.v (.slice none 0 0)]),(b,some [.str s,.v (.int .i64 (j+1+1+1:Nat)),.v (.bool true)])],by simp,⟨k+1,j+1+1+1,_,true,rfl,rfl,rfl,by omega,by omega,by omega,by simp,fun _=>hN'⟩,rfl,by simp (maxSteps:=2000000) (disch:=omega) only [go_sem]⟩
        ·have hS2:=mq ha (xd hch qK hc2 h)
         (refine vK ?_;with_reducible repeat' first|exact Le.l|apply Sw|intro (K:_->_->Prop) hK|intro h)
         refine AW.aw [9] [0,2,3,6,7,8] (fun m xs o=>∃ x:Int,xs=[.v (.int .i64 x)]/\o=[(b3,some (aY (fun c=>ha c || (decide (at8 s (j:Int)<=(c:Int)) && decide ((c:Int)<x))))),(b2,some [.v (.int .i64 0),.str [],.v (.slice none 0 0)]),(b,some [.str s,.v (.int .i64 (j+1+1+1:Nat)),.v (.bool false)])]/\m=(256 - x).toNat/\at8 s (j:Int)<=x/\x<=256/\(at8 s (j:Int)<=at8 s ((j+1+1:Nat):Int)->x<=at8 s ((j+1+1:Nat):Int)+1)/\(at8 s ((j+1+1:Nat):Int)<at8 s (j:Int)->x=at8 s (j:Int))) _ [(b3,some (aY ha)),(b2,some [.v (.int .i64 0),.str [],.v (.slice none 0 0)]),(b,some [.str s,.v (.int .i64 (j+1+1+1:Nat)),.v (.bool false)])] gO ⟨at8 s (j:Int),rfl,by rw [ep],rfl,by omega,by omega,by omega,by omega⟩ ?_
         rintro m xs o ⟨x,rfl,rfl,rfl,hx1,hx2,hx3,hx4⟩
         obtain ⟨y,rfl⟩:∃ y:Nat,x=y:=⟨x.toNat,by omega⟩
         (refine vK ?_;with_reducible repeat' first|exact Le.l|apply Sw|intro (K:_->_->Prop) hK|intro h)
         refine AW.c (fun h=>?_) fun h=>?_
         ·(refine vK ?_;with_reducible repeat' first|exact Le.l|apply Sw|intro (K:_->_->Prop) hK|intro h)
          try exact ⟨_,[_],[(b3,some (aY (fun c=>ha c || (decide (at8 s (j:Int)<=(c:Int)) && decide ((c:Int)<((y+1:Nat):Int)))))),(b2,some [.v (.int .i64 0),.str [],.v (.slice none 0 0)]),(b,some [.str s,.v (.int .i64 (j+1+1+1:Nat)),.v (.bool false)])],by omega,⟨((y+1:Nat):Int),rfl,rfl,rfl,by omega,by omega,by omega,by omega⟩,by simp,by rw [<- eu ha (by omega)];simp (maxSteps:=2000000) (disch:=omega) only [go_sem]⟩
         ·(refine vK ?_;with_reducible repeat' first|exact Le.l|apply Sw|intro (K:_->_->Prop) hK|intro h)
          exact ⟨_,[_],[(b3,some (aY (fun c=>ha c || (decide (at8 s (j:Int)<=(c:Int)) && decide ((c:Int)<(y:Int)))))),(b2,some [.v (.int .i64 0),.str [],.v (.slice none 0 0)]),(b,some [.str s,.v (.int .i64 (j+1+1+1:Nat)),.v (.bool false)])],by simp;omega,⟨k+1,j+1+1+1,_,false,rfl,rfl,rfl,by omega,by omega,by omega,fun _=>⟨by omega,by rw [if_neg (by omega),mo ha (a:=at8 s (j:Int)) (z:=at8 s ((j+1+1:Nat):Int)) (y:=(y:Int)) (by omega),<- hS2,hS]⟩,by simp⟩,rfl,by simp (maxSteps:=2000000) (disch:=omega) only [go_sem]⟩
       | false =>
        have hN':R=none:=by rw [<- hS,jk ha (pQ qK (.inl hc2))]
        (repeat' first|(with_reducible first|refine Z ?_|refine Y ?_|(refine hK _ _ ?_;clear hK K)|refine And.intro ?_ ?_|exact Ct|intro (K:_->_->Prop) hK|(refine gI fun hg=>?_;try simp only [hC,reduceCtorEq] at hg;try simp only [hg]))|((with_reducible refine E ?_;repeat refine Y ?_);refine eF rfl ?_)|simp (disch:=omega) only [go_sem,hc2]|(with_reducible intro hg;try simp only [hC,reduceCtorEq] at hg)|exact Cl|fail)
        refine AW.c (fun h=>?_) fun h=>?_
        ·(refine vK ?_;with_reducible repeat' first|exact Le.l|apply Sw|intro (K:_->_->Prop) hK|intro h)
         refine AW.aw [9] [0,2,3,6,7,8] (fun m xs o=>∃ x:Int,xs=[.v (.int .i64 x)]/\o=[(b3,some (aY (fun c=>ha c || (decide (at8 s (j:Int)<=(c:Int)) && decide ((c:Int)<x))))),(b2,some [.v (.int .i64 0),.str [],.v (.slice none 0 0)]),(b,some [.str s,.v (.int .i64 (j+1+1:Nat)),.v (.bool true)])]/\m=(256 - x).toNat/\at8 s (j:Int)<=x/\x<=256/\(at8 s (j:Int)<=0->x<=0+1)/\(0<at8 s (j:Int)->x=at8 s (j:Int))) _ [(b3,some (aY ha)),(b2,some [.v (.int .i64 0),.str [],.v (.slice none 0 0)]),(b,some [.str s,.v (.int .i64 (j+1+1:Nat)),.v (.bool true)])] gO ⟨at8 s (j:Int),rfl,by rw [ep],rfl,by omega,by omega,by omega,by omega⟩ ?_
         rintro m xs o ⟨x,rfl,rfl,rfl,hx1,hx2,hx3,hx4⟩
         obtain ⟨y,rfl⟩:∃ y:Nat,x=y:=⟨x.toNat,by omega⟩
         (refine vK ?_;with_reducible repeat' first|exact Le.l|apply Sw|intro (K:_->_->Prop) hK|intro h)
         refine AW.c (fun h=>?_) fun h=>?_
         ·(refine vK ?_;with_reducible repeat' first|exact Le.l|apply Sw|intro (K:_->_->Prop) hK|intro h)
          try exact ⟨_,[_],[(b3,some (aY (fun c=>ha c || (decide (at8 s (j:Int)<=(c:Int)) && decide ((c:Int)<((y+1:Nat):Int)))))),(b2,some [.v (.int .i64 0),.str [],.v (.slice none 0 0)]),(b,some [.str s,.v (.int .i64 (j+1+1:Nat)),.v (.bool true)])],by omega,⟨((y+1:Nat):Int),rfl,rfl,rfl,by omega,by omega,by omega,by omega⟩,by simp,by rw [<- eu ha (by omega)];simp (maxSteps:=2000000) (disch:=omega) only [go_sem]⟩
         ·(refine vK ?_;with_reducible repeat' first|exact Le.l|apply Sw|intro (K:_->_->Prop) hK|intro h)
          exact ⟨0,[_],[(b3,some (aY (fun c=>ha c || (decide (at8 s (j:Int)<=(c:Int)) && decide ((c:Int)<(y:Int)))))),(b2,some [.v (.int .i64 0),.str [],.v (.slice none 0 0)]),(b,some [.str s,.v (.int .i64 (j+1+1:Nat)),.v (.bool true)])],by simp,⟨k+1,j+1+1,_,true,rfl,rfl,rfl,by omega,by omega,by omega,by simp,fun _=>hN'⟩,rfl,by simp (maxSteps:=2000000) (disch:=omega) only [go_sem]⟩
        ·(refine vK ?_;with_reducible repeat' first|exact Le.l|apply Sw|intro (K:_->_->Prop) hK|intro h)
         refine AW.aw [9] [0,2,3,6,7,8] (fun m xs o=>∃ x:Int,xs=[.v (.int .i64 x)]/\o=[(b3,some (aY (fun c=>ha c || (decide (at8 s (j:Int)<=(c:Int)) && decide ((c:Int)<x))))),(b2,some [.v (.int .i64 0),.str [],.v (.slice none 0 0)]),(b,some [.str s,.v (.int .i64 (j+1+1:Nat)),.v (.bool true)])]/\m=(256 - x).toNat/\at8 s (j:Int)<=x/\x<=256/\(at8 s (j:Int)<=0->x<=0+1)/\(0<at8 s (j:Int)->x=at8 s (j:Int))) _ [(b3,some (aY ha)),(b2,some [.v (.int .i64 0),.str [],.v (.slice none 0 0)]),(b,some [.str s,.v (.int .i64 (j+1+1:Nat)),.v (.bool true)])] gO ⟨at8 s (j:Int),rfl,by rw [ep],rfl,by omega,by omega,by omega,by omega⟩ ?_
         rintro m xs o ⟨x,rfl,rfl,rfl,hx1,hx2,hx3,hx4⟩
         obtain ⟨y,rfl⟩:∃ y:Nat,x=y:=⟨x.toNat,by omega⟩
         (refine vK ?_;with_reducible repeat' first|exact Le.l|apply Sw|intro (K:_->_->Prop) hK|intro h)
         refine AW.c (fun h=>?_) fun h=>?_
         ·(refine vK ?_;with_reducible repeat' first|exact Le.l|apply Sw|intro (K:_->_->Prop) hK|intro h)
          try exact ⟨_,[_],[(b3,some (aY (fun c=>ha c || (decide (at8 s (j:Int)<=(c:Int)) && decide ((c:Int)<((y+1:Nat):Int)))))),(b2,some [.v (.int .i64 0),.str [],.v (.slice none 0 0)]),(b,some [.str s,.v (.int .i64 (j+1+1:Nat)),.v (.bool true)])],by omega,⟨((y+1:Nat):Int),rfl,rfl,rfl,by omega,by omega,by omega,by omega⟩,by simp,by rw [<- eu ha (by omega)];simp (maxSteps:=2000000) (disch:=omega) only [go_sem]⟩
         ·(refine vK ?_;with_reducible repeat' first|exact Le.l|apply Sw|intro (K:_->_->Prop) hK|intro h)
          exact ⟨0,[_],[(b3,some (aY (fun c=>ha c || (decide (at8 s (j:Int)<=(c:Int)) && decide ((c:Int)<(y:Int)))))),(b2,some [.v (.int .i64 0),.str [],.v (.slice none 0 0)]),(b,some [.str s,.v (.int .i64 (j+1+1:Nat)),.v (.bool true)])],by simp,⟨k+1,j+1+1,_,true,rfl,rfl,rfl,by omega,by omega,by omega,by simp,fun _=>hN'⟩,rfl,by simp (maxSteps:=2000000) (disch:=omega) only [go_sem]⟩
      ·simp only [h,cond_false]
       have hS2:=mq ha (xe hch h)
       (refine vK ?_;with_reducible repeat' first|exact Le.l|apply Sw|intro (K:_->_->Prop) hK|intro h)
       refine AW.c (fun h=>?_) fun h=>?_
       ·omega
       ·(refine vK ?_;with_reducible repeat' first|exact Le.l|apply Sw|intro (K:_->_->Prop) hK|intro h)
        refine AW.aw [9] [0,2,3,6,7,8] (fun m xs o=>∃ x:Int,xs=[.v (.int .i64 x)]/\o=[(b3,some (aY (fun c=>ha c || (decide (at8 s (j:Int)<=(c:Int)) && decide ((c:Int)<x))))),(b2,some [.v (.int .i64 0),.str [],.v (.slice none 0 0)]),(b,some [.str s,.v (.int .i64 (j+1:Nat)),.v (.bool false)])]/\m=(256 - x).toNat/\at8 s (j:Int)<=x/\x<=256/\(at8 s (j:Int)<=at8 s (j:Int)->x<=at8 s (j:Int)+1)/\(at8 s (j:Int)<at8 s (j:Int)->x=at8 s (j:Int))) _ [(b3,some (aY ha)),(b2,some [.v (.int .i64 0),.str [],.v (.slice none 0 0)]),(b,some [.str s,.v (.int .i64 (j+1:Nat)),.v (.bool false)])] gO ⟨at8 s (j:Int),rfl,by rw [ep],rfl,by omega,by omega,by omega,by omega⟩ ?_
        rintro m xs o ⟨x,rfl,rfl,rfl,hx1,hx2,hx3,hx4⟩
        obtain ⟨y,rfl⟩:∃ y:Nat,x=y:=⟨x.toNat,by omega⟩
        (refine vK ?_;with_reducible repeat' first|exact Le.l|apply Sw|intro (K:_->_->Prop) hK|intro h)
        refine AW.c (fun h=>?_) fun h=>?_
        ·(refine vK ?_;with_reducible repeat' first|exact Le.l|apply Sw|intro (K:_->_->Prop) hK|intro h)
         try exact ⟨_,[_],[(b3,some (aY (fun c=>ha c || (decide (at8 s (j:Int)<=(c:Int)) && decide ((c:Int)<((y+1:Nat):Int)))))),(b2,some [.v (.int .i64 0),.str [],.v (.slice none 0 0)]),(b,some [.str s,.v (.int .i64 (j+1:Nat)),.v (.bool false)])],by omega,⟨((y+1:Nat):Int),rfl,rfl,rfl,by omega,by omega,by omega,by omega⟩,by simp,by rw [<- eu ha (by omega)];simp (maxSteps:=2000000) (disch:=omega) only [go_sem]⟩
        ·(refine vK ?_;with_reducible repeat' first|exact Le.l|apply Sw|intro (K:_->_->Prop) hK|intro h)
         exact ⟨_,[_],[(b3,some (aY (fun c=>ha c || (decide (at8 s (j:Int)<=(c:Int)) && decide ((c:Int)<(y:Int)))))),(b2,some [.v (.int .i64 0),.str [],.v (.slice none 0 0)]),(b,some [.str s,.v (.int .i64 (j+1:Nat)),.v (.bool false)])],by simp;omega,⟨k+1,j+1,_,false,rfl,rfl,rfl,by omega,by omega,by omega,fun _=>⟨by omega,by rw [if_neg (by omega),mo ha (a:=at8 s (j:Int)) (z:=at8 s (j:Int)) (y:=(y:Int)) (by omega),<- hS2,hS]⟩,by simp⟩,rfl,by simp (maxSteps:=2000000) (disch:=omega) only [go_sem]⟩
    ·simp only [h,cond_true]
     have hl2:=cw.1 h
     (refine vK ?_;with_reducible repeat' first|exact Le.l|apply Sw|intro (K:_->_->Prop) hK|intro h)
     (refine AW.ret (aF.imp (Imp.eK (b:=b2) (by simp (maxSteps:=2000000) (disch:=omega) only [go_sem];rfl) ?_));simp (maxSteps:=2000000) (disch:=omega) only [go_sem];refine aF.dO rfl (RdQ.yes (p:=.mk 1 (oA ha) []) (j:=j+1) (by rw [ou,zt,<- hS,DJ ha h];rfl) (by omega)) ?_;simp (maxSteps:=2000000) (disch:=omega) only [go_sem])
 ·simp only [h,cond_false]
  have hnc:=h
  cases hch:il s i with
  | true =>
   (repeat' first|(with_reducible first|refine Z ?_|refine Y ?_|(refine hK _ _ ?_;clear hK K)|refine And.intro ?_ ?_|exact Ct|intro (K:_->_->Prop) hK|(refine gI fun hg=>?_;try simp only [hC,reduceCtorEq] at hg;try simp only [hg]))|((with_reducible refine E ?_;repeat refine Y ?_);refine eF rfl ?_)|simp (disch:=omega) only [go_sem,hch]|(with_reducible intro hg;try simp only [hC,reduceCtorEq] at hg)|exact Cl|fail)
   refine AW.c (fun h=>?_) fun h=>?_
   ·(refine vK ?_;with_reducible repeat' first|exact Le.l|apply Sw|intro (K:_->_->Prop) hK|intro h)
    (refine AW.ret (aF.imp (Imp.jR (b:=b2) 3 [.v (.int .i64 1),.str [UInt8.ofNat (at8 s i).toNat]] [] (by simp (maxSteps:=2000000) (disch:=omega) only [go_sem]) ?_));simp (maxSteps:=2000000) (disch:=omega) only [go_sem];refine aF.dO rfl (RdQ.no (.mk 1 [UInt8.ofNat (at8 s i).toNat] []) (j:=i+1) (by rw [ou,DP hnd hnc hp.1];intro _;rcases h with h|h;exact h;rw [kO ⟨hp.1,h⟩] at hnd;cases hnd) (by omega)) ?_;simp (maxSteps:=2000000) (disch:=omega) only [go_sem])
   ·(refine vK ?_;with_reducible repeat' first|exact Le.l|apply Sw|intro (K:_->_->Prop) hK|intro h)
    (refine AW.ret (aF.imp (Imp.jR (b:=b2) 3 [.v (.int .i64 1),.str [UInt8.ofNat (at8 s i).toNat]] [] (by simp (maxSteps:=2000000) (disch:=omega) only [go_sem]) ?_));simp (maxSteps:=2000000) (disch:=omega) only [go_sem];refine aF.dO rfl (RdQ.yes (p:=.mk 1 [UInt8.ofNat (at8 s i).toNat] []) (j:=i+1) (by rw [ou,IZ hnd hnc hp.1 hch h.1,FM hp.1,n9]) (by omega)) ?_;simp (maxSteps:=2000000) (disch:=omega) only [go_sem])
  | false =>
   (repeat' first|(with_reducible first|refine Z ?_|refine Y ?_|(refine hK _ _ ?_;clear hK K)|refine And.intro ?_ ?_|exact Ct|intro (K:_->_->Prop) hK|(refine gI fun hg=>?_;try simp only [hC,reduceCtorEq] at hg;try simp only [hg]))|((with_reducible refine E ?_;repeat refine Y ?_);refine eF rfl ?_)|simp (disch:=omega) only [go_sem,hch]|(with_reducible intro hg;try simp only [hC,reduceCtorEq] at hg)|exact Cl|fail)
   (refine AW.i rfl (fun h=>?_) (fun h=>?_)<;>try simp only [hC,reduceCtorEq] at h)
   all_goals (refine vK ?_;with_reducible repeat' first|exact Le.l|apply Sw|intro (K:_->_->Prop) hK|intro h)
   (refine AW.ret (aF.imp (Imp.jR (b:=b2) 3 [.v (.int .i64 1),.str [UInt8.ofNat 0]] [] (by simp (maxSteps:=2000000) (disch:=omega) only [go_sem]) ?_));simp (maxSteps:=2000000) (disch:=omega) only [go_sem];refine aF.dO rfl (RdQ.no (.mk 1 [UInt8.ofNat 0] []) (j:=i) (by rw [ou,DP hnd hnc hp.1];intro e;rw [hch] at e;cases e) (by omega)) ?_;simp (maxSteps:=2000000) (disch:=omega) only [go_sem])
end Go.Proofs
namespace Go.Dt
open Go.Ab
def oe:bg:=.mk 0 [] []
def eC(s:Str):bg×Bool :=
 if s.length<=30 then match gE s 0 with
  | some (p,j)=>if j=s.length then (p,true) else (oe,false)
  | none=>(oe,false)
 else (oe,false)
theorem q8(s:Str):(eC s).2=dB s:=by
 unfold eC dB
 by_cases h:s.length<=30
 ·simp only [h,if_true,decide_true,Bool.true_and]
  cases e:gE s 0 with
  | none=>rfl
  | some r =>
   obtain ⟨p,j⟩:=r
   by_cases h2:j=s.length
   ·simp [h2]
   ·simp [h2]
 ·simp [h]
theorem xV{s:Str}(h:30<s.length):eC s=(oe,false):=by rw [eC,if_neg (by omega)]
theorem xU{s:Str}(h:gE s 0=none):eC s=(oe,false):=by rw [eC,h];simp
theorem xT{s:Str}{p:bg}{j:Nat}(h:gE s 0=some (p,j))(h2:¬ j=s.length):eC s=(oe,false):=by rw [eC,h];simp [h2]
theorem Af{s:Str}{p:bg}{j:Nat}(h0:s.length<=30)(h:gE s 0=some (p,j))(h2:j=s.length):eC s=(p,true):=by rw [eC,h];simp [h2,h0]
end Go.Dt
namespace Go.Proofs
open Go.Ab Go.Dt
theorem FC:∀ (n:Nat) (b:Nat) (s:Str) (i:Nat),dS lim Tryz.prog 286 [(b,some [.str s,.v (.int .i64 i),.v (.bool false)])] [.ptr b 0] (RdQ b s i (gE s i)) (i<=s.length/\s.length<=30/\s.length - i<n)
 | 0,_,_,_=>⟨(aW 286),fun h=>absurd h.2.2 (Nat.not_lt_zero _)⟩
 | n+1,b,s,i=>RI (n+1) (Qz (n+1) (OI (n+1) (Px n (FC n)))) b s i
instance WW(b:Nat)(s:Str):dS lim Tryz.prog 286 [(b,some [.str s,.v (.int .i64 0),.v (.bool false)])] [.ptr b 0] (RdQ b s 0 (gE s 0)) (s.length<=30):=⟨(aW 286),fun h=>(FC 31 b s 0).out ⟨by omega,h,by omega⟩⟩
instance KT(s:Str):Ctr lim Tryz.prog 246 [] [.str s] (.tup [.agg [.v (.int .i64 (eC s).1.fOp),.str (eC s).1.bW,.sl false 3 ((eC s).1.ag.map bF)],.v (.bool (eC s).2)]) [] True:=by
 refine Ctr.bd Tryz.func246 Tryz.ntmps246 rfl rfl fun hp=>?_
 refine AW.fact 0 fun hf=>?_
 simp (disch:=omega) only [go_sem,Nat.reduceBEq] at hf
 (refine vK ?_;with_reducible repeat' first|exact Le.l|apply Sw|intro (K:_->_->Prop) hK|intro h)
 refine AW.c (fun h=>?_) fun h=>?_
 ·have e:=xV (s:=s) (by omega)
  (refine vX ?_;with_reducible repeat' first|exact Le.l|apply Sw|intro (K:_->_->Prop) hK|intro h)
  rename_i b2
  (refine AW.ret (aF.imp (Imp.jR (b:=b2) 3 [.v (.int .i64 0),.str []] [] (by simp (maxSteps:=2000000) (disch:=omega) only [go_sem]) ?_));simp (maxSteps:=2000000) (disch:=omega) only [go_sem];refine aF.fin rfl ?_;simp (maxSteps:=2000000) (disch:=omega) only [go_sem,e,oe,kW,iP,iQ])
 ·(refine vK ?_;with_reducible repeat' first|exact Le.l|apply Sw|intro (K:_->_->Prop) hK|intro h)
  rename_i b2 h2 b3
  refine GK.rd (fun p j hq hj=>?_) (fun p j hq hj=>?_)
  ·(refine vK ?_;with_reducible repeat' first|exact Le.l|apply Sw|intro (K:_->_->Prop) hK|intro h)
   refine AW.c (fun h=>?_) fun h=>?_
   ·have e:=xT hq (by omega)
    (refine vX ?_;with_reducible repeat' first|exact Le.l|apply Sw|intro (K:_->_->Prop) hK|intro h)
    (refine AW.ret (aF.imp (Imp.jR (b:=b2) 3 [.v (.int .i64 0),.str []] [] (by simp (maxSteps:=2000000) (disch:=omega) only [go_sem]) ?_));simp (maxSteps:=2000000) (disch:=omega) only [go_sem];refine aF.fin rfl ?_;simp (maxSteps:=2000000) (disch:=omega) only [go_sem,e,oe,kW,iP,iQ])
   ·have e:=Af (by omega) hq (by omega)
    (repeat' first|(with_reducible first|refine Z ?_|refine Y ?_|(refine hK _ _ ?_;clear hK K)|refine And.intro ?_ ?_|exact Ct|intro (K:_->_->Prop) hK|(refine gI fun hg=>?_;try simp only [hC,reduceCtorEq] at hg;try simp only [hg]))|(refine AW.i rfl (fun h=>?_) (fun h=>?_)<;>try simp only [hC,reduceCtorEq] at h)|((with_reducible refine E ?_;repeat refine Y ?_);refine eF rfl ?_)|simp (disch:=omega) only [go_sem,e]|(with_reducible intro hg;try simp only [hC,reduceCtorEq] at hg)|exact Cl|fail)
  ·have e:=xU hq
   (refine vK ?_;with_reducible repeat' first|exact Le.l|apply Sw|intro (K:_->_->Prop) hK|intro h)
   (refine AW.i rfl (fun h=>?_) (fun h=>?_)<;>try simp only [hC,reduceCtorEq] at h)
   (refine vX ?_;with_reducible repeat' first|exact Le.l|apply Sw|intro (K:_->_->Prop) hK|intro h)
   (refine AW.ret (aF.imp (Imp.jR (b:=b2) 3 [.v (.int .i64 0),.str []] [] (by simp (maxSteps:=2000000) (disch:=omega) only [go_sem]) ?_));simp (maxSteps:=2000000) (disch:=omega) only [go_sem];refine aF.fin rfl ?_;simp (maxSteps:=2000000) (disch:=omega) only [go_sem,e,oe,kW,iP,iQ])
instance OP(s:Str):Ctr lim Tryz.prog 241 [] [.str s] (.v (.bool (dB s))) [] True:=by
 refine Ctr.bd Tryz.func241 Tryz.ntmps241 rfl rfl fun hp=>?_
 have e:=q8 s
 (repeat' first|(with_reducible first|refine Z ?_|refine Y ?_|(refine hK _ _ ?_;clear hK K)|refine And.intro ?_ ?_|exact Ct|intro (K:_->_->Prop) hK|(refine gI fun hg=>?_;try simp only [hC,reduceCtorEq] at hg;try simp only [hg]))|(refine AW.i rfl (fun h=>?_) (fun h=>?_)<;>try simp only [hC,reduceCtorEq] at h)|((with_reducible refine E ?_;repeat refine Y ?_);refine eF rfl ?_)|simp (disch:=omega) only [go_sem,e]|(with_reducible intro hg;try simp only [hC,reduceCtorEq] at hg)|exact Cl|fail)
end Go.Proofs
namespace Go.Dt
open Go.Ab
@[go_sem] theorem SV:Int.toNat 256=256:=rfl
def xP:List (List Value):=List.replicate 256 [.bool false]
@[go_sem high] theorem Sc:List.replicate 256 [Value.bool false]=xP:=rfl
@[go_sem] theorem QH:xP.flatten.map avz=aY (fun _=>false):=by
 have e:xP.flatten=DS:=by
  unfold xP DS
  rw [List.flatten_replicate_singleton]
 rw [e,Io]
theorem LN(l:List bg):((l.map bF).flatMap AV.cells).length=l.length * 3:=by
 induction l with
 | nil=>rfl
 | cons x xs ih =>
  have e:(bF x).cells.length=3:=by rw [dG];rfl
  simp only [List.map_cons,List.flatMap_cons,List.length_append,ih,e,List.length_cons];omega
theorem ER(l:List bg):∀ x,x∈l.map bF->x.elem 3=true:=by
 have:=HB l
 rw [List.all_eq_true] at this;exact this
end Go.Dt
namespace Go.Proofs
open Go.Ab Go.Dt
instance Vt:Ctr lim Tryz.prog 347 [] [] (.str (oA (fun c=>decide (32<=c) && decide (c<127)))) [] True:=by
 refine Ctr.bd Tryz.func347 Tryz.ntmps347 rfl rfl fun hp=>?_
 (refine vU ?_;with_reducible repeat' first|exact Le.l|apply Sw|intro (K:_->_->Prop) hK|intro h)
 have hlow:lJ (fun c=>decide (32<=c) && decide (c<127)) 32=[]:=by
  unfold lJ
  have:(List.range 32).filter (fun c=>decide (32<=c) && decide (c<127))=[]:=by
   rw [List.filter_eq_nil_iff];intro a ha;simp at ha ⊢;omega
  rw [this];rfl
 refine AW.aw [1,2] [] (fun m xs o=>∃ k:Nat,xs=[.sl true 1 (bG (lJ (fun c=>decide (32<=c) && decide (c<127)) k)),.v (.int .i64 k)]/\o=[]/\m=127 - k/\32<=k/\k<=127) 95 [] trivial ⟨32,?_,rfl,rfl,?_,?_⟩ ?_
 ·rw [hlow];rfl
 ·omega
 ·omega
 rintro m xs o ⟨k,rfl,rfl,rfl,hk0,hk⟩
 have hl:=u6 (fun c=>decide (32<=c) && decide (c<127)) k
 have hs:=qv (fun c=>decide (32<=c) && decide (c<127)) k
 (refine vU ?_;with_reducible repeat' first|exact Le.l|apply Sw|intro (K:_->_->Prop) hK|intro h)
 ·rw [if_pos (by simp;omega)] at hs
  exact ⟨_,[_,_],[],by omega,⟨k+1,by rw [hs,<- sV _ (by omega)],rfl,rfl,by omega,by omega⟩,rfl,trivial⟩
 ·have:k=127:=by omega
  subst this
  congr 1
theorem CS:∀ (n:Nat) (op:Int) (t:Str) (ks:List bg),Ctr lim Tryz.prog 330 [] [.agg [.v (.int .i64 op),.str t,.sl false 3 (ks.map bF)]] (.agg [.v (.int .i64 op),.str t,.sl false 3 (ks.map bF)]) [] (mG ks<n)
 | 0,op,t,ks=>⟨(aW 330),fun h=>absurd h (Nat.not_lt_zero _)⟩
 | n+1,op,t,ks=>by
  have ih:=CS n
  refine Ctr.bd Tryz.func330 Tryz.ntmps330 rfl rfl fun hp=>?_
  refine AW.fact 0 fun hf=>?_
  simp (disch:=omega) only [go_sem,Nat.reduceBEq] at hf
  (refine bU ?_;with_reducible repeat' first|exact Le.l|apply Sw|intro (K:_->_->Prop) hK|intro h)
  rename_i b1 b2 hn b3
  refine AW.imp (Imp.si (b:=b3) 3 [.v (.int .i64 op),.str t] [] gO ?_)
  simp (maxSteps:=2000000) (disch:=omega) only [go_sem]
  refine AW.aw [4] [1,2,3] (fun m xs o=>∃ k:Nat,xs=[.v (.int .i64 k)]/\o=[(b3,some [.v (.int .i64 op),.str t,.sl true 3 ((ks.take k).map bF)]),(b2,some [.v (.int .i64 0),.str [],.v (.slice none 0 0)]),(b1,some [.v (.int .i64 op),.str t,.sl false 3 (ks.map bF)])]/\m=ks.length - k/\k<=ks.length) ks.length [(b3,some [.v (.int .i64 op),.str t,.sl true 3 []]),(b2,some [.v (.int .i64 0),.str [],.v (.slice none 0 0)]),(b1,some [.v (.int .i64 op),.str t,.sl false 3 (ks.map bF)])] gO ⟨0,?_,rfl,rfl,?_⟩ ?_
  ·rfl
  ·omega
  rintro m xs o ⟨k,rfl,rfl,rfl,hk⟩
  have hq:k<ks.length->_:=tO (l:=ks) (k:=k)
  have hq2:=xQ (at_ ks k)
  have hlt:(ks.take k).length=k:=by rw [List.length_take];omega
  (refine bK ?_;with_reducible repeat' first|exact Le.l|apply Sw|intro (K:_->_->Prop) hK|intro h)
  refine AW.c (fun h=>?_) fun h=>?_
  ·(refine bN ?_;with_reducible repeat' first|exact Le.l|apply Sw|intro (K:_->_->Prop) hK|intro h)
   have hfl:=LN (ks.take k)
   have hst:=EA (f:=bF) h
   refine AW.imp (Imp.lV (b0:=b3) (k:=2) (cells0:=[.v (.int .i64 op),.str t,.sl true 3 ((ks.take k).map bF)]) (sz:=3) (l:=(ks.take k).map bF) gO rfl (ER _) (fun b hb=>?_) (fun hnil=>?_))
   ·have hb1:=hb.nf
    simp only [go_sem] at hb1
    simp only [List.set_cons_zero,List.set_cons_succ]
    refine AW.GR fun K hK=>?_
    simp (maxSteps:=2000000) (disch:=omega) only [go_sem]
    (refine bN ?_;with_reducible repeat' first|exact Le.l|apply Sw|intro (K:_->_->Prop) hK|intro h)
    rename_i b9
    refine AW.imp (Imp.BF (b0:=b3) (k:=2) (b:=b9) (len:=(ks.take k).length+1) (sz:=3) (cells0:=[.v (.int .i64 op),.str t,.arr b9 0 ((ks.take k).length+1) 3]) (cells:=((ks.take k).map bF).flatMap AV.cells++[.v (.int .i64 (at_ ks k).fOp),.str (at_ ks k).bW,.sl false 3 ((at_ ks k).ag.map bF)]) (l:=(ks.take (k+1)).map bF) gO rfl gO (by omega) (by simp;omega) ?_ (ER _) ?_)
    ·refine Eq.trans ?_ (List.take_of_length_le (by rw [List.length_append,hfl];simp only [List.length_cons,List.length_nil];omega)).symm
     rw [hst,List.flatMap_append,dG]
     rfl
    simp only [List.set_cons_zero,List.set_cons_succ]
    (refine bK ?_;with_reducible repeat' first|exact Le.l|apply Sw|intro (K:_->_->Prop) hK|intro h)
    exact ⟨_,[_],[(b3,some [.v (.int .i64 op),.str t,.sl true 3 ((ks.take (k+1)).map bF)]),(b2,some [.v (.int .i64 0),.str [],.v (.slice none 0 0)]),(b1,some [.v (.int .i64 op),.str t,.sl false 3 (ks.map bF)])],by omega,⟨k+1,rfl,rfl,rfl,by omega⟩,rfl,by rw [hst,dG];simp (maxSteps:=2000000) (disch:=omega) only [go_sem]⟩
   ·simp only [List.set_cons_zero,List.set_cons_succ]
    refine AW.GR fun K hK=>?_
    simp (maxSteps:=2000000) (disch:=omega) only [go_sem]
    (refine bK ?_;with_reducible repeat' first|exact Le.l|apply Sw|intro (K:_->_->Prop) hK|intro h)
    rw [hnil] at hst
    exact ⟨_,[_],[(b3,some [.v (.int .i64 op),.str t,.sl true 3 ((ks.take (k+1)).map bF)]),(b2,some [.v (.int .i64 0),.str [],.v (.slice none 0 0)]),(b1,some [.v (.int .i64 op),.str t,.sl false 3 (ks.map bF)])],by omega,⟨k+1,rfl,rfl,rfl,by omega⟩,rfl,by rw [hst,dG];simp (maxSteps:=2000000) (disch:=omega) only [go_sem,List.nil_append]⟩
  ·rw [show k=ks.length by omega,List.take_length]
   (refine bX ?_;with_reducible repeat' first|exact Le.l|apply Sw|intro (K:_->_->Prop) hK|intro h)
   refine AW.ret (aF.imp (Imp.eK (b:=b2) (by simp (maxSteps:=2000000) (disch:=omega) only [go_sem];rfl) ?_))
   simp (maxSteps:=2000000) (disch:=omega) only [go_sem]
   refine aF.fin rfl ?_
   simp (maxSteps:=2000000) (disch:=omega) only [go_sem]
instance Ts(op:Int)(t:Str)(ks:List bg):Ctr lim Tryz.prog 330 [] [.agg [.v (.int .i64 op),.str t,.sl false 3 (ks.map bF)]] (.agg [.v (.int .i64 op),.str t,.sl false 3 (ks.map bF)]) [] True:=⟨(aW 330),fun _=>(CS (mG ks+1) op t ks).out (by omega)⟩
end Go.Proofs
namespace Go.Dt
open Go.Ab
def N0(r:Option ((Nat->Bool)×Nat)):Option (bg×Nat):=match r with|none=>none|some (has,k)=>some (n9 (oA has),k)
def uC(s:Str)(i:Nat):Option (bg×Nat):=N0 (l9 s i (fun _=>false))
theorem JV{s:Str}{j:Nat}(h:dJ s j 93=true):il s j=false:=by
 have:=cw.1 h
 rw [kZ,this.2]
 simp [mW,ltI,l8]
end Go.Dt
namespace Go.Proofs
open Go.Ab Go.Dt
instance Sd(b:Nat)(s:Str)(i:Nat):dS lim Tryz.prog 346 [(b,some [.str s,.v (.int .i64 i),.v (.bool false)])] [.ptr b 0] (RdQ b s i (uC s i)) (i<=s.length/\s.length<=30):=by
 refine dS.eO (aW 346) Tryz.func346 rfl rfl fun hp=>(?_);rw [Tryz.ntmps346]
 generalize hRR:l9 s i (fun _=>false)=R
 have hres:uC s i=N0 R:=by rw [uC,hRR]
 (refine vK ?_;with_reducible repeat' first|exact Le.l|apply Sw|intro (K:_->_->Prop) hK|intro h)
 rename_i b2 hn b3
 refine AW.aw [] [0,2,3,4] (fun m xs o=>∃ (j:Nat) (ha:Nat->Bool),xs=[]/\o=[(b3,some (aY ha)),(b2,some [.v (.int .i64 0),.str [],.v (.slice none 0 0)]),(b,some [.str s,.v (.int .i64 j),.v (.bool false)])]/\m=s.length - j/\j<=s.length/\i<=j/\((j=i/\l9 s j ha=R)\/(i<j/\nj s j ha=R))) _ [(b3,some (aY (fun _=>false))),(b2,some [.v (.int .i64 0),.str [],.v (.slice none 0 0)]),(b,some [.str s,.v (.int .i64 i),.v (.bool false)])] gO ⟨i,fun _=>false,rfl,rfl,rfl,by omega,by omega,.inl ⟨rfl,hRR⟩⟩ ?_
 rintro m xs o ⟨j,ha,rfl,rfl,rfl,hj,hij,hR⟩
 have hge:=lf s (j:Int)
 have hle:=ld s (j:Int)
 have O1:=lf s ((j+1+1:Nat):Int)
 have hle2:=ld s ((j+1+1:Nat):Int)
 (refine vK ?_;with_reducible repeat' first|exact Le.l|apply Sw|intro (K:_->_->Prop) hK|intro h)
 refine AW.c (fun h=>?_) fun h=>?_
 ·simp only [h,cond_false]
  have hS:l9 s j ha=R:=by
   rcases hR with hR|hR
   ·exact hR.2
   ·rw [<- hR.2,Fu ha h]
  clear hR
  (refine vK ?_;with_reducible repeat' first|exact Le.l|apply Sw|intro (K:_->_->Prop) hK|intro h)
  refine AW.c (fun h=>?_) fun h=>?_
  ·have hch:=rB (s:=s) (i:=j) (by rcases h with h|h;exact .inl (by omega);exact .inr h)
   (refine vK ?_;with_reducible repeat' first|exact Le.l|apply Sw|intro (K:_->_->Prop) hK|intro h)
   (refine AW.ret (aF.imp (Imp.jR (b:=b2) 3 [.v (.int .i64 0),.str []] [] (by simp (maxSteps:=2000000) (disch:=omega) only [go_sem]) ?_));simp (maxSteps:=2000000) (disch:=omega) only [go_sem];refine aF.dO rfl (RdQ.no (.mk 0 [] []) (j:=j) (by rw [hres,<- hS,jk ha (u7 hch)];rfl) (by omega)) ?_;simp (maxSteps:=2000000) (disch:=omega) only [go_sem])
  have hch:=sP (s:=s) (i:=j) ⟨by omega,h.2⟩
  have hl1:=mr hch
  (refine vK ?_;with_reducible repeat' first|exact Le.l|apply Sw|intro (K:_->_->Prop) hK|intro h)
  refine AW.c (fun h=>?_) fun h=>?_
  ·simp only [h,cond_true]
   have qK:=h
   have hl2:=cw.1 h
   (refine vK ?_;with_reducible repeat' first|exact Le.l|apply Sw|intro (K:_->_->Prop) hK|intro h)
   refine AW.c (fun h=>?_) fun h=>?_
   ·(refine vK ?_;with_reducible repeat' first|exact Le.l|apply Sw|intro (K:_->_->Prop) hK|intro h)
    (refine AW.ret (aF.imp (Imp.jR (b:=b2) 3 [.v (.int .i64 0),.str []] [] (by simp (maxSteps:=2000000) (disch:=omega) only [go_sem]) ?_));simp (maxSteps:=2000000) (disch:=omega) only [go_sem];refine aF.dO rfl (RdQ.no (.mk 0 [] []) (j:=j+1+1) (by rw [hres,<- hS,jk ha (pQ qK ?_)];rfl;rcases h with (h|h)|h;exact .inl (rB (.inl (by omega)));exact .inl (rB (.inr h));exact .inr h) (by omega)) ?_;simp (maxSteps:=2000000) (disch:=omega) only [go_sem])
   ·have hc2:=sP (s:=s) (i:=j+1+1) ⟨by omega,h.1.2⟩
    have hl3:=mr hc2
    have hS2:=mq ha (xd hch qK hc2 h.2)
    (refine vK ?_;with_reducible repeat' first|exact Le.l|apply Sw|intro (K:_->_->Prop) hK|intro h)
    refine AW.aw [7] [0,2,3,4,5,6] (fun m xs o=>∃ x:Int,xs=[.v (.int .i64 x)]/\o=[(b3,some (aY (fun c=>ha c || (decide (at8 s (j:Int)<=(c:Int)) && decide ((c:Int)<x))))),(b2,some [.v (.int .i64 0),.str [],.v (.slice none 0 0)]),(b,some [.str s,.v (.int .i64 (j+1+1+1:Nat)),.v (.bool false)])]/\m=(256 - x).toNat/\at8 s (j:Int)<=x/\x<=256/\x<=at8 s ((j+1+1:Nat):Int)+1) _ [(b3,some (aY ha)),(b2,some [.v (.int .i64 0),.str [],.v (.slice none 0 0)]),(b,some [.str s,.v (.int .i64 (j+1+1+1:Nat)),.v (.bool false)])] gO ⟨at8 s (j:Int),rfl,by rw [ep],rfl,by omega,by omega,by omega⟩ ?_
    rintro m xs o ⟨x,rfl,rfl,rfl,hx1,hx2,hx3⟩
    obtain ⟨y,rfl⟩:∃ y:Nat,x=y:=⟨x.toNat,by omega⟩
    (refine vK ?_;with_reducible repeat' first|exact Le.l|apply Sw|intro (K:_->_->Prop) hK|intro h)
    refine AW.c (fun h=>?_) fun h=>?_
    ·(refine vK ?_;with_reducible repeat' first|exact Le.l|apply Sw|intro (K:_->_->Prop) hK|intro h)
     exact ⟨_,[_],[(b3,some (aY (fun c=>ha c || (decide (at8 s (j:Int)<=(c:Int)) && decide ((c:Int)<((y+1:Nat):Int)))))),(b2,some [.v (.int .i64 0),.str [],.v (.slice none 0 0)]),(b,some [.str s,.v (.int .i64 (j+1+1+1:Nat)),.v (.bool false)])],by omega,⟨((y+1:Nat):Int),rfl,rfl,rfl,by omega,by omega,by omega⟩,by simp,by rw [<- eu ha (by omega)];simp (maxSteps:=2000000) (disch:=omega) only [go_sem]⟩
    ·(refine vK ?_;with_reducible repeat' first|exact Le.l|apply Sw|intro (K:_->_->Prop) hK|intro h)
     exact ⟨_,[],[(b3,some (aY (fun c=>ha c || (decide (at8 s (j:Int)<=(c:Int)) && decide ((c:Int)<(y:Int)))))),(b2,some [.v (.int .i64 0),.str [],.v (.slice none 0 0)]),(b,some [.str s,.v (.int .i64 (j+1+1+1:Nat)),.v (.bool false)])],by omega,⟨j+1+1+1,_,rfl,rfl,rfl,by omega,by omega,.inr ⟨by omega,by rw [mo ha (a:=at8 s (j:Int)) (z:=at8 s ((j+1+1:Nat):Int)) (y:=(y:Int)) (by omega),<- hS2,hS]⟩⟩,by simp (maxSteps:=2000000) (disch:=omega) only [go_sem]⟩
  ·simp only [h,cond_false]
   have hS2:=mq ha (xe hch h)
   (refine vK ?_;with_reducible repeat' first|exact Le.l|apply Sw|intro (K:_->_->Prop) hK|intro h)
   refine AW.aw [7] [0,2,3,4,5,6] (fun m xs o=>∃ x:Int,xs=[.v (.int .i64 x)]/\o=[(b3,some (aY (fun c=>ha c || (decide (at8 s (j:Int)<=(c:Int)) && decide ((c:Int)<x))))),(b2,some [.v (.int .i64 0),.str [],.v (.slice none 0 0)]),(b,some [.str s,.v (.int .i64 (j+1:Nat)),.v (.bool false)])]/\m=(256 - x).toNat/\at8 s (j:Int)<=x/\x<=256/\x<=at8 s (j:Int)+1) _ [(b3,some (aY ha)),(b2,some [.v (.int .i64 0),.str [],.v (.slice none 0 0)]),(b,some [.str s,.v (.int .i64 (j+1:Nat)),.v (.bool false)])] gO ⟨at8 s (j:Int),rfl,by rw [ep],rfl,by omega,by omega,by omega⟩ ?_
   rintro m xs o ⟨x,rfl,rfl,rfl,hx1,hx2,hx3⟩
   obtain ⟨y,rfl⟩:∃ y:Nat,x=y:=⟨x.toNat,by omega⟩
   (refine vK ?_;with_reducible repeat' first|exact Le.l|apply Sw|intro (K:_->_->Prop) hK|intro h)
   refine AW.c (fun h=>?_) fun h=>?_
   ·(refine vK ?_;with_reducible repeat' first|exact Le.l|apply Sw|intro (K:_->_->Prop) hK|intro h)
    exact ⟨_,[_],[(b3,some (aY (fun c=>ha c || (decide (at8 s (j:Int)<=(c:Int)) && decide ((c:Int)<((y+1:Nat):Int)))))),(b2,some [.v (.int .i64 0),.str [],.v (.slice none 0 0)]),(b,some [.str s,.v (.int .i64 (j+1:Nat)),.v (.bool false)])],by omega,⟨((y+1:Nat):Int),rfl,rfl,rfl,by omega,by omega,by omega⟩,by simp,by rw [<- eu ha (by omega)];simp (maxSteps:=2000000) (disch:=omega) only [go_sem]⟩
   ·(refine vK ?_;with_reducible repeat' first|exact Le.l|apply Sw|intro (K:_->_->Prop) hK|intro h)
    exact ⟨_,[],[(b3,some (aY (fun c=>ha c || (decide (at8 s (j:Int)<=(c:Int)) && decide ((c:Int)<(y:Int)))))),(b2,some [.v (.int .i64 0),.str [],.v (.slice none 0 0)]),(b,some [.str s,.v (.int .i64 (j+1:Nat)),.v (.bool false)])],by omega,⟨j+1,_,rfl,rfl,rfl,by omega,by omega,.inr ⟨by omega,by rw [mo ha (a:=at8 s (j:Int)) (z:=at8 s (j:Int)) (y:=(y:Int)) (by omega),<- hS2,hS]⟩⟩,by simp (maxSteps:=2000000) (disch:=omega) only [go_sem]⟩
 ·simp only [h,cond_true]
  have hend:=h
  have hl2:=cw.1 h
  (refine vK ?_;with_reducible repeat' first|exact Le.l|apply Sw|intro (K:_->_->Prop) hK|intro h)
  refine AW.c (fun h=>?_) fun h=>?_
  ·have hN:R=none:=by
    rcases hR with hR|hR
    ·rw [<- hR.2,jk ha (u7 (JV hend))]
    ·omega
   (refine vK ?_;with_reducible repeat' first|exact Le.l|apply Sw|intro (K:_->_->Prop) hK|intro h)
   refine AW.aw [8,9] [2,3] (fun m xs o=>∃ k:Nat,xs=[.sl true 1 (bG (lJ ha k)),.v (.int .i64 k)]/\o=[(b3,some (aY ha)),(b2,some [.v (.int .i64 0),.str [],.v (.slice none 0 0)]),(b,some [.str s,.v (.int .i64 (j+1:Nat)),.v (.bool true)])]/\m=256 - k/\k<=256) 256 [(b3,some (aY ha)),(b2,some [.v (.int .i64 0),.str [],.v (.slice none 0 0)]),(b,some [.str s,.v (.int .i64 (j+1:Nat)),.v (.bool true)])] gO ⟨0,?_,rfl,rfl,?_⟩ ?_
   ·rfl
   ·omega
   rintro m xs o ⟨k,rfl,rfl,rfl,hk⟩
   have hl:=u6 ha k
   have hs:=qv ha k
   (refine vK ?_;with_reducible repeat' first|exact Le.l|apply Sw|intro (K:_->_->Prop) hK|intro h)
   refine AW.c (fun h=>?_) fun h=>?_
   ·(refine vK ?_;with_reducible repeat' first|exact Le.l|apply Sw|intro (K:_->_->Prop) hK|intro h)
    refine AW.c (fun h=>?_) fun h=>?_
    ·rw [h] at hs
     (refine vK ?_;with_reducible repeat' first|exact Le.l|apply Sw|intro (K:_->_->Prop) hK|intro h)
     exact ⟨_,[_,_],[(b3,some (aY ha)),(b2,some [.v (.int .i64 0),.str [],.v (.slice none 0 0)]),(b,some [.str s,.v (.int .i64 (j+1:Nat)),.v (.bool true)])],by omega,⟨k+1,by rw [hs,if_pos rfl,<- sV _ (by omega)],rfl,rfl,by omega⟩,rfl,by simp (maxSteps:=2000000) (disch:=omega) only [go_sem]⟩
    ·rw [h] at hs
     (refine vK ?_;with_reducible repeat' first|exact Le.l|apply Sw|intro (K:_->_->Prop) hK|intro h)
     exact ⟨_,[_,_],[(b3,some (aY ha)),(b2,some [.v (.int .i64 0),.str [],.v (.slice none 0 0)]),(b,some [.str s,.v (.int .i64 (j+1:Nat)),.v (.bool true)])],by omega,⟨k+1,by rw [hs];simp,rfl,rfl,by omega⟩,rfl,by simp (maxSteps:=2000000) (disch:=omega) only [go_sem]⟩
   ·(refine vK ?_;with_reducible repeat' first|exact Le.l|apply Sw|intro (K:_->_->Prop) hK|intro h)
    have hk2:k=256:=by omega
    subst hk2
    (refine AW.ret (aF.imp (Imp.jR (b:=b2) 3 [.v (.int .i64 1),.str (lJ ha 256)] [] (by simp (maxSteps:=2000000) (disch:=omega) only [go_sem]) ?_));simp (maxSteps:=2000000) (disch:=omega) only [go_sem];refine aF.dO rfl (RdQ.no (.mk 1 (lJ ha 256) []) (j:=j+1) (by rw [hres,hN];rfl) (by omega)) ?_;simp (maxSteps:=2000000) (disch:=omega) only [go_sem])
  ·have hY:R=some (ha,j+1):=by
    rcases hR with hR|hR
    ·omega
    ·rw [<- hR.2,DJ ha hend]
   (refine vK ?_;with_reducible repeat' first|exact Le.l|apply Sw|intro (K:_->_->Prop) hK|intro h)
   refine AW.aw [8,9] [2,3] (fun m xs o=>∃ k:Nat,xs=[.sl true 1 (bG (lJ ha k)),.v (.int .i64 k)]/\o=[(b3,some (aY ha)),(b2,some [.v (.int .i64 0),.str [],.v (.slice none 0 0)]),(b,some [.str s,.v (.int .i64 (j+1:Nat)),.v (.bool false)])]/\m=256 - k/\k<=256) 256 [(b3,some (aY ha)),(b2,some [.v (.int .i64 0),.str [],.v (.slice none 0 0)]),(b,some [.str s,.v (.int .i64 (j+1:Nat)),.v (.bool false)])] gO ⟨0,?_,rfl,rfl,?_⟩ ?_
   ·rfl
   ·omega
   rintro m xs o ⟨k,rfl,rfl,rfl,hk⟩
   have hl:=u6 ha k
   have hs:=qv ha k
   (refine vK ?_;with_reducible repeat' first|exact Le.l|apply Sw|intro (K:_->_->Prop) hK|intro h)
   refine AW.c (fun h=>?_) fun h=>?_
   ·(refine vK ?_;with_reducible repeat' first|exact Le.l|apply Sw|intro (K:_->_->Prop) hK|intro h)
    refine AW.c (fun h=>?_) fun h=>?_
    ·rw [h] at hs
     (refine vK ?_;with_reducible repeat' first|exact Le.l|apply Sw|intro (K:_->_->Prop) hK|intro h)
     exact ⟨_,[_,_],[(b3,some (aY ha)),(b2,some [.v (.int .i64 0),.str [],.v (.slice none 0 0)]),(b,some [.str s,.v (.int .i64 (j+1:Nat)),.v (.bool false)])],by omega,⟨k+1,by rw [hs,if_pos rfl,<- sV _ (by omega)],rfl,rfl,by omega⟩,rfl,by simp (maxSteps:=2000000) (disch:=omega) only [go_sem]⟩
    ·rw [h] at hs
     (refine vK ?_;with_reducible repeat' first|exact Le.l|apply Sw|intro (K:_->_->Prop) hK|intro h)
     exact ⟨_,[_,_],[(b3,some (aY ha)),(b2,some [.v (.int .i64 0),.str [],.v (.slice none 0 0)]),(b,some [.str s,.v (.int .i64 (j+1:Nat)),.v (.bool false)])],by omega,⟨k+1,by rw [hs];simp,rfl,rfl,by omega⟩,rfl,by simp (maxSteps:=2000000) (disch:=omega) only [go_sem]⟩
   ·(refine vK ?_;with_reducible repeat' first|exact Le.l|apply Sw|intro (K:_->_->Prop) hK|intro h)
    have hk2:k=256:=by omega
    subst hk2
    (refine AW.ret (aF.imp (Imp.jR (b:=b2) 3 [.v (.int .i64 1),.str (lJ ha 256)] [] (by simp (maxSteps:=2000000) (disch:=omega) only [go_sem]) ?_));simp (maxSteps:=2000000) (disch:=omega) only [go_sem];refine aF.dO rfl (RdQ.yes (p:=.mk 1 (lJ ha 256) []) (j:=j+1) (by rw [hres,hY];rfl) (by omega)) ?_;simp (maxSteps:=2000000) (disch:=omega) only [go_sem])
end Go.Proofs
namespace Go.Dt
open Go.Ab
theorem GX{s:Str}{i:Nat}(h1:dJ s i 46=false)(h2:dJ s i 91=true):jn s i=uC s (i+1):=by
 rw [Bb h1 h2,uC];rfl
theorem IY{s:Str}{i:Nat}(h1:dJ s i 46=false)(h2:dJ s i 91=false)(h:i<s.length/\((ltI (at8 s i)=true\/l8 (at8 s i)=true)\/at8 s i=45)):jn s i=some (n9 ((s.take (i+1)).drop i),i+1):=by
 rw [jn,if_neg (by rw [h1];simp),if_neg (by rw [h2];simp),if_pos]
 simp only [Bool.and_eq_true,Bool.or_eq_true,decide_eq_true_eq,beq_iff_eq];exact h
theorem Eu{s:Str}{i:Nat}(h1:dJ s i 46=false)(h2:dJ s i 91=false)(hi:i<s.length)(h:(ltI (at8 s i)=false/\l8 (at8 s i)=false)/\¬ at8 s i=45):jn s i=none:=by
 rw [jn,if_neg (by rw [h1];simp),if_neg (by rw [h2];simp),if_neg]
 simp [h]
theorem Mr{s:Str}{i:Nat}{c d:Int}(h:dJ s i c=true)(hne:¬ c=d):dJ s i d=false:=by
 have:=cw.1 h
 exact rr fun _ e=>hne (this.2.symm.trans e)
end Go.Dt
namespace Go.Proofs
open Go.Ab Go.Dt
section
theorem JQ(n:Nat)(halt:∀ (b:Nat) (s:Str) (i:Nat),dS lim Tryz.prog 272 [(b,some [.str s,.v (.int .i64 i),.v (.bool false)])] [.ptr b 0] (RdQ b s i (gE s i)) (i<=s.length/\s.length<=30/\s.length - i<n))(b:Nat)(s:Str)(i:Nat) :
  dS lim Tryz.prog 329 [(b,some [.str s,.v (.int .i64 i),.v (.bool false)])] [.ptr b 0] (RdQ b s i (iT s i)) (i<s.length/\s.length<=30/\s.length - i<n+1):=by
 refine dS.eO (aW 329) Tryz.func329 rfl rfl fun hp=>(?_);rw [Tryz.ntmps329]
 (refine vK ?_;with_reducible repeat' first|exact Le.l|apply Sw|intro (K:_->_->Prop) hK|intro h)
 rename_i b2
 refine AW.c (fun h=>?_) fun h=>?_
 ·simp only [h,cond_true]
  have hlt:=cw.1 h
  have Gs:=vS h
  have J4:=fun p j=>vR (p:=p) (j:=j) h
  have J3:=fun p j=>vQ (p:=p) (j:=j) h
  (refine vK ?_;with_reducible repeat' first|exact Le.l|apply Sw|intro (K:_->_->Prop) hK|intro h)
  refine GK.rd (fun p j hq hj=>?_) (fun p j hq hj=>?_)
  ·(refine vK ?_;with_reducible repeat' first|exact Le.l|apply Sw|intro (K:_->_->Prop) hK|intro h)
   refine AW.c (fun h=>?_) fun h=>?_
   ·simp only [h,cond_false]
    (refine vK ?_;with_reducible repeat' first|exact Le.l|apply Sw|intro (K:_->_->Prop) hK|intro h)
    (refine AW.ret (aF.imp (Imp.eK (b:=b2) (by simp (maxSteps:=2000000) (disch:=omega) only [go_sem];rfl) ?_));simp (maxSteps:=2000000) (disch:=omega) only [go_sem];refine aF.dO rfl (RdQ.no p (j:=j) (J3 p j hq h) (by omega)) ?_;simp (maxSteps:=2000000) (disch:=omega) only [go_sem])
   ·simp only [h,cond_true]
    have hl2:=cw.1 h
    (refine vK ?_;with_reducible repeat' first|exact Le.l|apply Sw|intro (K:_->_->Prop) hK|intro h)
    (refine AW.ret (aF.imp (Imp.eK (b:=b2) (by simp (maxSteps:=2000000) (disch:=omega) only [go_sem];rfl) ?_));simp (maxSteps:=2000000) (disch:=omega) only [go_sem];refine aF.dO rfl (RdQ.yes (p:=p) (j:=j+1) (J4 p j hq h) (by omega)) ?_;simp (maxSteps:=2000000) (disch:=omega) only [go_sem])
  ·(refine vK ?_;with_reducible repeat' first|exact Le.l|apply Sw|intro (K:_->_->Prop) hK|intro h)
   (refine AW.i rfl (fun h=>?_) (fun h=>?_)<;>try simp only [hC,reduceCtorEq] at h)
   (refine vK ?_;with_reducible repeat' first|exact Le.l|apply Sw|intro (K:_->_->Prop) hK|intro h)
   (refine AW.ret (aF.imp (Imp.eK (b:=b2) (by simp (maxSteps:=2000000) (disch:=omega) only [go_sem];rfl) ?_));simp (maxSteps:=2000000) (disch:=omega) only [go_sem];refine aF.dO rfl (RdQ.no p (j:=j) (Gs hq) (by omega)) ?_;simp (maxSteps:=2000000) (disch:=omega) only [go_sem])
 simp only [h,cond_false]
 have ou:=xW hp.1 h
 (refine vK ?_;with_reducible repeat' first|exact Le.l|apply Sw|intro (K:_->_->Prop) hK|intro h)
 refine AW.c (fun h=>?_) fun h=>?_
 ·have zt:=GX (Mr h (by decide)) h
  have hlt:=cw.1 h
  simp only [h,cond_true]
  (refine vK ?_;with_reducible repeat' first|exact Le.l|apply Sw|intro (K:_->_->Prop) hK|intro h)
  refine GK.rdB fun p j bad hq hj=>?_
  (refine vK ?_;with_reducible repeat' first|exact Le.l|apply Sw|intro (K:_->_->Prop) hK|intro h)
  rcases hq with ⟨rfl,hq⟩|⟨rfl,hq⟩
  ·(refine AW.ret (aF.imp (Imp.eK (b:=b2) (by simp (maxSteps:=2000000) (disch:=omega) only [go_sem];rfl) ?_));simp (maxSteps:=2000000) (disch:=omega) only [go_sem];refine aF.dO rfl (RdQ.yes (p:=p) (j:=j) (by rw [ou,zt,hq]) (by omega)) ?_;simp (maxSteps:=2000000) (disch:=omega) only [go_sem])
  ·(refine AW.ret (aF.imp (Imp.eK (b:=b2) (by simp (maxSteps:=2000000) (disch:=omega) only [go_sem];rfl) ?_));simp (maxSteps:=2000000) (disch:=omega) only [go_sem];refine aF.dO rfl (RdQ.no p (j:=j) (by rw [ou,zt,hq]) (by omega)) ?_;simp (maxSteps:=2000000) (disch:=omega) only [go_sem])
 simp only [h,cond_false]
 have hnc:=h
 (refine vK ?_;with_reducible repeat' first|exact Le.l|apply Sw|intro (K:_->_->Prop) hK|intro h)
 refine AW.c (fun h=>?_) fun h=>?_
 ·have Ka:=Ba h
  have hlt:=cw.1 h
  simp only [h,cond_true]
  (refine vK ?_;with_reducible repeat' first|exact Le.l|apply Sw|intro (K:_->_->Prop) hK|intro h)
  (refine AW.ret (aF.imp (Imp.jR (b:=b2) 3 [.v (.int .i64 1),.str (oA (fun c=>decide (32<=c) && decide (c<127)))] [] (by simp (maxSteps:=2000000) (disch:=omega) only [go_sem]) ?_));simp (maxSteps:=2000000) (disch:=omega) only [go_sem];refine aF.dO rfl (RdQ.yes (p:=.mk 1 (oA (fun c=>decide (32<=c) && decide (c<127))) []) (j:=i+1) (by rw [ou,Ka,any_eq,n9]) (by omega)) ?_;simp (maxSteps:=2000000) (disch:=omega) only [go_sem])
 simp only [h,cond_false]
 have hnd:=h
 (refine vK ?_;with_reducible repeat' first|exact Le.l|apply Sw|intro (K:_->_->Prop) hK|intro h)
 refine AW.c (fun h=>?_) fun h=>?_
 ·(refine vK ?_;with_reducible repeat' first|exact Le.l|apply Sw|intro (K:_->_->Prop) hK|intro h)
  (refine AW.ret (aF.imp (Imp.jR (b:=b2) 3 [.v (.int .i64 1),.str ((s.take (i+1)).drop i)] [] (by simp (maxSteps:=2000000) (disch:=omega) only [go_sem]) ?_));simp (maxSteps:=2000000) (disch:=omega) only [go_sem];refine aF.dO rfl (RdQ.yes (p:=.mk 1 ((s.take (i+1)).drop i) []) (j:=i+1) (by rw [ou,IY hnd hnc h,n9]) (by omega)) ?_;simp (maxSteps:=2000000) (disch:=omega) only [go_sem])
 ·(refine vK ?_;with_reducible repeat' first|exact Le.l|apply Sw|intro (K:_->_->Prop) hK|intro h)
  (refine AW.ret (aF.imp (Imp.jR (b:=b2) 3 [.v (.int .i64 0),.str []] [] (by simp (maxSteps:=2000000) (disch:=omega) only [go_sem]) ?_));simp (maxSteps:=2000000) (disch:=omega) only [go_sem];refine aF.dO rfl (RdQ.no (.mk 0 [] []) (j:=i) (by rw [ou,Eu hnd hnc hp.1 (h hp.1)]) (by omega)) ?_;simp (maxSteps:=2000000) (disch:=omega) only [go_sem])
theorem Mi(n:Nat)(Rf:∀ (b:Nat) (s:Str) (i:Nat),dS lim Tryz.prog 329 [(b,some [.str s,.v (.int .i64 i),.v (.bool false)])] [.ptr b 0] (RdQ b s i (iT s i)) (i<s.length/\s.length<=30/\s.length - i<n))(b:Nat)(s:Str)(i:Nat) :
  dS lim Tryz.prog 308 [(b,some [.str s,.v (.int .i64 i),.v (.bool false)])] [.ptr b 0] (RdQ b s i (gp s i [])) (i<=s.length/\s.length<=30/\s.length - i<n):=by
 refine dS.eO (aW 308) Tryz.func308 rfl rfl fun hp=>(?_);rw [Tryz.ntmps308]
 (refine vK ?_;with_reducible repeat' first|exact Le.l|apply Sw|intro (K:_->_->Prop) hK|intro h)
 rename_i b2
 refine AW.aw [3] [0,2] (fun m xs o=>∃ (l:List bg) (j:Nat) (bad:Bool),xs=[.sl true 3 (l.map bF)]/\o=[(b2,some [.v (.int .i64 0),.str [],.v (.slice none 0 0)]),(b,some [.str s,.v (.int .i64 j),.v (.bool bad)])]/\m=(if bad then 0 else s.length - j+1)/\j<=s.length/\l.length<=31/\i<=j/\(bad=false->l.length<=j/\gp s j l=gp s i [])/\(bad=true->gp s i []=none)) _ [(b2,some [.v (.int .i64 0),.str [],.v (.slice none 0 0)]),(b,some [.str s,.v (.int .i64 i),.v (.bool false)])] (fJ (Ne.symm h) rfl rfl) ⟨[],i,false,?_,rfl,rfl,?_,?_,?_,?_,?_⟩ ?_
 ·rfl
 ·omega
 ·simp
 ·omega
 ·simp
 ·simp
 rintro m xs o ⟨l,j,bad,rfl,rfl,rfl,hj,hl0,hij,hR,hN⟩
 cases bad with
 | true =>
  have hN:=hN rfl
  (refine vK ?_;with_reducible repeat' first|exact Le.l|apply Sw|intro (K:_->_->Prop) hK|intro h)
  (refine AW.i rfl (fun h=>?_) (fun h=>?_)<;>try simp only [hC,reduceCtorEq] at h)
  refine AW.imp (Imp.frz 3 ?_)
  simp (maxSteps:=2000000) (disch:=omega) only [go_sem]
  (refine vK ?_;with_reducible repeat' first|exact Le.l|apply Sw|intro (K:_->_->Prop) hK|intro h)
  refine AW.c (fun h=>?_) fun h=>?_
  ·(refine vK ?_;with_reducible repeat' first|exact Le.l|apply Sw|intro (K:_->_->Prop) hK|intro h)
   (refine AW.ret (aF.imp (Imp.eK (b:=b2) (by simp (maxSteps:=2000000) (disch:=omega) only [go_sem];rfl) ?_));simp (maxSteps:=2000000) (disch:=omega) only [go_sem];refine aF.dO rfl (RdQ.no (at_ l 0) (j:=j) hN (by omega)) ?_;simp (maxSteps:=2000000) (disch:=omega) only [go_sem])
  ·(refine vK ?_;with_reducible repeat' first|exact Le.l|apply Sw|intro (K:_->_->Prop) hK|intro h)
   (refine AW.ret (aF.imp (Imp.eK (b:=b2) (by simp (maxSteps:=2000000) (disch:=omega) only [go_sem];rfl) ?_));simp (maxSteps:=2000000) (disch:=omega) only [go_sem];refine aF.dO rfl (RdQ.no (.mk 2 [] l) (j:=j) hN (by omega)) ?_;simp (maxSteps:=2000000) (disch:=omega) only [go_sem])
 | false =>
  have hR:=hR rfl
  (refine vK ?_;with_reducible repeat' first|exact Le.l|apply Sw|intro (K:_->_->Prop) hK|intro h)
  refine AW.c (fun h=>?_) fun h=>?_
  ·have hc:=h
   (refine vK ?_;with_reducible repeat' first|exact Le.l|apply Sw|intro (K:_->_->Prop) hK|intro h)
   refine GK.rd (fun p k hq hk=>?_) (fun p k hq hk=>?_)
   ·have hb:=wG hq
    have hgo:∀ pp jj,post s p k=(pp,jj)->gp s jj (l++[pp])=gp s i []:=fun pp jj e=>by
     rw [<- hR.2,<- ES l hc.1.1 hc.1.2 hc.2 (by rw [j9,hq];simp only [e])]
    (refine vK ?_;with_reducible repeat' first|exact Le.l|apply Sw|intro (K:_->_->Prop) hK|intro h)
    rename_i b4
    refine AW.c (fun h=>?_) fun h=>?_
    ·simp only [h,cond_true]
     have hl2:=cw.1 h
     have hpo:=hgo (.mk 4 [] [p]) (k+1) (by rw [post];simp [*])
     (refine vN ?_;with_reducible repeat' first|exact Le.l|apply Sw|intro (K:_->_->Prop) hK|intro h)
     refine AW.Cm fun K hK=>?_
     simp (maxSteps:=2000000) (disch:=omega) only [go_sem]
     (refine vN ?_;with_reducible repeat' first|exact Le.l|apply Sw|intro (K:_->_->Prop) hK|intro h)
     refine AW.imp (Imp.eK (b:=b4) (by simp (maxSteps:=2000000) (disch:=omega) only [go_sem];rfl) ?_)
     simp (maxSteps:=2000000) (disch:=omega) only [go_sem]
     (refine vK ?_;with_reducible repeat' first|exact Le.l|apply Sw|intro (K:_->_->Prop) hK|intro h)
     exact ⟨_,[_],[(b2,some [.v (.int .i64 0),.str [],.v (.slice none 0 0)]),(b,some [.str s,.v (.int .i64 (k+1:Nat)),.v (.bool false)])],by simp;omega,⟨l++[.mk 4 [] [p]],k+1,false,rfl,rfl,rfl,by omega,by simp;omega,by omega,fun _=>⟨by simp;omega,hpo⟩,by simp⟩,by simp [dG,kW,iP,iQ],by simp (maxSteps:=2000000) (disch:=omega) only [go_sem]⟩
    simp only [h,cond_false]
    (refine vK ?_;with_reducible repeat' first|exact Le.l|apply Sw|intro (K:_->_->Prop) hK|intro h)
    refine AW.c (fun h=>?_) fun h=>?_
    ·simp only [h,cond_true]
     have hl2:=cw.1 h
     have hpo:=hgo (.mk 2 [] [p,.mk 4 [] [p]]) (k+1) (by rw [post];simp [*])
     (refine vN ?_;with_reducible repeat' first|exact Le.l|apply Sw|intro (K:_->_->Prop) hK|intro h)
     refine AW.GR fun K hK=>?_
     simp (maxSteps:=2000000) (disch:=omega) only [go_sem]
     (refine vN ?_;with_reducible repeat' first|exact Le.l|apply Sw|intro (K:_->_->Prop) hK|intro h)
     refine AW.imp (Imp.eK (b:=b4) (by simp (maxSteps:=2000000) (disch:=omega) only [go_sem];rfl) ?_)
     simp (maxSteps:=2000000) (disch:=omega) only [go_sem]
     (refine vK ?_;with_reducible repeat' first|exact Le.l|apply Sw|intro (K:_->_->Prop) hK|intro h)
     exact ⟨_,[_],[(b2,some [.v (.int .i64 0),.str [],.v (.slice none 0 0)]),(b,some [.str s,.v (.int .i64 (k+1:Nat)),.v (.bool false)])],by simp;omega,⟨l++[.mk 2 [] [p,.mk 4 [] [p]]],k+1,false,rfl,rfl,rfl,by omega,by simp;omega,by omega,fun _=>⟨by simp;omega,hpo⟩,by simp⟩,by simp [dG,kW,iP,iQ],by simp (maxSteps:=2000000) (disch:=omega) only [go_sem]⟩
    simp only [h,cond_false]
    (refine vK ?_;with_reducible repeat' first|exact Le.l|apply Sw|intro (K:_->_->Prop) hK|intro h)
    refine AW.c (fun h=>?_) fun h=>?_
    ·simp only [h,cond_true]
     have hl2:=cw.1 h
     have hpo:=hgo (.mk 5 [] [p]) (k+1) (by rw [post];simp [*])
     (refine vN ?_;with_reducible repeat' first|exact Le.l|apply Sw|intro (K:_->_->Prop) hK|intro h)
     refine AW.Cm fun K hK=>?_
     simp (maxSteps:=2000000) (disch:=omega) only [go_sem]
     (refine vN ?_;with_reducible repeat' first|exact Le.l|apply Sw|intro (K:_->_->Prop) hK|intro h)
     refine AW.imp (Imp.eK (b:=b4) (by simp (maxSteps:=2000000) (disch:=omega) only [go_sem];rfl) ?_)
     simp (maxSteps:=2000000) (disch:=omega) only [go_sem]
     (refine vK ?_;with_reducible repeat' first|exact Le.l|apply Sw|intro (K:_->_->Prop) hK|intro h)
     exact ⟨_,[_],[(b2,some [.v (.int .i64 0),.str [],.v (.slice none 0 0)]),(b,some [.str s,.v (.int .i64 (k+1:Nat)),.v (.bool false)])],by simp;omega,⟨l++[.mk 5 [] [p]],k+1,false,rfl,rfl,rfl,by omega,by simp;omega,by omega,fun _=>⟨by simp;omega,hpo⟩,by simp⟩,by simp [dG,kW,iP,iQ],by simp (maxSteps:=2000000) (disch:=omega) only [go_sem]⟩
    ·simp only [h,cond_false]
     have hpo:=hgo p k (by rw [post];simp [*])
     (refine vK ?_;with_reducible repeat' first|exact Le.l|apply Sw|intro (K:_->_->Prop) hK|intro h)
     exact ⟨_,[_],[(b2,some [.v (.int .i64 0),.str [],.v (.slice none 0 0)]),(b,some [.str s,.v (.int .i64 (k:Nat)),.v (.bool false)])],by simp;omega,⟨l++[p],k,false,rfl,rfl,rfl,by omega,by simp;omega,by omega,fun _=>⟨by simp;omega,hpo⟩,by simp⟩,by simp [dG,kW,iP,iQ],by simp (maxSteps:=2000000) (disch:=omega) only [go_sem]⟩
   ·have hN':gp s i []=none:=by rw [<- hR.2,Ag l hc.1.1 hc.1.2 hc.2 (by rw [j9,hq])]
    (refine vK ?_;with_reducible repeat' first|exact Le.l|apply Sw|intro (K:_->_->Prop) hK|intro h)
    (refine AW.i rfl (fun h=>?_) (fun h=>?_)<;>try simp only [hC,reduceCtorEq] at h)
    (refine vK ?_;with_reducible repeat' first|exact Le.l|apply Sw|intro (K:_->_->Prop) hK|intro h)
    (refine AW.i rfl (fun h=>?_) (fun h=>?_)<;>try simp only [hC,reduceCtorEq] at h)
    (refine vK ?_;with_reducible repeat' first|exact Le.l|apply Sw|intro (K:_->_->Prop) hK|intro h)
    (refine AW.i rfl (fun h=>?_) (fun h=>?_)<;>try simp only [hC,reduceCtorEq] at h)
    (refine vK ?_;with_reducible repeat' first|exact Le.l|apply Sw|intro (K:_->_->Prop) hK|intro h)
    exact ⟨_,[_],[(b2,some [.v (.int .i64 0),.str [],.v (.slice none 0 0)]),(b,some [.str s,.v (.int .i64 k),.v (.bool true)])],by simp,⟨l++[p],k,true,rfl,rfl,rfl,by omega,by simp;omega,by omega,by simp,fun _=>hN'⟩,by simp [dG],by simp (maxSteps:=2000000) (disch:=omega) only [go_sem]⟩
  ·refine AW.imp (Imp.frz 3 ?_)
   simp (maxSteps:=2000000) (disch:=omega) only [go_sem]
   (refine vK ?_;with_reducible repeat' first|exact Le.l|apply Sw|intro (K:_->_->Prop) hK|intro h)
   refine AW.c (fun h=>?_) fun h=>?_
   ·(refine vK ?_;with_reducible repeat' first|exact Le.l|apply Sw|intro (K:_->_->Prop) hK|intro h)
    (refine AW.ret (aF.imp (Imp.eK (b:=b2) (by simp (maxSteps:=2000000) (disch:=omega) only [go_sem];rfl) ?_));simp (maxSteps:=2000000) (disch:=omega) only [go_sem];refine aF.dO rfl (RdQ.yes (p:=at_ l 0) (j:=j) (by rw [<- hR.2,qb l (by omega),mkSeq,if_pos (by omega)]) (by omega)) ?_;simp (maxSteps:=2000000) (disch:=omega) only [go_sem])
   ·(refine vK ?_;with_reducible repeat' first|exact Le.l|apply Sw|intro (K:_->_->Prop) hK|intro h)
    (refine AW.ret (aF.imp (Imp.eK (b:=b2) (by simp (maxSteps:=2000000) (disch:=omega) only [go_sem];rfl) ?_));simp (maxSteps:=2000000) (disch:=omega) only [go_sem];refine aF.dO rfl (RdQ.yes (p:=.mk 2 [] l) (j:=j) (by rw [<- hR.2,qb l (by omega),mkSeq,if_neg (by omega)]) (by omega)) ?_;simp (maxSteps:=2000000) (disch:=omega) only [go_sem])
end
section
theorem Mj(n:Nat)(TV:∀ (b:Nat) (s:Str) (i:Nat),dS lim Tryz.prog 308 [(b,some [.str s,.v (.int .i64 i),.v (.bool false)])] [.ptr b 0] (RdQ b s i (gp s i [])) (i<=s.length/\s.length<=30/\s.length - i<n))(b:Nat)(s:Str)(i:Nat) :
  dS lim Tryz.prog 272 [(b,some [.str s,.v (.int .i64 i),.v (.bool false)])] [.ptr b 0] (RdQ b s i (gE s i)) (i<=s.length/\s.length<=30/\s.length - i<n):=by
 refine dS.eO (aW 272) Tryz.func272 rfl rfl fun hp=>(?_);rw [Tryz.ntmps272]
 (refine vK ?_;with_reducible repeat' first|exact Le.l|apply Sw|intro (K:_->_->Prop) hK|intro h)
 rename_i b2
 refine GK.rdB fun p j bad hq hj=>?_
 (refine vK ?_;with_reducible repeat' first|exact Le.l|apply Sw|intro (K:_->_->Prop) hK|intro h)
 refine AW.aw [3] [0,2] (fun m xs o=>∃ (l:List bg) (j:Nat) (bad:Bool),xs=[.sl true 3 (l.map bF)]/\o=[(b2,some [.v (.int .i64 0),.str [],.v (.slice none 0 0)]),(b,some [.str s,.v (.int .i64 j),.v (.bool bad)])]/\m=s.length - j/\j<=s.length/\l.length<=j+1/\i<=j/\(bad=false->ke s j l=gE s i)/\(bad=true->gE s i=none)) _ [(b2,some [.v (.int .i64 0),.str [],.v (.slice none 0 0)]),(b,some [.str s,.v (.int .i64 j),.v (.bool bad)])] (fJ (Ne.symm h) rfl rfl) ⟨[p],j,bad,?_,rfl,rfl,?_,?_,?_,?_,?_⟩ ?_
 ·simp [T,dG]
 ·omega
 ·simp
 ·omega
 ·rintro rfl
  rcases hq with ⟨_,hq⟩|⟨h,_⟩
  ·exact (EU hp.1 hq).symm
  ·cases h
 ·rintro rfl
  rcases hq with ⟨h,_⟩|⟨_,hq⟩
  ·cases h
  ·exact Ah hq
 clear hq hj bad
 rintro m xs o ⟨l,j,bad,rfl,rfl,rfl,hj,hl,hij,hR,hN⟩
 cases bad with
 | true =>
  have hN:=hN rfl
  (refine vK ?_;with_reducible repeat' first|exact Le.l|apply Sw|intro (K:_->_->Prop) hK|intro h)
  (refine AW.i rfl (fun h=>?_) (fun h=>?_)<;>try simp only [hC,reduceCtorEq] at h)
  refine AW.imp (Imp.frz 3 ?_)
  simp (maxSteps:=2000000) (disch:=omega) only [go_sem]
  (refine vK ?_;with_reducible repeat' first|exact Le.l|apply Sw|intro (K:_->_->Prop) hK|intro h)
  refine AW.c (fun h=>?_) fun h=>?_
  ·(refine vK ?_;with_reducible repeat' first|exact Le.l|apply Sw|intro (K:_->_->Prop) hK|intro h)
   (refine AW.ret (aF.imp (Imp.eK (b:=b2) (by simp (maxSteps:=2000000) (disch:=omega) only [go_sem];rfl) ?_));simp (maxSteps:=2000000) (disch:=omega) only [go_sem];refine aF.dO rfl (RdQ.no (at_ l 0) (j:=j) hN (by omega)) ?_;simp (maxSteps:=2000000) (disch:=omega) only [go_sem])
  ·(refine vK ?_;with_reducible repeat' first|exact Le.l|apply Sw|intro (K:_->_->Prop) hK|intro h)
   (refine AW.ret (aF.imp (Imp.eK (b:=b2) (by simp (maxSteps:=2000000) (disch:=omega) only [go_sem];rfl) ?_));simp (maxSteps:=2000000) (disch:=omega) only [go_sem];refine aF.dO rfl (RdQ.no (.mk 3 [] l) (j:=j) hN (by omega)) ?_;simp (maxSteps:=2000000) (disch:=omega) only [go_sem])
 | false =>
  have hR:=hR rfl
  (refine vK ?_;with_reducible repeat' first|exact Le.l|apply Sw|intro (K:_->_->Prop) hK|intro h)
  refine AW.c (fun h=>?_) fun h=>?_
  ·simp only [h,cond_true]
   have hlt:=cw.1 h
   (refine vK ?_;with_reducible repeat' first|exact Le.l|apply Sw|intro (K:_->_->Prop) hK|intro h)
   refine GK.rd (fun p k hq hk=>?_) (fun p k hq hk=>?_)
   ·(refine vK ?_;with_reducible repeat' first|exact Le.l|apply Sw|intro (K:_->_->Prop) hK|intro h)
    exact ⟨_,[_],[(b2,some [.v (.int .i64 0),.str [],.v (.slice none 0 0)]),(b,some [.str s,.v (.int .i64 k),.v (.bool false)])],by omega,⟨l++[p],k,false,rfl,rfl,rfl,by omega,by simp;omega,by omega,fun _=>by rw [<- hR,Cv l h hq],by simp⟩,by simp [dG],by simp (maxSteps:=2000000) (disch:=omega) only [go_sem]⟩
   ·(refine vK ?_;with_reducible repeat' first|exact Le.l|apply Sw|intro (K:_->_->Prop) hK|intro h)
    exact ⟨_,[_],[(b2,some [.v (.int .i64 0),.str [],.v (.slice none 0 0)]),(b,some [.str s,.v (.int .i64 k),.v (.bool true)])],by omega,⟨l++[p],k,true,rfl,rfl,rfl,by omega,by simp;omega,by omega,by simp,fun _=>by rw [<- hR,xY l h hq]⟩,by simp [dG],by simp (maxSteps:=2000000) (disch:=omega) only [go_sem]⟩
  ·simp only [h,cond_false]
   have hst:=xX l h
   refine AW.imp (Imp.frz 3 ?_)
   simp (maxSteps:=2000000) (disch:=omega) only [go_sem]
   (refine vK ?_;with_reducible repeat' first|exact Le.l|apply Sw|intro (K:_->_->Prop) hK|intro h)
   refine AW.c (fun h=>?_) fun h=>?_
   ·(refine vK ?_;with_reducible repeat' first|exact Le.l|apply Sw|intro (K:_->_->Prop) hK|intro h)
    (refine AW.ret (aF.imp (Imp.eK (b:=b2) (by simp (maxSteps:=2000000) (disch:=omega) only [go_sem];rfl) ?_));simp (maxSteps:=2000000) (disch:=omega) only [go_sem];refine aF.dO rfl (RdQ.yes (p:=at_ l 0) (j:=j) (by rw [<- hR,hst,su,if_pos (by omega)]) (by omega)) ?_;simp (maxSteps:=2000000) (disch:=omega) only [go_sem])
   ·(refine vK ?_;with_reducible repeat' first|exact Le.l|apply Sw|intro (K:_->_->Prop) hK|intro h)
    (refine AW.ret (aF.imp (Imp.eK (b:=b2) (by simp (maxSteps:=2000000) (disch:=omega) only [go_sem];rfl) ?_));simp (maxSteps:=2000000) (disch:=omega) only [go_sem];refine aF.dO rfl (RdQ.yes (p:=.mk 3 [] l) (j:=j) (by rw [<- hR,hst,su,if_neg (by omega)]) (by omega)) ?_;simp (maxSteps:=2000000) (disch:=omega) only [go_sem])
theorem Aw:∀ (n:Nat) (b:Nat) (s:Str) (i:Nat),dS lim Tryz.prog 272 [(b,some [.str s,.v (.int .i64 i),.v (.bool false)])] [.ptr b 0] (RdQ b s i (gE s i)) (i<=s.length/\s.length<=30/\s.length - i<n)
 | 0,_,_,_=>⟨(aW 272),fun h=>absurd h.2.2 (Nat.not_lt_zero _)⟩
 | n+1,b,s,i=>Mj (n+1) (Mi (n+1) (JQ n (Aw n))) b s i
instance Vu(b:Nat)(s:Str):dS lim Tryz.prog 272 [(b,some [.str s,.v (.int .i64 0),.v (.bool false)])] [.ptr b 0] (RdQ b s 0 (gE s 0)) (s.length<=30):=⟨(aW 272),fun h=>(Aw 31 b s 0).out ⟨by omega,h,by omega⟩⟩
instance KM(s:Str):Ctr lim Tryz.prog 229 [] [.str s] (.tup [.agg [.v (.int .i64 (eC s).1.fOp),.str (eC s).1.bW,.sl false 3 ((eC s).1.ag.map bF)],.v (.bool (eC s).2)]) [] True:=by
 refine Ctr.bd Tryz.func229 Tryz.ntmps229 rfl rfl fun hp=>?_
 refine AW.fact 0 fun hf=>?_
 simp (disch:=omega) only [go_sem,Nat.reduceBEq] at hf
 by_cases hlen:30<s.length
 ·have hd:decide (30<(s.length:Int))=true:=by simp;omega
  have e:=xV (s:=s) (by omega)
  (repeat' first|(with_reducible first|refine Z ?_|refine Y ?_|(refine hK _ _ ?_;clear hK K)|refine And.intro ?_ ?_|exact Ct|intro (K:_->_->Prop) hK|(refine gI fun hg=>?_;try simp only [hC,reduceCtorEq] at hg;try simp only [hg]))|((with_reducible refine E ?_;repeat refine Y ?_);refine eF rfl ?_)|simp (disch:=omega) only [go_sem,hd]|(with_reducible intro hg;try simp only [hC,reduceCtorEq] at hg)|exact Cl|fail)
  rename_i b2 b3
  (refine AW.i rfl (fun h=>?_) (fun h=>?_)<;>try simp only [hC,reduceCtorEq] at h)
  (refine vX ?_;with_reducible repeat' first|exact Le.l|apply Sw|intro (K:_->_->Prop) hK|intro h)
  (refine AW.ret (aF.imp (Imp.jR (b:=b2) 3 [.v (.int .i64 0),.str []] [] (by simp (maxSteps:=2000000) (disch:=omega) only [go_sem]) ?_));simp (maxSteps:=2000000) (disch:=omega) only [go_sem];refine aF.fin rfl ?_;simp (maxSteps:=2000000) (disch:=omega) only [go_sem,e,oe,kW,iP,iQ])
 ·have hd:decide (30<(s.length:Int))=false:=by simp;omega
  (repeat' first|(with_reducible first|refine Z ?_|refine Y ?_|(refine hK _ _ ?_;clear hK K)|refine And.intro ?_ ?_|exact Ct|intro (K:_->_->Prop) hK|(refine gI fun hg=>?_;try simp only [hC,reduceCtorEq] at hg;try simp only [hg]))|((with_reducible refine E ?_;repeat refine Y ?_);refine eF rfl ?_)|simp (disch:=omega) only [go_sem,hd]|(with_reducible intro hg;try simp only [hC,reduceCtorEq] at hg)|exact Cl|fail)
  rename_i b2 b3
  (refine AW.i rfl (fun h=>?_) (fun h=>?_)<;>try simp only [hC,reduceCtorEq] at h)
  (refine vK ?_;with_reducible repeat' first|exact Le.l|apply Sw|intro (K:_->_->Prop) hK|intro h)
  refine GK.rd (fun p j hq hj=>?_) (fun p j hq hj=>?_)
  ·(refine vK ?_;with_reducible repeat' first|exact Le.l|apply Sw|intro (K:_->_->Prop) hK|intro h)
   refine AW.c (fun h=>?_) fun h=>?_
   ·have e:=xT hq (by omega)
    (refine vX ?_;with_reducible repeat' first|exact Le.l|apply Sw|intro (K:_->_->Prop) hK|intro h)
    (refine AW.ret (aF.imp (Imp.jR (b:=b2) 3 [.v (.int .i64 0),.str []] [] (by simp (maxSteps:=2000000) (disch:=omega) only [go_sem]) ?_));simp (maxSteps:=2000000) (disch:=omega) only [go_sem];refine aF.fin rfl ?_;simp (maxSteps:=2000000) (disch:=omega) only [go_sem,e,oe,kW,iP,iQ])
   ·have e:=Af (by omega) hq (by omega)
    (repeat' first|(with_reducible first|refine Z ?_|refine Y ?_|(refine hK _ _ ?_;clear hK K)|refine And.intro ?_ ?_|exact Ct|intro (K:_->_->Prop) hK|(refine gI fun hg=>?_;try simp only [hC,reduceCtorEq] at hg;try simp only [hg]))|(refine AW.i rfl (fun h=>?_) (fun h=>?_)<;>try simp only [hC,reduceCtorEq] at h)|((with_reducible refine E ?_;repeat refine Y ?_);refine eF rfl ?_)|simp (disch:=omega) only [go_sem,e]|(with_reducible intro hg;try simp only [hC,reduceCtorEq] at hg)|exact Cl|fail)
  ·have e:=xU hq
   (refine vK ?_;with_reducible repeat' first|exact Le.l|apply Sw|intro (K:_->_->Prop) hK|intro h)
   (refine AW.i rfl (fun h=>?_) (fun h=>?_)<;>try simp only [hC,reduceCtorEq] at h)
   (refine vX ?_;with_reducible repeat' first|exact Le.l|apply Sw|intro (K:_->_->Prop) hK|intro h)
   (refine AW.ret (aF.imp (Imp.jR (b:=b2) 3 [.v (.int .i64 0),.str []] [] (by simp (maxSteps:=2000000) (disch:=omega) only [go_sem]) ?_));simp (maxSteps:=2000000) (disch:=omega) only [go_sem];refine aF.fin rfl ?_;simp (maxSteps:=2000000) (disch:=omega) only [go_sem,e,oe,kW,iP,iQ])
instance NR(s:Str):Ctr lim Tryz.prog 225 [] [.str s] (.v (.bool (dB s))) [] True:=by
 refine Ctr.bd Tryz.func225 Tryz.ntmps225 rfl rfl fun hp=>?_
 have e:=q8 s
 (repeat' first|(with_reducible first|refine Z ?_|refine Y ?_|(refine hK _ _ ?_;clear hK K)|refine And.intro ?_ ?_|exact Ct|intro (K:_->_->Prop) hK|(refine gI fun hg=>?_;try simp only [hC,reduceCtorEq] at hg;try simp only [hg]))|(refine AW.i rfl (fun h=>?_) (fun h=>?_)<;>try simp only [hC,reduceCtorEq] at h)|((with_reducible refine E ?_;repeat refine Y ?_);refine eF rfl ?_)|simp (disch:=omega) only [go_sem,e]|(with_reducible intro hg;try simp only [hC,reduceCtorEq] at hg)|exact Cl|fail)
end
end Go.Proofs
