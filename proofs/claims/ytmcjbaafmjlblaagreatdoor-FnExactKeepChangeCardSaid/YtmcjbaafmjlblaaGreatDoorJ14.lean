/- A part. -/
import Derived.Test.YtmcjbaafmjlblaaGreatDoorJ12
import Derived.Test.YtmcjbaafmjlblaaGreatDoorJ13
set_option linter.all false
set_option maxRecDepth 20000
set_option maxHeartbeats 4000000
namespace Go.Dt
open Go.Ab
@[go_sem] theorem lr(a:Int)(b:Str)(c:List bq):(bq.mk a b c).fOp=a:=rfl
@[go_sem] theorem je(a:Int)(b:Str)(c:List bq):(bq.mk a b c).cg=b:=rfl
@[go_sem] theorem jf(a:Int)(b:Str)(c:List bq):(bq.mk a b c).af=c:=rfl
def rdC(s:Str)(i:Nat)(bad:Bool):List AV:=[.str s,.v (.int .i64 i),.v (.bool bad)]
def RdQ(b:Nat)(s:Str)(i:Nat)(r:Option (bq×Nat))(res:AV)(os:Sto):Prop :=
 ∃ p j bad,(bad=false/\r=some (p,j)\/bad=true/\r=none)/\(i<=j/\j<=s.length)/\res=bO p/\os=[(b,some (rdC s j bad))]
theorem RdQ.yes{b:Nat}{s:Str}{i:Nat}{r:Option (bq×Nat)}{p:bq}{j:Nat}(h:r=some (p,j))(hj:i<=j/\j<=s.length):RdQ b s i r (bO p) [(b,some (rdC s j false))]:=⟨p,j,false,.inl ⟨rfl,h⟩,hj,rfl,rfl⟩
theorem RdQ.no{b:Nat}{s:Str}{i:Nat}{r:Option (bq×Nat)}(p:bq){j:Nat}(h:r=none)(hj:i<=j/\j<=s.length):RdQ b s i r (bO p) [(b,some (rdC s j true))]:=⟨p,j,true,.inr ⟨rfl,h⟩,hj,rfl,rfl⟩
theorem GK.rdB{os:Sto}{b:Nat}{c:Option (List AV)}{s:Str}{i:Nat}{r:Option (bq×Nat)}{K:AV->Sto->Prop}(h:∀ p j bad,(bad=false/\r=some (p,j)\/bad=true/\r=none)->i<=j/\j<=s.length->K (bO p) (iw os [(b,some (rdC s j bad))])):GK os [(b,c)] (RdQ b s i r) (K:=⟨K⟩):=by
 refine GK.intro ?_
 rintro res os' ⟨p,j,bad,hr,hj,rfl,rfl⟩
 exact ⟨rfl,h p j bad hr hj⟩
theorem GK.rd{os:Sto}{b:Nat}{c:Option (List AV)}{s:Str}{i:Nat}{r:Option (bq×Nat)}{K:AV->Sto->Prop}(h1:∀ p j,r=some (p,j)->i<=j/\j<=s.length->K (bO p) (iw os [(b,some (rdC s j false))]))(h2:∀ p j,r=none->i<=j/\j<=s.length->K (bO p) (iw os [(b,some (rdC s j true))])):GK os [(b,c)] (RdQ b s i r) (K:=⟨K⟩):=by
 refine GK.rdB ?_
 rintro p j bad (⟨rfl,h⟩|⟨rfl,h⟩) hj
 ·exact h1 p j h hj
 ·exact h2 p j h hj
theorem aJ.dS{L:Nat->Nat}{P:Program}{n:Nat}{fn:Func}{t:List (Nat×AV)}{o o':Sto}{rs:List ResultVar}{res:AV}{Q:AV->Sto->Prop}(hr:fn.results=rs.toArray)(hQ:Q res o')(h:oL P n rs t o [] (fun xs os=>p5 xs=res/\jS o' os)):aJ L P fn ⟨n,t,o⟩ Q:=by
 have:=aJ.fin (L:=L) hr h
 intro B F0 w0 a w hd
 obtain ⟨v,Dz,os',F',own',fs',fp,h3,⟨rfl,rfl⟩,h5⟩:=this B F0 w0 a w hd
 exact ⟨v,Dz,os',F',own',fs',fp,h3,hQ,h5⟩
attribute [go_sem] rdC Int.toNat_zero
end Go.Dt
namespace Go.Proofs
open Go.Ab Go.Dt
section
theorem Rn(n:Nat)(Ue:∀ (b:Nat) (s:Str) (i:Nat),gz lim Tryz.prog 315 [(b,some [.str s,.v (.int .i64 i),.v (.bool false)])] [.ptr b 0] (RdQ b s i (ji s i)) (i<s.length/\s.length<=30/\s.length - i<n))(b:Nat)(s:Str)(i:Nat) :
  gz lim Tryz.prog 304 [(b,some [.str s,.v (.int .i64 i),.v (.bool false)])] [.ptr b 0] (RdQ b s i (kN s i)) (i<s.length/\s.length<=30/\s.length - i<n):=by
 refine gz.gA (aM 304) Tryz.func304 rfl rfl fun hp=>(?_);rw [Tryz.ntmps304]
 (refine vK ?_;with_reducible repeat' first|exact Le.l|apply Sw|intro (K:_->_->Prop) hK|intro h)
 rename_i b2
 have WL:∀ p j,ji s i=some (p,j)->kN s i=some (post s p j):=fun p j h=>by rw [kN,h]
 refine GK.rd (fun p j hq hj=>?_) (fun p j hq hj=>?_)
 ·have hb:=xK hq
  have hpi:=WL p j hq
  (refine vK ?_;with_reducible repeat' first|exact Le.l|apply Sw|intro (K:_->_->Prop) hK|intro h)
  rename_i b3
  refine AW.c (fun h=>?_) fun h=>?_
  ·simp only [h,cond_true]
   have hlt:=cv.1 h
   (refine vK ?_;with_reducible repeat' first|exact Le.l|apply Sw|intro (K:_->_->Prop) hK|intro h)
   (refine AW.ret (aJ.imp (Imp.ez (b:=b2) (by simp (maxSteps:=2000000) (disch:=omega) only [go_sem];rfl) ?_));simp (maxSteps:=2000000) (disch:=omega) only [go_sem];refine aJ.dS rfl (RdQ.yes (p:=.mk 4 [] [p]) (j:=j+1) (by rw [hpi,post];simp [*]) (by omega)) ?_;simp (maxSteps:=2000000) (disch:=omega) only [go_sem])
  ·simp only [h,cond_false]
   (refine vK ?_;with_reducible repeat' first|exact Le.l|apply Sw|intro (K:_->_->Prop) hK|intro h)
   refine AW.c (fun h=>?_) fun h=>?_
   ·simp only [h,cond_true]
    have hlt:=cv.1 h
    (refine vK ?_;with_reducible repeat' first|exact Le.l|apply Sw|intro (K:_->_->Prop) hK|intro h)
    (refine AW.ret (aJ.imp (Imp.ez (b:=b2) (by simp (maxSteps:=2000000) (disch:=omega) only [go_sem];rfl) ?_));simp (maxSteps:=2000000) (disch:=omega) only [go_sem];refine aJ.dS rfl (RdQ.yes (p:=.mk 2 [] [p,.mk 4 [] [p]]) (j:=j+1) (by rw [hpi,post];simp [*]) (by omega)) ?_;simp (maxSteps:=2000000) (disch:=omega) only [go_sem])
   ·simp only [h,cond_false]
    (refine vK ?_;with_reducible repeat' first|exact Le.l|apply Sw|intro (K:_->_->Prop) hK|intro h)
    refine AW.c (fun h=>?_) fun h=>?_
    ·simp only [h,cond_true]
     have hlt:=cv.1 h
     (refine vK ?_;with_reducible repeat' first|exact Le.l|apply Sw|intro (K:_->_->Prop) hK|intro h)
     (refine AW.ret (aJ.imp (Imp.ez (b:=b2) (by simp (maxSteps:=2000000) (disch:=omega) only [go_sem];rfl) ?_));simp (maxSteps:=2000000) (disch:=omega) only [go_sem];refine aJ.dS rfl (RdQ.yes (p:=.mk 5 [] [p]) (j:=j+1) (by rw [hpi,post];simp [*]) (by omega)) ?_;simp (maxSteps:=2000000) (disch:=omega) only [go_sem])
    ·simp only [h,cond_false]
     (refine vK ?_;with_reducible repeat' first|exact Le.l|apply Sw|intro (K:_->_->Prop) hK|intro h)
     (refine AW.ret (aJ.imp (Imp.ez (b:=b2) (by simp (maxSteps:=2000000) (disch:=omega) only [go_sem];rfl) ?_));simp (maxSteps:=2000000) (disch:=omega) only [go_sem];refine aJ.dS rfl (RdQ.yes (p:=p) (j:=j) (by rw [hpi,post];simp [*]) (by omega)) ?_;simp (maxSteps:=2000000) (disch:=omega) only [go_sem])
 ·have hpi:kN s i=none:=by rw [kN,hq]
  (refine vK ?_;with_reducible repeat' first|exact Le.l|apply Sw|intro (K:_->_->Prop) hK|intro h)
  rename_i b3
  refine AW.c (fun h=>?_) fun h=>?_
  ·simp only [h,cond_true]
   have hlt:=cv.1 h
   (refine vK ?_;with_reducible repeat' first|exact Le.l|apply Sw|intro (K:_->_->Prop) hK|intro h)
   (refine AW.ret (aJ.imp (Imp.ez (b:=b2) (by simp (maxSteps:=2000000) (disch:=omega) only [go_sem];rfl) ?_));simp (maxSteps:=2000000) (disch:=omega) only [go_sem];refine aJ.dS rfl (RdQ.no (.mk 4 [] [p]) (j:=j+1) hpi (by omega)) ?_;simp (maxSteps:=2000000) (disch:=omega) only [go_sem])
  ·simp only [h,cond_false]
   (refine vK ?_;with_reducible repeat' first|exact Le.l|apply Sw|intro (K:_->_->Prop) hK|intro h)
   refine AW.c (fun h=>?_) fun h=>?_
   ·simp only [h,cond_true]
    have hlt:=cv.1 h
    (refine vK ?_;with_reducible repeat' first|exact Le.l|apply Sw|intro (K:_->_->Prop) hK|intro h)
    (refine AW.ret (aJ.imp (Imp.ez (b:=b2) (by simp (maxSteps:=2000000) (disch:=omega) only [go_sem];rfl) ?_));simp (maxSteps:=2000000) (disch:=omega) only [go_sem];refine aJ.dS rfl (RdQ.no (.mk 2 [] [p,.mk 4 [] [p]]) (j:=j+1) hpi (by omega)) ?_;simp (maxSteps:=2000000) (disch:=omega) only [go_sem])
   ·simp only [h,cond_false]
    (refine vK ?_;with_reducible repeat' first|exact Le.l|apply Sw|intro (K:_->_->Prop) hK|intro h)
    refine AW.c (fun h=>?_) fun h=>?_
    ·simp only [h,cond_true]
     have hlt:=cv.1 h
     (refine vK ?_;with_reducible repeat' first|exact Le.l|apply Sw|intro (K:_->_->Prop) hK|intro h)
     (refine AW.ret (aJ.imp (Imp.ez (b:=b2) (by simp (maxSteps:=2000000) (disch:=omega) only [go_sem];rfl) ?_));simp (maxSteps:=2000000) (disch:=omega) only [go_sem];refine aJ.dS rfl (RdQ.no (.mk 5 [] [p]) (j:=j+1) hpi (by omega)) ?_;simp (maxSteps:=2000000) (disch:=omega) only [go_sem])
    ·simp only [h,cond_false]
     (refine vK ?_;with_reducible repeat' first|exact Le.l|apply Sw|intro (K:_->_->Prop) hK|intro h)
     (refine AW.ret (aJ.imp (Imp.ez (b:=b2) (by simp (maxSteps:=2000000) (disch:=omega) only [go_sem];rfl) ?_));simp (maxSteps:=2000000) (disch:=omega) only [go_sem];refine aJ.dS rfl (RdQ.no p (j:=j) hpi (by omega)) ?_;simp (maxSteps:=2000000) (disch:=omega) only [go_sem])
end
section
theorem Tm(n:Nat)(Zs:∀ (b:Nat) (s:Str) (i:Nat),gz lim Tryz.prog 304 [(b,some [.str s,.v (.int .i64 i),.v (.bool false)])] [.ptr b 0] (RdQ b s i (kN s i)) (i<s.length/\s.length<=30/\s.length - i<n))(b:Nat)(s:Str)(i:Nat) :
  gz lim Tryz.prog 292 [(b,some [.str s,.v (.int .i64 i),.v (.bool false)])] [.ptr b 0] (RdQ b s i (gD s i [])) (i<=s.length/\s.length<=30/\s.length - i<n):=by
 refine gz.gA (aM 292) Tryz.func292 rfl rfl fun hp=>(?_);rw [Tryz.ntmps292]
 (refine vK ?_;with_reducible repeat' first|exact Le.l|apply Sw|intro (K:_->_->Prop) hK|intro h)
 rename_i b2
 refine AW.aA [3] [0,2] (fun m xs o=>∃ (l:List bq) (j:Nat) (bad:Bool),xs=[.sl true 3 (l.map bO)]/\o=[(b2,some [.v (.int .i64 0),.str [],.v (.slice none 0 0)]),(b,some [.str s,.v (.int .i64 j),.v (.bool bad)])]/\m=(if bad then 0 else s.length - j+1)/\j<=s.length/\l.length<=31/\i<=j/\(bad=false->i<=j/\l.length<=j/\gD s j l=gD s i [])/\(bad=true->gD s i []=none)) _ [(b2,some [.v (.int .i64 0),.str [],.v (.slice none 0 0)]),(b,some [.str s,.v (.int .i64 i),.v (.bool false)])] (ja (Ne.symm h) rfl rfl) ⟨[],i,false,?_,rfl,rfl,?_,?_,?_,?_,?_⟩ ?_
 ·rfl
 ·omega
 ·simp
 ·omega
 ·simp
 ·simp
 rintro m xs o ⟨l,j,bad,rfl,rfl,rfl,hj,hl0,hij,hR,hN⟩
 cases bad with
 | true =>
  have hN:=hN rfl
  (refine vK ?_;with_reducible repeat' first|exact Le.l|apply Sw|intro (K:_->_->Prop) hK|intro h)
  (refine AW.i rfl (fun h=>?_) (fun h=>?_)<;>try simp only [hC,reduceCtorEq] at h)
  refine AW.imp (Imp.frz 3 ?_)
  simp (maxSteps:=2000000) (disch:=omega) only [go_sem]
  (refine vK ?_;with_reducible repeat' first|exact Le.l|apply Sw|intro (K:_->_->Prop) hK|intro h)
  refine AW.c (fun h=>?_) fun h=>?_
  ·(refine vK ?_;with_reducible repeat' first|exact Le.l|apply Sw|intro (K:_->_->Prop) hK|intro h)
   (refine AW.ret (aJ.imp (Imp.ez (b:=b2) (by simp (maxSteps:=2000000) (disch:=omega) only [go_sem];rfl) ?_));simp (maxSteps:=2000000) (disch:=omega) only [go_sem];refine aJ.dS rfl (RdQ.no (at_ l 0) (j:=j) hN (by omega)) ?_;simp (maxSteps:=2000000) (disch:=omega) only [go_sem])
  ·(refine vK ?_;with_reducible repeat' first|exact Le.l|apply Sw|intro (K:_->_->Prop) hK|intro h)
   (refine AW.ret (aJ.imp (Imp.ez (b:=b2) (by simp (maxSteps:=2000000) (disch:=omega) only [go_sem];rfl) ?_));simp (maxSteps:=2000000) (disch:=omega) only [go_sem];refine aJ.dS rfl (RdQ.no (.mk 2 [] l) (j:=j) hN (by omega)) ?_;simp (maxSteps:=2000000) (disch:=omega) only [go_sem])
 | false =>
  have hR:=hR rfl
  (refine vK ?_;with_reducible repeat' first|exact Le.l|apply Sw|intro (K:_->_->Prop) hK|intro h)
  refine AW.c (fun h=>?_) fun h=>?_
  ·rename_i hc
   (refine vK ?_;with_reducible repeat' first|exact Le.l|apply Sw|intro (K:_->_->Prop) hK|intro h)
   refine GK.rd (fun p k hq hk=>?_) (fun p k hq hk=>?_)
   ·have hb:=DI hq
    (refine vK ?_;with_reducible repeat' first|exact Le.l|apply Sw|intro (K:_->_->Prop) hK|intro h)
    exact ⟨_,[_],[(b2,some [.v (.int .i64 0),.str [],.v (.slice none 0 0)]),(b,some [.str s,.v (.int .i64 k),.v (.bool false)])],by simp;omega,⟨l++[p],k,false,rfl,rfl,rfl,by omega,by simp;omega,by omega,fun _=>⟨by omega,by simp;omega,by rw [<- hR.2.2,Gv l h.1.1 h.1.2 h.2 hq]⟩,by simp⟩,by simp [dL],by simp (maxSteps:=2000000) (disch:=omega) only [go_sem]⟩
   ·(refine vK ?_;with_reducible repeat' first|exact Le.l|apply Sw|intro (K:_->_->Prop) hK|intro h)
    exact ⟨_,[_],[(b2,some [.v (.int .i64 0),.str [],.v (.slice none 0 0)]),(b,some [.str s,.v (.int .i64 k),.v (.bool true)])],by simp,⟨l++[p],k,true,rfl,rfl,rfl,by omega,by simp;omega,by omega,by simp,fun _=>by rw [<- hR.2.2,BK l h.1.1 h.1.2 h.2 hq]⟩,by simp [dL],by simp (maxSteps:=2000000) (disch:=omega) only [go_sem]⟩
  ·refine AW.imp (Imp.frz 3 ?_)
   simp (maxSteps:=2000000) (disch:=omega) only [go_sem]
   (refine vK ?_;with_reducible repeat' first|exact Le.l|apply Sw|intro (K:_->_->Prop) hK|intro h)
   refine AW.c (fun h=>?_) fun h=>?_
   ·(refine vK ?_;with_reducible repeat' first|exact Le.l|apply Sw|intro (K:_->_->Prop) hK|intro h)
    (refine AW.ret (aJ.imp (Imp.ez (b:=b2) (by simp (maxSteps:=2000000) (disch:=omega) only [go_sem];rfl) ?_));simp (maxSteps:=2000000) (disch:=omega) only [go_sem];refine aJ.dS rfl (RdQ.yes (p:=at_ l 0) (j:=j) (by rw [<- hR.2.2,qx l (by omega),mkSeq,if_pos (by omega)]) (by omega)) ?_;simp (maxSteps:=2000000) (disch:=omega) only [go_sem])
   ·(refine vK ?_;with_reducible repeat' first|exact Le.l|apply Sw|intro (K:_->_->Prop) hK|intro h)
    (refine AW.ret (aJ.imp (Imp.ez (b:=b2) (by simp (maxSteps:=2000000) (disch:=omega) only [go_sem];rfl) ?_));simp (maxSteps:=2000000) (disch:=omega) only [go_sem];refine aJ.dS rfl (RdQ.yes (p:=.mk 2 [] l) (j:=j) (by rw [<- hR.2.2,qx l (by omega),mkSeq,if_neg (by omega)]) (by omega)) ?_;simp (maxSteps:=2000000) (disch:=omega) only [go_sem])
instance XC(b:Nat)(s:Str)(i:Nat):Ctr lim Tryz.prog 292 [(b,some [.str s,.v (.int .i64 i),.v (.bool true)])] [.ptr b 0] (.agg [.v (.int .i64 2),.str [],.sl false 3 []]) [some [.str s,.v (.int .i64 i),.v (.bool true)]] True:=by
 refine Ctr.bd Tryz.func292 Tryz.ntmps292 rfl rfl fun hp=>?_
 (refine vK ?_;with_reducible repeat' first|exact Le.l|apply Sw|intro (K:_->_->Prop) hK|intro h)
 rename_i b2
 refine AW.aA [3] [0,2] (fun m xs o=>xs=[.sl true 3 []]/\o=[(b2,some [.v (.int .i64 0),.str [],.v (.slice none 0 0)]),(b,some [.str s,.v (.int .i64 i),.v (.bool true)])]) 0 [(b2,some [.v (.int .i64 0),.str [],.v (.slice none 0 0)]),(b,some [.str s,.v (.int .i64 i),.v (.bool true)])] (ja (Ne.symm h) rfl rfl) ⟨rfl,rfl⟩ ?_
 rintro m xs o ⟨rfl,rfl⟩
 (refine vK ?_;with_reducible repeat' first|exact Le.l|apply Sw|intro (K:_->_->Prop) hK|intro h)
 (refine AW.i rfl (fun h=>?_) (fun h=>?_)<;>try simp only [hC,reduceCtorEq] at h)
 refine AW.imp (Imp.frz 3 ?_)
 simp (maxSteps:=2000000) (disch:=omega) only [go_sem]
 (refine vK ?_;with_reducible repeat' first|exact Le.l|apply Sw|intro (K:_->_->Prop) hK|intro h)
 refine AW.c (fun h=>?_) fun h=>?_
 ·simp at h
 ·all_goals exact uU
theorem Uz(n:Nat)(WI:∀ (b:Nat) (s:Str) (i:Nat),gz lim Tryz.prog 292 [(b,some [.str s,.v (.int .i64 i),.v (.bool false)])] [.ptr b 0] (RdQ b s i (gD s i [])) (i<=s.length/\s.length<=30/\s.length - i<n))(b:Nat)(s:Str)(i:Nat) :
  gz lim Tryz.prog 283 [(b,some [.str s,.v (.int .i64 i),.v (.bool false)])] [.ptr b 0] (RdQ b s i (gQ s i)) (i<=s.length/\s.length<=30/\s.length - i<n):=by
 refine gz.gA (aM 283) Tryz.func283 rfl rfl fun hp=>(?_);rw [Tryz.ntmps283]
 (refine vK ?_;with_reducible repeat' first|exact Le.l|apply Sw|intro (K:_->_->Prop) hK|intro h)
 rename_i b2
 refine GK.rdB fun p j bad hq hj=>?_
 (refine vK ?_;with_reducible repeat' first|exact Le.l|apply Sw|intro (K:_->_->Prop) hK|intro h)
 refine AW.aA [3] [0,2] (fun m xs o=>∃ (l:List bq) (j:Nat) (bad:Bool),xs=[.sl true 3 (l.map bO)]/\o=[(b2,some [.v (.int .i64 0),.str [],.v (.slice none 0 0)]),(b,some [.str s,.v (.int .i64 j),.v (.bool bad)])]/\m=s.length - j/\j<=s.length/\l.length<=j+1/\i<=j/\(bad=false->kO s j l=gQ s i)/\(bad=true->gQ s i=none)) _ [(b2,some [.v (.int .i64 0),.str [],.v (.slice none 0 0)]),(b,some [.str s,.v (.int .i64 j),.v (.bool bad)])] (ja (Ne.symm h) rfl rfl) ⟨[p],j,bad,?_,rfl,rfl,?_,?_,?_,?_,?_⟩ ?_
 ·simp [T,dL]
 ·omega
 ·simp
 ·omega
 ·rintro rfl
  rcases hq with ⟨_,hq⟩|⟨h,_⟩
  ·exact (Gx hp.1 hq).symm
  ·cases h
 ·rintro rfl
  rcases hq with ⟨h,_⟩|⟨_,hq⟩
  ·cases h
  ·exact BL hq
 clear hq hj bad
 rintro m xs o ⟨l,j,bad,rfl,rfl,rfl,hj,hl,hij,hR,hN⟩
 (refine vK ?_;with_reducible repeat' first|exact Le.l|apply Sw|intro (K:_->_->Prop) hK|intro h)
 refine AW.c (fun h=>?_) fun h=>?_
 ·simp only [h,cond_true]
  have hlt:=cv.1 h
  cases bad with
  | true =>
   have hN:=hN rfl
   (refine vK ?_;with_reducible repeat' first|exact Le.l|apply Sw|intro (K:_->_->Prop) hK|intro h)
   exact ⟨_,[_],[(b2,some [.v (.int .i64 0),.str [],.v (.slice none 0 0)]),(b,some [.str s,.v (.int .i64 (j+1:Nat)),.v (.bool true)])],by omega,⟨l++[.mk 2 [] []],j+1,true,rfl,rfl,rfl,by omega,by simp;omega,by omega,by simp,fun _=>hN⟩,by simp [dL,lr,je,jf],by simp (maxSteps:=2000000) (disch:=omega) only [go_sem]⟩
  | false =>
   have hR:=hR rfl
   (refine vK ?_;with_reducible repeat' first|exact Le.l|apply Sw|intro (K:_->_->Prop) hK|intro h)
   refine GK.rd (fun p k hq hk=>?_) (fun p k hq hk=>?_)
   ·(refine vK ?_;with_reducible repeat' first|exact Le.l|apply Sw|intro (K:_->_->Prop) hK|intro h)
    exact ⟨_,[_],[(b2,some [.v (.int .i64 0),.str [],.v (.slice none 0 0)]),(b,some [.str s,.v (.int .i64 k),.v (.bool false)])],by omega,⟨l++[p],k,false,rfl,rfl,rfl,by omega,by simp;omega,by omega,fun _=>by rw [<- hR,DJ l h hq],by simp⟩,by simp [dL],by simp (maxSteps:=2000000) (disch:=omega) only [go_sem]⟩
   ·(refine vK ?_;with_reducible repeat' first|exact Le.l|apply Sw|intro (K:_->_->Prop) hK|intro h)
    exact ⟨_,[_],[(b2,some [.v (.int .i64 0),.str [],.v (.slice none 0 0)]),(b,some [.str s,.v (.int .i64 k),.v (.bool true)])],by omega,⟨l++[p],k,true,rfl,rfl,rfl,by omega,by simp;omega,by omega,by simp,fun _=>by rw [<- hR,zh l h hq]⟩,by simp [dL],by simp (maxSteps:=2000000) (disch:=omega) only [go_sem]⟩
 ·rename_i Zq
  simp only [h,cond_false]
  refine AW.imp (Imp.frz 3 ?_)
  simp (maxSteps:=2000000) (disch:=omega) only [go_sem]
  (refine vK ?_;with_reducible repeat' first|exact Le.l|apply Sw|intro (K:_->_->Prop) hK|intro h)
  cases bad with
  | true =>
   have hN:=hN rfl
   refine AW.c (fun h=>?_) fun h=>?_
   ·(refine vK ?_;with_reducible repeat' first|exact Le.l|apply Sw|intro (K:_->_->Prop) hK|intro h)
    (refine AW.ret (aJ.imp (Imp.ez (b:=b2) (by simp (maxSteps:=2000000) (disch:=omega) only [go_sem];rfl) ?_));simp (maxSteps:=2000000) (disch:=omega) only [go_sem];refine aJ.dS rfl (RdQ.no (at_ l 0) (j:=j) hN (by omega)) ?_;simp (maxSteps:=2000000) (disch:=omega) only [go_sem])
   ·(refine vK ?_;with_reducible repeat' first|exact Le.l|apply Sw|intro (K:_->_->Prop) hK|intro h)
    (refine AW.ret (aJ.imp (Imp.ez (b:=b2) (by simp (maxSteps:=2000000) (disch:=omega) only [go_sem];rfl) ?_));simp (maxSteps:=2000000) (disch:=omega) only [go_sem];refine aJ.dS rfl (RdQ.no (.mk 3 [] l) (j:=j) hN (by omega)) ?_;simp (maxSteps:=2000000) (disch:=omega) only [go_sem])
  | false =>
   have hR:=hR rfl
   have hst:=zg l h
   refine AW.c (fun h=>?_) fun h=>?_
   ·(refine vK ?_;with_reducible repeat' first|exact Le.l|apply Sw|intro (K:_->_->Prop) hK|intro h)
    (refine AW.ret (aJ.imp (Imp.ez (b:=b2) (by simp (maxSteps:=2000000) (disch:=omega) only [go_sem];rfl) ?_));simp (maxSteps:=2000000) (disch:=omega) only [go_sem];refine aJ.dS rfl (RdQ.yes (p:=at_ l 0) (j:=j) (by rw [<- hR,hst,sR,if_pos (by omega)]) (by omega)) ?_;simp (maxSteps:=2000000) (disch:=omega) only [go_sem])
   ·(refine vK ?_;with_reducible repeat' first|exact Le.l|apply Sw|intro (K:_->_->Prop) hK|intro h)
    (refine AW.ret (aJ.imp (Imp.ez (b:=b2) (by simp (maxSteps:=2000000) (disch:=omega) only [go_sem];rfl) ?_));simp (maxSteps:=2000000) (disch:=omega) only [go_sem];refine aJ.dS rfl (RdQ.yes (p:=.mk 3 [] l) (j:=j) (by rw [<- hR,hst,sR,if_neg (by omega)]) (by omega)) ?_;simp (maxSteps:=2000000) (disch:=omega) only [go_sem])
end
end Go.Proofs
namespace Go.Dt
open Go.Ab
section
def mC(s:Str)(j:Nat)(h:Nat->Bool):Option ((Nat->Bool)×Nat) :=
 match lZ s j with
 | none=>none
 | some (a,z,k)=>nR s k (fun c=>h c || (decide (a<=(c:Int)) && decide ((c:Int)<=z)))
theorem Fe{s:Str}{j:Nat}(h:Nat->Bool)(e:dN s j 93=true):nR s j h=some (h,j+1):=by rw [nR,if_pos e]
theorem HE{s:Str}{j:Nat}(h:Nat->Bool)(e:dN s j 93=false):nR s j h=mC s j h:=by
 rw [nR,if_neg (by rw [e];simp),mC]
 split
 ·rename_i he;rw [he]
 ·rename_i a z k he;rw [he]
theorem jA{s:Str}{j:Nat}(h:Nat->Bool)(e:lZ s j=none):mC s j h=none:=by rw [mC,e]
theorem mQ{s:Str}{j:Nat}(h:Nat->Bool){a z:Int}{k:Nat}(e:lZ s j=some (a,z,k)):mC s j h=nR s k (fun c=>h c || (decide (a<=(c:Int)) && decide ((c:Int)<=z))):=by rw [mC,e]
theorem lC(s:Str)(i:Nat):iG s i=(decide (i<s.length) && nK (at8 s i)):=rfl
theorem mR{s:Str}{i:Nat}(h:iG s i=true):i<s.length:=by
 rw [lC,Bool.and_eq_true,decide_eq_true_eq] at h;exact h.1
theorem wM{s:Str}{j:Nat}(h:iG s j=false):lZ s j=none:=by
 rw [lC] at h;rw [lZ,h];rfl
theorem yJ{s:Str}{j:Nat}(h:iG s j=true)(e:dN s (j+1) 126=false):lZ s j=some (at8 s j,at8 s j,j+1):=by
 rw [lC] at h;rw [lZ,h,if_pos rfl,e];simp
theorem yI{s:Str}{j:Nat}(h:iG s j=true)(e:dN s (j+1) 126=true)(h2:iG s (j+2)=true)(h3:at8 s j<=at8 s (j+2:Nat)):lZ s j=some (at8 s j,at8 s (j+2:Nat),j+3):=by
 rw [lC] at h h2;rw [lZ,h,if_pos rfl,e,if_pos rfl,h2,decide_eq_true h3];rfl
theorem ql{s:Str}{j:Nat}(e:dN s (j+1) 126=true)(h2:iG s (j+2)=false\/at8 s (j+2:Nat)<at8 s j):lZ s j=none:=by
 rw [lZ]
 split
 ·rw [if_neg]
  rcases h2 with h2|h2
  ·rw [lC] at h2;rw [h2];simp
  ·simp only [Bool.and_eq_true,decide_eq_true_eq,not_and]
   intro _;omega
 ·rfl
theorem Cn{s:Str}{i:Nat}(h1:dN s i 46=false)(h2:dN s i 91=true):jD s i=(match mC s (i+1) (fun _=>false) with|none=>none|some (has,k)=>some (oM (o7 has),k)):=by
 rw [jD,if_neg (by rw [h1];simp),if_pos h2,mC]
 cases e:lZ s (i+1) with
 | none=>rfl
 | some p =>
  obtain ⟨a,z,j⟩:=p
  simp only [Bool.false_or]
  rfl
theorem Cm{s:Str}{i:Nat}(h1:dN s i 46=true):jD s i=some (oM yM,i+1):=by rw [jD,if_pos h1]
theorem Lj{s:Str}{i:Nat}(h1:dN s i 46=false)(h2:dN s i 91=false)(hi:i<s.length)(h3:iG s i=true)(h4:¬ at8 s i=95):jD s i=some (oM ((s.take (i+1)).drop i),i+1):=by
 have h5:¬ at8 s i=46:=fun e=>by rw [lg ⟨hi,e⟩] at h1;cases h1
 rw [jD,if_neg (by rw [h1];simp),if_neg (by rw [h2];simp),if_pos]
 rw [lC,nK] at h3
 have e1:(at8 s i == 95)=false:=by simpa using h4
 have e2:(at8 s i == 46)=false:=by simpa using h5
 rw [e1,e2,Bool.or_false,Bool.or_false] at h3
 exact h3
theorem Fp{s:Str}{i:Nat}(h1:dN s i 46=false)(h2:dN s i 91=false)(hi:i<s.length)(h3:iG s i=true->at8 s i=95):jD s i=none:=by
 rw [jD,if_neg (by rw [h1];simp),if_neg (by rw [h2];simp),if_neg]
 intro h
 have hc:iG s i=true:=by
  rw [lC,nK]
  simp only [Bool.and_eq_true,Bool.or_eq_true] at h ⊢
  exact ⟨h.1,by rcases h.2 with (e|e)|e<;>simp [e]⟩
 have:=h3 hc
 rw [this] at h
 simp [ltI,mB] at h
end
section
theorem KR:bf (fun c=>decide (32<=c) && decide (c<32))=bf (fun _=>false):=by
 congr 1;funext c;simp
theorem KQ{k:Nat}(h:32<=k):bf (fun c=>if c=k then true else decide (32<=c) && decide (c<k))=bf (fun c=>decide (32<=c) && decide (c<k+1)):=by
 congr 1;funext c
 by_cases e:c=k
 ·subst e;simp [h]
 ·rw [if_neg e]
  congr 1
  exact decide_eq_decide.2 (by omega)
theorem eH(ha:Nat->Bool)(a:Int):bf (fun c=>ha c || (decide (a<=(c:Int)) && decide ((c:Int)<a)))=bf ha:=by
 congr 1;funext c
 have:(decide (a<=(c:Int)) && decide ((c:Int)<a))=false:=by simp
 rw [this,Bool.or_false]
theorem eI(ha:Nat->Bool){a:Int}{y:Nat}(h:a<=(y:Int)):bf (fun c=>if c=y then true else ha c || (decide (a<=(c:Int)) && decide ((c:Int)<(y:Int))))=bf (fun c=>ha c || (decide (a<=(c:Int)) && decide ((c:Int)<((y+1:Nat):Int)))):=by
 congr 1;funext c
 by_cases e:c=y
 ·subst e;simp [h];right;omega
 ·rw [if_neg e]
  congr 2
  exact decide_eq_decide.2 (by omega)
@[go_sem] theorem XB(s:Str)(n:Int):unb [.v (.int .u8 (at8 s n))]=some [UInt8.ofNat (at8 s n).toNat]:=by
 have h1:=lD s n
 have h2:=lE s n
 simp only [unb,if_pos (And.intro h2 h1),Option.map_some]
theorem HV{s:Str}{i:Nat}(h:i<s.length):(s.take (i+1)).drop i=[UInt8.ofNat (at8 s i).toNat]:=by
 have e:UInt8.ofNat (at8 s i).toNat=s[i]:=by simp [at8,List.getElem?_eq_getElem h]
 rw [List.drop_take,show i+1 - i=1 by omega,List.drop_eq_getElem_cons h,e]
 rfl
theorem mO(ha:Nat->Bool){a z:Int}{y:Int}(h:y=z+1):(fun c:Nat=>ha c || (decide (a<=(c:Int)) && decide ((c:Int)<y)))=(fun c:Nat=>ha c || (decide (a<=(c:Int)) && decide ((c:Int)<=z))):=by
 funext c
 congr 2
 exact decide_eq_decide.2 (by omega)
theorem any_eq:o7 (fun c=>decide (32<=c) && decide (c<127))=yM:=by
 unfold yM
 congr 1;funext c
 congr 1
 exact decide_eq_decide.2 (by omega)
end
end Go.Dt
namespace Go.Proofs
open Go.Ab Go.Dt
theorem Sg(n:Nat)(halt:∀ (b:Nat) (s:Str) (i:Nat),gz lim Tryz.prog 283 [(b,some [.str s,.v (.int .i64 i),.v (.bool false)])] [.ptr b 0] (RdQ b s i (gQ s i)) (i<=s.length/\s.length<=30/\s.length - i<n))(b:Nat)(s:Str)(i:Nat) :
  gz lim Tryz.prog 315 [(b,some [.str s,.v (.int .i64 i),.v (.bool false)])] [.ptr b 0] (RdQ b s i (ji s i)) (i<s.length/\s.length<=30/\s.length - i<n+1):=by
 refine gz.gA (aM 315) Tryz.func315 rfl rfl fun hp=>(?_);rw [Tryz.ntmps315]
 (refine vK ?_;with_reducible repeat' first|exact Le.l|apply Sw|intro (K:_->_->Prop) hK|intro h)
 rename_i b2 hg1 b3
 refine AW.c (fun h=>?_) fun h=>?_
 ·simp only [h,cond_true]
  have hlt:=cv.1 h
  have Iy:=xh h
  have MI:=fun p j=>xg (p:=p) (j:=j) h
  have MH:=fun p j=>xe (p:=p) (j:=j) h
  (refine vK ?_;with_reducible repeat' first|exact Le.l|apply Sw|intro (K:_->_->Prop) hK|intro h)
  refine GK.rd (fun p j hq hj=>?_) (fun p j hq hj=>?_)
  ·(refine vK ?_;with_reducible repeat' first|exact Le.l|apply Sw|intro (K:_->_->Prop) hK|intro h)
   refine AW.c (fun h=>?_) fun h=>?_
   ·simp only [h,cond_false]
    (refine vK ?_;with_reducible repeat' first|exact Le.l|apply Sw|intro (K:_->_->Prop) hK|intro h)
    (refine AW.ret (aJ.imp (Imp.ez (b:=b2) (by simp (maxSteps:=2000000) (disch:=omega) only [go_sem];rfl) ?_));simp (maxSteps:=2000000) (disch:=omega) only [go_sem];refine aJ.dS rfl (RdQ.no p (j:=j) (MH p j hq h) (by omega)) ?_;simp (maxSteps:=2000000) (disch:=omega) only [go_sem])
   ·simp only [h,cond_true]
    have hl2:=cv.1 h
    (refine vK ?_;with_reducible repeat' first|exact Le.l|apply Sw|intro (K:_->_->Prop) hK|intro h)
    (refine AW.ret (aJ.imp (Imp.ez (b:=b2) (by simp (maxSteps:=2000000) (disch:=omega) only [go_sem];rfl) ?_));simp (maxSteps:=2000000) (disch:=omega) only [go_sem];refine aJ.dS rfl (RdQ.yes (p:=p) (j:=j+1) (MI p j hq h) (by omega)) ?_;simp (maxSteps:=2000000) (disch:=omega) only [go_sem])
  ·(refine vK ?_;with_reducible repeat' first|exact Le.l|apply Sw|intro (K:_->_->Prop) hK|intro h)
   refine AW.c (fun h=>?_) fun h=>?_
   ·simp only [h,cond_false]
    (refine vK ?_;with_reducible repeat' first|exact Le.l|apply Sw|intro (K:_->_->Prop) hK|intro h)
    (refine AW.ret (aJ.imp (Imp.ez (b:=b2) (by simp (maxSteps:=2000000) (disch:=omega) only [go_sem];rfl) ?_));simp (maxSteps:=2000000) (disch:=omega) only [go_sem];refine aJ.dS rfl (RdQ.no p (j:=j) (Iy hq) (by omega)) ?_;simp (maxSteps:=2000000) (disch:=omega) only [go_sem])
   ·simp only [h,cond_true]
    have hl2:=cv.1 h
    (refine vK ?_;with_reducible repeat' first|exact Le.l|apply Sw|intro (K:_->_->Prop) hK|intro h)
    (refine AW.ret (aJ.imp (Imp.ez (b:=b2) (by simp (maxSteps:=2000000) (disch:=omega) only [go_sem];rfl) ?_));simp (maxSteps:=2000000) (disch:=omega) only [go_sem];refine aJ.dS rfl (RdQ.no p (j:=j+1) (Iy hq) (by omega)) ?_;simp (maxSteps:=2000000) (disch:=omega) only [go_sem])
 simp only [h,cond_false]
 have oX:=zf hp.1 h
 (refine vK ?_;with_reducible repeat' first|exact Le.l|apply Sw|intro (K:_->_->Prop) hK|intro h)
 refine AW.c (fun h=>?_) fun h=>?_
 ·have MO:=Cm h
  simp only [h,cond_true]
  (refine vK ?_;with_reducible repeat' first|exact Le.l|apply Sw|intro (K:_->_->Prop) hK|intro h)
  refine AW.aA [5] [0,2,3] (fun m xs o=>∃ k:Nat,xs=[.v (.int .i64 k)]/\o=[(b3,some (bf (fun c=>decide (32<=c) && decide (c<k)))),(b2,some [.v (.int .i64 0),.str [],.v (.slice none 0 0)]),(b,some [.str s,.v (.int .i64 (i+1:Nat)),.v (.bool false)])]/\m=127 - k/\32<=k/\k<=127) 95 [(b3,some (bf (fun _=>false))),(b2,some [.v (.int .i64 0),.str [],.v (.slice none 0 0)]),(b,some [.str s,.v (.int .i64 (i+1:Nat)),.v (.bool false)])] gO ⟨32,rfl,?_,rfl,by omega,by omega⟩ ?_
  ·rw [KR]
  rintro m xs o ⟨k,rfl,rfl,rfl,hk1,hk2⟩
  (refine vK ?_;with_reducible repeat' first|exact Le.l|apply Sw|intro (K:_->_->Prop) hK|intro h)
  refine AW.c (fun h=>?_) fun h=>?_
  ·(refine vK ?_;with_reducible repeat' first|exact Le.l|apply Sw|intro (K:_->_->Prop) hK|intro h)
   exact ⟨_,[_],[(b3,some (bf (fun c=>decide (32<=c) && decide (c<k+1)))),(b2,some [.v (.int .i64 0),.str [],.v (.slice none 0 0)]),(b,some [.str s,.v (.int .i64 (i+1:Nat)),.v (.bool false)])],by omega,⟨k+1,rfl,rfl,rfl,by omega,by omega⟩,rfl,by rw [<- KQ hk1];simp (maxSteps:=2000000) (disch:=omega) only [go_sem]⟩
  ·have:k=127:=by omega
   subst this
   (refine vK ?_;with_reducible repeat' first|exact Le.l|apply Sw|intro (K:_->_->Prop) hK|intro h)
   (refine AW.ret (aJ.imp (Imp.ez (b:=b2) (by simp (maxSteps:=2000000) (disch:=omega) only [go_sem];rfl) ?_));simp (maxSteps:=2000000) (disch:=omega) only [go_sem];refine aJ.dS rfl (RdQ.yes (p:=.mk 1 (o7 (fun c=>decide (32<=c) && decide (c<127))) []) (j:=i+1) (by rw [oX,MO,any_eq,oM]) (by omega)) ?_;simp (maxSteps:=2000000) (disch:=omega) only [go_sem])
 simp only [h,cond_false]
 have hnd:=h
 (refine vK ?_;with_reducible repeat' first|exact Le.l|apply Sw|intro (K:_->_->Prop) hK|intro h)
 refine AW.c (fun h=>?_) fun h=>?_
 ·have AU:=Cn hnd h
  simp only [h,cond_true]
  generalize hRR:mC s (i+1) (fun _=>false)=R at AU
  (refine vK ?_;with_reducible repeat' first|exact Le.l|apply Sw|intro (K:_->_->Prop) hK|intro h)
  refine AW.aA [6] [0,2,3] (fun m xs o=>∃ (k j:Nat) (ha:Nat->Bool) (bad:Bool),xs=[.v (.int .i64 k)]/\o=[(b3,some (bf ha)),(b2,some [.v (.int .i64 0),.str [],.v (.slice none 0 0)]),(b,some [.str s,.v (.int .i64 j),.v (.bool bad)])]/\m=(if bad then 0 else s.length - j+1)/\j<=s.length/\i<=j/\k<=31/\(bad=false->k<=j/\(if k=0 then mC s j ha else nR s j ha)=R)/\(bad=true->R=none)) _ [(b3,some (bf (fun _=>false))),(b2,some [.v (.int .i64 0),.str [],.v (.slice none 0 0)]),(b,some [.str s,.v (.int .i64 (i+1:Nat)),.v (.bool false)])] gO ⟨0,i+1,fun _=>false,false,rfl,rfl,rfl,by omega,by omega,by omega,fun _=>⟨by omega,by rw [if_pos rfl];exact hRR⟩,by simp⟩ ?_
  rintro m xs o ⟨k,j,ha,bad,rfl,rfl,rfl,hj,hij,hk,hR,hN⟩
  cases bad with
  | true =>
   have hN:=hN rfl
   (refine vK ?_;with_reducible repeat' first|exact Le.l|apply Sw|intro (K:_->_->Prop) hK|intro h)
   (refine AW.i rfl (fun h=>?_) (fun h=>?_)<;>try simp only [hC,reduceCtorEq] at h)
   (refine vK ?_;with_reducible repeat' first|exact Le.l|apply Sw|intro (K:_->_->Prop) hK|intro h)
   (refine AW.ret (aJ.imp (Imp.ez (b:=b2) (by simp (maxSteps:=2000000) (disch:=omega) only [go_sem];rfl) ?_));simp (maxSteps:=2000000) (disch:=omega) only [go_sem];refine aJ.dS rfl (RdQ.no (.mk 1 (o7 ha) []) (j:=j) (by rw [oX,AU,hN]) (by omega)) ?_;simp (maxSteps:=2000000) (disch:=omega) only [go_sem])
  | false =>
   have hR:=hR rfl
   by_cases hk0:k=0
   ·subst hk0
    have hS:mC s j ha=R:=by simpa using hR.2
    rw [show ((0:Nat):Int)=0 from rfl]
    (refine vK ?_;with_reducible repeat' first|exact Le.l|apply Sw|intro (K:_->_->Prop) hK|intro h)
    (refine AW.i rfl (fun h=>?_) (fun h=>?_)<;>try simp only [hC,reduceCtorEq] at h)
    have hge:=lE s (j:Int)
    have hle:=lD s (j:Int)
    have WX:=lE s ((j+1:Nat):Int)
    have hle1:=lD s ((j+1:Nat):Int)
    have RM:=lE s ((j+1+1:Nat):Int)
    have hle2:=lD s ((j+1+1:Nat):Int)
    cases hch:iG s j with
    | false =>
     have hN':R=none:=by rw [<- hS,jA ha (wM hch)]
     (repeat' first|(with_reducible first|refine Z ?_|refine Y ?_|(refine hK _ _ ?_;clear hK K)|refine And.intro ?_ ?_|exact Ct|intro (K:_->_->Prop) hK|(refine gI fun hg=>?_;try simp only [hC,reduceCtorEq] at hg;try simp only [hg]))|((with_reducible refine E ?_;repeat refine Y ?_);refine eF rfl ?_)|simp (disch:=omega) only [go_sem,hch]|(with_reducible intro hg;try simp only [hC,reduceCtorEq] at hg)|exact Cl|fail)
     refine AW.c (fun h=>?_) fun h=>?_
     ·simp only [h,cond_true]
      have hl2:=cv.1 h
      cases hc2:iG s (j+1) with
      | true =>
       have hl3:=mR hc2
       (repeat' first|(with_reducible first|refine Z ?_|refine Y ?_|(refine hK _ _ ?_;clear hK K)|refine And.intro ?_ ?_|exact Ct|intro (K:_->_->Prop) hK|(refine gI fun hg=>?_;try simp only [hC,reduceCtorEq] at hg;try simp only [hg]))|((with_reducible refine E ?_;repeat refine Y ?_);refine eF rfl ?_)|simp (disch:=omega) only [go_sem,hc2]|(with_reducible intro hg;try simp only [hC,reduceCtorEq] at hg)|exact Cl|fail)
       refine AW.c (fun h=>?_) fun h=>?_
       ·omega
       ·(refine vK ?_;with_reducible repeat' first|exact Le.l|apply Sw|intro (K:_->_->Prop) hK|intro h)
        refine AW.aA [9] [0,2,3,6,7,8] (fun m xs o=>∃ x:Int,xs=[.v (.int .i64 x)]/\o=[(b3,some (bf (fun c=>ha c || (decide (0<=(c:Int)) && decide ((c:Int)<x))))),(b2,some [.v (.int .i64 0),.str [],.v (.slice none 0 0)]),(b,some [.str s,.v (.int .i64 (j+1+1:Nat)),.v (.bool true)])]/\m=(256 - x).toNat/\0<=x/\x<=256/\(0<=at8 s ((j+1:Nat):Int)->x<=at8 s ((j+1:Nat):Int)+1)/\(at8 s ((j+1:Nat):Int)<0->x=0)) _ [(b3,some (bf ha)),(b2,some [.v (.int .i64 0),.str [],.v (.slice none 0 0)]),(b,some [.str s,.v (.int .i64 (j+1+1:Nat)),.v (.bool true)])] gO ⟨0,rfl,by rw [eH],rfl,by omega,by omega,by omega,by omega⟩ ?_
        rintro m xs o ⟨x,rfl,rfl,rfl,hx1,hx2,hx3,hx4⟩
        obtain ⟨y,rfl⟩:∃ y:Nat,x=y:=⟨x.toNat,by omega⟩
        (refine vK ?_;with_reducible repeat' first|exact Le.l|apply Sw|intro (K:_->_->Prop) hK|intro h)
        refine AW.c (fun h=>?_) fun h=>?_
        ·(refine vK ?_;with_reducible repeat' first|exact Le.l|apply Sw|intro (K:_->_->Prop) hK|intro h)
         try exact ⟨_,[_],[(b3,some (bf (fun c=>ha c || (decide (0<=(c:Int)) && decide ((c:Int)<((y+1:Nat):Int)))))),(b2,some [.v (.int .i64 0),.str [],.v (.slice none 0 0)]),(b,some [.str s,.v (.int .i64 (j+1+1:Nat)),.v (.bool true)])],by omega,⟨((y+1:Nat):Int),rfl,rfl,rfl,by omega,by omega,by omega,by omega⟩,by simp,by rw [<- eI ha (by omega)];simp (maxSteps:=2000000) (disch:=omega) only [go_sem]⟩
        ·(refine vK ?_;with_reducible repeat' first|exact Le.l|apply Sw|intro (K:_->_->Prop) hK|intro h)
         exact ⟨0,[_],[(b3,some (bf (fun c=>ha c || (decide (0<=(c:Int)) && decide ((c:Int)<(y:Int)))))),(b2,some [.v (.int .i64 0),.str [],.v (.slice none 0 0)]),(b,some [.str s,.v (.int .i64 (j+1+1:Nat)),.v (.bool true)])],by simp,⟨0+1,j+1+1,_,true,rfl,rfl,rfl,by omega,by omega,by omega,by simp,fun _=>hN'⟩,rfl,by simp (maxSteps:=2000000) (disch:=omega) only [go_sem]⟩
      | false =>
       (repeat' first|(with_reducible first|refine Z ?_|refine Y ?_|(refine hK _ _ ?_;clear hK K)|refine And.intro ?_ ?_|exact Ct|intro (K:_->_->Prop) hK|(refine gI fun hg=>?_;try simp only [hC,reduceCtorEq] at hg;try simp only [hg]))|((with_reducible refine E ?_;repeat refine Y ?_);refine eF rfl ?_)|simp (disch:=omega) only [go_sem,hc2]|(with_reducible intro hg;try simp only [hC,reduceCtorEq] at hg)|exact Cl|fail)
       refine AW.c (fun h=>?_) fun h=>?_
       ·omega
       ·(refine vK ?_;with_reducible repeat' first|exact Le.l|apply Sw|intro (K:_->_->Prop) hK|intro h)
        refine AW.aA [9] [0,2,3,6,7,8] (fun m xs o=>∃ x:Int,xs=[.v (.int .i64 x)]/\o=[(b3,some (bf (fun c=>ha c || (decide (0<=(c:Int)) && decide ((c:Int)<x))))),(b2,some [.v (.int .i64 0),.str [],.v (.slice none 0 0)]),(b,some [.str s,.v (.int .i64 (j+1:Nat)),.v (.bool true)])]/\m=(256 - x).toNat/\0<=x/\x<=256/\(0<=0->x<=0+1)/\(0<0->x=0)) _ [(b3,some (bf ha)),(b2,some [.v (.int .i64 0),.str [],.v (.slice none 0 0)]),(b,some [.str s,.v (.int .i64 (j+1:Nat)),.v (.bool true)])] gO ⟨0,rfl,by rw [eH],rfl,by omega,by omega,by omega,by omega⟩ ?_
        rintro m xs o ⟨x,rfl,rfl,rfl,hx1,hx2,hx3,hx4⟩
        obtain ⟨y,rfl⟩:∃ y:Nat,x=y:=⟨x.toNat,by omega⟩
        (refine vK ?_;with_reducible repeat' first|exact Le.l|apply Sw|intro (K:_->_->Prop) hK|intro h)
        refine AW.c (fun h=>?_) fun h=>?_
        ·(refine vK ?_;with_reducible repeat' first|exact Le.l|apply Sw|intro (K:_->_->Prop) hK|intro h)
         try exact ⟨_,[_],[(b3,some (bf (fun c=>ha c || (decide (0<=(c:Int)) && decide ((c:Int)<((y+1:Nat):Int)))))),(b2,some [.v (.int .i64 0),.str [],.v (.slice none 0 0)]),(b,some [.str s,.v (.int .i64 (j+1:Nat)),.v (.bool true)])],by omega,⟨((y+1:Nat):Int),rfl,rfl,rfl,by omega,by omega,by omega,by omega⟩,by simp,by rw [<- eI ha (by omega)];simp (maxSteps:=2000000) (disch:=omega) only [go_sem]⟩
        ·(refine vK ?_;with_reducible repeat' first|exact Le.l|apply Sw|intro (K:_->_->Prop) hK|intro h)
         exact ⟨0,[_],[(b3,some (bf (fun c=>ha c || (decide (0<=(c:Int)) && decide ((c:Int)<(y:Int)))))),(b2,some [.v (.int .i64 0),.str [],.v (.slice none 0 0)]),(b,some [.str s,.v (.int .i64 (j+1:Nat)),.v (.bool true)])],by simp,⟨0+1,j+1,_,true,rfl,rfl,rfl,by omega,by omega,by omega,by simp,fun _=>hN'⟩,rfl,by simp (maxSteps:=2000000) (disch:=omega) only [go_sem]⟩
     ·simp only [h,cond_false]
      (refine vK ?_;with_reducible repeat' first|exact Le.l|apply Sw|intro (K:_->_->Prop) hK|intro h)
      refine AW.c (fun h=>?_) fun h=>?_
      ·omega
      ·(refine vK ?_;with_reducible repeat' first|exact Le.l|apply Sw|intro (K:_->_->Prop) hK|intro h)
       refine AW.aA [9] [0,2,3,6,7,8] (fun m xs o=>∃ x:Int,xs=[.v (.int .i64 x)]/\o=[(b3,some (bf (fun c=>ha c || (decide (0<=(c:Int)) && decide ((c:Int)<x))))),(b2,some [.v (.int .i64 0),.str [],.v (.slice none 0 0)]),(b,some [.str s,.v (.int .i64 (j:Nat)),.v (.bool true)])]/\m=(256 - x).toNat/\0<=x/\x<=256/\(0<=0->x<=0+1)/\(0<0->x=0)) _ [(b3,some (bf ha)),(b2,some [.v (.int .i64 0),.str [],.v (.slice none 0 0)]),(b,some [.str s,.v (.int .i64 (j:Nat)),.v (.bool true)])] gO ⟨0,rfl,by rw [eH],rfl,by omega,by omega,by omega,by omega⟩ ?_
       rintro m xs o ⟨x,rfl,rfl,rfl,hx1,hx2,hx3,hx4⟩
       obtain ⟨y,rfl⟩:∃ y:Nat,x=y:=⟨x.toNat,by omega⟩
       (refine vK ?_;with_reducible repeat' first|exact Le.l|apply Sw|intro (K:_->_->Prop) hK|intro h)
       refine AW.c (fun h=>?_) fun h=>?_
       ·(refine vK ?_;with_reducible repeat' first|exact Le.l|apply Sw|intro (K:_->_->Prop) hK|intro h)
        try exact ⟨_,[_],[(b3,some (bf (fun c=>ha c || (decide (0<=(c:Int)) && decide ((c:Int)<((y+1:Nat):Int)))))),(b2,some [.v (.int .i64 0),.str [],.v (.slice none 0 0)]),(b,some [.str s,.v (.int .i64 (j:Nat)),.v (.bool true)])],by omega,⟨((y+1:Nat):Int),rfl,rfl,rfl,by omega,by omega,by omega,by omega⟩,by simp,by rw [<- eI ha (by omega)];simp (maxSteps:=2000000) (disch:=omega) only [go_sem]⟩
       ·(refine vK ?_;with_reducible repeat' first|exact Le.l|apply Sw|intro (K:_->_->Prop) hK|intro h)
        exact ⟨0,[_],[(b3,some (bf (fun c=>ha c || (decide (0<=(c:Int)) && decide ((c:Int)<(y:Int)))))),(b2,some [.v (.int .i64 0),.str [],.v (.slice none 0 0)]),(b,some [.str s,.v (.int .i64 (j:Nat)),.v (.bool true)])],by simp,⟨0+1,j,_,true,rfl,rfl,rfl,by omega,by omega,by omega,by simp,fun _=>hN'⟩,rfl,by simp (maxSteps:=2000000) (disch:=omega) only [go_sem]⟩
    | true =>
     have hl1:=mR hch
     (repeat' first|(with_reducible first|refine Z ?_|refine Y ?_|(refine hK _ _ ?_;clear hK K)|refine And.intro ?_ ?_|exact Ct|intro (K:_->_->Prop) hK|(refine gI fun hg=>?_;try simp only [hC,reduceCtorEq] at hg;try simp only [hg]))|((with_reducible refine E ?_;repeat refine Y ?_);refine eF rfl ?_)|simp (disch:=omega) only [go_sem,hch]|(with_reducible intro hg;try simp only [hC,reduceCtorEq] at hg)|exact Cl|fail)
     refine AW.c (fun h=>?_) fun h=>?_
     ·simp only [h,cond_true]
      have rf:=h
      have hl2:=cv.1 h
      cases hc2:iG s (j+1+1) with
      | true =>
       have hl3:=mR hc2
       (repeat' first|(with_reducible first|refine Z ?_|refine Y ?_|(refine hK _ _ ?_;clear hK K)|refine And.intro ?_ ?_|exact Ct|intro (K:_->_->Prop) hK|(refine gI fun hg=>?_;try simp only [hC,reduceCtorEq] at hg;try simp only [hg]))|((with_reducible refine E ?_;repeat refine Y ?_);refine eF rfl ?_)|simp (disch:=omega) only [go_sem,hc2]|(with_reducible intro hg;try simp only [hC,reduceCtorEq] at hg)|exact Cl|fail)
       refine AW.c (fun h=>?_) fun h=>?_
       ·have hN':R=none:=by rw [<- hS,jA ha (ql rf (.inr h))]
        (refine vK ?_;with_reducible repeat' first|exact Le.l|apply Sw|intro (K:_->_->Prop) hK|intro h)
        refine AW.aA [9] [0,2,3,6,7,8] (fun m xs o=>∃ x:Int,xs=[.v (.int .i64 x)]/\o=[(b3,some (bf (fun c=>ha c || (decide (at8 s (j:Int)<=(c:Int)) && decide ((c:Int)<x))))),(b2,some [.v (.int .i64 0),.str [],.v (.slice none 0 0)]),(b,some [.str s,.v (.int .i64 (j+1+1+1:Nat)),.v (.bool true)])]/\m=(256 - x).toNat/\at8 s (j:Int)<=x/\x<=256/\(at8 s (j:Int)<=at8 s ((j+1+1:Nat):Int)->x<=at8 s ((j+1+1:Nat):Int)+1)/\(at8 s ((j+1+1:Nat):Int)<at8 s (j:Int)->x=at8 s (j:Int))) _ [(b3,some (bf ha)),(b2,some [.v (.int .i64 0),.str [],.v (.slice none 0 0)]),(b,some [.str s,.v (.int .i64 (j+1+1+1:Nat)),.v (.bool true)])] gO ⟨at8 s (j:Int),rfl,by rw [eH],rfl,by omega,by omega,by omega,by omega⟩ ?_
        rintro m xs o ⟨x,rfl,rfl,rfl,hx1,hx2,hx3,hx4⟩
        obtain ⟨y,rfl⟩:∃ y:Nat,x=y:=⟨x.toNat,by omega⟩
        (refine vK ?_;with_reducible repeat' first|exact Le.l|apply Sw|intro (K:_->_->Prop) hK|intro h)
        refine AW.c (fun h=>?_) fun h=>?_
        ·(refine vK ?_;with_reducible repeat' first|exact Le.l|apply Sw|intro (K:_->_->Prop) hK|intro h)
         try exact ⟨_,[_],[(b3,some (bf (fun c=>ha c || (decide (at8 s (j:Int)<=(c:Int)) && decide ((c:Int)<((y+1:Nat):Int)))))),(b2,some [.v (.int .i64 0),.str [],.v (.slice none 0 0)]),(b,some [.str s,.v (.int .i64 (j+1+1+1:Nat)),.v (.bool true)])],by omega,⟨((y+1:Nat):Int),rfl,rfl,rfl,by omega,by omega,by omega,by omega⟩,by simp,by rw [<- eI ha (by omega)];simp (maxSteps:=2000000) (disch:=omega) only [go_sem]⟩
        ·(refine vK ?_;with_reducible repeat' first|exact Le.l|apply Sw|intro (K:_->_->Prop) hK|intro h)
         exact ⟨0,[_],[(b3,some (bf (fun c=>ha c || (decide (at8 s (j:Int)<=(c:Int)) && decide ((c:Int)<(y:Int)))))),(b2,some [.v (.int .i64 0),.str [],.v (.slice none 0 0)]),(b,some [.str s,.v (.int .i64 (j+1+1+1:Nat)),.v (.bool true)])],by simp,⟨0+1,j+1+1+1,_,true,rfl,rfl,rfl,by omega,by omega,by omega,by simp,fun _=>hN'⟩,rfl,by simp (maxSteps:=2000000) (disch:=omega) only [go_sem]⟩
       ·have hS2:=mQ ha (yI hch rf hc2 h)
        (refine vK ?_;with_reducible repeat' first|exact Le.l|apply Sw|intro (K:_->_->Prop) hK|intro h)
        refine AW.aA [9] [0,2,3,6,7,8] (fun m xs o=>∃ x:Int,xs=[.v (.int .i64 x)]/\o=[(b3,some (bf (fun c=>ha c || (decide (at8 s (j:Int)<=(c:Int)) && decide ((c:Int)<x))))),(b2,some [.v (.int .i64 0),.str [],.v (.slice none 0 0)]),(b,some [.str s,.v (.int .i64 (j+1+1+1:Nat)),.v (.bool false)])]/\m=(256 - x).toNat/\at8 s (j:Int)<=x/\x<=256/\(at8 s (j:Int)<=at8 s ((j+1+1:Nat):Int)->x<=at8 s ((j+1+1:Nat):Int)+1)/\(at8 s ((j+1+1:Nat):Int)<at8 s (j:Int)->x=at8 s (j:Int))) _ [(b3,some (bf ha)),(b2,some [.v (.int .i64 0),.str [],.v (.slice none 0 0)]),(b,some [.str s,.v (.int .i64 (j+1+1+1:Nat)),.v (.bool false)])] gO ⟨at8 s (j:Int),rfl,by rw [eH],rfl,by omega,by omega,by omega,by omega⟩ ?_
        rintro m xs o ⟨x,rfl,rfl,rfl,hx1,hx2,hx3,hx4⟩
        obtain ⟨y,rfl⟩:∃ y:Nat,x=y:=⟨x.toNat,by omega⟩
        (refine vK ?_;with_reducible repeat' first|exact Le.l|apply Sw|intro (K:_->_->Prop) hK|intro h)
        refine AW.c (fun h=>?_) fun h=>?_
        ·(refine vK ?_;with_reducible repeat' first|exact Le.l|apply Sw|intro (K:_->_->Prop) hK|intro h)
         try exact ⟨_,[_],[(b3,some (bf (fun c=>ha c || (decide (at8 s (j:Int)<=(c:Int)) && decide ((c:Int)<((y+1:Nat):Int)))))),(b2,some [.v (.int .i64 0),.str [],.v (.slice none 0 0)]),(b,some [.str s,.v (.int .i64 (j+1+1+1:Nat)),.v (.bool false)])],by omega,⟨((y+1:Nat):Int),rfl,rfl,rfl,by omega,by omega,by omega,by omega⟩,by simp,by rw [<- eI ha (by omega)];simp (maxSteps:=2000000) (disch:=omega) only [go_sem]⟩
        ·(refine vK ?_;with_reducible repeat' first|exact Le.l|apply Sw|intro (K:_->_->Prop) hK|intro h)
         exact ⟨_,[_],[(b3,some (bf (fun c=>ha c || (decide (at8 s (j:Int)<=(c:Int)) && decide ((c:Int)<(y:Int)))))),(b2,some [.v (.int .i64 0),.str [],.v (.slice none 0 0)]),(b,some [.str s,.v (.int .i64 (j+1+1+1:Nat)),.v (.bool false)])],by simp;omega,⟨0+1,j+1+1+1,_,false,rfl,rfl,rfl,by omega,by omega,by omega,fun _=>⟨by omega,by rw [if_neg (by omega),mO ha (a:=at8 s (j:Int)) (z:=at8 s ((j+1+1:Nat):Int)) (y:=(y:Int)) (by omega),<- hS2,hS]⟩,by simp⟩,rfl,by simp (maxSteps:=2000000) (disch:=omega) only [go_sem]⟩
      | false =>
       have hN':R=none:=by rw [<- hS,jA ha (ql rf (.inl hc2))]
       (repeat' first|(with_reducible first|refine Z ?_|refine Y ?_|(refine hK _ _ ?_;clear hK K)|refine And.intro ?_ ?_|exact Ct|intro (K:_->_->Prop) hK|(refine gI fun hg=>?_;try simp only [hC,reduceCtorEq] at hg;try simp only [hg]))|((with_reducible refine E ?_;repeat refine Y ?_);refine eF rfl ?_)|simp (disch:=omega) only [go_sem,hc2]|(with_reducible intro hg;try simp only [hC,reduceCtorEq] at hg)|exact Cl|fail)
       refine AW.c (fun h=>?_) fun h=>?_
       ·(refine vK ?_;with_reducible repeat' first|exact Le.l|apply Sw|intro (K:_->_->Prop) hK|intro h)
        refine AW.aA [9] [0,2,3,6,7,8] (fun m xs o=>∃ x:Int,xs=[.v (.int .i64 x)]/\o=[(b3,some (bf (fun c=>ha c || (decide (at8 s (j:Int)<=(c:Int)) && decide ((c:Int)<x))))),(b2,some [.v (.int .i64 0),.str [],.v (.slice none 0 0)]),(b,some [.str s,.v (.int .i64 (j+1+1:Nat)),.v (.bool true)])]/\m=(256 - x).toNat/\at8 s (j:Int)<=x/\x<=256/\(at8 s (j:Int)<=0->x<=0+1)/\(0<at8 s (j:Int)->x=at8 s (j:Int))) _ [(b3,some (bf ha)),(b2,some [.v (.int .i64 0),.str [],.v (.slice none 0 0)]),(b,some [.str s,.v (.int .i64 (j+1+1:Nat)),.v (.bool true)])] gO ⟨at8 s (j:Int),rfl,by rw [eH],rfl,by omega,by omega,by omega,by omega⟩ ?_
        rintro m xs o ⟨x,rfl,rfl,rfl,hx1,hx2,hx3,hx4⟩
        obtain ⟨y,rfl⟩:∃ y:Nat,x=y:=⟨x.toNat,by omega⟩
        (refine vK ?_;with_reducible repeat' first|exact Le.l|apply Sw|intro (K:_->_->Prop) hK|intro h)
        refine AW.c (fun h=>?_) fun h=>?_
        ·(refine vK ?_;with_reducible repeat' first|exact Le.l|apply Sw|intro (K:_->_->Prop) hK|intro h)
         try exact ⟨_,[_],[(b3,some (bf (fun c=>ha c || (decide (at8 s (j:Int)<=(c:Int)) && decide ((c:Int)<((y+1:Nat):Int)))))),(b2,some [.v (.int .i64 0),.str [],.v (.slice none 0 0)]),(b,some [.str s,.v (.int .i64 (j+1+1:Nat)),.v (.bool true)])],by omega,⟨((y+1:Nat):Int),rfl,rfl,rfl,by omega,by omega,by omega,by omega⟩,by simp,by rw [<- eI ha (by omega)];simp (maxSteps:=2000000) (disch:=omega) only [go_sem]⟩
        ·(refine vK ?_;with_reducible repeat' first|exact Le.l|apply Sw|intro (K:_->_->Prop) hK|intro h)
         exact ⟨0,[_],[(b3,some (bf (fun c=>ha c || (decide (at8 s (j:Int)<=(c:Int)) && decide ((c:Int)<(y:Int)))))),(b2,some [.v (.int .i64 0),.str [],.v (.slice none 0 0)]),(b,some [.str s,.v (.int .i64 (j+1+1:Nat)),.v (.bool true)])],by simp,⟨0+1,j+1+1,_,true,rfl,rfl,rfl,by omega,by omega,by omega,by simp,fun _=>hN'⟩,rfl,by simp (maxSteps:=2000000) (disch:=omega) only [go_sem]⟩
       ·(refine vK ?_;with_reducible repeat' first|exact Le.l|apply Sw|intro (K:_->_->Prop) hK|intro h)
        refine AW.aA [9] [0,2,3,6,7,8] (fun m xs o=>∃ x:Int,xs=[.v (.int .i64 x)]/\o=[(b3,some (bf (fun c=>ha c || (decide (at8 s (j:Int)<=(c:Int)) && decide ((c:Int)<x))))),(b2,some [.v (.int .i64 0),.str [],.v (.slice none 0 0)]),(b,some [.str s,.v (.int .i64 (j+1+1:Nat)),.v (.bool true)])]/\m=(256 - x).toNat/\at8 s (j:Int)<=x/\x<=256/\(at8 s (j:Int)<=0->x<=0+1)/\(0<at8 s (j:Int)->x=at8 s (j:Int))) _ [(b3,some (bf ha)),(b2,some [.v (.int .i64 0),.str [],.v (.slice none 0 0)]),(b,some [.str s,.v (.int .i64 (j+1+1:Nat)),.v (.bool true)])] gO ⟨at8 s (j:Int),rfl,by rw [eH],rfl,by omega,by omega,by omega,by omega⟩ ?_
        rintro m xs o ⟨x,rfl,rfl,rfl,hx1,hx2,hx3,hx4⟩
        obtain ⟨y,rfl⟩:∃ y:Nat,x=y:=⟨x.toNat,by omega⟩
        (refine vK ?_;with_reducible repeat' first|exact Le.l|apply Sw|intro (K:_->_->Prop) hK|intro h)
        refine AW.c (fun h=>?_) fun h=>?_
        ·(refine vK ?_;with_reducible repeat' first|exact Le.l|apply Sw|intro (K:_->_->Prop) hK|intro h)
         try exact ⟨_,[_],[(b3,some (bf (fun c=>ha c || (decide (at8 s (j:Int)<=(c:Int)) && decide ((c:Int)<((y+1:Nat):Int)))))),(b2,some [.v (.int .i64 0),.str [],.v (.slice none 0 0)]),(b,some [.str s,.v (.int .i64 (j+1+1:Nat)),.v (.bool true)])],by omega,⟨((y+1:Nat):Int),rfl,rfl,rfl,by omega,by omega,by omega,by omega⟩,by simp,by rw [<- eI ha (by omega)];simp (maxSteps:=2000000) (disch:=omega) only [go_sem]⟩
        ·(refine vK ?_;with_reducible repeat' first|exact Le.l|apply Sw|intro (K:_->_->Prop) hK|intro h)
         exact ⟨0,[_],[(b3,some (bf (fun c=>ha c || (decide (at8 s (j:Int)<=(c:Int)) && decide ((c:Int)<(y:Int)))))),(b2,some [.v (.int .i64 0),.str [],.v (.slice none 0 0)]),(b,some [.str s,.v (.int .i64 (j+1+1:Nat)),.v (.bool true)])],by simp,⟨0+1,j+1+1,_,true,rfl,rfl,rfl,by omega,by omega,by omega,by simp,fun _=>hN'⟩,rfl,by simp (maxSteps:=2000000) (disch:=omega) only [go_sem]⟩
     ·simp only [h,cond_false]
      have hS2:=mQ ha (yJ hch h)
      (refine vK ?_;with_reducible repeat' first|exact Le.l|apply Sw|intro (K:_->_->Prop) hK|intro h)
      refine AW.c (fun h=>?_) fun h=>?_
      ·omega
      ·(refine vK ?_;with_reducible repeat' first|exact Le.l|apply Sw|intro (K:_->_->Prop) hK|intro h)
       refine AW.aA [9] [0,2,3,6,7,8] (fun m xs o=>∃ x:Int,xs=[.v (.int .i64 x)]/\o=[(b3,some (bf (fun c=>ha c || (decide (at8 s (j:Int)<=(c:Int)) && decide ((c:Int)<x))))),(b2,some [.v (.int .i64 0),.str [],.v (.slice none 0 0)]),(b,some [.str s,.v (.int .i64 (j+1:Nat)),.v (.bool false)])]/\m=(256 - x).toNat/\at8 s (j:Int)<=x/\x<=256/\(at8 s (j:Int)<=at8 s (j:Int)->x<=at8 s (j:Int)+1)/\(at8 s (j:Int)<at8 s (j:Int)->x=at8 s (j:Int))) _ [(b3,some (bf ha)),(b2,some [.v (.int .i64 0),.str [],.v (.slice none 0 0)]),(b,some [.str s,.v (.int .i64 (j+1:Nat)),.v (.bool false)])] gO ⟨at8 s (j:Int),rfl,by rw [eH],rfl,by omega,by omega,by omega,by omega⟩ ?_
       rintro m xs o ⟨x,rfl,rfl,rfl,hx1,hx2,hx3,hx4⟩
       obtain ⟨y,rfl⟩:∃ y:Nat,x=y:=⟨x.toNat,by omega⟩
       (refine vK ?_;with_reducible repeat' first|exact Le.l|apply Sw|intro (K:_->_->Prop) hK|intro h)
       refine AW.c (fun h=>?_) fun h=>?_
       ·(refine vK ?_;with_reducible repeat' first|exact Le.l|apply Sw|intro (K:_->_->Prop) hK|intro h)
        try exact ⟨_,[_],[(b3,some (bf (fun c=>ha c || (decide (at8 s (j:Int)<=(c:Int)) && decide ((c:Int)<((y+1:Nat):Int)))))),(b2,some [.v (.int .i64 0),.str [],.v (.slice none 0 0)]),(b,some [.str s,.v (.int .i64 (j+1:Nat)),.v (.bool false)])],by omega,⟨((y+1:Nat):Int),rfl,rfl,rfl,by omega,by omega,by omega,by omega⟩,by simp,by rw [<- eI ha (by omega)];simp (maxSteps:=2000000) (disch:=omega) only [go_sem]⟩
       ·(refine vK ?_;with_reducible repeat' first|exact Le.l|apply Sw|intro (K:_->_->Prop) hK|intro h)
        exact ⟨_,[_],[(b3,some (bf (fun c=>ha c || (decide (at8 s (j:Int)<=(c:Int)) && decide ((c:Int)<(y:Int)))))),(b2,some [.v (.int .i64 0),.str [],.v (.slice none 0 0)]),(b,some [.str s,.v (.int .i64 (j+1:Nat)),.v (.bool false)])],by simp;omega,⟨0+1,j+1,_,false,rfl,rfl,rfl,by omega,by omega,by omega,fun _=>⟨by omega,by rw [if_neg (by omega),mO ha (a:=at8 s (j:Int)) (z:=at8 s (j:Int)) (y:=(y:Int)) (by omega),<- hS2,hS]⟩,by simp⟩,rfl,by simp (maxSteps:=2000000) (disch:=omega) only [go_sem]⟩
   ·have hS:nR s j ha=R:=by simpa [hk0] using hR.2
    have hk1:((k:Int) == 0)=false:=by simp;omega
    (repeat' first|(with_reducible first|refine Z ?_|refine Y ?_|(refine hK _ _ ?_;clear hK K)|refine And.intro ?_ ?_|exact Ct|intro (K:_->_->Prop) hK|(refine gI fun hg=>?_;try simp only [hC,reduceCtorEq] at hg;try simp only [hg]))|((with_reducible refine E ?_;repeat refine Y ?_);refine eF rfl ?_)|simp (disch:=omega) only [go_sem,hk1]|(with_reducible intro hg;try simp only [hC,reduceCtorEq] at hg)|exact Cl|fail)
    refine AW.c (fun h=>?_) fun h=>?_
    ·simp only [h,cond_false]
     have hS:=(HE ha h).symm.trans hS
     have hge:=lE s (j:Int)
     have hle:=lD s (j:Int)
     have WX:=lE s ((j+1:Nat):Int)
     have hle1:=lD s ((j+1:Nat):Int)
     have RM:=lE s ((j+1+1:Nat):Int)
     have hle2:=lD s ((j+1+1:Nat):Int)
     cases hch:iG s j with
     | false =>
      have hN':R=none:=by rw [<- hS,jA ha (wM hch)]
      (repeat' first|(with_reducible first|refine Z ?_|refine Y ?_|(refine hK _ _ ?_;clear hK K)|refine And.intro ?_ ?_|exact Ct|intro (K:_->_->Prop) hK|(refine gI fun hg=>?_;try simp only [hC,reduceCtorEq] at hg;try simp only [hg]))|((with_reducible refine E ?_;repeat refine Y ?_);refine eF rfl ?_)|simp (disch:=omega) only [go_sem,hch]|(with_reducible intro hg;try simp only [hC,reduceCtorEq] at hg)|exact Cl|fail)
      refine AW.c (fun h=>?_) fun h=>?_
      ·simp only [h,cond_true]
       have hl2:=cv.1 h
       cases hc2:iG s (j+1) with
       | true =>
        have hl3:=mR hc2
        (repeat' first|(with_reducible first|refine Z ?_|refine Y ?_|(refine hK _ _ ?_;clear hK K)|refine And.intro ?_ ?_|exact Ct|intro (K:_->_->Prop) hK|(refine gI fun hg=>?_;try simp only [hC,reduceCtorEq] at hg;try simp only [hg]))|((with_reducible refine E ?_;repeat refine Y ?_);refine eF rfl ?_)|simp (disch:=omega) only [go_sem,hc2]|(with_reducible intro hg;try simp only [hC,reduceCtorEq] at hg)|exact Cl|fail)
        refine AW.c (fun h=>?_) fun h=>?_
        ·omega
        ·(refine vK ?_;with_reducible repeat' first|exact Le.l|apply Sw|intro (K:_->_->Prop) hK|intro h)
         refine AW.aA [9] [0,2,3,6,7,8] (fun m xs o=>∃ x:Int,xs=[.v (.int .i64 x)]/\o=[(b3,some (bf (fun c=>ha c || (decide (0<=(c:Int)) && decide ((c:Int)<x))))),(b2,some [.v (.int .i64 0),.str [],.v (.slice none 0 0)]),(b,some [.str s,.v (.int .i64 (j+1+1:Nat)),.v (.bool true)])]/\m=(256 - x).toNat/\0<=x/\x<=256/\(0<=at8 s ((j+1:Nat):Int)->x<=at8 s ((j+1:Nat):Int)+1)/\(at8 s ((j+1:Nat):Int)<0->x=0)) _ [(b3,some (bf ha)),(b2,some [.v (.int .i64 0),.str [],.v (.slice none 0 0)]),(b,some [.str s,.v (.int .i64 (j+1+1:Nat)),.v (.bool true)])] gO ⟨0,rfl,by rw [eH],rfl,by omega,by omega,by omega,by omega⟩ ?_
         rintro m xs o ⟨x,rfl,rfl,rfl,hx1,hx2,hx3,hx4⟩
         obtain ⟨y,rfl⟩:∃ y:Nat,x=y:=⟨x.toNat,by omega⟩
         (refine vK ?_;with_reducible repeat' first|exact Le.l|apply Sw|intro (K:_->_->Prop) hK|intro h)
         refine AW.c (fun h=>?_) fun h=>?_
         ·(refine vK ?_;with_reducible repeat' first|exact Le.l|apply Sw|intro (K:_->_->Prop) hK|intro h)
          try exact ⟨_,[_],[(b3,some (bf (fun c=>ha c || (decide (0<=(c:Int)) && decide ((c:Int)<((y+1:Nat):Int)))))),(b2,some [.v (.int .i64 0),.str [],.v (.slice none 0 0)]),(b,some [.str s,.v (.int .i64 (j+1+1:Nat)),.v (.bool true)])],by omega,⟨((y+1:Nat):Int),rfl,rfl,rfl,by omega,by omega,by omega,by omega⟩,by simp,by rw [<- eI ha (by omega)];simp (maxSteps:=2000000) (disch:=omega) only [go_sem]⟩
         ·(refine vK ?_;with_reducible repeat' first|exact Le.l|apply Sw|intro (K:_->_->Prop) hK|intro h)
          exact ⟨0,[_],[(b3,some (bf (fun c=>ha c || (decide (0<=(c:Int)) && decide ((c:Int)<(y:Int)))))),(b2,some [.v (.int .i64 0),.str [],.v (.slice none 0 0)]),(b,some [.str s,.v (.int .i64 (j+1+1:Nat)),.v (.bool true)])],by simp,⟨k+1,j+1+1,_,true,rfl,rfl,rfl,by omega,by omega,by omega,by simp,fun _=>hN'⟩,rfl,by simp (maxSteps:=2000000) (disch:=omega) only [go_sem]⟩
       | false =>
        (repeat' first|(with_reducible first|refine Z ?_|refine Y ?_|(refine hK _ _ ?_;clear hK K)|refine And.intro ?_ ?_|exact Ct|intro (K:_->_->Prop) hK|(refine gI fun hg=>?_;try simp only [hC,reduceCtorEq] at hg;try simp only [hg]))|((with_reducible refine E ?_;repeat refine Y ?_);refine eF rfl ?_)|simp (disch:=omega) only [go_sem,hc2]|(with_reducible intro hg;try simp only [hC,reduceCtorEq] at hg)|exact Cl|fail)
        refine AW.c (fun h=>?_) fun h=>?_
        ·omega
        ·(refine vK ?_;with_reducible repeat' first|exact Le.l|apply Sw|intro (K:_->_->Prop) hK|intro h)
         refine AW.aA [9] [0,2,3,6,7,8] (fun m xs o=>∃ x:Int,xs=[.v (.int .i64 x)]/\o=[(b3,some (bf (fun c=>ha c || (decide (0<=(c:Int)) && decide ((c:Int)<x))))),(b2,some [.v (.int .i64 0),.str [],.v (.slice none 0 0)]),(b,some [.str s,.v (.int .i64 (j+1:Nat)),.v (.bool true)])]/\m=(256 - x).toNat/\0<=x/\x<=256/\(0<=0->x<=0+1)/\(0<0->x=0)) _ [(b3,some (bf ha)),(b2,some [.v (.int .i64 0),.str [],.v (.slice none 0 0)]),(b,some [.str s,.v (.int .i64 (j+1:Nat)),.v (.bool true)])] gO ⟨0,rfl,by rw [eH],rfl,by omega,by omega,by omega,by omega⟩ ?_
         rintro m xs o ⟨x,rfl,rfl,rfl,hx1,hx2,hx3,hx4⟩
         obtain ⟨y,rfl⟩:∃ y:Nat,x=y:=⟨x.toNat,by omega⟩
         (refine vK ?_;with_reducible repeat' first|exact Le.l|apply Sw|intro (K:_->_->Prop) hK|intro h)
         refine AW.c (fun h=>?_) fun h=>?_
         ·(refine vK ?_;with_reducible repeat' first|exact Le.l|apply Sw|intro (K:_->_->Prop) hK|intro h)
          try exact ⟨_,[_],[(b3,some (bf (fun c=>ha c || (decide (0<=(c:Int)) && decide ((c:Int)<((y+1:Nat):Int)))))),(b2,some [.v (.int .i64 0),.str [],.v (.slice none 0 0)]),(b,some [.str s,.v (.int .i64 (j+1:Nat)),.v (.bool true)])],by omega,⟨((y+1:Nat):Int),rfl,rfl,rfl,by omega,by omega,by omega,by omega⟩,by simp,by rw [<- eI ha (by omega)];simp (maxSteps:=2000000) (disch:=omega) only [go_sem]⟩
         ·(refine vK ?_;with_reducible repeat' first|exact Le.l|apply Sw|intro (K:_->_->Prop) hK|intro h)
          exact ⟨0,[_],[(b3,some (bf (fun c=>ha c || (decide (0<=(c:Int)) && decide ((c:Int)<(y:Int)))))),(b2,some [.v (.int .i64 0),.str [],.v (.slice none 0 0)]),(b,some [.str s,.v (.int .i64 (j+1:Nat)),.v (.bool true)])],by simp,⟨k+1,j+1,_,true,rfl,rfl,rfl,by omega,by omega,by omega,by simp,fun _=>hN'⟩,rfl,by simp (maxSteps:=2000000) (disch:=omega) only [go_sem]⟩
      ·simp only [h,cond_false]
       (refine vK ?_;with_reducible repeat' first|exact Le.l|apply Sw|intro (K:_->_->Prop) hK|intro h)
       refine AW.c (fun h=>?_) fun h=>?_
       ·omega
       ·(refine vK ?_;with_reducible repeat' first|exact Le.l|apply Sw|intro (K:_->_->Prop) hK|intro h)
        refine AW.aA [9] [0,2,3,6,7,8] (fun m xs o=>∃ x:Int,xs=[.v (.int .i64 x)]/\o=[(b3,some (bf (fun c=>ha c || (decide (0<=(c:Int)) && decide ((c:Int)<x))))),(b2,some [.v (.int .i64 0),.str [],.v (.slice none 0 0)]),(b,some [.str s,.v (.int .i64 (j:Nat)),.v (.bool true)])]/\m=(256 - x).toNat/\0<=x/\x<=256/\(0<=0->x<=0+1)/\(0<0->x=0)) _ [(b3,some (bf ha)),(b2,some [.v (.int .i64 0),.str [],.v (.slice none 0 0)]),(b,some [.str s,.v (.int .i64 (j:Nat)),.v (.bool true)])] gO ⟨0,rfl,by rw [eH],rfl,by omega,by omega,by omega,by omega⟩ ?_
        rintro m xs o ⟨x,rfl,rfl,rfl,hx1,hx2,hx3,hx4⟩
        obtain ⟨y,rfl⟩:∃ y:Nat,x=y:=⟨x.toNat,by omega⟩
        (refine vK ?_;with_reducible repeat' first|exact Le.l|apply Sw|intro (K:_->_->Prop) hK|intro h)
        refine AW.c (fun h=>?_) fun h=>?_
        ·(refine vK ?_;with_reducible repeat' first|exact Le.l|apply Sw|intro (K:_->_->Prop) hK|intro h)
         try exact ⟨_,[_],[(b3,some (bf (fun c=>ha c || (decide (0<=(c:Int)) && decide ((c:Int)<((y+1:Nat):Int)))))),(b2,some [.v (.int .i64 0),.str [],.v (.slice none 0 0)]),(b,some [.str s,.v (.int .i64 (j:Nat)),.v (.bool true)])],by omega,⟨((y+1:Nat):Int),rfl,rfl,rfl,by omega,by omega,by omega,by omega⟩,by simp,by rw [<- eI ha (by omega)];simp (maxSteps:=2000000) (disch:=omega) only [go_sem]⟩
        ·(refine vK ?_;with_reducible repeat' first|exact Le.l|apply Sw|intro (K:_->_->Prop) hK|intro h)
         exact ⟨0,[_],[(b3,some (bf (fun c=>ha c || (decide (0<=(c:Int)) && decide ((c:Int)<(y:Int)))))),(b2,some [.v (.int .i64 0),.str [],.v (.slice none 0 0)]),(b,some [.str s,.v (.int .i64 (j:Nat)),.v (.bool true)])],by simp,⟨k+1,j,_,true,rfl,rfl,rfl,by omega,by omega,by omega,by simp,fun _=>hN'⟩,rfl,by simp (maxSteps:=2000000) (disch:=omega) only [go_sem]⟩
     | true =>
      have hl1:=mR hch
      (repeat' first|(with_reducible first|refine Z ?_|refine Y ?_|(refine hK _ _ ?_;clear hK K)|refine And.intro ?_ ?_|exact Ct|intro (K:_->_->Prop) hK|(refine gI fun hg=>?_;try simp only [hC,reduceCtorEq] at hg;try simp only [hg]))|((with_reducible refine E ?_;repeat refine Y ?_);refine eF rfl ?_)|simp (disch:=omega) only [go_sem,hch]|(with_reducible intro hg;try simp only [hC,reduceCtorEq] at hg)|exact Cl|fail)
      refine AW.c (fun h=>?_) fun h=>?_
      ·simp only [h,cond_true]
       have rf:=h
       have hl2:=cv.1 h
       cases hc2:iG s (j+1+1) with
       | true =>
        have hl3:=mR hc2
        (repeat' first|(with_reducible first|refine Z ?_|refine Y ?_|(refine hK _ _ ?_;clear hK K)|refine And.intro ?_ ?_|exact Ct|intro (K:_->_->Prop) hK|(refine gI fun hg=>?_;try simp only [hC,reduceCtorEq] at hg;try simp only [hg]))|((with_reducible refine E ?_;repeat refine Y ?_);refine eF rfl ?_)|simp (disch:=omega) only [go_sem,hc2]|(with_reducible intro hg;try simp only [hC,reduceCtorEq] at hg)|exact Cl|fail)
        refine AW.c (fun h=>?_) fun h=>?_
        ·have hN':R=none:=by rw [<- hS,jA ha (ql rf (.inr h))]
         (refine vK ?_;with_reducible repeat' first|exact Le.l|apply Sw|intro (K:_->_->Prop) hK|intro h)
         refine AW.aA [9] [0,2,3,6,7,8] (fun m xs o=>∃ x:Int,xs=[.v (.int .i64 x)]/\o=[(b3,some (bf (fun c=>ha c || (decide (at8 s (j:Int)<=(c:Int)) && decide ((c:Int)<x))))),(b2,some [.v (.int .i64 0),.str [],.v (.slice none 0 0)]),(b,some [.str s,.v (.int .i64 (j+1+1+1:Nat)),.v (.bool true)])]/\m=(256 - x).toNat/\at8 s (j:Int)<=x/\x<=256/\(at8 s (j:Int)<=at8 s ((j+1+1:Nat):Int)->x<=at8 s ((j+1+1:Nat):Int)+1)/\(at8 s ((j+1+1:Nat):Int)<at8 s (j:Int)->x=at8 s (j:Int))) _ [(b3,some (bf ha)),(b2,some [.v (.int .i64 0),.str [],.v (.slice none 0 0)]),(b,some [.str s,.v (.int .i64 (j+1+1+1:Nat)),.v (.bool true)])] gO ⟨at8 s (j:Int),rfl,by rw [eH],rfl,by omega,by omega,by omega,by omega⟩ ?_
         rintro m xs o ⟨x,rfl,rfl,rfl,hx1,hx2,hx3,hx4⟩
         obtain ⟨y,rfl⟩:∃ y:Nat,x=y:=⟨x.toNat,by omega⟩
         (refine vK ?_;with_reducible repeat' first|exact Le.l|apply Sw|intro (K:_->_->Prop) hK|intro h)
         refine AW.c (fun h=>?_) fun h=>?_
         ·(refine vK ?_;with_reducible repeat' first|exact Le.l|apply Sw|intro (K:_->_->Prop) hK|intro h)
          try exact ⟨_,[_],[(b3,some (bf (fun c=>ha c || (decide (at8 s (j:Int)<=(c:Int)) && decide ((c:Int)<((y+1:Nat):Int)))))),(b2,some [.v (.int .i64 0),.str [],.v (.slice none 0 0)]),(b,some [.str s,.v (.int .i64 (j+1+1+1:Nat)),.v (.bool true)])],by omega,⟨((y+1:Nat):Int),rfl,rfl,rfl,by omega,by omega,by omega,by omega⟩,by simp,by rw [<- eI ha (by omega)];simp (maxSteps:=2000000) (disch:=omega) only [go_sem]⟩
         ·(refine vK ?_;with_reducible repeat' first|exact Le.l|apply Sw|intro (K:_->_->Prop) hK|intro h)
          exact ⟨0,[_],[(b3,some (bf (fun c=>ha c || (decide (at8 s (j:Int)<=(c:Int)) && decide ((c:Int)<(y:Int)))))),(b2,some [.v (.int .i64 0),.str [],.v (.slice none 0 0)]),(b,some [.str s,.v (.int .i64 (j+1+1+1:Nat)),.v (.bool true)])],by simp,⟨k+1,j+1+1+1,_,true,rfl,rfl,rfl,by omega,by omega,by omega,by simp,fun _=>hN'⟩,rfl,by simp (maxSteps:=2000000) (disch:=omega) only [go_sem]⟩
        ·have hS2:=mQ ha (yI hch rf hc2 h)
         (refine vK ?_;with_reducible repeat' first|exact Le.l|apply Sw|intro (K:_->_->Prop) hK|intro h)
         refine AW.aA [9] [0,2,3,6,7,8] (fun m xs o=>∃ x:Int,xs=[.v (.int .i64 x)]/\o=[(b3,some (bf (fun c=>ha c || (decide (at8 s (j:Int)<=(c:Int)) && decide ((c:Int)<x))))),(b2,some [.v (.int .i64 0),.str [],.v (.slice none 0 0)]),(b,some [.str s,.v (.int .i64 (j+1+1+1:Nat)),.v (.bool false)])]/\m=(256 - x).toNat/\at8 s (j:Int)<=x/\x<=256/\(at8 s (j:Int)<=at8 s ((j+1+1:Nat):Int)->x<=at8 s ((j+1+1:Nat):Int)+1)/\(at8 s ((j+1+1:Nat):Int)<at8 s (j:Int)->x=at8 s (j:Int))) _ [(b3,some (bf ha)),(b2,some [.v (.int .i64 0),.str [],.v (.slice none 0 0)]),(b,some [.str s,.v (.int .i64 (j+1+1+1:Nat)),.v (.bool false)])] gO ⟨at8 s (j:Int),rfl,by rw [eH],rfl,by omega,by omega,by omega,by omega⟩ ?_
         rintro m xs o ⟨x,rfl,rfl,rfl,hx1,hx2,hx3,hx4⟩
         obtain ⟨y,rfl⟩:∃ y:Nat,x=y:=⟨x.toNat,by omega⟩
         (refine vK ?_;with_reducible repeat' first|exact Le.l|apply Sw|intro (K:_->_->Prop) hK|intro h)
         refine AW.c (fun h=>?_) fun h=>?_
         ·(refine vK ?_;with_reducible repeat' first|exact Le.l|apply Sw|intro (K:_->_->Prop) hK|intro h)
          try exact ⟨_,[_],[(b3,some (bf (fun c=>ha c || (decide (at8 s (j:Int)<=(c:Int)) && decide ((c:Int)<((y+1:Nat):Int)))))),(b2,some [.v (.int .i64 0),.str [],.v (.slice none 0 0)]),(b,some [.str s,.v (.int .i64 (j+1+1+1:Nat)),.v (.bool false)])],by omega,⟨((y+1:Nat):Int),rfl,rfl,rfl,by omega,by omega,by omega,by omega⟩,by simp,by rw [<- eI ha (by omega)];simp (maxSteps:=2000000) (disch:=omega) only [go_sem]⟩
         ·(refine vK ?_;with_reducible repeat' first|exact Le.l|apply Sw|intro (K:_->_->Prop) hK|intro h)
          exact ⟨_,[_],[(b3,some (bf (fun c=>ha c || (decide (at8 s (j:Int)<=(c:Int)) && decide ((c:Int)<(y:Int)))))),(b2,some [.v (.int .i64 0),.str [],.v (.slice none 0 0)]),(b,some [.str s,.v (.int .i64 (j+1+1+1:Nat)),.v (.bool false)])],by simp;omega,⟨k+1,j+1+1+1,_,false,rfl,rfl,rfl,by omega,by omega,by omega,fun _=>⟨by omega,by rw [if_neg (by omega),mO ha (a:=at8 s (j:Int)) (z:=at8 s ((j+1+1:Nat):Int)) (y:=(y:Int)) (by omega),<- hS2,hS]⟩,by simp⟩,rfl,by simp (maxSteps:=2000000) (disch:=omega) only [go_sem]⟩
       | false =>
        have hN':R=none:=by rw [<- hS,jA ha (ql rf (.inl hc2))]
        (repeat' first|(with_reducible first|refine Z ?_|refine Y ?_|(refine hK _ _ ?_;clear hK K)|refine And.intro ?_ ?_|exact Ct|intro (K:_->_->Prop) hK|(refine gI fun hg=>?_;try simp only [hC,reduceCtorEq] at hg;try simp only [hg]))|((with_reducible refine E ?_;repeat refine Y ?_);refine eF rfl ?_)|simp (disch:=omega) only [go_sem,hc2]|(with_reducible intro hg;try simp only [hC,reduceCtorEq] at hg)|exact Cl|fail)
        refine AW.c (fun h=>?_) fun h=>?_
        ·(refine vK ?_;with_reducible repeat' first|exact Le.l|apply Sw|intro (K:_->_->Prop) hK|intro h)
         refine AW.aA [9] [0,2,3,6,7,8] (fun m xs o=>∃ x:Int,xs=[.v (.int .i64 x)]/\o=[(b3,some (bf (fun c=>ha c || (decide (at8 s (j:Int)<=(c:Int)) && decide ((c:Int)<x))))),(b2,some [.v (.int .i64 0),.str [],.v (.slice none 0 0)]),(b,some [.str s,.v (.int .i64 (j+1+1:Nat)),.v (.bool true)])]/\m=(256 - x).toNat/\at8 s (j:Int)<=x/\x<=256/\(at8 s (j:Int)<=0->x<=0+1)/\(0<at8 s (j:Int)->x=at8 s (j:Int))) _ [(b3,some (bf ha)),(b2,some [.v (.int .i64 0),.str [],.v (.slice none 0 0)]),(b,some [.str s,.v (.int .i64 (j+1+1:Nat)),.v (.bool true)])] gO ⟨at8 s (j:Int),rfl,by rw [eH],rfl,by omega,by omega,by omega,by omega⟩ ?_
         rintro m xs o ⟨x,rfl,rfl,rfl,hx1,hx2,hx3,hx4⟩
         obtain ⟨y,rfl⟩:∃ y:Nat,x=y:=⟨x.toNat,by omega⟩
         (refine vK ?_;with_reducible repeat' first|exact Le.l|apply Sw|intro (K:_->_->Prop) hK|intro h)
         refine AW.c (fun h=>?_) fun h=>?_
         ·(refine vK ?_;with_reducible repeat' first|exact Le.l|apply Sw|intro (K:_->_->Prop) hK|intro h)
          try exact ⟨_,[_],[(b3,some (bf (fun c=>ha c || (decide (at8 s (j:Int)<=(c:Int)) && decide ((c:Int)<((y+1:Nat):Int)))))),(b2,some [.v (.int .i64 0),.str [],.v (.slice none 0 0)]),(b,some [.str s,.v (.int .i64 (j+1+1:Nat)),.v (.bool true)])],by omega,⟨((y+1:Nat):Int),rfl,rfl,rfl,by omega,by omega,by omega,by omega⟩,by simp,by rw [<- eI ha (by omega)];simp (maxSteps:=2000000) (disch:=omega) only [go_sem]⟩
         ·(refine vK ?_;with_reducible repeat' first|exact Le.l|apply Sw|intro (K:_->_->Prop) hK|intro h)
          exact ⟨0,[_],[(b3,some (bf (fun c=>ha c || (decide (at8 s (j:Int)<=(c:Int)) && decide ((c:Int)<(y:Int)))))),(b2,some [.v (.int .i64 0),.str [],.v (.slice none 0 0)]),(b,some [.str s,.v (.int .i64 (j+1+1:Nat)),.v (.bool true)])],by simp,⟨k+1,j+1+1,_,true,rfl,rfl,rfl,by omega,by omega,by omega,by simp,fun _=>hN'⟩,rfl,by simp (maxSteps:=2000000) (disch:=omega) only [go_sem]⟩
        ·(refine vK ?_;with_reducible repeat' first|exact Le.l|apply Sw|intro (K:_->_->Prop) hK|intro h)
         refine AW.aA [9] [0,2,3,6,7,8] (fun m xs o=>∃ x:Int,xs=[.v (.int .i64 x)]/\o=[(b3,some (bf (fun c=>ha c || (decide (at8 s (j:Int)<=(c:Int)) && decide ((c:Int)<x))))),(b2,some [.v (.int .i64 0),.str [],.v (.slice none 0 0)]),(b,some [.str s,.v (.int .i64 (j+1+1:Nat)),.v (.bool true)])]/\m=(256 - x).toNat/\at8 s (j:Int)<=x/\x<=256/\(at8 s (j:Int)<=0->x<=0+1)/\(0<at8 s (j:Int)->x=at8 s (j:Int))) _ [(b3,some (bf ha)),(b2,some [.v (.int .i64 0),.str [],.v (.slice none 0 0)]),(b,some [.str s,.v (.int .i64 (j+1+1:Nat)),.v (.bool true)])] gO ⟨at8 s (j:Int),rfl,by rw [eH],rfl,by omega,by omega,by omega,by omega⟩ ?_
         rintro m xs o ⟨x,rfl,rfl,rfl,hx1,hx2,hx3,hx4⟩
         obtain ⟨y,rfl⟩:∃ y:Nat,x=y:=⟨x.toNat,by omega⟩
         (refine vK ?_;with_reducible repeat' first|exact Le.l|apply Sw|intro (K:_->_->Prop) hK|intro h)
         refine AW.c (fun h=>?_) fun h=>?_
         ·(refine vK ?_;with_reducible repeat' first|exact Le.l|apply Sw|intro (K:_->_->Prop) hK|intro h)
          try exact ⟨_,[_],[(b3,some (bf (fun c=>ha c || (decide (at8 s (j:Int)<=(c:Int)) && decide ((c:Int)<((y+1:Nat):Int)))))),(b2,some [.v (.int .i64 0),.str [],.v (.slice none 0 0)]),(b,some [.str s,.v (.int .i64 (j+1+1:Nat)),.v (.bool true)])],by omega,⟨((y+1:Nat):Int),rfl,rfl,rfl,by omega,by omega,by omega,by omega⟩,by simp,by rw [<- eI ha (by omega)];simp (maxSteps:=2000000) (disch:=omega) only [go_sem]⟩
         ·(refine vK ?_;with_reducible repeat' first|exact Le.l|apply Sw|intro (K:_->_->Prop) hK|intro h)
          exact ⟨0,[_],[(b3,some (bf (fun c=>ha c || (decide (at8 s (j:Int)<=(c:Int)) && decide ((c:Int)<(y:Int)))))),(b2,some [.v (.int .i64 0),.str [],.v (.slice none 0 0)]),(b,some [.str s,.v (.int .i64 (j+1+1:Nat)),.v (.bool true)])],by simp,⟨k+1,j+1+1,_,true,rfl,rfl,rfl,by omega,by omega,by omega,by simp,fun _=>hN'⟩,rfl,by simp (maxSteps:=2000000) (disch:=omega) only [go_sem]⟩
      ·simp only [h,cond_false]
       have hS2:=mQ ha (yJ hch h)
       (refine vK ?_;with_reducible repeat' first|exact Le.l|apply Sw|intro (K:_->_->Prop) hK|intro h)
       refine AW.c (fun h=>?_) fun h=>?_
       ·omega
       ·(refine vK ?_;with_reducible repeat' first|exact Le.l|apply Sw|intro (K:_->_->Prop) hK|intro h)
        refine AW.aA [9] [0,2,3,6,7,8] (fun m xs o=>∃ x:Int,xs=[.v (.int .i64 x)]/\o=[(b3,some (bf (fun c=>ha c || (decide (at8 s (j:Int)<=(c:Int)) && decide ((c:Int)<x))))),(b2,some [.v (.int .i64 0),.str [],.v (.slice none 0 0)]),(b,some [.str s,.v (.int .i64 (j+1:Nat)),.v (.bool false)])]/\m=(256 - x).toNat/\at8 s (j:Int)<=x/\x<=256/\(at8 s (j:Int)<=at8 s (j:Int)->x<=at8 s (j:Int)+1)/\(at8 s (j:Int)<at8 s (j:Int)->x=at8 s (j:Int))) _ [(b3,some (bf ha)),(b2,some [.v (.int .i64 0),.str [],.v (.slice none 0 0)]),(b,some [.str s,.v (.int .i64 (j+1:Nat)),.v (.bool false)])] gO ⟨at8 s (j:Int),rfl,by rw [eH],rfl,by omega,by omega,by omega,by omega⟩ ?_
        rintro m xs o ⟨x,rfl,rfl,rfl,hx1,hx2,hx3,hx4⟩
        obtain ⟨y,rfl⟩:∃ y:Nat,x=y:=⟨x.toNat,by omega⟩
        (refine vK ?_;with_reducible repeat' first|exact Le.l|apply Sw|intro (K:_->_->Prop) hK|intro h)
        refine AW.c (fun h=>?_) fun h=>?_
        ·(refine vK ?_;with_reducible repeat' first|exact Le.l|apply Sw|intro (K:_->_->Prop) hK|intro h)
         try exact ⟨_,[_],[(b3,some (bf (fun c=>ha c || (decide (at8 s (j:Int)<=(c:Int)) && decide ((c:Int)<((y+1:Nat):Int)))))),(b2,some [.v (.int .i64 0),.str [],.v (.slice none 0 0)]),(b,some [.str s,.v (.int .i64 (j+1:Nat)),.v (.bool false)])],by omega,⟨((y+1:Nat):Int),rfl,rfl,rfl,by omega,by omega,by omega,by omega⟩,by simp,by rw [<- eI ha (by omega)];simp (maxSteps:=2000000) (disch:=omega) only [go_sem]⟩
        ·(refine vK ?_;with_reducible repeat' first|exact Le.l|apply Sw|intro (K:_->_->Prop) hK|intro h)
         exact ⟨_,[_],[(b3,some (bf (fun c=>ha c || (decide (at8 s (j:Int)<=(c:Int)) && decide ((c:Int)<(y:Int)))))),(b2,some [.v (.int .i64 0),.str [],.v (.slice none 0 0)]),(b,some [.str s,.v (.int .i64 (j+1:Nat)),.v (.bool false)])],by simp;omega,⟨k+1,j+1,_,false,rfl,rfl,rfl,by omega,by omega,by omega,fun _=>⟨by omega,by rw [if_neg (by omega),mO ha (a:=at8 s (j:Int)) (z:=at8 s (j:Int)) (y:=(y:Int)) (by omega),<- hS2,hS]⟩,by simp⟩,rfl,by simp (maxSteps:=2000000) (disch:=omega) only [go_sem]⟩
    ·simp only [h,cond_true]
     have hl2:=cv.1 h
     (refine vK ?_;with_reducible repeat' first|exact Le.l|apply Sw|intro (K:_->_->Prop) hK|intro h)
     (refine AW.ret (aJ.imp (Imp.ez (b:=b2) (by simp (maxSteps:=2000000) (disch:=omega) only [go_sem];rfl) ?_));simp (maxSteps:=2000000) (disch:=omega) only [go_sem];refine aJ.dS rfl (RdQ.yes (p:=.mk 1 (o7 ha) []) (j:=j+1) (by rw [oX,AU,<- hS,Fe ha h];rfl) (by omega)) ?_;simp (maxSteps:=2000000) (disch:=omega) only [go_sem])
 ·simp only [h,cond_false]
  have hnc:=h
  cases hch:iG s i with
  | true =>
   (repeat' first|(with_reducible first|refine Z ?_|refine Y ?_|(refine hK _ _ ?_;clear hK K)|refine And.intro ?_ ?_|exact Ct|intro (K:_->_->Prop) hK|(refine gI fun hg=>?_;try simp only [hC,reduceCtorEq] at hg;try simp only [hg]))|((with_reducible refine E ?_;repeat refine Y ?_);refine eF rfl ?_)|simp (disch:=omega) only [go_sem,hch]|(with_reducible intro hg;try simp only [hC,reduceCtorEq] at hg)|exact Cl|fail)
   refine AW.c (fun h=>?_) fun h=>?_
   ·(refine vK ?_;with_reducible repeat' first|exact Le.l|apply Sw|intro (K:_->_->Prop) hK|intro h)
    (refine AW.ret (aJ.imp (Imp.jU (b:=b2) 3 [.v (.int .i64 1),.str [UInt8.ofNat (at8 s i).toNat]] [] (by simp (maxSteps:=2000000) (disch:=omega) only [go_sem]) ?_));simp (maxSteps:=2000000) (disch:=omega) only [go_sem];refine aJ.dS rfl (RdQ.no (.mk 1 [UInt8.ofNat (at8 s i).toNat] []) (j:=i+1) (by rw [oX,Fp hnd hnc hp.1];intro _;rcases h with h|h;exact h;rw [lg ⟨hp.1,h⟩] at hnd;cases hnd) (by omega)) ?_;simp (maxSteps:=2000000) (disch:=omega) only [go_sem])
   ·(refine vK ?_;with_reducible repeat' first|exact Le.l|apply Sw|intro (K:_->_->Prop) hK|intro h)
    (refine AW.ret (aJ.imp (Imp.jU (b:=b2) 3 [.v (.int .i64 1),.str [UInt8.ofNat (at8 s i).toNat]] [] (by simp (maxSteps:=2000000) (disch:=omega) only [go_sem]) ?_));simp (maxSteps:=2000000) (disch:=omega) only [go_sem];refine aJ.dS rfl (RdQ.yes (p:=.mk 1 [UInt8.ofNat (at8 s i).toNat] []) (j:=i+1) (by rw [oX,Lj hnd hnc hp.1 hch h.1,HV hp.1,oM]) (by omega)) ?_;simp (maxSteps:=2000000) (disch:=omega) only [go_sem])
  | false =>
   (repeat' first|(with_reducible first|refine Z ?_|refine Y ?_|(refine hK _ _ ?_;clear hK K)|refine And.intro ?_ ?_|exact Ct|intro (K:_->_->Prop) hK|(refine gI fun hg=>?_;try simp only [hC,reduceCtorEq] at hg;try simp only [hg]))|((with_reducible refine E ?_;repeat refine Y ?_);refine eF rfl ?_)|simp (disch:=omega) only [go_sem,hch]|(with_reducible intro hg;try simp only [hC,reduceCtorEq] at hg)|exact Cl|fail)
   (refine AW.i rfl (fun h=>?_) (fun h=>?_)<;>try simp only [hC,reduceCtorEq] at h)
   all_goals (refine vK ?_;with_reducible repeat' first|exact Le.l|apply Sw|intro (K:_->_->Prop) hK|intro h)
   (refine AW.ret (aJ.imp (Imp.jU (b:=b2) 3 [.v (.int .i64 1),.str [UInt8.ofNat 0]] [] (by simp (maxSteps:=2000000) (disch:=omega) only [go_sem]) ?_));simp (maxSteps:=2000000) (disch:=omega) only [go_sem];refine aJ.dS rfl (RdQ.no (.mk 1 [UInt8.ofNat 0] []) (j:=i) (by rw [oX,Fp hnd hnc hp.1];intro e;rw [hch] at e;cases e) (by omega)) ?_;simp (maxSteps:=2000000) (disch:=omega) only [go_sem])
end Go.Proofs
namespace Go.Dt
open Go.Ab
def oN:bq:=.mk 0 [] []
def eK(s:Str):bq×Bool :=
 if s.length<=30 then match gQ s 0 with
  | some (p,j)=>if j=s.length then (p,true) else (oN,false)
  | none=>(oN,false)
 else (oN,false)
theorem rD(s:Str):(eK s).2=j8 s:=by
 unfold eK j8
 by_cases h:s.length<=30
 ·simp only [h,if_true,decide_true,Bool.true_and]
  cases e:gQ s 0 with
  | none=>rfl
  | some r =>
   obtain ⟨p,j⟩:=r
   by_cases h2:j=s.length
   ·simp [h2]
   ·simp [h2]
 ·simp [h]
theorem ze{s:Str}(h:30<s.length):eK s=(oN,false):=by rw [eK,if_neg (by omega)]
theorem zb{s:Str}(h:gQ s 0=none):eK s=(oN,false):=by rw [eK,h];simp
theorem za{s:Str}{p:bq}{j:Nat}(h:gQ s 0=some (p,j))(h2:¬ j=s.length):eK s=(oN,false):=by rw [eK,h];simp [h2]
theorem BJ{s:Str}{p:bq}{j:Nat}(h0:s.length<=30)(h:gQ s 0=some (p,j))(h2:j=s.length):eK s=(p,true):=by rw [eK,h];simp [h2,h0]
end Go.Dt
namespace Go.Proofs
open Go.Ab Go.Dt
theorem HK:∀ (n:Nat) (b:Nat) (s:Str) (i:Nat),gz lim Tryz.prog 283 [(b,some [.str s,.v (.int .i64 i),.v (.bool false)])] [.ptr b 0] (RdQ b s i (gQ s i)) (i<=s.length/\s.length<=30/\s.length - i<n)
 | 0,_,_,_=>⟨(aM 283),fun h=>absurd h.2.2 (Nat.not_lt_zero _)⟩
 | n+1,b,s,i=>Uz (n+1) (Tm (n+1) (Rn (n+1) (Sg n (HK n)))) b s i
instance Zv(b:Nat)(s:Str):gz lim Tryz.prog 283 [(b,some [.str s,.v (.int .i64 0),.v (.bool false)])] [.ptr b 0] (RdQ b s 0 (gQ s 0)) (s.length<=30):=⟨(aM 283),fun h=>(HK 31 b s 0).out ⟨by omega,h,by omega⟩⟩
instance NP(s:Str):Ctr lim Tryz.prog 266 [] [.str s] (.tup [.agg [.v (.int .i64 (eK s).1.fOp),.str (eK s).1.cg,.sl false 3 ((eK s).1.af.map bO)],.v (.bool (eK s).2)]) [] True:=by
 refine Ctr.bd Tryz.func266 Tryz.ntmps266 rfl rfl fun hp=>?_
 refine AW.fact 0 fun hf=>?_
 simp (disch:=omega) only [go_sem,Nat.reduceBEq] at hf
 (refine vK ?_;with_reducible repeat' first|exact Le.l|apply Sw|intro (K:_->_->Prop) hK|intro h)
 refine AW.c (fun h=>?_) fun h=>?_
 ·have e:=ze (s:=s) (by omega)
  (refine vX ?_;with_reducible repeat' first|exact Le.l|apply Sw|intro (K:_->_->Prop) hK|intro h)
  rename_i b2
  (refine AW.ret (aJ.imp (Imp.jU (b:=b2) 3 [.v (.int .i64 0),.str []] [] (by simp (maxSteps:=2000000) (disch:=omega) only [go_sem]) ?_));simp (maxSteps:=2000000) (disch:=omega) only [go_sem];refine aJ.fin rfl ?_;simp (maxSteps:=2000000) (disch:=omega) only [go_sem,e,oN,lr,je,jf])
 ·(refine vK ?_;with_reducible repeat' first|exact Le.l|apply Sw|intro (K:_->_->Prop) hK|intro h)
  rename_i b2 h2 b3
  refine GK.rd (fun p j hq hj=>?_) (fun p j hq hj=>?_)
  ·(refine vK ?_;with_reducible repeat' first|exact Le.l|apply Sw|intro (K:_->_->Prop) hK|intro h)
   refine AW.c (fun h=>?_) fun h=>?_
   ·have e:=za hq (by omega)
    (refine vX ?_;with_reducible repeat' first|exact Le.l|apply Sw|intro (K:_->_->Prop) hK|intro h)
    (refine AW.ret (aJ.imp (Imp.jU (b:=b2) 3 [.v (.int .i64 0),.str []] [] (by simp (maxSteps:=2000000) (disch:=omega) only [go_sem]) ?_));simp (maxSteps:=2000000) (disch:=omega) only [go_sem];refine aJ.fin rfl ?_;simp (maxSteps:=2000000) (disch:=omega) only [go_sem,e,oN,lr,je,jf])
   ·have e:=BJ (by omega) hq (by omega)
    (repeat' first|(with_reducible first|refine Z ?_|refine Y ?_|(refine hK _ _ ?_;clear hK K)|refine And.intro ?_ ?_|exact Ct|intro (K:_->_->Prop) hK|(refine gI fun hg=>?_;try simp only [hC,reduceCtorEq] at hg;try simp only [hg]))|(refine AW.i rfl (fun h=>?_) (fun h=>?_)<;>try simp only [hC,reduceCtorEq] at h)|((with_reducible refine E ?_;repeat refine Y ?_);refine eF rfl ?_)|simp (disch:=omega) only [go_sem,e]|(with_reducible intro hg;try simp only [hC,reduceCtorEq] at hg)|exact Cl|fail)
  ·have e:=zb hq
   (refine vK ?_;with_reducible repeat' first|exact Le.l|apply Sw|intro (K:_->_->Prop) hK|intro h)
   (refine AW.i rfl (fun h=>?_) (fun h=>?_)<;>try simp only [hC,reduceCtorEq] at h)
   (refine vX ?_;with_reducible repeat' first|exact Le.l|apply Sw|intro (K:_->_->Prop) hK|intro h)
   (refine AW.ret (aJ.imp (Imp.jU (b:=b2) 3 [.v (.int .i64 0),.str []] [] (by simp (maxSteps:=2000000) (disch:=omega) only [go_sem]) ?_));simp (maxSteps:=2000000) (disch:=omega) only [go_sem];refine aJ.fin rfl ?_;simp (maxSteps:=2000000) (disch:=omega) only [go_sem,e,oN,lr,je,jf])
instance Rw(s:Str):Ctr lim Tryz.prog 256 [] [.str s] (.v (.bool (j8 s))) [] True:=by
 refine Ctr.bd Tryz.func256 Tryz.ntmps256 rfl rfl fun hp=>?_
 have e:=rD s
 (repeat' first|(with_reducible first|refine Z ?_|refine Y ?_|(refine hK _ _ ?_;clear hK K)|refine And.intro ?_ ?_|exact Ct|intro (K:_->_->Prop) hK|(refine gI fun hg=>?_;try simp only [hC,reduceCtorEq] at hg;try simp only [hg]))|(refine AW.i rfl (fun h=>?_) (fun h=>?_)<;>try simp only [hC,reduceCtorEq] at h)|((with_reducible refine E ?_;repeat refine Y ?_);refine eF rfl ?_)|simp (disch:=omega) only [go_sem,e]|(with_reducible intro hg;try simp only [hC,reduceCtorEq] at hg)|exact Cl|fail)
end Go.Proofs
namespace Go.Dt
open Go.Ab
@[go_sem] theorem VF:Int.toNat 256=256:=rfl
def y6:List (List Value):=List.replicate 256 [.bool false]
@[go_sem high] theorem U5:List.replicate 256 [Value.bool false]=y6:=rfl
@[go_sem] theorem Tv:y6.flatten.map avz=bf (fun _=>false):=by
 have e:y6.flatten=Fq:=by
  unfold y6 Fq
  rw [List.flatten_replicate_singleton]
 rw [e,KO]
theorem OX(l:List bq):((l.map bO).flatMap AV.cells).length=l.length * 3:=by
 induction l with
 | nil=>rfl
 | cons x xs ih =>
  have e:(bO x).cells.length=3:=by rw [dL];rfl
  simp only [List.map_cons,List.flatMap_cons,List.length_append,ih,e,List.length_cons];omega
theorem Gu(l:List bq):∀ x,x∈l.map bO->x.elem 3=true:=by
 have:=JI l
 rw [List.all_eq_true] at this;exact this
end Go.Dt
namespace Go.Proofs
open Go.Ab Go.Dt
instance X5:Ctr lim Tryz.prog 307 [] [] (.str (o7 (fun c=>decide (32<=c) && decide (c<127)))) [] True:=by
 refine Ctr.bd Tryz.func307 Tryz.ntmps307 rfl rfl fun hp=>?_
 (refine vU ?_;with_reducible repeat' first|exact Le.l|apply Sw|intro (K:_->_->Prop) hK|intro h)
 have hlow:lY (fun c=>decide (32<=c) && decide (c<127)) 32=[]:=by
  unfold lY
  have:(List.range 32).filter (fun c=>decide (32<=c) && decide (c<127))=[]:=by
   rw [List.filter_eq_nil_iff];intro a ha;simp at ha ⊢;omega
  rw [this];rfl
 refine AW.aA [1,2] [] (fun m xs o=>∃ k:Nat,xs=[.sl true 1 (dQ (lY (fun c=>decide (32<=c) && decide (c<127)) k)),.v (.int .i64 k)]/\o=[]/\m=127 - k/\32<=k/\k<=127) 95 [] trivial ⟨32,?_,rfl,rfl,?_,?_⟩ ?_
 ·rw [hlow];rfl
 ·omega
 ·omega
 rintro m xs o ⟨k,rfl,rfl,rfl,hk0,hk⟩
 have hl:=wL (fun c=>decide (32<=c) && decide (c<127)) k
 have hs:=qO (fun c=>decide (32<=c) && decide (c<127)) k
 (refine vU ?_;with_reducible repeat' first|exact Le.l|apply Sw|intro (K:_->_->Prop) hK|intro h)
 ·rw [if_pos (by simp;omega)] at hs
  exact ⟨_,[_,_],[],by omega,⟨k+1,by rw [hs,<- tL _ (by omega)],rfl,rfl,by omega,by omega⟩,rfl,trivial⟩
 ·have:k=127:=by omega
  subst this
  congr 1
theorem Ei:∀ (n:Nat) (op:Int) (t:Str) (ks:List bq),Ctr lim Tryz.prog 299 [] [.agg [.v (.int .i64 op),.str t,.sl false 3 (ks.map bO)]] (.agg [.v (.int .i64 op),.str t,.sl false 3 (ks.map bO)]) [] (mY ks<n)
 | 0,op,t,ks=>⟨(aM 299),fun h=>absurd h (Nat.not_lt_zero _)⟩
 | n+1,op,t,ks=>by
  have ih:=Ei n
  refine Ctr.bd Tryz.func299 Tryz.ntmps299 rfl rfl fun hp=>?_
  refine AW.fact 0 fun hf=>?_
  simp (disch:=omega) only [go_sem,Nat.reduceBEq] at hf
  (refine bU ?_;with_reducible repeat' first|exact Le.l|apply Sw|intro (K:_->_->Prop) hK|intro h)
  rename_i b1 b2 hn b3
  refine AW.imp (Imp.nZ (b:=b3) 3 [.v (.int .i64 op),.str t] [] gO ?_)
  simp (maxSteps:=2000000) (disch:=omega) only [go_sem]
  refine AW.aA [4] [1,2,3] (fun m xs o=>∃ k:Nat,xs=[.v (.int .i64 k)]/\o=[(b3,some [.v (.int .i64 op),.str t,.sl true 3 ((ks.take k).map bO)]),(b2,some [.v (.int .i64 0),.str [],.v (.slice none 0 0)]),(b1,some [.v (.int .i64 op),.str t,.sl false 3 (ks.map bO)])]/\m=ks.length - k/\k<=ks.length) ks.length [(b3,some [.v (.int .i64 op),.str t,.sl true 3 []]),(b2,some [.v (.int .i64 0),.str [],.v (.slice none 0 0)]),(b1,some [.v (.int .i64 op),.str t,.sl false 3 (ks.map bO)])] gO ⟨0,?_,rfl,rfl,?_⟩ ?_
  ·rfl
  ·omega
  rintro m xs o ⟨k,rfl,rfl,rfl,hk⟩
  have hq:k<ks.length->_:=uG (l:=ks) (k:=k)
  have hq2:=y7 (at_ ks k)
  have hlt:(ks.take k).length=k:=by rw [List.length_take];omega
  (refine bK ?_;with_reducible repeat' first|exact Le.l|apply Sw|intro (K:_->_->Prop) hK|intro h)
  refine AW.c (fun h=>?_) fun h=>?_
  ·(refine bN ?_;with_reducible repeat' first|exact Le.l|apply Sw|intro (K:_->_->Prop) hK|intro h)
   have hfl:=OX (ks.take k)
   have hst:=Gc (f:=bO) h
   refine AW.imp (Imp.iZ (b0:=b3) (k:=2) (cells0:=[.v (.int .i64 op),.str t,.sl true 3 ((ks.take k).map bO)]) (sz:=3) (l:=(ks.take k).map bO) gO rfl (Gu _) (fun b hb=>?_) (fun hnil=>?_))
   ·have hb1:=hb.nf
    simp only [go_sem] at hb1
    simp only [List.set_cons_zero,List.set_cons_succ]
    refine AW.I6 fun K hK=>?_
    simp (maxSteps:=2000000) (disch:=omega) only [go_sem]
    (refine bN ?_;with_reducible repeat' first|exact Le.l|apply Sw|intro (K:_->_->Prop) hK|intro h)
    rename_i b9
    refine AW.imp (Imp.zF (b0:=b3) (k:=2) (b:=b9) (len:=(ks.take k).length+1) (sz:=3) (cells0:=[.v (.int .i64 op),.str t,.arr b9 0 ((ks.take k).length+1) 3]) (cells:=((ks.take k).map bO).flatMap AV.cells++[.v (.int .i64 (at_ ks k).fOp),.str (at_ ks k).cg,.sl false 3 ((at_ ks k).af.map bO)]) (l:=(ks.take (k+1)).map bO) gO rfl gO (by omega) (by simp;omega) ?_ (Gu _) ?_)
    ·refine Eq.trans ?_ (List.take_of_length_le (by rw [List.length_append,hfl];simp only [List.length_cons,List.length_nil];omega)).symm
     rw [hst,List.flatMap_append,dL]
     rfl
    simp only [List.set_cons_zero,List.set_cons_succ]
    (refine bK ?_;with_reducible repeat' first|exact Le.l|apply Sw|intro (K:_->_->Prop) hK|intro h)
    exact ⟨_,[_],[(b3,some [.v (.int .i64 op),.str t,.sl true 3 ((ks.take (k+1)).map bO)]),(b2,some [.v (.int .i64 0),.str [],.v (.slice none 0 0)]),(b1,some [.v (.int .i64 op),.str t,.sl false 3 (ks.map bO)])],by omega,⟨k+1,rfl,rfl,rfl,by omega⟩,rfl,by rw [hst,dL];simp (maxSteps:=2000000) (disch:=omega) only [go_sem]⟩
   ·simp only [List.set_cons_zero,List.set_cons_succ]
    refine AW.I6 fun K hK=>?_
    simp (maxSteps:=2000000) (disch:=omega) only [go_sem]
    (refine bK ?_;with_reducible repeat' first|exact Le.l|apply Sw|intro (K:_->_->Prop) hK|intro h)
    rw [hnil] at hst
    exact ⟨_,[_],[(b3,some [.v (.int .i64 op),.str t,.sl true 3 ((ks.take (k+1)).map bO)]),(b2,some [.v (.int .i64 0),.str [],.v (.slice none 0 0)]),(b1,some [.v (.int .i64 op),.str t,.sl false 3 (ks.map bO)])],by omega,⟨k+1,rfl,rfl,rfl,by omega⟩,rfl,by rw [hst,dL];simp (maxSteps:=2000000) (disch:=omega) only [go_sem,List.nil_append]⟩
  ·rw [show k=ks.length by omega,List.take_length]
   (refine bX ?_;with_reducible repeat' first|exact Le.l|apply Sw|intro (K:_->_->Prop) hK|intro h)
   refine AW.ret (aJ.imp (Imp.ez (b:=b2) (by simp (maxSteps:=2000000) (disch:=omega) only [go_sem];rfl) ?_))
   simp (maxSteps:=2000000) (disch:=omega) only [go_sem]
   refine aJ.fin rfl ?_
   simp (maxSteps:=2000000) (disch:=omega) only [go_sem]
instance V9(op:Int)(t:Str)(ks:List bq):Ctr lim Tryz.prog 299 [] [.agg [.v (.int .i64 op),.str t,.sl false 3 (ks.map bO)]] (.agg [.v (.int .i64 op),.str t,.sl false 3 (ks.map bO)]) [] True:=⟨(aM 299),fun _=>(Ei (mY ks+1) op t ks).out (by omega)⟩
end Go.Proofs
namespace Go.Dt
open Go.Ab
def QN(r:Option ((Nat->Bool)×Nat)):Option (bq×Nat):=match r with|none=>none|some (has,k)=>some (oM (o7 has),k)
def vJ(s:Str)(i:Nat):Option (bq×Nat):=QN (mC s i (fun _=>false))
theorem Mz{s:Str}{j:Nat}(h:dN s j 93=true):iG s j=false:=by
 have:=cv.1 h
 rw [lC,this.2]
 simp [nK,ltI,mB]
end Go.Dt
namespace Go.Proofs
open Go.Ab Go.Dt
instance U6(b:Nat)(s:Str)(i:Nat):gz lim Tryz.prog 306 [(b,some [.str s,.v (.int .i64 i),.v (.bool false)])] [.ptr b 0] (RdQ b s i (vJ s i)) (i<=s.length/\s.length<=30):=by
 refine gz.gA (aM 306) Tryz.func306 rfl rfl fun hp=>(?_);rw [Tryz.ntmps306]
 generalize hRR:mC s i (fun _=>false)=R
 have hres:vJ s i=QN R:=by rw [vJ,hRR]
 (refine vK ?_;with_reducible repeat' first|exact Le.l|apply Sw|intro (K:_->_->Prop) hK|intro h)
 rename_i b2 hn b3
 refine AW.aA [] [0,2,3,4] (fun m xs o=>∃ (j:Nat) (ha:Nat->Bool),xs=[]/\o=[(b3,some (bf ha)),(b2,some [.v (.int .i64 0),.str [],.v (.slice none 0 0)]),(b,some [.str s,.v (.int .i64 j),.v (.bool false)])]/\m=s.length - j/\j<=s.length/\i<=j/\((j=i/\mC s j ha=R)\/(i<j/\nR s j ha=R))) _ [(b3,some (bf (fun _=>false))),(b2,some [.v (.int .i64 0),.str [],.v (.slice none 0 0)]),(b,some [.str s,.v (.int .i64 i),.v (.bool false)])] gO ⟨i,fun _=>false,rfl,rfl,rfl,by omega,by omega,.inl ⟨rfl,hRR⟩⟩ ?_
 rintro m xs o ⟨j,ha,rfl,rfl,rfl,hj,hij,hR⟩
 have hge:=lE s (j:Int)
 have hle:=lD s (j:Int)
 have RM:=lE s ((j+1+1:Nat):Int)
 have hle2:=lD s ((j+1+1:Nat):Int)
 (refine vK ?_;with_reducible repeat' first|exact Le.l|apply Sw|intro (K:_->_->Prop) hK|intro h)
 refine AW.c (fun h=>?_) fun h=>?_
 ·simp only [h,cond_false]
  have hS:mC s j ha=R:=by
   rcases hR with hR|hR
   ·exact hR.2
   ·rw [<- hR.2,HE ha h]
  clear hR
  (refine vK ?_;with_reducible repeat' first|exact Le.l|apply Sw|intro (K:_->_->Prop) hK|intro h)
  refine AW.c (fun h=>?_) fun h=>?_
  ·have hch:=sj (s:=s) (i:=j) (by rcases h with h|h;exact .inl (by omega);exact .inr h)
   (refine vK ?_;with_reducible repeat' first|exact Le.l|apply Sw|intro (K:_->_->Prop) hK|intro h)
   (refine AW.ret (aJ.imp (Imp.jU (b:=b2) 3 [.v (.int .i64 0),.str []] [] (by simp (maxSteps:=2000000) (disch:=omega) only [go_sem]) ?_));simp (maxSteps:=2000000) (disch:=omega) only [go_sem];refine aJ.dS rfl (RdQ.no (.mk 0 [] []) (j:=j) (by rw [hres,<- hS,jA ha (wM hch)];rfl) (by omega)) ?_;simp (maxSteps:=2000000) (disch:=omega) only [go_sem])
  have hch:=tH (s:=s) (i:=j) ⟨by omega,h.2⟩
  have hl1:=mR hch
  (refine vK ?_;with_reducible repeat' first|exact Le.l|apply Sw|intro (K:_->_->Prop) hK|intro h)
  refine AW.c (fun h=>?_) fun h=>?_
  ·simp only [h,cond_true]
   have rf:=h
   have hl2:=cv.1 h
   (refine vK ?_;with_reducible repeat' first|exact Le.l|apply Sw|intro (K:_->_->Prop) hK|intro h)
   refine AW.c (fun h=>?_) fun h=>?_
   ·(refine vK ?_;with_reducible repeat' first|exact Le.l|apply Sw|intro (K:_->_->Prop) hK|intro h)
    (refine AW.ret (aJ.imp (Imp.jU (b:=b2) 3 [.v (.int .i64 0),.str []] [] (by simp (maxSteps:=2000000) (disch:=omega) only [go_sem]) ?_));simp (maxSteps:=2000000) (disch:=omega) only [go_sem];refine aJ.dS rfl (RdQ.no (.mk 0 [] []) (j:=j+1+1) (by rw [hres,<- hS,jA ha (ql rf ?_)];rfl;rcases h with (h|h)|h;exact .inl (sj (.inl (by omega)));exact .inl (sj (.inr h));exact .inr h) (by omega)) ?_;simp (maxSteps:=2000000) (disch:=omega) only [go_sem])
   ·have hc2:=tH (s:=s) (i:=j+1+1) ⟨by omega,h.1.2⟩
    have hl3:=mR hc2
    have hS2:=mQ ha (yI hch rf hc2 h.2)
    (refine vK ?_;with_reducible repeat' first|exact Le.l|apply Sw|intro (K:_->_->Prop) hK|intro h)
    refine AW.aA [7] [0,2,3,4,5,6] (fun m xs o=>∃ x:Int,xs=[.v (.int .i64 x)]/\o=[(b3,some (bf (fun c=>ha c || (decide (at8 s (j:Int)<=(c:Int)) && decide ((c:Int)<x))))),(b2,some [.v (.int .i64 0),.str [],.v (.slice none 0 0)]),(b,some [.str s,.v (.int .i64 (j+1+1+1:Nat)),.v (.bool false)])]/\m=(256 - x).toNat/\at8 s (j:Int)<=x/\x<=256/\x<=at8 s ((j+1+1:Nat):Int)+1) _ [(b3,some (bf ha)),(b2,some [.v (.int .i64 0),.str [],.v (.slice none 0 0)]),(b,some [.str s,.v (.int .i64 (j+1+1+1:Nat)),.v (.bool false)])] gO ⟨at8 s (j:Int),rfl,by rw [eH],rfl,by omega,by omega,by omega⟩ ?_
    rintro m xs o ⟨x,rfl,rfl,rfl,hx1,hx2,hx3⟩
    obtain ⟨y,rfl⟩:∃ y:Nat,x=y:=⟨x.toNat,by omega⟩
    (refine vK ?_;with_reducible repeat' first|exact Le.l|apply Sw|intro (K:_->_->Prop) hK|intro h)
    refine AW.c (fun h=>?_) fun h=>?_
    ·(refine vK ?_;with_reducible repeat' first|exact Le.l|apply Sw|intro (K:_->_->Prop) hK|intro h)
     exact ⟨_,[_],[(b3,some (bf (fun c=>ha c || (decide (at8 s (j:Int)<=(c:Int)) && decide ((c:Int)<((y+1:Nat):Int)))))),(b2,some [.v (.int .i64 0),.str [],.v (.slice none 0 0)]),(b,some [.str s,.v (.int .i64 (j+1+1+1:Nat)),.v (.bool false)])],by omega,⟨((y+1:Nat):Int),rfl,rfl,rfl,by omega,by omega,by omega⟩,by simp,by rw [<- eI ha (by omega)];simp (maxSteps:=2000000) (disch:=omega) only [go_sem]⟩
    ·(refine vK ?_;with_reducible repeat' first|exact Le.l|apply Sw|intro (K:_->_->Prop) hK|intro h)
     exact ⟨_,[],[(b3,some (bf (fun c=>ha c || (decide (at8 s (j:Int)<=(c:Int)) && decide ((c:Int)<(y:Int)))))),(b2,some [.v (.int .i64 0),.str [],.v (.slice none 0 0)]),(b,some [.str s,.v (.int .i64 (j+1+1+1:Nat)),.v (.bool false)])],by omega,⟨j+1+1+1,_,rfl,rfl,rfl,by omega,by omega,.inr ⟨by omega,by rw [mO ha (a:=at8 s (j:Int)) (z:=at8 s ((j+1+1:Nat):Int)) (y:=(y:Int)) (by omega),<- hS2,hS]⟩⟩,by simp (maxSteps:=2000000) (disch:=omega) only [go_sem]⟩
  ·simp only [h,cond_false]
   have hS2:=mQ ha (yJ hch h)
   (refine vK ?_;with_reducible repeat' first|exact Le.l|apply Sw|intro (K:_->_->Prop) hK|intro h)
   refine AW.aA [7] [0,2,3,4,5,6] (fun m xs o=>∃ x:Int,xs=[.v (.int .i64 x)]/\o=[(b3,some (bf (fun c=>ha c || (decide (at8 s (j:Int)<=(c:Int)) && decide ((c:Int)<x))))),(b2,some [.v (.int .i64 0),.str [],.v (.slice none 0 0)]),(b,some [.str s,.v (.int .i64 (j+1:Nat)),.v (.bool false)])]/\m=(256 - x).toNat/\at8 s (j:Int)<=x/\x<=256/\x<=at8 s (j:Int)+1) _ [(b3,some (bf ha)),(b2,some [.v (.int .i64 0),.str [],.v (.slice none 0 0)]),(b,some [.str s,.v (.int .i64 (j+1:Nat)),.v (.bool false)])] gO ⟨at8 s (j:Int),rfl,by rw [eH],rfl,by omega,by omega,by omega⟩ ?_
   rintro m xs o ⟨x,rfl,rfl,rfl,hx1,hx2,hx3⟩
   obtain ⟨y,rfl⟩:∃ y:Nat,x=y:=⟨x.toNat,by omega⟩
   (refine vK ?_;with_reducible repeat' first|exact Le.l|apply Sw|intro (K:_->_->Prop) hK|intro h)
   refine AW.c (fun h=>?_) fun h=>?_
   ·(refine vK ?_;with_reducible repeat' first|exact Le.l|apply Sw|intro (K:_->_->Prop) hK|intro h)
    exact ⟨_,[_],[(b3,some (bf (fun c=>ha c || (decide (at8 s (j:Int)<=(c:Int)) && decide ((c:Int)<((y+1:Nat):Int)))))),(b2,some [.v (.int .i64 0),.str [],.v (.slice none 0 0)]),(b,some [.str s,.v (.int .i64 (j+1:Nat)),.v (.bool false)])],by omega,⟨((y+1:Nat):Int),rfl,rfl,rfl,by omega,by omega,by omega⟩,by simp,by rw [<- eI ha (by omega)];simp (maxSteps:=2000000) (disch:=omega) only [go_sem]⟩
   ·(refine vK ?_;with_reducible repeat' first|exact Le.l|apply Sw|intro (K:_->_->Prop) hK|intro h)
    exact ⟨_,[],[(b3,some (bf (fun c=>ha c || (decide (at8 s (j:Int)<=(c:Int)) && decide ((c:Int)<(y:Int)))))),(b2,some [.v (.int .i64 0),.str [],.v (.slice none 0 0)]),(b,some [.str s,.v (.int .i64 (j+1:Nat)),.v (.bool false)])],by omega,⟨j+1,_,rfl,rfl,rfl,by omega,by omega,.inr ⟨by omega,by rw [mO ha (a:=at8 s (j:Int)) (z:=at8 s (j:Int)) (y:=(y:Int)) (by omega),<- hS2,hS]⟩⟩,by simp (maxSteps:=2000000) (disch:=omega) only [go_sem]⟩
 ·simp only [h,cond_true]
  have hend:=h
  have hl2:=cv.1 h
  (refine vK ?_;with_reducible repeat' first|exact Le.l|apply Sw|intro (K:_->_->Prop) hK|intro h)
  refine AW.c (fun h=>?_) fun h=>?_
  ·have hN:R=none:=by
    rcases hR with hR|hR
    ·rw [<- hR.2,jA ha (wM (Mz hend))]
    ·omega
   (refine vK ?_;with_reducible repeat' first|exact Le.l|apply Sw|intro (K:_->_->Prop) hK|intro h)
   refine AW.aA [8,9] [2,3] (fun m xs o=>∃ k:Nat,xs=[.sl true 1 (dQ (lY ha k)),.v (.int .i64 k)]/\o=[(b3,some (bf ha)),(b2,some [.v (.int .i64 0),.str [],.v (.slice none 0 0)]),(b,some [.str s,.v (.int .i64 (j+1:Nat)),.v (.bool true)])]/\m=256 - k/\k<=256) 256 [(b3,some (bf ha)),(b2,some [.v (.int .i64 0),.str [],.v (.slice none 0 0)]),(b,some [.str s,.v (.int .i64 (j+1:Nat)),.v (.bool true)])] gO ⟨0,?_,rfl,rfl,?_⟩ ?_
   ·rfl
   ·omega
   rintro m xs o ⟨k,rfl,rfl,rfl,hk⟩
   have hl:=wL ha k
   have hs:=qO ha k
   (refine vK ?_;with_reducible repeat' first|exact Le.l|apply Sw|intro (K:_->_->Prop) hK|intro h)
   refine AW.c (fun h=>?_) fun h=>?_
   ·(refine vK ?_;with_reducible repeat' first|exact Le.l|apply Sw|intro (K:_->_->Prop) hK|intro h)
    refine AW.c (fun h=>?_) fun h=>?_
    ·rw [h] at hs
     (refine vK ?_;with_reducible repeat' first|exact Le.l|apply Sw|intro (K:_->_->Prop) hK|intro h)
     exact ⟨_,[_,_],[(b3,some (bf ha)),(b2,some [.v (.int .i64 0),.str [],.v (.slice none 0 0)]),(b,some [.str s,.v (.int .i64 (j+1:Nat)),.v (.bool true)])],by omega,⟨k+1,by rw [hs,if_pos rfl,<- tL _ (by omega)],rfl,rfl,by omega⟩,rfl,by simp (maxSteps:=2000000) (disch:=omega) only [go_sem]⟩
    ·rw [h] at hs
     (refine vK ?_;with_reducible repeat' first|exact Le.l|apply Sw|intro (K:_->_->Prop) hK|intro h)
     exact ⟨_,[_,_],[(b3,some (bf ha)),(b2,some [.v (.int .i64 0),.str [],.v (.slice none 0 0)]),(b,some [.str s,.v (.int .i64 (j+1:Nat)),.v (.bool true)])],by omega,⟨k+1,by rw [hs];simp,rfl,rfl,by omega⟩,rfl,by simp (maxSteps:=2000000) (disch:=omega) only [go_sem]⟩
   ·(refine vK ?_;with_reducible repeat' first|exact Le.l|apply Sw|intro (K:_->_->Prop) hK|intro h)
    have hk2:k=256:=by omega
    subst hk2
    (refine AW.ret (aJ.imp (Imp.jU (b:=b2) 3 [.v (.int .i64 1),.str (lY ha 256)] [] (by simp (maxSteps:=2000000) (disch:=omega) only [go_sem]) ?_));simp (maxSteps:=2000000) (disch:=omega) only [go_sem];refine aJ.dS rfl (RdQ.no (.mk 1 (lY ha 256) []) (j:=j+1) (by rw [hres,hN];rfl) (by omega)) ?_;simp (maxSteps:=2000000) (disch:=omega) only [go_sem])
  ·have hY:R=some (ha,j+1):=by
    rcases hR with hR|hR
    ·omega
    ·rw [<- hR.2,Fe ha hend]
   (refine vK ?_;with_reducible repeat' first|exact Le.l|apply Sw|intro (K:_->_->Prop) hK|intro h)
   refine AW.aA [8,9] [2,3] (fun m xs o=>∃ k:Nat,xs=[.sl true 1 (dQ (lY ha k)),.v (.int .i64 k)]/\o=[(b3,some (bf ha)),(b2,some [.v (.int .i64 0),.str [],.v (.slice none 0 0)]),(b,some [.str s,.v (.int .i64 (j+1:Nat)),.v (.bool false)])]/\m=256 - k/\k<=256) 256 [(b3,some (bf ha)),(b2,some [.v (.int .i64 0),.str [],.v (.slice none 0 0)]),(b,some [.str s,.v (.int .i64 (j+1:Nat)),.v (.bool false)])] gO ⟨0,?_,rfl,rfl,?_⟩ ?_
   ·rfl
   ·omega
   rintro m xs o ⟨k,rfl,rfl,rfl,hk⟩
   have hl:=wL ha k
   have hs:=qO ha k
   (refine vK ?_;with_reducible repeat' first|exact Le.l|apply Sw|intro (K:_->_->Prop) hK|intro h)
   refine AW.c (fun h=>?_) fun h=>?_
   ·(refine vK ?_;with_reducible repeat' first|exact Le.l|apply Sw|intro (K:_->_->Prop) hK|intro h)
    refine AW.c (fun h=>?_) fun h=>?_
    ·rw [h] at hs
     (refine vK ?_;with_reducible repeat' first|exact Le.l|apply Sw|intro (K:_->_->Prop) hK|intro h)
     exact ⟨_,[_,_],[(b3,some (bf ha)),(b2,some [.v (.int .i64 0),.str [],.v (.slice none 0 0)]),(b,some [.str s,.v (.int .i64 (j+1:Nat)),.v (.bool false)])],by omega,⟨k+1,by rw [hs,if_pos rfl,<- tL _ (by omega)],rfl,rfl,by omega⟩,rfl,by simp (maxSteps:=2000000) (disch:=omega) only [go_sem]⟩
    ·rw [h] at hs
     (refine vK ?_;with_reducible repeat' first|exact Le.l|apply Sw|intro (K:_->_->Prop) hK|intro h)
     exact ⟨_,[_,_],[(b3,some (bf ha)),(b2,some [.v (.int .i64 0),.str [],.v (.slice none 0 0)]),(b,some [.str s,.v (.int .i64 (j+1:Nat)),.v (.bool false)])],by omega,⟨k+1,by rw [hs];simp,rfl,rfl,by omega⟩,rfl,by simp (maxSteps:=2000000) (disch:=omega) only [go_sem]⟩
   ·(refine vK ?_;with_reducible repeat' first|exact Le.l|apply Sw|intro (K:_->_->Prop) hK|intro h)
    have hk2:k=256:=by omega
    subst hk2
    (refine AW.ret (aJ.imp (Imp.jU (b:=b2) 3 [.v (.int .i64 1),.str (lY ha 256)] [] (by simp (maxSteps:=2000000) (disch:=omega) only [go_sem]) ?_));simp (maxSteps:=2000000) (disch:=omega) only [go_sem];refine aJ.dS rfl (RdQ.yes (p:=.mk 1 (lY ha 256) []) (j:=j+1) (by rw [hres,hY];rfl) (by omega)) ?_;simp (maxSteps:=2000000) (disch:=omega) only [go_sem])
end Go.Proofs
namespace Go.Dt
open Go.Ab
theorem Jc{s:Str}{i:Nat}(h1:dN s i 46=false)(h2:dN s i 91=true):jD s i=vJ s (i+1):=by
 rw [Cn h1 h2,vJ];rfl
theorem Li{s:Str}{i:Nat}(h1:dN s i 46=false)(h2:dN s i 91=false)(h:i<s.length/\((ltI (at8 s i)=true\/mB (at8 s i)=true)\/at8 s i=45)):jD s i=some (oM ((s.take (i+1)).drop i),i+1):=by
 rw [jD,if_neg (by rw [h1];simp),if_neg (by rw [h2];simp),if_pos]
 simp only [Bool.and_eq_true,Bool.or_eq_true,decide_eq_true_eq,beq_iff_eq];exact h
theorem F2{s:Str}{i:Nat}(h1:dN s i 46=false)(h2:dN s i 91=false)(hi:i<s.length)(h:(ltI (at8 s i)=false/\mB (at8 s i)=false)/\¬ at8 s i=45):jD s i=none:=by
 rw [jD,if_neg (by rw [h1];simp),if_neg (by rw [h2];simp),if_neg]
 simp [h]
theorem PF{s:Str}{i:Nat}{c d:Int}(h:dN s i c=true)(hne:¬ c=d):dN s i d=false:=by
 have:=cv.1 h
 exact rO fun _ e=>hne (this.2.symm.trans e)
end Go.Dt
namespace Go.Proofs
open Go.Ab Go.Dt
section
theorem Mp(n:Nat)(halt:∀ (b:Nat) (s:Str) (i:Nat),gz lim Tryz.prog 277 [(b,some [.str s,.v (.int .i64 i),.v (.bool false)])] [.ptr b 0] (RdQ b s i (gQ s i)) (i<=s.length/\s.length<=30/\s.length - i<n))(b:Nat)(s:Str)(i:Nat) :
  gz lim Tryz.prog 298 [(b,some [.str s,.v (.int .i64 i),.v (.bool false)])] [.ptr b 0] (RdQ b s i (ji s i)) (i<s.length/\s.length<=30/\s.length - i<n+1):=by
 refine gz.gA (aM 298) Tryz.func298 rfl rfl fun hp=>(?_);rw [Tryz.ntmps298]
 (refine vK ?_;with_reducible repeat' first|exact Le.l|apply Sw|intro (K:_->_->Prop) hK|intro h)
 rename_i b2
 refine AW.c (fun h=>?_) fun h=>?_
 ·simp only [h,cond_true]
  have hlt:=cv.1 h
  have Iy:=xh h
  have MI:=fun p j=>xg (p:=p) (j:=j) h
  have MH:=fun p j=>xe (p:=p) (j:=j) h
  (refine vK ?_;with_reducible repeat' first|exact Le.l|apply Sw|intro (K:_->_->Prop) hK|intro h)
  refine GK.rd (fun p j hq hj=>?_) (fun p j hq hj=>?_)
  ·(refine vK ?_;with_reducible repeat' first|exact Le.l|apply Sw|intro (K:_->_->Prop) hK|intro h)
   refine AW.c (fun h=>?_) fun h=>?_
   ·simp only [h,cond_false]
    (refine vK ?_;with_reducible repeat' first|exact Le.l|apply Sw|intro (K:_->_->Prop) hK|intro h)
    (refine AW.ret (aJ.imp (Imp.ez (b:=b2) (by simp (maxSteps:=2000000) (disch:=omega) only [go_sem];rfl) ?_));simp (maxSteps:=2000000) (disch:=omega) only [go_sem];refine aJ.dS rfl (RdQ.no p (j:=j) (MH p j hq h) (by omega)) ?_;simp (maxSteps:=2000000) (disch:=omega) only [go_sem])
   ·simp only [h,cond_true]
    have hl2:=cv.1 h
    (refine vK ?_;with_reducible repeat' first|exact Le.l|apply Sw|intro (K:_->_->Prop) hK|intro h)
    (refine AW.ret (aJ.imp (Imp.ez (b:=b2) (by simp (maxSteps:=2000000) (disch:=omega) only [go_sem];rfl) ?_));simp (maxSteps:=2000000) (disch:=omega) only [go_sem];refine aJ.dS rfl (RdQ.yes (p:=p) (j:=j+1) (MI p j hq h) (by omega)) ?_;simp (maxSteps:=2000000) (disch:=omega) only [go_sem])
  ·(refine vK ?_;with_reducible repeat' first|exact Le.l|apply Sw|intro (K:_->_->Prop) hK|intro h)
   (refine AW.i rfl (fun h=>?_) (fun h=>?_)<;>try simp only [hC,reduceCtorEq] at h)
   (refine vK ?_;with_reducible repeat' first|exact Le.l|apply Sw|intro (K:_->_->Prop) hK|intro h)
   (refine AW.ret (aJ.imp (Imp.ez (b:=b2) (by simp (maxSteps:=2000000) (disch:=omega) only [go_sem];rfl) ?_));simp (maxSteps:=2000000) (disch:=omega) only [go_sem];refine aJ.dS rfl (RdQ.no p (j:=j) (Iy hq) (by omega)) ?_;simp (maxSteps:=2000000) (disch:=omega) only [go_sem])
 simp only [h,cond_false]
 have oX:=zf hp.1 h
 (refine vK ?_;with_reducible repeat' first|exact Le.l|apply Sw|intro (K:_->_->Prop) hK|intro h)
 refine AW.c (fun h=>?_) fun h=>?_
 ·have AU:=Jc (PF h (by decide)) h
  have hlt:=cv.1 h
  simp only [h,cond_true]
  (refine vK ?_;with_reducible repeat' first|exact Le.l|apply Sw|intro (K:_->_->Prop) hK|intro h)
  refine GK.rdB fun p j bad hq hj=>?_
  (refine vK ?_;with_reducible repeat' first|exact Le.l|apply Sw|intro (K:_->_->Prop) hK|intro h)
  rcases hq with ⟨rfl,hq⟩|⟨rfl,hq⟩
  ·(refine AW.ret (aJ.imp (Imp.ez (b:=b2) (by simp (maxSteps:=2000000) (disch:=omega) only [go_sem];rfl) ?_));simp (maxSteps:=2000000) (disch:=omega) only [go_sem];refine aJ.dS rfl (RdQ.yes (p:=p) (j:=j) (by rw [oX,AU,hq]) (by omega)) ?_;simp (maxSteps:=2000000) (disch:=omega) only [go_sem])
  ·(refine AW.ret (aJ.imp (Imp.ez (b:=b2) (by simp (maxSteps:=2000000) (disch:=omega) only [go_sem];rfl) ?_));simp (maxSteps:=2000000) (disch:=omega) only [go_sem];refine aJ.dS rfl (RdQ.no p (j:=j) (by rw [oX,AU,hq]) (by omega)) ?_;simp (maxSteps:=2000000) (disch:=omega) only [go_sem])
 simp only [h,cond_false]
 have hnc:=h
 (refine vK ?_;with_reducible repeat' first|exact Le.l|apply Sw|intro (K:_->_->Prop) hK|intro h)
 refine AW.c (fun h=>?_) fun h=>?_
 ·have MO:=Cm h
  have hlt:=cv.1 h
  simp only [h,cond_true]
  (refine vK ?_;with_reducible repeat' first|exact Le.l|apply Sw|intro (K:_->_->Prop) hK|intro h)
  (refine AW.ret (aJ.imp (Imp.jU (b:=b2) 3 [.v (.int .i64 1),.str (o7 (fun c=>decide (32<=c) && decide (c<127)))] [] (by simp (maxSteps:=2000000) (disch:=omega) only [go_sem]) ?_));simp (maxSteps:=2000000) (disch:=omega) only [go_sem];refine aJ.dS rfl (RdQ.yes (p:=.mk 1 (o7 (fun c=>decide (32<=c) && decide (c<127))) []) (j:=i+1) (by rw [oX,MO,any_eq,oM]) (by omega)) ?_;simp (maxSteps:=2000000) (disch:=omega) only [go_sem])
 simp only [h,cond_false]
 have hnd:=h
 (refine vK ?_;with_reducible repeat' first|exact Le.l|apply Sw|intro (K:_->_->Prop) hK|intro h)
 refine AW.c (fun h=>?_) fun h=>?_
 ·(refine vK ?_;with_reducible repeat' first|exact Le.l|apply Sw|intro (K:_->_->Prop) hK|intro h)
  (refine AW.ret (aJ.imp (Imp.jU (b:=b2) 3 [.v (.int .i64 1),.str ((s.take (i+1)).drop i)] [] (by simp (maxSteps:=2000000) (disch:=omega) only [go_sem]) ?_));simp (maxSteps:=2000000) (disch:=omega) only [go_sem];refine aJ.dS rfl (RdQ.yes (p:=.mk 1 ((s.take (i+1)).drop i) []) (j:=i+1) (by rw [oX,Li hnd hnc h,oM]) (by omega)) ?_;simp (maxSteps:=2000000) (disch:=omega) only [go_sem])
 ·(refine vK ?_;with_reducible repeat' first|exact Le.l|apply Sw|intro (K:_->_->Prop) hK|intro h)
  (refine AW.ret (aJ.imp (Imp.jU (b:=b2) 3 [.v (.int .i64 0),.str []] [] (by simp (maxSteps:=2000000) (disch:=omega) only [go_sem]) ?_));simp (maxSteps:=2000000) (disch:=omega) only [go_sem];refine aJ.dS rfl (RdQ.no (.mk 0 [] []) (j:=i) (by rw [oX,F2 hnd hnc hp.1 (h hp.1)]) (by omega)) ?_;simp (maxSteps:=2000000) (disch:=omega) only [go_sem])
theorem Pu(n:Nat)(Ue:∀ (b:Nat) (s:Str) (i:Nat),gz lim Tryz.prog 298 [(b,some [.str s,.v (.int .i64 i),.v (.bool false)])] [.ptr b 0] (RdQ b s i (ji s i)) (i<s.length/\s.length<=30/\s.length - i<n))(b:Nat)(s:Str)(i:Nat) :
  gz lim Tryz.prog 288 [(b,some [.str s,.v (.int .i64 i),.v (.bool false)])] [.ptr b 0] (RdQ b s i (gD s i [])) (i<=s.length/\s.length<=30/\s.length - i<n):=by
 refine gz.gA (aM 288) Tryz.func288 rfl rfl fun hp=>(?_);rw [Tryz.ntmps288]
 (refine vK ?_;with_reducible repeat' first|exact Le.l|apply Sw|intro (K:_->_->Prop) hK|intro h)
 rename_i b2
 refine AW.aA [3] [0,2] (fun m xs o=>∃ (l:List bq) (j:Nat) (bad:Bool),xs=[.sl true 3 (l.map bO)]/\o=[(b2,some [.v (.int .i64 0),.str [],.v (.slice none 0 0)]),(b,some [.str s,.v (.int .i64 j),.v (.bool bad)])]/\m=(if bad then 0 else s.length - j+1)/\j<=s.length/\l.length<=31/\i<=j/\(bad=false->l.length<=j/\gD s j l=gD s i [])/\(bad=true->gD s i []=none)) _ [(b2,some [.v (.int .i64 0),.str [],.v (.slice none 0 0)]),(b,some [.str s,.v (.int .i64 i),.v (.bool false)])] (ja (Ne.symm h) rfl rfl) ⟨[],i,false,?_,rfl,rfl,?_,?_,?_,?_,?_⟩ ?_
 ·rfl
 ·omega
 ·simp
 ·omega
 ·simp
 ·simp
 rintro m xs o ⟨l,j,bad,rfl,rfl,rfl,hj,hl0,hij,hR,hN⟩
 cases bad with
 | true =>
  have hN:=hN rfl
  (refine vK ?_;with_reducible repeat' first|exact Le.l|apply Sw|intro (K:_->_->Prop) hK|intro h)
  (refine AW.i rfl (fun h=>?_) (fun h=>?_)<;>try simp only [hC,reduceCtorEq] at h)
  refine AW.imp (Imp.frz 3 ?_)
  simp (maxSteps:=2000000) (disch:=omega) only [go_sem]
  (refine vK ?_;with_reducible repeat' first|exact Le.l|apply Sw|intro (K:_->_->Prop) hK|intro h)
  refine AW.c (fun h=>?_) fun h=>?_
  ·(refine vK ?_;with_reducible repeat' first|exact Le.l|apply Sw|intro (K:_->_->Prop) hK|intro h)
   (refine AW.ret (aJ.imp (Imp.ez (b:=b2) (by simp (maxSteps:=2000000) (disch:=omega) only [go_sem];rfl) ?_));simp (maxSteps:=2000000) (disch:=omega) only [go_sem];refine aJ.dS rfl (RdQ.no (at_ l 0) (j:=j) hN (by omega)) ?_;simp (maxSteps:=2000000) (disch:=omega) only [go_sem])
  ·(refine vK ?_;with_reducible repeat' first|exact Le.l|apply Sw|intro (K:_->_->Prop) hK|intro h)
   (refine AW.ret (aJ.imp (Imp.ez (b:=b2) (by simp (maxSteps:=2000000) (disch:=omega) only [go_sem];rfl) ?_));simp (maxSteps:=2000000) (disch:=omega) only [go_sem];refine aJ.dS rfl (RdQ.no (.mk 2 [] l) (j:=j) hN (by omega)) ?_;simp (maxSteps:=2000000) (disch:=omega) only [go_sem])
 | false =>
  have hR:=hR rfl
  (refine vK ?_;with_reducible repeat' first|exact Le.l|apply Sw|intro (K:_->_->Prop) hK|intro h)
  refine AW.c (fun h=>?_) fun h=>?_
  ·have hc:=h
   (refine vK ?_;with_reducible repeat' first|exact Le.l|apply Sw|intro (K:_->_->Prop) hK|intro h)
   refine GK.rd (fun p k hq hk=>?_) (fun p k hq hk=>?_)
   ·have hb:=xK hq
    have hgo:∀ pp jj,post s p k=(pp,jj)->gD s jj (l++[pp])=gD s i []:=fun pp jj e=>by
     rw [<- hR.2,<- Gv l hc.1.1 hc.1.2 hc.2 (by rw [kN,hq];simp only [e])]
    (refine vK ?_;with_reducible repeat' first|exact Le.l|apply Sw|intro (K:_->_->Prop) hK|intro h)
    rename_i b4
    refine AW.c (fun h=>?_) fun h=>?_
    ·simp only [h,cond_true]
     have hl2:=cv.1 h
     have hpo:=hgo (.mk 4 [] [p]) (k+1) (by rw [post];simp [*])
     (refine vN ?_;with_reducible repeat' first|exact Le.l|apply Sw|intro (K:_->_->Prop) hK|intro h)
     refine AW.LO fun K hK=>?_
     simp (maxSteps:=2000000) (disch:=omega) only [go_sem]
     (refine vN ?_;with_reducible repeat' first|exact Le.l|apply Sw|intro (K:_->_->Prop) hK|intro h)
     refine AW.imp (Imp.ez (b:=b4) (by simp (maxSteps:=2000000) (disch:=omega) only [go_sem];rfl) ?_)
     simp (maxSteps:=2000000) (disch:=omega) only [go_sem]
     (refine vK ?_;with_reducible repeat' first|exact Le.l|apply Sw|intro (K:_->_->Prop) hK|intro h)
     exact ⟨_,[_],[(b2,some [.v (.int .i64 0),.str [],.v (.slice none 0 0)]),(b,some [.str s,.v (.int .i64 (k+1:Nat)),.v (.bool false)])],by simp;omega,⟨l++[.mk 4 [] [p]],k+1,false,rfl,rfl,rfl,by omega,by simp;omega,by omega,fun _=>⟨by simp;omega,hpo⟩,by simp⟩,by simp [dL,lr,je,jf],by simp (maxSteps:=2000000) (disch:=omega) only [go_sem]⟩
    simp only [h,cond_false]
    (refine vK ?_;with_reducible repeat' first|exact Le.l|apply Sw|intro (K:_->_->Prop) hK|intro h)
    refine AW.c (fun h=>?_) fun h=>?_
    ·simp only [h,cond_true]
     have hl2:=cv.1 h
     have hpo:=hgo (.mk 2 [] [p,.mk 4 [] [p]]) (k+1) (by rw [post];simp [*])
     (refine vN ?_;with_reducible repeat' first|exact Le.l|apply Sw|intro (K:_->_->Prop) hK|intro h)
     refine AW.I6 fun K hK=>?_
     simp (maxSteps:=2000000) (disch:=omega) only [go_sem]
     (refine vN ?_;with_reducible repeat' first|exact Le.l|apply Sw|intro (K:_->_->Prop) hK|intro h)
     refine AW.imp (Imp.ez (b:=b4) (by simp (maxSteps:=2000000) (disch:=omega) only [go_sem];rfl) ?_)
     simp (maxSteps:=2000000) (disch:=omega) only [go_sem]
     (refine vK ?_;with_reducible repeat' first|exact Le.l|apply Sw|intro (K:_->_->Prop) hK|intro h)
     exact ⟨_,[_],[(b2,some [.v (.int .i64 0),.str [],.v (.slice none 0 0)]),(b,some [.str s,.v (.int .i64 (k+1:Nat)),.v (.bool false)])],by simp;omega,⟨l++[.mk 2 [] [p,.mk 4 [] [p]]],k+1,false,rfl,rfl,rfl,by omega,by simp;omega,by omega,fun _=>⟨by simp;omega,hpo⟩,by simp⟩,by simp [dL,lr,je,jf],by simp (maxSteps:=2000000) (disch:=omega) only [go_sem]⟩
    simp only [h,cond_false]
    (refine vK ?_;with_reducible repeat' first|exact Le.l|apply Sw|intro (K:_->_->Prop) hK|intro h)
    refine AW.c (fun h=>?_) fun h=>?_
    ·simp only [h,cond_true]
     have hl2:=cv.1 h
     have hpo:=hgo (.mk 5 [] [p]) (k+1) (by rw [post];simp [*])
     (refine vN ?_;with_reducible repeat' first|exact Le.l|apply Sw|intro (K:_->_->Prop) hK|intro h)
     refine AW.LO fun K hK=>?_
     simp (maxSteps:=2000000) (disch:=omega) only [go_sem]
     (refine vN ?_;with_reducible repeat' first|exact Le.l|apply Sw|intro (K:_->_->Prop) hK|intro h)
     refine AW.imp (Imp.ez (b:=b4) (by simp (maxSteps:=2000000) (disch:=omega) only [go_sem];rfl) ?_)
     simp (maxSteps:=2000000) (disch:=omega) only [go_sem]
     (refine vK ?_;with_reducible repeat' first|exact Le.l|apply Sw|intro (K:_->_->Prop) hK|intro h)
     exact ⟨_,[_],[(b2,some [.v (.int .i64 0),.str [],.v (.slice none 0 0)]),(b,some [.str s,.v (.int .i64 (k+1:Nat)),.v (.bool false)])],by simp;omega,⟨l++[.mk 5 [] [p]],k+1,false,rfl,rfl,rfl,by omega,by simp;omega,by omega,fun _=>⟨by simp;omega,hpo⟩,by simp⟩,by simp [dL,lr,je,jf],by simp (maxSteps:=2000000) (disch:=omega) only [go_sem]⟩
    ·simp only [h,cond_false]
     have hpo:=hgo p k (by rw [post];simp [*])
     (refine vK ?_;with_reducible repeat' first|exact Le.l|apply Sw|intro (K:_->_->Prop) hK|intro h)
     exact ⟨_,[_],[(b2,some [.v (.int .i64 0),.str [],.v (.slice none 0 0)]),(b,some [.str s,.v (.int .i64 (k:Nat)),.v (.bool false)])],by simp;omega,⟨l++[p],k,false,rfl,rfl,rfl,by omega,by simp;omega,by omega,fun _=>⟨by simp;omega,hpo⟩,by simp⟩,by simp [dL,lr,je,jf],by simp (maxSteps:=2000000) (disch:=omega) only [go_sem]⟩
   ·have hN':gD s i []=none:=by rw [<- hR.2,BK l hc.1.1 hc.1.2 hc.2 (by rw [kN,hq])]
    (refine vK ?_;with_reducible repeat' first|exact Le.l|apply Sw|intro (K:_->_->Prop) hK|intro h)
    (refine AW.i rfl (fun h=>?_) (fun h=>?_)<;>try simp only [hC,reduceCtorEq] at h)
    (refine vK ?_;with_reducible repeat' first|exact Le.l|apply Sw|intro (K:_->_->Prop) hK|intro h)
    (refine AW.i rfl (fun h=>?_) (fun h=>?_)<;>try simp only [hC,reduceCtorEq] at h)
    (refine vK ?_;with_reducible repeat' first|exact Le.l|apply Sw|intro (K:_->_->Prop) hK|intro h)
    (refine AW.i rfl (fun h=>?_) (fun h=>?_)<;>try simp only [hC,reduceCtorEq] at h)
    (refine vK ?_;with_reducible repeat' first|exact Le.l|apply Sw|intro (K:_->_->Prop) hK|intro h)
    exact ⟨_,[_],[(b2,some [.v (.int .i64 0),.str [],.v (.slice none 0 0)]),(b,some [.str s,.v (.int .i64 k),.v (.bool true)])],by simp,⟨l++[p],k,true,rfl,rfl,rfl,by omega,by simp;omega,by omega,by simp,fun _=>hN'⟩,by simp [dL],by simp (maxSteps:=2000000) (disch:=omega) only [go_sem]⟩
  ·refine AW.imp (Imp.frz 3 ?_)
   simp (maxSteps:=2000000) (disch:=omega) only [go_sem]
   (refine vK ?_;with_reducible repeat' first|exact Le.l|apply Sw|intro (K:_->_->Prop) hK|intro h)
   refine AW.c (fun h=>?_) fun h=>?_
   ·(refine vK ?_;with_reducible repeat' first|exact Le.l|apply Sw|intro (K:_->_->Prop) hK|intro h)
    (refine AW.ret (aJ.imp (Imp.ez (b:=b2) (by simp (maxSteps:=2000000) (disch:=omega) only [go_sem];rfl) ?_));simp (maxSteps:=2000000) (disch:=omega) only [go_sem];refine aJ.dS rfl (RdQ.yes (p:=at_ l 0) (j:=j) (by rw [<- hR.2,qx l (by omega),mkSeq,if_pos (by omega)]) (by omega)) ?_;simp (maxSteps:=2000000) (disch:=omega) only [go_sem])
   ·(refine vK ?_;with_reducible repeat' first|exact Le.l|apply Sw|intro (K:_->_->Prop) hK|intro h)
    (refine AW.ret (aJ.imp (Imp.ez (b:=b2) (by simp (maxSteps:=2000000) (disch:=omega) only [go_sem];rfl) ?_));simp (maxSteps:=2000000) (disch:=omega) only [go_sem];refine aJ.dS rfl (RdQ.yes (p:=.mk 2 [] l) (j:=j) (by rw [<- hR.2,qx l (by omega),mkSeq,if_neg (by omega)]) (by omega)) ?_;simp (maxSteps:=2000000) (disch:=omega) only [go_sem])
end
section
theorem Pv(n:Nat)(WI:∀ (b:Nat) (s:Str) (i:Nat),gz lim Tryz.prog 288 [(b,some [.str s,.v (.int .i64 i),.v (.bool false)])] [.ptr b 0] (RdQ b s i (gD s i [])) (i<=s.length/\s.length<=30/\s.length - i<n))(b:Nat)(s:Str)(i:Nat) :
  gz lim Tryz.prog 277 [(b,some [.str s,.v (.int .i64 i),.v (.bool false)])] [.ptr b 0] (RdQ b s i (gQ s i)) (i<=s.length/\s.length<=30/\s.length - i<n):=by
 refine gz.gA (aM 277) Tryz.func277 rfl rfl fun hp=>(?_);rw [Tryz.ntmps277]
 (refine vK ?_;with_reducible repeat' first|exact Le.l|apply Sw|intro (K:_->_->Prop) hK|intro h)
 rename_i b2
 refine GK.rdB fun p j bad hq hj=>?_
 (refine vK ?_;with_reducible repeat' first|exact Le.l|apply Sw|intro (K:_->_->Prop) hK|intro h)
 refine AW.aA [3] [0,2] (fun m xs o=>∃ (l:List bq) (j:Nat) (bad:Bool),xs=[.sl true 3 (l.map bO)]/\o=[(b2,some [.v (.int .i64 0),.str [],.v (.slice none 0 0)]),(b,some [.str s,.v (.int .i64 j),.v (.bool bad)])]/\m=s.length - j/\j<=s.length/\l.length<=j+1/\i<=j/\(bad=false->kO s j l=gQ s i)/\(bad=true->gQ s i=none)) _ [(b2,some [.v (.int .i64 0),.str [],.v (.slice none 0 0)]),(b,some [.str s,.v (.int .i64 j),.v (.bool bad)])] (ja (Ne.symm h) rfl rfl) ⟨[p],j,bad,?_,rfl,rfl,?_,?_,?_,?_,?_⟩ ?_
 ·simp [T,dL]
 ·omega
 ·simp
 ·omega
 ·rintro rfl
  rcases hq with ⟨_,hq⟩|⟨h,_⟩
  ·exact (Gx hp.1 hq).symm
  ·cases h
 ·rintro rfl
  rcases hq with ⟨h,_⟩|⟨_,hq⟩
  ·cases h
  ·exact BL hq
 clear hq hj bad
 rintro m xs o ⟨l,j,bad,rfl,rfl,rfl,hj,hl,hij,hR,hN⟩
 cases bad with
 | true =>
  have hN:=hN rfl
  (refine vK ?_;with_reducible repeat' first|exact Le.l|apply Sw|intro (K:_->_->Prop) hK|intro h)
  (refine AW.i rfl (fun h=>?_) (fun h=>?_)<;>try simp only [hC,reduceCtorEq] at h)
  refine AW.imp (Imp.frz 3 ?_)
  simp (maxSteps:=2000000) (disch:=omega) only [go_sem]
  (refine vK ?_;with_reducible repeat' first|exact Le.l|apply Sw|intro (K:_->_->Prop) hK|intro h)
  refine AW.c (fun h=>?_) fun h=>?_
  ·(refine vK ?_;with_reducible repeat' first|exact Le.l|apply Sw|intro (K:_->_->Prop) hK|intro h)
   (refine AW.ret (aJ.imp (Imp.ez (b:=b2) (by simp (maxSteps:=2000000) (disch:=omega) only [go_sem];rfl) ?_));simp (maxSteps:=2000000) (disch:=omega) only [go_sem];refine aJ.dS rfl (RdQ.no (at_ l 0) (j:=j) hN (by omega)) ?_;simp (maxSteps:=2000000) (disch:=omega) only [go_sem])
  ·(refine vK ?_;with_reducible repeat' first|exact Le.l|apply Sw|intro (K:_->_->Prop) hK|intro h)
   (refine AW.ret (aJ.imp (Imp.ez (b:=b2) (by simp (maxSteps:=2000000) (disch:=omega) only [go_sem];rfl) ?_));simp (maxSteps:=2000000) (disch:=omega) only [go_sem];refine aJ.dS rfl (RdQ.no (.mk 3 [] l) (j:=j) hN (by omega)) ?_;simp (maxSteps:=2000000) (disch:=omega) only [go_sem])
 | false =>
  have hR:=hR rfl
  (refine vK ?_;with_reducible repeat' first|exact Le.l|apply Sw|intro (K:_->_->Prop) hK|intro h)
  refine AW.c (fun h=>?_) fun h=>?_
  ·simp only [h,cond_true]
   have hlt:=cv.1 h
   (refine vK ?_;with_reducible repeat' first|exact Le.l|apply Sw|intro (K:_->_->Prop) hK|intro h)
   refine GK.rd (fun p k hq hk=>?_) (fun p k hq hk=>?_)
   ·(refine vK ?_;with_reducible repeat' first|exact Le.l|apply Sw|intro (K:_->_->Prop) hK|intro h)
    exact ⟨_,[_],[(b2,some [.v (.int .i64 0),.str [],.v (.slice none 0 0)]),(b,some [.str s,.v (.int .i64 k),.v (.bool false)])],by omega,⟨l++[p],k,false,rfl,rfl,rfl,by omega,by simp;omega,by omega,fun _=>by rw [<- hR,DJ l h hq],by simp⟩,by simp [dL],by simp (maxSteps:=2000000) (disch:=omega) only [go_sem]⟩
   ·(refine vK ?_;with_reducible repeat' first|exact Le.l|apply Sw|intro (K:_->_->Prop) hK|intro h)
    exact ⟨_,[_],[(b2,some [.v (.int .i64 0),.str [],.v (.slice none 0 0)]),(b,some [.str s,.v (.int .i64 k),.v (.bool true)])],by omega,⟨l++[p],k,true,rfl,rfl,rfl,by omega,by simp;omega,by omega,by simp,fun _=>by rw [<- hR,zh l h hq]⟩,by simp [dL],by simp (maxSteps:=2000000) (disch:=omega) only [go_sem]⟩
  ·simp only [h,cond_false]
   have hst:=zg l h
   refine AW.imp (Imp.frz 3 ?_)
   simp (maxSteps:=2000000) (disch:=omega) only [go_sem]
   (refine vK ?_;with_reducible repeat' first|exact Le.l|apply Sw|intro (K:_->_->Prop) hK|intro h)
   refine AW.c (fun h=>?_) fun h=>?_
   ·(refine vK ?_;with_reducible repeat' first|exact Le.l|apply Sw|intro (K:_->_->Prop) hK|intro h)
    (refine AW.ret (aJ.imp (Imp.ez (b:=b2) (by simp (maxSteps:=2000000) (disch:=omega) only [go_sem];rfl) ?_));simp (maxSteps:=2000000) (disch:=omega) only [go_sem];refine aJ.dS rfl (RdQ.yes (p:=at_ l 0) (j:=j) (by rw [<- hR,hst,sR,if_pos (by omega)]) (by omega)) ?_;simp (maxSteps:=2000000) (disch:=omega) only [go_sem])
   ·(refine vK ?_;with_reducible repeat' first|exact Le.l|apply Sw|intro (K:_->_->Prop) hK|intro h)
    (refine AW.ret (aJ.imp (Imp.ez (b:=b2) (by simp (maxSteps:=2000000) (disch:=omega) only [go_sem];rfl) ?_));simp (maxSteps:=2000000) (disch:=omega) only [go_sem];refine aJ.dS rfl (RdQ.yes (p:=.mk 3 [] l) (j:=j) (by rw [<- hR,hst,sR,if_neg (by omega)]) (by omega)) ?_;simp (maxSteps:=2000000) (disch:=omega) only [go_sem])
theorem BU:∀ (n:Nat) (b:Nat) (s:Str) (i:Nat),gz lim Tryz.prog 277 [(b,some [.str s,.v (.int .i64 i),.v (.bool false)])] [.ptr b 0] (RdQ b s i (gQ s i)) (i<=s.length/\s.length<=30/\s.length - i<n)
 | 0,_,_,_=>⟨(aM 277),fun h=>absurd h.2.2 (Nat.not_lt_zero _)⟩
 | n+1,b,s,i=>Pv (n+1) (Pu (n+1) (Mp n (BU n))) b s i
instance X6(b:Nat)(s:Str):gz lim Tryz.prog 277 [(b,some [.str s,.v (.int .i64 0),.v (.bool false)])] [.ptr b 0] (RdQ b s 0 (gQ s 0)) (s.length<=30):=⟨(aM 277),fun h=>(BU 31 b s 0).out ⟨by omega,h,by omega⟩⟩
instance Ny(s:Str):Ctr lim Tryz.prog 261 [] [.str s] (.tup [.agg [.v (.int .i64 (eK s).1.fOp),.str (eK s).1.cg,.sl false 3 ((eK s).1.af.map bO)],.v (.bool (eK s).2)]) [] True:=by
 refine Ctr.bd Tryz.func261 Tryz.ntmps261 rfl rfl fun hp=>?_
 refine AW.fact 0 fun hf=>?_
 simp (disch:=omega) only [go_sem,Nat.reduceBEq] at hf
 by_cases hlen:30<s.length
 ·have hd:decide (30<(s.length:Int))=true:=by simp;omega
  have e:=ze (s:=s) (by omega)
  (repeat' first|(with_reducible first|refine Z ?_|refine Y ?_|(refine hK _ _ ?_;clear hK K)|refine And.intro ?_ ?_|exact Ct|intro (K:_->_->Prop) hK|(refine gI fun hg=>?_;try simp only [hC,reduceCtorEq] at hg;try simp only [hg]))|((with_reducible refine E ?_;repeat refine Y ?_);refine eF rfl ?_)|simp (disch:=omega) only [go_sem,hd]|(with_reducible intro hg;try simp only [hC,reduceCtorEq] at hg)|exact Cl|fail)
  rename_i b2 b3
  (refine AW.i rfl (fun h=>?_) (fun h=>?_)<;>try simp only [hC,reduceCtorEq] at h)
  (refine vX ?_;with_reducible repeat' first|exact Le.l|apply Sw|intro (K:_->_->Prop) hK|intro h)
  (refine AW.ret (aJ.imp (Imp.jU (b:=b2) 3 [.v (.int .i64 0),.str []] [] (by simp (maxSteps:=2000000) (disch:=omega) only [go_sem]) ?_));simp (maxSteps:=2000000) (disch:=omega) only [go_sem];refine aJ.fin rfl ?_;simp (maxSteps:=2000000) (disch:=omega) only [go_sem,e,oN,lr,je,jf])
 ·have hd:decide (30<(s.length:Int))=false:=by simp;omega
  (repeat' first|(with_reducible first|refine Z ?_|refine Y ?_|(refine hK _ _ ?_;clear hK K)|refine And.intro ?_ ?_|exact Ct|intro (K:_->_->Prop) hK|(refine gI fun hg=>?_;try simp only [hC,reduceCtorEq] at hg;try simp only [hg]))|((with_reducible refine E ?_;repeat refine Y ?_);refine eF rfl ?_)|simp (disch:=omega) only [go_sem,hd]|(with_reducible intro hg;try simp only [hC,reduceCtorEq] at hg)|exact Cl|fail)
  rename_i b2 b3
  (refine AW.i rfl (fun h=>?_) (fun h=>?_)<;>try simp only [hC,reduceCtorEq] at h)
  (refine vK ?_;with_reducible repeat' first|exact Le.l|apply Sw|intro (K:_->_->Prop) hK|intro h)
  refine GK.rd (fun p j hq hj=>?_) (fun p j hq hj=>?_)
  ·(refine vK ?_;with_reducible repeat' first|exact Le.l|apply Sw|intro (K:_->_->Prop) hK|intro h)
   refine AW.c (fun h=>?_) fun h=>?_
   ·have e:=za hq (by omega)
    (refine vX ?_;with_reducible repeat' first|exact Le.l|apply Sw|intro (K:_->_->Prop) hK|intro h)
    (refine AW.ret (aJ.imp (Imp.jU (b:=b2) 3 [.v (.int .i64 0),.str []] [] (by simp (maxSteps:=2000000) (disch:=omega) only [go_sem]) ?_));simp (maxSteps:=2000000) (disch:=omega) only [go_sem];refine aJ.fin rfl ?_;simp (maxSteps:=2000000) (disch:=omega) only [go_sem,e,oN,lr,je,jf])
   ·have e:=BJ (by omega) hq (by omega)
    (repeat' first|(with_reducible first|refine Z ?_|refine Y ?_|(refine hK _ _ ?_;clear hK K)|refine And.intro ?_ ?_|exact Ct|intro (K:_->_->Prop) hK|(refine gI fun hg=>?_;try simp only [hC,reduceCtorEq] at hg;try simp only [hg]))|(refine AW.i rfl (fun h=>?_) (fun h=>?_)<;>try simp only [hC,reduceCtorEq] at h)|((with_reducible refine E ?_;repeat refine Y ?_);refine eF rfl ?_)|simp (disch:=omega) only [go_sem,e]|(with_reducible intro hg;try simp only [hC,reduceCtorEq] at hg)|exact Cl|fail)
  ·have e:=zb hq
   (refine vK ?_;with_reducible repeat' first|exact Le.l|apply Sw|intro (K:_->_->Prop) hK|intro h)
   (refine AW.i rfl (fun h=>?_) (fun h=>?_)<;>try simp only [hC,reduceCtorEq] at h)
   (refine vX ?_;with_reducible repeat' first|exact Le.l|apply Sw|intro (K:_->_->Prop) hK|intro h)
   (refine AW.ret (aJ.imp (Imp.jU (b:=b2) 3 [.v (.int .i64 0),.str []] [] (by simp (maxSteps:=2000000) (disch:=omega) only [go_sem]) ?_));simp (maxSteps:=2000000) (disch:=omega) only [go_sem];refine aJ.fin rfl ?_;simp (maxSteps:=2000000) (disch:=omega) only [go_sem,e,oN,lr,je,jf])
instance QE(s:Str):Ctr lim Tryz.prog 245 [] [.str s] (.v (.bool (j8 s))) [] True:=by
 refine Ctr.bd Tryz.func245 Tryz.ntmps245 rfl rfl fun hp=>?_
 have e:=rD s
 (repeat' first|(with_reducible first|refine Z ?_|refine Y ?_|(refine hK _ _ ?_;clear hK K)|refine And.intro ?_ ?_|exact Ct|intro (K:_->_->Prop) hK|(refine gI fun hg=>?_;try simp only [hC,reduceCtorEq] at hg;try simp only [hg]))|(refine AW.i rfl (fun h=>?_) (fun h=>?_)<;>try simp only [hC,reduceCtorEq] at h)|((with_reducible refine E ?_;repeat refine Y ?_);refine eF rfl ?_)|simp (disch:=omega) only [go_sem,e]|(with_reducible intro hg;try simp only [hC,reduceCtorEq] at hg)|exact Cl|fail)
end
end Go.Proofs
