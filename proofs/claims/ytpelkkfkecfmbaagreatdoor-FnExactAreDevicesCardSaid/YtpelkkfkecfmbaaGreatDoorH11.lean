/- Part of a proof. -/
import Derived.Test.YtpelkkfkecfmbaaGreatDoorH10
set_option linter.all false
set_option maxRecDepth 20000
set_option maxHeartbeats 4000000
open Go.Proofs.Tryz
namespace Go.Dt
open Go.Ab
@[go_sem] def lL(a:Int)(b:Str)(c:List bk):(bk.mk a b c).fOp=a:=rfl
@[go_sem] def ja(a:Int)(b:Str)(c:List bk):(bk.mk a b c).bI=b:=rfl
@[go_sem] def jb(a:Int)(b:Str)(c:List bk):(bk.mk a b c).af=c:=rfl
def rdC(s:Str)(i:Nat)(bad:Bool):List AV:=[.str s,.v (.int .i64 i),.v (.bool bad)]
def RdQ(b:Nat)(s:Str)(i:Nat)(r:Option (bk×Nat))(res:AV)(os:Sto):Prop :=
 ∃ p j bad,(bad=false/\r=some (p,j)\/bad=true/\r=none)/\(i<=j/\j<=s.length)/\res=bM p/\os=[(b,some (rdC s j bad))]
def RdQ.yes{b:Nat}{s:Str}{i:Nat}{r:Option (bk×Nat)}{p:bk}{j:Nat}(h:r=some (p,j))(hj:i<=j/\j<=s.length):RdQ b s i r (bM p) [(b,some (rdC s j false))]:=⟨p,j,false,.inl ⟨rfl,h⟩,hj,rfl,rfl⟩
def RdQ.no{b:Nat}{s:Str}{i:Nat}{r:Option (bk×Nat)}(p:bk){j:Nat}(h:r=none)(hj:i<=j/\j<=s.length):RdQ b s i r (bM p) [(b,some (rdC s j true))]:=⟨p,j,true,.inr ⟨rfl,h⟩,hj,rfl,rfl⟩
def GK.rdB{os:Sto}{b:Nat}{c:Option (List AV)}{s:Str}{i:Nat}{r:Option (bk×Nat)}{K:AV->Sto->Prop}(h:∀ p j bad,(bad=false/\r=some (p,j)\/bad=true/\r=none)->i<=j/\j<=s.length->K (bM p) (mergeO os [(b,some (rdC s j bad))])):GK os [(b,c)] (RdQ b s i r) (K:=⟨K⟩):=by refine GK.intro ?_;rintro res os' ⟨p,j,bad,hr,hj,rfl,rfl⟩;exact ⟨rfl,h p j bad hr hj⟩
def GK.rd{os:Sto}{b:Nat}{c:Option (List AV)}{s:Str}{i:Nat}{r:Option (bk×Nat)}{K:AV->Sto->Prop}(h1:∀ p j,r=some (p,j)->i<=j/\j<=s.length->K (bM p) (mergeO os [(b,some (rdC s j false))]))(h2:∀ p j,r=none->i<=j/\j<=s.length->K (bM p) (mergeO os [(b,some (rdC s j true))])):GK os [(b,c)] (RdQ b s i r) (K:=⟨K⟩):=by
 refine GK.rdB ?_;rintro p j bad (⟨rfl,h⟩|⟨rfl,h⟩) hj
 ·exact h1 p j h hj
 ·exact h2 p j h hj
def EndsG.dK{L:eaa}{P:Program}{n:Nat}{fn:Func}{t:daa}{o o':Sto}{rs:List ResultVar}{res:AV}{Q:AV->Sto->Prop}(hr:fn.results=rs.toArray)(hQ:Q res o')(h:pj P n rs t o [] (fun xs os=>qD xs=res/\jk o' os)):EndsG L P fn ⟨n,t,o⟩ Q:=by have:=EndsG.fin (L:=L) hr h;intro B F0 w0 a w hd;obtain ⟨v,sI,os',F',own',fs',fp,h3,⟨rfl,rfl⟩,h5⟩:=this B F0 w0 a w hd;exact ⟨v,sI,os',F',own',fs',fp,h3,hQ,h5⟩
attribute [go_sem] rdC Int.toNat_zero
end Go.Dt
namespace Go.Proofs
open Go.Ab Go.Dt
section
theorem VK(n:Nat)(Yx:∀ (b:Nat) (s:Str) (i:Nat),fZ lim prog 364 [(b,some (jaa s i false))] [.ptr b 0] (RdQ b s i (je s i)) (i<s.length/\s.length<=30/\s.length - i<n))(b:Nat)(s:Str)(i:Nat) :
  fZ lim prog 356 [(b,some (jaa s i false))] [.ptr b 0] (RdQ b s i (lf s i)) (i<s.length/\s.length<=30/\s.length - i<n):=by
 refine fZ.gf (aU 356) func356 rfl rfl fun hp=>(?_);rw [ntmps356]
 (refine vK1 ?_;with_reducible repeat first|intro (K:_->_->Prop) hK|intro h)
 rename_i b2;have abm:∀ p j,je s i=some (p,j)->lf s i=some (post s p j):=fun p j h=>by rw [lf,h]
 refine GK.rd (fun p j hq hj=>?_) (fun p j hq hj=>?_)
 ·have hb:=ze hq
  have hpi:=abm p j hq
  (refine vK1 ?_;intro h h)
  rename_i b3;refine AW.c (fun h=>?_) fun h=>?_
  ·simp only [h,cond_true];have hlt:=cn.1 h;refine vK1 ?_
   (refine AW.ret (EndsG.imp (Imp.dB (b:=b2) caa ?_));refine gS ?_;refine EndsG.dK rfl (RdQ.yes (p:=.mk 4 [] [p]) (j:=j+1) (by rw [hpi,post];simp [*]) Ir) ?_;exact gO)
  ·simp only [h,cond_false];refine vK1 ?_;refine AW.c (fun h=>?_) fun h=>?_
   ·simp only [h,cond_true];have hlt:=cn.1 h;refine vK1 ?_
    (refine AW.ret (EndsG.imp (Imp.dB (b:=b2) caa ?_));refine gS ?_;refine EndsG.dK rfl (RdQ.yes (p:=.mk 2 [] [p,.mk 4 [] [p]]) (j:=j+1) (by rw [hpi,post];simp [*]) Ir) ?_;exact gO)
   ·simp only [h,cond_false];refine vK1 ?_;refine AW.c (fun h=>?_) fun h=>?_
    ·simp only [h,cond_true];have hlt:=cn.1 h;refine vK1 ?_
     (refine AW.ret (EndsG.imp (Imp.dB (b:=b2) caa ?_));refine gS ?_;refine EndsG.dK rfl (RdQ.yes (p:=.mk 5 [] [p]) (j:=j+1) (by rw [hpi,post];simp [*]) Ir) ?_;exact gO)
    ·simp only [h,cond_false];refine vK1 ?_
     (refine AW.ret (EndsG.imp (Imp.dB (b:=b2) caa ?_));refine gS ?_;refine EndsG.dK rfl (RdQ.yes (p:=p) (j:=j) (by rw [hpi,post];simp [*]) Ir) ?_;exact gO)
 ·have hpi:lf s i=none:=by rw [lf,hq]
  (refine vK1 ?_;intro h h)
  rename_i b3;refine AW.c (fun h=>?_) fun h=>?_
  ·simp only [h,cond_true];have hlt:=cn.1 h;refine vK1 ?_
   (refine AW.ret (EndsG.imp (Imp.dB (b:=b2) caa ?_));refine gS ?_;refine EndsG.dK rfl (RdQ.no (.mk 4 [] [p]) (j:=j+1) hpi Ir) ?_;exact gO)
  ·simp only [h,cond_false];refine vK1 ?_;refine AW.c (fun h=>?_) fun h=>?_
   ·simp only [h,cond_true];have hlt:=cn.1 h;refine vK1 ?_
    (refine AW.ret (EndsG.imp (Imp.dB (b:=b2) caa ?_));refine gS ?_;refine EndsG.dK rfl (RdQ.no (.mk 2 [] [p,.mk 4 [] [p]]) (j:=j+1) hpi Ir) ?_;exact gO)
   ·simp only [h,cond_false];refine vK1 ?_;refine AW.c (fun h=>?_) fun h=>?_
    ·simp only [h,cond_true];have hlt:=cn.1 h;refine vK1 ?_
     (refine AW.ret (EndsG.imp (Imp.dB (b:=b2) caa ?_));refine gS ?_;refine EndsG.dK rfl (RdQ.no (.mk 5 [] [p]) (j:=j+1) hpi Ir) ?_;exact gO)
    ·simp only [h,cond_false];refine vK1 ?_
     (refine AW.ret (EndsG.imp (Imp.dB (b:=b2) caa ?_));refine gS ?_;refine EndsG.dK rfl (RdQ.no p (j:=j) hpi Ir) ?_;exact gO)
end
section
theorem XO(n:Nat)(aef:∀ (b:Nat) (s:Str) (i:Nat),fZ lim prog 356 [(b,some (jaa s i false))] [.ptr b 0] (RdQ b s i (lf s i)) (i<s.length/\s.length<=30/\s.length - i<n))(b:Nat)(s:Str)(i:Nat) :
  fZ lim prog 347 [(b,some (jaa s i false))] [.ptr b 0] (RdQ b s i (gp s i [])) (i<=s.length/\s.length<=30/\s.length - i<n):=by
 refine fZ.gf (aU 347) func347 rfl rfl fun hp=>(?_);rw [ntmps347]
 (refine vK1 ?_;intro h h)
 rename_i b2;refine AW.aw [3] [0,2] (fun m xs o=>∃ (l:List bk) (j:Nat) (bad:Bool),xs=[.sl true 3 (l.map bM)]/\o=[(b2,some kaa),(b,some (jaa s j bad))]/\m=(if bad then 0 else s.length - j+1)/\j<=s.length/\l.length<=31/\i<=j/\(bad=false->i<=j/\l.length<=j/\gp s j l=gp s i [])/\(bad=true->gp s i []=none)) _ [(b2,some kaa),(b,some (jaa s i false))] (iA (Ne.symm h) rfl rfl) ⟨[],i,false,?_,rfl,rfl,?_,?_,?_,?_,?_⟩ ?_
 ·rfl
 ·omega
 ·simp
 ·omega
 ·simp
 ·simp
 rintro m xs o ⟨l,j,bad,rfl,rfl,rfl,hj,hl0,hij,hR,hN⟩
 cases bad with
 | true =>
  have hN:=hN rfl;refine vK1 ?_;refine AW.e fun h=>?_;refine AW.imp (Imp.frz 3 ?_);refine gS ?_;refine vK1 ?_;refine AW.c (fun h=>?_) fun h=>?_
  ·refine vK1 ?_
   (refine AW.ret (EndsG.imp (Imp.dB (b:=b2) caa ?_));refine gS ?_;refine EndsG.dK rfl (RdQ.no (at_ l 0) (j:=j) hN Ir) ?_;exact gO)
  ·refine vK1 ?_
   (refine AW.ret (EndsG.imp (Imp.dB (b:=b2) caa ?_));refine gS ?_;refine EndsG.dK rfl (RdQ.no (.mk 2 [] l) (j:=j) hN Ir) ?_;exact gO)
 | false =>
  have hR:=hR rfl;refine vK1 ?_;refine AW.c (fun h=>?_) fun h=>?_
  ·rename_i hc
   (refine vK1 ?_;intro K hK)
   refine GK.rd (fun p k hq hk=>?_) (fun p k hq hk=>?_)
   ·have hb:=FM hq;refine vK1 ?_;exact ⟨_,[_],[(b2,some kaa),(b,some (jaa s k false))],by simp;omega,⟨l++[p],k,false,rfl,rfl,rfl,Ir,by simp;omega,Ir,fun _=>⟨Ir,by simp;omega,by rw [<- hR.2.2,Jb l h.1.1 h.1.2 h.2 hq]⟩,QC⟩,by simp [dz],gO⟩
   ·refine vK1 ?_;exact ⟨_,[_],[(b2,some kaa),(b,some (jaa s k true))],QC,⟨l++[p],k,true,rfl,rfl,rfl,Ir,by simp;omega,Ir,QC,fun _=>by rw [<- hR.2.2,Dr l h.1.1 h.1.2 h.2 hq]⟩,by simp [dz],gO⟩
  ·refine AW.imp (Imp.frz 3 ?_);refine gS ?_;refine vK1 ?_;refine AW.c (fun h=>?_) fun h=>?_
   ·refine vK1 ?_
    (refine AW.ret (EndsG.imp (Imp.dB (b:=b2) caa ?_));refine gS ?_;refine EndsG.dK rfl (RdQ.yes (p:=at_ l 0) (j:=j) (by rw [<- hR.2.2,rA l Ir,mkSeq,if_pos Ir]) Ir) ?_;exact gO)
   ·refine vK1 ?_
    (refine AW.ret (EndsG.imp (Imp.dB (b:=b2) caa ?_));refine gS ?_;refine EndsG.dK rfl (RdQ.yes (p:=.mk 2 [] l) (j:=j) (by rw [<- hR.2.2,rA l Ir,mkSeq,if_neg Ir]) Ir) ?_;exact gO)
instance abY(b:Nat)(s:Str)(i:Nat):Ctr lim prog 347 [(b,some (jaa s i true))] [.ptr b 0] (.agg [.aa 2,.str [],.sl false 3 []]) [some (jaa s i true)] True:=by
 refine Ctr.bd func347 ntmps347 fun hp=>?_
 (refine vK1 ?_;intro h h)
 rename_i b2;refine AW.aw [3] [0,2] (fun m xs o=>xs=[.sl true 3 []]/\o=[(b2,some kaa),(b,some (jaa s i true))]) 0 [(b2,some kaa),(b,some (jaa s i true))] (iA (Ne.symm h) rfl rfl) ⟨rfl,rfl⟩ ?_;rintro m xs o ⟨rfl,rfl⟩;refine vK1 ?_;refine AW.e fun h=>?_;refine AW.imp (Imp.frz 3 ?_);refine gS ?_;refine vK1 ?_;refine AW.c (fun h=>?_) fun h=>?_
 ·simp at h
 ·all_goals exact uU
theorem YL(n:Nat)(abj:∀ (b:Nat) (s:Str) (i:Nat),fZ lim prog 347 [(b,some (jaa s i false))] [.ptr b 0] (RdQ b s i (gp s i [])) (i<=s.length/\s.length<=30/\s.length - i<n))(b:Nat)(s:Str)(i:Nat) :
  fZ lim prog 333 [(b,some (jaa s i false))] [.ptr b 0] (RdQ b s i (gN s i)) (i<=s.length/\s.length<=30/\s.length - i<n):=by
 refine fZ.gf (aU 333) func333 rfl rfl fun hp=>(?_);rw [ntmps333]
 (refine vK1 ?_;with_reducible repeat first|intro (K:_->_->Prop) hK|intro h)
 rename_i b2;refine GK.rdB fun p j bad hq hj=>?_;refine vK1 ?_;refine AW.aw [3] [0,2] (fun m xs o=>∃ (l:List bk) (j:Nat) (bad:Bool),xs=[.sl true 3 (l.map bM)]/\o=[(b2,some kaa),(b,some (jaa s j bad))]/\m=s.length - j/\j<=s.length/\l.length<=j+1/\i<=j/\(bad=false->lg s j l=gN s i)/\(bad=true->gN s i=none)) _ [(b2,some kaa),(b,some (jaa s j bad))] (iA (Ne.symm h) rfl rfl) ⟨[p],j,bad,?_,rfl,rfl,?_,?_,?_,?_,?_⟩ ?_
 ·simp [T,dz]
 ·omega
 ·simp
 ·omega
 ·rintro rfl;rcases hq with ⟨_,hq⟩|⟨h,_⟩
  ·exact (Jd hp.1 hq).symm
  ·cases h
 ·rintro rfl;rcases hq with ⟨h,_⟩|⟨_,hq⟩
  ·cases h
  ·exact Ds hq
 clear hq hj bad;rintro m xs o ⟨l,j,bad,rfl,rfl,rfl,hj,hl,hij,hR,hN⟩;refine vK1 ?_;refine AW.c (fun h=>?_) fun h=>?_
 ·simp only [h,cond_true];have hlt:=cn.1 h
  cases bad with
  | true =>
   have hN:=hN rfl;refine vK1 ?_;exact ⟨_,[_],[(b2,some kaa),(b,some (jaa s (j+1:Nat) true))],Ir,⟨l++[.mk 2 [] []],j+1,true,rfl,rfl,rfl,Ir,by simp;omega,Ir,QC,fun _=>hN⟩,by simp [dz,lL,ja,jb],gO⟩
  | false =>
   have hR:=hR rfl
   (refine vK1 ?_;intro K hK)
   refine GK.rd (fun p k hq hk=>?_) (fun p k hq hk=>?_)
   ·refine vK1 ?_;exact ⟨_,[_],[(b2,some kaa),(b,some (jaa s k false))],Ir,⟨l++[p],k,false,rfl,rfl,rfl,Ir,by simp;omega,Ir,fun _=>by rw [<- hR,FN l h hq],QC⟩,by simp [dz],gO⟩
   ·refine vK1 ?_;exact ⟨_,[_],[(b2,some kaa),(b,some (jaa s k true))],Ir,⟨l++[p],k,true,rfl,rfl,rfl,Ir,by simp;omega,Ir,QC,fun _=>by rw [<- hR,AU l h hq]⟩,by simp [dz],gO⟩
 ·rename_i aed;simp only [h,cond_false];refine AW.imp (Imp.frz 3 ?_);refine gS ?_;refine vK1 ?_
  cases bad with
  | true =>
   have hN:=hN rfl;refine AW.c (fun h=>?_) fun h=>?_
   ·refine vK1 ?_
    (refine AW.ret (EndsG.imp (Imp.dB (b:=b2) caa ?_));refine gS ?_;refine EndsG.dK rfl (RdQ.no (at_ l 0) (j:=j) hN Ir) ?_;exact gO)
   ·refine vK1 ?_
    (refine AW.ret (EndsG.imp (Imp.dB (b:=b2) caa ?_));refine gS ?_;refine EndsG.dK rfl (RdQ.no (.mk 3 [] l) (j:=j) hN Ir) ?_;exact gO)
  | false =>
   have hR:=hR rfl
   have hst:=AR l h;refine AW.c (fun h=>?_) fun h=>?_
   ·refine vK1 ?_
    (refine AW.ret (EndsG.imp (Imp.dB (b:=b2) caa ?_));refine gS ?_;refine EndsG.dK rfl (RdQ.yes (p:=at_ l 0) (j:=j) (by rw [<- hR,hst,uH,if_pos Ir]) Ir) ?_;exact gO)
   ·refine vK1 ?_
    (refine AW.ret (EndsG.imp (Imp.dB (b:=b2) caa ?_));refine gS ?_;refine EndsG.dK rfl (RdQ.yes (p:=.mk 3 [] l) (j:=j) (by rw [<- hR,hst,uH,if_neg Ir]) Ir) ?_;exact gO)
end
end Go.Proofs
namespace Go.Dt
open Go.Ab
section
def mX(s:Str)(j:Nat)(h:Nat->Bool):Option ((Nat->Bool)×Nat) :=
 match mz s j with
 | none=>none
 | some (a,z,k)=>oF s k (fun c=>h c || (decide (a<=(c:Int)) && decide ((c:Int)<=z)))
def Hx{s:Str}{j:Nat}(h:Nat->Bool)(e:dC s j 93=true):oF s j h=some (h,j+1):=by rw [oF,if_pos e]
def J4{s:Str}{j:Nat}(h:Nat->Bool)(e:dC s j 93=false):oF s j h=mX s j h:=by
 rw [oF,if_neg (by rw [e];simp),mX];split
 ·rename_i he;rw [he]
 ·rename_i a z k he;rw [he]
def jx{s:Str}{j:Nat}(h:Nat->Bool)(e:mz s j=none):mX s j h=none:=by rw [mX,e]
def nr{s:Str}{j:Nat}(h:Nat->Bool){a z:Int}{k:Nat}(e:mz s j=some (a,z,k)):mX s j h=oF s k (fun c=>h c || (decide (a<=(c:Int)) && decide ((c:Int)<=z))):=by rw [mX,e]
def lQ(s:Str)(i:Nat):iG s i=(decide (i<s.length) && ot (at8 s i)):=rfl
def nu{s:Str}{i:Nat}(h:iG s i=true):i<s.length:=by rw [lQ,Bool.and_eq_true,decide_eq_true_eq] at h;exact h.1
def yc{s:Str}{j:Nat}(h:iG s j=false):mz s j=none:=by rw [lQ] at h;rw [mz,h];rfl
def zX{s:Str}{j:Nat}(h:iG s j=true)(e:dC s (j+1) 126=false):mz s j=some (at8 s j,at8 s j,j+1):=by rw [lQ] at h;rw [mz,h,if_pos rfl,e];simp
def zW{s:Str}{j:Nat}(h:iG s j=true)(e:dC s (j+1) 126=true)(h2:iG s (j+2)=true)(h3:at8 s j<=at8 s (j+2:Nat)):mz s j=some (at8 s j,at8 s (j+2:Nat),j+3):=by rw [lQ] at h h2;rw [mz,h,if_pos rfl,e,if_pos rfl,h2,decide_eq_true h3];rfl
def rf{s:Str}{j:Nat}(e:dC s (j+1) 126=true)(h2:iG s (j+2)=false\/at8 s (j+2:Nat)<at8 s j):mz s j=none:=by
 rw [mz];split
 ·rw [if_neg];rcases h2 with h2|h2
  ·rw [lQ] at h2;rw [h2];simp
  ·simp only [Bool.and_eq_true,decide_eq_true_eq,not_and];intro _;omega
 ·rfl
def D3{s:Str}{i:Nat}(h1:dC s i 46=false)(h2:dC s i 91=true):jA s i=(match mX s (i+1) (fun _=>false) with|none=>none|some (has,k)=>some (pq (pS has),k)):=by
 rw [jA,if_neg (by rw [h1];simp),if_pos h2,mX]
 cases e:mz s (i+1) with
 | none=>rfl
 | some p =>
  obtain ⟨a,z,j⟩:=p;simp only [Bool.false_or];rfl
def D2{s:Str}{i:Nat}(h1:dC s i 46=true):jA s i=some (pq nT,i+1):=by rw [jA,if_pos h1]
def Ok{s:Str}{i:Nat}(h1:dC s i 46=false)(h2:dC s i 91=false)(hi:i<s.length)(h3:iG s i=true)(h4:¬ at8 s i=95):jA s i=some (pq ((s.take (i+1)).drop i),i+1):=by
 have h5:¬ at8 s i=46:=fun e=>by rw [lF ⟨hi,e⟩] at h1;cases h1
 rw [jA,if_neg (by rw [h1];simp),if_neg (by rw [h2];simp),if_pos];rw [lQ,ot] at h3;have e1:(at8 s i == 95)=false:=by simpa using h4
 have e2:(at8 s i == 46)=false:=by simpa using h5
 rw [e1,e2,Bool.or_false,Bool.or_false] at h3;exact h3
def HI{s:Str}{i:Nat}(h1:dC s i 46=false)(h2:dC s i 91=false)(hi:i<s.length)(h3:iG s i=true->at8 s i=95):jA s i=none:=by
 rw [jA,if_neg (by rw [h1];simp),if_neg (by rw [h2];simp),if_neg];intro h
 have hc:iG s i=true:=by
  rw [lQ,ot];simp only [Bool.and_eq_true,Bool.or_eq_true] at h ⊢;exact ⟨h.1,by rcases h.2 with (e|e)|e<;>simp [e]⟩
 have:=h3 hc;rw [this] at h;simp [ltI,gG] at h
end
section
def NG:aX (fun c=>decide (32<=c) && decide (c<32))=aX (fun _=>false):=by congr 1;funext c;simp
def NF{k:Nat}(h:32<=k):aX (fun c=>if c=k then true else decide (32<=c) && decide (c<k))=aX (fun c=>decide (32<=c) && decide (c<k+1)):=by
 congr 1;funext c
 by_cases e:c=k
 ·subst e;simp [h]
 ·rw [if_neg e]
  congr 1
  exact decide_eq_decide.2 Ir
def dY(ha:Nat->Bool)(a:Int):aX (fun c=>ha c || (decide (a<=(c:Int)) && decide ((c:Int)<a)))=aX ha:=by
 congr 1;funext c
 have:(decide (a<=(c:Int)) && decide ((c:Int)<a))=false:=by simp
 rw [this,Bool.or_false]
def dZ(ha:Nat->Bool){a:Int}{y:Nat}(h:a<=(y:Int)):aX (fun c=>if c=y then true else ha c || (decide (a<=(c:Int)) && decide ((c:Int)<(y:Int))))=aX (fun c=>ha c || (decide (a<=(c:Int)) && decide ((c:Int)<((y+1:Nat):Int)))):=by
 congr 1;funext c
 by_cases e:c=y
 ·subst e;simp [h];right;omega
 ·rw [if_neg e]
  congr 2
  exact decide_eq_decide.2 Ir
@[go_sem] def abV(s:Str)(n:Int):unb [.v (.int .u8 (at8 s n))]=some [UInt8.ofNat (at8 s n).toNat]:=by
 have h1:=lS s n
 have h2:=lT s n;simp only [unb,if_pos (And.intro h2 h1),Option.map_some]
def Kk{s:Str}{i:Nat}(h:i<s.length):(s.take (i+1)).drop i=[UInt8.ofNat (at8 s i).toNat]:=by
 have e:UInt8.ofNat (at8 s i).toNat=s[i]:=by simp [at8,List.getElem?_eq_getElem h]
 rw [List.drop_take,show i+1 - i=1 by omega,List.drop_eq_getElem_cons h,e];rfl
def nk(ha:Nat->Bool){a z:Int}{y:Int}(h:y=z+1):(fun c:Nat=>ha c || (decide (a<=(c:Int)) && decide ((c:Int)<y)))=(fun c:Nat=>ha c || (decide (a<=(c:Int)) && decide ((c:Int)<=z))):=by
 funext c
 congr 2
 exact decide_eq_decide.2 Ir
def HO:pS (fun c=>decide (32<=c) && decide (c<127))=nT:=by
 unfold nT
 congr 1;funext c
 congr 1
 exact decide_eq_decide.2 Ir
end
end Go.Dt
namespace Go.Proofs
open Go.Ab Go.Dt
theorem WK(n:Nat)(halt:∀ (b:Nat) (s:Str) (i:Nat),fZ lim prog 333 [(b,some (jaa s i false))] [.ptr b 0] (RdQ b s i (gN s i)) (i<=s.length/\s.length<=30/\s.length - i<n))(b:Nat)(s:Str)(i:Nat) :
  fZ lim prog 364 [(b,some (jaa s i false))] [.ptr b 0] (RdQ b s i (je s i)) (i<s.length/\s.length<=30/\s.length - i<n+1):=by
 refine fZ.gf (aU 364) func364 rfl rfl fun hp=>(?_);rw [ntmps364]
 (refine vK1 ?_;intro h h h h)
 rename_i b2 hg1 b3;refine AW.c (fun h=>?_) fun h=>?_
 ·simp only [h,cond_true];have hlt:=cn.1 h
  have K2:=yJ h
  have PS:=fun p j=>yI (p:=p) (j:=j) h
  have PR:=fun p j=>yH (p:=p) (j:=j) h
  (refine vK1 ?_;intro K hK)
  refine GK.rd (fun p j hq hj=>?_) (fun p j hq hj=>?_)
  ·(refine vK1 ?_;intro h h)
   refine AW.c (fun h=>?_) fun h=>?_
   ·simp only [h,cond_false];refine vK1 ?_
    (refine AW.ret (EndsG.imp (Imp.dB (b:=b2) caa ?_));refine gS ?_;refine EndsG.dK rfl (RdQ.no p (j:=j) (PR p j hq h) Ir) ?_;exact gO)
   ·simp only [h,cond_true];have hl2:=cn.1 h;refine vK1 ?_
    (refine AW.ret (EndsG.imp (Imp.dB (b:=b2) caa ?_));refine gS ?_;refine EndsG.dK rfl (RdQ.yes (p:=p) (j:=j+1) (PS p j hq h) Ir) ?_;exact gO)
  ·(refine vK1 ?_;intro h h)
   refine AW.c (fun h=>?_) fun h=>?_
   ·simp only [h,cond_false];refine vK1 ?_
    (refine AW.ret (EndsG.imp (Imp.dB (b:=b2) caa ?_));refine gS ?_;refine EndsG.dK rfl (RdQ.no p (j:=j) (K2 hq) Ir) ?_;exact gO)
   ·simp only [h,cond_true];have hl2:=cn.1 h;refine vK1 ?_
    (refine AW.ret (EndsG.imp (Imp.dB (b:=b2) caa ?_));refine gS ?_;refine EndsG.dK rfl (RdQ.no p (j:=j+1) (K2 hq) Ir) ?_;exact gO)
 simp only [h,cond_false];have pL:=AQ hp.1 h;refine vK1 ?_;refine AW.c (fun h=>?_) fun h=>?_
 ·have PV:=D2 h;simp only [h,cond_true];refine vK1 ?_;refine AW.aw [5] [0,2,3] (fun m xs o=>∃ k:Nat,xs=[.aa k]/\o=[(b3,some (aX (fun c=>decide (32<=c) && decide (c<k)))),(b2,some kaa),(b,some (jaa s (i+1:Nat) false))]/\m=127 - k/\32<=k/\k<=127) 95 [(b3,some (aX (fun _=>false))),(b2,some kaa),(b,some (jaa s (i+1:Nat) false))] gO ⟨32,rfl,?_,rfl,Ir,Ir⟩ ?_
  ·rw [NG]
  rintro m xs o ⟨k,rfl,rfl,rfl,hk1,hk2⟩;refine vK1 ?_;refine AW.c (fun h=>?_) fun h=>?_
  ·refine vK1 ?_;exact ⟨_,[_],[(b3,some (aX (fun c=>decide (32<=c) && decide (c<k+1)))),(b2,some kaa),(b,some (jaa s (i+1:Nat) false))],Ir,⟨k+1,rfl,rfl,rfl,Ir,Ir⟩,rfl,by rw [<- NF hk1];simp (maxSteps:=2000000) (disch:=omega) only [go_sem]⟩
  ·have:k=127:=by omega
   subst this;refine vK1 ?_
   (refine AW.ret (EndsG.imp (Imp.dB (b:=b2) caa ?_));refine gS ?_;refine EndsG.dK rfl (RdQ.yes (p:=.mk 1 (pS (fun c=>decide (32<=c) && decide (c<127))) []) (j:=i+1) (by rw [pL,PV,HO,pq]) Ir) ?_;exact gO)
 simp only [h,cond_false];have hnd:=h;refine vK1 ?_;refine AW.c (fun h=>?_) fun h=>?_
 ·have CD:=D3 hnd h;simp only [h,cond_true];generalize hRR:mX s (i+1) (fun _=>false)=R at CD;refine vK1 ?_;refine AW.aw [6] [0,2,3] (fun m xs o=>∃ (k j:Nat) (ha:Nat->Bool) (bad:Bool),xs=[.aa k]/\o=[(b3,some (aX ha)),(b2,some kaa),(b,some (jaa s j bad))]/\m=(if bad then 0 else s.length - j+1)/\j<=s.length/\i<=j/\k<=31/\(bad=false->k<=j/\(if k=0 then mX s j ha else oF s j ha)=R)/\(bad=true->R=none)) _ [(b3,some (aX (fun _=>false))),(b2,some kaa),(b,some (jaa s (i+1:Nat) false))] gO ⟨0,i+1,fun _=>false,false,rfl,rfl,rfl,Ir,Ir,Ir,fun _=>⟨Ir,by rw [if_pos rfl];exact hRR⟩,QC⟩ ?_;rintro m xs o ⟨k,j,ha,bad,rfl,rfl,rfl,hj,hij,hk,hR,hN⟩
  cases bad with
  | true =>
   have hN:=hN rfl;refine vK1 ?_;refine AW.e fun h=>?_;refine vK1 ?_
   (refine AW.ret (EndsG.imp (Imp.dB (b:=b2) caa ?_));refine gS ?_;refine EndsG.dK rfl (RdQ.no (.mk 1 (pS ha) []) (j:=j) (by rw [pL,CD,hN]) Ir) ?_;exact gO)
  | false =>
   have hR:=hR rfl;by_cases hk0:k=0
   ·subst hk0;have hS:mX s j ha=R:=by simpa using hR.2
    rw [show ((0:Nat):Int)=0 from rfl]
    (refine vK1 ?_;intro h)
    refine AW.e fun h=>?_;have hge:=lT s (j:Int)
    have hle:=lS s (j:Int)
    have abt:=lT s ((j+1:Nat):Int)
    have hle1:=lS s ((j+1:Nat):Int)
    have V7:=lT s ((j+1+1:Nat):Int)
    have hle2:=lS s ((j+1+1:Nat):Int)
    cases hch:iG s j with
    | false =>
     have hN':R=none:=by rw [<- hS,jx ha (yc hch)]
     (refine vQ1 hch ?_;with_reducible repeat first|intro (K:_->_->Prop) hK|intro h)
     refine AW.c (fun h=>?_) fun h=>?_
     ·simp only [h,cond_true];have hl2:=cn.1 h
      cases hc2:iG s (j+1) with
      | true =>
       have hl3:=nu hc2
       (refine vQ1 hc2 ?_;with_reducible repeat first|intro (K:_->_->Prop) hK|intro h)
       refine AW.c (fun h=>?_) fun h=>?_
       ·omega
       ·refine vK1 ?_;refine AW.aw [9] [0,2,3,6,7,8] (fun m xs o=>∃ x:Int,xs=[.aa x]/\o=[(b3,some (aX (fun c=>ha c || (decide (0<=(c:Int)) && decide ((c:Int)<x))))),(b2,some kaa),(b,some (jaa s (j+1+1:Nat) true))]/\m=(256 - x).toNat/\0<=x/\x<=256/\(0<=at8 s ((j+1:Nat):Int)->x<=at8 s ((j+1:Nat):Int)+1)/\(at8 s ((j+1:Nat):Int)<0->x=0)) _ [(b3,some (aX ha)),(b2,some kaa),(b,some (jaa s (j+1+1:Nat) true))] gO ⟨0,rfl,by rw [dY],rfl,Ir,Ir,Ir,Ir⟩ ?_;rintro m xs o ⟨x,rfl,rfl,rfl,hx1,hx2,hx3,hx4⟩
        obtain ⟨y,rfl⟩:∃ y:Nat,x=y:=⟨x.toNat,Ir⟩
        refine vK1 ?_;refine AW.c (fun h=>?_) fun h=>?_
        ·refine vK1 ?_
         try exact ⟨_,[_],[(b3,some (aX (fun c=>ha c || (decide (0<=(c:Int)) && decide ((c:Int)<((y+1:Nat):Int)))))),(b2,some kaa),(b,some (jaa s (j+1+1:Nat) true))],Ir,⟨((y+1:Nat):Int),rfl,rfl,rfl,Ir,Ir,Ir,Ir⟩,QC,by rw [<- dZ ha Ir];simp (maxSteps:=2000000) (disch:=omega) only [go_sem]⟩
        ·refine vK1 ?_;exact ⟨0,[_],[(b3,some (aX (fun c=>ha c || (decide (0<=(c:Int)) && decide ((c:Int)<(y:Int)))))),(b2,some kaa),(b,some (jaa s (j+1+1:Nat) true))],QC,⟨0+1,j+1+1,_,true,rfl,rfl,rfl,Ir,Ir,Ir,QC,fun _=>hN'⟩,rfl,gO⟩
      | false =>
       (refine vQ1 hc2 ?_;with_reducible repeat first|intro (K:_->_->Prop) hK|intro h)
       refine AW.c (fun h=>?_) fun h=>?_
       ·omega
       ·refine vK1 ?_;refine AW.aw [9] [0,2,3,6,7,8] (fun m xs o=>∃ x:Int,xs=[.aa x]/\o=[(b3,some (aX (fun c=>ha c || (decide (0<=(c:Int)) && decide ((c:Int)<x))))),(b2,some kaa),(b,some (jaa s (j+1:Nat) true))]/\m=(256 - x).toNat/\0<=x/\x<=256/\(0<=0->x<=0+1)/\(0<0->x=0)) _ [(b3,some (aX ha)),(b2,some kaa),(b,some (jaa s (j+1:Nat) true))] gO ⟨0,rfl,by rw [dY],rfl,Ir,Ir,Ir,Ir⟩ ?_;rintro m xs o ⟨x,rfl,rfl,rfl,hx1,hx2,hx3,hx4⟩
        obtain ⟨y,rfl⟩:∃ y:Nat,x=y:=⟨x.toNat,Ir⟩
        refine vK1 ?_;refine AW.c (fun h=>?_) fun h=>?_
        ·refine vK1 ?_
         try exact ⟨_,[_],[(b3,some (aX (fun c=>ha c || (decide (0<=(c:Int)) && decide ((c:Int)<((y+1:Nat):Int)))))),(b2,some kaa),(b,some (jaa s (j+1:Nat) true))],Ir,⟨((y+1:Nat):Int),rfl,rfl,rfl,Ir,Ir,Ir,Ir⟩,QC,by rw [<- dZ ha Ir];simp (maxSteps:=2000000) (disch:=omega) only [go_sem]⟩
        ·refine vK1 ?_;exact ⟨0,[_],[(b3,some (aX (fun c=>ha c || (decide (0<=(c:Int)) && decide ((c:Int)<(y:Int)))))),(b2,some kaa),(b,some (jaa s (j+1:Nat) true))],QC,⟨0+1,j+1,_,true,rfl,rfl,rfl,Ir,Ir,Ir,QC,fun _=>hN'⟩,rfl,gO⟩
     ·simp only [h,cond_false];refine vK1 ?_;refine AW.c (fun h=>?_) fun h=>?_
      ·omega
      ·refine vK1 ?_;refine AW.aw [9] [0,2,3,6,7,8] (fun m xs o=>∃ x:Int,xs=[.aa x]/\o=[(b3,some (aX (fun c=>ha c || (decide (0<=(c:Int)) && decide ((c:Int)<x))))),(b2,some kaa),(b,some (jaa s (j:Nat) true))]/\m=(256 - x).toNat/\0<=x/\x<=256/\(0<=0->x<=0+1)/\(0<0->x=0)) _ [(b3,some (aX ha)),(b2,some kaa),(b,some (jaa s (j:Nat) true))] gO ⟨0,rfl,by rw [dY],rfl,Ir,Ir,Ir,Ir⟩ ?_;rintro m xs o ⟨x,rfl,rfl,rfl,hx1,hx2,hx3,hx4⟩
       obtain ⟨y,rfl⟩:∃ y:Nat,x=y:=⟨x.toNat,Ir⟩
       refine vK1 ?_;refine AW.c (fun h=>?_) fun h=>?_
       ·refine vK1 ?_
        try exact ⟨_,[_],[(b3,some (aX (fun c=>ha c || (decide (0<=(c:Int)) && decide ((c:Int)<((y+1:Nat):Int)))))),(b2,some kaa),(b,some (jaa s (j:Nat) true))],Ir,⟨((y+1:Nat):Int),rfl,rfl,rfl,Ir,Ir,Ir,Ir⟩,QC,by rw [<- dZ ha Ir];simp (maxSteps:=2000000) (disch:=omega) only [go_sem]⟩
       ·refine vK1 ?_;exact ⟨0,[_],[(b3,some (aX (fun c=>ha c || (decide (0<=(c:Int)) && decide ((c:Int)<(y:Int)))))),(b2,some kaa),(b,some (jaa s (j:Nat) true))],QC,⟨0+1,j,_,true,rfl,rfl,rfl,Ir,Ir,Ir,QC,fun _=>hN'⟩,rfl,gO⟩
    | true =>
     have hl1:=nu hch
     (refine vQ1 hch ?_;with_reducible repeat first|intro (K:_->_->Prop) hK|intro h)
     refine AW.c (fun h=>?_) fun h=>?_
     ·simp only [h,cond_true];have sM:=h
      have hl2:=cn.1 h
      cases hc2:iG s (j+1+1) with
      | true =>
       have hl3:=nu hc2
       (refine vQ1 hc2 ?_;with_reducible repeat first|intro (K:_->_->Prop) hK|intro h)
       refine AW.c (fun h=>?_) fun h=>?_
       ·have hN':R=none:=by rw [<- hS,jx ha (rf sM (.inr h))]
        refine vK1 ?_;refine AW.aw [9] [0,2,3,6,7,8] (fun m xs o=>∃ x:Int,xs=[.aa x]/\o=[(b3,some (aX (fun c=>ha c || (decide (at8 s (j:Int)<=(c:Int)) && decide ((c:Int)<x))))),(b2,some kaa),(b,some (jaa s (j+1+1+1:Nat) true))]/\m=(256 - x).toNat/\at8 s (j:Int)<=x/\x<=256/\(at8 s (j:Int)<=at8 s ((j+1+1:Nat):Int)->x<=at8 s ((j+1+1:Nat):Int)+1)/\(at8 s ((j+1+1:Nat):Int)<at8 s (j:Int)->x=at8 s (j:Int))) _ [(b3,some (aX ha)),(b2,some kaa),(b,some (jaa s (j+1+1+1:Nat) true))] gO ⟨at8 s (j:Int),rfl,by rw [dY],rfl,Ir,Ir,Ir,Ir⟩ ?_;rintro m xs o ⟨x,rfl,rfl,rfl,hx1,hx2,hx3,hx4⟩
        obtain ⟨y,rfl⟩:∃ y:Nat,x=y:=⟨x.toNat,Ir⟩
        refine vK1 ?_;refine AW.c (fun h=>?_) fun h=>?_
        ·exact vK0
         try exact ⟨_,[_],[(b3,some (aX (fun c=>ha c || (decide (at8 s (j:Int)<=(c:Int)) && decide ((c:Int)<((y+1:Nat):Int)))))),(b2,some kaa),(b,some (jaa s (j+1+1+1:Nat) true))],Ir,⟨((y+1:Nat):Int),rfl,rfl,rfl,Ir,Ir,Ir,Ir⟩,QC,by rw [<- dZ ha Ir];simp (maxSteps:=2000000) (disch:=omega) only [go_sem]⟩
        ·refine vK1 ?_;exact ⟨0,[_],[(b3,some (aX (fun c=>ha c || (decide (at8 s (j:Int)<=(c:Int)) && decide ((c:Int)<(y:Int)))))),(b2,some kaa),(b,some (jaa s (j+1+1+1:Nat) true))],QC,⟨0+1,j+1+1+1,_,true,rfl,rfl,rfl,Ir,Ir,Ir,QC,fun _=>hN'⟩,rfl,gO⟩
       ·have hS2:=nr ha (zW hch sM hc2 h);refine vK1 ?_;refine AW.aw [9] [0,2,3,6,7,8] (fun m xs o=>∃ x:Int,xs=[.aa x]/\o=[(b3,some (aX (fun c=>ha c || (decide (at8 s (j:Int)<=(c:Int)) && decide ((c:Int)<x))))),(b2,some kaa),(b,some (jaa s (j+1+1+1:Nat) false))]/\m=(256 - x).toNat/\at8 s (j:Int)<=x/\x<=256/\(at8 s (j:Int)<=at8 s ((j+1+1:Nat):Int)->x<=at8 s ((j+1+1:Nat):Int)+1)/\(at8 s ((j+1+1:Nat):Int)<at8 s (j:Int)->x=at8 s (j:Int))) _ [(b3,some (aX ha)),(b2,some kaa),(b,some (jaa s (j+1+1+1:Nat) false))] gO ⟨at8 s (j:Int),rfl,by rw [dY],rfl,Ir,Ir,Ir,Ir⟩ ?_;rintro m xs o ⟨x,rfl,rfl,rfl,hx1,hx2,hx3,hx4⟩
        obtain ⟨y,rfl⟩:∃ y:Nat,x=y:=⟨x.toNat,Ir⟩
        refine vK1 ?_;refine AW.c (fun h=>?_) fun h=>?_
        ·refine vK1 ?_
         try exact ⟨_,[_],[(b3,some (aX (fun c=>ha c || (decide (at8 s (j:Int)<=(c:Int)) && decide ((c:Int)<((y+1:Nat):Int)))))),(b2,some kaa),(b,some (jaa s (j+1+1+1:Nat) false))],Ir,⟨((y+1:Nat):Int),rfl,rfl,rfl,Ir,Ir,Ir,Ir⟩,QC,by rw [<- dZ ha Ir];simp (maxSteps:=2000000) (disch:=omega) only [go_sem]⟩
        ·refine vK1 ?_;exact ⟨_,[_],[(b3,some (aX (fun c=>ha c || (decide (at8 s (j:Int)<=(c:Int)) && decide ((c:Int)<(y:Int)))))),(b2,some kaa),(b,some (jaa s (j+1+1+1:Nat) false))],by simp;omega,⟨0+1,j+1+1+1,_,false,rfl,rfl,rfl,Ir,Ir,Ir,fun _=>⟨Ir,by rw [if_neg Ir,nk ha (a:=at8 s (j:Int)) (z:=at8 s ((j+1+1:Nat):Int)) (y:=(y:Int)) Ir,<- hS2,hS]⟩,QC⟩,rfl,gO⟩
      | false =>
       have hN':R=none:=by rw [<- hS,jx ha (rf sM (.inl hc2))]
       (refine vQ1 hc2 ?_;with_reducible repeat first|intro (K:_->_->Prop) hK|intro h)
       refine AW.c (fun h=>?_) fun h=>?_
       ·refine vK1 ?_;refine AW.aw [9] [0,2,3,6,7,8] (fun m xs o=>∃ x:Int,xs=[.aa x]/\o=[(b3,some (aX (fun c=>ha c || (decide (at8 s (j:Int)<=(c:Int)) && decide ((c:Int)<x))))),(b2,some kaa),(b,some (jaa s (j+1+1:Nat) true))]/\m=(256 - x).toNat/\at8 s (j:Int)<=x/\x<=256/\(at8 s (j:Int)<=0->x<=0+1)/\(0<at8 s (j:Int)->x=at8 s (j:Int))) _ [(b3,some (aX ha)),(b2,some kaa),(b,some (jaa s (j+1+1:Nat) true))] gO ⟨at8 s (j:Int),rfl,by rw [dY],rfl,Ir,Ir,Ir,Ir⟩ ?_;rintro m xs o ⟨x,rfl,rfl,rfl,hx1,hx2,hx3,hx4⟩
        obtain ⟨y,rfl⟩:∃ y:Nat,x=y:=⟨x.toNat,Ir⟩
        refine vK1 ?_;refine AW.c (fun h=>?_) fun h=>?_
        ·exact vK0
         try exact ⟨_,[_],[(b3,some (aX (fun c=>ha c || (decide (at8 s (j:Int)<=(c:Int)) && decide ((c:Int)<((y+1:Nat):Int)))))),(b2,some kaa),(b,some (jaa s (j+1+1:Nat) true))],Ir,⟨((y+1:Nat):Int),rfl,rfl,rfl,Ir,Ir,Ir,Ir⟩,QC,by rw [<- dZ ha Ir];simp (maxSteps:=2000000) (disch:=omega) only [go_sem]⟩
        ·refine vK1 ?_;exact ⟨0,[_],[(b3,some (aX (fun c=>ha c || (decide (at8 s (j:Int)<=(c:Int)) && decide ((c:Int)<(y:Int)))))),(b2,some kaa),(b,some (jaa s (j+1+1:Nat) true))],QC,⟨0+1,j+1+1,_,true,rfl,rfl,rfl,Ir,Ir,Ir,QC,fun _=>hN'⟩,rfl,gO⟩
       ·refine vK1 ?_;refine AW.aw [9] [0,2,3,6,7,8] (fun m xs o=>∃ x:Int,xs=[.aa x]/\o=[(b3,some (aX (fun c=>ha c || (decide (at8 s (j:Int)<=(c:Int)) && decide ((c:Int)<x))))),(b2,some kaa),(b,some (jaa s (j+1+1:Nat) true))]/\m=(256 - x).toNat/\at8 s (j:Int)<=x/\x<=256/\(at8 s (j:Int)<=0->x<=0+1)/\(0<at8 s (j:Int)->x=at8 s (j:Int))) _ [(b3,some (aX ha)),(b2,some kaa),(b,some (jaa s (j+1+1:Nat) true))] gO ⟨at8 s (j:Int),rfl,by rw [dY],rfl,Ir,Ir,Ir,Ir⟩ ?_;rintro m xs o ⟨x,rfl,rfl,rfl,hx1,hx2,hx3,hx4⟩
        obtain ⟨y,rfl⟩:∃ y:Nat,x=y:=⟨x.toNat,Ir⟩
        refine vK1 ?_;refine AW.c (fun h=>?_) fun h=>?_
        ·refine vK1 ?_
         try exact ⟨_,[_],[(b3,some (aX (fun c=>ha c || (decide (at8 s (j:Int)<=(c:Int)) && decide ((c:Int)<((y+1:Nat):Int)))))),(b2,some kaa),(b,some (jaa s (j+1+1:Nat) true))],Ir,⟨((y+1:Nat):Int),rfl,rfl,rfl,Ir,Ir,Ir,Ir⟩,QC,by rw [<- dZ ha Ir];simp (maxSteps:=2000000) (disch:=omega) only [go_sem]⟩
        ·refine vK1 ?_;exact ⟨0,[_],[(b3,some (aX (fun c=>ha c || (decide (at8 s (j:Int)<=(c:Int)) && decide ((c:Int)<(y:Int)))))),(b2,some kaa),(b,some (jaa s (j+1+1:Nat) true))],QC,⟨0+1,j+1+1,_,true,rfl,rfl,rfl,Ir,Ir,Ir,QC,fun _=>hN'⟩,rfl,gO⟩
     ·simp only [h,cond_false];have hS2:=nr ha (zX hch h);refine vK1 ?_;refine AW.c (fun h=>?_) fun h=>?_
      ·omega
      ·refine vK1 ?_;refine AW.aw [9] [0,2,3,6,7,8] (fun m xs o=>∃ x:Int,xs=[.aa x]/\o=[(b3,some (aX (fun c=>ha c || (decide (at8 s (j:Int)<=(c:Int)) && decide ((c:Int)<x))))),(b2,some kaa),(b,some (jaa s (j+1:Nat) false))]/\m=(256 - x).toNat/\at8 s (j:Int)<=x/\x<=256/\(at8 s (j:Int)<=at8 s (j:Int)->x<=at8 s (j:Int)+1)/\(at8 s (j:Int)<at8 s (j:Int)->x=at8 s (j:Int))) _ [(b3,some (aX ha)),(b2,some kaa),(b,some (jaa s (j+1:Nat) false))] gO ⟨at8 s (j:Int),rfl,by rw [dY],rfl,Ir,Ir,Ir,Ir⟩ ?_;rintro m xs o ⟨x,rfl,rfl,rfl,hx1,hx2,hx3,hx4⟩
       obtain ⟨y,rfl⟩:∃ y:Nat,x=y:=⟨x.toNat,Ir⟩
       refine vK1 ?_;refine AW.c (fun h=>?_) fun h=>?_
       ·refine vK1 ?_
        try exact ⟨_,[_],[(b3,some (aX (fun c=>ha c || (decide (at8 s (j:Int)<=(c:Int)) && decide ((c:Int)<((y+1:Nat):Int)))))),(b2,some kaa),(b,some (jaa s (j+1:Nat) false))],Ir,⟨((y+1:Nat):Int),rfl,rfl,rfl,Ir,Ir,Ir,Ir⟩,QC,by rw [<- dZ ha Ir];simp (maxSteps:=2000000) (disch:=omega) only [go_sem]⟩
       ·refine vK1 ?_;exact ⟨_,[_],[(b3,some (aX (fun c=>ha c || (decide (at8 s (j:Int)<=(c:Int)) && decide ((c:Int)<(y:Int)))))),(b2,some kaa),(b,some (jaa s (j+1:Nat) false))],by simp;omega,⟨0+1,j+1,_,false,rfl,rfl,rfl,Ir,Ir,Ir,fun _=>⟨Ir,by rw [if_neg Ir,nk ha (a:=at8 s (j:Int)) (z:=at8 s (j:Int)) (y:=(y:Int)) Ir,<- hS2,hS]⟩,QC⟩,rfl,gO⟩
   ·have hS:oF s j ha=R:=by simpa [hk0] using hR.2
    have hk1:((k:Int) == 0)=false:=by simp;omega
    (refine vQ1 hk1 ?_;with_reducible repeat first|intro (K:_->_->Prop) hK|intro h)
    refine AW.c (fun h=>?_) fun h=>?_
    ·simp only [h,cond_false];have hS:=(J4 ha h).symm.trans hS
     have hge:=lT s (j:Int)
     have hle:=lS s (j:Int)
     have abt:=lT s ((j+1:Nat):Int)
     have hle1:=lS s ((j+1:Nat):Int)
     have V7:=lT s ((j+1+1:Nat):Int)
     have hle2:=lS s ((j+1+1:Nat):Int)
     cases hch:iG s j with
     | false =>
      have hN':R=none:=by rw [<- hS,jx ha (yc hch)]
      (refine vQ1 hch ?_;with_reducible repeat first|intro (K:_->_->Prop) hK|intro h)
      refine AW.c (fun h=>?_) fun h=>?_
      ·simp only [h,cond_true];have hl2:=cn.1 h
       cases hc2:iG s (j+1) with
       | true =>
        have hl3:=nu hc2
        (refine vQ1 hc2 ?_;with_reducible repeat first|intro (K:_->_->Prop) hK|intro h)
        refine AW.c (fun h=>?_) fun h=>?_
        ·omega
        ·refine vK1 ?_;refine AW.aw [9] [0,2,3,6,7,8] (fun m xs o=>∃ x:Int,xs=[.aa x]/\o=[(b3,some (aX (fun c=>ha c || (decide (0<=(c:Int)) && decide ((c:Int)<x))))),(b2,some kaa),(b,some (jaa s (j+1+1:Nat) true))]/\m=(256 - x).toNat/\0<=x/\x<=256/\(0<=at8 s ((j+1:Nat):Int)->x<=at8 s ((j+1:Nat):Int)+1)/\(at8 s ((j+1:Nat):Int)<0->x=0)) _ [(b3,some (aX ha)),(b2,some kaa),(b,some (jaa s (j+1+1:Nat) true))] gO ⟨0,rfl,by rw [dY],rfl,Ir,Ir,Ir,Ir⟩ ?_;rintro m xs o ⟨x,rfl,rfl,rfl,hx1,hx2,hx3,hx4⟩
         obtain ⟨y,rfl⟩:∃ y:Nat,x=y:=⟨x.toNat,Ir⟩
         refine vK1 ?_;refine AW.c (fun h=>?_) fun h=>?_
         ·refine vK1 ?_
          try exact ⟨_,[_],[(b3,some (aX (fun c=>ha c || (decide (0<=(c:Int)) && decide ((c:Int)<((y+1:Nat):Int)))))),(b2,some kaa),(b,some (jaa s (j+1+1:Nat) true))],Ir,⟨((y+1:Nat):Int),rfl,rfl,rfl,Ir,Ir,Ir,Ir⟩,QC,by rw [<- dZ ha Ir];simp (maxSteps:=2000000) (disch:=omega) only [go_sem]⟩
         ·refine vK1 ?_;exact ⟨0,[_],[(b3,some (aX (fun c=>ha c || (decide (0<=(c:Int)) && decide ((c:Int)<(y:Int)))))),(b2,some kaa),(b,some (jaa s (j+1+1:Nat) true))],QC,⟨k+1,j+1+1,_,true,rfl,rfl,rfl,Ir,Ir,Ir,QC,fun _=>hN'⟩,rfl,gO⟩
       | false =>
        (refine vQ1 hc2 ?_;with_reducible repeat first|intro (K:_->_->Prop) hK|intro h)
        refine AW.c (fun h=>?_) fun h=>?_
        ·omega
        ·refine vK1 ?_;refine AW.aw [9] [0,2,3,6,7,8] (fun m xs o=>∃ x:Int,xs=[.aa x]/\o=[(b3,some (aX (fun c=>ha c || (decide (0<=(c:Int)) && decide ((c:Int)<x))))),(b2,some kaa),(b,some (jaa s (j+1:Nat) true))]/\m=(256 - x).toNat/\0<=x/\x<=256/\(0<=0->x<=0+1)/\(0<0->x=0)) _ [(b3,some (aX ha)),(b2,some kaa),(b,some (jaa s (j+1:Nat) true))] gO ⟨0,rfl,by rw [dY],rfl,Ir,Ir,Ir,Ir⟩ ?_;rintro m xs o ⟨x,rfl,rfl,rfl,hx1,hx2,hx3,hx4⟩
         obtain ⟨y,rfl⟩:∃ y:Nat,x=y:=⟨x.toNat,Ir⟩
         refine vK1 ?_;refine AW.c (fun h=>?_) fun h=>?_
         ·refine vK1 ?_
          try exact ⟨_,[_],[(b3,some (aX (fun c=>ha c || (decide (0<=(c:Int)) && decide ((c:Int)<((y+1:Nat):Int)))))),(b2,some kaa),(b,some (jaa s (j+1:Nat) true))],Ir,⟨((y+1:Nat):Int),rfl,rfl,rfl,Ir,Ir,Ir,Ir⟩,QC,by rw [<- dZ ha Ir];simp (maxSteps:=2000000) (disch:=omega) only [go_sem]⟩
         ·refine vK1 ?_;exact ⟨0,[_],[(b3,some (aX (fun c=>ha c || (decide (0<=(c:Int)) && decide ((c:Int)<(y:Int)))))),(b2,some kaa),(b,some (jaa s (j+1:Nat) true))],QC,⟨k+1,j+1,_,true,rfl,rfl,rfl,Ir,Ir,Ir,QC,fun _=>hN'⟩,rfl,gO⟩
      ·simp only [h,cond_false];refine vK1 ?_;refine AW.c (fun h=>?_) fun h=>?_
       ·omega
       ·refine vK1 ?_;refine AW.aw [9] [0,2,3,6,7,8] (fun m xs o=>∃ x:Int,xs=[.aa x]/\o=[(b3,some (aX (fun c=>ha c || (decide (0<=(c:Int)) && decide ((c:Int)<x))))),(b2,some kaa),(b,some (jaa s (j:Nat) true))]/\m=(256 - x).toNat/\0<=x/\x<=256/\(0<=0->x<=0+1)/\(0<0->x=0)) _ [(b3,some (aX ha)),(b2,some kaa),(b,some (jaa s (j:Nat) true))] gO ⟨0,rfl,by rw [dY],rfl,Ir,Ir,Ir,Ir⟩ ?_;rintro m xs o ⟨x,rfl,rfl,rfl,hx1,hx2,hx3,hx4⟩
        obtain ⟨y,rfl⟩:∃ y:Nat,x=y:=⟨x.toNat,Ir⟩
        refine vK1 ?_;refine AW.c (fun h=>?_) fun h=>?_
        ·refine vK1 ?_
         try exact ⟨_,[_],[(b3,some (aX (fun c=>ha c || (decide (0<=(c:Int)) && decide ((c:Int)<((y+1:Nat):Int)))))),(b2,some kaa),(b,some (jaa s (j:Nat) true))],Ir,⟨((y+1:Nat):Int),rfl,rfl,rfl,Ir,Ir,Ir,Ir⟩,QC,by rw [<- dZ ha Ir];simp (maxSteps:=2000000) (disch:=omega) only [go_sem]⟩
        ·refine vK1 ?_;exact ⟨0,[_],[(b3,some (aX (fun c=>ha c || (decide (0<=(c:Int)) && decide ((c:Int)<(y:Int)))))),(b2,some kaa),(b,some (jaa s (j:Nat) true))],QC,⟨k+1,j,_,true,rfl,rfl,rfl,Ir,Ir,Ir,QC,fun _=>hN'⟩,rfl,gO⟩
     | true =>
      have hl1:=nu hch
      (refine vQ1 hch ?_;with_reducible repeat first|intro (K:_->_->Prop) hK|intro h)
      refine AW.c (fun h=>?_) fun h=>?_
      ·simp only [h,cond_true];have sM:=h
       have hl2:=cn.1 h
       cases hc2:iG s (j+1+1) with
       | true =>
        have hl3:=nu hc2
        (refine vQ1 hc2 ?_;with_reducible repeat first|intro (K:_->_->Prop) hK|intro h)
        refine AW.c (fun h=>?_) fun h=>?_
        ·have hN':R=none:=by rw [<- hS,jx ha (rf sM (.inr h))]
         refine vK1 ?_;refine AW.aw [9] [0,2,3,6,7,8] (fun m xs o=>∃ x:Int,xs=[.aa x]/\o=[(b3,some (aX (fun c=>ha c || (decide (at8 s (j:Int)<=(c:Int)) && decide ((c:Int)<x))))),(b2,some kaa),(b,some (jaa s (j+1+1+1:Nat) true))]/\m=(256 - x).toNat/\at8 s (j:Int)<=x/\x<=256/\(at8 s (j:Int)<=at8 s ((j+1+1:Nat):Int)->x<=at8 s ((j+1+1:Nat):Int)+1)/\(at8 s ((j+1+1:Nat):Int)<at8 s (j:Int)->x=at8 s (j:Int))) _ [(b3,some (aX ha)),(b2,some kaa),(b,some (jaa s (j+1+1+1:Nat) true))] gO ⟨at8 s (j:Int),rfl,by rw [dY],rfl,Ir,Ir,Ir,Ir⟩ ?_;rintro m xs o ⟨x,rfl,rfl,rfl,hx1,hx2,hx3,hx4⟩
         obtain ⟨y,rfl⟩:∃ y:Nat,x=y:=⟨x.toNat,Ir⟩
         refine vK1 ?_;refine AW.c (fun h=>?_) fun h=>?_
         ·exact vK0
          try exact ⟨_,[_],[(b3,some (aX (fun c=>ha c || (decide (at8 s (j:Int)<=(c:Int)) && decide ((c:Int)<((y+1:Nat):Int)))))),(b2,some kaa),(b,some (jaa s (j+1+1+1:Nat) true))],Ir,⟨((y+1:Nat):Int),rfl,rfl,rfl,Ir,Ir,Ir,Ir⟩,QC,by rw [<- dZ ha Ir];simp (maxSteps:=2000000) (disch:=omega) only [go_sem]⟩
         ·refine vK1 ?_;exact ⟨0,[_],[(b3,some (aX (fun c=>ha c || (decide (at8 s (j:Int)<=(c:Int)) && decide ((c:Int)<(y:Int)))))),(b2,some kaa),(b,some (jaa s (j+1+1+1:Nat) true))],QC,⟨k+1,j+1+1+1,_,true,rfl,rfl,rfl,Ir,Ir,Ir,QC,fun _=>hN'⟩,rfl,gO⟩
        ·have hS2:=nr ha (zW hch sM hc2 h);refine vK1 ?_;refine AW.aw [9] [0,2,3,6,7,8] (fun m xs o=>∃ x:Int,xs=[.aa x]/\o=[(b3,some (aX (fun c=>ha c || (decide (at8 s (j:Int)<=(c:Int)) && decide ((c:Int)<x))))),(b2,some kaa),(b,some (jaa s (j+1+1+1:Nat) false))]/\m=(256 - x).toNat/\at8 s (j:Int)<=x/\x<=256/\(at8 s (j:Int)<=at8 s ((j+1+1:Nat):Int)->x<=at8 s ((j+1+1:Nat):Int)+1)/\(at8 s ((j+1+1:Nat):Int)<at8 s (j:Int)->x=at8 s (j:Int))) _ [(b3,some (aX ha)),(b2,some kaa),(b,some (jaa s (j+1+1+1:Nat) false))] gO ⟨at8 s (j:Int),rfl,by rw [dY],rfl,Ir,Ir,Ir,Ir⟩ ?_;rintro m xs o ⟨x,rfl,rfl,rfl,hx1,hx2,hx3,hx4⟩
         obtain ⟨y,rfl⟩:∃ y:Nat,x=y:=⟨x.toNat,Ir⟩
         refine vK1 ?_;refine AW.c (fun h=>?_) fun h=>?_
         ·refine vK1 ?_
          try exact ⟨_,[_],[(b3,some (aX (fun c=>ha c || (decide (at8 s (j:Int)<=(c:Int)) && decide ((c:Int)<((y+1:Nat):Int)))))),(b2,some kaa),(b,some (jaa s (j+1+1+1:Nat) false))],Ir,⟨((y+1:Nat):Int),rfl,rfl,rfl,Ir,Ir,Ir,Ir⟩,QC,by rw [<- dZ ha Ir];simp (maxSteps:=2000000) (disch:=omega) only [go_sem]⟩
         ·refine vK1 ?_;exact ⟨_,[_],[(b3,some (aX (fun c=>ha c || (decide (at8 s (j:Int)<=(c:Int)) && decide ((c:Int)<(y:Int)))))),(b2,some kaa),(b,some (jaa s (j+1+1+1:Nat) false))],by simp;omega,⟨k+1,j+1+1+1,_,false,rfl,rfl,rfl,Ir,Ir,Ir,fun _=>⟨Ir,by rw [if_neg Ir,nk ha (a:=at8 s (j:Int)) (z:=at8 s ((j+1+1:Nat):Int)) (y:=(y:Int)) Ir,<- hS2,hS]⟩,QC⟩,rfl,gO⟩
       | false =>
        have hN':R=none:=by rw [<- hS,jx ha (rf sM (.inl hc2))]
        (refine vQ1 hc2 ?_;with_reducible repeat first|intro (K:_->_->Prop) hK|intro h)
        refine AW.c (fun h=>?_) fun h=>?_
        ·refine vK1 ?_;refine AW.aw [9] [0,2,3,6,7,8] (fun m xs o=>∃ x:Int,xs=[.aa x]/\o=[(b3,some (aX (fun c=>ha c || (decide (at8 s (j:Int)<=(c:Int)) && decide ((c:Int)<x))))),(b2,some kaa),(b,some (jaa s (j+1+1:Nat) true))]/\m=(256 - x).toNat/\at8 s (j:Int)<=x/\x<=256/\(at8 s (j:Int)<=0->x<=0+1)/\(0<at8 s (j:Int)->x=at8 s (j:Int))) _ [(b3,some (aX ha)),(b2,some kaa),(b,some (jaa s (j+1+1:Nat) true))] gO ⟨at8 s (j:Int),rfl,by rw [dY],rfl,Ir,Ir,Ir,Ir⟩ ?_;rintro m xs o ⟨x,rfl,rfl,rfl,hx1,hx2,hx3,hx4⟩
         obtain ⟨y,rfl⟩:∃ y:Nat,x=y:=⟨x.toNat,Ir⟩
         refine vK1 ?_;refine AW.c (fun h=>?_) fun h=>?_
         ·exact vK0
          try exact ⟨_,[_],[(b3,some (aX (fun c=>ha c || (decide (at8 s (j:Int)<=(c:Int)) && decide ((c:Int)<((y+1:Nat):Int)))))),(b2,some kaa),(b,some (jaa s (j+1+1:Nat) true))],Ir,⟨((y+1:Nat):Int),rfl,rfl,rfl,Ir,Ir,Ir,Ir⟩,QC,by rw [<- dZ ha Ir];simp (maxSteps:=2000000) (disch:=omega) only [go_sem]⟩
         ·refine vK1 ?_;exact ⟨0,[_],[(b3,some (aX (fun c=>ha c || (decide (at8 s (j:Int)<=(c:Int)) && decide ((c:Int)<(y:Int)))))),(b2,some kaa),(b,some (jaa s (j+1+1:Nat) true))],QC,⟨k+1,j+1+1,_,true,rfl,rfl,rfl,Ir,Ir,Ir,QC,fun _=>hN'⟩,rfl,gO⟩
        ·refine vK1 ?_;refine AW.aw [9] [0,2,3,6,7,8] (fun m xs o=>∃ x:Int,xs=[.aa x]/\o=[(b3,some (aX (fun c=>ha c || (decide (at8 s (j:Int)<=(c:Int)) && decide ((c:Int)<x))))),(b2,some kaa),(b,some (jaa s (j+1+1:Nat) true))]/\m=(256 - x).toNat/\at8 s (j:Int)<=x/\x<=256/\(at8 s (j:Int)<=0->x<=0+1)/\(0<at8 s (j:Int)->x=at8 s (j:Int))) _ [(b3,some (aX ha)),(b2,some kaa),(b,some (jaa s (j+1+1:Nat) true))] gO ⟨at8 s (j:Int),rfl,by rw [dY],rfl,Ir,Ir,Ir,Ir⟩ ?_;rintro m xs o ⟨x,rfl,rfl,rfl,hx1,hx2,hx3,hx4⟩
         obtain ⟨y,rfl⟩:∃ y:Nat,x=y:=⟨x.toNat,Ir⟩
         refine vK1 ?_;refine AW.c (fun h=>?_) fun h=>?_
         ·refine vK1 ?_
          try exact ⟨_,[_],[(b3,some (aX (fun c=>ha c || (decide (at8 s (j:Int)<=(c:Int)) && decide ((c:Int)<((y+1:Nat):Int)))))),(b2,some kaa),(b,some (jaa s (j+1+1:Nat) true))],Ir,⟨((y+1:Nat):Int),rfl,rfl,rfl,Ir,Ir,Ir,Ir⟩,QC,by rw [<- dZ ha Ir];simp (maxSteps:=2000000) (disch:=omega) only [go_sem]⟩
         ·refine vK1 ?_;exact ⟨0,[_],[(b3,some (aX (fun c=>ha c || (decide (at8 s (j:Int)<=(c:Int)) && decide ((c:Int)<(y:Int)))))),(b2,some kaa),(b,some (jaa s (j+1+1:Nat) true))],QC,⟨k+1,j+1+1,_,true,rfl,rfl,rfl,Ir,Ir,Ir,QC,fun _=>hN'⟩,rfl,gO⟩
      ·simp only [h,cond_false];have hS2:=nr ha (zX hch h);refine vK1 ?_;refine AW.c (fun h=>?_) fun h=>?_
       ·omega
       ·refine vK1 ?_;refine AW.aw [9] [0,2,3,6,7,8] (fun m xs o=>∃ x:Int,xs=[.aa x]/\o=[(b3,some (aX (fun c=>ha c || (decide (at8 s (j:Int)<=(c:Int)) && decide ((c:Int)<x))))),(b2,some kaa),(b,some (jaa s (j+1:Nat) false))]/\m=(256 - x).toNat/\at8 s (j:Int)<=x/\x<=256/\(at8 s (j:Int)<=at8 s (j:Int)->x<=at8 s (j:Int)+1)/\(at8 s (j:Int)<at8 s (j:Int)->x=at8 s (j:Int))) _ [(b3,some (aX ha)),(b2,some kaa),(b,some (jaa s (j+1:Nat) false))] gO ⟨at8 s (j:Int),rfl,by rw [dY],rfl,Ir,Ir,Ir,Ir⟩ ?_;rintro m xs o ⟨x,rfl,rfl,rfl,hx1,hx2,hx3,hx4⟩
        obtain ⟨y,rfl⟩:∃ y:Nat,x=y:=⟨x.toNat,Ir⟩
        refine vK1 ?_;refine AW.c (fun h=>?_) fun h=>?_
        ·refine vK1 ?_
         try exact ⟨_,[_],[(b3,some (aX (fun c=>ha c || (decide (at8 s (j:Int)<=(c:Int)) && decide ((c:Int)<((y+1:Nat):Int)))))),(b2,some kaa),(b,some (jaa s (j+1:Nat) false))],Ir,⟨((y+1:Nat):Int),rfl,rfl,rfl,Ir,Ir,Ir,Ir⟩,QC,by rw [<- dZ ha Ir];simp (maxSteps:=2000000) (disch:=omega) only [go_sem]⟩
        ·refine vK1 ?_;exact ⟨_,[_],[(b3,some (aX (fun c=>ha c || (decide (at8 s (j:Int)<=(c:Int)) && decide ((c:Int)<(y:Int)))))),(b2,some kaa),(b,some (jaa s (j+1:Nat) false))],by simp;omega,⟨k+1,j+1,_,false,rfl,rfl,rfl,Ir,Ir,Ir,fun _=>⟨Ir,by rw [if_neg Ir,nk ha (a:=at8 s (j:Int)) (z:=at8 s (j:Int)) (y:=(y:Int)) Ir,<- hS2,hS]⟩,QC⟩,rfl,gO⟩
    ·simp only [h,cond_true];have hl2:=cn.1 h;refine vK1 ?_
     (refine AW.ret (EndsG.imp (Imp.dB (b:=b2) caa ?_));refine gS ?_;refine EndsG.dK rfl (RdQ.yes (p:=.mk 1 (pS ha) []) (j:=j+1) (by rw [pL,CD,<- hS,Hx ha h];rfl) Ir) ?_;exact gO)
 ·simp only [h,cond_false];have hnc:=h
  cases hch:iG s i with
  | true =>
   (refine vQ1 hch ?_;with_reducible repeat first|intro (K:_->_->Prop) hK|intro h)
   refine AW.c (fun h=>?_) fun h=>?_
   ·refine vK1 ?_
    (refine AW.ret (EndsG.imp (Imp.iK (b:=b2) 3 [.aa 1,.str [UInt8.ofNat (at8 s i).toNat]] [] gO ?_));refine gS ?_;refine EndsG.dK rfl (RdQ.no (.mk 1 [UInt8.ofNat (at8 s i).toNat] []) (j:=i+1) (by rw [pL,HI hnd hnc hp.1];intro _;rcases h with h|h;exact h;rw [lF ⟨hp.1,h⟩] at hnd;cases hnd) Ir) ?_;exact gO)
   ·refine vK1 ?_
    (refine AW.ret (EndsG.imp (Imp.iK (b:=b2) 3 [.aa 1,.str [UInt8.ofNat (at8 s i).toNat]] [] gO ?_));refine gS ?_;refine EndsG.dK rfl (RdQ.yes (p:=.mk 1 [UInt8.ofNat (at8 s i).toNat] []) (j:=i+1) (by rw [pL,Ok hnd hnc hp.1 hch h.1,Kk hp.1,pq]) Ir) ?_;exact gO)
  | false =>
   (refine vQ1 hch ?_;with_reducible repeat first|intro (K:_->_->Prop) hK|intro h)
   refine AW.c (fun h=>?_) fun h=>?_
   all_goals (refine vK ?_;with_reducible repeat' first|exact Le.l|apply Sw|intro (K:_->_->Prop) hK|intro h)
   (refine AW.ret (EndsG.imp (Imp.iK (b:=b2) 3 [.aa 1,.str [UInt8.ofNat 0]] [] gO ?_));refine gS ?_;refine EndsG.dK rfl (RdQ.no (.mk 1 [UInt8.ofNat 0] []) (j:=i) (by rw [pL,HI hnd hnc hp.1];intro e;rw [hch] at e;cases e) Ir) ?_;exact gO)
end Go.Proofs
namespace Go.Dt
open Go.Ab
def pz:bk:=.mk 0 [] []
def eu(s:Str):bk×Bool :=
 if s.length<=30 then match gN s 0 with
  | some (p,j)=>if j=s.length then (p,true) else (pz,false)
  | none=>(pz,false)
 else (pz,false)
def tq(s:Str):(eu s).2=jO s:=by
 unfold eu jO;by_cases h:s.length<=30
 ·simp only [h,if_true,decide_true,Bool.true_and]
  cases e:gN s 0 with
  | none=>rfl
  | some r =>
   obtain ⟨p,j⟩:=r;by_cases h2:j=s.length
   ·simp [h2]
   ·simp [h2]
 ·simp [h]
def AP{s:Str}(h:30<s.length):eu s=(pz,false):=by rw [eu,if_neg Ir]
def AO{s:Str}(h:gN s 0=none):eu s=(pz,false):=by rw [eu,h];simp
def AL{s:Str}{p:bk}{j:Nat}(h:gN s 0=some (p,j))(h2:¬ j=s.length):eu s=(pz,false):=by rw [eu,h];simp [h2]
def Dq{s:Str}{p:bk}{j:Nat}(h0:s.length<=30)(h:gN s 0=some (p,j))(h2:j=s.length):eu s=(p,true):=by rw [eu,h];simp [h2,h0]
end Go.Dt
namespace Go.Proofs
open Go.Ab Go.Dt
theorem J9:∀ (n:Nat) (b:Nat) (s:Str) (i:Nat),fZ lim prog 333 [(b,some (jaa s i false))] [.ptr b 0] (RdQ b s i (gN s i)) (i<=s.length/\s.length<=30/\s.length - i<n)
 | 0,_,_,_=>⟨(aU 333),fun h=>absurd h.2.2 (Nat.not_lt_zero _)⟩
 | n+1,b,s,i=>YL (n+1) (XO (n+1) (VK (n+1) (WK n (J9 n)))) b s i
instance aej(b:Nat)(s:Str):fZ lim prog 333 [(b,some (jaa s 0 false))] [.ptr b 0] (RdQ b s 0 (gN s 0)) (s.length<=30):=⟨(aU 333),fun h=>(J9 31 b s 0).out ⟨Ir,h,Ir⟩⟩
instance Q1(s:Str):Ctr lim prog 313 [] [.str s] (.tup [.agg [.aa (eu s).1.fOp,.str (eu s).1.bI,.sl false 3 ((eu s).1.af.map bM)],.ac (eu s).2]) [] True:=by
 refine Ctr.bd func313 ntmps313 fun hp=>?_;refine AW.f0 0 fun hf=>?_
 (refine vK1 ?_;intro h)
 refine AW.c (fun h=>?_) fun h=>?_
 ·have e:=AP (s:=s) Ir;refine vX1 ?_;rename_i b2
  (refine AW.ret (EndsG.imp (Imp.iK (b:=b2) 3 [.aa 0,.str []] [] gO ?_));refine gS ?_;refine EndsG.fin rfl ?_;simp (maxSteps:=2000000) (disch:=omega) only [go_sem,e,pz,lL,ja,jb])
 ·(refine vK1 ?_;with_reducible repeat first|intro (K:_->_->Prop) hK|intro h)
  rename_i b2 h2 b3;refine GK.rd (fun p j hq hj=>?_) (fun p j hq hj=>?_)
  ·(refine vK1 ?_;intro h h)
   refine AW.c (fun h=>?_) fun h=>?_
   ·have e:=AL hq Ir;refine vX1 ?_
    (refine AW.ret (EndsG.imp (Imp.iK (b:=b2) 3 [.aa 0,.str []] [] gO ?_));refine gS ?_;refine EndsG.fin rfl ?_;simp (maxSteps:=2000000) (disch:=omega) only [go_sem,e,pz,lL,ja,jb])
   ·have e:=Dq Ir hq Ir;exact vP0 e
  ·have e:=AO hq
   (refine vK1 ?_;intro h h)
   refine AW.e fun h=>?_;refine vX1 ?_
   (refine AW.ret (EndsG.imp (Imp.iK (b:=b2) 3 [.aa 0,.str []] [] gO ?_));refine gS ?_;refine EndsG.fin rfl ?_;simp (maxSteps:=2000000) (disch:=omega) only [go_sem,e,pz,lL,ja,jb])
instance VV(s:Str):Ctr lim prog 271 [] [.str s] (.ac (jO s)) [] True:=by refine Ctr.bd func271 ntmps271 fun hp=>?_;have e:=tq s;exact vP0 e
end Go.Proofs
namespace Go.Dt
open Go.Ab
@[go_sem] def Z0:Int.toNat 256=256:=rfl
def Az:List (List Value):=List.replicate 256 [.bool false]
@[go_sem high] def Zk:List.replicate 256 [Value.bool false]=Az:=rfl
@[go_sem] def XY:Az.flatten.map avz=aX (fun _=>false):=by
 have e:Az.flatten=HJ:=by
  unfold Az HJ;rw [List.flatten_replicate_singleton]
 rw [e,NC]
def Si(l:List bk):((l.map bM).flatMap AV.cells).length=l.length * 3:=by
 induction l with
 | nil=>rfl
 | cons x xs ih =>
  have e:(bM x).cells.length=3:=by rw [dz];rfl
  simp only [List.map_cons,List.flatMap_cons,List.length_append,ih,e,List.length_cons];omega
def Ja(l:List bk):∀ x,x∈l.map bM->x.elem 3=true:=by have:=MG l;rw [List.all_eq_true] at this;exact this
end Go.Dt
namespace Go.Proofs
open Go.Ab Go.Dt
instance acq:Ctr lim prog 363 [] [] (.str (pS (fun c=>decide (32<=c) && decide (c<127)))) [] True:=by
 refine Ctr.bd func363 ntmps363 fun hp=>?_;refine vU1 ?_
 have hlow:mw (fun c=>decide (32<=c) && decide (c<127)) 32=[]:=by
  unfold mw
  have:(List.range 32).filter (fun c=>decide (32<=c) && decide (c<127))=[]:=by
   rw [List.filter_eq_nil_iff];intro a ha;simp at ha ⊢;omega
  rw [this];rfl
 refine AW.aw [1,2] [] (fun m xs o=>∃ k:Nat,xs=[.sl true 1 (cX (mw (fun c=>decide (32<=c) && decide (c<127)) k)),.aa k]/\o=[]/\m=127 - k/\32<=k/\k<=127) 95 [] trivial ⟨32,?_,rfl,rfl,?_,?_⟩ ?_
 ·rw [hlow];rfl
 ·omega
 ·omega
 rintro m xs o ⟨k,rfl,rfl,rfl,hk0,hk⟩;have hl:=x9 (fun c=>decide (32<=c) && decide (c<127)) k
 have hs:=rY (fun c=>decide (32<=c) && decide (c<127)) k
 (refine vU2 ?_ ?_<;>intro h)
 ·rw [if_pos (by simp;omega)] at hs;exact ⟨_,[_,_],[],Ir,⟨k+1,by rw [hs,<- vm _ Ir],rfl,rfl,Ir,Ir⟩,rfl,trivial⟩
 ·have:k=127:=by omega
  subst this
  congr 1
theorem Gj:∀ (n:Nat) (op:Int) (t:Str) (ks:List bk),Ctr lim prog 355 [] [.agg [.aa op,.str t,.sl false 3 (ks.map bM)]] (.agg [.aa op,.str t,.sl false 3 (ks.map bM)]) [] (nF ks<n)
 | 0,op,t,ks=>⟨(aU 355),fun h=>absurd h (Nat.not_lt_zero _)⟩
 | n+1,op,t,ks=>by
  have ih:=Gj n;refine Ctr.bd func355 ntmps355 fun hp=>?_;refine AW.f0 0 fun hf=>?_
  (refine bU1 ?_;intro h h h h h)
  rename_i b1 b2 hn b3;refine AW.imp (Imp.nG (b:=b3) 3 [.aa op,.str t] [] gO ?_);refine gS ?_;refine AW.aw [4] [1,2,3] (fun m xs o=>∃ k:Nat,xs=[.aa k]/\o=[(b3,some [.aa op,.str t,.sl true 3 ((ks.take k).map bM)]),(b2,some kaa),(b1,some [.aa op,.str t,.sl false 3 (ks.map bM)])]/\m=ks.length - k/\k<=ks.length) ks.length [(b3,some [.aa op,.str t,.sl true 3 []]),(b2,some kaa),(b1,some [.aa op,.str t,.sl false 3 (ks.map bM)])] gO ⟨0,?_,rfl,rfl,?_⟩ ?_
  ·rfl
  ·omega
  rintro m xs o ⟨k,rfl,rfl,rfl,hk⟩;have hq:k<ks.length->_:=wj (l:=ks) (k:=k)
  have hq2:=AF (at_ ks k)
  have hlt:(ks.take k).length=k:=by rw [List.length_take];omega
  refine bK1 ?_;refine AW.c (fun h=>?_) fun h=>?_
  ·refine bN1 ?_;have hfl:=Si (ks.take k)
   have hst:=II (f:=bM) h;refine AW.imp (Imp.nX (b0:=b3) (k:=2) (cells0:=[.aa op,.str t,.sl true 3 ((ks.take k).map bM)]) (sz:=3) (l:=(ks.take k).map bM) gO rfl (Ja _) (fun b hb=>?_) (fun hnil=>?_))
   ·have hb1:=hb.nf;simp only [go_sem] at hb1;simp only [List.set_cons_zero,List.set_cons_succ];refine AW.LD fun K hK=>?_;refine gS ?_
    (refine bN1 ?_;intro h h)
    rename_i b9;refine AW.imp (Imp.Lb (b0:=b3) (k:=2) (b:=b9) (len:=(ks.take k).length+1) (sz:=3) (cells0:=[.aa op,.str t,.arr b9 0 ((ks.take k).length+1) 3]) (cells:=((ks.take k).map bM).flatMap AV.cells++[.aa (at_ ks k).fOp,.str (at_ ks k).bI,.sl false 3 ((at_ ks k).af.map bM)]) (l:=(ks.take (k+1)).map bM) gO rfl gO Ir (by simp;omega) ?_ (Ja _) ?_)
    ·refine Eq.trans ?_ (List.take_of_length_le (by rw [List.length_append,hfl];simp only [List.length_cons,List.length_nil];omega)).symm;rw [hst,List.flatMap_append,dz];rfl
    simp only [List.set_cons_zero,List.set_cons_succ];refine bK1 ?_;exact ⟨_,[_],[(b3,some [.aa op,.str t,.sl true 3 ((ks.take (k+1)).map bM)]),(b2,some kaa),(b1,some [.aa op,.str t,.sl false 3 (ks.map bM)])],Ir,⟨k+1,rfl,rfl,rfl,Ir⟩,rfl,by rw [hst,dz];simp (maxSteps:=2000000) (disch:=omega) only [go_sem]⟩
   ·simp only [List.set_cons_zero,List.set_cons_succ];refine AW.LD fun K hK=>?_;refine gS ?_;refine bK1 ?_;rw [hnil] at hst;exact ⟨_,[_],[(b3,some [.aa op,.str t,.sl true 3 ((ks.take (k+1)).map bM)]),(b2,some kaa),(b1,some [.aa op,.str t,.sl false 3 (ks.map bM)])],Ir,⟨k+1,rfl,rfl,rfl,Ir⟩,rfl,by rw [hst,dz];simp (maxSteps:=2000000) (disch:=omega) only [go_sem,List.nil_append]⟩
  ·rw [show k=ks.length by omega,List.take_length];refine bX1 ?_;refine AW.ret (EndsG.imp (Imp.dB (b:=b2) caa ?_));refine gS ?_;refine EndsG.fin rfl ?_;exact gO
instance aaH(op:Int)(t:Str)(ks:List bk):Ctr lim prog 355 [] [.agg [.aa op,.str t,.sl false 3 (ks.map bM)]] (.agg [.aa op,.str t,.sl false 3 (ks.map bM)]) [] True:=⟨(aU 355),fun _=>(Gj (nF ks+1) op t ks).out Ir⟩
end Go.Proofs
namespace Go.Dt
open Go.Ab
def U9(r:Option ((Nat->Bool)×Nat)):Option (bk×Nat):=match r with|none=>none|some (has,k)=>some (pq (pS has),k)
def xk(s:Str)(i:Nat):Option (bk×Nat):=U9 (mX s i (fun _=>false))
def PI{s:Str}{j:Nat}(h:dC s j 93=true):iG s j=false:=by have:=cn.1 h;rw [lQ,this.2];simp [ot,ltI,gG]
end Go.Dt
namespace Go.Proofs
open Go.Ab Go.Dt
instance Zl(b:Nat)(s:Str)(i:Nat):fZ lim prog 362 [(b,some (jaa s i false))] [.ptr b 0] (RdQ b s i (xk s i)) (i<=s.length/\s.length<=30):=by
 refine fZ.gf (aU 362) func362 rfl rfl fun hp=>(?_);rw [ntmps362];generalize hRR:mX s i (fun _=>false)=R;have hres:xk s i=U9 R:=by rw [xk,hRR]
 (refine vK1 ?_;intro h h h h)
 rename_i b2 hn b3;refine AW.aw [] [0,2,3,4] (fun m xs o=>∃ (j:Nat) (ha:Nat->Bool),xs=[]/\o=[(b3,some (aX ha)),(b2,some kaa),(b,some (jaa s j false))]/\m=s.length - j/\j<=s.length/\i<=j/\((j=i/\mX s j ha=R)\/(i<j/\oF s j ha=R))) _ [(b3,some (aX (fun _=>false))),(b2,some kaa),(b,some (jaa s i false))] gO ⟨i,fun _=>false,rfl,rfl,rfl,Ir,Ir,.inl ⟨rfl,hRR⟩⟩ ?_;rintro m xs o ⟨j,ha,rfl,rfl,rfl,hj,hij,hR⟩;have hge:=lT s (j:Int)
 have hle:=lS s (j:Int)
 have V7:=lT s ((j+1+1:Nat):Int)
 have hle2:=lS s ((j+1+1:Nat):Int);refine vK1 ?_;refine AW.c (fun h=>?_) fun h=>?_
 ·simp only [h,cond_false]
  have hS:mX s j ha=R:=by
   rcases hR with hR|hR
   ·exact hR.2
   ·rw [<- hR.2,J4 ha h]
  clear hR;refine vK1 ?_;refine AW.c (fun h=>?_) fun h=>?_
  ·have hch:=tV (s:=s) (i:=j) (by rcases h with h|h;exact .inl Ir;exact .inr h);refine vK1 ?_
   (refine AW.ret (EndsG.imp (Imp.iK (b:=b2) 3 [.aa 0,.str []] [] gO ?_));refine gS ?_;refine EndsG.dK rfl (RdQ.no (.mk 0 [] []) (j:=j) (by rw [hres,<- hS,jx ha (yc hch)];rfl) Ir) ?_;exact gO)
  have hch:=vg (s:=s) (i:=j) ⟨Ir,h.2⟩
  have hl1:=nu hch;refine vK1 ?_;refine AW.c (fun h=>?_) fun h=>?_
  ·simp only [h,cond_true];have sM:=h
   have hl2:=cn.1 h;refine vK1 ?_;refine AW.c (fun h=>?_) fun h=>?_
   ·refine vK1 ?_
    (refine AW.ret (EndsG.imp (Imp.iK (b:=b2) 3 [.aa 0,.str []] [] gO ?_));refine gS ?_;refine EndsG.dK rfl (RdQ.no (.mk 0 [] []) (j:=j+1+1) (by rw [hres,<- hS,jx ha (rf sM ?_)];rfl;rcases h with (h|h)|h;exact .inl (tV (.inl Ir));exact .inl (tV (.inr h));exact .inr h) Ir) ?_;exact gO)
   ·have hc2:=vg (s:=s) (i:=j+1+1) ⟨Ir,h.1.2⟩
    have hl3:=nu hc2
    have hS2:=nr ha (zW hch sM hc2 h.2);refine vK1 ?_;refine AW.aw [7] [0,2,3,4,5,6] (fun m xs o=>∃ x:Int,xs=[.aa x]/\o=[(b3,some (aX (fun c=>ha c || (decide (at8 s (j:Int)<=(c:Int)) && decide ((c:Int)<x))))),(b2,some kaa),(b,some (jaa s (j+1+1+1:Nat) false))]/\m=(256 - x).toNat/\at8 s (j:Int)<=x/\x<=256/\x<=at8 s ((j+1+1:Nat):Int)+1) _ [(b3,some (aX ha)),(b2,some kaa),(b,some (jaa s (j+1+1+1:Nat) false))] gO ⟨at8 s (j:Int),rfl,by rw [dY],rfl,Ir,Ir,Ir⟩ ?_;rintro m xs o ⟨x,rfl,rfl,rfl,hx1,hx2,hx3⟩
    obtain ⟨y,rfl⟩:∃ y:Nat,x=y:=⟨x.toNat,Ir⟩
    refine vK1 ?_;refine AW.c (fun h=>?_) fun h=>?_
    ·refine vK1 ?_;exact ⟨_,[_],[(b3,some (aX (fun c=>ha c || (decide (at8 s (j:Int)<=(c:Int)) && decide ((c:Int)<((y+1:Nat):Int)))))),(b2,some kaa),(b,some (jaa s (j+1+1+1:Nat) false))],Ir,⟨((y+1:Nat):Int),rfl,rfl,rfl,Ir,Ir,Ir⟩,QC,by rw [<- dZ ha Ir];simp (maxSteps:=2000000) (disch:=omega) only [go_sem]⟩
    ·refine vK1 ?_;exact ⟨_,[],[(b3,some (aX (fun c=>ha c || (decide (at8 s (j:Int)<=(c:Int)) && decide ((c:Int)<(y:Int)))))),(b2,some kaa),(b,some (jaa s (j+1+1+1:Nat) false))],Ir,⟨j+1+1+1,_,rfl,rfl,rfl,Ir,Ir,.inr ⟨Ir,by rw [nk ha (a:=at8 s (j:Int)) (z:=at8 s ((j+1+1:Nat):Int)) (y:=(y:Int)) Ir,<- hS2,hS]⟩⟩,gO⟩
  ·simp only [h,cond_false];have hS2:=nr ha (zX hch h);refine vK1 ?_;refine AW.aw [7] [0,2,3,4,5,6] (fun m xs o=>∃ x:Int,xs=[.aa x]/\o=[(b3,some (aX (fun c=>ha c || (decide (at8 s (j:Int)<=(c:Int)) && decide ((c:Int)<x))))),(b2,some kaa),(b,some (jaa s (j+1:Nat) false))]/\m=(256 - x).toNat/\at8 s (j:Int)<=x/\x<=256/\x<=at8 s (j:Int)+1) _ [(b3,some (aX ha)),(b2,some kaa),(b,some (jaa s (j+1:Nat) false))] gO ⟨at8 s (j:Int),rfl,by rw [dY],rfl,Ir,Ir,Ir⟩ ?_;rintro m xs o ⟨x,rfl,rfl,rfl,hx1,hx2,hx3⟩
   obtain ⟨y,rfl⟩:∃ y:Nat,x=y:=⟨x.toNat,Ir⟩
   refine vK1 ?_;refine AW.c (fun h=>?_) fun h=>?_
   ·refine vK1 ?_;exact ⟨_,[_],[(b3,some (aX (fun c=>ha c || (decide (at8 s (j:Int)<=(c:Int)) && decide ((c:Int)<((y+1:Nat):Int)))))),(b2,some kaa),(b,some (jaa s (j+1:Nat) false))],Ir,⟨((y+1:Nat):Int),rfl,rfl,rfl,Ir,Ir,Ir⟩,QC,by rw [<- dZ ha Ir];simp (maxSteps:=2000000) (disch:=omega) only [go_sem]⟩
   ·refine vK1 ?_;exact ⟨_,[],[(b3,some (aX (fun c=>ha c || (decide (at8 s (j:Int)<=(c:Int)) && decide ((c:Int)<(y:Int)))))),(b2,some kaa),(b,some (jaa s (j+1:Nat) false))],Ir,⟨j+1,_,rfl,rfl,rfl,Ir,Ir,.inr ⟨Ir,by rw [nk ha (a:=at8 s (j:Int)) (z:=at8 s (j:Int)) (y:=(y:Int)) Ir,<- hS2,hS]⟩⟩,gO⟩
 ·simp only [h,cond_true];have hend:=h
  have hl2:=cn.1 h;refine vK1 ?_;refine AW.c (fun h=>?_) fun h=>?_
  ·have hN:R=none:=by
    rcases hR with hR|hR
    ·rw [<- hR.2,jx ha (yc (PI hend))]
    ·omega
   refine vK1 ?_;refine AW.aw [8,9] [2,3] (fun m xs o=>∃ k:Nat,xs=[.sl true 1 (cX (mw ha k)),.aa k]/\o=[(b3,some (aX ha)),(b2,some kaa),(b,some (jaa s (j+1:Nat) true))]/\m=256 - k/\k<=256) 256 [(b3,some (aX ha)),(b2,some kaa),(b,some (jaa s (j+1:Nat) true))] gO ⟨0,?_,rfl,rfl,?_⟩ ?_
   ·rfl
   ·omega
   rintro m xs o ⟨k,rfl,rfl,rfl,hk⟩;have hl:=x9 ha k
   have hs:=rY ha k;refine vK1 ?_;refine AW.c (fun h=>?_) fun h=>?_
   ·refine vK1 ?_;refine AW.c (fun h=>?_) fun h=>?_
    ·rw [h] at hs;refine vK1 ?_;exact ⟨_,[_,_],[(b3,some (aX ha)),(b2,some kaa),(b,some (jaa s (j+1:Nat) true))],Ir,⟨k+1,by rw [hs,if_pos rfl,<- vm _ Ir],rfl,rfl,Ir⟩,rfl,gO⟩
    ·rw [h] at hs;refine vK1 ?_;exact ⟨_,[_,_],[(b3,some (aX ha)),(b2,some kaa),(b,some (jaa s (j+1:Nat) true))],Ir,⟨k+1,by rw [hs];simp,rfl,rfl,Ir⟩,rfl,gO⟩
   ·refine vK1 ?_;have hk2:k=256:=by omega
    subst hk2
    (refine AW.ret (EndsG.imp (Imp.iK (b:=b2) 3 [.aa 1,.str (mw ha 256)] [] gO ?_));refine gS ?_;refine EndsG.dK rfl (RdQ.no (.mk 1 (mw ha 256) []) (j:=j+1) (by rw [hres,hN];rfl) Ir) ?_;exact gO)
  ·have hY:R=some (ha,j+1):=by
    rcases hR with hR|hR
    ·omega
    ·rw [<- hR.2,Hx ha hend]
   refine vK1 ?_;refine AW.aw [8,9] [2,3] (fun m xs o=>∃ k:Nat,xs=[.sl true 1 (cX (mw ha k)),.aa k]/\o=[(b3,some (aX ha)),(b2,some kaa),(b,some (jaa s (j+1:Nat) false))]/\m=256 - k/\k<=256) 256 [(b3,some (aX ha)),(b2,some kaa),(b,some (jaa s (j+1:Nat) false))] gO ⟨0,?_,rfl,rfl,?_⟩ ?_
   ·rfl
   ·omega
   rintro m xs o ⟨k,rfl,rfl,rfl,hk⟩;have hl:=x9 ha k
   have hs:=rY ha k;refine vK1 ?_;refine AW.c (fun h=>?_) fun h=>?_
   ·refine vK1 ?_;refine AW.c (fun h=>?_) fun h=>?_
    ·rw [h] at hs;refine vK1 ?_;exact ⟨_,[_,_],[(b3,some (aX ha)),(b2,some kaa),(b,some (jaa s (j+1:Nat) false))],Ir,⟨k+1,by rw [hs,if_pos rfl,<- vm _ Ir],rfl,rfl,Ir⟩,rfl,gO⟩
    ·rw [h] at hs;refine vK1 ?_;exact ⟨_,[_,_],[(b3,some (aX ha)),(b2,some kaa),(b,some (jaa s (j+1:Nat) false))],Ir,⟨k+1,by rw [hs];simp,rfl,rfl,Ir⟩,rfl,gO⟩
   ·refine vK1 ?_;have hk2:k=256:=by omega
    subst hk2
    (refine AW.ret (EndsG.imp (Imp.iK (b:=b2) 3 [.aa 1,.str (mw ha 256)] [] gO ?_));refine gS ?_;refine EndsG.dK rfl (RdQ.yes (p:=.mk 1 (mw ha 256) []) (j:=j+1) (by rw [hres,hY];rfl) Ir) ?_;exact gO)
end Go.Proofs
namespace Go.Dt
open Go.Ab
def LK{s:Str}{i:Nat}(h1:dC s i 46=false)(h2:dC s i 91=true):jA s i=xk s (i+1):=by rw [D3 h1 h2,xk];rfl
def Oj{s:Str}{i:Nat}(h1:dC s i 46=false)(h2:dC s i 91=false)(h:i<s.length/\((ltI (at8 s i)=true\/gG (at8 s i)=true)\/at8 s i=45)):jA s i=some (pq ((s.take (i+1)).drop i),i+1):=by rw [jA,if_neg (by rw [h1];simp),if_neg (by rw [h2];simp),if_pos];simp only [Bool.and_eq_true,Bool.or_eq_true,decide_eq_true_eq,beq_iff_eq];exact h
def Ip{s:Str}{i:Nat}(h1:dC s i 46=false)(h2:dC s i 91=false)(hi:i<s.length)(h:(ltI (at8 s i)=false/\gG (at8 s i)=false)/\¬ at8 s i=45):jA s i=none:=by rw [jA,if_neg (by rw [h1];simp),if_neg (by rw [h2];simp),if_neg];simp [h]
def S1{s:Str}{i:Nat}{c d:Int}(h:dC s i c=true)(hne:¬ c=d):dC s i d=false:=by have:=cn.1 h;exact tH fun _ e=>hne (this.2.symm.trans e)
end Go.Dt
namespace Go.Proofs
open Go.Ab Go.Dt
section
theorem PA(n:Nat)(halt:∀ (b:Nat) (s:Str) (i:Nat),fZ lim prog 329 [(b,some (jaa s i false))] [.ptr b 0] (RdQ b s i (gN s i)) (i<=s.length/\s.length<=30/\s.length - i<n))(b:Nat)(s:Str)(i:Nat) :
  fZ lim prog 354 [(b,some (jaa s i false))] [.ptr b 0] (RdQ b s i (je s i)) (i<s.length/\s.length<=30/\s.length - i<n+1):=by
 refine fZ.gf (aU 354) func354 rfl rfl fun hp=>(?_);rw [ntmps354]
 (refine vK1 ?_;intro h h)
 rename_i b2;refine AW.c (fun h=>?_) fun h=>?_
 ·simp only [h,cond_true];have hlt:=cn.1 h
  have K2:=yJ h
  have PS:=fun p j=>yI (p:=p) (j:=j) h
  have PR:=fun p j=>yH (p:=p) (j:=j) h
  (refine vK1 ?_;intro K hK)
  refine GK.rd (fun p j hq hj=>?_) (fun p j hq hj=>?_)
  ·(refine vK1 ?_;intro h h)
   refine AW.c (fun h=>?_) fun h=>?_
   ·simp only [h,cond_false];refine vK1 ?_
    (refine AW.ret (EndsG.imp (Imp.dB (b:=b2) caa ?_));refine gS ?_;refine EndsG.dK rfl (RdQ.no p (j:=j) (PR p j hq h) Ir) ?_;exact gO)
   ·simp only [h,cond_true];have hl2:=cn.1 h;refine vK1 ?_
    (refine AW.ret (EndsG.imp (Imp.dB (b:=b2) caa ?_));refine gS ?_;refine EndsG.dK rfl (RdQ.yes (p:=p) (j:=j+1) (PS p j hq h) Ir) ?_;exact gO)
  ·(refine vK1 ?_;intro h h)
   refine AW.e fun h=>?_;refine vK1 ?_
   (refine AW.ret (EndsG.imp (Imp.dB (b:=b2) caa ?_));refine gS ?_;refine EndsG.dK rfl (RdQ.no p (j:=j) (K2 hq) Ir) ?_;exact gO)
 simp only [h,cond_false];have pL:=AQ hp.1 h;refine vK1 ?_;refine AW.c (fun h=>?_) fun h=>?_
 ·have CD:=LK (S1 h baa) h
  have hlt:=cn.1 h;simp only [h,cond_true]
  (refine vK1 ?_;intro K hK)
  refine GK.rdB fun p j bad hq hj=>?_;refine vK1 ?_;rcases hq with ⟨rfl,hq⟩|⟨rfl,hq⟩
  ·(refine AW.ret (EndsG.imp (Imp.dB (b:=b2) caa ?_));refine gS ?_;refine EndsG.dK rfl (RdQ.yes (p:=p) (j:=j) (by rw [pL,CD,hq]) Ir) ?_;exact gO)
  ·(refine AW.ret (EndsG.imp (Imp.dB (b:=b2) caa ?_));refine gS ?_;refine EndsG.dK rfl (RdQ.no p (j:=j) (by rw [pL,CD,hq]) Ir) ?_;exact gO)
 simp only [h,cond_false];have hnc:=h;refine vK1 ?_;refine AW.c (fun h=>?_) fun h=>?_
 ·have PV:=D2 h
  have hlt:=cn.1 h;simp only [h,cond_true];refine vK1 ?_
  (refine AW.ret (EndsG.imp (Imp.iK (b:=b2) 3 [.aa 1,.str (pS (fun c=>decide (32<=c) && decide (c<127)))] [] gO ?_));refine gS ?_;refine EndsG.dK rfl (RdQ.yes (p:=.mk 1 (pS (fun c=>decide (32<=c) && decide (c<127))) []) (j:=i+1) (by rw [pL,PV,HO,pq]) Ir) ?_;exact gO)
 simp only [h,cond_false];have hnd:=h;refine vK1 ?_;refine AW.c (fun h=>?_) fun h=>?_
 ·refine vK1 ?_
  (refine AW.ret (EndsG.imp (Imp.iK (b:=b2) 3 [.aa 1,.str ((s.take (i+1)).drop i)] [] gO ?_));refine gS ?_;refine EndsG.dK rfl (RdQ.yes (p:=.mk 1 ((s.take (i+1)).drop i) []) (j:=i+1) (by rw [pL,Oj hnd hnc h,pq]) Ir) ?_;exact gO)
 ·refine vK1 ?_
  (refine AW.ret (EndsG.imp (Imp.iK (b:=b2) 3 [.aa 0,.str []] [] gO ?_));refine gS ?_;refine EndsG.dK rfl (RdQ.no (.mk 0 [] []) (j:=i) (by rw [pL,Ip hnd hnc hp.1 (h hp.1)]) Ir) ?_;exact gO)
theorem SU(n:Nat)(Yx:∀ (b:Nat) (s:Str) (i:Nat),fZ lim prog 354 [(b,some (jaa s i false))] [.ptr b 0] (RdQ b s i (je s i)) (i<s.length/\s.length<=30/\s.length - i<n))(b:Nat)(s:Str)(i:Nat) :
  fZ lim prog 344 [(b,some (jaa s i false))] [.ptr b 0] (RdQ b s i (gp s i [])) (i<=s.length/\s.length<=30/\s.length - i<n):=by
 refine fZ.gf (aU 344) func344 rfl rfl fun hp=>(?_);rw [ntmps344]
 (refine vK1 ?_;intro h h)
 rename_i b2;refine AW.aw [3] [0,2] (fun m xs o=>∃ (l:List bk) (j:Nat) (bad:Bool),xs=[.sl true 3 (l.map bM)]/\o=[(b2,some kaa),(b,some (jaa s j bad))]/\m=(if bad then 0 else s.length - j+1)/\j<=s.length/\l.length<=31/\i<=j/\(bad=false->l.length<=j/\gp s j l=gp s i [])/\(bad=true->gp s i []=none)) _ [(b2,some kaa),(b,some (jaa s i false))] (iA (Ne.symm h) rfl rfl) ⟨[],i,false,?_,rfl,rfl,?_,?_,?_,?_,?_⟩ ?_
 ·rfl
 ·omega
 ·simp
 ·omega
 ·simp
 ·simp
 rintro m xs o ⟨l,j,bad,rfl,rfl,rfl,hj,hl0,hij,hR,hN⟩
 cases bad with
 | true =>
  have hN:=hN rfl;refine vK1 ?_;refine AW.e fun h=>?_;refine AW.imp (Imp.frz 3 ?_);refine gS ?_;refine vK1 ?_;refine AW.c (fun h=>?_) fun h=>?_
  ·refine vK1 ?_
   (refine AW.ret (EndsG.imp (Imp.dB (b:=b2) caa ?_));refine gS ?_;refine EndsG.dK rfl (RdQ.no (at_ l 0) (j:=j) hN Ir) ?_;exact gO)
  ·refine vK1 ?_
   (refine AW.ret (EndsG.imp (Imp.dB (b:=b2) caa ?_));refine gS ?_;refine EndsG.dK rfl (RdQ.no (.mk 2 [] l) (j:=j) hN Ir) ?_;exact gO)
 | false =>
  have hR:=hR rfl;refine vK1 ?_;refine AW.c (fun h=>?_) fun h=>?_
  ·have hc:=h
   (refine vK1 ?_;intro K hK)
   refine GK.rd (fun p k hq hk=>?_) (fun p k hq hk=>?_)
   ·have hb:=ze hq
    have hgo:∀ pp jj,post s p k=(pp,jj)->gp s jj (l++[pp])=gp s i []:=fun pp jj e=>by
     rw [<- hR.2,<- Jb l hc.1.1 hc.1.2 hc.2 (by rw [lf,hq];simp only [e])]
    (refine vK1 ?_;intro h h)
    rename_i b4;refine AW.c (fun h=>?_) fun h=>?_
    ·simp only [h,cond_true];have hl2:=cn.1 h
     have hpo:=hgo (.mk 4 [] [p]) (k+1) (by rw [post];simp [*]);refine vN1 ?_;refine AW.O2 fun K hK=>?_;refine gS ?_;refine vN1 ?_;refine AW.imp (Imp.dB (b:=b4) caa ?_);refine gS ?_;refine vK1 ?_;exact ⟨_,[_],[(b2,some kaa),(b,some (jaa s (k+1:Nat) false))],by simp;omega,⟨l++[.mk 4 [] [p]],k+1,false,rfl,rfl,rfl,Ir,by simp;omega,Ir,fun _=>⟨by simp;omega,hpo⟩,QC⟩,by simp [dz,lL,ja,jb],gO⟩
    simp only [h,cond_false];refine vK1 ?_;refine AW.c (fun h=>?_) fun h=>?_
    ·simp only [h,cond_true];have hl2:=cn.1 h
     have hpo:=hgo (.mk 2 [] [p,.mk 4 [] [p]]) (k+1) (by rw [post];simp [*]);refine vN1 ?_;refine AW.LD fun K hK=>?_;refine gS ?_;refine vN1 ?_;refine AW.imp (Imp.dB (b:=b4) caa ?_);refine gS ?_;refine vK1 ?_;exact ⟨_,[_],[(b2,some kaa),(b,some (jaa s (k+1:Nat) false))],by simp;omega,⟨l++[.mk 2 [] [p,.mk 4 [] [p]]],k+1,false,rfl,rfl,rfl,Ir,by simp;omega,Ir,fun _=>⟨by simp;omega,hpo⟩,QC⟩,by simp [dz,lL,ja,jb],gO⟩
    simp only [h,cond_false];refine vK1 ?_;refine AW.c (fun h=>?_) fun h=>?_
    ·simp only [h,cond_true];have hl2:=cn.1 h
     have hpo:=hgo (.mk 5 [] [p]) (k+1) (by rw [post];simp [*]);refine vN1 ?_;refine AW.O2 fun K hK=>?_;refine gS ?_;refine vN1 ?_;refine AW.imp (Imp.dB (b:=b4) caa ?_);refine gS ?_;refine vK1 ?_;exact ⟨_,[_],[(b2,some kaa),(b,some (jaa s (k+1:Nat) false))],by simp;omega,⟨l++[.mk 5 [] [p]],k+1,false,rfl,rfl,rfl,Ir,by simp;omega,Ir,fun _=>⟨by simp;omega,hpo⟩,QC⟩,by simp [dz,lL,ja,jb],gO⟩
    ·simp only [h,cond_false];have hpo:=hgo p k (by rw [post];simp [*]);refine vK1 ?_;exact ⟨_,[_],[(b2,some kaa),(b,some (jaa s (k:Nat) false))],by simp;omega,⟨l++[p],k,false,rfl,rfl,rfl,Ir,by simp;omega,Ir,fun _=>⟨by simp;omega,hpo⟩,QC⟩,by simp [dz,lL,ja,jb],gO⟩
   ·have hN':gp s i []=none:=by rw [<- hR.2,Dr l hc.1.1 hc.1.2 hc.2 (by rw [lf,hq])]
    (refine vK1 ?_;intro h h)
    refine AW.e fun h=>?_;refine vK1 ?_;refine AW.e fun h=>?_;refine vK1 ?_;refine AW.e fun h=>?_;refine vK1 ?_;exact ⟨_,[_],[(b2,some kaa),(b,some (jaa s k true))],QC,⟨l++[p],k,true,rfl,rfl,rfl,Ir,by simp;omega,Ir,QC,fun _=>hN'⟩,by simp [dz],gO⟩
  ·refine AW.imp (Imp.frz 3 ?_);refine gS ?_;refine vK1 ?_;refine AW.c (fun h=>?_) fun h=>?_
   ·refine vK1 ?_
    (refine AW.ret (EndsG.imp (Imp.dB (b:=b2) caa ?_));refine gS ?_;refine EndsG.dK rfl (RdQ.yes (p:=at_ l 0) (j:=j) (by rw [<- hR.2,rA l Ir,mkSeq,if_pos Ir]) Ir) ?_;exact gO)
   ·refine vK1 ?_
    (refine AW.ret (EndsG.imp (Imp.dB (b:=b2) caa ?_));refine gS ?_;refine EndsG.dK rfl (RdQ.yes (p:=.mk 2 [] l) (j:=j) (by rw [<- hR.2,rA l Ir,mkSeq,if_neg Ir]) Ir) ?_;exact gO)
end
section
theorem SV(n:Nat)(abj:∀ (b:Nat) (s:Str) (i:Nat),fZ lim prog 344 [(b,some (jaa s i false))] [.ptr b 0] (RdQ b s i (gp s i [])) (i<=s.length/\s.length<=30/\s.length - i<n))(b:Nat)(s:Str)(i:Nat) :
  fZ lim prog 329 [(b,some (jaa s i false))] [.ptr b 0] (RdQ b s i (gN s i)) (i<=s.length/\s.length<=30/\s.length - i<n):=by
 refine fZ.gf (aU 329) func329 rfl rfl fun hp=>(?_);rw [ntmps329]
 (refine vK1 ?_;with_reducible repeat first|intro (K:_->_->Prop) hK|intro h)
 rename_i b2;refine GK.rdB fun p j bad hq hj=>?_;refine vK1 ?_;refine AW.aw [3] [0,2] (fun m xs o=>∃ (l:List bk) (j:Nat) (bad:Bool),xs=[.sl true 3 (l.map bM)]/\o=[(b2,some kaa),(b,some (jaa s j bad))]/\m=s.length - j/\j<=s.length/\l.length<=j+1/\i<=j/\(bad=false->lg s j l=gN s i)/\(bad=true->gN s i=none)) _ [(b2,some kaa),(b,some (jaa s j bad))] (iA (Ne.symm h) rfl rfl) ⟨[p],j,bad,?_,rfl,rfl,?_,?_,?_,?_,?_⟩ ?_
 ·simp [T,dz]
 ·omega
 ·simp
 ·omega
 ·rintro rfl;rcases hq with ⟨_,hq⟩|⟨h,_⟩
  ·exact (Jd hp.1 hq).symm
  ·cases h
 ·rintro rfl;rcases hq with ⟨h,_⟩|⟨_,hq⟩
  ·cases h
  ·exact Ds hq
 clear hq hj bad;rintro m xs o ⟨l,j,bad,rfl,rfl,rfl,hj,hl,hij,hR,hN⟩
 cases bad with
 | true =>
  have hN:=hN rfl;refine vK1 ?_;refine AW.e fun h=>?_;refine AW.imp (Imp.frz 3 ?_);refine gS ?_;refine vK1 ?_;refine AW.c (fun h=>?_) fun h=>?_
  ·refine vK1 ?_
   (refine AW.ret (EndsG.imp (Imp.dB (b:=b2) caa ?_));refine gS ?_;refine EndsG.dK rfl (RdQ.no (at_ l 0) (j:=j) hN Ir) ?_;exact gO)
  ·refine vK1 ?_
   (refine AW.ret (EndsG.imp (Imp.dB (b:=b2) caa ?_));refine gS ?_;refine EndsG.dK rfl (RdQ.no (.mk 3 [] l) (j:=j) hN Ir) ?_;exact gO)
 | false =>
  have hR:=hR rfl;refine vK1 ?_;refine AW.c (fun h=>?_) fun h=>?_
  ·simp only [h,cond_true];have hlt:=cn.1 h
   (refine vK1 ?_;intro K hK)
   refine GK.rd (fun p k hq hk=>?_) (fun p k hq hk=>?_)
   ·refine vK1 ?_;exact ⟨_,[_],[(b2,some kaa),(b,some (jaa s k false))],Ir,⟨l++[p],k,false,rfl,rfl,rfl,Ir,by simp;omega,Ir,fun _=>by rw [<- hR,FN l h hq],QC⟩,by simp [dz],gO⟩
   ·refine vK1 ?_;exact ⟨_,[_],[(b2,some kaa),(b,some (jaa s k true))],Ir,⟨l++[p],k,true,rfl,rfl,rfl,Ir,by simp;omega,Ir,QC,fun _=>by rw [<- hR,AU l h hq]⟩,by simp [dz],gO⟩
  ·simp only [h,cond_false];have hst:=AR l h;refine AW.imp (Imp.frz 3 ?_);refine gS ?_;refine vK1 ?_;refine AW.c (fun h=>?_) fun h=>?_
   ·refine vK1 ?_
    (refine AW.ret (EndsG.imp (Imp.dB (b:=b2) caa ?_));refine gS ?_;refine EndsG.dK rfl (RdQ.yes (p:=at_ l 0) (j:=j) (by rw [<- hR,hst,uH,if_pos Ir]) Ir) ?_;exact gO)
   ·refine vK1 ?_
    (refine AW.ret (EndsG.imp (Imp.dB (b:=b2) caa ?_));refine gS ?_;refine EndsG.dK rfl (RdQ.yes (p:=.mk 3 [] l) (j:=j) (by rw [<- hR,hst,uH,if_neg Ir]) Ir) ?_;exact gO)
theorem DC:∀ (n:Nat) (b:Nat) (s:Str) (i:Nat),fZ lim prog 329 [(b,some (jaa s i false))] [.ptr b 0] (RdQ b s i (gN s i)) (i<=s.length/\s.length<=30/\s.length - i<n)
 | 0,_,_,_=>⟨(aU 329),fun h=>absurd h.2.2 (Nat.not_lt_zero _)⟩
 | n+1,b,s,i=>SV (n+1) (SU (n+1) (PA n (DC n))) b s i
instance acr(b:Nat)(s:Str):fZ lim prog 329 [(b,some (jaa s 0 false))] [.ptr b 0] (RdQ b s 0 (gN s 0)) (s.length<=30):=⟨(aU 329),fun h=>(DC 31 b s 0).out ⟨Ir,h,Ir⟩⟩
instance QV(s:Str):Ctr lim prog 296 [] [.str s] (.tup [.agg [.aa (eu s).1.fOp,.str (eu s).1.bI,.sl false 3 ((eu s).1.af.map bM)],.ac (eu s).2]) [] True:=by
 refine Ctr.bd func296 ntmps296 fun hp=>?_;refine AW.f0 0 fun hf=>?_;by_cases hlen:30<s.length
 ·have hd:decide (30<(s.length:Int))=true:=by simp;omega
  have e:=AP (s:=s) Ir
  (refine vQ1 hd ?_;with_reducible repeat first|intro (K:_->_->Prop) hK|intro h)
  rename_i b2 b3;refine AW.e fun h=>?_;refine vX1 ?_
  (refine AW.ret (EndsG.imp (Imp.iK (b:=b2) 3 [.aa 0,.str []] [] gO ?_));refine gS ?_;refine EndsG.fin rfl ?_;simp (maxSteps:=2000000) (disch:=omega) only [go_sem,e,pz,lL,ja,jb])
 ·have hd:decide (30<(s.length:Int))=false:=by simp;omega
  (refine vQ1 hd ?_;with_reducible repeat first|intro (K:_->_->Prop) hK|intro h)
  rename_i b2 b3;refine AW.e fun h=>?_
  (refine vK1 ?_;intro K hK)
  refine GK.rd (fun p j hq hj=>?_) (fun p j hq hj=>?_)
  ·(refine vK1 ?_;intro h h)
   refine AW.c (fun h=>?_) fun h=>?_
   ·have e:=AL hq Ir;refine vX1 ?_
    (refine AW.ret (EndsG.imp (Imp.iK (b:=b2) 3 [.aa 0,.str []] [] gO ?_));refine gS ?_;refine EndsG.fin rfl ?_;simp (maxSteps:=2000000) (disch:=omega) only [go_sem,e,pz,lL,ja,jb])
   ·have e:=Dq Ir hq Ir;exact vP0 e
  ·have e:=AO hq
   (refine vK1 ?_;intro h h)
   refine AW.e fun h=>?_;refine vX1 ?_
   (refine AW.ret (EndsG.imp (Imp.iK (b:=b2) 3 [.aa 0,.str []] [] gO ?_));refine gS ?_;refine EndsG.fin rfl ?_;simp (maxSteps:=2000000) (disch:=omega) only [go_sem,e,pz,lL,ja,jb])
instance UZ(s:Str):Ctr lim prog 256 [] [.str s] (.ac (jO s)) [] True:=by refine Ctr.bd func256 ntmps256 fun hp=>?_;have e:=tq s;exact vP0 e
end
end Go.Proofs
