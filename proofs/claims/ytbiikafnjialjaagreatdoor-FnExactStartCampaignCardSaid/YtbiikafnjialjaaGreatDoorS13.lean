/- Part of a proof. -/
import Derived.Test.YtbiikafnjialjaaGreatDoorS12
set_option linter.all false
set_option maxRecDepth 20000
set_option maxHeartbeats 4000000
open Go.Proofs.Tryz
open List
namespace Go.Dt
open Go.Ab
@[go_sem] def mV(a:Int)(b:Str)(c:List bE):(bE.mk a b c).fOp=a:=rfl
@[go_sem] def kz(a:Int)(b:Str)(c:List bE):(bE.mk a b c).cS=b:=rfl
@[go_sem] def kC(a:Int)(b:Str)(c:List bE):(bE.mk a b c).af=c:=rfl
def rdC(s:Str)(i:Nat)(bad:Bool):List AV:=[.str s,.v (.int .i64 i),.v (.bool bad)]
def RdQ(b:Nat)(s:Str)(i:Nat)(r:Option (bE×Nat))(res:AV)(os:Sto):Prop :=
 ∃p j bad,(bad=false/\r=some (p,j)\/bad=true/\r=none)/\(i<=j/\j<=s.length)/\res=cq p/\os=[(b,some (rdC s j bad))]
def RdQ.yes{b:Nat}{s:Str}{i:Nat}{r:Option (bE×Nat)}{p:bE}{j:Nat}(h:r=some (p,j))(hj:i<=j/\j<=s.length):RdQ b s i r (cq p) [(b,some (rdC s j false))]:=⟨p,j,false,.inl ⟨rfl,h⟩,hj,rfl,rfl⟩
def RdQ.no{b:Nat}{s:Str}{i:Nat}{r:Option (bE×Nat)}(p:bE){j:Nat}(h:r=none)(hj:i<=j/\j<=s.length):RdQ b s i r (cq p) [(b,some (rdC s j true))]:=⟨p,j,true,.inr ⟨rfl,h⟩,hj,rfl,rfl⟩
def GK.rdB{os:Sto}{b:Nat}{c:Option (List AV)}{s:Str}{i:Nat}{r:Option (bE×Nat)}{K:AV->Sto->Prop}(h:∀p j bad,(bad=false/\r=some (p,j)\/bad=true/\r=none)->i<=j/\j<=s.length->K (cq p) (mergeO os [(b,some (rdC s j bad))])):GK os [(b,c)] (RdQ b s i r) (K:=⟨K⟩):=by refine GK.intro ?_;rintro res os' ⟨p,j,bad,hr,hj,rfl,rfl⟩;exact⟨rfl,h p j bad hr hj⟩
def GK.rd{os:Sto}{b:Nat}{c:Option (List AV)}{s:Str}{i:Nat}{r:Option (bE×Nat)}{K:AV->Sto->Prop}(h1:∀p j,r=some (p,j)->i<=j/\j<=s.length->K (cq p) (mergeO os [(b,some (rdC s j false))]))(h2:∀p j,r=none->i<=j/\j<=s.length->K (cq p) (mergeO os [(b,some (rdC s j true))])):GK os [(b,c)] (RdQ b s i r) (K:=⟨K⟩):=by
 refine GK.rdB ?_;rintro p j bad (⟨rfl,h⟩|⟨rfl,h⟩) hj
 ·exact h1 p j h hj
 ·exact h2 p j h hj
def EndsG.eW{L:gaa}{P:Program}{n:Nat}{fn:Func}{t:faa}{o o':Sto}{rs:List ResultVar}{res:AV}{Q:AV->Sto->Prop}(hr:fn.results=rs.toArray)(hQ:Q res o')(h:qo P n rs t o [] (λxs os=>rJ xs=res/\jM o' os)):EndsG L P fn ⟨n,t,o⟩ Q:=by have:=EndsG.fin (L:=L) hr h;intro B F0 w0 a w hd;obtain⟨v,FA,os',F',own',fs',fp,h3,⟨rfl,rfl⟩,h5⟩:=this B F0 w0 a w hd;exact⟨v,FA,os',F',own',fs',fp,h3,hQ,h5⟩
attribute [go_sem] rdC Int.toNat_zero
end Go.Dt
namespace Go.Proofs
open Go.Ab Go.Dt
theorem VP(n:Nat)(Y0:∀(b:Nat) (s:Str) (i:Nat),fe lim prog 358 [(b,some (laa s i false))] [.ptr b 0] (RdQ b s i (kE s i)) (i<s.length/\s.length<=30/\s.length - i<n))(b:Nat)(s:Str)(i:Nat) :
  fe lim prog 338 [(b,some (laa s i false))] [.ptr b 0] (RdQ b s i (mC s i)) (i<s.length/\s.length<=30/\s.length - i<n):=by
 refine fe.fX (aT 338) func338 rfl rfl λhp=>(?_);rw[ntmps338]
 (refine vK1 ?_;with_reducible repeat first|intro(K:_->_->Prop) hK|intro h)
 rename_i b2;have abR:∀p j,kE s i=some (p,j)->mC s i=some (post s p j):=λp j h=>by rw[mC,h]
 refine GK.rd (λp j hq hj=>?_) (λp j hq hj=>?_)
 ·have hb:=zJ hq
  have hpi:=abR p j hq
  (refine vK1 ?_;intro h h)
  rename_i b3;refine AW.c (λh=>?_) λh=>?_
  ·simp only[h,cond_true];have hlt:=df.1 h;refine vK1 ?_
   (refine AW.ret (EndsG.imp (Imp.fQ (b:=b2) eaa ?_));refine gS ?_;refine EndsG.eW rfl (RdQ.yes (p:=.mk 4 [] [p]) (j:=j+1) (by rw[hpi,post];simp[*]) Um) ?_;exact gO)
  ·simp only[h,cond_false];refine vK1 ?_;refine AW.c (λh=>?_) λh=>?_
   ·simp only[h,cond_true];have hlt:=df.1 h;refine vK1 ?_
    (refine AW.ret (EndsG.imp (Imp.fQ (b:=b2) eaa ?_));refine gS ?_;refine EndsG.eW rfl (RdQ.yes (p:=.mk 2 [] [p,.mk 4 [] [p]]) (j:=j+1) (by rw[hpi,post];simp[*]) Um) ?_;exact gO)
   ·simp only[h,cond_false];refine vK1 ?_;refine AW.c (λh=>?_) λh=>?_
    ·simp only[h,cond_true];have hlt:=df.1 h;refine vK1 ?_
     (refine AW.ret (EndsG.imp (Imp.fQ (b:=b2) eaa ?_));refine gS ?_;refine EndsG.eW rfl (RdQ.yes (p:=.mk 5 [] [p]) (j:=j+1) (by rw[hpi,post];simp[*]) Um) ?_;exact gO)
    ·simp only[h,cond_false];refine vK1 ?_
     (refine AW.ret (EndsG.imp (Imp.fQ (b:=b2) eaa ?_));refine gS ?_;refine EndsG.eW rfl (RdQ.yes (p:=p) (j:=j) (by rw[hpi,post];simp[*]) Um) ?_;exact gO)
 ·have hpi:mC s i=none:=by rw[mC,hq]
  (refine vK1 ?_;intro h h)
  rename_i b3;refine AW.c (λh=>?_) λh=>?_
  ·simp only[h,cond_true];have hlt:=df.1 h;refine vK1 ?_
   (refine AW.ret (EndsG.imp (Imp.fQ (b:=b2) eaa ?_));refine gS ?_;refine EndsG.eW rfl (RdQ.no (.mk 4 [] [p]) (j:=j+1) hpi Um) ?_;exact gO)
  ·simp only[h,cond_false];refine vK1 ?_;refine AW.c (λh=>?_) λh=>?_
   ·simp only[h,cond_true];have hlt:=df.1 h;refine vK1 ?_
    (refine AW.ret (EndsG.imp (Imp.fQ (b:=b2) eaa ?_));refine gS ?_;refine EndsG.eW rfl (RdQ.no (.mk 2 [] [p,.mk 4 [] [p]]) (j:=j+1) hpi Um) ?_;exact gO)
   ·simp only[h,cond_false];refine vK1 ?_;refine AW.c (λh=>?_) λh=>?_
    ·simp only[h,cond_true];have hlt:=df.1 h;refine vK1 ?_
     (refine AW.ret (EndsG.imp (Imp.fQ (b:=b2) eaa ?_));refine gS ?_;refine EndsG.eW rfl (RdQ.no (.mk 5 [] [p]) (j:=j+1) hpi Um) ?_;exact gO)
    ·simp only[h,cond_false];refine vK1 ?_
     (refine AW.ret (EndsG.imp (Imp.fQ (b:=b2) eaa ?_));refine gS ?_;refine EndsG.eW rfl (RdQ.no p (j:=j) hpi Um) ?_;exact gO)
theorem Yf(n:Nat)(aeK:∀(b:Nat) (s:Str) (i:Nat),fe lim prog 338 [(b,some (laa s i false))] [.ptr b 0] (RdQ b s i (mC s i)) (i<s.length/\s.length<=30/\s.length - i<n))(b:Nat)(s:Str)(i:Nat) :
  fe lim prog 315 [(b,some (laa s i false))] [.ptr b 0] (RdQ b s i (iG s i [])) (i<=s.length/\s.length<=30/\s.length - i<n):=by
 refine fe.fX (aT 315) func315 rfl rfl λhp=>(?_);rw[ntmps315]
 (refine vK1 ?_;intro h h)
 rename_i b2;refine AW.aw [3] [0,2] (λm xs o=>∃(l:List bE) (j:Nat) (bad:Bool),xs=[.sl true 3 (l.map cq)]/\o=[(b2,some maa),(b,some (laa s j bad))]/\m=(if bad then 0 else s.length - j+1)/\j<=s.length/\l.length<=31/\i<=j/\(bad=false->i<=j/\l.length<=j/\iG s j l=iG s i [])/\(bad=true->iG s i []=none)) _ [(b2,some maa),(b,some (laa s i false))] (gX (Ne.symm h) rfl rfl) ⟨[],i,false,?_,rfl,rfl,?_,?_,?_,?_,?_⟩ ?_
 ·rfl
 ·omega
 ·simp
 ·omega
 ·simp
 ·simp
 rintro m xs o ⟨l,j,bad,rfl,rfl,rfl,hj,hl0,hij,hR,hN⟩
 cases bad with
 | true =>
  have hN:=hN rfl;refine vK1 ?_;refine AW.e λh=>?_;refine AW.imp (Imp.frz 3 ?_);refine gS ?_;refine vK1 ?_;refine AW.c (λh=>?_) λh=>?_
  ·refine vK1 ?_
   (refine AW.ret (EndsG.imp (Imp.fQ (b:=b2) eaa ?_));refine gS ?_;refine EndsG.eW rfl (RdQ.no (at_ l 0) (j:=j) hN Um) ?_;exact gO)
  ·refine vK1 ?_
   (refine AW.ret (EndsG.imp (Imp.fQ (b:=b2) eaa ?_));refine gS ?_;refine EndsG.eW rfl (RdQ.no (.mk 2 [] l) (j:=j) hN Um) ?_;exact gO)
 | false =>
  have hR:=hR rfl;refine vK1 ?_;refine AW.c (λh=>?_) λh=>?_
  ·rename_i hc
   (refine vK1 ?_;intro K hK)
   refine GK.rd (λp k hq hk=>?_) (λp k hq hk=>?_)
   ·have hb:=FJ hq;refine vK1 ?_;exact⟨_,[_],[(b2,some maa),(b,some (laa s k false))],by simp;omega,⟨l++[p],k,false,rfl,rfl,rfl,Um,by simp;omega,Um,λ_=>⟨Um,by simp;omega,by rw[<- hR.2.2,I9 l h.1.1 h.1.2 h.2 hq]⟩,Xp⟩,by simp[eG],gO⟩
   ·refine vK1 ?_;exact⟨_,[_],[(b2,some maa),(b,some (laa s k true))],Xp,⟨l++[p],k,true,rfl,rfl,rfl,Um,by simp;omega,Um,Xp,λ_=>by rw[<- hR.2.2,DK l h.1.1 h.1.2 h.2 hq]⟩,by simp[eG],gO⟩
  ·refine AW.imp (Imp.frz 3 ?_);refine gS ?_;refine vK1 ?_;refine AW.c (λh=>?_) λh=>?_
   ·refine vK1 ?_
    (refine AW.ret (EndsG.imp (Imp.fQ (b:=b2) eaa ?_));refine gS ?_;refine EndsG.eW rfl (RdQ.yes (p:=at_ l 0) (j:=j) (by rw[<- hR.2.2,sI l Um,mkSeq,if_pos Um]) Um) ?_;exact gO)
   ·refine vK1 ?_
    (refine AW.ret (EndsG.imp (Imp.fQ (b:=b2) eaa ?_));refine gS ?_;refine EndsG.eW rfl (RdQ.yes (p:=.mk 2 [] l) (j:=j) (by rw[<- hR.2.2,sI l Um,mkSeq,if_neg Um]) Um) ?_;exact gO)
instance(b:Nat)(s:Str)(i:Nat):Ctr lim prog 315 [(b,some (laa s i true))] [.ptr b 0] (.agg [.aa 2,.str [],.sl false 3 []]) [some (laa s i true)] True:=by
 refine Ctr.bd func315 ntmps315 λhp=>?_
 (refine vK1 ?_;intro h h)
 rename_i b2;refine AW.aw [3] [0,2] (λm xs o=>xs=[.sl true 3 []]/\o=[(b2,some maa),(b,some (laa s i true))]) 0 [(b2,some maa),(b,some (laa s i true))] (gX (Ne.symm h) rfl rfl) ⟨rfl,rfl⟩ ?_;rintro m xs o ⟨rfl,rfl⟩;refine vK1 ?_;refine AW.e λh=>?_;refine AW.imp (Imp.frz 3 ?_);refine gS ?_;refine vK1 ?_;refine AW.c (λh=>?_) λh=>?_
 ·simp at h
 ·all_goals exact uU
theorem Zn(n:Nat)(abM:∀(b:Nat) (s:Str) (i:Nat),fe lim prog 315 [(b,some (laa s i false))] [.ptr b 0] (RdQ b s i (iG s i [])) (i<=s.length/\s.length<=30/\s.length - i<n))(b:Nat)(s:Str)(i:Nat) :
  fe lim prog 286 [(b,some (laa s i false))] [.ptr b 0] (RdQ b s i (iY s i)) (i<=s.length/\s.length<=30/\s.length - i<n):=by
 refine fe.fX (aT 286) func286 rfl rfl λhp=>(?_);rw[ntmps286]
 (refine vK1 ?_;with_reducible repeat first|intro(K:_->_->Prop) hK|intro h)
 rename_i b2;refine GK.rdB λp j bad hq hj=>?_;refine vK1 ?_;refine AW.aw [3] [0,2] (λm xs o=>∃(l:List bE) (j:Nat) (bad:Bool),xs=[.sl true 3 (l.map cq)]/\o=[(b2,some maa),(b,some (laa s j bad))]/\m=s.length - j/\j<=s.length/\l.length<=j+1/\i<=j/\(bad=false->mD s j l=iY s i)/\(bad=true->iY s i=none)) _ [(b2,some maa),(b,some (laa s j bad))] (gX (Ne.symm h) rfl rfl) ⟨[p],j,bad,?_,rfl,rfl,?_,?_,?_,?_,?_⟩ ?_
 ·simp[T,eG]
 ·omega
 ·simp
 ·omega
 ·rintro rfl;rcases hq with⟨_,hq⟩|⟨h,_⟩
  ·exact(Jb hp.1 hq).symm
  ·cases h
 ·rintro rfl;rcases hq with⟨h,_⟩|⟨_,hq⟩
  ·cases h
  ·exact DL hq
 clear hq hj bad;rintro m xs o ⟨l,j,bad,rfl,rfl,rfl,hj,hl,hij,hR,hN⟩;refine vK1 ?_;refine AW.c (λh=>?_) λh=>?_
 ·simp only[h,cond_true];have hlt:=df.1 h
  cases bad with
  | true =>
   have hN:=hN rfl;refine vK1 ?_;exact⟨_,[_],[(b2,some maa),(b,some (laa s (j+1:Nat) true))],Um,⟨l++[.mk 2 [] []],j+1,true,rfl,rfl,rfl,Um,by simp;omega,Um,Xp,λ_=>hN⟩,by simp[eG,mV,kz,kC],gO⟩
  | false =>
   have hR:=hR rfl
   (refine vK1 ?_;intro K hK)
   refine GK.rd (λp k hq hk=>?_) (λp k hq hk=>?_)
   ·refine vK1 ?_;exact⟨_,[_],[(b2,some maa),(b,some (laa s k false))],Um,⟨l++[p],k,false,rfl,rfl,rfl,Um,by simp;omega,Um,λ_=>by rw[<- hR,FK l h hq],Xp⟩,by simp[eG],gO⟩
   ·refine vK1 ?_;exact⟨_,[_],[(b2,some maa),(b,some (laa s k true))],Um,⟨l++[p],k,true,rfl,rfl,rfl,Um,by simp;omega,Um,Xp,λ_=>by rw[<- hR,Bu l h hq]⟩,by simp[eG],gO⟩
 ·rename_i aeI;simp only[h,cond_false];refine AW.imp (Imp.frz 3 ?_);refine gS ?_;refine vK1 ?_
  cases bad with
  | true =>
   have hN:=hN rfl;refine AW.c (λh=>?_) λh=>?_
   ·refine vK1 ?_
    (refine AW.ret (EndsG.imp (Imp.fQ (b:=b2) eaa ?_));refine gS ?_;refine EndsG.eW rfl (RdQ.no (at_ l 0) (j:=j) hN Um) ?_;exact gO)
   ·refine vK1 ?_
    (refine AW.ret (EndsG.imp (Imp.fQ (b:=b2) eaa ?_));refine gS ?_;refine EndsG.eW rfl (RdQ.no (.mk 3 [] l) (j:=j) hN Um) ?_;exact gO)
  | false =>
   have hR:=hR rfl
   have hst:=Bt l h;refine AW.c (λh=>?_) λh=>?_
   ·refine vK1 ?_
    (refine AW.ret (EndsG.imp (Imp.fQ (b:=b2) eaa ?_));refine gS ?_;refine EndsG.eW rfl (RdQ.yes (p:=at_ l 0) (j:=j) (by rw[<- hR,hst,vr,if_pos Um]) Um) ?_;exact gO)
   ·refine vK1 ?_
    (refine AW.ret (EndsG.imp (Imp.fQ (b:=b2) eaa ?_));refine gS ?_;refine EndsG.eW rfl (RdQ.yes (p:=.mk 3 [] l) (j:=j) (by rw[<- hR,hst,vr,if_neg Um]) Um) ?_;exact gO)
end Go.Proofs
namespace Go.Dt
open Go.Ab
def oq(s:Str)(j:Nat)(h:Nat->Bool):Option ((Nat->Bool)×Nat) :=
 match nL s j with
 | none=>none
 | some (a,z,k)=>pN s k (λc=>h c || (decide (a<=(c:Int)) && decide ((c:Int)<=z)))
def HC{s:Str}{j:Nat}(h:Nat->Bool)(e:eP s j 93=true):pN s j h=some (h,j+1):=by rw[pN,if_pos e]
def JV{s:Str}{j:Nat}(h:Nat->Bool)(e:eP s j 93=false):pN s j h=oq s j h:=by
 rw[pN,if_neg (by rw[e];simp),oq];split
 ·rename_i he;rw[he]
 ·rename_i a z k he;rw[he]
def ll{s:Str}{j:Nat}(h:Nat->Bool)(e:nL s j=none):oq s j h=none:=by rw[oq,e]
def oJ{s:Str}{j:Nat}(h:Nat->Bool){a z:Int}{k:Nat}(e:nL s j=some (a,z,k)):oq s j h=pN s k (λc=>h c || (decide (a<=(c:Int)) && decide ((c:Int)<=z))):=by rw[oq,e]
def na(s:Str)(i:Nat):jG s i=(decide (i<s.length) && pG (at8 s i)):=rfl
def oK{s:Str}{i:Nat}(h:jG s i=true):i<s.length:=by rw[na,Bool.and_eq_true,decide_eq_true_eq]at h;exact h.1
def yM{s:Str}{j:Nat}(h:jG s j=false):nL s j=none:=by rw[na]at h;rw[nL,h];rfl
def Ax{s:Str}{j:Nat}(h:jG s j=true)(e:eP s (j+1) 126=false):nL s j=some (at8 s j,at8 s j,j+1):=by rw[na]at h;rw[nL,h,if_pos rfl,e];simp
def Aw{s:Str}{j:Nat}(h:jG s j=true)(e:eP s (j+1) 126=true)(h2:jG s (j+2)=true)(h3:at8 s j<=at8 s (j+2:Nat)):nL s j=some (at8 s j,at8 s (j+2:Nat),j+3):=by rw[na]at h h2;rw[nL,h,if_pos rfl,e,if_pos rfl,h2,decide_eq_true h3];rfl
def rY{s:Str}{j:Nat}(e:eP s (j+1) 126=true)(h2:jG s (j+2)=false\/at8 s (j+2:Nat)<at8 s j):nL s j=none:=by
 rw[nL];split
 ·rw[if_neg];rcases h2 with h2|h2
  ·rw[na]at h2;rw[h2];simp
  ·simp only[Bool.and_eq_true,decide_eq_true_eq,not_and];intro _;omega
 ·rfl
def Ej{s:Str}{i:Nat}(h1:eP s i 46=false)(h2:eP s i 91=true):lv s i=(match oq s (i+1) (λ_=>false)with|none=>none|some (has,k)=>some (qp (qF has),k)):=by
 rw[lv,if_neg (by rw[h1];simp),if_pos h2,oq]
 cases e:nL s (i+1)with
 | none=>rfl
 | some p =>
  obtain⟨a,z,j⟩:=p;simp only[Bool.false_or];rfl
def Ei{s:Str}{i:Nat}(h1:eP s i 46=true):lv s i=some (qp ot,i+1):=by rw[lv,if_pos h1]
def Oh{s:Str}{i:Nat}(h1:eP s i 46=false)(h2:eP s i 91=false)(hi:i<s.length)(h3:jG s i=true)(h4:¬at8 s i=95):lv s i=some (qp ((s.take (i+1)).drop i),i+1):=by
 have h5:¬at8 s i=46:=λe=>by rw[mR ⟨hi,e⟩]at h1;cases h1
 rw[lv,if_neg (by rw[h1];simp),if_neg (by rw[h2];simp),if_pos];rw[na,pG]at h3;have e1:(at8 s i == 95)=false:=by simpa using h4
 have e2:(at8 s i == 46)=false:=by simpa using h5
 rw[e1,e2,Bool.or_false,Bool.or_false]at h3;exact h3
def HJ{s:Str}{i:Nat}(h1:eP s i 46=false)(h2:eP s i 91=false)(hi:i<s.length)(h3:jG s i=true->at8 s i=95):lv s i=none:=by
 rw[lv,if_neg (by rw[h1];simp),if_neg (by rw[h2];simp),if_neg];intro h
 have hc:jG s i=true:=by
  rw[na,pG];simp only[Bool.and_eq_true,Bool.or_eq_true]at h ⊢;exact⟨h.1,by rcases h.2 with(e|e)|e<;>simp[e]⟩
 have:=h3 hc;rw[this]at h;simp[ltI,om]at h
def NC:bu (λc=>decide (32<=c) && decide (c<32))=bu (λ_=>false):=by congr 1;funext c;simp
def NB{k:Nat}(h:32<=k):bu (λc=>if c=k then true else decide (32<=c) && decide (c<k))=bu (λc=>decide (32<=c) && decide (c<k+1)):=by
 congr 1;funext c
 by_cases e:c=k
 ·subst e;simp[h]
 ·rw[if_neg e]
  congr 1
  exact decide_eq_decide.2 Um
def fJ(ha:Nat->Bool)(a:Int):bu (λc=>ha c || (decide (a<=(c:Int)) && decide ((c:Int)<a)))=bu ha:=by
 congr 1;funext c
 have:(decide (a<=(c:Int)) && decide ((c:Int)<a))=false:=by simp
 rw[this,Bool.or_false]
def fK(ha:Nat->Bool){a:Int}{y:Nat}(h:a<=(y:Int)):bu (λc=>if c=y then true else ha c || (decide (a<=(c:Int)) && decide ((c:Int)<(y:Int))))=bu (λc=>ha c || (decide (a<=(c:Int)) && decide ((c:Int)<((y+1:Nat):Int)))):=by
 congr 1;funext c
 by_cases e:c=y
 ·subst e;simp[h];right;omega
 ·rw[if_neg e]
  congr 2
  exact decide_eq_decide.2 Um
@[go_sem] def acN(s:Str)(n:Int):unb [.v (.int .u8 (at8 s n))]=some [UInt8.ofNat (at8 s n).toNat]:=by
 have h1:=ng s n
 have h2:=ni s n;simp only[unb,if_pos (And.intro h2 h1),Option.map_some]
def Ka{s:Str}{i:Nat}(h:i<s.length):(s.take (i+1)).drop i=[UInt8.ofNat (at8 s i).toNat]:=by
 have e:UInt8.ofNat (at8 s i).toNat=s[i]:=by simp[at8,getElem?_eq_getElem h]
 rw[drop_take,show i+1 - i=1 by omega,drop_eq_getElem_cons h,e];rfl
def oI(ha:Nat->Bool){a z:Int}{y:Int}(h:y=z+1):(λc:Nat=>ha c || (decide (a<=(c:Int)) && decide ((c:Int)<y)))=(λc:Nat=>ha c || (decide (a<=(c:Int)) && decide ((c:Int)<=z))):=by
 funext c
 congr 2
 exact decide_eq_decide.2 Um
def HS:qF (λc=>decide (32<=c) && decide (c<127))=ot:=by
 unfold ot
 congr 1;funext c
 congr 1
 exact decide_eq_decide.2 Um
end Go.Dt
namespace Go.Proofs
open Go.Ab Go.Dt
theorem WR(n:Nat)(halt:∀(b:Nat) (s:Str) (i:Nat),fe lim prog 286 [(b,some (laa s i false))] [.ptr b 0] (RdQ b s i (iY s i)) (i<=s.length/\s.length<=30/\s.length - i<n))(b:Nat)(s:Str)(i:Nat) :
  fe lim prog 358 [(b,some (laa s i false))] [.ptr b 0] (RdQ b s i (kE s i)) (i<s.length/\s.length<=30/\s.length - i<n+1):=by
 refine fe.fX (aT 358) func358 rfl rfl λhp=>(?_);rw[ntmps358]
 (refine vK1 ?_;intro h h h h)
 rename_i b2 hg1 b3;refine AW.c (λh=>?_) λh=>?_
 ·simp only[h,cond_true];have hlt:=df.1 h
  have KU:=zg h
  have PX:=λp j=>zf (p:=p) (j:=j) h
  have PW:=λp j=>ze (p:=p) (j:=j) h
  (refine vK1 ?_;intro K hK)
  refine GK.rd (λp j hq hj=>?_) (λp j hq hj=>?_)
  ·(refine vK1 ?_;intro h h)
   refine AW.c (λh=>?_) λh=>?_
   ·simp only[h,cond_false];refine vK1 ?_
    (refine AW.ret (EndsG.imp (Imp.fQ (b:=b2) eaa ?_));refine gS ?_;refine EndsG.eW rfl (RdQ.no p (j:=j) (PW p j hq h) Um) ?_;exact gO)
   ·simp only[h,cond_true];have hl2:=df.1 h;refine vK1 ?_
    (refine AW.ret (EndsG.imp (Imp.fQ (b:=b2) eaa ?_));refine gS ?_;refine EndsG.eW rfl (RdQ.yes (p:=p) (j:=j+1) (PX p j hq h) Um) ?_;exact gO)
  ·(refine vK1 ?_;intro h h)
   refine AW.c (λh=>?_) λh=>?_
   ·simp only[h,cond_false];refine vK1 ?_
    (refine AW.ret (EndsG.imp (Imp.fQ (b:=b2) eaa ?_));refine gS ?_;refine EndsG.eW rfl (RdQ.no p (j:=j) (KU hq) Um) ?_;exact gO)
   ·simp only[h,cond_true];have hl2:=df.1 h;refine vK1 ?_
    (refine AW.ret (EndsG.imp (Imp.fQ (b:=b2) eaa ?_));refine gS ?_;refine EndsG.eW rfl (RdQ.no p (j:=j+1) (KU hq) Um) ?_;exact gO)
 simp only[h,cond_false];have qy:=Bs hp.1 h;refine vK1 ?_;refine AW.c (λh=>?_) λh=>?_
 ·have P4:=Ei h;simp only[h,cond_true];refine vK1 ?_;refine AW.aw [5] [0,2,3] (λm xs o=>∃k:Nat,xs=[.aa k]/\o=[(b3,some (bu (λc=>decide (32<=c) && decide (c<k)))),(b2,some maa),(b,some (laa s (i+1:Nat) false))]/\m=127 - k/\32<=k/\k<=127) 95 [(b3,some (bu (λ_=>false))),(b2,some maa),(b,some (laa s (i+1:Nat) false))] gO ⟨32,rfl,?_,rfl,Um,Um⟩ ?_
  ·rw[NC]
  rintro m xs o ⟨k,rfl,rfl,rfl,hk1,hk2⟩;refine vK1 ?_;refine AW.c (λh=>?_) λh=>?_
  ·refine vK1 ?_;exact⟨_,[_],[(b3,some (bu (λc=>decide (32<=c) && decide (c<k+1)))),(b2,some maa),(b,some (laa s (i+1:Nat) false))],Um,⟨k+1,rfl,rfl,rfl,Um,Um⟩,rfl,by rw[<- NB hk1];simp(maxSteps:=2000000) (disch:=omega)only[go_sem]⟩
  ·have:k=127:=by omega
   subst this;refine vK1 ?_
   (refine AW.ret (EndsG.imp (Imp.fQ (b:=b2) eaa ?_));refine gS ?_;refine EndsG.eW rfl (RdQ.yes (p:=.mk 1 (qF (λc=>decide (32<=c) && decide (c<127))) []) (j:=i+1) (by rw[qy,P4,HS,qp]) Um) ?_;exact gO)
 simp only[h,cond_false];have hnd:=h;refine vK1 ?_;refine AW.c (λh=>?_) λh=>?_
 ·have C4:=Ej hnd h;simp only[h,cond_true];generalize hRR:oq s (i+1) (λ_=>false)=R at C4;refine vK1 ?_;refine AW.aw [6] [0,2,3] (λm xs o=>∃(k j:Nat) (ha:Nat->Bool) (bad:Bool),xs=[.aa k]/\o=[(b3,some (bu ha)),(b2,some maa),(b,some (laa s j bad))]/\m=(if bad then 0 else s.length - j+1)/\j<=s.length/\i<=j/\k<=31/\(bad=false->k<=j/\(if k=0 then oq s j ha else pN s j ha)=R)/\(bad=true->R=none)) _ [(b3,some (bu (λ_=>false))),(b2,some maa),(b,some (laa s (i+1:Nat) false))] gO ⟨0,i+1,λ_=>false,false,rfl,rfl,rfl,Um,Um,Um,λ_=>⟨Um,by rw[if_pos rfl];exact hRR⟩,Xp⟩ ?_;rintro m xs o ⟨k,j,ha,bad,rfl,rfl,rfl,hj,hij,hk,hR,hN⟩
  cases bad with
  | true =>
   have hN:=hN rfl;refine vK1 ?_;refine AW.e λh=>?_;refine vK1 ?_
   (refine AW.ret (EndsG.imp (Imp.fQ (b:=b2) eaa ?_));refine gS ?_;refine EndsG.eW rfl (RdQ.no (.mk 1 (qF ha) []) (j:=j) (by rw[qy,C4,hN]) Um) ?_;exact gO)
  | false =>
   have hR:=hR rfl;by_cases hk0:k=0
   ·subst hk0;have hS:oq s j ha=R:=by simpa using hR.2
    rw[show ((0:Nat):Int)=0 from rfl]
    (refine vK1 ?_;intro h)
    refine AW.e λh=>?_;have hge:=ni s (j:Int)
    have hle:=ng s (j:Int)
    have ab4:=ni s ((j+1:Nat):Int)
    have hle1:=ng s ((j+1:Nat):Int)
    have V8:=ni s ((j+1+1:Nat):Int)
    have hle2:=ng s ((j+1+1:Nat):Int)
    cases hch:jG s j with
    | false =>
     have hN':R=none:=by rw[<- hS,ll ha (yM hch)]
     (refine vQ1 hch ?_;with_reducible repeat first|intro(K:_->_->Prop) hK|intro h)
     refine AW.c (λh=>?_) λh=>?_
     ·simp only[h,cond_true];have hl2:=df.1 h
      cases hc2:jG s (j+1)with
      | true =>
       have hl3:=oK hc2
       (refine vQ1 hc2 ?_;with_reducible repeat first|intro(K:_->_->Prop) hK|intro h)
       refine AW.c (λh=>?_) λh=>?_
       ·omega
       ·refine vK1 ?_;refine AW.aw [9] [0,2,3,6,7,8] (λm xs o=>∃x:Int,xs=[.aa x]/\o=[(b3,some (bu (λc=>ha c || (decide (0<=(c:Int)) && decide ((c:Int)<x))))),(b2,some maa),(b,some (laa s (j+1+1:Nat) true))]/\m=(256 - x).toNat/\0<=x/\x<=256/\(0<=at8 s ((j+1:Nat):Int)->x<=at8 s ((j+1:Nat):Int)+1)/\(at8 s ((j+1:Nat):Int)<0->x=0)) _ [(b3,some (bu ha)),(b2,some maa),(b,some (laa s (j+1+1:Nat) true))] gO ⟨0,rfl,by rw[fJ],rfl,Um,Um,Um,Um⟩ ?_;rintro m xs o ⟨x,rfl,rfl,rfl,hx1,hx2,hx3,hx4⟩
        obtain⟨y,rfl⟩:∃y:Nat,x=y:=⟨x.toNat,Um⟩
        refine vK1 ?_;refine AW.c (λh=>?_) λh=>?_
        ·refine vK1 ?_
         try exact⟨_,[_],[(b3,some (bu (λc=>ha c || (decide (0<=(c:Int)) && decide ((c:Int)<((y+1:Nat):Int)))))),(b2,some maa),(b,some (laa s (j+1+1:Nat) true))],Um,⟨((y+1:Nat):Int),rfl,rfl,rfl,Um,Um,Um,Um⟩,Xp,by rw[<- fK ha Um];simp(maxSteps:=2000000) (disch:=omega)only[go_sem]⟩
        ·refine vK1 ?_;exact⟨0,[_],[(b3,some (bu (λc=>ha c || (decide (0<=(c:Int)) && decide ((c:Int)<(y:Int)))))),(b2,some maa),(b,some (laa s (j+1+1:Nat) true))],Xp,⟨0+1,j+1+1,_,true,rfl,rfl,rfl,Um,Um,Um,Xp,λ_=>hN'⟩,rfl,gO⟩
      | false =>
       (refine vQ1 hc2 ?_;with_reducible repeat first|intro(K:_->_->Prop) hK|intro h)
       refine AW.c (λh=>?_) λh=>?_
       ·omega
       ·refine vK1 ?_;refine AW.aw [9] [0,2,3,6,7,8] (λm xs o=>∃x:Int,xs=[.aa x]/\o=[(b3,some (bu (λc=>ha c || (decide (0<=(c:Int)) && decide ((c:Int)<x))))),(b2,some maa),(b,some (laa s (j+1:Nat) true))]/\m=(256 - x).toNat/\0<=x/\x<=256/\(0<=0->x<=0+1)/\(0<0->x=0)) _ [(b3,some (bu ha)),(b2,some maa),(b,some (laa s (j+1:Nat) true))] gO ⟨0,rfl,by rw[fJ],rfl,Um,Um,Um,Um⟩ ?_;rintro m xs o ⟨x,rfl,rfl,rfl,hx1,hx2,hx3,hx4⟩
        obtain⟨y,rfl⟩:∃y:Nat,x=y:=⟨x.toNat,Um⟩
        refine vK1 ?_;refine AW.c (λh=>?_) λh=>?_
        ·refine vK1 ?_
         try exact⟨_,[_],[(b3,some (bu (λc=>ha c || (decide (0<=(c:Int)) && decide ((c:Int)<((y+1:Nat):Int)))))),(b2,some maa),(b,some (laa s (j+1:Nat) true))],Um,⟨((y+1:Nat):Int),rfl,rfl,rfl,Um,Um,Um,Um⟩,Xp,by rw[<- fK ha Um];simp(maxSteps:=2000000) (disch:=omega)only[go_sem]⟩
        ·refine vK1 ?_;exact⟨0,[_],[(b3,some (bu (λc=>ha c || (decide (0<=(c:Int)) && decide ((c:Int)<(y:Int)))))),(b2,some maa),(b,some (laa s (j+1:Nat) true))],Xp,⟨0+1,j+1,_,true,rfl,rfl,rfl,Um,Um,Um,Xp,λ_=>hN'⟩,rfl,gO⟩
     ·simp only[h,cond_false];refine vK1 ?_;refine AW.c (λh=>?_) λh=>?_
      ·omega
      ·refine vK1 ?_;refine AW.aw [9] [0,2,3,6,7,8] (λm xs o=>∃x:Int,xs=[.aa x]/\o=[(b3,some (bu (λc=>ha c || (decide (0<=(c:Int)) && decide ((c:Int)<x))))),(b2,some maa),(b,some (laa s (j:Nat) true))]/\m=(256 - x).toNat/\0<=x/\x<=256/\(0<=0->x<=0+1)/\(0<0->x=0)) _ [(b3,some (bu ha)),(b2,some maa),(b,some (laa s (j:Nat) true))] gO ⟨0,rfl,by rw[fJ],rfl,Um,Um,Um,Um⟩ ?_;rintro m xs o ⟨x,rfl,rfl,rfl,hx1,hx2,hx3,hx4⟩
       obtain⟨y,rfl⟩:∃y:Nat,x=y:=⟨x.toNat,Um⟩
       refine vK1 ?_;refine AW.c (λh=>?_) λh=>?_
       ·refine vK1 ?_
        try exact⟨_,[_],[(b3,some (bu (λc=>ha c || (decide (0<=(c:Int)) && decide ((c:Int)<((y+1:Nat):Int)))))),(b2,some maa),(b,some (laa s (j:Nat) true))],Um,⟨((y+1:Nat):Int),rfl,rfl,rfl,Um,Um,Um,Um⟩,Xp,by rw[<- fK ha Um];simp(maxSteps:=2000000) (disch:=omega)only[go_sem]⟩
       ·refine vK1 ?_;exact⟨0,[_],[(b3,some (bu (λc=>ha c || (decide (0<=(c:Int)) && decide ((c:Int)<(y:Int)))))),(b2,some maa),(b,some (laa s (j:Nat) true))],Xp,⟨0+1,j,_,true,rfl,rfl,rfl,Um,Um,Um,Xp,λ_=>hN'⟩,rfl,gO⟩
    | true =>
     have hl1:=oK hch
     (refine vQ1 hch ?_;with_reducible repeat first|intro(K:_->_->Prop) hK|intro h)
     refine AW.c (λh=>?_) λh=>?_
     ·simp only[h,cond_true];have tI:=h
      have hl2:=df.1 h
      cases hc2:jG s (j+1+1)with
      | true =>
       have hl3:=oK hc2
       (refine vQ1 hc2 ?_;with_reducible repeat first|intro(K:_->_->Prop) hK|intro h)
       refine AW.c (λh=>?_) λh=>?_
       ·have hN':R=none:=by rw[<- hS,ll ha (rY tI (.inr h))]
        refine vK1 ?_;refine AW.aw [9] [0,2,3,6,7,8] (λm xs o=>∃x:Int,xs=[.aa x]/\o=[(b3,some (bu (λc=>ha c || (decide (at8 s (j:Int)<=(c:Int)) && decide ((c:Int)<x))))),(b2,some maa),(b,some (laa s (j+1+1+1:Nat) true))]/\m=(256 - x).toNat/\at8 s (j:Int)<=x/\x<=256/\(at8 s (j:Int)<=at8 s ((j+1+1:Nat):Int)->x<=at8 s ((j+1+1:Nat):Int)+1)/\(at8 s ((j+1+1:Nat):Int)<at8 s (j:Int)->x=at8 s (j:Int))) _ [(b3,some (bu ha)),(b2,some maa),(b,some (laa s (j+1+1+1:Nat) true))] gO ⟨at8 s (j:Int),rfl,by rw[fJ],rfl,Um,Um,Um,Um⟩ ?_;rintro m xs o ⟨x,rfl,rfl,rfl,hx1,hx2,hx3,hx4⟩
        obtain⟨y,rfl⟩:∃y:Nat,x=y:=⟨x.toNat,Um⟩
        refine vK1 ?_;refine AW.c (λh=>?_) λh=>?_
        ·exact vK0
         try exact⟨_,[_],[(b3,some (bu (λc=>ha c || (decide (at8 s (j:Int)<=(c:Int)) && decide ((c:Int)<((y+1:Nat):Int)))))),(b2,some maa),(b,some (laa s (j+1+1+1:Nat) true))],Um,⟨((y+1:Nat):Int),rfl,rfl,rfl,Um,Um,Um,Um⟩,Xp,by rw[<- fK ha Um];simp(maxSteps:=2000000) (disch:=omega)only[go_sem]⟩
        ·refine vK1 ?_;exact⟨0,[_],[(b3,some (bu (λc=>ha c || (decide (at8 s (j:Int)<=(c:Int)) && decide ((c:Int)<(y:Int)))))),(b2,some maa),(b,some (laa s (j+1+1+1:Nat) true))],Xp,⟨0+1,j+1+1+1,_,true,rfl,rfl,rfl,Um,Um,Um,Xp,λ_=>hN'⟩,rfl,gO⟩
       ·have hS2:=oJ ha (Aw hch tI hc2 h);refine vK1 ?_;refine AW.aw [9] [0,2,3,6,7,8] (λm xs o=>∃x:Int,xs=[.aa x]/\o=[(b3,some (bu (λc=>ha c || (decide (at8 s (j:Int)<=(c:Int)) && decide ((c:Int)<x))))),(b2,some maa),(b,some (laa s (j+1+1+1:Nat) false))]/\m=(256 - x).toNat/\at8 s (j:Int)<=x/\x<=256/\(at8 s (j:Int)<=at8 s ((j+1+1:Nat):Int)->x<=at8 s ((j+1+1:Nat):Int)+1)/\(at8 s ((j+1+1:Nat):Int)<at8 s (j:Int)->x=at8 s (j:Int))) _ [(b3,some (bu ha)),(b2,some maa),(b,some (laa s (j+1+1+1:Nat) false))] gO ⟨at8 s (j:Int),rfl,by rw[fJ],rfl,Um,Um,Um,Um⟩ ?_;rintro m xs o ⟨x,rfl,rfl,rfl,hx1,hx2,hx3,hx4⟩
        obtain⟨y,rfl⟩:∃y:Nat,x=y:=⟨x.toNat,Um⟩
        refine vK1 ?_;refine AW.c (λh=>?_) λh=>?_
        ·refine vK1 ?_
         try exact⟨_,[_],[(b3,some (bu (λc=>ha c || (decide (at8 s (j:Int)<=(c:Int)) && decide ((c:Int)<((y+1:Nat):Int)))))),(b2,some maa),(b,some (laa s (j+1+1+1:Nat) false))],Um,⟨((y+1:Nat):Int),rfl,rfl,rfl,Um,Um,Um,Um⟩,Xp,by rw[<- fK ha Um];simp(maxSteps:=2000000) (disch:=omega)only[go_sem]⟩
        ·refine vK1 ?_;exact⟨_,[_],[(b3,some (bu (λc=>ha c || (decide (at8 s (j:Int)<=(c:Int)) && decide ((c:Int)<(y:Int)))))),(b2,some maa),(b,some (laa s (j+1+1+1:Nat) false))],by simp;omega,⟨0+1,j+1+1+1,_,false,rfl,rfl,rfl,Um,Um,Um,λ_=>⟨Um,by rw[if_neg Um,oI ha (a:=at8 s (j:Int)) (z:=at8 s ((j+1+1:Nat):Int)) (y:=(y:Int)) Um,<- hS2,hS]⟩,Xp⟩,rfl,gO⟩
      | false =>
       have hN':R=none:=by rw[<- hS,ll ha (rY tI (.inl hc2))]
       (refine vQ1 hc2 ?_;with_reducible repeat first|intro(K:_->_->Prop) hK|intro h)
       refine AW.c (λh=>?_) λh=>?_
       ·refine vK1 ?_;refine AW.aw [9] [0,2,3,6,7,8] (λm xs o=>∃x:Int,xs=[.aa x]/\o=[(b3,some (bu (λc=>ha c || (decide (at8 s (j:Int)<=(c:Int)) && decide ((c:Int)<x))))),(b2,some maa),(b,some (laa s (j+1+1:Nat) true))]/\m=(256 - x).toNat/\at8 s (j:Int)<=x/\x<=256/\(at8 s (j:Int)<=0->x<=0+1)/\(0<at8 s (j:Int)->x=at8 s (j:Int))) _ [(b3,some (bu ha)),(b2,some maa),(b,some (laa s (j+1+1:Nat) true))] gO ⟨at8 s (j:Int),rfl,by rw[fJ],rfl,Um,Um,Um,Um⟩ ?_;rintro m xs o ⟨x,rfl,rfl,rfl,hx1,hx2,hx3,hx4⟩
        obtain⟨y,rfl⟩:∃y:Nat,x=y:=⟨x.toNat,Um⟩
        refine vK1 ?_;refine AW.c (λh=>?_) λh=>?_
        ·exact vK0
         try exact⟨_,[_],[(b3,some (bu (λc=>ha c || (decide (at8 s (j:Int)<=(c:Int)) && decide ((c:Int)<((y+1:Nat):Int)))))),(b2,some maa),(b,some (laa s (j+1+1:Nat) true))],Um,⟨((y+1:Nat):Int),rfl,rfl,rfl,Um,Um,Um,Um⟩,Xp,by rw[<- fK ha Um];simp(maxSteps:=2000000) (disch:=omega)only[go_sem]⟩
        ·refine vK1 ?_;exact⟨0,[_],[(b3,some (bu (λc=>ha c || (decide (at8 s (j:Int)<=(c:Int)) && decide ((c:Int)<(y:Int)))))),(b2,some maa),(b,some (laa s (j+1+1:Nat) true))],Xp,⟨0+1,j+1+1,_,true,rfl,rfl,rfl,Um,Um,Um,Xp,λ_=>hN'⟩,rfl,gO⟩
       ·refine vK1 ?_;refine AW.aw [9] [0,2,3,6,7,8] (λm xs o=>∃x:Int,xs=[.aa x]/\o=[(b3,some (bu (λc=>ha c || (decide (at8 s (j:Int)<=(c:Int)) && decide ((c:Int)<x))))),(b2,some maa),(b,some (laa s (j+1+1:Nat) true))]/\m=(256 - x).toNat/\at8 s (j:Int)<=x/\x<=256/\(at8 s (j:Int)<=0->x<=0+1)/\(0<at8 s (j:Int)->x=at8 s (j:Int))) _ [(b3,some (bu ha)),(b2,some maa),(b,some (laa s (j+1+1:Nat) true))] gO ⟨at8 s (j:Int),rfl,by rw[fJ],rfl,Um,Um,Um,Um⟩ ?_;rintro m xs o ⟨x,rfl,rfl,rfl,hx1,hx2,hx3,hx4⟩
        obtain⟨y,rfl⟩:∃y:Nat,x=y:=⟨x.toNat,Um⟩
        refine vK1 ?_;refine AW.c (λh=>?_) λh=>?_
        ·refine vK1 ?_
         try exact⟨_,[_],[(b3,some (bu (λc=>ha c || (decide (at8 s (j:Int)<=(c:Int)) && decide ((c:Int)<((y+1:Nat):Int)))))),(b2,some maa),(b,some (laa s (j+1+1:Nat) true))],Um,⟨((y+1:Nat):Int),rfl,rfl,rfl,Um,Um,Um,Um⟩,Xp,by rw[<- fK ha Um];simp(maxSteps:=2000000) (disch:=omega)only[go_sem]⟩
        ·refine vK1 ?_;exact⟨0,[_],[(b3,some (bu (λc=>ha c || (decide (at8 s (j:Int)<=(c:Int)) && decide ((c:Int)<(y:Int)))))),(b2,some maa),(b,some (laa s (j+1+1:Nat) true))],Xp,⟨0+1,j+1+1,_,true,rfl,rfl,rfl,Um,Um,Um,Xp,λ_=>hN'⟩,rfl,gO⟩
     ·simp only[h,cond_false];have hS2:=oJ ha (Ax hch h);refine vK1 ?_;refine AW.c (λh=>?_) λh=>?_
      ·omega
      ·refine vK1 ?_;refine AW.aw [9] [0,2,3,6,7,8] (λm xs o=>∃x:Int,xs=[.aa x]/\o=[(b3,some (bu (λc=>ha c || (decide (at8 s (j:Int)<=(c:Int)) && decide ((c:Int)<x))))),(b2,some maa),(b,some (laa s (j+1:Nat) false))]/\m=(256 - x).toNat/\at8 s (j:Int)<=x/\x<=256/\(at8 s (j:Int)<=at8 s (j:Int)->x<=at8 s (j:Int)+1)/\(at8 s (j:Int)<at8 s (j:Int)->x=at8 s (j:Int))) _ [(b3,some (bu ha)),(b2,some maa),(b,some (laa s (j+1:Nat) false))] gO ⟨at8 s (j:Int),rfl,by rw[fJ],rfl,Um,Um,Um,Um⟩ ?_;rintro m xs o ⟨x,rfl,rfl,rfl,hx1,hx2,hx3,hx4⟩
       obtain⟨y,rfl⟩:∃y:Nat,x=y:=⟨x.toNat,Um⟩
       refine vK1 ?_;refine AW.c (λh=>?_) λh=>?_
       ·refine vK1 ?_
        try exact⟨_,[_],[(b3,some (bu (λc=>ha c || (decide (at8 s (j:Int)<=(c:Int)) && decide ((c:Int)<((y+1:Nat):Int)))))),(b2,some maa),(b,some (laa s (j+1:Nat) false))],Um,⟨((y+1:Nat):Int),rfl,rfl,rfl,Um,Um,Um,Um⟩,Xp,by rw[<- fK ha Um];simp(maxSteps:=2000000) (disch:=omega)only[go_sem]⟩
       ·refine vK1 ?_;exact⟨_,[_],[(b3,some (bu (λc=>ha c || (decide (at8 s (j:Int)<=(c:Int)) && decide ((c:Int)<(y:Int)))))),(b2,some maa),(b,some (laa s (j+1:Nat) false))],by simp;omega,⟨0+1,j+1,_,false,rfl,rfl,rfl,Um,Um,Um,λ_=>⟨Um,by rw[if_neg Um,oI ha (a:=at8 s (j:Int)) (z:=at8 s (j:Int)) (y:=(y:Int)) Um,<- hS2,hS]⟩,Xp⟩,rfl,gO⟩
   ·have hS:pN s j ha=R:=by simpa[hk0]using hR.2
    have hk1:((k:Int) == 0)=false:=by simp;omega
    (refine vQ1 hk1 ?_;with_reducible repeat first|intro(K:_->_->Prop) hK|intro h)
    refine AW.c (λh=>?_) λh=>?_
    ·simp only[h,cond_false];have hS:=(JV ha h).symm.trans hS
     have hge:=ni s (j:Int)
     have hle:=ng s (j:Int)
     have ab4:=ni s ((j+1:Nat):Int)
     have hle1:=ng s ((j+1:Nat):Int)
     have V8:=ni s ((j+1+1:Nat):Int)
     have hle2:=ng s ((j+1+1:Nat):Int)
     cases hch:jG s j with
     | false =>
      have hN':R=none:=by rw[<- hS,ll ha (yM hch)]
      (refine vQ1 hch ?_;with_reducible repeat first|intro(K:_->_->Prop) hK|intro h)
      refine AW.c (λh=>?_) λh=>?_
      ·simp only[h,cond_true];have hl2:=df.1 h
       cases hc2:jG s (j+1)with
       | true =>
        have hl3:=oK hc2
        (refine vQ1 hc2 ?_;with_reducible repeat first|intro(K:_->_->Prop) hK|intro h)
        refine AW.c (λh=>?_) λh=>?_
        ·omega
        ·refine vK1 ?_;refine AW.aw [9] [0,2,3,6,7,8] (λm xs o=>∃x:Int,xs=[.aa x]/\o=[(b3,some (bu (λc=>ha c || (decide (0<=(c:Int)) && decide ((c:Int)<x))))),(b2,some maa),(b,some (laa s (j+1+1:Nat) true))]/\m=(256 - x).toNat/\0<=x/\x<=256/\(0<=at8 s ((j+1:Nat):Int)->x<=at8 s ((j+1:Nat):Int)+1)/\(at8 s ((j+1:Nat):Int)<0->x=0)) _ [(b3,some (bu ha)),(b2,some maa),(b,some (laa s (j+1+1:Nat) true))] gO ⟨0,rfl,by rw[fJ],rfl,Um,Um,Um,Um⟩ ?_;rintro m xs o ⟨x,rfl,rfl,rfl,hx1,hx2,hx3,hx4⟩
         obtain⟨y,rfl⟩:∃y:Nat,x=y:=⟨x.toNat,Um⟩
         refine vK1 ?_;refine AW.c (λh=>?_) λh=>?_
         ·refine vK1 ?_
          try exact⟨_,[_],[(b3,some (bu (λc=>ha c || (decide (0<=(c:Int)) && decide ((c:Int)<((y+1:Nat):Int)))))),(b2,some maa),(b,some (laa s (j+1+1:Nat) true))],Um,⟨((y+1:Nat):Int),rfl,rfl,rfl,Um,Um,Um,Um⟩,Xp,by rw[<- fK ha Um];simp(maxSteps:=2000000) (disch:=omega)only[go_sem]⟩
         ·refine vK1 ?_;exact⟨0,[_],[(b3,some (bu (λc=>ha c || (decide (0<=(c:Int)) && decide ((c:Int)<(y:Int)))))),(b2,some maa),(b,some (laa s (j+1+1:Nat) true))],Xp,⟨k+1,j+1+1,_,true,rfl,rfl,rfl,Um,Um,Um,Xp,λ_=>hN'⟩,rfl,gO⟩
       | false =>
        (refine vQ1 hc2 ?_;with_reducible repeat first|intro(K:_->_->Prop) hK|intro h)
        refine AW.c (λh=>?_) λh=>?_
        ·omega
        ·refine vK1 ?_;refine AW.aw [9] [0,2,3,6,7,8] (λm xs o=>∃x:Int,xs=[.aa x]/\o=[(b3,some (bu (λc=>ha c || (decide (0<=(c:Int)) && decide ((c:Int)<x))))),(b2,some maa),(b,some (laa s (j+1:Nat) true))]/\m=(256 - x).toNat/\0<=x/\x<=256/\(0<=0->x<=0+1)/\(0<0->x=0)) _ [(b3,some (bu ha)),(b2,some maa),(b,some (laa s (j+1:Nat) true))] gO ⟨0,rfl,by rw[fJ],rfl,Um,Um,Um,Um⟩ ?_;rintro m xs o ⟨x,rfl,rfl,rfl,hx1,hx2,hx3,hx4⟩
         obtain⟨y,rfl⟩:∃y:Nat,x=y:=⟨x.toNat,Um⟩
         refine vK1 ?_;refine AW.c (λh=>?_) λh=>?_
         ·refine vK1 ?_
          try exact⟨_,[_],[(b3,some (bu (λc=>ha c || (decide (0<=(c:Int)) && decide ((c:Int)<((y+1:Nat):Int)))))),(b2,some maa),(b,some (laa s (j+1:Nat) true))],Um,⟨((y+1:Nat):Int),rfl,rfl,rfl,Um,Um,Um,Um⟩,Xp,by rw[<- fK ha Um];simp(maxSteps:=2000000) (disch:=omega)only[go_sem]⟩
         ·refine vK1 ?_;exact⟨0,[_],[(b3,some (bu (λc=>ha c || (decide (0<=(c:Int)) && decide ((c:Int)<(y:Int)))))),(b2,some maa),(b,some (laa s (j+1:Nat) true))],Xp,⟨k+1,j+1,_,true,rfl,rfl,rfl,Um,Um,Um,Xp,λ_=>hN'⟩,rfl,gO⟩
      ·simp only[h,cond_false];refine vK1 ?_;refine AW.c (λh=>?_) λh=>?_
       ·omega
       ·refine vK1 ?_;refine AW.aw [9] [0,2,3,6,7,8] (λm xs o=>∃x:Int,xs=[.aa x]/\o=[(b3,some (bu (λc=>ha c || (decide (0<=(c:Int)) && decide ((c:Int)<x))))),(b2,some maa),(b,some (laa s (j:Nat) true))]/\m=(256 - x).toNat/\0<=x/\x<=256/\(0<=0->x<=0+1)/\(0<0->x=0)) _ [(b3,some (bu ha)),(b2,some maa),(b,some (laa s (j:Nat) true))] gO ⟨0,rfl,by rw[fJ],rfl,Um,Um,Um,Um⟩ ?_;rintro m xs o ⟨x,rfl,rfl,rfl,hx1,hx2,hx3,hx4⟩
        obtain⟨y,rfl⟩:∃y:Nat,x=y:=⟨x.toNat,Um⟩
        refine vK1 ?_;refine AW.c (λh=>?_) λh=>?_
        ·refine vK1 ?_
         try exact⟨_,[_],[(b3,some (bu (λc=>ha c || (decide (0<=(c:Int)) && decide ((c:Int)<((y+1:Nat):Int)))))),(b2,some maa),(b,some (laa s (j:Nat) true))],Um,⟨((y+1:Nat):Int),rfl,rfl,rfl,Um,Um,Um,Um⟩,Xp,by rw[<- fK ha Um];simp(maxSteps:=2000000) (disch:=omega)only[go_sem]⟩
        ·refine vK1 ?_;exact⟨0,[_],[(b3,some (bu (λc=>ha c || (decide (0<=(c:Int)) && decide ((c:Int)<(y:Int)))))),(b2,some maa),(b,some (laa s (j:Nat) true))],Xp,⟨k+1,j,_,true,rfl,rfl,rfl,Um,Um,Um,Xp,λ_=>hN'⟩,rfl,gO⟩
     | true =>
      have hl1:=oK hch
      (refine vQ1 hch ?_;with_reducible repeat first|intro(K:_->_->Prop) hK|intro h)
      refine AW.c (λh=>?_) λh=>?_
      ·simp only[h,cond_true];have tI:=h
       have hl2:=df.1 h
       cases hc2:jG s (j+1+1)with
       | true =>
        have hl3:=oK hc2
        (refine vQ1 hc2 ?_;with_reducible repeat first|intro(K:_->_->Prop) hK|intro h)
        refine AW.c (λh=>?_) λh=>?_
        ·have hN':R=none:=by rw[<- hS,ll ha (rY tI (.inr h))]
         refine vK1 ?_;refine AW.aw [9] [0,2,3,6,7,8] (λm xs o=>∃x:Int,xs=[.aa x]/\o=[(b3,some (bu (λc=>ha c || (decide (at8 s (j:Int)<=(c:Int)) && decide ((c:Int)<x))))),(b2,some maa),(b,some (laa s (j+1+1+1:Nat) true))]/\m=(256 - x).toNat/\at8 s (j:Int)<=x/\x<=256/\(at8 s (j:Int)<=at8 s ((j+1+1:Nat):Int)->x<=at8 s ((j+1+1:Nat):Int)+1)/\(at8 s ((j+1+1:Nat):Int)<at8 s (j:Int)->x=at8 s (j:Int))) _ [(b3,some (bu ha)),(b2,some maa),(b,some (laa s (j+1+1+1:Nat) true))] gO ⟨at8 s (j:Int),rfl,by rw[fJ],rfl,Um,Um,Um,Um⟩ ?_;rintro m xs o ⟨x,rfl,rfl,rfl,hx1,hx2,hx3,hx4⟩
         obtain⟨y,rfl⟩:∃y:Nat,x=y:=⟨x.toNat,Um⟩
         refine vK1 ?_;refine AW.c (λh=>?_) λh=>?_
         ·exact vK0
          try exact⟨_,[_],[(b3,some (bu (λc=>ha c || (decide (at8 s (j:Int)<=(c:Int)) && decide ((c:Int)<((y+1:Nat):Int)))))),(b2,some maa),(b,some (laa s (j+1+1+1:Nat) true))],Um,⟨((y+1:Nat):Int),rfl,rfl,rfl,Um,Um,Um,Um⟩,Xp,by rw[<- fK ha Um];simp(maxSteps:=2000000) (disch:=omega)only[go_sem]⟩
         ·refine vK1 ?_;exact⟨0,[_],[(b3,some (bu (λc=>ha c || (decide (at8 s (j:Int)<=(c:Int)) && decide ((c:Int)<(y:Int)))))),(b2,some maa),(b,some (laa s (j+1+1+1:Nat) true))],Xp,⟨k+1,j+1+1+1,_,true,rfl,rfl,rfl,Um,Um,Um,Xp,λ_=>hN'⟩,rfl,gO⟩
        ·have hS2:=oJ ha (Aw hch tI hc2 h);refine vK1 ?_;refine AW.aw [9] [0,2,3,6,7,8] (λm xs o=>∃x:Int,xs=[.aa x]/\o=[(b3,some (bu (λc=>ha c || (decide (at8 s (j:Int)<=(c:Int)) && decide ((c:Int)<x))))),(b2,some maa),(b,some (laa s (j+1+1+1:Nat) false))]/\m=(256 - x).toNat/\at8 s (j:Int)<=x/\x<=256/\(at8 s (j:Int)<=at8 s ((j+1+1:Nat):Int)->x<=at8 s ((j+1+1:Nat):Int)+1)/\(at8 s ((j+1+1:Nat):Int)<at8 s (j:Int)->x=at8 s (j:Int))) _ [(b3,some (bu ha)),(b2,some maa),(b,some (laa s (j+1+1+1:Nat) false))] gO ⟨at8 s (j:Int),rfl,by rw[fJ],rfl,Um,Um,Um,Um⟩ ?_;rintro m xs o ⟨x,rfl,rfl,rfl,hx1,hx2,hx3,hx4⟩
         obtain⟨y,rfl⟩:∃y:Nat,x=y:=⟨x.toNat,Um⟩
         refine vK1 ?_;refine AW.c (λh=>?_) λh=>?_
         ·refine vK1 ?_
          try exact⟨_,[_],[(b3,some (bu (λc=>ha c || (decide (at8 s (j:Int)<=(c:Int)) && decide ((c:Int)<((y+1:Nat):Int)))))),(b2,some maa),(b,some (laa s (j+1+1+1:Nat) false))],Um,⟨((y+1:Nat):Int),rfl,rfl,rfl,Um,Um,Um,Um⟩,Xp,by rw[<- fK ha Um];simp(maxSteps:=2000000) (disch:=omega)only[go_sem]⟩
         ·refine vK1 ?_;exact⟨_,[_],[(b3,some (bu (λc=>ha c || (decide (at8 s (j:Int)<=(c:Int)) && decide ((c:Int)<(y:Int)))))),(b2,some maa),(b,some (laa s (j+1+1+1:Nat) false))],by simp;omega,⟨k+1,j+1+1+1,_,false,rfl,rfl,rfl,Um,Um,Um,λ_=>⟨Um,by rw[if_neg Um,oI ha (a:=at8 s (j:Int)) (z:=at8 s ((j+1+1:Nat):Int)) (y:=(y:Int)) Um,<- hS2,hS]⟩,Xp⟩,rfl,gO⟩
       | false =>
        have hN':R=none:=by rw[<- hS,ll ha (rY tI (.inl hc2))]
        (refine vQ1 hc2 ?_;with_reducible repeat first|intro(K:_->_->Prop) hK|intro h)
        refine AW.c (λh=>?_) λh=>?_
        ·refine vK1 ?_;refine AW.aw [9] [0,2,3,6,7,8] (λm xs o=>∃x:Int,xs=[.aa x]/\o=[(b3,some (bu (λc=>ha c || (decide (at8 s (j:Int)<=(c:Int)) && decide ((c:Int)<x))))),(b2,some maa),(b,some (laa s (j+1+1:Nat) true))]/\m=(256 - x).toNat/\at8 s (j:Int)<=x/\x<=256/\(at8 s (j:Int)<=0->x<=0+1)/\(0<at8 s (j:Int)->x=at8 s (j:Int))) _ [(b3,some (bu ha)),(b2,some maa),(b,some (laa s (j+1+1:Nat) true))] gO ⟨at8 s (j:Int),rfl,by rw[fJ],rfl,Um,Um,Um,Um⟩ ?_;rintro m xs o ⟨x,rfl,rfl,rfl,hx1,hx2,hx3,hx4⟩
         obtain⟨y,rfl⟩:∃y:Nat,x=y:=⟨x.toNat,Um⟩
         refine vK1 ?_;refine AW.c (λh=>?_) λh=>?_
         ·exact vK0
          try exact⟨_,[_],[(b3,some (bu (λc=>ha c || (decide (at8 s (j:Int)<=(c:Int)) && decide ((c:Int)<((y+1:Nat):Int)))))),(b2,some maa),(b,some (laa s (j+1+1:Nat) true))],Um,⟨((y+1:Nat):Int),rfl,rfl,rfl,Um,Um,Um,Um⟩,Xp,by rw[<- fK ha Um];simp(maxSteps:=2000000) (disch:=omega)only[go_sem]⟩
         ·refine vK1 ?_;exact⟨0,[_],[(b3,some (bu (λc=>ha c || (decide (at8 s (j:Int)<=(c:Int)) && decide ((c:Int)<(y:Int)))))),(b2,some maa),(b,some (laa s (j+1+1:Nat) true))],Xp,⟨k+1,j+1+1,_,true,rfl,rfl,rfl,Um,Um,Um,Xp,λ_=>hN'⟩,rfl,gO⟩
        ·refine vK1 ?_;refine AW.aw [9] [0,2,3,6,7,8] (λm xs o=>∃x:Int,xs=[.aa x]/\o=[(b3,some (bu (λc=>ha c || (decide (at8 s (j:Int)<=(c:Int)) && decide ((c:Int)<x))))),(b2,some maa),(b,some (laa s (j+1+1:Nat) true))]/\m=(256 - x).toNat/\at8 s (j:Int)<=x/\x<=256/\(at8 s (j:Int)<=0->x<=0+1)/\(0<at8 s (j:Int)->x=at8 s (j:Int))) _ [(b3,some (bu ha)),(b2,some maa),(b,some (laa s (j+1+1:Nat) true))] gO ⟨at8 s (j:Int),rfl,by rw[fJ],rfl,Um,Um,Um,Um⟩ ?_;rintro m xs o ⟨x,rfl,rfl,rfl,hx1,hx2,hx3,hx4⟩
         obtain⟨y,rfl⟩:∃y:Nat,x=y:=⟨x.toNat,Um⟩
         refine vK1 ?_;refine AW.c (λh=>?_) λh=>?_
         ·refine vK1 ?_
          try exact⟨_,[_],[(b3,some (bu (λc=>ha c || (decide (at8 s (j:Int)<=(c:Int)) && decide ((c:Int)<((y+1:Nat):Int)))))),(b2,some maa),(b,some (laa s (j+1+1:Nat) true))],Um,⟨((y+1:Nat):Int),rfl,rfl,rfl,Um,Um,Um,Um⟩,Xp,by rw[<- fK ha Um];simp(maxSteps:=2000000) (disch:=omega)only[go_sem]⟩
         ·refine vK1 ?_;exact⟨0,[_],[(b3,some (bu (λc=>ha c || (decide (at8 s (j:Int)<=(c:Int)) && decide ((c:Int)<(y:Int)))))),(b2,some maa),(b,some (laa s (j+1+1:Nat) true))],Xp,⟨k+1,j+1+1,_,true,rfl,rfl,rfl,Um,Um,Um,Xp,λ_=>hN'⟩,rfl,gO⟩
      ·simp only[h,cond_false];have hS2:=oJ ha (Ax hch h);refine vK1 ?_;refine AW.c (λh=>?_) λh=>?_
       ·omega
       ·refine vK1 ?_;refine AW.aw [9] [0,2,3,6,7,8] (λm xs o=>∃x:Int,xs=[.aa x]/\o=[(b3,some (bu (λc=>ha c || (decide (at8 s (j:Int)<=(c:Int)) && decide ((c:Int)<x))))),(b2,some maa),(b,some (laa s (j+1:Nat) false))]/\m=(256 - x).toNat/\at8 s (j:Int)<=x/\x<=256/\(at8 s (j:Int)<=at8 s (j:Int)->x<=at8 s (j:Int)+1)/\(at8 s (j:Int)<at8 s (j:Int)->x=at8 s (j:Int))) _ [(b3,some (bu ha)),(b2,some maa),(b,some (laa s (j+1:Nat) false))] gO ⟨at8 s (j:Int),rfl,by rw[fJ],rfl,Um,Um,Um,Um⟩ ?_;rintro m xs o ⟨x,rfl,rfl,rfl,hx1,hx2,hx3,hx4⟩
        obtain⟨y,rfl⟩:∃y:Nat,x=y:=⟨x.toNat,Um⟩
        refine vK1 ?_;refine AW.c (λh=>?_) λh=>?_
        ·refine vK1 ?_
         try exact⟨_,[_],[(b3,some (bu (λc=>ha c || (decide (at8 s (j:Int)<=(c:Int)) && decide ((c:Int)<((y+1:Nat):Int)))))),(b2,some maa),(b,some (laa s (j+1:Nat) false))],Um,⟨((y+1:Nat):Int),rfl,rfl,rfl,Um,Um,Um,Um⟩,Xp,by rw[<- fK ha Um];simp(maxSteps:=2000000) (disch:=omega)only[go_sem]⟩
        ·refine vK1 ?_;exact⟨_,[_],[(b3,some (bu (λc=>ha c || (decide (at8 s (j:Int)<=(c:Int)) && decide ((c:Int)<(y:Int)))))),(b2,some maa),(b,some (laa s (j+1:Nat) false))],by simp;omega,⟨k+1,j+1,_,false,rfl,rfl,rfl,Um,Um,Um,λ_=>⟨Um,by rw[if_neg Um,oI ha (a:=at8 s (j:Int)) (z:=at8 s (j:Int)) (y:=(y:Int)) Um,<- hS2,hS]⟩,Xp⟩,rfl,gO⟩
    ·simp only[h,cond_true];have hl2:=df.1 h;refine vK1 ?_
     (refine AW.ret (EndsG.imp (Imp.fQ (b:=b2) eaa ?_));refine gS ?_;refine EndsG.eW rfl (RdQ.yes (p:=.mk 1 (qF ha) []) (j:=j+1) (by rw[qy,C4,<- hS,HC ha h];rfl) Um) ?_;exact gO)
 ·simp only[h,cond_false];have hnc:=h
  cases hch:jG s i with
  | true =>
   (refine vQ1 hch ?_;with_reducible repeat first|intro(K:_->_->Prop) hK|intro h)
   refine AW.c (λh=>?_) λh=>?_
   ·refine vK1 ?_
    (refine AW.ret (EndsG.imp (Imp.j9 (b:=b2) 3 [.aa 1,.str [UInt8.ofNat (at8 s i).toNat]] [] gO ?_));refine gS ?_;refine EndsG.eW rfl (RdQ.no (.mk 1 [UInt8.ofNat (at8 s i).toNat] []) (j:=i+1) (by rw[qy,HJ hnd hnc hp.1];intro _;rcases h with h|h;exact h;rw[mR ⟨hp.1,h⟩]at hnd;cases hnd) Um) ?_;exact gO)
   ·refine vK1 ?_
    (refine AW.ret (EndsG.imp (Imp.j9 (b:=b2) 3 [.aa 1,.str [UInt8.ofNat (at8 s i).toNat]] [] gO ?_));refine gS ?_;refine EndsG.eW rfl (RdQ.yes (p:=.mk 1 [UInt8.ofNat (at8 s i).toNat] []) (j:=i+1) (by rw[qy,Oh hnd hnc hp.1 hch h.1,Ka hp.1,qp]) Um) ?_;exact gO)
  | false =>
   (refine vQ1 hch ?_;with_reducible repeat first|intro(K:_->_->Prop) hK|intro h)
   refine AW.c (λh=>?_) λh=>?_
   all_goals (refine vK ?_;with_reducible repeat' first|exact Le.l|apply Sw|intro(K:_->_->Prop) hK|intro h)
   (refine AW.ret (EndsG.imp (Imp.j9 (b:=b2) 3 [.aa 1,.str [UInt8.ofNat 0]] [] gO ?_));refine gS ?_;refine EndsG.eW rfl (RdQ.no (.mk 1 [UInt8.ofNat 0] []) (j:=i) (by rw[qy,HJ hnd hnc hp.1];intro e;rw[hch]at e;cases e) Um) ?_;exact gO)
end Go.Proofs
namespace Go.Dt
open Go.Ab
def qq:bE:=.mk 0 [] []
def fM(s:Str):bE×Bool :=
 if s.length<=30 then match iY s 0 with
  | some (p,j)=>if j=s.length then (p,true) else (qq,false)
  | none=>(qq,false)
 else (qq,false)
def uc(s:Str):(fM s).2=dM s:=by
 unfold fM dM;by_cases h:s.length<=30
 ·simp only[h,if_true,decide_true,Bool.true_and]
  cases e:iY s 0 with
  | none=>rfl
  | some r =>
   obtain⟨p,j⟩:=r;by_cases h2:j=s.length
   ·simp[h2]
   ·simp[h2]
 ·simp[h]
def Br{s:Str}(h:30<s.length):fM s=(qq,false):=by rw[fM,if_neg Um]
def Bq{s:Str}(h:iY s 0=none):fM s=(qq,false):=by rw[fM,h];simp
def Bp{s:Str}{p:bE}{j:Nat}(h:iY s 0=some (p,j))(h2:¬j=s.length):fM s=(qq,false):=by rw[fM,h];simp[h2]
def DJ{s:Str}{p:bE}{j:Nat}(h0:s.length<=30)(h:iY s 0=some (p,j))(h2:j=s.length):fM s=(p,true):=by rw[fM,h];simp[h2,h0]
end Go.Dt
namespace Go.Proofs
open Go.Ab Go.Dt
theorem J2:∀(n:Nat) (b:Nat) (s:Str) (i:Nat),fe lim prog 286 [(b,some (laa s i false))] [.ptr b 0] (RdQ b s i (iY s i)) (i<=s.length/\s.length<=30/\s.length - i<n)
 | 0,_,_,_=>⟨(aT 286),λh=>absurd h.2.2 (Nat.not_lt_zero _)⟩
 | n+1,b,s,i=>Zn (n+1) (Yf (n+1) (VP (n+1) (WR n (J2 n)))) b s i
instance(b:Nat)(s:Str):fe lim prog 286 [(b,some (laa s 0 false))] [.ptr b 0] (RdQ b s 0 (iY s 0)) (s.length<=30):=⟨(aT 286),λh=>(J2 31 b s 0).out ⟨Um,h,Um⟩⟩
instance(s:Str):Ctr lim prog 246 [] [.str s] (.tup [.agg [.aa (fM s).1.fOp,.str (fM s).1.cS,.sl false 3 ((fM s).1.af.map cq)],.ac (fM s).2]) [] True:=by
 refine Ctr.bd func246 ntmps246 λhp=>?_;refine AW.f0 0 λhf=>?_
 (refine vK1 ?_;intro h)
 refine AW.c (λh=>?_) λh=>?_
 ·have e:=Br (s:=s) Um;refine vX1 ?_;rename_i b2
  (refine AW.ret (EndsG.imp (Imp.j9 (b:=b2) 3 [.aa 0,.str []] [] gO ?_));refine gS ?_;refine EndsG.fin rfl ?_;simp(maxSteps:=2000000) (disch:=omega)only[go_sem,e,qq,mV,kz,kC])
 ·(refine vK1 ?_;with_reducible repeat first|intro(K:_->_->Prop) hK|intro h)
  rename_i b2 h2 b3;refine GK.rd (λp j hq hj=>?_) (λp j hq hj=>?_)
  ·(refine vK1 ?_;intro h h)
   refine AW.c (λh=>?_) λh=>?_
   ·have e:=Bp hq Um;refine vX1 ?_
    (refine AW.ret (EndsG.imp (Imp.j9 (b:=b2) 3 [.aa 0,.str []] [] gO ?_));refine gS ?_;refine EndsG.fin rfl ?_;simp(maxSteps:=2000000) (disch:=omega)only[go_sem,e,qq,mV,kz,kC])
   ·have e:=DJ Um hq Um;exact vP0 e
  ·have e:=Bq hq
   (refine vK1 ?_;intro h h)
   refine AW.e λh=>?_;refine vX1 ?_
   (refine AW.ret (EndsG.imp (Imp.j9 (b:=b2) 3 [.aa 0,.str []] [] gO ?_));refine gS ?_;refine EndsG.fin rfl ?_;simp(maxSteps:=2000000) (disch:=omega)only[go_sem,e,qq,mV,kz,kC])
instance(s:Str):Ctr lim prog 241 [] [.str s] (.ac (dM s)) [] True:=by refine Ctr.bd func241 ntmps241 λhp=>?_;have e:=uc s;exact vP0 e
end Go.Proofs
namespace Go.Dt
open Go.Ab
@[go_sem] def aaF:Int.toNat 256=256:=rfl
def Bm:List (List Value):=replicate 256 [.bool false]
@[go_sem high] def Z0:replicate 256 [Value.bool false]=Bm:=rfl
@[go_sem] def Yo:Bm.flatten.map avz=bu (λ_=>false):=by
 have e:Bm.flatten=HM:=by
  unfold Bm HM;rw[flatten_replicate_singleton]
 rw[e,Nz]
def Sh(l:List bE):((l.map cq).flatMap AV.cells).length=l.length * 3:=by
 induction l with
 | nil=>rfl
 | cons x xs ih =>
  have e:(cq x).cells.length=3:=by rw[eG];rfl
  simp only[map_cons,flatMap_cons,length_append,ih,e,length_cons];omega
def I8(l:List bE):∀x,x∈l.map cq->x.elem 3=true:=by have:=Mj l;rw[all_eq_true]at this;exact this
end Go.Dt
namespace Go.Proofs
open Go.Ab Go.Dt
instance:Ctr lim prog 347 [] [] (.str (qF (λc=>decide (32<=c) && decide (c<127)))) [] True:=by
 refine Ctr.bd func347 ntmps347 λhp=>?_;refine vU1 ?_
 have hlow:nK (λc=>decide (32<=c) && decide (c<127)) 32=[]:=by
  unfold nK
  have:(List.range 32).filter (λc=>decide (32<=c) && decide (c<127))=[]:=by
   rw[filter_eq_nil_iff];intro a ha;simp at ha ⊢;omega
  rw[this];rfl
 refine AW.aw [1,2] [] (λm xs o=>∃k:Nat,xs=[.sl true 1 (ct (nK (λc=>decide (32<=c) && decide (c<127)) k)),.aa k]/\o=[]/\m=127 - k/\32<=k/\k<=127) 95 [] trivial ⟨32,?_,rfl,rfl,?_,?_⟩ ?_
 ·rw[hlow];rfl
 ·omega
 ·omega
 rintro m xs o ⟨k,rfl,rfl,rfl,hk0,hk⟩;have hl:=yL (λc=>decide (32<=c) && decide (c<127)) k
 have hs:=tg (λc=>decide (32<=c) && decide (c<127)) k
 (refine vU2 ?_ ?_<;>intro h)
 ·rw[if_pos (by simp;omega)]at hs;exact⟨_,[_,_],[],Um,⟨k+1,by rw[hs,<- wk _ Um],rfl,rfl,Um,Um⟩,rfl,trivial⟩
 ·have:k=127:=by omega
  subst this
  congr 1
theorem Gq:∀(n:Nat) (op:Int) (t:Str) (ks:List bE),Ctr lim prog 330 [] [.agg [.aa op,.str t,.sl false 3 (ks.map cq)]] (.agg [.aa op,.str t,.sl false 3 (ks.map cq)]) [] (oX ks<n)
 | 0,op,t,ks=>⟨(aT 330),λh=>absurd h (Nat.not_lt_zero _)⟩
 | n+1,op,t,ks=>by
  have ih:=Gq n;refine Ctr.bd func330 ntmps330 λhp=>?_;refine AW.f0 0 λhf=>?_
  (refine bU1 ?_;intro h h h h h)
  rename_i b1 b2 hn b3;refine AW.imp (Imp.nA (b:=b3) 3 [.aa op,.str t] [] gO ?_);refine gS ?_;refine AW.aw [4] [1,2,3] (λm xs o=>∃k:Nat,xs=[.aa k]/\o=[(b3,some [.aa op,.str t,.sl true 3 ((ks.take k).map cq)]),(b2,some maa),(b1,some [.aa op,.str t,.sl false 3 (ks.map cq)])]/\m=ks.length - k/\k<=ks.length) ks.length [(b3,some [.aa op,.str t,.sl true 3 []]),(b2,some maa),(b1,some [.aa op,.str t,.sl false 3 (ks.map cq)])] gO ⟨0,?_,rfl,rfl,?_⟩ ?_
  ·rfl
  ·omega
  rintro m xs o ⟨k,rfl,rfl,rfl,hk⟩;have hq:k<ks.length->_:=xb (l:=ks) (k:=k)
  have hq2:=Bn (at_ ks k)
  have hlt:(ks.take k).length=k:=by rw[length_take];omega
  refine bK1 ?_;refine AW.c (λh=>?_) λh=>?_
  ·refine bN1 ?_;have hfl:=Sh (ks.take k)
   have hst:=IC (f:=cq) h;refine AW.imp (Imp.mH (b0:=b3) (k:=2) (cells0:=[.aa op,.str t,.sl true 3 ((ks.take k).map cq)]) (sz:=3) (l:=(ks.take k).map cq) gO rfl (I8 _) (λb hb=>?_) (λhnil=>?_))
   ·have hb1:=hb.nf;simp only[go_sem]at hb1;simp only[set_cons_zero,set_cons_succ];refine AW.Lq λK hK=>?_;refine gS ?_
    (refine bN1 ?_;intro h h)
    rename_i b9;refine AW.imp (Imp.ER (b0:=b3) (k:=2) (b:=b9) (len:=(ks.take k).length+1) (sz:=3) (cells0:=[.aa op,.str t,.arr b9 0 ((ks.take k).length+1) 3]) (cells:=((ks.take k).map cq).flatMap AV.cells++[.aa (at_ ks k).fOp,.str (at_ ks k).cS,.sl false 3 ((at_ ks k).af.map cq)]) (l:=(ks.take (k+1)).map cq) gO rfl gO Um (by simp;omega) ?_ (I8 _) ?_)
    ·refine Eq.trans ?_ (take_of_length_le (by rw[length_append,hfl];simp only[length_cons,length_nil];omega)).symm;rw[hst,flatMap_append,eG];rfl
    simp only[set_cons_zero,set_cons_succ];refine bK1 ?_;exact⟨_,[_],[(b3,some [.aa op,.str t,.sl true 3 ((ks.take (k+1)).map cq)]),(b2,some maa),(b1,some [.aa op,.str t,.sl false 3 (ks.map cq)])],Um,⟨k+1,rfl,rfl,rfl,Um⟩,rfl,by rw[hst,eG];simp(maxSteps:=2000000) (disch:=omega)only[go_sem]⟩
   ·simp only[set_cons_zero,set_cons_succ];refine AW.Lq λK hK=>?_;refine gS ?_;refine bK1 ?_;rw[hnil]at hst;exact⟨_,[_],[(b3,some [.aa op,.str t,.sl true 3 ((ks.take (k+1)).map cq)]),(b2,some maa),(b1,some [.aa op,.str t,.sl false 3 (ks.map cq)])],Um,⟨k+1,rfl,rfl,rfl,Um⟩,rfl,by rw[hst,eG];simp(maxSteps:=2000000) (disch:=omega)only[go_sem,nil_append]⟩
  ·rw[show k=ks.length by omega,take_length];refine bX1 ?_;refine AW.ret (EndsG.imp (Imp.fQ (b:=b2) eaa ?_));refine gS ?_;refine EndsG.fin rfl ?_;exact gO
instance(op:Int)(t:Str)(ks:List bE):Ctr lim prog 330 [] [.agg [.aa op,.str t,.sl false 3 (ks.map cq)]] (.agg [.aa op,.str t,.sl false 3 (ks.map cq)]) [] True:=⟨(aT 330),λ_=>(Gq (oX ks+1) op t ks).out Um⟩
end Go.Proofs
namespace Go.Dt
open Go.Ab
def Ve(r:Option ((Nat->Bool)×Nat)):Option (bE×Nat):=match r with|none=>none|some (has,k)=>some (qp (qF has),k)
def xP(s:Str)(i:Nat):Option (bE×Nat):=Ve (oq s i (λ_=>false))
def PL{s:Str}{j:Nat}(h:eP s j 93=true):jG s j=false:=by have:=df.1 h;rw[na,this.2];simp[pG,ltI,om]
end Go.Dt
namespace Go.Proofs
open Go.Ab Go.Dt
instance(b:Nat)(s:Str)(i:Nat):fe lim prog 346 [(b,some (laa s i false))] [.ptr b 0] (RdQ b s i (xP s i)) (i<=s.length/\s.length<=30):=by
 refine fe.fX (aT 346) func346 rfl rfl λhp=>(?_);rw[ntmps346];generalize hRR:oq s i (λ_=>false)=R;have hres:xP s i=Ve R:=by rw[xP,hRR]
 (refine vK1 ?_;intro h h h h)
 rename_i b2 hn b3;refine AW.aw [] [0,2,3,4] (λm xs o=>∃(j:Nat) (ha:Nat->Bool),xs=[]/\o=[(b3,some (bu ha)),(b2,some maa),(b,some (laa s j false))]/\m=s.length - j/\j<=s.length/\i<=j/\((j=i/\oq s j ha=R)\/(i<j/\pN s j ha=R))) _ [(b3,some (bu (λ_=>false))),(b2,some maa),(b,some (laa s i false))] gO ⟨i,λ_=>false,rfl,rfl,rfl,Um,Um,.inl ⟨rfl,hRR⟩⟩ ?_;rintro m xs o ⟨j,ha,rfl,rfl,rfl,hj,hij,hR⟩;have hge:=ni s (j:Int)
 have hle:=ng s (j:Int)
 have V8:=ni s ((j+1+1:Nat):Int)
 have hle2:=ng s ((j+1+1:Nat):Int);refine vK1 ?_;refine AW.c (λh=>?_) λh=>?_
 ·simp only[h,cond_false]
  have hS:oq s j ha=R:=by
   rcases hR with hR|hR
   ·exact hR.2
   ·rw[<- hR.2,JV ha h]
  clear hR;refine vK1 ?_;refine AW.c (λh=>?_) λh=>?_
  ·have hch:=uJ (s:=s) (i:=j) (by rcases h with h|h;exact .inl Um;exact .inr h);refine vK1 ?_
   (refine AW.ret (EndsG.imp (Imp.j9 (b:=b2) 3 [.aa 0,.str []] [] gO ?_));refine gS ?_;refine EndsG.eW rfl (RdQ.no (.mk 0 [] []) (j:=j) (by rw[hres,<- hS,ll ha (yM hch)];rfl) Um) ?_;exact gO)
  have hch:=v8 (s:=s) (i:=j) ⟨Um,h.2⟩
  have hl1:=oK hch;refine vK1 ?_;refine AW.c (λh=>?_) λh=>?_
  ·simp only[h,cond_true];have tI:=h
   have hl2:=df.1 h;refine vK1 ?_;refine AW.c (λh=>?_) λh=>?_
   ·refine vK1 ?_
    (refine AW.ret (EndsG.imp (Imp.j9 (b:=b2) 3 [.aa 0,.str []] [] gO ?_));refine gS ?_;refine EndsG.eW rfl (RdQ.no (.mk 0 [] []) (j:=j+1+1) (by rw[hres,<- hS,ll ha (rY tI ?_)];rfl;rcases h with(h|h)|h;exact .inl (uJ (.inl Um));exact .inl (uJ (.inr h));exact .inr h) Um) ?_;exact gO)
   ·have hc2:=v8 (s:=s) (i:=j+1+1) ⟨Um,h.1.2⟩
    have hl3:=oK hc2
    have hS2:=oJ ha (Aw hch tI hc2 h.2);refine vK1 ?_;refine AW.aw [7] [0,2,3,4,5,6] (λm xs o=>∃x:Int,xs=[.aa x]/\o=[(b3,some (bu (λc=>ha c || (decide (at8 s (j:Int)<=(c:Int)) && decide ((c:Int)<x))))),(b2,some maa),(b,some (laa s (j+1+1+1:Nat) false))]/\m=(256 - x).toNat/\at8 s (j:Int)<=x/\x<=256/\x<=at8 s ((j+1+1:Nat):Int)+1) _ [(b3,some (bu ha)),(b2,some maa),(b,some (laa s (j+1+1+1:Nat) false))] gO ⟨at8 s (j:Int),rfl,by rw[fJ],rfl,Um,Um,Um⟩ ?_;rintro m xs o ⟨x,rfl,rfl,rfl,hx1,hx2,hx3⟩
    obtain⟨y,rfl⟩:∃y:Nat,x=y:=⟨x.toNat,Um⟩
    refine vK1 ?_;refine AW.c (λh=>?_) λh=>?_
    ·refine vK1 ?_;exact⟨_,[_],[(b3,some (bu (λc=>ha c || (decide (at8 s (j:Int)<=(c:Int)) && decide ((c:Int)<((y+1:Nat):Int)))))),(b2,some maa),(b,some (laa s (j+1+1+1:Nat) false))],Um,⟨((y+1:Nat):Int),rfl,rfl,rfl,Um,Um,Um⟩,Xp,by rw[<- fK ha Um];simp(maxSteps:=2000000) (disch:=omega)only[go_sem]⟩
    ·refine vK1 ?_;exact⟨_,[],[(b3,some (bu (λc=>ha c || (decide (at8 s (j:Int)<=(c:Int)) && decide ((c:Int)<(y:Int)))))),(b2,some maa),(b,some (laa s (j+1+1+1:Nat) false))],Um,⟨j+1+1+1,_,rfl,rfl,rfl,Um,Um,.inr ⟨Um,by rw[oI ha (a:=at8 s (j:Int)) (z:=at8 s ((j+1+1:Nat):Int)) (y:=(y:Int)) Um,<- hS2,hS]⟩⟩,gO⟩
  ·simp only[h,cond_false];have hS2:=oJ ha (Ax hch h);refine vK1 ?_;refine AW.aw [7] [0,2,3,4,5,6] (λm xs o=>∃x:Int,xs=[.aa x]/\o=[(b3,some (bu (λc=>ha c || (decide (at8 s (j:Int)<=(c:Int)) && decide ((c:Int)<x))))),(b2,some maa),(b,some (laa s (j+1:Nat) false))]/\m=(256 - x).toNat/\at8 s (j:Int)<=x/\x<=256/\x<=at8 s (j:Int)+1) _ [(b3,some (bu ha)),(b2,some maa),(b,some (laa s (j+1:Nat) false))] gO ⟨at8 s (j:Int),rfl,by rw[fJ],rfl,Um,Um,Um⟩ ?_;rintro m xs o ⟨x,rfl,rfl,rfl,hx1,hx2,hx3⟩
   obtain⟨y,rfl⟩:∃y:Nat,x=y:=⟨x.toNat,Um⟩
   refine vK1 ?_;refine AW.c (λh=>?_) λh=>?_
   ·refine vK1 ?_;exact⟨_,[_],[(b3,some (bu (λc=>ha c || (decide (at8 s (j:Int)<=(c:Int)) && decide ((c:Int)<((y+1:Nat):Int)))))),(b2,some maa),(b,some (laa s (j+1:Nat) false))],Um,⟨((y+1:Nat):Int),rfl,rfl,rfl,Um,Um,Um⟩,Xp,by rw[<- fK ha Um];simp(maxSteps:=2000000) (disch:=omega)only[go_sem]⟩
   ·refine vK1 ?_;exact⟨_,[],[(b3,some (bu (λc=>ha c || (decide (at8 s (j:Int)<=(c:Int)) && decide ((c:Int)<(y:Int)))))),(b2,some maa),(b,some (laa s (j+1:Nat) false))],Um,⟨j+1,_,rfl,rfl,rfl,Um,Um,.inr ⟨Um,by rw[oI ha (a:=at8 s (j:Int)) (z:=at8 s (j:Int)) (y:=(y:Int)) Um,<- hS2,hS]⟩⟩,gO⟩
 ·simp only[h,cond_true];have hend:=h
  have hl2:=df.1 h;refine vK1 ?_;refine AW.c (λh=>?_) λh=>?_
  ·have hN:R=none:=by
    rcases hR with hR|hR
    ·rw[<- hR.2,ll ha (yM (PL hend))]
    ·omega
   refine vK1 ?_;refine AW.aw [8,9] [2,3] (λm xs o=>∃k:Nat,xs=[.sl true 1 (ct (nK ha k)),.aa k]/\o=[(b3,some (bu ha)),(b2,some maa),(b,some (laa s (j+1:Nat) true))]/\m=256 - k/\k<=256) 256 [(b3,some (bu ha)),(b2,some maa),(b,some (laa s (j+1:Nat) true))] gO ⟨0,?_,rfl,rfl,?_⟩ ?_
   ·rfl
   ·omega
   rintro m xs o ⟨k,rfl,rfl,rfl,hk⟩;have hl:=yL ha k
   have hs:=tg ha k;refine vK1 ?_;refine AW.c (λh=>?_) λh=>?_
   ·refine vK1 ?_;refine AW.c (λh=>?_) λh=>?_
    ·rw[h]at hs;refine vK1 ?_;exact⟨_,[_,_],[(b3,some (bu ha)),(b2,some maa),(b,some (laa s (j+1:Nat) true))],Um,⟨k+1,by rw[hs,if_pos rfl,<- wk _ Um],rfl,rfl,Um⟩,rfl,gO⟩
    ·rw[h]at hs;refine vK1 ?_;exact⟨_,[_,_],[(b3,some (bu ha)),(b2,some maa),(b,some (laa s (j+1:Nat) true))],Um,⟨k+1,by rw[hs];simp,rfl,rfl,Um⟩,rfl,gO⟩
   ·refine vK1 ?_;have hk2:k=256:=by omega
    subst hk2
    (refine AW.ret (EndsG.imp (Imp.j9 (b:=b2) 3 [.aa 1,.str (nK ha 256)] [] gO ?_));refine gS ?_;refine EndsG.eW rfl (RdQ.no (.mk 1 (nK ha 256) []) (j:=j+1) (by rw[hres,hN];rfl) Um) ?_;exact gO)
  ·have hY:R=some (ha,j+1):=by
    rcases hR with hR|hR
    ·omega
    ·rw[<- hR.2,HC ha hend]
   refine vK1 ?_;refine AW.aw [8,9] [2,3] (λm xs o=>∃k:Nat,xs=[.sl true 1 (ct (nK ha k)),.aa k]/\o=[(b3,some (bu ha)),(b2,some maa),(b,some (laa s (j+1:Nat) false))]/\m=256 - k/\k<=256) 256 [(b3,some (bu ha)),(b2,some maa),(b,some (laa s (j+1:Nat) false))] gO ⟨0,?_,rfl,rfl,?_⟩ ?_
   ·rfl
   ·omega
   rintro m xs o ⟨k,rfl,rfl,rfl,hk⟩;have hl:=yL ha k
   have hs:=tg ha k;refine vK1 ?_;refine AW.c (λh=>?_) λh=>?_
   ·refine vK1 ?_;refine AW.c (λh=>?_) λh=>?_
    ·rw[h]at hs;refine vK1 ?_;exact⟨_,[_,_],[(b3,some (bu ha)),(b2,some maa),(b,some (laa s (j+1:Nat) false))],Um,⟨k+1,by rw[hs,if_pos rfl,<- wk _ Um],rfl,rfl,Um⟩,rfl,gO⟩
    ·rw[h]at hs;refine vK1 ?_;exact⟨_,[_,_],[(b3,some (bu ha)),(b2,some maa),(b,some (laa s (j+1:Nat) false))],Um,⟨k+1,by rw[hs];simp,rfl,rfl,Um⟩,rfl,gO⟩
   ·refine vK1 ?_;have hk2:k=256:=by omega
    subst hk2
    (refine AW.ret (EndsG.imp (Imp.j9 (b:=b2) 3 [.aa 1,.str (nK ha 256)] [] gO ?_));refine gS ?_;refine EndsG.eW rfl (RdQ.yes (p:=.mk 1 (nK ha 256) []) (j:=j+1) (by rw[hres,hY];rfl) Um) ?_;exact gO)
end Go.Proofs
namespace Go.Dt
open Go.Ab
def Lw{s:Str}{i:Nat}(h1:eP s i 46=false)(h2:eP s i 91=true):lv s i=xP s (i+1):=by rw[Ej h1 h2,xP];rfl
def Og{s:Str}{i:Nat}(h1:eP s i 46=false)(h2:eP s i 91=false)(h:i<s.length/\((ltI (at8 s i)=true\/om (at8 s i)=true)\/at8 s i=45)):lv s i=some (qp ((s.take (i+1)).drop i),i+1):=by rw[lv,if_neg (by rw[h1];simp),if_neg (by rw[h2];simp),if_pos];simp only[Bool.and_eq_true,Bool.or_eq_true,decide_eq_true_eq,beq_iff_eq];exact h
def Iw{s:Str}{i:Nat}(h1:eP s i 46=false)(h2:eP s i 91=false)(hi:i<s.length)(h:(ltI (at8 s i)=false/\om (at8 s i)=false)/\¬at8 s i=45):lv s i=none:=by rw[lv,if_neg (by rw[h1];simp),if_neg (by rw[h2];simp),if_neg];simp[h]
def Ti{s:Str}{i:Nat}{c d:Int}(h:eP s i c=true)(hne:¬c=d):eP s i d=false:=by have:=df.1 h;exact uy λ_ e=>hne (this.2.symm.trans e)
end Go.Dt
namespace Go.Proofs
open Go.Ab Go.Dt
theorem Pz(n:Nat)(halt:∀(b:Nat) (s:Str) (i:Nat),fe lim prog 272 [(b,some (laa s i false))] [.ptr b 0] (RdQ b s i (iY s i)) (i<=s.length/\s.length<=30/\s.length - i<n))(b:Nat)(s:Str)(i:Nat) :
  fe lim prog 329 [(b,some (laa s i false))] [.ptr b 0] (RdQ b s i (kE s i)) (i<s.length/\s.length<=30/\s.length - i<n+1):=by
 refine fe.fX (aT 329) func329 rfl rfl λhp=>(?_);rw[ntmps329]
 (refine vK1 ?_;intro h h)
 rename_i b2;refine AW.c (λh=>?_) λh=>?_
 ·simp only[h,cond_true];have hlt:=df.1 h
  have KU:=zg h
  have PX:=λp j=>zf (p:=p) (j:=j) h
  have PW:=λp j=>ze (p:=p) (j:=j) h
  (refine vK1 ?_;intro K hK)
  refine GK.rd (λp j hq hj=>?_) (λp j hq hj=>?_)
  ·(refine vK1 ?_;intro h h)
   refine AW.c (λh=>?_) λh=>?_
   ·simp only[h,cond_false];refine vK1 ?_
    (refine AW.ret (EndsG.imp (Imp.fQ (b:=b2) eaa ?_));refine gS ?_;refine EndsG.eW rfl (RdQ.no p (j:=j) (PW p j hq h) Um) ?_;exact gO)
   ·simp only[h,cond_true];have hl2:=df.1 h;refine vK1 ?_
    (refine AW.ret (EndsG.imp (Imp.fQ (b:=b2) eaa ?_));refine gS ?_;refine EndsG.eW rfl (RdQ.yes (p:=p) (j:=j+1) (PX p j hq h) Um) ?_;exact gO)
  ·(refine vK1 ?_;intro h h)
   refine AW.e λh=>?_;refine vK1 ?_
   (refine AW.ret (EndsG.imp (Imp.fQ (b:=b2) eaa ?_));refine gS ?_;refine EndsG.eW rfl (RdQ.no p (j:=j) (KU hq) Um) ?_;exact gO)
 simp only[h,cond_false];have qy:=Bs hp.1 h;refine vK1 ?_;refine AW.c (λh=>?_) λh=>?_
 ·have C4:=Lw (Ti h daa) h
  have hlt:=df.1 h;simp only[h,cond_true]
  (refine vK1 ?_;intro K hK)
  refine GK.rdB λp j bad hq hj=>?_;refine vK1 ?_;rcases hq with⟨rfl,hq⟩|⟨rfl,hq⟩
  ·(refine AW.ret (EndsG.imp (Imp.fQ (b:=b2) eaa ?_));refine gS ?_;refine EndsG.eW rfl (RdQ.yes (p:=p) (j:=j) (by rw[qy,C4,hq]) Um) ?_;exact gO)
  ·(refine AW.ret (EndsG.imp (Imp.fQ (b:=b2) eaa ?_));refine gS ?_;refine EndsG.eW rfl (RdQ.no p (j:=j) (by rw[qy,C4,hq]) Um) ?_;exact gO)
 simp only[h,cond_false];have hnc:=h;refine vK1 ?_;refine AW.c (λh=>?_) λh=>?_
 ·have P4:=Ei h
  have hlt:=df.1 h;simp only[h,cond_true];refine vK1 ?_
  (refine AW.ret (EndsG.imp (Imp.j9 (b:=b2) 3 [.aa 1,.str (qF (λc=>decide (32<=c) && decide (c<127)))] [] gO ?_));refine gS ?_;refine EndsG.eW rfl (RdQ.yes (p:=.mk 1 (qF (λc=>decide (32<=c) && decide (c<127))) []) (j:=i+1) (by rw[qy,P4,HS,qp]) Um) ?_;exact gO)
 simp only[h,cond_false];have hnd:=h;refine vK1 ?_;refine AW.c (λh=>?_) λh=>?_
 ·refine vK1 ?_
  (refine AW.ret (EndsG.imp (Imp.j9 (b:=b2) 3 [.aa 1,.str ((s.take (i+1)).drop i)] [] gO ?_));refine gS ?_;refine EndsG.eW rfl (RdQ.yes (p:=.mk 1 ((s.take (i+1)).drop i) []) (j:=i+1) (by rw[qy,Og hnd hnc h,qp]) Um) ?_;exact gO)
 ·refine vK1 ?_
  (refine AW.ret (EndsG.imp (Imp.j9 (b:=b2) 3 [.aa 0,.str []] [] gO ?_));refine gS ?_;refine EndsG.eW rfl (RdQ.no (.mk 0 [] []) (j:=i) (by rw[qy,Iw hnd hnc hp.1 (h hp.1)]) Um) ?_;exact gO)
theorem S3(n:Nat)(Y0:∀(b:Nat) (s:Str) (i:Nat),fe lim prog 329 [(b,some (laa s i false))] [.ptr b 0] (RdQ b s i (kE s i)) (i<s.length/\s.length<=30/\s.length - i<n))(b:Nat)(s:Str)(i:Nat) :
  fe lim prog 308 [(b,some (laa s i false))] [.ptr b 0] (RdQ b s i (iG s i [])) (i<=s.length/\s.length<=30/\s.length - i<n):=by
 refine fe.fX (aT 308) func308 rfl rfl λhp=>(?_);rw[ntmps308]
 (refine vK1 ?_;intro h h)
 rename_i b2;refine AW.aw [3] [0,2] (λm xs o=>∃(l:List bE) (j:Nat) (bad:Bool),xs=[.sl true 3 (l.map cq)]/\o=[(b2,some maa),(b,some (laa s j bad))]/\m=(if bad then 0 else s.length - j+1)/\j<=s.length/\l.length<=31/\i<=j/\(bad=false->l.length<=j/\iG s j l=iG s i [])/\(bad=true->iG s i []=none)) _ [(b2,some maa),(b,some (laa s i false))] (gX (Ne.symm h) rfl rfl) ⟨[],i,false,?_,rfl,rfl,?_,?_,?_,?_,?_⟩ ?_
 ·rfl
 ·omega
 ·simp
 ·omega
 ·simp
 ·simp
 rintro m xs o ⟨l,j,bad,rfl,rfl,rfl,hj,hl0,hij,hR,hN⟩
 cases bad with
 | true =>
  have hN:=hN rfl;refine vK1 ?_;refine AW.e λh=>?_;refine AW.imp (Imp.frz 3 ?_);refine gS ?_;refine vK1 ?_;refine AW.c (λh=>?_) λh=>?_
  ·refine vK1 ?_
   (refine AW.ret (EndsG.imp (Imp.fQ (b:=b2) eaa ?_));refine gS ?_;refine EndsG.eW rfl (RdQ.no (at_ l 0) (j:=j) hN Um) ?_;exact gO)
  ·refine vK1 ?_
   (refine AW.ret (EndsG.imp (Imp.fQ (b:=b2) eaa ?_));refine gS ?_;refine EndsG.eW rfl (RdQ.no (.mk 2 [] l) (j:=j) hN Um) ?_;exact gO)
 | false =>
  have hR:=hR rfl;refine vK1 ?_;refine AW.c (λh=>?_) λh=>?_
  ·have hc:=h
   (refine vK1 ?_;intro K hK)
   refine GK.rd (λp k hq hk=>?_) (λp k hq hk=>?_)
   ·have hb:=zJ hq
    have hgo:∀pp jj,post s p k=(pp,jj)->iG s jj (l++[pp])=iG s i []:=λpp jj e=>by
     rw[<- hR.2,<- I9 l hc.1.1 hc.1.2 hc.2 (by rw[mC,hq];simp only[e])]
    (refine vK1 ?_;intro h h)
    rename_i b4;refine AW.c (λh=>?_) λh=>?_
    ·simp only[h,cond_true];have hl2:=df.1 h
     have hpo:=hgo (.mk 4 [] [p]) (k+1) (by rw[post];simp[*]);refine vN1 ?_;refine AW.FC λK hK=>?_;refine gS ?_;refine vN1 ?_;refine AW.imp (Imp.fQ (b:=b4) eaa ?_);refine gS ?_;refine vK1 ?_;exact⟨_,[_],[(b2,some maa),(b,some (laa s (k+1:Nat) false))],by simp;omega,⟨l++[.mk 4 [] [p]],k+1,false,rfl,rfl,rfl,Um,by simp;omega,Um,λ_=>⟨by simp;omega,hpo⟩,Xp⟩,by simp[eG,mV,kz,kC],gO⟩
    simp only[h,cond_false];refine vK1 ?_;refine AW.c (λh=>?_) λh=>?_
    ·simp only[h,cond_true];have hl2:=df.1 h
     have hpo:=hgo (.mk 2 [] [p,.mk 4 [] [p]]) (k+1) (by rw[post];simp[*]);refine vN1 ?_;refine AW.Lq λK hK=>?_;refine gS ?_;refine vN1 ?_;refine AW.imp (Imp.fQ (b:=b4) eaa ?_);refine gS ?_;refine vK1 ?_;exact⟨_,[_],[(b2,some maa),(b,some (laa s (k+1:Nat) false))],by simp;omega,⟨l++[.mk 2 [] [p,.mk 4 [] [p]]],k+1,false,rfl,rfl,rfl,Um,by simp;omega,Um,λ_=>⟨by simp;omega,hpo⟩,Xp⟩,by simp[eG,mV,kz,kC],gO⟩
    simp only[h,cond_false];refine vK1 ?_;refine AW.c (λh=>?_) λh=>?_
    ·simp only[h,cond_true];have hl2:=df.1 h
     have hpo:=hgo (.mk 5 [] [p]) (k+1) (by rw[post];simp[*]);refine vN1 ?_;refine AW.FC λK hK=>?_;refine gS ?_;refine vN1 ?_;refine AW.imp (Imp.fQ (b:=b4) eaa ?_);refine gS ?_;refine vK1 ?_;exact⟨_,[_],[(b2,some maa),(b,some (laa s (k+1:Nat) false))],by simp;omega,⟨l++[.mk 5 [] [p]],k+1,false,rfl,rfl,rfl,Um,by simp;omega,Um,λ_=>⟨by simp;omega,hpo⟩,Xp⟩,by simp[eG,mV,kz,kC],gO⟩
    ·simp only[h,cond_false];have hpo:=hgo p k (by rw[post];simp[*]);refine vK1 ?_;exact⟨_,[_],[(b2,some maa),(b,some (laa s (k:Nat) false))],by simp;omega,⟨l++[p],k,false,rfl,rfl,rfl,Um,by simp;omega,Um,λ_=>⟨by simp;omega,hpo⟩,Xp⟩,by simp[eG,mV,kz,kC],gO⟩
   ·have hN':iG s i []=none:=by rw[<- hR.2,DK l hc.1.1 hc.1.2 hc.2 (by rw[mC,hq])]
    (refine vK1 ?_;intro h h)
    refine AW.e λh=>?_;refine vK1 ?_;refine AW.e λh=>?_;refine vK1 ?_;refine AW.e λh=>?_;refine vK1 ?_;exact⟨_,[_],[(b2,some maa),(b,some (laa s k true))],Xp,⟨l++[p],k,true,rfl,rfl,rfl,Um,by simp;omega,Um,Xp,λ_=>hN'⟩,by simp[eG],gO⟩
  ·refine AW.imp (Imp.frz 3 ?_);refine gS ?_;refine vK1 ?_;refine AW.c (λh=>?_) λh=>?_
   ·refine vK1 ?_
    (refine AW.ret (EndsG.imp (Imp.fQ (b:=b2) eaa ?_));refine gS ?_;refine EndsG.eW rfl (RdQ.yes (p:=at_ l 0) (j:=j) (by rw[<- hR.2,sI l Um,mkSeq,if_pos Um]) Um) ?_;exact gO)
   ·refine vK1 ?_
    (refine AW.ret (EndsG.imp (Imp.fQ (b:=b2) eaa ?_));refine gS ?_;refine EndsG.eW rfl (RdQ.yes (p:=.mk 2 [] l) (j:=j) (by rw[<- hR.2,sI l Um,mkSeq,if_neg Um]) Um) ?_;exact gO)
section
theorem S5(n:Nat)(abM:∀(b:Nat) (s:Str) (i:Nat),fe lim prog 308 [(b,some (laa s i false))] [.ptr b 0] (RdQ b s i (iG s i [])) (i<=s.length/\s.length<=30/\s.length - i<n))(b:Nat)(s:Str)(i:Nat) :
  fe lim prog 272 [(b,some (laa s i false))] [.ptr b 0] (RdQ b s i (iY s i)) (i<=s.length/\s.length<=30/\s.length - i<n):=by
 refine fe.fX (aT 272) func272 rfl rfl λhp=>(?_);rw[ntmps272]
 (refine vK1 ?_;with_reducible repeat first|intro(K:_->_->Prop) hK|intro h)
 rename_i b2;refine GK.rdB λp j bad hq hj=>?_;refine vK1 ?_;refine AW.aw [3] [0,2] (λm xs o=>∃(l:List bE) (j:Nat) (bad:Bool),xs=[.sl true 3 (l.map cq)]/\o=[(b2,some maa),(b,some (laa s j bad))]/\m=s.length - j/\j<=s.length/\l.length<=j+1/\i<=j/\(bad=false->mD s j l=iY s i)/\(bad=true->iY s i=none)) _ [(b2,some maa),(b,some (laa s j bad))] (gX (Ne.symm h) rfl rfl) ⟨[p],j,bad,?_,rfl,rfl,?_,?_,?_,?_,?_⟩ ?_
 ·simp[T,eG]
 ·omega
 ·simp
 ·omega
 ·rintro rfl;rcases hq with⟨_,hq⟩|⟨h,_⟩
  ·exact(Jb hp.1 hq).symm
  ·cases h
 ·rintro rfl;rcases hq with⟨h,_⟩|⟨_,hq⟩
  ·cases h
  ·exact DL hq
 clear hq hj bad;rintro m xs o ⟨l,j,bad,rfl,rfl,rfl,hj,hl,hij,hR,hN⟩
 cases bad with
 | true =>
  have hN:=hN rfl;refine vK1 ?_;refine AW.e λh=>?_;refine AW.imp (Imp.frz 3 ?_);refine gS ?_;refine vK1 ?_;refine AW.c (λh=>?_) λh=>?_
  ·refine vK1 ?_
   (refine AW.ret (EndsG.imp (Imp.fQ (b:=b2) eaa ?_));refine gS ?_;refine EndsG.eW rfl (RdQ.no (at_ l 0) (j:=j) hN Um) ?_;exact gO)
  ·refine vK1 ?_
   (refine AW.ret (EndsG.imp (Imp.fQ (b:=b2) eaa ?_));refine gS ?_;refine EndsG.eW rfl (RdQ.no (.mk 3 [] l) (j:=j) hN Um) ?_;exact gO)
 | false =>
  have hR:=hR rfl;refine vK1 ?_;refine AW.c (λh=>?_) λh=>?_
  ·simp only[h,cond_true];have hlt:=df.1 h
   (refine vK1 ?_;intro K hK)
   refine GK.rd (λp k hq hk=>?_) (λp k hq hk=>?_)
   ·refine vK1 ?_;exact⟨_,[_],[(b2,some maa),(b,some (laa s k false))],Um,⟨l++[p],k,false,rfl,rfl,rfl,Um,by simp;omega,Um,λ_=>by rw[<- hR,FK l h hq],Xp⟩,by simp[eG],gO⟩
   ·refine vK1 ?_;exact⟨_,[_],[(b2,some maa),(b,some (laa s k true))],Um,⟨l++[p],k,true,rfl,rfl,rfl,Um,by simp;omega,Um,Xp,λ_=>by rw[<- hR,Bu l h hq]⟩,by simp[eG],gO⟩
  ·simp only[h,cond_false];have hst:=Bt l h;refine AW.imp (Imp.frz 3 ?_);refine gS ?_;refine vK1 ?_;refine AW.c (λh=>?_) λh=>?_
   ·refine vK1 ?_
    (refine AW.ret (EndsG.imp (Imp.fQ (b:=b2) eaa ?_));refine gS ?_;refine EndsG.eW rfl (RdQ.yes (p:=at_ l 0) (j:=j) (by rw[<- hR,hst,vr,if_pos Um]) Um) ?_;exact gO)
   ·refine vK1 ?_
    (refine AW.ret (EndsG.imp (Imp.fQ (b:=b2) eaa ?_));refine gS ?_;refine EndsG.eW rfl (RdQ.yes (p:=.mk 3 [] l) (j:=j) (by rw[<- hR,hst,vr,if_neg Um]) Um) ?_;exact gO)
theorem DY:∀(n:Nat) (b:Nat) (s:Str) (i:Nat),fe lim prog 272 [(b,some (laa s i false))] [.ptr b 0] (RdQ b s i (iY s i)) (i<=s.length/\s.length<=30/\s.length - i<n)
 | 0,_,_,_=>⟨(aT 272),λh=>absurd h.2.2 (Nat.not_lt_zero _)⟩
 | n+1,b,s,i=>S5 (n+1) (S3 (n+1) (Pz n (DY n))) b s i
instance(b:Nat)(s:Str):fe lim prog 272 [(b,some (laa s 0 false))] [.ptr b 0] (RdQ b s 0 (iY s 0)) (s.length<=30):=⟨(aT 272),λh=>(DY 31 b s 0).out ⟨Um,h,Um⟩⟩
instance(s:Str):Ctr lim prog 229 [] [.str s] (.tup [.agg [.aa (fM s).1.fOp,.str (fM s).1.cS,.sl false 3 ((fM s).1.af.map cq)],.ac (fM s).2]) [] True:=by
 refine Ctr.bd func229 ntmps229 λhp=>?_;refine AW.f0 0 λhf=>?_;by_cases hlen:30<s.length
 ·have hd:decide (30<(s.length:Int))=true:=by simp;omega
  have e:=Br (s:=s) Um
  (refine vQ1 hd ?_;with_reducible repeat first|intro(K:_->_->Prop) hK|intro h)
  rename_i b2 b3;refine AW.e λh=>?_;refine vX1 ?_
  (refine AW.ret (EndsG.imp (Imp.j9 (b:=b2) 3 [.aa 0,.str []] [] gO ?_));refine gS ?_;refine EndsG.fin rfl ?_;simp(maxSteps:=2000000) (disch:=omega)only[go_sem,e,qq,mV,kz,kC])
 ·have hd:decide (30<(s.length:Int))=false:=by simp;omega
  (refine vQ1 hd ?_;with_reducible repeat first|intro(K:_->_->Prop) hK|intro h)
  rename_i b2 b3;refine AW.e λh=>?_
  (refine vK1 ?_;intro K hK)
  refine GK.rd (λp j hq hj=>?_) (λp j hq hj=>?_)
  ·(refine vK1 ?_;intro h h)
   refine AW.c (λh=>?_) λh=>?_
   ·have e:=Bp hq Um;refine vX1 ?_
    (refine AW.ret (EndsG.imp (Imp.j9 (b:=b2) 3 [.aa 0,.str []] [] gO ?_));refine gS ?_;refine EndsG.fin rfl ?_;simp(maxSteps:=2000000) (disch:=omega)only[go_sem,e,qq,mV,kz,kC])
   ·have e:=DJ Um hq Um;exact vP0 e
  ·have e:=Bq hq
   (refine vK1 ?_;intro h h)
   refine AW.e λh=>?_;refine vX1 ?_
   (refine AW.ret (EndsG.imp (Imp.j9 (b:=b2) 3 [.aa 0,.str []] [] gO ?_));refine gS ?_;refine EndsG.fin rfl ?_;simp(maxSteps:=2000000) (disch:=omega)only[go_sem,e,qq,mV,kz,kC])
instance(s:Str):Ctr lim prog 225 [] [.str s] (.ac (dM s)) [] True:=by refine Ctr.bd func225 ntmps225 λhp=>?_;have e:=uc s;exact vP0 e
