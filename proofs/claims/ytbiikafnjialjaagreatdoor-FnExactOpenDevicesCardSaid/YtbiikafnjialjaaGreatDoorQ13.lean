/- Part of a proof. -/
import Derived.Test.YtbiikafnjialjaaGreatDoorQ12
set_option linter.all false
set_option maxRecDepth 20000
set_option maxHeartbeats 4000000
open Go.Proofs.Tryz
open List
namespace Go.Dt
open Go.Ab
@[go_sem] def nk(a:Int)(b:Str)(c:List bP):(bP.mk a b c).fOp=a:=rfl
@[go_sem] def kN(a:Int)(b:Str)(c:List bP):(bP.mk a b c).cX=b:=rfl
@[go_sem] def kO(a:Int)(b:Str)(c:List bP):(bP.mk a b c).af=c:=rfl
def rdC(s:Str)(i:Nat)(bad:Bool):List AV:=[.str s,.v (.int .i64 i),.v (.bool bad)]
def RdQ(b:Nat)(s:Str)(i:Nat)(r:Option (bP×Nat))(res:AV)(os:Sto):Prop :=
 ∃p j bad,(bad=false/\r=some (p,j)\/bad=true/\r=none)/\(i<=j/\j<=s.length)/\res=cK p/\os=[(b,some (rdC s j bad))]
def RdQ.yes{b:Nat}{s:Str}{i:Nat}{r:Option (bP×Nat)}{p:bP}{j:Nat}(h:r=some (p,j))(hj:i<=j/\j<=s.length):RdQ b s i r (cK p) [(b,some (rdC s j false))]:=⟨p,j,false,.inl ⟨rfl,h⟩,hj,rfl,rfl⟩
def RdQ.no{b:Nat}{s:Str}{i:Nat}{r:Option (bP×Nat)}(p:bP){j:Nat}(h:r=none)(hj:i<=j/\j<=s.length):RdQ b s i r (cK p) [(b,some (rdC s j true))]:=⟨p,j,true,.inr ⟨rfl,h⟩,hj,rfl,rfl⟩
def GK.rdB{os:Sto}{b:Nat}{c:Option (List AV)}{s:Str}{i:Nat}{r:Option (bP×Nat)}{K:AV->Sto->Prop}(h:∀p j bad,(bad=false/\r=some (p,j)\/bad=true/\r=none)->i<=j/\j<=s.length->K (cK p) (mergeO os [(b,some (rdC s j bad))])):GK os [(b,c)] (RdQ b s i r) (K:=⟨K⟩):=by refine GK.intro ?_;rintro res os' ⟨p,j,bad,hr,hj,rfl,rfl⟩;exact⟨rfl,h p j bad hr hj⟩
def GK.rd{os:Sto}{b:Nat}{c:Option (List AV)}{s:Str}{i:Nat}{r:Option (bP×Nat)}{K:AV->Sto->Prop}(h1:∀p j,r=some (p,j)->i<=j/\j<=s.length->K (cK p) (mergeO os [(b,some (rdC s j false))]))(h2:∀p j,r=none->i<=j/\j<=s.length->K (cK p) (mergeO os [(b,some (rdC s j true))])):GK os [(b,c)] (RdQ b s i r) (K:=⟨K⟩):=by
 refine GK.rdB ?_;rintro p j bad (⟨rfl,h⟩|⟨rfl,h⟩) hj
 ·exact h1 p j h hj
 ·exact h2 p j h hj
def EndsG.fq{L:gaa}{P:Program}{n:Nat}{fn:Func}{t:faa}{o o':Sto}{rs:List ResultVar}{res:AV}{Q:AV->Sto->Prop}(hr:fn.results=rs.toArray)(hQ:Q res o')(h:qM P n rs t o [] (λxs os=>sC xs=res/\j5 o' os)):EndsG L P fn ⟨n,t,o⟩ Q:=by have:=EndsG.fin (L:=L) hr h;intro B F0 w0 a w hd;obtain⟨v,Gp,os',F',own',fs',fp,h3,⟨rfl,rfl⟩,h5⟩:=this B F0 w0 a w hd;exact⟨v,Gp,os',F',own',fs',fp,h3,hQ,h5⟩
attribute [go_sem] rdC Int.toNat_zero
end Go.Dt
namespace Go.Proofs
open Go.Ab Go.Dt
theorem Wv(n:Nat)(ZF:∀(b:Nat) (s:Str) (i:Nat),fC lim prog 358 [(b,some (laa s i false))] [.ptr b 0] (RdQ b s i (kQ s i)) (i<s.length/\s.length<=30/\s.length - i<n))(b:Nat)(s:Str)(i:Nat) :
  fC lim prog 338 [(b,some (laa s i false))] [.ptr b 0] (RdQ b s i (mK s i)) (i<s.length/\s.length<=30/\s.length - i<n):=by
 refine fC.gb (aU 338) func338 rfl rfl λhp=>(?_);rw[ntmps338]
 (refine vK1 ?_;with_reducible repeat first|intro(K:_->_->Prop) hK|intro h)
 rename_i b2;have acs:∀p j,kQ s i=some (p,j)->mK s i=some (post s p j):=λp j h=>by rw[mK,h]
 refine GK.rd (λp j hq hj=>?_) (λp j hq hj=>?_)
 ·have hb:=Am hq
  have hpi:=acs p j hq
  (refine vK1 ?_;intro h h)
  rename_i b3;refine AW.c (λh=>?_) λh=>?_
  ·simp only[h,cond_true];have hlt:=dm.1 h;refine vK1 ?_
   (refine AW.ret (EndsG.imp (Imp.gp (b:=b2) eaa ?_));refine gS ?_;refine EndsG.fq rfl (RdQ.yes (p:=.mk 4 [] [p]) (j:=j+1) (by rw[hpi,post];simp[*]) Yt) ?_;exact gO)
  ·simp only[h,cond_false];refine vK1 ?_;refine AW.c (λh=>?_) λh=>?_
   ·simp only[h,cond_true];have hlt:=dm.1 h;refine vK1 ?_
    (refine AW.ret (EndsG.imp (Imp.gp (b:=b2) eaa ?_));refine gS ?_;refine EndsG.fq rfl (RdQ.yes (p:=.mk 2 [] [p,.mk 4 [] [p]]) (j:=j+1) (by rw[hpi,post];simp[*]) Yt) ?_;exact gO)
   ·simp only[h,cond_false];refine vK1 ?_;refine AW.c (λh=>?_) λh=>?_
    ·simp only[h,cond_true];have hlt:=dm.1 h;refine vK1 ?_
     (refine AW.ret (EndsG.imp (Imp.gp (b:=b2) eaa ?_));refine gS ?_;refine EndsG.fq rfl (RdQ.yes (p:=.mk 5 [] [p]) (j:=j+1) (by rw[hpi,post];simp[*]) Yt) ?_;exact gO)
    ·simp only[h,cond_false];refine vK1 ?_
     (refine AW.ret (EndsG.imp (Imp.gp (b:=b2) eaa ?_));refine gS ?_;refine EndsG.fq rfl (RdQ.yes (p:=p) (j:=j) (by rw[hpi,post];simp[*]) Yt) ?_;exact gO)
 ·have hpi:mK s i=none:=by rw[mK,hq]
  (refine vK1 ?_;intro h h)
  rename_i b3;refine AW.c (λh=>?_) λh=>?_
  ·simp only[h,cond_true];have hlt:=dm.1 h;refine vK1 ?_
   (refine AW.ret (EndsG.imp (Imp.gp (b:=b2) eaa ?_));refine gS ?_;refine EndsG.fq rfl (RdQ.no (.mk 4 [] [p]) (j:=j+1) hpi Yt) ?_;exact gO)
  ·simp only[h,cond_false];refine vK1 ?_;refine AW.c (λh=>?_) λh=>?_
   ·simp only[h,cond_true];have hlt:=dm.1 h;refine vK1 ?_
    (refine AW.ret (EndsG.imp (Imp.gp (b:=b2) eaa ?_));refine gS ?_;refine EndsG.fq rfl (RdQ.no (.mk 2 [] [p,.mk 4 [] [p]]) (j:=j+1) hpi Yt) ?_;exact gO)
   ·simp only[h,cond_false];refine vK1 ?_;refine AW.c (λh=>?_) λh=>?_
    ·simp only[h,cond_true];have hlt:=dm.1 h;refine vK1 ?_
     (refine AW.ret (EndsG.imp (Imp.gp (b:=b2) eaa ?_));refine gS ?_;refine EndsG.fq rfl (RdQ.no (.mk 5 [] [p]) (j:=j+1) hpi Yt) ?_;exact gO)
    ·simp only[h,cond_false];refine vK1 ?_
     (refine AW.ret (EndsG.imp (Imp.gp (b:=b2) eaa ?_));refine gS ?_;refine EndsG.fq rfl (RdQ.no p (j:=j) hpi Yt) ?_;exact gO)
theorem YO(n:Nat)(afj:∀(b:Nat) (s:Str) (i:Nat),fC lim prog 338 [(b,some (laa s i false))] [.ptr b 0] (RdQ b s i (mK s i)) (i<s.length/\s.length<=30/\s.length - i<n))(b:Nat)(s:Str)(i:Nat) :
  fC lim prog 315 [(b,some (laa s i false))] [.ptr b 0] (RdQ b s i (iN s i [])) (i<=s.length/\s.length<=30/\s.length - i<n):=by
 refine fC.gb (aU 315) func315 rfl rfl λhp=>(?_);rw[ntmps315]
 (refine vK1 ?_;intro h h)
 rename_i b2;refine AW.aw [3] [0,2] (λm xs o=>∃(l:List bP) (j:Nat) (bad:Bool),xs=[.sl true 3 (l.map cK)]/\o=[(b2,some maa),(b,some (laa s j bad))]/\m=(if bad then 0 else s.length - j+1)/\j<=s.length/\l.length<=31/\i<=j/\(bad=false->i<=j/\l.length<=j/\iN s j l=iN s i [])/\(bad=true->iN s i []=none)) _ [(b2,some maa),(b,some (laa s i false))] (iw (Ne.symm h) rfl rfl) ⟨[],i,false,?_,rfl,rfl,?_,?_,?_,?_,?_⟩ ?_
 ·rfl
 ·omega
 ·simp
 ·omega
 ·simp
 ·simp
 rintro m xs o ⟨l,j,bad,rfl,rfl,rfl,hj,hl0,hij,hR,hN⟩
 cases bad with
 | true =>
  have hN:=hN rfl;refine vK1 ?_;refine AW.e λh=>?_;refine AW.imp (Imp.frz 3 ?_);refine gS ?_;refine vK1 ?_;refine AW.c (λh=>?_) λh=>?_
  ·refine vK1 ?_
   (refine AW.ret (EndsG.imp (Imp.gp (b:=b2) eaa ?_));refine gS ?_;refine EndsG.fq rfl (RdQ.no (at_ l 0) (j:=j) hN Yt) ?_;exact gO)
  ·refine vK1 ?_
   (refine AW.ret (EndsG.imp (Imp.gp (b:=b2) eaa ?_));refine gS ?_;refine EndsG.fq rfl (RdQ.no (.mk 2 [] l) (j:=j) hN Yt) ?_;exact gO)
 | false =>
  have hR:=hR rfl;refine vK1 ?_;refine AW.c (λh=>?_) λh=>?_
  ·rename_i hc
   (refine vK1 ?_;intro K hK)
   refine GK.rd (λp k hq hk=>?_) (λp k hq hk=>?_)
   ·have hb:=Gx hq;refine vK1 ?_;exact⟨_,[_],[(b2,some maa),(b,some (laa s k false))],by simp;omega,⟨l++[p],k,false,rfl,rfl,rfl,Yt,by simp;omega,Yt,λ_=>⟨Yt,by simp;omega,by rw[<- hR.2.2,JY l h.1.1 h.1.2 h.2 hq]⟩,zH⟩,by simp[eQ],gO⟩
   ·refine vK1 ?_;exact⟨_,[_],[(b2,some maa),(b,some (laa s k true))],zH,⟨l++[p],k,true,rfl,rfl,rfl,Yt,by simp;omega,Yt,zH,λ_=>by rw[<- hR.2.2,Es l h.1.1 h.1.2 h.2 hq]⟩,by simp[eQ],gO⟩
  ·refine AW.imp (Imp.frz 3 ?_);refine gS ?_;refine vK1 ?_;refine AW.c (λh=>?_) λh=>?_
   ·refine vK1 ?_
    (refine AW.ret (EndsG.imp (Imp.gp (b:=b2) eaa ?_));refine gS ?_;refine EndsG.fq rfl (RdQ.yes (p:=at_ l 0) (j:=j) (by rw[<- hR.2.2,tw l Yt,mkSeq,if_pos Yt]) Yt) ?_;exact gO)
   ·refine vK1 ?_
    (refine AW.ret (EndsG.imp (Imp.gp (b:=b2) eaa ?_));refine gS ?_;refine EndsG.fq rfl (RdQ.yes (p:=.mk 2 [] l) (j:=j) (by rw[<- hR.2.2,tw l Yt,mkSeq,if_neg Yt]) Yt) ?_;exact gO)
instance(b:Nat)(s:Str)(i:Nat):Ctr lim prog 315 [(b,some (laa s i true))] [.ptr b 0] (.agg [.aa 2,.str [],.sl false 3 []]) [some (laa s i true)] True:=by
 refine Ctr.bd func315 ntmps315 λhp=>?_
 (refine vK1 ?_;intro h h)
 rename_i b2;refine AW.aw [3] [0,2] (λm xs o=>xs=[.sl true 3 []]/\o=[(b2,some maa),(b,some (laa s i true))]) 0 [(b2,some maa),(b,some (laa s i true))] (iw (Ne.symm h) rfl rfl) ⟨rfl,rfl⟩ ?_;rintro m xs o ⟨rfl,rfl⟩;refine vK1 ?_;refine AW.e λh=>?_;refine AW.imp (Imp.frz 3 ?_);refine gS ?_;refine vK1 ?_;refine AW.c (λh=>?_) λh=>?_
 ·simp at h
 ·all_goals exact uU
theorem ZY(n:Nat)(acn:∀(b:Nat) (s:Str) (i:Nat),fC lim prog 315 [(b,some (laa s i false))] [.ptr b 0] (RdQ b s i (iN s i [])) (i<=s.length/\s.length<=30/\s.length - i<n))(b:Nat)(s:Str)(i:Nat) :
  fC lim prog 286 [(b,some (laa s i false))] [.ptr b 0] (RdQ b s i (jg s i)) (i<=s.length/\s.length<=30/\s.length - i<n):=by
 refine fC.gb (aU 286) func286 rfl rfl λhp=>(?_);rw[ntmps286]
 (refine vK1 ?_;with_reducible repeat first|intro(K:_->_->Prop) hK|intro h)
 rename_i b2;refine GK.rdB λp j bad hq hj=>?_;refine vK1 ?_;refine AW.aw [3] [0,2] (λm xs o=>∃(l:List bP) (j:Nat) (bad:Bool),xs=[.sl true 3 (l.map cK)]/\o=[(b2,some maa),(b,some (laa s j bad))]/\m=s.length - j/\j<=s.length/\l.length<=j+1/\i<=j/\(bad=false->mL s j l=jg s i)/\(bad=true->jg s i=none)) _ [(b2,some maa),(b,some (laa s j bad))] (iw (Ne.symm h) rfl rfl) ⟨[p],j,bad,?_,rfl,rfl,?_,?_,?_,?_,?_⟩ ?_
 ·simp[T,eQ]
 ·omega
 ·simp
 ·omega
 ·rintro rfl;rcases hq with⟨_,hq⟩|⟨h,_⟩
  ·exact(J0 hp.1 hq).symm
  ·cases h
 ·rintro rfl;rcases hq with⟨h,_⟩|⟨_,hq⟩
  ·cases h
  ·exact Et hq
 clear hq hj bad;rintro m xs o ⟨l,j,bad,rfl,rfl,rfl,hj,hl,hij,hR,hN⟩;refine vK1 ?_;refine AW.c (λh=>?_) λh=>?_
 ·simp only[h,cond_true];have hlt:=dm.1 h
  cases bad with
  | true =>
   have hN:=hN rfl;refine vK1 ?_;exact⟨_,[_],[(b2,some maa),(b,some (laa s (j+1:Nat) true))],Yt,⟨l++[.mk 2 [] []],j+1,true,rfl,rfl,rfl,Yt,by simp;omega,Yt,zH,λ_=>hN⟩,by simp[eQ,nk,kN,kO],gO⟩
  | false =>
   have hR:=hR rfl
   (refine vK1 ?_;intro K hK)
   refine GK.rd (λp k hq hk=>?_) (λp k hq hk=>?_)
   ·refine vK1 ?_;exact⟨_,[_],[(b2,some maa),(b,some (laa s k false))],Yt,⟨l++[p],k,false,rfl,rfl,rfl,Yt,by simp;omega,Yt,λ_=>by rw[<- hR,Gy l h hq],zH⟩,by simp[eQ],gO⟩
   ·refine vK1 ?_;exact⟨_,[_],[(b2,some maa),(b,some (laa s k true))],Yt,⟨l++[p],k,true,rfl,rfl,rfl,Yt,by simp;omega,Yt,zH,λ_=>by rw[<- hR,Ce l h hq]⟩,by simp[eQ],gO⟩
 ·rename_i afh;simp only[h,cond_false];refine AW.imp (Imp.frz 3 ?_);refine gS ?_;refine vK1 ?_
  cases bad with
  | true =>
   have hN:=hN rfl;refine AW.c (λh=>?_) λh=>?_
   ·refine vK1 ?_
    (refine AW.ret (EndsG.imp (Imp.gp (b:=b2) eaa ?_));refine gS ?_;refine EndsG.fq rfl (RdQ.no (at_ l 0) (j:=j) hN Yt) ?_;exact gO)
   ·refine vK1 ?_
    (refine AW.ret (EndsG.imp (Imp.gp (b:=b2) eaa ?_));refine gS ?_;refine EndsG.fq rfl (RdQ.no (.mk 3 [] l) (j:=j) hN Yt) ?_;exact gO)
  | false =>
   have hR:=hR rfl
   have hst:=Cd l h;refine AW.c (λh=>?_) λh=>?_
   ·refine vK1 ?_
    (refine AW.ret (EndsG.imp (Imp.gp (b:=b2) eaa ?_));refine gS ?_;refine EndsG.fq rfl (RdQ.yes (p:=at_ l 0) (j:=j) (by rw[<- hR,hst,vY,if_pos Yt]) Yt) ?_;exact gO)
   ·refine vK1 ?_
    (refine AW.ret (EndsG.imp (Imp.gp (b:=b2) eaa ?_));refine gS ?_;refine EndsG.fq rfl (RdQ.yes (p:=.mk 3 [] l) (j:=j) (by rw[<- hR,hst,vY,if_neg Yt]) Yt) ?_;exact gO)
end Go.Proofs
namespace Go.Dt
open Go.Ab
def oI(s:Str)(j:Nat)(h:Nat->Bool):Option ((Nat->Bool)×Nat) :=
 match nW s j with
 | none=>none
 | some (a,z,k)=>p9 s k (λc=>h c || (decide (a<=(c:Int)) && decide ((c:Int)<=z)))
def Iz{s:Str}{j:Nat}(h:Nat->Bool)(e:eZ s j 93=true):p9 s j h=some (h,j+1):=by rw[p9,if_pos e]
def KO{s:Str}{j:Nat}(h:Nat->Bool)(e:eZ s j 93=false):p9 s j h=oI s j h:=by
 rw[p9,if_neg (by rw[e];simp),oI];split
 ·rename_i he;rw[he]
 ·rename_i a z k he;rw[he]
def lH{s:Str}{j:Nat}(h:Nat->Bool)(e:nW s j=none):oI s j h=none:=by rw[oI,e]
def oX{s:Str}{j:Nat}(h:Nat->Bool){a z:Int}{k:Nat}(e:nW s j=some (a,z,k)):oI s j h=p9 s k (λc=>h c || (decide (a<=(c:Int)) && decide ((c:Int)<=z))):=by rw[oI,e]
def nA(s:Str)(i:Nat):jW s i=(decide (i<s.length) && pY (at8 s i)):=rfl
def oY{s:Str}{i:Nat}(h:jW s i=true):i<s.length:=by rw[nA,Bool.and_eq_true,decide_eq_true_eq]at h;exact h.1
def zf{s:Str}{j:Nat}(h:jW s j=false):nW s j=none:=by rw[nA]at h;rw[nW,h];rfl
def Bn{s:Str}{j:Nat}(h:jW s j=true)(e:eZ s (j+1) 126=false):nW s j=some (at8 s j,at8 s j,j+1):=by rw[nA]at h;rw[nW,h,if_pos rfl,e];simp
def Bm{s:Str}{j:Nat}(h:jW s j=true)(e:eZ s (j+1) 126=true)(h2:jW s (j+2)=true)(h3:at8 s j<=at8 s (j+2:Nat)):nW s j=some (at8 s j,at8 s (j+2:Nat),j+3):=by rw[nA]at h h2;rw[nW,h,if_pos rfl,e,if_pos rfl,h2,decide_eq_true h3];rfl
def sR{s:Str}{j:Nat}(e:eZ s (j+1) 126=true)(h2:jW s (j+2)=false\/at8 s (j+2:Nat)<at8 s j):nW s j=none:=by
 rw[nW];split
 ·rw[if_neg];rcases h2 with h2|h2
  ·rw[nA]at h2;rw[h2];simp
  ·simp only[Bool.and_eq_true,decide_eq_true_eq,not_and];intro _;omega
 ·rfl
def E3{s:Str}{i:Nat}(h1:eZ s i 46=false)(h2:eZ s i 91=true):lK s i=(match oI s (i+1) (λ_=>false)with|none=>none|some (has,k)=>some (qN (rf has),k)):=by
 rw[lK,if_neg (by rw[h1];simp),if_pos h2,oI]
 cases e:nW s (i+1)with
 | none=>rfl
 | some p =>
  obtain⟨a,z,j⟩:=p;simp only[Bool.false_or];rfl
def E2{s:Str}{i:Nat}(h1:eZ s i 46=true):lK s i=some (qN pQ,i+1):=by rw[lK,if_pos h1]
def Pc{s:Str}{i:Nat}(h1:eZ s i 46=false)(h2:eZ s i 91=false)(hi:i<s.length)(h3:jW s i=true)(h4:¬at8 s i=95):lK s i=some (qN ((s.take (i+1)).drop i),i+1):=by
 have h5:¬at8 s i=46:=λe=>by rw[na ⟨hi,e⟩]at h1;cases h1
 rw[lK,if_neg (by rw[h1];simp),if_neg (by rw[h2];simp),if_pos];rw[nA,pY]at h3;have e1:(at8 s i == 95)=false:=by simpa using h4
 have e2:(at8 s i == 46)=false:=by simpa using h5
 rw[e1,e2,Bool.or_false,Bool.or_false]at h3;exact h3
def IG{s:Str}{i:Nat}(h1:eZ s i 46=false)(h2:eZ s i 91=false)(hi:i<s.length)(h3:jW s i=true->at8 s i=95):lK s i=none:=by
 rw[lK,if_neg (by rw[h1];simp),if_neg (by rw[h2];simp),if_neg];intro h
 have hc:jW s i=true:=by
  rw[nA,pY];simp only[Bool.and_eq_true,Bool.or_eq_true]at h ⊢;exact⟨h.1,by rcases h.2 with(e|e)|e<;>simp[e]⟩
 have:=h3 hc;rw[this]at h;simp[ltI,oH]at h
def OG:bE (λc=>decide (32<=c) && decide (c<32))=bE (λ_=>false):=by congr 1;funext c;simp
def OE{k:Nat}(h:32<=k):bE (λc=>if c=k then true else decide (32<=c) && decide (c<k))=bE (λc=>decide (32<=c) && decide (c<k+1)):=by
 congr 1;funext c
 by_cases e:c=k
 ·subst e;simp[h]
 ·rw[if_neg e]
  congr 1
  exact decide_eq_decide.2 Yt
def fV(ha:Nat->Bool)(a:Int):bE (λc=>ha c || (decide (a<=(c:Int)) && decide ((c:Int)<a)))=bE ha:=by
 congr 1;funext c
 have:(decide (a<=(c:Int)) && decide ((c:Int)<a))=false:=by simp
 rw[this,Bool.or_false]
def fW(ha:Nat->Bool){a:Int}{y:Nat}(h:a<=(y:Int)):bE (λc=>if c=y then true else ha c || (decide (a<=(c:Int)) && decide ((c:Int)<(y:Int))))=bE (λc=>ha c || (decide (a<=(c:Int)) && decide ((c:Int)<((y+1:Nat):Int)))):=by
 congr 1;funext c
 by_cases e:c=y
 ·subst e;simp[h];right;omega
 ·rw[if_neg e]
  congr 2
  exact decide_eq_decide.2 Yt
@[go_sem] def adp(s:Str)(n:Int):unb [.v (.int .u8 (at8 s n))]=some [UInt8.ofNat (at8 s n).toNat]:=by
 have h1:=nB s n
 have h2:=nC s n;simp only[unb,if_pos (And.intro h2 h1),Option.map_some]
def K3{s:Str}{i:Nat}(h:i<s.length):(s.take (i+1)).drop i=[UInt8.ofNat (at8 s i).toNat]:=by
 have e:UInt8.ofNat (at8 s i).toNat=s[i]:=by simp[at8,getElem?_eq_getElem h]
 rw[drop_take,show i+1 - i=1 by omega,drop_eq_getElem_cons h,e];rfl
def oW(ha:Nat->Bool){a z:Int}{y:Int}(h:y=z+1):(λc:Nat=>ha c || (decide (a<=(c:Int)) && decide ((c:Int)<y)))=(λc:Nat=>ha c || (decide (a<=(c:Int)) && decide ((c:Int)<=z))):=by
 funext c
 congr 2
 exact decide_eq_decide.2 Yt
def IQ:rf (λc=>decide (32<=c) && decide (c<127))=pQ:=by
 unfold pQ
 congr 1;funext c
 congr 1
 exact decide_eq_decide.2 Yt
end Go.Dt
namespace Go.Proofs
open Go.Ab Go.Dt
theorem XB(n:Nat)(halt:∀(b:Nat) (s:Str) (i:Nat),fC lim prog 286 [(b,some (laa s i false))] [.ptr b 0] (RdQ b s i (jg s i)) (i<=s.length/\s.length<=30/\s.length - i<n))(b:Nat)(s:Str)(i:Nat) :
  fC lim prog 358 [(b,some (laa s i false))] [.ptr b 0] (RdQ b s i (kQ s i)) (i<s.length/\s.length<=30/\s.length - i<n+1):=by
 refine fC.gb (aU 358) func358 rfl rfl λhp=>(?_);rw[ntmps358]
 (refine vK1 ?_;intro h h h h)
 rename_i b2 hg1 b3;refine AW.c (λh=>?_) λh=>?_
 ·simp only[h,cond_true];have hlt:=dm.1 h
  have LP:=zK h
  have QI:=λp j=>zJ (p:=p) (j:=j) h
  have QH:=λp j=>zI (p:=p) (j:=j) h
  (refine vK1 ?_;intro K hK)
  refine GK.rd (λp j hq hj=>?_) (λp j hq hj=>?_)
  ·(refine vK1 ?_;intro h h)
   refine AW.c (λh=>?_) λh=>?_
   ·simp only[h,cond_false];refine vK1 ?_
    (refine AW.ret (EndsG.imp (Imp.gp (b:=b2) eaa ?_));refine gS ?_;refine EndsG.fq rfl (RdQ.no p (j:=j) (QH p j hq h) Yt) ?_;exact gO)
   ·simp only[h,cond_true];have hl2:=dm.1 h;refine vK1 ?_
    (refine AW.ret (EndsG.imp (Imp.gp (b:=b2) eaa ?_));refine gS ?_;refine EndsG.fq rfl (RdQ.yes (p:=p) (j:=j+1) (QI p j hq h) Yt) ?_;exact gO)
  ·(refine vK1 ?_;intro h h)
   refine AW.c (λh=>?_) λh=>?_
   ·simp only[h,cond_false];refine vK1 ?_
    (refine AW.ret (EndsG.imp (Imp.gp (b:=b2) eaa ?_));refine gS ?_;refine EndsG.fq rfl (RdQ.no p (j:=j) (LP hq) Yt) ?_;exact gO)
   ·simp only[h,cond_true];have hl2:=dm.1 h;refine vK1 ?_
    (refine AW.ret (EndsG.imp (Imp.gp (b:=b2) eaa ?_));refine gS ?_;refine EndsG.fq rfl (RdQ.no p (j:=j+1) (LP hq) Yt) ?_;exact gO)
 simp only[h,cond_false];have qV:=Cc hp.1 h;refine vK1 ?_;refine AW.c (λh=>?_) λh=>?_
 ·have QP:=E2 h;simp only[h,cond_true];refine vK1 ?_;refine AW.aw [5] [0,2,3] (λm xs o=>∃k:Nat,xs=[.aa k]/\o=[(b3,some (bE (λc=>decide (32<=c) && decide (c<k)))),(b2,some maa),(b,some (laa s (i+1:Nat) false))]/\m=127 - k/\32<=k/\k<=127) 95 [(b3,some (bE (λ_=>false))),(b2,some maa),(b,some (laa s (i+1:Nat) false))] gO ⟨32,rfl,?_,rfl,Yt,Yt⟩ ?_
  ·rw[OG]
  rintro m xs o ⟨k,rfl,rfl,rfl,hk1,hk2⟩;refine vK1 ?_;refine AW.c (λh=>?_) λh=>?_
  ·refine vK1 ?_;exact⟨_,[_],[(b3,some (bE (λc=>decide (32<=c) && decide (c<k+1)))),(b2,some maa),(b,some (laa s (i+1:Nat) false))],Yt,⟨k+1,rfl,rfl,rfl,Yt,Yt⟩,rfl,by rw[<- OE hk1];simp(maxSteps:=2000000) (disch:=omega)only[go_sem]⟩
  ·have:k=127:=by omega
   subst this;refine vK1 ?_
   (refine AW.ret (EndsG.imp (Imp.gp (b:=b2) eaa ?_));refine gS ?_;refine EndsG.fq rfl (RdQ.yes (p:=.mk 1 (rf (λc=>decide (32<=c) && decide (c<127))) []) (j:=i+1) (by rw[qV,QP,IQ,qN]) Yt) ?_;exact gO)
 simp only[h,cond_false];have hnd:=h;refine vK1 ?_;refine AW.c (λh=>?_) λh=>?_
 ·have DP:=E3 hnd h;simp only[h,cond_true];generalize hRR:oI s (i+1) (λ_=>false)=R at DP;refine vK1 ?_;refine AW.aw [6] [0,2,3] (λm xs o=>∃(k j:Nat) (ha:Nat->Bool) (bad:Bool),xs=[.aa k]/\o=[(b3,some (bE ha)),(b2,some maa),(b,some (laa s j bad))]/\m=(if bad then 0 else s.length - j+1)/\j<=s.length/\i<=j/\k<=31/\(bad=false->k<=j/\(if k=0 then oI s j ha else p9 s j ha)=R)/\(bad=true->R=none)) _ [(b3,some (bE (λ_=>false))),(b2,some maa),(b,some (laa s (i+1:Nat) false))] gO ⟨0,i+1,λ_=>false,false,rfl,rfl,rfl,Yt,Yt,Yt,λ_=>⟨Yt,by rw[if_pos rfl];exact hRR⟩,zH⟩ ?_;rintro m xs o ⟨k,j,ha,bad,rfl,rfl,rfl,hj,hij,hk,hR,hN⟩
  cases bad with
  | true =>
   have hN:=hN rfl;refine vK1 ?_;refine AW.e λh=>?_;refine vK1 ?_
   (refine AW.ret (EndsG.imp (Imp.gp (b:=b2) eaa ?_));refine gS ?_;refine EndsG.fq rfl (RdQ.no (.mk 1 (rf ha) []) (j:=j) (by rw[qV,DP,hN]) Yt) ?_;exact gO)
  | false =>
   have hR:=hR rfl;by_cases hk0:k=0
   ·subst hk0;have hS:oI s j ha=R:=by simpa using hR.2
    rw[show ((0:Nat):Int)=0 from rfl]
    (refine vK1 ?_;intro h)
    refine AW.e λh=>?_;have hge:=nC s (j:Int)
    have hle:=nB s (j:Int)
    have acG:=nC s ((j+1:Nat):Int)
    have hle1:=nB s ((j+1:Nat):Int)
    have WO:=nC s ((j+1+1:Nat):Int)
    have hle2:=nB s ((j+1+1:Nat):Int)
    cases hch:jW s j with
    | false =>
     have hN':R=none:=by rw[<- hS,lH ha (zf hch)]
     (refine vQ1 hch ?_;with_reducible repeat first|intro(K:_->_->Prop) hK|intro h)
     refine AW.c (λh=>?_) λh=>?_
     ·simp only[h,cond_true];have hl2:=dm.1 h
      cases hc2:jW s (j+1)with
      | true =>
       have hl3:=oY hc2
       (refine vQ1 hc2 ?_;with_reducible repeat first|intro(K:_->_->Prop) hK|intro h)
       refine AW.c (λh=>?_) λh=>?_
       ·omega
       ·refine vK1 ?_;refine AW.aw [9] [0,2,3,6,7,8] (λm xs o=>∃x:Int,xs=[.aa x]/\o=[(b3,some (bE (λc=>ha c || (decide (0<=(c:Int)) && decide ((c:Int)<x))))),(b2,some maa),(b,some (laa s (j+1+1:Nat) true))]/\m=(256 - x).toNat/\0<=x/\x<=256/\(0<=at8 s ((j+1:Nat):Int)->x<=at8 s ((j+1:Nat):Int)+1)/\(at8 s ((j+1:Nat):Int)<0->x=0)) _ [(b3,some (bE ha)),(b2,some maa),(b,some (laa s (j+1+1:Nat) true))] gO ⟨0,rfl,by rw[fV],rfl,Yt,Yt,Yt,Yt⟩ ?_;rintro m xs o ⟨x,rfl,rfl,rfl,hx1,hx2,hx3,hx4⟩
        obtain⟨y,rfl⟩:∃y:Nat,x=y:=⟨x.toNat,Yt⟩
        refine vK1 ?_;refine AW.c (λh=>?_) λh=>?_
        ·refine vK1 ?_
         try exact⟨_,[_],[(b3,some (bE (λc=>ha c || (decide (0<=(c:Int)) && decide ((c:Int)<((y+1:Nat):Int)))))),(b2,some maa),(b,some (laa s (j+1+1:Nat) true))],Yt,⟨((y+1:Nat):Int),rfl,rfl,rfl,Yt,Yt,Yt,Yt⟩,zH,by rw[<- fW ha Yt];simp(maxSteps:=2000000) (disch:=omega)only[go_sem]⟩
        ·refine vK1 ?_;exact⟨0,[_],[(b3,some (bE (λc=>ha c || (decide (0<=(c:Int)) && decide ((c:Int)<(y:Int)))))),(b2,some maa),(b,some (laa s (j+1+1:Nat) true))],zH,⟨0+1,j+1+1,_,true,rfl,rfl,rfl,Yt,Yt,Yt,zH,λ_=>hN'⟩,rfl,gO⟩
      | false =>
       (refine vQ1 hc2 ?_;with_reducible repeat first|intro(K:_->_->Prop) hK|intro h)
       refine AW.c (λh=>?_) λh=>?_
       ·omega
       ·refine vK1 ?_;refine AW.aw [9] [0,2,3,6,7,8] (λm xs o=>∃x:Int,xs=[.aa x]/\o=[(b3,some (bE (λc=>ha c || (decide (0<=(c:Int)) && decide ((c:Int)<x))))),(b2,some maa),(b,some (laa s (j+1:Nat) true))]/\m=(256 - x).toNat/\0<=x/\x<=256/\(0<=0->x<=0+1)/\(0<0->x=0)) _ [(b3,some (bE ha)),(b2,some maa),(b,some (laa s (j+1:Nat) true))] gO ⟨0,rfl,by rw[fV],rfl,Yt,Yt,Yt,Yt⟩ ?_;rintro m xs o ⟨x,rfl,rfl,rfl,hx1,hx2,hx3,hx4⟩
        obtain⟨y,rfl⟩:∃y:Nat,x=y:=⟨x.toNat,Yt⟩
        refine vK1 ?_;refine AW.c (λh=>?_) λh=>?_
        ·refine vK1 ?_
         try exact⟨_,[_],[(b3,some (bE (λc=>ha c || (decide (0<=(c:Int)) && decide ((c:Int)<((y+1:Nat):Int)))))),(b2,some maa),(b,some (laa s (j+1:Nat) true))],Yt,⟨((y+1:Nat):Int),rfl,rfl,rfl,Yt,Yt,Yt,Yt⟩,zH,by rw[<- fW ha Yt];simp(maxSteps:=2000000) (disch:=omega)only[go_sem]⟩
        ·refine vK1 ?_;exact⟨0,[_],[(b3,some (bE (λc=>ha c || (decide (0<=(c:Int)) && decide ((c:Int)<(y:Int)))))),(b2,some maa),(b,some (laa s (j+1:Nat) true))],zH,⟨0+1,j+1,_,true,rfl,rfl,rfl,Yt,Yt,Yt,zH,λ_=>hN'⟩,rfl,gO⟩
     ·simp only[h,cond_false];refine vK1 ?_;refine AW.c (λh=>?_) λh=>?_
      ·omega
      ·refine vK1 ?_;refine AW.aw [9] [0,2,3,6,7,8] (λm xs o=>∃x:Int,xs=[.aa x]/\o=[(b3,some (bE (λc=>ha c || (decide (0<=(c:Int)) && decide ((c:Int)<x))))),(b2,some maa),(b,some (laa s (j:Nat) true))]/\m=(256 - x).toNat/\0<=x/\x<=256/\(0<=0->x<=0+1)/\(0<0->x=0)) _ [(b3,some (bE ha)),(b2,some maa),(b,some (laa s (j:Nat) true))] gO ⟨0,rfl,by rw[fV],rfl,Yt,Yt,Yt,Yt⟩ ?_;rintro m xs o ⟨x,rfl,rfl,rfl,hx1,hx2,hx3,hx4⟩
       obtain⟨y,rfl⟩:∃y:Nat,x=y:=⟨x.toNat,Yt⟩
       refine vK1 ?_;refine AW.c (λh=>?_) λh=>?_
       ·refine vK1 ?_
        try exact⟨_,[_],[(b3,some (bE (λc=>ha c || (decide (0<=(c:Int)) && decide ((c:Int)<((y+1:Nat):Int)))))),(b2,some maa),(b,some (laa s (j:Nat) true))],Yt,⟨((y+1:Nat):Int),rfl,rfl,rfl,Yt,Yt,Yt,Yt⟩,zH,by rw[<- fW ha Yt];simp(maxSteps:=2000000) (disch:=omega)only[go_sem]⟩
       ·refine vK1 ?_;exact⟨0,[_],[(b3,some (bE (λc=>ha c || (decide (0<=(c:Int)) && decide ((c:Int)<(y:Int)))))),(b2,some maa),(b,some (laa s (j:Nat) true))],zH,⟨0+1,j,_,true,rfl,rfl,rfl,Yt,Yt,Yt,zH,λ_=>hN'⟩,rfl,gO⟩
    | true =>
     have hl1:=oY hch
     (refine vQ1 hch ?_;with_reducible repeat first|intro(K:_->_->Prop) hK|intro h)
     refine AW.c (λh=>?_) λh=>?_
     ·simp only[h,cond_true];have ui:=h
      have hl2:=dm.1 h
      cases hc2:jW s (j+1+1)with
      | true =>
       have hl3:=oY hc2
       (refine vQ1 hc2 ?_;with_reducible repeat first|intro(K:_->_->Prop) hK|intro h)
       refine AW.c (λh=>?_) λh=>?_
       ·have hN':R=none:=by rw[<- hS,lH ha (sR ui (.inr h))]
        refine vK1 ?_;refine AW.aw [9] [0,2,3,6,7,8] (λm xs o=>∃x:Int,xs=[.aa x]/\o=[(b3,some (bE (λc=>ha c || (decide (at8 s (j:Int)<=(c:Int)) && decide ((c:Int)<x))))),(b2,some maa),(b,some (laa s (j+1+1+1:Nat) true))]/\m=(256 - x).toNat/\at8 s (j:Int)<=x/\x<=256/\(at8 s (j:Int)<=at8 s ((j+1+1:Nat):Int)->x<=at8 s ((j+1+1:Nat):Int)+1)/\(at8 s ((j+1+1:Nat):Int)<at8 s (j:Int)->x=at8 s (j:Int))) _ [(b3,some (bE ha)),(b2,some maa),(b,some (laa s (j+1+1+1:Nat) true))] gO ⟨at8 s (j:Int),rfl,by rw[fV],rfl,Yt,Yt,Yt,Yt⟩ ?_;rintro m xs o ⟨x,rfl,rfl,rfl,hx1,hx2,hx3,hx4⟩
        obtain⟨y,rfl⟩:∃y:Nat,x=y:=⟨x.toNat,Yt⟩
        refine vK1 ?_;refine AW.c (λh=>?_) λh=>?_
        ·exact vK0
         try exact⟨_,[_],[(b3,some (bE (λc=>ha c || (decide (at8 s (j:Int)<=(c:Int)) && decide ((c:Int)<((y+1:Nat):Int)))))),(b2,some maa),(b,some (laa s (j+1+1+1:Nat) true))],Yt,⟨((y+1:Nat):Int),rfl,rfl,rfl,Yt,Yt,Yt,Yt⟩,zH,by rw[<- fW ha Yt];simp(maxSteps:=2000000) (disch:=omega)only[go_sem]⟩
        ·refine vK1 ?_;exact⟨0,[_],[(b3,some (bE (λc=>ha c || (decide (at8 s (j:Int)<=(c:Int)) && decide ((c:Int)<(y:Int)))))),(b2,some maa),(b,some (laa s (j+1+1+1:Nat) true))],zH,⟨0+1,j+1+1+1,_,true,rfl,rfl,rfl,Yt,Yt,Yt,zH,λ_=>hN'⟩,rfl,gO⟩
       ·have hS2:=oX ha (Bm hch ui hc2 h);refine vK1 ?_;refine AW.aw [9] [0,2,3,6,7,8] (λm xs o=>∃x:Int,xs=[.aa x]/\o=[(b3,some (bE (λc=>ha c || (decide (at8 s (j:Int)<=(c:Int)) && decide ((c:Int)<x))))),(b2,some maa),(b,some (laa s (j+1+1+1:Nat) false))]/\m=(256 - x).toNat/\at8 s (j:Int)<=x/\x<=256/\(at8 s (j:Int)<=at8 s ((j+1+1:Nat):Int)->x<=at8 s ((j+1+1:Nat):Int)+1)/\(at8 s ((j+1+1:Nat):Int)<at8 s (j:Int)->x=at8 s (j:Int))) _ [(b3,some (bE ha)),(b2,some maa),(b,some (laa s (j+1+1+1:Nat) false))] gO ⟨at8 s (j:Int),rfl,by rw[fV],rfl,Yt,Yt,Yt,Yt⟩ ?_;rintro m xs o ⟨x,rfl,rfl,rfl,hx1,hx2,hx3,hx4⟩
        obtain⟨y,rfl⟩:∃y:Nat,x=y:=⟨x.toNat,Yt⟩
        refine vK1 ?_;refine AW.c (λh=>?_) λh=>?_
        ·refine vK1 ?_
         try exact⟨_,[_],[(b3,some (bE (λc=>ha c || (decide (at8 s (j:Int)<=(c:Int)) && decide ((c:Int)<((y+1:Nat):Int)))))),(b2,some maa),(b,some (laa s (j+1+1+1:Nat) false))],Yt,⟨((y+1:Nat):Int),rfl,rfl,rfl,Yt,Yt,Yt,Yt⟩,zH,by rw[<- fW ha Yt];simp(maxSteps:=2000000) (disch:=omega)only[go_sem]⟩
        ·refine vK1 ?_;exact⟨_,[_],[(b3,some (bE (λc=>ha c || (decide (at8 s (j:Int)<=(c:Int)) && decide ((c:Int)<(y:Int)))))),(b2,some maa),(b,some (laa s (j+1+1+1:Nat) false))],by simp;omega,⟨0+1,j+1+1+1,_,false,rfl,rfl,rfl,Yt,Yt,Yt,λ_=>⟨Yt,by rw[if_neg Yt,oW ha (a:=at8 s (j:Int)) (z:=at8 s ((j+1+1:Nat):Int)) (y:=(y:Int)) Yt,<- hS2,hS]⟩,zH⟩,rfl,gO⟩
      | false =>
       have hN':R=none:=by rw[<- hS,lH ha (sR ui (.inl hc2))]
       (refine vQ1 hc2 ?_;with_reducible repeat first|intro(K:_->_->Prop) hK|intro h)
       refine AW.c (λh=>?_) λh=>?_
       ·refine vK1 ?_;refine AW.aw [9] [0,2,3,6,7,8] (λm xs o=>∃x:Int,xs=[.aa x]/\o=[(b3,some (bE (λc=>ha c || (decide (at8 s (j:Int)<=(c:Int)) && decide ((c:Int)<x))))),(b2,some maa),(b,some (laa s (j+1+1:Nat) true))]/\m=(256 - x).toNat/\at8 s (j:Int)<=x/\x<=256/\(at8 s (j:Int)<=0->x<=0+1)/\(0<at8 s (j:Int)->x=at8 s (j:Int))) _ [(b3,some (bE ha)),(b2,some maa),(b,some (laa s (j+1+1:Nat) true))] gO ⟨at8 s (j:Int),rfl,by rw[fV],rfl,Yt,Yt,Yt,Yt⟩ ?_;rintro m xs o ⟨x,rfl,rfl,rfl,hx1,hx2,hx3,hx4⟩
        obtain⟨y,rfl⟩:∃y:Nat,x=y:=⟨x.toNat,Yt⟩
        refine vK1 ?_;refine AW.c (λh=>?_) λh=>?_
        ·exact vK0
         try exact⟨_,[_],[(b3,some (bE (λc=>ha c || (decide (at8 s (j:Int)<=(c:Int)) && decide ((c:Int)<((y+1:Nat):Int)))))),(b2,some maa),(b,some (laa s (j+1+1:Nat) true))],Yt,⟨((y+1:Nat):Int),rfl,rfl,rfl,Yt,Yt,Yt,Yt⟩,zH,by rw[<- fW ha Yt];simp(maxSteps:=2000000) (disch:=omega)only[go_sem]⟩
        ·refine vK1 ?_;exact⟨0,[_],[(b3,some (bE (λc=>ha c || (decide (at8 s (j:Int)<=(c:Int)) && decide ((c:Int)<(y:Int)))))),(b2,some maa),(b,some (laa s (j+1+1:Nat) true))],zH,⟨0+1,j+1+1,_,true,rfl,rfl,rfl,Yt,Yt,Yt,zH,λ_=>hN'⟩,rfl,gO⟩
       ·refine vK1 ?_;refine AW.aw [9] [0,2,3,6,7,8] (λm xs o=>∃x:Int,xs=[.aa x]/\o=[(b3,some (bE (λc=>ha c || (decide (at8 s (j:Int)<=(c:Int)) && decide ((c:Int)<x))))),(b2,some maa),(b,some (laa s (j+1+1:Nat) true))]/\m=(256 - x).toNat/\at8 s (j:Int)<=x/\x<=256/\(at8 s (j:Int)<=0->x<=0+1)/\(0<at8 s (j:Int)->x=at8 s (j:Int))) _ [(b3,some (bE ha)),(b2,some maa),(b,some (laa s (j+1+1:Nat) true))] gO ⟨at8 s (j:Int),rfl,by rw[fV],rfl,Yt,Yt,Yt,Yt⟩ ?_;rintro m xs o ⟨x,rfl,rfl,rfl,hx1,hx2,hx3,hx4⟩
        obtain⟨y,rfl⟩:∃y:Nat,x=y:=⟨x.toNat,Yt⟩
        refine vK1 ?_;refine AW.c (λh=>?_) λh=>?_
        ·refine vK1 ?_
         try exact⟨_,[_],[(b3,some (bE (λc=>ha c || (decide (at8 s (j:Int)<=(c:Int)) && decide ((c:Int)<((y+1:Nat):Int)))))),(b2,some maa),(b,some (laa s (j+1+1:Nat) true))],Yt,⟨((y+1:Nat):Int),rfl,rfl,rfl,Yt,Yt,Yt,Yt⟩,zH,by rw[<- fW ha Yt];simp(maxSteps:=2000000) (disch:=omega)only[go_sem]⟩
        ·refine vK1 ?_;exact⟨0,[_],[(b3,some (bE (λc=>ha c || (decide (at8 s (j:Int)<=(c:Int)) && decide ((c:Int)<(y:Int)))))),(b2,some maa),(b,some (laa s (j+1+1:Nat) true))],zH,⟨0+1,j+1+1,_,true,rfl,rfl,rfl,Yt,Yt,Yt,zH,λ_=>hN'⟩,rfl,gO⟩
     ·simp only[h,cond_false];have hS2:=oX ha (Bn hch h);refine vK1 ?_;refine AW.c (λh=>?_) λh=>?_
      ·omega
      ·refine vK1 ?_;refine AW.aw [9] [0,2,3,6,7,8] (λm xs o=>∃x:Int,xs=[.aa x]/\o=[(b3,some (bE (λc=>ha c || (decide (at8 s (j:Int)<=(c:Int)) && decide ((c:Int)<x))))),(b2,some maa),(b,some (laa s (j+1:Nat) false))]/\m=(256 - x).toNat/\at8 s (j:Int)<=x/\x<=256/\(at8 s (j:Int)<=at8 s (j:Int)->x<=at8 s (j:Int)+1)/\(at8 s (j:Int)<at8 s (j:Int)->x=at8 s (j:Int))) _ [(b3,some (bE ha)),(b2,some maa),(b,some (laa s (j+1:Nat) false))] gO ⟨at8 s (j:Int),rfl,by rw[fV],rfl,Yt,Yt,Yt,Yt⟩ ?_;rintro m xs o ⟨x,rfl,rfl,rfl,hx1,hx2,hx3,hx4⟩
       obtain⟨y,rfl⟩:∃y:Nat,x=y:=⟨x.toNat,Yt⟩
       refine vK1 ?_;refine AW.c (λh=>?_) λh=>?_
       ·refine vK1 ?_
        try exact⟨_,[_],[(b3,some (bE (λc=>ha c || (decide (at8 s (j:Int)<=(c:Int)) && decide ((c:Int)<((y+1:Nat):Int)))))),(b2,some maa),(b,some (laa s (j+1:Nat) false))],Yt,⟨((y+1:Nat):Int),rfl,rfl,rfl,Yt,Yt,Yt,Yt⟩,zH,by rw[<- fW ha Yt];simp(maxSteps:=2000000) (disch:=omega)only[go_sem]⟩
       ·refine vK1 ?_;exact⟨_,[_],[(b3,some (bE (λc=>ha c || (decide (at8 s (j:Int)<=(c:Int)) && decide ((c:Int)<(y:Int)))))),(b2,some maa),(b,some (laa s (j+1:Nat) false))],by simp;omega,⟨0+1,j+1,_,false,rfl,rfl,rfl,Yt,Yt,Yt,λ_=>⟨Yt,by rw[if_neg Yt,oW ha (a:=at8 s (j:Int)) (z:=at8 s (j:Int)) (y:=(y:Int)) Yt,<- hS2,hS]⟩,zH⟩,rfl,gO⟩
   ·have hS:p9 s j ha=R:=by simpa[hk0]using hR.2
    have hk1:((k:Int) == 0)=false:=by simp;omega
    (refine vQ1 hk1 ?_;with_reducible repeat first|intro(K:_->_->Prop) hK|intro h)
    refine AW.c (λh=>?_) λh=>?_
    ·simp only[h,cond_false];have hS:=(KO ha h).symm.trans hS
     have hge:=nC s (j:Int)
     have hle:=nB s (j:Int)
     have acG:=nC s ((j+1:Nat):Int)
     have hle1:=nB s ((j+1:Nat):Int)
     have WO:=nC s ((j+1+1:Nat):Int)
     have hle2:=nB s ((j+1+1:Nat):Int)
     cases hch:jW s j with
     | false =>
      have hN':R=none:=by rw[<- hS,lH ha (zf hch)]
      (refine vQ1 hch ?_;with_reducible repeat first|intro(K:_->_->Prop) hK|intro h)
      refine AW.c (λh=>?_) λh=>?_
      ·simp only[h,cond_true];have hl2:=dm.1 h
       cases hc2:jW s (j+1)with
       | true =>
        have hl3:=oY hc2
        (refine vQ1 hc2 ?_;with_reducible repeat first|intro(K:_->_->Prop) hK|intro h)
        refine AW.c (λh=>?_) λh=>?_
        ·omega
        ·refine vK1 ?_;refine AW.aw [9] [0,2,3,6,7,8] (λm xs o=>∃x:Int,xs=[.aa x]/\o=[(b3,some (bE (λc=>ha c || (decide (0<=(c:Int)) && decide ((c:Int)<x))))),(b2,some maa),(b,some (laa s (j+1+1:Nat) true))]/\m=(256 - x).toNat/\0<=x/\x<=256/\(0<=at8 s ((j+1:Nat):Int)->x<=at8 s ((j+1:Nat):Int)+1)/\(at8 s ((j+1:Nat):Int)<0->x=0)) _ [(b3,some (bE ha)),(b2,some maa),(b,some (laa s (j+1+1:Nat) true))] gO ⟨0,rfl,by rw[fV],rfl,Yt,Yt,Yt,Yt⟩ ?_;rintro m xs o ⟨x,rfl,rfl,rfl,hx1,hx2,hx3,hx4⟩
         obtain⟨y,rfl⟩:∃y:Nat,x=y:=⟨x.toNat,Yt⟩
         refine vK1 ?_;refine AW.c (λh=>?_) λh=>?_
         ·refine vK1 ?_
          try exact⟨_,[_],[(b3,some (bE (λc=>ha c || (decide (0<=(c:Int)) && decide ((c:Int)<((y+1:Nat):Int)))))),(b2,some maa),(b,some (laa s (j+1+1:Nat) true))],Yt,⟨((y+1:Nat):Int),rfl,rfl,rfl,Yt,Yt,Yt,Yt⟩,zH,by rw[<- fW ha Yt];simp(maxSteps:=2000000) (disch:=omega)only[go_sem]⟩
         ·refine vK1 ?_;exact⟨0,[_],[(b3,some (bE (λc=>ha c || (decide (0<=(c:Int)) && decide ((c:Int)<(y:Int)))))),(b2,some maa),(b,some (laa s (j+1+1:Nat) true))],zH,⟨k+1,j+1+1,_,true,rfl,rfl,rfl,Yt,Yt,Yt,zH,λ_=>hN'⟩,rfl,gO⟩
       | false =>
        (refine vQ1 hc2 ?_;with_reducible repeat first|intro(K:_->_->Prop) hK|intro h)
        refine AW.c (λh=>?_) λh=>?_
        ·omega
        ·refine vK1 ?_;refine AW.aw [9] [0,2,3,6,7,8] (λm xs o=>∃x:Int,xs=[.aa x]/\o=[(b3,some (bE (λc=>ha c || (decide (0<=(c:Int)) && decide ((c:Int)<x))))),(b2,some maa),(b,some (laa s (j+1:Nat) true))]/\m=(256 - x).toNat/\0<=x/\x<=256/\(0<=0->x<=0+1)/\(0<0->x=0)) _ [(b3,some (bE ha)),(b2,some maa),(b,some (laa s (j+1:Nat) true))] gO ⟨0,rfl,by rw[fV],rfl,Yt,Yt,Yt,Yt⟩ ?_;rintro m xs o ⟨x,rfl,rfl,rfl,hx1,hx2,hx3,hx4⟩
         obtain⟨y,rfl⟩:∃y:Nat,x=y:=⟨x.toNat,Yt⟩
         refine vK1 ?_;refine AW.c (λh=>?_) λh=>?_
         ·refine vK1 ?_
          try exact⟨_,[_],[(b3,some (bE (λc=>ha c || (decide (0<=(c:Int)) && decide ((c:Int)<((y+1:Nat):Int)))))),(b2,some maa),(b,some (laa s (j+1:Nat) true))],Yt,⟨((y+1:Nat):Int),rfl,rfl,rfl,Yt,Yt,Yt,Yt⟩,zH,by rw[<- fW ha Yt];simp(maxSteps:=2000000) (disch:=omega)only[go_sem]⟩
         ·refine vK1 ?_;exact⟨0,[_],[(b3,some (bE (λc=>ha c || (decide (0<=(c:Int)) && decide ((c:Int)<(y:Int)))))),(b2,some maa),(b,some (laa s (j+1:Nat) true))],zH,⟨k+1,j+1,_,true,rfl,rfl,rfl,Yt,Yt,Yt,zH,λ_=>hN'⟩,rfl,gO⟩
      ·simp only[h,cond_false];refine vK1 ?_;refine AW.c (λh=>?_) λh=>?_
       ·omega
       ·refine vK1 ?_;refine AW.aw [9] [0,2,3,6,7,8] (λm xs o=>∃x:Int,xs=[.aa x]/\o=[(b3,some (bE (λc=>ha c || (decide (0<=(c:Int)) && decide ((c:Int)<x))))),(b2,some maa),(b,some (laa s (j:Nat) true))]/\m=(256 - x).toNat/\0<=x/\x<=256/\(0<=0->x<=0+1)/\(0<0->x=0)) _ [(b3,some (bE ha)),(b2,some maa),(b,some (laa s (j:Nat) true))] gO ⟨0,rfl,by rw[fV],rfl,Yt,Yt,Yt,Yt⟩ ?_;rintro m xs o ⟨x,rfl,rfl,rfl,hx1,hx2,hx3,hx4⟩
        obtain⟨y,rfl⟩:∃y:Nat,x=y:=⟨x.toNat,Yt⟩
        refine vK1 ?_;refine AW.c (λh=>?_) λh=>?_
        ·refine vK1 ?_
         try exact⟨_,[_],[(b3,some (bE (λc=>ha c || (decide (0<=(c:Int)) && decide ((c:Int)<((y+1:Nat):Int)))))),(b2,some maa),(b,some (laa s (j:Nat) true))],Yt,⟨((y+1:Nat):Int),rfl,rfl,rfl,Yt,Yt,Yt,Yt⟩,zH,by rw[<- fW ha Yt];simp(maxSteps:=2000000) (disch:=omega)only[go_sem]⟩
        ·refine vK1 ?_;exact⟨0,[_],[(b3,some (bE (λc=>ha c || (decide (0<=(c:Int)) && decide ((c:Int)<(y:Int)))))),(b2,some maa),(b,some (laa s (j:Nat) true))],zH,⟨k+1,j,_,true,rfl,rfl,rfl,Yt,Yt,Yt,zH,λ_=>hN'⟩,rfl,gO⟩
     | true =>
      have hl1:=oY hch
      (refine vQ1 hch ?_;with_reducible repeat first|intro(K:_->_->Prop) hK|intro h)
      refine AW.c (λh=>?_) λh=>?_
      ·simp only[h,cond_true];have ui:=h
       have hl2:=dm.1 h
       cases hc2:jW s (j+1+1)with
       | true =>
        have hl3:=oY hc2
        (refine vQ1 hc2 ?_;with_reducible repeat first|intro(K:_->_->Prop) hK|intro h)
        refine AW.c (λh=>?_) λh=>?_
        ·have hN':R=none:=by rw[<- hS,lH ha (sR ui (.inr h))]
         refine vK1 ?_;refine AW.aw [9] [0,2,3,6,7,8] (λm xs o=>∃x:Int,xs=[.aa x]/\o=[(b3,some (bE (λc=>ha c || (decide (at8 s (j:Int)<=(c:Int)) && decide ((c:Int)<x))))),(b2,some maa),(b,some (laa s (j+1+1+1:Nat) true))]/\m=(256 - x).toNat/\at8 s (j:Int)<=x/\x<=256/\(at8 s (j:Int)<=at8 s ((j+1+1:Nat):Int)->x<=at8 s ((j+1+1:Nat):Int)+1)/\(at8 s ((j+1+1:Nat):Int)<at8 s (j:Int)->x=at8 s (j:Int))) _ [(b3,some (bE ha)),(b2,some maa),(b,some (laa s (j+1+1+1:Nat) true))] gO ⟨at8 s (j:Int),rfl,by rw[fV],rfl,Yt,Yt,Yt,Yt⟩ ?_;rintro m xs o ⟨x,rfl,rfl,rfl,hx1,hx2,hx3,hx4⟩
         obtain⟨y,rfl⟩:∃y:Nat,x=y:=⟨x.toNat,Yt⟩
         refine vK1 ?_;refine AW.c (λh=>?_) λh=>?_
         ·exact vK0
          try exact⟨_,[_],[(b3,some (bE (λc=>ha c || (decide (at8 s (j:Int)<=(c:Int)) && decide ((c:Int)<((y+1:Nat):Int)))))),(b2,some maa),(b,some (laa s (j+1+1+1:Nat) true))],Yt,⟨((y+1:Nat):Int),rfl,rfl,rfl,Yt,Yt,Yt,Yt⟩,zH,by rw[<- fW ha Yt];simp(maxSteps:=2000000) (disch:=omega)only[go_sem]⟩
         ·refine vK1 ?_;exact⟨0,[_],[(b3,some (bE (λc=>ha c || (decide (at8 s (j:Int)<=(c:Int)) && decide ((c:Int)<(y:Int)))))),(b2,some maa),(b,some (laa s (j+1+1+1:Nat) true))],zH,⟨k+1,j+1+1+1,_,true,rfl,rfl,rfl,Yt,Yt,Yt,zH,λ_=>hN'⟩,rfl,gO⟩
        ·have hS2:=oX ha (Bm hch ui hc2 h);refine vK1 ?_;refine AW.aw [9] [0,2,3,6,7,8] (λm xs o=>∃x:Int,xs=[.aa x]/\o=[(b3,some (bE (λc=>ha c || (decide (at8 s (j:Int)<=(c:Int)) && decide ((c:Int)<x))))),(b2,some maa),(b,some (laa s (j+1+1+1:Nat) false))]/\m=(256 - x).toNat/\at8 s (j:Int)<=x/\x<=256/\(at8 s (j:Int)<=at8 s ((j+1+1:Nat):Int)->x<=at8 s ((j+1+1:Nat):Int)+1)/\(at8 s ((j+1+1:Nat):Int)<at8 s (j:Int)->x=at8 s (j:Int))) _ [(b3,some (bE ha)),(b2,some maa),(b,some (laa s (j+1+1+1:Nat) false))] gO ⟨at8 s (j:Int),rfl,by rw[fV],rfl,Yt,Yt,Yt,Yt⟩ ?_;rintro m xs o ⟨x,rfl,rfl,rfl,hx1,hx2,hx3,hx4⟩
         obtain⟨y,rfl⟩:∃y:Nat,x=y:=⟨x.toNat,Yt⟩
         refine vK1 ?_;refine AW.c (λh=>?_) λh=>?_
         ·refine vK1 ?_
          try exact⟨_,[_],[(b3,some (bE (λc=>ha c || (decide (at8 s (j:Int)<=(c:Int)) && decide ((c:Int)<((y+1:Nat):Int)))))),(b2,some maa),(b,some (laa s (j+1+1+1:Nat) false))],Yt,⟨((y+1:Nat):Int),rfl,rfl,rfl,Yt,Yt,Yt,Yt⟩,zH,by rw[<- fW ha Yt];simp(maxSteps:=2000000) (disch:=omega)only[go_sem]⟩
         ·refine vK1 ?_;exact⟨_,[_],[(b3,some (bE (λc=>ha c || (decide (at8 s (j:Int)<=(c:Int)) && decide ((c:Int)<(y:Int)))))),(b2,some maa),(b,some (laa s (j+1+1+1:Nat) false))],by simp;omega,⟨k+1,j+1+1+1,_,false,rfl,rfl,rfl,Yt,Yt,Yt,λ_=>⟨Yt,by rw[if_neg Yt,oW ha (a:=at8 s (j:Int)) (z:=at8 s ((j+1+1:Nat):Int)) (y:=(y:Int)) Yt,<- hS2,hS]⟩,zH⟩,rfl,gO⟩
       | false =>
        have hN':R=none:=by rw[<- hS,lH ha (sR ui (.inl hc2))]
        (refine vQ1 hc2 ?_;with_reducible repeat first|intro(K:_->_->Prop) hK|intro h)
        refine AW.c (λh=>?_) λh=>?_
        ·refine vK1 ?_;refine AW.aw [9] [0,2,3,6,7,8] (λm xs o=>∃x:Int,xs=[.aa x]/\o=[(b3,some (bE (λc=>ha c || (decide (at8 s (j:Int)<=(c:Int)) && decide ((c:Int)<x))))),(b2,some maa),(b,some (laa s (j+1+1:Nat) true))]/\m=(256 - x).toNat/\at8 s (j:Int)<=x/\x<=256/\(at8 s (j:Int)<=0->x<=0+1)/\(0<at8 s (j:Int)->x=at8 s (j:Int))) _ [(b3,some (bE ha)),(b2,some maa),(b,some (laa s (j+1+1:Nat) true))] gO ⟨at8 s (j:Int),rfl,by rw[fV],rfl,Yt,Yt,Yt,Yt⟩ ?_;rintro m xs o ⟨x,rfl,rfl,rfl,hx1,hx2,hx3,hx4⟩
         obtain⟨y,rfl⟩:∃y:Nat,x=y:=⟨x.toNat,Yt⟩
         refine vK1 ?_;refine AW.c (λh=>?_) λh=>?_
         ·exact vK0
          try exact⟨_,[_],[(b3,some (bE (λc=>ha c || (decide (at8 s (j:Int)<=(c:Int)) && decide ((c:Int)<((y+1:Nat):Int)))))),(b2,some maa),(b,some (laa s (j+1+1:Nat) true))],Yt,⟨((y+1:Nat):Int),rfl,rfl,rfl,Yt,Yt,Yt,Yt⟩,zH,by rw[<- fW ha Yt];simp(maxSteps:=2000000) (disch:=omega)only[go_sem]⟩
         ·refine vK1 ?_;exact⟨0,[_],[(b3,some (bE (λc=>ha c || (decide (at8 s (j:Int)<=(c:Int)) && decide ((c:Int)<(y:Int)))))),(b2,some maa),(b,some (laa s (j+1+1:Nat) true))],zH,⟨k+1,j+1+1,_,true,rfl,rfl,rfl,Yt,Yt,Yt,zH,λ_=>hN'⟩,rfl,gO⟩
        ·refine vK1 ?_;refine AW.aw [9] [0,2,3,6,7,8] (λm xs o=>∃x:Int,xs=[.aa x]/\o=[(b3,some (bE (λc=>ha c || (decide (at8 s (j:Int)<=(c:Int)) && decide ((c:Int)<x))))),(b2,some maa),(b,some (laa s (j+1+1:Nat) true))]/\m=(256 - x).toNat/\at8 s (j:Int)<=x/\x<=256/\(at8 s (j:Int)<=0->x<=0+1)/\(0<at8 s (j:Int)->x=at8 s (j:Int))) _ [(b3,some (bE ha)),(b2,some maa),(b,some (laa s (j+1+1:Nat) true))] gO ⟨at8 s (j:Int),rfl,by rw[fV],rfl,Yt,Yt,Yt,Yt⟩ ?_;rintro m xs o ⟨x,rfl,rfl,rfl,hx1,hx2,hx3,hx4⟩
         obtain⟨y,rfl⟩:∃y:Nat,x=y:=⟨x.toNat,Yt⟩
         refine vK1 ?_;refine AW.c (λh=>?_) λh=>?_
         ·refine vK1 ?_
          try exact⟨_,[_],[(b3,some (bE (λc=>ha c || (decide (at8 s (j:Int)<=(c:Int)) && decide ((c:Int)<((y+1:Nat):Int)))))),(b2,some maa),(b,some (laa s (j+1+1:Nat) true))],Yt,⟨((y+1:Nat):Int),rfl,rfl,rfl,Yt,Yt,Yt,Yt⟩,zH,by rw[<- fW ha Yt];simp(maxSteps:=2000000) (disch:=omega)only[go_sem]⟩
         ·refine vK1 ?_;exact⟨0,[_],[(b3,some (bE (λc=>ha c || (decide (at8 s (j:Int)<=(c:Int)) && decide ((c:Int)<(y:Int)))))),(b2,some maa),(b,some (laa s (j+1+1:Nat) true))],zH,⟨k+1,j+1+1,_,true,rfl,rfl,rfl,Yt,Yt,Yt,zH,λ_=>hN'⟩,rfl,gO⟩
      ·simp only[h,cond_false];have hS2:=oX ha (Bn hch h);refine vK1 ?_;refine AW.c (λh=>?_) λh=>?_
       ·omega
       ·refine vK1 ?_;refine AW.aw [9] [0,2,3,6,7,8] (λm xs o=>∃x:Int,xs=[.aa x]/\o=[(b3,some (bE (λc=>ha c || (decide (at8 s (j:Int)<=(c:Int)) && decide ((c:Int)<x))))),(b2,some maa),(b,some (laa s (j+1:Nat) false))]/\m=(256 - x).toNat/\at8 s (j:Int)<=x/\x<=256/\(at8 s (j:Int)<=at8 s (j:Int)->x<=at8 s (j:Int)+1)/\(at8 s (j:Int)<at8 s (j:Int)->x=at8 s (j:Int))) _ [(b3,some (bE ha)),(b2,some maa),(b,some (laa s (j+1:Nat) false))] gO ⟨at8 s (j:Int),rfl,by rw[fV],rfl,Yt,Yt,Yt,Yt⟩ ?_;rintro m xs o ⟨x,rfl,rfl,rfl,hx1,hx2,hx3,hx4⟩
        obtain⟨y,rfl⟩:∃y:Nat,x=y:=⟨x.toNat,Yt⟩
        refine vK1 ?_;refine AW.c (λh=>?_) λh=>?_
        ·refine vK1 ?_
         try exact⟨_,[_],[(b3,some (bE (λc=>ha c || (decide (at8 s (j:Int)<=(c:Int)) && decide ((c:Int)<((y+1:Nat):Int)))))),(b2,some maa),(b,some (laa s (j+1:Nat) false))],Yt,⟨((y+1:Nat):Int),rfl,rfl,rfl,Yt,Yt,Yt,Yt⟩,zH,by rw[<- fW ha Yt];simp(maxSteps:=2000000) (disch:=omega)only[go_sem]⟩
        ·refine vK1 ?_;exact⟨_,[_],[(b3,some (bE (λc=>ha c || (decide (at8 s (j:Int)<=(c:Int)) && decide ((c:Int)<(y:Int)))))),(b2,some maa),(b,some (laa s (j+1:Nat) false))],by simp;omega,⟨k+1,j+1,_,false,rfl,rfl,rfl,Yt,Yt,Yt,λ_=>⟨Yt,by rw[if_neg Yt,oW ha (a:=at8 s (j:Int)) (z:=at8 s (j:Int)) (y:=(y:Int)) Yt,<- hS2,hS]⟩,zH⟩,rfl,gO⟩
    ·simp only[h,cond_true];have hl2:=dm.1 h;refine vK1 ?_
     (refine AW.ret (EndsG.imp (Imp.gp (b:=b2) eaa ?_));refine gS ?_;refine EndsG.fq rfl (RdQ.yes (p:=.mk 1 (rf ha) []) (j:=j+1) (by rw[qV,DP,<- hS,Iz ha h];rfl) Yt) ?_;exact gO)
 ·simp only[h,cond_false];have hnc:=h
  cases hch:jW s i with
  | true =>
   (refine vQ1 hch ?_;with_reducible repeat first|intro(K:_->_->Prop) hK|intro h)
   refine AW.c (λh=>?_) λh=>?_
   ·refine vK1 ?_
    (refine AW.ret (EndsG.imp (Imp.kW (b:=b2) 3 [.aa 1,.str [UInt8.ofNat (at8 s i).toNat]] [] gO ?_));refine gS ?_;refine EndsG.fq rfl (RdQ.no (.mk 1 [UInt8.ofNat (at8 s i).toNat] []) (j:=i+1) (by rw[qV,IG hnd hnc hp.1];intro _;rcases h with h|h;exact h;rw[na ⟨hp.1,h⟩]at hnd;cases hnd) Yt) ?_;exact gO)
   ·refine vK1 ?_
    (refine AW.ret (EndsG.imp (Imp.kW (b:=b2) 3 [.aa 1,.str [UInt8.ofNat (at8 s i).toNat]] [] gO ?_));refine gS ?_;refine EndsG.fq rfl (RdQ.yes (p:=.mk 1 [UInt8.ofNat (at8 s i).toNat] []) (j:=i+1) (by rw[qV,Pc hnd hnc hp.1 hch h.1,K3 hp.1,qN]) Yt) ?_;exact gO)
  | false =>
   (refine vQ1 hch ?_;with_reducible repeat first|intro(K:_->_->Prop) hK|intro h)
   refine AW.c (λh=>?_) λh=>?_
   all_goals (refine vK ?_;with_reducible repeat' first|exact Le.l|apply Sw|intro(K:_->_->Prop) hK|intro h)
   (refine AW.ret (EndsG.imp (Imp.kW (b:=b2) 3 [.aa 1,.str [UInt8.ofNat 0]] [] gO ?_));refine gS ?_;refine EndsG.fq rfl (RdQ.no (.mk 1 [UInt8.ofNat 0] []) (j:=i) (by rw[qV,IG hnd hnc hp.1];intro e;rw[hch]at e;cases e) Yt) ?_;exact gO)
end Go.Proofs
namespace Go.Dt
open Go.Ab
def qO:bP:=.mk 0 [] []
def fZ(s:Str):bP×Bool :=
 if s.length<=30 then match jg s 0 with
  | some (p,j)=>if j=s.length then (p,true) else (qO,false)
  | none=>(qO,false)
 else (qO,false)
def uJ(s:Str):(fZ s).2=dV s:=by
 unfold fZ dV;by_cases h:s.length<=30
 ·simp only[h,if_true,decide_true,Bool.true_and]
  cases e:jg s 0 with
  | none=>rfl
  | some r =>
   obtain⟨p,j⟩:=r;by_cases h2:j=s.length
   ·simp[h2]
   ·simp[h2]
 ·simp[h]
def Cb{s:Str}(h:30<s.length):fZ s=(qO,false):=by rw[fZ,if_neg Yt]
def Ca{s:Str}(h:jg s 0=none):fZ s=(qO,false):=by rw[fZ,h];simp
def B6{s:Str}{p:bP}{j:Nat}(h:jg s 0=some (p,j))(h2:¬j=s.length):fZ s=(qO,false):=by rw[fZ,h];simp[h2]
def Er{s:Str}{p:bP}{j:Nat}(h0:s.length<=30)(h:jg s 0=some (p,j))(h2:j=s.length):fZ s=(p,true):=by rw[fZ,h];simp[h2,h0]
end Go.Dt
namespace Go.Proofs
open Go.Ab Go.Dt
theorem KU:∀(n:Nat) (b:Nat) (s:Str) (i:Nat),fC lim prog 286 [(b,some (laa s i false))] [.ptr b 0] (RdQ b s i (jg s i)) (i<=s.length/\s.length<=30/\s.length - i<n)
 | 0,_,_,_=>⟨(aU 286),λh=>absurd h.2.2 (Nat.not_lt_zero _)⟩
 | n+1,b,s,i=>ZY (n+1) (YO (n+1) (Wv (n+1) (XB n (KU n)))) b s i
instance(b:Nat)(s:Str):fC lim prog 286 [(b,some (laa s 0 false))] [.ptr b 0] (RdQ b s 0 (jg s 0)) (s.length<=30):=⟨(aU 286),λh=>(KU 31 b s 0).out ⟨Yt,h,Yt⟩⟩
instance(s:Str):Ctr lim prog 246 [] [.str s] (.tup [.agg [.aa (fZ s).1.fOp,.str (fZ s).1.cX,.sl false 3 ((fZ s).1.af.map cK)],.ac (fZ s).2]) [] True:=by
 refine Ctr.bd func246 ntmps246 λhp=>?_;refine AW.f0 0 λhf=>?_
 (refine vK1 ?_;intro h)
 refine AW.c (λh=>?_) λh=>?_
 ·have e:=Cb (s:=s) Yt;refine vX1 ?_;rename_i b2
  (refine AW.ret (EndsG.imp (Imp.kW (b:=b2) 3 [.aa 0,.str []] [] gO ?_));refine gS ?_;refine EndsG.fin rfl ?_;simp(maxSteps:=2000000) (disch:=omega)only[go_sem,e,qO,nk,kN,kO])
 ·(refine vK1 ?_;with_reducible repeat first|intro(K:_->_->Prop) hK|intro h)
  rename_i b2 h2 b3;refine GK.rd (λp j hq hj=>?_) (λp j hq hj=>?_)
  ·(refine vK1 ?_;intro h h)
   refine AW.c (λh=>?_) λh=>?_
   ·have e:=B6 hq Yt;refine vX1 ?_
    (refine AW.ret (EndsG.imp (Imp.kW (b:=b2) 3 [.aa 0,.str []] [] gO ?_));refine gS ?_;refine EndsG.fin rfl ?_;simp(maxSteps:=2000000) (disch:=omega)only[go_sem,e,qO,nk,kN,kO])
   ·have e:=Er Yt hq Yt;exact vP0 e
  ·have e:=Ca hq
   (refine vK1 ?_;intro h h)
   refine AW.e λh=>?_;refine vX1 ?_
   (refine AW.ret (EndsG.imp (Imp.kW (b:=b2) 3 [.aa 0,.str []] [] gO ?_));refine gS ?_;refine EndsG.fin rfl ?_;simp(maxSteps:=2000000) (disch:=omega)only[go_sem,e,qO,nk,kN,kO])
instance(s:Str):Ctr lim prog 241 [] [.str s] (.ac (dV s)) [] True:=by refine Ctr.bd func241 ntmps241 λhp=>?_;have e:=uJ s;exact vP0 e
end Go.Proofs
namespace Go.Dt
open Go.Ab
@[go_sem] def abg:Int.toNat 256=256:=rfl
def BX:List (List Value):=replicate 256 [.bool false]
@[go_sem high] def aaA:replicate 256 [Value.bool false]=BX:=rfl
@[go_sem] def YY:BX.flatten.map avz=bE (λ_=>false):=by
 have e:BX.flatten=IK:=by
  unfold BX IK;rw[flatten_replicate_singleton]
 rw[e,OC]
def S5(l:List bP):((l.map cK).flatMap AV.cells).length=l.length * 3:=by
 induction l with
 | nil=>rfl
 | cons x xs ih =>
  have e:(cK x).cells.length=3:=by rw[eQ];rfl
  simp only[map_cons,flatMap_cons,length_append,ih,e,length_cons];omega
def JX(l:List bP):∀x,x∈l.map cK->x.elem 3=true:=by have:=Nd l;rw[all_eq_true]at this;exact this
end Go.Dt
namespace Go.Proofs
open Go.Ab Go.Dt
instance:Ctr lim prog 347 [] [] (.str (rf (λc=>decide (32<=c) && decide (c<127)))) [] True:=by
 refine Ctr.bd func347 ntmps347 λhp=>?_;refine vU1 ?_
 have hlow:nV (λc=>decide (32<=c) && decide (c<127)) 32=[]:=by
  unfold nV
  have:(List.range 32).filter (λc=>decide (32<=c) && decide (c<127))=[]:=by
   rw[filter_eq_nil_iff];intro a ha;simp at ha ⊢;omega
  rw[this];rfl
 refine AW.aw [1,2] [] (λm xs o=>∃k:Nat,xs=[.sl true 1 (cL (nV (λc=>decide (32<=c) && decide (c<127)) k)),.aa k]/\o=[]/\m=127 - k/\32<=k/\k<=127) 95 [] trivial ⟨32,?_,rfl,rfl,?_,?_⟩ ?_
 ·rw[hlow];rfl
 ·omega
 ·omega
 rintro m xs o ⟨k,rfl,rfl,rfl,hk0,hk⟩;have hl:=ze (λc=>decide (32<=c) && decide (c<127)) k
 have hs:=tU (λc=>decide (32<=c) && decide (c<127)) k
 (refine vU2 ?_ ?_<;>intro h)
 ·rw[if_pos (by simp;omega)]at hs;exact⟨_,[_,_],[],Yt,⟨k+1,by rw[hs,<- wP _ Yt],rfl,rfl,Yt,Yt⟩,rfl,trivial⟩
 ·have:k=127:=by omega
  subst this
  congr 1
theorem Ho:∀(n:Nat) (op:Int) (t:Str) (ks:List bP),Ctr lim prog 330 [] [.agg [.aa op,.str t,.sl false 3 (ks.map cK)]] (.agg [.aa op,.str t,.sl false 3 (ks.map cK)]) [] (pj ks<n)
 | 0,op,t,ks=>⟨(aU 330),λh=>absurd h (Nat.not_lt_zero _)⟩
 | n+1,op,t,ks=>by
  have ih:=Ho n;refine Ctr.bd func330 ntmps330 λhp=>?_;refine AW.f0 0 λhf=>?_
  (refine bU1 ?_;intro h h h h h)
  rename_i b1 b2 hn b3;refine AW.imp (Imp.qi (b:=b3) 3 [.aa op,.str t] [] gO ?_);refine gS ?_;refine AW.aw [4] [1,2,3] (λm xs o=>∃k:Nat,xs=[.aa k]/\o=[(b3,some [.aa op,.str t,.sl true 3 ((ks.take k).map cK)]),(b2,some maa),(b1,some [.aa op,.str t,.sl false 3 (ks.map cK)])]/\m=ks.length - k/\k<=ks.length) ks.length [(b3,some [.aa op,.str t,.sl true 3 []]),(b2,some maa),(b1,some [.aa op,.str t,.sl false 3 (ks.map cK)])] gO ⟨0,?_,rfl,rfl,?_⟩ ?_
  ·rfl
  ·omega
  rintro m xs o ⟨k,rfl,rfl,rfl,hk⟩;have hq:k<ks.length->_:=xB (l:=ks) (k:=k)
  have hq2:=BZ (at_ ks k)
  have hlt:(ks.take k).length=k:=by rw[length_take];omega
  refine bK1 ?_;refine AW.c (λh=>?_) λh=>?_
  ·refine bN1 ?_;have hfl:=S5 (ks.take k)
   have hst:=Jz (f:=cK) h;refine AW.imp (Imp.mQ (b0:=b3) (k:=2) (cells0:=[.aa op,.str t,.sl true 3 ((ks.take k).map cK)]) (sz:=3) (l:=(ks.take k).map cK) gO rfl (JX _) (λb hb=>?_) (λhnil=>?_))
   ·have hb1:=hb.nf;simp only[go_sem]at hb1;simp only[set_cons_zero,set_cons_succ];refine AW.Mn λK hK=>?_;refine gS ?_
    (refine bN1 ?_;intro h h)
    rename_i b9;refine AW.imp (Imp.FH (b0:=b3) (k:=2) (b:=b9) (len:=(ks.take k).length+1) (sz:=3) (cells0:=[.aa op,.str t,.arr b9 0 ((ks.take k).length+1) 3]) (cells:=((ks.take k).map cK).flatMap AV.cells++[.aa (at_ ks k).fOp,.str (at_ ks k).cX,.sl false 3 ((at_ ks k).af.map cK)]) (l:=(ks.take (k+1)).map cK) gO rfl gO Yt (by simp;omega) ?_ (JX _) ?_)
    ·refine Eq.trans ?_ (take_of_length_le (by rw[length_append,hfl];simp only[length_cons,length_nil];omega)).symm;rw[hst,flatMap_append,eQ];rfl
    simp only[set_cons_zero,set_cons_succ];refine bK1 ?_;exact⟨_,[_],[(b3,some [.aa op,.str t,.sl true 3 ((ks.take (k+1)).map cK)]),(b2,some maa),(b1,some [.aa op,.str t,.sl false 3 (ks.map cK)])],Yt,⟨k+1,rfl,rfl,rfl,Yt⟩,rfl,by rw[hst,eQ];simp(maxSteps:=2000000) (disch:=omega)only[go_sem]⟩
   ·simp only[set_cons_zero,set_cons_succ];refine AW.Mn λK hK=>?_;refine gS ?_;refine bK1 ?_;rw[hnil]at hst;exact⟨_,[_],[(b3,some [.aa op,.str t,.sl true 3 ((ks.take (k+1)).map cK)]),(b2,some maa),(b1,some [.aa op,.str t,.sl false 3 (ks.map cK)])],Yt,⟨k+1,rfl,rfl,rfl,Yt⟩,rfl,by rw[hst,eQ];simp(maxSteps:=2000000) (disch:=omega)only[go_sem,nil_append]⟩
  ·rw[show k=ks.length by omega,take_length];refine bX1 ?_;refine AW.ret (EndsG.imp (Imp.gp (b:=b2) eaa ?_));refine gS ?_;refine EndsG.fin rfl ?_;exact gO
instance(op:Int)(t:Str)(ks:List bP):Ctr lim prog 330 [] [.agg [.aa op,.str t,.sl false 3 (ks.map cK)]] (.agg [.aa op,.str t,.sl false 3 (ks.map cK)]) [] True:=⟨(aU 330),λ_=>(Ho (pj ks+1) op t ks).out Yt⟩
end Go.Proofs
namespace Go.Dt
open Go.Ab
def VQ(r:Option ((Nat->Bool)×Nat)):Option (bP×Nat):=match r with|none=>none|some (has,k)=>some (qN (rf has),k)
def yo(s:Str)(i:Nat):Option (bP×Nat):=VQ (oI s i (λ_=>false))
def Qx{s:Str}{j:Nat}(h:eZ s j 93=true):jW s j=false:=by have:=dm.1 h;rw[nA,this.2];simp[pY,ltI,oH]
end Go.Dt
namespace Go.Proofs
open Go.Ab Go.Dt
instance(b:Nat)(s:Str)(i:Nat):fC lim prog 346 [(b,some (laa s i false))] [.ptr b 0] (RdQ b s i (yo s i)) (i<=s.length/\s.length<=30):=by
 refine fC.gb (aU 346) func346 rfl rfl λhp=>(?_);rw[ntmps346];generalize hRR:oI s i (λ_=>false)=R;have hres:yo s i=VQ R:=by rw[yo,hRR]
 (refine vK1 ?_;intro h h h h)
 rename_i b2 hn b3;refine AW.aw [] [0,2,3,4] (λm xs o=>∃(j:Nat) (ha:Nat->Bool),xs=[]/\o=[(b3,some (bE ha)),(b2,some maa),(b,some (laa s j false))]/\m=s.length - j/\j<=s.length/\i<=j/\((j=i/\oI s j ha=R)\/(i<j/\p9 s j ha=R))) _ [(b3,some (bE (λ_=>false))),(b2,some maa),(b,some (laa s i false))] gO ⟨i,λ_=>false,rfl,rfl,rfl,Yt,Yt,.inl ⟨rfl,hRR⟩⟩ ?_;rintro m xs o ⟨j,ha,rfl,rfl,rfl,hj,hij,hR⟩;have hge:=nC s (j:Int)
 have hle:=nB s (j:Int)
 have WO:=nC s ((j+1+1:Nat):Int)
 have hle2:=nB s ((j+1+1:Nat):Int);refine vK1 ?_;refine AW.c (λh=>?_) λh=>?_
 ·simp only[h,cond_false]
  have hS:oI s j ha=R:=by
   rcases hR with hR|hR
   ·exact hR.2
   ·rw[<- hR.2,KO ha h]
  clear hR;refine vK1 ?_;refine AW.c (λh=>?_) λh=>?_
  ·have hch:=vl (s:=s) (i:=j) (by rcases h with h|h;exact .inl Yt;exact .inr h);refine vK1 ?_
   (refine AW.ret (EndsG.imp (Imp.kW (b:=b2) 3 [.aa 0,.str []] [] gO ?_));refine gS ?_;refine EndsG.fq rfl (RdQ.no (.mk 0 [] []) (j:=j) (by rw[hres,<- hS,lH ha (zf hch)];rfl) Yt) ?_;exact gO)
  have hch:=wK (s:=s) (i:=j) ⟨Yt,h.2⟩
  have hl1:=oY hch;refine vK1 ?_;refine AW.c (λh=>?_) λh=>?_
  ·simp only[h,cond_true];have ui:=h
   have hl2:=dm.1 h;refine vK1 ?_;refine AW.c (λh=>?_) λh=>?_
   ·refine vK1 ?_
    (refine AW.ret (EndsG.imp (Imp.kW (b:=b2) 3 [.aa 0,.str []] [] gO ?_));refine gS ?_;refine EndsG.fq rfl (RdQ.no (.mk 0 [] []) (j:=j+1+1) (by rw[hres,<- hS,lH ha (sR ui ?_)];rfl;rcases h with(h|h)|h;exact .inl (vl (.inl Yt));exact .inl (vl (.inr h));exact .inr h) Yt) ?_;exact gO)
   ·have hc2:=wK (s:=s) (i:=j+1+1) ⟨Yt,h.1.2⟩
    have hl3:=oY hc2
    have hS2:=oX ha (Bm hch ui hc2 h.2);refine vK1 ?_;refine AW.aw [7] [0,2,3,4,5,6] (λm xs o=>∃x:Int,xs=[.aa x]/\o=[(b3,some (bE (λc=>ha c || (decide (at8 s (j:Int)<=(c:Int)) && decide ((c:Int)<x))))),(b2,some maa),(b,some (laa s (j+1+1+1:Nat) false))]/\m=(256 - x).toNat/\at8 s (j:Int)<=x/\x<=256/\x<=at8 s ((j+1+1:Nat):Int)+1) _ [(b3,some (bE ha)),(b2,some maa),(b,some (laa s (j+1+1+1:Nat) false))] gO ⟨at8 s (j:Int),rfl,by rw[fV],rfl,Yt,Yt,Yt⟩ ?_;rintro m xs o ⟨x,rfl,rfl,rfl,hx1,hx2,hx3⟩
    obtain⟨y,rfl⟩:∃y:Nat,x=y:=⟨x.toNat,Yt⟩
    refine vK1 ?_;refine AW.c (λh=>?_) λh=>?_
    ·refine vK1 ?_;exact⟨_,[_],[(b3,some (bE (λc=>ha c || (decide (at8 s (j:Int)<=(c:Int)) && decide ((c:Int)<((y+1:Nat):Int)))))),(b2,some maa),(b,some (laa s (j+1+1+1:Nat) false))],Yt,⟨((y+1:Nat):Int),rfl,rfl,rfl,Yt,Yt,Yt⟩,zH,by rw[<- fW ha Yt];simp(maxSteps:=2000000) (disch:=omega)only[go_sem]⟩
    ·refine vK1 ?_;exact⟨_,[],[(b3,some (bE (λc=>ha c || (decide (at8 s (j:Int)<=(c:Int)) && decide ((c:Int)<(y:Int)))))),(b2,some maa),(b,some (laa s (j+1+1+1:Nat) false))],Yt,⟨j+1+1+1,_,rfl,rfl,rfl,Yt,Yt,.inr ⟨Yt,by rw[oW ha (a:=at8 s (j:Int)) (z:=at8 s ((j+1+1:Nat):Int)) (y:=(y:Int)) Yt,<- hS2,hS]⟩⟩,gO⟩
  ·simp only[h,cond_false];have hS2:=oX ha (Bn hch h);refine vK1 ?_;refine AW.aw [7] [0,2,3,4,5,6] (λm xs o=>∃x:Int,xs=[.aa x]/\o=[(b3,some (bE (λc=>ha c || (decide (at8 s (j:Int)<=(c:Int)) && decide ((c:Int)<x))))),(b2,some maa),(b,some (laa s (j+1:Nat) false))]/\m=(256 - x).toNat/\at8 s (j:Int)<=x/\x<=256/\x<=at8 s (j:Int)+1) _ [(b3,some (bE ha)),(b2,some maa),(b,some (laa s (j+1:Nat) false))] gO ⟨at8 s (j:Int),rfl,by rw[fV],rfl,Yt,Yt,Yt⟩ ?_;rintro m xs o ⟨x,rfl,rfl,rfl,hx1,hx2,hx3⟩
   obtain⟨y,rfl⟩:∃y:Nat,x=y:=⟨x.toNat,Yt⟩
   refine vK1 ?_;refine AW.c (λh=>?_) λh=>?_
   ·refine vK1 ?_;exact⟨_,[_],[(b3,some (bE (λc=>ha c || (decide (at8 s (j:Int)<=(c:Int)) && decide ((c:Int)<((y+1:Nat):Int)))))),(b2,some maa),(b,some (laa s (j+1:Nat) false))],Yt,⟨((y+1:Nat):Int),rfl,rfl,rfl,Yt,Yt,Yt⟩,zH,by rw[<- fW ha Yt];simp(maxSteps:=2000000) (disch:=omega)only[go_sem]⟩
   ·refine vK1 ?_;exact⟨_,[],[(b3,some (bE (λc=>ha c || (decide (at8 s (j:Int)<=(c:Int)) && decide ((c:Int)<(y:Int)))))),(b2,some maa),(b,some (laa s (j+1:Nat) false))],Yt,⟨j+1,_,rfl,rfl,rfl,Yt,Yt,.inr ⟨Yt,by rw[oW ha (a:=at8 s (j:Int)) (z:=at8 s (j:Int)) (y:=(y:Int)) Yt,<- hS2,hS]⟩⟩,gO⟩
 ·simp only[h,cond_true];have hend:=h
  have hl2:=dm.1 h;refine vK1 ?_;refine AW.c (λh=>?_) λh=>?_
  ·have hN:R=none:=by
    rcases hR with hR|hR
    ·rw[<- hR.2,lH ha (zf (Qx hend))]
    ·omega
   refine vK1 ?_;refine AW.aw [8,9] [2,3] (λm xs o=>∃k:Nat,xs=[.sl true 1 (cL (nV ha k)),.aa k]/\o=[(b3,some (bE ha)),(b2,some maa),(b,some (laa s (j+1:Nat) true))]/\m=256 - k/\k<=256) 256 [(b3,some (bE ha)),(b2,some maa),(b,some (laa s (j+1:Nat) true))] gO ⟨0,?_,rfl,rfl,?_⟩ ?_
   ·rfl
   ·omega
   rintro m xs o ⟨k,rfl,rfl,rfl,hk⟩;have hl:=ze ha k
   have hs:=tU ha k;refine vK1 ?_;refine AW.c (λh=>?_) λh=>?_
   ·refine vK1 ?_;refine AW.c (λh=>?_) λh=>?_
    ·rw[h]at hs;refine vK1 ?_;exact⟨_,[_,_],[(b3,some (bE ha)),(b2,some maa),(b,some (laa s (j+1:Nat) true))],Yt,⟨k+1,by rw[hs,if_pos rfl,<- wP _ Yt],rfl,rfl,Yt⟩,rfl,gO⟩
    ·rw[h]at hs;refine vK1 ?_;exact⟨_,[_,_],[(b3,some (bE ha)),(b2,some maa),(b,some (laa s (j+1:Nat) true))],Yt,⟨k+1,by rw[hs];simp,rfl,rfl,Yt⟩,rfl,gO⟩
   ·refine vK1 ?_;have hk2:k=256:=by omega
    subst hk2
    (refine AW.ret (EndsG.imp (Imp.kW (b:=b2) 3 [.aa 1,.str (nV ha 256)] [] gO ?_));refine gS ?_;refine EndsG.fq rfl (RdQ.no (.mk 1 (nV ha 256) []) (j:=j+1) (by rw[hres,hN];rfl) Yt) ?_;exact gO)
  ·have hY:R=some (ha,j+1):=by
    rcases hR with hR|hR
    ·omega
    ·rw[<- hR.2,Iz ha hend]
   refine vK1 ?_;refine AW.aw [8,9] [2,3] (λm xs o=>∃k:Nat,xs=[.sl true 1 (cL (nV ha k)),.aa k]/\o=[(b3,some (bE ha)),(b2,some maa),(b,some (laa s (j+1:Nat) false))]/\m=256 - k/\k<=256) 256 [(b3,some (bE ha)),(b2,some maa),(b,some (laa s (j+1:Nat) false))] gO ⟨0,?_,rfl,rfl,?_⟩ ?_
   ·rfl
   ·omega
   rintro m xs o ⟨k,rfl,rfl,rfl,hk⟩;have hl:=ze ha k
   have hs:=tU ha k;refine vK1 ?_;refine AW.c (λh=>?_) λh=>?_
   ·refine vK1 ?_;refine AW.c (λh=>?_) λh=>?_
    ·rw[h]at hs;refine vK1 ?_;exact⟨_,[_,_],[(b3,some (bE ha)),(b2,some maa),(b,some (laa s (j+1:Nat) false))],Yt,⟨k+1,by rw[hs,if_pos rfl,<- wP _ Yt],rfl,rfl,Yt⟩,rfl,gO⟩
    ·rw[h]at hs;refine vK1 ?_;exact⟨_,[_,_],[(b3,some (bE ha)),(b2,some maa),(b,some (laa s (j+1:Nat) false))],Yt,⟨k+1,by rw[hs];simp,rfl,rfl,Yt⟩,rfl,gO⟩
   ·refine vK1 ?_;have hk2:k=256:=by omega
    subst hk2
    (refine AW.ret (EndsG.imp (Imp.kW (b:=b2) 3 [.aa 1,.str (nV ha 256)] [] gO ?_));refine gS ?_;refine EndsG.fq rfl (RdQ.yes (p:=.mk 1 (nV ha 256) []) (j:=j+1) (by rw[hres,hY];rfl) Yt) ?_;exact gO)
end Go.Proofs
namespace Go.Dt
open Go.Ab
def Mt{s:Str}{i:Nat}(h1:eZ s i 46=false)(h2:eZ s i 91=true):lK s i=yo s (i+1):=by rw[E3 h1 h2,yo];rfl
def Pb{s:Str}{i:Nat}(h1:eZ s i 46=false)(h2:eZ s i 91=false)(h:i<s.length/\((ltI (at8 s i)=true\/oH (at8 s i)=true)\/at8 s i=45)):lK s i=some (qN ((s.take (i+1)).drop i),i+1):=by rw[lK,if_neg (by rw[h1];simp),if_neg (by rw[h2];simp),if_pos];simp only[Bool.and_eq_true,Bool.or_eq_true,decide_eq_true_eq,beq_iff_eq];exact h
def Js{s:Str}{i:Nat}(h1:eZ s i 46=false)(h2:eZ s i 91=false)(hi:i<s.length)(h:(ltI (at8 s i)=false/\oH (at8 s i)=false)/\¬at8 s i=45):lK s i=none:=by rw[lK,if_neg (by rw[h1];simp),if_neg (by rw[h2];simp),if_neg];simp[h]
def Ua{s:Str}{i:Nat}{c d:Int}(h:eZ s i c=true)(hne:¬c=d):eZ s i d=false:=by have:=dm.1 h;exact uX λ_ e=>hne (this.2.symm.trans e)
end Go.Dt
namespace Go.Proofs
open Go.Ab Go.Dt
theorem Ql(n:Nat)(halt:∀(b:Nat) (s:Str) (i:Nat),fC lim prog 272 [(b,some (laa s i false))] [.ptr b 0] (RdQ b s i (jg s i)) (i<=s.length/\s.length<=30/\s.length - i<n))(b:Nat)(s:Str)(i:Nat) :
  fC lim prog 329 [(b,some (laa s i false))] [.ptr b 0] (RdQ b s i (kQ s i)) (i<s.length/\s.length<=30/\s.length - i<n+1):=by
 refine fC.gb (aU 329) func329 rfl rfl λhp=>(?_);rw[ntmps329]
 (refine vK1 ?_;intro h h)
 rename_i b2;refine AW.c (λh=>?_) λh=>?_
 ·simp only[h,cond_true];have hlt:=dm.1 h
  have LP:=zK h
  have QI:=λp j=>zJ (p:=p) (j:=j) h
  have QH:=λp j=>zI (p:=p) (j:=j) h
  (refine vK1 ?_;intro K hK)
  refine GK.rd (λp j hq hj=>?_) (λp j hq hj=>?_)
  ·(refine vK1 ?_;intro h h)
   refine AW.c (λh=>?_) λh=>?_
   ·simp only[h,cond_false];refine vK1 ?_
    (refine AW.ret (EndsG.imp (Imp.gp (b:=b2) eaa ?_));refine gS ?_;refine EndsG.fq rfl (RdQ.no p (j:=j) (QH p j hq h) Yt) ?_;exact gO)
   ·simp only[h,cond_true];have hl2:=dm.1 h;refine vK1 ?_
    (refine AW.ret (EndsG.imp (Imp.gp (b:=b2) eaa ?_));refine gS ?_;refine EndsG.fq rfl (RdQ.yes (p:=p) (j:=j+1) (QI p j hq h) Yt) ?_;exact gO)
  ·(refine vK1 ?_;intro h h)
   refine AW.e λh=>?_;refine vK1 ?_
   (refine AW.ret (EndsG.imp (Imp.gp (b:=b2) eaa ?_));refine gS ?_;refine EndsG.fq rfl (RdQ.no p (j:=j) (LP hq) Yt) ?_;exact gO)
 simp only[h,cond_false];have qV:=Cc hp.1 h;refine vK1 ?_;refine AW.c (λh=>?_) λh=>?_
 ·have DP:=Mt (Ua h daa) h
  have hlt:=dm.1 h;simp only[h,cond_true]
  (refine vK1 ?_;intro K hK)
  refine GK.rdB λp j bad hq hj=>?_;refine vK1 ?_;rcases hq with⟨rfl,hq⟩|⟨rfl,hq⟩
  ·(refine AW.ret (EndsG.imp (Imp.gp (b:=b2) eaa ?_));refine gS ?_;refine EndsG.fq rfl (RdQ.yes (p:=p) (j:=j) (by rw[qV,DP,hq]) Yt) ?_;exact gO)
  ·(refine AW.ret (EndsG.imp (Imp.gp (b:=b2) eaa ?_));refine gS ?_;refine EndsG.fq rfl (RdQ.no p (j:=j) (by rw[qV,DP,hq]) Yt) ?_;exact gO)
 simp only[h,cond_false];have hnc:=h;refine vK1 ?_;refine AW.c (λh=>?_) λh=>?_
 ·have QP:=E2 h
  have hlt:=dm.1 h;simp only[h,cond_true];refine vK1 ?_
  (refine AW.ret (EndsG.imp (Imp.kW (b:=b2) 3 [.aa 1,.str (rf (λc=>decide (32<=c) && decide (c<127)))] [] gO ?_));refine gS ?_;refine EndsG.fq rfl (RdQ.yes (p:=.mk 1 (rf (λc=>decide (32<=c) && decide (c<127))) []) (j:=i+1) (by rw[qV,QP,IQ,qN]) Yt) ?_;exact gO)
 simp only[h,cond_false];have hnd:=h;refine vK1 ?_;refine AW.c (λh=>?_) λh=>?_
 ·refine vK1 ?_
  (refine AW.ret (EndsG.imp (Imp.kW (b:=b2) 3 [.aa 1,.str ((s.take (i+1)).drop i)] [] gO ?_));refine gS ?_;refine EndsG.fq rfl (RdQ.yes (p:=.mk 1 ((s.take (i+1)).drop i) []) (j:=i+1) (by rw[qV,Pb hnd hnc h,qN]) Yt) ?_;exact gO)
 ·refine vK1 ?_
  (refine AW.ret (EndsG.imp (Imp.kW (b:=b2) 3 [.aa 0,.str []] [] gO ?_));refine gS ?_;refine EndsG.fq rfl (RdQ.no (.mk 0 [] []) (j:=i) (by rw[qV,Js hnd hnc hp.1 (h hp.1)]) Yt) ?_;exact gO)
theorem TR(n:Nat)(ZF:∀(b:Nat) (s:Str) (i:Nat),fC lim prog 329 [(b,some (laa s i false))] [.ptr b 0] (RdQ b s i (kQ s i)) (i<s.length/\s.length<=30/\s.length - i<n))(b:Nat)(s:Str)(i:Nat) :
  fC lim prog 308 [(b,some (laa s i false))] [.ptr b 0] (RdQ b s i (iN s i [])) (i<=s.length/\s.length<=30/\s.length - i<n):=by
 refine fC.gb (aU 308) func308 rfl rfl λhp=>(?_);rw[ntmps308]
 (refine vK1 ?_;intro h h)
 rename_i b2;refine AW.aw [3] [0,2] (λm xs o=>∃(l:List bP) (j:Nat) (bad:Bool),xs=[.sl true 3 (l.map cK)]/\o=[(b2,some maa),(b,some (laa s j bad))]/\m=(if bad then 0 else s.length - j+1)/\j<=s.length/\l.length<=31/\i<=j/\(bad=false->l.length<=j/\iN s j l=iN s i [])/\(bad=true->iN s i []=none)) _ [(b2,some maa),(b,some (laa s i false))] (iw (Ne.symm h) rfl rfl) ⟨[],i,false,?_,rfl,rfl,?_,?_,?_,?_,?_⟩ ?_
 ·rfl
 ·omega
 ·simp
 ·omega
 ·simp
 ·simp
 rintro m xs o ⟨l,j,bad,rfl,rfl,rfl,hj,hl0,hij,hR,hN⟩
 cases bad with
 | true =>
  have hN:=hN rfl;refine vK1 ?_;refine AW.e λh=>?_;refine AW.imp (Imp.frz 3 ?_);refine gS ?_;refine vK1 ?_;refine AW.c (λh=>?_) λh=>?_
  ·refine vK1 ?_
   (refine AW.ret (EndsG.imp (Imp.gp (b:=b2) eaa ?_));refine gS ?_;refine EndsG.fq rfl (RdQ.no (at_ l 0) (j:=j) hN Yt) ?_;exact gO)
  ·refine vK1 ?_
   (refine AW.ret (EndsG.imp (Imp.gp (b:=b2) eaa ?_));refine gS ?_;refine EndsG.fq rfl (RdQ.no (.mk 2 [] l) (j:=j) hN Yt) ?_;exact gO)
 | false =>
  have hR:=hR rfl;refine vK1 ?_;refine AW.c (λh=>?_) λh=>?_
  ·have hc:=h
   (refine vK1 ?_;intro K hK)
   refine GK.rd (λp k hq hk=>?_) (λp k hq hk=>?_)
   ·have hb:=Am hq
    have hgo:∀pp jj,post s p k=(pp,jj)->iN s jj (l++[pp])=iN s i []:=λpp jj e=>by
     rw[<- hR.2,<- JY l hc.1.1 hc.1.2 hc.2 (by rw[mK,hq];simp only[e])]
    (refine vK1 ?_;intro h h)
    rename_i b4;refine AW.c (λh=>?_) λh=>?_
    ·simp only[h,cond_true];have hl2:=dm.1 h
     have hpo:=hgo (.mk 4 [] [p]) (k+1) (by rw[post];simp[*]);refine vN1 ?_;refine AW.Gr λK hK=>?_;refine gS ?_;refine vN1 ?_;refine AW.imp (Imp.gp (b:=b4) eaa ?_);refine gS ?_;refine vK1 ?_;exact⟨_,[_],[(b2,some maa),(b,some (laa s (k+1:Nat) false))],by simp;omega,⟨l++[.mk 4 [] [p]],k+1,false,rfl,rfl,rfl,Yt,by simp;omega,Yt,λ_=>⟨by simp;omega,hpo⟩,zH⟩,by simp[eQ,nk,kN,kO],gO⟩
    simp only[h,cond_false];refine vK1 ?_;refine AW.c (λh=>?_) λh=>?_
    ·simp only[h,cond_true];have hl2:=dm.1 h
     have hpo:=hgo (.mk 2 [] [p,.mk 4 [] [p]]) (k+1) (by rw[post];simp[*]);refine vN1 ?_;refine AW.Mn λK hK=>?_;refine gS ?_;refine vN1 ?_;refine AW.imp (Imp.gp (b:=b4) eaa ?_);refine gS ?_;refine vK1 ?_;exact⟨_,[_],[(b2,some maa),(b,some (laa s (k+1:Nat) false))],by simp;omega,⟨l++[.mk 2 [] [p,.mk 4 [] [p]]],k+1,false,rfl,rfl,rfl,Yt,by simp;omega,Yt,λ_=>⟨by simp;omega,hpo⟩,zH⟩,by simp[eQ,nk,kN,kO],gO⟩
    simp only[h,cond_false];refine vK1 ?_;refine AW.c (λh=>?_) λh=>?_
    ·simp only[h,cond_true];have hl2:=dm.1 h
     have hpo:=hgo (.mk 5 [] [p]) (k+1) (by rw[post];simp[*]);refine vN1 ?_;refine AW.Gr λK hK=>?_;refine gS ?_;refine vN1 ?_;refine AW.imp (Imp.gp (b:=b4) eaa ?_);refine gS ?_;refine vK1 ?_;exact⟨_,[_],[(b2,some maa),(b,some (laa s (k+1:Nat) false))],by simp;omega,⟨l++[.mk 5 [] [p]],k+1,false,rfl,rfl,rfl,Yt,by simp;omega,Yt,λ_=>⟨by simp;omega,hpo⟩,zH⟩,by simp[eQ,nk,kN,kO],gO⟩
    ·simp only[h,cond_false];have hpo:=hgo p k (by rw[post];simp[*]);refine vK1 ?_;exact⟨_,[_],[(b2,some maa),(b,some (laa s (k:Nat) false))],by simp;omega,⟨l++[p],k,false,rfl,rfl,rfl,Yt,by simp;omega,Yt,λ_=>⟨by simp;omega,hpo⟩,zH⟩,by simp[eQ,nk,kN,kO],gO⟩
   ·have hN':iN s i []=none:=by rw[<- hR.2,Es l hc.1.1 hc.1.2 hc.2 (by rw[mK,hq])]
    (refine vK1 ?_;intro h h)
    refine AW.e λh=>?_;refine vK1 ?_;refine AW.e λh=>?_;refine vK1 ?_;refine AW.e λh=>?_;refine vK1 ?_;exact⟨_,[_],[(b2,some maa),(b,some (laa s k true))],zH,⟨l++[p],k,true,rfl,rfl,rfl,Yt,by simp;omega,Yt,zH,λ_=>hN'⟩,by simp[eQ],gO⟩
  ·refine AW.imp (Imp.frz 3 ?_);refine gS ?_;refine vK1 ?_;refine AW.c (λh=>?_) λh=>?_
   ·refine vK1 ?_
    (refine AW.ret (EndsG.imp (Imp.gp (b:=b2) eaa ?_));refine gS ?_;refine EndsG.fq rfl (RdQ.yes (p:=at_ l 0) (j:=j) (by rw[<- hR.2,tw l Yt,mkSeq,if_pos Yt]) Yt) ?_;exact gO)
   ·refine vK1 ?_
    (refine AW.ret (EndsG.imp (Imp.gp (b:=b2) eaa ?_));refine gS ?_;refine EndsG.fq rfl (RdQ.yes (p:=.mk 2 [] l) (j:=j) (by rw[<- hR.2,tw l Yt,mkSeq,if_neg Yt]) Yt) ?_;exact gO)
section
theorem TS(n:Nat)(acn:∀(b:Nat) (s:Str) (i:Nat),fC lim prog 308 [(b,some (laa s i false))] [.ptr b 0] (RdQ b s i (iN s i [])) (i<=s.length/\s.length<=30/\s.length - i<n))(b:Nat)(s:Str)(i:Nat) :
  fC lim prog 272 [(b,some (laa s i false))] [.ptr b 0] (RdQ b s i (jg s i)) (i<=s.length/\s.length<=30/\s.length - i<n):=by
 refine fC.gb (aU 272) func272 rfl rfl λhp=>(?_);rw[ntmps272]
 (refine vK1 ?_;with_reducible repeat first|intro(K:_->_->Prop) hK|intro h)
 rename_i b2;refine GK.rdB λp j bad hq hj=>?_;refine vK1 ?_;refine AW.aw [3] [0,2] (λm xs o=>∃(l:List bP) (j:Nat) (bad:Bool),xs=[.sl true 3 (l.map cK)]/\o=[(b2,some maa),(b,some (laa s j bad))]/\m=s.length - j/\j<=s.length/\l.length<=j+1/\i<=j/\(bad=false->mL s j l=jg s i)/\(bad=true->jg s i=none)) _ [(b2,some maa),(b,some (laa s j bad))] (iw (Ne.symm h) rfl rfl) ⟨[p],j,bad,?_,rfl,rfl,?_,?_,?_,?_,?_⟩ ?_
 ·simp[T,eQ]
 ·omega
 ·simp
 ·omega
 ·rintro rfl;rcases hq with⟨_,hq⟩|⟨h,_⟩
  ·exact(J0 hp.1 hq).symm
  ·cases h
 ·rintro rfl;rcases hq with⟨h,_⟩|⟨_,hq⟩
  ·cases h
  ·exact Et hq
 clear hq hj bad;rintro m xs o ⟨l,j,bad,rfl,rfl,rfl,hj,hl,hij,hR,hN⟩
 cases bad with
 | true =>
  have hN:=hN rfl;refine vK1 ?_;refine AW.e λh=>?_;refine AW.imp (Imp.frz 3 ?_);refine gS ?_;refine vK1 ?_;refine AW.c (λh=>?_) λh=>?_
  ·refine vK1 ?_
   (refine AW.ret (EndsG.imp (Imp.gp (b:=b2) eaa ?_));refine gS ?_;refine EndsG.fq rfl (RdQ.no (at_ l 0) (j:=j) hN Yt) ?_;exact gO)
  ·refine vK1 ?_
   (refine AW.ret (EndsG.imp (Imp.gp (b:=b2) eaa ?_));refine gS ?_;refine EndsG.fq rfl (RdQ.no (.mk 3 [] l) (j:=j) hN Yt) ?_;exact gO)
 | false =>
  have hR:=hR rfl;refine vK1 ?_;refine AW.c (λh=>?_) λh=>?_
  ·simp only[h,cond_true];have hlt:=dm.1 h
   (refine vK1 ?_;intro K hK)
   refine GK.rd (λp k hq hk=>?_) (λp k hq hk=>?_)
   ·refine vK1 ?_;exact⟨_,[_],[(b2,some maa),(b,some (laa s k false))],Yt,⟨l++[p],k,false,rfl,rfl,rfl,Yt,by simp;omega,Yt,λ_=>by rw[<- hR,Gy l h hq],zH⟩,by simp[eQ],gO⟩
   ·refine vK1 ?_;exact⟨_,[_],[(b2,some maa),(b,some (laa s k true))],Yt,⟨l++[p],k,true,rfl,rfl,rfl,Yt,by simp;omega,Yt,zH,λ_=>by rw[<- hR,Ce l h hq]⟩,by simp[eQ],gO⟩
  ·simp only[h,cond_false];have hst:=Cd l h;refine AW.imp (Imp.frz 3 ?_);refine gS ?_;refine vK1 ?_;refine AW.c (λh=>?_) λh=>?_
   ·refine vK1 ?_
    (refine AW.ret (EndsG.imp (Imp.gp (b:=b2) eaa ?_));refine gS ?_;refine EndsG.fq rfl (RdQ.yes (p:=at_ l 0) (j:=j) (by rw[<- hR,hst,vY,if_pos Yt]) Yt) ?_;exact gO)
   ·refine vK1 ?_
    (refine AW.ret (EndsG.imp (Imp.gp (b:=b2) eaa ?_));refine gS ?_;refine EndsG.fq rfl (RdQ.yes (p:=.mk 3 [] l) (j:=j) (by rw[<- hR,hst,vY,if_neg Yt]) Yt) ?_;exact gO)
theorem EF:∀(n:Nat) (b:Nat) (s:Str) (i:Nat),fC lim prog 272 [(b,some (laa s i false))] [.ptr b 0] (RdQ b s i (jg s i)) (i<=s.length/\s.length<=30/\s.length - i<n)
 | 0,_,_,_=>⟨(aU 272),λh=>absurd h.2.2 (Nat.not_lt_zero _)⟩
 | n+1,b,s,i=>TS (n+1) (TR (n+1) (Ql n (EF n))) b s i
instance(b:Nat)(s:Str):fC lim prog 272 [(b,some (laa s 0 false))] [.ptr b 0] (RdQ b s 0 (jg s 0)) (s.length<=30):=⟨(aU 272),λh=>(EF 31 b s 0).out ⟨Yt,h,Yt⟩⟩
instance(s:Str):Ctr lim prog 229 [] [.str s] (.tup [.agg [.aa (fZ s).1.fOp,.str (fZ s).1.cX,.sl false 3 ((fZ s).1.af.map cK)],.ac (fZ s).2]) [] True:=by
 refine Ctr.bd func229 ntmps229 λhp=>?_;refine AW.f0 0 λhf=>?_;by_cases hlen:30<s.length
 ·have hd:decide (30<(s.length:Int))=true:=by simp;omega
  have e:=Cb (s:=s) Yt
  (refine vQ1 hd ?_;with_reducible repeat first|intro(K:_->_->Prop) hK|intro h)
  rename_i b2 b3;refine AW.e λh=>?_;refine vX1 ?_
  (refine AW.ret (EndsG.imp (Imp.kW (b:=b2) 3 [.aa 0,.str []] [] gO ?_));refine gS ?_;refine EndsG.fin rfl ?_;simp(maxSteps:=2000000) (disch:=omega)only[go_sem,e,qO,nk,kN,kO])
 ·have hd:decide (30<(s.length:Int))=false:=by simp;omega
  (refine vQ1 hd ?_;with_reducible repeat first|intro(K:_->_->Prop) hK|intro h)
  rename_i b2 b3;refine AW.e λh=>?_
  (refine vK1 ?_;intro K hK)
  refine GK.rd (λp j hq hj=>?_) (λp j hq hj=>?_)
  ·(refine vK1 ?_;intro h h)
   refine AW.c (λh=>?_) λh=>?_
   ·have e:=B6 hq Yt;refine vX1 ?_
    (refine AW.ret (EndsG.imp (Imp.kW (b:=b2) 3 [.aa 0,.str []] [] gO ?_));refine gS ?_;refine EndsG.fin rfl ?_;simp(maxSteps:=2000000) (disch:=omega)only[go_sem,e,qO,nk,kN,kO])
   ·have e:=Er Yt hq Yt;exact vP0 e
  ·have e:=Ca hq
   (refine vK1 ?_;intro h h)
   refine AW.e λh=>?_;refine vX1 ?_
   (refine AW.ret (EndsG.imp (Imp.kW (b:=b2) 3 [.aa 0,.str []] [] gO ?_));refine gS ?_;refine EndsG.fin rfl ?_;simp(maxSteps:=2000000) (disch:=omega)only[go_sem,e,qO,nk,kN,kO])
instance(s:Str):Ctr lim prog 225 [] [.str s] (.ac (dV s)) [] True:=by refine Ctr.bd func225 ntmps225 λhp=>?_;have e:=uJ s;exact vP0 e
