/- Part of a proof. -/
import Derived.Test.YtbiikafnjialjaaGreatDoorQ8
set_option linter.all false
set_option maxRecDepth 20000
set_option maxHeartbeats 4000000
open Go.Proofs.Tryz
open List
namespace Go.Dt
open Go.Ab
def wtg:List ah->Nat
 | []=>0
 | .mk n v ks::xs=>(n.length+v.length+ks.length+wtg ks)+wtg xs
def wt(l:List ah):Nat:=l.length+wtg l
def kc:List ah->Nat
 | []=>0
 | .mk _ _ ks::xs=>(ks.length+kc ks)+kc xs
def cnt(l:List ah):Nat:=l.length+kc l
def dep:List ah->Nat
 | []=>0
 | .mk _ _ ks::xs=>max (1+dep ks) (dep xs)
def mX(x:ah):Bool:=isName x.ae && isText x.aq && (x.aq == [] || x.af.length == 0)
def frm:List ah->Bool
 | []=>true
 | .mk n v ks::xs=>(mX (.mk n v ks) && frm ks) && frm xs
def lfr:List ah->Nat->Bool
 | [],_=>true
 | .mk n v ks::xs,d=>(mX (.mk n v ks) && (lfr ks (d+1) && (ks.length == 0 || decide (d+1<=10)))) && lfr xs d
def gf:List ah->Int->Int
 | [],q=>q
 | .mk _ _ ks::xs,q=>if q<0 then q else gf xs (gf ks (q - ks.length))
def jJ(ps:List Str):List ah->Bool
 | []=>true
 | .mk _ v ks::xs=>(((tk v).2 && (nmL (tk v)).all (cont ps)) && jJ ps ks) && jJ ps xs
section
variable {l : List ah} {k : Nat}
def U4(h:k<l.length):wtg (l.drop k)=((at_ l k).ae.length+(at_ l k).aq.length+(at_ l k).af.length+wtg (at_ l k).af)+wtg (l.drop (k+1)):=by rw[bT h];cases at_ l k;rw[wtg];rfl
def RW(h:k<l.length):kc (l.drop k)=((at_ l k).af.length+kc (at_ l k).af)+kc (l.drop (k+1)):=by rw[bT h];cases at_ l k;rw[kc];rfl
def Xn(h:k<l.length):dep (l.drop k)=max (1+dep (at_ l k).af) (dep (l.drop (k+1))):=by rw[bT h];cases at_ l k;rw[dep];rfl
def OI(h:k<l.length):frm (l.drop k)=((mX (at_ l k) && frm (at_ l k).af) && frm (l.drop (k+1))):=by rw[bT h];cases at_ l k;rw[frm];rfl
def NR(h:k<l.length)(d:Nat):lfr (l.drop k) d=((mX (at_ l k) && (lfr (at_ l k).af (d+1) && ((at_ l k).af.length == 0 || decide (d+1<=10)))) && lfr (l.drop (k+1)) d):=by rw[bT h];cases at_ l k;rw[lfr];rfl
def Ka(h:k<l.length)(q:Int):gf (l.drop k) q=if q<0 then q else gf (l.drop (k+1)) (gf (at_ l k).af (q - (at_ l k).af.length)):=by rw[bT h];cases at_ l k;rw[gf];rfl
def qE(ps:List Str)(h:k<l.length):jJ ps (l.drop k)=((((tk (at_ l k).aq).2 && (nmL (tk (at_ l k).aq)).all (cont ps)) && jJ ps (at_ l k).af) && jJ ps (l.drop (k+1))):=by rw[bT h];cases at_ l k;rw[jJ];rfl
def lW(h:k<l.length):wt (at_ l k).af<wt l/\(at_ l k).ae.length<=wt l/\(at_ l k).aq.length<=wt l:=by
 have h1:=U4 h
 have h2:∀j (l:List ah),wtg (l.drop j)<=wtg l:=by
  intro j
  induction j with
  | zero=>intro l;simp
  | succ j ih =>
   intro l
   cases l with
   | nil=>simp
   | cons x xs=>cases x;simp only[drop_succ_cons,wtg];have:=ih xs;omega
 have h3:=h2 k l;unfold wt;omega
end
def EA{x:ah}(h:(isName x.ae=false\/isText x.aq=false)\/¬x.aq=[]/\0<(x.af.length:Int)):mX x=false:=by
 unfold mX;rcases h with(h|h)|h
 ·simp[h]
 ·simp[h]
 ·have:(x.af.length == 0)=false:=by simp only[beq_eq_false_iff_ne];omega
  simp[h.1,this]
def Ch{x:ah}(h:(isName x.ae=true/\isText x.aq=true)/\(¬x.aq=[]->(x.af.length:Int)<=0)):mX x=true:=by
 unfold mX;rw[h.1.1,h.1.2];by_cases e:x.aq=[]
 ·simp[e]
 ·have:=h.2 e
  have:(x.af.length == 0)=true:=by simp only[beq_iff_eq];omega
  simp[this]
def uZ{α β:Type}(f:α->β)(p:β->Bool):∀l:List α,idx (λx=>p (f x)) l=idx p (l.map f)
 | []=>rfl
 | x::xs=>by simp only[map_cons,idx,uZ f p xs]
def PV(ps:List bR)(n:Str):decide (0<=j7 ps n)=cont (ps.map bR.ae) n:=by rw[j7,uZ bR.ae (λx=>x == n)];rfl
def xx:∀d:List Tok,(eX d).length<=d.length
 | []=>by simp[eX]
 | .inl _::d=>by have:=xx d;simp only[eX,length_cons];omega
 | .inr _::d=>by have:=xx d;simp only[eX,length_cons];omega
def J7(s:Str):(nmL (tk s)).length<=s.length:=by
 have h1:=Bz s
 have h2:=xx (tk s).1;unfold nmL;cases (tk s).2
 ·simp
 ·simp only[cond_true];omega
def dn{α:Type}{l:List α}{k:Nat}(h:¬k<l.length):l.drop k=[]:=drop_eq_nil_of_le Yt
def LC:∀l:List ah,kc l<=wtg l
 | []=>by simp[kc]
 | .mk n v ks::xs=>by have:=LC ks;have:=LC xs;simp only[kc,wtg];omega
def Iw(l:List ah):cnt l<=wt l:=by have:=LC l;unfold cnt wt;omega
def Ip:∀l:List ah,dep l<=wt l
 | []=>by simp[dep]
 | .mk n v ks::xs=>by
  have h1:=Ip ks;have h2:=Ip xs;simp only[dep,wt,wtg,length_cons]at *;omega
def Ux:∀l:List ah,dep l=0↔l.length=0
 | []=>by simp[dep]
 | .mk n v ks::xs=>by simp only[dep,length_cons];omega
def yP:∀(l:List ah) (q:Int),gf l q<=q
 | [],q=>by simp[gf]
 | .mk n v ks::xs,q=>by
  have h1:=yP ks (q - ks.length)
  have h2:=yP xs (gf ks (q - ks.length));simp only[gf];split<;>omega
def mo(l:List ah){q:Int}(h:q<0):gf l q=q:=by
 cases l with
 | nil=>rw[gf]
 | cons x xs=>cases x;simp only[gf];rw[if_pos h]
def rK:∀(l:List ah) (q:Int),0<=q->(0<=gf l q↔(kc l:Int)<=q)/\((kc l:Int)<=q->gf l q=q - kc l)
 | [],q,h=>by simp only[gf,kc];omega
 | .mk n v ks::xs,q,h=>by
  simp only[gf,kc];rw[if_neg Yt];rcases Int.lt_or_le (q - ks.length) 0 with h1|h1
  ·rw[mo ks h1,mo xs h1];constructor
   ·omega
   ·omega
  ·have h2:=rK ks _ h1;rcases Int.lt_or_le (gf ks (q - ks.length)) 0 with h3|h3
   ·rw[mo xs h3];constructor
    ·omega
    ·omega
   ·have h4:=rK xs _ h3
    have h5:=h2.2 (h2.1.1 h3);rw[h5]at h3 h4 ⊢;constructor
    ·omega
    ·omega
def Dy:∀(l:List ah) (q:Int),-4611686018427387904<=q->(wt l:Int)<=1048576->-4611686018427387904<=gf l q
 | [],q,h,_=>by simpa[gf]using h
 | .mk n v ks::xs,q,h,hw=>by
  simp only[gf];split
  ·exact h
  ·have e:(wt (.mk n v ks::xs):Nat)=(n.length+v.length+wt ks)+1+wt xs:=by simp only[wt,wtg,length_cons];omega
   have e2:ks.length<=wt ks:=by unfold wt;omega
   exact Dy xs _ (Dy ks _ Yt Yt) Yt
def Hg:∀(l:List ah) (d:Nat),1<=d->d<=10->lfr l d=(frm l && decide (d+dep l<=11))
 | [],d,_,h=>by simp[lfr,frm,dep];omega
 | .mk n v ks::xs,d,h0,h=>by
  have h2:=Hg xs d h0 h;simp only[lfr,frm,dep];rw[h2];by_cases h3:d+1<=10
  ·have h1:=Hg ks (d+1) Yt h3;rw[h1];have e1:decide (d+1<=10)=true:=by simpa using h3
   rw[e1,Bool.or_true,Bool.and_true]
   have e2:decide (d+max (1+dep ks) (dep xs)<=11)=(decide (d+1+dep ks<=11) && decide (d+dep xs<=11)):=by
    rw[<- Bool.decide_and];exact decide_eq_decide.2 Yt
   rw[e2];cases mX (.mk n v ks)<;>cases frm ks<;>cases frm xs<;>simp
  ·have e1:decide (d+1<=10)=false:=by simpa using h3
   rw[e1,Bool.or_false];have hd:=Ux ks;by_cases h4:ks.length=0
   ·have h5:ks=[]:=List.length_eq_zero_iff.1 h4;subst h5;have e2:decide (d+max (1+dep []) (dep xs)<=11)=decide (d+dep xs<=11):=decide_eq_decide.2 (by simp only[dep];omega);rw[e2];simp[lfr,frm];cases mX (.mk n v [])<;>cases frm xs<;>simp
   ·have e3:(ks.length == 0)=false:=by simpa using h4
    have e4:decide (d+max (1+dep ks) (dep xs)<=11)=false:=by simp only[decide_eq_false_iff_not];omega
    rw[e3,e4];simp
def qu(l:List ah):Bool:=decide (cnt l<=120) && decide (dep l<=10) && frm l
def Jd(l:List ah):(decide (0<=gf l (120 - l.length)) && (lfr l 1 && (l.length == 0 || decide (1<=10))))=qu l:=by
 rw[Hg l 1 Yt Yt]
 have e1:decide (0<=gf l (120 - l.length))=decide (cnt l<=120):=by
  apply decide_eq_decide.2;unfold cnt;rcases Int.lt_or_le (120 - (l.length:Int)) 0 with h|h
  ·rw[mo l h];omega
  ·have:=(rK l _ h).1;omega
 have e2:decide (1+dep l<=11)=decide (dep l<=10):=decide_eq_decide.2 Yt;rw[e1,e2];simp[qu];cases decide (cnt l<=120)<;>cases frm l<;>simp
def iK{a:Int}{k:Int->Int}(h:0<=thn a k):0<=a/\thn a k=k a:=by
 unfold thn at h ⊢;split at h
 ·omega
 ·rw[if_neg baa];exact⟨Yt,rfl⟩
def Aa:∀(l:List ah) (r:Int),0<=r->0<=lP l r->lP l r+wtg l=r
 | [],r,_,_=>by simp[lP,wtg]
 | .mk n v ks::xs,r,h0,h=>by
  rw[lP]at h ⊢
  have hx:∀q,0<=bA (.mk n v ks) q->0<=q->bA (.mk n v ks) q+(n.length+v.length+ks.length+wtg ks:Nat)=q:=by
   intro q hq h0;rw[bA]at hq ⊢;obtain⟨h1,e1⟩:=iK hq;rw[e1]at hq ⊢;obtain⟨h2,e2⟩:=iK hq;rw[e2]at hq ⊢;obtain⟨h3,e3⟩:=iK hq;rw[e3]at hq ⊢;simp only[id]at h3 ⊢;obtain⟨h4,e4⟩:=iK h3;rw[e4]at h3 ⊢;have:=Aa ks _ h4 h3;unfold aA at *;omega
  obtain⟨h1,e1⟩:=iK h;rw[e1]at h ⊢;have h3:=hx r h1 h0
  have h2:=Aa xs _ h1 h;rw[wtg];omega
def Bt{l:List ah}{r:Int}(h0:0<=r)(h:0<=aM bA l r):(wt l:Int)<=r:=by
 rcases Int.lt_or_le (r - l.length) 0 with h2|h2
 ·rw[fM h2]at h;omega
 ·rw[fY h2,<- ud]at h;have:=Aa l _ h2 h;unfold wt;omega
def isType(ip:Str->Bool)(x:dB):Bool :=
 (decide (x.aj=1) && iz x.az && x.aB.isEmpty && x.aZ.isEmpty && x.aG.isEmpty) ||
 (decide (x.aj=2) && iz x.az && (x.az.isEmpty || decide (0<=(at_ x.az 0).fLo)) && (x.aZ.isEmpty || ip x.aZ) && x.aB.isEmpty && x.aG.isEmpty) ||
 (decide (x.aj=4) && decide (1<=x.aB.length) && decide (x.aB.length<=6) && names x.aB && cE x.aB && x.az.isEmpty && x.aZ.isEmpty && x.aG.isEmpty) ||
 (decide (x.aj=5) && isText x.aG && !x.aG.isEmpty && x.az.isEmpty && x.aB.isEmpty && x.aZ.isEmpty) ||
 (decide (x.aj=3\/x.aj=6) && x.az.isEmpty && x.aB.isEmpty && x.aZ.isEmpty && x.aG.isEmpty)
section
variable {ip : Str -> Bool} {x : dB}
def xR(h:x.aj=1):isType ip x=(iz x.az && x.aB.isEmpty && x.aZ.isEmpty && x.aG.isEmpty):=by simp[isType,h]
def xQ(h:x.aj=2):isType ip x=(iz x.az && (x.az.isEmpty || decide (0<=(at_ x.az 0).fLo)) && (x.aZ.isEmpty || ip x.aZ) && x.aB.isEmpty && x.aG.isEmpty):=by simp[isType,h]
def tI(h:x.aj=4):isType ip x=(decide (1<=x.aB.length) && decide (x.aB.length<=6) && names x.aB && cE x.aB && x.az.isEmpty && x.aZ.isEmpty && x.aG.isEmpty):=by simp[isType,h]
def xP(h:x.aj=5):isType ip x=(isText x.aG && !x.aG.isEmpty && x.az.isEmpty && x.aB.isEmpty && x.aZ.isEmpty):=by simp[isType,h]
def tH(h1:¬x.aj=1)(h2:¬x.aj=2)(h4:¬x.aj=4)(h5:¬x.aj=5):isType ip x=(decide (x.aj=3\/x.aj=6) && x.az.isEmpty && x.aB.isEmpty && x.aZ.isEmpty && x.aG.isEmpty):=by simp[isType,h1,h2,h4,h5]
def Og(h:(((¬x.aj=1/\¬x.aj=2)/\¬x.az=[]\/¬x.aj=4/\¬x.aB=[])\/¬x.aj=2/\¬x.aZ=[])\/¬x.aj=5/\¬x.aG=[]):isType ip x=false:=by
 by_cases h1:x.aj=1
 ·rw[xR h1];simp[h1]at h;rcases h with(h|h)|h<;>simp[h]
 by_cases h2:x.aj=2
 ·rw[xQ h2];simp[h2]at h;rcases h with h|h<;>simp[h]
 by_cases h4:x.aj=4
 ·rw[tI h4];simp[h4]at h;rcases h with(h|h)|h<;>simp[h]
 by_cases h5:x.aj=5
 ·rw[xP h5];simp[h5]at h;rcases h with(h|h)|h<;>simp[h]
 ·rw[tH h1 h2 h4 h5];simp[h1,h2,h4,h5]at h;rcases h with((h|h)|h)|h<;>simp[h]
end
section
variable {ip : Str -> Bool} {x : dB}
def sE{α:Type}{l:List α}(h:(l.length:Int)<=0):l=[]:=List.length_eq_zero_iff.1 Yt
def ab1{α:Type}(l:List α):((l.length:Int) == 0)=l.isEmpty:=by cases l<;>simp<;>omega
def qT{α:Type}[BEq α](l:List α):(l == [])=l.isEmpty:=by cases l<;>rfl
def N9(h:(((¬x.aj=1/\¬x.aj=2)/\(0:Int)<x.az.length\/¬x.aj=4/\(0:Int)<x.aB.length)\/¬x.aj=2/\¬x.aZ=[])\/¬x.aj=5/\¬x.aG=[]):false=isType ip x:=by
 have e3:(0:Int)<x.az.length↔¬x.az=[]:=by rw[<- length_eq_zero_iff];omega
 have e4:(0:Int)<x.aB.length↔¬x.aB=[]:=by rw[<- length_eq_zero_iff];omega
 rw[e3,e4]at h;exact(Og h).symm
section
variable (H : (((¬x.aj = 1 /\ ¬x.aj = 2 -> (x.az.length : Int) <= 0) /\ (¬x.aj = 4 -> (x.aB.length : Int) <= 0)) /\ (¬x.aj = 2 -> x.aZ = [])) /\ (¬x.aj = 5 -> x.aG = []))
include H
theorem N8(h:x.aj=1):iz x.az=isType ip x:=by rw[xR h,sE (H.1.1.2 Yt),H.1.2 Yt,H.2 Yt];simp
theorem N7(h:x.aj=2):(iz x.az && ((x.az.length:Int) == 0 || decide (0<=(at_ x.az 0).fLo)) && (x.aZ == [] || ip x.aZ))=isType ip x:=by rw[xQ h,sE (H.1.1.2 Yt),H.2 Yt,ab1,qT];simp
theorem N0(h:x.aj=4):(decide ((1:Int)<=x.aB.length) && decide ((x.aB.length:Int)<=6) && names x.aB && cE x.aB)=isType ip x:=by rw[tI h,sE (H.1.1.1 Yt),H.1.2 Yt,H.2 Yt];rw[show decide ((1:Int)<=x.aB.length)=decide (1<=x.aB.length)from decide_eq_decide.2 Yt,show decide ((x.aB.length:Int)<=6)=decide (x.aB.length<=6)from decide_eq_decide.2 Yt];simp
theorem NZ(h:x.aj=5):(!x.aG == [] && isText x.aG)=isType ip x:=by rw[xP h,sE (H.1.1.1 Yt),sE (H.1.1.2 Yt),H.1.2 Yt,qT];cases x.aG.isEmpty<;>simp
theorem NY(h1:¬x.aj=1)(h2:¬x.aj=2)(h4:¬x.aj=4)(h5:¬x.aj=5):(x.aj == 3 || x.aj == 6)=isType ip x:=by rw[tH h1 h2 h4 h5,sE (H.1.1.1 Yt),sE (H.1.1.2 Yt),H.1.2 Yt,H.2 Yt];by_cases h3:x.aj=3<;>by_cases h6:x.aj=6<;>simp[h3,h6]
end
end
def xS{α:Type}(l:List α):(!decide ((0:Int)<l.length))=l.isEmpty:=by
 cases l with
 | nil=>rfl
 | cons x xs=>simp
def Kh(s:Str):∀l:List Str,0<=idx (λx=>x == s) l↔s∈l
 | []=>by simp[idx]
 | x::xs=>by
  have ih:=Kh s xs
  have h0:=qv (λx=>x == s) xs;by_cases e:x=s
  ·subst e;simp[idx]
  ·have e':(x == s)=false:=by simpa using e
   have e'':¬s=x:=λh=>e h.symm;simp only[idx,e',Bool.false_eq_true,if_false,mem_cons,e'',false_or,<- ih];split<;>omega
def iW(l:List Str)(s:Str):cont l s=true↔s∈l:=by unfold cont;rw[decide_eq_true_eq,Kh]
theorem Eb{α:Type}[Inhabited α]{l:List α}{j k:Nat}(h:j<k):at_ (l.take k) j=at_ l j:=by unfold at_;rw[getElem?_take,if_pos h]
def wI{l:List Str}{j k:Nat}(hj:j<k)(hk:k<l.length)(h:at_ l j=at_ l k):cont (l.take k) (at_ l k)=true:=by
 rw[iW,<- h];have:(l.take k)[j]? = some (at_ l j):=by rw[getElem?_take,if_pos hj];exact vo Yt
 exact mem_of_getElem? this
def tT{l:List Str}{k:Nat}{s:Str}(h:∀y∈l.take k,(y == s)=false):cont (l.take k) s=false:=by rw[Bool.eq_false_iff];intro hc;have:=h s ((iW _ _).1 hc);simp at this
section
variable {ip : Str -> Bool} {x : dB}
def Cw{k:Nat}(hk:k<x.aB.length)(h:names x.aB=false\/cE x.aB=false):false=isType ip x:=by
 have e:x.aB.isEmpty=false:=by cases hx:x.aB with|nil=>rw[hx]at hk;simp at hk|cons a b=>rfl
 unfold isType;rw[e];rcases h with h|h<;>simp[h]
def Oe(h:x.aj=1):(iz x.az && !decide ((0:Int)<x.aB.length) && x.aZ == [] && x.aG == [])=isType ip x:=by rw[xR h,xS,qT,qT]
def Od(h:x.aj=2):(iz x.az && (!decide ((0:Int)<x.az.length) || decide (0<=(at_ x.az 0).fLo)) && (x.aZ == [] || ip x.aZ) && !decide ((0:Int)<x.aB.length) && x.aG == [])=isType ip x:=by rw[xQ h,xS,xS,qT,qT]
def Oc(h:x.aj=4)(h1:names x.aB=true)(h2:cE x.aB=true):(decide ((1:Int)<=x.aB.length) && decide ((x.aB.length:Int)<=6) && !decide ((0:Int)<x.az.length) && x.aZ == [] && x.aG == [])=isType ip x:=by rw[tI h,xS,qT,qT,h1,h2,Bool.and_true,Bool.and_true];rw[show decide ((1:Int)<=x.aB.length)=decide (1<=x.aB.length)from decide_eq_decide.2 Yt,show decide ((x.aB.length:Int)<=6)=decide (x.aB.length<=6)from decide_eq_decide.2 Yt]
def Ob(h:x.aj=5):(isText x.aG && !x.aG == [] && !decide ((0:Int)<x.az.length) && !decide ((0:Int)<x.aB.length) && x.aZ == [])=isType ip x:=by rw[xP h,xS,xS,qT,qT]
def EK(h1:¬x.aj=1)(h2:¬x.aj=2)(h4:¬x.aj=4)(h5:¬x.aj=5)(h:x.aj=3\/x.aj=6):(!decide ((0:Int)<x.az.length) && !decide ((0:Int)<x.aB.length) && x.aZ == [] && x.aG == [])=isType ip x:=by rw[tH h1 h2 h4 h5,xS,xS,qT,qT,show decide (x.aj=3\/x.aj=6)=true by simpa using h,Bool.true_and]
def Oa(h1:¬x.aj=1)(h2:¬x.aj=2)(h4:¬x.aj=4)(h5:¬x.aj=5)(h3:¬x.aj=3)(h6:¬x.aj=6):false=isType ip x:=by rw[tH h1 h2 h4 h5,show decide (x.aj=3\/x.aj=6)=false by simp[h3,h6]];rfl
end
def tv(ip:Str->Bool)(l:List bR)(j:Nat):Bool:=isName (at_ l j).ae && isType ip (at_ l j).fType
def dF(ip:Str->Bool)(x:aE):Bool:=cz (tv ip x.aI) x.aI.length && cE (x.aI.map bR.ae) && isName x.ae && decide (x.aI.length<=6) && qu x.dq && jJ (x.aI.map bR.ae) x.dq
theorem CT{α β:Type}[Inhabited α][Inhabited β](f:α->β){l:List α}{k:Nat}(h:k<l.length):at_ (l.map f) k=f (at_ l k):=by unfold at_;rw[getElem?_map,getElem?_eq_getElem h];rfl
def Eo{l:List bR}{k:Nat}(hk:k<l.length):j7 l (at_ l k).ae=k↔cont ((l.map bR.ae).take k) (at_ (l.map bR.ae) k)=false:=by
 have hk':k<(l.map bR.ae).length:=by simpa using hk
 rw[CT bR.ae hk,j7,uZ bR.ae (λx=>x == (at_ l k).ae)];have yT:((at_ (l.map bR.ae) k) == (at_ l k).ae)=true:=by rw[CT bR.ae hk];simp
 constructor
 ·intro h;rw[Bool.eq_false_iff];intro hc;have hm:=(iW _ _).1 hc;obtain⟨j,hj,e⟩:=getElem_of_mem hm;rw[length_take]at hj
  have e2:at_ (l.map bR.ae) j=(at_ l k).ae:=by
   unfold at_;rw[getElem_take]at e;rw[getElem?_eq_getElem Yt,e];rfl
  have hle:∀(m:List Str) (j:Nat),j<m.length->at_ m j=(at_ l k).ae->idx (λx=>x == (at_ l k).ae) m<=j:=by
   intro m
   induction m with
   | nil=>intro j h;simp at h
   | cons y ys ih =>
    intro j hj he;simp only[idx];split
    ·omega
    ·cases j with
     | zero=>rename_i hn;simp[at_]at he;simp[he]at hn;simp[at_]at hn
     | succ j =>
      have:=ih j (by simpa using hj) (by simpa[at_]using he);split
      ·omega
      ·omega
  have:=hle _ j Yt e2;omega
 ·intro h;refine gR hk' (λy hy=>?_) yT;rw[beq_eq_false_iff_ne];intro e;rw[e]at hy;rw[(iW _ _).2 hy]at h;cases h
def wY{ip:Str->Bool}{x:aE}{k:Nat}(hk:k<x.aI.length)(h:tv ip x.aI k=false):dF ip x=false:=by unfold dF;rw[cV hk h];rfl
def DH{ip:Str->Bool}{x:aE}{k:Nat}(hk:k<x.aI.length)(h:cont ((x.aI.map bR.ae).take k) (at_ (x.aI.map bR.ae) k)=true):dF ip x=false:=by unfold dF;rw[show cE (x.aI.map bR.ae)=false from cV (by simpa using hk) (by simp[h])];simp
end Go.Dt
namespace Go.Proofs
open Go.Ab Go.Dt
set_option maxHeartbeats 2000000
theorem xY(L:gaa)[hL:Lok L]:∀(n:Nat) (l:List ah),Ctr L prog 131 [] [.ab 3 ai l] (.aa (cnt l)) [] (wt l<n/\n<=1048577)
 | 0,l=>⟨(aU 131),λh=>absurd h.1 (Nat.not_lt_zero _)⟩
 | n+1,l=>by
  have ih:=xY L n;refine Ctr.bd func131 ntmps131 λhp=>?_;have hc:=Iw l
  have hl:l.length<=wt l:=by unfold wt;omega
  refine vU1 ?_;refine AW.aw [3,10] [0,8,9] (λm xs o=>∃k q:Nat,xs=[.aa q,.aa k]/\o=[]/\m=l.length - k/\k<=l.length/\q+kc (l.drop k)=cnt l) l.length [] trivial ⟨0,l.length,?_,rfl,rfl,?_,rfl⟩ ?_
  ·rfl
  ·omega
  rintro m xs o ⟨k,q,rfl,rfl,rfl,hk,hR⟩;have h1:k<l.length->_:=lW (l:=l) (k:=k)
  have h2:k<l.length->_:=RW (l:=l) (k:=k)
  have h3:cnt (at_ l k).af=(at_ l k).af.length+kc (at_ l k).af:=rfl
  (refine vU2 ?_ ?_<;>with_reducible repeat intro h)
  ·exact⟨_,[_,_],[],Yt,⟨k+1,q+cnt (at_ l k).af,rfl,rfl,rfl,Yt,Yt⟩,rfl,trivial⟩
  ·rw[dn h,kc]at hR;rw[<- hR,Nat.add_zero]
theorem xN(L:gaa)[hL:Lok L]:∀(n:Nat) (l:List ah),Ctr L prog 242 [] [.ab 3 ai l] (.aa (dep l)) [] (wt l<n/\n<=1048577)
 | 0,l=>⟨(aU 242),λh=>absurd h.1 (Nat.not_lt_zero _)⟩
 | n+1,l=>by
  have ih:=xN L n;refine Ctr.bd func242 ntmps242 λhp=>?_;have hc:=Ip l
  have hl:l.length<=wt l:=by unfold wt;omega
  refine vU1 ?_;refine AW.aw [3,8] [0,6,7] (λm xs o=>∃k q:Nat,xs=[.aa q,.aa k]/\o=[]/\m=l.length - k/\k<=l.length/\max q (dep (l.drop k))=dep l) l.length [] trivial ⟨0,0,?_,rfl,rfl,?_,?_⟩ ?_
  ·rfl
  ·omega
  ·simp
  rintro m xs o ⟨k,q,rfl,rfl,rfl,hk,hR⟩;have h1:k<l.length->_:=lW (l:=l) (k:=k)
  have h2:k<l.length->_:=Xn (l:=l) (k:=k)
  (refine vU2 ?_ ?_<;>with_reducible repeat intro h)
  ·refine⟨_,[_,_],[],Yt,⟨k+1,max q (1+dep (at_ l k).af),?_,rfl,rfl,Yt,Yt⟩,rfl,trivial⟩;refine congrArg (λz=>[AV.aa z,_]) ?_;split<;>omega
  ·rw[dn h,dep]at hR;rw[<- hR,Nat.max_zero]
theorem EL(L:gaa)[hL:Lok L]:∀(n:Nat) (l:List ah),Ctr L prog 243 [] [.ab 3 ai l] (.ac (frm l)) [] (wt l<n/\n<=1048577)
 | 0,l=>⟨(aU 243),λh=>absurd h.1 (Nat.not_lt_zero _)⟩
 | n+1,l=>by
  have ih:=EL L n;refine Ctr.bd func243 ntmps243 λhp=>?_;have hl:l.length<=wt l:=by unfold wt;omega
  refine vU1 ?_;refine AW.aw [7] [0,5,6] (λm xs o=>∃k:Nat,xs=[.aa k]/\o=[]/\m=l.length - k/\k<=l.length/\frm (l.drop k)=frm l) l.length [] trivial ⟨0,?_,rfl,rfl,?_,rfl⟩ ?_
  ·rfl
  ·omega
  rintro m xs o ⟨k,rfl,rfl,rfl,hk,hR⟩;have h1:k<l.length->_:=lW (l:=l) (k:=k)
  (refine vU3 ?_ ?_ ?_<;>with_reducible repeat intro h)
  ·rw[<- hR,OI (l:=l) (k:=k) baa];rcases h with h|h
   ·rw[EA h];rfl
   ·rw[h,Bool.and_false];rfl
  ·exact⟨_,[_],[],Yt,⟨k+1,rfl,rfl,rfl,Yt,by rw[<- hR,OI (l:=l) (k:=k) baa,Ch h.1,h.2];rfl⟩,rfl,trivial⟩
  ·rw[<- hR,dn h,frm]
theorem BR(L:gaa)[hL:Lok L]:∀(n:Nat) (l:List ah) (d:Nat),Ctr L prog 226 [] [.ab 3 ai l,.aa d] (.ac (lfr l d && (l.length == 0 || decide (d<=10)))) [] (wt l<n/\n+d<=1048579)
 | 0,l,d=>⟨(aU 226),λh=>absurd h.1 (Nat.not_lt_zero _)⟩
 | n+1,l,d=>by
  have ih:=BR L n;refine Ctr.bd func226 ntmps226 λhp=>?_;have hl:l.length<=wt l:=by unfold wt;omega
  refine vU1 ?_;refine AW.aw [5] [0,1] (λm xs o=>∃k:Nat,xs=[.aa k]/\o=[]/\m=l.length - k/\k<=l.length/\lfr (l.drop k) d=lfr l d) l.length [] trivial ⟨0,?_,rfl,rfl,?_,rfl⟩ ?_
  ·rfl
  ·omega
  rintro m xs o ⟨k,rfl,rfl,rfl,hk,hR⟩;have h1:k<l.length->_:=lW (l:=l) (k:=k)
  (refine vU3 ?_ ?_ ?_<;>with_reducible repeat intro h)
  ·rw[<- hR,NR (l:=l) (k:=k) baa];rcases h with h|h
   ·rw[EA h];rfl
   ·have:(lfr (at_ l k).af (d+1) && ((at_ l k).af.length == 0 || decide (d+1<=10)))=false:=by
     cases e:lfr (at_ l k).af (d+1)with
     | false=>rfl
     | true =>
      have h5:=h e
      have e1:((at_ l k).af.length == 0)=false:=by simpa using h5.1
      have e2:decide (d+1<=10)=false:=by simp only[decide_eq_false_iff_not];omega
      rw[e1,e2];rfl
    rw[this,Bool.and_false];rfl
  ·refine⟨_,[_],[],Yt,⟨k+1,rfl,rfl,rfl,Yt,?_⟩,rfl,trivial⟩;rw[<- hR,NR (l:=l) (k:=k) baa,Ch h.1,h.2.1];have:((at_ l k).af.length == 0 || decide (d+1<=10))=true:=by rw[Bool.or_eq_true,beq_iff_eq,decide_eq_true_eq];omega
   rw[this];rfl
  ·rw[<- hR,dn h,lfr,Bool.true_and];refine congrArg (λz=>AV.ac z) ?_
   congr 1
   ·exact Bool.eq_iff_iff.2 zH
   ·exact decide_eq_decide.2 Yt
theorem BS(L:gaa)[hL:Lok L]:∀(n:Nat) (l:List ah) (r:Int),Ctr L prog 114 [] [.ab 3 ai l,.aa r] (.aa (gf l (r - l.length))) [] (wt l<n/\n<=1048577/\0<=r/\r<=1048576)
 | 0,l,r=>⟨(aU 114),λh=>absurd h.1 (Nat.not_lt_zero _)⟩
 | n+1,l,r=>by
  have ih:=BS L n;refine Ctr.bd func114 ntmps114 λhp=>?_;have hl:l.length<=wt l:=by unfold wt;omega
  refine vU1 ?_;refine AW.aw [1,5] [0] (λm xs o=>∃(k:Nat) (q:Int),xs=[.aa q,.aa k]/\o=[]/\m=l.length - k/\k<=l.length/\-4611686018427387904<=q/\q<=1048576/\gf (l.drop k) q=gf l (r - l.length)) l.length [] trivial ⟨0,r - l.length,?_,rfl,rfl,?_,?_,?_,rfl⟩ ?_
  ·rfl
  ·omega
  ·omega
  ·omega
  rintro m xs o ⟨k,q,rfl,rfl,rfl,hk,h0,h1,hR⟩;have hw:k<l.length->_:=lW (l:=l) (k:=k)
  have h3:=yP (at_ l k).af (q - (at_ l k).af.length)
  (refine vU2 ?_ ?_<;>intro h)
  ·have h4:-4611686018427387904<=gf (at_ l k).af (q - (at_ l k).af.length):=Dy _ _ (by have:=hw h.1;unfold wt at *;omega) (by have:=hw h.1;omega);refine⟨_,[_,_],[],Yt,⟨k+1,_,rfl,rfl,rfl,Yt,h4,Yt,?_⟩,rfl,trivial⟩;rw[<- hR,Ka h.1,if_neg Yt]
  ·rw[<- hR];by_cases e:k<l.length
   ·rw[mo _ (h e)]
   ·rw[dn e,gf]
instance(L:gaa)[hL:Lok L](l:List ah):Ctr L prog 131 [] [.ab 3 ai l] (.aa (cnt l)) [] (wt l<=1048576):=⟨(aU 131),λh=>(xY L 1048577 l).out ⟨Yt,Yt⟩⟩
instance(L:gaa)[hL:Lok L](l:List ah):Ctr L prog 242 [] [.ab 3 ai l] (.aa (dep l)) [] (wt l<=1048576):=⟨(aU 242),λh=>(xN L 1048577 l).out ⟨Yt,Yt⟩⟩
instance(L:gaa)[hL:Lok L](l:List ah):Ctr L prog 243 [] [.ab 3 ai l] (.ac (frm l)) [] (wt l<=1048576):=⟨(aU 243),λh=>(EL L 1048577 l).out ⟨Yt,Yt⟩⟩
instance(L:gaa)[hL:Lok L](l:List ah):Ctr L prog 226 [] [.ab 3 ai l,.aa 1] (.ac (lfr l 1 && (l.length == 0 || decide (1<=10)))) [] (wt l<=1048576):=⟨(aU 226),λh=>(BR L 1048577 l 1).out ⟨Yt,Yt⟩⟩
instance(L:gaa)[hL:Lok L](l:List ah)(r:Int):Ctr L prog 114 [] [.ab 3 ai l,.aa r] (.aa (gf l (r - l.length))) [] (wt l<=1048576/\0<=r/\r<=1048576):=⟨(aU 114),λh=>(BS L 1048577 l r).out ⟨Yt,Yt,h.2⟩⟩
instance(L:gaa)[hL:Lok L](l:List ah):Ctr L prog 185 [] [.ab 3 ai l] (.ac (qu l)) [] (wt l<=1048576):=by refine Ctr.bd func185 ntmps185 λhp=>?_;refine vU1 ?_;rw[qu];refine congrArg (λz=>AV.ac z) ?_;rw[show decide ((cnt l:Int)<=120)=decide (cnt l<=120)from decide_eq_decide.2 Yt,show decide ((dep l:Int)<=10)=decide (dep l<=10)from decide_eq_decide.2 Yt]
instance(L:gaa)[hL:Lok L](l:List ah):Ctr L prog 166 [] [.ab 3 ai l] (.ac (qu l)) [] (wt l<=1048576):=by refine Ctr.bd func166 ntmps166 λhp=>?_;refine vU1 ?_;rw[<- Jd];rfl
theorem zy:∀(n:Nat) (l:List ah) (ps:List Str),Ctr lim prog 186 [] [.ab 3 ai l,.al ps] (.ac (jJ ps l)) [] (wt l<n/\n<=1048577)
 | 0,l,ps=>⟨(aU 186),λh=>absurd h.1 (Nat.not_lt_zero _)⟩
 | n+1,l,ps=>by
  have ih:=zy n;refine Ctr.bd func186 ntmps186 λhp=>?_;have hl:l.length<=wt l:=by unfold wt;omega
  refine vU1 ?_;refine AW.aw [13] [0,1,11,12] (λm xs o=>∃k:Nat,xs=[.aa k]/\o=[]/\m=l.length - k/\k<=l.length/\jJ ps (l.drop k)=jJ ps l) l.length [] trivial ⟨0,?_,rfl,rfl,?_,rfl⟩ ?_
  ·rfl
  ·omega
  rintro m xs o ⟨k,rfl,rfl,rfl,hk,hR⟩;have h1:k<l.length->_:=lW (l:=l) (k:=k);refine vK1 ?_;refine AW.c (λh=>?_) λh=>?_
  ·(refine vK1 ?_;intro h)
   refine AW.c (λh=>?_) λh=>?_
   ·rw[<- hR,qE ps (l:=l) (k:=k) baa];rcases h with h|h
    ·refine vU1 ?_;simp[h]
    ·refine vU1 ?_;simp[h]
   ·have hn:=rG (cont ps) (nmL (tk (at_ l k).aq))
    have hnl:=J7 (at_ l k).aq;refine AW.imp (Imp.frz 7 ?_);simp(maxSteps:=2000000) (disch:=omega)only[go_sem,bL];refine vU1 ?_;refine AW.aw [34] [0,1,11,12,13,32,33] (λm xs o=>∃j:Nat,xs=[.aa j]/\o=[]/\m=(nmL (tk (at_ l k).aq)).length - j/\j<=(nmL (tk (at_ l k).aq)).length/\cz (λj=>cont ps (at_ (nmL (tk (at_ l k).aq)) j)) j=true) _ [] trivial ⟨0,?_,rfl,rfl,?_,rfl⟩ ?_
    ·rfl
    ·omega
    rintro m xs o ⟨j,rfl,rfl,rfl,hj,hQ⟩
    (refine vU3 ?_ ?_ ?_<;>with_reducible repeat intro h)
    ·rw[<- hR,qE ps (l:=l) (k:=k) baa,<- hn,cV baa h];simp
    ·exact⟨_,[_],[],Yt,⟨j+1,rfl,rfl,rfl,Yt,cy hQ h⟩,rfl,trivial⟩
    ·rw[show j=(nmL (tk (at_ l k).aq)).length by omega]at hQ;rename_i h8 h9;refine⟨_,[_],[],Yt,⟨k+1,rfl,rfl,rfl,Yt,?_⟩,rfl,trivial⟩;rw[<- hR,qE ps (l:=l) (k:=k) baa,<- hn,hQ,h9.1,h9.2];rfl
  ·refine vU1 ?_;rw[<- hR,dn h,jJ]
theorem EG:∀(n:Nat) (l:List ah) (nm:Str) (ps:List bR) (bd:List ah),Ctr lim prog 167 [] [.agg [.str nm,.ab 6 bB ps,.ab 3 ai bd],.ab 3 ai l] (.ac (jJ (ps.map bR.ae) l)) [] (wt l<n/\n<=1048577)
 | 0,l,nm,ps,bd=>⟨(aU 167),λh=>absurd h.1 (Nat.not_lt_zero _)⟩
 | n+1,l,nm,ps,bd=>by
  have ih:=EG n;refine Ctr.bd func167 ntmps167 λhp=>?_;have hl:l.length<=wt l:=by unfold wt;omega
  refine vU1 ?_;refine AW.aw [5] [0,1,2] (λm xs o=>∃k:Nat,xs=[.aa k]/\o=[]/\m=l.length - k/\k<=l.length/\jJ (ps.map bR.ae) (l.drop k)=jJ (ps.map bR.ae) l) l.length [] trivial ⟨0,?_,rfl,rfl,?_,rfl⟩ ?_
  ·rfl
  ·omega
  rintro m xs o ⟨k,rfl,rfl,rfl,hk,hR⟩;have h1:k<l.length->_:=lW (l:=l) (k:=k);refine vK1 ?_;refine AW.c (λh=>?_) λh=>?_
  ·refine vK1 ?_;have hn:=rG (cont (ps.map bR.ae)) (nmL (tk (at_ l k).aq))
   have hnl:=J7 (at_ l k).aq;refine AW.imp (Imp.frz 6 ?_);simp(maxSteps:=2000000) (disch:=omega)only[go_sem,bL];refine AW.aw [7,8] [0,1,2,5,6] (λm xs o=>∃j:Nat,xs=[.ac ((tk (at_ l k).aq).2 && cz (λj=>cont (ps.map bR.ae) (at_ (nmL (tk (at_ l k).aq)) j)) j),.aa j]/\o=[]/\m=(nmL (tk (at_ l k).aq)).length - j/\j<=(nmL (tk (at_ l k).aq)).length) _ [] trivial ⟨0,?_,rfl,rfl,?_⟩ ?_
   ·simp only[cz,Bool.and_true];rfl
   ·omega
   rintro m xs o ⟨j,rfl,rfl,rfl,hj⟩
   (refine vU3 ?_ ?_ ?_<;>with_reducible repeat intro h)
   ·exact⟨_,[_,_],[],Yt,⟨j+1,by rw[PV,Bool.and_assoc];rfl,rfl,rfl,Yt⟩,rfl,trivial⟩
   ·rw[<- hR,qE _ (l:=l) (k:=k) baa,<- hn];rw[show j=(nmL (tk (at_ l k).aq)).length by omega]at h;rcases h with h|h
    ·cases e:(tk (at_ l k).aq).2 with
     | false=>rfl
     | true=>rw[h e];rfl
    ·rw[h,Bool.and_false];rfl
   ·rw[show j=(nmL (tk (at_ l k).aq)).length by omega]at h;refine⟨_,[_],[],Yt,⟨k+1,rfl,rfl,rfl,Yt,?_⟩,rfl,trivial⟩;rw[<- hR,qE _ (l:=l) (k:=k) baa,<- hn,h.1.1,h.1.2,h.2];rfl
  ·refine vU1 ?_;rw[<- hR,dn h,jJ]
instance(l:List ah)(ps:List Str):Ctr lim prog 186 [] [.ab 3 ai l,.al ps] (.ac (jJ ps l)) [] (wt l<=1048576):=⟨(aU 186),λh=>(zy 1048577 l ps).out ⟨Yt,Yt⟩⟩
instance(l:List ah)(nm:Str)(ps:List bR)(bd:List ah):Ctr lim prog 167 [] [.agg [.str nm,.ab 6 bB ps,.ab 3 ai bd],.ab 3 ai l] (.ac (jJ (ps.map bR.ae) l)) [] (wt l<=1048576):=⟨(aU 167),λh=>(EG 1048577 l nm ps bd).out ⟨Yt,Yt⟩⟩
section
variable (ip : Str -> Bool)
variable [hs : ∀s, Ctr lim prog 225 [] [.str s] (.v (.bool (ip s))) [] True] [hi : ∀s, Ctr lim prog 241 [] [.str s] (.v (.bool (ip s))) [] True]
omit hs in
include hi in
theorem Ov(x:dB):Ctr lim prog 184 [] [.agg [.aa x.aj,.ab 2 aW x.az,.al x.aB,.str x.aZ,.str x.aG]] (.ac (isType ip x)) [] True:=by
 refine Ctr.bd func184 ntmps184 λhp=>?_;refine AW.f0 0 λhf=>?_
 (refine vU6 ?_ ?_ ?_ ?_ ?_ ?_<;>with_reducible repeat intro h)
 ·rw[<- N9 h]
 ·rw[<- N8 baa h]
 ·rw[<- N7 baa h];rfl
 ·rw[<- N0 baa h]
 ·rw[<- NZ baa h]
 ·rw[<- NY baa baa baa baa h]
omit hi in
include hs in
theorem MY(x:dB):Ctr lim prog 165 [] [.agg [.aa x.aj,.ab 2 aW x.az,.al x.aB,.str x.aZ,.str x.aG]] (.ac (isType ip x)) [] True:=by
 refine Ctr.bd func165 ntmps165 λhp=>?_;refine AW.f0 0 λhf=>?_;refine vU1 ?_;refine AW.aw [3] [0,1] (λm xs o=>∃k:Nat,xs=[.aa k]/\o=[]/\m=x.aB.length - k/\k<=x.aB.length/\cz (λj=>isName (at_ x.aB j)) k=true/\cz (λj=>!cont (x.aB.take j) (at_ x.aB j)) k=true) x.aB.length [] trivial ⟨0,?_,rfl,rfl,?_,rfl,rfl⟩ ?_
 ·rfl
 ·omega
 rintro m xs o ⟨k,rfl,rfl,rfl,hk,hR,hQ⟩;refine vK1 ?_;refine AW.c (λh=>?_) λh=>?_
 ·refine vK1 ?_;refine AW.aw [4] [0,1,3] (λm xs o=>∃j:Nat,xs=[.aa j]/\o=[]/\m=k - j/\j<=k/\∀y∈(x.aB.take k).take j,(y == at_ x.aB k)=false) k [] trivial ⟨0,?_,rfl,rfl,?_,?_⟩ ?_
  ·rfl
  ·omega
  ·simp
  rintro m xs o ⟨j,rfl,rfl,rfl,hj,hS⟩
  (refine vU4 ?_ ?_ ?_ ?_<;>with_reducible repeat intro h)
  ·rw[<- Cw baa (.inr (cV baa (by rw[wI baa baa h];rfl)))]
  ·exact⟨_,[_],[],Yt,⟨j+1,rfl,rfl,rfl,Yt,bV (by rw[length_take];omega) hS (by rw[Eb baa];simpa using h)⟩,rfl,trivial⟩
  ·rw[<- Cw baa (.inl (cV baa h))]
  ·rw[show j=k by omega,take_take,Nat.min_self]at hS;exact⟨_,[_],[],Yt,⟨k+1,rfl,rfl,rfl,Yt,cy hR h,cy hQ (by rw[tT hS];rfl)⟩,rfl,trivial⟩
 ·rw[show k=x.aB.length by omega]at hR hQ
  (refine vU ?_;with_reducible repeat' first|exact Le.l|apply Sw|intro h)
  ·rw[<- Oe h]
  ·rw[<- Od h];rfl
  ·rw[<- Oc h hR hQ]
  ·rw[<- Ob h]
  ·rw[<- EK baa baa baa baa (.inl h)]
  ·rw[<- EK baa baa baa baa (.inr h)]
  ·rw[<- Oa baa baa baa baa baa baa]
end
section
section
variable (ip : Str -> Bool)
variable [hs : ∀x : dB, Ctr lim prog 165 [] [.agg [.v (.int .i64 x.aj), .sl false 2 (x.az.map (aW false)), .sl false 1 (x.aB.map AV.str), .str x.aZ, .str x.aG]] (.v (.bool (isType ip x))) [] True]
variable [hi : ∀x : dB, Ctr lim prog 184 [] [.agg [.v (.int .i64 x.aj), .sl false 2 (x.az.map (aW false)), .sl false 1 (x.aB.map AV.str), .str x.aZ, .str x.aG]] (.v (.bool (isType ip x))) [] True]
omit hs in
include hi in
theorem Fp(x:aE):Ctr lim prog 123 [] [.agg [.str x.ae,.ab 6 bB x.aI,.ab 3 ai x.dq]] (.ac (dF ip x)) [] (wt x.dq<=1048576/\x.aI.length<=1048576):=by
 refine Ctr.bd func123 ntmps123 λhp=>?_;refine AW.f0 0 λhf=>?_;refine vU1 ?_;refine AW.aw [3,10] [0,1,8,9] (λm xs o=>∃k:Nat,xs=[.am ((x.aI.take k).map bR.ae),.aa k]/\o=[]/\m=x.aI.length - k/\k<=x.aI.length/\cz (tv ip x.aI) k=true) x.aI.length [] trivial ⟨0,?_,rfl,rfl,?_,rfl⟩ ?_
 ·rfl
 ·omega
 rintro m xs o ⟨k,rfl,rfl,rfl,hk,hR⟩;have hlt:(x.aI.take k).length=k:=by rw[length_take];omega
 refine vK1 ?_;refine AW.c (λh=>?_) λh=>?_
 ·(refine vU2 ?_ ?_<;>with_reducible repeat intro h)
  ·rw[wY baa (by rcases h with h|h<;>simp[tv,h])]
  ·refine⟨_,[_,_],[],Yt,⟨k+1,rfl,rfl,rfl,Yt,cy hR (by simp[tv,h])⟩,?_,trivial⟩
   have e:x.aI.take (k+1)=x.aI.take k++[at_ x.aI k]:=by
    rw[take_succ_eq_append_getElem baa];unfold at_;rw[getElem?_eq_getElem baa];rfl
   rw[e,map_append,map_append];rfl
 ·refine AW.imp (Imp.frz 3 ?_);simp(maxSteps:=2000000) (disch:=omega)only[go_sem,bL];refine vU1 ?_;rw[show k=x.aI.length by omega]at hR hlt ⊢;rw[hlt,take_length];refine congrArg (λz=>AV.ac z) ?_;rw[dF,hR,Bool.true_and,show decide ((x.aI.length:Int)<=6)=decide (x.aI.length<=6)from decide_eq_decide.2 Yt];cases cE (x.aI.map bR.ae)<;>simp
omit hi in
include hs in
theorem E9(x:aE):Ctr lim prog 108 [] [.agg [.str x.ae,.ab 6 bB x.aI,.ab 3 ai x.dq]] (.ac (dF ip x)) [] (wt x.dq<=1048576/\x.aI.length<=1048576):=by
 refine Ctr.bd func108 ntmps108 λhp=>?_;refine AW.f0 0 λhf=>?_;refine vU1 ?_;refine AW.aw [3] [0,1] (λm xs o=>∃k:Nat,xs=[.aa k]/\o=[]/\m=x.aI.length - k/\k<=x.aI.length/\cz (tv ip x.aI) k=true/\cz (λj=>!cont ((x.aI.map bR.ae).take j) (at_ (x.aI.map bR.ae) j)) k=true) x.aI.length [] trivial ⟨0,?_,rfl,rfl,?_,rfl,rfl⟩ ?_
 ·rfl
 ·omega
 rintro m xs o ⟨k,rfl,rfl,rfl,hk,hR,hQ⟩
 (refine vU3 ?_ ?_ ?_<;>with_reducible repeat intro h)
 ·rename_i h9;rcases h with h|h
  ·rw[wY h9 (by rcases h with h|h<;>simp[tv,h])]
  ·rw[DH h9 (by
    cases e:cont ((x.aI.map bR.ae).take k) (at_ (x.aI.map bR.ae) k)with
    | true=>rfl
    | false=>exact absurd ((Eo h9).2 e) h)]
 ·exact⟨_,[_],[],Yt,⟨k+1,rfl,rfl,rfl,Yt,cy hR (by simp[tv,h]),cy hQ (by rw[(Eo baa).1 h.2];rfl)⟩,rfl,trivial⟩
 ·rw[show k=x.aI.length by omega]at hR hQ;refine congrArg (λz=>AV.ac z) ?_;have hd:cE (x.aI.map bR.ae)=true:=by unfold cE;rw[length_map];exact hQ
  rw[dF,hR,hd,Bool.true_and,Bool.true_and,show decide ((x.aI.length:Int)<=6)=decide (x.aI.length<=6)from decide_eq_decide.2 Yt]
