/- Part of a proof. -/
import Derived.Test.YtbiikafnjialjaaGreatDoorS8
set_option linter.all false
set_option maxRecDepth 20000
set_option maxHeartbeats 4000000
open Go.Proofs.Tryz
open List
namespace Go.Dt
open Go.Ab
def wtg:List ah->Nat
 | []=>0
 | .mk n v ks::xs=>(n.length+v.length+ks.length+wtg ks)+wtg xs
def wt(l:List ah):Nat:=l.length+wtg l
def kc:List ah->Nat
 | []=>0
 | .mk _ _ ks::xs=>(ks.length+kc ks)+kc xs
def cnt(l:List ah):Nat:=l.length+kc l
def dep:List ah->Nat
 | []=>0
 | .mk _ _ ks::xs=>max (1+dep ks) (dep xs)
def mO(x:ah):Bool:=isName x.ae && isText x.aq && (x.aq == [] || x.af.length == 0)
def frm:List ah->Bool
 | []=>true
 | .mk n v ks::xs=>(mO (.mk n v ks) && frm ks) && frm xs
def lfr:List ah->Nat->Bool
 | [],_=>true
 | .mk n v ks::xs,d=>(mO (.mk n v ks) && (lfr ks (d+1) && (ks.length == 0 || decide (d+1<=10)))) && lfr xs d
def fN:List ah->Int->Int
 | [],q=>q
 | .mk _ _ ks::xs,q=>if q<0 then q else fN xs (fN ks (q - ks.length))
def jt(ps:List Str):List ah->Bool
 | []=>true
 | .mk _ v ks::xs=>(((tk v).2 && (nmL (tk v)).all (cont ps)) && jt ps ks) && jt ps xs
section
variable {l : List ah} {k : Nat}
def Uo(h:k<l.length):wtg (l.drop k)=((at_ l k).ae.length+(at_ l k).aq.length+(at_ l k).af.length+wtg (at_ l k).af)+wtg (l.drop (k+1)):=by rw[bA h];cases at_ l k;rw[wtg];rfl
def Q8(h:k<l.length):kc (l.drop k)=((at_ l k).af.length+kc (at_ l k).af)+kc (l.drop (k+1)):=by rw[bA h];cases at_ l k;rw[kc];rfl
def WB(h:k<l.length):dep (l.drop k)=max (1+dep (at_ l k).af) (dep (l.drop (k+1))):=by rw[bA h];cases at_ l k;rw[dep];rfl
def NF(h:k<l.length):frm (l.drop k)=((mO (at_ l k) && frm (at_ l k).af) && frm (l.drop (k+1))):=by rw[bA h];cases at_ l k;rw[frm];rfl
def MT(h:k<l.length)(d:Nat):lfr (l.drop k) d=((mO (at_ l k) && (lfr (at_ l k).af (d+1) && ((at_ l k).af.length == 0 || decide (d+1<=10)))) && lfr (l.drop (k+1)) d):=by rw[bA h];cases at_ l k;rw[lfr];rfl
def Jm(h:k<l.length)(q:Int):fN (l.drop k) q=if q<0 then q else fN (l.drop (k+1)) (fN (at_ l k).af (q - (at_ l k).af.length)):=by rw[bA h];cases at_ l k;rw[fN];rfl
def qg(ps:List Str)(h:k<l.length):jt ps (l.drop k)=((((tk (at_ l k).aq).2 && (nmL (tk (at_ l k).aq)).all (cont ps)) && jt ps (at_ l k).af) && jt ps (l.drop (k+1))):=by rw[bA h];cases at_ l k;rw[jt];rfl
def lM(h:k<l.length):wt (at_ l k).af<wt l/\(at_ l k).ae.length<=wt l/\(at_ l k).aq.length<=wt l:=by
 have h1:=Uo h
 have h2:∀j (l:List ah),wtg (l.drop j)<=wtg l:=by
  intro j
  induction j with
  | zero=>intro l;simp
  | succ j ih =>
   intro l
   cases l with
   | nil=>simp
   | cons x xs=>cases x;simp only[drop_succ_cons,wtg];have:=ih xs;omega
 have h3:=h2 k l;unfold wt;omega
end
def DT{x:ah}(h:(isName x.ae=false\/isText x.aq=false)\/¬x.aq=[]/\0<(x.af.length:Int)):mO x=false:=by
 unfold mO;rcases h with(h|h)|h
 ·simp[h]
 ·simp[h]
 ·have:(x.af.length == 0)=false:=by simp only[beq_eq_false_iff_ne];omega
  simp[h.1,this]
def Bw{x:ah}(h:(isName x.ae=true/\isText x.aq=true)/\(¬x.aq=[]->(x.af.length:Int)<=0)):mO x=true:=by
 unfold mO;rw[h.1.1,h.1.2];by_cases e:x.aq=[]
 ·simp[e]
 ·have:=h.2 e
  have:(x.af.length == 0)=true:=by simp only[beq_iff_eq];omega
  simp[this]
def uA{α β:Type}(f:α->β)(p:β->Bool):∀l:List α,idx (λx=>p (f x)) l=idx p (l.map f)
 | []=>rfl
 | x::xs=>by simp only[map_cons,idx,uA f p xs]
def O2(ps:List bH)(n:Str):decide (0<=jN ps n)=cont (ps.map bH.ae) n:=by rw[jN,uA bH.ae (λx=>x == n)];rfl
def w7:∀d:List Tok,(eJ d).length<=d.length
 | []=>by simp[eJ]
 | .inl _::d=>by have:=w7 d;simp only[eJ,length_cons];omega
 | .inr _::d=>by have:=w7 d;simp only[eJ,length_cons];omega
def Ji(s:Str):(nmL (tk s)).length<=s.length:=by
 have h1:=AL s
 have h2:=w7 (tk s).1;unfold nmL;cases (tk s).2
 ·simp
 ·simp only[cond_true];omega
def cT{α:Type}{l:List α}{k:Nat}(h:¬k<l.length):l.drop k=[]:=drop_eq_nil_of_le Um
def KI:∀l:List ah,kc l<=wtg l
 | []=>by simp[kc]
 | .mk n v ks::xs=>by have:=KI ks;have:=KI xs;simp only[kc,wtg];omega
def N7(l:List ah):cnt l<=wt l:=by have:=KI l;unfold cnt wt;omega
def Hv:∀l:List ah,dep l<=wt l
 | []=>by simp[dep]
 | .mk n v ks::xs=>by
  have h1:=Hv ks;have h2:=Hv xs;simp only[dep,wt,wtg,length_cons]at *;omega
def TK:∀l:List ah,dep l=0↔l.length=0
 | []=>by simp[dep]
 | .mk n v ks::xs=>by simp only[dep,length_cons];omega
def yo:∀(l:List ah) (q:Int),fN l q<=q
 | [],q=>by simp[fN]
 | .mk n v ks::xs,q=>by
  have h1:=yo ks (q - ks.length)
  have h2:=yo xs (fN ks (q - ks.length));simp only[fN];split<;>omega
def mb(l:List ah){q:Int}(h:q<0):fN l q=q:=by
 cases l with
 | nil=>rw[fN]
 | cons x xs=>cases x;simp only[fN];rw[if_pos h]
def qZ:∀(l:List ah) (q:Int),0<=q->(0<=fN l q↔(kc l:Int)<=q)/\((kc l:Int)<=q->fN l q=q - kc l)
 | [],q,h=>by simp only[fN,kc];omega
 | .mk n v ks::xs,q,h=>by
  simp only[fN,kc];rw[if_neg Um];rcases Int.lt_or_le (q - ks.length) 0 with h1|h1
  ·rw[mb ks h1,mb xs h1];constructor
   ·omega
   ·omega
  ·have h2:=qZ ks _ h1;rcases Int.lt_or_le (fN ks (q - ks.length)) 0 with h3|h3
   ·rw[mb xs h3];constructor
    ·omega
    ·omega
   ·have h4:=qZ xs _ h3
    have h5:=h2.2 (h2.1.1 h3);rw[h5]at h3 h4 ⊢;constructor
    ·omega
    ·omega
def CN:∀(l:List ah) (q:Int),-4611686018427387904<=q->(wt l:Int)<=1048576->-4611686018427387904<=fN l q
 | [],q,h,_=>by simpa[fN]using h
 | .mk n v ks::xs,q,h,hw=>by
  simp only[fN];split
  ·exact h
  ·have e:(wt (.mk n v ks::xs):Nat)=(n.length+v.length+wt ks)+1+wt xs:=by simp only[wt,wtg,length_cons];omega
   have e2:ks.length<=wt ks:=by unfold wt;omega
   exact CN xs _ (CN ks _ Um Um) Um
def Gk:∀(l:List ah) (d:Nat),1<=d->d<=10->lfr l d=(frm l && decide (d+dep l<=11))
 | [],d,_,h=>by simp[lfr,frm,dep];omega
 | .mk n v ks::xs,d,h0,h=>by
  have h2:=Gk xs d h0 h;simp only[lfr,frm,dep];rw[h2];by_cases h3:d+1<=10
  ·have h1:=Gk ks (d+1) Um h3;rw[h1];have e1:decide (d+1<=10)=true:=by simpa using h3
   rw[e1,Bool.or_true,Bool.and_true]
   have e2:decide (d+max (1+dep ks) (dep xs)<=11)=(decide (d+1+dep ks<=11) && decide (d+dep xs<=11)):=by
    rw[<- Bool.decide_and];exact decide_eq_decide.2 Um
   rw[e2];cases mO (.mk n v ks)<;>cases frm ks<;>cases frm xs<;>simp
  ·have e1:decide (d+1<=10)=false:=by simpa using h3
   rw[e1,Bool.or_false];have hd:=TK ks;by_cases h4:ks.length=0
   ·have h5:ks=[]:=List.length_eq_zero_iff.1 h4;subst h5;have e2:decide (d+max (1+dep []) (dep xs)<=11)=decide (d+dep xs<=11):=decide_eq_decide.2 (by simp only[dep];omega);rw[e2];simp[lfr,frm];cases mO (.mk n v [])<;>cases frm xs<;>simp
   ·have e3:(ks.length == 0)=false:=by simpa using h4
    have e4:decide (d+max (1+dep ks) (dep xs)<=11)=false:=by simp only[decide_eq_false_iff_not];omega
    rw[e3,e4];simp
def p7(l:List ah):Bool:=decide (cnt l<=120) && decide (dep l<=10) && frm l
def Ie(l:List ah):(decide (0<=fN l (120 - l.length)) && (lfr l 1 && (l.length == 0 || decide (1<=10))))=p7 l:=by
 rw[Gk l 1 Um Um]
 have e1:decide (0<=fN l (120 - l.length))=decide (cnt l<=120):=by
  apply decide_eq_decide.2;unfold cnt;rcases Int.lt_or_le (120 - (l.length:Int)) 0 with h|h
  ·rw[mb l h];omega
  ·have:=(qZ l _ h).1;omega
 have e2:decide (1+dep l<=11)=decide (dep l<=10):=decide_eq_decide.2 Um;rw[e1,e2];simp[p7];cases decide (cnt l<=120)<;>cases frm l<;>simp
def iA{a:Int}{k:Int->Int}(h:0<=thn a k):0<=a/\thn a k=k a:=by
 unfold thn at h ⊢;split at h
 ·omega
 ·rw[if_neg baa];exact⟨Um,rfl⟩
def zA:∀(l:List ah) (r:Int),0<=r->0<=lD l r->lD l r+wtg l=r
 | [],r,_,_=>by simp[lD,wtg]
 | .mk n v ks::xs,r,h0,h=>by
  rw[lD]at h ⊢
  have hx:∀q,0<=bF (.mk n v ks) q->0<=q->bF (.mk n v ks) q+(n.length+v.length+ks.length+wtg ks:Nat)=q:=by
   intro q hq h0;rw[bF]at hq ⊢;obtain⟨h1,e1⟩:=iA hq;rw[e1]at hq ⊢;obtain⟨h2,e2⟩:=iA hq;rw[e2]at hq ⊢;obtain⟨h3,e3⟩:=iA hq;rw[e3]at hq ⊢;simp only[id]at h3 ⊢;obtain⟨h4,e4⟩:=iA h3;rw[e4]at h3 ⊢;have:=zA ks _ h4 h3;unfold aC at *;omega
  obtain⟨h1,e1⟩:=iA h;rw[e1]at h ⊢;have h3:=hx r h1 h0
  have h2:=zA xs _ h1 h;rw[wtg];omega
def E1{l:List ah}{r:Int}(h0:0<=r)(h:0<=aJ bF l r):(wt l:Int)<=r:=by
 rcases Int.lt_or_le (r - l.length) 0 with h2|h2
 ·rw[gf h2]at h;omega
 ·rw[gF h2,<- tC]at h;have:=zA l _ h2 h;unfold wt;omega
def isType(ip:Str->Bool)(x:dq):Bool :=
 (decide (x.aj=1) && gZ x.ay && x.aB.isEmpty && x.aY.isEmpty && x.aF.isEmpty) ||
 (decide (x.aj=2) && gZ x.ay && (x.ay.isEmpty || decide (0<=(at_ x.ay 0).fLo)) && (x.aY.isEmpty || ip x.aY) && x.aB.isEmpty && x.aF.isEmpty) ||
 (decide (x.aj=4) && decide (1<=x.aB.length) && decide (x.aB.length<=6) && names x.aB && cm x.aB && x.ay.isEmpty && x.aY.isEmpty && x.aF.isEmpty) ||
 (decide (x.aj=5) && isText x.aF && !x.aF.isEmpty && x.ay.isEmpty && x.aB.isEmpty && x.aY.isEmpty) ||
 (decide (x.aj=3\/x.aj=6) && x.ay.isEmpty && x.aB.isEmpty && x.aY.isEmpty && x.aF.isEmpty)
section
variable {ip : Str -> Bool} {x : dq}
def xw(h:x.aj=1):isType ip x=(gZ x.ay && x.aB.isEmpty && x.aY.isEmpty && x.aF.isEmpty):=by simp[isType,h]
def xu(h:x.aj=2):isType ip x=(gZ x.ay && (x.ay.isEmpty || decide (0<=(at_ x.ay 0).fLo)) && (x.aY.isEmpty || ip x.aY) && x.aB.isEmpty && x.aF.isEmpty):=by simp[isType,h]
def sP(h:x.aj=4):isType ip x=(decide (1<=x.aB.length) && decide (x.aB.length<=6) && names x.aB && cm x.aB && x.ay.isEmpty && x.aY.isEmpty && x.aF.isEmpty):=by simp[isType,h]
def xq(h:x.aj=5):isType ip x=(isText x.aF && !x.aF.isEmpty && x.ay.isEmpty && x.aB.isEmpty && x.aY.isEmpty):=by simp[isType,h]
def sO(h1:¬x.aj=1)(h2:¬x.aj=2)(h4:¬x.aj=4)(h5:¬x.aj=5):isType ip x=(decide (x.aj=3\/x.aj=6) && x.ay.isEmpty && x.aB.isEmpty && x.aY.isEmpty && x.aF.isEmpty):=by simp[isType,h1,h2,h4,h5]
def Nf(h:(((¬x.aj=1/\¬x.aj=2)/\¬x.ay=[]\/¬x.aj=4/\¬x.aB=[])\/¬x.aj=2/\¬x.aY=[])\/¬x.aj=5/\¬x.aF=[]):isType ip x=false:=by
 by_cases h1:x.aj=1
 ·rw[xw h1];simp[h1]at h;rcases h with(h|h)|h<;>simp[h]
 by_cases h2:x.aj=2
 ·rw[xu h2];simp[h2]at h;rcases h with h|h<;>simp[h]
 by_cases h4:x.aj=4
 ·rw[sP h4];simp[h4]at h;rcases h with(h|h)|h<;>simp[h]
 by_cases h5:x.aj=5
 ·rw[xq h5];simp[h5]at h;rcases h with(h|h)|h<;>simp[h]
 ·rw[sO h1 h2 h4 h5];simp[h1,h2,h4,h5]at h;rcases h with((h|h)|h)|h<;>simp[h]
end
section
variable {ip : Str -> Bool} {x : dq}
def rL{α:Type}{l:List α}(h:(l.length:Int)<=0):l=[]:=List.length_eq_zero_iff.1 Um
def abq{α:Type}(l:List α):((l.length:Int) == 0)=l.isEmpty:=by cases l<;>simp<;>omega
def qw{α:Type}[BEq α](l:List α):(l == [])=l.isEmpty:=by cases l<;>rfl
def M8(h:(((¬x.aj=1/\¬x.aj=2)/\(0:Int)<x.ay.length\/¬x.aj=4/\(0:Int)<x.aB.length)\/¬x.aj=2/\¬x.aY=[])\/¬x.aj=5/\¬x.aF=[]):false=isType ip x:=by
 have e3:(0:Int)<x.ay.length↔¬x.ay=[]:=by rw[<- length_eq_zero_iff];omega
 have e4:(0:Int)<x.aB.length↔¬x.aB=[]:=by rw[<- length_eq_zero_iff];omega
 rw[e3,e4]at h;exact(Nf h).symm
section
variable (H : (((¬x.aj = 1 /\ ¬x.aj = 2 -> (x.ay.length : Int) <= 0) /\ (¬x.aj = 4 -> (x.aB.length : Int) <= 0)) /\ (¬x.aj = 2 -> x.aY = [])) /\ (¬x.aj = 5 -> x.aF = []))
include H
theorem M7(h:x.aj=1):gZ x.ay=isType ip x:=by rw[xw h,rL (H.1.1.2 Um),H.1.2 Um,H.2 Um];simp
theorem M6(h:x.aj=2):(gZ x.ay && ((x.ay.length:Int) == 0 || decide (0<=(at_ x.ay 0).fLo)) && (x.aY == [] || ip x.aY))=isType ip x:=by rw[xu h,rL (H.1.1.2 Um),H.2 Um,abq,qw];simp
theorem M5(h:x.aj=4):(decide ((1:Int)<=x.aB.length) && decide ((x.aB.length:Int)<=6) && names x.aB && cm x.aB)=isType ip x:=by rw[sP h,rL (H.1.1.1 Um),H.1.2 Um,H.2 Um];rw[show decide ((1:Int)<=x.aB.length)=decide (1<=x.aB.length)from decide_eq_decide.2 Um,show decide ((x.aB.length:Int)<=6)=decide (x.aB.length<=6)from decide_eq_decide.2 Um];simp
theorem M4(h:x.aj=5):(!x.aF == [] && isText x.aF)=isType ip x:=by rw[xq h,rL (H.1.1.1 Um),rL (H.1.1.2 Um),H.1.2 Um,qw];cases x.aF.isEmpty<;>simp
theorem M3(h1:¬x.aj=1)(h2:¬x.aj=2)(h4:¬x.aj=4)(h5:¬x.aj=5):(x.aj == 3 || x.aj == 6)=isType ip x:=by rw[sO h1 h2 h4 h5,rL (H.1.1.1 Um),rL (H.1.1.2 Um),H.1.2 Um,H.2 Um];by_cases h3:x.aj=3<;>by_cases h6:x.aj=6<;>simp[h3,h6]
end
end
def xx{α:Type}(l:List α):(!decide ((0:Int)<l.length))=l.isEmpty:=by
 cases l with
 | nil=>rfl
 | cons x xs=>simp
def Js(s:Str):∀l:List Str,0<=idx (λx=>x == s) l↔s∈l
 | []=>by simp[idx]
 | x::xs=>by
  have ih:=Js s xs
  have h0:=p8 (λx=>x == s) xs;by_cases e:x=s
  ·subst e;simp[idx]
  ·have e':(x == s)=false:=by simpa using e
   have e'':¬s=x:=λh=>e h.symm;simp only[idx,e',Bool.false_eq_true,if_false,mem_cons,e'',false_or,<- ih];split<;>omega
def iP(l:List Str)(s:Str):cont l s=true↔s∈l:=by unfold cont;rw[decide_eq_true_eq,Js]
theorem Dq{α:Type}[Inhabited α]{l:List α}{j k:Nat}(h:j<k):at_ (l.take k) j=at_ l j:=by unfold at_;rw[getElem?_take,if_pos h]
def vZ{l:List Str}{j k:Nat}(hj:j<k)(hk:k<l.length)(h:at_ l j=at_ l k):cont (l.take k) (at_ l k)=true:=by
 rw[iP,<- h];have:(l.take k)[j]? = some (at_ l j):=by rw[getElem?_take,if_pos hj];exact uL Um
 exact mem_of_getElem? this
def tf{l:List Str}{k:Nat}{s:Str}(h:∀y∈l.take k,(y == s)=false):cont (l.take k) s=false:=by rw[Bool.eq_false_iff];intro hc;have:=h s ((iP _ _).1 hc);simp at this
section
variable {ip : Str -> Bool} {x : dq}
def BI{k:Nat}(hk:k<x.aB.length)(h:names x.aB=false\/cm x.aB=false):false=isType ip x:=by
 have e:x.aB.isEmpty=false:=by cases hx:x.aB with|nil=>rw[hx]at hk;simp at hk|cons a b=>rfl
 unfold isType;rw[e];rcases h with h|h<;>simp[h]
def Nd(h:x.aj=1):(gZ x.ay && !decide ((0:Int)<x.aB.length) && x.aY == [] && x.aF == [])=isType ip x:=by rw[xw h,xx,qw,qw]
def Nc(h:x.aj=2):(gZ x.ay && (!decide ((0:Int)<x.ay.length) || decide (0<=(at_ x.ay 0).fLo)) && (x.aY == [] || ip x.aY) && !decide ((0:Int)<x.aB.length) && x.aF == [])=isType ip x:=by rw[xu h,xx,xx,qw,qw]
def Nb(h:x.aj=4)(h1:names x.aB=true)(h2:cm x.aB=true):(decide ((1:Int)<=x.aB.length) && decide ((x.aB.length:Int)<=6) && !decide ((0:Int)<x.ay.length) && x.aY == [] && x.aF == [])=isType ip x:=by rw[sP h,xx,qw,qw,h1,h2,Bool.and_true,Bool.and_true];rw[show decide ((1:Int)<=x.aB.length)=decide (1<=x.aB.length)from decide_eq_decide.2 Um,show decide ((x.aB.length:Int)<=6)=decide (x.aB.length<=6)from decide_eq_decide.2 Um]
def Na(h:x.aj=5):(isText x.aF && !x.aF == [] && !decide ((0:Int)<x.ay.length) && !decide ((0:Int)<x.aB.length) && x.aY == [])=isType ip x:=by rw[xq h,xx,xx,qw,qw]
def D3(h1:¬x.aj=1)(h2:¬x.aj=2)(h4:¬x.aj=4)(h5:¬x.aj=5)(h:x.aj=3\/x.aj=6):(!decide ((0:Int)<x.ay.length) && !decide ((0:Int)<x.aB.length) && x.aY == [] && x.aF == [])=isType ip x:=by rw[sO h1 h2 h4 h5,xx,xx,qw,qw,show decide (x.aj=3\/x.aj=6)=true by simpa using h,Bool.true_and]
def M9(h1:¬x.aj=1)(h2:¬x.aj=2)(h4:¬x.aj=4)(h5:¬x.aj=5)(h3:¬x.aj=3)(h6:¬x.aj=6):false=isType ip x:=by rw[sO h1 h2 h4 h5,show decide (x.aj=3\/x.aj=6)=false by simp[h3,h6]];rfl
end
def sH(ip:Str->Bool)(l:List bH)(j:Nat):Bool:=isName (at_ l j).ae && isType ip (at_ l j).fType
def dz(ip:Str->Bool)(x:aD):Bool:=cg (sH ip x.aG) x.aG.length && cm (x.aG.map bH.ae) && isName x.ae && decide (x.aG.length<=6) && p7 x.dh && jt (x.aG.map bH.ae) x.dh
theorem Cf{α β:Type}[Inhabited α][Inhabited β](f:α->β){l:List α}{k:Nat}(h:k<l.length):at_ (l.map f) k=f (at_ l k):=by unfold at_;rw[getElem?_map,getElem?_eq_getElem h];rfl
def DH{l:List bH}{k:Nat}(hk:k<l.length):jN l (at_ l k).ae=k↔cont ((l.map bH.ae).take k) (at_ (l.map bH.ae) k)=false:=by
 have hk':k<(l.map bH.ae).length:=by simpa using hk
 rw[Cf bH.ae hk,jN,uA bH.ae (λx=>x == (at_ l k).ae)];have yu:((at_ (l.map bH.ae) k) == (at_ l k).ae)=true:=by rw[Cf bH.ae hk];simp
 constructor
 ·intro h;rw[Bool.eq_false_iff];intro hc;have hm:=(iP _ _).1 hc;obtain⟨j,hj,e⟩:=getElem_of_mem hm;rw[length_take]at hj
  have e2:at_ (l.map bH.ae) j=(at_ l k).ae:=by
   unfold at_;rw[getElem_take]at e;rw[getElem?_eq_getElem Um,e];rfl
  have hle:∀(m:List Str) (j:Nat),j<m.length->at_ m j=(at_ l k).ae->idx (λx=>x == (at_ l k).ae) m<=j:=by
   intro m
   induction m with
   | nil=>intro j h;simp at h
   | cons y ys ih =>
    intro j hj he;simp only[idx];split
    ·omega
    ·cases j with
     | zero=>rename_i hn;simp[at_]at he;simp[he]at hn;simp[at_]at hn
     | succ j =>
      have:=ih j (by simpa using hj) (by simpa[at_]using he);split
      ·omega
      ·omega
  have:=hle _ j Um e2;omega
 ·intro h;refine gD hk' (λy hy=>?_) yu;rw[beq_eq_false_iff_ne];intro e;rw[e]at hy;rw[(iP _ _).2 hy]at h;cases h
def wC{ip:Str->Bool}{x:aD}{k:Nat}(hk:k<x.aG.length)(h:sH ip x.aG k=false):dz ip x=false:=by unfold dz;rw[cM hk h];rfl
def CV{ip:Str->Bool}{x:aD}{k:Nat}(hk:k<x.aG.length)(h:cont ((x.aG.map bH.ae).take k) (at_ (x.aG.map bH.ae) k)=true):dz ip x=false:=by unfold dz;rw[show cm (x.aG.map bH.ae)=false from cM (by simpa using hk) (by simp[h])];simp
end Go.Dt
namespace Go.Proofs
open Go.Ab Go.Dt
set_option maxHeartbeats 2000000
theorem xD(L:gaa)[hL:Lok L]:∀(n:Nat) (l:List ah),Ctr L prog 131 [] [.ab 3 ai l] (.aa (cnt l)) [] (wt l<n/\n<=1048577)
 | 0,l=>⟨(aT 131),λh=>absurd h.1 (Nat.not_lt_zero _)⟩
 | n+1,l=>by
  have ih:=xD L n;refine Ctr.bd func131 ntmps131 λhp=>?_;have hc:=N7 l
  have hl:l.length<=wt l:=by unfold wt;omega
  refine vU1 ?_;refine AW.aw [3,10] [0,8,9] (λm xs o=>∃k q:Nat,xs=[.aa q,.aa k]/\o=[]/\m=l.length - k/\k<=l.length/\q+kc (l.drop k)=cnt l) l.length [] trivial ⟨0,l.length,?_,rfl,rfl,?_,rfl⟩ ?_
  ·rfl
  ·omega
  rintro m xs o ⟨k,q,rfl,rfl,rfl,hk,hR⟩;have h1:k<l.length->_:=lM (l:=l) (k:=k)
  have h2:k<l.length->_:=Q8 (l:=l) (k:=k)
  have h3:cnt (at_ l k).af=(at_ l k).af.length+kc (at_ l k).af:=rfl
  (refine vU2 ?_ ?_<;>with_reducible repeat intro h)
  ·exact⟨_,[_,_],[],Um,⟨k+1,q+cnt (at_ l k).af,rfl,rfl,rfl,Um,Um⟩,rfl,trivial⟩
  ·rw[cT h,kc]at hR;rw[<- hR,Nat.add_zero]
theorem xp(L:gaa)[hL:Lok L]:∀(n:Nat) (l:List ah),Ctr L prog 242 [] [.ab 3 ai l] (.aa (dep l)) [] (wt l<n/\n<=1048577)
 | 0,l=>⟨(aT 242),λh=>absurd h.1 (Nat.not_lt_zero _)⟩
 | n+1,l=>by
  have ih:=xp L n;refine Ctr.bd func242 ntmps242 λhp=>?_;have hc:=Hv l
  have hl:l.length<=wt l:=by unfold wt;omega
  refine vU1 ?_;refine AW.aw [3,8] [0,6,7] (λm xs o=>∃k q:Nat,xs=[.aa q,.aa k]/\o=[]/\m=l.length - k/\k<=l.length/\max q (dep (l.drop k))=dep l) l.length [] trivial ⟨0,0,?_,rfl,rfl,?_,?_⟩ ?_
  ·rfl
  ·omega
  ·simp
  rintro m xs o ⟨k,q,rfl,rfl,rfl,hk,hR⟩;have h1:k<l.length->_:=lM (l:=l) (k:=k)
  have h2:k<l.length->_:=WB (l:=l) (k:=k)
  (refine vU2 ?_ ?_<;>with_reducible repeat intro h)
  ·refine⟨_,[_,_],[],Um,⟨k+1,max q (1+dep (at_ l k).af),?_,rfl,rfl,Um,Um⟩,rfl,trivial⟩;refine congrArg (λz=>[AV.aa z,_]) ?_;split<;>omega
  ·rw[cT h,dep]at hR;rw[<- hR,Nat.max_zero]
theorem D4(L:gaa)[hL:Lok L]:∀(n:Nat) (l:List ah),Ctr L prog 243 [] [.ab 3 ai l] (.ac (frm l)) [] (wt l<n/\n<=1048577)
 | 0,l=>⟨(aT 243),λh=>absurd h.1 (Nat.not_lt_zero _)⟩
 | n+1,l=>by
  have ih:=D4 L n;refine Ctr.bd func243 ntmps243 λhp=>?_;have hl:l.length<=wt l:=by unfold wt;omega
  refine vU1 ?_;refine AW.aw [7] [0,5,6] (λm xs o=>∃k:Nat,xs=[.aa k]/\o=[]/\m=l.length - k/\k<=l.length/\frm (l.drop k)=frm l) l.length [] trivial ⟨0,?_,rfl,rfl,?_,rfl⟩ ?_
  ·rfl
  ·omega
  rintro m xs o ⟨k,rfl,rfl,rfl,hk,hR⟩;have h1:k<l.length->_:=lM (l:=l) (k:=k)
  (refine vU3 ?_ ?_ ?_<;>with_reducible repeat intro h)
  ·rw[<- hR,NF (l:=l) (k:=k) baa];rcases h with h|h
   ·rw[DT h];rfl
   ·rw[h,Bool.and_false];rfl
  ·exact⟨_,[_],[],Um,⟨k+1,rfl,rfl,rfl,Um,by rw[<- hR,NF (l:=l) (k:=k) baa,Bw h.1,h.2];rfl⟩,rfl,trivial⟩
  ·rw[<- hR,cT h,frm]
theorem Bh(L:gaa)[hL:Lok L]:∀(n:Nat) (l:List ah) (d:Nat),Ctr L prog 226 [] [.ab 3 ai l,.aa d] (.ac (lfr l d && (l.length == 0 || decide (d<=10)))) [] (wt l<n/\n+d<=1048579)
 | 0,l,d=>⟨(aT 226),λh=>absurd h.1 (Nat.not_lt_zero _)⟩
 | n+1,l,d=>by
  have ih:=Bh L n;refine Ctr.bd func226 ntmps226 λhp=>?_;have hl:l.length<=wt l:=by unfold wt;omega
  refine vU1 ?_;refine AW.aw [5] [0,1] (λm xs o=>∃k:Nat,xs=[.aa k]/\o=[]/\m=l.length - k/\k<=l.length/\lfr (l.drop k) d=lfr l d) l.length [] trivial ⟨0,?_,rfl,rfl,?_,rfl⟩ ?_
  ·rfl
  ·omega
  rintro m xs o ⟨k,rfl,rfl,rfl,hk,hR⟩;have h1:k<l.length->_:=lM (l:=l) (k:=k)
  (refine vU3 ?_ ?_ ?_<;>with_reducible repeat intro h)
  ·rw[<- hR,MT (l:=l) (k:=k) baa];rcases h with h|h
   ·rw[DT h];rfl
   ·have:(lfr (at_ l k).af (d+1) && ((at_ l k).af.length == 0 || decide (d+1<=10)))=false:=by
     cases e:lfr (at_ l k).af (d+1)with
     | false=>rfl
     | true =>
      have h5:=h e
      have e1:((at_ l k).af.length == 0)=false:=by simpa using h5.1
      have e2:decide (d+1<=10)=false:=by simp only[decide_eq_false_iff_not];omega
      rw[e1,e2];rfl
    rw[this,Bool.and_false];rfl
  ·refine⟨_,[_],[],Um,⟨k+1,rfl,rfl,rfl,Um,?_⟩,rfl,trivial⟩;rw[<- hR,MT (l:=l) (k:=k) baa,Bw h.1,h.2.1];have:((at_ l k).af.length == 0 || decide (d+1<=10))=true:=by rw[Bool.or_eq_true,beq_iff_eq,decide_eq_true_eq];omega
   rw[this];rfl
  ·rw[<- hR,cT h,lfr,Bool.true_and];refine congrArg (λz=>AV.ac z) ?_
   congr 1
   ·exact Bool.eq_iff_iff.2 Xp
   ·exact decide_eq_decide.2 Um
theorem Bi(L:gaa)[hL:Lok L]:∀(n:Nat) (l:List ah) (r:Int),Ctr L prog 114 [] [.ab 3 ai l,.aa r] (.aa (fN l (r - l.length))) [] (wt l<n/\n<=1048577/\0<=r/\r<=1048576)
 | 0,l,r=>⟨(aT 114),λh=>absurd h.1 (Nat.not_lt_zero _)⟩
 | n+1,l,r=>by
  have ih:=Bi L n;refine Ctr.bd func114 ntmps114 λhp=>?_;have hl:l.length<=wt l:=by unfold wt;omega
  refine vU1 ?_;refine AW.aw [1,5] [0] (λm xs o=>∃(k:Nat) (q:Int),xs=[.aa q,.aa k]/\o=[]/\m=l.length - k/\k<=l.length/\-4611686018427387904<=q/\q<=1048576/\fN (l.drop k) q=fN l (r - l.length)) l.length [] trivial ⟨0,r - l.length,?_,rfl,rfl,?_,?_,?_,rfl⟩ ?_
  ·rfl
  ·omega
  ·omega
  ·omega
  rintro m xs o ⟨k,q,rfl,rfl,rfl,hk,h0,h1,hR⟩;have hw:k<l.length->_:=lM (l:=l) (k:=k)
  have h3:=yo (at_ l k).af (q - (at_ l k).af.length)
  (refine vU2 ?_ ?_<;>intro h)
  ·have h4:-4611686018427387904<=fN (at_ l k).af (q - (at_ l k).af.length):=CN _ _ (by have:=hw h.1;unfold wt at *;omega) (by have:=hw h.1;omega);refine⟨_,[_,_],[],Um,⟨k+1,_,rfl,rfl,rfl,Um,h4,Um,?_⟩,rfl,trivial⟩;rw[<- hR,Jm h.1,if_neg Um]
  ·rw[<- hR];by_cases e:k<l.length
   ·rw[mb _ (h e)]
   ·rw[cT e,fN]
instance(L:gaa)[hL:Lok L](l:List ah):Ctr L prog 131 [] [.ab 3 ai l] (.aa (cnt l)) [] (wt l<=1048576):=⟨(aT 131),λh=>(xD L 1048577 l).out ⟨Um,Um⟩⟩
instance(L:gaa)[hL:Lok L](l:List ah):Ctr L prog 242 [] [.ab 3 ai l] (.aa (dep l)) [] (wt l<=1048576):=⟨(aT 242),λh=>(xp L 1048577 l).out ⟨Um,Um⟩⟩
instance(L:gaa)[hL:Lok L](l:List ah):Ctr L prog 243 [] [.ab 3 ai l] (.ac (frm l)) [] (wt l<=1048576):=⟨(aT 243),λh=>(D4 L 1048577 l).out ⟨Um,Um⟩⟩
instance(L:gaa)[hL:Lok L](l:List ah):Ctr L prog 226 [] [.ab 3 ai l,.aa 1] (.ac (lfr l 1 && (l.length == 0 || decide (1<=10)))) [] (wt l<=1048576):=⟨(aT 226),λh=>(Bh L 1048577 l 1).out ⟨Um,Um⟩⟩
instance(L:gaa)[hL:Lok L](l:List ah)(r:Int):Ctr L prog 114 [] [.ab 3 ai l,.aa r] (.aa (fN l (r - l.length))) [] (wt l<=1048576/\0<=r/\r<=1048576):=⟨(aT 114),λh=>(Bi L 1048577 l r).out ⟨Um,Um,h.2⟩⟩
instance(L:gaa)[hL:Lok L](l:List ah):Ctr L prog 185 [] [.ab 3 ai l] (.ac (p7 l)) [] (wt l<=1048576):=by refine Ctr.bd func185 ntmps185 λhp=>?_;refine vU1 ?_;rw[p7];refine congrArg (λz=>AV.ac z) ?_;rw[show decide ((cnt l:Int)<=120)=decide (cnt l<=120)from decide_eq_decide.2 Um,show decide ((dep l:Int)<=10)=decide (dep l<=10)from decide_eq_decide.2 Um]
instance(L:gaa)[hL:Lok L](l:List ah):Ctr L prog 166 [] [.ab 3 ai l] (.ac (p7 l)) [] (wt l<=1048576):=by refine Ctr.bd func166 ntmps166 λhp=>?_;refine vU1 ?_;rw[<- Ie];rfl
theorem y4:∀(n:Nat) (l:List ah) (ps:List Str),Ctr lim prog 186 [] [.ab 3 ai l,.al ps] (.ac (jt ps l)) [] (wt l<n/\n<=1048577)
 | 0,l,ps=>⟨(aT 186),λh=>absurd h.1 (Nat.not_lt_zero _)⟩
 | n+1,l,ps=>by
  have ih:=y4 n;refine Ctr.bd func186 ntmps186 λhp=>?_;have hl:l.length<=wt l:=by unfold wt;omega
  refine vU1 ?_;refine AW.aw [13] [0,1,11,12] (λm xs o=>∃k:Nat,xs=[.aa k]/\o=[]/\m=l.length - k/\k<=l.length/\jt ps (l.drop k)=jt ps l) l.length [] trivial ⟨0,?_,rfl,rfl,?_,rfl⟩ ?_
  ·rfl
  ·omega
  rintro m xs o ⟨k,rfl,rfl,rfl,hk,hR⟩;have h1:k<l.length->_:=lM (l:=l) (k:=k);refine vK1 ?_;refine AW.c (λh=>?_) λh=>?_
  ·(refine vK1 ?_;intro h)
   refine AW.c (λh=>?_) λh=>?_
   ·rw[<- hR,qg ps (l:=l) (k:=k) baa];rcases h with h|h
    ·refine vU1 ?_;simp[h]
    ·refine vU1 ?_;simp[h]
   ·have hn:=qU (cont ps) (nmL (tk (at_ l k).aq))
    have hnl:=Ji (at_ l k).aq;refine AW.imp (Imp.frz 7 ?_);simp(maxSteps:=2000000) (disch:=omega)only[go_sem,bD];refine vU1 ?_;refine AW.aw [34] [0,1,11,12,13,32,33] (λm xs o=>∃j:Nat,xs=[.aa j]/\o=[]/\m=(nmL (tk (at_ l k).aq)).length - j/\j<=(nmL (tk (at_ l k).aq)).length/\cg (λj=>cont ps (at_ (nmL (tk (at_ l k).aq)) j)) j=true) _ [] trivial ⟨0,?_,rfl,rfl,?_,rfl⟩ ?_
    ·rfl
    ·omega
    rintro m xs o ⟨j,rfl,rfl,rfl,hj,hQ⟩
    (refine vU3 ?_ ?_ ?_<;>with_reducible repeat intro h)
    ·rw[<- hR,qg ps (l:=l) (k:=k) baa,<- hn,cM baa h];simp
    ·exact⟨_,[_],[],Um,⟨j+1,rfl,rfl,rfl,Um,cf hQ h⟩,rfl,trivial⟩
    ·rw[show j=(nmL (tk (at_ l k).aq)).length by omega]at hQ;rename_i h8 h9;refine⟨_,[_],[],Um,⟨k+1,rfl,rfl,rfl,Um,?_⟩,rfl,trivial⟩;rw[<- hR,qg ps (l:=l) (k:=k) baa,<- hn,hQ,h9.1,h9.2];rfl
  ·refine vU1 ?_;rw[<- hR,cT h,jt]
theorem DZ:∀(n:Nat) (l:List ah) (nm:Str) (ps:List bH) (bd:List ah),Ctr lim prog 167 [] [.agg [.str nm,.ab 6 bt ps,.ab 3 ai bd],.ab 3 ai l] (.ac (jt (ps.map bH.ae) l)) [] (wt l<n/\n<=1048577)
 | 0,l,nm,ps,bd=>⟨(aT 167),λh=>absurd h.1 (Nat.not_lt_zero _)⟩
 | n+1,l,nm,ps,bd=>by
  have ih:=DZ n;refine Ctr.bd func167 ntmps167 λhp=>?_;have hl:l.length<=wt l:=by unfold wt;omega
  refine vU1 ?_;refine AW.aw [5] [0,1,2] (λm xs o=>∃k:Nat,xs=[.aa k]/\o=[]/\m=l.length - k/\k<=l.length/\jt (ps.map bH.ae) (l.drop k)=jt (ps.map bH.ae) l) l.length [] trivial ⟨0,?_,rfl,rfl,?_,rfl⟩ ?_
  ·rfl
  ·omega
  rintro m xs o ⟨k,rfl,rfl,rfl,hk,hR⟩;have h1:k<l.length->_:=lM (l:=l) (k:=k);refine vK1 ?_;refine AW.c (λh=>?_) λh=>?_
  ·refine vK1 ?_;have hn:=qU (cont (ps.map bH.ae)) (nmL (tk (at_ l k).aq))
   have hnl:=Ji (at_ l k).aq;refine AW.imp (Imp.frz 6 ?_);simp(maxSteps:=2000000) (disch:=omega)only[go_sem,bD];refine AW.aw [7,8] [0,1,2,5,6] (λm xs o=>∃j:Nat,xs=[.ac ((tk (at_ l k).aq).2 && cg (λj=>cont (ps.map bH.ae) (at_ (nmL (tk (at_ l k).aq)) j)) j),.aa j]/\o=[]/\m=(nmL (tk (at_ l k).aq)).length - j/\j<=(nmL (tk (at_ l k).aq)).length) _ [] trivial ⟨0,?_,rfl,rfl,?_⟩ ?_
   ·simp only[cg,Bool.and_true];rfl
   ·omega
   rintro m xs o ⟨j,rfl,rfl,rfl,hj⟩
   (refine vU3 ?_ ?_ ?_<;>with_reducible repeat intro h)
   ·exact⟨_,[_,_],[],Um,⟨j+1,by rw[O2,Bool.and_assoc];rfl,rfl,rfl,Um⟩,rfl,trivial⟩
   ·rw[<- hR,qg _ (l:=l) (k:=k) baa,<- hn];rw[show j=(nmL (tk (at_ l k).aq)).length by omega]at h;rcases h with h|h
    ·cases e:(tk (at_ l k).aq).2 with
     | false=>rfl
     | true=>rw[h e];rfl
    ·rw[h,Bool.and_false];rfl
   ·rw[show j=(nmL (tk (at_ l k).aq)).length by omega]at h;refine⟨_,[_],[],Um,⟨k+1,rfl,rfl,rfl,Um,?_⟩,rfl,trivial⟩;rw[<- hR,qg _ (l:=l) (k:=k) baa,<- hn,h.1.1,h.1.2,h.2];rfl
  ·refine vU1 ?_;rw[<- hR,cT h,jt]
instance(l:List ah)(ps:List Str):Ctr lim prog 186 [] [.ab 3 ai l,.al ps] (.ac (jt ps l)) [] (wt l<=1048576):=⟨(aT 186),λh=>(y4 1048577 l ps).out ⟨Um,Um⟩⟩
instance(l:List ah)(nm:Str)(ps:List bH)(bd:List ah):Ctr lim prog 167 [] [.agg [.str nm,.ab 6 bt ps,.ab 3 ai bd],.ab 3 ai l] (.ac (jt (ps.map bH.ae) l)) [] (wt l<=1048576):=⟨(aT 167),λh=>(DZ 1048577 l nm ps bd).out ⟨Um,Um⟩⟩
open Go.Ab Go.Dt
section
variable (ip : Str -> Bool)
variable [hs : ∀s, Ctr lim prog 225 [] [.str s] (.v (.bool (ip s))) [] True] [hi : ∀s, Ctr lim prog 241 [] [.str s] (.v (.bool (ip s))) [] True]
omit hs in
include hi in
theorem Ns(x:dq):Ctr lim prog 184 [] [.agg [.aa x.aj,.ab 2 aU x.ay,.al x.aB,.str x.aY,.str x.aF]] (.ac (isType ip x)) [] True:=by
 refine Ctr.bd func184 ntmps184 λhp=>?_;refine AW.f0 0 λhf=>?_
 (refine vU6 ?_ ?_ ?_ ?_ ?_ ?_<;>with_reducible repeat intro h)
 ·rw[<- M8 h]
 ·rw[<- M7 baa h]
 ·rw[<- M6 baa h];rfl
 ·rw[<- M5 baa h]
 ·rw[<- M4 baa h]
 ·rw[<- M3 baa baa baa baa h]
omit hi in
include hs in
theorem L5(x:dq):Ctr lim prog 165 [] [.agg [.aa x.aj,.ab 2 aU x.ay,.al x.aB,.str x.aY,.str x.aF]] (.ac (isType ip x)) [] True:=by
 refine Ctr.bd func165 ntmps165 λhp=>?_;refine AW.f0 0 λhf=>?_;refine vU1 ?_;refine AW.aw [3] [0,1] (λm xs o=>∃k:Nat,xs=[.aa k]/\o=[]/\m=x.aB.length - k/\k<=x.aB.length/\cg (λj=>isName (at_ x.aB j)) k=true/\cg (λj=>!cont (x.aB.take j) (at_ x.aB j)) k=true) x.aB.length [] trivial ⟨0,?_,rfl,rfl,?_,rfl,rfl⟩ ?_
 ·rfl
 ·omega
 rintro m xs o ⟨k,rfl,rfl,rfl,hk,hR,hQ⟩;refine vK1 ?_;refine AW.c (λh=>?_) λh=>?_
 ·refine vK1 ?_;refine AW.aw [4] [0,1,3] (λm xs o=>∃j:Nat,xs=[.aa j]/\o=[]/\m=k - j/\j<=k/\∀y∈(x.aB.take k).take j,(y == at_ x.aB k)=false) k [] trivial ⟨0,?_,rfl,rfl,?_,?_⟩ ?_
  ·rfl
  ·omega
  ·simp
  rintro m xs o ⟨j,rfl,rfl,rfl,hj,hS⟩
  (refine vU4 ?_ ?_ ?_ ?_<;>with_reducible repeat intro h)
  ·rw[<- BI baa (.inr (cM baa (by rw[vZ baa baa h];rfl)))]
  ·exact⟨_,[_],[],Um,⟨j+1,rfl,rfl,rfl,Um,bL (by rw[length_take];omega) hS (by rw[Dq baa];simpa using h)⟩,rfl,trivial⟩
  ·rw[<- BI baa (.inl (cM baa h))]
  ·rw[show j=k by omega,take_take,Nat.min_self]at hS;exact⟨_,[_],[],Um,⟨k+1,rfl,rfl,rfl,Um,cf hR h,cf hQ (by rw[tf hS];rfl)⟩,rfl,trivial⟩
 ·rw[show k=x.aB.length by omega]at hR hQ
  (refine vU ?_;with_reducible repeat' first|exact Le.l|apply Sw|intro h)
  ·rw[<- Nd h]
  ·rw[<- Nc h];rfl
  ·rw[<- Nb h hR hQ]
  ·rw[<- Na h]
  ·rw[<- D3 baa baa baa baa (.inl h)]
  ·rw[<- D3 baa baa baa baa (.inr h)]
  ·rw[<- M9 baa baa baa baa baa baa]
end
section
section
variable (ip : Str -> Bool)
variable [hs : ∀x : dq, Ctr lim prog 165 [] [.agg [.v (.int .i64 x.aj), .sl false 2 (x.ay.map (aU false)), .sl false 1 (x.aB.map AV.str), .str x.aY, .str x.aF]] (.v (.bool (isType ip x))) [] True]
variable [hi : ∀x : dq, Ctr lim prog 184 [] [.agg [.v (.int .i64 x.aj), .sl false 2 (x.ay.map (aU false)), .sl false 1 (x.aB.map AV.str), .str x.aY, .str x.aF]] (.v (.bool (isType ip x))) [] True]
omit hs in
include hi in
theorem EA(x:aD):Ctr lim prog 123 [] [.agg [.str x.ae,.ab 6 bt x.aG,.ab 3 ai x.dh]] (.ac (dz ip x)) [] (wt x.dh<=1048576/\x.aG.length<=1048576):=by
 refine Ctr.bd func123 ntmps123 λhp=>?_;refine AW.f0 0 λhf=>?_;refine vU1 ?_;refine AW.aw [3,10] [0,1,8,9] (λm xs o=>∃k:Nat,xs=[.am ((x.aG.take k).map bH.ae),.aa k]/\o=[]/\m=x.aG.length - k/\k<=x.aG.length/\cg (sH ip x.aG) k=true) x.aG.length [] trivial ⟨0,?_,rfl,rfl,?_,rfl⟩ ?_
 ·rfl
 ·omega
 rintro m xs o ⟨k,rfl,rfl,rfl,hk,hR⟩;have hlt:(x.aG.take k).length=k:=by rw[length_take];omega
 refine vK1 ?_;refine AW.c (λh=>?_) λh=>?_
 ·(refine vU2 ?_ ?_<;>with_reducible repeat intro h)
  ·rw[wC baa (by rcases h with h|h<;>simp[sH,h])]
  ·refine⟨_,[_,_],[],Um,⟨k+1,rfl,rfl,rfl,Um,cf hR (by simp[sH,h])⟩,?_,trivial⟩
   have e:x.aG.take (k+1)=x.aG.take k++[at_ x.aG k]:=by
    rw[take_succ_eq_append_getElem baa];unfold at_;rw[getElem?_eq_getElem baa];rfl
   rw[e,map_append,map_append];rfl
 ·refine AW.imp (Imp.frz 3 ?_);simp(maxSteps:=2000000) (disch:=omega)only[go_sem,bD];refine vU1 ?_;rw[show k=x.aG.length by omega]at hR hlt ⊢;rw[hlt,take_length];refine congrArg (λz=>AV.ac z) ?_;rw[dz,hR,Bool.true_and,show decide ((x.aG.length:Int)<=6)=decide (x.aG.length<=6)from decide_eq_decide.2 Um];cases cm (x.aG.map bH.ae)<;>simp
omit hi in
include hs in
theorem Eo(x:aD):Ctr lim prog 108 [] [.agg [.str x.ae,.ab 6 bt x.aG,.ab 3 ai x.dh]] (.ac (dz ip x)) [] (wt x.dh<=1048576/\x.aG.length<=1048576):=by
 refine Ctr.bd func108 ntmps108 λhp=>?_;refine AW.f0 0 λhf=>?_;refine vU1 ?_;refine AW.aw [3] [0,1] (λm xs o=>∃k:Nat,xs=[.aa k]/\o=[]/\m=x.aG.length - k/\k<=x.aG.length/\cg (sH ip x.aG) k=true/\cg (λj=>!cont ((x.aG.map bH.ae).take j) (at_ (x.aG.map bH.ae) j)) k=true) x.aG.length [] trivial ⟨0,?_,rfl,rfl,?_,rfl,rfl⟩ ?_
 ·rfl
 ·omega
 rintro m xs o ⟨k,rfl,rfl,rfl,hk,hR,hQ⟩
 (refine vU3 ?_ ?_ ?_<;>with_reducible repeat intro h)
 ·rename_i h9;rcases h with h|h
  ·rw[wC h9 (by rcases h with h|h<;>simp[sH,h])]
  ·rw[CV h9 (by
    cases e:cont ((x.aG.map bH.ae).take k) (at_ (x.aG.map bH.ae) k)with
    | true=>rfl
    | false=>exact absurd ((DH h9).2 e) h)]
 ·exact⟨_,[_],[],Um,⟨k+1,rfl,rfl,rfl,Um,cf hR (by simp[sH,h]),cf hQ (by rw[(DH baa).1 h.2];rfl)⟩,rfl,trivial⟩
 ·rw[show k=x.aG.length by omega]at hR hQ;refine congrArg (λz=>AV.ac z) ?_;have hd:cm (x.aG.map bH.ae)=true:=by unfold cm;rw[length_map];exact hQ
  rw[dz,hR,hd,Bool.true_and,Bool.true_and,show decide ((x.aG.length:Int)<=6)=decide (x.aG.length<=6)from decide_eq_decide.2 Um]
