/- Part of a proof. -/
import Derived.Test.YtpelkkfkecfmbaaGreatDoorH7
set_option linter.all false
set_option maxRecDepth 20000
set_option maxHeartbeats 4000000
open Go.Proofs.Tryz
namespace Go.Dt
open Go.Ab
def wtg:List ah->Nat
 | []=>0
 | .mk n v ks::xs=>(n.length+v.length+ks.length+wtg ks)+wtg xs
def wt(l:List ah):Nat:=l.length+wtg l
def kc:List ah->Nat
 | []=>0
 | .mk _ _ ks::xs=>(ks.length+kc ks)+kc xs
def cnt(l:List ah):Nat:=l.length+kc l
def dep:List ah->Nat
 | []=>0
 | .mk _ _ ks::xs=>max (1+dep ks) (dep xs)
def MR(x:ah):Bool:=isName x.ag && isText x.ax && (x.ax == [] || x.af.length == 0)
def frm:List ah->Bool
 | []=>true
 | .mk n v ks::xs=>(MR (.mk n v ks) && frm ks) && frm xs
def lfr:List ah->Nat->Bool
 | [],_=>true
 | .mk n v ks::xs,d=>(MR (.mk n v ks) && (lfr ks (d+1) && (ks.length == 0 || decide (d+1<=10)))) && lfr xs d
def gP:List ah->Int->Int
 | [],q=>q
 | .mk _ _ ks::xs,q=>if q<0 then q else gP xs (gP ks (q - ks.length))
def HB(ps:List Str):List ah->Bool
 | []=>true
 | .mk _ v ks::xs=>(((tk v).2 && (nmL (tk v)).all (cont ps)) && HB ps ks) && HB ps xs
section
variable {l : List ah} {k : Nat}
def Un(h:k<l.length):wtg (l.drop k)=((at_ l k).ag.length+(at_ l k).ax.length+(at_ l k).af.length+wtg (at_ l k).af)+wtg (l.drop (k+1)):=by rw [bq h];cases at_ l k;rw [wtg];rfl
def Ye(h:k<l.length):kc (l.drop k)=((at_ l k).af.length+kc (at_ l k).af)+kc (l.drop (k+1)):=by rw [bq h];cases at_ l k;rw [kc];rfl
def SW(h:k<l.length)(q:Int):gP (l.drop k) q=if q<0 then q else gP (l.drop (k+1)) (gP (at_ l k).af (q - (at_ l k).af.length)):=by rw [bq h];cases at_ l k;rw [gP];rfl
def Ac(h:k<l.length):wt (at_ l k).af<wt l/\(at_ l k).ag.length<=wt l/\(at_ l k).ax.length<=wt l:=by
 have h1:=Un h
 have h2:∀ j (l:List ah),wtg (l.drop j)<=wtg l:=by
  intro j
  induction j with
  | zero=>intro l;simp
  | succ j ih =>
   intro l
   cases l with
   | nil=>simp
   | cons x xs=>cases x;simp only [List.drop_succ_cons,wtg];have:=ih xs;omega
 have h3:=h2 k l;unfold wt;omega
end
def Jx{α β:Type}(f:α->β)(p:β->Bool):∀ l:List α,idx (fun x=>p (f x)) l=idx p (l.map f)
 | []=>rfl
 | x::xs=>by simp only [List.map_cons,idx,Jx f p xs]
def fY{α:Type}{l:List α}{k:Nat}(h:¬ k<l.length):l.drop k=[]:=List.drop_eq_nil_of_le Ir
def KO:∀ l:List ah,kc l<=wtg l
 | []=>by simp [kc]
 | .mk n v ks::xs=>by have:=KO ks;have:=KO xs;simp only [kc,wtg];omega
def WD(l:List ah):cnt l<=wt l:=by have:=KO l;unfold cnt wt;omega
def Co:∀ (l:List ah) (q:Int),gP l q<=q
 | [],q=>by simp [gP]
 | .mk n v ks::xs,q=>by
  have h1:=Co ks (q - ks.length)
  have h2:=Co xs (gP ks (q - ks.length));simp only [gP];split<;>omega
def qI(l:List ah){q:Int}(h:q<0):gP l q=q:=by
 cases l with
 | nil=>rw [gP]
 | cons x xs=>cases x;simp only [gP];rw [if_pos h]
def Cq:∀ (l:List ah) (q:Int),0<=q->(0<=gP l q↔(kc l:Int)<=q)/\((kc l:Int)<=q->gP l q=q - kc l)
 | [],q,h=>by simp only [gP,kc];omega
 | .mk n v ks::xs,q,h=>by
  simp only [gP,kc];rw [if_neg Ir];rcases Int.lt_or_le (q - ks.length) 0 with h1|h1
  ·rw [qI ks h1,qI xs h1];constructor
   ·omega
   ·omega
  ·have h2:=Cq ks _ h1;rcases Int.lt_or_le (gP ks (q - ks.length)) 0 with h3|h3
   ·rw [qI xs h3];constructor
    ·omega
    ·omega
   ·have h4:=Cq xs _ h3
    have h5:=h2.2 (h2.1.1 h3);rw [h5] at h3 h4 ⊢;constructor
    ·omega
    ·omega
def Cp:∀ (l:List ah) (q:Int),-4611686018427387904<=q->(wt l:Int)<=1048576->-4611686018427387904<=gP l q
 | [],q,h,_=>by simpa [gP] using h
 | .mk n v ks::xs,q,h,hw=>by
  simp only [gP];split
  ·exact h
  ·have e:(wt (.mk n v ks::xs):Nat)=(n.length+v.length+wt ks)+1+wt xs:=by simp only [wt,wtg,List.length_cons];omega
   have e2:ks.length<=wt ks:=by unfold wt;omega
   exact Cp xs _ (Cp ks _ Ir Ir) Ir
def VM(l:List ah):Bool:=decide (cnt l<=120) && decide (dep l<=10) && frm l
def gb{a:Int}{k:Int->Int}(h:0<=thn a k):0<=a/\thn a k=k a:=by
 unfold thn at h ⊢;split at h
 ·omega
 ·rw [if_neg yG];exact ⟨Ir,rfl⟩
def yS:∀ (l:List ah) (r:Int),0<=r->0<=jD l r->jD l r+wtg l=r
 | [],r,_,_=>by simp [jD,wtg]
 | .mk n v ks::xs,r,h0,h=>by
  rw [jD] at h ⊢
  have hx:∀ q,0<=bz (.mk n v ks) q->0<=q->bz (.mk n v ks) q+(n.length+v.length+ks.length+wtg ks:Nat)=q:=by
   intro q hq h0;rw [bz] at hq ⊢;obtain ⟨h1,e1⟩:=gb hq;rw [e1] at hq ⊢;obtain ⟨h2,e2⟩:=gb hq;rw [e2] at hq ⊢;obtain ⟨h3,e3⟩:=gb hq;rw [e3] at hq ⊢;simp only [id] at h3 ⊢;obtain ⟨h4,e4⟩:=gb h3;rw [e4] at h3 ⊢;have:=yS ks _ h4 h3;unfold aI at *;omega
  obtain ⟨h1,e1⟩:=gb h;rw [e1] at h ⊢;have h3:=hx r h1 h0
  have h2:=yS xs _ h1 h;rw [wtg];omega
def sV{l:List ah}{r:Int}(h0:0<=r)(h:0<=aQ bz l r):(wt l:Int)<=r:=by
 rcases Int.lt_or_le (r - l.length) 0 with h2|h2
 ·rw [iy h2] at h;omega
 ·rw [iw h2,<- sC] at h;have:=yS l _ h2 h;unfold wt;omega
def isType(ip:Str->Bool)(x:cT):Bool :=
 (decide (x.aj=1) && fO x.aP && x.aF.isEmpty && x.ba.isEmpty && x.az.isEmpty) ||
 (decide (x.aj=2) && fO x.aP && (x.aP.isEmpty || decide (0<=(at_ x.aP 0).fLo)) && (x.ba.isEmpty || ip x.ba) && x.aF.isEmpty && x.az.isEmpty) ||
 (decide (x.aj=4) && decide (1<=x.aF.length) && decide (x.aF.length<=6) && names x.aF && bT x.aF && x.aP.isEmpty && x.ba.isEmpty && x.az.isEmpty) ||
 (decide (x.aj=5) && isText x.az && !x.az.isEmpty && x.aP.isEmpty && x.aF.isEmpty && x.ba.isEmpty) ||
 (decide (x.aj=3\/x.aj=6) && x.aP.isEmpty && x.aF.isEmpty && x.ba.isEmpty && x.az.isEmpty)
section
variable {ip : Str -> Bool} {x : cT}
def wH(h:x.aj=1):isType ip x=(fO x.aP && x.aF.isEmpty && x.ba.isEmpty && x.az.isEmpty):=by simp [isType,h]
def wG(h:x.aj=2):isType ip x=(fO x.aP && (x.aP.isEmpty || decide (0<=(at_ x.aP 0).fLo)) && (x.ba.isEmpty || ip x.ba) && x.aF.isEmpty && x.az.isEmpty):=by simp [isType,h]
def wF(h:x.aj=4):isType ip x=(decide (1<=x.aF.length) && decide (x.aF.length<=6) && names x.aF && bT x.aF && x.aP.isEmpty && x.ba.isEmpty && x.az.isEmpty):=by simp [isType,h]
def wE(h:x.aj=5):isType ip x=(isText x.az && !x.az.isEmpty && x.aP.isEmpty && x.aF.isEmpty && x.ba.isEmpty):=by simp [isType,h]
def rI(h1:¬ x.aj=1)(h2:¬ x.aj=2)(h4:¬ x.aj=4)(h5:¬ x.aj=5):isType ip x=(decide (x.aj=3\/x.aj=6) && x.aP.isEmpty && x.aF.isEmpty && x.ba.isEmpty && x.az.isEmpty):=by simp [isType,h1,h2,h4,h5]
def Np(h:(((¬x.aj=1/\¬x.aj=2)/\¬x.aP=[]\/¬x.aj=4/\¬x.aF=[])\/¬x.aj=2/\¬x.ba=[])\/¬x.aj=5/\¬x.az=[]):isType ip x=false:=by
 by_cases h1:x.aj=1
 ·rw [wH h1];simp [h1] at h;rcases h with (h|h)|h<;>simp [h]
 by_cases h2:x.aj=2
 ·rw [wG h2];simp [h2] at h;rcases h with h|h<;>simp [h]
 by_cases h4:x.aj=4
 ·rw [wF h4];simp [h4] at h;rcases h with (h|h)|h<;>simp [h]
 by_cases h5:x.aj=5
 ·rw [wE h5];simp [h5] at h;rcases h with (h|h)|h<;>simp [h]
 ·rw [rI h1 h2 h4 h5];simp [h1,h2,h4,h5] at h;rcases h with ((h|h)|h)|h<;>simp [h]
end
section
variable {ip : Str -> Bool} {x : cT}
def qG{α:Type}{l:List α}(h:(l.length:Int)<=0):l=[]:=List.length_eq_zero_iff.1 Ir
def aaV{α:Type}(l:List α):((l.length:Int) == 0)=l.isEmpty:=by cases l<;>simp<;>omega
def pI{α:Type}[BEq α](l:List α):(l == [])=l.isEmpty:=by cases l<;>rfl
def Nh(h:(((¬x.aj=1/\¬x.aj=2)/\(0:Int)<x.aP.length\/¬x.aj=4/\(0:Int)<x.aF.length)\/¬x.aj=2/\¬x.ba=[])\/¬x.aj=5/\¬x.az=[]):false=isType ip x:=by
 have e3:(0:Int)<x.aP.length↔¬ x.aP=[]:=by rw [<- List.length_eq_zero_iff];omega
 have e4:(0:Int)<x.aF.length↔¬ x.aF=[]:=by rw [<- List.length_eq_zero_iff];omega
 rw [e3,e4] at h;exact (Np h).symm
section
variable (H : (((¬x.aj = 1 /\ ¬x.aj = 2 -> (x.aP.length : Int) <= 0) /\ (¬x.aj = 4 -> (x.aF.length : Int) <= 0)) /\ (¬x.aj = 2 -> x.ba = [])) /\ (¬x.aj = 5 -> x.az = []))
include H
theorem Ng(h:x.aj=1):fO x.aP=isType ip x:=by rw [wH h,qG (H.1.1.2 Ir),H.1.2 Ir,H.2 Ir];simp
theorem Nf(h:x.aj=2):(fO x.aP && ((x.aP.length:Int) == 0 || decide (0<=(at_ x.aP 0).fLo)) && (x.ba == [] || ip x.ba))=isType ip x:=by rw [wG h,qG (H.1.1.2 Ir),H.2 Ir,aaV,pI];simp
theorem Nd(h:x.aj=4):(decide ((1:Int)<=x.aF.length) && decide ((x.aF.length:Int)<=6) && names x.aF && bT x.aF)=isType ip x:=by rw [wF h,qG (H.1.1.1 Ir),H.1.2 Ir,H.2 Ir];rw [show decide ((1:Int)<=x.aF.length)=decide (1<=x.aF.length) from decide_eq_decide.2 Ir,show decide ((x.aF.length:Int)<=6)=decide (x.aF.length<=6) from decide_eq_decide.2 Ir];simp
theorem Nc(h:x.aj=5):(!x.az == [] && isText x.az)=isType ip x:=by rw [wE h,qG (H.1.1.1 Ir),qG (H.1.1.2 Ir),H.1.2 Ir,pI];cases x.az.isEmpty<;>simp
theorem Nb(h1:¬ x.aj=1)(h2:¬ x.aj=2)(h4:¬ x.aj=4)(h5:¬ x.aj=5):(x.aj == 3 || x.aj == 6)=isType ip x:=by rw [rI h1 h2 h4 h5,qG (H.1.1.1 Ir),qG (H.1.1.2 Ir),H.1.2 Ir,H.2 Ir];by_cases h3:x.aj=3<;>by_cases h6:x.aj=6<;>simp [h3,h6]
end
end
def wI{α:Type}(l:List α):(!decide ((0:Int)<l.length))=l.isEmpty:=by
 cases l with
 | nil=>rfl
 | cons x xs=>simp
def Jw(s:Str):∀ l:List Str,0<=idx (fun x=>x == s) l↔s∈l
 | []=>by simp [idx]
 | x::xs=>by
  have ih:=Jw s xs
  have h0:=oY (fun x=>x == s) xs;by_cases e:x=s
  ·subst e;simp [idx]
  ·have e':(x == s)=false:=by simpa using e
   have e'':¬ s=x:=fun h=>e h.symm;simp only [idx,e',Bool.false_eq_true,if_false,List.mem_cons,e'',false_or,<- ih];split<;>omega
def oC(l:List Str)(s:Str):cont l s=true↔s∈l:=by unfold cont;rw [decide_eq_true_eq,Jw]
theorem C2{α:Type}[Inhabited α]{l:List α}{j k:Nat}(h:j<k):at_ (l.take k) j=at_ l j:=by unfold at_;rw [List.getElem?_take,if_pos h]
def vf{l:List Str}{j k:Nat}(hj:j<k)(hk:k<l.length)(h:at_ l j=at_ l k):cont (l.take k) (at_ l k)=true:=by
 rw [oC,<- h];have:(l.take k)[j]? = some (at_ l j):=by rw [List.getElem?_take,if_pos hj];exact tX Ir
 exact List.mem_of_getElem? this
def rU{l:List Str}{k:Nat}{s:Str}(h:∀ y∈l.take k,(y == s)=false):cont (l.take k) s=false:=by rw [Bool.eq_false_iff];intro hc;have:=h s ((oC _ _).1 hc);simp at this
section
variable {ip : Str -> Bool} {x : cT}
def Bn{k:Nat}(hk:k<x.aF.length)(h:names x.aF=false\/bT x.aF=false):false=isType ip x:=by
 have e:x.aF.isEmpty=false:=by cases hx:x.aF with|nil=>rw [hx] at hk;simp at hk|cons a b=>rfl
 unfold isType;rw [e];rcases h with h|h<;>simp [h]
def Nn(h:x.aj=1):(fO x.aP && !decide ((0:Int)<x.aF.length) && x.ba == [] && x.az == [])=isType ip x:=by rw [wH h,wI,pI,pI]
def Nl(h:x.aj=2):(fO x.aP && (!decide ((0:Int)<x.aP.length) || decide (0<=(at_ x.aP 0).fLo)) && (x.ba == [] || ip x.ba) && !decide ((0:Int)<x.aF.length) && x.az == [])=isType ip x:=by rw [wG h,wI,wI,pI,pI]
def Nk(h:x.aj=4)(h1:names x.aF=true)(h2:bT x.aF=true):(decide ((1:Int)<=x.aF.length) && decide ((x.aF.length:Int)<=6) && !decide ((0:Int)<x.aP.length) && x.ba == [] && x.az == [])=isType ip x:=by rw [wF h,wI,pI,pI,h1,h2,Bool.and_true,Bool.and_true];rw [show decide ((1:Int)<=x.aF.length)=decide (1<=x.aF.length) from decide_eq_decide.2 Ir,show decide ((x.aF.length:Int)<=6)=decide (x.aF.length<=6) from decide_eq_decide.2 Ir]
def Nj(h:x.aj=5):(isText x.az && !x.az == [] && !decide ((0:Int)<x.aP.length) && !decide ((0:Int)<x.aF.length) && x.ba == [])=isType ip x:=by rw [wE h,wI,wI,pI,pI]
def DF(h1:¬ x.aj=1)(h2:¬ x.aj=2)(h4:¬ x.aj=4)(h5:¬ x.aj=5)(h:x.aj=3\/x.aj=6):(!decide ((0:Int)<x.aP.length) && !decide ((0:Int)<x.aF.length) && x.ba == [] && x.az == [])=isType ip x:=by rw [rI h1 h2 h4 h5,wI,wI,pI,pI,show decide (x.aj=3\/x.aj=6)=true by simpa using h,Bool.true_and]
def Ni(h1:¬ x.aj=1)(h2:¬ x.aj=2)(h4:¬ x.aj=4)(h5:¬ x.aj=5)(h3:¬ x.aj=3)(h6:¬ x.aj=6):false=isType ip x:=by rw [rI h1 h2 h4 h5,show decide (x.aj=3\/x.aj=6)=false by simp [h3,h6]];rfl
end
def X1(ip:Str->Bool)(l:List jd)(j:Nat):Bool:=isName (at_ l j).ag && isType ip (at_ l j).fType
def KQ(ip:Str->Bool)(x:eS):Bool:=cS (X1 ip x.ma) x.ma.length && bT (x.ma.map jd.ag) && isName x.ag && decide (x.ma.length<=6) && VM x.xZ && HB (x.ma.map jd.ag) x.xZ
end Go.Dt
namespace Go.Proofs
open Go.Ab Go.Dt
set_option maxHeartbeats 2000000
section
theorem wL(L:eaa)[hL:Lok L]:∀ (n:Nat) (l:List ah),Ctr L prog 112 [] [.sl false 3 (l.map (ak false))] (.aa (cnt l)) [] (wt l<n/\n<=1048577)
 | 0,l=>⟨(aU 112),fun h=>absurd h.1 (Nat.not_lt_zero _)⟩
 | n+1,l=>by
  have ih:=wL L n;refine Ctr.bd func112 ntmps112 fun hp=>?_;have hc:=WD l
  have hl:l.length<=wt l:=by unfold wt;omega
  refine vU1 ?_;refine AW.aw [3,10] [0,8,9] (fun m xs o=>∃ k q:Nat,xs=[.aa q,.aa k]/\o=[]/\m=l.length - k/\k<=l.length/\q+kc (l.drop k)=cnt l) l.length [] trivial ⟨0,l.length,?_,rfl,rfl,?_,rfl⟩ ?_
  ·rfl
  ·omega
  rintro m xs o ⟨k,q,rfl,rfl,rfl,hk,hR⟩;have h1:k<l.length->_:=Ac (l:=l) (k:=k)
  have h2:k<l.length->_:=Ye (l:=l) (k:=k)
  have h3:cnt (at_ l k).af=(at_ l k).af.length+kc (at_ l k).af:=rfl
  (refine vU2 ?_ ?_<;>with_reducible repeat intro h)
  ·exact ⟨_,[_,_],[],Ir,⟨k+1,q+cnt (at_ l k).af,rfl,rfl,rfl,Ir,Ir⟩,rfl,trivial⟩
  ·rw [fY h,kc] at hR;rw [<- hR,Nat.add_zero]
theorem Av(L:eaa)[hL:Lok L]:∀ (n:Nat) (l:List ah) (r:Int),Ctr L prog 103 [] [.sl false 3 (l.map (ak false)),.aa r] (.aa (gP l (r - l.length))) [] (wt l<n/\n<=1048577/\0<=r/\r<=1048576)
 | 0,l,r=>⟨(aU 103),fun h=>absurd h.1 (Nat.not_lt_zero _)⟩
 | n+1,l,r=>by
  have ih:=Av L n;refine Ctr.bd func103 ntmps103 fun hp=>?_;have hl:l.length<=wt l:=by unfold wt;omega
  refine vU1 ?_;refine AW.aw [1,5] [0] (fun m xs o=>∃ (k:Nat) (q:Int),xs=[.aa q,.aa k]/\o=[]/\m=l.length - k/\k<=l.length/\-4611686018427387904<=q/\q<=1048576/\gP (l.drop k) q=gP l (r - l.length)) l.length [] trivial ⟨0,r - l.length,?_,rfl,rfl,?_,?_,?_,rfl⟩ ?_
  ·rfl
  ·omega
  ·omega
  ·omega
  rintro m xs o ⟨k,q,rfl,rfl,rfl,hk,h0,h1,hR⟩;have hw:k<l.length->_:=Ac (l:=l) (k:=k)
  have h3:=Co (at_ l k).af (q - (at_ l k).af.length)
  (refine vU2 ?_ ?_<;>intro h)
  ·have h4:-4611686018427387904<=gP (at_ l k).af (q - (at_ l k).af.length):=Cp _ _ (by have:=hw h.1;unfold wt at *;omega) (by have:=hw h.1;omega);refine ⟨_,[_,_],[],Ir,⟨k+1,_,rfl,rfl,rfl,Ir,h4,Ir,?_⟩,rfl,trivial⟩;rw [<- hR,SW h.1,if_neg Ir]
  ·rw [<- hR];by_cases e:k<l.length
   ·rw [qI _ (h e)]
   ·rw [fY e,gP]
instance VY(L:eaa)[hL:Lok L](l:List ah):Ctr L prog 112 [] [.sl false 3 (l.map (ak false))] (.aa (cnt l)) [] (wt l<=1048576):=⟨(aU 112),fun h=>(wL L 1048577 l).out ⟨Ir,Ir⟩⟩
instance XN(L:eaa)[hL:Lok L](l:List ah)(r:Int):Ctr L prog 103 [] [.sl false 3 (l.map (ak false)),.aa r] (.aa (gP l (r - l.length))) [] (wt l<=1048576/\0<=r/\r<=1048576):=⟨(aU 103),fun h=>(Av L 1048577 l r).out ⟨Ir,Ir,h.2⟩⟩
end
section
end
end Go.Proofs
namespace Go.Proofs
open Go.Ab Go.Dt
section
section
variable (ip : Str -> Bool)
variable [hs : ∀ s, Ctr lim prog 256 [] [.str s] (.v (.bool (ip s))) [] True] [hi : ∀ s, Ctr lim prog 271 [] [.str s] (.v (.bool (ip s))) [] True]
omit hs in
include hi in
theorem Ny(x:cT):Ctr lim prog 235 [] [.agg (cTy x)] (.ac (isType ip x)) [] True:=by
 refine Ctr.bd func235 ntmps235 fun hp=>?_;refine AW.f0 0 fun hf=>?_
 (refine vU6 ?_ ?_ ?_ ?_ ?_ ?_<;>with_reducible repeat intro h)
 ·rw [<- Nh h]
 ·rw [<- Ng yG h]
 ·rw [<- Nf yG h];rfl
 ·rw [<- Nd yG h]
 ·rw [<- Nc yG h]
 ·rw [<- Nb yG yG yG yG h]
omit hi in
include hs in
theorem Mo(x:cT):Ctr lim prog 219 [] [.agg (cTy x)] (.ac (isType ip x)) [] True:=by
 refine Ctr.bd func219 ntmps219 fun hp=>?_;refine AW.f0 0 fun hf=>?_;refine vU1 ?_;refine AW.aw [3] [0,1] (fun m xs o=>∃ k:Nat,xs=[.aa k]/\o=[]/\m=x.aF.length - k/\k<=x.aF.length/\cS (fun j=>isName (at_ x.aF j)) k=true/\cS (fun j=>!cont (x.aF.take j) (at_ x.aF j)) k=true) x.aF.length [] trivial ⟨0,?_,rfl,rfl,?_,rfl,rfl⟩ ?_
 ·rfl
 ·omega
 rintro m xs o ⟨k,rfl,rfl,rfl,hk,hR,hQ⟩;refine vK1 ?_;refine AW.c (fun h=>?_) fun h=>?_
 ·refine vK1 ?_;refine AW.aw [4] [0,1,3] (fun m xs o=>∃ j:Nat,xs=[.aa j]/\o=[]/\m=k - j/\j<=k/\∀ y∈(x.aF.take k).take j,(y == at_ x.aF k)=false) k [] trivial ⟨0,?_,rfl,rfl,?_,?_⟩ ?_
  ·rfl
  ·omega
  ·simp
  rintro m xs o ⟨j,rfl,rfl,rfl,hj,hS⟩
  (refine vU4 ?_ ?_ ?_ ?_<;>with_reducible repeat intro h)
  ·rw [<- Bn yG (.inr (dL yG (by rw [vf yG yG h];rfl)))]
  ·exact ⟨_,[_],[],Ir,⟨j+1,rfl,rfl,rfl,Ir,aL (by rw [List.length_take];omega) hS (by rw [C2 yG];simpa using h)⟩,rfl,trivial⟩
  ·rw [<- Bn yG (.inl (dL yG h))]
  ·rw [show j=k by omega,List.take_take,Nat.min_self] at hS;exact ⟨_,[_],[],Ir,⟨k+1,rfl,rfl,rfl,Ir,dc hR h,dc hQ (by rw [rU hS];rfl)⟩,rfl,trivial⟩
 ·rw [show k=x.aF.length by omega] at hR hQ
  (refine vU ?_;with_reducible repeat' first|exact Le.l|apply Sw|intro h)
  ·rw [<- Nn h]
  ·rw [<- Nl h];rfl
  ·rw [<- Nk h hR hQ]
  ·rw [<- Nj h]
  ·rw [<- DF yG yG yG yG (.inl h)]
  ·rw [<- DF yG yG yG yG (.inr h)]
  ·rw [<- Ni yG yG yG yG yG yG]
end
end
section
section
variable (ip : Str -> Bool)
variable [hs : ∀ x : cT, Ctr lim prog 219 [] [.agg (cTy x)] (.v (.bool (isType ip x))) [] True]
variable [hi : ∀ x : cT, Ctr lim prog 235 [] [.agg (cTy x)] (.v (.bool (isType ip x))) [] True]
omit hs in
include hi in
omit hi in
include hs in
end
end
end Go.Proofs
namespace Go.Ab
open Go.RowKit (Below)
def AV.qC(u:Value):AV->AV
 | .sl true sz l=>.pin u (.sl true sz l)
 | .slo sz l=>.pin u (.slo sz l)
 | x=>x
def mo(hs:Nat->Value):Nat->List AV->List AV
 | _,[]=>[]
 | j,x::xs=>x.qC (hs j)::mo hs (j+1) xs
section
variable {L : Nat -> Nat} {F : Nat -> Prop} {w : World}
def Rep.qC{x:AV}{y:Value}{fp:List Nat}(h:Rep L F w x y fp):Rep L F w (x.qC y) y fp:=by
 unfold AV.qC;split
 ·simp only [Rep] at h ⊢;exact ⟨by trivial,h⟩
 ·simp only [Rep] at h ⊢;exact ⟨by trivial,h⟩
 ·exact h
def au.mo{hs:Nat->Value}:∀ {l:List AV} {vs:List Value} {fp:List Nat} {j:Nat},au L F w l vs fp->(∀ k y,vs[k]? = some y->hs (j+k)=y)->au L F w (mo hs j l) vs fp
 | [],_,_,_,h,_=>h
 | x::xs,vs,fp,j,h,hh=>by
  simp only [au,Ab.mo] at h ⊢;obtain ⟨y,vs',f1,f2,rfl,hf,hx,hxs⟩:=h;have e:=hh 0 y QC;rw [Nat.add_zero] at e;refine ⟨y,vs',f1,f2,rfl,hf,by rw [e];exact hx.qC,au.mo hxs fun k y' hk=>?_⟩;have:=hh (k+1) y' (by simpa using hk);rw [Nat.add_assoc,Nat.add_comm 1 k];exact this
end
section
variable {L : Nat -> Nat} {n : Nat} {t : List (Nat × AV)} {o : Sto} {Q : AS -> Prop}
def Imp.KE{b:Nat}{pre e post:List AV}(hO:O o b=some (pre++(e++post)))
  (h:∀ vs:List Value,∃ e',Q ⟨n,t,ig o b (some (pre++(e'++post)))⟩/\∀ (F:faa) (w:World) (f:List Nat),au L F w e vs f->au L F w e' vs f):Imp L ⟨n,t,o⟩ Q:=by
 intro B F0 w0 a w hd;obtain ⟨F,own,fp,fs,hd⟩:=hd;obtain ⟨hkey,j1,eD,c,Ty,vals,rst,hc,hcl,hl⟩:=hd.obj b _ hO;obtain ⟨v1,v23,f1,f23,rfl,hfs,r1,r23⟩:=hl.split;obtain ⟨vs,v3,fx,f3,rfl,rfl,r2,r3⟩:=r23.split;obtain ⟨e',hQ,hr⟩:=h vs;refine ⟨_,hQ,F,own,fp,fs,{ hd with obj:=?_ }⟩;intro q cs hq;rcases uc hO q cs hq with ⟨rfl,rfl⟩|⟨hne,hq⟩
 ·refine ⟨hkey,j1,eD,c,Ty,_,rst,hc,hcl,?_⟩;rw [hfs];exact r1.join ((hr F w fx r2).join r3)
 ·exact hd.obj q cs hq
def Imp.aaA{b:Nat}(pre e post:List AV)(hO:O o b=some (pre++(e++post)))(h:∀ hs,Q ⟨n,t,ig o b (some (pre++(mo hs 0 e++post)))⟩):Imp L ⟨n,t,o⟩ Q :=
 Imp.KE hO fun vs=>⟨mo (fun k=>(vs[k]?).getD undef) 0 e,h _,fun F w f r=>au.mo r fun k y hk=>by simp [hk]⟩
end
end Go.Ab
namespace Go.Ab
section
variable {L : Nat -> Nat} {n : Nat} {t : List (Nat × AV)} {o : Sto} {Q : AS -> Prop}
def Imp.iK{b:Nat}(sz:Nat)(pre post:List AV)(hO:O o b=some (pre++([.v (.slice none 0 0)]++post)))(h:Q ⟨n,t,ig o b (some (pre++([.sl false sz []]++post)))⟩):Imp L ⟨n,t,o⟩ Q :=
 Imp.KE hO fun vs=>⟨[.sl false sz []],h,fun F w f r=>by
  simp only [au] at r ⊢;obtain ⟨y,vs',f1,f2,rfl,rfl,hy,rfl,rfl⟩:=r;simp only [Rep] at hy;obtain ⟨rfl,rfl⟩:=hy;refine ⟨_,[],[],[],rfl,rfl,?_,rfl,rfl⟩;simp only [Rep]
  exact .inl ⟨.inl trivial,by trivial,by trivial⟩⟩
def Imp.nG{b:Nat}(sz:Nat)(pre post:List AV)(hO:O o b=some (pre++([.v (.slice none 0 0)]++post)))(h:Q ⟨n,t,ig o b (some (pre++([.sl true sz []]++post)))⟩):Imp L ⟨n,t,o⟩ Q :=
 Imp.KE hO fun vs=>⟨[.sl true sz []],h,fun F w f r=>by
  simp only [au] at r ⊢;obtain ⟨y,vs',f1,f2,rfl,rfl,hy,rfl,rfl⟩:=r;simp only [Rep] at hy;obtain ⟨rfl,rfl⟩:=hy;refine ⟨_,[],[],[],rfl,rfl,?_,rfl,rfl⟩;simp only [Rep]
  exact .inl ⟨.inl trivial,by trivial,by trivial⟩⟩
def Imp.dB{b:Nat}{cells:List AV}(hO:O o b=some cells)(h:Q ⟨n,t,ig o b (some (AV.bg cells))⟩):Imp L ⟨n,t,o⟩ Q:=by
 intro B F0 w0 a w hd;refine ⟨_,h,?_⟩;obtain ⟨F,own,fp,fs,hd⟩:=hd;obtain ⟨hkey,j1,eD,c0,Ty0,mF,U6,hc0,wU,hl0⟩:=hd.obj b _ hO
 classical
 let F':Nat->Prop:=fun k=>F k\/k∈fs b
 let own':Nat->Own:=fun k=>if k∈fs b then .none else own k
 have hid:Ext (fun _=>True) w w:=⟨Nat.le_refl _,fun _ _=>rfl,fun b c T z hc=>⟨c,hc,rfl⟩⟩
 have hnot:∀ k,own k≠.obj b->own' k=own k:=fun k hk=>by
  have:k ∉ fs b:=fun hm=>hk (eD k hm);simp only [own',if_neg this]
 refine ⟨F',own',fp,fun q=>if q=b then [] else fs q,{ below:=hd.below,hB:=hd.hB,tb:=hd.tb,f0:=fun b hb=>.inl (hd.f0 b hb),fl:=?_,ol:=?_,defers:=hd.defers,size:=hd.size,slots:=?_,sn:=hd.sn,so:=?_,obj:=?_ }⟩
 ·rintro k (hk|hk)
  ·have:=hd.fl k hk;exact ⟨by simp only [own'];split<;>simp [this.1],this.2⟩
  ·have:=hd.ol k (by rw [eD k hk];simp);exact ⟨by simp only [own',if_pos hk],this.2,.inr this.1⟩
 ·intro k hk;simp only [own'] at hk;split at hk
  ·exact absurd rfl hk
  ·exact hd.ol k hk
 ·intro j;exact Rep.ext hid (fun b hb=>⟨.inl hb,trivial⟩) (fun _ _=>trivial) (hd.slots j)
 ·intro j k hk;have:=hd.so j k hk;rw [hnot k (by rw [this];simp)];exact this
 ·intro q cs hq;rcases uc hO q cs hq with ⟨rfl,rfl⟩|⟨hne,hq⟩
  ·simp only [if_true];refine ⟨by rw [hnot q (by rw [hkey];simp)];exact hkey,QC,QC,c0,Ty0,mF,U6,hc0,wU,au.frz (fun k hk=>.inl hk) (fun k hk=>.inr hk) hl0⟩
  ·obtain ⟨g1,g2,g3,c,Ty,vals,rst,g4,g5,g6⟩:=hd.obj q cs hq;simp only [if_neg hne];refine ⟨by rw [hnot q (by rw [g1];simp)];exact g1,g2,fun k hk=>by rw [hnot k (by rw [g3 k hk];simpa using hne)];exact g3 k hk,c,Ty,vals,rst,g4,g5,?_⟩;exact au.ext hid (fun b hb=>⟨.inl hb,trivial⟩) (fun _ _=>trivial) g6
end
end Go.Ab
