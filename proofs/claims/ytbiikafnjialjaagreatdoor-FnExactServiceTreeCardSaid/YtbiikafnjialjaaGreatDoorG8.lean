/- Part of a proof. -/
import Derived.Test.YtbiikafnjialjaaGreatDoorG7
set_option linter.all false
set_option maxRecDepth 20000
set_option maxHeartbeats 4000000
namespace Go.Dt
open Go.Ab
def wtg:List ah->Nat
 | []=>0
 | .mk n v ks::xs=>(n.length+v.length+ks.length+wtg ks)+wtg xs
def wt(l:List ah):Nat:=l.length+wtg l
def kc:List ah->Nat
 | []=>0
 | .mk _ _ ks::xs=>(ks.length+kc ks)+kc xs
def cnt(l:List ah):Nat:=l.length+kc l
def dep:List ah->Nat
 | []=>0
 | .mk _ _ ks::xs=>max (1+dep ks) (dep xs)
def kK(x:ah):Bool:=isName x.af && isText x.ax && (x.ax == [] || x.ag.length == 0)
def frm:List ah->Bool
 | []=>true
 | .mk n v ks::xs=>(kK (.mk n v ks) && frm ks) && frm xs
def lfr:List ah->Nat->Bool
 | [],_=>true
 | .mk n v ks::xs,d=>(kK (.mk n v ks) && (lfr ks (d+1) && (ks.length == 0 || decide (d+1<=10)))) && lfr xs d
def gq:List ah->Int->Int
 | [],q=>q
 | .mk _ _ ks::xs,q=>if q<0 then q else gq xs (gq ks (q - ks.length))
def gY(ps:List Str):List ah->Bool
 | []=>true
 | .mk _ v ks::xs=>(((tk v).2 && (nmL (tk v)).all (cont ps)) && gY ps ks) && gY ps xs
section
variable {l : List ah} {k : Nat}
theorem Nl(h:k<l.length):wtg (l.drop k)=((at_ l k).af.length+(at_ l k).ax.length+(at_ l k).ag.length+wtg (at_ l k).ag)+wtg (l.drop (k+1)):=by
 rw [ct h];cases at_ l k;rw [wtg];rfl
theorem QW(h:k<l.length):kc (l.drop k)=((at_ l k).ag.length+kc (at_ l k).ag)+kc (l.drop (k+1)):=by
 rw [ct h];cases at_ l k;rw [kc];rfl
theorem Pn(h:k<l.length):dep (l.drop k)=max (1+dep (at_ l k).ag) (dep (l.drop (k+1))):=by
 rw [ct h];cases at_ l k;rw [dep];rfl
theorem Iv(h:k<l.length):frm (l.drop k)=((kK (at_ l k) && frm (at_ l k).ag) && frm (l.drop (k+1))):=by
 rw [ct h];cases at_ l k;rw [frm];rfl
theorem HW(h:k<l.length)(d:Nat):lfr (l.drop k) d=((kK (at_ l k) && (lfr (at_ l k).ag (d+1) && ((at_ l k).ag.length == 0 || decide (d+1<=10)))) && lfr (l.drop (k+1)) d):=by
 rw [ct h];cases at_ l k;rw [lfr];rfl
theorem Ml(h:k<l.length)(q:Int):gq (l.drop k) q=if q<0 then q else gq (l.drop (k+1)) (gq (at_ l k).ag (q - (at_ l k).ag.length)):=by
 rw [ct h];cases at_ l k;rw [gq];rfl
theorem nU(ps:List Str)(h:k<l.length):gY ps (l.drop k)=((((tk (at_ l k).ax).2 && (nmL (tk (at_ l k).ax)).all (cont ps)) && gY ps (at_ l k).ag) && gY ps (l.drop (k+1))):=by
 rw [ct h];cases at_ l k;rw [gY];rfl
theorem kr(h:k<l.length):wt (at_ l k).ag<wt l/\(at_ l k).af.length<=wt l/\(at_ l k).ax.length<=wt l:=by
 have h1:=Nl h
 have h2:∀ j (l:List ah),wtg (l.drop j)<=wtg l:=by
  intro j
  induction j with
  | zero=>intro l;simp
  | succ j ih =>
   intro l
   cases l with
   | nil=>simp
   | cons x xs=>cases x;simp only [List.drop_succ_cons,wtg];have:=ih xs;omega
 have h3:=h2 k l
 unfold wt
 omega
end
theorem Ap{x:ah}(h:(isName x.af=false\/isText x.ax=false)\/¬ x.ax=[]/\0<(x.ag.length:Int)):kK x=false:=by
 unfold kK
 rcases h with (h|h)|h
 ·simp [h]
 ·simp [h]
 ·have:(x.ag.length == 0)=false:=by simp only [beq_eq_false_iff_ne];omega
  simp [h.1,this]
theorem x5{x:ah}(h:(isName x.af=true/\isText x.ax=true)/\(¬ x.ax=[]->(x.ag.length:Int)<=0)):kK x=true:=by
 unfold kK
 rw [h.1.1,h.1.2]
 by_cases e:x.ax=[]
 ·simp [e]
 ·have:=h.2 e
  have:(x.ag.length == 0)=true:=by simp only [beq_iff_eq];omega
  simp [this]
theorem uR{α β:Type}(f:α->β)(p:β->Bool):∀ l:List α,idx (fun x=>p (f x)) l=idx p (l.map f)
 | []=>rfl
 | x::xs=>by simp only [List.map_cons,idx,uR f p xs]
theorem Ju(ps:List bh)(n:Str):decide (0<=iA ps n)=cont (ps.map bh.af) n:=by
 rw [iA,uR bh.af (fun x=>x == n)];rfl
theorem tL:∀ d:List Tok,(dI d).length<=d.length
 | []=>by simp [dI]
 | .inl _::d=>by have:=tL d;simp only [dI,List.length_cons];omega
 | .inr _::d=>by have:=tL d;simp only [dI,List.length_cons];omega
theorem E1(s:Str):(nmL (tk s)).length<=s.length:=by
 have h1:=xp s
 have h2:=tL (tk s).1
 unfold nmL
 cases (tk s).2
 ·simp
 ·simp only [cond_true];omega
theorem fK{α:Type}{l:List α}{k:Nat}(h:¬ k<l.length):l.drop k=[]:=List.drop_eq_nil_of_le (by omega)
theorem Gi:∀ l:List ah,kc l<=wtg l
 | []=>by simp [kc]
 | .mk n v ks::xs=>by have:=Gi ks;have:=Gi xs;simp only [kc,wtg];omega
theorem Pq(l:List ah):cnt l<=wt l:=by have:=Gi l;unfold cnt wt;omega
theorem DB:∀ l:List ah,dep l<=wt l
 | []=>by simp [dep]
 | .mk n v ks::xs=>by
  have h1:=DB ks;have h2:=DB xs;simp only [dep,wt,wtg,List.length_cons] at *;omega
theorem MO:∀ l:List ah,dep l=0↔l.length=0
 | []=>by simp [dep]
 | .mk n v ks::xs=>by simp only [dep,List.length_cons];omega
theorem zb:∀ (l:List ah) (q:Int),gq l q<=q
 | [],q=>by simp [gq]
 | .mk n v ks::xs,q=>by
  have h1:=zb ks (q - ks.length)
  have h2:=zb xs (gq ks (q - ks.length))
  simp only [gq];split<;>omega
theorem mV(l:List ah){q:Int}(h:q<0):gq l q=q:=by
 cases l with
 | nil=>rw [gq]
 | cons x xs=>cases x;simp only [gq];rw [if_pos h]
theorem uP:∀ (l:List ah) (q:Int),0<=q->(0<=gq l q↔(kc l:Int)<=q)/\((kc l:Int)<=q->gq l q=q - kc l)
 | [],q,h=>by simp only [gq,kc];omega
 | .mk n v ks::xs,q,h=>by
  simp only [gq,kc]
  rw [if_neg (by omega)]
  rcases Int.lt_or_le (q - ks.length) 0 with h1|h1
  ·rw [mV ks h1,mV xs h1]
   constructor
   ·omega
   ·omega
  ·have h2:=uP ks _ h1
   rcases Int.lt_or_le (gq ks (q - ks.length)) 0 with h3|h3
   ·rw [mV xs h3]
    constructor
    ·omega
    ·omega
   ·have h4:=uP xs _ h3
    have h5:=h2.2 (h2.1.1 h3)
    rw [h5] at h3 h4 ⊢
    constructor
    ·omega
    ·omega
theorem ze:∀ (l:List ah) (q:Int),-4611686018427387904<=q->(wt l:Int)<=1048576->-4611686018427387904<=gq l q
 | [],q,h,_=>by simpa [gq] using h
 | .mk n v ks::xs,q,h,hw=>by
  simp only [gq]
  split
  ·exact h
  ·have e:(wt (.mk n v ks::xs):Nat)=(n.length+v.length+wt ks)+1+wt xs:=by simp only [wt,wtg,List.length_cons];omega
   have e2:ks.length<=wt ks:=by unfold wt;omega
   exact ze xs _ (ze ks _ (by omega) (by omega)) (by omega)
theorem CO:∀ (l:List ah) (d:Nat),1<=d->d<=10->lfr l d=(frm l && decide (d+dep l<=11))
 | [],d,_,h=>by simp [lfr,frm,dep];omega
 | .mk n v ks::xs,d,h0,h=>by
  have h2:=CO xs d h0 h
  simp only [lfr,frm,dep]
  rw [h2]
  by_cases h3:d+1<=10
  ·have h1:=CO ks (d+1) (by omega) h3
   rw [h1]
   have e1:decide (d+1<=10)=true:=by simpa using h3
   rw [e1,Bool.or_true,Bool.and_true]
   have e2:decide (d+max (1+dep ks) (dep xs)<=11)=(decide (d+1+dep ks<=11) && decide (d+dep xs<=11)):=by
    rw [<- Bool.decide_and];exact decide_eq_decide.2 (by omega)
   rw [e2]
   cases kK (.mk n v ks)<;>cases frm ks<;>cases frm xs<;>simp
  ·have e1:decide (d+1<=10)=false:=by simpa using h3
   rw [e1,Bool.or_false]
   have hd:=MO ks
   by_cases h4:ks.length=0
   ·have h5:ks=[]:=List.length_eq_zero_iff.1 h4
    subst h5
    have e2:decide (d+max (1+dep []) (dep xs)<=11)=decide (d+dep xs<=11):=decide_eq_decide.2 (by simp only [dep];omega)
    rw [e2]
    simp [lfr,frm]
    cases kK (.mk n v [])<;>cases frm xs<;>simp
   ·have e3:(ks.length == 0)=false:=by simpa using h4
    have e4:decide (d+max (1+dep ks) (dep xs)<=11)=false:=by simp only [decide_eq_false_iff_not];omega
    rw [e3,e4];simp
def pF(l:List ah):Bool:=decide (cnt l<=120) && decide (dep l<=10) && frm l
theorem Ef(l:List ah):(decide (0<=gq l (120 - l.length)) && (lfr l 1 && (l.length == 0 || decide (1<=10))))=pF l:=by
 rw [CO l 1 (by omega) (by omega)]
 have e1:decide (0<=gq l (120 - l.length))=decide (cnt l<=120):=by
  apply decide_eq_decide.2
  unfold cnt
  rcases Int.lt_or_le (120 - (l.length:Int)) 0 with h|h
  ·rw [mV l h];omega
  ·have:=(uP l _ h).1;omega
 have e2:decide (1+dep l<=11)=decide (dep l<=10):=decide_eq_decide.2 (by omega)
 rw [e1,e2]
 simp [pF]
 cases decide (cnt l<=120)<;>cases frm l<;>simp
theorem gf{a:Int}{k:Int->Int}(h:0<=thn a k):0<=a/\thn a k=k a:=by
 unfold thn at h ⊢
 split at h
 ·omega
 ·rw [if_neg (by assumption)];exact ⟨by omega,rfl⟩
theorem wu:∀ (l:List ah) (r:Int),0<=r->0<=ju l r->ju l r+wtg l=r
 | [],r,_,_=>by simp [ju,wtg]
 | .mk n v ks::xs,r,h0,h=>by
  rw [ju] at h ⊢
  have hx:∀ q,0<=dA (.mk n v ks) q->0<=q->dA (.mk n v ks) q+(n.length+v.length+ks.length+wtg ks:Nat)=q:=by
   intro q hq h0
   rw [dA] at hq ⊢
   obtain ⟨h1,e1⟩:=gf hq
   rw [e1] at hq ⊢
   obtain ⟨h2,e2⟩:=gf hq
   rw [e2] at hq ⊢
   obtain ⟨h3,e3⟩:=gf hq
   rw [e3] at hq ⊢
   simp only [id] at h3 ⊢
   obtain ⟨h4,e4⟩:=gf h3
   rw [e4] at h3 ⊢
   have:=wu ks _ h4 h3
   unfold az at *
   omega
  obtain ⟨h1,e1⟩:=gf h
  rw [e1] at h ⊢
  have h3:=hx r h1 h0
  have h2:=wu xs _ h1 h
  rw [wtg]
  omega
theorem Nn{l:List ah}{r:Int}(h0:0<=r)(h:0<=aM dA l r):(wt l:Int)<=r:=by
 rcases Int.lt_or_le (r - l.length) 0 with h2|h2
 ·rw [fe h2] at h;omega
 ·rw [fC h2,<- qE] at h
  have:=wu l _ h2 h
  unfold wt;omega
def isType(ip:Str->Bool)(x:cL):Bool :=
 (decide (x.ai=1) && fN x.av && x.ay.isEmpty && x.aN.isEmpty && x.aA.isEmpty) ||
 (decide (x.ai=2) && fN x.av && (x.av.isEmpty || decide (0<=(at_ x.av 0).fLo)) && (x.aN.isEmpty || ip x.aN) && x.ay.isEmpty && x.aA.isEmpty) ||
 (decide (x.ai=4) && decide (1<=x.ay.length) && decide (x.ay.length<=6) && names x.ay && cl x.ay && x.av.isEmpty && x.aN.isEmpty && x.aA.isEmpty) ||
 (decide (x.ai=5) && isText x.aA && !x.aA.isEmpty && x.av.isEmpty && x.ay.isEmpty && x.aN.isEmpty) ||
 (decide (x.ai=3\/x.ai=6) && x.av.isEmpty && x.ay.isEmpty && x.aN.isEmpty && x.aA.isEmpty)
section
variable {ip : Str -> Bool} {x : cL}
theorem ud(h:x.ai=1):isType ip x=(fN x.av && x.ay.isEmpty && x.aN.isEmpty && x.aA.isEmpty):=by simp [isType,h]
theorem uc(h:x.ai=2):isType ip x=(fN x.av && (x.av.isEmpty || decide (0<=(at_ x.av 0).fLo)) && (x.aN.isEmpty || ip x.aN) && x.ay.isEmpty && x.aA.isEmpty):=by simp [isType,h]
theorem qj(h:x.ai=4):isType ip x=(decide (1<=x.ay.length) && decide (x.ay.length<=6) && names x.ay && cl x.ay && x.av.isEmpty && x.aN.isEmpty && x.aA.isEmpty):=by simp [isType,h]
theorem ub(h:x.ai=5):isType ip x=(isText x.aA && !x.aA.isEmpty && x.av.isEmpty && x.ay.isEmpty && x.aN.isEmpty):=by simp [isType,h]
theorem qi(h1:¬ x.ai=1)(h2:¬ x.ai=2)(h4:¬ x.ai=4)(h5:¬ x.ai=5):isType ip x=(decide (x.ai=3\/x.ai=6) && x.av.isEmpty && x.ay.isEmpty && x.aN.isEmpty && x.aA.isEmpty):=by simp [isType,h1,h2,h4,h5]
theorem Ig(h:(((¬x.ai=1/\¬x.ai=2)/\¬x.av=[]\/¬x.ai=4/\¬x.ay=[])\/¬x.ai=2/\¬x.aN=[])\/¬x.ai=5/\¬x.aA=[]):isType ip x=false:=by
 by_cases h1:x.ai=1
 ·rw [ud h1];simp [h1] at h
  rcases h with (h|h)|h<;>simp [h]
 by_cases h2:x.ai=2
 ·rw [uc h2];simp [h2] at h
  rcases h with h|h<;>simp [h]
 by_cases h4:x.ai=4
 ·rw [qj h4];simp [h4] at h
  rcases h with (h|h)|h<;>simp [h]
 by_cases h5:x.ai=5
 ·rw [ub h5];simp [h5] at h
  rcases h with (h|h)|h<;>simp [h]
 ·rw [qi h1 h2 h4 h5];simp [h1,h2,h4,h5] at h
  rcases h with ((h|h)|h)|h<;>simp [h]
end
section
variable {ip : Str -> Bool} {x : cL}
theorem pq{α:Type}{l:List α}(h:(l.length:Int)<=0):l=[]:=List.length_eq_zero_iff.1 (by omega)
theorem TH{α:Type}(l:List α):((l.length:Int) == 0)=l.isEmpty:=by cases l<;>simp<;>omega
theorem oq{α:Type}[BEq α](l:List α):(l == [])=l.isEmpty:=by cases l<;>rfl
theorem H8(h:(((¬x.ai=1/\¬x.ai=2)/\(0:Int)<x.av.length\/¬x.ai=4/\(0:Int)<x.ay.length)\/¬x.ai=2/\¬x.aN=[])\/¬x.ai=5/\¬x.aA=[]):false=isType ip x:=by
 have e3:(0:Int)<x.av.length↔¬ x.av=[]:=by rw [<- List.length_eq_zero_iff];omega
 have e4:(0:Int)<x.ay.length↔¬ x.ay=[]:=by rw [<- List.length_eq_zero_iff];omega
 rw [e3,e4] at h
 exact (Ig h).symm
section
variable (H : (((¬x.ai = 1 /\ ¬x.ai = 2 -> (x.av.length : Int) <= 0) /\ (¬x.ai = 4 -> (x.ay.length : Int) <= 0)) /\ (¬x.ai = 2 -> x.aN = [])) /\ (¬x.ai = 5 -> x.aA = []))
include H
theorem H7(h:x.ai=1):fN x.av=isType ip x:=by
 rw [ud h,pq (H.1.1.2 (by omega)),H.1.2 (by omega),H.2 (by omega)];simp
theorem H6(h:x.ai=2):(fN x.av && ((x.av.length:Int) == 0 || decide (0<=(at_ x.av 0).fLo)) && (x.aN == [] || ip x.aN))=isType ip x:=by
 rw [uc h,pq (H.1.1.2 (by omega)),H.2 (by omega),TH,oq];simp
theorem H5(h:x.ai=4):(decide ((1:Int)<=x.ay.length) && decide ((x.ay.length:Int)<=6) && names x.ay && cl x.ay)=isType ip x:=by
 rw [qj h,pq (H.1.1.1 (by omega)),H.1.2 (by omega),H.2 (by omega)]
 rw [show decide ((1:Int)<=x.ay.length)=decide (1<=x.ay.length) from decide_eq_decide.2 (by omega),show decide ((x.ay.length:Int)<=6)=decide (x.ay.length<=6) from decide_eq_decide.2 (by omega)]
 simp
theorem H4(h:x.ai=5):(!x.aA == [] && isText x.aA)=isType ip x:=by
 rw [ub h,pq (H.1.1.1 (by omega)),pq (H.1.1.2 (by omega)),H.1.2 (by omega),oq]
 cases x.aA.isEmpty<;>simp
theorem H3(h1:¬ x.ai=1)(h2:¬ x.ai=2)(h4:¬ x.ai=4)(h5:¬ x.ai=5):(x.ai == 3 || x.ai == 6)=isType ip x:=by
 rw [qi h1 h2 h4 h5,pq (H.1.1.1 (by omega)),pq (H.1.1.2 (by omega)),H.1.2 (by omega),H.2 (by omega)]
 by_cases h3:x.ai=3<;>by_cases h6:x.ai=6<;>simp [h3,h6]
end
end
theorem uf{α:Type}(l:List α):(!decide ((0:Int)<l.length))=l.isEmpty:=by
 cases l with
 | nil=>rfl
 | cons x xs=>simp
theorem E9(s:Str):∀ l:List Str,0<=idx (fun x=>x == s) l↔s∈l
 | []=>by simp [idx]
 | x::xs=>by
  have ih:=E9 s xs
  have h0:=pG (fun x=>x == s) xs
  by_cases e:x=s
  ·subst e;simp [idx]
  ·have e':(x == s)=false:=by simpa using e
   have e'':¬ s=x:=fun h=>e h.symm
   simp only [idx,e',Bool.false_eq_true,if_false,List.mem_cons,e'',false_or,<- ih]
   split<;>omega
theorem iR(l:List Str)(s:Str):cont l s=true↔s∈l:=by
 unfold cont
 rw [decide_eq_true_eq,E9]
theorem zL{α:Type}[Inhabited α]{l:List α}{j k:Nat}(h:j<k):at_ (l.take k) j=at_ l j:=by unfold at_;rw [List.getElem?_take,if_pos h]
theorem sO{l:List Str}{j k:Nat}(hj:j<k)(hk:k<l.length)(h:at_ l j=at_ l k):cont (l.take k) (at_ l k)=true:=by
 rw [iR,<- h]
 have:(l.take k)[j]? = some (at_ l j):=by rw [List.getElem?_take,if_pos hj];exact rD (by omega)
 exact List.mem_of_getElem? this
theorem qu{l:List Str}{k:Nat}{s:Str}(h:∀ y∈l.take k,(y == s)=false):cont (l.take k) s=false:=by
 rw [Bool.eq_false_iff]
 intro hc
 have:=h s ((iR _ _).1 hc)
 simp at this
section
variable {ip : Str -> Bool} {x : cL}
theorem yg{k:Nat}(hk:k<x.ay.length)(h:names x.ay=false\/cl x.ay=false):false=isType ip x:=by
 have e:x.ay.isEmpty=false:=by cases hx:x.ay with|nil=>rw [hx] at hk;simp at hk|cons a b=>rfl
 unfold isType
 rw [e]
 rcases h with h|h<;>simp [h]
theorem Ie(h:x.ai=1):(fN x.av && !decide ((0:Int)<x.ay.length) && x.aN == [] && x.aA == [])=isType ip x:=by
 rw [ud h,uf,oq,oq]
theorem Ic(h:x.ai=2):(fN x.av && (!decide ((0:Int)<x.av.length) || decide (0<=(at_ x.av 0).fLo)) && (x.aN == [] || ip x.aN) && !decide ((0:Int)<x.ay.length) && x.aA == [])=isType ip x:=by
 rw [uc h,uf,uf,oq,oq]
theorem Ib(h:x.ai=4)(h1:names x.ay=true)(h2:cl x.ay=true):(decide ((1:Int)<=x.ay.length) && decide ((x.ay.length:Int)<=6) && !decide ((0:Int)<x.av.length) && x.aN == [] && x.aA == [])=isType ip x:=by
 rw [qj h,uf,oq,oq,h1,h2,Bool.and_true,Bool.and_true]
 rw [show decide ((1:Int)<=x.ay.length)=decide (1<=x.ay.length) from decide_eq_decide.2 (by omega),show decide ((x.ay.length:Int)<=6)=decide (x.ay.length<=6) from decide_eq_decide.2 (by omega)]
theorem Ia(h:x.ai=5):(isText x.aA && !x.aA == [] && !decide ((0:Int)<x.av.length) && !decide ((0:Int)<x.ay.length) && x.aN == [])=isType ip x:=by
 rw [ub h,uf,uf,oq,oq]
theorem AB(h1:¬ x.ai=1)(h2:¬ x.ai=2)(h4:¬ x.ai=4)(h5:¬ x.ai=5)(h:x.ai=3\/x.ai=6):(!decide ((0:Int)<x.av.length) && !decide ((0:Int)<x.ay.length) && x.aN == [] && x.aA == [])=isType ip x:=by
 rw [qi h1 h2 h4 h5,uf,uf,oq,oq,show decide (x.ai=3\/x.ai=6)=true by simpa using h,Bool.true_and]
theorem H9(h1:¬ x.ai=1)(h2:¬ x.ai=2)(h4:¬ x.ai=4)(h5:¬ x.ai=5)(h3:¬ x.ai=3)(h6:¬ x.ai=6):false=isType ip x:=by
 rw [qi h1 h2 h4 h5,show decide (x.ai=3\/x.ai=6)=false by simp [h3,h6]];rfl
end
def qa(ip:Str->Bool)(l:List bh)(j:Nat):Bool:=isName (at_ l j).af && isType ip (at_ l j).fType
def di(ip:Str->Bool)(x:aL):Bool:=bL (qa ip x.aC) x.aC.length && cl (x.aC.map bh.af) && isName x.af && decide (x.aC.length<=6) && pF x.cD && gY (x.aC.map bh.af) x.cD
theorem I0{α β:Type}[Inhabited α][Inhabited β](f:α->β){l:List α}{k:Nat}(h:k<l.length):at_ (l.map f) k=f (at_ l k):=by
 unfold at_;rw [List.getElem?_map,List.getElem?_eq_getElem h];rfl
theorem Ad{l:List bh}{k:Nat}(hk:k<l.length):iA l (at_ l k).af=k↔cont ((l.map bh.af).take k) (at_ (l.map bh.af) k)=false:=by
 have hk':k<(l.map bh.af).length:=by simpa using hk
 rw [I0 bh.af hk,iA,uR bh.af (fun x=>x == (at_ l k).af)]
 have BB:((at_ (l.map bh.af) k) == (at_ l k).af)=true:=by rw [I0 bh.af hk];simp
 constructor
 ·intro h
  rw [Bool.eq_false_iff]
  intro hc
  have hm:=(iR _ _).1 hc
  obtain ⟨j,hj,e⟩:=List.getElem_of_mem hm
  rw [List.length_take] at hj
  have e2:at_ (l.map bh.af) j=(at_ l k).af:=by
   unfold at_
   rw [List.getElem_take] at e
   rw [List.getElem?_eq_getElem (by omega),e];rfl
  have hle:∀ (m:List Str) (j:Nat),j<m.length->at_ m j=(at_ l k).af->idx (fun x=>x == (at_ l k).af) m<=j:=by
   intro m
   induction m with
   | nil=>intro j h;simp at h
   | cons y ys ih =>
    intro j hj he
    simp only [idx]
    split
    ·omega
    ·cases j with
     | zero=>rename_i hn;simp [at_] at he;simp [he] at hn;simp [at_] at hn
     | succ j =>
      have:=ih j (by simpa using hj) (by simpa [at_] using he)
      split
      ·omega
      ·omega
  have:=hle _ j (by omega) e2
  omega
 ·intro h
  refine gB hk' (fun y hy=>?_) BB
  rw [beq_eq_false_iff_ne]
  intro e
  rw [e] at hy
  rw [(iR _ _).2 hy] at h
  cases h
theorem tf{ip:Str->Bool}{x:aL}{k:Nat}(hk:k<x.aC.length)(h:qa ip x.aC k=false):di ip x=false:=by
 unfold di;rw [cW hk h];rfl
theorem zl{ip:Str->Bool}{x:aL}{k:Nat}(hk:k<x.aC.length)(h:cont ((x.aC.map bh.af).take k) (at_ (x.aC.map bh.af) k)=true):di ip x=false:=by
 unfold di
 rw [show cl (x.aC.map bh.af)=false from cW (by simpa using hk) (by simp [h])]
 simp
end Go.Dt
namespace Go.Proofs
open Go.Ab Go.Dt
set_option maxHeartbeats 2000000
section
theorem uh(L:Nat->Nat)[hL:Lok L]:∀ (n:Nat) (l:List ah),Ctr L Tryz.prog 131 [] [.sl false 3 (l.map (ak false))] (.v (.int .i64 (cnt l))) [] (wt l<n/\n<=1048577)
 | 0,l=>⟨(aW 131),fun h=>absurd h.1 (Nat.not_lt_zero _)⟩
 | n+1,l=>by
  have ih:=uh L n
  refine Ctr.bd Tryz.func131 Tryz.ntmps131 rfl rfl fun hp=>?_
  have hc:=Pq l
  have hl:l.length<=wt l:=by unfold wt;omega
  (refine vU ?_;with_reducible repeat' first|exact Le.l|apply Sw|intro h)
  refine AW.aw [3,10] [0,8,9] (fun m xs o=>∃ k q:Nat,xs=[.v (.int .i64 q),.v (.int .i64 k)]/\o=[]/\m=l.length - k/\k<=l.length/\q+kc (l.drop k)=cnt l) l.length [] trivial ⟨0,l.length,?_,rfl,rfl,?_,rfl⟩ ?_
  ·rfl
  ·omega
  rintro m xs o ⟨k,q,rfl,rfl,rfl,hk,hR⟩
  have h1:k<l.length->_:=kr (l:=l) (k:=k)
  have h2:k<l.length->_:=QW (l:=l) (k:=k)
  have h3:cnt (at_ l k).ag=(at_ l k).ag.length+kc (at_ l k).ag:=rfl
  (refine vU ?_;with_reducible repeat' first|exact Le.l|apply Sw|intro h)
  ·exact ⟨_,[_,_],[],by omega,⟨k+1,q+cnt (at_ l k).ag,rfl,rfl,rfl,by omega,by omega⟩,rfl,trivial⟩
  ·rw [fK h,kc] at hR;rw [<- hR,Nat.add_zero]
theorem tZ(L:Nat->Nat)[hL:Lok L]:∀ (n:Nat) (l:List ah),Ctr L Tryz.prog 242 [] [.sl false 3 (l.map (ak false))] (.v (.int .i64 (dep l))) [] (wt l<n/\n<=1048577)
 | 0,l=>⟨(aW 242),fun h=>absurd h.1 (Nat.not_lt_zero _)⟩
 | n+1,l=>by
  have ih:=tZ L n
  refine Ctr.bd Tryz.func242 Tryz.ntmps242 rfl rfl fun hp=>?_
  have hc:=DB l
  have hl:l.length<=wt l:=by unfold wt;omega
  (refine vU ?_;with_reducible repeat' first|exact Le.l|apply Sw|intro h)
  refine AW.aw [3,8] [0,6,7] (fun m xs o=>∃ k q:Nat,xs=[.v (.int .i64 q),.v (.int .i64 k)]/\o=[]/\m=l.length - k/\k<=l.length/\max q (dep (l.drop k))=dep l) l.length [] trivial ⟨0,0,?_,rfl,rfl,?_,?_⟩ ?_
  ·rfl
  ·omega
  ·simp
  rintro m xs o ⟨k,q,rfl,rfl,rfl,hk,hR⟩
  have h1:k<l.length->_:=kr (l:=l) (k:=k)
  have h2:k<l.length->_:=Pn (l:=l) (k:=k)
  (refine vU ?_;with_reducible repeat' first|exact Le.l|apply Sw|intro h)
  ·refine ⟨_,[_,_],[],by omega,⟨k+1,max q (1+dep (at_ l k).ag),?_,rfl,rfl,by omega,by omega⟩,rfl,trivial⟩
   refine congrArg (fun z=>[AV.v (.int .i64 z),_]) ?_
   split<;>omega
  ·rw [fK h,dep] at hR;rw [<- hR,Nat.max_zero]
theorem AE(L:Nat->Nat)[hL:Lok L]:∀ (n:Nat) (l:List ah),Ctr L Tryz.prog 243 [] [.sl false 3 (l.map (ak false))] (.v (.bool (frm l))) [] (wt l<n/\n<=1048577)
 | 0,l=>⟨(aW 243),fun h=>absurd h.1 (Nat.not_lt_zero _)⟩
 | n+1,l=>by
  have ih:=AE L n
  refine Ctr.bd Tryz.func243 Tryz.ntmps243 rfl rfl fun hp=>?_
  have hl:l.length<=wt l:=by unfold wt;omega
  (refine vU ?_;with_reducible repeat' first|exact Le.l|apply Sw|intro h)
  refine AW.aw [7] [0,5,6] (fun m xs o=>∃ k:Nat,xs=[.v (.int .i64 k)]/\o=[]/\m=l.length - k/\k<=l.length/\frm (l.drop k)=frm l) l.length [] trivial ⟨0,?_,rfl,rfl,?_,rfl⟩ ?_
  ·rfl
  ·omega
  rintro m xs o ⟨k,rfl,rfl,rfl,hk,hR⟩
  have h1:k<l.length->_:=kr (l:=l) (k:=k)
  (refine vU ?_;with_reducible repeat' first|exact Le.l|apply Sw|intro h)
  ·rw [<- hR,Iv (l:=l) (k:=k) (by assumption)]
   rcases h with h|h
   ·rw [Ap h];rfl
   ·rw [h,Bool.and_false];rfl
  ·exact ⟨_,[_],[],by omega,⟨k+1,rfl,rfl,rfl,by omega,by rw [<- hR,Iv (l:=l) (k:=k) (by assumption),x5 h.1,h.2];rfl⟩,rfl,trivial⟩
  ·rw [<- hR,fK h,frm]
theorem xJ(L:Nat->Nat)[hL:Lok L]:∀ (n:Nat) (l:List ah) (d:Nat),Ctr L Tryz.prog 226 [] [.sl false 3 (l.map (ak false)),.v (.int .i64 d)] (.v (.bool (lfr l d && (l.length == 0 || decide (d<=10))))) [] (wt l<n/\n+d<=1048579)
 | 0,l,d=>⟨(aW 226),fun h=>absurd h.1 (Nat.not_lt_zero _)⟩
 | n+1,l,d=>by
  have ih:=xJ L n
  refine Ctr.bd Tryz.func226 Tryz.ntmps226 rfl rfl fun hp=>?_
  have hl:l.length<=wt l:=by unfold wt;omega
  (refine vU ?_;with_reducible repeat' first|exact Le.l|apply Sw|intro h)
  refine AW.aw [5] [0,1] (fun m xs o=>∃ k:Nat,xs=[.v (.int .i64 k)]/\o=[]/\m=l.length - k/\k<=l.length/\lfr (l.drop k) d=lfr l d) l.length [] trivial ⟨0,?_,rfl,rfl,?_,rfl⟩ ?_
  ·rfl
  ·omega
  rintro m xs o ⟨k,rfl,rfl,rfl,hk,hR⟩
  have h1:k<l.length->_:=kr (l:=l) (k:=k)
  (refine vU ?_;with_reducible repeat' first|exact Le.l|apply Sw|intro h)
  ·rw [<- hR,HW (l:=l) (k:=k) (by assumption)]
   rcases h with h|h
   ·rw [Ap h];rfl
   ·have:(lfr (at_ l k).ag (d+1) && ((at_ l k).ag.length == 0 || decide (d+1<=10)))=false:=by
     cases e:lfr (at_ l k).ag (d+1) with
     | false=>rfl
     | true =>
      have h5:=h e
      have e1:((at_ l k).ag.length == 0)=false:=by simpa using h5.1
      have e2:decide (d+1<=10)=false:=by simp only [decide_eq_false_iff_not];omega
      rw [e1,e2];rfl
    rw [this,Bool.and_false];rfl
  ·refine ⟨_,[_],[],by omega,⟨k+1,rfl,rfl,rfl,by omega,?_⟩,rfl,trivial⟩
   rw [<- hR,HW (l:=l) (k:=k) (by assumption),x5 h.1,h.2.1]
   have:((at_ l k).ag.length == 0 || decide (d+1<=10))=true:=by rw [Bool.or_eq_true,beq_iff_eq,decide_eq_true_eq];omega
   rw [this];rfl
  ·rw [<- hR,fK h,lfr,Bool.true_and]
   refine congrArg (fun z=>AV.v (.bool z)) ?_
   congr 1
   ·exact Bool.eq_iff_iff.2 (by simp)
   ·exact decide_eq_decide.2 (by omega)
theorem xK(L:Nat->Nat)[hL:Lok L]:∀ (n:Nat) (l:List ah) (r:Int),Ctr L Tryz.prog 114 [] [.sl false 3 (l.map (ak false)),.v (.int .i64 r)] (.v (.int .i64 (gq l (r - l.length)))) [] (wt l<n/\n<=1048577/\0<=r/\r<=1048576)
 | 0,l,r=>⟨(aW 114),fun h=>absurd h.1 (Nat.not_lt_zero _)⟩
 | n+1,l,r=>by
  have ih:=xK L n
  refine Ctr.bd Tryz.func114 Tryz.ntmps114 rfl rfl fun hp=>?_
  have hl:l.length<=wt l:=by unfold wt;omega
  (refine vU ?_;with_reducible repeat' first|exact Le.l|apply Sw|intro h)
  refine AW.aw [1,5] [0] (fun m xs o=>∃ (k:Nat) (q:Int),xs=[.v (.int .i64 q),.v (.int .i64 k)]/\o=[]/\m=l.length - k/\k<=l.length/\-4611686018427387904<=q/\q<=1048576/\gq (l.drop k) q=gq l (r - l.length)) l.length [] trivial ⟨0,r - l.length,?_,rfl,rfl,?_,?_,?_,rfl⟩ ?_
  ·rfl
  ·omega
  ·omega
  ·omega
  rintro m xs o ⟨k,q,rfl,rfl,rfl,hk,h0,h1,hR⟩
  have hw:k<l.length->_:=kr (l:=l) (k:=k)
  have h3:=zb (at_ l k).ag (q - (at_ l k).ag.length)
  (refine vU ?_;with_reducible repeat' first|exact Le.l|apply Sw|intro h)
  ·have h4:-4611686018427387904<=gq (at_ l k).ag (q - (at_ l k).ag.length):=ze _ _ (by have:=hw h.1;unfold wt at *;omega) (by have:=hw h.1;omega)
   refine ⟨_,[_,_],[],by omega,⟨k+1,_,rfl,rfl,rfl,by omega,h4,by omega,?_⟩,rfl,trivial⟩
   rw [<- hR,Ml h.1,if_neg (by omega)]
  ·rw [<- hR]
   by_cases e:k<l.length
   ·rw [mV _ (h e)]
   ·rw [fK e,gq]
instance OT(L:Nat->Nat)[hL:Lok L](l:List ah):Ctr L Tryz.prog 131 [] [.sl false 3 (l.map (ak false))] (.v (.int .i64 (cnt l))) [] (wt l<=1048576):=⟨(aW 131),fun h=>(uh L 1048577 l).out ⟨by omega,by omega⟩⟩
instance OH(L:Nat->Nat)[hL:Lok L](l:List ah):Ctr L Tryz.prog 242 [] [.sl false 3 (l.map (ak false))] (.v (.int .i64 (dep l))) [] (wt l<=1048576):=⟨(aW 242),fun h=>(tZ L 1048577 l).out ⟨by omega,by omega⟩⟩
instance Sm(L:Nat->Nat)[hL:Lok L](l:List ah):Ctr L Tryz.prog 243 [] [.sl false 3 (l.map (ak false))] (.v (.bool (frm l))) [] (wt l<=1048576):=⟨(aW 243),fun h=>(AE L 1048577 l).out ⟨by omega,by omega⟩⟩
instance Qx(L:Nat->Nat)[hL:Lok L](l:List ah):Ctr L Tryz.prog 226 [] [.sl false 3 (l.map (ak false)),.v (.int .i64 1)] (.v (.bool (lfr l 1 && (l.length == 0 || decide (1<=10))))) [] (wt l<=1048576):=⟨(aW 226),fun h=>(xJ L 1048577 l 1).out ⟨by omega,by omega⟩⟩
instance Qy(L:Nat->Nat)[hL:Lok L](l:List ah)(r:Int):Ctr L Tryz.prog 114 [] [.sl false 3 (l.map (ak false)),.v (.int .i64 r)] (.v (.int .i64 (gq l (r - l.length)))) [] (wt l<=1048576/\0<=r/\r<=1048576):=⟨(aW 114),fun h=>(xK L 1048577 l r).out ⟨by omega,by omega,h.2⟩⟩
instance St(L:Nat->Nat)[hL:Lok L](l:List ah):Ctr L Tryz.prog 185 [] [.sl false 3 (l.map (ak false))] (.v (.bool (pF l))) [] (wt l<=1048576):=by
 refine Ctr.bd Tryz.func185 Tryz.ntmps185 rfl rfl fun hp=>?_
 (refine vU ?_;with_reducible repeat' first|exact Le.l|apply Sw|intro h)
 rw [pF]
 refine congrArg (fun z=>AV.v (.bool z)) ?_
 rw [show decide ((cnt l:Int)<=120)=decide (cnt l<=120) from decide_eq_decide.2 (by omega),show decide ((dep l:Int)<=10)=decide (dep l<=10) from decide_eq_decide.2 (by omega)]
instance R8(L:Nat->Nat)[hL:Lok L](l:List ah):Ctr L Tryz.prog 166 [] [.sl false 3 (l.map (ak false))] (.v (.bool (pF l))) [] (wt l<=1048576):=by
 refine Ctr.bd Tryz.func166 Tryz.ntmps166 rfl rfl fun hp=>?_
 (refine vU ?_;with_reducible repeat' first|exact Le.l|apply Sw|intro h)
 rw [<- Ef];rfl
end
section
theorem vF:∀ (n:Nat) (l:List ah) (ps:List Str),Ctr lim Tryz.prog 186 [] [.sl false 3 (l.map (ak false)),.sl false 1 (ps.map AV.str)] (.v (.bool (gY ps l))) [] (wt l<n/\n<=1048577)
 | 0,l,ps=>⟨(aW 186),fun h=>absurd h.1 (Nat.not_lt_zero _)⟩
 | n+1,l,ps=>by
  have ih:=vF n
  refine Ctr.bd Tryz.func186 Tryz.ntmps186 rfl rfl fun hp=>?_
  have hl:l.length<=wt l:=by unfold wt;omega
  (refine vU ?_;with_reducible repeat' first|exact Le.l|apply Sw|intro h)
  refine AW.aw [13] [0,1,11,12] (fun m xs o=>∃ k:Nat,xs=[.v (.int .i64 k)]/\o=[]/\m=l.length - k/\k<=l.length/\gY ps (l.drop k)=gY ps l) l.length [] trivial ⟨0,?_,rfl,rfl,?_,rfl⟩ ?_
  ·rfl
  ·omega
  rintro m xs o ⟨k,rfl,rfl,rfl,hk,hR⟩
  have h1:k<l.length->_:=kr (l:=l) (k:=k)
  refine vO ?_;intros;refine AW.c (fun h=>?_) fun h=>?_
  ·refine vO ?_;intros;refine AW.c (fun h=>?_) fun h=>?_
   ·rw [<- hR,nU ps (l:=l) (k:=k) (by assumption)]
    rcases h with h|h
    ·(refine vU ?_;with_reducible repeat' first|exact Le.l|apply Sw|intro h)
     simp [h]
    ·(refine vU ?_;with_reducible repeat' first|exact Le.l|apply Sw|intro h)
     simp [h]
   ·have hn:=oL (cont ps) (nmL (tk (at_ l k).ax))
    have hnl:=E1 (at_ l k).ax
    refine AW.imp (Imp.frz 7 ?_)
    simp (maxSteps:=2000000) (disch:=omega) only [go_sem,dF]
    (refine vU ?_;with_reducible repeat' first|exact Le.l|apply Sw|intro h)
    refine AW.aw [34] [0,1,11,12,13,32,33] (fun m xs o=>∃ j:Nat,xs=[.v (.int .i64 j)]/\o=[]/\m=(nmL (tk (at_ l k).ax)).length - j/\j<=(nmL (tk (at_ l k).ax)).length/\bL (fun j=>cont ps (at_ (nmL (tk (at_ l k).ax)) j)) j=true) _ [] trivial ⟨0,?_,rfl,rfl,?_,rfl⟩ ?_
    ·rfl
    ·omega
    rintro m xs o ⟨j,rfl,rfl,rfl,hj,hQ⟩
    (refine vU ?_;with_reducible repeat' first|exact Le.l|apply Sw|intro h)
    ·rw [<- hR,nU ps (l:=l) (k:=k) (by assumption),<- hn,cW (by assumption) h];simp
    ·exact ⟨_,[_],[],by omega,⟨j+1,rfl,rfl,rfl,by omega,cj hQ h⟩,rfl,trivial⟩
    ·rw [show j=(nmL (tk (at_ l k).ax)).length by omega] at hQ
     rename_i h8 h9
     refine ⟨_,[_],[],by omega,⟨k+1,rfl,rfl,rfl,by omega,?_⟩,rfl,trivial⟩
     rw [<- hR,nU ps (l:=l) (k:=k) (by assumption),<- hn,hQ,h9.1,h9.2];rfl
  ·(refine vU ?_;with_reducible repeat' first|exact Le.l|apply Sw|intro h)
   rw [<- hR,fK h,gY]
theorem Ax:∀ (n:Nat) (l:List ah) (nm:Str) (ps:List bh) (bd:List ah),Ctr lim Tryz.prog 167 [] [.agg [.str nm,.sl false 6 (ps.map (aV false)),.sl false 3 (bd.map (ak false))],.sl false 3 (l.map (ak false))] (.v (.bool (gY (ps.map bh.af) l))) [] (wt l<n/\n<=1048577)
 | 0,l,nm,ps,bd=>⟨(aW 167),fun h=>absurd h.1 (Nat.not_lt_zero _)⟩
 | n+1,l,nm,ps,bd=>by
  have ih:=Ax n
  refine Ctr.bd Tryz.func167 Tryz.ntmps167 rfl rfl fun hp=>?_
  have hl:l.length<=wt l:=by unfold wt;omega
  (refine vU ?_;with_reducible repeat' first|exact Le.l|apply Sw|intro h)
  refine AW.aw [5] [0,1,2] (fun m xs o=>∃ k:Nat,xs=[.v (.int .i64 k)]/\o=[]/\m=l.length - k/\k<=l.length/\gY (ps.map bh.af) (l.drop k)=gY (ps.map bh.af) l) l.length [] trivial ⟨0,?_,rfl,rfl,?_,rfl⟩ ?_
  ·rfl
  ·omega
  rintro m xs o ⟨k,rfl,rfl,rfl,hk,hR⟩
  have h1:k<l.length->_:=kr (l:=l) (k:=k)
  refine vO ?_;intros;refine AW.c (fun h=>?_) fun h=>?_
  ·(refine vK ?_;with_reducible repeat' first|exact Le.l|apply Sw|intro h)
   have hn:=oL (cont (ps.map bh.af)) (nmL (tk (at_ l k).ax))
   have hnl:=E1 (at_ l k).ax
   refine AW.imp (Imp.frz 6 ?_)
   simp (maxSteps:=2000000) (disch:=omega) only [go_sem,dF]
   refine AW.aw [7,8] [0,1,2,5,6] (fun m xs o=>∃ j:Nat,xs=[.v (.bool ((tk (at_ l k).ax).2 && bL (fun j=>cont (ps.map bh.af) (at_ (nmL (tk (at_ l k).ax)) j)) j)),.v (.int .i64 j)]/\o=[]/\m=(nmL (tk (at_ l k).ax)).length - j/\j<=(nmL (tk (at_ l k).ax)).length) _ [] trivial ⟨0,?_,rfl,rfl,?_⟩ ?_
   ·simp only [bL,Bool.and_true];rfl
   ·omega
   rintro m xs o ⟨j,rfl,rfl,rfl,hj⟩
   (refine vU ?_;with_reducible repeat' first|exact Le.l|apply Sw|intro h)
   ·exact ⟨_,[_,_],[],by omega,⟨j+1,by rw [Ju,Bool.and_assoc];rfl,rfl,rfl,by omega⟩,rfl,trivial⟩
   ·rw [<- hR,nU _ (l:=l) (k:=k) (by assumption),<- hn]
    rw [show j=(nmL (tk (at_ l k).ax)).length by omega] at h
    rcases h with h|h
    ·cases e:(tk (at_ l k).ax).2 with
     | false=>rfl
     | true=>rw [h e];rfl
    ·rw [h,Bool.and_false];rfl
   ·rw [show j=(nmL (tk (at_ l k).ax)).length by omega] at h
    refine ⟨_,[_],[],by omega,⟨k+1,rfl,rfl,rfl,by omega,?_⟩,rfl,trivial⟩
    rw [<- hR,nU _ (l:=l) (k:=k) (by assumption),<- hn,h.1.1,h.1.2,h.2];rfl
  ·(refine vU ?_;with_reducible repeat' first|exact Le.l|apply Sw|intro h)
   rw [<- hR,fK h,gY]
instance PE(l:List ah)(ps:List Str):Ctr lim Tryz.prog 186 [] [.sl false 3 (l.map (ak false)),.sl false 1 (ps.map AV.str)] (.v (.bool (gY ps l))) [] (wt l<=1048576):=⟨(aW 186),fun h=>(vF 1048577 l ps).out ⟨by omega,by omega⟩⟩
instance Si(l:List ah)(nm:Str)(ps:List bh)(bd:List ah):Ctr lim Tryz.prog 167 [] [.agg [.str nm,.sl false 6 (ps.map (aV false)),.sl false 3 (bd.map (ak false))],.sl false 3 (l.map (ak false))] (.v (.bool (gY (ps.map bh.af) l))) [] (wt l<=1048576):=⟨(aW 167),fun h=>(Ax 1048577 l nm ps bd).out ⟨by omega,by omega⟩⟩
end
end Go.Proofs
namespace Go.Proofs
open Go.Ab Go.Dt
section
section
variable (ip : Str -> Bool)
variable [hs : ∀ s, Ctr lim Tryz.prog 225 [] [.str s] (.v (.bool (ip s))) [] True] [hi : ∀ s, Ctr lim Tryz.prog 241 [] [.str s] (.v (.bool (ip s))) [] True]
omit hs in
include hi in
theorem Im(x:cL):Ctr lim Tryz.prog 184 [] [.agg [.v (.int .i64 x.ai),.sl false 2 (x.av.map (aI false)),.sl false 1 (x.ay.map AV.str),.str x.aN,.str x.aA]] (.v (.bool (isType ip x))) [] True:=by
 refine Ctr.bd Tryz.func184 Tryz.ntmps184 rfl rfl fun hp=>?_
 refine AW.fact 0 fun hf=>?_
 simp (disch:=omega) only [go_sem,Nat.reduceBEq] at hf
 (refine vU ?_;with_reducible repeat' first|exact Le.l|apply Sw|intro h)
 ·rw [<- H8 h]
 ·rw [<- H7 (by assumption) h]
 ·rw [<- H6 (by assumption) h];rfl
 ·rw [<- H5 (by assumption) h]
 ·rw [<- H4 (by assumption) h]
 ·rw [<- H3 (by assumption) (by assumption) (by assumption) (by assumption) h]
omit hi in
include hs in
theorem Ht(x:cL):Ctr lim Tryz.prog 165 [] [.agg [.v (.int .i64 x.ai),.sl false 2 (x.av.map (aI false)),.sl false 1 (x.ay.map AV.str),.str x.aN,.str x.aA]] (.v (.bool (isType ip x))) [] True:=by
 refine Ctr.bd Tryz.func165 Tryz.ntmps165 rfl rfl fun hp=>?_
 refine AW.fact 0 fun hf=>?_
 simp (disch:=omega) only [go_sem,Nat.reduceBEq] at hf
 (refine vU ?_;with_reducible repeat' first|exact Le.l|apply Sw|intro h)
 refine AW.aw [3] [0,1] (fun m xs o=>∃ k:Nat,xs=[.v (.int .i64 k)]/\o=[]/\m=x.ay.length - k/\k<=x.ay.length/\bL (fun j=>isName (at_ x.ay j)) k=true/\bL (fun j=>!cont (x.ay.take j) (at_ x.ay j)) k=true) x.ay.length [] trivial ⟨0,?_,rfl,rfl,?_,rfl,rfl⟩ ?_
 ·rfl
 ·omega
 rintro m xs o ⟨k,rfl,rfl,rfl,hk,hR,hQ⟩
 refine vO ?_;intros;refine AW.c (fun h=>?_) fun h=>?_
 ·(refine vK ?_;with_reducible repeat' first|exact Le.l|apply Sw|intro h)
  refine AW.aw [4] [0,1,3] (fun m xs o=>∃ j:Nat,xs=[.v (.int .i64 j)]/\o=[]/\m=k - j/\j<=k/\∀ y∈(x.ay.take k).take j,(y == at_ x.ay k)=false) k [] trivial ⟨0,?_,rfl,rfl,?_,?_⟩ ?_
  ·rfl
  ·omega
  ·simp
  rintro m xs o ⟨j,rfl,rfl,rfl,hj,hS⟩
  (refine vU ?_;with_reducible repeat' first|exact Le.l|apply Sw|intro h)
  ·rw [<- yg (by assumption) (.inr (cW (by assumption) (by rw [sO (by assumption) (by assumption) h];rfl)))]
  ·exact ⟨_,[_],[],by omega,⟨j+1,rfl,rfl,rfl,by omega,bD (by rw [List.length_take];omega) hS (by rw [zL (by assumption)];simpa using h)⟩,rfl,trivial⟩
  ·rw [<- yg (by assumption) (.inl (cW (by assumption) h))]
  ·rw [show j=k by omega,List.take_take,Nat.min_self] at hS
   exact ⟨_,[_],[],by omega,⟨k+1,rfl,rfl,rfl,by omega,cj hR h,cj hQ (by rw [qu hS];rfl)⟩,rfl,trivial⟩
 ·rw [show k=x.ay.length by omega] at hR hQ
  (refine vU ?_;with_reducible repeat' first|exact Le.l|apply Sw|intro h)
  ·rw [<- Ie h]
  ·rw [<- Ic h];rfl
  ·rw [<- Ib h hR hQ]
  ·rw [<- Ia h]
  ·rw [<- AB (by assumption) (by assumption) (by assumption) (by assumption) (.inl h)]
  ·rw [<- AB (by assumption) (by assumption) (by assumption) (by assumption) (.inr h)]
  ·rw [<- H9 (by assumption) (by assumption) (by assumption) (by assumption) (by assumption) (by assumption)]
end
end
section
section
variable (ip : Str -> Bool)
variable [hs : ∀ x : cL, Ctr lim Tryz.prog 165 [] [.agg [.v (.int .i64 x.ai), .sl false 2 (x.av.map (aI false)), .sl false 1 (x.ay.map AV.str), .str x.aN, .str x.aA]] (.v (.bool (isType ip x))) [] True]
variable [hi : ∀ x : cL, Ctr lim Tryz.prog 184 [] [.agg [.v (.int .i64 x.ai), .sl false 2 (x.av.map (aI false)), .sl false 1 (x.ay.map AV.str), .str x.aN, .str x.aA]] (.v (.bool (isType ip x))) [] True]
omit hs in
include hi in
theorem Bo(x:aL):Ctr lim Tryz.prog 123 [] [.agg [.str x.af,.sl false 6 (x.aC.map (aV false)),.sl false 3 (x.cD.map (ak false))]] (.v (.bool (di ip x))) [] (wt x.cD<=1048576/\x.aC.length<=1048576):=by
 refine Ctr.bd Tryz.func123 Tryz.ntmps123 rfl rfl fun hp=>?_
 refine AW.fact 0 fun hf=>?_
 simp (disch:=omega) only [go_sem,Nat.reduceBEq] at hf
 (refine vU ?_;with_reducible repeat' first|exact Le.l|apply Sw|intro h)
 refine AW.aw [3,10] [0,1,8,9] (fun m xs o=>∃ k:Nat,xs=[.sl true 1 (((x.aC.take k).map bh.af).map AV.str),.v (.int .i64 k)]/\o=[]/\m=x.aC.length - k/\k<=x.aC.length/\bL (qa ip x.aC) k=true) x.aC.length [] trivial ⟨0,?_,rfl,rfl,?_,rfl⟩ ?_
 ·rfl
 ·omega
 rintro m xs o ⟨k,rfl,rfl,rfl,hk,hR⟩
 have hlt:(x.aC.take k).length=k:=by rw [List.length_take];omega
 refine vO ?_;intros;refine AW.c (fun h=>?_) fun h=>?_
 ·(refine vU ?_;with_reducible repeat' first|exact Le.l|apply Sw|intro h)
  ·rw [tf (by assumption) (by rcases h with h|h<;>simp [qa,h])]
  ·refine ⟨_,[_,_],[],by omega,⟨k+1,rfl,rfl,rfl,by omega,cj hR (by simp [qa,h])⟩,?_,trivial⟩
   have e:x.aC.take (k+1)=x.aC.take k++[at_ x.aC k]:=by
    rw [List.take_succ_eq_append_getElem (by assumption)]
    unfold at_;rw [List.getElem?_eq_getElem (by assumption)];rfl
   rw [e,List.map_append,List.map_append];rfl
 ·refine AW.imp (Imp.frz 3 ?_)
  simp (maxSteps:=2000000) (disch:=omega) only [go_sem,dF]
  (refine vU ?_;with_reducible repeat' first|exact Le.l|apply Sw|intro h)
  rw [show k=x.aC.length by omega] at hR hlt ⊢
  rw [hlt,List.take_length]
  refine congrArg (fun z=>AV.v (.bool z)) ?_
  rw [di,hR,Bool.true_and,show decide ((x.aC.length:Int)<=6)=decide (x.aC.length<=6) from decide_eq_decide.2 (by omega)]
  cases cl (x.aC.map bh.af)<;>simp
omit hi in
include hs in
theorem Bg(x:aL):Ctr lim Tryz.prog 108 [] [.agg [.str x.af,.sl false 6 (x.aC.map (aV false)),.sl false 3 (x.cD.map (ak false))]] (.v (.bool (di ip x))) [] (wt x.cD<=1048576/\x.aC.length<=1048576):=by
 refine Ctr.bd Tryz.func108 Tryz.ntmps108 rfl rfl fun hp=>?_
 refine AW.fact 0 fun hf=>?_
 simp (disch:=omega) only [go_sem,Nat.reduceBEq] at hf
 (refine vU ?_;with_reducible repeat' first|exact Le.l|apply Sw|intro h)
 refine AW.aw [3] [0,1] (fun m xs o=>∃ k:Nat,xs=[.v (.int .i64 k)]/\o=[]/\m=x.aC.length - k/\k<=x.aC.length/\bL (qa ip x.aC) k=true/\bL (fun j=>!cont ((x.aC.map bh.af).take j) (at_ (x.aC.map bh.af) j)) k=true) x.aC.length [] trivial ⟨0,?_,rfl,rfl,?_,rfl,rfl⟩ ?_
 ·rfl
 ·omega
 rintro m xs o ⟨k,rfl,rfl,rfl,hk,hR,hQ⟩
 (refine vU ?_;with_reducible repeat' first|exact Le.l|apply Sw|intro h)
 ·rename_i h9
  rcases h with h|h
  ·rw [tf h9 (by rcases h with h|h<;>simp [qa,h])]
  ·rw [zl h9 (by
    cases e:cont ((x.aC.map bh.af).take k) (at_ (x.aC.map bh.af) k) with
    | true=>rfl
    | false=>exact absurd ((Ad h9).2 e) h)]
 ·exact ⟨_,[_],[],by omega,⟨k+1,rfl,rfl,rfl,by omega,cj hR (by simp [qa,h]),cj hQ (by rw [(Ad (by assumption)).1 h.2];rfl)⟩,rfl,trivial⟩
 ·rw [show k=x.aC.length by omega] at hR hQ
  refine congrArg (fun z=>AV.v (.bool z)) ?_
  have hd:cl (x.aC.map bh.af)=true:=by unfold cl;rw [List.length_map];exact hQ
  rw [di,hR,hd,Bool.true_and,Bool.true_and,show decide ((x.aC.length:Int)<=6)=decide (x.aC.length<=6) from decide_eq_decide.2 (by omega)]
end
end
end Go.Proofs
