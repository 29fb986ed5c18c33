/- A part. -/
import Derived.Test.YtmcjbaafmjlblaaGreatDoorJ8
set_option linter.all false
set_option maxRecDepth 20000
set_option maxHeartbeats 4000000
namespace Go.Dt
open Go.Ab
def wtg:List ah->Nat
 | []=>0
 | .mk n v ks::xs=>(n.length+v.length+ks.length+wtg ks)+wtg xs
def wt(l:List ah):Nat:=l.length+wtg l
def kc:List ah->Nat
 | []=>0
 | .mk _ _ ks::xs=>(ks.length+kc ks)+kc xs
def cnt(l:List ah):Nat:=l.length+kc l
def dep:List ah->Nat
 | []=>0
 | .mk _ _ ks::xs=>max (1+dep ks) (dep xs)
def J1(x:ah):Bool:=isName x.ae && isText x.av && (x.av == [] || x.af.length == 0)
def frm:List ah->Bool
 | []=>true
 | .mk n v ks::xs=>(J1 (.mk n v ks) && frm ks) && frm xs
def lfr:List ah->Nat->Bool
 | [],_=>true
 | .mk n v ks::xs,d=>(J1 (.mk n v ks) && (lfr ks (d+1) && (ks.length == 0 || decide (d+1<=10)))) && lfr xs d
def fe:List ah->Int->Int
 | [],q=>q
 | .mk _ _ ks::xs,q=>if q<0 then q else fe xs (fe ks (q - ks.length))
def Fi(ps:List Str):List ah->Bool
 | []=>true
 | .mk _ v ks::xs=>(((tk v).2 && (nmL (tk v)).all (cont ps)) && Fi ps ks) && Fi ps xs
section
variable {l : List ah} {k : Nat}
theorem Qi(h:k<l.length):wtg (l.drop k)=((at_ l k).ae.length+(at_ l k).av.length+(at_ l k).af.length+wtg (at_ l k).af)+wtg (l.drop (k+1)):=by
 rw [da h];cases at_ l k;rw [wtg];rfl
theorem ND(h:k<l.length):kc (l.drop k)=((at_ l k).af.length+kc (at_ l k).af)+kc (l.drop (k+1)):=by
 rw [da h];cases at_ l k;rw [kc];rfl
theorem GM(h:k<l.length)(q:Int):fe (l.drop k) q=if q<0 then q else fe (l.drop (k+1)) (fe (at_ l k).af (q - (at_ l k).af.length)):=by
 rw [da h];cases at_ l k;rw [fe];rfl
theorem og(h:k<l.length):wt (at_ l k).af<wt l/\(at_ l k).ae.length<=wt l/\(at_ l k).av.length<=wt l:=by
 have h1:=Qi h
 have h2:∀ j (l:List ah),wtg (l.drop j)<=wtg l:=by
  intro j
  induction j with
  | zero=>intro l;simp
  | succ j ih =>
   intro l
   cases l with
   | nil=>simp
   | cons x xs=>cases x;simp only [List.drop_succ_cons,wtg];have:=ih xs;omega
 have h3:=h2 k l
 unfold wt
 omega
end
theorem GY{α β:Type}(f:α->β)(p:β->Bool):∀ l:List α,idx (fun x=>p (f x)) l=idx p (l.map f)
 | []=>rfl
 | x::xs=>by simp only [List.map_cons,idx,GY f p xs]
theorem dh{α:Type}{l:List α}{k:Nat}(h:¬ k<l.length):l.drop k=[]:=List.drop_eq_nil_of_le (by omega)
theorem Ii:∀ l:List ah,kc l<=wtg l
 | []=>by simp [kc]
 | .mk n v ks::xs=>by have:=Ii ks;have:=Ii xs;simp only [kc,wtg];omega
theorem Fa(l:List ah):cnt l<=wt l:=by have:=Ii l;unfold cnt wt;omega
theorem wm:∀ (l:List ah) (q:Int),fe l q<=q
 | [],q=>by simp [fe]
 | .mk n v ks::xs,q=>by
  have h1:=wm ks (q - ks.length)
  have h2:=wm xs (fe ks (q - ks.length))
  simp only [fe];split<;>omega
theorem mr(l:List ah){q:Int}(h:q<0):fe l q=q:=by
 cases l with
 | nil=>rw [fe]
 | cons x xs=>cases x;simp only [fe];rw [if_pos h]
theorem wq:∀ (l:List ah) (q:Int),0<=q->(0<=fe l q↔(kc l:Int)<=q)/\((kc l:Int)<=q->fe l q=q - kc l)
 | [],q,h=>by simp only [fe,kc];omega
 | .mk n v ks::xs,q,h=>by
  simp only [fe,kc]
  rw [if_neg (by omega)]
  rcases Int.lt_or_le (q - ks.length) 0 with h1|h1
  ·rw [mr ks h1,mr xs h1]
   constructor
   ·omega
   ·omega
  ·have h2:=wq ks _ h1
   rcases Int.lt_or_le (fe ks (q - ks.length)) 0 with h3|h3
   ·rw [mr xs h3]
    constructor
    ·omega
    ·omega
   ·have h4:=wq xs _ h3
    have h5:=h2.2 (h2.1.1 h3)
    rw [h5] at h3 h4 ⊢
    constructor
    ·omega
    ·omega
theorem AF:∀ (l:List ah) (q:Int),-4611686018427387904<=q->(wt l:Int)<=1048576->-4611686018427387904<=fe l q
 | [],q,h,_=>by simpa [fe] using h
 | .mk n v ks::xs,q,h,hw=>by
  simp only [fe]
  split
  ·exact h
  ·have e:(wt (.mk n v ks::xs):Nat)=(n.length+v.length+wt ks)+1+wt xs:=by simp only [wt,wtg,List.length_cons];omega
   have e2:ks.length<=wt ks:=by unfold wt;omega
   exact AF xs _ (AF ks _ (by omega) (by omega)) (by omega)
def Rp(l:List ah):Bool:=decide (cnt l<=120) && decide (dep l<=10) && frm l
theorem eY{a:Int}{k:Int->Int}(h:0<=thn a k):0<=a/\thn a k=k a:=by
 unfold thn at h ⊢
 split at h
 ·omega
 ·rw [if_neg (by assumption)];exact ⟨by omega,rfl⟩
theorem xC:∀ (l:List ah) (r:Int),0<=r->0<=jH l r->jH l r+wtg l=r
 | [],r,_,_=>by simp [jH,wtg]
 | .mk n v ks::xs,r,h0,h=>by
  rw [jH] at h ⊢
  have hx:∀ q,0<=bM (.mk n v ks) q->0<=q->bM (.mk n v ks) q+(n.length+v.length+ks.length+wtg ks:Nat)=q:=by
   intro q hq h0
   rw [bM] at hq ⊢
   obtain ⟨h1,e1⟩:=eY hq
   rw [e1] at hq ⊢
   obtain ⟨h2,e2⟩:=eY hq
   rw [e2] at hq ⊢
   obtain ⟨h3,e3⟩:=eY hq
   rw [e3] at hq ⊢
   simp only [id] at h3 ⊢
   obtain ⟨h4,e4⟩:=eY h3
   rw [e4] at h3 ⊢
   have:=xC ks _ h4 h3
   unfold aC at *
   omega
  obtain ⟨h1,e1⟩:=eY h
  rw [e1] at h ⊢
  have h3:=hx r h1 h0
  have h2:=xC xs _ h1 h
  rw [wtg]
  omega
theorem C6{l:List ah}{r:Int}(h0:0<=r)(h:0<=aG bM l r):(wt l:Int)<=r:=by
 rcases Int.lt_or_le (r - l.length) 0 with h2|h2
 ·rw [fQ h2] at h;omega
 ·rw [gr h2,<- qX] at h
  have:=xC l _ h2 h
  unfold wt;omega
def isType(ip:Str->Bool)(x:dx):Bool :=
 (decide (x.ai=1) && fW x.aB && x.ax.isEmpty && x.aW.isEmpty && x.aE.isEmpty) ||
 (decide (x.ai=2) && fW x.aB && (x.aB.isEmpty || decide (0<=(at_ x.aB 0).fLo)) && (x.aW.isEmpty || ip x.aW) && x.ax.isEmpty && x.aE.isEmpty) ||
 (decide (x.ai=4) && decide (1<=x.ax.length) && decide (x.ax.length<=6) && names x.ax && cn x.ax && x.aB.isEmpty && x.aW.isEmpty && x.aE.isEmpty) ||
 (decide (x.ai=5) && isText x.aE && !x.aE.isEmpty && x.aB.isEmpty && x.ax.isEmpty && x.aW.isEmpty) ||
 (decide (x.ai=3\/x.ai=6) && x.aB.isEmpty && x.ax.isEmpty && x.aW.isEmpty && x.aE.isEmpty)
section
variable {ip : Str -> Bool} {x : dx}
theorem uV(h:x.ai=1):isType ip x=(fW x.aB && x.ax.isEmpty && x.aW.isEmpty && x.aE.isEmpty):=by simp [isType,h]
theorem uT(h:x.ai=2):isType ip x=(fW x.aB && (x.aB.isEmpty || decide (0<=(at_ x.aB 0).fLo)) && (x.aW.isEmpty || ip x.aW) && x.ax.isEmpty && x.aE.isEmpty):=by simp [isType,h]
theorem qF(h:x.ai=4):isType ip x=(decide (1<=x.ax.length) && decide (x.ax.length<=6) && names x.ax && cn x.ax && x.aB.isEmpty && x.aW.isEmpty && x.aE.isEmpty):=by simp [isType,h]
theorem uS(h:x.ai=5):isType ip x=(isText x.aE && !x.aE.isEmpty && x.aB.isEmpty && x.ax.isEmpty && x.aW.isEmpty):=by simp [isType,h]
theorem qE(h1:¬ x.ai=1)(h2:¬ x.ai=2)(h4:¬ x.ai=4)(h5:¬ x.ai=5):isType ip x=(decide (x.ai=3\/x.ai=6) && x.aB.isEmpty && x.ax.isEmpty && x.aW.isEmpty && x.aE.isEmpty):=by simp [isType,h1,h2,h4,h5]
theorem Kx(h:(((¬x.ai=1/\¬x.ai=2)/\¬x.aB=[]\/¬x.ai=4/\¬x.ax=[])\/¬x.ai=2/\¬x.aW=[])\/¬x.ai=5/\¬x.aE=[]):isType ip x=false:=by
 by_cases h1:x.ai=1
 ·rw [uV h1];simp [h1] at h
  rcases h with (h|h)|h<;>simp [h]
 by_cases h2:x.ai=2
 ·rw [uT h2];simp [h2] at h
  rcases h with h|h<;>simp [h]
 by_cases h4:x.ai=4
 ·rw [qF h4];simp [h4] at h
  rcases h with (h|h)|h<;>simp [h]
 by_cases h5:x.ai=5
 ·rw [uS h5];simp [h5] at h
  rcases h with (h|h)|h<;>simp [h]
 ·rw [qE h1 h2 h4 h5];simp [h1,h2,h4,h5] at h
  rcases h with ((h|h)|h)|h<;>simp [h]
end
section
variable {ip : Str -> Bool} {x : dx}
theorem p7{α:Type}{l:List α}(h:(l.length:Int)<=0):l=[]:=List.length_eq_zero_iff.1 (by omega)
theorem Wm{α:Type}(l:List α):((l.length:Int) == 0)=l.isEmpty:=by cases l<;>simp<;>omega
theorem oU{α:Type}[BEq α](l:List α):(l == [])=l.isEmpty:=by cases l<;>rfl
theorem Kq(h:(((¬x.ai=1/\¬x.ai=2)/\(0:Int)<x.aB.length\/¬x.ai=4/\(0:Int)<x.ax.length)\/¬x.ai=2/\¬x.aW=[])\/¬x.ai=5/\¬x.aE=[]):false=isType ip x:=by
 have e3:(0:Int)<x.aB.length↔¬ x.aB=[]:=by rw [<- List.length_eq_zero_iff];omega
 have e4:(0:Int)<x.ax.length↔¬ x.ax=[]:=by rw [<- List.length_eq_zero_iff];omega
 rw [e3,e4] at h
 exact (Kx h).symm
section
variable (H : (((¬x.ai = 1 /\ ¬x.ai = 2 -> (x.aB.length : Int) <= 0) /\ (¬x.ai = 4 -> (x.ax.length : Int) <= 0)) /\ (¬x.ai = 2 -> x.aW = [])) /\ (¬x.ai = 5 -> x.aE = []))
include H
theorem Ko(h:x.ai=1):fW x.aB=isType ip x:=by
 rw [uV h,p7 (H.1.1.2 (by omega)),H.1.2 (by omega),H.2 (by omega)];simp
theorem Kn(h:x.ai=2):(fW x.aB && ((x.aB.length:Int) == 0 || decide (0<=(at_ x.aB 0).fLo)) && (x.aW == [] || ip x.aW))=isType ip x:=by
 rw [uT h,p7 (H.1.1.2 (by omega)),H.2 (by omega),Wm,oU];simp
theorem Km(h:x.ai=4):(decide ((1:Int)<=x.ax.length) && decide ((x.ax.length:Int)<=6) && names x.ax && cn x.ax)=isType ip x:=by
 rw [qF h,p7 (H.1.1.1 (by omega)),H.1.2 (by omega),H.2 (by omega)]
 rw [show decide ((1:Int)<=x.ax.length)=decide (1<=x.ax.length) from decide_eq_decide.2 (by omega),show decide ((x.ax.length:Int)<=6)=decide (x.ax.length<=6) from decide_eq_decide.2 (by omega)]
 simp
theorem Kl(h:x.ai=5):(!x.aE == [] && isText x.aE)=isType ip x:=by
 rw [uS h,p7 (H.1.1.1 (by omega)),p7 (H.1.1.2 (by omega)),H.1.2 (by omega),oU]
 cases x.aE.isEmpty<;>simp
theorem Kk(h1:¬ x.ai=1)(h2:¬ x.ai=2)(h4:¬ x.ai=4)(h5:¬ x.ai=5):(x.ai == 3 || x.ai == 6)=isType ip x:=by
 rw [qE h1 h2 h4 h5,p7 (H.1.1.1 (by omega)),p7 (H.1.1.2 (by omega)),H.1.2 (by omega),H.2 (by omega)]
 by_cases h3:x.ai=3<;>by_cases h6:x.ai=6<;>simp [h3,h6]
end
end
theorem uW{α:Type}(l:List α):(!decide ((0:Int)<l.length))=l.isEmpty:=by
 cases l with
 | nil=>rfl
 | cons x xs=>simp
theorem GX(s:Str):∀ l:List Str,0<=idx (fun x=>x == s) l↔s∈l
 | []=>by simp [idx]
 | x::xs=>by
  have ih:=GX s xs
  have h0:=ou (fun x=>x == s) xs
  by_cases e:x=s
  ·subst e;simp [idx]
  ·have e':(x == s)=false:=by simpa using e
   have e'':¬ s=x:=fun h=>e h.symm
   simp only [idx,e',Bool.false_eq_true,if_false,List.mem_cons,e'',false_or,<- ih]
   split<;>omega
theorem lA(l:List Str)(s:Str):cont l s=true↔s∈l:=by
 unfold cont
 rw [decide_eq_true_eq,GX]
theorem Bp{α:Type}[Inhabited α]{l:List α}{j k:Nat}(h:j<k):at_ (l.take k) j=at_ l j:=by unfold at_;rw [List.getElem?_take,if_pos h]
theorem tF{l:List Str}{j k:Nat}(hj:j<k)(hk:k<l.length)(h:at_ l j=at_ l k):cont (l.take k) (at_ l k)=true:=by
 rw [lA,<- h]
 have:(l.take k)[j]? = some (at_ l j):=by rw [List.getElem?_take,if_pos hj];exact su (by omega)
 exact List.mem_of_getElem? this
theorem qN{l:List Str}{k:Nat}{s:Str}(h:∀ y∈l.take k,(y == s)=false):cont (l.take k) s=false:=by
 rw [Bool.eq_false_iff]
 intro hc
 have:=h s ((lA _ _).1 hc)
 simp at this
section
variable {ip : Str -> Bool} {x : dx}
theorem zx{k:Nat}(hk:k<x.ax.length)(h:names x.ax=false\/cn x.ax=false):false=isType ip x:=by
 have e:x.ax.isEmpty=false:=by cases hx:x.ax with|nil=>rw [hx] at hk;simp at hk|cons a b=>rfl
 unfold isType
 rw [e]
 rcases h with h|h<;>simp [h]
theorem Kw(h:x.ai=1):(fW x.aB && !decide ((0:Int)<x.ax.length) && x.aW == [] && x.aE == [])=isType ip x:=by
 rw [uV h,uW,oU,oU]
theorem Kv(h:x.ai=2):(fW x.aB && (!decide ((0:Int)<x.aB.length) || decide (0<=(at_ x.aB 0).fLo)) && (x.aW == [] || ip x.aW) && !decide ((0:Int)<x.ax.length) && x.aE == [])=isType ip x:=by
 rw [uT h,uW,uW,oU,oU]
theorem Ku(h:x.ai=4)(h1:names x.ax=true)(h2:cn x.ax=true):(decide ((1:Int)<=x.ax.length) && decide ((x.ax.length:Int)<=6) && !decide ((0:Int)<x.aB.length) && x.aW == [] && x.aE == [])=isType ip x:=by
 rw [qF h,uW,oU,oU,h1,h2,Bool.and_true,Bool.and_true]
 rw [show decide ((1:Int)<=x.ax.length)=decide (1<=x.ax.length) from decide_eq_decide.2 (by omega),show decide ((x.ax.length:Int)<=6)=decide (x.ax.length<=6) from decide_eq_decide.2 (by omega)]
theorem Kt(h:x.ai=5):(isText x.aE && !x.aE == [] && !decide ((0:Int)<x.aB.length) && !decide ((0:Int)<x.ax.length) && x.aW == [])=isType ip x:=by
 rw [uS h,uW,uW,oU,oU]
theorem BW(h1:¬ x.ai=1)(h2:¬ x.ai=2)(h4:¬ x.ai=4)(h5:¬ x.ai=5)(h:x.ai=3\/x.ai=6):(!decide ((0:Int)<x.aB.length) && !decide ((0:Int)<x.ax.length) && x.aW == [] && x.aE == [])=isType ip x:=by
 rw [qE h1 h2 h4 h5,uW,uW,oU,oU,show decide (x.ai=3\/x.ai=6)=true by simpa using h,Bool.true_and]
theorem Kr(h1:¬ x.ai=1)(h2:¬ x.ai=2)(h4:¬ x.ai=4)(h5:¬ x.ai=5)(h3:¬ x.ai=3)(h6:¬ x.ai=6):false=isType ip x:=by
 rw [qE h1 h2 h4 h5,show decide (x.ai=3\/x.ai=6)=false by simp [h3,h6]];rfl
end
def Tw(ip:Str->Bool)(l:List jE)(j:Nat):Bool:=isName (at_ l j).ae && isType ip (at_ l j).fType
def Ik(ip:Str->Bool)(x:fH):Bool:=cO (Tw ip x.mP) x.mP.length && cn (x.mP.map jE.ae) && isName x.ae && decide (x.mP.length<=6) && Rp x.zL && Fi (x.mP.map jE.ae) x.zL
end Go.Dt
namespace Go.Proofs
open Go.Ab Go.Dt
set_option maxHeartbeats 2000000
section
theorem u6(L:Nat->Nat)[hL:Lok L]:∀ (n:Nat) (l:List ah),Ctr L Tryz.prog 132 [] [.sl false 3 (l.map (aj false))] (.v (.int .i64 (cnt l))) [] (wt l<n/\n<=1048577)
 | 0,l=>⟨(aM 132),fun h=>absurd h.1 (Nat.not_lt_zero _)⟩
 | n+1,l=>by
  have ih:=u6 L n
  refine Ctr.bd Tryz.func132 Tryz.ntmps132 rfl rfl fun hp=>?_
  have hc:=Fa l
  have hl:l.length<=wt l:=by unfold wt;omega
  (refine vU ?_;with_reducible repeat' first|exact Le.l|apply Sw|intro h)
  refine AW.aA [3,10] [0,8,9] (fun m xs o=>∃ k q:Nat,xs=[.v (.int .i64 q),.v (.int .i64 k)]/\o=[]/\m=l.length - k/\k<=l.length/\q+kc (l.drop k)=cnt l) l.length [] trivial ⟨0,l.length,?_,rfl,rfl,?_,rfl⟩ ?_
  ·rfl
  ·omega
  rintro m xs o ⟨k,q,rfl,rfl,rfl,hk,hR⟩
  have h1:k<l.length->_:=og (l:=l) (k:=k)
  have h2:k<l.length->_:=ND (l:=l) (k:=k)
  have h3:cnt (at_ l k).af=(at_ l k).af.length+kc (at_ l k).af:=rfl
  (refine vU ?_;with_reducible repeat' first|exact Le.l|apply Sw|intro h)
  ·exact ⟨_,[_,_],[],by omega,⟨k+1,q+cnt (at_ l k).af,rfl,rfl,rfl,by omega,by omega⟩,rfl,trivial⟩
  ·rw [dh h,kc] at hR;rw [<- hR,Nat.add_zero]
theorem yZ(L:Nat->Nat)[hL:Lok L]:∀ (n:Nat) (l:List ah) (r:Int),Ctr L Tryz.prog 127 [] [.sl false 3 (l.map (aj false)),.v (.int .i64 r)] (.v (.int .i64 (fe l (r - l.length)))) [] (wt l<n/\n<=1048577/\0<=r/\r<=1048576)
 | 0,l,r=>⟨(aM 127),fun h=>absurd h.1 (Nat.not_lt_zero _)⟩
 | n+1,l,r=>by
  have ih:=yZ L n
  refine Ctr.bd Tryz.func127 Tryz.ntmps127 rfl rfl fun hp=>?_
  have hl:l.length<=wt l:=by unfold wt;omega
  (refine vU ?_;with_reducible repeat' first|exact Le.l|apply Sw|intro h)
  refine AW.aA [1,5] [0] (fun m xs o=>∃ (k:Nat) (q:Int),xs=[.v (.int .i64 q),.v (.int .i64 k)]/\o=[]/\m=l.length - k/\k<=l.length/\-4611686018427387904<=q/\q<=1048576/\fe (l.drop k) q=fe l (r - l.length)) l.length [] trivial ⟨0,r - l.length,?_,rfl,rfl,?_,?_,?_,rfl⟩ ?_
  ·rfl
  ·omega
  ·omega
  ·omega
  rintro m xs o ⟨k,q,rfl,rfl,rfl,hk,h0,h1,hR⟩
  have hw:k<l.length->_:=og (l:=l) (k:=k)
  have h3:=wm (at_ l k).af (q - (at_ l k).af.length)
  (refine vU ?_;with_reducible repeat' first|exact Le.l|apply Sw|intro h)
  ·have h4:-4611686018427387904<=fe (at_ l k).af (q - (at_ l k).af.length):=AF _ _ (by have:=hw h.1;unfold wt at *;omega) (by have:=hw h.1;omega)
   refine ⟨_,[_,_],[],by omega,⟨k+1,_,rfl,rfl,rfl,by omega,h4,by omega,?_⟩,rfl,trivial⟩
   rw [<- hR,GM h.1,if_neg (by omega)]
  ·rw [<- hR]
   by_cases e:k<l.length
   ·rw [mr _ (h e)]
   ·rw [dh e,fe]
instance RB(L:Nat->Nat)[hL:Lok L](l:List ah):Ctr L Tryz.prog 132 [] [.sl false 3 (l.map (aj false))] (.v (.int .i64 (cnt l))) [] (wt l<=1048576):=⟨(aM 132),fun h=>(u6 L 1048577 l).out ⟨by omega,by omega⟩⟩
instance Tl(L:Nat->Nat)[hL:Lok L](l:List ah)(r:Int):Ctr L Tryz.prog 127 [] [.sl false 3 (l.map (aj false)),.v (.int .i64 r)] (.v (.int .i64 (fe l (r - l.length)))) [] (wt l<=1048576/\0<=r/\r<=1048576):=⟨(aM 127),fun h=>(yZ L 1048577 l r).out ⟨by omega,by omega,h.2⟩⟩
end
section
end
end Go.Proofs
namespace Go.Proofs
open Go.Ab Go.Dt
section
section
variable (ip : Str -> Bool)
variable [hs : ∀ s, Ctr lim Tryz.prog 245 [] [.str s] (.v (.bool (ip s))) [] True] [hi : ∀ s, Ctr lim Tryz.prog 256 [] [.str s] (.v (.bool (ip s))) [] True]
omit hs in
include hi in
theorem KH(x:dx):Ctr lim Tryz.prog 232 [] [.agg [.v (.int .i64 x.ai),.sl false 2 (x.aB.map (aR false)),.sl false 1 (x.ax.map AV.str),.str x.aW,.str x.aE]] (.v (.bool (isType ip x))) [] True:=by
 refine Ctr.bd Tryz.func232 Tryz.ntmps232 rfl rfl fun hp=>?_
 refine AW.fact 0 fun hf=>?_
 simp (disch:=omega) only [go_sem,Nat.reduceBEq] at hf
 (refine vU ?_;with_reducible repeat' first|exact Le.l|apply Sw|intro h)
 ·rw [<- Kq h]
 ·rw [<- Ko (by assumption) h]
 ·rw [<- Kn (by assumption) h];rfl
 ·rw [<- Km (by assumption) h]
 ·rw [<- Kl (by assumption) h]
 ·rw [<- Kk (by assumption) (by assumption) (by assumption) (by assumption) h]
omit hi in
include hs in
theorem Jy(x:dx):Ctr lim Tryz.prog 221 [] [.agg [.v (.int .i64 x.ai),.sl false 2 (x.aB.map (aR false)),.sl false 1 (x.ax.map AV.str),.str x.aW,.str x.aE]] (.v (.bool (isType ip x))) [] True:=by
 refine Ctr.bd Tryz.func221 Tryz.ntmps221 rfl rfl fun hp=>?_
 refine AW.fact 0 fun hf=>?_
 simp (disch:=omega) only [go_sem,Nat.reduceBEq] at hf
 (refine vU ?_;with_reducible repeat' first|exact Le.l|apply Sw|intro h)
 refine AW.aA [3] [0,1] (fun m xs o=>∃ k:Nat,xs=[.v (.int .i64 k)]/\o=[]/\m=x.ax.length - k/\k<=x.ax.length/\cO (fun j=>isName (at_ x.ax j)) k=true/\cO (fun j=>!cont (x.ax.take j) (at_ x.ax j)) k=true) x.ax.length [] trivial ⟨0,?_,rfl,rfl,?_,rfl,rfl⟩ ?_
 ·rfl
 ·omega
 rintro m xs o ⟨k,rfl,rfl,rfl,hk,hR,hQ⟩
 refine vO ?_;intros;refine AW.c (fun h=>?_) fun h=>?_
 ·(refine vK ?_;with_reducible repeat' first|exact Le.l|apply Sw|intro h)
  refine AW.aA [4] [0,1,3] (fun m xs o=>∃ j:Nat,xs=[.v (.int .i64 j)]/\o=[]/\m=k - j/\j<=k/\∀ y∈(x.ax.take k).take j,(y == at_ x.ax k)=false) k [] trivial ⟨0,?_,rfl,rfl,?_,?_⟩ ?_
  ·rfl
  ·omega
  ·simp
  rintro m xs o ⟨j,rfl,rfl,rfl,hj,hS⟩
  (refine vU ?_;with_reducible repeat' first|exact Le.l|apply Sw|intro h)
  ·rw [<- zx (by assumption) (.inr (dU (by assumption) (by rw [tF (by assumption) (by assumption) h];rfl)))]
  ·exact ⟨_,[_],[],by omega,⟨j+1,rfl,rfl,rfl,by omega,bJ (by rw [List.length_take];omega) hS (by rw [Bp (by assumption)];simpa using h)⟩,rfl,trivial⟩
  ·rw [<- zx (by assumption) (.inl (dU (by assumption) h))]
  ·rw [show j=k by omega,List.take_take,Nat.min_self] at hS
   exact ⟨_,[_],[],by omega,⟨k+1,rfl,rfl,rfl,by omega,dA hR h,dA hQ (by rw [qN hS];rfl)⟩,rfl,trivial⟩
 ·rw [show k=x.ax.length by omega] at hR hQ
  (refine vU ?_;with_reducible repeat' first|exact Le.l|apply Sw|intro h)
  ·rw [<- Kw h]
  ·rw [<- Kv h];rfl
  ·rw [<- Ku h hR hQ]
  ·rw [<- Kt h]
  ·rw [<- BW (by assumption) (by assumption) (by assumption) (by assumption) (.inl h)]
  ·rw [<- BW (by assumption) (by assumption) (by assumption) (by assumption) (.inr h)]
  ·rw [<- Kr (by assumption) (by assumption) (by assumption) (by assumption) (by assumption) (by assumption)]
end
end
section
section
variable (ip : Str -> Bool)
variable [hs : ∀ x : dx, Ctr lim Tryz.prog 221 [] [.agg [.v (.int .i64 x.ai), .sl false 2 (x.aB.map (aR false)), .sl false 1 (x.ax.map AV.str), .str x.aW, .str x.aE]] (.v (.bool (isType ip x))) [] True]
variable [hi : ∀ x : dx, Ctr lim Tryz.prog 232 [] [.agg [.v (.int .i64 x.ai), .sl false 2 (x.aB.map (aR false)), .sl false 1 (x.ax.map AV.str), .str x.aW, .str x.aE]] (.v (.bool (isType ip x))) [] True]
omit hs in
include hi in
omit hi in
include hs in
end
end
end Go.Proofs
