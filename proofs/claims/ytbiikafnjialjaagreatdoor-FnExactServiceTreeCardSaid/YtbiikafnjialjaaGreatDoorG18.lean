/- Part of a proof. -/
import Derived.Test.YtbiikafnjialjaaGreatDoorG17
set_option linter.all false
namespace Go.Dt
open Go.Ab
def oG(x:ed):Bool:=isName x.af && isText x.ax
def jf(x:GStep):Bool:=x.bT.all oG && (isName x.af && decide (x.bT.length<=3) && cl (x.bT.map ed.af))
def Bx(p:eJ):Bool:=decide (0<=p.dc) && decide (p.dc<=8) && (!p.cO || decide (p.dc=0)) && decide (p.aK.length<=10) && (p.cO || decide (0<p.dc) || decide (0<p.aK.length))
def iy(p:eJ):Bool:=p.aK.all jf && Bx p
mutual
def gG:aO->Nat
 | .mk _ _ _ _ ks=>dD ks+1
def dD:List aO->Nat
 | []=>0
 | x::xs=>max (gG x) (dD xs)
end
def uI(p:eJ):Bool:=!p.cO && decide (p.dc=0) && p.aK.isEmpty
def fX(op:Int):Nat:=if op=5 then 1 else if 1<=op/\op<=4 then 0 else 2
def rK(p:eJ):Bool:=!(!p.cO && decide (p.dc=0) && decide (0<p.aK.length) && ((at_ p.aK 0).af == [111,114] || (at_ p.aK 0).af == [97,110,100])) && !(p.cO && p.aK.isEmpty)
def exN(op num:Int)(tx:Str)(p:eJ)(n:Nat):Bool :=
 decide (1<=op) && decide (op<=15) && decide (n=fX op) && (decide (op=1) || decide (num=0)) && (decide (op=2) || tx.isEmpty) && (decide (op=3) || decide (op=4) || uI p) &&
 (if op=1 then decide (0<=num) && decide (num<=1000000000) else if op=2 then isText tx else if op=4 then iy p else if op=3 then iy p && rK p else true)
mutual
def vE:aO->Bool
 | .mk op num tx p ks=>exN op num tx p ks.length && vEL ks
def vEL:List aO->Bool
 | []=>true
 | x::xs=>vE x && vEL xs
end
theorem Ex:∀ l:List aO,vEL l=l.all vE
 | []=>rfl
 | x::xs=>by simp only [vEL,List.all_cons,Ex xs]
def w7(e:aO):Bool:=decide (gG e<=8) && vE e
def eD(k:Int):Bool:=decide (1<=k) && decide (k<=4)
def dk:List ae->List ae
 | []=>[]
 | .mk k a b c d e f g h i j l m n ks::xs=>(if eD k=true then [.mk k a b c d e f g h i j l m n ks] else if k=5\/k=6 then dk ks else [])++dk xs
theorem ng(x:ae)(xs:List ae):dk (x::xs)=(if eD x.ai=true then [x] else if x.ai=5\/x.ai=6 then dk x.ag else [])++dk xs:=by cases x;rw [dk];rfl
def cE:List ae->Nat
 | []=>0
 | .mk _ _ _ _ _ _ _ _ _ _ _ _ _ _ ks::xs=>1+cE ks+cE xs
def dY:List ae->Nat
 | []=>0
 | .mk _ _ _ _ _ _ _ _ _ _ _ _ _ _ ks::xs=>max (1+dY ks) (dY xs)
def mxS:List ae->Nat
 | []=>0
 | .mk _ _ _ _ _ _ _ _ _ _ _ _ w m ks::xs=>max (max (dD w) (dD m)) (max (mxS ks) (mxS xs))
def lH(t:cL):Bool:=decide (t.ai=0) && t.av.isEmpty && t.ay.isEmpty && t.aN.isEmpty && t.aA.isEmpty
def exS(l:List aO)(m:Int):Bool:=l.all w7 && decide ((l.length:Int)<=m)
def mF(n:ae):Bool:=decide (0<=n.gr) && decide (n.gr<=1000000000) && (decide (n.gu=0) || (decide (n.gr<=n.gu) && decide (n.gu<=1000000000)))
def nmS(l:List ae):List Str:=l.map ae.af
def nmP(n:Str)(x:ae):Bool:=x.af == n
theorem jq{α:Type}[Inhabited α]{p:α->Bool}{l:List α}{k:Nat}(hk:k<l.length)(h:p (at_ l k)=false):l.all p=false:=by
 rw [<- oL,cW hk h]
theorem eP{α:Type}{p:α->Bool}{l:List α}{k:Nat}(hk:¬ k<l.length)(h:∀ y∈l.take k,(!p y)=false):l.all p=true:=by
 rw [List.take_of_length_le (by omega)] at h
 rw [List.all_eq_true]
 intro x hx
 simpa using h x hx
theorem BZ{α:Type}{f:α->Str}{l:List α}{k:Nat}(h:¬ k<l.length):(l.take k).map f=l.map f:=by rw [List.take_of_length_le (by omega)]
theorem tk1{α:Type}[Inhabited α]{l:List α}{k:Nat}(h:k<l.length):l.take (k+1)=l.take k++[at_ l k]:=by
 rw [List.take_succ_eq_append_getElem h]
 unfold at_;rw [List.getElem?_eq_getElem h];rfl
theorem BX{α β γ:Type}[Inhabited α]{l:List α}{k:Nat}{f:α->β}{g:β->γ}(h:k<l.length):((l.take (k+1)).map f).map g=((l.take k).map f).map g++[g (f (at_ l k))]:=by
 rw [tk1 h];simp
theorem K8(n:Nat):decide ((n:Int)<=10)=decide (n<=10):=decide_eq_decide.2 (by omega)
theorem uz(n:Nat):decide (0<(n:Int))=decide (0<n):=decide_eq_decide.2 (by omega)
theorem iJ(a b:Int):(a == b)=decide (a=b):=by rw [Bool.eq_iff_iff];simp
theorem oY{α β:Type}[Inhabited α][Inhabited β]{f:α->β}{l:List α}{k:Nat}(h:k<l.length):at_ (l.map f) k=f (at_ l k):=by
 unfold at_;rw [List.getElem?_map,List.getElem?_eq_getElem h];rfl
theorem Cr{x:eJ}{k:Nat}(hk:k<x.aK.length)(h:jf (at_ x.aK k)=false):iy x=false:=by
 rw [iy,jq hk h];rfl
section
variable {s : GStep} {i j : Nat}
theorem Lq(hi:i<j)(hj:j<s.bT.length)(h:(at_ s.bT i).af=(at_ s.bT j).af):jf s=false:=by
 have:cl (s.bT.map ed.af)=false:=by
  refine cW (j:=j) (by simpa using hj) ?_
  rw [sO hi (by simpa using hj) (by rw [oY (by omega),oY hj];exact h)];rfl
 rw [jf,this];simp
theorem Ln(hj:j<s.bT.length)(h:oG (at_ s.bT j)=false):jf s=false:=by
 rw [jf,jq hj h];rfl
theorem Lp(hj:¬ j<s.bT.length)(hj2:j<=s.bT.length)(hS:∀ y∈s.bT.take j,(!oG y)=false)(hQ:bL (fun i=>!cont ((s.bT.map ed.af).take i) (at_ (s.bT.map ed.af) i)) j=true):jf s=(isName s.af && decide (s.bT.length<=3)):=by
 have e:j=s.bT.length:=by omega
 subst e
 rw [jf,eP hj hS,cl,List.length_map,hQ];simp
end
theorem mJ{α:Type}(l:List α):((l.length:Int) == 0)=l.isEmpty:=by
 cases l with
 | nil=>rfl
 | cons x xs=>rw [List.length_cons,List.isEmpty_cons,iJ,decide_eq_false_iff_not];omega
theorem uO{α:Type}(l:List α):decide (0<l.length)=!l.isEmpty:=by
 cases l with
 | nil=>rfl
 | cons x xs=>rw [List.length_cons,List.isEmpty_cons];simp
theorem yh{x:eJ}(h:iy x=true):0<=x.dc/\(x.cO=true->x.dc=0)/\(x.cO=false->x.dc<=0->0<x.aK.length):=by
 simp only [iy,Bx,Bool.and_eq_true,Bool.or_eq_true,decide_eq_true_eq,Bool.not_eq_true'] at h
 obtain ⟨_,⟨⟨⟨⟨h1,_⟩,h2⟩,_⟩,h3⟩⟩:=h
 refine ⟨h1,fun e=>?_,fun e f=>?_⟩
 ·rcases h2 with h2|h2
  ·rw [e] at h2;exact absurd h2 (by simp)
  ·exact h2
 ·rcases h3 with (h3|h3)|h3
  ·rw [e] at h3;exact absurd h3 (by simp)
  ·omega
  ·exact h3
theorem Qe{x:eJ}(h:iy x=true)(e:x.cO=true\/0<x.dc):(decide (0<x.dc) || decide (0<(x.aK.length:Int)))=rK x:=by
 obtain ⟨h1,h2,h3⟩:=yh h
 cases r:x.cO with
 | true =>
  have:=h2 r
  rw [rK,r,uz,uO,this];simp
 | false =>
  rw [r] at e
  have h4:0<x.dc:=by rcases e with e|e;exact absurd e (by simp);exact e
  rw [rK,r,show decide (x.dc=0)=false by simp;omega,show decide (0<x.dc)=true by simpa using h4];simp
theorem KG{x:eJ}(h:iy x=true)(e:x.cO=false/\x.dc<=0):0<x.aK.length/\(!(at_ x.aK 0).af == [111,114] && !(at_ x.aK 0).af == [97,110,100])=rK x:=by
 obtain ⟨h1,h2,h3⟩:=yh h
 have h4:=h3 e.1 e.2
 refine ⟨h4,?_⟩
 rw [rK,e.1,show decide (x.dc=0)=true by simp;omega,show decide (0<x.aK.length)=true by simpa using h4]
 simp
theorem Ol{a:Bool}{n:Nat}(h:a=false\/3<(n:Int)):(a && decide (n<=3))=false:=by
 rcases h with h|h
 ·rw [h];rfl
 ·rw [show decide (n<=3)=false by simp;omega,Bool.and_false]
theorem oW(x:aO):gG x=dD x.ag+1:=by cases x;rw [gG];rfl
theorem ll(x:aO):vE x=(exN x.fOp x.fo x.bW x.aA x.ag.length && x.ag.all vE):=by cases x;rw [vE,Ex];rfl
theorem AR:∀ (l:List aO) (x:aO),dD (l++[x])=max (dD l) (gG x)
 | [],x=>by simp [dD]
 | y::l,x=>by simp only [List.cons_append,dD,AR l x];omega
theorem yF{l:List aO}{k:Nat}(h:k<l.length):dD (l.take (k+1))=max (dD (l.take k)) (gG (at_ l k)):=by
 rw [tk1 h,AR]
theorem nR:∀ {l:List aO} {y:aO},y∈l->gG y<=dD l
 | x::l,y,h=>by
  rw [dD]
  rcases List.mem_cons.1 h with rfl|h
  ·omega
  ·have:=nR h;omega
theorem sM:∀ (l:List aO) (k:Nat),dD (l.take k)<=dD l
 | [],k=>by simp
 | x::l,0=>by simp [dD]
 | x::l,k+1=>by rw [List.take_succ_cons,dD,dD];have:=sM l k;omega
theorem aO.yf{x y:aO}(h:y∈x.ag):SizeOf.sizeOf y<SizeOf.sizeOf x:=by
 have:=List.sizeOf_lt_of_mem h
 cases x;simp [aO.ag] at *;omega
theorem OL(a b:Nat):(if a<b then (b:Int) else (a:Int))=((max a b:Nat):Int):=by split<;>omega
theorem Ms(a b:Nat):max (a:Int) (b:Int)=((max a b:Nat):Int):=by omega
def exL(op num:Int)(tx:Str)(p:eJ):Bool:=if op=1 then decide (0<=num) && decide (num<=1000000000) else if op=2 then isText tx else if op=4 then iy p else if op=3 then iy p && rK p else true
theorem fD(op num:Int)(tx:Str)(p:eJ)(n:Nat):exN op num tx p n=(decide (1<=op) && decide (op<=15) && decide (n=fX op) && (decide (op=1) || decide (num=0)) && (decide (op=2) || tx.isEmpty) && (decide (op=3) || decide (op=4) || uI p) && exL op num tx p):=rfl
theorem dV(s:Str):s.isEmpty=decide (s=[]):=by cases s<;>simp
section
variable {x : aO} {n : Int}
theorem uW(h:(x.ag.length:Int)=0):x.ag.all vE=true:=by
 rw [List.eq_nil_of_length_eq_zero (l:=x.ag) (by omega)];rfl
theorem Bu{k:Nat}(hk:k<x.ag.length)(h:vE (at_ x.ag k)=false):vE x=false:=by
 rw [ll,jq hk h,Bool.and_false]
end
theorem oy{x:aO}(h:exN x.fOp x.fo x.bW x.aA x.ag.length=false):vE x=false:=by rw [ll,h,Bool.false_and]
theorem rA(s:Str):(s == [])=s.isEmpty:=by cases s<;>rfl
theorem DH:∀ (l:List ae) (x:ae),cE (l++[x])=cE l+1+cE x.ag
 | [],x=>by cases x;simp [cE,ae.ag]
 | .mk _ _ _ _ _ _ _ _ _ _ _ _ _ _ ks::l,x=>by simp only [List.cons_append,cE,DH l x];omega
theorem IM{l:List ae}{k:Nat}(h:k<l.length):cE (l.take (k+1))=cE (l.take k)+1+cE (at_ l k).ag:=by rw [tk1 h,DH]
theorem nS:∀ (l:List ae) (k:Nat),cE (l.take k)+(l.length - k)<=cE l
 | [],k=>by simp [cE]
 | x::l,0=>by
  have:=nS l 0
  cases x;simp only [List.take_zero,cE,List.length_cons] at *;omega
 | x::l,k+1=>by
  have:=nS l k
  cases x;simp only [List.take_succ_cons,cE,List.length_cons] at *;omega
theorem pP:∀ {l:List ae} {x:ae},x∈l->cE x.ag<=cE l
 | y::l,x,h=>by
  rcases List.mem_cons.1 h with rfl|h
  ·cases x;simp only [cE,ae.ag];omega
  ·have:=pP h;cases y;simp only [cE];omega
theorem DC:∀ (l:List ae) (x:ae),dY (l++[x])=max (dY l) (1+dY x.ag)
 | [],x=>by cases x;simp [dY,ae.ag]
 | .mk _ _ _ _ _ _ _ _ _ _ _ _ _ _ ks::l,x=>by simp only [List.cons_append,dY,DC l x];omega
theorem IJ{l:List ae}{k:Nat}(h:k<l.length):dY (l.take (k+1))=max (dY (l.take k)) (1+dY (at_ l k).ag):=by rw [tk1 h,DC]
theorem uy:∀ (l:List ae) (k:Nat),dY (l.take k)<=dY l
 | [],k=>by simp
 | x::l,0=>by simp [dY]
 | x::l,k+1=>by
  have:=uy l k
  cases x;simp only [List.take_succ_cons,dY] at *;omega
theorem xc:∀ {l:List ae} {x:ae},x∈l->1+dY x.ag<=dY l
 | y::l,x,h=>by
  rcases List.mem_cons.1 h with rfl|h
  ·cases x;simp only [dY,ae.ag];omega
  ·have:=xc h;cases y;simp only [dY];omega
theorem ae.dM{l:List ae}{x:ae}(h:x∈l):SizeOf.sizeOf x.ag<SizeOf.sizeOf l:=by
 have:=List.sizeOf_lt_of_mem h
 cases x;simp [ae.ag] at *;omega
end Go.Dt
namespace Go.Dt
open Go Go.Ab
section
def dkF:List ae->Bool->List Bool
 | [],_=>[]
 | .mk k _ _ _ _ _ _ _ _ _ _ _ _ _ ks::xs,h=>(if eD k=true then [h] else if k=5\/k=6 then dkF ks (h || k == 6) else [])++dkF xs h
theorem xa(x:ae)(xs:List ae)(h:Bool):dkF (x::xs) h=(if eD x.ai=true then [h] else if x.ai=5\/x.ai=6 then dkF x.ag (h || x.ai == 6) else [])++dkF xs h:=by cases x;rw [dkF];rfl
theorem IC:∀ (l:List ae) (x:ae),dk (l++[x])=dk l++(if eD x.ai=true then [x] else if x.ai=5\/x.ai=6 then dk x.ag else [])
 | [],x=>by rw [List.nil_append,ng];simp [dk]
 | y::l,x=>by rw [List.cons_append,ng,ng,IC l x,List.append_assoc]
theorem Fm(h:Bool):∀ (l:List ae) (x:ae),dkF (l++[x]) h=dkF l h++(if eD x.ai=true then [h] else if x.ai=5\/x.ai=6 then dkF x.ag (h || x.ai == 6) else [])
 | [],x=>by rw [List.nil_append,xa];simp [dkF]
 | y::l,x=>by rw [List.cons_append,xa,xa,Fm h l x,List.append_assoc]
theorem oU{l:List ae}{k:Nat}(h:k<l.length):dk (l.take (k+1))=dk (l.take k)++(if eD (at_ l k).ai=true then [at_ l k] else if (at_ l k).ai=5\/(at_ l k).ai=6 then dk (at_ l k).ag else []):=by rw [tk1 h,IC]
theorem w9{l:List ae}{k:Nat}{b:Bool}(h:k<l.length):dkF (l.take (k+1)) b=dkF (l.take k) b++(if eD (at_ l k).ai=true then [b] else if (at_ l k).ai=5\/(at_ l k).ai=6 then dkF (at_ l k).ag (b || (at_ l k).ai == 6) else []):=by rw [tk1 h,Fm]
theorem lP:∀ (l:List ae),(dk l).length<=cE l
 | []=>by simp [dk]
 | .mk k _ _ _ _ _ _ _ _ _ _ _ _ _ ks::xs=>by
  have h1:=lP ks;have h2:=lP xs
  rw [dk,cE,List.length_append]
  split
  ·simp;omega
  ·split
   ·omega
   ·simp;omega
theorem zF:∀ (l:List ae) (h:Bool),(dkF l h).length=(dk l).length
 | [],h=>by simp [dk,dkF]
 | .mk k _ _ _ _ _ _ _ _ _ _ _ _ _ ks::xs,h=>by
  rw [dk,dkF,List.length_append,List.length_append,zF xs h]
  split
  ·simp
  ·split
   ·rw [zF ks]
   ·simp
theorem Fq{l:List ae}{k:Nat}:cE (l.take k)<=cE l:=by have:=nS l k;omega
end
section
def fj:List ae->Int->Int
 | [],q=>q
 | .mk _ _ _ _ _ _ _ _ _ _ _ _ _ _ ks::xs,q=>if q<0 then q else fj xs (fj ks (q - ks.length))
theorem JN{l:List ae}{k:Nat}(h:k<l.length)(q:Int):fj (l.drop k) q=if q<0 then q else fj (l.drop (k+1)) (fj (at_ l k).ag (q - (at_ l k).ag.length)):=by
 rw [ct h];cases at_ l k;rw [fj];rfl
theorem nL(l:List ae){q:Int}(h:q<0):fj l q=q:=by
 cases l with
 | nil=>rw [fj]
 | cons x xs=>cases x;simp only [fj];rw [if_pos h]
theorem wN:∀ (l:List ae) (q:Int),fj l q<=q
 | [],q=>by simp [fj]
 | .mk _ _ _ _ _ _ _ _ _ _ _ _ _ _ ks::xs,q=>by
  have h1:=wN ks (q - ks.length)
  have h2:=wN xs (fj ks (q - ks.length))
  simp only [fj];split<;>omega
theorem lW:∀ (l:List ae),l.length<=cE l
 | []=>by simp
 | .mk _ _ _ _ _ _ _ _ _ _ _ _ _ _ ks::xs=>by have:=lW xs;simp only [cE,List.length_cons];omega
theorem wO:∀ (l:List ae) (q:Int),-4611686018427387904<=q->cE l<=1048576->-4611686018427387904<=fj l q
 | [],q,h,_=>by simpa [fj] using h
 | .mk _ _ _ _ _ _ _ _ _ _ _ _ _ _ ks::xs,q,h,hw=>by
  simp only [fj]
  simp only [cE] at hw
  split
  ·exact h
  ·have e2:=lW ks
   exact wO xs _ (wO ks _ (by omega) (by omega)) (by omega)
theorem wP:∀ (l:List ae) (q:Int),0<=q->(0<=fj l q↔(cE l:Int) - l.length<=q)/\((cE l:Int) - l.length<=q->fj l q=q - (cE l - l.length))
 | [],q,h=>by simp only [fj,cE,List.length_nil];omega
 | .mk _ _ _ _ _ _ _ _ _ _ _ _ _ _ ks::xs,q,h=>by
  simp only [fj,cE,List.length_cons]
  have e1:=lW ks
  have e2:=lW xs
  rw [if_neg (by omega)]
  rcases Int.lt_or_le (q - ks.length) 0 with h1|h1
  ·rw [nL ks h1,nL xs h1];omega
  ·have h2:=wP ks _ h1
   rcases Int.lt_or_le (fj ks (q - ks.length)) 0 with h3|h3
   ·rw [nL xs h3];omega
   ·have h4:=wP xs _ h3
    have h5:=h2.2 (h2.1.1 h3)
    rw [h5] at h3 h4 ⊢
    omega
theorem Mf(l:List ae):decide (0<=fj l (60 - l.length))=decide (cE l<=60):=by
 have e:=lW l
 refine decide_eq_decide.2 ?_
 rcases Int.lt_or_le (60 - (l.length:Int)) 0 with h|h
 ·rw [nL l h];omega
 ·have:=(wP l _ h).1;omega
end
section
def mR(n:ae):Bool:=isName n.af && exS n.bq 1 && exS n.bR 3
def tyB(t:cL):Bool:=isType dB t
def jZ(n:ae):Bool :=
 (decide (n.ai=3) || decide (n.ai=4) || lH n.fType) &&
 (decide (n.ai=2) || n.aD.isEmpty && n.aB.isEmpty) &&
 (decide (n.ai=3) || n.ba.isEmpty && !n.cn && !n.dC) &&
 (decide (n.ai=3) || decide (n.ai=5) || !n.cy) &&
 (decide (n.ai=1) || !n.bw) &&
 (decide (n.ai=2) || decide (n.ai=4) || decide (n.gr=0) && decide (n.gu=0)) &&
 (eD n.ai || n.bR.isEmpty) &&
 (!(decide (n.ai=3) || decide (n.ai=4)) || n.ag.isEmpty)
def gS(n:ae):Bool :=
 if n.ai=1\/n.ai=5\/n.ai=6 then true
 else if n.ai=2 then decide (1<=n.aD.length) && decide (n.aD.length<=3) && cl n.aD && names n.aD && decide (n.aB.length<=3) && cl n.aB && names n.aB && mF n
 else if n.ai=3 then tyB n.fType && !(n.cn && (n.cy || !n.bq.isEmpty)) && (n.cn && isVal n.fType n.ba || !n.cn && n.ba.isEmpty)
 else if n.ai=4 then tyB n.fType && mF n
 else if n.ai=7 then n.bq.isEmpty && n.ag.isEmpty
 else false
def lQ(n:ae):Bool:=mR n && (jZ n && gS n)
def fV(n:Str)(x:ae):Bool:=x.af == n && decide (x.ai=3)
def zg(y:ae):Bool:=y.bq.isEmpty && !y.cn && !decide (y.fType.ai=6)
def pE(ks:List ae)(k:Str):Bool:=decide (0<=idx (fV k) ks) && zg (at_ ks (idx (fV k) ks).toNat)
def qB(ks:List ae)(k:Str):Bool:=decide (0<=idx (fV k) ks)
def pz(ks:List ae)(k:Str):Bool:=decide (0<=idx (nmP k) ks) && decide ((at_ ks (idx (nmP k) ks).toNat).ai=3) && zg (at_ ks (idx (nmP k) ks).toNat)
def o5(ks:List ae)(k:Str):Bool:=decide (0<=idx (nmP k) ks) && decide ((at_ ks (idx (nmP k) ks).toNat).ai=3)
def nC(n:ae):Bool:=n.aD.all (pz n.ag) && n.aB.all (o5 n.ag) && (lH n.fType && !n.aD.isEmpty && (cl n.aD && decide (n.aD.length<=3)) && (cl n.aB && decide (n.aB.length<=3)) && mF n && !n.cn && !n.cy && !n.bw && !n.dC && n.ba.isEmpty)
def qe(n:ae):Bool:=n.aD.isEmpty && n.aB.isEmpty && n.ba.isEmpty && !n.cn && !n.dC && decide (n.gr=0) && decide (n.gu=0)
def Gg(n:ae):Bool:=n.aD.isEmpty && n.aB.isEmpty && decide (n.gr=0) && decide (n.gu=0) && !n.bw && n.ag.isEmpty && tyB n.fType
def Gh(n:ae)(free:Bool):Bool :=
 if n.ai=1 then qe n && !n.cy && lH n.fType
 else if n.ai=2 then nC n
 else if n.ai=3 then (if n.cn=true then Gg n && free && !n.cy && n.bq.isEmpty && isVal n.fType n.ba else Gg n && n.ba.isEmpty)
 else if n.ai=4 then n.aD.isEmpty && n.aB.isEmpty && n.ba.isEmpty && !n.cn && !n.dC && !n.cy && !n.bw && n.ag.isEmpty && mF n && tyB n.fType
 else if n.ai=5 then qe n && !n.bw && n.bR.isEmpty && lH n.fType
 else if n.ai=6 then qe n && !n.bw && !n.cy && n.bR.isEmpty && lH n.fType
 else false
def oH(n:ae)(free:Bool):Bool:=mR n && Gh n free
def jQ(kind:Int)(bound:Bool)(n:ae):Bool:=lQ n && !decide (n.ai=7) && (decide (n.ai=6) == decide (kind=5)) && !(n.cn && bound) && n.aD.all (pE n.ag) && n.aB.all (qB n.ag)
def lT(l:List ae)(kind:Int):Bool:=cl (nmS l) && (decide (kind=5) || decide (kind=6) || cl (nmS (dk l)))
def kA:List ae->Int->Bool->Bool
 | [],_,_=>true
 | .mk k a b c d e f g h i j l m n ks::xs,kind,bd=>jQ kind bd (.mk k a b c d e f g h i j l m n ks) && (lT ks k && kA ks k (bd || !m.isEmpty || decide (k=6))) && kA xs kind bd
theorem zj(x:ae)(xs:List ae)(kind:Int)(bd:Bool):kA (x::xs) kind bd=(jQ kind bd x && (lT x.ag x.ai && kA x.ag x.ai (bd || !x.bq.isEmpty || decide (x.ai=6))) && kA xs kind bd):=by cases x;rw [kA];rfl
def kS:List ae->Int->Bool->Nat->Bool
 | [],_,_,_=>true
 | .mk k a b c d e f g h i j l m n ks::xs,kind,fr,p=>(decide (kind=5) == decide (k=6)) && oH (.mk k a b c d e f g h i j l m n ks) fr && (cl (nmS ks) && kS ks k (fr && m.isEmpty && !decide (k=6)) (p+1) && cl (nmS (dk ks)) && (decide (p+1<=8) || ks.isEmpty)) && kS xs kind fr p
theorem zi(x:ae)(xs:List ae)(kind:Int)(fr:Bool)(p:Nat):kS (x::xs) kind fr p=((decide (kind=5) == decide (x.ai=6)) && oH x fr && (cl (nmS x.ag) && kS x.ag x.ai (fr && x.bq.isEmpty && !decide (x.ai=6)) (p+1) && cl (nmS (dk x.ag)) && (decide (p+1<=8) || x.ag.isEmpty)) && kS xs kind fr p):=by cases x;rw [kS];rfl
def kR(l:List ae)(kind:Int)(bd:Bool):Bool:=lT l kind && kA l kind bd
def kT(l:List ae)(kind:Int)(fr:Bool)(p:Nat):Bool:=cl (nmS l) && kS l kind fr p && cl (nmS (dk l)) && (decide (p<=8) || l.isEmpty)
def jS(l:List ae):Bool:=decide (cE l<=60) && decide (dY l<=8) && kR l 0 false
theorem zM{α:Type}[Inhabited α](x:α)(l:List α)(k:Nat):at_ (x::l) (k+1)=at_ l k:=rfl
theorem lv{α:Type}[Inhabited α]{l:List α}{i:Nat}(h:i<l.length):l[i]=at_ l i:=by unfold at_;rw [List.getElem?_eq_getElem h];rfl
theorem qt(l:List Str):cl l=true↔l.Nodup:=by
 constructor
 ·intro h
  refine List.pairwise_iff_getElem.2 fun i j hi' hj hi e=>?_
  have h1:=mA h hj
  rw [lv,lv] at e
  rw [sO hi hj e] at h1
  exact absurd h1 (by simp)
 ·intro h
  rw [cl]
  have:∀ n,n<=l.length->bL (fun j=>!cont (l.take j) (at_ l j)) n=true:=by
   intro n
   induction n with
   | zero=>intro _;rfl
   | succ n ih =>
    intro hn
    refine cj (ih (by omega)) ?_
    rw [qu]
    ·rfl
    intro y hy
    rw [beq_eq_false_iff_ne]
    intro e
    obtain ⟨i,hi,e2⟩:=List.getElem_of_mem hy
    rw [List.length_take] at hi
    rw [List.getElem_take,lv,e] at e2
    refine List.pairwise_iff_getElem.1 h i n (by omega) (by omega) (by omega) ?_
    rw [lv,lv,e2]
  exact this _ (Nat.le_refl _)
theorem ym{α:Type}{p:α->Bool}:∀ {l:List α},¬ 0<=idx p l->∀ x∈l,p x=false
 | x::xs,h,y,hy=>by
  have h0:=pG p xs
  simp only [idx] at h
  split at h
  ·omega
  ·rename_i h1
   split at h
   ·rcases List.mem_cons.1 hy with rfl|hy
    ·simpa using h1
    ·exact ym (by omega) y hy
   ·omega
theorem ja{α:Type}[Inhabited α]{p:α->Bool}:∀ {l:List α},0<=idx p l->(idx p l).toNat<l.length/\p (at_ l (idx p l).toNat)=true/\at_ l (idx p l).toNat∈l
 | [],h=>by simp [idx] at h
 | x::xs,h=>by
  simp only [idx] at h ⊢
  split
  ·rename_i h1;exact ⟨by simp,h1,by simp [at_]⟩
  ·rename_i h1
   rw [if_neg h1] at h
   split at h
   ·omega
   ·rename_i h2
    have ih:=ja (p:=p) (l:=xs) (by omega)
    rw [if_neg h2,show (idx p xs+1).toNat=(idx p xs).toNat+1 by omega,zM]
    exact ⟨by rw [List.length_cons];omega,ih.2.1,List.mem_cons_of_mem _ ih.2.2⟩
theorem Ik{α:Type}[Inhabited α]{p:α->Bool}:∀ {l:List α} {j:Nat},j<l.length->p (at_ l j)=true->idx p l<=j/\0<=idx p l
 | x::xs,0,_,h=>by
  have:p x=true:=h
  simp [idx,this]
 | x::xs,j+1,hj,h=>by
  have h1:=Ik (p:=p) (l:=xs) (j:=j) (by simpa using hj) h
  simp only [idx]
  split
  ·omega
  ·split<;>omega
theorem JY{l:List ae}(hd:cl (nmS l)=true){x y:ae}(hx:x∈l)(hy:y∈l)(e:x.af=y.af):x=y:=by
 rw [qt,nmS] at hd
 induction l with
 | nil=>simp at hx
 | cons z l ih =>
  rw [List.map_cons,List.nodup_cons] at hd
  rcases List.mem_cons.1 hx with gx|gx<;>rcases List.mem_cons.1 hy with gy|gy
  ·rw [gx,gy]
  ·subst gx;exact absurd (List.mem_map.2 ⟨y,gy,e.symm⟩) hd.1
  ·subst gy;exact absurd (List.mem_map.2 ⟨x,gx,e⟩) hd.1
  ·exact ih hd.2 gx gy
theorem CR{ks:List ae}(hd:cl (nmS ks)=true)(k:Str):(0<=idx (fV k) ks↔0<=idx (nmP k) ks/\(at_ ks (idx (nmP k) ks).toNat).ai=3)/\(0<=idx (fV k) ks->at_ ks (idx (fV k) ks).toNat=at_ ks (idx (nmP k) ks).toNat):=by
 have key:0<=idx (fV k) ks->0<=idx (nmP k) ks/\at_ ks (idx (fV k) ks).toNat=at_ ks (idx (nmP k) ks).toNat/\(at_ ks (idx (fV k) ks).toNat).ai=3:=by
  intro h
  obtain ⟨h1,h2,h3⟩:=ja h
  simp only [fV,Bool.and_eq_true,beq_iff_eq,decide_eq_true_eq] at h2
  have h4:0<=idx (nmP k) ks:=by
   apply Classical.byContradiction
   intro h5
   have:=ym h5 _ h3
   simp only [nmP,beq_eq_false_iff_ne] at this
   exact this h2.1
  obtain ⟨g1,g2,g3⟩:=ja h4
  simp only [nmP,beq_iff_eq] at g2
  exact ⟨h4,JY hd h3 g3 (h2.1.trans g2.symm),h2.2⟩
 refine ⟨⟨fun h=>⟨(key h).1,(key h).2.1 ▸ (key h).2.2⟩,fun h=>?_⟩,fun h=>(key h).2.1⟩
 apply Classical.byContradiction
 intro h5
 obtain ⟨g1,g2,g3⟩:=ja h.1
 have:=ym h5 _ g3
 simp only [nmP,beq_iff_eq] at g2
 simp only [fV,g2,h.2] at this
 simp at this
theorem QU{ks:List ae}(hd:cl (nmS ks)=true)(k:Str):pE ks k=pz ks k:=by
 have h:=CR hd k
 rw [Bool.eq_iff_iff]
 simp only [pE,pz,Bool.and_eq_true,decide_eq_true_eq]
 constructor
 ·intro g;rw [<- h.2 g.1] at *;exact ⟨h.1.1 g.1,g.2⟩
 ·intro g;have:=h.1.2 g.1;rw [h.2 this];exact ⟨this,g.2⟩
theorem Qf{ks:List ae}(hd:cl (nmS ks)=true)(k:Str):qB ks k=o5 ks k:=by
 have h:=CR hd k
 rw [Bool.eq_iff_iff]
 simp only [qB,o5,Bool.and_eq_true,decide_eq_true_eq]
 exact h.1
theorem HO(l:List Str):names l=l.all isName:=by rw [names,oL]
theorem x7{ks:List ae}{l:List Str}(hn:∀ y∈ks,isName y.af=true)(h:∀ k∈l,0<=idx (nmP k) ks):names l=true:=by
 rw [HO,List.all_eq_true]
 intro k hk
 obtain ⟨g1,g2,g3⟩:=ja (h k hk)
 simp only [nmP,beq_iff_eq] at g2
 rw [<- g2];exact hn _ g3
theorem Md{n:ae}(hd:cl (nmS n.ag)=true)(hn:∀ y∈n.ag,isName y.af=true)(hk:n.ai=2)(bd:Bool):(jZ n && gS n && !(n.cn && bd) && n.aD.all (pE n.ag) && n.aB.all (qB n.ag))=nC n:=by
 have e1:pE n.ag=pz n.ag:=funext fun k=>QU hd k
 have e2:qB n.ag=o5 n.ag:=funext fun k=>Qf hd k
 rw [e1,e2,nC]
 cases h1:n.aD.all (pz n.ag) with
 | false=>simp
 | true =>
  cases h2:n.aB.all (o5 n.ag) with
  | false=>simp
  | true =>
   have h3:names n.aD=true:=x7 hn fun k hk=>by
    have:=List.all_eq_true.1 h1 k hk
    simp only [pz,Bool.and_eq_true,decide_eq_true_eq] at this
    exact this.1.1
   have h4:names n.aB=true:=x7 hn fun k hk=>by
    have:=List.all_eq_true.1 h2 k hk
    simp only [o5,Bool.and_eq_true,decide_eq_true_eq] at this
    exact this.1
   have h5:decide (1<=n.aD.length)=!n.aD.isEmpty:=uO _
   simp only [jZ,gS,eD,hk,h3,h4,h5]
   cases lH n.fType<;>cases n.aD.isEmpty<;>cases n.cn<;>cases n.cy<;>cases n.bw<;>cases n.dC<;>cases n.ba.isEmpty<;>simp<;>grind
theorem HL{n:ae}(hd:cl (nmS n.ag)=true)(hn:∀ y∈n.ag,isName y.af=true)(kind:Int)(bd:Bool):jQ kind bd n=((decide (kind=5) == decide (n.ai=6)) && oH n (!bd)):=by
 rw [jQ,oH,lQ,Gh]
 cases mR n with
 | false=>simp
 | true =>
  by_cases h2:n.ai=2
  ·rw [<- Md hd hn h2 bd];simp [h2];grind
  ·have e:∀ (a b:Bool),(a == b)=(b == a):=by decide
   by_cases h1:n.ai=1
   ·simp only [jZ,gS,qe,eD,h1]
    cases lH n.fType<;>cases hk:n.aD<;>cases hu:n.aB<;>cases n.cn<;>cases n.cy<;>cases n.bw<;>cases n.dC<;>simp<;>grind
   by_cases h5:n.ai=5
   ·simp only [jZ,gS,qe,eD,h5]
    cases lH n.fType<;>cases hk:n.aD<;>cases hu:n.aB<;>cases n.cn<;>cases n.cy<;>cases n.bw<;>cases n.dC<;>simp<;>grind
   by_cases h6:n.ai=6
   ·simp only [jZ,gS,qe,eD,h6]
    cases lH n.fType<;>cases hk:n.aD<;>cases hu:n.aB<;>cases n.cn<;>cases n.cy<;>cases n.bw<;>cases n.dC<;>simp<;>grind
   by_cases h4:n.ai=4
   ·simp only [jZ,gS,qe,eD,h4]
    cases tyB n.fType<;>cases hk:n.aD<;>cases hu:n.aB<;>cases n.cn<;>cases n.cy<;>cases n.bw<;>cases n.dC<;>simp<;>grind
   by_cases h3:n.ai=3
   ·simp only [jZ,gS,qe,eD,Gg,h3]
    cases tyB n.fType<;>cases hk:n.aD<;>cases hu:n.aB<;>cases n.cn<;>cases n.cy<;>cases n.bw<;>cases n.bq.isEmpty<;>cases bd<;>simp<;>grind
   by_cases h7:n.ai=7
   ·simp [h7]
   ·simp [gS,h1,h2,h3,h4,h5,h6,h7]
theorem E7:∀ {l:List ae} {kind:Int} {fr:Bool} {p:Nat},kS l kind fr p=true->∀ y∈l,isName y.af=true
 | [],_,_,_,_,y,h=>by simp at h
 | x::xs,kind,fr,p,h,y,hy=>by
  rw [zi] at h
  simp only [Bool.and_eq_true] at h
  rcases List.mem_cons.1 hy with rfl|hy
  ·have:=h.1.1.2
   simp only [oH,mR,Bool.and_eq_true] at this
   exact this.1.1.1
  ·exact E7 h.2 y hy
theorem E8:∀ {l:List ae} {kind:Int} {bd:Bool},kA l kind bd=true->∀ y∈l,isName y.af=true
 | [],_,_,_,y,h=>by simp at h
 | x::xs,kind,bd,h,y,hy=>by
  rw [zj] at h
  simp only [Bool.and_eq_true] at h
  rcases List.mem_cons.1 hy with rfl|hy
  ·have:=h.1.1
   simp only [jQ,lQ,mR,Bool.and_eq_true] at this
   exact this.1.1.1.1.1.1.1.1
  ·exact E8 h.2 y hy
theorem AQ(x:ae)(xs:List ae):dY (x::xs)=max (1+dY x.ag) (dY xs):=by cases x;rw [dY];rfl
theorem IG{a b:List ae}(h:cl (nmS (a++b))=true):cl (nmS a)=true/\cl (nmS b)=true:=by
 rw [qt,nmS,List.map_append,List.nodup_append] at h
 rw [qt,qt];exact ⟨h.1,h.2.1⟩
theorem rq:∀ (n:Nat) (l:List ae) (kind:Int) (bd:Bool) (p:Nat),SizeOf.sizeOf l<n->p<=8->cl (nmS (dk l))=true->((kA l kind bd=true/\(dY l+p<=9))↔kS l kind (!bd) p=true)
 | 0,l,_,_,_,h=>absurd h (Nat.not_lt_zero _)
 | n+1,[],_,_,p,_=>by simp [kA,kS,dY];omega
 | n+1,x::xs,kind,bd,p,hs=>by
  intro hp hd
  have hsz:SizeOf.sizeOf x.ag<n/\SizeOf.sizeOf xs<n:=by
   have:=ae.dM (l:=x::xs) (x:=x) (by simp)
   simp only [List.cons.sizeOf_spec] at *
   omega
  rw [ng] at hd
  have hd2:=IG hd
  have ih1:=rq n xs kind bd p hsz.2 hp hd2.2
  rw [zj,zi,AQ]
  simp only [Bool.and_eq_true]
  have hK:(lT x.ag x.ai=true/\kA x.ag x.ai (bd || !x.bq.isEmpty || decide (x.ai=6))=true)/\dY x.ag+(p+1)<=9↔((cl (nmS x.ag)=true/\kS x.ag x.ai (!bd && x.bq.isEmpty && !decide (x.ai=6)) (p+1)=true)/\cl (nmS (dk x.ag))=true)/\(decide (p+1<=8) || x.ag.isEmpty)=true:=by
   have hq:lT x.ag x.ai=true↔cl (nmS x.ag)=true/\cl (nmS (dk x.ag))=true:=by
    simp only [lT,Bool.and_eq_true,Bool.or_eq_true,decide_eq_true_eq]
    constructor
    ·rintro ⟨a,b⟩
     refine ⟨a,?_⟩
     by_cases hk:x.ai=5\/x.ai=6
     ·have:=hd2.1
      rw [if_neg (by rcases hk with h|h<;>rw [h]<;>decide),if_pos hk] at this
      exact this
     ·rcases b with b|b
      ·exact absurd b hk
      ·exact b
    ·rintro ⟨a,b⟩;exact ⟨a,.inr b⟩
   rw [hq,show (!bd && x.bq.isEmpty && !decide (x.ai=6))=!(bd || !x.bq.isEmpty || decide (x.ai=6)) by cases bd<;>cases x.bq.isEmpty<;>simp]
   cases hx:x.ag with
   | nil=>simp [kA,kS,dY,dk];omega
   | cons y ys =>
    by_cases h8:p+1<=8
    ·rw [show (decide (p+1<=8) || (y::ys).isEmpty)=true by simp;omega]
     rw [<- hx]
     constructor
     ·rintro ⟨⟨⟨a,b⟩,c⟩,d⟩
      exact ⟨⟨⟨a,(rq n x.ag x.ai _ (p+1) hsz.1 h8 b).1 ⟨c,d⟩⟩,b⟩,rfl⟩
     ·rintro ⟨⟨⟨a,b⟩,c⟩,d⟩
      have:=(rq n x.ag x.ai _ (p+1) hsz.1 h8 c).2 b
      exact ⟨⟨⟨a,c⟩,this.1⟩,this.2⟩
    ·constructor
     ·rintro ⟨_,d⟩
      rw [AQ] at d;omega
     ·rintro ⟨_,d⟩
      simp at d;omega
  constructor
  ·rintro ⟨⟨⟨h1,h2⟩,h3⟩,h4⟩
   have h5:=hK.1 ⟨h2,by omega⟩
   rw [HL h5.1.1.1 (E8 h2.2),Bool.and_eq_true] at h1
   exact ⟨⟨h1,h5⟩,ih1.1 ⟨h3,by omega⟩⟩
  ·rintro ⟨⟨h1,h2⟩,h3⟩
   have h5:=hK.2 h2
   have h6:=ih1.2 h3
   refine ⟨⟨⟨?_,h5.1⟩,h6.1⟩,by omega⟩
   rw [HL h2.1.1.1 (E7 h2.1.1.2),Bool.and_eq_true]
   exact h1
theorem HY(l:List ae):(decide (dY l<=8) && kR l 0 false)=kT l 0 true 1:=by
 rw [Bool.eq_iff_iff]
 simp only [kR,kT,lT,Bool.and_eq_true,Bool.or_eq_true,decide_eq_true_eq]
 constructor
 ·rintro ⟨h1,⟨h2,h3⟩,h4⟩
  have h3:cl (nmS (dk l))=true:=by rcases h3 with (h|h)|h<;>first|exact h|(exact absurd h (by decide))
  exact ⟨⟨⟨h2,(rq _ l 0 false 1 (Nat.lt_succ_self _) (by omega) h3).1 ⟨h4,by omega⟩⟩,h3⟩,.inl (by omega)⟩
 ·rintro ⟨⟨⟨h1,h2⟩,h3⟩,h4⟩
  have:=(rq _ l 0 false 1 (Nat.lt_succ_self _) (by omega) h3).2 h2
  exact ⟨by omega,⟨h1,.inr h3⟩,this.1⟩
theorem Bn(l:List ae):jS l=(decide (0<=fj l (60 - l.length)) && kT l 0 true 1):=by
 rw [Mf,jS,Bool.and_assoc,HY]
theorem EV{l:List ae}{k:Nat}(hk:k<l.length):idx (nmP (at_ l k).af) l=k↔cont ((nmS l).take k) (at_ (nmS l) k)=false:=by
 have e:at_ (nmS l) k=(at_ l k).af:=oY hk
 rw [e]
 constructor
 ·intro h
  rw [Bool.eq_false_iff]
  intro hc
  rw [iR] at hc
  obtain ⟨i,hi,e2⟩:=List.getElem_of_mem hc
  rw [List.length_take] at hi
  have hi':i<l.length:=by omega
  rw [List.getElem_take,lv,nmS,oY hi'] at e2
  have:=Ik (p:=nmP (at_ l k).af) hi' (by simp [nmP,e2])
  omega
 ·intro h
  refine gB hk (fun y hy=>?_) (by simp [nmP])
  rw [Bool.eq_false_iff] at h ⊢
  intro hc
  apply h
  rw [iR,nmS,<- List.map_take,List.mem_map]
  exact ⟨y,hy,by simpa [nmP] using hc⟩
theorem HE{l:List ae}{k:Nat}(hk:k<l.length)(h:¬ idx (nmP (at_ l k).af) l=k):cl (nmS l)=false:=by
 refine cW (j:=k) (by rw [nmS,List.length_map];exact hk) ?_
 rw [EV hk] at h
 simpa using h
theorem Gj{l:List ae}{k:Nat}(h:k<l.length)(kind:Int)(bd:Bool):kA (l.drop k) kind bd=(jQ kind bd (at_ l k) && (lT (at_ l k).ag (at_ l k).ai && kA (at_ l k).ag (at_ l k).ai (bd || !(at_ l k).bq.isEmpty || decide ((at_ l k).ai=6))) && kA (l.drop (k+1)) kind bd):=by rw [ct h,zj]
theorem QX{l:List ae}{k:Nat}(h:k<l.length)(kind:Int)(fr:Bool)(p:Nat):kS (l.drop k) kind fr p=((decide (kind=5) == decide ((at_ l k).ai=6)) && oH (at_ l k) fr && kT (at_ l k).ag (at_ l k).ai (fr && (at_ l k).bq.isEmpty && !decide ((at_ l k).ai=6)) (p+1) && kS (l.drop (k+1)) kind fr p):=by rw [ct h,zi];rfl
end
section
def wtS:List ae->Nat
 | []=>0
 | .mk _ _ _ _ _ e _ _ _ _ _ _ m n ks::xs=>1+e.length+dD m+dD n+wtS ks+wtS xs
theorem I8(x:ae)(xs:List ae):wtS (x::xs)=1+x.ba.length+dD x.bq+dD x.bR+wtS x.ag+wtS xs:=by cases x;rw [wtS];rfl
theorem lC:∀ (l:List ae),cE l<=wtS l
 | []=>by simp [cE]
 | .mk _ _ _ _ _ _ _ _ _ _ _ _ _ _ ks::xs=>by have:=lC ks;have:=lC xs;simp only [cE,wtS];omega
theorem u4:∀ (l:List ae),dY l<=wtS l
 | []=>by simp [dY]
 | .mk _ _ _ _ _ _ _ _ _ _ _ _ _ _ ks::xs=>by have:=u4 ks;have:=u4 xs;simp only [dY,wtS];omega
theorem yN:∀ {l:List ae} {x:ae},x∈l->1+x.ba.length+dD x.bq+dD x.bR+wtS x.ag<=wtS l
 | y::l,x,h=>by
  rw [I8]
  rcases List.mem_cons.1 h with rfl|h
  ·omega
  ·have:=yN h;omega
theorem zy:∀ (l:List aO) (r:Int),0<=r->0<=ig l r->ig l r+dD l<=r+1
 | [],r,_,_=>by simp [ig,dD];omega
 | .mk op num tx p ks::xs,r,h0,h=>by
  rw [ig] at h ⊢
  obtain ⟨h1,e1⟩:=gf h
  rw [e1] at h ⊢
  have hx:cu (.mk op num tx p ks) r+gG (.mk op num tx p ks)<=r+1:=by
   rw [cu] at h1 ⊢
   obtain ⟨h2,e2⟩:=gf h1
   rw [e2] at h1 ⊢
   obtain ⟨h3,e3⟩:=gf h1
   rw [e3] at h1 ⊢
   obtain ⟨h4,e4⟩:=gf h1
   rw [e4] at h1 ⊢
   simp only [id] at h1 h4 ⊢
   obtain ⟨h5,e5⟩:=gf h4
   rw [e5] at h1 ⊢
   have h6:=zy ks _ h5 h1
   have h7:=pZ p (az tx r) h2
   have h8:=aJ tx r h0
   rw [gG]
   cases ks with
   | nil=>simp only [dD,ig,List.length_nil] at *;omega
   | cons y ys=>simp only [List.length_cons] at *;omega
  have h9:=zy xs _ h1 h
  have h10:=qF xs _ h1
  have h11:=eM (.mk op num tx p ks) r h0
  rw [dD]
  rcases Nat.le_total (gG (.mk op num tx p ks)) (dD xs) with q|q
  ·rw [Nat.max_eq_right q];omega
  ·rw [Nat.max_eq_left q];omega
theorem Fk{l:List aO}{r:Int}(h0:0<=r)(h:0<=aM cu l r):aM cu l r+dD l<=r:=by
 rcases Int.lt_or_le (r - l.length) 0 with h2|h2
 ·rw [fe h2] at h;omega
 ·rw [fC h2,<- qG] at h ⊢
  have:=zy l _ h2 h
  cases l with
  | nil=>simp only [dD,ig,List.length_nil] at *;omega
  | cons y ys=>simp only [List.length_cons] at *;omega
theorem BP:∀ (l:List ae) (r:Int),0<=r->0<=gQ l r->gQ l r+wtS l<=r+l.length
 | [],r,_,_=>by simp [gQ,wtS]
 | .mk k a b c d e f g hh i j lx m n ks::xs,r,h0,h=>by
  rw [gQ] at h ⊢
  obtain ⟨h1,e1⟩:=gf h
  rw [e1] at h ⊢
  have hx:bP (.mk k a b c d e f g hh i j lx m n ks) r+(e.length+dD m+dD n+wtS ks:Nat)<=r:=by
   rw [bP] at h1 ⊢
   obtain ⟨g0,e0⟩:=gf h1
   rw [e0] at h1 ⊢
   obtain ⟨g1,e1⟩:=gf h1
   rw [e1] at h1 ⊢
   obtain ⟨g2,e2⟩:=gf h1
   rw [e2] at h1 ⊢
   obtain ⟨g3,e3⟩:=gf h1
   rw [e3] at h1 ⊢
   obtain ⟨g4,e4⟩:=gf h1
   rw [e4] at h1 ⊢
   obtain ⟨g5,e5⟩:=gf h1
   rw [e5] at h1 ⊢
   obtain ⟨g6,e6⟩:=gf h1
   rw [e6] at h1 ⊢
   obtain ⟨g7,e7⟩:=gf h1
   rw [e7] at h1 ⊢
   simp only [id] at h1 g7 ⊢
   obtain ⟨g8,e8⟩:=gf g7
   rw [e8] at h1 ⊢
   have q0:=aJ a r h0
   have q1:=ku b _ g0
   have q2:=bu az aJ c _ g1
   have q3:=bu az aJ d _ g2
   have q5:=Fk g4 g5
   have q6:=Fk g5 g6
   have q7:=BP ks _ g8 h1
   rw [show az e (aM az d (aM az c (dw b (az a r))))=aM az d (aM az c (dw b (az a r))) - e.length from rfl] at *
   omega
  have:=BP xs _ h1 h
  rw [wtS,List.length_cons];omega
theorem Lg{l:List ae}{r:Int}(h0:0<=r)(h:0<=aM bP l r):(wtS l:Int)<=r:=by
 rcases Int.lt_or_le (r - l.length) 0 with h2|h2
 ·rw [fe h2] at h;omega
 ·rw [fC h2,<- nX] at h
  have:=BP l _ h2 h
  omega
end
section
def ndP(n:Str)(x:ah):Bool:=x.af == n
def kyB(n:ae)(x:ah):Bool:=!decide (n.ai=2) || n.aD.all (fun k=>decide (0<=idx (ndP k) x.ag))
def kyL(n:ae)(x:ah):List Str:=if n.ai=2 then (if kyB n x=true then n.aD.map (fun k=>(at_ x.ag (idx (ndP k) x.ag).toNat).ax) else []) else [x.ax]
def dq:List Str->List Str->Bool
 | [],[]=>false
 | [],_::_=>true
 | _::_,[]=>false
 | x::xs,y::ys=>if x=y then dq xs ys else Op.bytesLess x y
def mO(a b:Str):Int:=if Op.bytesLess a b=true then -1 else if a=b then 0 else 1
def cmpL:List Str->List Str->Int
 | [],[]=>0
 | [],_::_=>-1
 | _::_,[]=>1
 | x::xs,y::ys=>if mO x y=0 then cmpL xs ys else mO x y
theorem qg:∀ a:Str,Op.bytesLess a a=false
 | []=>by simp [Op.bytesLess]
 | x::xs=>by simp [Op.bytesLess,qg xs]
theorem uB(a b:Str):mO a b=0↔a=b:=by
 unfold mO
 constructor
 ·intro h
  split at h
  ·omega
  ·split at h
   ·assumption
   ·omega
 ·rintro rfl;simp [qg]
theorem jU:∀ a b:List Str,dq a b=decide (cmpL a b<0)
 | [],[]=>by simp [dq,cmpL]
 | [],_::_=>by simp [dq,cmpL]
 | _::_,[]=>by simp [dq,cmpL]
 | x::xs,y::ys=>by
  rw [dq,cmpL]
  by_cases h:x=y
  ·rw [if_pos h,if_pos ((uB _ _).2 h),jU xs ys]
  ·rw [if_neg h,if_neg (fun c=>h ((uB _ _).1 c)),mO]
   cases Op.bytesLess x y<;>simp [h]
def kH(k:Int):Bool:=decide (k=2) || decide (k=4)
def j7(n:ae)(a b:ah):Int:=if kH n.ai=true then cmpL (kyL n a) (kyL n b) else 0
def fq(d:List ae)(a b:ah):Bool :=
 if idx (nmP a.af) d=idx (nmP b.af) d/\kH (at_ d (idx (nmP b.af) d).toNat).ai=true then dq (kyL (at_ d (idx (nmP b.af) d).toNat) a) (kyL (at_ d (idx (nmP b.af) d).toNat) b) else decide (idx (nmP a.af) d<idx (nmP b.af) d)
def UU(d:List ae):Option ah->ah->Bool
 | none,_=>true
 | some a,b=>fq d a b
def okL(d:List ae):Option ah->List ah->Bool
 | _,[]=>true
 | p,.mk nm v ks::xs =>
  decide (0<=idx (nmP nm) d) &&
  (let n:=at_ d (idx (nmP nm) d).toNat
   if n.ai=3\/n.ai=4 then ks.isEmpty && isVal n.fType v
   else if n.ai=2 then kyB n (.mk nm v ks) && v.isEmpty && okL (dk n.ag) none ks
   else v.isEmpty && (n.bw || !ks.isEmpty) && okL (dk n.ag) none ks) &&
  UU d p (.mk nm v ks) && okL d (some (.mk nm v ks)) xs
def okN(n:ae)(x:ah):Bool :=
 if n.ai=3\/n.ai=4 then x.ag.isEmpty && isVal n.fType x.ax
 else if n.ai=2 then kyB n x && x.ax.isEmpty && okL (dk n.ag) none x.ag
 else x.ax.isEmpty && (n.bw || !x.ag.isEmpty) && okL (dk n.ag) none x.ag
def prv(l:List ah):Nat->Option ah
 | 0=>none
 | k+1=>some (at_ l k)
def WI(d:List ae)(l:List ah)(k:Nat):Int:=match prv l k with
 | none=>-1
 | some a=>idx (nmP a.af) d
def ue(s:List ae)(l:List ah):Bool:=jS s && decide (cnt l<=120) && okL (dk s) none l
theorem nF:∀ (l:List ae),∀ y∈dk l,1+y.ba.length+wtS y.ag<=wtS l
 | [],y,h=>by simp [dk] at h
 | .mk k a b c d e f g h i j l m n ks::xs,y,hy=>by
  rw [dk,List.mem_append] at hy
  rcases hy with hy|hy
  ·split at hy
   ·rename_i h1;rw [List.mem_singleton] at hy;subst hy;simp only [wtS,ae.ag,ae.ba];omega
   ·split at hy
    ·have:=nF ks y hy;simp only [wtS];omega
    ·simp at hy
  ·have:=nF xs y hy;simp only [wtS];omega
theorem E0(d:List ae)(n:Str):idx (fun x=>x == n) (nmS d)=idx (nmP n) d:=by
 rw [nmS,<- uR ae.af (fun x=>x == n)];rfl
end
section
def Kw:List Str->List ae->ah->List ah
 | [],_,x=>[x]
 | c::cs,s,x =>
  if x.af=c then
   (if cs=[] then [x] else
    (let n:=at_ (dk s) (idx (nmP x.af) (dk s)).toNat
     if n.ai=1\/n.ai=2 then
     (let kids:=x.ag.flatMap fun k=>if cont n.aD k.af=true then [k] else Kw cs n.ag k
      if n.ai=1/\n.bw=false/\kids=[] then [] else [.mk x.af [] kids])
     else []))
  else []
def sN:List Str->List ae->List Str->ah->List ah
 | [],_,_,x=>[x]
 | c::cs,d,keys,x =>
  let n:=at_ d (idx (nmP x.af) d).toNat
  if ¬ n.af=c\/(n.ai=3\/n.ai=4)/\¬ cs=[] then (if cont keys n.af=true then [x] else [])
  else (let kids:=x.ag.flatMap (sN cs (dk n.ag) n.aD)
   if ¬ n.ai=1\/n.bw=true\/¬ kids=[] then [.mk n.af x.ax kids] else [])
def okX(d:List ae)(x:ah):Prop:=0<=idx (nmP x.af) d/\okN (at_ d (idx (nmP x.af) d).toNat) x=true
def gdS(s:List ae):Prop:=cl (nmS (dk s))=true/\∃ kind bd,kA s kind bd=true
end
end Go.Dt
namespace Go.Dt
open Go.Ab
section
theorem DM:∀ (x y:Str),(Op.bytesLess x y || x == y)=!Op.bytesLess y x
 | [],[]=>by simp [Op.bytesLess]
 | [],_::_=>by simp [Op.bytesLess]
 | _::_,[]=>by simp [Op.bytesLess]
 | a::x,b::y=>by
  have ih:=DM x y
  simp only [Op.bytesLess]
  by_cases e:a=b
  ·subst e
   have:decide (a<a)=false:=by simp
   simp only [this,beq_self_eq_true,Bool.true_and,Bool.false_or,<- ih]
   cases Op.bytesLess x y<;>simp
  ·have e':¬ b=a:=fun h=>e h.symm
   have e1:(a == b)=false:=by simpa using e
   have e2:(b == a)=false:=by simpa using e'
   have e3:(a::x == b::y)=false:=by simp [e]
   rw [e1,e2,e3,Bool.false_and,Bool.false_and,Bool.or_false,Bool.or_false,Bool.or_false]
   by_cases h:a<b
   ·have h2:¬ b<a:=fun h3=>by
     have h4:=UInt8.lt_iff_toNat_lt.1 h
     have h5:=UInt8.lt_iff_toNat_lt.1 h3
     omega
    simp [h,h2]
   ·have h2:b<a:=by
     have h4:¬ a.toNat<b.toNat:=fun h5=>h (UInt8.lt_iff_toNat_lt.2 h5)
     have h5:¬ a.toNat=b.toNat:=fun h6=>e (UInt8.toNat_inj.1 h6)
     exact UInt8.lt_iff_toNat_lt.2 (by omega)
    simp [h,h2]
def tmI(l:List aL)(n:Str):Int:=idx (fun x=>x.af == n) l
def svc(T:List aL)(x:bt):Bool:=(isName x.af && decide (0<=tmI T x.aX)) && (names x.ck && cl x.ck)
def S9(T:List aL)(S:List bt)(j:Nat):Bool:=svc T (at_ S j) && (j == 0 || Op.bytesLess (at_ S (j - 1)).af (at_ S j).af)
def V7(ip:Str->Bool)(T:List aL)(S:List bt):Bool:=((bL (fun j=>di ip (at_ T j)) T.length && cl (T.map aL.af)) && (decide (T.length<=8) && decide (S.length<=8))) && bL (S9 T S) S.length
end
section
theorem B0{α:Type}{f:α->Int->Int}(hf:∀ x r,0<=r->f x r<=r):∀ (l:List α) (r:Int),0<=r->0<=dP f l r->∀ x∈l,∃ r',0<=r'/\r'<=r/\0<=f x r'
 | [],_,_,_,_,hx=>by cases hx
 | y::ys,r,h0,h,x,hx=>by
  rw [dP,thn] at h
  split at h
  ·omega
  ·rename_i h1
   rcases List.mem_cons.1 hx with rfl|hx
   ·exact ⟨r,h0,Int.le_refl r,by omega⟩
   ·obtain ⟨r',a,b,c⟩:=B0 hf ys _ (by omega) h x hx
    have:=hf y r h0
    exact ⟨r',a,by omega,c⟩
theorem Jf{α:Type}{f:α->Int->Int}(hf:∀ x r,0<=r->f x r<=r){l:List α}{r:Int}(h:0<=aM f l r){x:α}(hx:x∈l):∃ r',0<=r'/\r'<=r/\0<=f x r':=by
 rcases Int.lt_or_le (r - l.length) 0 with h4|h4
 ·rw [fe h4] at h;omega
 ·rw [fC h4] at h
  obtain ⟨r',a,b,c⟩:=B0 hf l _ h4 h x hx
  exact ⟨r',a,by omega,c⟩
theorem FO{α:Type}{f:α->Int->Int}{l:List α}{r:Int}(h:0<=aM f l r):(l.length:Int)<=r:=by
 rcases Int.lt_or_le (r - l.length) 0 with h4|h4
 ·rw [fe h4] at h;omega
 ·omega
end
section
theorem jN{α:Type}[Inhabited α]{l:List α}{i:Nat}(h:i<l.length):l.take (i+1)=l.take i++[at_ l i]:=by
 rw [List.take_succ_eq_append_getElem h];unfold at_;rw [List.getElem?_eq_getElem h];rfl
end
end Go.Dt
namespace Go.Dt
def FK(T:List aL):Prop:=∀ t∈T,wt t.cD<=1048576/\t.aC.length<=1048576
end Go.Dt
namespace Go.Dt
open Go Go.Ab
section
theorem Kz(a b:Str):-1<=mO a b/\mO a b<=1:=by unfold mO;repeat' split<;>omega
theorem Ft{a b:List Str}{i:Nat}(h1:i<a.length)(h2:i<b.length):cmpL (a.drop i) (b.drop i)=if mO (at_ a i) (at_ b i)=0 then cmpL (a.drop (i+1)) (b.drop (i+1)) else mO (at_ a i) (at_ b i):=by
 rw [ct h1,ct h2,cmpL]
theorem Pr{a b:List Str}{i:Nat}(h1:i<a.length)(h2:¬ i<b.length):cmpL (a.drop i) (b.drop i)=1:=by
 rw [ct h1,fK h2,cmpL]
theorem IQ{a b:List Str}{i:Nat}(h1:¬ i<a.length):cmpL (a.drop i) (b.drop i)=if i<b.length then -1 else 0:=by
 rw [fK h1]
 split
 ·rw [ct (by assumption),cmpL]
 ·rw [fK (by assumption),cmpL]
theorem CP{a b:List Str}{i:Nat}(h1:i<a.length)(h2:i<b.length):dq (a.drop i) (b.drop i)=if at_ a i=at_ b i then dq (a.drop (i+1)) (b.drop (i+1)) else Op.bytesLess (at_ a i) (at_ b i):=by
 rw [ct h1,ct h2,dq]
theorem Me{a b:List Str}{i:Nat}(h0:i<=a.length)(h0':i<=b.length)(h1:¬ (i<a.length/\i<b.length)):dq (a.drop i) (b.drop i)=decide (a.length<b.length):=by
 by_cases h:i<a.length
 ·have:¬ i<b.length:=fun c=>h1 ⟨h,c⟩
  rw [ct h,fK this,dq,eq_comm,decide_eq_false_iff_not];omega
 ·rw [fK h]
  by_cases h2:i<b.length
  ·rw [ct h2,dq,eq_comm,decide_eq_true_eq];omega
  ·rw [fK h2,dq,eq_comm,decide_eq_false_iff_not];omega
def kyT(x:ah)(k:Str):Str:=(at_ x.ag (idx (ndP k) x.ag).toNat).ax
def mY(x:ah)(k:Str):Bool:=decide (0<=idx (ndP k) x.ag)
theorem rp{n:ae}{x:ah}(h:n.ai=2)(hk:n.aD.all (mY x)=true):kyL n x=n.aD.map (kyT x)/\kyB n x=true:=by
 have e:kyB n x=true:=by rw [kyB,h];exact hk
 refine ⟨?_,e⟩
 rw [kyL,if_pos h,if_pos e];rfl
theorem zf{n:ae}{x:ah}(h:n.ai=2)(hk:n.aD.all (mY x)=false):kyL n x=[]/\kyB n x=false:=by
 have e:kyB n x=false:=by rw [kyB,h];exact hk
 refine ⟨?_,e⟩
 rw [kyL,if_pos h,if_neg (by rw [e];simp)]
theorem nM{n:ae}{x:ah}(h:¬ n.ai=2):kyL n x=[x.ax]/\kyB n x=true:=by
 refine ⟨by rw [kyL,if_neg h],?_⟩
 rw [kyB];simp [h]
section
variable {d : List ae} {l : List ah} {k : Nat}
end
end
section
def Xo(n:ae)(cs:List Str)(k:ah):List ah:=if cont n.aD k.af=true then [k] else Kw cs n.ag k
section
variable {s : List ae} {x : ah} {c : Str} {cs : List Str}
end
end
section
def smT:List ah->List ah->Bool
 | [],[]=>true
 | [],_::_=>false
 | .mk _ _ _::_,[]=>false
 | .mk n v ks::xs,y::ys=>n == y.af && v == y.ax && smT ks y.ag && smT xs ys
def skB(n:ae)(a b:ah):Bool:=!kH n.ai || (kyB n a && kyB n b && (kyL n a == kyL n b))
def fiP(n:ae)(x y:ah):Bool:=y.af == n.af && decide (j7 n x y=0) && skB n x y
def fsP(n:ae)(v:Str)(key:List Str)(y:ah):Bool:=y.af == n.af && !(decide (n.ai=4) && !(y.ax == v)) && (!decide (n.ai=2) || !dq (kyL n y) key && !dq key (kyL n y))
def fnd(n:ae)(l:List ah)(x:ah):Int:=idx (fiP n x) l
theorem MX(x y:Str):(!Op.bytesLess x y && !Op.bytesLess y x)=(x == y):=by
 have h1:=DM x y
 have h2:=DM y x
 by_cases e:x=y
 ·subst e;rw [qg];simp
 ·have e1:(x == y)=false:=by simpa using e
  have e2:(y == x)=false:=by simpa using fun c=>e c.symm
  rw [e1,Bool.or_false] at h1
  rw [e1,h1];cases Op.bytesLess y x<;>rfl
theorem qh:∀ (a b:List Str),(!dq a b && !dq b a)=(a == b)
 | [],[]=>by simp [dq]
 | [],_::_=>by simp [dq]
 | _::_,[]=>by simp [dq]
 | x::xs,y::ys=>by
  simp only [dq]
  by_cases e:x=y
  ·subst e
   rw [if_pos rfl,if_pos rfl,qh xs ys];simp
  ·rw [if_neg e,if_neg (fun c=>e c.symm),MX]
   have:(x == y)=false:=by simpa using e
   rw [this];simp [e]
theorem DI:∀ (a b:List Str),cmpL a b=0↔a=b
 | [],[]=>by simp [cmpL]
 | [],_::_=>by simp [cmpL]
 | _::_,[]=>by simp [cmpL]
 | x::xs,y::ys=>by
  rw [cmpL]
  by_cases e:x=y
  ·subst e
   rw [if_pos ((uB _ _).2 rfl),DI xs ys];simp
  ·rw [if_neg (fun c=>e ((uB _ _).1 c))]
   constructor
   ·intro h;exact absurd ((uB _ _).1 h) e
   ·intro h;injection h with h1 h2;exact absurd h1 e
def kyE(n:ae)(x:ah):List bz:=if n.ai=2 then n.aD.map fun k=>.mk 1 k (kyT x k) [] else []
def edO(op:Int):List ah->List bz
 | []=>[]
 | .mk n v ks::xs=>.mk op n v (edO op ks)::edO op xs
abbrev nd(s:List ae)(nm:Str):ae:=at_ (dk s) (idx (nmP nm) (dk s)).toNat
def dfA(s:List ae)(b:List ah)(x:ah):List bz:=if 0<=fnd (nd s x.af) b x then [] else [.mk 4 x.af (if (nd s x.af).ai=4 then x.ax else []) (kyE (nd s x.af) x)]
def dfB(s:List ae)(a:List ah):List ah->List bz
 | []=>[]
 | .mk nm v ks::ys =>
  (let n:=nd s nm
   let i:=fnd n a (.mk nm v ks)
   let x:=at_ a i.toNat
   if i<0 then [.mk 3 nm v (edO 3 ks)]
   else if n.ai=3/\¬ x.ax=v then [.mk 2 nm v []]
   else if (n.ai=1\/n.ai=2)/\smT x.ag ks=false then [.mk 1 nm [] (kyE n (.mk nm v ks)++(x.ag.flatMap (dfA n.ag ks)++dfB n.ag x.ag ks))]
   else [])++dfB s a ys
def dif(s:List ae)(a b:List ah):List bz:=a.flatMap (dfA s b)++dfB s a b
def dfY(s:List ae)(a:List ah)(y:ah):List bz :=
 if fnd (nd s y.af) a y<0 then [.mk 3 y.af y.ax (edO 3 y.ag)]
 else if (nd s y.af).ai=3/\¬ (at_ a (fnd (nd s y.af) a y).toNat).ax=y.ax then [.mk 2 y.af y.ax []]
 else if ((nd s y.af).ai=1\/(nd s y.af).ai=2)/\smT (at_ a (fnd (nd s y.af) a y).toNat).ag y.ag=false then [.mk 1 y.af [] (kyE (nd s y.af) y++dif (nd s y.af).ag (at_ a (fnd (nd s y.af) a y).toNat).ag y.ag)]
 else []
section
variable {n : ae} {x : ah} {k : Nat}
end
end
section
section
variable {d : List ae} {l : List ah} {k : Nat}
end
end
section
section
variable {s : List ae} {a b : List ah} {x y : ah}
end
end
section
theorem DL:∀ (a b c:Str),Op.bytesLess a b=true->Op.bytesLess b c=true->Op.bytesLess a c=true
 | a,[],c,h,_=>by cases a<;>simp [Op.bytesLess] at h
 | [],_::_,[],_,h=>by simp [Op.bytesLess] at h
 | [],_::_,_::_,_,_=>by simp [Op.bytesLess]
 | _::_,_::_,[],_,h=>by simp [Op.bytesLess] at h
 | x::xs,y::ys,z::zs,h1,h2=>by
  simp only [Op.bytesLess,Bool.or_eq_true,Bool.and_eq_true,decide_eq_true_eq,beq_iff_eq] at *
  rcases h1 with h1|⟨rfl,h1⟩
  ·rcases h2 with h2|⟨rfl,_⟩
   ·exact .inl (UInt8.lt_trans h1 h2)
   ·exact .inl h1
  ·rcases h2 with h2|⟨rfl,h2⟩
   ·exact .inl h2
   ·exact .inr ⟨rfl,DL xs ys zs h1 h2⟩
theorem sy:∀ (a b c:List Str),dq a b=true->dq b c=true->dq a c=true
 | a,[],c,h,_=>by cases a<;>simp [dq] at h
 | [],_::_,[],_,h=>by simp [dq] at h
 | [],_::_,_::_,_,_=>by simp [dq]
 | _::_,_::_,[],_,h=>by simp [dq] at h
 | x::xs,y::ys,z::zs,h1,h2=>by
  rw [dq] at *
  by_cases e1:x=y
  ·subst e1
   rw [if_pos rfl] at h1
   by_cases e2:x=z
   ·subst e2
    rw [if_pos rfl] at h2 ⊢
    exact sy xs ys zs h1 h2
   ·rw [if_neg e2] at h2 ⊢;exact h2
  ·rw [if_neg e1] at h1
   by_cases e2:y=z
   ·subst e2
    rw [if_neg e1];exact h1
   ·rw [if_neg e2] at h2
    have h3:=DL x y z h1 h2
    rw [if_neg (fun e=>by subst e;rw [qg] at h3;exact absurd h3 (by simp))]
    exact h3
theorem uN(a:List Str):dq a a=false:=by
 have:=qh a a
 rw [beq_self_eq_true] at this
 cases h:dq a a with
 | false=>rfl
 | true=>rw [h] at this;simp at this
theorem AZ{d:List ae}{a b c:ah}(h1:fq d a b=true)(h2:fq d b c=true):fq d a c=true:=by
 unfold fq at *
 by_cases e1:idx (nmP a.af) d=idx (nmP b.af) d/\kH (at_ d (idx (nmP b.af) d).toNat).ai=true
 ·rw [if_pos e1] at h1
  by_cases e2:idx (nmP b.af) d=idx (nmP c.af) d/\kH (at_ d (idx (nmP c.af) d).toNat).ai=true
  ·rw [if_pos e2] at h2
   rw [if_pos ⟨e1.1.trans e2.1,e2.2⟩]
   rw [e2.1] at h1
   exact sy _ _ _ h1 h2
  ·rw [if_neg e2] at h2
   rw [if_neg (fun c=>e2 ⟨e1.1.symm.trans c.1,c.2⟩),e1.1];exact h2
 ·rw [if_neg e1,decide_eq_true_eq] at h1
  by_cases e2:idx (nmP b.af) d=idx (nmP c.af) d/\kH (at_ d (idx (nmP c.af) d).toNat).ai=true
  ·rw [if_neg (by rintro ⟨c,_⟩;omega),decide_eq_true_eq];omega
  ·rw [if_neg e2,decide_eq_true_eq] at h2
   rw [if_neg (by rintro ⟨c,_⟩;omega),decide_eq_true_eq];omega
theorem MY{d:List ae}(a:ah):fq d a a=false:=by
 unfold fq
 split
 ·exact uN _
 ·simp
theorem Hl{α:Type}{R:α->α->Prop}(ht:∀ a b c,R a b->R b c->R a c)(hi:∀ a,¬ R a a):∀ {l m:List α},l.Pairwise R->m.Pairwise R->(∀ x,x∈l↔x∈m)->l=m
 | [],[],_,_,_=>rfl
 | [],y::m,_,_,h=>absurd ((h y).2 (by simp)) (by simp)
 | x::l,[],_,_,h=>absurd ((h x).1 (by simp)) (by simp)
 | x::l,y::m,h1,h2,h=>by
  have h3:=List.pairwise_cons.1 h1
  have h4:=List.pairwise_cons.1 h2
  have e:x=y:=by
   rcases List.mem_cons.1 ((h x).1 (by simp)) with e|hx
   ·exact e
   ·rcases List.mem_cons.1 ((h y).2 (by simp)) with e|hy
    ·exact e.symm
    ·exact absurd (ht _ _ _ (h3.1 y hy) (h4.1 x hx)) (hi x)
  subst e
  refine congrArg (x::·) (Hl ht hi h3.2 h4.2 fun z=>?_)
  have hz:=h z
  simp only [List.mem_cons] at hz
  constructor
  ·intro q
   rcases hz.1 (.inr q) with e|e
   ·subst e;exact absurd (h3.1 z q) (hi z)
   ·exact e
  ·intro q
   rcases hz.2 (.inr q) with e|e
   ·subst e;exact absurd (h4.1 z q) (hi z)
   ·exact e
end
end Go.Dt
