/- A part. -/
import Derived.Test.YtmcjbaafmjlblaaGreatDoorJ18
set_option linter.all false
namespace Go.Dt
open Go.Ab
def pg(x:eC):Bool:=isName x.ae && isText x.av
def jt(x:GStep):Bool:=x.b8.all pg && (isName x.ae && decide (x.b8.length<=3) && cn (x.b8.map eC.ae))
def CP(p:eO):Bool:=decide (0<=p.dq) && decide (p.dq<=8) && (!p.cH || decide (p.dq=0)) && decide (p.aN.length<=10) && (p.cH || decide (0<p.dq) || decide (0<p.aN.length))
def iK(p:eO):Bool:=p.aN.all jt && CP p
mutual
def gS:aO->Nat
 | .mk _ _ _ _ ks=>dH ks+1
def dH:List aO->Nat
 | []=>0
 | x::xs=>max (gS x) (dH xs)
end
def vV(p:eO):Bool:=!p.cH && decide (p.dq=0) && p.aN.isEmpty
def gm(op:Int):Nat:=if op=5 then 1 else if 1<=op/\op<=4 then 0 else 2
def sC(p:eO):Bool:=!(!p.cH && decide (p.dq=0) && decide (0<p.aN.length) && ((at_ p.aN 0).ae == [111,114] || (at_ p.aN 0).ae == [97,110,100])) && !(p.cH && p.aN.isEmpty)
def exN(op num:Int)(tx:Str)(p:eO)(n:Nat):Bool :=
 decide (1<=op) && decide (op<=15) && decide (n=gm op) && (decide (op=1) || decide (num=0)) && (decide (op=2) || tx.isEmpty) && (decide (op=3) || decide (op=4) || vV p) &&
 (if op=1 then decide (0<=num) && decide (num<=1000000000) else if op=2 then isText tx else if op=4 then iK p else if op=3 then iK p && sC p else true)
mutual
def vE:aO->Bool
 | .mk op num tx p ks=>exN op num tx p ks.length && vEL ks
def vEL:List aO->Bool
 | []=>true
 | x::xs=>vE x && vEL xs
end
theorem F8:∀ l:List aO,vEL l=l.all vE
 | []=>rfl
 | x::xs=>by simp only [vEL,List.all_cons,F8 xs]
def yA(e:aO):Bool:=decide (gS e<=8) && vE e
def di(k:Int):Bool:=decide (1<=k) && decide (k<=4)
def dk:List ag->List ag
 | []=>[]
 | .mk k a b c d e f g h i j l m n ks::xs=>(if di k=true then [.mk k a b c d e f g h i j l m n ks] else if k=5\/k=6 then dk ks else [])++dk xs
theorem lS(x:ag)(xs:List ag):dk (x::xs)=(if di x.ai=true then [x] else if x.ai=5\/x.ai=6 then dk x.af else [])++dk xs:=by cases x;rw [dk];rfl
def bE:List ag->Nat
 | []=>0
 | .mk _ _ _ _ _ _ _ _ _ _ _ _ _ _ ks::xs=>1+bE ks+bE xs
def ep:List ag->Nat
 | []=>0
 | .mk _ _ _ _ _ _ _ _ _ _ _ _ _ _ ks::xs=>max (1+ep ks) (ep xs)
def mxS:List ag->Nat
 | []=>0
 | .mk _ _ _ _ _ _ _ _ _ _ _ _ w m ks::xs=>max (max (dH w) (dH m)) (max (mxS ks) (mxS xs))
def lW(t:dx):Bool:=decide (t.ai=0) && t.aB.isEmpty && t.ax.isEmpty && t.aW.isEmpty && t.aE.isEmpty
def exS(l:List aO)(m:Int):Bool:=l.all yA && decide ((l.length:Int)<=m)
def mX(n:ag):Bool:=decide (0<=n.gF) && decide (n.gF<=1000000000) && (decide (n.gG=0) || (decide (n.gF<=n.gG) && decide (n.gG<=1000000000)))
def nmS(l:List ag):List Str:=l.map ag.ae
def nmP(n:Str)(x:ag):Bool:=x.ae == n
theorem iL{α:Type}[Inhabited α]{p:α->Bool}{l:List α}{k:Nat}(hk:k<l.length)(h:p (at_ l k)=false):l.all p=false:=by
 rw [<- zW,dU hk h]
theorem eA{α:Type}{p:α->Bool}{l:List α}{k:Nat}(hk:¬ k<l.length)(h:∀ y∈l.take k,(!p y)=false):l.all p=true:=by
 rw [List.take_of_length_le (by omega)] at h
 rw [List.all_eq_true]
 intro x hx
 simpa using h x hx
theorem Dk{α:Type}{f:α->Str}{l:List α}{k:Nat}(h:¬ k<l.length):(l.take k).map f=l.map f:=by rw [List.take_of_length_le (by omega)]
theorem tk1{α:Type}[Inhabited α]{l:List α}{k:Nat}(h:k<l.length):l.take (k+1)=l.take k++[at_ l k]:=by
 rw [List.take_succ_eq_append_getElem h]
 unfold at_;rw [List.getElem?_eq_getElem h];rfl
theorem Di{α β γ:Type}[Inhabited α]{l:List α}{k:Nat}{f:α->β}{g:β->γ}(h:k<l.length):((l.take (k+1)).map f).map g=((l.take k).map f).map g++[g (f (at_ l k))]:=by
 rw [tk1 h];simp
theorem Og(n:Nat):decide ((n:Int)<=10)=decide (n<=10):=decide_eq_decide.2 (by omega)
theorem qi(n:Nat):decide (0<(n:Int))=decide (0<n):=decide_eq_decide.2 (by omega)
theorem iX(a b:Int):(a == b)=decide (a=b):=by rw [Bool.eq_iff_iff];simp
theorem mT{α β:Type}[Inhabited α][Inhabited β]{f:α->β}{l:List α}{k:Nat}(h:k<l.length):at_ (l.map f) k=f (at_ l k):=by
 unfold at_;rw [List.getElem?_map,List.getElem?_eq_getElem h];rfl
theorem DH{x:eO}{k:Nat}(hk:k<x.aN.length)(h:jt (at_ x.aN k)=false):iK x=false:=by
 rw [iK,iL hk h];rfl
section
variable {s : GStep} {i j : Nat}
theorem OG(hi:i<j)(hj:j<s.b8.length)(h:(at_ s.b8 i).ae=(at_ s.b8 j).ae):jt s=false:=by
 have:cn (s.b8.map eC.ae)=false:=by
  refine dU (j:=j) (by simpa using hj) ?_
  rw [tF hi (by simpa using hj) (by rw [mT (by omega),mT hj];exact h)];rfl
 rw [jt,this];simp
theorem OD(hj:j<s.b8.length)(h:pg (at_ s.b8 j)=false):jt s=false:=by
 rw [jt,iL hj h];rfl
theorem OE(hj:¬ j<s.b8.length)(hj2:j<=s.b8.length)(hS:∀ y∈s.b8.take j,(!pg y)=false)(hQ:cO (fun i=>!cont ((s.b8.map eC.ae).take i) (at_ (s.b8.map eC.ae) i)) j=true):jt s=(isName s.ae && decide (s.b8.length<=3)):=by
 have e:j=s.b8.length:=by omega
 subst e
 rw [jt,eA hj hS,cn,List.length_map,hQ];simp
end
theorem jv{α:Type}(l:List α):((l.length:Int) == 0)=l.isEmpty:=by
 cases l with
 | nil=>rfl
 | cons x xs=>rw [List.length_cons,List.isEmpty_cons,iX,decide_eq_false_iff_not];omega
theorem py{α:Type}(l:List α):decide (0<l.length)=!l.isEmpty:=by
 cases l with
 | nil=>rfl
 | cons x xs=>rw [List.length_cons,List.isEmpty_cons];simp
theorem zy{x:eO}(h:iK x=true):0<=x.dq/\(x.cH=true->x.dq=0)/\(x.cH=false->x.dq<=0->0<x.aN.length):=by
 simp only [iK,CP,Bool.and_eq_true,Bool.or_eq_true,decide_eq_true_eq,Bool.not_eq_true'] at h
 obtain ⟨_,⟨⟨⟨⟨h1,_⟩,h2⟩,_⟩,h3⟩⟩:=h
 refine ⟨h1,fun e=>?_,fun e f=>?_⟩
 ·rcases h2 with h2|h2
  ·rw [e] at h2;exact absurd h2 (by simp)
  ·exact h2
 ·rcases h3 with (h3|h3)|h3
  ·rw [e] at h3;exact absurd h3 (by simp)
  ·omega
  ·exact h3
theorem S1{x:eO}(h:iK x=true)(e:x.cH=true\/0<x.dq):(decide (0<x.dq) || decide (0<(x.aN.length:Int)))=sC x:=by
 obtain ⟨h1,h2,h3⟩:=zy h
 cases r:x.cH with
 | true =>
  have:=h2 r
  rw [sC,r,qi,py,this];simp
 | false =>
  rw [r] at e
  have h4:0<x.dq:=by rcases e with e|e;exact absurd e (by simp);exact e
  rw [sC,r,show decide (x.dq=0)=false by simp;omega,show decide (0<x.dq)=true by simpa using h4];simp
theorem Ns{x:eO}(h:iK x=true)(e:x.cH=false/\x.dq<=0):0<x.aN.length/\(!(at_ x.aN 0).ae == [111,114] && !(at_ x.aN 0).ae == [97,110,100])=sC x:=by
 obtain ⟨h1,h2,h3⟩:=zy h
 have h4:=h3 e.1 e.2
 refine ⟨h4,?_⟩
 rw [sC,e.1,show decide (x.dq=0)=true by simp;omega,show decide (0<x.aN.length)=true by simpa using h4]
 simp
theorem Q2{a:Bool}{n:Nat}(h:a=false\/3<(n:Int)):(a && decide (n<=3))=false:=by
 rcases h with h|h
 ·rw [h];rfl
 ·rw [show decide (n<=3)=false by simp;omega,Bool.and_false]
theorem pR(x:aO):gS x=dH x.af+1:=by cases x;rw [gS];rfl
theorem lF(x:aO):vE x=(exN x.fOp x.fD x.cg x.aE x.af.length && x.af.all vE):=by cases x;rw [vE,F8];rfl
theorem Ce:∀ (l:List aO) (x:aO),dH (l++[x])=max (dH l) (gS x)
 | [],x=>by simp [dH]
 | y::l,x=>by simp only [List.cons_append,dH,Ce l x];omega
theorem zO{l:List aO}{k:Nat}(h:k<l.length):dH (l.take (k+1))=max (dH (l.take k)) (gS (at_ l k)):=by
 rw [tk1 h,Ce]
theorem oA:∀ {l:List aO} {y:aO},y∈l->gS y<=dH l
 | x::l,y,h=>by
  rw [dH]
  rcases List.mem_cons.1 h with rfl|h
  ·omega
  ·have:=oA h;omega
theorem tE:∀ (l:List aO) (k:Nat),dH (l.take k)<=dH l
 | [],k=>by simp
 | x::l,0=>by simp [dH]
 | x::l,k+1=>by rw [List.take_succ_cons,dH,dH];have:=tE l k;omega
theorem aO.zu{x y:aO}(h:y∈x.af):SizeOf.sizeOf y<SizeOf.sizeOf x:=by
 have:=List.sizeOf_lt_of_mem h
 cases x;simp [aO.af] at *;omega
theorem Rs(a b:Nat):(if a<b then (b:Int) else (a:Int))=((max a b:Nat):Int):=by split<;>omega
theorem PG(a b:Nat):max (a:Int) (b:Int)=((max a b:Nat):Int):=by omega
def exL(op num:Int)(tx:Str)(p:eO):Bool:=if op=1 then decide (0<=num) && decide (num<=1000000000) else if op=2 then isText tx else if op=4 then iK p else if op=3 then iK p && sC p else true
theorem fG(op num:Int)(tx:Str)(p:eO)(n:Nat):exN op num tx p n=(decide (1<=op) && decide (op<=15) && decide (n=gm op) && (decide (op=1) || decide (num=0)) && (decide (op=2) || tx.isEmpty) && (decide (op=3) || decide (op=4) || vV p) && exL op num tx p):=rfl
theorem dX(s:Str):s.isEmpty=decide (s=[]):=by cases s<;>simp
section
variable {x : aO} {n : Int}
theorem wE(h:(x.af.length:Int)=0):x.af.all vE=true:=by
 rw [List.eq_nil_of_length_eq_zero (l:=x.af) (by omega)];rfl
theorem CN{k:Nat}(hk:k<x.af.length)(h:vE (at_ x.af k)=false):vE x=false:=by
 rw [lF,iL hk h,Bool.and_false]
end
theorem o4{x:aO}(h:exN x.fOp x.fD x.cg x.aE x.af.length=false):vE x=false:=by rw [lF,h,Bool.false_and]
theorem kK(s:Str):(s == [])=s.isEmpty:=by cases s<;>rfl
theorem Fb:∀ (l:List ag) (x:ag),bE (l++[x])=bE l+1+bE x.af
 | [],x=>by cases x;simp [bE,ag.af]
 | .mk _ _ _ _ _ _ _ _ _ _ _ _ _ _ ks::l,x=>by simp only [List.cons_append,bE,Fb l x];omega
theorem La{l:List ag}{k:Nat}(h:k<l.length):bE (l.take (k+1))=bE (l.take k)+1+bE (at_ l k).af:=by rw [tk1 h,Fb]
theorem oB:∀ (l:List ag) (k:Nat),bE (l.take k)+(l.length - k)<=bE l
 | [],k=>by simp [bE]
 | x::l,0=>by
  have:=oB l 0
  cases x;simp only [List.take_zero,bE,List.length_cons] at *;omega
 | x::l,k+1=>by
  have:=oB l k
  cases x;simp only [List.take_succ_cons,bE,List.length_cons] at *;omega
theorem qj:∀ {l:List ag} {x:ag},x∈l->bE x.af<=bE l
 | y::l,x,h=>by
  rcases List.mem_cons.1 h with rfl|h
  ·cases x;simp only [bE,ag.af];omega
  ·have:=qj h;cases y;simp only [bE];omega
theorem E4:∀ (l:List ag) (x:ag),ep (l++[x])=max (ep l) (1+ep x.af)
 | [],x=>by cases x;simp [ep,ag.af]
 | .mk _ _ _ _ _ _ _ _ _ _ _ _ _ _ ks::l,x=>by simp only [List.cons_append,ep,E4 l x];omega
theorem K7{l:List ag}{k:Nat}(h:k<l.length):ep (l.take (k+1))=max (ep (l.take k)) (1+ep (at_ l k).af):=by rw [tk1 h,E4]
theorem vF:∀ (l:List ag) (k:Nat),ep (l.take k)<=ep l
 | [],k=>by simp
 | x::l,0=>by simp [ep]
 | x::l,k+1=>by
  have:=vF l k
  cases x;simp only [List.take_succ_cons,ep] at *;omega
theorem yE:∀ {l:List ag} {x:ag},x∈l->1+ep x.af<=ep l
 | y::l,x,h=>by
  rcases List.mem_cons.1 h with rfl|h
  ·cases x;simp only [ep,ag.af];omega
  ·have:=yE h;cases y;simp only [ep];omega
theorem ag.cd{l:List ag}{x:ag}(h:x∈l):SizeOf.sizeOf x.af<SizeOf.sizeOf l:=by
 have:=List.sizeOf_lt_of_mem h
 cases x;simp [ag.af] at *;omega
end Go.Dt
namespace Go.Dt
open Go Go.Ab
section
def dkF:List ag->Bool->List Bool
 | [],_=>[]
 | .mk k _ _ _ _ _ _ _ _ _ _ _ _ _ ks::xs,h=>(if di k=true then [h] else if k=5\/k=6 then dkF ks (h || k == 6) else [])++dkF xs h
theorem yC(x:ag)(xs:List ag)(h:Bool):dkF (x::xs) h=(if di x.ai=true then [h] else if x.ai=5\/x.ai=6 then dkF x.af (h || x.ai == 6) else [])++dkF xs h:=by cases x;rw [dkF];rfl
theorem K3:∀ (l:List ag) (x:ag),dk (l++[x])=dk l++(if di x.ai=true then [x] else if x.ai=5\/x.ai=6 then dk x.af else [])
 | [],x=>by rw [List.nil_append,lS];simp [dk]
 | y::l,x=>by rw [List.cons_append,lS,lS,K3 l x,List.append_assoc]
theorem Hn(h:Bool):∀ (l:List ag) (x:ag),dkF (l++[x]) h=dkF l h++(if di x.ai=true then [h] else if x.ai=5\/x.ai=6 then dkF x.af (h || x.ai == 6) else [])
 | [],x=>by rw [List.nil_append,yC];simp [dkF]
 | y::l,x=>by rw [List.cons_append,yC,yC,Hn h l x,List.append_assoc]
theorem pP{l:List ag}{k:Nat}(h:k<l.length):dk (l.take (k+1))=dk (l.take k)++(if di (at_ l k).ai=true then [at_ l k] else if (at_ l k).ai=5\/(at_ l k).ai=6 then dk (at_ l k).af else []):=by rw [tk1 h,K3]
theorem yB{l:List ag}{k:Nat}{b:Bool}(h:k<l.length):dkF (l.take (k+1)) b=dkF (l.take k) b++(if di (at_ l k).ai=true then [b] else if (at_ l k).ai=5\/(at_ l k).ai=6 then dkF (at_ l k).af (b || (at_ l k).ai == 6) else []):=by rw [tk1 h,Hn]
theorem nu:∀ (l:List ag),(dk l).length<=bE l
 | []=>by simp [dk]
 | .mk k _ _ _ _ _ _ _ _ _ _ _ _ _ ks::xs=>by
  have h1:=nu ks;have h2:=nu xs
  rw [dk,bE,List.length_append]
  split
  ·simp;omega
  ·split
   ·omega
   ·simp;omega
theorem Bi:∀ (l:List ag) (h:Bool),(dkF l h).length=(dk l).length
 | [],h=>by simp [dk,dkF]
 | .mk k _ _ _ _ _ _ _ _ _ _ _ _ _ ks::xs,h=>by
  rw [dk,dkF,List.length_append,List.length_append,Bi xs h]
  split
  ·simp
  ·split
   ·rw [Bi ks]
   ·simp
theorem HA{l:List ag}{k:Nat}:bE (l.take k)<=bE l:=by have:=oB l k;omega
end
section
def fw:List ag->Int->Int
 | [],q=>q
 | .mk _ _ _ _ _ _ _ _ _ _ _ _ _ _ ks::xs,q=>if q<0 then q else fw xs (fw ks (q - ks.length))
theorem Ml{l:List ag}{k:Nat}(h:k<l.length)(q:Int):fw (l.drop k) q=if q<0 then q else fw (l.drop (k+1)) (fw (at_ l k).af (q - (at_ l k).af.length)):=by
 rw [da h];cases at_ l k;rw [fw];rfl
theorem oq(l:List ag){q:Int}(h:q<0):fw l q=q:=by
 cases l with
 | nil=>rw [fw]
 | cons x xs=>cases x;simp only [fw];rw [if_pos h]
theorem xZ:∀ (l:List ag) (q:Int),fw l q<=q
 | [],q=>by simp [fw]
 | .mk _ _ _ _ _ _ _ _ _ _ _ _ _ _ ks::xs,q=>by
  have h1:=xZ ks (q - ks.length)
  have h2:=xZ xs (fw ks (q - ks.length))
  simp only [fw];split<;>omega
theorem mq:∀ (l:List ag),l.length<=bE l
 | []=>by simp
 | .mk _ _ _ _ _ _ _ _ _ _ _ _ _ _ ks::xs=>by have:=mq xs;simp only [bE,List.length_cons];omega
theorem yc:∀ (l:List ag) (q:Int),-4611686018427387904<=q->bE l<=1048576->-4611686018427387904<=fw l q
 | [],q,h,_=>by simpa [fw] using h
 | .mk _ _ _ _ _ _ _ _ _ _ _ _ _ _ ks::xs,q,h,hw=>by
  simp only [fw]
  simp only [bE] at hw
  split
  ·exact h
  ·have e2:=mq ks
   exact yc xs _ (yc ks _ (by omega) (by omega)) (by omega)
theorem yd:∀ (l:List ag) (q:Int),0<=q->(0<=fw l q↔(bE l:Int) - l.length<=q)/\((bE l:Int) - l.length<=q->fw l q=q - (bE l - l.length))
 | [],q,h=>by simp only [fw,bE,List.length_nil];omega
 | .mk _ _ _ _ _ _ _ _ _ _ _ _ _ _ ks::xs,q,h=>by
  simp only [fw,bE,List.length_cons]
  have e1:=mq ks
  have e2:=mq xs
  rw [if_neg (by omega)]
  rcases Int.lt_or_le (q - ks.length) 0 with h1|h1
  ·rw [oq ks h1,oq xs h1];omega
  ·have h2:=yd ks _ h1
   rcases Int.lt_or_le (fw ks (q - ks.length)) 0 with h3|h3
   ·rw [oq xs h3];omega
   ·have h4:=yd xs _ h3
    have h5:=h2.2 (h2.1.1 h3)
    rw [h5] at h3 h4 ⊢
    omega
theorem Pr(l:List ag):decide (0<=fw l (60 - l.length))=decide (bE l<=60):=by
 have e:=mq l
 refine decide_eq_decide.2 ?_
 rcases Int.lt_or_le (60 - (l.length:Int)) 0 with h|h
 ·rw [oq l h];omega
 ·have:=(yd l _ h).1;omega
end
section
def ml(n:ag):Bool:=isName n.ae && exS n.bz 1 && exS n.bY 3
def tyB(t:dx):Bool:=isType j8 t
def ju(n:ag):Bool :=
 (decide (n.ai=3) || decide (n.ai=4) || lW n.fType) &&
 (decide (n.ai=2) || n.aw.isEmpty && n.aD.isEmpty) &&
 (decide (n.ai=3) || n.bh.isEmpty && !n.cm && !n.dF) &&
 (decide (n.ai=3) || decide (n.ai=5) || !n.cC) &&
 (decide (n.ai=1) || !n.bF) &&
 (decide (n.ai=2) || decide (n.ai=4) || decide (n.gF=0) && decide (n.gG=0)) &&
 (di n.ai || n.bY.isEmpty) &&
 (!(decide (n.ai=3) || decide (n.ai=4)) || n.af.isEmpty)
def gT(n:ag):Bool :=
 if n.ai=1\/n.ai=5\/n.ai=6 then true
 else if n.ai=2 then decide (1<=n.aw.length) && decide (n.aw.length<=3) && cn n.aw && names n.aw && decide (n.aD.length<=3) && cn n.aD && names n.aD && mX n
 else if n.ai=3 then tyB n.fType && !(n.cm && (n.cC || !n.bz.isEmpty)) && (n.cm && isVal n.fType n.bh || !n.cm && n.bh.isEmpty)
 else if n.ai=4 then tyB n.fType && mX n
 else if n.ai=7 then n.bz.isEmpty && n.af.isEmpty
 else false
def j0(n:ag):Bool:=ml n && (ju n && gT n)
def ed(n:Str)(x:ag):Bool:=x.ae == n && decide (x.ai=3)
def lX(y:ag):Bool:=y.bz.isEmpty && !y.cm && !decide (y.fType.ai=6)
def nJ(ks:List ag)(k:Str):Bool:=decide (0<=idx (ed k) ks) && lX (at_ ks (idx (ed k) ks).toNat)
def qU(ks:List ag)(k:Str):Bool:=decide (0<=idx (ed k) ks)
def p9(ks:List ag)(k:Str):Bool:=decide (0<=idx (nmP k) ks) && decide ((at_ ks (idx (nmP k) ks).toNat).ai=3) && lX (at_ ks (idx (nmP k) ks).toNat)
def pX(ks:List ag)(k:Str):Bool:=decide (0<=idx (nmP k) ks) && decide ((at_ ks (idx (nmP k) ks).toNat).ai=3)
def n8(n:ag):Bool:=n.aw.all (p9 n.af) && n.aD.all (pX n.af) && (lW n.fType && !n.aw.isEmpty && (cn n.aw && decide (n.aw.length<=3)) && (cn n.aD && decide (n.aD.length<=3)) && mX n && !n.cm && !n.cC && !n.bF && !n.dF && n.bh.isEmpty)
def qA(n:ag):Bool:=n.aw.isEmpty && n.aD.isEmpty && n.bh.isEmpty && !n.cm && !n.dF && decide (n.gF=0) && decide (n.gG=0)
def Ie(n:ag):Bool:=n.aw.isEmpty && n.aD.isEmpty && decide (n.gF=0) && decide (n.gG=0) && !n.bF && n.af.isEmpty && tyB n.fType
def Ih(n:ag)(free:Bool):Bool :=
 if n.ai=1 then qA n && !n.cC && lW n.fType
 else if n.ai=2 then n8 n
 else if n.ai=3 then (if n.cm=true then Ie n && free && !n.cC && n.bz.isEmpty && isVal n.fType n.bh else Ie n && n.bh.isEmpty)
 else if n.ai=4 then n.aw.isEmpty && n.aD.isEmpty && n.bh.isEmpty && !n.cm && !n.dF && !n.cC && !n.bF && n.af.isEmpty && mX n && tyB n.fType
 else if n.ai=5 then qA n && !n.bF && n.bY.isEmpty && lW n.fType
 else if n.ai=6 then qA n && !n.bF && !n.cC && n.bY.isEmpty && lW n.fType
 else false
def pq(n:ag)(free:Bool):Bool:=ml n && Ih n free
def iE(kind:Int)(bound:Bool)(n:ag):Bool:=j0 n && !decide (n.ai=7) && (decide (n.ai=6) == decide (kind=5)) && !(n.cm && bound) && n.aw.all (nJ n.af) && n.aD.all (qU n.af)
def kg(l:List ag)(kind:Int):Bool:=cn (nmS l) && (decide (kind=5) || decide (kind=6) || cn (nmS (dk l)))
def kA:List ag->Int->Bool->Bool
 | [],_,_=>true
 | .mk k a b c d e f g h i j l m n ks::xs,kind,bd=>iE kind bd (.mk k a b c d e f g h i j l m n ks) && (kg ks k && kA ks k (bd || !m.isEmpty || decide (k=6))) && kA xs kind bd
theorem AQ(x:ag)(xs:List ag)(kind:Int)(bd:Bool):kA (x::xs) kind bd=(iE kind bd x && (kg x.af x.ai && kA x.af x.ai (bd || !x.bz.isEmpty || decide (x.ai=6))) && kA xs kind bd):=by cases x;rw [kA];rfl
def kS:List ag->Int->Bool->Nat->Bool
 | [],_,_,_=>true
 | .mk k a b c d e f g h i j l m n ks::xs,kind,fr,p=>(decide (kind=5) == decide (k=6)) && pq (.mk k a b c d e f g h i j l m n ks) fr && (cn (nmS ks) && kS ks k (fr && m.isEmpty && !decide (k=6)) (p+1) && cn (nmS (dk ks)) && (decide (p+1<=8) || ks.isEmpty)) && kS xs kind fr p
theorem AP(x:ag)(xs:List ag)(kind:Int)(fr:Bool)(p:Nat):kS (x::xs) kind fr p=((decide (kind=5) == decide (x.ai=6)) && pq x fr && (cn (nmS x.af) && kS x.af x.ai (fr && x.bz.isEmpty && !decide (x.ai=6)) (p+1) && cn (nmS (dk x.af)) && (decide (p+1<=8) || x.af.isEmpty)) && kS xs kind fr p):=by cases x;rw [kS];rfl
def kR(l:List ag)(kind:Int)(bd:Bool):Bool:=kg l kind && kA l kind bd
def kT(l:List ag)(kind:Int)(fr:Bool)(p:Nat):Bool:=cn (nmS l) && kS l kind fr p && cn (nmS (dk l)) && (decide (p<=8) || l.isEmpty)
def lf(l:List ag):Bool:=decide (bE l<=60) && decide (ep l<=8) && kR l 0 false
theorem Bq{α:Type}[Inhabited α](x:α)(l:List α)(k:Nat):at_ (x::l) (k+1)=at_ l k:=rfl
theorem lM{α:Type}[Inhabited α]{l:List α}{i:Nat}(h:i<l.length):l[i]=at_ l i:=by unfold at_;rw [List.getElem?_eq_getElem h];rfl
theorem oz(l:List Str):cn l=true↔l.Nodup:=by
 constructor
 ·intro h
  refine List.pairwise_iff_getElem.2 fun i j hi' hj hi e=>?_
  have h1:=oF h hj
  rw [lM,lM] at e
  rw [tF hi hj e] at h1
  exact absurd h1 (by simp)
 ·intro h
  rw [cn]
  have:∀ n,n<=l.length->cO (fun j=>!cont (l.take j) (at_ l j)) n=true:=by
   intro n
   induction n with
   | zero=>intro _;rfl
   | succ n ih =>
    intro hn
    refine dA (ih (by omega)) ?_
    rw [qN]
    ·rfl
    intro y hy
    rw [beq_eq_false_iff_ne]
    intro e
    obtain ⟨i,hi,e2⟩:=List.getElem_of_mem hy
    rw [List.length_take] at hi
    rw [List.getElem_take,lM,e] at e2
    refine List.pairwise_iff_getElem.1 h i n (by omega) (by omega) (by omega) ?_
    rw [lM,lM,e2]
  exact this _ (Nat.le_refl _)
theorem uY{α:Type}{p:α->Bool}:∀ {l:List α},¬ 0<=idx p l->∀ x∈l,p x=false
 | x::xs,h,y,hy=>by
  have h0:=ou p xs
  simp only [idx] at h
  split at h
  ·omega
  ·rename_i h1
   split at h
   ·rcases List.mem_cons.1 hy with rfl|hy
    ·simpa using h1
    ·exact uY (by omega) y hy
   ·omega
theorem fK{α:Type}[Inhabited α]{p:α->Bool}:∀ {l:List α},0<=idx p l->(idx p l).toNat<l.length/\p (at_ l (idx p l).toNat)=true/\at_ l (idx p l).toNat∈l
 | [],h=>by simp [idx] at h
 | x::xs,h=>by
  simp only [idx] at h ⊢
  split
  ·rename_i h1;exact ⟨by simp,h1,by simp [at_]⟩
  ·rename_i h1
   rw [if_neg h1] at h
   split at h
   ·omega
   ·rename_i h2
    have ih:=fK (p:=p) (l:=xs) (by omega)
    rw [if_neg h2,show (idx p xs+1).toNat=(idx p xs).toNat+1 by omega,Bq]
    exact ⟨by rw [List.length_cons];omega,ih.2.1,List.mem_cons_of_mem _ ih.2.2⟩
theorem KC{α:Type}[Inhabited α]{p:α->Bool}:∀ {l:List α} {j:Nat},j<l.length->p (at_ l j)=true->idx p l<=j/\0<=idx p l
 | x::xs,0,_,h=>by
  have:p x=true:=h
  simp [idx,this]
 | x::xs,j+1,hj,h=>by
  have h1:=KC (p:=p) (l:=xs) (j:=j) (by simpa using hj) h
  simp only [idx]
  split
  ·omega
  ·split<;>omega
theorem yp{l:List ag}(hd:cn (nmS l)=true){x y:ag}(hx:x∈l)(hy:y∈l)(e:x.ae=y.ae):x=y:=by
 rw [oz,nmS] at hd
 induction l with
 | nil=>simp at hx
 | cons z l ih =>
  rw [List.map_cons,List.nodup_cons] at hd
  rcases List.mem_cons.1 hx with gx|gx<;>rcases List.mem_cons.1 hy with gy|gy
  ·rw [gx,gy]
  ·subst gx;exact absurd (List.mem_map.2 ⟨y,gy,e.symm⟩) hd.1
  ·subst gy;exact absurd (List.mem_map.2 ⟨x,gx,e⟩) hd.1
  ·exact ih hd.2 gx gy
theorem ye{ks:List ag}(hd:cn (nmS ks)=true)(k:Str):(0<=idx (ed k) ks↔0<=idx (nmP k) ks/\(at_ ks (idx (nmP k) ks).toNat).ai=3)/\(0<=idx (ed k) ks->at_ ks (idx (ed k) ks).toNat=at_ ks (idx (nmP k) ks).toNat):=by
 have key:0<=idx (ed k) ks->0<=idx (nmP k) ks/\at_ ks (idx (ed k) ks).toNat=at_ ks (idx (nmP k) ks).toNat/\(at_ ks (idx (ed k) ks).toNat).ai=3:=by
  intro h
  obtain ⟨h1,h2,h3⟩:=fK h
  simp only [ed,Bool.and_eq_true,beq_iff_eq,decide_eq_true_eq] at h2
  have h4:0<=idx (nmP k) ks:=by
   apply Classical.byContradiction
   intro h5
   have:=uY h5 _ h3
   simp only [nmP,beq_eq_false_iff_ne] at this
   exact this h2.1
  obtain ⟨g1,g2,g3⟩:=fK h4
  simp only [nmP,beq_iff_eq] at g2
  exact ⟨h4,yp hd h3 g3 (h2.1.trans g2.symm),h2.2⟩
 refine ⟨⟨fun h=>⟨(key h).1,(key h).2.1 ▸ (key h).2.2⟩,fun h=>?_⟩,fun h=>(key h).2.1⟩
 apply Classical.byContradiction
 intro h5
 obtain ⟨g1,g2,g3⟩:=fK h.1
 have:=uY h5 _ g3
 simp only [nmP,beq_iff_eq] at g2
 simp only [ed,g2,h.2] at this
 simp at this
theorem TH{ks:List ag}(hd:cn (nmS ks)=true)(k:Str):nJ ks k=p9 ks k:=by
 have h:=ye hd k
 rw [Bool.eq_iff_iff]
 simp only [nJ,p9,Bool.and_eq_true,decide_eq_true_eq]
 constructor
 ·intro g;rw [<- h.2 g.1] at *;exact ⟨h.1.1 g.1,g.2⟩
 ·intro g;have:=h.1.2 g.1;rw [h.2 this];exact ⟨this,g.2⟩
theorem S5{ks:List ag}(hd:cn (nmS ks)=true)(k:Str):qU ks k=pX ks k:=by
 have h:=ye hd k
 rw [Bool.eq_iff_iff]
 simp only [qU,pX,Bool.and_eq_true,decide_eq_true_eq]
 exact h.1
theorem J5(l:List Str):names l=l.all isName:=by rw [names,zW]
theorem zl{ks:List ag}{l:List Str}(hn:∀ y∈ks,isName y.ae=true)(h:∀ k∈l,0<=idx (nmP k) ks):names l=true:=by
 rw [J5,List.all_eq_true]
 intro k hk
 obtain ⟨g1,g2,g3⟩:=fK (h k hk)
 simp only [nmP,beq_iff_eq] at g2
 rw [<- g2];exact hn _ g3
theorem Po{n:ag}(hd:cn (nmS n.af)=true)(hn:∀ y∈n.af,isName y.ae=true)(hk:n.ai=2)(bd:Bool):(ju n && gT n && !(n.cm && bd) && n.aw.all (nJ n.af) && n.aD.all (qU n.af))=n8 n:=by
 have e1:nJ n.af=p9 n.af:=funext fun k=>TH hd k
 have e2:qU n.af=pX n.af:=funext fun k=>S5 hd k
 rw [e1,e2,n8]
 cases h1:n.aw.all (p9 n.af) with
 | false=>simp
 | true =>
  cases h2:n.aD.all (pX n.af) with
  | false=>simp
  | true =>
   have h3:names n.aw=true:=zl hn fun k hk=>by
    have:=List.all_eq_true.1 h1 k hk
    simp only [p9,Bool.and_eq_true,decide_eq_true_eq] at this
    exact this.1.1
   have h4:names n.aD=true:=zl hn fun k hk=>by
    have:=List.all_eq_true.1 h2 k hk
    simp only [pX,Bool.and_eq_true,decide_eq_true_eq] at this
    exact this.1
   have h5:decide (1<=n.aw.length)=!n.aw.isEmpty:=py _
   simp only [ju,gT,di,hk,h3,h4,h5]
   cases lW n.fType<;>cases n.aw.isEmpty<;>cases n.cm<;>cases n.cC<;>cases n.bF<;>cases n.dF<;>cases n.bh.isEmpty<;>simp<;>grind
theorem JY{n:ag}(hd:cn (nmS n.af)=true)(hn:∀ y∈n.af,isName y.ae=true)(kind:Int)(bd:Bool):iE kind bd n=((decide (kind=5) == decide (n.ai=6)) && pq n (!bd)):=by
 rw [iE,pq,j0,Ih]
 cases ml n with
 | false=>simp
 | true =>
  by_cases h2:n.ai=2
  ·rw [<- Po hd hn h2 bd];simp [h2];grind
  ·have e:∀ (a b:Bool),(a == b)=(b == a):=by decide
   by_cases h1:n.ai=1
   ·simp only [ju,gT,qA,di,h1]
    cases lW n.fType<;>cases hk:n.aw<;>cases hu:n.aD<;>cases n.cm<;>cases n.cC<;>cases n.bF<;>cases n.dF<;>simp<;>grind
   by_cases h5:n.ai=5
   ·simp only [ju,gT,qA,di,h5]
    cases lW n.fType<;>cases hk:n.aw<;>cases hu:n.aD<;>cases n.cm<;>cases n.cC<;>cases n.bF<;>cases n.dF<;>simp<;>grind
   by_cases h6:n.ai=6
   ·simp only [ju,gT,qA,di,h6]
    cases lW n.fType<;>cases hk:n.aw<;>cases hu:n.aD<;>cases n.cm<;>cases n.cC<;>cases n.bF<;>cases n.dF<;>simp<;>grind
   by_cases h4:n.ai=4
   ·simp only [ju,gT,qA,di,h4]
    cases tyB n.fType<;>cases hk:n.aw<;>cases hu:n.aD<;>cases n.cm<;>cases n.cC<;>cases n.bF<;>cases n.dF<;>simp<;>grind
   by_cases h3:n.ai=3
   ·simp only [ju,gT,qA,di,Ie,h3]
    cases tyB n.fType<;>cases hk:n.aw<;>cases hu:n.aD<;>cases n.cm<;>cases n.cC<;>cases n.bF<;>cases n.bz.isEmpty<;>cases bd<;>simp<;>grind
   by_cases h7:n.ai=7
   ·simp [h7]
   ·simp [gT,h1,h2,h3,h4,h5,h6,h7]
theorem GU:∀ {l:List ag} {kind:Int} {fr:Bool} {p:Nat},kS l kind fr p=true->∀ y∈l,isName y.ae=true
 | [],_,_,_,_,y,h=>by simp at h
 | x::xs,kind,fr,p,h,y,hy=>by
  rw [AP] at h
  simp only [Bool.and_eq_true] at h
  rcases List.mem_cons.1 hy with rfl|hy
  ·have:=h.1.1.2
   simp only [pq,ml,Bool.and_eq_true] at this
   exact this.1.1.1
  ·exact GU h.2 y hy
theorem GV:∀ {l:List ag} {kind:Int} {bd:Bool},kA l kind bd=true->∀ y∈l,isName y.ae=true
 | [],_,_,_,y,h=>by simp at h
 | x::xs,kind,bd,h,y,hy=>by
  rw [AQ] at h
  simp only [Bool.and_eq_true] at h
  rcases List.mem_cons.1 hy with rfl|hy
  ·have:=h.1.1
   simp only [iE,j0,ml,Bool.and_eq_true] at this
   exact this.1.1.1.1.1.1.1.1
  ·exact GV h.2 y hy
theorem Cd(x:ag)(xs:List ag):ep (x::xs)=max (1+ep x.af) (ep xs):=by cases x;rw [ep];rfl
theorem K5{a b:List ag}(h:cn (nmS (a++b))=true):cn (nmS a)=true/\cn (nmS b)=true:=by
 rw [oz,nmS,List.map_append,List.nodup_append] at h
 rw [oz,oz];exact ⟨h.1,h.2.1⟩
theorem rM:∀ (n:Nat) (l:List ag) (kind:Int) (bd:Bool) (p:Nat),SizeOf.sizeOf l<n->p<=8->cn (nmS (dk l))=true->((kA l kind bd=true/\(ep l+p<=9))↔kS l kind (!bd) p=true)
 | 0,l,_,_,_,h=>absurd h (Nat.not_lt_zero _)
 | n+1,[],_,_,p,_=>by simp [kA,kS,ep];omega
 | n+1,x::xs,kind,bd,p,hs=>by
  intro hp hd
  have hsz:SizeOf.sizeOf x.af<n/\SizeOf.sizeOf xs<n:=by
   have:=ag.cd (l:=x::xs) (x:=x) (by simp)
   simp only [List.cons.sizeOf_spec] at *
   omega
  rw [lS] at hd
  have hd2:=K5 hd
  have ih1:=rM n xs kind bd p hsz.2 hp hd2.2
  rw [AQ,AP,Cd]
  simp only [Bool.and_eq_true]
  have hK:(kg x.af x.ai=true/\kA x.af x.ai (bd || !x.bz.isEmpty || decide (x.ai=6))=true)/\ep x.af+(p+1)<=9↔((cn (nmS x.af)=true/\kS x.af x.ai (!bd && x.bz.isEmpty && !decide (x.ai=6)) (p+1)=true)/\cn (nmS (dk x.af))=true)/\(decide (p+1<=8) || x.af.isEmpty)=true:=by
   have hq:kg x.af x.ai=true↔cn (nmS x.af)=true/\cn (nmS (dk x.af))=true:=by
    simp only [kg,Bool.and_eq_true,Bool.or_eq_true,decide_eq_true_eq]
    constructor
    ·rintro ⟨a,b⟩
     refine ⟨a,?_⟩
     by_cases hk:x.ai=5\/x.ai=6
     ·have:=hd2.1
      rw [if_neg (by rcases hk with h|h<;>rw [h]<;>decide),if_pos hk] at this
      exact this
     ·rcases b with b|b
      ·exact absurd b hk
      ·exact b
    ·rintro ⟨a,b⟩;exact ⟨a,.inr b⟩
   rw [hq,show (!bd && x.bz.isEmpty && !decide (x.ai=6))=!(bd || !x.bz.isEmpty || decide (x.ai=6)) by cases bd<;>cases x.bz.isEmpty<;>simp]
   cases hx:x.af with
   | nil=>simp [kA,kS,ep,dk];omega
   | cons y ys =>
    by_cases h8:p+1<=8
    ·rw [show (decide (p+1<=8) || (y::ys).isEmpty)=true by simp;omega]
     rw [<- hx]
     constructor
     ·rintro ⟨⟨⟨a,b⟩,c⟩,d⟩
      exact ⟨⟨⟨a,(rM n x.af x.ai _ (p+1) hsz.1 h8 b).1 ⟨c,d⟩⟩,b⟩,rfl⟩
     ·rintro ⟨⟨⟨a,b⟩,c⟩,d⟩
      have:=(rM n x.af x.ai _ (p+1) hsz.1 h8 c).2 b
      exact ⟨⟨⟨a,c⟩,this.1⟩,this.2⟩
    ·constructor
     ·rintro ⟨_,d⟩
      rw [Cd] at d;omega
     ·rintro ⟨_,d⟩
      simp at d;omega
  constructor
  ·rintro ⟨⟨⟨h1,h2⟩,h3⟩,h4⟩
   have h5:=hK.1 ⟨h2,by omega⟩
   rw [JY h5.1.1.1 (GV h2.2),Bool.and_eq_true] at h1
   exact ⟨⟨h1,h5⟩,ih1.1 ⟨h3,by omega⟩⟩
  ·rintro ⟨⟨h1,h2⟩,h3⟩
   have h5:=hK.2 h2
   have h6:=ih1.2 h3
   refine ⟨⟨⟨?_,h5.1⟩,h6.1⟩,by omega⟩
   rw [JY h2.1.1.1 (GU h2.1.1.2),Bool.and_eq_true]
   exact h1
theorem Kg(l:List ag):(decide (ep l<=8) && kR l 0 false)=kT l 0 true 1:=by
 rw [Bool.eq_iff_iff]
 simp only [kR,kT,kg,Bool.and_eq_true,Bool.or_eq_true,decide_eq_true_eq]
 constructor
 ·rintro ⟨h1,⟨h2,h3⟩,h4⟩
  have h3:cn (nmS (dk l))=true:=by rcases h3 with (h|h)|h<;>first|exact h|(exact absurd h (by decide))
  exact ⟨⟨⟨h2,(rM _ l 0 false 1 (Nat.lt_succ_self _) (by omega) h3).1 ⟨h4,by omega⟩⟩,h3⟩,.inl (by omega)⟩
 ·rintro ⟨⟨⟨h1,h2⟩,h3⟩,h4⟩
  have:=(rM _ l 0 false 1 (Nat.lt_succ_self _) (by omega) h3).2 h2
  exact ⟨by omega,⟨h1,.inr h3⟩,this.1⟩
theorem CC(l:List ag):lf l=(decide (0<=fw l (60 - l.length)) && kT l 0 true 1):=by
 rw [Pr,lf,Bool.and_assoc,Kg]
theorem Gy{l:List ag}{k:Nat}(hk:k<l.length):idx (nmP (at_ l k).ae) l=k↔cont ((nmS l).take k) (at_ (nmS l) k)=false:=by
 have e:at_ (nmS l) k=(at_ l k).ae:=mT hk
 rw [e]
 constructor
 ·intro h
  rw [Bool.eq_false_iff]
  intro hc
  rw [lA] at hc
  obtain ⟨i,hi,e2⟩:=List.getElem_of_mem hc
  rw [List.length_take] at hi
  have hi':i<l.length:=by omega
  rw [List.getElem_take,lM,nmS,mT hi'] at e2
  have:=KC (p:=nmP (at_ l k).ae) hi' (by simp [nmP,e2])
  omega
 ·intro h
  refine kI hk (fun y hy=>?_) (by simp [nmP])
  rw [Bool.eq_false_iff] at h ⊢
  intro hc
  apply h
  rw [lA,nmS,<- List.map_take,List.mem_map]
  exact ⟨y,hy,by simpa [nmP] using hc⟩
theorem JK{l:List ag}{k:Nat}(hk:k<l.length)(h:¬ idx (nmP (at_ l k).ae) l=k):cn (nmS l)=false:=by
 refine dU (j:=k) (by rw [nmS,List.length_map];exact hk) ?_
 rw [Gy hk] at h
 simpa using h
theorem Ij{l:List ag}{k:Nat}(h:k<l.length)(kind:Int)(bd:Bool):kA (l.drop k) kind bd=(iE kind bd (at_ l k) && (kg (at_ l k).af (at_ l k).ai && kA (at_ l k).af (at_ l k).ai (bd || !(at_ l k).bz.isEmpty || decide ((at_ l k).ai=6))) && kA (l.drop (k+1)) kind bd):=by rw [da h,AQ]
theorem TK{l:List ag}{k:Nat}(h:k<l.length)(kind:Int)(fr:Bool)(p:Nat):kS (l.drop k) kind fr p=((decide (kind=5) == decide ((at_ l k).ai=6)) && pq (at_ l k) fr && kT (at_ l k).af (at_ l k).ai (fr && (at_ l k).bz.isEmpty && !decide ((at_ l k).ai=6)) (p+1) && kS (l.drop (k+1)) kind fr p):=by rw [da h,AP];rfl
end
section
def wtS:List ag->Nat
 | []=>0
 | .mk _ _ _ _ _ e _ _ _ _ _ _ m n ks::xs=>1+e.length+dH m+dH n+wtS ks+wtS xs
theorem Ls(x:ag)(xs:List ag):wtS (x::xs)=1+x.bh.length+dH x.bz+dH x.bY+wtS x.af+wtS xs:=by cases x;rw [wtS];rfl
theorem gM:∀ (l:List ag),bE l<=wtS l
 | []=>by simp [bE]
 | .mk _ _ _ _ _ _ _ _ _ _ _ _ _ _ ks::xs=>by have:=gM ks;have:=gM xs;simp only [bE,wtS];omega
theorem wJ:∀ (l:List ag),ep l<=wtS l
 | []=>by simp [ep]
 | .mk _ _ _ _ _ _ _ _ _ _ _ _ _ _ ks::xs=>by have:=wJ ks;have:=wJ xs;simp only [ep,wtS];omega
theorem Ac:∀ {l:List ag} {x:ag},x∈l->1+x.bh.length+dH x.bz+dH x.bY+wtS x.af<=wtS l
 | y::l,x,h=>by
  rw [Ls]
  rcases List.mem_cons.1 h with rfl|h
  ·omega
  ·have:=Ac h;omega
theorem Bd:∀ (l:List aO) (r:Int),0<=r->0<=iD l r->iD l r+dH l<=r+1
 | [],r,_,_=>by simp [iD,dH];omega
 | .mk op num tx p ks::xs,r,h0,h=>by
  rw [iD] at h ⊢
  obtain ⟨h1,e1⟩:=eY h
  rw [e1] at h ⊢
  have hx:cq (.mk op num tx p ks) r+gS (.mk op num tx p ks)<=r+1:=by
   rw [cq] at h1 ⊢
   obtain ⟨h2,e2⟩:=eY h1
   rw [e2] at h1 ⊢
   obtain ⟨h3,e3⟩:=eY h1
   rw [e3] at h1 ⊢
   obtain ⟨h4,e4⟩:=eY h1
   rw [e4] at h1 ⊢
   simp only [id] at h1 h4 ⊢
   obtain ⟨h5,e5⟩:=eY h4
   rw [e5] at h1 ⊢
   have h6:=Bd ks _ h5 h1
   have h7:=qt p (aC tx r) h2
   have h8:=aY tx r h0
   rw [gS]
   cases ks with
   | nil=>simp only [dH,iD,List.length_nil] at *;omega
   | cons y ys=>simp only [List.length_cons] at *;omega
  have h9:=Bd xs _ h1 h
  have h10:=qY xs _ h1
  have h11:=eS (.mk op num tx p ks) r h0
  rw [dH]
  rcases Nat.le_total (gS (.mk op num tx p ks)) (dH xs) with q|q
  ·rw [Nat.max_eq_right q];omega
  ·rw [Nat.max_eq_left q];omega
theorem Hf{l:List aO}{r:Int}(h0:0<=r)(h:0<=aG cq l r):aG cq l r+dH l<=r:=by
 rcases Int.lt_or_le (r - l.length) 0 with h2|h2
 ·rw [fQ h2] at h;omega
 ·rw [gr h2,<- qZ] at h ⊢
  have:=Bd l _ h2 h
  cases l with
  | nil=>simp only [dH,iD,List.length_nil] at *;omega
  | cons y ys=>simp only [List.length_cons] at *;omega
theorem C8:∀ (l:List ag) (r:Int),0<=r->0<=ia l r->ia l r+wtS l<=r+l.length
 | [],r,_,_=>by simp [ia,wtS]
 | .mk k a b c d e f g hh i j lx m n ks::xs,r,h0,h=>by
  rw [ia] at h ⊢
  obtain ⟨h1,e1⟩:=eY h
  rw [e1] at h ⊢
  have hx:aL (.mk k a b c d e f g hh i j lx m n ks) r+(e.length+dH m+dH n+wtS ks:Nat)<=r:=by
   rw [aL] at h1 ⊢
   obtain ⟨g0,e0⟩:=eY h1
   rw [e0] at h1 ⊢
   obtain ⟨g1,e1⟩:=eY h1
   rw [e1] at h1 ⊢
   obtain ⟨g2,e2⟩:=eY h1
   rw [e2] at h1 ⊢
   obtain ⟨g3,e3⟩:=eY h1
   rw [e3] at h1 ⊢
   obtain ⟨g4,e4⟩:=eY h1
   rw [e4] at h1 ⊢
   obtain ⟨g5,e5⟩:=eY h1
   rw [e5] at h1 ⊢
   obtain ⟨g6,e6⟩:=eY h1
   rw [e6] at h1 ⊢
   obtain ⟨g7,e7⟩:=eY h1
   rw [e7] at h1 ⊢
   simp only [id] at h1 g7 ⊢
   obtain ⟨g8,e8⟩:=eY g7
   rw [e8] at h1 ⊢
   have q0:=aY a r h0
   have q1:=qq b _ g0
   have q2:=aZ aC aY c _ g1
   have q3:=aZ aC aY d _ g2
   have q5:=Hf g4 g5
   have q6:=Hf g5 g6
   have q7:=C8 ks _ g8 h1
   rw [show aC e (aG aC d (aG aC c (dB b (aC a r))))=aG aC d (aG aC c (dB b (aC a r))) - e.length from rfl] at *
   omega
  have:=C8 xs _ h1 h
  rw [wtS,List.length_cons];omega
theorem Ad{l:List ag}{r:Int}(h0:0<=r)(h:0<=aG aL l r):(wtS l:Int)<=r:=by
 rcases Int.lt_or_le (r - l.length) 0 with h2|h2
 ·rw [fQ h2] at h;omega
 ·rw [gr h2,<- oI] at h
  have:=C8 l _ h2 h
  omega
end
section
def ndP(n:Str)(x:ah):Bool:=x.ae == n
def kyB(n:ag)(x:ah):Bool:=!decide (n.ai=2) || n.aw.all (fun k=>decide (0<=idx (ndP k) x.af))
def kyL(n:ag)(x:ah):List Str:=if n.ai=2 then (if kyB n x=true then n.aw.map (fun k=>(at_ x.af (idx (ndP k) x.af).toNat).av) else []) else [x.av]
def dZ:List Str->List Str->Bool
 | [],[]=>false
 | [],_::_=>true
 | _::_,[]=>false
 | x::xs,y::ys=>if x=y then dZ xs ys else Op.bytesLess x y
def nA(a b:Str):Int:=if Op.bytesLess a b=true then -1 else if a=b then 0 else 1
def cmpL:List Str->List Str->Int
 | [],[]=>0
 | [],_::_=>-1
 | _::_,[]=>1
 | x::xs,y::ys=>if nA x y=0 then cmpL xs ys else nA x y
theorem qC:∀ a:Str,Op.bytesLess a a=false
 | []=>by simp [Op.bytesLess]
 | x::xs=>by simp [Op.bytesLess,qC xs]
theorem vH(a b:Str):nA a b=0↔a=b:=by
 unfold nA
 constructor
 ·intro h
  split at h
  ·omega
  ·split at h
   ·assumption
   ·omega
 ·rintro rfl;simp [qC]
theorem yH:∀ a b:List Str,dZ a b=decide (cmpL a b<0)
 | [],[]=>by simp [dZ,cmpL]
 | [],_::_=>by simp [dZ,cmpL]
 | _::_,[]=>by simp [dZ,cmpL]
 | x::xs,y::ys=>by
  rw [dZ,cmpL]
  by_cases h:x=y
  ·rw [if_pos h,if_pos ((vH _ _).2 h),yH xs ys]
  ·rw [if_neg h,if_neg (fun c=>h ((vH _ _).1 c)),nA]
   cases Op.bytesLess x y<;>simp [h]
def gu(k:Int):Bool:=decide (k=2) || decide (k=4)
def mZ(n:ag)(a b:ah):Int:=if gu n.ai=true then cmpL (kyL n a) (kyL n b) else 0
def gZ(d:List ag)(a b:ah):Bool :=
 if idx (nmP a.ae) d=idx (nmP b.ae) d/\gu (at_ d (idx (nmP b.ae) d).toNat).ai=true then dZ (kyL (at_ d (idx (nmP b.ae) d).toNat) a) (kyL (at_ d (idx (nmP b.ae) d).toNat) b) else decide (idx (nmP a.ae) d<idx (nmP b.ae) d)
def tO(d:List ag):Option ah->ah->Bool
 | none,_=>true
 | some a,b=>gZ d a b
def okL(d:List ag):Option ah->List ah->Bool
 | _,[]=>true
 | p,.mk nm v ks::xs =>
  decide (0<=idx (nmP nm) d) &&
  (let n:=at_ d (idx (nmP nm) d).toNat
   if n.ai=3\/n.ai=4 then ks.isEmpty && isVal n.fType v
   else if n.ai=2 then kyB n (.mk nm v ks) && v.isEmpty && okL (dk n.af) none ks
   else v.isEmpty && (n.bF || !ks.isEmpty) && okL (dk n.af) none ks) &&
  tO d p (.mk nm v ks) && okL d (some (.mk nm v ks)) xs
def okN(n:ag)(x:ah):Bool :=
 if n.ai=3\/n.ai=4 then x.af.isEmpty && isVal n.fType x.av
 else if n.ai=2 then kyB n x && x.av.isEmpty && okL (dk n.af) none x.af
 else x.av.isEmpty && (n.bF || !x.af.isEmpty) && okL (dk n.af) none x.af
theorem sQ(d:List ag)(p:Option ah)(x:ah)(xs:List ah):okL d p (x::xs)=(decide (0<=idx (nmP x.ae) d) && okN (at_ d (idx (nmP x.ae) d).toNat) x && tO d p x && okL d (some x) xs):=by
 cases x;rw [okL];rfl
def prv(l:List ah):Nat->Option ah
 | 0=>none
 | k+1=>some (at_ l k)
theorem p6{d:List ag}{l:List ah}{k:Nat}(h:k<l.length):okL d (prv l k) (l.drop k)=(decide (0<=idx (nmP (at_ l k).ae) d) && okN (at_ d (idx (nmP (at_ l k).ae) d).toNat) (at_ l k) && tO d (prv l k) (at_ l k) && okL d (prv l (k+1)) (l.drop (k+1))):=by
 rw [da h,sQ];rfl
def iB(d:List ag)(l:List ah)(k:Nat):Int:=match prv l k with
 | none=>-1
 | some a=>idx (nmP a.ae) d
def bp(s:List ag)(l:List ah):Bool:=lf s && decide (cnt l<=120) && okL (dk s) none l
theorem wI:∀ (l:List ag),∀ y∈dk l,di y.ai=true
 | [],y,h=>by simp [dk] at h
 | .mk k a b c d e f g h i j l m n ks::xs,y,hy=>by
  rw [dk,List.mem_append] at hy
  rcases hy with hy|hy
  ·split at hy
   ·rename_i h1;rw [List.mem_singleton] at hy;subst hy;exact h1
   ·split at hy
    ·exact wI ks y hy
    ·simp at hy
  ·exact wI xs y hy
theorem nr:∀ (l:List ag),∀ y∈dk l,1+y.bh.length+wtS y.af<=wtS l
 | [],y,h=>by simp [dk] at h
 | .mk k a b c d e f g h i j l m n ks::xs,y,hy=>by
  rw [dk,List.mem_append] at hy
  rcases hy with hy|hy
  ·split at hy
   ·rename_i h1;rw [List.mem_singleton] at hy;subst hy;simp only [wtS,ag.af,ag.bh];omega
   ·split at hy
    ·have:=nr ks y hy;simp only [wtS];omega
    ·simp at hy
  ·have:=nr xs y hy;simp only [wtS];omega
theorem dy(d:List ag)(n:Str):idx (fun x=>x == n) (nmS d)=idx (nmP n) d:=by
 rw [nmS,<- GY ag.ae (fun x=>x == n)];rfl
end
section
def Nd:List Str->List ag->ah->List ah
 | [],_,x=>[x]
 | c::cs,s,x =>
  if x.ae=c then
   (if cs=[] then [x] else
    (let n:=at_ (dk s) (idx (nmP x.ae) (dk s)).toNat
     if n.ai=1\/n.ai=2 then
     (let kids:=x.af.flatMap fun k=>if cont n.aw k.ae=true then [k] else Nd cs n.af k
      if n.ai=1/\n.bF=false/\kids=[] then [] else [.mk x.ae [] kids])
     else []))
  else []
def Bk:List Str->List ag->List Str->ah->List ah
 | [],_,_,x=>[x]
 | c::cs,d,keys,x =>
  let n:=at_ d (idx (nmP x.ae) d).toNat
  if ¬ n.ae=c\/(n.ai=3\/n.ai=4)/\¬ cs=[] then (if cont keys n.ae=true then [x] else [])
  else (let kids:=x.af.flatMap (Bk cs (dk n.af) n.aw)
   if ¬ n.ai=1\/n.bF=true\/¬ kids=[] then [.mk n.ae x.av kids] else [])
def okX(d:List ag)(x:ah):Prop:=0<=idx (nmP x.ae) d/\okN (at_ d (idx (nmP x.ae) d).toNat) x=true
theorem lI:∀ {l:List ah} {d:List ag} {p:Option ah},okL d p l=true->∀ x∈l,okX d x
 | y::l,d,p,h,x,hx=>by
  rw [sQ] at h
  simp only [Bool.and_eq_true,decide_eq_true_eq] at h
  rcases List.mem_cons.1 hx with rfl|hx
  ·exact ⟨h.1.1.1,h.1.1.2⟩
  ·exact lI h.2 x hx
def gdS(s:List ag):Prop:=cn (nmS (dk s))=true/\∃ kind bd,kA s kind bd=true
theorem vA:∀ {l:List ag} {m:ag},m∈l->di m.ai=true->m∈dk l
 | x::xs,m,h,hk=>by
  rw [lS,List.mem_append]
  rcases List.mem_cons.1 h with rfl|h
  ·rw [if_pos hk];simp
  ·exact .inr (vA h hk)
theorem wu:∀ (l:List ag) (kind:Int) (bd:Bool),kA l kind bd=true->∀ n∈dk l,(∃ kd b,iE kd b n=true)/\gdS n.af
 | [],_,_,_,n,h=>by simp [dk] at h
 | .mk k a b c d e f g h i j l m nn ks::xs,kind,bd,hA,n,hn=>by
  rw [dk,List.mem_append] at hn
  rw [kA] at hA
  simp only [Bool.and_eq_true] at hA
  rcases hn with hn|hn
  ·split at hn
   ·rename_i hk
    rw [List.mem_singleton] at hn
    subst hn
    refine ⟨⟨_,_,hA.1.1⟩,?_,_,_,hA.1.2.2⟩
    have:=hA.1.2.1
    simp only [kg,Bool.and_eq_true,Bool.or_eq_true,decide_eq_true_eq] at this
    simp only [di,Bool.and_eq_true,decide_eq_true_eq] at hk
    rcases this.2 with (h|h)|h
    ·omega
    ·omega
    ·exact h
   ·split at hn
    ·exact wu ks _ _ hA.1.2.2 n hn
    ·simp at hn
  ·exact wu xs _ _ hA.2 n hn
theorem kz{s:List ag}(h:gdS s){n:ag}(hn:n∈dk s):gdS n.af/\(¬ n.ai=2->n.aw=[])/\∀ k∈n.aw,∃ m∈dk n.af,m.ae=k/\m.ai=3:=by
 obtain ⟨_,kind,bd,hA⟩:=h
 obtain ⟨⟨kd,b,ho⟩,hg⟩:=wu s kind bd hA n hn
 refine ⟨hg,fun h2=>?_,fun k hk=>?_⟩
 ·simp only [iE,j0,ju,Bool.and_eq_true,Bool.or_eq_true,decide_eq_true_eq] at ho
  have:=ho.1.1.1.1.1.2.1.1.1.1.1.1.1.2
  rcases this with h|h
  ·exact absurd h h2
  ·exact List.isEmpty_iff.1 h.1
 ·simp only [iE,Bool.and_eq_true] at ho
  have:=List.all_eq_true.1 ho.1.2 k hk
  simp only [nJ,Bool.and_eq_true,decide_eq_true_eq] at this
  obtain ⟨h1,h2,h3⟩:=fK this.1
  simp only [ed,Bool.and_eq_true,beq_iff_eq,decide_eq_true_eq] at h2
  exact ⟨_,vA h3 (by rw [h2.2];rfl),h2.1,h2.2⟩
theorem iv{d:List ag}{x:ah}(h:okX d x):(at_ d (idx (nmP x.ae) d).toNat).ae=x.ae/\at_ d (idx (nmP x.ae) d).toNat∈d:=by
 obtain ⟨h1,h2,h3⟩:=fK h.1
 simp only [nmP,beq_iff_eq] at h2
 exact ⟨h2,h3⟩
theorem xP{n:ag}{x:ah}(h:okN n x=true)(hk:¬ (n.ai=3\/n.ai=4)):x.av=[]/\okL (dk n.af) none x.af=true/\(¬ n.ai=2->n.bF=true\/¬ x.af=[]):=by
 rw [okN,if_neg hk] at h
 split at h
 ·rename_i h2
  simp only [Bool.and_eq_true] at h
  exact ⟨List.isEmpty_iff.1 h.1.2,h.2,fun c=>absurd h2 c⟩
 ·simp only [Bool.and_eq_true,Bool.or_eq_true,Bool.not_eq_true'] at h
  refine ⟨List.isEmpty_iff.1 h.1.1,h.2,fun _=>?_⟩
  rcases h.1.2 with c|c
  ·exact .inl c
  ·refine .inr fun e=>?_
   rw [e] at c;simp at c
theorem L0{n:ag}{x:ah}(h:okN n x=true)(hk:n.ai=3\/n.ai=4):x.af=[]:=by
 rw [okN,if_pos hk] at h
 simp only [Bool.and_eq_true] at h
 exact List.isEmpty_iff.1 h.1
theorem IP{α β:Type}{f g:α->List β}{l:List α}(h:∀ x∈l,f x=g x):l.flatMap f=l.flatMap g:=by
 induction l with
 | nil=>rfl
 | cons x xs ih=>rw [List.flatMap_cons,List.flatMap_cons,h x (by simp),ih fun y hy=>h y (by simp [hy])]
theorem pK{s:List ag}(h:lf s=true):gdS s:=by
 simp only [lf,kR,kg,Bool.and_eq_true,Bool.or_eq_true,decide_eq_true_eq] at h
 refine ⟨?_,_,_,h.2.2⟩
 rcases h.2.1.2 with (h|h)|h<;>first|exact h|(exact absurd h (by decide))
theorem rS{α β:Type}{f:α->List β}(h:∀ x,(f x).length<=1):∀ l:List α,(l.flatMap f).length<=l.length
 | []=>by simp
 | x::xs=>by rw [List.flatMap_cons,List.length_append,List.length_cons];have:=h x;have:=rS h xs;omega
end
end Go.Dt
namespace Go.Dt
open Go.Ab
section
theorem Fk:∀ (x y:Str),(Op.bytesLess x y || x == y)=!Op.bytesLess y x
 | [],[]=>by simp [Op.bytesLess]
 | [],_::_=>by simp [Op.bytesLess]
 | _::_,[]=>by simp [Op.bytesLess]
 | a::x,b::y=>by
  have ih:=Fk x y
  simp only [Op.bytesLess]
  by_cases e:a=b
  ·subst e
   have:decide (a<a)=false:=by simp
   simp only [this,beq_self_eq_true,Bool.true_and,Bool.false_or,<- ih]
   cases Op.bytesLess x y<;>simp
  ·have e':¬ b=a:=fun h=>e h.symm
   have e1:(a == b)=false:=by simpa using e
   have e2:(b == a)=false:=by simpa using e'
   have e3:(a::x == b::y)=false:=by simp [e]
   rw [e1,e2,e3,Bool.false_and,Bool.false_and,Bool.or_false,Bool.or_false,Bool.or_false]
   by_cases h:a<b
   ·have h2:¬ b<a:=fun h3=>by
     have h4:=UInt8.lt_iff_toNat_lt.1 h
     have h5:=UInt8.lt_iff_toNat_lt.1 h3
     omega
    simp [h,h2]
   ·have h2:b<a:=by
     have h4:¬ a.toNat<b.toNat:=fun h5=>h (UInt8.lt_iff_toNat_lt.2 h5)
     have h5:¬ a.toNat=b.toNat:=fun h6=>e (UInt8.toNat_inj.1 h6)
     exact UInt8.lt_iff_toNat_lt.2 (by omega)
    simp [h,h2]
def tmI(l:List fH)(n:Str):Int:=idx (fun x=>x.ae == n) l
def svc(T:List fH)(x:jh):Bool:=(isName x.ae && decide (0<=tmI T x.vr)) && (names x.tr && cn x.tr)
def VN(T:List fH)(S:List jh)(j:Nat):Bool:=svc T (at_ S j) && (j == 0 || Op.bytesLess (at_ S (j - 1)).ae (at_ S j).ae)
def YQ(ip:Str->Bool)(T:List fH)(S:List jh):Bool:=((cO (fun j=>Ik ip (at_ T j)) T.length && cn (T.map fH.ae)) && (decide (T.length<=8) && decide (S.length<=8))) && cO (VN T S) S.length
end
section
end
section
theorem db{α:Type}[Inhabited α]{l:List α}{i:Nat}(h:i<l.length):l.take (i+1)=l.take i++[at_ l i]:=by
 rw [List.take_succ_eq_append_getElem h];unfold at_;rw [List.getElem?_eq_getElem h];rfl
end
end Go.Dt
namespace Go.Dt
def Zb(T:List fH):Prop:=∀ t∈T,wt t.zL<=1048576/\t.mP.length<=1048576
end Go.Dt
namespace Go.Dt
open Go Go.Ab
section
theorem Nf(a b:Str):-1<=nA a b/\nA a b<=1:=by unfold nA;repeat' split<;>omega
theorem HC{a b:List Str}{i:Nat}(h1:i<a.length)(h2:i<b.length):cmpL (a.drop i) (b.drop i)=if nA (at_ a i) (at_ b i)=0 then cmpL (a.drop (i+1)) (b.drop (i+1)) else nA (at_ a i) (at_ b i):=by
 rw [da h1,da h2,cmpL]
theorem R6{a b:List Str}{i:Nat}(h1:i<a.length)(h2:¬ i<b.length):cmpL (a.drop i) (b.drop i)=1:=by
 rw [da h1,dh h2,cmpL]
theorem Lc{a b:List Str}{i:Nat}(h1:¬ i<a.length):cmpL (a.drop i) (b.drop i)=if i<b.length then -1 else 0:=by
 rw [dh h1]
 split
 ·rw [da (by assumption),cmpL]
 ·rw [dh (by assumption),cmpL]
theorem Ed{a b:List Str}{i:Nat}(h1:i<a.length)(h2:i<b.length):dZ (a.drop i) (b.drop i)=if at_ a i=at_ b i then dZ (a.drop (i+1)) (b.drop (i+1)) else Op.bytesLess (at_ a i) (at_ b i):=by
 rw [da h1,da h2,dZ]
theorem Pp{a b:List Str}{i:Nat}(h0:i<=a.length)(h0':i<=b.length)(h1:¬ (i<a.length/\i<b.length)):dZ (a.drop i) (b.drop i)=decide (a.length<b.length):=by
 by_cases h:i<a.length
 ·have:¬ i<b.length:=fun c=>h1 ⟨h,c⟩
  rw [da h,dh this,dZ,eq_comm,decide_eq_false_iff_not];omega
 ·rw [dh h]
  by_cases h2:i<b.length
  ·rw [da h2,dZ,eq_comm,decide_eq_true_eq];omega
  ·rw [dh h2,dZ,eq_comm,decide_eq_false_iff_not];omega
theorem qL{α β:Type}[Inhabited α]{f:α->List β}{l:List α}{k:Nat}(h:k<l.length):(l.take (k+1)).flatMap f=(l.take k).flatMap f++f (at_ l k):=by
 rw [db h,List.flatMap_append];simp
theorem nk{α β:Type}{f:α->List β}(h:∀ x,(f x).length<=1)(l:List α)(k:Nat):((l.take k).flatMap f).length<=k:=by
 have:=rS h (l.take k);rw [List.length_take] at this;omega
def kyT(x:ah)(k:Str):Str:=(at_ x.af (idx (ndP k) x.af).toNat).av
def j9(x:ah)(k:Str):Bool:=decide (0<=idx (ndP k) x.af)
theorem lL{n:ag}{x:ah}(h:n.ai=2)(hk:n.aw.all (j9 x)=true):kyL n x=n.aw.map (kyT x)/\kyB n x=true:=by
 have e:kyB n x=true:=by rw [kyB,h];exact hk
 refine ⟨?_,e⟩
 rw [kyL,if_pos h,if_pos e];rfl
theorem rL{n:ag}{x:ah}(h:n.ai=2)(hk:n.aw.all (j9 x)=false):kyL n x=[]/\kyB n x=false:=by
 have e:kyB n x=false:=by rw [kyB,h];exact hk
 refine ⟨?_,e⟩
 rw [kyL,if_pos h,if_neg (by rw [e];simp)]
theorem gC{n:ag}{x:ah}(h:¬ n.ai=2):kyL n x=[x.av]/\kyB n x=true:=by
 refine ⟨by rw [kyL,if_neg h],?_⟩
 rw [kyB];simp [h]
section
variable {d : List ag} {l : List ah} {k : Nat}
theorem Fo(h0:0<=idx (nmP (at_ l k).ae) d):tO d (prv l k) (at_ l k)=(decide (iB d l k<idx (nmP (at_ l k).ae) d) || decide (idx (nmP (at_ l k).ae) d=iB d l k) && decide (mZ (at_ d (idx (nmP (at_ l k).ae) d).toNat) (at_ l ((k:Int) - 1).toNat) (at_ l k)<0)):=by
 cases k with
 | zero=>rw [show iB d l 0 = -1 from rfl,show tO d (prv l 0) (at_ l 0)=true from rfl,show decide (-1<idx (nmP (at_ l 0).ae) d)=true by simp;omega];rfl
 | succ k =>
  rw [show (((k+1:Nat):Int) - 1).toNat=k by omega,show iB d l (k+1)=idx (nmP (at_ l k).ae) d from rfl,show tO d (prv l (k+1)) (at_ l (k+1))=gZ d (at_ l k) (at_ l (k+1)) from rfl,gZ,mZ]
  by_cases e:idx (nmP (at_ l k).ae) d=idx (nmP (at_ l (k+1)).ae) d
  ·by_cases r:gu (at_ d (idx (nmP (at_ l (k+1)).ae) d).toNat).ai=true
   ·rw [if_pos ⟨e,r⟩,if_pos r,yH,e];simp
   ·rw [if_neg (fun c=>r c.2),if_neg r,e];simp
  ·rw [if_neg (fun c=>e c.1),show decide (idx (nmP (at_ l (k+1)).ae) d=idx (nmP (at_ l k).ae) d)=false by simp;exact fun c=>e c.symm];simp
theorem O8(hk:k<l.length)(h:idx (nmP (at_ l k).ae) d<0\/idx (nmP (at_ l k).ae) d<iB d l k):okL d (prv l k) (l.drop k)=false:=by
 rw [p6 hk]
 by_cases h0:0<=idx (nmP (at_ l k).ae) d
 ·rw [Fo h0]
  have h1:idx (nmP (at_ l k).ae) d<iB d l k:=by omega
  rw [show decide (iB d l k<idx (nmP (at_ l k).ae) d)=false by simp;omega,show decide (idx (nmP (at_ l k).ae) d=iB d l k)=false by simp;omega];simp
 ·rw [show decide (0<=idx (nmP (at_ l k).ae) d)=false by simp;omega];rfl
theorem L5(hk:k<l.length)(h0:0<=idx (nmP (at_ l k).ae) d)(h:okN (at_ d (idx (nmP (at_ l k).ae) d).toNat) (at_ l k)=false\/idx (nmP (at_ l k).ae) d=iB d l k/\0<=mZ (at_ d (idx (nmP (at_ l k).ae) d).toNat) (at_ l ((k:Int) - 1).toNat) (at_ l k)):okL d (prv l k) (l.drop k)=false:=by
 rw [p6 hk,Fo h0]
 rcases h with h|⟨h1,h2⟩
 ·rw [h];simp
 ·rw [show decide (iB d l k<idx (nmP (at_ l k).ae) d)=false by simp;omega,show decide (mZ (at_ d (idx (nmP (at_ l k).ae) d).toNat) (at_ l ((k:Int) - 1).toNat) (at_ l k)<0)=false by rw [decide_eq_false_iff_not];omega];simp
theorem L3(hk:k<l.length)(h0:0<=idx (nmP (at_ l k).ae) d)(h1:iB d l k<=idx (nmP (at_ l k).ae) d)(h2:okN (at_ d (idx (nmP (at_ l k).ae) d).toNat) (at_ l k)=true)(h3:idx (nmP (at_ l k).ae) d=iB d l k->mZ (at_ d (idx (nmP (at_ l k).ae) d).toNat) (at_ l ((k:Int) - 1).toNat) (at_ l k)<0):okL d (prv l k) (l.drop k)=okL d (prv l (k+1)) (l.drop (k+1)):=by
 rw [p6 hk,Fo h0,h2,show decide (0<=idx (nmP (at_ l k).ae) d)=true by simpa using h0]
 by_cases e:idx (nmP (at_ l k).ae) d=iB d l k
 ·rw [show decide (mZ (at_ d (idx (nmP (at_ l k).ae) d).toNat) (at_ l ((k:Int) - 1).toNat) (at_ l k)<0)=true by rw [decide_eq_true_eq];exact h3 e,show decide (idx (nmP (at_ l k).ae) d=iB d l k)=true by simpa using e];simp
 ·rw [show decide (iB d l k<idx (nmP (at_ l k).ae) d)=true by rw [decide_eq_true_eq];omega];simp
theorem Mn:-1<=iB d l k:=by
 cases k with
 | zero=>exact Int.le_refl _
 | succ k=>exact ou _ _
theorem Mm:iB d l k<d.length:=by
 cases k with
 | zero=>rw [show iB d l 0 = -1 from rfl];omega
 | succ k=>exact gJ _
end
end
section
def Z4(n:ag)(cs:List Str)(k:ah):List ah:=if cont n.aw k.ae=true then [k] else Nd cs n.af k
section
variable {s : List ag} {x : ah} {c : Str} {cs : List Str}
end
end
section
def smT:List ah->List ah->Bool
 | [],[]=>true
 | [],_::_=>false
 | .mk _ _ _::_,[]=>false
 | .mk n v ks::xs,y::ys=>n == y.ae && v == y.av && smT ks y.af && smT xs ys
theorem LH(x y:ah)(xs ys:List ah):smT (x::xs) (y::ys)=(x.ae == y.ae && x.av == y.av && smT x.af y.af && smT xs ys):=by cases x;rw [smT];try rfl
theorem Ai:∀ (a b:List ah),smT a b=true↔a=b
 | [],[]=>by simp [smT]
 | [],_::_=>by simp [smT]
 | .mk _ _ _::_,[]=>by simp [smT]
 | .mk n v ks::xs,.mk m u js::ys=>by
  have h1:=Ai ks js
  have h2:=Ai xs ys
  rw [smT]
  simp only [Bool.and_eq_true,beq_iff_eq,ah.ae,ah.av,ah.af,h1,h2,List.cons.injEq,ah.mk.injEq]
  constructor
  ·rintro ⟨⟨⟨a,b⟩,c⟩,d⟩;exact ⟨⟨a,b,c⟩,d⟩
  ·rintro ⟨⟨a,b,c⟩,d⟩;exact ⟨⟨⟨a,b⟩,c⟩,d⟩
theorem yY{a b:List ah}{k:Nat}(h:k<a.length)(h2:k<b.length):smT (a.drop k) (b.drop k)=((at_ a k).ae == (at_ b k).ae && (at_ a k).av == (at_ b k).av && smT (at_ a k).af (at_ b k).af && smT (a.drop (k+1)) (b.drop (k+1))):=by
 rw [da h,da h2,LH]
theorem Gg{a b:List ah}(h:¬ (a.length:Int)=b.length):smT a b=false:=by
 rw [Bool.eq_false_iff]
 intro e
 rw [(Ai a b).1 e] at h
 exact h rfl
theorem Gh{a b:List ah}{k:Nat}(h:¬ k<a.length)(h2:¬ k<b.length):smT (a.drop k) (b.drop k)=true:=by
 rw [dh h,dh h2,smT]
def skB(n:ag)(a b:ah):Bool:=!gu n.ai || (kyB n a && kyB n b && (kyL n a == kyL n b))
def fiP(n:ag)(x y:ah):Bool:=y.ae == n.ae && decide (mZ n x y=0) && skB n x y
def fsP(n:ag)(v:Str)(key:List Str)(y:ah):Bool:=y.ae == n.ae && !(decide (n.ai=4) && !(y.av == v)) && (!decide (n.ai=2) || !dZ (kyL n y) key && !dZ key (kyL n y))
def fnd(n:ag)(l:List ah)(x:ah):Int:=idx (fiP n x) l
theorem uZ{α:Type}{p q:α->Bool}:∀ {l:List α},(∀ x∈l,p x=q x)->idx p l=idx q l
 | [],_=>rfl
 | x::xs,h=>by
  simp only [idx]
  rw [h x (by simp),uZ (p:=p) (q:=q) (l:=xs) fun y hy=>h y (by simp [hy])]
theorem P2(x y:Str):(!Op.bytesLess x y && !Op.bytesLess y x)=(x == y):=by
 have h1:=Fk x y
 have h2:=Fk y x
 by_cases e:x=y
 ·subst e;rw [qC];simp
 ·have e1:(x == y)=false:=by simpa using e
  have e2:(y == x)=false:=by simpa using fun c=>e c.symm
  rw [e1,Bool.or_false] at h1
  rw [e1,h1];cases Op.bytesLess y x<;>rfl
theorem qD:∀ (a b:List Str),(!dZ a b && !dZ b a)=(a == b)
 | [],[]=>by simp [dZ]
 | [],_::_=>by simp [dZ]
 | _::_,[]=>by simp [dZ]
 | x::xs,y::ys=>by
  simp only [dZ]
  by_cases e:x=y
  ·subst e
   rw [if_pos rfl,if_pos rfl,qD xs ys];simp
  ·rw [if_neg e,if_neg (fun c=>e c.symm),P2]
   have:(x == y)=false:=by simpa using e
   rw [this];simp [e]
theorem vI:∀ (a b:List Str),cmpL a b=0↔a=b
 | [],[]=>by simp [cmpL]
 | [],_::_=>by simp [cmpL]
 | _::_,[]=>by simp [cmpL]
 | x::xs,y::ys=>by
  rw [cmpL]
  by_cases e:x=y
  ·subst e
   rw [if_pos ((vH _ _).2 rfl),vI xs ys];simp
  ·rw [if_neg (fun c=>e ((vH _ _).1 c))]
   constructor
   ·intro h;exact absurd ((vH _ _).1 h) e
   ·intro h;injection h with h1 h2;exact absurd h1 e
theorem KS{n:ag}{x:ah}{l:List ah}(hx:kyB n x=true)(hl:∀ y∈l,y.ae=n.ae->kyB n y=true):idx (fsP n x.av (kyL n x)) l=fnd n l x:=by
 refine uZ fun y hy=>?_
 unfold fsP fiP
 by_cases hn:y.ae=n.ae
 ·have hk:=hl y hy hn
  rw [skB,hx,hk,mZ]
  have e1:(y.ae == n.ae)=true:=by simpa using hn
  rw [e1]
  by_cases h2:n.ai=2
  ·have:gu n.ai=true:=by rw [h2];try rfl
   rw [if_pos this,this,qD]
   have e2:decide (n.ai=4)=false:=by rw [h2];try rfl
   have e3:decide (n.ai=2)=true:=by rw [h2];try rfl
   rw [e2,e3]
   have e4:decide (cmpL (kyL n x) (kyL n y)=0)=(kyL n x == kyL n y):=by
    rw [Bool.eq_iff_iff];simp [vI]
   rw [e4]
   have e5:(kyL n y == kyL n x)=(kyL n x == kyL n y):=by
    rw [Bool.eq_iff_iff];simp only [beq_iff_eq];exact ⟨fun h=>h.symm,fun h=>h.symm⟩
   rw [e5]
   cases (kyL n x == kyL n y)<;>rfl
  ·have e3:decide (n.ai=2)=false:=by simpa using h2
   rw [e3]
   by_cases h4:n.ai=4
   ·have:gu n.ai=true:=by rw [h4];try rfl
    rw [if_pos this,this,h4,(gC h2).1,(gC h2).1]
    have e4:decide (cmpL [x.av] [y.av]=0)=(y.av == x.av):=by
     rw [Bool.eq_iff_iff];simp only [decide_eq_true_eq,vI,beq_iff_eq,List.cons.injEq,and_true];exact ⟨fun h=>h.symm,fun h=>h.symm⟩
    rw [e4]
    by_cases hv:y.av=x.av
    ·have hv2:(y.av == x.av)=true:=by simpa using hv
     rw [hv2,hv];simp
    ·have hv2:(y.av == x.av)=false:=by simpa using hv
     rw [hv2];simp
   ·have:gu n.ai=false:=by rw [gu];simp [h2,h4]
    rw [if_neg (by rw [this];simp),this]
    have e4:decide (n.ai=4)=false:=by simpa using h4
    rw [e4];try rfl
 ·have e1:(y.ae == n.ae)=false:=by simpa using hn
  rw [e1];try rfl
def kyE(n:ag)(x:ah):List au:=if n.ai=2 then n.aw.map fun k=>.mk 1 k (kyT x k) [] else []
def edO(op:Int):List ah->List au
 | []=>[]
 | .mk n v ks::xs=>.mk op n v (edO op ks)::edO op xs
theorem rZ(op:Int):∀ l:List ah,edO op l=l.map fun x=>.mk op x.ae x.av (edO op x.af)
 | []=>by rw [edO];try rfl
 | .mk n v ks::xs=>by rw [edO,rZ op xs];try rfl
theorem wG(op:Int)(l:List ah):(edO op l).length=l.length:=by rw [rZ,List.length_map]
theorem E1{op:Int}{l:List ah}{k:Nat}(h:k<l.length):edO op (l.take (k+1))=edO op (l.take k)++[.mk op (at_ l k).ae (at_ l k).av (edO op (at_ l k).af)]:=by
 rw [db h,rZ,rZ,List.map_append];try rfl
abbrev nd(s:List ag)(nm:Str):ag:=at_ (dk s) (idx (nmP nm) (dk s)).toNat
def dfA(s:List ag)(b:List ah)(x:ah):List au:=if 0<=fnd (nd s x.ae) b x then [] else [.mk 4 x.ae (if (nd s x.ae).ai=4 then x.av else []) (kyE (nd s x.ae) x)]
def dfB(s:List ag)(a:List ah):List ah->List au
 | []=>[]
 | .mk nm v ks::ys =>
  (let n:=nd s nm
   let i:=fnd n a (.mk nm v ks)
   let x:=at_ a i.toNat
   if i<0 then [.mk 3 nm v (edO 3 ks)]
   else if n.ai=3/\¬ x.av=v then [.mk 2 nm v []]
   else if (n.ai=1\/n.ai=2)/\smT x.af ks=false then [.mk 1 nm [] (kyE n (.mk nm v ks)++(x.af.flatMap (dfA n.af ks)++dfB n.af x.af ks))]
   else [])++dfB s a ys
def dif(s:List ag)(a b:List ah):List au:=a.flatMap (dfA s b)++dfB s a b
def dfY(s:List ag)(a:List ah)(y:ah):List au :=
 if fnd (nd s y.ae) a y<0 then [.mk 3 y.ae y.av (edO 3 y.af)]
 else if (nd s y.ae).ai=3/\¬ (at_ a (fnd (nd s y.ae) a y).toNat).av=y.av then [.mk 2 y.ae y.av []]
 else if ((nd s y.ae).ai=1\/(nd s y.ae).ai=2)/\smT (at_ a (fnd (nd s y.ae) a y).toNat).af y.af=false then [.mk 1 y.ae [] (kyE (nd s y.ae) y++dif (nd s y.ae).af (at_ a (fnd (nd s y.ae) a y).toNat).af y.af)]
 else []
theorem Hu(s:List ag)(a:List ah):∀ l:List ah,dfB s a l=l.flatMap (dfY s a)
 | []=>by rw [dfB];try rfl
 | .mk n v ks::ys=>by rw [dfB,Hu s a ys];try rfl
theorem vC(s:List ag)(a b:List ah):dif s a b=a.flatMap (dfA s b)++b.flatMap (dfY s a):=by rw [dif,Hu]
theorem vD(s:List ag)(b:List ah)(x:ah):(dfA s b x).length<=1:=by unfold dfA;split<;>simp
theorem E3(s:List ag)(a:List ah)(y:ah):(dfY s a y).length<=1:=by
 unfold dfY
 repeat' split
 all_goals simp
section
variable {n : ag} {x : ah} {k : Nat}
theorem Ek(h2:n.ai=2)(h:k<n.aw.length):(kyE n x).take (k+1)=(kyE n x).take k++[.mk 1 (at_ n.aw k) (kyT x (at_ n.aw k)) []]:=by
 rw [kyE,if_pos h2,<- List.map_take,<- List.map_take,db h,List.map_append];rfl
theorem GN:(kyE n x).length<=n.aw.length:=by
 rw [kyE];split
 ·rw [List.length_map];exact Nat.le_refl _
 ·simp
theorem GP(h:¬ k<n.aw.length):(kyE n x).take k=kyE n x:=List.take_of_length_le (by have:=GN (n:=n) (x:=x);omega)
theorem Pw(h:¬ n.ai=2):(kyE n x).take k=kyE n x:=by rw [kyE,if_neg h];simp
theorem Ra(h2:n.ai=2)(hp:kyB n x=true)(h:k<n.aw.length):0<=idx (ndP (at_ n.aw k)) x.af/\(idx (ndP (at_ n.aw k)) x.af).toNat<x.af.length:=by
 rw [kyB,h2] at hp
 have:=List.all_eq_true.1 hp _ (at_mem h)
 simp only [decide_eq_true_eq] at this
 exact ⟨this,(fK this).1⟩
theorem TG(h2:n.ai=2)(hp:kyB n x=true)(h:k<n.aw.length):at_ (kyL n x) k=kyT x (at_ n.aw k)/\(kyL n x).length=n.aw.length:=by
 have hp':=hp
 rw [kyB,h2] at hp
 rw [(lL h2 hp).1]
 exact ⟨mT h,List.length_map _⟩
end
end
section
theorem kE{n:ag}{x:ah}(h:okN n x=true):kyB n x=true:=by
 by_cases h2:n.ai=2
 ·rw [okN,if_neg (by omega),if_pos h2] at h
  simp only [Bool.and_eq_true] at h
  exact h.1.1
 ·exact (gC h2).2
section
variable {d : List ag} {l : List ah} {k : Nat}
theorem Q0(hk:k<l.length)(h:idx (nmP (at_ l k).ae) d<0):okL d (prv l k) (l.drop k)=false:=by
 rw [p6 hk,show decide (0<=idx (nmP (at_ l k).ae) d)=false by simp;omega];rfl
theorem O7(hk:k<l.length)(h:okN (at_ d (idx (nmP (at_ l k).ae) d).toNat) (at_ l k)=false):okL d (prv l k) (l.drop k)=false:=by
 rw [p6 hk,h];simp
theorem O6(hk:k<l.length)(h0:0<k)(h:gZ d (at_ l (k - 1)) (at_ l k)=false):okL d (prv l k) (l.drop k)=false:=by
 rw [p6 hk]
 obtain ⟨j,rfl⟩:∃ j,k=j+1:=⟨k - 1,by omega⟩
 rw [show j+1 - 1=j by omega] at h
 rw [show tO d (prv l (j+1)) (at_ l (j+1))=gZ d (at_ l j) (at_ l (j+1)) from rfl,h];simp
theorem LZ(hk:k<l.length)(h0:0<=idx (nmP (at_ l k).ae) d)(h1:okN (at_ d (idx (nmP (at_ l k).ae) d).toNat) (at_ l k)=true)(h2:0<k->gZ d (at_ l (k - 1)) (at_ l k)=true):okL d (prv l k) (l.drop k)=okL d (prv l (k+1)) (l.drop (k+1)):=by
 rw [p6 hk,h1,show decide (0<=idx (nmP (at_ l k).ae) d)=true by simpa using h0]
 have:tO d (prv l k) (at_ l k)=true:=by
  cases k with
  | zero=>rfl
  | succ j=>exact h2 (by omega)
 rw [this];simp
end
end
section
theorem mN{s:List ag}(h:gdS s){n:ag}(hn:n∈dk s):n.aw.length<=3:=by
 obtain ⟨_,kind,bd,hA⟩:=h
 obtain ⟨⟨kd,b,ho⟩,_⟩:=wu s kind bd hA n hn
 simp only [iE,j0,Bool.and_eq_true] at ho
 have hs:=ho.1.1.1.1.1.2.1
 have hk:=ho.1.1.1.1.1.2.2
 by_cases h2:n.ai=2
 ·rw [gT,if_neg (by omega),if_pos h2] at hk
  simp only [Bool.and_eq_true,decide_eq_true_eq] at hk
  omega
 ·simp only [ju,Bool.and_eq_true,Bool.or_eq_true,decide_eq_true_eq] at hs
  rcases hs.1.1.1.1.1.1.2 with h|h
  ·exact absurd h h2
  ·rw [List.isEmpty_iff.1 h.1];simp
section
variable {s : List ag} {a b : List ah} {x y : ah}
theorem zG(hf:0<=fnd (nd s y.ae) a y)(hy:okX (dk s) y):(fnd (nd s y.ae) a y).toNat<a.length/\(at_ a (fnd (nd s y.ae) a y).toNat).ae=y.ae/\at_ a (fnd (nd s y.ae) a y).toNat∈a:=by
 obtain ⟨h1,h2,h3⟩:=fK hf
 simp only [fiP,Bool.and_eq_true,beq_iff_eq] at h2
 exact ⟨h1,h2.1.1.trans (iv hy).1,h3⟩
theorem ot(hx:okX (dk s) x)(h:¬ ((nd s x.ae).ai=3\/(nd s x.ae).ai=4)):∀ k∈x.af,okX (dk (nd s x.ae).af) k :=
 lI (xP hx.2 h).2.1
theorem Kc(hb:∀ y∈b,okX (dk s) y)(hx:okX (dk s) x):∀ y∈b,y.ae=(at_ (dk s) (idx (nmP x.ae) (dk s)).toNat).ae->kyB (at_ (dk s) (idx (nmP x.ae) (dk s)).toNat) y=true:=by
 intro y hy e
 rw [(iv hx).1] at e
 have:=kE (hb y hy).2
 rw [e] at this
 exact this
theorem Ob(h:0<=fnd (nd s x.ae) b x):dfA s b x=[]:=by rw [dfA,if_pos h]
theorem Od(h:¬ 0<=fnd (nd s x.ae) b x)(h4:(nd s x.ae).ai=4):dfA s b x=[.mk 4 x.ae x.av (kyE (nd s x.ae) x)]:=by rw [dfA,if_neg h,if_pos h4]
theorem Oc(h:¬ 0<=fnd (nd s x.ae) b x)(h4:¬ (nd s x.ae).ai=4):dfA s b x=[.mk 4 x.ae [] (kyE (nd s x.ae) x)]:=by rw [dfA,if_neg h,if_neg h4]
theorem Oa(h:fnd (nd s y.ae) a y<0):dfY s a y=edO 3 [y]:=by rw [dfY,if_pos h,rZ 3 [y]];rfl
theorem N8(h:¬ fnd (nd s y.ae) a y<0)(h2:(nd s y.ae).ai=3/\¬ (at_ a (fnd (nd s y.ae) a y).toNat).av=y.av):dfY s a y=[.mk 2 y.ae y.av []]:=by rw [dfY,if_neg h,if_pos h2]
theorem I8(h:¬ fnd (nd s y.ae) a y<0)(h2:((nd s y.ae).ai=1\/(nd s y.ae).ai=2)/\smT (at_ a (fnd (nd s y.ae) a y).toNat).af y.af=false):dfY s a y=[.mk 1 y.ae [] (kyE (nd s y.ae) y++dif (nd s y.ae).af (at_ a (fnd (nd s y.ae) a y).toNat).af y.af)]:=by
 rw [dfY,if_neg h,if_neg (by rintro ⟨c,_⟩;omega),if_pos h2]
theorem N9(h:¬ fnd (nd s y.ae) a y<0)(h1:¬ ((nd s y.ae).ai=3/\¬ (at_ a (fnd (nd s y.ae) a y).toNat).av=y.av))(h2:¬ (((nd s y.ae).ai=1\/(nd s y.ae).ai=2)/\smT (at_ a (fnd (nd s y.ae) a y).toNat).af y.af=false)):dfY s a y=[]:=by rw [dfY,if_neg h,if_neg h1,if_neg h2]
end
theorem El{n:ag}{x:ah}(h:n.aw.length<=3):(kyE n x).length<=3:=by have:=GN (n:=n) (x:=x);omega
theorem xq{α β:Type}{f:α->List β}(h:∀ x,(f x).length<=1)(l:List α):(l.flatMap f).length<=l.length:=rS h l
theorem Ho(s:List ag)(a b:List ah):(dif s a b).length<=a.length+b.length:=by
 rw [vC,List.length_append]
 have:=rS (vD s b) a
 have:=rS (E3 s a) b
 omega
end
section
theorem Fj:∀ (a b c:Str),Op.bytesLess a b=true->Op.bytesLess b c=true->Op.bytesLess a c=true
 | a,[],c,h,_=>by cases a<;>simp [Op.bytesLess] at h
 | [],_::_,[],_,h=>by simp [Op.bytesLess] at h
 | [],_::_,_::_,_,_=>by simp [Op.bytesLess]
 | _::_,_::_,[],_,h=>by simp [Op.bytesLess] at h
 | x::xs,y::ys,z::zs,h1,h2=>by
  simp only [Op.bytesLess,Bool.or_eq_true,Bool.and_eq_true,decide_eq_true_eq,beq_iff_eq] at *
  rcases h1 with h1|⟨rfl,h1⟩
  ·rcases h2 with h2|⟨rfl,_⟩
   ·exact .inl (UInt8.lt_trans h1 h2)
   ·exact .inl h1
  ·rcases h2 with h2|⟨rfl,h2⟩
   ·exact .inl h2
   ·exact .inr ⟨rfl,Fj xs ys zs h1 h2⟩
theorem Ec:∀ (a b c:List Str),dZ a b=true->dZ b c=true->dZ a c=true
 | a,[],c,h,_=>by cases a<;>simp [dZ] at h
 | [],_::_,[],_,h=>by simp [dZ] at h
 | [],_::_,_::_,_,_=>by simp [dZ]
 | _::_,_::_,[],_,h=>by simp [dZ] at h
 | x::xs,y::ys,z::zs,h1,h2=>by
  rw [dZ] at *
  by_cases e1:x=y
  ·subst e1
   rw [if_pos rfl] at h1
   by_cases e2:x=z
   ·subst e2
    rw [if_pos rfl] at h2 ⊢
    exact Ec xs ys zs h1 h2
   ·rw [if_neg e2] at h2 ⊢;exact h2
  ·rw [if_neg e1] at h1
   by_cases e2:y=z
   ·subst e2
    rw [if_neg e1];exact h1
   ·rw [if_neg e2] at h2
    have h3:=Fj x y z h1 h2
    rw [if_neg (fun e=>by subst e;rw [qC] at h3;exact absurd h3 (by simp))]
    exact h3
theorem Lg{d:List ag}{a b c:ah}(h1:gZ d a b=true)(h2:gZ d b c=true):gZ d a c=true:=by
 unfold gZ at *
 by_cases e1:idx (nmP a.ae) d=idx (nmP b.ae) d/\gu (at_ d (idx (nmP b.ae) d).toNat).ai=true
 ·rw [if_pos e1] at h1
  by_cases e2:idx (nmP b.ae) d=idx (nmP c.ae) d/\gu (at_ d (idx (nmP c.ae) d).toNat).ai=true
  ·rw [if_pos e2] at h2
   rw [if_pos ⟨e1.1.trans e2.1,e2.2⟩]
   rw [e2.1] at h1
   exact Ec _ _ _ h1 h2
  ·rw [if_neg e2] at h2
   rw [if_neg (fun c=>e2 ⟨e1.1.symm.trans c.1,c.2⟩),e1.1];exact h2
 ·rw [if_neg e1,decide_eq_true_eq] at h1
  by_cases e2:idx (nmP b.ae) d=idx (nmP c.ae) d/\gu (at_ d (idx (nmP c.ae) d).toNat).ai=true
  ·rw [if_neg (by rintro ⟨c,_⟩;omega),decide_eq_true_eq];omega
  ·rw [if_neg e2,decide_eq_true_eq] at h2
   rw [if_neg (by rintro ⟨c,_⟩;omega),decide_eq_true_eq];omega
theorem DR{d:List ag}:∀ {l:List ah} {a:ah},okL d (some a) l=true↔(∀ x∈l,okX d x)/\(a::l).Pairwise fun x y=>gZ d x y=true
 | [],a=>by simp [okL]
 | x::xs,a=>by
  rw [sQ]
  simp only [Bool.and_eq_true,decide_eq_true_eq]
  have ih:=DR (d:=d) (l:=xs) (a:=x)
  rw [ih]
  constructor
  ·rintro ⟨⟨⟨h1,h2⟩,h3⟩,h4,h5⟩
   refine ⟨fun y hy=>?_,List.pairwise_cons.2 ⟨fun y hy=>?_,h5⟩⟩
   ·rcases List.mem_cons.1 hy with rfl|hy
    ·exact ⟨h1,h2⟩
    ·exact h4 y hy
   ·rcases List.mem_cons.1 hy with rfl|hy
    ·exact h3
    ·exact Lg h3 ((List.pairwise_cons.1 h5).1 y hy)
  ·rintro ⟨h1,h2⟩
   have h3:=h1 x (by simp)
   have h4:=List.pairwise_cons.1 h2
   exact ⟨⟨⟨h3.1,h3.2⟩,h4.1 x (by simp)⟩,fun y hy=>h1 y (by simp [hy]),h4.2⟩
theorem GF{d:List ag}{l:List ah}:okL d none l=true↔(∀ x∈l,okX d x)/\l.Pairwise fun x y=>gZ d x y=true:=by
 cases l with
 | nil=>simp [okL]
 | cons x xs =>
  rw [sQ]
  simp only [Bool.and_eq_true,decide_eq_true_eq,tO,and_true]
  rw [DR]
  constructor
  ·rintro ⟨h1,h2,h3⟩
   refine ⟨fun y hy=>?_,h3⟩
   rcases List.mem_cons.1 hy with rfl|hy
   ·exact h1
   ·exact h2 y hy
  ·rintro ⟨h1,h2⟩
   exact ⟨h1 x (by simp),fun y hy=>h1 y (by simp [hy]),h2⟩
end
end Go.Dt
