/- Part of a proof. -/
import Derived.Test.YtpelkkfkecfmbaaGreatDoorH15
set_option linter.all false
namespace Go.Dt
open Go.Ab
def pX(x:cu):Bool:=isName x.ag && isText x.ax
def iS(x:GStep):Bool:=x.aT.all pX && (isName x.ag && decide (x.aT.length<=3) && bT (x.aT.map cu.ag))
def AJ(p:bP):Bool:=decide (0<=p.bG) && decide (p.bG<=8) && (!p.bR || decide (p.bG=0)) && decide (p.av.length<=10) && (p.bR || decide (0<p.bG) || decide (0<p.av.length))
def dQ(p:bP):Bool:=p.av.all iS && AJ p
mutual
def dG:aB->Nat
 | .mk _ _ _ _ ks=>dw ks+1
def dw:List aB->Nat
 | []=>0
 | x::xs=>max (dG x) (dw xs)
end
def xw(p:bP):Bool:=!p.bR && decide (p.bG=0) && p.av.isEmpty
def ek(op:Int):Nat:=if op=5 then 1 else if 1<=op/\op<=4 then 0 else 2
def ue(p:bP):Bool:=!(!p.bR && decide (p.bG=0) && decide (0<p.av.length) && ((at_ p.av 0).ag == [111,114] || (at_ p.av 0).ag == [97,110,100])) && !(p.bR && p.av.isEmpty)
def exN(op num:Int)(tx:Str)(p:bP)(n:Nat):Bool :=
 decide (1<=op) && decide (op<=15) && decide (n=ek op) && (decide (op=1) || decide (num=0)) && (decide (op=2) || tx.isEmpty) && (decide (op=3) || decide (op=4) || xw p) &&
 (if op=1 then decide (0<=num) && decide (num<=1000000000) else if op=2 then isText tx else if op=4 then dQ p else if op=3 then dQ p && ue p else true)
mutual
def vE:aB->Bool
 | .mk op num tx p ks=>exN op num tx p ks.length && vEL ks
def vEL:List aB->Bool
 | []=>true
 | x::xs=>vE x && vEL xs
end
def xy:∀ l:List aB,vEL l=l.all vE
 | []=>rfl
 | x::xs=>by simp only [vEL,List.all_cons,xy xs]
def fj(e:aB):Bool:=decide (dG e<=8) && vE e
def cg(k:Int):Bool:=decide (1<=k) && decide (k<=4)
def dk:List ae->List ae
 | []=>[]
 | .mk k a b c d e f g h i j l m n ks::xs=>(if cg k=true then [.mk k a b c d e f g h i j l m n ks] else if k=5\/k=6 then dk ks else [])++dk xs
def iP(x:ae)(xs:List ae):dk (x::xs)=(if cg x.aj=true then [x] else if x.aj=5\/x.aj=6 then dk x.af else [])++dk xs:=by cases x;rw [dk];rfl
def aH:List ae->Nat
 | []=>0
 | .mk _ _ _ _ _ _ _ _ _ _ _ _ _ _ ks::xs=>1+aH ks+aH xs
def aW:List ae->Nat
 | []=>0
 | .mk _ _ _ _ _ _ _ _ _ _ _ _ _ _ ks::xs=>max (1+aW ks) (aW xs)
def mxS:List ae->Nat
 | []=>0
 | .mk _ _ _ _ _ _ _ _ _ _ _ _ w m ks::xs=>max (max (dw w) (dw m)) (max (mxS ks) (mxS xs))
def lD(t:cT):Bool:=decide (t.aj=0) && t.aP.isEmpty && t.aF.isEmpty && t.ba.isEmpty && t.az.isEmpty
def exS(l:List aB)(m:Int):Bool:=l.all fj && decide ((l.length:Int)<=m)
def lX(n:ae):Bool:=decide (0<=n.eJ) && decide (n.eJ<=1000000000) && (decide (n.dU=0) || (decide (n.eJ<=n.dU) && decide (n.dU<=1000000000)))
def nmS(l:List ae):List Str:=l.map ae.ag
def nmP(n:Str)(x:ae):Bool:=x.ag == n
theorem eQ{α:Type}[Inhabited α]{p:α->Bool}{l:List α}{k:Nat}(hk:k<l.length)(h:p (at_ l k)=false):l.all p=false:=by rw [<- BH,dL hk h]
def cM{α:Type}{p:α->Bool}{l:List α}{k:Nat}(hk:¬ k<l.length)(h:∀ y∈l.take k,(!p y)=false):l.all p=true:=by rw [List.take_of_length_le Ir] at h;rw [List.all_eq_true];intro x hx;simpa using h x hx
def Fa{α:Type}{f:α->Str}{l:List α}{k:Nat}(h:¬ k<l.length):(l.take k).map f=l.map f:=by rw [List.take_of_length_le Ir]
theorem tk1{α:Type}[Inhabited α]{l:List α}{k:Nat}(h:k<l.length):l.take (k+1)=l.take k++[at_ l k]:=by rw [List.take_succ_eq_append_getElem h];unfold at_;rw [List.getElem?_eq_getElem h];rfl
theorem E8{α β γ:Type}[Inhabited α]{l:List α}{k:Nat}{f:α->β}{g:β->γ}(h:k<l.length):((l.take (k+1)).map f).map g=((l.take k).map f).map g++[g (f (at_ l k))]:=by rw [tk1 h];simp
def Rg(n:Nat):decide ((n:Int)<=10)=decide (n<=10):=decide_eq_decide.2 Ir
def q9(n:Nat):decide (0<(n:Int))=decide (0<n):=decide_eq_decide.2 Ir
def fC(a b:Int):(a == b)=decide (a=b):=by rw [Bool.eq_iff_iff];simp
theorem qp{α β:Type}[Inhabited α][Inhabited β]{f:α->β}{l:List α}{k:Nat}(h:k<l.length):at_ (l.map f) k=f (at_ l k):=by unfold at_;rw [List.getElem?_map,List.getElem?_eq_getElem h];rfl
def FL{x:bP}{k:Nat}(hk:k<x.av.length)(h:iS (at_ x.av k)=false):dQ x=false:=by rw [dQ,eQ hk h];rfl
section
variable {s : GStep} {i j : Nat}
def RE(hi:i<j)(hj:j<s.aT.length)(h:(at_ s.aT i).ag=(at_ s.aT j).ag):iS s=false:=by
 have:bT (s.aT.map cu.ag)=false:=by
  refine dL (j:=j) (by simpa using hj) ?_;rw [vf hi (by simpa using hj) (by rw [qp Ir,qp hj];exact h)];rfl
 rw [iS,this];simp
def RC(hj:j<s.aT.length)(h:pX (at_ s.aT j)=false):iS s=false:=by rw [iS,eQ hj h];rfl
def RD(hj:¬ j<s.aT.length)(hj2:j<=s.aT.length)(hS:∀ y∈s.aT.take j,(!pX y)=false)(hQ:cS (fun i=>!cont ((s.aT.map cu.ag).take i) (at_ (s.aT.map cu.ag) i)) j=true):iS s=(isName s.ag && decide (s.aT.length<=3)):=by
 have e:j=s.aT.length:=by omega
 subst e;rw [iS,cM hj hS,bT,List.length_map,hQ];simp
end
def jt{α:Type}(l:List α):((l.length:Int) == 0)=l.isEmpty:=by
 cases l with
 | nil=>rfl
 | cons x xs=>rw [List.length_cons,List.isEmpty_cons,fC,decide_eq_false_iff_not];omega
def p5{α:Type}(l:List α):decide (0<l.length)=!l.isEmpty:=by
 cases l with
 | nil=>rfl
 | cons x xs=>rw [List.length_cons,List.isEmpty_cons];simp
def l8{x:bP}(h:dQ x=true):0<=x.bG/\(x.bR=true->x.bG=0)/\(x.bR=false->x.bG<=0->0<x.av.length):=by
 simp only [dQ,AJ,Bool.and_eq_true,Bool.or_eq_true,decide_eq_true_eq,Bool.not_eq_true'] at h;obtain ⟨_,⟨⟨⟨⟨h1,_⟩,h2⟩,_⟩,h3⟩⟩:=h;refine ⟨h1,fun e=>?_,fun e f=>?_⟩
 ·rcases h2 with h2|h2
  ·rw [e] at h2;exact absurd h2 QC
  ·exact h2
 ·rcases h3 with (h3|h3)|h3
  ·rw [e] at h3;exact absurd h3 QC
  ·omega
  ·exact h3
def XA{x:bP}(h:dQ x=true)(e:x.bR=true\/0<x.bG):(decide (0<x.bG) || decide (0<(x.av.length:Int)))=ue x:=by
 obtain ⟨h1,h2,h3⟩:=l8 h
 cases r:x.bR with
 | true =>
  have:=h2 r;rw [ue,r,q9,p5,this];simp
 | false =>
  rw [r] at e;have h4:0<x.bG:=by rcases e with e|e;exact absurd e QC;exact e
  rw [ue,r,show decide (x.bG=0)=false by simp;omega,show decide (0<x.bG)=true by simpa using h4];simp
def QE{x:bP}(h:dQ x=true)(e:x.bR=false/\x.bG<=0):0<x.av.length/\(!(at_ x.av 0).ag == [111,114] && !(at_ x.av 0).ag == [97,110,100])=ue x:=by obtain ⟨h1,h2,h3⟩:=l8 h;have h4:=h3 e.1 e.2;refine ⟨h4,?_⟩;rw [ue,e.1,show decide (x.bG=0)=true by simp;omega,show decide (0<x.av.length)=true by simpa using h4];simp
def Vs{a:Bool}{n:Nat}(h:a=false\/3<(n:Int)):(a && decide (n<=3))=false:=by
 rcases h with h|h
 ·rw [h];rfl
 ·rw [show decide (n<=3)=false by simp;omega,Bool.and_false]
def qo(x:aB):dG x=dw x.af+1:=by cases x;rw [dG];rfl
def lW(x:aB):vE x=(exN x.fOp x.dn x.bI x.az x.af.length && x.af.all vE):=by cases x;rw [vE,xy];rfl
def DT:∀ (l:List aB) (x:aB),dw (l++[x])=max (dw l) (dG x)
 | [],x=>by simp [dw]
 | y::l,x=>by simp only [List.cons_append,dw,DT l x];omega
def BA{l:List aB}{k:Nat}(h:k<l.length):dw (l.take (k+1))=max (dw (l.take k)) (dG (at_ l k)):=by rw [tk1 h,DT]
def lP:∀ {l:List aB} {y:aB},y∈l->dG y<=dw l
 | x::l,y,h=>by
  rw [dw];rcases List.mem_cons.1 h with rfl|h
  ·omega
  ·have:=lP h;omega
def ve:∀ (l:List aB) (k:Nat),dw (l.take k)<=dw l
 | [],k=>by simp
 | x::l,0=>by simp [dw]
 | x::l,k+1=>by rw [List.take_succ_cons,dw,dw];have:=ve l k;omega
def aB.Bj{x y:aB}(h:y∈x.af):SizeOf.sizeOf y<SizeOf.sizeOf x:=by have:=List.sizeOf_lt_of_mem h;cases x;simp [aB.af] at *;omega
def VO(a b:Nat):(if a<b then (b:Int) else (a:Int))=((max a b:Nat):Int):=by split<;>omega
def S3(a b:Nat):max (a:Int) (b:Int)=((max a b:Nat):Int):=by omega
def exL(op num:Int)(tx:Str)(p:bP):Bool:=if op=1 then decide (0<=num) && decide (num<=1000000000) else if op=2 then isText tx else if op=4 then dQ p else if op=3 then dQ p && ue p else true
def fk(op num:Int)(tx:Str)(p:bP)(n:Nat):exN op num tx p n=(decide (1<=op) && decide (op<=15) && decide (n=ek op) && (decide (op=1) || decide (num=0)) && (decide (op=2) || tx.isEmpty) && (decide (op=3) || decide (op=4) || xw p) && exL op num tx p):=rfl
def dN(s:Str):s.isEmpty=decide (s=[]):=by cases s<;>simp
section
variable {x : aB} {n : Int}
def x4(h:(x.af.length:Int)=0):x.af.all vE=true:=by rw [List.eq_nil_of_length_eq_zero (l:=x.af) Ir];rfl
def Ep{k:Nat}(hk:k<x.af.length)(h:vE (at_ x.af k)=false):vE x=false:=by rw [lW,eQ hk h,Bool.and_false]
end
def pP{x:aB}(h:exN x.fOp x.dn x.bI x.az x.af.length=false):vE x=false:=by rw [lW,h,Bool.false_and]
def kU(s:Str):(s == [])=s.isEmpty:=by cases s<;>rfl
def Hv:∀ (l:List ae) (x:ae),aH (l++[x])=aH l+1+aH x.af
 | [],x=>by cases x;simp [aH,ae.af]
 | .mk _ _ _ _ _ _ _ _ _ _ _ _ _ _ ks::l,x=>by simp only [List.cons_append,aH,Hv l x];omega
def Ob{l:List ae}{k:Nat}(h:k<l.length):aH (l.take (k+1))=aH (l.take k)+1+aH (at_ l k).af:=by rw [tk1 h,Hv]
def o4:∀ (l:List ae) (k:Nat),aH (l.take k)+(l.length - k)<=aH l
 | [],k=>by simp [aH]
 | x::l,0=>by
  have:=o4 l 0;cases x;simp only [List.take_zero,aH,List.length_cons] at *;omega
 | x::l,k+1=>by
  have:=o4 l k;cases x;simp only [List.take_succ_cons,aH,List.length_cons] at *;omega
def jc:∀ {l:List ae} {x:ae},x∈l->aH x.af<=aH l
 | y::l,x,h=>by
  rcases List.mem_cons.1 h with rfl|h
  ·cases x;simp only [aH,ae.af];omega
  ·have:=jc h;cases y;simp only [aH];omega
def Ho:∀ (l:List ae) (x:ae),aW (l++[x])=max (aW l) (1+aW x.af)
 | [],x=>by cases x;simp [aW,ae.af]
 | .mk _ _ _ _ _ _ _ _ _ _ _ _ _ _ ks::l,x=>by simp only [List.cons_append,aW,Ho l x];omega
def N8{l:List ae}{k:Nat}(h:k<l.length):aW (l.take (k+1))=max (aW (l.take k)) (1+aW (at_ l k).af):=by rw [tk1 h,Ho]
def xg:∀ (l:List ae) (k:Nat),aW (l.take k)<=aW l
 | [],k=>by simp
 | x::l,0=>by simp [aW]
 | x::l,k+1=>by
  have:=xg l k;cases x;simp only [List.take_succ_cons,aW] at *;omega
def zU:∀ {l:List ae} {x:ae},x∈l->1+aW x.af<=aW l
 | y::l,x,h=>by
  rcases List.mem_cons.1 h with rfl|h
  ·cases x;simp only [aW,ae.af];omega
  ·have:=zU h;cases y;simp only [aW];omega
def ae.du{l:List ae}{x:ae}(h:x∈l):SizeOf.sizeOf x.af<SizeOf.sizeOf l:=by have:=List.sizeOf_lt_of_mem h;cases x;simp [ae.af] at *;omega
end Go.Dt
namespace Go.Dt
open Go Go.Ab
section
def dkF:List ae->Bool->List Bool
 | [],_=>[]
 | .mk k _ _ _ _ _ _ _ _ _ _ _ _ _ ks::xs,h=>(if cg k=true then [h] else if k=5\/k=6 then dkF ks (h || k == 6) else [])++dkF xs h
def qZ(x:ae)(xs:List ae)(h:Bool):dkF (x::xs) h=(if cg x.aj=true then [h] else if x.aj=5\/x.aj=6 then dkF x.af (h || x.aj == 6) else [])++dkF xs h:=by cases x;rw [dkF];rfl
def NZ:∀ (l:List ae) (x:ae),dk (l++[x])=dk l++(if cg x.aj=true then [x] else if x.aj=5\/x.aj=6 then dk x.af else [])
 | [],x=>by rw [List.nil_append,iP];simp [dk]
 | y::l,x=>by rw [List.cons_append,iP,iP,NZ l x,List.append_assoc]
def JW(h:Bool):∀ (l:List ae) (x:ae),dkF (l++[x]) h=dkF l h++(if cg x.aj=true then [h] else if x.aj=5\/x.aj=6 then dkF x.af (h || x.aj == 6) else [])
 | [],x=>by rw [List.nil_append,qZ];simp [dkF]
 | y::l,x=>by rw [List.cons_append,qZ,qZ,JW h l x,List.append_assoc]
def qm{l:List ae}{k:Nat}(h:k<l.length):dk (l.take (k+1))=dk (l.take k)++(if cg (at_ l k).aj=true then [at_ l k] else if (at_ l k).aj=5\/(at_ l k).aj=6 then dk (at_ l k).af else []):=by rw [tk1 h,NZ]
def zS{l:List ae}{k:Nat}{b:Bool}(h:k<l.length):dkF (l.take (k+1)) b=dkF (l.take k) b++(if cg (at_ l k).aj=true then [b] else if (at_ l k).aj=5\/(at_ l k).aj=6 then dkF (at_ l k).af (b || (at_ l k).aj == 6) else []):=by rw [tk1 h,JW]
def nQ:∀ (l:List ae),(dk l).length<=aH l
 | []=>by simp [dk]
 | .mk k _ _ _ _ _ _ _ _ _ _ _ _ _ ks::xs=>by
  have h1:=nQ ks;have h2:=nQ xs;rw [dk,aH,List.length_append];split
  ·simp;omega
  ·split
   ·omega
   ·simp;omega
def tT:∀ (l:List ae) (h:Bool),(dkF l h).length=(dk l).length
 | [],h=>by simp [dk,dkF]
 | .mk k _ _ _ _ _ _ _ _ _ _ _ _ _ ks::xs,h=>by
  rw [dk,dkF,List.length_append,List.length_append,tT xs h];split
  ·simp
  ·split
   ·rw [tT ks]
   ·simp
def J1{l:List ae}{k:Nat}:aH (l.take k)<=aH l:=by have:=o4 l k;omega
end
section
def eU:List ae->Int->Int
 | [],q=>q
 | .mk _ _ _ _ _ _ _ _ _ _ _ _ _ _ ks::xs,q=>if q<0 then q else eU xs (eU ks (q - ks.length))
def Pw{l:List ae}{k:Nat}(h:k<l.length)(q:Int):eU (l.drop k) q=if q<0 then q else eU (l.drop (k+1)) (eU (at_ l k).af (q - (at_ l k).af.length)):=by rw [bq h];cases at_ l k;rw [eU];rfl
def oV(l:List ae){q:Int}(h:q<0):eU l q=q:=by
 cases l with
 | nil=>rw [eU]
 | cons x xs=>cases x;simp only [eU];rw [if_pos h]
def zq:∀ (l:List ae) (q:Int),eU l q<=q
 | [],q=>by simp [eU]
 | .mk _ _ _ _ _ _ _ _ _ _ _ _ _ _ ks::xs,q=>by
  have h1:=zq ks (q - ks.length)
  have h2:=zq xs (eU ks (q - ks.length));simp only [eU];split<;>omega
def mP:∀ (l:List ae),l.length<=aH l
 | []=>by simp
 | .mk _ _ _ _ _ _ _ _ _ _ _ _ _ _ ks::xs=>by have:=mP xs;simp only [aH,List.length_cons];omega
def zr:∀ (l:List ae) (q:Int),-4611686018427387904<=q->aH l<=1048576->-4611686018427387904<=eU l q
 | [],q,h,_=>by simpa [eU] using h
 | .mk _ _ _ _ _ _ _ _ _ _ _ _ _ _ ks::xs,q,h,hw=>by
  simp only [eU];simp only [aH] at hw;split
  ·exact h
  ·have e2:=mP ks;exact zr xs _ (zr ks _ Ir Ir) Ir
def zt:∀ (l:List ae) (q:Int),0<=q->(0<=eU l q↔(aH l:Int) - l.length<=q)/\((aH l:Int) - l.length<=q->eU l q=q - (aH l - l.length))
 | [],q,h=>by simp only [eU,aH,List.length_nil];omega
 | .mk _ _ _ _ _ _ _ _ _ _ _ _ _ _ ks::xs,q,h=>by
  simp only [eU,aH,List.length_cons];have e1:=mP ks
  have e2:=mP xs;rw [if_neg Ir];rcases Int.lt_or_le (q - ks.length) 0 with h1|h1
  ·rw [oV ks h1,oV xs h1];omega
  ·have h2:=zt ks _ h1;rcases Int.lt_or_le (eU ks (q - ks.length)) 0 with h3|h3
   ·rw [oV xs h3];omega
   ·have h4:=zt xs _ h3
    have h5:=h2.2 (h2.1.1 h3);rw [h5] at h3 h4 ⊢;omega
def SQ(l:List ae):decide (0<=eU l (60 - l.length))=decide (aH l<=60):=by
 have e:=mP l;refine decide_eq_decide.2 ?_;rcases Int.lt_or_le (60 - (l.length:Int)) 0 with h|h
 ·rw [oV l h];omega
 ·have:=(zt l _ h).1;omega
end
section
def mJ(n:ae):Bool:=isName n.ag && exS n.aG 1 && exS n.bO 3
def tyB(t:cT):Bool:=isType jO t
def iT(n:ae):Bool :=
 (decide (n.aj=3) || decide (n.aj=4) || lD n.fType) &&
 (decide (n.aj=2) || n.aE.isEmpty && n.ay.isEmpty) &&
 (decide (n.aj=3) || n.aV.isEmpty && !n.bS && !n.cU) &&
 (decide (n.aj=3) || decide (n.aj=5) || !n.bD) &&
 (decide (n.aj=1) || !n.aZ) &&
 (decide (n.aj=2) || decide (n.aj=4) || decide (n.eJ=0) && decide (n.dU=0)) &&
 (cg n.aj || n.bO.isEmpty) &&
 (!(decide (n.aj=3) || decide (n.aj=4)) || n.af.isEmpty)
def fw(n:ae):Bool :=
 if n.aj=1\/n.aj=5\/n.aj=6 then true
 else if n.aj=2 then decide (1<=n.aE.length) && decide (n.aE.length<=3) && bT n.aE && names n.aE && decide (n.ay.length<=3) && bT n.ay && names n.ay && lX n
 else if n.aj=3 then tyB n.fType && !(n.bS && (n.bD || !n.aG.isEmpty)) && (n.bS && isVal n.fType n.aV || !n.bS && n.aV.isEmpty)
 else if n.aj=4 then tyB n.fType && lX n
 else if n.aj=7 then n.aG.isEmpty && n.af.isEmpty
 else false
def j9(n:ae):Bool:=mJ n && (iT n && fw n)
def dW(n:Str)(x:ae):Bool:=x.ag == n && decide (x.aj=3)
def Cu(y:ae):Bool:=y.aG.isEmpty && !y.bS && !decide (y.fType.aj=6)
def qL(ks:List ae)(k:Str):Bool:=decide (0<=idx (dW k) ks) && Cu (at_ ks (idx (dW k) ks).toNat)
def sx(ks:List ae)(k:Str):Bool:=decide (0<=idx (dW k) ks)
def qK(ks:List ae)(k:Str):Bool:=decide (0<=idx (nmP k) ks) && decide ((at_ ks (idx (nmP k) ks).toNat).aj=3) && Cu (at_ ks (idx (nmP k) ks).toNat)
def qv(ks:List ae)(k:Str):Bool:=decide (0<=idx (nmP k) ks) && decide ((at_ ks (idx (nmP k) ks).toNat).aj=3)
def oJ(n:ae):Bool:=n.aE.all (qK n.af) && n.ay.all (qv n.af) && (lD n.fType && !n.aE.isEmpty && (bT n.aE && decide (n.aE.length<=3)) && (bT n.ay && decide (n.ay.length<=3)) && lX n && !n.bS && !n.bD && !n.aZ && !n.cU && n.aV.isEmpty)
def rD(n:ae):Bool:=n.aE.isEmpty && n.ay.isEmpty && n.aV.isEmpty && !n.bS && !n.cU && decide (n.eJ=0) && decide (n.dU=0)
def KK(n:ae):Bool:=n.aE.isEmpty && n.ay.isEmpty && decide (n.eJ=0) && decide (n.dU=0) && !n.aZ && n.af.isEmpty && tyB n.fType
def KN(n:ae)(free:Bool):Bool :=
 if n.aj=1 then rD n && !n.bD && lD n.fType
 else if n.aj=2 then oJ n
 else if n.aj=3 then (if n.bS=true then KK n && free && !n.bD && n.aG.isEmpty && isVal n.fType n.aV else KK n && n.aV.isEmpty)
 else if n.aj=4 then n.aE.isEmpty && n.ay.isEmpty && n.aV.isEmpty && !n.bS && !n.cU && !n.bD && !n.aZ && n.af.isEmpty && lX n && tyB n.fType
 else if n.aj=5 then rD n && !n.aZ && n.bO.isEmpty && lD n.fType
 else if n.aj=6 then rD n && !n.aZ && !n.bD && n.bO.isEmpty && lD n.fType
 else false
def p4(n:ae)(free:Bool):Bool:=mJ n && KN n free
def gq(kind:Int)(bound:Bool)(n:ae):Bool:=j9 n && !decide (n.aj=7) && (decide (n.aj=6) == decide (kind=5)) && !(n.bS && bound) && n.aE.all (qL n.af) && n.ay.all (sx n.af)
def lp(l:List ae)(kind:Int):Bool:=bT (nmS l) && (decide (kind=5) || decide (kind=6) || bT (nmS (dk l)))
def kA:List ae->Int->Bool->Bool
 | [],_,_=>true
 | .mk k a b c d e f g h i j l m n ks::xs,kind,bd=>gq kind bd (.mk k a b c d e f g h i j l m n ks) && (lp ks k && kA ks k (bd || !m.isEmpty || decide (k=6))) && kA xs kind bd
def qi(x:ae)(xs:List ae)(kind:Int)(bd:Bool):kA (x::xs) kind bd=(gq kind bd x && (lp x.af x.aj && kA x.af x.aj (bd || !x.aG.isEmpty || decide (x.aj=6))) && kA xs kind bd):=by cases x;rw [kA];rfl
def kS:List ae->Int->Bool->Nat->Bool
 | [],_,_,_=>true
 | .mk k a b c d e f g h i j l m n ks::xs,kind,fr,p=>(decide (kind=5) == decide (k=6)) && p4 (.mk k a b c d e f g h i j l m n ks) fr && (bT (nmS ks) && kS ks k (fr && m.isEmpty && !decide (k=6)) (p+1) && bT (nmS (dk ks)) && (decide (p+1<=8) || ks.isEmpty)) && kS xs kind fr p
def Cw(x:ae)(xs:List ae)(kind:Int)(fr:Bool)(p:Nat):kS (x::xs) kind fr p=((decide (kind=5) == decide (x.aj=6)) && p4 x fr && (bT (nmS x.af) && kS x.af x.aj (fr && x.aG.isEmpty && !decide (x.aj=6)) (p+1) && bT (nmS (dk x.af)) && (decide (p+1<=8) || x.af.isEmpty)) && kS xs kind fr p):=by cases x;rw [kS];rfl
def kR(l:List ae)(kind:Int)(bd:Bool):Bool:=lp l kind && kA l kind bd
def kT(l:List ae)(kind:Int)(fr:Bool)(p:Nat):Bool:=bT (nmS l) && kS l kind fr p && bT (nmS (dk l)) && (decide (p<=8) || l.isEmpty)
def fX(l:List ae):Bool:=decide (aH l<=60) && decide (aW l<=8) && kR l 0 false
theorem C3{α:Type}[Inhabited α](x:α)(l:List α)(k:Nat):at_ (x::l) (k+1)=at_ l k:=rfl
theorem l9{α:Type}[Inhabited α]{l:List α}{i:Nat}(h:i<l.length):l[i]=at_ l i:=by unfold at_;rw [List.getElem?_eq_getElem h];rfl
def kr(l:List Str):bT l=true↔l.Nodup:=by
 constructor
 ·intro h;refine List.pairwise_iff_getElem.2 fun i j hi' hj hi e=>?_;have h1:=o5 h hj;rw [l9,l9] at e;rw [vf hi hj e] at h1;exact absurd h1 QC
 ·intro h;rw [bT]
  have:∀ n,n<=l.length->cS (fun j=>!cont (l.take j) (at_ l j)) n=true:=by
   intro n
   induction n with
   | zero=>intro _;rfl
   | succ n ih =>
    intro hn;refine dc (ih Ir) ?_;rw [rU]
    ·rfl
    intro y hy;rw [beq_eq_false_iff_ne];intro e;obtain ⟨i,hi,e2⟩:=List.getElem_of_mem hy;rw [List.length_take] at hi;rw [List.getElem_take,l9,e] at e2;refine List.pairwise_iff_getElem.1 h i n Ir Ir Ir ?_;rw [l9,l9,e2]
  exact this _ (Nat.le_refl _)
def Bp{α:Type}{p:α->Bool}:∀ {l:List α},¬ 0<=idx p l->∀ x∈l,p x=false
 | x::xs,h,y,hy=>by
  have h0:=oY p xs;simp only [idx] at h;split at h
  ·omega
  ·rename_i h1;split at h
   ·rcases List.mem_cons.1 hy with rfl|hy
    ·simpa using h1
    ·exact Bp Ir y hy
   ·omega
theorem dF{α:Type}[Inhabited α]{p:α->Bool}:∀ {l:List α},0<=idx p l->(idx p l).toNat<l.length/\p (at_ l (idx p l).toNat)=true/\at_ l (idx p l).toNat∈l
 | [],h=>by simp [idx] at h
 | x::xs,h=>by
  simp only [idx] at h ⊢;split
  ·rename_i h1;exact ⟨QC,h1,by simp [at_]⟩
  ·rename_i h1;rw [if_neg h1] at h;split at h
   ·omega
   ·rename_i h2;have ih:=dF (p:=p) (l:=xs) Ir;rw [if_neg h2,show (idx p xs+1).toNat=(idx p xs).toNat+1 by omega,C3];exact ⟨by rw [List.length_cons];omega,ih.2.1,List.mem_cons_of_mem _ ih.2.2⟩
theorem qM{α:Type}[Inhabited α]{p:α->Bool}:∀ {l:List α} {j:Nat},j<l.length->p (at_ l j)=true->idx p l<=j/\0<=idx p l
 | x::xs,0,_,h=>by
  have:p x=true:=h;simp [idx,this]
 | x::xs,j+1,hj,h=>by
  have h1:=qM (p:=p) (l:=xs) (j:=j) (by simpa using hj) h;simp only [idx];split
  ·omega
  ·split<;>omega
def ou{l:List ae}(hd:bT (nmS l)=true){x y:ae}(hx:x∈l)(hy:y∈l)(e:x.ag=y.ag):x=y:=by
 rw [kr,nmS] at hd
 induction l with
 | nil=>simp at hx
 | cons z l ih =>
  rw [List.map_cons,List.nodup_cons] at hd;rcases List.mem_cons.1 hx with gx|gx<;>rcases List.mem_cons.1 hy with gy|gy
  ·rw [gx,gy]
  ·subst gx;exact absurd (List.mem_map.2 ⟨y,gy,e.symm⟩) hd.1
  ·subst gy;exact absurd (List.mem_map.2 ⟨x,gx,e⟩) hd.1
  ·exact ih hd.2 gx gy
def Gi{ks:List ae}(hd:bT (nmS ks)=true)(k:Str):(0<=idx (dW k) ks↔0<=idx (nmP k) ks/\(at_ ks (idx (nmP k) ks).toNat).aj=3)/\(0<=idx (dW k) ks->at_ ks (idx (dW k) ks).toNat=at_ ks (idx (nmP k) ks).toNat):=by
 have key:0<=idx (dW k) ks->0<=idx (nmP k) ks/\at_ ks (idx (dW k) ks).toNat=at_ ks (idx (nmP k) ks).toNat/\(at_ ks (idx (dW k) ks).toNat).aj=3:=by
  intro h;obtain ⟨h1,h2,h3⟩:=dF h;simp only [dW,Bool.and_eq_true,beq_iff_eq,decide_eq_true_eq] at h2
  have h4:0<=idx (nmP k) ks:=by
   apply Classical.byContradiction;intro h5;have:=Bp h5 _ h3;simp only [nmP,beq_eq_false_iff_ne] at this;exact this h2.1
  obtain ⟨g1,g2,g3⟩:=dF h4;simp only [nmP,beq_iff_eq] at g2;exact ⟨h4,ou hd h3 g3 (h2.1.trans g2.symm),h2.2⟩
 refine ⟨⟨fun h=>⟨(key h).1,(key h).2.1 ▸ (key h).2.2⟩,fun h=>?_⟩,fun h=>(key h).2.1⟩;apply Classical.byContradiction;intro h5;obtain ⟨g1,g2,g3⟩:=dF h.1;have:=Bp h5 _ g3;simp only [nmP,beq_iff_eq] at g2;simp only [dW,g2,h.2] at this;simp at this
def Yc{ks:List ae}(hd:bT (nmS ks)=true)(k:Str):qL ks k=qK ks k:=by
 have h:=Gi hd k;rw [Bool.eq_iff_iff];simp only [qL,qK,Bool.and_eq_true,decide_eq_true_eq];constructor
 ·intro g;rw [<- h.2 g.1] at *;exact ⟨h.1.1 g.1,g.2⟩
 ·intro g;have:=h.1.2 g.1;rw [h.2 this];exact ⟨this,g.2⟩
def XB{ks:List ae}(hd:bT (nmS ks)=true)(k:Str):sx ks k=qv ks k:=by have h:=Gi hd k;rw [Bool.eq_iff_iff];simp only [sx,qv,Bool.and_eq_true,decide_eq_true_eq];exact h.1
def MU(l:List Str):names l=l.all isName:=by rw [names,BH]
def Bc{ks:List ae}{l:List Str}(hn:∀ y∈ks,isName y.ag=true)(h:∀ k∈l,0<=idx (nmP k) ks):names l=true:=by rw [MU,List.all_eq_true];intro k hk;obtain ⟨g1,g2,g3⟩:=dF (h k hk);simp only [nmP,beq_iff_eq] at g2;rw [<- g2];exact hn _ g3
def SN{n:ae}(hd:bT (nmS n.af)=true)(hn:∀ y∈n.af,isName y.ag=true)(hk:n.aj=2)(bd:Bool):(iT n && fw n && !(n.bS && bd) && n.aE.all (qL n.af) && n.ay.all (sx n.af))=oJ n:=by
 have e1:qL n.af=qK n.af:=funext fun k=>Yc hd k
 have e2:sx n.af=qv n.af:=funext fun k=>XB hd k;rw [e1,e2,oJ]
 cases h1:n.aE.all (qK n.af) with
 | false=>simp
 | true =>
  cases h2:n.ay.all (qv n.af) with
  | false=>simp
  | true =>
   have h3:names n.aE=true:=Bc hn fun k hk=>by
    have:=List.all_eq_true.1 h1 k hk;simp only [qK,Bool.and_eq_true,decide_eq_true_eq] at this;exact this.1.1
   have h4:names n.ay=true:=Bc hn fun k hk=>by
    have:=List.all_eq_true.1 h2 k hk;simp only [qv,Bool.and_eq_true,decide_eq_true_eq] at this;exact this.1
   have h5:decide (1<=n.aE.length)=!n.aE.isEmpty:=p5 _;simp only [iT,fw,cg,hk,h3,h4,h5];cases lD n.fType<;>cases n.aE.isEmpty<;>cases n.bS<;>cases n.bD<;>cases n.aZ<;>cases n.cU<;>cases n.aV.isEmpty<;>simp<;>grind
def MP{n:ae}(hd:bT (nmS n.af)=true)(hn:∀ y∈n.af,isName y.ag=true)(kind:Int)(bd:Bool):gq kind bd n=((decide (kind=5) == decide (n.aj=6)) && p4 n (!bd)):=by
 rw [gq,p4,j9,KN]
 cases mJ n with
 | false=>simp
 | true =>
  by_cases h2:n.aj=2
  ·rw [<- SN hd hn h2 bd];simp [h2];grind
  ·have e:∀ (a b:Bool),(a == b)=(b == a):=by decide
   by_cases h1:n.aj=1
   ·simp only [iT,fw,rD,cg,h1];cases lD n.fType<;>cases hk:n.aE<;>cases hu:n.ay<;>cases n.bS<;>cases n.bD<;>cases n.aZ<;>cases n.cU<;>simp<;>grind
   by_cases h5:n.aj=5
   ·simp only [iT,fw,rD,cg,h5];cases lD n.fType<;>cases hk:n.aE<;>cases hu:n.ay<;>cases n.bS<;>cases n.bD<;>cases n.aZ<;>cases n.cU<;>simp<;>grind
   by_cases h6:n.aj=6
   ·simp only [iT,fw,rD,cg,h6];cases lD n.fType<;>cases hk:n.aE<;>cases hu:n.ay<;>cases n.bS<;>cases n.bD<;>cases n.aZ<;>cases n.cU<;>simp<;>grind
   by_cases h4:n.aj=4
   ·simp only [iT,fw,rD,cg,h4];cases tyB n.fType<;>cases hk:n.aE<;>cases hu:n.ay<;>cases n.bS<;>cases n.bD<;>cases n.aZ<;>cases n.cU<;>simp<;>grind
   by_cases h3:n.aj=3
   ·simp only [iT,fw,rD,cg,KK,h3];cases tyB n.fType<;>cases hk:n.aE<;>cases hu:n.ay<;>cases n.bS<;>cases n.bD<;>cases n.aZ<;>cases n.aG.isEmpty<;>cases bd<;>simp<;>grind
   by_cases h7:n.aj=7
   ·simp [h7]
   ·simp [fw,h1,h2,h3,h4,h5,h6,h7]
def Ju:∀ {l:List ae} {kind:Int} {fr:Bool} {p:Nat},kS l kind fr p=true->∀ y∈l,isName y.ag=true
 | [],_,_,_,_,y,h=>by simp at h
 | x::xs,kind,fr,p,h,y,hy=>by
  rw [Cw] at h;simp only [Bool.and_eq_true] at h;rcases List.mem_cons.1 hy with rfl|hy
  ·have:=h.1.1.2;simp only [p4,mJ,Bool.and_eq_true] at this;exact this.1.1.1
  ·exact Ju h.2 y hy
def Jv:∀ {l:List ae} {kind:Int} {bd:Bool},kA l kind bd=true->∀ y∈l,isName y.ag=true
 | [],_,_,_,y,h=>by simp at h
 | x::xs,kind,bd,h,y,hy=>by
  rw [qi] at h;simp only [Bool.and_eq_true] at h;rcases List.mem_cons.1 hy with rfl|hy
  ·have:=h.1.1;simp only [gq,j9,mJ,Bool.and_eq_true] at this;exact this.1.1.1.1.1.1.1.1
  ·exact Jv h.2 y hy
def DS(x:ae)(xs:List ae):aW (x::xs)=max (1+aW x.af) (aW xs):=by cases x;rw [aW];rfl
def N0{a b:List ae}(h:bT (nmS (a++b))=true):bT (nmS a)=true/\bT (nmS b)=true:=by rw [kr,nmS,List.map_append,List.nodup_append] at h;rw [kr,kr];exact ⟨h.1,h.2.1⟩
def tF:∀ (n:Nat) (l:List ae) (kind:Int) (bd:Bool) (p:Nat),SizeOf.sizeOf l<n->p<=8->bT (nmS (dk l))=true->((kA l kind bd=true/\(aW l+p<=9))↔kS l kind (!bd) p=true)
 | 0,l,_,_,_,h=>absurd h (Nat.not_lt_zero _)
 | n+1,[],_,_,p,_=>by simp [kA,kS,aW];omega
 | n+1,x::xs,kind,bd,p,hs=>by
  intro hp hd
  have hsz:SizeOf.sizeOf x.af<n/\SizeOf.sizeOf xs<n:=by
   have:=ae.du (l:=x::xs) (x:=x) QC;simp only [List.cons.sizeOf_spec] at *;omega
  rw [iP] at hd;have hd2:=N0 hd
  have ih1:=tF n xs kind bd p hsz.2 hp hd2.2;rw [qi,Cw,DS];simp only [Bool.and_eq_true]
  have hK:(lp x.af x.aj=true/\kA x.af x.aj (bd || !x.aG.isEmpty || decide (x.aj=6))=true)/\aW x.af+(p+1)<=9↔((bT (nmS x.af)=true/\kS x.af x.aj (!bd && x.aG.isEmpty && !decide (x.aj=6)) (p+1)=true)/\bT (nmS (dk x.af))=true)/\(decide (p+1<=8) || x.af.isEmpty)=true:=by
   have hq:lp x.af x.aj=true↔bT (nmS x.af)=true/\bT (nmS (dk x.af))=true:=by
    simp only [lp,Bool.and_eq_true,Bool.or_eq_true,decide_eq_true_eq];constructor
    ·rintro ⟨a,b⟩;refine ⟨a,?_⟩;by_cases hk:x.aj=5\/x.aj=6
     ·have:=hd2.1;rw [if_neg (by rcases hk with h|h<;>rw [h]<;>decide),if_pos hk] at this;exact this
     ·rcases b with b|b
      ·exact absurd b hk
      ·exact b
    ·rintro ⟨a,b⟩;exact ⟨a,.inr b⟩
   rw [hq,show (!bd && x.aG.isEmpty && !decide (x.aj=6))=!(bd || !x.aG.isEmpty || decide (x.aj=6)) by cases bd<;>cases x.aG.isEmpty<;>simp]
   cases hx:x.af with
   | nil=>simp [kA,kS,aW,dk];omega
   | cons y ys =>
    by_cases h8:p+1<=8
    ·rw [show (decide (p+1<=8) || (y::ys).isEmpty)=true by simp;omega];rw [<- hx];constructor
     ·rintro ⟨⟨⟨a,b⟩,c⟩,d⟩;exact ⟨⟨⟨a,(tF n x.af x.aj _ (p+1) hsz.1 h8 b).1 ⟨c,d⟩⟩,b⟩,rfl⟩
     ·rintro ⟨⟨⟨a,b⟩,c⟩,d⟩;have:=(tF n x.af x.aj _ (p+1) hsz.1 h8 c).2 b;exact ⟨⟨⟨a,c⟩,this.1⟩,this.2⟩
    ·constructor
     ·rintro ⟨_,d⟩;rw [DS] at d;omega
     ·rintro ⟨_,d⟩;simp at d;omega
  constructor
  ·rintro ⟨⟨⟨h1,h2⟩,h3⟩,h4⟩;have h5:=hK.1 ⟨h2,Ir⟩;rw [MP h5.1.1.1 (Jv h2.2),Bool.and_eq_true] at h1;exact ⟨⟨h1,h5⟩,ih1.1 ⟨h3,Ir⟩⟩
  ·rintro ⟨⟨h1,h2⟩,h3⟩;have h5:=hK.2 h2
   have h6:=ih1.2 h3;refine ⟨⟨⟨?_,h5.1⟩,h6.1⟩,Ir⟩;rw [MP h2.1.1.1 (Ju h2.1.1.2),Bool.and_eq_true];exact h1
def M5(l:List ae):(decide (aW l<=8) && kR l 0 false)=kT l 0 true 1:=by
 rw [Bool.eq_iff_iff];simp only [kR,kT,lp,Bool.and_eq_true,Bool.or_eq_true,decide_eq_true_eq];constructor
 ·rintro ⟨h1,⟨h2,h3⟩,h4⟩;have h3:bT (nmS (dk l))=true:=by rcases h3 with (h|h)|h<;>first|exact h|(exact absurd h baa)
  exact ⟨⟨⟨h2,(tF _ l 0 false 1 (Nat.lt_succ_self _) Ir h3).1 ⟨h4,Ir⟩⟩,h3⟩,.inl Ir⟩
 ·rintro ⟨⟨⟨h1,h2⟩,h3⟩,h4⟩;have:=(tF _ l 0 false 1 (Nat.lt_succ_self _) Ir h3).2 h2;exact ⟨Ir,⟨h1,.inr h3⟩,this.1⟩
def Ed(l:List ae):fX l=(decide (0<=eU l (60 - l.length)) && kT l 0 true 1):=by rw [SQ,fX,Bool.and_assoc,M5]
def Je{l:List ae}{k:Nat}(hk:k<l.length):idx (nmP (at_ l k).ag) l=k↔cont ((nmS l).take k) (at_ (nmS l) k)=false:=by
 have e:at_ (nmS l) k=(at_ l k).ag:=qp hk;rw [e];constructor
 ·intro h;rw [Bool.eq_false_iff];intro hc;rw [oC] at hc;obtain ⟨i,hi,e2⟩:=List.getElem_of_mem hc;rw [List.length_take] at hi;have hi':i<l.length:=by omega
  rw [List.getElem_take,l9,nmS,qp hi'] at e2;have:=qM (p:=nmP (at_ l k).ag) hi' (by simp [nmP,e2]);omega
 ·intro h;refine gV hk (fun y hy=>?_) (by simp [nmP]);rw [Bool.eq_false_iff] at h ⊢;intro hc;apply h;rw [oC,nmS,<- List.map_take,List.mem_map];exact ⟨y,hy,by simpa [nmP] using hc⟩
def MI{l:List ae}{k:Nat}(hk:k<l.length)(h:¬ idx (nmP (at_ l k).ag) l=k):bT (nmS l)=false:=by refine dL (j:=k) (by rw [nmS,List.length_map];exact hk) ?_;rw [Je hk] at h;simpa using h
def KP{l:List ae}{k:Nat}(h:k<l.length)(kind:Int)(bd:Bool):kA (l.drop k) kind bd=(gq kind bd (at_ l k) && (lp (at_ l k).af (at_ l k).aj && kA (at_ l k).af (at_ l k).aj (bd || !(at_ l k).aG.isEmpty || decide ((at_ l k).aj=6))) && kA (l.drop (k+1)) kind bd):=by rw [bq h,qi]
def Yf{l:List ae}{k:Nat}(h:k<l.length)(kind:Int)(fr:Bool)(p:Nat):kS (l.drop k) kind fr p=((decide (kind=5) == decide ((at_ l k).aj=6)) && p4 (at_ l k) fr && kT (at_ l k).af (at_ l k).aj (fr && (at_ l k).aG.isEmpty && !decide ((at_ l k).aj=6)) (p+1) && kS (l.drop (k+1)) kind fr p):=by rw [bq h,Cw];rfl
end
section
def wtS:List ae->Nat
 | []=>0
 | .mk _ _ _ _ _ e _ _ _ _ _ _ m n ks::xs=>1+e.length+dw m+dw n+wtS ks+wtS xs
def Ov(x:ae)(xs:List ae):wtS (x::xs)=1+x.aV.length+dw x.aG+dw x.bO+wtS x.af+wtS xs:=by cases x;rw [wtS];rfl
def j7:∀ (l:List ae),aH l<=wtS l
 | []=>by simp [aH]
 | .mk _ _ _ _ _ _ _ _ _ _ _ _ _ _ ks::xs=>by have:=j7 ks;have:=j7 xs;simp only [aH,wtS];omega
def x8:∀ (l:List ae),aW l<=wtS l
 | []=>by simp [aW]
 | .mk _ _ _ _ _ _ _ _ _ _ _ _ _ _ ks::xs=>by have:=x8 ks;have:=x8 xs;simp only [aW,wtS];omega
def BJ:∀ {l:List ae} {x:ae},x∈l->1+x.aV.length+dw x.aG+dw x.bO+wtS x.af<=wtS l
 | y::l,x,h=>by
  rw [Ov];rcases List.mem_cons.1 h with rfl|h
  ·omega
  ·have:=BJ h;omega
def CP:∀ (l:List aB) (r:Int),0<=r->0<=iz l r->iz l r+dw l<=r+1
 | [],r,_,_=>by simp [iz,dw];omega
 | .mk op num tx p ks::xs,r,h0,h=>by
  rw [iz] at h ⊢;obtain ⟨h1,e1⟩:=gb h;rw [e1] at h ⊢
  have hx:cI (.mk op num tx p ks) r+dG (.mk op num tx p ks)<=r+1:=by
   rw [cI] at h1 ⊢;obtain ⟨h2,e2⟩:=gb h1;rw [e2] at h1 ⊢;obtain ⟨h3,e3⟩:=gb h1;rw [e3] at h1 ⊢;obtain ⟨h4,e4⟩:=gb h1;rw [e4] at h1 ⊢;simp only [id] at h1 h4 ⊢;obtain ⟨h5,e5⟩:=gb h4;rw [e5] at h1 ⊢;have h6:=CP ks _ h5 h1
   have h7:=rr p (aI tx r) h2
   have h8:=bE tx r h0;rw [dG]
   cases ks with
   | nil=>simp only [dw,iz,List.length_nil] at *;omega
   | cons y ys=>simp only [List.length_cons] at *;omega
  have h9:=CP xs _ h1 h
  have h10:=sD xs _ h1
  have h11:=fN (.mk op num tx p ks) r h0;rw [dw];rcases Nat.le_total (dG (.mk op num tx p ks)) (dw xs) with q|q
  ·rw [Nat.max_eq_right q];omega
  ·rw [Nat.max_eq_left q];omega
def JS{l:List aB}{r:Int}(h0:0<=r)(h:0<=aQ cI l r):aQ cI l r+dw l<=r:=by
 rcases Int.lt_or_le (r - l.length) 0 with h2|h2
 ·rw [iy h2] at h;omega
 ·rw [iw h2,<- sE] at h ⊢;have:=CP l _ h2 h
  cases l with
  | nil=>simp only [dw,iz,List.length_nil] at *;omega
  | cons y ys=>simp only [List.length_cons] at *;omega
def ET:∀ (l:List ae) (r:Int),0<=r->0<=ia l r->ia l r+wtS l<=r+l.length
 | [],r,_,_=>by simp [ia,wtS]
 | .mk k a b c d e f g hh i j lx m n ks::xs,r,h0,h=>by
  rw [ia] at h ⊢;obtain ⟨h1,e1⟩:=gb h;rw [e1] at h ⊢
  have hx:bY (.mk k a b c d e f g hh i j lx m n ks) r+(e.length+dw m+dw n+wtS ks:Nat)<=r:=by
   rw [bY] at h1 ⊢;obtain ⟨g0,e0⟩:=gb h1;rw [e0] at h1 ⊢;obtain ⟨g1,e1⟩:=gb h1;rw [e1] at h1 ⊢;obtain ⟨g2,e2⟩:=gb h1;rw [e2] at h1 ⊢;obtain ⟨g3,e3⟩:=gb h1;rw [e3] at h1 ⊢;obtain ⟨g4,e4⟩:=gb h1;rw [e4] at h1 ⊢;obtain ⟨g5,e5⟩:=gb h1;rw [e5] at h1 ⊢;obtain ⟨g6,e6⟩:=gb h1;rw [e6] at h1 ⊢;obtain ⟨g7,e7⟩:=gb h1;rw [e7] at h1 ⊢;simp only [id] at h1 g7 ⊢;obtain ⟨g8,e8⟩:=gb g7;rw [e8] at h1 ⊢;have q0:=bE a r h0
   have q1:=rq b _ g0
   have q2:=bu aI bE c _ g1
   have q3:=bu aI bE d _ g2
   have q5:=JS g4 g5
   have q6:=JS g5 g6
   have q7:=ET ks _ g8 h1;rw [show aI e (aQ aI d (aQ aI c (eE b (aI a r))))=aQ aI d (aQ aI c (eE b (aI a r))) - e.length from rfl] at *;omega
  have:=ET xs _ h1 h;rw [wtS,List.length_cons];omega
def Rn{l:List ae}{r:Int}(h0:0<=r)(h:0<=aQ bY l r):(wtS l:Int)<=r:=by
 rcases Int.lt_or_le (r - l.length) 0 with h2|h2
 ·rw [iy h2] at h;omega
 ·rw [iw h2,<- o9] at h;have:=ET l _ h2 h;omega
end
section
def ndP(n:Str)(x:ah):Bool:=x.ag == n
def kyB(n:ae)(x:ah):Bool:=!decide (n.aj=2) || n.aE.all (fun k=>decide (0<=idx (ndP k) x.af))
def kyL(n:ae)(x:ah):List Str:=if n.aj=2 then (if kyB n x=true then n.aE.map (fun k=>(at_ x.af (idx (ndP k) x.af).toNat).ax) else []) else [x.ax]
def ed:List Str->List Str->Bool
 | [],[]=>false
 | [],_::_=>true
 | _::_,[]=>false
 | x::xs,y::ys=>if x=y then ed xs ys else Op.bytesLess x y
def nR(a b:Str):Int:=if Op.bytesLess a b=true then -1 else if a=b then 0 else 1
def cmpL:List Str->List Str->Int
 | [],[]=>0
 | [],_::_=>-1
 | _::_,[]=>1
 | x::xs,y::ys=>if nR x y=0 then cmpL xs ys else nR x y
def rG:∀ a:Str,Op.bytesLess a a=false
 | []=>by simp [Op.bytesLess]
 | x::xs=>by simp [Op.bytesLess,rG xs]
def xj(a b:Str):nR a b=0↔a=b:=by
 unfold nR;constructor
 ·intro h;split at h
  ·omega
  ·split at h
   ·assumption
   ·omega
 ·rintro rfl;simp [rG]
def Hw:∀ a b:List Str,ed a b=decide (cmpL a b<0)
 | [],[]=>by simp [ed,cmpL]
 | [],_::_=>by simp [ed,cmpL]
 | _::_,[]=>by simp [ed,cmpL]
 | x::xs,y::ys=>by
  rw [ed,cmpL];by_cases h:x=y
  ·rw [if_pos h,if_pos ((xj _ _).2 h),Hw xs ys]
  ·rw [if_neg h,if_neg (fun c=>h ((xj _ _).1 c)),nR];cases Op.bytesLess x y<;>simp [h]
def fG(k:Int):Bool:=decide (k=2) || decide (k=4)
def oh(n:ae)(a b:ah):Int:=if fG n.aj=true then cmpL (kyL n a) (kyL n b) else 0
def lR(d:List ae)(a b:ah):Bool :=
 if idx (nmP a.ag) d=idx (nmP b.ag) d/\fG (at_ d (idx (nmP b.ag) d).toNat).aj=true then ed (kyL (at_ d (idx (nmP b.ag) d).toNat) a) (kyL (at_ d (idx (nmP b.ag) d).toNat) b) else decide (idx (nmP a.ag) d<idx (nmP b.ag) d)
def vv(d:List ae):Option ah->ah->Bool
 | none,_=>true
 | some a,b=>lR d a b
def okL(d:List ae):Option ah->List ah->Bool
 | _,[]=>true
 | p,.mk nm v ks::xs =>
  decide (0<=idx (nmP nm) d) &&
  (let n:=at_ d (idx (nmP nm) d).toNat
   if n.aj=3\/n.aj=4 then ks.isEmpty && isVal n.fType v
   else if n.aj=2 then kyB n (.mk nm v ks) && v.isEmpty && okL (dk n.af) none ks
   else v.isEmpty && (n.aZ || !ks.isEmpty) && okL (dk n.af) none ks) &&
  vv d p (.mk nm v ks) && okL d (some (.mk nm v ks)) xs
def okN(n:ae)(x:ah):Bool :=
 if n.aj=3\/n.aj=4 then x.af.isEmpty && isVal n.fType x.ax
 else if n.aj=2 then kyB n x && x.ax.isEmpty && okL (dk n.af) none x.af
 else x.ax.isEmpty && (n.aZ || !x.af.isEmpty) && okL (dk n.af) none x.af
def uF(d:List ae)(p:Option ah)(x:ah)(xs:List ah):okL d p (x::xs)=(decide (0<=idx (nmP x.ag) d) && okN (at_ d (idx (nmP x.ag) d).toNat) x && vv d p x && okL d (some x) xs):=by cases x;rw [okL];rfl
def prv(l:List ah):Nat->Option ah
 | 0=>none
 | k+1=>some (at_ l k)
def qF{d:List ae}{l:List ah}{k:Nat}(h:k<l.length):okL d (prv l k) (l.drop k)=(decide (0<=idx (nmP (at_ l k).ag) d) && okN (at_ d (idx (nmP (at_ l k).ag) d).toNat) (at_ l k) && vv d (prv l k) (at_ l k) && okL d (prv l (k+1)) (l.drop (k+1))):=by rw [bq h,uF];rfl
def il(d:List ae)(l:List ah)(k:Nat):Int:=match prv l k with
 | none=>-1
 | some a=>idx (nmP a.ag) d
def bV(s:List ae)(l:List ah):Bool:=fX s && decide (cnt l<=120) && okL (dk s) none l
def tO:∀ (l:List ae),∀ y∈dk l,cg y.aj=true
 | [],y,h=>by simp [dk] at h
 | .mk k a b c d e f g h i j l m n ks::xs,y,hy=>by
  rw [dk,List.mem_append] at hy;rcases hy with hy|hy
  ·split at hy
   ·rename_i h1;rw [List.mem_singleton] at hy;subst hy;exact h1
   ·split at hy
    ·exact tO ks y hy
    ·simp at hy
  ·exact tO xs y hy
def u6:∀ (l:List ae),∀ y∈dk l,1+y.aV.length+wtS y.af<=wtS l
 | [],y,h=>by simp [dk] at h
 | .mk k a b c d e f g h i j l m n ks::xs,y,hy=>by
  rw [dk,List.mem_append] at hy;rcases hy with hy|hy
  ·split at hy
   ·rename_i h1;rw [List.mem_singleton] at hy;subst hy;simp only [wtS,ae.af,ae.aV];omega
   ·split at hy
    ·have:=u6 ks y hy;simp only [wtS];omega
    ·simp at hy
  ·have:=u6 xs y hy;simp only [wtS];omega
def jY(d:List ae)(n:Str):idx (fun x=>x == n) (nmS d)=idx (nmP n) d:=by rw [nmS,<- Jx ae.ag (fun x=>x == n)];rfl
end
end Go.Dt
