/- Part of a proof. -/
import Derived.Test.YtpelkkfkecfmbaaGreatDoorH18
set_option linter.all false
namespace Go.Dt
open Go Go.Ab
section
def ez:Nat->List ae->List ah->List ah
 | 0,_,_=>[]
 | f+1,s,l=>(List.range (dk s).length).flatMap fun i =>
  let n:=at_ (dk s) i
  let fd:=l.filter (ndP n.ag)
  if n.aj=3 then (if (fd.isEmpty && n.bS)=true then [.mk n.ag n.aV []] else fd)
  else if n.aj=1\/n.aj=2 then
   (if fd.isEmpty=true then
    (if n.aj=1/\n.aZ=false/\n.aG.isEmpty=true/\at_ (dkF s false) i=false then
     (if (ez f n.af []).isEmpty=true then [] else [.mk n.ag [] (ez f n.af [])]) else [])
   else fd.map fun x=>.mk x.ag x.ax (ez f n.af x.af))
  else fd
def lJ(s:List ae)(l:List ah):List ah:=ez (aW s+1) s l
structure bB where
 EF:Int
 aF:List Str
 Bu:List Int
instance:Inhabited bB:=⟨⟨0,[],[]⟩⟩
section
variable (fmt : Int -> Str) (t : List ah)
def flt(b:Bool)(c:Int)(names:List Str)(at0:List Int):List bB:=if b=true then [⟨c,names,at0⟩] else []
def ij(n:ae)(names:List Str)(at0:List Int)(x:ah):List bB :=
 flt (!ck fmt t at0 n.aG) 6 names at0++flt (!ck fmt t at0 n.bO) 7 names at0 ++
 flt (decide (n.fType.aj=5) && !((match kV n.fType.az with
  | some p=>gm t at0 p
  | none=>gm t at0 ⟨false,0,[]⟩).contains x.ax)) 8 names at0
def iC(n:ae)(a b:ah):Bool:=n.ay.all (fun u=>decide (0<=idx (ndP u) a.af) && decide (0<=idx (ndP u) b.af) && (at_ a.af (idx (ndP u) a.af).toNat).ax == (at_ b.af (idx (ndP u) b.af).toNat).ax) && !n.ay.isEmpty
def mR(s:List ae)(l:List ah):Bool:=l.any fun x=>(nmS (dk s)).contains x.ag
def cJ(nm:Str)(l:List ah):List Nat:=(List.range l.length).filter fun i=>ndP nm (at_ l i)
def gu:Nat->List ae->List Str->List Int->List ah->List bB
 | 0,_,_,_,_=>[]
 | f+1,s,names,at0,l=>s.flatMap fun n =>
  if n.aj=5 then
   let c:=(n.af.filter fun k=>mR k.af l).length
   let w:=ck fmt t at0 n.aG
   flt (decide (0<c) && !w) 6 names at0++flt (decide (1<c)) 3 names at0++flt (decide (c=0) && n.bD && w) 2 names at0 ++
   n.af.flatMap fun k=>if mR k.af l=true then flt (!ck fmt t at0 k.aG) 6 names at0++gu f k.af names at0 l else []
  else
   let nm:=names++[n.ag]
   let ps:=cJ n.ag l
   let gone:=ck fmt t (at0++[-1]) n.aG
   (if n.aj=3 then flt (decide (ps.length=0) && n.bD && gone) 2 nm at0
    else if n.aj=2\/n.aj=4 then flt (decide ((ps.length:Int)<n.eJ) && gone || !decide (n.dU=0) && decide (n.dU<(ps.length:Int))) 4 nm at0
    else if n.aj=1 then (if (decide (ps.length=0) && !n.aZ && gone)=true then gu f n.af nm (at0++[-1]) [] else [])
    else []) ++
   (List.range ps.length).flatMap fun k =>
    let i:=at_ ps k
    let here:=at0++[(i:Int)]
    ij fmt t n nm here (at_ l i) ++
    flt (decide (n.aj=2) && (ps.take k).any fun j=>iC n (at_ l j) (at_ l i)) 5 nm here ++
    (if n.aj=1\/n.aj=2 then gu f n.af nm here (at_ l i).af else [])
end
def uS(fmt:Int->Str)(s:List ae)(l:List ah):List bB :=
 if (iF s).1=0/\bV s l=true then gu fmt (lJ s l) (aW s+1) s [] [] (lJ s l) else [⟨1,[],[]⟩]
def nW(fmt:Int->Str)(s:List ae)(l:List ah):Bool:=(uS fmt s l).isEmpty
end
section
def Qo:List Str->List ae->ah->List ah
 | [],_,x=>[x]
 | c::cs,s,x =>
  if x.ag=c then
   (if cs=[] then [x] else
    (let n:=at_ (dk s) (idx (nmP x.ag) (dk s)).toNat
     if n.aj=1\/n.aj=2 then
     (let kids:=x.af.flatMap fun k=>if cont n.aE k.ag=true then [k] else Qo cs n.af k
      if n.aj=1/\n.aZ=false/\kids=[] then [] else [.mk x.ag [] kids])
     else []))
  else []
def jL:List Str->List ae->List Str->ah->List ah
 | [],_,_,x=>[x]
 | c::cs,d,keys,x =>
  let n:=at_ d (idx (nmP x.ag) d).toNat
  if ¬ n.ag=c\/(n.aj=3\/n.aj=4)/\¬ cs=[] then (if cont keys n.ag=true then [x] else [])
  else (let kids:=x.af.flatMap (jL cs (dk n.af) n.aE)
   if ¬ n.aj=1\/n.aZ=true\/¬ kids=[] then [.mk n.ag x.ax kids] else [])
def okX(d:List ae)(x:ah):Prop:=0<=idx (nmP x.ag) d/\okN (at_ d (idx (nmP x.ag) d).toNat) x=true
def om:∀ {l:List ah} {d:List ae} {p:Option ah},okL d p l=true->∀ x∈l,okX d x
 | y::l,d,p,h,x,hx=>by
  rw [uF] at h;simp only [Bool.and_eq_true,decide_eq_true_eq] at h;rcases List.mem_cons.1 hx with rfl|hx
  ·exact ⟨h.1.1.1,h.1.1.2⟩
  ·exact om h.2 x hx
def gdS(s:List ae):Prop:=bT (nmS (dk s))=true/\∃ kind bd,kA s kind bd=true
def Bx:∀ {l:List ae} {m:ae},m∈l->cg m.aj=true->m∈dk l
 | x::xs,m,h,hk=>by
  rw [iP,List.mem_append];rcases List.mem_cons.1 h with rfl|h
  ·rw [if_pos hk];simp
  ·exact .inr (Bx h hk)
def AY{d:List ae}{x:ah}(h:okX d x):(at_ d (idx (nmP x.ag) d).toNat).ag=x.ag/\at_ d (idx (nmP x.ag) d).toNat∈d:=by obtain ⟨h1,h2,h3⟩:=dF h.1;simp only [nmP,beq_iff_eq] at h2;exact ⟨h2,h3⟩
def Pf{n:ae}{x:ah}(h:okN n x=true)(hk:¬ (n.aj=3\/n.aj=4)):x.ax=[]/\okL (dk n.af) none x.af=true/\(¬ n.aj=2->n.aZ=true\/¬ x.af=[]):=by
 rw [okN,if_neg hk] at h;split at h
 ·rename_i h2;simp only [Bool.and_eq_true] at h;exact ⟨List.isEmpty_iff.1 h.1.2,h.2,fun c=>absurd h2 c⟩
 ·simp only [Bool.and_eq_true,Bool.or_eq_true,Bool.not_eq_true'] at h;refine ⟨List.isEmpty_iff.1 h.1.1,h.2,fun _=>?_⟩;rcases h.1.2 with c|c
  ·exact .inl c
  ·refine .inr fun e=>?_;rw [e] at c;simp at c
def Pc{n:ae}{x:ah}(h:okN n x=true)(hk:n.aj=3\/n.aj=4):x.af=[]:=by rw [okN,if_pos hk] at h;simp only [Bool.and_eq_true] at h;exact List.isEmpty_iff.1 h.1
end
end Go.Dt
namespace Go.Dt
open Go.Ab
section
def HE:∀ (x y:Str),(Op.bytesLess x y || x == y)=!Op.bytesLess y x
 | [],[]=>by simp [Op.bytesLess]
 | [],_::_=>by simp [Op.bytesLess]
 | _::_,[]=>by simp [Op.bytesLess]
 | a::x,b::y=>by
  have ih:=HE x y;simp only [Op.bytesLess];by_cases e:a=b
  ·subst e;have:decide (a<a)=false:=by simp
   simp only [this,beq_self_eq_true,Bool.true_and,Bool.false_or,<- ih];cases Op.bytesLess x y<;>simp
  ·have e':¬ b=a:=fun h=>e h.symm
   have e1:(a == b)=false:=by simpa using e
   have e2:(b == a)=false:=by simpa using e'
   have e3:(a::x == b::y)=false:=by simp [e]
   rw [e1,e2,e3,Bool.false_and,Bool.false_and,Bool.or_false,Bool.or_false,Bool.or_false];by_cases h:a<b
   ·have h2:¬ b<a:=fun h3=>by
     have h4:=UInt8.lt_iff_toNat_lt.1 h
     have h5:=UInt8.lt_iff_toNat_lt.1 h3;omega
    simp [h,h2]
   ·have h2:b<a:=by
     have h4:¬ a.toNat<b.toNat:=fun h5=>h (UInt8.lt_iff_toNat_lt.2 h5)
     have h5:¬ a.toNat=b.toNat:=fun h6=>e (UInt8.toNat_inj.1 h6);exact UInt8.lt_iff_toNat_lt.2 Ir
    simp [h,h2]
def tmI(l:List eS)(n:Str):Int:=idx (fun x=>x.ag == n) l
def svc(T:List eS)(x:iH):Bool:=(isName x.ag && decide (0<=tmI T x.rQ)) && (names x.qT && bT x.qT)
def Z5(T:List eS)(S:List iH)(j:Nat):Bool:=svc T (at_ S j) && (j == 0 || Op.bytesLess (at_ S (j - 1)).ag (at_ S j).ag)
def adl(ip:Str->Bool)(T:List eS)(S:List iH):Bool:=((cS (fun j=>KQ ip (at_ T j)) T.length && bT (T.map eS.ag)) && (decide (T.length<=8) && decide (S.length<=8))) && cS (Z5 T S) S.length
end
section
end
section
theorem gB{α:Type}[Inhabited α]{l:List α}{i:Nat}(h:i<l.length):l.take (i+1)=l.take i++[at_ l i]:=by rw [List.take_succ_eq_append_getElem h];unfold at_;rw [List.getElem?_eq_getElem h];rfl
end
end Go.Dt
namespace Go.Dt
def adL(T:List eS):Prop:=∀ t∈T,wt t.xZ<=1048576/\t.ma.length<=1048576
end Go.Dt
namespace Go.Dt
open Go Go.Ab
section
def Qp(a b:Str):-1<=nR a b/\nR a b<=1:=by unfold nR;repeat' split<;>omega
def J3{a b:List Str}{i:Nat}(h1:i<a.length)(h2:i<b.length):cmpL (a.drop i) (b.drop i)=if nR (at_ a i) (at_ b i)=0 then cmpL (a.drop (i+1)) (b.drop (i+1)) else nR (at_ a i) (at_ b i):=by rw [bq h1,bq h2,cmpL]
def WE{a b:List Str}{i:Nat}(h1:i<a.length)(h2:¬ i<b.length):cmpL (a.drop i) (b.drop i)=1:=by rw [bq h1,fY h2,cmpL]
def Od{a b:List Str}{i:Nat}(h1:¬ i<a.length):cmpL (a.drop i) (b.drop i)=if i<b.length then -1 else 0:=by
 rw [fY h1];split
 ·rw [bq yG,cmpL]
 ·rw [fY yG,cmpL]
def Gh{a b:List Str}{i:Nat}(h1:i<a.length)(h2:i<b.length):ed (a.drop i) (b.drop i)=if at_ a i=at_ b i then ed (a.drop (i+1)) (b.drop (i+1)) else Op.bytesLess (at_ a i) (at_ b i):=by rw [bq h1,bq h2,ed]
def SP{a b:List Str}{i:Nat}(h0:i<=a.length)(h0':i<=b.length)(h1:¬ (i<a.length/\i<b.length)):ed (a.drop i) (b.drop i)=decide (a.length<b.length):=by
 by_cases h:i<a.length
 ·have:¬ i<b.length:=fun c=>h1 ⟨h,c⟩;rw [bq h,fY this,ed,eq_comm,decide_eq_false_iff_not];omega
 ·rw [fY h];by_cases h2:i<b.length
  ·rw [bq h2,ed,eq_comm,decide_eq_true_eq];omega
  ·rw [fY h2,ed,eq_comm,decide_eq_false_iff_not];omega
def kyT(x:ah)(k:Str):Str:=(at_ x.af (idx (ndP k) x.af).toNat).ax
def ox(x:ah)(k:Str):Bool:=decide (0<=idx (ndP k) x.af)
def tE{n:ae}{x:ah}(h:n.aj=2)(hk:n.aE.all (ox x)=true):kyL n x=n.aE.map (kyT x)/\kyB n x=true:=by
 have e:kyB n x=true:=by rw [kyB,h];exact hk
 refine ⟨?_,e⟩;rw [kyL,if_pos h,if_pos e];rfl
def Cr{n:ae}{x:ah}(h:n.aj=2)(hk:n.aE.all (ox x)=false):kyL n x=[]/\kyB n x=false:=by
 have e:kyB n x=false:=by rw [kyB,h];exact hk
 refine ⟨?_,e⟩;rw [kyL,if_pos h,if_neg (by rw [e];simp)]
def oW{n:ae}{x:ah}(h:¬ n.aj=2):kyL n x=[x.ax]/\kyB n x=true:=by refine ⟨by rw [kyL,if_neg h],?_⟩;rw [kyB];simp [h]
section
variable {d : List ae} {l : List ah} {k : Nat}
def HG(h0:0<=idx (nmP (at_ l k).ag) d):vv d (prv l k) (at_ l k)=(decide (il d l k<idx (nmP (at_ l k).ag) d) || decide (idx (nmP (at_ l k).ag) d=il d l k) && decide (oh (at_ d (idx (nmP (at_ l k).ag) d).toNat) (at_ l ((k:Int) - 1).toNat) (at_ l k)<0)):=by
 cases k with
 | zero=>rw [show il d l 0 = -1 from rfl,show vv d (prv l 0) (at_ l 0)=true from rfl,show decide (-1<idx (nmP (at_ l 0).ag) d)=true by simp;omega];rfl
 | succ k =>
  rw [show (((k+1:Nat):Int) - 1).toNat=k by omega,show il d l (k+1)=idx (nmP (at_ l k).ag) d from rfl,show vv d (prv l (k+1)) (at_ l (k+1))=lR d (at_ l k) (at_ l (k+1)) from rfl,lR,oh];by_cases e:idx (nmP (at_ l k).ag) d=idx (nmP (at_ l (k+1)).ag) d
  ·by_cases r:fG (at_ d (idx (nmP (at_ l (k+1)).ag) d).toNat).aj=true
   ·rw [if_pos ⟨e,r⟩,if_pos r,Hw,e];simp
   ·rw [if_neg (fun c=>r c.2),if_neg r,e];simp
  ·rw [if_neg (fun c=>e c.1),show decide (idx (nmP (at_ l (k+1)).ag) d=idx (nmP (at_ l k).ag) d)=false by simp;exact fun c=>e c.symm];simp
def Sx(hk:k<l.length)(h:idx (nmP (at_ l k).ag) d<0\/idx (nmP (at_ l k).ag) d<il d l k):okL d (prv l k) (l.drop k)=false:=by
 rw [qF hk];by_cases h0:0<=idx (nmP (at_ l k).ag) d
 ·rw [HG h0];have h1:idx (nmP (at_ l k).ag) d<il d l k:=by omega
  rw [show decide (il d l k<idx (nmP (at_ l k).ag) d)=false by simp;omega,show decide (idx (nmP (at_ l k).ag) d=il d l k)=false by simp;omega];simp
 ·rw [show decide (0<=idx (nmP (at_ l k).ag) d)=false by simp;omega];rfl
def Ph(hk:k<l.length)(h0:0<=idx (nmP (at_ l k).ag) d)(h:okN (at_ d (idx (nmP (at_ l k).ag) d).toNat) (at_ l k)=false\/idx (nmP (at_ l k).ag) d=il d l k/\0<=oh (at_ d (idx (nmP (at_ l k).ag) d).toNat) (at_ l ((k:Int) - 1).toNat) (at_ l k)):okL d (prv l k) (l.drop k)=false:=by
 rw [qF hk,HG h0];rcases h with h|⟨h1,h2⟩
 ·rw [h];simp
 ·rw [show decide (il d l k<idx (nmP (at_ l k).ag) d)=false by simp;omega,show decide (oh (at_ d (idx (nmP (at_ l k).ag) d).toNat) (at_ l ((k:Int) - 1).toNat) (at_ l k)<0)=false by rw [decide_eq_false_iff_not];omega];simp
def Pg(hk:k<l.length)(h0:0<=idx (nmP (at_ l k).ag) d)(h1:il d l k<=idx (nmP (at_ l k).ag) d)(h2:okN (at_ d (idx (nmP (at_ l k).ag) d).toNat) (at_ l k)=true)(h3:idx (nmP (at_ l k).ag) d=il d l k->oh (at_ d (idx (nmP (at_ l k).ag) d).toNat) (at_ l ((k:Int) - 1).toNat) (at_ l k)<0):okL d (prv l k) (l.drop k)=okL d (prv l (k+1)) (l.drop (k+1)):=by
 rw [qF hk,HG h0,h2,show decide (0<=idx (nmP (at_ l k).ag) d)=true by simpa using h0];by_cases e:idx (nmP (at_ l k).ag) d=il d l k
 ·rw [show decide (oh (at_ d (idx (nmP (at_ l k).ag) d).toNat) (at_ l ((k:Int) - 1).toNat) (at_ l k)<0)=true by rw [decide_eq_true_eq];exact h3 e,show decide (idx (nmP (at_ l k).ag) d=il d l k)=true by simpa using e];simp
 ·rw [show decide (il d l k<idx (nmP (at_ l k).ag) d)=true by rw [decide_eq_true_eq];omega];simp
def Py:-1<=il d l k:=by
 cases k with
 | zero=>exact Int.le_refl _
 | succ k=>exact oY _ _
def Px:il d l k<d.length:=by
 cases k with
 | zero=>rw [show il d l 0 = -1 from rfl];omega
 | succ k=>exact eO _
end
end
section
def aeO(n:ae)(cs:List Str)(k:ah):List ah:=if cont n.aE k.ag=true then [k] else Qo cs n.af k
section
variable {s : List ae} {x : ah} {c : Str} {cs : List Str}
end
end
section
def smT:List ah->List ah->Bool
 | [],[]=>true
 | [],_::_=>false
 | .mk _ _ _::_,[]=>false
 | .mk n v ks::xs,y::ys=>n == y.ag && v == y.ax && smT ks y.af && smT xs ys
def skB(n:ae)(a b:ah):Bool:=!fG n.aj || (kyB n a && kyB n b && (kyL n a == kyL n b))
def fiP(n:ae)(x y:ah):Bool:=y.ag == n.ag && decide (oh n x y=0) && skB n x y
def fsP(n:ae)(v:Str)(key:List Str)(y:ah):Bool:=y.ag == n.ag && !(decide (n.aj=4) && !(y.ax == v)) && (!decide (n.aj=2) || !ed (kyL n y) key && !ed key (kyL n y))
def fnd(n:ae)(l:List ah)(x:ah):Int:=idx (fiP n x) l
def DH{α:Type}{p q:α->Bool}:∀ {l:List α},(∀ x∈l,p x=q x)->idx p l=idx q l
 | [],_=>rfl
 | x::xs,h=>by
  simp only [idx];rw [h x QC,DH (p:=p) (q:=q) (l:=xs) fun y hy=>h y (by simp [hy])]
def Ua(x y:Str):(!Op.bytesLess x y && !Op.bytesLess y x)=(x == y):=by
 have h1:=HE x y
 have h2:=HE y x;by_cases e:x=y
 ·subst e;rw [rG];simp
 ·have e1:(x == y)=false:=by simpa using e
  have e2:(y == x)=false:=by simpa using fun c=>e c.symm
  rw [e1,Bool.or_false] at h1;rw [e1,h1];cases Op.bytesLess y x<;>rfl
def DA:∀ (a b:List Str),(!ed a b && !ed b a)=(a == b)
 | [],[]=>by simp [ed]
 | [],_::_=>by simp [ed]
 | _::_,[]=>by simp [ed]
 | x::xs,y::ys=>by
  simp only [ed];by_cases e:x=y
  ·subst e;rw [if_pos rfl,if_pos rfl,DA xs ys];simp
  ·rw [if_neg e,if_neg (fun c=>e c.symm),Ua];have:(x == y)=false:=by simpa using e
   rw [this];simp [e]
def BB:∀ (a b:List Str),cmpL a b=0↔a=b
 | [],[]=>by simp [cmpL]
 | [],_::_=>by simp [cmpL]
 | _::_,[]=>by simp [cmpL]
 | x::xs,y::ys=>by
  rw [cmpL];by_cases e:x=y
  ·subst e;rw [if_pos ((xj _ _).2 rfl),BB xs ys];simp
  ·rw [if_neg (fun c=>e ((xj _ _).1 c))];constructor
   ·intro h;exact absurd ((xj _ _).1 h) e
   ·intro h;injection h with h1 h2;exact absurd h1 e
def Wq{n:ae}{x:ah}{l:List ah}(hx:kyB n x=true)(hl:∀ y∈l,y.ag=n.ag->kyB n y=true):idx (fsP n x.ax (kyL n x)) l=fnd n l x:=by
 refine DH fun y hy=>?_;unfold fsP fiP;by_cases hn:y.ag=n.ag
 ·have hk:=hl y hy hn;rw [skB,hx,hk,oh];have e1:(y.ag == n.ag)=true:=by simpa using hn
  rw [e1];by_cases h2:n.aj=2
  ·have:fG n.aj=true:=by rw [h2];try rfl
   rw [if_pos this,this,DA];have e2:decide (n.aj=4)=false:=by rw [h2];try rfl
   have e3:decide (n.aj=2)=true:=by rw [h2];try rfl
   rw [e2,e3]
   have e4:decide (cmpL (kyL n x) (kyL n y)=0)=(kyL n x == kyL n y):=by
    rw [Bool.eq_iff_iff];simp [BB]
   rw [e4]
   have e5:(kyL n y == kyL n x)=(kyL n x == kyL n y):=by
    rw [Bool.eq_iff_iff];simp only [beq_iff_eq];exact ⟨fun h=>h.symm,fun h=>h.symm⟩
   rw [e5];cases (kyL n x == kyL n y)<;>rfl
  ·have e3:decide (n.aj=2)=false:=by simpa using h2
   rw [e3];by_cases h4:n.aj=4
   ·have:fG n.aj=true:=by rw [h4];try rfl
    rw [if_pos this,this,h4,(oW h2).1,(oW h2).1]
    have e4:decide (cmpL [x.ax] [y.ax]=0)=(y.ax == x.ax):=by
     rw [Bool.eq_iff_iff];simp only [decide_eq_true_eq,BB,beq_iff_eq,List.cons.injEq,and_true];exact ⟨fun h=>h.symm,fun h=>h.symm⟩
    rw [e4];by_cases hv:y.ax=x.ax
    ·have hv2:(y.ax == x.ax)=true:=by simpa using hv
     rw [hv2,hv];simp
    ·have hv2:(y.ax == x.ax)=false:=by simpa using hv
     rw [hv2];simp
   ·have:fG n.aj=false:=by rw [fG];simp [h2,h4]
    rw [if_neg (by rw [this];simp),this];have e4:decide (n.aj=4)=false:=by simpa using h4
    rw [e4];try rfl
 ·have e1:(y.ag == n.ag)=false:=by simpa using hn
  rw [e1];try rfl
def kyE(n:ae)(x:ah):List bA:=if n.aj=2 then n.aE.map fun k=>.mk 1 k (kyT x k) [] else []
def edO(op:Int):List ah->List bA
 | []=>[]
 | .mk n v ks::xs=>.mk op n v (edO op ks)::edO op xs
abbrev nd(s:List ae)(nm:Str):ae:=at_ (dk s) (idx (nmP nm) (dk s)).toNat
def dfA(s:List ae)(b:List ah)(x:ah):List bA:=if 0<=fnd (nd s x.ag) b x then [] else [.mk 4 x.ag (if (nd s x.ag).aj=4 then x.ax else []) (kyE (nd s x.ag) x)]
def dfB(s:List ae)(a:List ah):List ah->List bA
 | []=>[]
 | .mk nm v ks::ys =>
  (let n:=nd s nm
   let i:=fnd n a (.mk nm v ks)
   let x:=at_ a i.toNat
   if i<0 then [.mk 3 nm v (edO 3 ks)]
   else if n.aj=3/\¬ x.ax=v then [.mk 2 nm v []]
   else if (n.aj=1\/n.aj=2)/\smT x.af ks=false then [.mk 1 nm [] (kyE n (.mk nm v ks)++(x.af.flatMap (dfA n.af ks)++dfB n.af x.af ks))]
   else [])++dfB s a ys
def dif(s:List ae)(a b:List ah):List bA:=a.flatMap (dfA s b)++dfB s a b
def dfY(s:List ae)(a:List ah)(y:ah):List bA :=
 if fnd (nd s y.ag) a y<0 then [.mk 3 y.ag y.ax (edO 3 y.af)]
 else if (nd s y.ag).aj=3/\¬ (at_ a (fnd (nd s y.ag) a y).toNat).ax=y.ax then [.mk 2 y.ag y.ax []]
 else if ((nd s y.ag).aj=1\/(nd s y.ag).aj=2)/\smT (at_ a (fnd (nd s y.ag) a y).toNat).af y.af=false then [.mk 1 y.ag [] (kyE (nd s y.ag) y++dif (nd s y.ag).af (at_ a (fnd (nd s y.ag) a y).toNat).af y.af)]
 else []
section
variable {n : ae} {x : ah} {k : Nat}
end
end
section
def xK{n:ae}{x:ah}(h:okN n x=true):kyB n x=true:=by
 by_cases h2:n.aj=2
 ·rw [okN,if_neg Ir,if_pos h2] at h;simp only [Bool.and_eq_true] at h;exact h.1.1
 ·exact (oW h2).2
section
variable {d : List ae} {l : List ah} {k : Nat}
def Vn(hk:k<l.length)(h:idx (nmP (at_ l k).ag) d<0):okL d (prv l k) (l.drop k)=false:=by rw [qF hk,show decide (0<=idx (nmP (at_ l k).ag) d)=false by simp;omega];rfl
def Su(hk:k<l.length)(h:okN (at_ d (idx (nmP (at_ l k).ag) d).toNat) (at_ l k)=false):okL d (prv l k) (l.drop k)=false:=by rw [qF hk,h];simp
def St(hk:k<l.length)(h0:0<k)(h:lR d (at_ l (k - 1)) (at_ l k)=false):okL d (prv l k) (l.drop k)=false:=by
 rw [qF hk]
 obtain ⟨j,rfl⟩:∃ j,k=j+1:=⟨k - 1,Ir⟩
 rw [show j+1 - 1=j by omega] at h;rw [show vv d (prv l (j+1)) (at_ l (j+1))=lR d (at_ l j) (at_ l (j+1)) from rfl,h];simp
def Pb(hk:k<l.length)(h0:0<=idx (nmP (at_ l k).ag) d)(h1:okN (at_ d (idx (nmP (at_ l k).ag) d).toNat) (at_ l k)=true)(h2:0<k->lR d (at_ l (k - 1)) (at_ l k)=true):okL d (prv l k) (l.drop k)=okL d (prv l (k+1)) (l.drop (k+1)):=by
 rw [qF hk,h1,show decide (0<=idx (nmP (at_ l k).ag) d)=true by simpa using h0]
 have:vv d (prv l k) (at_ l k)=true:=by
  cases k with
  | zero=>rfl
  | succ j=>exact h2 Ir
 rw [this];simp
end
end
section
section
variable {s : List ae} {a b : List ah} {x y : ah}
def NI(hf:0<=fnd (nd s y.ag) a y)(hy:okX (dk s) y):(fnd (nd s y.ag) a y).toNat<a.length/\(at_ a (fnd (nd s y.ag) a y).toNat).ag=y.ag/\at_ a (fnd (nd s y.ag) a y).toNat∈a:=by obtain ⟨h1,h2,h3⟩:=dF hf;simp only [fiP,Bool.and_eq_true,beq_iff_eq] at h2;exact ⟨h1,h2.1.1.trans (AY hy).1,h3⟩
def VC(hx:okX (dk s) x)(h:¬ ((nd s x.ag).aj=3\/(nd s x.ag).aj=4)):∀ k∈x.af,okX (dk (nd s x.ag).af) k :=
 om (Pf hx.2 h).2.1
def VB(hb:∀ y∈b,okX (dk s) y)(hx:okX (dk s) x):∀ y∈b,y.ag=(at_ (dk s) (idx (nmP x.ag) (dk s)).toNat).ag->kyB (at_ (dk s) (idx (nmP x.ag) (dk s)).toNat) y=true:=by intro y hy e;rw [(AY hx).1] at e;have:=xK (hb y hy).2;rw [e] at this;exact this
end
end
section
def HC:∀ (a b c:Str),Op.bytesLess a b=true->Op.bytesLess b c=true->Op.bytesLess a c=true
 | a,[],c,h,_=>by cases a<;>simp [Op.bytesLess] at h
 | [],_::_,[],_,h=>by simp [Op.bytesLess] at h
 | [],_::_,_::_,_,_=>by simp [Op.bytesLess]
 | _::_,_::_,[],_,h=>by simp [Op.bytesLess] at h
 | x::xs,y::ys,z::zs,h1,h2=>by
  simp only [Op.bytesLess,Bool.or_eq_true,Bool.and_eq_true,decide_eq_true_eq,beq_iff_eq] at *;rcases h1 with h1|⟨rfl,h1⟩
  ·rcases h2 with h2|⟨rfl,_⟩
   ·exact .inl (UInt8.lt_trans h1 h2)
   ·exact .inl h1
  ·rcases h2 with h2|⟨rfl,h2⟩
   ·exact .inl h2
   ·exact .inr ⟨rfl,HC xs ys zs h1 h2⟩
def Ge:∀ (a b c:List Str),ed a b=true->ed b c=true->ed a c=true
 | a,[],c,h,_=>by cases a<;>simp [ed] at h
 | [],_::_,[],_,h=>by simp [ed] at h
 | [],_::_,_::_,_,_=>by simp [ed]
 | _::_,_::_,[],_,h=>by simp [ed] at h
 | x::xs,y::ys,z::zs,h1,h2=>by
  rw [ed] at *;by_cases e1:x=y
  ·subst e1;rw [if_pos rfl] at h1;by_cases e2:x=z
   ·subst e2;rw [if_pos rfl] at h2 ⊢;exact Ge xs ys zs h1 h2
   ·rw [if_neg e2] at h2 ⊢;exact h2
  ·rw [if_neg e1] at h1;by_cases e2:y=z
   ·subst e2;rw [if_neg e1];exact h1
   ·rw [if_neg e2] at h2;have h3:=HC x y z h1 h2;rw [if_neg (fun e=>by subst e;rw [rG] at h3;exact absurd h3 QC)];exact h3
def Oh{d:List ae}{a b c:ah}(h1:lR d a b=true)(h2:lR d b c=true):lR d a c=true:=by
 unfold lR at *;by_cases e1:idx (nmP a.ag) d=idx (nmP b.ag) d/\fG (at_ d (idx (nmP b.ag) d).toNat).aj=true
 ·rw [if_pos e1] at h1;by_cases e2:idx (nmP b.ag) d=idx (nmP c.ag) d/\fG (at_ d (idx (nmP c.ag) d).toNat).aj=true
  ·rw [if_pos e2] at h2;rw [if_pos ⟨e1.1.trans e2.1,e2.2⟩];rw [e2.1] at h1;exact Ge _ _ _ h1 h2
  ·rw [if_neg e2] at h2;rw [if_neg (fun c=>e2 ⟨e1.1.symm.trans c.1,c.2⟩),e1.1];exact h2
 ·rw [if_neg e1,decide_eq_true_eq] at h1;by_cases e2:idx (nmP b.ag) d=idx (nmP c.ag) d/\fG (at_ d (idx (nmP c.ag) d).toNat).aj=true
  ·rw [if_neg (by rintro ⟨c,_⟩;omega),decide_eq_true_eq];omega
  ·rw [if_neg e2,decide_eq_true_eq] at h2;rw [if_neg (by rintro ⟨c,_⟩;omega),decide_eq_true_eq];omega
def FU{d:List ae}:∀ {l:List ah} {a:ah},okL d (some a) l=true↔(∀ x∈l,okX d x)/\(a::l).Pairwise fun x y=>lR d x y=true
 | [],a=>by simp [okL]
 | x::xs,a=>by
  rw [uF];simp only [Bool.and_eq_true,decide_eq_true_eq];have ih:=FU (d:=d) (l:=xs) (a:=x);rw [ih];constructor
  ·rintro ⟨⟨⟨h1,h2⟩,h3⟩,h4,h5⟩;refine ⟨fun y hy=>?_,List.pairwise_cons.2 ⟨fun y hy=>?_,h5⟩⟩
   ·rcases List.mem_cons.1 hy with rfl|hy
    ·exact ⟨h1,h2⟩
    ·exact h4 y hy
   ·rcases List.mem_cons.1 hy with rfl|hy
    ·exact h3
    ·exact Oh h3 ((List.pairwise_cons.1 h5).1 y hy)
  ·rintro ⟨h1,h2⟩;have h3:=h1 x QC
   have h4:=List.pairwise_cons.1 h2;exact ⟨⟨⟨h3.1,h3.2⟩,h4.1 x QC⟩,fun y hy=>h1 y (by simp [hy]),h4.2⟩
def Sv{d:List ae}{l:List ah}:okL d none l=true↔(∀ x∈l,okX d x)/\l.Pairwise fun x y=>lR d x y=true:=by
 cases l with
 | nil=>simp [okL]
 | cons x xs =>
  rw [uF];simp only [Bool.and_eq_true,decide_eq_true_eq,vv,and_true];rw [FU];constructor
  ·rintro ⟨h1,h2,h3⟩;refine ⟨fun y hy=>?_,h3⟩;rcases List.mem_cons.1 hy with rfl|hy
   ·exact h1
   ·exact h2 y hy
  ·rintro ⟨h1,h2⟩;exact ⟨h1 x QC,fun y hy=>h1 y (by simp [hy]),h2⟩
end
end Go.Dt
