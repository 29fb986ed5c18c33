/- Part of a proof. -/
import Derived.Shelf.Strconv.Itoa3
import Derived.Shelf.Small.Strs
import Derived.Test.YtbiikafnjialjaaGreatDoorS13
set_option linter.all false
set_option maxRecDepth 20000
set_option maxHeartbeats 4000000
open Go.Proofs.Tryz
open List
namespace Go.Dt
open Go.Ab
def bC(n:Nat)(h:Nat->Bool):List AV:=(List.range n).map λc=>.v (.bool (h c))
@[go_sem] def eC(n:Nat)(h:Nat->Bool):(bC n h).length=n:=by simp only[bC,length_map,length_range]
def EV(n:Nat)(h:Nat->Bool):bC (n+1) h≠[]:=λe=>by have:=congrArg List.length e;simp[eC]at this
def yR{n:Nat}(h:Nat->Bool){k:Nat}(hk:k<n):(bC n h)[k]? = some (.ac (h k)):=by simp only[bC,getElem?_map,getElem?_range hk,Option.map_some]
def TW{n:Nat}(h:Nat->Bool){k:Nat}(hk:k<n):(bC n h).drop k=.ac (h k)::(bC n h).drop (k+1):=by
 have hl:k<(bC n h).length:=by rw[eC];exact hk
 rw[drop_eq_getElem_cons hl];have:=yR h hk;rw[getElem?_eq_getElem hl]at this;rw[Option.some.inj this]
@[go_sem] def adM{n:Nat}(h:Nat->Bool){k:Nat}(hk:k<n):((bC n h).drop k).head? = some (.ac (h k)):=by rw[TW h hk];rfl
@[go_sem] def WO{n:Nat}(h:Nat->Bool){k:Nat}(hk:k<n)(b:Bool):(bC n h).take k++[.ac b]++(bC n h).drop (k+1)=bC n (λc=>if c=k then b else h c):=by
 apply ext_getElem?;intro i;by_cases hi:i<n
 ·rw[yR _ hi];by_cases e1:i<k
  ·rw[append_assoc,getElem?_append_left (by simp[eC];omega),getElem?_take,if_pos e1,yR _ hi];simp[show ¬i=k by omega]
  ·by_cases e2:i=k
   ·subst e2;rw[append_assoc,getElem?_append_right (by simp[eC];omega)];simp[eC,Nat.min_eq_left (Nat.le_of_lt hi)]
   ·rw[getElem?_append_right (by simp[eC];omega),getElem?_drop];simp only[length_append,length_take,eC,length_cons,length_nil];rw[show k+1+(i - (min k n+(0+1)))=i by omega,yR _ hi,if_neg e2]
 ·rw[getElem?_eq_none (by simp[eC];omega),getElem?_eq_none (by rw[eC];omega)]
def lu{n:Nat}{f g:Nat->Bool}(h:∀i,i<n->f i=g i):bC n f=bC n g:=by unfold bC;apply map_congr_left;intro i hi;rw[h i (by simpa using hi)]
@[go_sem] def WQ(n:Nat)(h:Nat->Bool):(bC n h).drop n=[]:=drop_of_length_le (by rw[eC];exact Nat.le_refl _)
@[go_sem] def gW(n:Nat)(h:Nat->Bool):(bC n h).take n=bC n h:=take_of_length_le (by rw[eC];exact Nat.le_refl _)
@[go_sem] def TU(n:Nat):(replicate n [Value.bool false]).flatten.map avz=bC n (λ_=>false):=by
 rw[flatten_replicate_singleton,map_replicate];apply ext_getElem?;intro i;by_cases hi:i<n
 ·rw[yR _ hi,getElem?_replicate,if_pos hi];rfl
 ·rw[getElem?_eq_none (by rw[length_replicate];omega),getElem?_eq_none (by rw[eC];omega)]
@[go_sem] def adK(n:Nat)(h:Nat->Bool):AV.nownL (bC n h)=true:=xg (λ_=>rfl) _
@[go_sem] def aay(n:Nat)(h:Nat->Bool):AV.cL (bC n h)=true:=zw (λ_=>rfl) _
@[go_sem] def Oe(n:Nat)(h:Nat->Bool):AV.cl (bC n h)=bC n h:=sV (λ_=>rfl) _
@[go_sem] def aeo(n:Nat)(h:Nat->Bool):(bC n h).all AV.one=true:=by simp only[bC,all_map,all_eq_true];intro x _;rfl
@[go_sem] def TV(n:Nat)(h:Nat->Bool):(bC n h).all (AV.elem 1)=true:=by simp only[bC,all_map,all_eq_true];intro x _;rfl
def gz(n:Nat)(h:Nat->Bool):∀x,x∈bC n h->x.elem 1=true:=by have:=TV n h;rw[all_eq_true]at this;exact this
@[go_sem] def adL(n:Nat)(h:Nat->Bool):AV.iN (bC n h)=[]:=xn (λ_=>rfl) _
@[go_sem] def jz(n:Nat)(h:Nat->Bool):(bC n h).flatMap AV.cells=bC n h:=by
 unfold bC;generalize List.range n=l
 induction l with
 | nil=>rfl
 | cons x xs ih=>simp only[map_cons,flatMap_cons,ih];rfl
instance{G:Bool}{n:Nat}{h:Nat->Bool}{i:Int}{K:AV->Prop}:Rl (idxVc G (bC n h) i 1 (K:=⟨K⟩)) ((G=true->0<=i/\i.toNat<n)/\K (.ac (h i.toNat))) :=
 ⟨λp=>⟨_,λg=>⟨(p.1 g).1,yR h (p.1 g).2,rfl⟩,p.2⟩⟩
def orB(f g:Nat->Bool)(i:Nat):Bool:=f i || g i
def grew(n:Nat)(g a:Nat->Bool):Bool:=!cg (λi=>!(g i && !a i)) n
def JA{n:Nat}{g a:Nat->Bool}(h:grew n g a=false):∀i,i<n->orB a g i=a i:=by intro i hi;simp only[grew,Bool.not_eq_false']at h;have:=oO h hi;unfold orB;revert this;cases g i<;>cases a i<;>simp
def pM(a:Nat->Bool):Nat->Nat
 | 0=>0
 | n+1=>pM a n+(bif a n then 0 else 1)
def Dl(a:Nat->Bool):∀n,pM a n<=n
 | 0=>Nat.le_refl _
 | n+1=>by have:=Dl a n;simp only[pM];cases a n<;>simp<;>omega
def Ef(a g:Nat->Bool):∀n,pM (orB a g) n<=pM a n
 | 0=>Nat.le_refl _
 | n+1=>by
  have:=Ef a g n;simp only[pM,orB];cases h1:a n<;>cases h2:g n<;>simp<;>omega
def JT{a g:Nat->Bool}:∀ {n:Nat},grew n g a=true->pM (orB a g) n<pM a n
 | 0,h=>by simp[grew,cg]at h
 | n+1,h=>by
  have hm:=Ef a g n
  have hs:grew (n+1) g a=(grew n g a || (g n && !a n)):=by
   simp only[grew,cg];cases cg (λi=>!(g i && !a i)) n<;>cases h1:a n<;>cases h2:g n<;>rfl
  rw[hs,Bool.or_eq_true]at h;simp only[pM,orB];rcases h with h|h
  ·have:=JT (a:=a) (g:=g) (n:=n) h;cases h1:a n<;>cases h2:g n<;>simp<;>omega
  ·simp only[Bool.and_eq_true,Bool.not_eq_true']at h;rw[h.1,h.2];simp;omega
def mo(n:Nat)(e:(Nat->Bool)->Nat->Bool):Nat->(Nat->Bool)->Nat->Bool
 | 0,a=>a
 | k+1,a=>if grew n (e a) a then mo n e k (orB a (e a)) else a
def D2{n:Nat}{e:(Nat->Bool)->Nat->Bool}{k:Nat}{a:Nat->Bool}(h:grew n (e a) a=true)(hk:pM a n<=k):∃j,k=j+1/\mo n e k a=mo n e j (orB a (e a))/\pM (orB a (e a)) n<=j:=by
 have:=JT h
 cases k with
 | zero=>omega
 | succ j=>exact⟨j,rfl,by rw[mo,if_pos h],Um⟩
def Gw{n:Nat}{e:(Nat->Bool)->Nat->Bool}{k:Nat}{a:Nat->Bool}(h:grew n (e a) a=false):mo n e k a=a:=by
 cases k with
 | zero=>rfl
 | succ j=>rw[mo,if_neg (by rw[h];simp)]
def chE(t s:Str)(f:Nat->Bool):Nat->Bool
 | 0=>false
 | i+1=>f i && t.contains (at_ s i)
mutual
def ends(s:Str):bE->(Nat->Bool)->Nat->Bool
 | .mk op t ks,f=>if op=1 then chE t s f else if op=2 then qn s ks f else if op=3 then qG s ks f (λ_=>false) else if op=5\/op=4 then uY s op ks f else λ_=>false
def qn(s:Str):List bE->(Nat->Bool)->Nat->Bool
 | [],a=>a
 | k::ks,a=>qn s ks (ends s k a)
def qG(s:Str):List bE->(Nat->Bool)->(Nat->Bool)->Nat->Bool
 | [],_,a=>a
 | k::ks,f,a=>qG s ks f (orB a (ends s k f))
def uY(s:Str)(op:Int):List bE->(Nat->Bool)->Nat->Bool
 | [],f=>f
 | k::ks,f=>match ks with
  | []=>if op=4 then mo (s.length+1) (ends s k) (s.length+1) f else orB f (ends s k f)
  | _::_=>f
end
def kM(s:Str)(op:Int)(t:Str)(ks:List bE)(f:Nat->Bool):ends s (.mk op t ks) f=if op=1 then chE t s f else if op=2 then qn s ks f else if op=3 then qG s ks f (λ_=>false) else if op=5\/op=4 then uY s op ks f else λ_=>false:=by rw[ends]
def uX{s:Str}{op:Int}{ks:List bE}{f:Nat->Bool}(h:¬ks.length=1):uY s op ks f=f:=by
 cases ks with
 | nil=>rw[uY]
 | cons k ks =>
  cases ks with
  | nil=>simp at h
  | cons _ _=>rw[uY]
def sA{s:Str}{op:Int}{ks:List bE}{f:Nat->Bool}(h:ks.length=1):uY s op ks f=if op=4 then mo (s.length+1) (ends s (at_ ks 0)) (s.length+1) f else orB f (ends s (at_ ks 0) f):=by
 cases ks with
 | nil=>simp at h
 | cons k ks =>
  cases ks with
  | nil=>rw[uY];rfl
  | cons _ _=>simp at h
def Pf(p:bE)(s:Str):Bool:=ends s p (λi=>if i=0 then true else false) s.length
def GI(c:UInt8):∀t:Str,(0<=Lib.indexByte t c↔t.contains c=true)/\-1<=Lib.indexByte t c
 | []=>⟨by simp[Lib.indexByte],by simp[Lib.indexByte]⟩
 | b::t=>by
  obtain⟨h1,h2⟩:=GI c t;have e:Lib.indexByte (b::t) c=if b == c then 0 else if Lib.indexByte t c == -1 then -1 else Lib.indexByte t c+1:=rfl
  by_cases h:b=c
  ·subst h;have e:Lib.indexByte (b::t) b=0:=by rw[e];simp
   rw[e];simp
  ·have h3:(b == c)=false:=by simpa using h
   have h4:(c == b)=false:=by simpa using λe=>h e.symm
   have e:Lib.indexByte (b::t) c=if Lib.indexByte t c = -1 then -1 else Lib.indexByte t c+1:=by rw[e,h3];simp
   rw[e,contains_cons,h4,Bool.false_or,<- h1];split<;>omega
def Tq(t:Str)(c:UInt8):decide (0<=Lib.indexByte t c)=t.contains c:=by
 have:=(GI c t).1
 cases h:t.contains c with
 | true=>exact decide_eq_true (this.2 h)
 | false=>exact decide_eq_false λe=>by rw[this.1 e]at h;cases h
section
attribute [go_sem] Tq
@[go_sem high] def acH(n:Nat):List.map avz ([Value.bool false]::replicate n [Value.bool false]).flatten=bC (n+1) (λ_=>false):=TU (n+1)
@[go_sem] def acI(n:Nat)(h:Nat->Bool):(bC (n+1) h).drop (n+1)=[]:=WQ _ _
def joK(a g:Nat->Bool)(k i:Nat):Bool:=a i || (decide (i<k) && g i)
def PG(n:Nat)(a g:Nat->Bool):bC n (joK a g 0)=bC n a:=lu λi _=>by simp[joK]
def Tf(n:Nat)(a g:Nat->Bool){k:Nat}(h:¬k<n):bC n (joK a g k)=bC n (orB a g):=lu λi hi=>by simp only[joK,orB,decide_eq_true (show i<k by omega),Bool.true_and]
def MZ{a g:Nat->Bool}{k:Nat}:joK a g k k=a k:=by simp[joK]
def Te{n:Nat}{a g:Nat->Bool}{k:Nat}(h:g k=true):bC n (λc=>if c=k then true else joK a g k c)=bC n (joK a g (k+1)):=lu λi _=>by
 by_cases e:i=k
 ·subst e;simp[joK,h]
 ·simp only[if_neg e,joK];rw[show decide (i<k+1)=decide (i<k)from decide_eq_decide.2 Um]
def PH{n:Nat}{a g:Nat->Bool}{k:Nat}(h:g k=true->a k=true):bC n (joK a g k)=bC n (joK a g (k+1)):=lu λi _=>by
 by_cases e:i=k
 ·subst e;simp only[joK]
  cases h1:g i with
  | false=>simp
  | true=>simp[h h1]
 ·simp only[joK];rw[show decide (i<k+1)=decide (i<k)from decide_eq_decide.2 Um]
def sU(g a:Nat->Bool)(k:Nat):grew (k+1) g a=(grew k g a || (g k && !a k)):=by simp only[grew,cg];cases cg (λi=>!(g i && !a i)) k<;>cases h1:a k<;>cases h2:g k<;>rfl
end
def chK(t s:Str)(f:Nat->Bool)(k i:Nat):Bool:=decide (i<=k) && chE t s f i
def HE(n:Nat)(t s:Str)(f:Nat->Bool):bC n (λ_=>false)=bC n (chK t s f 0):=lu λi _=>by
 cases i with
 | zero=>simp[chK,chE]
 | succ i=>simp[chK]
def JX{n:Nat}{t s:Str}{f:Nat->Bool}{k:Nat}{v:Bool}(h:v=(f k && t.contains (at_ s k))):bC n (λc=>if c=k+1 then v else chK t s f k c)=bC n (chK t s f (k+1)):=lu λi _=>by
 by_cases e:i=k+1
 ·subst e;simp only[if_true,chK,Nat.le_refl,decide_true,Bool.true_and,chE,h]
 ·simp only[if_neg e,chK];rw[show decide (i<=k+1)=decide (i<=k)from decide_eq_decide.2 Um]
def JY{n:Nat}{t s:Str}{f:Nat->Bool}{k:Nat}(h:n<=k+1):bC n (chK t s f k)=bC n (chE t s f):=lu λi hi=>by
 rw[chK,decide_eq_true Um,Bool.true_and]
def bE.eta(x:bE):bE.mk x.fOp x.cS x.af=x:=by cases x;rfl
def DD{s:Str}{ks:List bE}{k:Nat}{a:Nat->Bool}(h:k<ks.length):qn s (ks.drop k) a=qn s (ks.drop (k+1)) (ends s (at_ ks k) a):=by rw[bA h,qn]
def Fu{s:Str}{ks:List bE}{k:Nat}{a:Nat->Bool}(h:¬k<ks.length):qn s (ks.drop k) a=a:=by rw[drop_eq_nil_of_le Um,qn]
def El{s:Str}{ks:List bE}{k:Nat}{f a:Nat->Bool}(h:k<ks.length):qG s (ks.drop k) f a=qG s (ks.drop (k+1)) f (orB a (ends s (at_ ks k) f)):=by rw[bA h,qG]
def HT{s:Str}{ks:List bE}{k:Nat}{f a:Nat->Bool}(h:¬k<ks.length):qG s (ks.drop k) f a=a:=by rw[drop_eq_nil_of_le Um,qG]
def boK(a g:Nat->Bool)(k i:Nat):Bool:=decide (i<k) && orB a g i
@[go_sem high] def adJ(n:Nat)(h:Nat->Bool)(b:Bool):AV.ac b::(bC (n+1) h).drop 1=bC (n+1) (λc=>if c=0 then b else h c):=by have:=WO (n:=n+1) h (k:=0) Um b;simpa using this
def QB(n:Nat)(a g:Nat->Bool):bC n (λ_=>false)=bC n (boK a g 0):=lu λi _=>by simp[boK]
def TQ{n:Nat}{a g:Nat->Bool}{k:Nat}{v:Bool}(h:v=orB a g k):bC n (λc=>if c=k then v else boK a g k c)=bC n (boK a g (k+1)):=lu λi _=>by
 by_cases e:i=k
 ·subst e;simp[boK,h]
 ·simp only[if_neg e,boK];rw[show decide (i<k+1)=decide (i<k)from decide_eq_decide.2 Um]
def TR{n:Nat}{a g:Nat->Bool}{k:Nat}(h:n<=k):bC n (boK a g k)=bC n (orB a g):=lu λi hi=>by
 rw[boK,decide_eq_true Um,Bool.true_and]
def inK(t s:Str)(f:Nat->Bool)(i k:Nat):Bool:=f i && (t.take k).contains (at_ s i)
def vD(t s:Str)(f:Nat->Bool)(i k c:Nat):Bool:=if c=i+1 then inK t s f i k else chK t s f i c
def Nj(n:Nat)(t s:Str)(f:Nat->Bool)(i:Nat):bC n (chK t s f i)=bC n (vD t s f i 0):=lu λc _=>by
 unfold vD;split
 ·rename_i e;subst e;simp[inK,chK];omega
 ·rfl
def Tk{t s:Str}{f:Nat->Bool}{i k:Nat}:vD t s f i k (i+1)=inK t s f i k:=by simp[vD]
def PN{n:Nat}{t s:Str}{f:Nat->Bool}{i k:Nat}{v:Bool}(h:v=inK t s f i (k+1)):bC n (λc=>if c=i+1 then v else vD t s f i k c)=bC n (vD t s f i (k+1)):=lu λc _=>by
 unfold vD;by_cases e:c=i+1
 ·rw[if_pos e,if_pos e,h]
 ·rw[if_neg e,if_neg e,if_neg e]
def PO{t s:Str}{f:Nat->Bool}{i k:Nat}(hk:k<t.length)(hf:f i=true):(inK t s f i k || (at_ t k == at_ s i))=inK t s f i (k+1):=by
 simp only[inK,hf,Bool.true_and]
 have:t.take (k+1)=t.take k++[at_ t k]:=by
  rw[take_succ_eq_append_getElem hk];unfold at_;rw[getElem?_eq_getElem hk];rfl
 rw[this,contains_eq_any_beq,contains_eq_any_beq,any_append];simp only[any_cons,any_nil,Bool.or_false]
 congr 1
 exact Bool.beq_comm ..
def Tm{t s:Str}{f:Nat->Bool}{i k:Nat}(h:k<t.length->f i=false):inK t s f i k=(f i && t.contains (at_ s i)):=by
 unfold inK;by_cases e:k<t.length
 ·rw[h e];rfl
 ·rw[take_of_length_le Um]
def Jj(a e:Nat->Bool)(k:Nat):(orB a e k != a k)=(e k && !a k):=by unfold orB;cases a k<;>cases e k<;>rfl
def TX(t s:Str)(k i:Nat):(at8 t k == at8 s i)=(at_ t k == at_ s i):=by
 rw[pP,pP];by_cases e:at_ t k=at_ s i
 ·rw[e];simp
 ·have h1:(at_ t k == at_ s i)=false:=by simpa using e
  have h2:¬((at_ t k).toNat:Int)=((at_ s i).toNat:Int):=λh=>e (UInt8.toNat_inj.1 Um);rw[h1];simpa using h2
def dg(u:Nat):Str:=if u=0 then [] else Lib.decDigits u
def Dk{u:Nat}(h:u≠0):dg u=dg (u / 10)++[UInt8.ofNat (48+u % 10)]:=by
 rw[dg,if_neg h,Lib.decDigits,dg];split
 ·rename_i h10;rw[if_pos Um,nil_append,Nat.mod_eq_of_lt h10]
 ·rw[if_neg Um]
def WA(u:Nat):(dg u).length<=u / 10+1:=by
 induction u using Nat.strongRecOn with
 | _ u ih =>
  by_cases h:u=0
  ·subst h;simp[dg]
  ·rw[Dk h];have:=ih (u / 10) Um;simp only[length_append,length_singleton];by_cases h10:u / 10=0
   ·rw[h10];simp[dg]
   ·omega
def D1:Lib.itoa 0=[48]:=by rw[Lib.itoa,if_neg Um,Lib.decDigits];rfl
def CU{n:Int}(h:n≠0):Lib.itoa n=if n<0 then 45::dg n.natAbs else dg n.natAbs:=by
 have e:¬n.natAbs=0:=by omega
 simp only[Lib.itoa,dg,e,if_false];split
 ·rfl
 ·rw[show n.toNat=n.natAbs by omega]
def dgt(s:Str)(j:Nat):Bool:=om (at8 s j)
def gE(s:Str):Nat->Nat
 | 0=>0
 | k+1=>10 * gE s k+(at8 s k - 48).toNat
def Ov(s:Str)(k j:Nat):gE s k<=gE s (k+j):=by
 induction j with
 | zero=>exact Nat.le_refl _
 | succ j ih=>rw[<- Nat.add_assoc,gE];omega
def rm{s:Str}{k:Nat}:dgt s k=true↔48<=at8 s k/\at8 s k<=57:=by simp[dgt,om]
def E3{s:Str}{k:Nat}(h:48<=at8 s k):(gE s (k+1):Int)=10 * gE s k+(at8 s k - 48):=by rw[gE];omega
def rdB(s:Str):Bool:=cg (dgt s) s.length && (decide (gE s s.length<=1000000000) && decide (0<s.length))
def rdN(s:Str):Int:=bif rdB s then gE s s.length else 0
def Kn{s:Str}{k:Nat}(h:k<s.length)(e:¬(48<=at8 s k/\at8 s k<=57)):rdB s=false:=by rw[rdB,cM h (Bool.eq_false_iff.2 λh=>e (rm.1 h))];rfl
def Mc{s:Str}{k:Nat}(h:k<=s.length)(e:1000000000<gE s k):rdB s=false:=by
 have:=Ov s k (s.length - k);rw[show k+(s.length - k)=s.length by omega]at this;have:decide (gE s s.length<=1000000000)=false:=by simp;omega
 rw[rdB,this];simp
def sgn(s:Str):Bool:=decide (0<s.length) && (at8 s 0 == 45 || at8 s 0 == 43)
def tlS(s:Str):Str:=bif sgn s then s.drop 1 else s
def jk(s:Str):Int:=bif rdB (tlS s) then (if at8 s 0=45 then - rdN (tlS s) else rdN (tlS s)) else 0
def lI(s:Str):Bool:=rdB (tlS s)
def Ko(s:Str):0<=rdN s/\rdN s<=1000000000:=by
 unfold rdN
 cases h:rdB s with
 | false=>simp
 | true =>
  simp only[rdB,Bool.and_eq_true,decide_eq_true_eq]at h;simp only[cond_true];omega
def yg(s:Str):-1000000000<=jk s/\jk s<=1000000000:=by
 have:=Ko (tlS s);unfold jk
 cases rdB (tlS s)with
 | false=>simp
 | true=>simp only[cond_true];split<;>omega
def ve(n:Int)(r:dV):Bool:=decide (r.fLo<=n) && decide (n<=r.fHi)
def xy(l:List dV)(n:Int):Bool:=l.any (ve n) || decide (l.length=0)
def Mb{s:Str}{k:Nat}(hR:cg (dgt s) k=true)(hv:gE s k<=1000000000)(hk:k<=s.length)(h:¬k<s.length):rdB s=decide ((0:Int)<(s.length:Int))/\(rdN s=gE s k):=by
 obtain rfl:k=s.length:=by omega
 have e:rdB s=decide ((0:Int)<(s.length:Int)):=by
  rw[rdB,hR,decide_eq_true hv,Bool.true_and,Bool.true_and];exact decide_eq_decide.2 Um
 refine⟨e,?_⟩;rw[rdN,e];by_cases h0:s.length=0
 ·rw[h0];rfl
 ·rw[decide_eq_true Um];rfl
theorem Ol{α:Type}[Inhabited α]{p:α->Bool}{l:List α}{k:Nat}(h:k<l.length)(e:p (at_ l k)=true):l.any p=true:=List.any_eq_true.2 ⟨_,at_mem h,e⟩
def J1{α:Type}{p:α->Bool}{l:List α}{k:Nat}(hk:¬k<l.length)(h:∀x∈l.take k,p x=false):l.any p=false:=by rw[take_of_length_le Um]at h;rw[any_eq_false];intro x hx;rw[h x hx];simp
def wN(x:Int):(x.tdiv 10).natAbs=x.natAbs / 10:=by rw[Int.natAbs_tdiv];rfl
@[go_sem] def aes{y:Int}(h0:0<=y)(h1:y<=255):unb [.v (.int .u8 y)]=some [UInt8.ofNat y.toNat]:=by simp only[unb,if_pos (And.intro h0 h1),Option.map_some]
def Fa(x:Int):-9<=x.tmod 10/\x.tmod 10<=9/\(x.tmod 10).natAbs=x.natAbs % 10:=by
 have h:=Int.natAbs_tmod x 10
 have h2:(x.tmod 10).natAbs<10:=by rw[h];exact Nat.mod_lt _ daa
 have h3:=wN x;exact⟨Um,Um,h⟩
def Jl(n:Nat):((n:Int) == 0)=decide (n=0):=by
 by_cases h:n=0
 ·simp[h]
 ·simp[h]
def lN{s:Str}:(s.take s.length).drop (Int.toNat 1)=s.drop 1:=by simp
def wM{s:Str}(h:0<(s.length:Int)/\(at8 s 0=45\/at8 s 0=43)):tlS s=s.drop 1:=by
 have:sgn s=true:=by simp only[sgn,Bool.and_eq_true,decide_eq_true_eq,Bool.or_eq_true,beq_iff_eq];exact⟨Um,h.2⟩
 rw[tlS,this];rfl
def J9{s:Str}(h:0<(s.length:Int)->¬at8 s 0=45/\¬at8 s 0=43):tlS s=s:=by
 have:sgn s=false:=by
  simp only[sgn,Bool.and_eq_false_imp,decide_eq_true_eq,Bool.or_eq_false_iff,beq_eq_false_iff_ne,ne_eq];exact λq=>h Um
 rw[tlS,this];rfl
@[go_sem] def ad0:rdB []=false:=rfl
def JL{x:Int}{s t:Str}{c:UInt8}(hx:¬x=0)(hs:dg x.natAbs++s=t)(hc:c=UInt8.ofNat (48+x.natAbs % 10)):dg (x.tdiv 10).natAbs++c::s=t:=by rw[Dk Um,append_assoc]at hs;rw[wN,hc];exact hs
def Ok{a s t:Str}(h:a++s=t):s.length<=t.length:=by rw[<- h,length_append];omega
def J5{t:Str}{k:Nat}{v:Int}(hd:48<=at8 t k/\at8 t k<=57)(h1:gE t k<=1000000000->v=gE t k)(h2:1000000000<gE t k->1000000000<v) :
  (v<=1000000000->(gE t (k+1)<=1000000000->v * 10+(at8 t k - 48)=gE t (k+1))/\(1000000000<gE t (k+1)->1000000000<v * 10+(at8 t k - 48))) /\
  (1000000000<v->(gE t (k+1)<=1000000000->v=gE t (k+1))/\(1000000000<gE t (k+1)->1000000000<v)):=by
 have:=E3 (s:=t) (k:=k) hd.1;refine⟨λh=>⟨λ_=>?_,λ_=>?_⟩,λh=>⟨λ_=>?_,λ_=>?_⟩⟩<;>omega
def Ma{t:Str}{k:Nat}{v:Int}(hR:cg (dgt t) k=true)(hk:k<=t.length)(h:¬k<t.length)(h0:¬t=[])(h1:gE t k<=1000000000->v=gE t k)(h2:1000000000<gE t k->1000000000<v) :
  rdB t=decide (v<=1000000000)/\(v<=1000000000->rdN t=v):=by
 have hl:0<t.length:=List.length_pos_iff.2 h0;by_cases e:gE t k<=1000000000
 ·obtain⟨a,b⟩:=Mb hR e hk h;rw[h1 e,a,b];exact⟨by rw[decide_eq_true Um,decide_eq_true Um],λ_=>rfl⟩
 ·have:=h2 Um;rw[Mc hk Um];exact⟨by rw[decide_eq_false Um],λh=>by omega⟩
end Go.Dt
namespace Go.Proofs
open Go.Ab Go.Dt
set_option maxHeartbeats 1000000
instance(n:Int):Ctr lim prog 169 [] [.aa n] (.str (Lib.itoa n)) [] (-9223372036854775808<=n/\n<=9223372036854775807):=by
 refine Ctr.bd func169 ntmps169 λhp=>?_
 (refine vU2 ?_ ?_<;>intro h)
 ·rw[h,D1]
 have hl:=WA n.natAbs;refine AW.aw [3,4] [0,2] (λm xs o=>∃(s:Str) (x:Int),xs=[.str s,.aa x]/\o=[]/\m=x.natAbs/\dg x.natAbs++s=dg n.natAbs/\s.length<=n.natAbs / 10+1/\-9223372036854775808<=x/\x<=9223372036854775807) n.natAbs [] trivial ⟨[],n,?_,rfl,rfl,?_,?_,?_,?_⟩ ?_
 ·rfl
 ·simp
 ·simp
 ·omega
 ·omega
 rintro m xs o ⟨s,x,rfl,rfl,rfl,hs,hl2,hx1,hx2⟩;have hd:=wN x
 have hm:=Fa x
 (refine vU4 ?_ ?_ ?_ ?_<;>with_reducible repeat intro h)
 ·have e:=JL (c:=UInt8.ofNat (48+(0 - x.tmod 10)).toNat) baa hs (by congr 1;omega);exact⟨_,[_,_],[],Um,⟨_,_,rfl,rfl,rfl,e,by have:=Ok e;omega,Um,Um⟩,rfl,trivial⟩
 ·have e:=JL (c:=UInt8.ofNat (48+x.tmod 10).toNat) baa hs (by congr 1;omega);exact⟨_,[_,_],[],Um,⟨_,_,rfl,rfl,rfl,e,by have:=Ok e;omega,Um,Um⟩,rfl,trivial⟩
 ·rename_i hx;subst hx;rw[CU Um,if_pos h,<- hs];rfl
 ·rename_i hx;subst hx;rw[CU Um,if_neg Um,<- hs];rfl
instance(L:gaa)(s:Str):Ctr L prog 228 [] [.str s] (.tup [.aa (rdN s),.ac (rdB s)]) [] True:=by
 refine Ctr.bd func228 ntmps228 λhp=>?_;refine AW.f0 0 λhf=>?_;refine vU1 ?_;refine AW.aw [4,5] [0] (λm xs o=>∃k:Nat,xs=[.aa (gE s k),.aa k]/\o=[]/\m=s.length - k/\k<=s.length/\cg (dgt s) k=true/\gE s k<=1000000000) s.length [] trivial ⟨0,?_,rfl,rfl,?_,rfl,?_⟩ ?_
 ·rfl
 ·omega
 ·simp[gE]
 rintro m xs o ⟨k,rfl,rfl,rfl,hk,hR,hv⟩;have hst:=@E3 s k
 (refine vU4 ?_ ?_ ?_ ?_<;>with_reducible repeat intro h)
 ·have:=Kn (s:=s) (k:=k) baa Um;simp[rdN,this]
 ·have:=Mc (s:=s) (k:=k+1) Um Um;simp[rdN,this]
 ·exact⟨_,[_,_],[],Um,⟨k+1,rfl,rfl,rfl,Um,cf hR (rm.2 baa),Um⟩,by rw[hst Um];rfl,trivial⟩
 ·obtain⟨e1,e2⟩:=Mb hR hv hk h;rw[e1,e2]
instance(L:gaa)[hL:Lok L](l:List dV)(n:Int):Ctr L prog 170 [] [.ab 2 aU l,.aa n] (.ac (xy l n)) [] True:=by
 refine Ctr.bd func170 ntmps170 λhp=>?_;refine AW.f0 0 λhf=>?_;have hf:=Nat.le_trans hf (hL.le 2);refine vU1 ?_;refine AW.aw [5] [0,1] (λm xs o=>∃k:Nat,xs=[.aa k]/\o=[]/\m=l.length - k/\k<=l.length/\∀x∈l.take k,ve n x=false) l.length [] trivial ⟨0,?_,rfl,rfl,?_,?_⟩ ?_
 ·rfl
 ·omega
 ·simp
 rintro m xs o ⟨k,rfl,rfl,rfl,hk,hR⟩
 (refine vU3 ?_ ?_ ?_<;>with_reducible repeat intro h)
 ·rw[xy,Ol baa (by simp[ve,h])];rfl
 ·exact⟨_,[_],[],Um,⟨k+1,rfl,rfl,rfl,Um,bL baa hR (by simp[ve];omega)⟩,rfl,trivial⟩
 ·rw[xy,J1 h hR,Jl];rfl
instance(L:gaa)[hL:Lok L](l:List dV)(n:Int):Ctr L prog 188 [] [.ab 2 aU l,.aa n] (.ac (xy l n)) [] True:=by
 refine Ctr.bd func188 ntmps188 λhp=>?_;refine AW.f0 0 λhf=>?_;have hf:=Nat.le_trans hf (hL.le 2);refine vU1 ?_;refine AW.aw [9] [0,1,7,8] (λm xs o=>∃k:Nat,xs=[.aa k]/\o=[]/\m=l.length - k/\k<=l.length/\∀x∈l.take k,ve n x=false) l.length [] trivial ⟨0,?_,rfl,rfl,?_,?_⟩ ?_
 ·rfl
 ·omega
 ·simp
 rintro m xs o ⟨k,rfl,rfl,rfl,hk,hR⟩
 (refine vU3 ?_ ?_ ?_<;>with_reducible repeat intro h)
 ·rw[xy,Ol baa (by simp[ve,h])];rfl
 ·exact⟨_,[_],[],Um,⟨k+1,rfl,rfl,rfl,Um,bL baa hR (by simp[ve];omega)⟩,rfl,trivial⟩
 ·rw[xy,J1 h hR,Jl];rfl
instance(L:gaa)(s:Str):Ctr L prog 168 [] [.str s] (.tup [.aa (jk s),.ac (lI s)]) [] True:=by
 refine Ctr.bd func168 ntmps168 λhp=>?_;refine AW.f0 0 λhf=>?_;have h1:=Ko s
 have h2:=Ko ((s.take s.length).drop (Int.toNat 1));rcases Nat.eq_zero_or_pos s.length with h0|h0
 ·obtain rfl:=eq_nil_of_length_eq_zero h0
  (refine vU1 ?_;intro h h)
  rfl
 (refine vU5 ?_ ?_ ?_ ?_ ?_<;>with_reducible repeat intro h)
 ·rw[lN]at h;simp only[jk,lI,wM baa,h,cond_false]
 ·rename_i h3 h4;rw[lN]at h4 ⊢;simp only[jk,lI,wM h3,h4,h,cond_true,if_true,Int.zero_sub]
 ·rename_i h3 h4;rw[lN]at h4 ⊢;simp only[jk,lI,wM h3,h4,h,cond_true,if_false]
 ·simp only[jk,lI,J9 baa,h,cond_false]
 ·rename_i h3 h4;simp only[jk,lI,J9 h3,h4,h,cond_true,if_false]
instance(L:gaa)(s:Str):Ctr L prog 187 [] [.str s] (.tup [.aa (jk s),.ac (lI s)]) [] True:=by
 refine Ctr.bd func187 ntmps187 λhp=>?_;refine AW.f0 0 λhf=>?_;rcases Nat.eq_zero_or_pos s.length with h0|h0
 ·obtain rfl:=eq_nil_of_length_eq_zero h0
  (refine vU1 ?_;intro h h)
  rfl
 have hs0:(0:Int)<(s.length:Int):=by omega
 have hsn:¬s=[]:=λe=>by rw[e]at h0;exact absurd h0 daa
 (refine vU4 ?_ ?_ ?_ ?_<;>with_reducible repeat intro h)
 ·rename_i h3;rw[lN]at h;simp only[jk,lI,wM ⟨hs0,h3.2⟩,h];rfl
 ·rename_i h3;rw[lN];rw[lN]at h;have ht:=wM ⟨hs0,h3.2⟩
  have hl:(s.drop 1).length<=s.length:=by simp
  have hne:=h;clear h;generalize s.drop 1=t at *;refine AW.aw [5,6] [0,4] (λm xs o=>∃(k:Nat) (v:Int),xs=[.aa v,.aa k]/\o=[]/\m=t.length - k/\k<=t.length/\cg (dgt t) k=true/\(gE t k<=1000000000->v=gE t k)/\(1000000000<gE t k->1000000000<v)/\0<=v/\v<=10000000009) t.length [] trivial ⟨0,0,?_,rfl,rfl,?_,rfl,λ_=>rfl,?_,?_,?_⟩ ?_
  ·rfl
  ·omega
  ·intro hh;simp[gE]at hh
  ·omega
  ·omega
  rintro m xs o ⟨k,v,rfl,rfl,rfl,hk,hR,e1,e2,hv1,hv2⟩
  (refine vU6 ?_ ?_ ?_ ?_ ?_ ?_<;>with_reducible repeat intro h)
  ·simp only[jk,lI,ht,Kn baa (show ¬(48<=at8 t k/\at8 t k<=57) by omega),cond_false]
  ·have e:=(J5 baa e1 e2).1 h;exact⟨_,[_,_],[],Um,⟨k+1,_,rfl,rfl,rfl,Um,cf hR (rm.2 baa),e.1,e.2,Um,Um⟩,rfl,trivial⟩
  ·have e:=(J5 baa e1 e2).2 h;exact⟨_,[_,_],[],Um,⟨k+1,_,rfl,rfl,rfl,Um,cf hR (rm.2 baa),e.1,e.2,Um,Um⟩,rfl,trivial⟩
  all_goals
   obtain⟨a,b⟩:=Ma hR hk baa hne e1 e2
  ·simp only[jk,lI,ht,a,decide_eq_false (show ¬v<=1000000000 by omega),cond_false]
  ·rename_i hv;simp only[jk,lI,ht,a,decide_eq_true hv,b hv,h,cond_true,if_true,Int.zero_sub]
  ·rename_i hv;simp only[jk,lI,ht,a,decide_eq_true hv,b hv,h,cond_true,if_false]
 ·exact absurd h hsn
 ·rename_i h3;have ht:=J9 λ_=>h3 h
  have hne:=h;refine AW.aw [5,6] [0,4] (λm xs o=>∃(k:Nat) (v:Int),xs=[.aa v,.aa k]/\o=[]/\m=s.length - k/\k<=s.length/\cg (dgt s) k=true/\(gE s k<=1000000000->v=gE s k)/\(1000000000<gE s k->1000000000<v)/\0<=v/\v<=10000000009) s.length [] trivial ⟨0,0,?_,rfl,rfl,?_,rfl,λ_=>rfl,?_,?_,?_⟩ ?_
  ·rfl
  ·omega
  ·intro hh;simp[gE]at hh
  ·omega
  ·omega
  rintro m xs o ⟨k,v,rfl,rfl,rfl,hk,hR,e1,e2,hv1,hv2⟩
  (refine vU5 ?_ ?_ ?_ ?_ ?_<;>with_reducible repeat intro h)
  ·simp only[jk,lI,ht,Kn baa (show ¬(48<=at8 s k/\at8 s k<=57) by omega),cond_false]
  ·have e:=(J5 baa e1 e2).1 h;exact⟨_,[_,_],[],Um,⟨k+1,_,rfl,rfl,rfl,Um,cf hR (rm.2 baa),e.1,e.2,Um,Um⟩,rfl,trivial⟩
  ·have e:=(J5 baa e1 e2).2 h;exact⟨_,[_,_],[],Um,⟨k+1,_,rfl,rfl,rfl,Um,cf hR (rm.2 baa),e.1,e.2,Um,Um⟩,rfl,trivial⟩
  all_goals
   obtain⟨a,b⟩:=Ma hR hk baa hne e1 e2
  ·simp only[jk,lI,ht,a,decide_eq_false (show ¬v<=1000000000 by omega),cond_false]
  ·rename_i hv;simp only[jk,lI,ht,a,decide_eq_true hv,b hv,(h3 hsn).1,cond_true,if_false]
end Go.Proofs
namespace Go.Ab
open Go.RowKit (Below)
open Go.Sort (grow)
def XY{P:Program}{L:gaa}{B:haa}{w:World}{name:String}{g:Nat}(hg:P.globalNamed name=some g)(hl:g<1048576)(h:L 1000000000=2097152+g)(ht:Tb L B w):Lib.TabIs P w name .u64 Lib.pow10Tab:=by obtain⟨_,T,z,e⟩:=ht 0 g _ rfl hl h;simp[Lib.TabIs,World.var?,hg,e]
def XW{P:Program}{L:gaa}{w:World}{name:String}{g:Nat}(hg:P.globalNamed name=some g)(hL:∀k c g',tabs k=some c->g'<1048576->L (1000000000+k)=2097152+g'->k=0/\g'=g)(h:Lib.TabIs P w name .u64 Lib.pow10Tab):Tb L (λb=>b<w.heap.size) w:=by
 intro k g' c hc hl hk;obtain⟨rfl,rfl⟩:=hL k c g' hc hl hk;obtain rfl:=Option.some.inj hc;simp only[Lib.TabIs,World.var?,hg,Option.bind_some]at h;split at h
 ·rename_i cs T z hh;refine⟨?_,T,z,?_⟩
  ·rcases Nat.lt_or_ge g' w.heap.size with q|q
   ·exact q
   ·rw[Array.getElem?_eq_none q]at hh;cases hh
  ·rw[hh,Option.some.inj h]
 ·cases h
def JM(u:Nat):(Lib.decDigits u).length<=u / 10+1:=by
 induction u using Nat.strongRecOn with
 | _ u ih =>
  rw[Lib.decDigits];split
  ·simp
  ·have:=ih (u / 10) Um;simp only[length_append,length_singleton];omega
def PI(n:Int)(h0:-9223372036854775808<=n)(h1:n<=9223372036854775807):(Lib.itoa n).length<=4611686018427387904:=by
 unfold Lib.itoa;split
 ·have:=JM n.natAbs;simp only[length_cons];omega
 ·have:=JM n.toNat;omega
def M0{L:gaa}{P:Program}{f:FuncId}{T:World->Prop}(hT:∀w,Tb L (λb=>b<w.heap.size) w->T w){n:Int}(h0:-9223372036854775808<=n)(h1:n<=9223372036854775807)
  (h:∀w,T w->Calls P f #[.int .i64 n] w λe w'=>e=.returned (.string ⟨(Lib.itoa n).toArray⟩)/\∃k os,w'=grow (w.drewN k) os):gj L P f [.v (.int .i64 n)] (.str (Lib.itoa n)):=by
 intro w F vs hF ht hr
 obtain rfl:vs=[.int .i64 n]:=by
  simp only[au,Rep]at hr;obtain⟨y,vs',f1,f2,rfl,_,⟨rfl,_⟩,rfl,_⟩:=hr;rfl
 refine(h w (hT w ht)).mono ?_;rintro e w' ⟨rfl,k,os,rfl⟩
 have hb:Below w.heap.size w (grow (w.drewN k) os):=by
  refine⟨rfl,rfl,rfl,by simp[grow,World.drewN],λk hk=>?_⟩;simp only[grow,World.drewN];exact Array.getElem?_append_left hk
 exact⟨_,F,[],rfl,hb,λ_ h=>h,λb h=>.inl h,by simp only[Rep];exact⟨trivial,PI n h0 h1,trivial⟩,Xp,Xp⟩
end Go.Ab
namespace Go.Proofs
open Go.Shelf
def Tryz.Ib:Go.Shelf.Ren:=⟨fun|171=>245|243=>285|246=>314|283=>334|284=>335|285=>336|286=>337|129=>354|317=>353|318=>355|319=>356|320=>357|337=>367|338=>368|n=>n,fun|3=>3|9=>9|2=>2|4=>4|171=>385|0=>0|53=>386|37=>205|5=>5|173=>389|212=>401|51=>402|20=>20|213=>403|46=>375|232=>412|233=>413|n=>n,fun|17=>0|18=>2|19=>3|n=>n⟩
def Tryz.SZ:Go.Proofs.LaysM.n171 prog Tryz.Ib:={
 mixed:=by kernel_rfl
 f129:=func354.trans (congrArg some caa)
 f171:=func245.trans (congrArg some caa)
 f243:=func285.trans (congrArg some caa)
 f246:=func314.trans (congrArg some caa)
 f283:=func334.trans (congrArg some caa)
 f284:=func335.trans (congrArg some caa)
 f285:=func336.trans (congrArg some caa)
 f286:=func337.trans (congrArg some caa)
 f317:=func353.trans (congrArg some caa)
 f318:=func355.trans (congrArg some caa)
 f319:=func356.trans (congrArg some caa)
 f320:=func357.trans (congrArg some caa)
 f337:=func367.trans (congrArg some caa)
 f338:=func368.trans (congrArg some caa)
 t0:=Tryz.underlying0
 a0:=Tryz.isAgg0
 z0:=Tryz.sizeOf0
 v0:=Tryz.zeroValue0
 t2:=Tryz.underlying2
 a2:=Tryz.isAgg2
 z2:=Tryz.sizeOf2
 v2:=Tryz.zeroValue2
 t3:=Tryz.underlying3
 a3:=Tryz.isAgg3
 z3:=Tryz.sizeOf3
 v3:=Tryz.zeroValue3
 t4:=Tryz.underlying4
 a4:=Tryz.isAgg4
 z4:=Tryz.sizeOf4
 v4:=Tryz.zeroValue4
 t5:=Tryz.underlying5
 a5:=Tryz.isAgg5
 z5:=Tryz.sizeOf5
 v5:=Tryz.zeroValue5
 t9:=Tryz.underlying9
 a9:=Tryz.isAgg9
 z9:=Tryz.sizeOf9
 v9:=Tryz.zeroValue9
 t20:=Tryz.underlying20
 a20:=Tryz.isAgg20
 z20:=Tryz.sizeOf20
 v20:=Tryz.zeroValue20
 t37:=Tryz.underlying205
 a37:=Tryz.isAgg205
 z37:=Tryz.sizeOf205
 v37:=Tryz.zeroValue205
 t46:=Tryz.underlying375
 a46:=Tryz.isAgg375
 z46:=Tryz.sizeOf375
 v46:=Tryz.zeroValue375
 t51:=Tryz.underlying402
 a51:=Tryz.isAgg402
 z51:=Tryz.sizeOf402
 v51:=Tryz.zeroValue402
 t53:=Tryz.underlying386
 a53:=Tryz.isAgg386
 z53:=Tryz.sizeOf386
 v53:=Tryz.zeroValue386
 t171:=Tryz.underlying385
 a171:=Tryz.isAgg385
 z171:=Tryz.sizeOf385
 v171:=Tryz.zeroValue385
 t173:=Tryz.underlying389
 a173:=Tryz.isAgg389
 z173:=Tryz.sizeOf389
 v173:=Tryz.zeroValue389
 t212:=Tryz.underlying401
 a212:=Tryz.isAgg401
 z212:=Tryz.sizeOf401
 v212:=Tryz.zeroValue401
 t213:=Tryz.underlying403
 a213:=Tryz.isAgg403
 z213:=Tryz.sizeOf403
 t232:=Tryz.underlying412
 a232:=Tryz.isAgg412
 z232:=Tryz.sizeOf412
 v232:=Tryz.zeroValue412
 t233:=Tryz.underlying413
 a233:=Tryz.isAgg413
 z233:=Tryz.sizeOf413
 v233:=Tryz.zeroValue413
 g17:=by kernel_rfl
 g18:=by kernel_rfl
 g19:=by kernel_rfl
 i0:=by kernel_rfl
 i2:=by kernel_rfl
 i3:=by kernel_rfl
 i4:=by kernel_rfl
 i5:=by kernel_rfl
 i9:=by kernel_rfl
 i20:=by kernel_rfl
 i37:=by kernel_rfl
 i46:=by kernel_rfl
 i51:=by kernel_rfl
 i53:=by kernel_rfl
 i171:=by kernel_rfl
 i173:=by kernel_rfl
 i212:=by kernel_rfl
 i232:=by kernel_rfl
 i233:=by kernel_rfl
 m17:=by kernel_rfl
 m18:=by kernel_rfl
 m19:=by kernel_rfl }
def Tryz.Ic:Go.Shelf.Ren:=⟨fun|137=>317|217=>339|266=>360|n=>n,fun|9=>9|5=>5|3=>3|n=>n,fun|n=>n⟩
def Tryz.S0:Go.Proofs.Lays.n137 prog Tryz.Ic:={
 mixed:=by kernel_rfl
 f137:=func317.trans (congrArg some caa)
 f217:=func339.trans (congrArg some caa)
 f266:=func360.trans (congrArg some caa)
 t3:=Tryz.underlying3
 a3:=Tryz.isAgg3
 z3:=Tryz.sizeOf3
 v3:=Tryz.zeroValue3
 t5:=Tryz.underlying5
 a5:=Tryz.isAgg5
 z5:=Tryz.sizeOf5
 v5:=Tryz.zeroValue5
 t9:=Tryz.underlying9
 a9:=Tryz.isAgg9
 z9:=Tryz.sizeOf9
 v9:=Tryz.zeroValue9 }
open Go.Ab Go.Dt
set_option maxHeartbeats 1000000
instance(n:Int):Ctr lim prog 245 [] [.aa n] (.str (Lib.itoa n)) [] (-9223372036854775808<=n/\n<=9223372036854775807) :=
 Ctr.kK (aT 245) λhp=>M0 (λw ht=>XY (g:=0) caa daa rfl ht) hp.1 hp.2 λw hT=>Any.strconv_Itoa Tryz.SZ n hp.1 hp.2 w hT
instance(n:Int):Ctr lim prog 189 [] [.aa n] (.str (Lib.itoa n)) [] (-9223372036854775808<=n/\n<=9223372036854775807):=by
 refine Ctr.bd func189 ntmps189 λhp=>?_
 all_goals exact uU
def gj.Zl{L:gaa}{f:FuncId}{args:List AV}{vs0:List Value}{res:AV}{v:Value}(ha:∀F w vs,au L F w args vs []->vs=vs0)(hr:∀F w,Rep L F w res v [])(h:∀w,Calls prog f vs0.toArray w λe w'=>e=.returned v/\w'=w):gj L prog f args res:=by intro w F vs hF ht hv;obtain rfl:=ha F w vs hv;refine(h w).mono ?_;rintro e w' ⟨rfl,rfl⟩;exact⟨_,F,[],rfl,Go.RowKit.Below.refl _ _,λ_ h=>h,λb h=>.inl h,hr F _,Xp,Xp⟩
instance(L:gaa)(s:Str)(c:Int):Ctr L prog 317 [] [.str s,.v (.int .u8 c)] (.aa (Lib.indexByte s (UInt8.ofNat c.toNat))) [] True :=
 Ctr.kK (aT 317) λ_=>gj.Zl (vs0:=[.string ⟨s.toArray⟩,.int .u8 c]) (v:=.int .i64 (Lib.indexByte s (UInt8.ofNat c.toNat))) (λF w vs h=>by
  simp only[au,Rep]at h;obtain⟨y,vs',f1,f2,rfl,_,⟨rfl,_⟩,y2,vs2,f3,f4,rfl,_,⟨rfl,_⟩,rfl,_⟩:=h
  rfl) (λF w=>by simp[Rep]) λw=>by
  have h:=Any.strings_IndexByte Tryz.S0 ⟨s.toArray⟩ c w;exact h
open Go.Ab Go.Dt
section
attribute [local go_sem] bE.eta
instance(n:Nat)(a g:Nat->Bool):fI lim prog 318 1 (bC n a) [.sl false 1 (bC n g)] (.ac (grew n g a)) (bC n (orB a g)) (0<n/\n<=4611686018427387904):=by
 refine fI.of (aT 318) (λb=>?_) (λe=>?_) (by simp[eC]) (gz _ _) (gz _ _)
 ·simp only[eC,jz];refine Ctr.bd func318 ntmps318 λhp=>?_;refine vU1 ?_;refine AW.aw [5,9] [0,1,8] (λm xs o=>∃k:Nat,xs=[.ac (grew k g a),.aa k]/\o=[(b,some (bC n (joK a g k)))]/\m=n - k/\k<=n) n [(b,some (bC n a))] (aE rfl) ⟨0,rfl,?_,rfl,?_⟩ ?_
  ·rw[PG]
  ·omega
  rintro m xs o ⟨k,rfl,rfl,rfl,hk⟩
  (refine vU4 ?_ ?_ ?_ ?_<;>with_reducible repeat intro h)
  ·rw[MZ]at h;refine⟨_,[_,_],_,Um,⟨k+1,rfl,rfl,rfl,Um⟩,by rw[sU,h.1,h.2,Bool.not_false,Bool.and_self,Bool.or_true];rfl,aE ?_⟩;rw[Te h.1]
  ·rw[MZ]at h;refine⟨_,[_,_],_,Um,⟨k+1,rfl,rfl,rfl,Um⟩,?_,aE ?_⟩
   ·rw[sU]
    cases h1:g k with
    | false=>rw[Bool.false_and,Bool.or_false];rfl
    | true=>rw[h h1,Bool.not_true,Bool.and_false,Bool.or_false];rfl
   ·rw[PH h]
  ·rw[show k=n by omega]
  ·rw[Tf n a g h]
 ·have e0:n=0:=by have:=congrArg List.length e;simpa[eC]using this
  subst e0;exact⟨⟨(aT 318),λhp=>absurd hp.1 Um⟩,rfl⟩
theorem DI:∀(n:Nat) (op:Int) (t:Str) (ks:List bE) (s:Str) (f:Nat->Bool),Ctr lim prog 287 [] [.agg [.aa op,.str t,.sl false 3 (ks.map cq)],.str s,.sl false 1 (bC (s.length+1) f)] (.sl true 1 (bC (s.length+1) (ends s (.mk op t ks) f))) [] (oX ks<n/\s.length<=1048576)
 | 0,op,t,ks,s,f=>⟨(aT 287),λh=>absurd h.1 (Nat.not_lt_zero _)⟩
 | n+1,op,t,ks,s,f=>by
  have ih:=DI n;refine Ctr.bd func287 ntmps287 λhp=>?_;have hls:=hp.2
  have hq:=λk=>xb (l:=ks) (k:=k)
  have hq2:=λk=>Bn (at_ ks k);by_cases h1:op=1
  ·subst h1;rw[kM,if_pos rfl]
   (refine vX1 ?_;intro h h)
   rename_i b;refine AW.aw [8] [1,2,3,7] (λm xs o=>∃k:Nat,xs=[.aa k]/\o=[(b,some (bC (s.length+1) (chK t s f k)))]/\m=s.length - k/\k<=s.length) s.length [(b,some (bC (s.length+1) (chK t s f 0)))] (aE (HE _ _ _ _).symm) ⟨0,?_,rfl,rfl,?_⟩ ?_
   ·rfl
   ·omega
   rintro m xs o ⟨k,rfl,rfl,rfl,hk⟩
   (refine vX2 ?_ ?_<;>intro h)
   ·exact⟨_,[_],_,Um,⟨k+1,rfl,rfl,rfl,Um⟩,rfl,aE (JX (by rw[HK])).symm⟩
   ·rw[JY Um];refine AW.ret (EndsG.imp (Imp.fold 6 (b:=b) (len:=s.length+1) (sz:=1) (cells:=bC (s.length+1) (chE t s f)) (l:=bC (s.length+1) (chE t s f)) gO gO (eC _ _) (by rw[jz,Nat.mul_one,gW]) (gz _ _) ?_));refine EndsG.fin rfl ?_;exact gO
  by_cases h2:op=2
  ·subst h2;rw[kM,if_neg daa,if_pos rfl]
   (refine vX1 ?_;intro h h h)
   rename_i b g1;refine AW.imp (Imp.fold 7 (b:=b) (len:=s.length+1) (sz:=1) (cells:=bC (s.length+1) (f)) (l:=bC (s.length+1) (f)) gO gO (eC _ _) (by rw[jz,Nat.mul_one,gW]) (gz _ _) ?_)
   try simp(maxSteps:=2000000) (disch:=omega)only[go_sem]
   refine AW.f0 50 λhf=>?_;refine AW.aw [7,52] [1,50,51] (λm xs o=>∃(k:Nat) (a:Nat->Bool),xs=[.sl true 1 (bC (s.length+1) a),.aa k]/\o=[]/\m=ks.length - k/\k<=ks.length/\qn s (ks.drop k) a=qn s ks f) ks.length [] trivial ⟨0,f,?_,rfl,rfl,?_,rfl⟩ ?_
   ·rfl
   ·omega
   rintro m xs o ⟨k,a,rfl,rfl,rfl,hk,hR⟩;have hqk:=hq k
   have PV:=hq2 k
   (refine vU2 ?_ ?_<;>with_reducible repeat intro h)
   ·exact⟨_,[_,_],[],Um,⟨k+1,_,rfl,rfl,rfl,Um,by rw[<- hR,DD (k:=k) baa]⟩,rfl,trivial⟩
   ·rw[<- hR,Fu h]
  by_cases h3:op=3
  ·subst h3;rw[kM,if_neg daa,if_neg daa,if_pos rfl]
   (refine vX1 ?_;intro h h h h)
   rename_i b g1 g2;refine AW.imp (Imp.fold 7 (b:=b) (len:=s.length+1) (sz:=1) (cells:=bC (s.length+1) (λ_=>false)) (l:=bC (s.length+1) (λ_=>false)) gO gO (eC _ _) (by rw[jz,Nat.mul_one,gW]) (gz _ _) ?_)
   try simp(maxSteps:=2000000) (disch:=omega)only[go_sem]
   refine AW.f0 64 λhf=>?_;refine AW.aw [7,66] [1,2,64,65] (λm xs o=>∃(k:Nat) (a:Nat->Bool),xs=[.sl true 1 (bC (s.length+1) a),.aa k]/\o=[]/\m=ks.length - k/\k<=ks.length/\qG s (ks.drop k) f a=qG s ks f (λ_=>false)) ks.length [] trivial ⟨0,_,?_,rfl,rfl,?_,rfl⟩ ?_
   ·rfl
   ·omega
   rintro m xs o ⟨k,a,rfl,rfl,rfl,hk,hR⟩;have hqk:=hq k
   have PV:=hq2 k
   (refine vU2 ?_ ?_<;>with_reducible repeat intro h)
   ·exact⟨_,[_,_],[],Um,⟨k+1,_,rfl,rfl,rfl,Um,by rw[<- hR,El (k:=k) baa]⟩,rfl,trivial⟩
   ·rw[<- hR,HT h]
  have hq0:=hq 0
  have abP:=hq2 0;by_cases h4:op=4
  ·subst h4;rw[kM,if_neg daa,if_neg daa,if_neg daa,if_pos daa]
   (refine vX2 ?_ ?_<;>with_reducible repeat intro h)
   ·rename_i b g1 g2 g3 g4 g5;rw[uX Um];refine AW.ret (EndsG.imp (Imp.fold 6 (b:=b) (len:=s.length+1) (sz:=1) (cells:=bC (s.length+1) (f)) (l:=bC (s.length+1) (f)) gO gO (eC _ _) (by rw[jz,Nat.mul_one,gW]) (gz _ _) ?_));refine EndsG.fin rfl ?_;exact gO
   ·rename_i b g1 g2 g3 g4 g5;rw[sA Um,if_pos rfl];refine AW.imp (Imp.fold 7 (b:=b) (len:=s.length+1) (sz:=1) (cells:=bC (s.length+1) (f)) (l:=bC (s.length+1) (f)) gO gO (eC _ _) (by rw[jz,Nat.mul_one,gW]) (gz _ _) ?_)
    try simp(maxSteps:=2000000) (disch:=omega)only[go_sem]
    refine AW.aw [7] [1,3] (λm xs o=>∃a:Nat->Bool,xs=[.sl true 1 (bC (s.length+1) a)]/\o=[]/\mo (s.length+1) (ends s (at_ ks 0)) m a=mo (s.length+1) (ends s (at_ ks 0)) (s.length+1) f/\pM a (s.length+1)<=m) (s.length+1) [] trivial ⟨f,?_,rfl,rfl,Dl _ _⟩ ?_
    ·rfl
    rintro m xs o ⟨a,rfl,rfl,hR,hm⟩
    (refine vU2 ?_ ?_<;>intro h)
    ·obtain⟨j,rfl,e1,e2⟩:=D2 h hm;exact⟨j,[_],[],Um,⟨_,rfl,rfl,by rw[<- e1];exact hR,e2⟩,rfl,trivial⟩
    ·rw[<- hR,Gw h,lu (JA h)]
  by_cases h5:op=5
  ·subst h5;rw[kM,if_neg daa,if_neg daa,if_neg daa,if_pos daa]
   (refine vX2 ?_ ?_<;>with_reducible repeat intro h)
   ·rename_i b g1 g2 g3 g4 g5;rw[uX Um];refine AW.ret (EndsG.imp (Imp.fold 6 (b:=b) (len:=s.length+1) (sz:=1) (cells:=bC (s.length+1) (f)) (l:=bC (s.length+1) (f)) gO gO (eC _ _) (by rw[jz,Nat.mul_one,gW]) (gz _ _) ?_));refine EndsG.fin rfl ?_;exact gO
   ·rename_i b g1 g2 g3 g4 g5;rw[sA Um,if_neg daa];refine AW.imp (Imp.fold 7 (b:=b) (len:=s.length+1) (sz:=1) (cells:=bC (s.length+1) (f)) (l:=bC (s.length+1) (f)) gO gO (eC _ _) (by rw[jz,Nat.mul_one,gW]) (gz _ _) ?_)
    try simp(maxSteps:=2000000) (disch:=omega)only[go_sem]
    refine AW.aw [7] [1,3] (λm xs o=>xs=[.sl true 1 (bC (s.length+1) f)]/\o=[]) 0 [] trivial ⟨?_,rfl⟩ ?_
    ·rfl
    rintro m xs o ⟨rfl,rfl⟩
    all_goals exact uU
  rw[kM,if_neg h1,if_neg h2,if_neg h3,if_neg Um]
  (refine vX1 ?_;intro h h h h h h)
  rename_i b g1 g2 g3 g4;refine AW.ret (EndsG.imp (Imp.fold 6 (b:=b) (len:=s.length+1) (sz:=1) (cells:=bC (s.length+1) (λ_=>false)) (l:=bC (s.length+1) (λ_=>false)) gO gO (eC _ _) (by rw[jz,Nat.mul_one,gW]) (gz _ _) ?_));refine EndsG.fin rfl ?_;exact gO
end
section
attribute [local go_sem] bE.eta
instance(n:Nat)(a g:Nat->Bool):Ctr lim prog 310 [] [.sl false 1 (bC n a),.sl false 1 (bC n g)] (.sl true 1 (bC n (orB a g))) [] (n<=1099511627776):=by
 refine Ctr.bd func310 ntmps310 λhp=>?_
 (refine vX1 ?_;intro h)
 obtain⟨b,rfl⟩:∃b,b=h:=⟨_,rfl⟩
 refine AW.aw [6] [0,1,5] (λm xs o=>∃k:Nat,xs=[.aa k]/\o=[(b,some (bC n (boK a g k)))]/\m=n - k/\k<=n) n [(b,some (bC n (boK a g 0)))] (aE (QB _ _ _).symm) ⟨0,?_,rfl,rfl,?_⟩ ?_
 ·rfl
 ·omega
 rintro m xs o ⟨k,rfl,rfl,rfl,hk⟩
 (refine vX2 ?_ ?_<;>intro h)
 ·exact⟨_,[_],_,Um,⟨k+1,rfl,rfl,rfl,Um⟩,rfl,aE (TQ rfl).symm⟩
 ·rw[TR Um];refine AW.ret (EndsG.imp (Imp.fold 4 (b:=b) (len:=n) (sz:=1) (cells:=bC n (orB a g)) (l:=bC n (orB a g)) gO gO (eC _ _) (by rw[jz,Nat.mul_one,gW]) (gz _ _) ?_));refine EndsG.fin rfl ?_;exact gO
theorem Gr:∀(n:Nat) (op:Int) (t:Str) (ks:List bE) (s:Str) (f:Nat->Bool),Ctr lim prog 273 [] [.agg [.aa op,.str t,.sl false 3 (ks.map cq)],.str s,.sl false 1 (bC (s.length+1) f)] (.sl true 1 (bC (s.length+1) (ends s (.mk op t ks) f))) [] (oX ks<n/\s.length<=1048576)
 | 0,op,t,ks,s,f=>⟨(aT 273),λh=>absurd h.1 (Nat.not_lt_zero _)⟩
 | n+1,op,t,ks,s,f=>by
  have ih:=Gr n;refine Ctr.bd func273 ntmps273 λhp=>?_;have hls:=hp.2
  have hq:=λk=>xb (l:=ks) (k:=k)
  have hq2:=λk=>Bn (at_ ks k);by_cases h1:op=1
  ·subst h1;rw[kM,if_pos rfl]
   (refine vX1 ?_;intro h h)
   rename_i b;refine AW.f0 3 λhf=>?_;refine AW.aw [8] [1,2,3,7] (λm xs o=>∃k:Nat,xs=[.aa k]/\o=[(b,some (bC (s.length+1) (chK t s f k)))]/\m=s.length - k/\k<=s.length) s.length [(b,some (bC (s.length+1) (chK t s f 0)))] (aE (HE _ _ _ _).symm) ⟨0,?_,rfl,rfl,?_⟩ ?_
   ·rfl
   ·omega
   rintro m xs o ⟨i,rfl,rfl,rfl,hi⟩
   (refine vX2 ?_ ?_<;>intro h)
   ·rename_i hi2;refine AW.aw [9] [1,2,3,7,8] (λm xs o=>∃k:Nat,xs=[.aa k]/\o=[(b,some (bC (s.length+1) (vD t s f i k)))]/\m=t.length - k/\k<=t.length) t.length [(b,some (bC (s.length+1) (vD t s f i 0)))] (aE (Nj _ _ _ _ _).symm) ⟨0,?_,rfl,rfl,?_⟩ ?_
    ·rfl
    ·omega
    rintro m xs o ⟨k,rfl,rfl,rfl,hk⟩
    (refine vX2 ?_ ?_<;>intro h)
    ·exact⟨_,[_],_,Um,⟨k+1,rfl,rfl,rfl,Um⟩,rfl,aE (PN (by rw[Tk,TX,PO h.1 h.2])).symm⟩
    ·refine⟨_,[_],_,Um,⟨i+1,rfl,rfl,rfl,Um⟩,rfl,aE ?_⟩;rw[<- JX (Tm h)];rfl
   ·rw[JY Um];refine AW.ret (EndsG.imp (Imp.fold 6 (b:=b) (len:=s.length+1) (sz:=1) (cells:=bC (s.length+1) (chE t s f)) (l:=bC (s.length+1) (chE t s f)) gO gO (eC _ _) (by rw[jz,Nat.mul_one,gW]) (gz _ _) ?_));refine EndsG.fin rfl ?_;exact gO
  by_cases h2:op=2
  ·subst h2;rw[kM,if_neg daa,if_pos rfl]
   (refine vX1 ?_;intro h h h)
   rename_i b g1;refine AW.imp (Imp.fold 7 (b:=b) (len:=s.length+1) (sz:=1) (cells:=bC (s.length+1) (f)) (l:=bC (s.length+1) (f)) gO gO (eC _ _) (by rw[jz,Nat.mul_one,gW]) (gz _ _) ?_)
   try simp(maxSteps:=2000000) (disch:=omega)only[go_sem]
   refine AW.f0 3 λhf=>?_;refine AW.aw [7,10] [1,3] (λm xs o=>∃(k:Nat) (a:Nat->Bool),xs=[.sl true 1 (bC (s.length+1) a),.aa k]/\o=[]/\m=ks.length - k/\k<=ks.length/\qn s (ks.drop k) a=qn s ks f) ks.length [] trivial ⟨0,f,?_,rfl,rfl,?_,rfl⟩ ?_
   ·rfl
   ·omega
   rintro m xs o ⟨k,a,rfl,rfl,rfl,hk,hR⟩;have hqk:=hq k
   have PV:=hq2 k
   (refine vU2 ?_ ?_<;>intro h)
   ·exact⟨_,[_,_],[],Um,⟨k+1,_,rfl,rfl,rfl,Um,by rw[<- hR,DD (k:=k) baa]⟩,rfl,trivial⟩
   ·rw[<- hR,Fu h]
  by_cases h3:op=3
  ·subst h3;rw[kM,if_neg daa,if_neg daa,if_pos rfl]
   (refine vX1 ?_;intro h h h h)
   rename_i b g1 g2;refine AW.imp (Imp.fold 7 (b:=b) (len:=s.length+1) (sz:=1) (cells:=bC (s.length+1) (λ_=>false)) (l:=bC (s.length+1) (λ_=>false)) gO gO (eC _ _) (by rw[jz,Nat.mul_one,gW]) (gz _ _) ?_)
   try simp(maxSteps:=2000000) (disch:=omega)only[go_sem]
   refine AW.f0 3 λhf=>?_;refine AW.aw [7,11] [1,2,3] (λm xs o=>∃(k:Nat) (a:Nat->Bool),xs=[.sl true 1 (bC (s.length+1) a),.aa k]/\o=[]/\m=ks.length - k/\k<=ks.length/\qG s (ks.drop k) f a=qG s ks f (λ_=>false)) ks.length [] trivial ⟨0,_,?_,rfl,rfl,?_,rfl⟩ ?_
   ·rfl
   ·omega
   rintro m xs o ⟨k,a,rfl,rfl,rfl,hk,hR⟩;have hqk:=hq k
   have PV:=hq2 k
   (refine vU2 ?_ ?_<;>intro h)
   ·exact⟨_,[_,_],[],Um,⟨k+1,_,rfl,rfl,rfl,Um,by rw[<- hR,El (k:=k) baa]⟩,rfl,trivial⟩
   ·rw[<- hR,HT h]
  have hq0:=hq 0
  have abP:=hq2 0;by_cases h4:op=4
  ·subst h4;rw[kM,if_neg daa,if_neg daa,if_neg daa,if_pos daa]
   (refine vX1 ?_;intro h h h h h h)
   rename_i b g1 g2 g3 g4;refine AW.imp (Imp.fold 7 (b:=b) (len:=s.length+1) (sz:=1) (cells:=bC (s.length+1) (f)) (l:=bC (s.length+1) (f)) gO gO (eC _ _) (by rw[jz,Nat.mul_one,gW]) (gz _ _) ?_)
   try simp(maxSteps:=2000000) (disch:=omega)only[go_sem]
   by_cases hk1:ks.length=1
   ·rw[sA hk1,if_pos rfl];refine AW.aw [7] [1,3] (λm xs o=>∃a:Nat->Bool,xs=[.sl true 1 (bC (s.length+1) a)]/\o=[]/\mo (s.length+1) (ends s (at_ ks 0)) m a=mo (s.length+1) (ends s (at_ ks 0)) (s.length+1) f/\pM a (s.length+1)<=m) (s.length+1) [] trivial ⟨f,?_,rfl,rfl,Dl _ _⟩ ?_
    ·rfl
    rintro m xs o ⟨a,rfl,rfl,hR,hm⟩
    (refine vX1 ?_;intro h)
    refine AW.imp (Imp.unfold 7 (sz:=1) (l:=bC (s.length+1) a) gO (EV _ _) (gz _ _) λb1 hb1=>?_);refine AW.imp (Imp.unfold 12 (sz:=1) (l:=bC (s.length+1) (orB a (ends s (at_ ks 0) a))) gO (EV _ _) (gz _ _) λb2 hb2=>?_);have hb2:=hb2.nf;refine gS ?_;simp only[go_sem]at hb2;refine AW.aw [13,14] [1,3,7,12] (λm xs o=>∃k:Nat,xs=[.ac (grew k (ends s (at_ ks 0) a) a),.aa k]/\o=[(b2,some (bC (s.length+1) (orB a (ends s (at_ ks 0) a)))),(b1,some (bC (s.length+1) a))]/\m=s.length+1 - k/\k<=s.length+1) (s.length+1) [(b2,some (bC (s.length+1) (orB a (ends s (at_ ks 0) a)))),(b1,some (bC (s.length+1) a))] ?_ ⟨0,?_,rfl,?_,?_⟩ ?_
    ·exact gX Um rfl rfl
    ·rfl
    ·omega
    ·omega
    rintro m2 xs o ⟨k,rfl,rfl,rfl,hk⟩;refine vK1 ?_;refine AW.c (λh=>?_) λh=>?_
    ·refine vX1 ?_;exact⟨_,[_,_],_,Um,⟨k+1,rfl,rfl,rfl,Um⟩,by rw[Jj,sU];rfl,gX Um rfl rfl⟩
    ·refine AW.imp (Imp.fold 12 (b:=b2) (len:=s.length+1) (sz:=1) (cells:=bC (s.length+1) (orB a (ends s (at_ ks 0) a))) (l:=bC (s.length+1) (orB a (ends s (at_ ks 0) a))) gO gO (eC _ _) (by rw[jz,Nat.mul_one,gW]) (gz _ _) ?_)
     try simp(maxSteps:=2000000) (disch:=omega)only[go_sem]
     (refine vU2 ?_ ?_<;>intro h)
     ·obtain rfl:k=s.length+1:=by omega
      have h':=h.resolve_right daa;rw[<- hR,Gw h',lu (JA h')]
     ·obtain rfl:k=s.length+1:=by omega
      obtain⟨j,rfl,e1,e2⟩:=D2 h.1 hm;exact⟨j,[_],[],Um,⟨_,rfl,rfl,by rw[<- e1];exact hR,e2⟩,rfl,trivial⟩
   ·rw[uX hk1];refine AW.aw [7] [1,3] (λm xs o=>xs=[.sl true 1 (bC (s.length+1) f)]/\o=[]) 0 [] trivial ⟨?_,rfl⟩ ?_
    ·rfl
    rintro m xs o ⟨rfl,rfl⟩
    all_goals exact uU
  by_cases h5:op=5
  ·subst h5;rw[kM,if_neg daa,if_neg daa,if_neg daa,if_pos daa]
   (refine vX1 ?_;intro h h h h h h)
   rename_i b g1 g2 g3 g4;refine AW.imp (Imp.fold 7 (b:=b) (len:=s.length+1) (sz:=1) (cells:=bC (s.length+1) (f)) (l:=bC (s.length+1) (f)) gO gO (eC _ _) (by rw[jz,Nat.mul_one,gW]) (gz _ _) ?_)
   try simp(maxSteps:=2000000) (disch:=omega)only[go_sem]
   by_cases hk1:ks.length=1
   ·rw[sA hk1,if_neg daa];refine AW.aw [7] [1,3] (λm xs o=>∃a:Nat->Bool,xs=[.sl true 1 (bC (s.length+1) a)]/\o=[]/\a=f) (0) [] trivial ⟨f,?_,rfl,rfl⟩ ?_
    ·rfl
    rintro m xs o ⟨a,rfl,rfl,rfl⟩
    (refine vX1 ?_;intro h)
    refine AW.imp (Imp.unfold 7 (sz:=1) (l:=bC (s.length+1) a) gO (EV _ _) (gz _ _) λb1 hb1=>?_);refine AW.imp (Imp.unfold 12 (sz:=1) (l:=bC (s.length+1) (orB a (ends s (at_ ks 0) a))) gO (EV _ _) (gz _ _) λb2 hb2=>?_);have hb2:=hb2.nf;refine gS ?_;simp only[go_sem]at hb2;refine AW.aw [13,14] [1,3,7,12] (λm xs o=>∃k:Nat,xs=[.ac (grew k (ends s (at_ ks 0) a) a),.aa k]/\o=[(b2,some (bC (s.length+1) (orB a (ends s (at_ ks 0) a)))),(b1,some (bC (s.length+1) a))]/\m=s.length+1 - k/\k<=s.length+1) (s.length+1) [(b2,some (bC (s.length+1) (orB a (ends s (at_ ks 0) a)))),(b1,some (bC (s.length+1) a))] ?_ ⟨0,?_,rfl,?_,?_⟩ ?_
    ·exact gX Um rfl rfl
    ·rfl
    ·omega
    ·omega
    rintro m2 xs o ⟨k,rfl,rfl,rfl,hk⟩;refine vK1 ?_;refine AW.c (λh=>?_) λh=>?_
    ·refine vX1 ?_;exact⟨_,[_,_],_,Um,⟨k+1,rfl,rfl,rfl,Um⟩,by rw[Jj,sU];rfl,gX Um rfl rfl⟩
    ·refine AW.imp (Imp.fold 12 (b:=b2) (len:=s.length+1) (sz:=1) (cells:=bC (s.length+1) (orB a (ends s (at_ ks 0) a))) (l:=bC (s.length+1) (orB a (ends s (at_ ks 0) a))) gO gO (eC _ _) (by rw[jz,Nat.mul_one,gW]) (gz _ _) ?_)
     try simp(maxSteps:=2000000) (disch:=omega)only[go_sem]
     all_goals exact uU
   ·rw[uX hk1];refine AW.aw [7] [1,3] (λm xs o=>xs=[.sl true 1 (bC (s.length+1) f)]/\o=[]) 0 [] trivial ⟨?_,rfl⟩ ?_
    ·rfl
    rintro m xs o ⟨rfl,rfl⟩
    all_goals exact uU
  rw[kM,if_neg h1,if_neg h2,if_neg h3,if_neg Um]
  (refine vX1 ?_;intro h h h h h h)
  rename_i b g1 g2 g3 g4;refine AW.ret (EndsG.imp (Imp.fold 6 (b:=b) (len:=s.length+1) (sz:=1) (cells:=bC (s.length+1) (λ_=>false)) (l:=bC (s.length+1) (λ_=>false)) gO gO (eC _ _) (by rw[jz,Nat.mul_one,gW]) (gz _ _) ?_));refine EndsG.fin rfl ?_;exact gO
theorem Ml(op:Int)(t:Str)(ks:List bE)(s:Str)(f:Nat->Bool):Ctr lim prog 287 [] [.agg [.aa op,.str t,.sl false 3 (ks.map cq)],.str s,.sl false 1 (bC (s.length+1) f)] (.sl true 1 (bC (s.length+1) (ends s (.mk op t ks) f))) [] (s.length<=1048576):=⟨(aT 287),λh=>(DI (oX ks+1) op t ks s f).out ⟨Um,h⟩⟩
theorem Py(op:Int)(t:Str)(ks:List bE)(s:Str)(f:Nat->Bool):Ctr lim prog 273 [] [.agg [.aa op,.str t,.sl false 3 (ks.map cq)],.str s,.sl false 1 (bC (s.length+1) f)] (.sl true 1 (bC (s.length+1) (ends s (.mk op t ks) f))) [] (s.length<=1048576):=⟨(aT 273),λh=>(Gr (oX ks+1) op t ks s f).out ⟨Um,h⟩⟩
end
end Go.Proofs
namespace Go.Dt
open Go.Ab
def Kz(p s:Str):Bool:=(fM p).2 && Pf (fM p).1 s
end Go.Dt
namespace Go.Proofs
open Go.Ab Go.Dt
attribute [local go_sem] bE.eta
instance(op:Int)(t:Str)(ks:List bE)(s:Str)(f:Nat->Bool):xX lim prog 287 [.agg [.aa op,.str t,.sl false 3 (ks.map cq)],.str s,.sl false 1 (bC (s.length+1) f)] (.sl false 1 (bC (s.length+1) (ends s (.mk op t ks) f))) (s.length<=1048576) :=
 ⟨(aT 287),λh=>by
  have:=((Ml op t ks s f).pure h).frz
  simpa only[AV.frz,Oe,cond_true]using this⟩
instance(op:Int)(t:Str)(ks:List bE)(s:Str)(f:Nat->Bool):xX lim prog 273 [.agg [.aa op,.str t,.sl false 3 (ks.map cq)],.str s,.sl false 1 (bC (s.length+1) f)] (.sl false 1 (bC (s.length+1) (ends s (.mk op t ks) f))) (s.length<=1048576) :=
 ⟨(aT 273),λh=>by
  have:=((Py op t ks s f).pure h).frz
  simpa only[AV.frz,Oe,cond_true]using this⟩
instance(x:bE)(s:Str):Ctr lim prog 247 [] [.agg [.aa x.fOp,.str x.cS,.sl false 3 (x.af.map cq)],.str s] (.ac (Pf x s)) [] (s.length<=1048576):=by
 refine Ctr.bd func247 ntmps247 λhp=>?_;refine vN1 ?_;refine Z ?_;refine vN1 ?_;refine Z ?_
 (refine vN1 ?_;intro h)
 refine Z ?_;refine vN1 ?_;refine AW.imp (Imp.fold 5 (b:=h) (len:=s.length+1) (sz:=1) (cells:=bC (s.length+1) (λc=>if c=0 then true else false)) (l:=bC (s.length+1) (λc=>if c=0 then true else false)) gO gO (eC _ _) (by rw[jz,Nat.mul_one,gW]) (gz _ _) ?_)
 try simp(maxSteps:=2000000) (disch:=omega)only[go_sem]
 refine vU1 ?_;rfl
instance(x:bE)(s:Str):Ctr lim prog 230 [] [.agg [.aa x.fOp,.str x.cS,.sl false 3 (x.af.map cq)],.str s] (.ac (Pf x s)) [] (s.length<=1048576):=by
 refine Ctr.bd func230 ntmps230 λhp=>?_;refine vN1 ?_;refine Z ?_;refine vN1 ?_;refine Z ?_
 (refine vN1 ?_;intro h)
 refine Z ?_;refine vN1 ?_;refine AW.imp (Imp.fold 5 (b:=h) (len:=s.length+1) (sz:=1) (cells:=bC (s.length+1) (λc=>if c=0 then true else false)) (l:=bC (s.length+1) (λc=>if c=0 then true else false)) gO gO (eC _ _) (by rw[jz,Nat.mul_one,gW]) (gz _ _) ?_)
 try simp(maxSteps:=2000000) (disch:=omega)only[go_sem]
 refine vU1 ?_;rfl
instance(p s:Str):Ctr lim prog 191 [] [.str p,.str s] (.ac (Kz p s)) [] (s.length<=1048576):=by
 refine Ctr.bd func191 ntmps191 λhp=>?_
 (refine vU1 ?_;intro h)
 rfl
instance(p s:Str):Ctr lim prog 172 [] [.str p,.str s] (.ac (Kz p s)) [] (s.length<=1048576):=by
 refine Ctr.bd func172 ntmps172 λhp=>?_
 (refine vU1 ?_;intro h)
 rfl
end Go.Proofs
namespace Go.Dt
open Go.Ab
def uR:Str:=[116,114,117,101]
def rQ:Str:=[102,97,108,115,101]
def tq(s:Str):Str:=if s=[49] then uR else if s=[48] then rQ else s
def cvO(mt:Str->Str->Bool)(x:dq)(s:Str):Bool :=
 if x.aj=1 then lI s && xy x.ay (jk s)
 else if x.aj=2 then isText s && xy x.ay s.length && (decide (x.aY=[]) || mt x.aY s)
 else if x.aj=3 then tq s == uR || tq s == rQ
 else if x.aj=4 then cont x.aB s
 else if x.aj=5 then !decide (s=[]) && isText s
 else if x.aj=6 then decide (s=[]) else false
def cvT(x:dq)(s:Str):Str:=if x.aj=1 then Lib.itoa (jk s) else if x.aj=3 then tq s else s
