/- Part of a proof. -/
import Derived.Lib.Bytealg
import Derived.Test.YtpelkkfkecfmbaaGreatDoorH10
set_option linter.all false
namespace Go.Dt
open Go.Ab
section
def bC(n:Nat)(h:Nat->Bool):List AV:=(List.range n).map fun c=>.v (.bool (h c))
@[go_sem] def dx(n:Nat)(h:Nat->Bool):(bC n h).length=n:=by simp only [bC,List.length_map,List.length_range]
def EM(n:Nat)(h:Nat->Bool):bC (n+1) h≠[]:=fun e=>by have:=congrArg List.length e;simp [dx] at this
def yl{n:Nat}(h:Nat->Bool){k:Nat}(hk:k<n):(bC n h)[k]? = some (.ac (h k)):=by simp only [bC,List.getElem?_map,List.getElem?_range hk,Option.map_some]
def Ud{n:Nat}(h:Nat->Bool){k:Nat}(hk:k<n):(bC n h).drop k=.ac (h k)::(bC n h).drop (k+1):=by
 have hl:k<(bC n h).length:=by rw [dx];exact hk
 rw [List.drop_eq_getElem_cons hl];have:=yl h hk;rw [List.getElem?_eq_getElem hl] at this;rw [Option.some.inj this]
@[go_sem] def acN{n:Nat}(h:Nat->Bool){k:Nat}(hk:k<n):((bC n h).drop k).head? = some (.ac (h k)):=by rw [Ud h hk];rfl
@[go_sem] def WI{n:Nat}(h:Nat->Bool){k:Nat}(hk:k<n)(b:Bool):(bC n h).take k++[.ac b]++(bC n h).drop (k+1)=bC n (fun c=>if c=k then b else h c):=by
 apply List.ext_getElem?;intro i;by_cases hi:i<n
 ·rw [yl _ hi];by_cases e1:i<k
  ·rw [List.append_assoc,List.getElem?_append_left (by simp [dx];omega),List.getElem?_take,if_pos e1,yl _ hi];simp [show ¬ i=k by omega]
  ·by_cases e2:i=k
   ·subst e2;rw [List.append_assoc,List.getElem?_append_right (by simp [dx];omega)];simp [dx,Nat.min_eq_left (Nat.le_of_lt hi)]
   ·rw [List.getElem?_append_right (by simp [dx];omega),List.getElem?_drop];simp only [List.length_append,List.length_take,dx,List.length_cons,List.length_nil];rw [show k+1+(i - (min k n+(0+1)))=i by omega,yl _ hi,if_neg e2]
 ·rw [List.getElem?_eq_none (by simp [dx];omega),List.getElem?_eq_none (by rw [dx];omega)]
def jz{n:Nat}{f g:Nat->Bool}(h:∀ i,i<n->f i=g i):bC n f=bC n g:=by unfold bC;apply List.map_congr_left;intro i hi;rw [h i (by simpa using hi)]
@[go_sem] def WJ(n:Nat)(h:Nat->Bool):(bC n h).drop n=[]:=List.drop_of_length_le (by rw [dx];exact Nat.le_refl _)
@[go_sem] def fD(n:Nat)(h:Nat->Bool):(bC n h).take n=bC n h:=List.take_of_length_le (by rw [dx];exact Nat.le_refl _)
@[go_sem] def Ub(n:Nat):(List.replicate n [Value.bool false]).flatten.map avz=bC n (fun _=>false):=by
 rw [List.flatten_replicate_singleton,List.map_replicate];apply List.ext_getElem?;intro i;by_cases hi:i<n
 ·rw [yl _ hi,List.getElem?_replicate,if_pos hi];rfl
 ·rw [List.getElem?_eq_none (by rw [List.length_replicate];omega),List.getElem?_eq_none (by rw [dx];omega)]
@[go_sem] def acL(n:Nat)(h:Nat->Bool):AV.nownL (bC n h)=true:=wu (fun _=>rfl) _
@[go_sem] def ZT(n:Nat)(h:Nat->Bool):AV.cy (bC n h)=true:=yO (fun _=>rfl) _
@[go_sem] def Oi(n:Nat)(h:Nat->Bool):AV.bg (bC n h)=bC n h:=rP (fun _=>rfl) _
@[go_sem] def adF(n:Nat)(h:Nat->Bool):(bC n h).all AV.one=true:=by simp only [bC,List.all_map,List.all_eq_true];intro x _;rfl
@[go_sem] def Uc(n:Nat)(h:Nat->Bool):(bC n h).all (AV.elem 1)=true:=by simp only [bC,List.all_map,List.all_eq_true];intro x _;rfl
def eP(n:Nat)(h:Nat->Bool):∀ x,x∈bC n h->x.elem 1=true:=by have:=Uc n h;rw [List.all_eq_true] at this;exact this
@[go_sem] def acM(n:Nat)(h:Nat->Bool):AV.jN (bC n h)=[]:=wD (fun _=>rfl) _
@[go_sem] def iv(n:Nat)(h:Nat->Bool):(bC n h).flatMap AV.cells=bC n h:=by
 unfold bC;generalize List.range n=l
 induction l with
 | nil=>rfl
 | cons x xs ih=>simp only [List.map_cons,List.flatMap_cons,ih];rfl
instance adY{G:Bool}{n:Nat}{h:Nat->Bool}{i:Int}{K:AV->Prop}:Rl (idxVc G (bC n h) i 1 (K:=⟨K⟩)) ((G=true->0<=i/\i.toNat<n)/\K (.ac (h i.toNat))) :=
 ⟨fun p=>⟨_,fun g=>⟨(p.1 g).1,yl h (p.1 g).2,rfl⟩,p.2⟩⟩
def orB(f g:Nat->Bool)(i:Nat):Bool:=f i || g i
def grew(n:Nat)(g a:Nat->Bool):Bool:=!cS (fun i=>!(g i && !a i)) n
def JD{n:Nat}{g a:Nat->Bool}(h:grew n g a=false):∀ i,i<n->orB a g i=a i:=by intro i hi;simp only [grew,Bool.not_eq_false'] at h;have:=o5 h hi;unfold orB;revert this;cases g i<;>cases a i<;>simp
def oD(a:Nat->Bool):Nat->Nat
 | 0=>0
 | n+1=>oD a n+(bif a n then 0 else 1)
def CX(a:Nat->Bool):∀ n,oD a n<=n
 | 0=>Nat.le_refl _
 | n+1=>by have:=CX a n;simp only [oD];cases a n<;>simp<;>omega
def DW(a g:Nat->Bool):∀ n,oD (orB a g) n<=oD a n
 | 0=>Nat.le_refl _
 | n+1=>by
  have:=DW a g n;simp only [oD,orB];cases h1:a n<;>cases h2:g n<;>simp<;>omega
def J2{a g:Nat->Bool}:∀ {n:Nat},grew n g a=true->oD (orB a g) n<oD a n
 | 0,h=>by simp [grew,cS] at h
 | n+1,h=>by
  have hm:=DW a g n
  have hs:grew (n+1) g a=(grew n g a || (g n && !a n)):=by
   simp only [grew,cS];cases cS (fun i=>!(g i && !a i)) n<;>cases h1:a n<;>cases h2:g n<;>rfl
  rw [hs,Bool.or_eq_true] at h;simp only [oD,orB];rcases h with h|h
  ·have:=J2 (a:=a) (g:=g) (n:=n) h;cases h1:a n<;>cases h2:g n<;>simp<;>omega
  ·simp only [Bool.and_eq_true,Bool.not_eq_true'] at h;rw [h.1,h.2];simp;omega
def kL(n:Nat)(e:(Nat->Bool)->Nat->Bool):Nat->(Nat->Bool)->Nat->Bool
 | 0,a=>a
 | k+1,a=>if grew n (e a) a then kL n e k (orB a (e a)) else a
def DE{n:Nat}{e:(Nat->Bool)->Nat->Bool}{k:Nat}{a:Nat->Bool}(h:grew n (e a) a=true)(hk:oD a n<=k):∃ j,k=j+1/\kL n e k a=kL n e j (orB a (e a))/\oD (orB a (e a)) n<=j:=by
 have:=J2 h
 cases k with
 | zero=>omega
 | succ j=>exact ⟨j,rfl,by rw [kL,if_pos h],Ir⟩
def Gn{n:Nat}{e:(Nat->Bool)->Nat->Bool}{k:Nat}{a:Nat->Bool}(h:grew n (e a) a=false):kL n e k a=a:=by
 cases k with
 | zero=>rfl
 | succ j=>rw [kL,if_neg (by rw [h];simp)]
def chE(t s:Str)(f:Nat->Bool):Nat->Bool
 | 0=>false
 | i+1=>f i && t.contains (at_ s i)
mutual
def ends(s:Str):bk->(Nat->Bool)->Nat->Bool
 | .mk op t ks,f=>if op=1 then chE t s f else if op=2 then pg s ks f else if op=3 then pU s ks f (fun _=>false) else if op=5\/op=4 then ui s op ks f else fun _=>false
def pg(s:Str):List bk->(Nat->Bool)->Nat->Bool
 | [],a=>a
 | k::ks,a=>pg s ks (ends s k a)
def pU(s:Str):List bk->(Nat->Bool)->(Nat->Bool)->Nat->Bool
 | [],_,a=>a
 | k::ks,f,a=>pU s ks f (orB a (ends s k f))
def ui(s:Str)(op:Int):List bk->(Nat->Bool)->Nat->Bool
 | [],f=>f
 | k::ks,f=>match ks with
  | []=>if op=4 then kL (s.length+1) (ends s k) (s.length+1) f else orB f (ends s k f)
  | _::_=>f
end
def jq(s:Str)(op:Int)(t:Str)(ks:List bk)(f:Nat->Bool):ends s (.mk op t ks) f=if op=1 then chE t s f else if op=2 then pg s ks f else if op=3 then pU s ks f (fun _=>false) else if op=5\/op=4 then ui s op ks f else fun _=>false:=by rw [ends]
def uh{s:Str}{op:Int}{ks:List bk}{f:Nat->Bool}(h:¬ ks.length=1):ui s op ks f=f:=by
 cases ks with
 | nil=>rw [ui]
 | cons k ks =>
  cases ks with
  | nil=>simp at h
  | cons _ _=>rw [ui]
def ru{s:Str}{op:Int}{ks:List bk}{f:Nat->Bool}(h:ks.length=1):ui s op ks f=if op=4 then kL (s.length+1) (ends s (at_ ks 0)) (s.length+1) f else orB f (ends s (at_ ks 0) f):=by
 cases ks with
 | nil=>simp at h
 | cons k ks =>
  cases ks with
  | nil=>rw [ui];rfl
  | cons _ _=>simp at h
def Pk(p:bk)(s:Str):Bool:=ends s p (fun i=>if i=0 then true else false) s.length
def Gq(c:UInt8):∀ t:Str,(0<=Lib.indexByte t c↔t.contains c=true)/\-1<=Lib.indexByte t c
 | []=>⟨by simp [Lib.indexByte],by simp [Lib.indexByte]⟩
 | b::t=>by
  obtain ⟨h1,h2⟩:=Gq c t;have e:Lib.indexByte (b::t) c=if b == c then 0 else if Lib.indexByte t c == -1 then -1 else Lib.indexByte t c+1:=rfl
  by_cases h:b=c
  ·subst h;have e:Lib.indexByte (b::t) b=0:=by rw [e];simp
   rw [e];simp
  ·have h3:(b == c)=false:=by simpa using h
   have h4:(c == b)=false:=by simpa using fun e=>h e.symm
   have e:Lib.indexByte (b::t) c=if Lib.indexByte t c = -1 then -1 else Lib.indexByte t c+1:=by rw [e,h3];simp
   rw [e,List.contains_cons,h4,Bool.false_or,<- h1];split<;>omega
def Td(t:Str)(c:UInt8):decide (0<=Lib.indexByte t c)=t.contains c:=by
 have:=(Gq c t).1
 cases h:t.contains c with
 | true=>exact decide_eq_true (this.2 h)
 | false=>exact decide_eq_false fun e=>by rw [this.1 e] at h;cases h
end
section
attribute [go_sem] Td
@[go_sem high] def abQ(n:Nat):List.map avz ([Value.bool false]::List.replicate n [Value.bool false]).flatten=bC (n+1) (fun _=>false):=Ub (n+1)
@[go_sem] def abR(n:Nat)(h:Nat->Bool):(bC (n+1) h).drop (n+1)=[]:=WJ _ _
def joK(a g:Nat->Bool)(k i:Nat):Bool:=a i || (decide (i<k) && g i)
def PF(n:Nat)(a g:Nat->Bool):bC n (joK a g 0)=bC n a:=jz fun i _=>by simp [joK]
def SZ(n:Nat)(a g:Nat->Bool){k:Nat}(h:¬ k<n):bC n (joK a g k)=bC n (orB a g):=jz fun i hi=>by simp only [joK,orB,decide_eq_true (show i<k by omega),Bool.true_and]
def M8{a g:Nat->Bool}{k:Nat}:joK a g k k=a k:=by simp [joK]
def SY{n:Nat}{a g:Nat->Bool}{k:Nat}(h:g k=true):bC n (fun c=>if c=k then true else joK a g k c)=bC n (joK a g (k+1)):=jz fun i _=>by
 by_cases e:i=k
 ·subst e;simp [joK,h]
 ·simp only [if_neg e,joK];rw [show decide (i<k+1)=decide (i<k) from decide_eq_decide.2 Ir]
def PG{n:Nat}{a g:Nat->Bool}{k:Nat}(h:g k=true->a k=true):bC n (joK a g k)=bC n (joK a g (k+1)):=jz fun i _=>by
 by_cases e:i=k
 ·subst e;simp only [joK]
  cases h1:g i with
  | false=>simp
  | true=>simp [h h1]
 ·simp only [joK];rw [show decide (i<k+1)=decide (i<k) from decide_eq_decide.2 Ir]
def rN(g a:Nat->Bool)(k:Nat):grew (k+1) g a=(grew k g a || (g k && !a k)):=by simp only [grew,cS];cases cS (fun i=>!(g i && !a i)) k<;>cases h1:a k<;>cases h2:g k<;>rfl
end
section
def chK(t s:Str)(f:Nat->Bool)(k i:Nat):Bool:=decide (i<=k) && chE t s f i
def HA(n:Nat)(t s:Str)(f:Nat->Bool):bC n (fun _=>false)=bC n (chK t s f 0):=jz fun i _=>by
 cases i with
 | zero=>simp [chK,chE]
 | succ i=>simp [chK]
def J6{n:Nat}{t s:Str}{f:Nat->Bool}{k:Nat}{v:Bool}(h:v=(f k && t.contains (at_ s k))):bC n (fun c=>if c=k+1 then v else chK t s f k c)=bC n (chK t s f (k+1)):=jz fun i _=>by
 by_cases e:i=k+1
 ·subst e;simp only [if_true,chK,Nat.le_refl,decide_true,Bool.true_and,chE,h]
 ·simp only [if_neg e,chK];rw [show decide (i<=k+1)=decide (i<=k) from decide_eq_decide.2 Ir]
def J7{n:Nat}{t s:Str}{f:Nat->Bool}{k:Nat}(h:n<=k+1):bC n (chK t s f k)=bC n (chE t s f):=jz fun i hi=>by
 rw [chK,decide_eq_true Ir,Bool.true_and]
def bk.eta(x:bk):bk.mk x.fOp x.bI x.af=x:=by cases x;rfl
def Dj{s:Str}{ks:List bk}{k:Nat}{a:Nat->Bool}(h:k<ks.length):pg s (ks.drop k) a=pg s (ks.drop (k+1)) (ends s (at_ ks k) a):=by rw [bq h,pg]
def Fo{s:Str}{ks:List bk}{k:Nat}{a:Nat->Bool}(h:¬ k<ks.length):pg s (ks.drop k) a=a:=by rw [List.drop_eq_nil_of_le Ir,pg]
def D5{s:Str}{ks:List bk}{k:Nat}{f a:Nat->Bool}(h:k<ks.length):pU s (ks.drop k) f a=pU s (ks.drop (k+1)) f (orB a (ends s (at_ ks k) f)):=by rw [bq h,pU]
def HS{s:Str}{ks:List bk}{k:Nat}{f a:Nat->Bool}(h:¬ k<ks.length):pU s (ks.drop k) f a=a:=by rw [List.drop_eq_nil_of_le Ir,pU]
end
section
def boK(a g:Nat->Bool)(k i:Nat):Bool:=decide (i<k) && orB a g i
@[go_sem high] def acK(n:Nat)(h:Nat->Bool)(b:Bool):AV.ac b::(bC (n+1) h).drop 1=bC (n+1) (fun c=>if c=0 then b else h c):=by have:=WI (n:=n+1) h (k:=0) Ir b;simpa using this
def Qx(n:Nat)(a g:Nat->Bool):bC n (fun _=>false)=bC n (boK a g 0):=jz fun i _=>by simp [boK]
def TZ{n:Nat}{a g:Nat->Bool}{k:Nat}{v:Bool}(h:v=orB a g k):bC n (fun c=>if c=k then v else boK a g k c)=bC n (boK a g (k+1)):=jz fun i _=>by
 by_cases e:i=k
 ·subst e;simp [boK,h]
 ·simp only [if_neg e,boK];rw [show decide (i<k+1)=decide (i<k) from decide_eq_decide.2 Ir]
def T9{n:Nat}{a g:Nat->Bool}{k:Nat}(h:n<=k):bC n (boK a g k)=bC n (orB a g):=jz fun i hi=>by
 rw [boK,decide_eq_true Ir,Bool.true_and]
def inK(t s:Str)(f:Nat->Bool)(i k:Nat):Bool:=f i && (t.take k).contains (at_ s i)
def uK(t s:Str)(f:Nat->Bool)(i k c:Nat):Bool:=if c=i+1 then inK t s f i k else chK t s f i c
def Ns(n:Nat)(t s:Str)(f:Nat->Bool)(i:Nat):bC n (chK t s f i)=bC n (uK t s f i 0):=jz fun c _=>by
 unfold uK;split
 ·rename_i e;subst e;simp [inK,chK];omega
 ·rfl
def S5{t s:Str}{f:Nat->Bool}{i k:Nat}:uK t s f i k (i+1)=inK t s f i k:=by simp [uK]
def PJ{n:Nat}{t s:Str}{f:Nat->Bool}{i k:Nat}{v:Bool}(h:v=inK t s f i (k+1)):bC n (fun c=>if c=i+1 then v else uK t s f i k c)=bC n (uK t s f i (k+1)):=jz fun c _=>by
 unfold uK;by_cases e:c=i+1
 ·rw [if_pos e,if_pos e,h]
 ·rw [if_neg e,if_neg e,if_neg e]
def PK{t s:Str}{f:Nat->Bool}{i k:Nat}(hk:k<t.length)(hf:f i=true):(inK t s f i k || (at_ t k == at_ s i))=inK t s f i (k+1):=by
 simp only [inK,hf,Bool.true_and]
 have:t.take (k+1)=t.take k++[at_ t k]:=by
  rw [List.take_succ_eq_append_getElem hk];unfold at_;rw [List.getElem?_eq_getElem hk];rfl
 rw [this,List.contains_eq_any_beq,List.contains_eq_any_beq,List.any_append];simp only [List.any_cons,List.any_nil,Bool.or_false]
 congr 1
 exact Bool.beq_comm ..
def S9{t s:Str}{f:Nat->Bool}{i k:Nat}(h:k<t.length->f i=false):inK t s f i k=(f i && t.contains (at_ s i)):=by
 unfold inK;by_cases e:k<t.length
 ·rw [h e];rfl
 ·rw [List.take_of_length_le Ir]
def Jn(a e:Nat->Bool)(k:Nat):(orB a e k != a k)=(e k && !a k):=by unfold orB;cases a k<;>cases e k<;>rfl
def Ug(t s:Str)(k i:Nat):(at8 t k == at8 s i)=(at_ t k == at_ s i):=by
 rw [gZ,gZ];by_cases e:at_ t k=at_ s i
 ·rw [e];simp
 ·have h1:(at_ t k == at_ s i)=false:=by simpa using e
  have h2:¬ ((at_ t k).toNat:Int)=((at_ s i).toNat:Int):=fun h=>e (UInt8.toNat_inj.1 Ir);rw [h1];simpa using h2
end
section
def dg(u:Nat):Str:=if u=0 then [] else Lib.decDigits u
def CU{u:Nat}(h:u≠0):dg u=dg (u / 10)++[UInt8.ofNat (48+u % 10)]:=by
 rw [dg,if_neg h,Lib.decDigits,dg];split
 ·rename_i h10;rw [if_pos Ir,List.nil_append,Nat.mod_eq_of_lt h10]
 ·rw [if_neg Ir]
def WC(u:Nat):(dg u).length<=u / 10+1:=by
 induction u using Nat.strongRecOn with
 | _ u ih =>
  by_cases h:u=0
  ·subst h;simp [dg]
  ·rw [CU h];have:=ih (u / 10) Ir;simp only [List.length_append,List.length_singleton];by_cases h10:u / 10=0
   ·rw [h10];simp [dg]
   ·omega
def DD:Lib.itoa 0=[48]:=by rw [Lib.itoa,if_neg Ir,Lib.decDigits];rfl
def Cx{n:Int}(h:n≠0):Lib.itoa n=if n<0 then 45::dg n.natAbs else dg n.natAbs:=by
 have e:¬ n.natAbs=0:=by omega
 simp only [Lib.itoa,dg,e,if_false];split
 ·rfl
 ·rw [show n.toNat=n.natAbs by omega]
def dgt(s:Str)(j:Nat):Bool:=gG (at8 s j)
def eT(s:Str):Nat->Nat
 | 0=>0
 | k+1=>10 * eT s k+(at8 s k - 48).toNat
def Ox(s:Str)(k j:Nat):eT s k<=eT s (k+j):=by
 induction j with
 | zero=>exact Nat.le_refl _
 | succ j ih=>rw [<- Nat.add_assoc,eT];omega
def qn{s:Str}{k:Nat}:dgt s k=true↔48<=at8 s k/\at8 s k<=57:=by simp [dgt,gG]
def EU{s:Str}{k:Nat}(h:48<=at8 s k):(eT s (k+1):Int)=10 * eT s k+(at8 s k - 48):=by rw [eT];omega
def rdB(s:Str):Bool:=cS (dgt s) s.length && (decide (eT s s.length<=1000000000) && decide (0<s.length))
def rdN(s:Str):Int:=bif rdB s then eT s s.length else 0
def Es{s:Str}{k:Nat}(h:k<s.length)(e:¬ (48<=at8 s k/\at8 s k<=57)):rdB s=false:=by rw [rdB,dL h (Bool.eq_false_iff.2 fun h=>e (qn.1 h))];rfl
def Mv{s:Str}{k:Nat}(h:k<=s.length)(e:1000000000<eT s k):rdB s=false:=by
 have:=Ox s k (s.length - k);rw [show k+(s.length - k)=s.length by omega] at this;have:decide (eT s s.length<=1000000000)=false:=by simp;omega
 rw [rdB,this];simp
def sgn(s:Str):Bool:=decide (0<s.length) && (at8 s 0 == 45 || at8 s 0 == 43)
def tlS(s:Str):Str:=bif sgn s then s.drop 1 else s
def eH(s:Str):Int:=bif rdB (tlS s) then (if at8 s 0=45 then - rdN (tlS s) else rdN (tlS s)) else 0
def gD(s:Str):Bool:=rdB (tlS s)
def AA(s:Str):0<=rdN s/\rdN s<=1000000000:=by
 unfold rdN
 cases h:rdB s with
 | false=>simp
 | true =>
  simp only [rdB,Bool.and_eq_true,decide_eq_true_eq] at h;simp only [cond_true];omega
def xH(s:Str):-1000000000<=eH s/\eH s<=1000000000:=by
 have:=AA (tlS s);unfold eH
 cases rdB (tlS s) with
 | false=>simp
 | true=>simp only [cond_true];split<;>omega
def uz(n:Int)(r:da):Bool:=decide (r.fLo<=n) && decide (n<=r.fHi)
def wJ(l:List da)(n:Int):Bool:=l.any (uz n) || decide (l.length=0)
end
section
def Mu{s:Str}{k:Nat}(hR:cS (dgt s) k=true)(hv:eT s k<=1000000000)(hk:k<=s.length)(h:¬ k<s.length):rdB s=decide ((0:Int)<(s.length:Int))/\(rdN s=eT s k):=by
 obtain rfl:k=s.length:=by omega
 have e:rdB s=decide ((0:Int)<(s.length:Int)):=by
  rw [rdB,hR,decide_eq_true hv,Bool.true_and,Bool.true_and];exact decide_eq_decide.2 Ir
 refine ⟨e,?_⟩;rw [rdN,e];by_cases h0:s.length=0
 ·rw [h0];rfl
 ·rw [decide_eq_true Ir];rfl
theorem tY{α:Type}[Inhabited α]{p:α->Bool}{l:List α}{k:Nat}(h:k<l.length)(e:p (at_ l k)=true):l.any p=true:=List.any_eq_true.2 ⟨_,at_mem h,e⟩
def qt{α:Type}{p:α->Bool}{l:List α}{k:Nat}(hk:¬ k<l.length)(h:∀ x∈l.take k,p x=false):l.any p=false:=by rw [List.take_of_length_le Ir] at h;rw [List.any_eq_false];intro x hx;rw [h x hx];simp
def vS(x:Int):(x.tdiv 10).natAbs=x.natAbs / 10:=by rw [Int.natAbs_tdiv];rfl
end
section
@[go_sem] def adK{y:Int}(h0:0<=y)(h1:y<=255):unb [.v (.int .u8 y)]=some [UInt8.ofNat y.toNat]:=by simp only [unb,if_pos (And.intro h0 h1),Option.map_some]
def E6(x:Int):-9<=x.tmod 10/\x.tmod 10<=9/\(x.tmod 10).natAbs=x.natAbs % 10:=by
 have h:=Int.natAbs_tmod x 10
 have h2:(x.tmod 10).natAbs<10:=by rw [h];exact Nat.mod_lt _ baa
 have h3:=vS x;exact ⟨Ir,Ir,h⟩
def Js(n:Nat):((n:Int) == 0)=decide (n=0):=by
 by_cases h:n=0
 ·simp [h]
 ·simp [h]
def jP{s:Str}:(s.take s.length).drop (Int.toNat 1)=s.drop 1:=by simp
def vQ{s:Str}(h:0<(s.length:Int)/\(at8 s 0=45\/at8 s 0=43)):tlS s=s.drop 1:=by
 have:sgn s=true:=by simp only [sgn,Bool.and_eq_true,decide_eq_true_eq,Bool.or_eq_true,beq_iff_eq];exact ⟨Ir,h.2⟩
 rw [tlS,this];rfl
def Kh{s:Str}(h:0<(s.length:Int)->¬ at8 s 0=45/\¬ at8 s 0=43):tlS s=s:=by
 have:sgn s=false:=by
  simp only [sgn,Bool.and_eq_false_imp,decide_eq_true_eq,Bool.or_eq_false_iff,beq_eq_false_iff_ne,ne_eq];exact fun q=>h Ir
 rw [tlS,this];rfl
@[go_sem] def ada:rdB []=false:=rfl
end
section
def JX{x:Int}{s t:Str}{c:UInt8}(hx:¬ x=0)(hs:dg x.natAbs++s=t)(hc:c=UInt8.ofNat (48+x.natAbs % 10)):dg (x.tdiv 10).natAbs++c::s=t:=by rw [CU Ir,List.append_assoc] at hs;rw [vS,hc];exact hs
def Om{a s t:Str}(h:a++s=t):s.length<=t.length:=by rw [<- h,List.length_append];omega
end
section
def Kf{t:Str}{k:Nat}{v:Int}(hd:48<=at8 t k/\at8 t k<=57)(h1:eT t k<=1000000000->v=eT t k)(h2:1000000000<eT t k->1000000000<v) :
  (v<=1000000000->(eT t (k+1)<=1000000000->v * 10+(at8 t k - 48)=eT t (k+1))/\(1000000000<eT t (k+1)->1000000000<v * 10+(at8 t k - 48))) /\
  (1000000000<v->(eT t (k+1)<=1000000000->v=eT t (k+1))/\(1000000000<eT t (k+1)->1000000000<v)):=by
 have:=EU (s:=t) (k:=k) hd.1;refine ⟨fun h=>⟨fun _=>?_,fun _=>?_⟩,fun h=>⟨fun _=>?_,fun _=>?_⟩⟩<;>omega
def Mt{t:Str}{k:Nat}{v:Int}(hR:cS (dgt t) k=true)(hk:k<=t.length)(h:¬ k<t.length)(h0:¬ t=[])(h1:eT t k<=1000000000->v=eT t k)(h2:1000000000<eT t k->1000000000<v) :
  rdB t=decide (v<=1000000000)/\(v<=1000000000->rdN t=v):=by
 have hl:0<t.length:=List.length_pos_iff.2 h0;by_cases e:eT t k<=1000000000
 ·obtain ⟨a,b⟩:=Mu hR e hk h;rw [h1 e,a,b];exact ⟨by rw [decide_eq_true Ir,decide_eq_true Ir],fun _=>rfl⟩
 ·have:=h2 Ir;rw [Mv hk Ir];exact ⟨by rw [decide_eq_false Ir],fun h=>by omega⟩
end
end Go.Dt
