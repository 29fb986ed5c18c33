/- Part of a proof. -/
import Derived.Lib.Bytealg
import Derived.Test.YtbiikafnjialjaaGreatDoorG11
set_option linter.all false
namespace Go.Dt
open Go.Ab
section
def bC(n:Nat)(h:Nat->Bool):List AV:=(List.range n).map fun c=>.v (.bool (h c))
@[go_sem] theorem dE(n:Nat)(h:Nat->Bool):(bC n h).length=n:=by simp only [bC,List.length_map,List.length_range]
theorem BK(n:Nat)(h:Nat->Bool):bC (n+1) h≠[]:=fun e=>by have:=congrArg List.length e;simp [dE] at this
theorem vl{n:Nat}(h:Nat->Bool){k:Nat}(hk:k<n):(bC n h)[k]? = some (.v (.bool (h k))):=by
 simp only [bC,List.getElem?_map,List.getElem?_range hk,Option.map_some]
theorem M3{n:Nat}(h:Nat->Bool){k:Nat}(hk:k<n):(bC n h).drop k=.v (.bool (h k))::(bC n h).drop (k+1):=by
 have hl:k<(bC n h).length:=by rw [dE];exact hk
 rw [List.drop_eq_getElem_cons hl]
 have:=vl h hk
 rw [List.getElem?_eq_getElem hl] at this
 rw [Option.some.inj this]
@[go_sem] theorem VN{n:Nat}(h:Nat->Bool){k:Nat}(hk:k<n):((bC n h).drop k).head? = some (.v (.bool (h k))):=by rw [M3 h hk];rfl
@[go_sem] theorem Pv{n:Nat}(h:Nat->Bool){k:Nat}(hk:k<n)(b:Bool):(bC n h).take k++[.v (.bool b)]++(bC n h).drop (k+1)=bC n (fun c=>if c=k then b else h c):=by
 apply List.ext_getElem?
 intro i
 by_cases hi:i<n
 ·rw [vl _ hi]
  by_cases e1:i<k
  ·rw [List.append_assoc,List.getElem?_append_left (by simp [dE];omega),List.getElem?_take,if_pos e1,vl _ hi]
   simp [show ¬ i=k by omega]
  ·by_cases e2:i=k
   ·subst e2
    rw [List.append_assoc,List.getElem?_append_right (by simp [dE];omega)]
    simp [dE,Nat.min_eq_left (Nat.le_of_lt hi)]
   ·rw [List.getElem?_append_right (by simp [dE];omega),List.getElem?_drop]
    simp only [List.length_append,List.length_take,dE,List.length_cons,List.length_nil]
    rw [show k+1+(i - (min k n+(0+1)))=i by omega,vl _ hi,if_neg e2]
 ·rw [List.getElem?_eq_none (by simp [dE];omega),List.getElem?_eq_none (by rw [dE];omega)]
theorem jm{n:Nat}{f g:Nat->Bool}(h:∀ i,i<n->f i=g i):bC n f=bC n g:=by
 unfold bC
 apply List.map_congr_left
 intro i hi
 rw [h i (by simpa using hi)]
@[go_sem] theorem Pw(n:Nat)(h:Nat->Bool):(bC n h).drop n=[]:=List.drop_of_length_le (by rw [dE];exact Nat.le_refl _)
@[go_sem] theorem fF(n:Nat)(h:Nat->Bool):(bC n h).take n=bC n h:=List.take_of_length_le (by rw [dE];exact Nat.le_refl _)
@[go_sem] theorem MZ(n:Nat):(List.replicate n [Value.bool false]).flatten.map avz=bC n (fun _=>false):=by
 rw [List.flatten_replicate_singleton,List.map_replicate]
 apply List.ext_getElem?
 intro i
 by_cases hi:i<n
 ·rw [vl _ hi,List.getElem?_replicate,if_pos hi];rfl
 ·rw [List.getElem?_eq_none (by rw [List.length_replicate];omega),List.getElem?_eq_none (by rw [dE];omega)]
@[go_sem] theorem VL(n:Nat)(h:Nat->Bool):AV.bA (bC n h)=true:=tU (fun _=>rfl) _
@[go_sem] theorem SN(n:Nat)(h:Nat->Bool):AV.cq (bC n h)=true:=wk (fun _=>rfl) _
@[go_sem] theorem IX(n:Nat)(h:Nat->Bool):AV.bS (bC n h)=bC n h:=qo (fun _=>rfl) _
@[go_sem] theorem Wp(n:Nat)(h:Nat->Bool):(bC n h).all AV.one=true:=by
 simp only [bC,List.all_map,List.all_eq_true];intro x _;rfl
@[go_sem] theorem M0(n:Nat)(h:Nat->Bool):(bC n h).all (AV.elem 1)=true:=by
 simp only [bC,List.all_map,List.all_eq_true];intro x _;rfl
theorem eW(n:Nat)(h:Nat->Bool):∀ x,x∈bC n h->x.elem 1=true:=by
 have:=M0 n h
 rw [List.all_eq_true] at this;exact this
@[go_sem] theorem VM(n:Nat)(h:Nat->Bool):AV.iC (bC n h)=[]:=tY (fun _=>rfl) _
@[go_sem] theorem ib(n:Nat)(h:Nat->Bool):(bC n h).flatMap AV.cells=bC n h:=by
 unfold bC
 generalize List.range n=l
 induction l with
 | nil=>rfl
 | cons x xs ih=>simp only [List.map_cons,List.flatMap_cons,ih];rfl
instance WA{G:Bool}{n:Nat}{h:Nat->Bool}{i:Int}{K:AV->Prop}:Rl (qk G (bC n h) i 1 (K:=⟨K⟩)) ((G=true->0<=i/\i.toNat<n)/\K (.v (.bool (h i.toNat)))) :=
 ⟨fun p=>⟨_,fun g=>⟨(p.1 g).1,vl h (p.1 g).2,rfl⟩,p.2⟩⟩
def orB(f g:Nat->Bool)(i:Nat):Bool:=f i || g i
def grew(n:Nat)(g a:Nat->Bool):Bool:=!bL (fun i=>!(g i && !a i)) n
theorem Ff{n:Nat}{g a:Nat->Bool}(h:grew n g a=false):∀ i,i<n->orB a g i=a i:=by
 intro i hi
 simp only [grew,Bool.not_eq_false'] at h
 have:=mA h hi
 unfold orB
 revert this
 cases g i<;>cases a i<;>simp
def ni(a:Nat->Bool):Nat->Nat
 | 0=>0
 | n+1=>ni a n+(bif a n then 0 else 1)
theorem zH(a:Nat->Bool):∀ n,ni a n<=n
 | 0=>Nat.le_refl _
 | n+1=>by have:=zH a n;simp only [ni];cases a n<;>simp<;>omega
theorem AX(a g:Nat->Bool):∀ n,ni (orB a g) n<=ni a n
 | 0=>Nat.le_refl _
 | n+1=>by
  have:=AX a g n
  simp only [ni,orB]
  cases h1:a n<;>cases h2:g n<;>simp<;>omega
theorem Fs{a g:Nat->Bool}:∀ {n:Nat},grew n g a=true->ni (orB a g) n<ni a n
 | 0,h=>by simp [grew,bL] at h
 | n+1,h=>by
  have hm:=AX a g n
  have hs:grew (n+1) g a=(grew n g a || (g n && !a n)):=by
   simp only [grew,bL]
   cases bL (fun i=>!(g i && !a i)) n<;>cases h1:a n<;>cases h2:g n<;>rfl
  rw [hs,Bool.or_eq_true] at h
  simp only [ni,orB]
  rcases h with h|h
  ·have:=Fs (a:=a) (g:=g) (n:=n) h
   cases h1:a n<;>cases h2:g n<;>simp<;>omega
  ·simp only [Bool.and_eq_true,Bool.not_eq_true'] at h
   rw [h.1,h.2];simp;omega
def iter(n:Nat)(e:(Nat->Bool)->Nat->Bool):Nat->(Nat->Bool)->Nat->Bool
 | 0,a=>a
 | k+1,a=>if grew n (e a) a then iter n e k (orB a (e a)) else a
theorem AA{n:Nat}{e:(Nat->Bool)->Nat->Bool}{k:Nat}{a:Nat->Bool}(h:grew n (e a) a=true)(hk:ni a n<=k):∃ j,k=j+1/\iter n e k a=iter n e j (orB a (e a))/\ni (orB a (e a)) n<=j:=by
 have:=Fs h
 cases k with
 | zero=>omega
 | succ j=>exact ⟨j,rfl,by rw [iter,if_pos h],by omega⟩
theorem CV{n:Nat}{e:(Nat->Bool)->Nat->Bool}{k:Nat}{a:Nat->Bool}(h:grew n (e a) a=false):iter n e k a=a:=by
 cases k with
 | zero=>rfl
 | succ j=>rw [iter,if_neg (by rw [h];simp)]
def chE(t s:Str)(f:Nat->Bool):Nat->Bool
 | 0=>false
 | i+1=>f i && t.contains (at_ s i)
mutual
def ends(s:Str):bg->(Nat->Bool)->Nat->Bool
 | .mk op t ks,f=>if op=1 then chE t s f else if op=2 then nZ s ks f else if op=3 then oC s ks f (fun _=>false) else if op=5\/op=4 then rQ s op ks f else fun _=>false
def nZ(s:Str):List bg->(Nat->Bool)->Nat->Bool
 | [],a=>a
 | k::ks,a=>nZ s ks (ends s k a)
def oC(s:Str):List bg->(Nat->Bool)->(Nat->Bool)->Nat->Bool
 | [],_,a=>a
 | k::ks,f,a=>oC s ks f (orB a (ends s k f))
def rQ(s:Str)(op:Int):List bg->(Nat->Bool)->Nat->Bool
 | [],f=>f
 | k::ks,f=>match ks with
  | []=>if op=4 then iter (s.length+1) (ends s k) (s.length+1) f else orB f (ends s k f)
  | _::_=>f
end
theorem jc(s:Str)(op:Int)(t:Str)(ks:List bg)(f:Nat->Bool):ends s (.mk op t ks) f=if op=1 then chE t s f else if op=2 then nZ s ks f else if op=3 then oC s ks f (fun _=>false) else if op=5\/op=4 then rQ s op ks f else fun _=>false:=by rw [ends]
theorem rP{s:Str}{op:Int}{ks:List bg}{f:Nat->Bool}(h:¬ ks.length=1):rQ s op ks f=f:=by
 cases ks with
 | nil=>rw [rQ]
 | cons k ks =>
  cases ks with
  | nil=>simp at h
  | cons _ _=>rw [rQ]
theorem p4{s:Str}{op:Int}{ks:List bg}{f:Nat->Bool}(h:ks.length=1):rQ s op ks f=if op=4 then iter (s.length+1) (ends s (at_ ks 0)) (s.length+1) f else orB f (ends s (at_ ks 0) f):=by
 cases ks with
 | nil=>simp at h
 | cons k ks =>
  cases ks with
  | nil=>rw [rQ];rfl
  | cons _ _=>simp at h
def JC(p:bg)(s:Str):Bool:=ends s p (fun i=>if i=0 then true else false) s.length
theorem C0(c:UInt8):∀ t:Str,(0<=Lib.indexByte t c↔t.contains c=true)/\-1<=Lib.indexByte t c
 | []=>⟨by simp [Lib.indexByte],by simp [Lib.indexByte]⟩
 | b::t=>by
  obtain ⟨h1,h2⟩:=C0 c t
  have e:Lib.indexByte (b::t) c=if b == c then 0 else if Lib.indexByte t c == -1 then -1 else Lib.indexByte t c+1:=rfl
  by_cases h:b=c
  ·subst h
   have e:Lib.indexByte (b::t) b=0:=by rw [e];simp
   rw [e];simp
  ·have h3:(b == c)=false:=by simpa using h
   have h4:(c == b)=false:=by simpa using fun e=>h e.symm
   have e:Lib.indexByte (b::t) c=if Lib.indexByte t c = -1 then -1 else Lib.indexByte t c+1:=by rw [e,h3];simp
   rw [e,List.contains_cons,h4,Bool.false_or,<- h1]
   split<;>omega
theorem Mx(t:Str)(c:UInt8):decide (0<=Lib.indexByte t c)=t.contains c:=by
 have:=(C0 c t).1
 cases h:t.contains c with
 | true=>exact decide_eq_true (this.2 h)
 | false=>exact decide_eq_false fun e=>by rw [this.1 e] at h;cases h
end
section
attribute [go_sem] Mx
@[go_sem high] theorem UW(n:Nat):List.map avz ([Value.bool false]::List.replicate n [Value.bool false]).flatten=bC (n+1) (fun _=>false):=MZ (n+1)
@[go_sem] theorem UX(n:Nat)(h:Nat->Bool):(bC (n+1) h).drop (n+1)=[]:=Pw _ _
def joK(a g:Nat->Bool)(k i:Nat):Bool:=a i || (decide (i<k) && g i)
theorem JS(n:Nat)(a g:Nat->Bool):bC n (joK a g 0)=bC n a:=jm fun i _=>by simp [joK]
theorem Mo(n:Nat)(a g:Nat->Bool){k:Nat}(h:¬ k<n):bC n (joK a g k)=bC n (orB a g):=jm fun i hi=>by simp only [joK,orB,decide_eq_true (show i<k by omega),Bool.true_and]
theorem H0{a g:Nat->Bool}{k:Nat}:joK a g k k=a k:=by simp [joK]
theorem Mn{n:Nat}{a g:Nat->Bool}{k:Nat}(h:g k=true):bC n (fun c=>if c=k then true else joK a g k c)=bC n (joK a g (k+1)):=jm fun i _=>by
 by_cases e:i=k
 ·subst e;simp [joK,h]
 ·simp only [if_neg e,joK]
  rw [show decide (i<k+1)=decide (i<k) from decide_eq_decide.2 (by omega)]
theorem JT{n:Nat}{a g:Nat->Bool}{k:Nat}(h:g k=true->a k=true):bC n (joK a g k)=bC n (joK a g (k+1)):=jm fun i _=>by
 by_cases e:i=k
 ·subst e
  simp only [joK]
  cases h1:g i with
  | false=>simp
  | true=>simp [h h1]
 ·simp only [joK]
  rw [show decide (i<k+1)=decide (i<k) from decide_eq_decide.2 (by omega)]
theorem qn(g a:Nat->Bool)(k:Nat):grew (k+1) g a=(grew k g a || (g k && !a k)):=by
 simp only [grew,bL]
 cases bL (fun i=>!(g i && !a i)) k<;>cases h1:a k<;>cases h2:g k<;>rfl
end
section
def chK(t s:Str)(f:Nat->Bool)(k i:Nat):Bool:=decide (i<=k) && chE t s f i
theorem DK(n:Nat)(t s:Str)(f:Nat->Bool):bC n (fun _=>false)=bC n (chK t s f 0):=jm fun i _=>by
 cases i with
 | zero=>simp [chK,chE]
 | succ i=>simp [chK]
theorem Fw{n:Nat}{t s:Str}{f:Nat->Bool}{k:Nat}{v:Bool}(h:v=(f k && t.contains (at_ s k))):bC n (fun c=>if c=k+1 then v else chK t s f k c)=bC n (chK t s f (k+1)):=jm fun i _=>by
 by_cases e:i=k+1
 ·subst e;simp only [if_true,chK,Nat.le_refl,decide_true,Bool.true_and,chE,h]
 ·simp only [if_neg e,chK]
  rw [show decide (i<=k+1)=decide (i<=k) from decide_eq_decide.2 (by omega)]
theorem Fx{n:Nat}{t s:Str}{f:Nat->Bool}{k:Nat}(h:n<=k+1):bC n (chK t s f k)=bC n (chE t s f):=jm fun i hi=>by
 rw [chK,decide_eq_true (by omega),Bool.true_and]
theorem bg.eta(x:bg):bg.mk x.fOp x.bW x.ag=x:=by cases x;rfl
theorem zZ{s:Str}{ks:List bg}{k:Nat}{a:Nat->Bool}(h:k<ks.length):nZ s (ks.drop k) a=nZ s (ks.drop (k+1)) (ends s (at_ ks k) a):=by rw [ct h,nZ]
theorem Cf{s:Str}{ks:List bg}{k:Nat}{a:Nat->Bool}(h:¬ k<ks.length):nZ s (ks.drop k) a=a:=by rw [List.drop_eq_nil_of_le (by omega),nZ]
theorem Bd{s:Str}{ks:List bg}{k:Nat}{f a:Nat->Bool}(h:k<ks.length):oC s (ks.drop k) f a=oC s (ks.drop (k+1)) f (orB a (ends s (at_ ks k) f)):=by rw [ct h,oC]
theorem DY{s:Str}{ks:List bg}{k:Nat}{f a:Nat->Bool}(h:¬ k<ks.length):oC s (ks.drop k) f a=a:=by rw [List.drop_eq_nil_of_le (by omega),oC]
end
section
def boK(a g:Nat->Bool)(k i:Nat):Bool:=decide (i<k) && orB a g i
@[go_sem high] theorem VK(n:Nat)(h:Nat->Bool)(b:Bool):AV.v (.bool b)::(bC (n+1) h).drop 1=bC (n+1) (fun c=>if c=0 then b else h c):=by
 have:=Pv (n:=n+1) h (k:=0) (by omega) b
 simpa using this
theorem KD(n:Nat)(a g:Nat->Bool):bC n (fun _=>false)=bC n (boK a g 0):=jm fun i _=>by simp [boK]
theorem MU{n:Nat}{a g:Nat->Bool}{k:Nat}{v:Bool}(h:v=orB a g k):bC n (fun c=>if c=k then v else boK a g k c)=bC n (boK a g (k+1)):=jm fun i _=>by
 by_cases e:i=k
 ·subst e;simp [boK,h]
 ·simp only [if_neg e,boK]
  rw [show decide (i<k+1)=decide (i<k) from decide_eq_decide.2 (by omega)]
theorem MW{n:Nat}{a g:Nat->Bool}{k:Nat}(h:n<=k):bC n (boK a g k)=bC n (orB a g):=jm fun i hi=>by
 rw [boK,decide_eq_true (by omega),Bool.true_and]
def inK(t s:Str)(f:Nat->Bool)(i k:Nat):Bool:=f i && (t.take k).contains (at_ s i)
def sA(t s:Str)(f:Nat->Bool)(i k c:Nat):Bool:=if c=i+1 then inK t s f i k else chK t s f i c
theorem Ii(n:Nat)(t s:Str)(f:Nat->Bool)(i:Nat):bC n (chK t s f i)=bC n (sA t s f i 0):=jm fun c _=>by
 unfold sA
 split
 ·rename_i e;subst e;simp [inK,chK];omega
 ·rfl
theorem Mt{t s:Str}{f:Nat->Bool}{i k:Nat}:sA t s f i k (i+1)=inK t s f i k:=by simp [sA]
theorem JW{n:Nat}{t s:Str}{f:Nat->Bool}{i k:Nat}{v:Bool}(h:v=inK t s f i (k+1)):bC n (fun c=>if c=i+1 then v else sA t s f i k c)=bC n (sA t s f i (k+1)):=jm fun c _=>by
 unfold sA
 by_cases e:c=i+1
 ·rw [if_pos e,if_pos e,h]
 ·rw [if_neg e,if_neg e,if_neg e]
theorem JX{t s:Str}{f:Nat->Bool}{i k:Nat}(hk:k<t.length)(hf:f i=true):(inK t s f i k || (at_ t k == at_ s i))=inK t s f i (k+1):=by
 simp only [inK,hf,Bool.true_and]
 have:t.take (k+1)=t.take k++[at_ t k]:=by
  rw [List.take_succ_eq_append_getElem hk]
  unfold at_;rw [List.getElem?_eq_getElem hk];rfl
 rw [this,List.contains_eq_any_beq,List.contains_eq_any_beq,List.any_append]
 simp only [List.any_cons,List.any_nil,Bool.or_false]
 congr 1
 exact Bool.beq_comm ..
theorem Mu{t s:Str}{f:Nat->Bool}{i k:Nat}(h:k<t.length->f i=false):inK t s f i k=(f i && t.contains (at_ s i)):=by
 unfold inK
 by_cases e:k<t.length
 ·rw [h e];rfl
 ·rw [List.take_of_length_le (by omega)]
theorem E2(a e:Nat->Bool)(k:Nat):(orB a e k != a k)=(e k && !a k):=by
 unfold orB;cases a k<;>cases e k<;>rfl
theorem M4(t s:Str)(k i:Nat):(at8 t k == at8 s i)=(at_ t k == at_ s i):=by
 rw [nk,nk]
 by_cases e:at_ t k=at_ s i
 ·rw [e];simp
 ·have h1:(at_ t k == at_ s i)=false:=by simpa using e
  have h2:¬ ((at_ t k).toNat:Int)=((at_ s i).toNat:Int):=fun h=>e (UInt8.toNat_inj.1 (by omega))
  rw [h1];simpa using h2
end
end Go.Dt
