/- Part of a proof. -/
import Derived.Test.YtpelkkfkecfmbaaGreatDoorH35
set_option linter.all false
set_option maxRecDepth 20000
set_option maxHeartbeats 4000000
open Go.Proofs.Tryz
namespace Go.Dt
open Go Go.Ab
def QR(a b:Operand):(#[a]++(none:Option Operand).toArray++(some b).toArray++(none:Option Operand).toArray).toList=[a,b]:=rfl
def SD{s:Str}{i:Nat}(h:mk2.contains (List.drop i (List.take ((i:Int)+2).toNat s))=true):List.drop i (List.take ((i:Int)+2).toNat s)=mkA (s.drop i):=by
 have e:List.drop i (List.take ((i:Int)+2).toNat s)=(s.drop i).take 2:=by rw [List.take_drop,show ((i:Int)+2).toNat=i+2 by omega]
 rw [e] at h ⊢;rw [mkA,if_pos h]
def Vv{s:Str}{i:Nat}(h:mk2.contains (List.drop i (List.take ((i:Int)+2).toNat s))=false):mk2.contains ((s.drop i).take 2)=false:=by
 have e:List.drop i (List.take ((i:Int)+2).toNat s)=(s.drop i).take 2:=by rw [List.take_drop,show ((i:Int)+2).toNat=i+2 by omega]
 rw [<- e];exact h
def MW{s:Str}{i:Nat}(h:s.length<i+2):mk2.contains ((s.drop i).take 2)=false:=by
 cases e:mk2.contains ((s.drop i).take 2) with
 | false=>rfl
 | true =>
  have:=xL _ (show (s.drop i).take 2∈mk2 by simpa using e);rw [List.length_take,List.length_drop] at this;omega
def SE{s:Str}{i:Nat}(h:mk2.contains ((s.drop i).take 2)=false)(h1:mk1.contains (at_ s i)=true):List.drop i (List.take (i+1) s)=mkA (s.drop i):=by
 have e0:at_ (s.drop i) 0=at_ s i:=by unfold at_;rw [List.getElem?_drop];rfl
 rw [mkA,if_neg (by rw [h];simp),e0,if_pos h1,List.take_drop]
def Pn{s:Str}{i:Nat}(h:mk2.contains ((s.drop i).take 2)=false)(h1:mk1.contains (at_ s i)=false):[]=mkA (s.drop i):=by
 have e0:at_ (s.drop i) 0=at_ s i:=by unfold at_;rw [List.getElem?_drop];rfl
 rw [mkA,if_neg (by rw [h];simp),e0,if_neg (by rw [h1];simp)]
def Uf{s t:Str}{i k:Nat}(h:at8 s i=at8 t k):at_ s i=at_ t k:=by rw [gZ,gZ] at h;exact UInt8.toNat_inj.1 Ir
def SF{s:Str}{i k:Nat}(hk:k<18)(h:at8 s i=at8 mk1 k):mk1.contains (at_ s i)=true:=by rw [Uf h];simpa using at_mem (l:=mk1) hk
def Vx{s:Str}{i k:Nat}(h:¬ at8 s i=at8 mk1 k):(at_ s i == at_ mk1 k)=false:=by rw [beq_eq_false_iff_ne];intro e;exact h (by rw [gZ,gZ,e])
def Vw{c:UInt8}{k:Nat}(hR:∀ y∈mk1.take k,(c == y)=false)(hk:18<=k):mk1.contains c=false:=by
 rw [List.take_of_length_le (show mk1.length<=k from hk)] at hR
 cases e:mk1.contains c with
 | false=>rfl
 | true =>
  have:=hR c (by simpa using e);simp at this
def Ve{s t:Str}(h:¬ t.length<=s.length):(s.take t.length == t)=false:=by rw [beq_eq_false_iff_ne];intro e;have:=congrArg List.length e;rw [List.length_take] at this;omega
def X3{n:Int}:nmI n=true↔(ltI n=true\/gG n=true)\/n=45:=by simp [nmI]
def X4{n:Int}(h:(ltI n=false/\gG n=false)/\¬ n=45):nmI n=false:=by simp [nmI,h]
def Vr{s:Str}{i k:Nat}(hi:i<s.length)(hl:ltI (at8 s i)=true)(hk:i<=k)(hR:k+((s.drop k).takeWhile nmU).length=i+((s.drop i).takeWhile nmU).length)(h:k<s.length->nmI (at8 s k)=false):∃ j,k=i+(j+1)/\nmT (s.drop i) (j+1)=nmN (s.drop i):=by
 have h1:=LX h
 have h2:=E1 hi (Pj hl);refine ⟨k - i - 1,Ir,?_⟩;rw [nmN,List.drop_drop]
 congr 1;omega
def Vp{s:Str}{i j:Nat}(hi:i<s.length)(hl:ltI (at8 s i)=true)(e:at8 s (i+j:Nat)=45):1<=j:=by
 match j,e with
 | 0,e=>rw [Nat.add_zero] at e;rw [e] at hl;exact absurd hl baa
 | j+1,_=>omega
def zZ{s:Str}{i j:Nat}:at8 (s.drop i) j=at8 s (i+j:Nat):=by rw [gZ,gZ];unfold at_;rw [List.getElem?_drop]
end Go.Dt
namespace Go.Proofs
open Go.Ab Go.Dt
instance Y7(s:Str)(i:Nat):Ctr lim prog 298 [] [.str s,.aa i] (.aa ((i+nmN (s.drop i):Nat))) [] (i<s.length/\ltI (at8 s i)=true):=by
 refine Ctr.bd func298 ntmps298 fun hp=>?_;have gOn:=aD.on;refine AW.f1 0 fun hf=>?_;obtain ⟨hi,hl⟩:=hp;refine vU1 ?_;refine AW.aw [5] [0] (fun m xs o=>∃ k:Nat,xs=[.aa k]/\o=[]/\m=s.length - k/\i<=k/\k<=s.length/\k+((s.drop k).takeWhile nmU).length=i+((s.drop i).takeWhile nmU).length) (s.length - i) [] trivial ⟨i,rfl,rfl,rfl,Nat.le_refl _,Ir,rfl⟩ ?_;rintro m xs o ⟨k,rfl,rfl,rfl,hk1,hk,hR⟩
 (refine vU2 ?_ ?_<;>with_reducible repeat intro h)
 ·exact ⟨_,[_],[],Ir,⟨k+1,rfl,rfl,rfl,Ir,Ir,by rw [<- hR,E1 h.1 (X3.2 h.2)];omega⟩,rfl,trivial⟩
 obtain ⟨j,hj,hj2⟩:=Vr hi hl hk1 hR (fun e=>X4 (h e));refine AW.aw [5] [0] (fun m xs o=>∃ j:Nat,xs=[.aa (i+(j+1):Nat)]/\o=[]/\m=j/\i+(j+1)<=s.length/\nmT (s.drop i) (j+1)=nmN (s.drop i)) j [] trivial ⟨j,by rw [hj];rfl,rfl,rfl,Ir,hj2⟩ ?_;clear hj hj2 hk1 hk hR h;rintro m xs o ⟨j,rfl,rfl,rfl,hk,hR⟩
 (refine vU2 ?_ ?_<;>with_reducible repeat intro h)
 ·rw [show i+(m+1) - 1=i+m by omega] at h ⊢;have h1:=Vp hi hl h
  obtain ⟨q,rfl⟩:∃ q,m=q+1:=⟨m - 1,Ir⟩
  exact ⟨q,[_],[],Ir,⟨q,rfl,rfl,rfl,Ir,by rw [<- hR,MT (n:=q+1) (by rw [zZ];exact h)]⟩,rfl,trivial⟩
 ·rw [show i+(m+1) - 1=i+m by omega] at h;rw [<- hR,FZ (by rw [zZ];exact h)]
instance Y8(s:Str)(i:Nat):Ctr lim prog 302 [] [.str s,.aa i] (.str (mkA (s.drop i))) [] (i<s.length):=by
 refine Ctr.bd func302 ntmps302 fun hp=>?_;have gOn:=aD.on;refine AW.f1 0 fun hf=>?_
 (refine vU ?_;with_reducible repeat' first|exact Le.l|apply Sw|intro h)
 all_goals try contradiction
 all_goals try (rw [SD (by simp_all [mk2])];done)
 all_goals have hm:mk2.contains ((s.drop i).take 2)=false:=by first|(refine Vv ?_;simp_all [mk2];done)|(refine MW ?_;omega)
 all_goals refine AW.aw [5] [0,1] (fun m xs o=>∃ k:Nat,xs=[.aa k]/\o=[]/\m=18 - k/\k<=18/\∀ y∈mk1.take k,(at_ s i == y)=false) 18 [] trivial ⟨0,rfl,rfl,rfl,Ir,QC⟩ ?_
 all_goals rintro m xs o ⟨k,rfl,rfl,rfl,hk,hR⟩
 all_goals (refine vU ?_;with_reducible repeat' first|exact Le.l|apply Sw|intro h)
 all_goals first
  | (rw [SE hm (SF Ir h)];done)
  | (rw [Pn hm (Vw hR Ir)];done)
  | exact ⟨_,[_],[],Ir,⟨k+1,rfl,rfl,rfl,Ir,aL (show k<mk1.length by have:mk1.length=18:=rfl;omega) hR (Vx h)⟩,rfl,trivial⟩
instance Wa(s t:Str):Ctr lim prog 349 [] [.str s,.str t] (.ac (s.take t.length == t)) [] True:=by
 refine Ctr.bd func349 ntmps349 fun hp=>?_;refine AW.f1 0 fun hf=>?_;refine AW.fact 1 fun hf2=>?_;simp (disch:=omega) only [go_sem] at hf2;by_cases hle:t.length<=s.length
 ·have e:=decide_eq_true hle
  (repeat' first|(with_reducible first|refine Z ?_|refine Y ?_|(refine hK _ _ ?_;clear hK K)|refine And.intro ?_ ?_|exact Ct|intro (K:_->_->Prop) hK|(refine gI fun hg=>?_;try simp only [hC,reduceCtorEq] at hg;try simp only [hg]))|(refine AW.i rfl (fun h=>?_) (fun h=>?_)<;>try simp only [hC,reduceCtorEq] at h)|((with_reducible refine E ?_;repeat refine Y ?_);refine eF rfl ?_)|simp (disch:=omega) only [go_sem,e,QR]|(with_reducible intro hg;try simp only [hC,reduceCtorEq] at hg)|exact Cl|fail)
  all_goals rfl
 ·have e:=decide_eq_false hle
  (repeat' first|(with_reducible first|refine Z ?_|refine Y ?_|(refine hK _ _ ?_;clear hK K)|refine And.intro ?_ ?_|exact Ct|intro (K:_->_->Prop) hK|(refine gI fun hg=>?_;try simp only [hC,reduceCtorEq] at hg;try simp only [hg]))|(refine AW.i rfl (fun h=>?_) (fun h=>?_)<;>try simp only [hC,reduceCtorEq] at h)|((with_reducible refine E ?_;repeat refine Y ?_);refine eF rfl ?_)|simp (disch:=omega) only [go_sem,e,QR]|(with_reducible intro hg;try simp only [hC,reduceCtorEq] at hg)|exact Cl|fail)
  rw [Ve hle]
instance Xu(s t:Str):Ctr lim prog 335 [] [.str s,.str t] (.ac (s.take t.length == t)) [] True:=by
 refine Ctr.bd func335 ntmps335 fun hp=>?_
 all_goals exact uU
end Go.Proofs
namespace Go.Dt
open Go Go.Ab
def IA{s:Str}(h:ltI (at8 s 0)=true):dJ s=(1,s.take (nmN s),nmN s):=by rw [dJ,if_pos h]
def X6{n:Int}(h:gG n=true):ltI n=false:=by
 simp only [gG,Bool.and_eq_true,decide_eq_true_eq] at h
 cases e:ltI n with
 | false=>rfl
 | true=>simp only [ltI,Bool.and_eq_true,decide_eq_true_eq] at e;omega
def IC{s:Str}(h:gG (at8 s 0)=true):dJ s=(2,s.take (dgN s),dgN s):=by rw [dJ,if_neg (by rw [X6 h];simp),if_pos h]
def xA{s:Str}(h:at8 s 0=34):dJ s=(3,(qE s).2,(qE s).1):=by rw [dJ,h,if_neg baa,if_neg baa,if_pos rfl,qE];cases jF s<;>rfl
def Sy{s:Str}{k:Nat}(hi:0<s.length)(hl:ltI (at8 s 0)=true)(hk:1<=k)(hR:k+((s.drop k).takeWhile nmU).length=1+((s.drop 1).takeWhile nmU).length)(h:k<s.length->nmI (at8 s k)=false):∃ j,k=j+1/\nmT s (j+1)=nmN s:=by have h1:=LX h;exact ⟨k - 1,Ir,by rw [nmN];congr 1;omega⟩
def Jl{s:Str}{j:Nat}(hl:ltI (at8 s 0)=true)(e:at8 s j=45):1<=j:=by
 match j,e with
 | 0,e=>rw [show ((0:Nat):Int)=0 from rfl] at e;rw [e] at hl;exact absurd hl baa
 | j+1,_=>omega
def VP{l:List UInt8}{c:UInt8}(h:0<=Lib.indexByte l c):l.contains c=true:=by
 induction l with
 | nil=>simp [Lib.indexByte] at h
 | cons b l ih =>
  rw [Lib.indexByte] at h;split at h
  ·rename_i e;simp only [beq_iff_eq] at e;simp [e]
  ·split at h
   ·omega
   ·rename_i e;have:=Lib.indexByte_ge l c
    have e2:Lib.indexByte l c≠-1:=by simpa using e
    have:=ih Ir;simp only [List.contains_cons,this,Bool.or_true]
def Yh{l:List UInt8}{c:UInt8}(h:Lib.indexByte l c<0):l.contains c=false:=by
 induction l with
 | nil=>rfl
 | cons b l ih =>
  rw [Lib.indexByte] at h;split at h
  ·omega
  ·rename_i hb
   have hb':(c == b)=false:=by
    rw [beq_eq_false_iff_ne];intro e;exact hb (by simp [e])
   split at h
   ·rename_i e;have e2:Lib.indexByte l c = -1:=by simpa using e
    simp only [List.contains_cons,hb',Bool.false_or];exact ih Ir
   ·have:=Lib.indexByte_ge l c;simp only [List.contains_cons,hb',Bool.false_or];exact ih Ir
def QH(s:Str):UInt8.ofNat (at8 s 0).toNat=at_ s 0:=by rw [show at8 s 0=at8 s ((0:Nat):Int) from rfl,gZ];simp
def MY{k:Nat}(hk:k<4):(at_ mk2 k).length=2:=xL _ (at_mem (l:=mk2) hk)
def Rv{s:Str}{k:Nat}(h1:ltI (at8 s 0)=false)(h2:gG (at8 s 0)=false)(h3:¬ at8 s 0=34)(hk:k<4)(h:s.take (at_ mk2 k).length=at_ mk2 k):dJ s=(4,at_ mk2 k,2):=by
 rw [MY hk] at h;have hm:mk2.contains (s.take 2)=true:=by rw [h];simpa using at_mem (l:=mk2) hk
 rw [dJ,if_neg (by simp [h1]),if_neg (by simp [h2]),if_neg h3,if_pos hm,h]
def X5{s:Str}{k:Nat}(hk:k<4)(h:¬ s.take (at_ mk2 k).length=at_ mk2 k):(s.take 2 == at_ mk2 k)=false:=by rw [MY hk] at h;exact beq_eq_false_iff_ne.2 h
def QY{x:Str}{k:Nat}(hR:∀ y∈mk2.take k,(x == y)=false)(hk:4<=k):mk2.contains x=false:=by
 rw [List.take_of_length_le (show mk2.length<=k from hk)] at hR
 cases e:mk2.contains x with
 | false=>rfl
 | true =>
  have:=hR x (by simpa using e);simp at this
def Rw{s:Str}(h1:ltI (at8 s 0)=false)(h2:gG (at8 s 0)=false)(h3:¬ at8 s 0=34)(h:mk2.contains (s.take 2)=false)(h5:mk1.contains (at_ s 0)=true):dJ s=(4,s.take 1,1):=by rw [dJ,if_neg (by simp [h1]),if_neg (by simp [h2]),if_neg h3,if_neg (by rw [h];simp),if_pos h5]
def Ry{s:Str}(h1:ltI (at8 s 0)=false)(h2:gG (at8 s 0)=false)(h3:¬ at8 s 0=34)(h:mk2.contains (s.take 2)=false)(h5:mk1.contains (at_ s 0)=false):dJ s=(0,[],0):=by rw [dJ,if_neg (by simp [h1]),if_neg (by simp [h2]),if_neg h3,if_neg (by rw [h];simp),if_neg (by rw [h5];simp)]
def aJ(x:bt):AV:=.agg [.v (.int .i64 x.k),.str x.t,.v (.int .i64 x.a)]
def vP(l:List bt):(l.map aJ).all (AV.elem 3)=true:=bL (fun _=>rfl) l
def yV(l:List bt):((l.map aJ).flatMap AV.cells).all AV.one=true:=cf (fun _=>rfl) l
def DQ(x:bt):aJ x=.agg [.aa x.k,.str x.t,.aa x.a]:=rfl
end Go.Dt
namespace Go.Proofs
open Go.Ab Go.Dt
instance Yi(s:Str):Ctr lim prog 314 [] [.str s] (.tup [.agg [.aa (dJ s).1,.str (dJ s).2.1,.aa 0],.aa ((dJ s).2.2:Nat)]) [] (0<s.length/\s.length<=1048576):=by
 refine Ctr.bd func314 ntmps314 fun hp=>?_;have gOn:=aD.on;obtain ⟨hs0,hs⟩:=hp
 (refine vU4 ?_ ?_ ?_ ?_<;>with_reducible repeat intro h)
 ·rename Nat=>b
  have hl:=h;refine AW.aw [4] [0,2] (fun m xs o=>∃ k:Nat,xs=[.aa k]/\o=[(b,some [.aa 0,.str [],.aa 0])]/\m=s.length - k/\1<=k/\k<=s.length/\k+((s.drop k).takeWhile nmU).length=1+((s.drop 1).takeWhile nmU).length) (s.length - 1) [(b,some [.aa 0,.str [],.aa 0])] (cj rfl) ⟨1,rfl,rfl,rfl,Nat.le_refl _,hs0,rfl⟩ ?_;rintro m xs o ⟨k,rfl,rfl,rfl,hk1,hk,hR⟩
  (refine vU2 ?_ ?_<;>with_reducible repeat intro h)
  ·exact ⟨_,[_],_,Ir,⟨k+1,rfl,rfl,rfl,Ir,Ir,by rw [<- hR,E1 h.1 h.2];omega⟩,rfl,cj rfl⟩
  obtain ⟨j,hj,hj2⟩:=Sy hs0 hl hk1 hR h;refine AW.aw [4] [0,2] (fun m xs o=>∃ j:Nat,xs=[.aa (j+1:Nat)]/\o=[(b,some [.aa 0,.str [],.aa 0])]/\m=j/\j+1<=s.length/\nmT s (j+1)=nmN s) j [(b,some [.aa 0,.str [],.aa 0])] (cj rfl) ⟨j,by rw [hj];rfl,rfl,rfl,Ir,hj2⟩ ?_;clear hj hj2 hk1 hk hR h;rintro m xs o ⟨j,rfl,rfl,rfl,hk,hR⟩
  (refine vU2 ?_ ?_<;>with_reducible repeat intro h)
  ·have h1:=Jl hl h
   obtain ⟨q,rfl⟩:∃ q,m=q+1:=⟨m - 1,Ir⟩
   exact ⟨q,[_],_,Ir,⟨q,rfl,rfl,rfl,Ir,by rw [<- hR,MT h]⟩,rfl,cj rfl⟩
  ·rw [IA hl,<- hR,FZ h]<;>rfl
 ·rename Nat=>b
  have hl:=h;refine AW.aw [5] [0,2] (fun m xs o=>∃ k:Nat,xs=[.aa k]/\o=[(b,some [.aa 0,.str [],.aa 0])]/\m=s.length - k/\1<=k/\k<=s.length/\k+((s.drop k).takeWhile dgU).length=dgN s) (s.length - 1) [(b,some [.aa 0,.str [],.aa 0])] (cj rfl) ⟨1,rfl,rfl,rfl,Nat.le_refl _,hs0,rfl⟩ ?_;rintro m xs o ⟨k,rfl,rfl,rfl,hk1,hk,hR⟩
  (refine vU2 ?_ ?_<;>with_reducible repeat intro h)
  ·exact ⟨_,[_],_,Ir,⟨k+1,rfl,rfl,rfl,Ir,Ir,by rw [<- hR,Hj h.1 h.2];omega⟩,rfl,cj rfl⟩
  ·rw [IC hl,<- hR,Ra h]<;>rfl
 ·rw [xA h]
 ·rename Nat=>b
  have hn1:ltI (at8 s 0)=false:=by assumption
  have hn2:gG (at8 s 0)=false:=by assumption
  have hn3:=h;refine AW.imp (Imp.frz 71 ?_);refine gS ?_;rw [show ([.str [33,61],.str [60,61],.str [62,61],.str [46,46]]:List AV)=mk2.map AV.str from rfl];have hml:mk2.length=4:=rfl;refine AW.aw [73] [0,2,71,72] (fun m xs o=>∃ k:Nat,xs=[.aa k]/\o=[(b,some [.aa 0,.str [],.aa 0])]/\m=4 - k/\k<=4/\∀ y∈mk2.take k,(s.take 2 == y)=false) 4 [(b,some [.aa 0,.str [],.aa 0])] (cj rfl) ⟨0,rfl,rfl,rfl,Ir,QC⟩ ?_;rintro m xs o ⟨k,rfl,rfl,rfl,hk,hR⟩
  (refine vU4 ?_ ?_ ?_ ?_<;>with_reducible repeat intro h)
  ·rw [Rv hn1 hn2 hn3 Ir h]<;>rfl
  ·exact ⟨_,[_],_,Ir,⟨k+1,rfl,rfl,rfl,Ir,aL Ir hR (X5 Ir h)⟩,rfl,cj rfl⟩
  ·rw [Rw hn1 hn2 hn3 (QY hR Ir) (by rw [<- QH];first|exact VP h|exact h)]<;>rfl
  ·rw [Ry hn1 hn2 hn3 (QY hR Ir) (by rw [<- QH];first|exact Yh h|exact h|exact Bool.eq_false_iff.2 h)]<;>rfl
end Go.Proofs
namespace Go.Dt
open Go Go.Ab
def Vu(s:Str):(mkA s).length<=2/\(mkA s).length<=s.length:=by
 unfold mkA;split
 ·rw [List.length_take];omega
 ·split
  ·rw [List.length_take];omega
  ·simp
def ll{s:Str}{k:Nat}:at8 (s.drop k) 0=at8 s k:=by have:=zZ (s:=s) (i:=k) (j:=0);simpa using this
def zP{s:Str}{k:Nat}(hk:k<s.length)(e:at8 s k=34)(h:¬ j5 s k<0):∃ q,qGo (s.drop (k+1))=some q/\j5 s k=((k+(q.1+1):Nat):Int)/\jF (s.drop k)=some (q.1+1,q.2):=by
 cases hq:qGo (s.drop (k+1)) with
 | none=>exact absurd (by rw [xa (by rw [qAt,hq];rfl)];decide) h
 | some q =>
  refine ⟨q,rfl,?_,?_⟩
  ·rw [rR (p:=(q.1+(k+1),q.2)) (by rw [qAt,hq];rfl)];simp only;omega
  ·rw [Ew (by rw [List.length_drop];omega) (by rw [ll];exact e),qAt,List.drop_drop,hq];rfl
def TL{s:Str}{k:Nat}(hk:k<s.length)(e:at8 s k=34)(h:¬ j5 s k<0):(k:Int)<=j5 s k/\j5 s k<=s.length/\j5 s k=((k+(qE (s.drop k)).1:Nat):Int):=by
 obtain ⟨q,h1,h2,h3⟩:=zP hk e h;have:=xI h3;rw [List.length_drop] at this;have e2:qE (s.drop k)=(q.1+1,q.2):=by rw [qE,h3]
 simp only at this;rw [e2];simp only;omega
def Qi{s:Str}{k:Nat}(hk:k<s.length)(e:at8 s k=34)(h:j5 s k<0):(dJ (s.drop k)).2.2=0:=by
 rw [xA (by rw [ll];exact e)];show (qE (s.drop k)).1=0
 cases hq:qGo (s.drop (k+1)) with
 | none=>rw [BV (by rw [List.length_drop];omega) (by rw [ll];exact e) (by rw [qAt,List.drop_drop,hq];rfl)]
 | some q =>
  rw [rR (p:=(q.1+(k+1),q.2)) (by rw [qAt,hq];rfl)] at h;simp only at h;omega
def JU{s:Str}{k:Nat}(hk:k<s.length)(e:at8 s k=34)(h:¬ j5 s k<0):jF (List.drop k (List.take (j5 s k).toNat s))=some ((List.drop k (List.take (j5 s k).toNat s)).length,(dJ (s.drop k)).2.1):=by
 obtain ⟨q,h1,h2,h3⟩:=zP hk e h;have e2:qE (s.drop k)=(q.1+1,q.2):=by rw [qE,h3]
 have hl:=xI h3
 have e3:List.drop k (List.take (j5 s k).toNat s)=(s.drop k).take (q.1+1):=by rw [List.take_drop,h2];rfl
 rw [e3,Mx h3,xA (by rw [ll];exact e),e2,List.length_take];simp only at hl;rw [Nat.min_eq_left hl.2.1]
def qH{s:Str}{k:Nat}{l:List bt}{R:List bt×Int}(hk:k<s.length)(e:¬ (at8 s k=32\/at8 s k=10))(e2:¬ at8 s k=35){x:Int}{t:Str}{n:Nat}(ht:dJ (s.drop k)=(x,t,n))(hn:¬ n=0)(hR:jl s k l=R):jl s (k+n) (l++[⟨x,t,k⟩])=R:=by rw [<- hR,Pu hk e e2 (by rw [ht];exact hn),ht]
def Jm{s:Str}(hl:ltI (at8 s 0)=true):∀ n,1<=nmT s (n+1)
 | 0=>by
  rw [nmT];split
  ·rename_i e;exact absurd (Jl hl e) Ir
  ·omega
 | n+1=>by
  rw [nmT];split
  ·exact Jm hl n
  ·omega
def Sz{s:Str}(hl:ltI (at8 s 0)=true):¬ nmN s=0:=by have:=Jm hl ((s.drop 1).takeWhile nmU).length;rw [nmN,Nat.add_comm];omega
def XD{s:Str}{k:Nat}(hk:k<s.length)(e:at8 s k=34)(h:¬ j5 s k<0):(dJ (s.drop k)).1=3/\j5 s k=((k+(dJ (s.drop k)).2.2:Nat):Int)/\¬ (dJ (s.drop k)).2.2=0:=by
 obtain ⟨q,h1,h2,h3⟩:=zP hk e h;have e2:qE (s.drop k)=(q.1+1,q.2):=by rw [qE,h3]
 rw [xA (by rw [ll];exact e),e2];exact ⟨rfl,h2,QC⟩
end Go.Dt
namespace Go.Proofs
open Go.Ab Go.Dt
attribute [local go_sem] vP yV DQ
instance Nw(s:Str):Ctr lim prog 274 [] [.str s] (.tup [.sl true 3 ((eI s).1.map aJ),.aa (eI s).2]) [] (s.length<=1048576):=by
 refine Ctr.bd func274 ntmps274 fun hp=>?_;have gOn:=aD.on;refine vU1 ?_;refine AW.aw [4,5] [0] (fun m xs o=>∃ (k:Nat) (l:List bt),xs=[.sl true 3 (l.map aJ),.aa k]/\o=[]/\m=s.length - k/\k<=s.length/\l.length<=k/\jl s k l=eI s) s.length [] trivial ⟨0,[],rfl,rfl,rfl,Nat.zero_le _,Nat.le_refl _,Gf s⟩ ?_;rintro m xs o ⟨k,l,rfl,rfl,rfl,hk,hl,hR⟩;have ht:=fun h=>BQ (s:=s.drop k) (show 0<(s.drop k).length from h);simp only [List.length_drop] at ht
 (repeat' first|(with_reducible first|refine Z ?_|refine Y ?_|(refine hK _ _ ?_;clear hK K)|refine And.intro ?_ ?_|exact Ct|intro (K:_->_->Prop) hK|(refine gI fun hg=>?_;try simp only [hC,reduceCtorEq] at hg;try simp only [hg]))|(refine AW.i rfl (fun h=>?_) (fun h=>?_)<;>try simp only [hC,reduceCtorEq] at h)|((with_reducible refine E ?_;repeat refine Y ?_);refine eF rfl ?_)|simp (disch:=omega) only [go_sem,List.take_length]|(with_reducible intro hg;try simp only [hC,reduceCtorEq] at hg)|exact Cl|fail)
 ·exact ⟨_,[_,_],[],Ir,⟨k+1,l,rfl,rfl,rfl,Ir,Ir,by rw [<- hR,<- Cm yG (.inl yG)]⟩,rfl,trivial⟩
 ·exact ⟨_,[_,_],[],Ir,⟨k+1,l,rfl,rfl,rfl,Ir,Ir,by rw [<- hR,<- Cm yG (.inr h)]⟩,rfl,trivial⟩
 ·have hk1:k<s.length:=by assumption
  have hc:=tU hk1 h;rw [Jr hk1 h] at hR;refine AW.aw [5] [0,4] (fun m xs o=>∃ j:Nat,xs=[.aa j]/\o=[]/\m=s.length - j/\j<=s.length/\k<=j/\j+cmE (s.drop j)=k+cmE (s.drop k)) (s.length - k) [] trivial ⟨k,rfl,rfl,rfl,hk,Nat.le_refl _,rfl⟩ ?_;rintro m xs o ⟨j,rfl,rfl,rfl,hj,hkj,hq⟩
  (refine vU2 ?_ ?_<;>with_reducible repeat intro h)
  ·exact ⟨_,[_],[],Ir,⟨j+1,rfl,rfl,rfl,Ir,Ir,by rw [<- hq,Oe h.1 h.2];omega⟩,rfl,trivial⟩
  ·have hz:=Rh (s:=s) (j:=j) (fun e=>by simpa using h e);exact ⟨_,[_,_],[],Ir,⟨j,l,rfl,rfl,rfl,Ir,Ir,by rw [<- hR,<- hq,hz,Nat.add_zero]⟩,rfl,trivial⟩
 ·rw [List.length_drop];omega
 ·rw [List.length_drop];omega
 ·rw [<- hR,zo yG Ir yG Ir];rfl
 ·exact ⟨_,[_,_],_,Ir,⟨k+(dJ (s.drop k)).2.2,l++[⟨(dJ (s.drop k)).1,(dJ (s.drop k)).2.1,k⟩],rfl,rfl,rfl,Ir,by rw [List.length_append,List.length_singleton];omega,qH (x:=(dJ (s.drop k)).1) (t:=(dJ (s.drop k)).2.1) (n:=(dJ (s.drop k)).2.2) yG Ir yG rfl Ir hR⟩,by rw [List.map_append];rfl,trivial⟩
 ·rw [<- hR,Gg h]
instance Ml(s:Str):Ctr lim prog 257 [] [.str s] (.tup [.sl true 3 ((eI s).1.map aJ),.aa (eI s).2]) [] (s.length<=1048576):=by
 refine Ctr.bd func257 ntmps257 fun hp=>?_;have gOn:=aD.on;refine vU1 ?_;refine AW.aw [4,5] [0] (fun m xs o=>∃ (k:Nat) (l:List bt),xs=[.sl true 3 (l.map aJ),.aa k]/\o=[]/\m=s.length - k/\k<=s.length/\l.length<=k/\jl s k l=eI s) s.length [] trivial ⟨0,[],rfl,rfl,rfl,Nat.zero_le _,Nat.le_refl _,Gf s⟩ ?_;rintro m xs o ⟨k,l,rfl,rfl,rfl,hk,hl,hR⟩;have hm:=Vu (s.drop k);rw [List.length_drop] at hm;have hn:=fun h=>BQ (s:=s.drop k) (show 0<(s.drop k).length from h);simp only [List.length_drop] at hn;have hnm:=fun e=>IA (s:=s.drop k) e;rw [ll] at hnm;have he:=fun a b=>TL (s:=s) (k:=k) a b
 (refine vU ?_;with_reducible repeat' first|exact Le.l|apply Sw|intro h)
 ·exact ⟨_,[_,_],[],Ir,⟨k+1,l,rfl,rfl,rfl,Ir,Ir,by rw [<- hR,<- Cm yG h]⟩,rfl,trivial⟩
 ·have hk1:k<s.length:=by assumption
  have hc:=tU hk1 h;rw [Jr hk1 h] at hR;refine AW.aw [5] [0,4] (fun m xs o=>∃ j:Nat,xs=[.aa j]/\o=[]/\m=s.length - j/\j<=s.length/\k<=j/\j+cmE (s.drop j)=k+cmE (s.drop k)) (s.length - k) [] trivial ⟨k,rfl,rfl,rfl,hk,Nat.le_refl _,rfl⟩ ?_;rintro m xs o ⟨j,rfl,rfl,rfl,hj,hkj,hq⟩
  (refine vU2 ?_ ?_<;>with_reducible repeat intro h)
  ·exact ⟨_,[_],[],Ir,⟨j+1,rfl,rfl,rfl,Ir,Ir,by rw [<- hq,Oe h.1 h.2];omega⟩,rfl,trivial⟩
  ·have hz:=Rh (s:=s) (j:=j) (fun e=>by simpa using h e);exact ⟨_,[_,_],[],Ir,⟨j,l,rfl,rfl,rfl,Ir,Ir,by rw [<- hR,<- hq,hz,Nat.add_zero]⟩,rfl,trivial⟩
 ·have h1:=hnm yG
  have h2:=hn Ir;rw [h1] at h2;simp only at h2;omega
 ·have h1:=hnm h
  have h2:=hn Ir
  have h3:=Sz (s:=s.drop k) (by rw [ll];exact h);rw [h1] at h2;simp only at h2;rw [<- List.take_drop];exact ⟨_,[_,_],_,Ir,⟨k+nmN (s.drop k),l++[⟨1,_,k⟩],rfl,rfl,rfl,Ir,by rw [List.length_append,List.length_singleton];omega,qH yG Ir yG h1 h3 hR⟩,by rw [List.map_append];rfl,trivial⟩
 ·have hk1:k<s.length:=by assumption
  have h1:=IC (s:=s.drop k) (by rw [ll];exact h)
  have h2:=hn Ir;rw [h1] at h2;simp only at h2;have e1:=Hj hk1 h
  have e2:k+((s.drop k).takeWhile dgU).length=k+dgN (s.drop k):=by rw [dgN,List.drop_drop];omega
  refine AW.aw [5] [0,4,6] (fun m xs o=>∃ j:Nat,xs=[.aa j]/\o=[]/\m=s.length - j/\j<=s.length/\k<=j/\j+((s.drop j).takeWhile dgU).length=k+dgN (s.drop k)) (s.length - k) [] trivial ⟨k,rfl,rfl,rfl,hk,Nat.le_refl _,e2⟩ ?_;clear e1 e2;rintro m xs o ⟨j,rfl,rfl,rfl,hj,hkj,hq⟩;have hd:dgN (s.drop k)=1+(((s.drop k).drop 1).takeWhile dgU).length:=rfl
  (refine vU2 ?_ ?_<;>with_reducible repeat intro h)
  ·exact ⟨_,[_],[],Ir,⟨j+1,rfl,rfl,rfl,Ir,Ir,by rw [<- hq,Hj h.1 h.2];omega⟩,rfl,trivial⟩
  ·have hz:=Ra (s:=s) (j:=j) h;obtain rfl:j=k+dgN (s.drop k):=by omega
   rw [<- List.take_drop];exact ⟨_,[_,_],_,Ir,⟨k+dgN (s.drop k),l++[⟨2,_,k⟩],rfl,rfl,rfl,Ir,by rw [List.length_append,List.length_singleton];omega,qH hk1 Ir yG h1 Ir hR⟩,by rw [List.map_append];rfl,trivial⟩
 ·rw [<- hR,zo yG Ir yG (Qi yG yG h)];rfl
 ·have h1:=JU (s:=s) (k:=k) yG yG Ir;rw [h1,qE,h1]
 ·rw [List.length_drop,List.length_take];omega
 ·have h1:=JU (s:=s) (k:=k) yG yG Ir;obtain ⟨h2,h3,h4⟩:=XD (s:=s) (k:=k) yG yG Ir;have h5:=hn Ir;rw [qE,h1,h3];exact ⟨_,[_,_],_,Ir,⟨k+(dJ (s.drop k)).2.2,l++[⟨3,(dJ (s.drop k)).2.1,k⟩],rfl,rfl,rfl,Ir,by rw [List.length_append,List.length_singleton];omega,qH yG Ir yG (by rw [<- h2]) h4 hR⟩,by rw [List.map_append];rfl,trivial⟩
 ·have h1:=IB (s:=s.drop k) (by rw [List.length_drop];omega) (by rw [ll];assumption) (by rw [ll];assumption) (by rw [ll];assumption);rw [if_pos h] at h1;rw [<- hR,zo yG Ir yG (by rw [h1])];rfl
 ·have h1:=IB (s:=s.drop k) (by rw [List.length_drop];omega) (by rw [ll];assumption) (by rw [ll];assumption) (by rw [ll];assumption);rw [if_neg h] at h1;have h2:¬ (mkA (s.drop k)).length=0:=fun e=>h (List.eq_nil_of_length_eq_zero e);exact ⟨_,[_,_],_,Ir,⟨k+(mkA (s.drop k)).length,l++[⟨4,_,k⟩],rfl,rfl,rfl,Ir,by rw [List.length_append,List.length_singleton];omega,qH yG Ir yG h1 h2 hR⟩,by rw [List.map_append];rfl,trivial⟩
 ·rw [<- hR,Gg h]
end Go.Proofs
