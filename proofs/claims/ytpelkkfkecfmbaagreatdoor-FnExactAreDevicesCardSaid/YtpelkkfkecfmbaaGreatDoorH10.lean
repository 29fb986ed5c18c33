/- Part of a proof. -/
import Derived.Test.YtpelkkfkecfmbaaGreatDoorH9
set_option linter.all false
set_option maxRecDepth 20000
set_option maxHeartbeats 4000000
open Go.Proofs.Tryz
namespace Go.Ab
def HJ:List Value:=List.replicate 256 (.bool false)
end Go.Ab
namespace Go.Proofs
open Go.Ab
@[go_sem] def acR:ty prog 361=some (true,256)/\zer prog 361=some HJ/\elm prog 361=none/\ael prog 361=some (256,1)/\plc prog 361=none:=by and_intros<;>kernel_rfl
end Go.Proofs
namespace Go.Dt
open Go.Ab
section
def aX(h:Nat->Bool):List AV:=(List.range 256).map fun c=>.v (.bool (h c))
@[go_sem] def iY(h:Nat->Bool):(aX h).length=256:=by simp only [aX,List.length_map,List.length_range]
def tI(h:Nat->Bool){k:Nat}(hk:k<256):(aX h)[k]? = some (.ac (h k)):=by simp only [aX,List.getElem?_map,List.getElem?_range hk,Option.map_some]
def ND(h:Nat->Bool){k:Nat}(hk:k<256):(aX h).drop k=.ac (h k)::(aX h).drop (k+1):=by
 have hl:k<(aX h).length:=by rw [iY];exact hk
 rw [List.drop_eq_getElem_cons hl];have:=tI h hk;rw [List.getElem?_eq_getElem hl] at this;rw [Option.some.inj this]
@[go_sem] def ZI(h:Nat->Bool){k:Nat}(hk:k<256):((aX h).drop k).head? = some (.ac (h k)):=by rw [ND h hk];rfl
@[go_sem] def abA(h:Nat->Bool){k:Nat}(hk:k<256)(b:Bool):(aX h).take k++[.ac b]++(aX h).drop (k+1)=aX (fun c=>if c=k then b else h c):=by
 apply List.ext_getElem?;intro i;by_cases hi:i<256
 ·rw [tI _ hi];by_cases e1:i<k
  ·rw [List.append_assoc,List.getElem?_append_left (by simp [iY];omega),List.getElem?_take,if_pos e1,tI _ hi];rw [if_neg Ir]
  ·by_cases e2:i=k
   ·subst e2;rw [List.append_assoc,List.getElem?_append_right (by simp [iY];omega)];simp [iY,Nat.min_eq_left (Nat.le_of_lt hi)]
   ·rw [List.getElem?_append_right (by simp [iY];omega),List.getElem?_drop];simp only [List.length_append,List.length_take,iY,List.length_cons,List.length_nil];rw [show k+1+(i - (min k 256+(0+1)))=i by omega,tI _ hi,if_neg e2]
 ·rw [List.getElem?_eq_none (by simp [iY];omega),List.getElem?_eq_none (by rw [iY];omega)]
@[go_sem] def abD(h:Nat->Bool):(aX h).drop 256=[]:=List.drop_of_length_le (by rw [iY];exact Nat.le_refl _)
@[go_sem] def ZF(h:Nat->Bool):(aX h).take 256=aX h:=List.take_of_length_le (by rw [iY];exact Nat.le_refl _)
@[go_sem] def NC:HJ.map avz=aX (fun _=>false):=by
 simp only [HJ,List.map_replicate,avz];apply List.ext_getElem?;intro i;by_cases hi:i<256
 ·rw [tI _ hi,List.getElem?_replicate,if_pos hi]
 ·rw [List.getElem?_eq_none (by rw [List.length_replicate];omega),List.getElem?_eq_none (by rw [iY];omega)]
def wu{α:Type}{f:α->AV}(h:∀ x,(f x).cW=true):∀ l:List α,AV.nownL (l.map f)=true
 | []=>rfl
 | x::xs=>by simp only [List.map_cons,AV.nownL,h x,wu h xs,Bool.and_self]
def rP{α:Type}{f:α->AV}(h:∀ x,(f x).frz=f x):∀ l:List α,AV.bg (l.map f)=l.map f
 | []=>rfl
 | x::xs=>by simp only [List.map_cons,AV.bg,h x,rP h xs]
def yO{α:Type}{f:α->AV}(h:∀ x,(f x).closed=true):∀ l:List α,AV.cy (l.map f)=true
 | []=>rfl
 | x::xs=>by simp only [List.map_cons,AV.cy,h x,yO h xs,Bool.and_self]
@[go_sem] def ZG(h:Nat->Bool):AV.nownL (aX h)=true:=wu (fun _=>rfl) _
@[go_sem] def abC(h:Nat->Bool):AV.bg (aX h)=aX h:=rP (fun _=>rfl) _
@[go_sem] def abB(h:Nat->Bool):(aX h).all AV.one=true:=by simp only [aX,List.all_map,List.all_eq_true];intro x _;rfl
def wD{α:Type}{f:α->AV}(h:∀ x,(f x).keys=[]):∀ l:List α,AV.jN (l.map f)=[]
 | []=>rfl
 | x::xs=>by simp only [List.map_cons,AV.jN,h x,wD h xs,List.append_nil]
@[go_sem] def ZH(h:Nat->Bool):AV.jN (aX h)=[]:=wD (fun _=>rfl) _
@[go_sem] def abH(l:List bk):AV.bg (l.map bM)=l.map bM:=rP (fun x=>by rw [dz];rfl) _
@[go_sem] def MG(l:List bk):(l.map bM).all (AV.elem 3)=true:=bL (fun x=>by rw [dz];rfl) l
@[go_sem] def aaB(l:List bk):((l.map bM).flatMap AV.cells).all AV.one=true:=cf (fun x=>by rw [dz];rfl) l
end
section
mutual
def psz:bk->Nat
 | .mk _ _ ks=>1+nF ks
def nF:List bk->Nat
 | []=>0
 | x::xs=>psz x+nF xs
end
def AF(p:bk):psz p=1+nF p.af:=by cases p;simp [psz,bk.af]
theorem II{α β:Type}[Inhabited α]{f:α->β}{l:List α}{k:Nat}(h:k<l.length):(l.take (k+1)).map f=(l.take k).map f++[f (at_ l k)]:=by rw [List.take_add_one,List.map_append,tX h];rfl
def wj:∀ {l:List bk} {k:Nat},k<l.length->psz (at_ l k)<=nF l
 | [],_,h=>by simp at h
 | x::xs,0,_=>by simp [at_,nF]
 | x::xs,k+1,h=>by
  have:=wj (l:=xs) (k:=k) (by simpa using h);simp only [nF];have e:at_ (x::xs) (k+1)=at_ xs k:=by simp [at_]
  rw [e];omega
end
end Go.Dt
namespace Go.Proofs
open Go.Ab Go.Dt
theorem DU:∀ (n:Nat) (op:Int) (t:Str) (ks:List bk),Ctr lim prog 365 [] [.agg [.aa op,.str t,.sl false 3 (ks.map bM)]] (.agg [.aa op,.str t,.sl false 3 (ks.map bM)]) [] (nF ks<n)
 | 0,op,t,ks=>⟨(aU 365),fun h=>absurd h (Nat.not_lt_zero _)⟩
 | n+1,op,t,ks=>by
  have ih:=DU n;refine Ctr.bd func365 ntmps365 fun hp=>?_;refine AW.f0 0 fun hf=>?_
  (refine bU1 ?_;intro h h h)
  rename_i b1 b2;refine AW.aw [3,10] [1,2,8,9] (fun m xs o=>∃ k:Nat,xs=[.sl true 3 ((ks.take k).map bM),.aa k]/\o=[(b2,some kaa),(b1,some [.aa op,.str t,.sl false 3 (ks.map bM)])]/\m=ks.length - k/\k<=ks.length) ks.length [(b2,some kaa),(b1,some [.aa op,.str t,.sl false 3 (ks.map bM)])] (iA (Ne.symm h) rfl rfl) ⟨0,?_,rfl,rfl,?_⟩ ?_
  ·rfl
  ·omega
  rintro m xs o ⟨k,rfl,rfl,rfl,hk⟩;have hq:k<ks.length->_:=wj (l:=ks) (k:=k)
  have hq2:=AF (at_ ks k)
  have hlt:(ks.take k).length=k:=by rw [List.length_take];omega
  refine bK1 ?_;refine AW.c (fun h=>?_) fun h=>?_
  ·(refine bU1 ?_;intro h h)
   ·refine ⟨_,[_,_],[(b2,some kaa),(b1,some [.aa op,.str t,.sl false 3 (ks.map bM)])],Ir,⟨k+1,?_,rfl,rfl,Ir⟩,rfl,gO⟩;rw [II yG,dz]
  ·refine AW.imp (Imp.frz 3 ?_);refine gS ?_;rw [show k=ks.length by omega,List.take_length];exact bU0
instance ZP(op:Int)(t:Str)(ks:List bk):Ctr lim prog 365 [] [.agg [.aa op,.str t,.sl false 3 (ks.map bM)]] (.agg [.aa op,.str t,.sl false 3 (ks.map bM)]) [] True:=⟨(aU 365),fun _=>(DU (nF ks+1) op t ks).out Ir⟩
def mw(h:Nat->Bool)(i:Nat):Str:=((List.range i).filter h).map UInt8.ofNat
def rY(h:Nat->Bool)(i:Nat):mw h (i+1)=mw h i++(if h i then [UInt8.ofNat i] else []):=by
 unfold mw;rw [List.range_succ,List.filter_append,List.map_append]
 congr 1
 cases e:h i<;>simp [e]
def x9(h:Nat->Bool)(i:Nat):(mw h i).length<=i:=by unfold mw;rw [List.length_map];have:=List.length_filter_le h (List.range i);simpa using this
def vm(l:List UInt8){n:Nat}(h:n<=255):cX l++[.v (.int .u8 (n:Int))]=cX (l++[UInt8.ofNat n]):=by
 have:((UInt8.ofNat n).toNat:Int)=n:=by rw [UInt8.toNat_ofNat'];omega
 simp only [cX,List.map_append,List.map_cons,List.map_nil,this]
instance acJ(ha:Nat->Bool):Ctr lim prog 372 [] [.agg (aX ha)] (.agg [.aa 1,.str (pS ha),.sl false 3 []]) [] True:=by
 refine Ctr.bd func372 ntmps372 fun hp=>?_
 (refine bU1 ?_;intro h h h)
 rename_i b1 b2;refine AW.aw [3,6] [1,2] (fun m xs o=>∃ k:Nat,xs=[.sl true 1 (cX (mw ha k)),.aa k]/\o=[(b2,some kaa),(b1,some (aX ha))]/\m=256 - k/\k<=256) 256 [(b2,some kaa),(b1,some (aX ha))] (iA (Ne.symm h) rfl rfl) ⟨0,?_,rfl,rfl,?_⟩ ?_
 ·rfl
 ·omega
 rintro m xs o ⟨k,rfl,rfl,rfl,hk⟩;have hl:=x9 ha k
 have hs:=rY ha k;refine bK1 ?_;refine AW.c (fun h=>?_) fun h=>?_
 ·refine bK1 ?_;refine AW.c (fun h=>?_) fun h=>?_
  ·rename_i hh;rw [h] at hs;refine bU1 ?_;exact ⟨_,[_,_],[(b2,some kaa),(b1,some (aX ha))],Ir,⟨k+1,by rw [hs,if_pos rfl,<- vm _ Ir],rfl,rfl,Ir⟩,rfl,gO⟩
  ·rename_i hh;rw [h] at hs;refine bU1 ?_;exact ⟨_,[_,_],[(b2,some kaa),(b1,some (aX ha))],Ir,⟨k+1,by rw [hs];simp,rfl,rfl,Ir⟩,rfl,gO⟩
 ·refine bX1 ?_;refine AW.ret (EndsG.imp (Imp.iK (b:=b2) 3 [.aa 1,.str (mw ha k)] [] gO ?_));refine EndsG.fin rfl ?_;refine gS ?_;rw [show k=256 by omega];rfl
end Go.Proofs
namespace Go.Dt
open Go.Ab
def cn{s:Str}{i:Nat}{c:Int}:dC s i c=true↔i<s.length/\at8 s i=c:=by simp [dC]
def J5{s:Str}:∀ (n i:Nat) (has:Nat->Bool) (h':Nat->Bool) (k:Nat),s.length - i<n->oF s i has=some (h',k)->i<k/\k<=s.length
 | 0,_,_,_,_,h,_=>by omega
 | n+1,i,has,h',k,hn,h=>by
  rw [oF] at h;split at h
  ·rename_i h1;have:=cn.1 h1;simp only [Option.some.injEq,Prod.mk.injEq] at h;omega
  ·split at h
   ·cases h
   ·rename_i a z j he;have h2:=CY he
    have:=J5 n j _ h' k Ir h;omega
def Qy{s:Str}{i:Nat}{p:bk}{j:Nat}(h:jA s i=some (p,j)):i<j/\j<=s.length:=by
 unfold jA at h;split at h
 ·rename_i h1;have:=cn.1 h1;simp only [Option.some.injEq,Prod.mk.injEq] at h;omega
 ·split at h
  ·split at h
   ·cases h
   ·rename_i a z k he;have h2:=CY he;split at h
    ·cases h
    ·rename_i has k' hc;have:=J5 (s.length+1) _ _ _ _ Ir hc;simp only [Option.some.injEq,Prod.mk.injEq] at h;omega
  ·split at h
   ·rename_i h3;simp only [Bool.and_eq_true,decide_eq_true_eq] at h3;simp only [Option.some.injEq,Prod.mk.injEq] at h;omega
   ·cases h
def pBd(s:Str):∀ n:Nat,
  (∀ i p j,5 * (s.length - i)+4<n->i<=s.length->gN s i=some (p,j)->i<=j/\j<=s.length) /\
  (∀ i l p j,5 * (s.length - i)+3<n->i<=s.length->lg s i l=some (p,j)->i<=j/\j<=s.length) /\
  (∀ i l p j,5 * (s.length - i)+2<n->i<=s.length->gp s i l=some (p,j)->i<=j/\j<=s.length) /\
  (∀ i p j,5 * (s.length - i)+1<n->je s i=some (p,j)->i<j/\j<=s.length)
 | 0=>⟨Ir,Ir,Ir,Ir⟩
 | n+1=>by
  obtain ⟨i1,i2,i3,i4⟩:=pBd s n;refine ⟨?_,?_,?_,?_⟩
  ·intro i p j hn hi h;rw [gN] at h;split at h
   ·cases h
   ·rename_i q k hq;split at h
    ·have a1:=i3 i [] q k Ir hi hq
     have a2:=i2 k [q] p j Ir Ir h;omega
    ·cases h
  ·intro i l p j hn hi h;rw [lg] at h;split at h
   ·split at h
    ·split at h
     ·cases h
     ·rename_i q k hq;split at h
      ·have a1:=i3 (i+1) [] q k Ir Ir hq
       have a2:=i2 k (l++[q]) p j Ir Ir h;omega
      ·cases h
    ·simp only [Option.some.injEq,Prod.mk.injEq] at h;omega
   ·simp only [Option.some.injEq,Prod.mk.injEq] at h;omega
  ·intro i l p j hn hi h;rw [gp] at h;split at h
   ·split at h
    ·simp only [Option.some.injEq,Prod.mk.injEq] at h;omega
    ·split at h
     ·cases h
     ·rename_i q k hq;split at h
      ·rename_i hlt;have a1:=i4 i q k Ir hq
       have a3:=I8 s q a1.2
       have a2:=i3 _ _ p j Ir a3 h;omega
      ·cases h
   ·simp only [Option.some.injEq,Prod.mk.injEq] at h;omega
  ·intro i p j hn h;rw [je] at h;split at h
   ·split at h
    ·split at h
     ·cases h
     ·rename_i q k hq;split at h
      ·rename_i h41;have a1:=i1 (i+1) q k Ir Ir hq
       have:=cn.1 h41;simp only [Option.some.injEq,Prod.mk.injEq] at h;omega
      ·cases h
    ·exact Qy h
   ·cases h
def ze{s:Str}{i:Nat}{p:bk}{j:Nat}(h:je s i=some (p,j)):i<j/\j<=s.length:=(pBd s _).2.2.2 i p j (Nat.lt_succ_self _) h
def Jc{s:Str}{i:Nat}{l:List bk}{p:bk}{j:Nat}(hi:i<=s.length)(h:gp s i l=some (p,j)):i<=j/\j<=s.length:=(pBd s _).2.2.1 i l p j (Nat.lt_succ_self _) hi h
def lf(s:Str)(i:Nat):Option (bk×Nat) :=
 match je s i with
 | none=>none
 | some (p,j)=>some (post s p j)
def FM{s:Str}{i:Nat}{p:bk}{j:Nat}(h:lf s i=some (p,j)):i<j/\j<=s.length:=by
 unfold lf at h;split at h
 ·cases h
 ·rename_i q k hq;have a1:=ze hq
  have a2:=R8 s q k
  have a3:=I8 s q a1.2;simp only [Option.some.injEq] at h;rw [h] at a2 a3;omega
def rA{s:Str}{i:Nat}(l:List bk)(h:i<s.length->at8 s i=124\/at8 s i=41):gp s i l=some (mkSeq l,i):=by
 rw [gp];split
 ·rename_i hi;rw [if_pos (h hi)]
 ·rfl
def Dr{s:Str}{i:Nat}(l:List bk)(hi:i<s.length)(h1:¬ at8 s i=124)(h2:¬ at8 s i=41)(h:lf s i=none):gp s i l=none:=by
 rw [gp,dif_pos hi,if_neg Ir];unfold lf at h;split at h
 ·rename_i hq;rw [hq]
 ·cases h
def Jb{s:Str}{i:Nat}(l:List bk){p:bk}{j:Nat}(hi:i<s.length)(h1:¬ at8 s i=124)(h2:¬ at8 s i=41)(h:lf s i=some (p,j)):gp s i l=gp s j (l++[p]):=by
 have hb:=FM h
 conv=>lhs;rw [gp]
 rw [dif_pos hi,if_neg Ir];unfold lf at h;split at h
 ·cases h
 ·rename_i q k hq;simp only [Option.some.injEq] at h;rw [hq];simp only [h];rw [dif_pos hb.1]
def Ds{s:Str}{i:Nat}(h:gp s i []=none):gN s i=none:=by rw [gN,h]
def Jd{s:Str}{i:Nat}{p:bk}{j:Nat}(hi:i<=s.length)(h:gp s i []=some (p,j)):gN s i=lg s j [p]:=by have:=Jc hi h;rw [gN,h];simp only [if_pos this.1]
def AR{s:Str}{j:Nat}(l:List bk)(h:dC s j 124=false):lg s j l=some (uH l,j):=by
 rw [lg];split
 ·rename_i hj;rw [if_neg];intro e;rw [lF ⟨hj,e⟩] at h;cases h
 ·rfl
def AU{s:Str}{j:Nat}(l:List bk)(h:dC s j 124=true)(hq:gp s (j+1) []=none):lg s j l=none:=by have:=cn.1 h;rw [lg,dif_pos this.1,if_pos this.2,hq]
def FN{s:Str}{j:Nat}(l:List bk){p:bk}{k:Nat}(h:dC s j 124=true)(hq:gp s (j+1) []=some (p,k)):lg s j l=lg s k (l++[p]):=by
 have:=cn.1 h
 have hb:=Jc Ir hq
 conv=>lhs;rw [lg]
 rw [dif_pos this.1,if_pos this.2,hq];simp only [if_pos (show j<k by omega)]
def yJ{s:Str}{i:Nat}(h:dC s i 40=true)(hq:gN s (i+1)=none):je s i=none:=by have:=cn.1 h;rw [je,dif_pos this.1,if_pos this.2,hq]
def yI{s:Str}{i:Nat}{p:bk}{j:Nat}(h:dC s i 40=true)(hq:gN s (i+1)=some (p,j))(h1:dC s j 41=true):je s i=some (p,j+1):=by have:=cn.1 h;rw [je,dif_pos this.1,if_pos this.2,hq];simp only [h1,if_true]
def yH{s:Str}{i:Nat}{p:bk}{j:Nat}(h:dC s i 40=true)(hq:gN s (i+1)=some (p,j))(h1:dC s j 41=false):je s i=none:=by have:=cn.1 h;rw [je,dif_pos this.1,if_pos this.2,hq];simp only [h1];rfl
def AQ{s:Str}{i:Nat}(hi:i<s.length)(h:dC s i 40=false):je s i=jA s i:=by rw [je,dif_pos hi,if_neg];intro e;rw [lF ⟨hi,e⟩] at h;cases h
end Go.Dt
