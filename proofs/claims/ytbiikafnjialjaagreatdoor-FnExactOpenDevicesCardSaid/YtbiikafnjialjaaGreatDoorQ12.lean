/- Part of a proof. -/
import Derived.Test.YtbiikafnjialjaaGreatDoorQ10
import Derived.Test.YtbiikafnjialjaaGreatDoorQ11
set_option linter.all false
set_option maxRecDepth 20000
set_option maxHeartbeats 4000000
open Go.Proofs.Tryz
open List
namespace Go.Ab
def IK:List Value:=replicate 256 (.bool false)
end Go.Ab
namespace Go.Proofs
open Go.Ab
@[go_sem] def aeq:ty prog 408=some (true,256)/\zer prog 408=some IK/\elm prog 408=none/\ael prog 408=some (256,1)/\plc prog 408=none:=by and_intros<;>kernel_rfl
end Go.Proofs
namespace Go.Dt
open Go.Ab
def bE(h:Nat->Bool):List AV:=(List.range 256).map λc=>.v (.bool (h c))
@[go_sem] def kM(h:Nat->Bool):(bE h).length=256:=by simp only[bE,length_map,length_range]
def u6(h:Nat->Bool){k:Nat}(hk:k<256):(bE h)[k]? = some (.ac (h k)):=by simp only[bE,getElem?_map,getElem?_range hk,Option.map_some]
def OD(h:Nat->Bool){k:Nat}(hk:k<256):(bE h).drop k=.ac (h k)::(bE h).drop (k+1):=by
 have hl:k<(bE h).length:=by rw[kM];exact hk
 rw[drop_eq_getElem_cons hl];have:=u6 h hk;rw[getElem?_eq_getElem hl]at this;rw[Option.some.inj this]
@[go_sem] def aaX(h:Nat->Bool){k:Nat}(hk:k<256):((bE h).drop k).head? = some (.ac (h k)):=by rw[OD h hk];rfl
@[go_sem] def acS(h:Nat->Bool){k:Nat}(hk:k<256)(b:Bool):(bE h).take k++[.ac b]++(bE h).drop (k+1)=bE (λc=>if c=k then b else h c):=by
 apply ext_getElem?;intro i;by_cases hi:i<256
 ·rw[u6 _ hi];by_cases e1:i<k
  ·rw[append_assoc,getElem?_append_left (by simp[kM];omega),getElem?_take,if_pos e1,u6 _ hi];rw[if_neg Yt]
  ·by_cases e2:i=k
   ·subst e2;rw[append_assoc,getElem?_append_right (by simp[kM];omega)];simp[kM,Nat.min_eq_left (Nat.le_of_lt hi)]
   ·rw[getElem?_append_right (by simp[kM];omega),getElem?_drop];simp only[length_append,length_take,kM,length_cons,length_nil];rw[show k+1+(i - (min k 256+(0+1)))=i by omega,u6 _ hi,if_neg e2]
 ·rw[getElem?_eq_none (by simp[kM];omega),getElem?_eq_none (by rw[kM];omega)]
@[go_sem] def acV(h:Nat->Bool):(bE h).drop 256=[]:=drop_of_length_le (by rw[kM];exact Nat.le_refl _)
@[go_sem] def aaU(h:Nat->Bool):(bE h).take 256=bE h:=take_of_length_le (by rw[kM];exact Nat.le_refl _)
@[go_sem] def OC:IK.map avz=bE (λ_=>false):=by
 simp only[IK,map_replicate,avz];apply ext_getElem?;intro i;by_cases hi:i<256
 ·rw[u6 _ hi,getElem?_replicate,if_pos hi]
 ·rw[getElem?_eq_none (by rw[length_replicate];omega),getElem?_eq_none (by rw[kM];omega)]
def xG{α:Type}{f:α->AV}(h:∀x,(f x).dC=true):∀l:List α,AV.nownL (l.map f)=true
 | []=>rfl
 | x::xs=>by simp only[map_cons,AV.nownL,h x,xG h xs,Bool.and_self]
def tO{α:Type}{f:α->AV}(h:∀x,(f x).frz=f x):∀l:List α,AV.cH (l.map f)=l.map f
 | []=>rfl
 | x::xs=>by simp only[map_cons,AV.cH,h x,tO h xs]
def zY{α:Type}{f:α->AV}(h:∀x,(f x).closed=true):∀l:List α,AV.df (l.map f)=true
 | []=>rfl
 | x::xs=>by simp only[map_cons,AV.df,h x,zY h xs,Bool.and_self]
@[go_sem] def aaV(h:Nat->Bool):AV.nownL (bE h)=true:=xG (λ_=>rfl) _
@[go_sem] def acU(h:Nat->Bool):AV.cH (bE h)=bE h:=tO (λ_=>rfl) _
@[go_sem] def acT(h:Nat->Bool):(bE h).all AV.one=true:=by simp only[bE,all_map,all_eq_true];intro x _;rfl
def xL{α:Type}{f:α->AV}(h:∀x,(f x).keys=[]):∀l:List α,AV.iT (l.map f)=[]
 | []=>rfl
 | x::xs=>by simp only[map_cons,AV.iT,h x,xL h xs,append_nil]
@[go_sem] def aaW(h:Nat->Bool):AV.iT (bE h)=[]:=xL (λ_=>rfl) _
@[go_sem] def acY(l:List bP):AV.cH (l.map cK)=l.map cK:=tO (λx=>by rw[eQ];rfl) _
@[go_sem] def Nd(l:List bP):(l.map cK).all (AV.elem 3)=true:=ez (λx=>by rw[eQ];rfl) l
@[go_sem] def abJ(l:List bP):((l.map cK).flatMap AV.cells).all AV.one=true:=eO (λx=>by rw[eQ];rfl) l
mutual
def psz:bP->Nat
 | .mk _ _ ks=>1+pj ks
def pj:List bP->Nat
 | []=>0
 | x::xs=>psz x+pj xs
end
def BZ(p:bP):psz p=1+pj p.af:=by cases p;simp[psz,bP.af]
theorem Jz{α β:Type}[Inhabited α]{f:α->β}{l:List α}{k:Nat}(h:k<l.length):(l.take (k+1)).map f=(l.take k).map f++[f (at_ l k)]:=by rw[take_add_one,map_append,vo h];rfl
def xB:∀ {l:List bP} {k:Nat},k<l.length->psz (at_ l k)<=pj l
 | [],_,h=>by simp at h
 | x::xs,0,_=>by simp[at_,pj]
 | x::xs,k+1,h=>by
  have:=xB (l:=xs) (k:=k) (by simpa using h);simp only[pj];have e:at_ (x::xs) (k+1)=at_ xs k:=by simp[at_]
  rw[e];omega
end Go.Dt
namespace Go.Proofs
open Go.Ab Go.Dt
theorem EX:∀(n:Nat) (op:Int) (t:Str) (ks:List bP),Ctr lim prog 359 [] [.agg [.aa op,.str t,.sl false 3 (ks.map cK)]] (.agg [.aa op,.str t,.sl false 3 (ks.map cK)]) [] (pj ks<n)
 | 0,op,t,ks=>⟨(aU 359),λh=>absurd h (Nat.not_lt_zero _)⟩
 | n+1,op,t,ks=>by
  have ih:=EX n;refine Ctr.bd func359 ntmps359 λhp=>?_;refine AW.f0 0 λhf=>?_
  (refine bU1 ?_;intro h h h)
  rename_i b1 b2;refine AW.aw [3,10] [1,2,8,9] (λm xs o=>∃k:Nat,xs=[.sl true 3 ((ks.take k).map cK),.aa k]/\o=[(b2,some maa),(b1,some [.aa op,.str t,.sl false 3 (ks.map cK)])]/\m=ks.length - k/\k<=ks.length) ks.length [(b2,some maa),(b1,some [.aa op,.str t,.sl false 3 (ks.map cK)])] (iw (Ne.symm h) rfl rfl) ⟨0,?_,rfl,rfl,?_⟩ ?_
  ·rfl
  ·omega
  rintro m xs o ⟨k,rfl,rfl,rfl,hk⟩;have hq:k<ks.length->_:=xB (l:=ks) (k:=k)
  have hq2:=BZ (at_ ks k)
  have hlt:(ks.take k).length=k:=by rw[length_take];omega
  refine bK1 ?_;refine AW.c (λh=>?_) λh=>?_
  ·(refine bU1 ?_;intro h h)
   ·refine⟨_,[_,_],[(b2,some maa),(b1,some [.aa op,.str t,.sl false 3 (ks.map cK)])],Yt,⟨k+1,?_,rfl,rfl,Yt⟩,rfl,gO⟩;rw[Jz baa,eQ]
  ·refine AW.imp (Imp.frz 3 ?_);refine gS ?_;rw[show k=ks.length by omega,take_length];exact bU0
instance(op:Int)(t:Str)(ks:List bP):Ctr lim prog 359 [] [.agg [.aa op,.str t,.sl false 3 (ks.map cK)]] (.agg [.aa op,.str t,.sl false 3 (ks.map cK)]) [] True:=⟨(aU 359),λ_=>(EX (pj ks+1) op t ks).out Yt⟩
def nV(h:Nat->Bool)(i:Nat):Str:=((List.range i).filter h).map UInt8.ofNat
def tU(h:Nat->Bool)(i:Nat):nV h (i+1)=nV h i++(if h i then [UInt8.ofNat i] else []):=by
 unfold nV;rw[range_succ,filter_append,map_append]
 congr 1
 cases e:h i<;>simp[e]
def ze(h:Nat->Bool)(i:Nat):(nV h i).length<=i:=by unfold nV;rw[length_map];have:=length_filter_le h (List.range i);simpa using this
def wP(l:List UInt8){n:Nat}(h:n<=255):cL l++[.v (.int .u8 (n:Int))]=cL (l++[UInt8.ofNat n]):=by
 have:((UInt8.ofNat n).toNat:Int)=n:=by rw[UInt8.toNat_ofNat'];omega
 simp only[cL,map_append,map_cons,map_nil,this]
instance(ha:Nat->Bool):Ctr lim prog 369 [] [.agg (bE ha)] (.agg [.aa 1,.str (rf ha),.sl false 3 []]) [] True:=by
 refine Ctr.bd func369 ntmps369 λhp=>?_
 (refine bU1 ?_;intro h h h)
 rename_i b1 b2;refine AW.aw [3,6] [1,2] (λm xs o=>∃k:Nat,xs=[.sl true 1 (cL (nV ha k)),.aa k]/\o=[(b2,some maa),(b1,some (bE ha))]/\m=256 - k/\k<=256) 256 [(b2,some maa),(b1,some (bE ha))] (iw (Ne.symm h) rfl rfl) ⟨0,?_,rfl,rfl,?_⟩ ?_
 ·rfl
 ·omega
 rintro m xs o ⟨k,rfl,rfl,rfl,hk⟩;have hl:=ze ha k
 have hs:=tU ha k;refine bK1 ?_;refine AW.c (λh=>?_) λh=>?_
 ·refine bK1 ?_;refine AW.c (λh=>?_) λh=>?_
  ·rename_i hh;rw[h]at hs;refine bU1 ?_;exact⟨_,[_,_],[(b2,some maa),(b1,some (bE ha))],Yt,⟨k+1,by rw[hs,if_pos rfl,<- wP _ Yt],rfl,rfl,Yt⟩,rfl,gO⟩
  ·rename_i hh;rw[h]at hs;refine bU1 ?_;exact⟨_,[_,_],[(b2,some maa),(b1,some (bE ha))],Yt,⟨k+1,by rw[hs];simp,rfl,rfl,Yt⟩,rfl,gO⟩
 ·refine bX1 ?_;refine AW.ret (EndsG.imp (Imp.kW (b:=b2) 3 [.aa 1,.str (nV ha k)] [] gO ?_));refine EndsG.fin rfl ?_;refine gS ?_;rw[show k=256 by omega];rfl
end Go.Proofs
namespace Go.Dt
open Go.Ab
def dm{s:Str}{i:Nat}{c:Int}:eZ s i c=true↔i<s.length/\at8 s i=c:=by simp[eZ]
def KP{s:Str}:∀(n i:Nat) (has:Nat->Bool) (h':Nat->Bool) (k:Nat),s.length - i<n->p9 s i has=some (h',k)->i<k/\k<=s.length
 | 0,_,_,_,_,h,_=>by omega
 | n+1,i,has,h',k,hn,h=>by
  rw[p9]at h;split at h
  ·rename_i h1;have:=dm.1 h1;simp only[Option.some.injEq,Prod.mk.injEq]at h;omega
  ·split at h
   ·cases h
   ·rename_i a z j he;have h2:=D7 he
    have:=KP n j _ h' k Yt h;omega
def Ro{s:Str}{i:Nat}{p:bP}{j:Nat}(h:lK s i=some (p,j)):i<j/\j<=s.length:=by
 unfold lK at h;split at h
 ·rename_i h1;have:=dm.1 h1;simp only[Option.some.injEq,Prod.mk.injEq]at h;omega
 ·split at h
  ·split at h
   ·cases h
   ·rename_i a z k he;have h2:=D7 he;split at h
    ·cases h
    ·rename_i has k' hc;have:=KP (s.length+1) _ _ _ _ Yt hc;simp only[Option.some.injEq,Prod.mk.injEq]at h;omega
  ·split at h
   ·rename_i h3;simp only[Bool.and_eq_true,decide_eq_true_eq]at h3;simp only[Option.some.injEq,Prod.mk.injEq]at h;omega
   ·cases h
def pBd(s:Str):∀n:Nat,
  (∀i p j,5 * (s.length - i)+4<n->i<=s.length->jg s i=some (p,j)->i<=j/\j<=s.length) /\
  (∀i l p j,5 * (s.length - i)+3<n->i<=s.length->mL s i l=some (p,j)->i<=j/\j<=s.length) /\
  (∀i l p j,5 * (s.length - i)+2<n->i<=s.length->iN s i l=some (p,j)->i<=j/\j<=s.length) /\
  (∀i p j,5 * (s.length - i)+1<n->kQ s i=some (p,j)->i<j/\j<=s.length)
 | 0=>⟨Yt,Yt,Yt,Yt⟩
 | n+1=>by
  obtain⟨i1,i2,i3,i4⟩:=pBd s n;refine⟨?_,?_,?_,?_⟩
  ·intro i p j hn hi h;rw[jg]at h;split at h
   ·cases h
   ·rename_i q k hq;split at h
    ·have a1:=i3 i [] q k Yt hi hq
     have a2:=i2 k [q] p j Yt Yt h;omega
    ·cases h
  ·intro i l p j hn hi h;rw[mL]at h;split at h
   ·split at h
    ·split at h
     ·cases h
     ·rename_i q k hq;split at h
      ·have a1:=i3 (i+1) [] q k Yt Yt hq
       have a2:=i2 k (l++[q]) p j Yt Yt h;omega
      ·cases h
    ·simp only[Option.some.injEq,Prod.mk.injEq]at h;omega
   ·simp only[Option.some.injEq,Prod.mk.injEq]at h;omega
  ·intro i l p j hn hi h;rw[iN]at h;split at h
   ·split at h
    ·simp only[Option.some.injEq,Prod.mk.injEq]at h;omega
    ·split at h
     ·cases h
     ·rename_i q k hq;split at h
      ·rename_i hlt;have a1:=i4 i q k Yt hq
       have a3:=JU s q a1.2
       have a2:=i3 _ _ p j Yt a3 h;omega
      ·cases h
   ·simp only[Option.some.injEq,Prod.mk.injEq]at h;omega
  ·intro i p j hn h;rw[kQ]at h;split at h
   ·split at h
    ·split at h
     ·cases h
     ·rename_i q k hq;split at h
      ·rename_i h41;have a1:=i1 (i+1) q k Yt Yt hq
       have:=dm.1 h41;simp only[Option.some.injEq,Prod.mk.injEq]at h;omega
      ·cases h
    ·exact Ro h
   ·cases h
def Am{s:Str}{i:Nat}{p:bP}{j:Nat}(h:kQ s i=some (p,j)):i<j/\j<=s.length:=(pBd s _).2.2.2 i p j (Nat.lt_succ_self _) h
def JZ{s:Str}{i:Nat}{l:List bP}{p:bP}{j:Nat}(hi:i<=s.length)(h:iN s i l=some (p,j)):i<=j/\j<=s.length:=(pBd s _).2.2.1 i l p j (Nat.lt_succ_self _) hi h
def mK(s:Str)(i:Nat):Option (bP×Nat) :=
 match kQ s i with
 | none=>none
 | some (p,j)=>some (post s p j)
def Gx{s:Str}{i:Nat}{p:bP}{j:Nat}(h:mK s i=some (p,j)):i<j/\j<=s.length:=by
 unfold mK at h;split at h
 ·cases h
 ·rename_i q k hq;have a1:=Am hq
  have a2:=SY s q k
  have a3:=JU s q a1.2;simp only[Option.some.injEq]at h;rw[h]at a2 a3;omega
def tw{s:Str}{i:Nat}(l:List bP)(h:i<s.length->at8 s i=124\/at8 s i=41):iN s i l=some (mkSeq l,i):=by
 rw[iN];split
 ·rename_i hi;rw[if_pos (h hi)]
 ·rfl
def Es{s:Str}{i:Nat}(l:List bP)(hi:i<s.length)(h1:¬at8 s i=124)(h2:¬at8 s i=41)(h:mK s i=none):iN s i l=none:=by
 rw[iN,dif_pos hi,if_neg Yt];unfold mK at h;split at h
 ·rename_i hq;rw[hq]
 ·cases h
def JY{s:Str}{i:Nat}(l:List bP){p:bP}{j:Nat}(hi:i<s.length)(h1:¬at8 s i=124)(h2:¬at8 s i=41)(h:mK s i=some (p,j)):iN s i l=iN s j (l++[p]):=by
 have hb:=Gx h
 conv=>lhs;rw[iN]
 rw[dif_pos hi,if_neg Yt];unfold mK at h;split at h
 ·cases h
 ·rename_i q k hq;simp only[Option.some.injEq]at h;rw[hq];simp only[h];rw[dif_pos hb.1]
def Et{s:Str}{i:Nat}(h:iN s i []=none):jg s i=none:=by rw[jg,h]
def J0{s:Str}{i:Nat}{p:bP}{j:Nat}(hi:i<=s.length)(h:iN s i []=some (p,j)):jg s i=mL s j [p]:=by have:=JZ hi h;rw[jg,h];simp only[if_pos this.1]
def Cd{s:Str}{j:Nat}(l:List bP)(h:eZ s j 124=false):mL s j l=some (vY l,j):=by
 rw[mL];split
 ·rename_i hj;rw[if_neg];intro e;rw[na ⟨hj,e⟩]at h;cases h
 ·rfl
def Ce{s:Str}{j:Nat}(l:List bP)(h:eZ s j 124=true)(hq:iN s (j+1) []=none):mL s j l=none:=by have:=dm.1 h;rw[mL,dif_pos this.1,if_pos this.2,hq]
def Gy{s:Str}{j:Nat}(l:List bP){p:bP}{k:Nat}(h:eZ s j 124=true)(hq:iN s (j+1) []=some (p,k)):mL s j l=mL s k (l++[p]):=by
 have:=dm.1 h
 have hb:=JZ Yt hq
 conv=>lhs;rw[mL]
 rw[dif_pos this.1,if_pos this.2,hq];simp only[if_pos (show j<k by omega)]
def zK{s:Str}{i:Nat}(h:eZ s i 40=true)(hq:jg s (i+1)=none):kQ s i=none:=by have:=dm.1 h;rw[kQ,dif_pos this.1,if_pos this.2,hq]
def zJ{s:Str}{i:Nat}{p:bP}{j:Nat}(h:eZ s i 40=true)(hq:jg s (i+1)=some (p,j))(h1:eZ s j 41=true):kQ s i=some (p,j+1):=by have:=dm.1 h;rw[kQ,dif_pos this.1,if_pos this.2,hq];simp only[h1,if_true]
def zI{s:Str}{i:Nat}{p:bP}{j:Nat}(h:eZ s i 40=true)(hq:jg s (i+1)=some (p,j))(h1:eZ s j 41=false):kQ s i=none:=by have:=dm.1 h;rw[kQ,dif_pos this.1,if_pos this.2,hq];simp only[h1];rfl
def Cc{s:Str}{i:Nat}(hi:i<s.length)(h:eZ s i 40=false):kQ s i=lK s i:=by rw[kQ,dif_pos hi,if_neg];intro e;rw[na ⟨hi,e⟩]at h;cases h
