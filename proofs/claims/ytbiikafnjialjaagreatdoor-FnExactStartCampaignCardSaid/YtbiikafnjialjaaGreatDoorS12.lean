/- Part of a proof. -/
import Derived.Test.YtbiikafnjialjaaGreatDoorS10
import Derived.Test.YtbiikafnjialjaaGreatDoorS11
set_option linter.all false
set_option maxRecDepth 20000
set_option maxHeartbeats 4000000
open Go.Proofs.Tryz
open List
namespace Go.Ab
def HM:List Value:=replicate 256 (.bool false)
end Go.Ab
namespace Go.Proofs
open Go.Ab
@[go_sem] def adP:ty prog 408=some (true,256)/\zer prog 408=some HM/\elm prog 408=none/\ael prog 408=some (256,1)/\plc prog 408=none:=by and_intros<;>kernel_rfl
end Go.Proofs
namespace Go.Dt
open Go.Ab
def bu(h:Nat->Bool):List AV:=(List.range 256).map λc=>.v (.bool (h c))
@[go_sem] def ku(h:Nat->Bool):(bu h).length=256:=by simp only[bu,length_map,length_range]
def uC(h:Nat->Bool){k:Nat}(hk:k<256):(bu h)[k]? = some (.ac (h k)):=by simp only[bu,getElem?_map,getElem?_range hk,Option.map_some]
def NA(h:Nat->Bool){k:Nat}(hk:k<256):(bu h).drop k=.ac (h k)::(bu h).drop (k+1):=by
 have hl:k<(bu h).length:=by rw[ku];exact hk
 rw[drop_eq_getElem_cons hl];have:=uC h hk;rw[getElem?_eq_getElem hl]at this;rw[Option.some.inj this]
@[go_sem] def aan(h:Nat->Bool){k:Nat}(hk:k<256):((bu h).drop k).head? = some (.ac (h k)):=by rw[NA h hk];rfl
@[go_sem] def ach(h:Nat->Bool){k:Nat}(hk:k<256)(b:Bool):(bu h).take k++[.ac b]++(bu h).drop (k+1)=bu (λc=>if c=k then b else h c):=by
 apply ext_getElem?;intro i;by_cases hi:i<256
 ·rw[uC _ hi];by_cases e1:i<k
  ·rw[append_assoc,getElem?_append_left (by simp[ku];omega),getElem?_take,if_pos e1,uC _ hi];rw[if_neg Um]
  ·by_cases e2:i=k
   ·subst e2;rw[append_assoc,getElem?_append_right (by simp[ku];omega)];simp[ku,Nat.min_eq_left (Nat.le_of_lt hi)]
   ·rw[getElem?_append_right (by simp[ku];omega),getElem?_drop];simp only[length_append,length_take,ku,length_cons,length_nil];rw[show k+1+(i - (min k 256+(0+1)))=i by omega,uC _ hi,if_neg e2]
 ·rw[getElem?_eq_none (by simp[ku];omega),getElem?_eq_none (by rw[ku];omega)]
@[go_sem] def ack(h:Nat->Bool):(bu h).drop 256=[]:=drop_of_length_le (by rw[ku];exact Nat.le_refl _)
@[go_sem] def aak(h:Nat->Bool):(bu h).take 256=bu h:=take_of_length_le (by rw[ku];exact Nat.le_refl _)
@[go_sem] def Nz:HM.map avz=bu (λ_=>false):=by
 simp only[HM,map_replicate,avz];apply ext_getElem?;intro i;by_cases hi:i<256
 ·rw[uC _ hi,getElem?_replicate,if_pos hi]
 ·rw[getElem?_eq_none (by rw[length_replicate];omega),getElem?_eq_none (by rw[ku];omega)]
def xg{α:Type}{f:α->AV}(h:∀x,(f x).du=true):∀l:List α,AV.nownL (l.map f)=true
 | []=>rfl
 | x::xs=>by simp only[map_cons,AV.nownL,h x,xg h xs,Bool.and_self]
def sV{α:Type}{f:α->AV}(h:∀x,(f x).frz=f x):∀l:List α,AV.cl (l.map f)=l.map f
 | []=>rfl
 | x::xs=>by simp only[map_cons,AV.cl,h x,sV h xs]
def zw{α:Type}{f:α->AV}(h:∀x,(f x).closed=true):∀l:List α,AV.cL (l.map f)=true
 | []=>rfl
 | x::xs=>by simp only[map_cons,AV.cL,h x,zw h xs,Bool.and_self]
@[go_sem] def aal(h:Nat->Bool):AV.nownL (bu h)=true:=xg (λ_=>rfl) _
@[go_sem] def acj(h:Nat->Bool):AV.cl (bu h)=bu h:=sV (λ_=>rfl) _
@[go_sem] def aci(h:Nat->Bool):(bu h).all AV.one=true:=by simp only[bu,all_map,all_eq_true];intro x _;rfl
def xn{α:Type}{f:α->AV}(h:∀x,(f x).keys=[]):∀l:List α,AV.iN (l.map f)=[]
 | []=>rfl
 | x::xs=>by simp only[map_cons,AV.iN,h x,xn h xs,append_nil]
@[go_sem] def aam(h:Nat->Bool):AV.iN (bu h)=[]:=xn (λ_=>rfl) _
@[go_sem] def aco(l:List bE):AV.cl (l.map cq)=l.map cq:=sV (λx=>by rw[eG];rfl) _
@[go_sem] def Mj(l:List bE):(l.map cq).all (AV.elem 3)=true:=dX (λx=>by rw[eG];rfl) l
@[go_sem] def aa7(l:List bE):((l.map cq).flatMap AV.cells).all AV.one=true:=eD (λx=>by rw[eG];rfl) l
mutual
def psz:bE->Nat
 | .mk _ _ ks=>1+oX ks
def oX:List bE->Nat
 | []=>0
 | x::xs=>psz x+oX xs
end
def Bn(p:bE):psz p=1+oX p.af:=by cases p;simp[psz,bE.af]
theorem IC{α β:Type}[Inhabited α]{f:α->β}{l:List α}{k:Nat}(h:k<l.length):(l.take (k+1)).map f=(l.take k).map f++[f (at_ l k)]:=by rw[take_add_one,map_append,uL h];rfl
def xb:∀ {l:List bE} {k:Nat},k<l.length->psz (at_ l k)<=oX l
 | [],_,h=>by simp at h
 | x::xs,0,_=>by simp[at_,oX]
 | x::xs,k+1,h=>by
  have:=xb (l:=xs) (k:=k) (by simpa using h);simp only[oX];have e:at_ (x::xs) (k+1)=at_ xs k:=by simp[at_]
  rw[e];omega
end Go.Dt
namespace Go.Proofs
open Go.Ab Go.Dt
theorem Ed:∀(n:Nat) (op:Int) (t:Str) (ks:List bE),Ctr lim prog 359 [] [.agg [.aa op,.str t,.sl false 3 (ks.map cq)]] (.agg [.aa op,.str t,.sl false 3 (ks.map cq)]) [] (oX ks<n)
 | 0,op,t,ks=>⟨(aT 359),λh=>absurd h (Nat.not_lt_zero _)⟩
 | n+1,op,t,ks=>by
  have ih:=Ed n;refine Ctr.bd func359 ntmps359 λhp=>?_;refine AW.f0 0 λhf=>?_
  (refine bU1 ?_;intro h h h)
  rename_i b1 b2;refine AW.aw [3,10] [1,2,8,9] (λm xs o=>∃k:Nat,xs=[.sl true 3 ((ks.take k).map cq),.aa k]/\o=[(b2,some maa),(b1,some [.aa op,.str t,.sl false 3 (ks.map cq)])]/\m=ks.length - k/\k<=ks.length) ks.length [(b2,some maa),(b1,some [.aa op,.str t,.sl false 3 (ks.map cq)])] (gX (Ne.symm h) rfl rfl) ⟨0,?_,rfl,rfl,?_⟩ ?_
  ·rfl
  ·omega
  rintro m xs o ⟨k,rfl,rfl,rfl,hk⟩;have hq:k<ks.length->_:=xb (l:=ks) (k:=k)
  have hq2:=Bn (at_ ks k)
  have hlt:(ks.take k).length=k:=by rw[length_take];omega
  refine bK1 ?_;refine AW.c (λh=>?_) λh=>?_
  ·(refine bU1 ?_;intro h h)
   ·refine⟨_,[_,_],[(b2,some maa),(b1,some [.aa op,.str t,.sl false 3 (ks.map cq)])],Um,⟨k+1,?_,rfl,rfl,Um⟩,rfl,gO⟩;rw[IC baa,eG]
  ·refine AW.imp (Imp.frz 3 ?_);refine gS ?_;rw[show k=ks.length by omega,take_length];exact bU0
instance(op:Int)(t:Str)(ks:List bE):Ctr lim prog 359 [] [.agg [.aa op,.str t,.sl false 3 (ks.map cq)]] (.agg [.aa op,.str t,.sl false 3 (ks.map cq)]) [] True:=⟨(aT 359),λ_=>(Ed (oX ks+1) op t ks).out Um⟩
def nK(h:Nat->Bool)(i:Nat):Str:=((List.range i).filter h).map UInt8.ofNat
def tg(h:Nat->Bool)(i:Nat):nK h (i+1)=nK h i++(if h i then [UInt8.ofNat i] else []):=by
 unfold nK;rw[range_succ,filter_append,map_append]
 congr 1
 cases e:h i<;>simp[e]
def yL(h:Nat->Bool)(i:Nat):(nK h i).length<=i:=by unfold nK;rw[length_map];have:=length_filter_le h (List.range i);simpa using this
def wk(l:List UInt8){n:Nat}(h:n<=255):ct l++[.v (.int .u8 (n:Int))]=ct (l++[UInt8.ofNat n]):=by
 have:((UInt8.ofNat n).toNat:Int)=n:=by rw[UInt8.toNat_ofNat'];omega
 simp only[ct,map_append,map_cons,map_nil,this]
instance(ha:Nat->Bool):Ctr lim prog 369 [] [.agg (bu ha)] (.agg [.aa 1,.str (qF ha),.sl false 3 []]) [] True:=by
 refine Ctr.bd func369 ntmps369 λhp=>?_
 (refine bU1 ?_;intro h h h)
 rename_i b1 b2;refine AW.aw [3,6] [1,2] (λm xs o=>∃k:Nat,xs=[.sl true 1 (ct (nK ha k)),.aa k]/\o=[(b2,some maa),(b1,some (bu ha))]/\m=256 - k/\k<=256) 256 [(b2,some maa),(b1,some (bu ha))] (gX (Ne.symm h) rfl rfl) ⟨0,?_,rfl,rfl,?_⟩ ?_
 ·rfl
 ·omega
 rintro m xs o ⟨k,rfl,rfl,rfl,hk⟩;have hl:=yL ha k
 have hs:=tg ha k;refine bK1 ?_;refine AW.c (λh=>?_) λh=>?_
 ·refine bK1 ?_;refine AW.c (λh=>?_) λh=>?_
  ·rename_i hh;rw[h]at hs;refine bU1 ?_;exact⟨_,[_,_],[(b2,some maa),(b1,some (bu ha))],Um,⟨k+1,by rw[hs,if_pos rfl,<- wk _ Um],rfl,rfl,Um⟩,rfl,gO⟩
  ·rename_i hh;rw[h]at hs;refine bU1 ?_;exact⟨_,[_,_],[(b2,some maa),(b1,some (bu ha))],Um,⟨k+1,by rw[hs];simp,rfl,rfl,Um⟩,rfl,gO⟩
 ·refine bX1 ?_;refine AW.ret (EndsG.imp (Imp.j9 (b:=b2) 3 [.aa 1,.str (nK ha k)] [] gO ?_));refine EndsG.fin rfl ?_;refine gS ?_;rw[show k=256 by omega];rfl
end Go.Proofs
namespace Go.Dt
open Go.Ab
def df{s:Str}{i:Nat}{c:Int}:eP s i c=true↔i<s.length/\at8 s i=c:=by simp[eP]
def JW{s:Str}:∀(n i:Nat) (has:Nat->Bool) (h':Nat->Bool) (k:Nat),s.length - i<n->pN s i has=some (h',k)->i<k/\k<=s.length
 | 0,_,_,_,_,h,_=>by omega
 | n+1,i,has,h',k,hn,h=>by
  rw[pN]at h;split at h
  ·rename_i h1;have:=df.1 h1;simp only[Option.some.injEq,Prod.mk.injEq]at h;omega
  ·split at h
   ·cases h
   ·rename_i a z j he;have h2:=Dm he
    have:=JW n j _ h' k Um h;omega
def QE{s:Str}{i:Nat}{p:bE}{j:Nat}(h:lv s i=some (p,j)):i<j/\j<=s.length:=by
 unfold lv at h;split at h
 ·rename_i h1;have:=df.1 h1;simp only[Option.some.injEq,Prod.mk.injEq]at h;omega
 ·split at h
  ·split at h
   ·cases h
   ·rename_i a z k he;have h2:=Dm he;split at h
    ·cases h
    ·rename_i has k' hc;have:=JW (s.length+1) _ _ _ _ Um hc;simp only[Option.some.injEq,Prod.mk.injEq]at h;omega
  ·split at h
   ·rename_i h3;simp only[Bool.and_eq_true,decide_eq_true_eq]at h3;simp only[Option.some.injEq,Prod.mk.injEq]at h;omega
   ·cases h
def pBd(s:Str):∀n:Nat,
  (∀i p j,5 * (s.length - i)+4<n->i<=s.length->iY s i=some (p,j)->i<=j/\j<=s.length) /\
  (∀i l p j,5 * (s.length - i)+3<n->i<=s.length->mD s i l=some (p,j)->i<=j/\j<=s.length) /\
  (∀i l p j,5 * (s.length - i)+2<n->i<=s.length->iG s i l=some (p,j)->i<=j/\j<=s.length) /\
  (∀i p j,5 * (s.length - i)+1<n->kE s i=some (p,j)->i<j/\j<=s.length)
 | 0=>⟨Um,Um,Um,Um⟩
 | n+1=>by
  obtain⟨i1,i2,i3,i4⟩:=pBd s n;refine⟨?_,?_,?_,?_⟩
  ·intro i p j hn hi h;rw[iY]at h;split at h
   ·cases h
   ·rename_i q k hq;split at h
    ·have a1:=i3 i [] q k Um hi hq
     have a2:=i2 k [q] p j Um Um h;omega
    ·cases h
  ·intro i l p j hn hi h;rw[mD]at h;split at h
   ·split at h
    ·split at h
     ·cases h
     ·rename_i q k hq;split at h
      ·have a1:=i3 (i+1) [] q k Um Um hq
       have a2:=i2 k (l++[q]) p j Um Um h;omega
      ·cases h
    ·simp only[Option.some.injEq,Prod.mk.injEq]at h;omega
   ·simp only[Option.some.injEq,Prod.mk.injEq]at h;omega
  ·intro i l p j hn hi h;rw[iG]at h;split at h
   ·split at h
    ·simp only[Option.some.injEq,Prod.mk.injEq]at h;omega
    ·split at h
     ·cases h
     ·rename_i q k hq;split at h
      ·rename_i hlt;have a1:=i4 i q k Um hq
       have a3:=I5 s q a1.2
       have a2:=i3 _ _ p j Um a3 h;omega
      ·cases h
   ·simp only[Option.some.injEq,Prod.mk.injEq]at h;omega
  ·intro i p j hn h;rw[kE]at h;split at h
   ·split at h
    ·split at h
     ·cases h
     ·rename_i q k hq;split at h
      ·rename_i h41;have a1:=i1 (i+1) q k Um Um hq
       have:=df.1 h41;simp only[Option.some.injEq,Prod.mk.injEq]at h;omega
      ·cases h
    ·exact QE h
   ·cases h
def zJ{s:Str}{i:Nat}{p:bE}{j:Nat}(h:kE s i=some (p,j)):i<j/\j<=s.length:=(pBd s _).2.2.2 i p j (Nat.lt_succ_self _) h
def Ja{s:Str}{i:Nat}{l:List bE}{p:bE}{j:Nat}(hi:i<=s.length)(h:iG s i l=some (p,j)):i<=j/\j<=s.length:=(pBd s _).2.2.1 i l p j (Nat.lt_succ_self _) hi h
def mC(s:Str)(i:Nat):Option (bE×Nat) :=
 match kE s i with
 | none=>none
 | some (p,j)=>some (post s p j)
def FJ{s:Str}{i:Nat}{p:bE}{j:Nat}(h:mC s i=some (p,j)):i<j/\j<=s.length:=by
 unfold mC at h;split at h
 ·cases h
 ·rename_i q k hq;have a1:=zJ hq
  have a2:=Sb s q k
  have a3:=I5 s q a1.2;simp only[Option.some.injEq]at h;rw[h]at a2 a3;omega
def sI{s:Str}{i:Nat}(l:List bE)(h:i<s.length->at8 s i=124\/at8 s i=41):iG s i l=some (mkSeq l,i):=by
 rw[iG];split
 ·rename_i hi;rw[if_pos (h hi)]
 ·rfl
def DK{s:Str}{i:Nat}(l:List bE)(hi:i<s.length)(h1:¬at8 s i=124)(h2:¬at8 s i=41)(h:mC s i=none):iG s i l=none:=by
 rw[iG,dif_pos hi,if_neg Um];unfold mC at h;split at h
 ·rename_i hq;rw[hq]
 ·cases h
def I9{s:Str}{i:Nat}(l:List bE){p:bE}{j:Nat}(hi:i<s.length)(h1:¬at8 s i=124)(h2:¬at8 s i=41)(h:mC s i=some (p,j)):iG s i l=iG s j (l++[p]):=by
 have hb:=FJ h
 conv=>lhs;rw[iG]
 rw[dif_pos hi,if_neg Um];unfold mC at h;split at h
 ·cases h
 ·rename_i q k hq;simp only[Option.some.injEq]at h;rw[hq];simp only[h];rw[dif_pos hb.1]
def DL{s:Str}{i:Nat}(h:iG s i []=none):iY s i=none:=by rw[iY,h]
def Jb{s:Str}{i:Nat}{p:bE}{j:Nat}(hi:i<=s.length)(h:iG s i []=some (p,j)):iY s i=mD s j [p]:=by have:=Ja hi h;rw[iY,h];simp only[if_pos this.1]
def Bt{s:Str}{j:Nat}(l:List bE)(h:eP s j 124=false):mD s j l=some (vr l,j):=by
 rw[mD];split
 ·rename_i hj;rw[if_neg];intro e;rw[mR ⟨hj,e⟩]at h;cases h
 ·rfl
def Bu{s:Str}{j:Nat}(l:List bE)(h:eP s j 124=true)(hq:iG s (j+1) []=none):mD s j l=none:=by have:=df.1 h;rw[mD,dif_pos this.1,if_pos this.2,hq]
def FK{s:Str}{j:Nat}(l:List bE){p:bE}{k:Nat}(h:eP s j 124=true)(hq:iG s (j+1) []=some (p,k)):mD s j l=mD s k (l++[p]):=by
 have:=df.1 h
 have hb:=Ja Um hq
 conv=>lhs;rw[mD]
 rw[dif_pos this.1,if_pos this.2,hq];simp only[if_pos (show j<k by omega)]
def zg{s:Str}{i:Nat}(h:eP s i 40=true)(hq:iY s (i+1)=none):kE s i=none:=by have:=df.1 h;rw[kE,dif_pos this.1,if_pos this.2,hq]
def zf{s:Str}{i:Nat}{p:bE}{j:Nat}(h:eP s i 40=true)(hq:iY s (i+1)=some (p,j))(h1:eP s j 41=true):kE s i=some (p,j+1):=by have:=df.1 h;rw[kE,dif_pos this.1,if_pos this.2,hq];simp only[h1,if_true]
def ze{s:Str}{i:Nat}{p:bE}{j:Nat}(h:eP s i 40=true)(hq:iY s (i+1)=some (p,j))(h1:eP s j 41=false):kE s i=none:=by have:=df.1 h;rw[kE,dif_pos this.1,if_pos this.2,hq];simp only[h1];rfl
def Bs{s:Str}{i:Nat}(hi:i<s.length)(h:eP s i 40=false):kE s i=lv s i:=by rw[kE,dif_pos hi,if_neg];intro e;rw[mR ⟨hi,e⟩]at h;cases h
