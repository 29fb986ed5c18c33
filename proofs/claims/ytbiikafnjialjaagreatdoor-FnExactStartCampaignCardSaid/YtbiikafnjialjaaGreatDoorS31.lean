/- Part of a proof. -/
import Derived.Test.YtbiikafnjialjaaGreatDoorS28
set_option linter.all false
set_option maxRecDepth 20000
set_option maxHeartbeats 4000000
open Go.Proofs.Tryz
open List
namespace Go.Proofs
open Go.Ab Go.Dt
section
attribute [-instance] eQ
attribute [local go_sem] bD aS bk eI eH fY iE iM
theorem U2(n:ag)(e:aI):Ctr lim prog 323 [] [.agg (cSc n),.agg (cEd e)] (.tup [.am (CQ n e.af),.ac (ep n e.af)]) [] (KyS n/\e.af.length<=1048576/\∀x∈e.af,x.aq.length<=1048576):=by
 refine Ctr.bd func323 ntmps323 λhp=>?_;have gOn:=bI.on;obtain⟨hp1,hp2,hp3⟩:=hp;have hk3:=hp1.2.1;refine vK1 ?_;refine AW.aw [6,7] [2,3] (λm xs o=>∃k:Nat,xs=[.am ((n.ax.take k).flatMap (λq=>kvS n q e.af)),.aa k]/\o=[]/\m=n.ax.length - k/\k<=n.ax.length/\∀q∈n.ax.take k,(!(decide ((kvF q e.af).length=1) && (kvF q e.af).all (kvG n q)))=false) n.ax.length [] trivial ⟨0,?_,rfl,rfl,?_,?_⟩ ?_
 ·rfl
 ·omega
 ·simp
 rintro m xs o ⟨k,rfl,rfl,rfl,hk,hR⟩;have hkl:=MX n e.af n.ax k
 have ab0:k * e.af.length<=3 * e.af.length:=Nat.mul_le_mul_right _ Um;refine vK1 ?_;refine AW.c (λh=>?_) λh=>?_
 ·have hlk:=h
  have hlf:=VD hp1 (at_mem h)
  have afc:=hlf.1
  have afb:=(gb hlf.1).1
  have afa:=fV (p:=nmP (at_ n.ax k)) n.af;clear h;refine vN1 ?_
  first|refine AW.Fv ?_|refine AW.Lp ?_
  (refine vN1 ?_;intro h)
  rename Nat=>b
  refine vK1 ?_;refine AW.aw [6,9,10] [2,3,7,8] (λm xs o=>∃j:Nat,xs=[.am (((n.ax.take k).flatMap (λq=>kvS n q e.af))++kvS n (at_ n.ax k) (e.af.take j)),.aa (kvF (at_ n.ax k) (e.af.take j)).length,.aa j]/\o=[(b,some (cSc (at_ n.af (idx (nmP (at_ n.ax k)) n.af).toNat)))]/\m=e.af.length - j/\j<=e.af.length/\(kvF (at_ n.ax k) (e.af.take j)).all (kvG n (at_ n.ax k))=true) e.af.length [(b,some (cSc (at_ n.af (idx (nmP (at_ n.ax k)) n.af).toNat)))] gO ⟨0,by rw[show kvS n (at_ n.ax k) (e.af.take 0)=[] by simp[kvS,kvF],append_nil];rfl,rfl,rfl,Um,by simp[kvF]⟩ ?_;rintro m xs o ⟨j,rfl,rfl,rfl,hj,hG⟩;have hle:=Ta (at_ n.ax k) e.af j
  have hsl:=Jn n (at_ n.ax k) (e.af.take j);refine vK1 ?_;refine AW.c (λh=>?_) λh=>?_
  ·have hlj:=h
   have hv:=hp3 _ (at_mem h);clear h;refine vK1 ?_;refine AW.c (λh=>?_) λh=>?_
   ·have hs:=PE hlj h
    have hs2:kvS n (at_ n.ax k) (e.af.take (j+1))=kvS n (at_ n.ax k) (e.af.take j):=by rw[kvS,kvS,hs]
    refine vU1 ?_;exact⟨_,[_,_,_],_,Um,⟨j+1,by rw[hs2,hs],rfl,rfl,Um,by rw[hs];exact hG⟩,rfl,gO⟩
   have hnm:(at_ e.af j).ae=(at_ n.ax k):=by grind
   clear h;have hs:=PD hlj hnm
   have hs2:kvS n (at_ n.ax k) (e.af.take (j+1))=kvS n (at_ n.ax k) (e.af.take j)++[cvS (at_ n.af (idx (nmP (at_ n.ax k)) n.af).toNat).fType (at_ e.af j).aq]:=by
    rw[kvS,kvS,hs,map_append,hlf.2];rfl
   refine vK1 ?_;refine AW.c (λh=>?_) λh=>?_
   ·refine vX1 ?_;refine AW.imp (Imp.iB 4 (x:=.v (.slice none 0 0)) (x':=.sl true 1 []) gO (λ_ _ _ _ r=>Rep.fL _ _ r) ?_);refine vU1 ?_;have hb:ep n e.af=false:=Jp hlk (by rw[VF hlj hnm (by unfold kvG;rw[<- hlf.2];grind),Bool.and_false]);rw[CQ,hb];try rfl
   ·refine vU1 ?_;exact⟨_,[_,_,_],_,Um,⟨j+1,by rw[hs2,hs,length_append];simp only[map_append,append_assoc];rfl,rfl,rfl,Um,by rw[hs,all_append,hG];unfold kvG;rw[<- hlf.2];grind⟩,rfl,gO⟩
  ·have ej:j=e.af.length:=by omega
   clear h;subst ej;rw[take_length]at *;refine vK1 ?_;refine AW.c (λh=>?_) λh=>?_
   ·refine vX1 ?_;refine AW.imp (Imp.iB 4 (x:=.v (.slice none 0 0)) (x':=.sl true 1 []) gO (λ_ _ _ _ r=>Rep.fL _ _ r) ?_);refine vU1 ?_;have hb:ep n e.af=false:=Jp hlk (by rw[show decide ((kvF (at_ n.ax k) e.af).length=1)=false by simp;omega,Bool.false_and]);rw[CQ,hb];try rfl
   ·refine vU1 ?_;exact⟨_,[_,_],_,Um,⟨k+1,by rw[eV hlk,flatMap_append,flatMap_cons,flatMap_nil,append_nil],rfl,rfl,Um,bL hlk hR (by rw[hG,show decide ((kvF (at_ n.ax k) e.af).length=1)=true by simp;omega];rfl)⟩,rfl,gO⟩
 ·refine vU1 ?_;have hk0:ep n e.af=true:=fG baa hR;rw[CQ,hk0,if_pos rfl,Gt,take_of_length_le Um]
def RG{s:List ag}{p:ah->Bool}{l:List ah}{k:Nat}(h:k<l.length):(l.take (k+1)).filter p=(l.take k).filter p++(if p (at_ l k)=true then [at_ l k] else []):=by rw[eV h,filter_append,filter_cons];rfl
def XP(p:ah->Bool)(l:List ah)(k:Nat):((l.take k).filter p).length<=k:=by have:=length_filter_le p (l.take k);rw[length_take]at this;omega
instance(l:List ah)(nms:List Str):Ctr lim prog 325 [] [.ab 3 ai (l),.al nms] (.sl true 3 ((l.filter λy=>!cont nms y.ae).map (ai false))) [] (l.length<=4194304):=by
 refine Ctr.bd func325 ntmps325 λhp=>?_;have gOn:=bI.on;refine AW.f1 1 λhf=>?_;refine vK1 ?_;refine AW.aw [5,6] [0,1] (λm xs o=>∃k:Nat,xs=[.sl true 3 (((l.take k).filter λy=>!cont nms y.ae).map (ai false)),.aa k]/\o=[]/\m=l.length - k/\k<=l.length) l.length [] trivial ⟨0,?_,rfl,rfl,?_⟩ ?_
 ·rfl
 ·omega
 rintro m xs o ⟨k,rfl,rfl,rfl,hk⟩;have hfl:=XP (λy=>!cont nms y.ae) l k;refine vK1 ?_;refine AW.c (λh=>?_) λh=>?_
 ·have hlk:=h
  have hst:=RG (s:=[]) (p:=λy:ah=>!cont nms y.ae) h;clear h;refine vK1 ?_;refine AW.aw [7,8] [0,1,5,6] (λm xs o=>∃j:Nat,xs=[.ac (cont (nms.take j) (at_ l k).ae),.aa j]/\o=[]/\m=nms.length - j/\j<=nms.length) nms.length [] trivial ⟨0,?_,rfl,rfl,?_⟩ ?_
  ·rfl
  ·omega
  rintro m xs o ⟨j,rfl,rfl,rfl,hj⟩;refine vK1 ?_;refine AW.c (λh=>?_) λh=>?_
  ·have hcs:=Ee (s:=(at_ l k).ae) h;refine vU1 ?_;exact⟨_,[_,_],_,Um,⟨j+1,by rw[<- hcs];try rfl,rfl,rfl,Um⟩,rfl,gO⟩
  ·rw[take_of_length_le Um];clear h;refine vK1 ?_;refine AW.c (λh=>?_) λh=>?_
   ·refine vU1 ?_;exact⟨_,[_,_],_,Um,⟨k+1,by rw[hst,if_pos (by rw[h];rfl),map_append,map_cons,map_nil,bO],rfl,rfl,Um⟩,rfl,gO⟩
   ·refine vU1 ?_;exact⟨_,[_,_],_,Um,⟨k+1,by rw[hst,if_neg (by rw[h];simp),append_nil],rfl,rfl,Um⟩,rfl,gO⟩
 ·refine vU1 ?_;rw[take_of_length_le Um]
end
section
attribute [-instance] eQ
attribute [local go_sem] bD aS bk eI eH fY iE iM
theorem LZ:∀(n:Nat) (s:List ag) (nm:Str),Ctr lim prog 324 [] [.ab 19 ak s,.str nm] (.tup [.am (jq s nm),.ac (oth s nm).isSome]) [] (SizeOf.sizeOf s<n/\bR s<=1048576)
 | 0,_,_=>⟨(aT 324),λh=>absurd h.1 (Nat.not_lt_zero _)⟩
 | n+1,s,nm=>by
  have ih:=LZ n;refine Ctr.bd func324 ntmps324 λhp=>?_;have gOn:=bI.on;obtain⟨hn,hc⟩:=hp;refine AW.f1 0 λhf=>?_;refine vK1 ?_;refine AW.aw [6] [0,1] (λm xs o=>∃k:Nat,xs=[.aa k]/\o=[]/\m=s.length - k/\k<=s.length/\oth (s.drop k) nm=oth s nm) s.length [] trivial ⟨0,?_,rfl,rfl,?_,rfl⟩ ?_
  ·rfl
  ·omega
  rintro m xs o ⟨k,rfl,rfl,rfl,hk,hR⟩;refine vK1 ?_;refine AW.c (λh=>?_) λh=>?_
  ·have hlk:=h
   have hsk:=yz (at_mem h)
   have hck:=rq (at_mem h)
   have hkl:=Ps (at_ s k).af;rw[bA h,zK]at hR;clear h;refine vK1 ?_;refine AW.c (λh=>?_) λh=>?_
   ·have hR2:=hR;rw[if_pos (by grind)]at hR2;refine vX1 ?_;refine AW.imp (Imp.fL 4 1 gO ?_);refine vU1 ?_;rw[jq,<- hR2];try rfl
   have h1:¬(dK (at_ s k).aj=true/\(at_ s k).ae=nm):=by grind
   rw[if_neg h1]at hR;clear h;refine vK1 ?_;refine AW.c (λh=>?_) λh=>?_
   ·rw[if_neg h]at hR;refine vU1 ?_;exact⟨_,[_],_,Um,⟨k+1,rfl,rfl,rfl,Um,hR⟩,rfl,gO⟩
   rw[if_pos Um]at hR;clear h;refine vK1 ?_;refine AW.aw [7] [0,1,6] (λm xs o=>∃i:Nat,xs=[.aa i]/\o=[]/\m=(at_ s k).af.length - i/\i<=(at_ s k).af.length/\lF (at_ s k).af i ((at_ s k).af.drop i) nm=lF (at_ s k).af 0 (at_ s k).af nm) (at_ s k).af.length [] trivial ⟨0,?_,rfl,rfl,?_,rfl⟩ ?_
   ·rfl
   ·omega
   rintro m xs o ⟨i,rfl,rfl,rfl,hi,hR3⟩;refine vK1 ?_;refine AW.c (λh=>?_) λh=>?_
   ·have hik:=h
    have hsi:=yz (at_mem h)
    have hci:=rq (at_mem h);rw[bA h,DM]at hR3;clear h;refine vK1 ?_;refine AW.c (λh=>?_) λh=>?_
    ·have e0:oth (at_ (at_ s k).af i).af nm=none:=by grind
     rw[e0]at hR3;refine vU1 ?_;exact⟨_,[_],_,Um,⟨i+1,rfl,rfl,rfl,Um,hR3⟩,rfl,gO⟩
    obtain⟨o1,e0⟩:∃o1,oth (at_ (at_ s k).af i).af nm=some o1:=by
     cases e:oth (at_ (at_ s k).af i).af nm with
     | none=>rw[e]at h;cases h
     | some o1=>exact⟨o1,rfl⟩
    rw[e0]at hR3;have hR4:oth s nm=some (o1++l9 (at_ s k).af i (at_ s k).af.length):=by rw[<- hR,<- hR3]
    clear h;have e1:jq (at_ (at_ s k).af i).af nm=o1:=by rw[jq,e0];rfl
    rw[e1];have hl2:=qW _ _ _ e0;refine vK1 ?_;refine AW.aw [8,10] [0,1,6,7] (λm xs o=>∃j:Nat,xs=[.am (o1++l9 (at_ s k).af i j),.aa j]/\o=[]/\m=(at_ s k).af.length - j/\j<=(at_ s k).af.length) (at_ s k).af.length [] trivial ⟨0,?_,rfl,rfl,?_⟩ ?_
    ·rw[show l9 (at_ s k).af i 0=[] by simp[l9],append_nil];rfl
    ·omega
    rintro m xs o ⟨j,rfl,rfl,rfl,hj⟩;refine vK1 ?_;refine AW.c (λh=>?_) λh=>?_
    ·have hjk:=h
     have hcj:=rq (at_mem h)
     have hst:=xe (at_ s k).af i j
     have hl:=yj (at_ s k).af i j Um
     have hl3:=Au (at_ s k).af j
     have hl4:(dk (at_ (at_ s k).af j).af).length<=bR (at_ (at_ s k).af j).af:=xK _;clear h;refine vK1 ?_;by_cases e:j=i
     ·rw[if_pos e,append_nil]at hst;refine AW.aw [8,12] [0,1,6,7,10,11] (λm xs o=>xs=[.am (o1++l9 (at_ s k).af i j),.aa 0]/\o=[]) 0 [] trivial ⟨?_,rfl⟩ ?_
      ·rfl
      rintro m xs o ⟨rfl,rfl⟩
      (refine vU1 ?_;intro h)
      exact⟨_,[_,_],_,Um,⟨j+1,by rw[hst],rfl,rfl,Um⟩,rfl,gO⟩
     ·rw[if_neg e]at hst;refine AW.aw [8,12] [0,1,6,7,10,11] (λm xs o=>∃x:Nat,xs=[.sl true 1 ((o1++l9 (at_ s k).af i j++(nmS (dk (at_ (at_ s k).af j).af)).take x).map AV.str),.aa x]/\o=[]/\m=(dk (at_ (at_ s k).af j).af).length - x/\x<=(dk (at_ (at_ s k).af j).af).length) (dk (at_ (at_ s k).af j).af).length [] trivial ⟨0,?_,rfl,rfl,?_⟩ ?_
      ·rw[take_zero,append_nil];rfl
      ·omega
      rintro m xs o ⟨x,rfl,rfl,rfl,hx⟩;have hxl:((nmS (dk (at_ (at_ s k).af j).af)).take x).length<=x:=by rw[length_take];omega
      refine vK1 ?_;refine AW.c (λh=>?_) λh=>?_
      ·have hxs:(nmS (dk (at_ (at_ s k).af j).af)).take (x+1)=(nmS (dk (at_ (at_ s k).af j).af)).take x++[(at_ (dk (at_ (at_ s k).af j).af) x).ae]:=by
        rw[eV (by rw[nmS,length_map];omega),nmS,pO Um]
       refine vU1 ?_;exact⟨_,[_,_],_,Um,⟨x+1,by rw[hxs];simp only[map_append,append_assoc];rfl,rfl,rfl,Um⟩,rfl,gO⟩
      ·have ex:(nmS (dk (at_ (at_ s k).af j).af)).take x=nmS (dk (at_ (at_ s k).af j).af):=take_of_length_le (by rw[nmS,length_map];omega);rw[ex];refine vU1 ?_;exact⟨_,[_,_],_,Um,⟨j+1,by rw[hst];try simp only[append_assoc],rfl,rfl,Um⟩,rfl,gO⟩
    ·have ej:j=(at_ s k).af.length:=by omega
     subst ej;refine vU1 ?_;rw[jq,hR4];try rfl
   ·rw[cT h,lF]at hR3;rw[<- hR3]at hR;refine vU1 ?_;exact⟨_,[_],_,Um,⟨k+1,rfl,rfl,rfl,Um,hR⟩,rfl,gO⟩
  ·rw[cT h,oth]at hR;refine vX1 ?_;refine AW.imp (Imp.fL 4 1 rfl ?_);refine vU1 ?_;rw[jq,<- hR];try rfl
instance(s:List ag)(nm:Str):Ctr lim prog 324 [] [.ab 19 ak s,.str nm] (.tup [.am (jq s nm),.ac (oth s nm).isSome]) [] (bR s<=1048576):=⟨(aT 324),λh=>(LZ (SizeOf.sizeOf s+1) s nm).out ⟨Nat.lt_succ_self _,h⟩⟩
end
section
attribute [-instance] eQ
attribute [local go_sem] bD aS bk eI eH fY iE iM
def MI(l:List ah):(l.map (ai false)).all (AV.elem 3)=true:=by rw[all_eq_true];exact fU l
def MH(l:List ah):((l.map (ai false)).flatMap AV.cells).all AV.one=true:=zN l
def aaO(l:List AV):l.drop (Int.toNat 0)=l:=rfl
def aaN(l:List ah):l.take l.length=l:=take_length
def svT(l:List ah)(k:Nat):(l.map (ai false)).take k=(l.take k).map (ai false):=List.map_take.symm
def svD(l:List ah)(k:Nat):(l.map (ai false)).drop k=(l.drop k).map (ai false):=List.map_drop.symm
def svA(l m:List ah):l.map (ai false)++m.map (ai false)=(l++m).map (ai false):=List.map_append.symm
def svX(x:ah):[AV.agg (cNo x)]=[x].map (ai false):=by rw[map_cons,map_nil,bO]
attribute [local go_sem] MI MH aaO aaN svT svD svA length_take length_drop
instance(l:List ah)(k:Int):Ctr lim prog 299 [] [.ab 3 ai (l),.aa k] (.ab 3 ai (dl l k)) [] (k<l.length/\l.length<=4194304):=by
 refine Ctr.bd func299 ntmps299 λhp=>?_;have gOn:=bI.on;obtain⟨h1,h2⟩:=hp;refine AW.f1 0 λhf=>?_;refine vK1 ?_;refine AW.c (λh=>?_) λh=>?_
 ·refine vU1 ?_;rw[dl,if_neg Um]
 obtain⟨j,rfl⟩:∃j:Nat,k=j:=⟨k.toNat,Um⟩
 clear h;refine vX1 ?_;refine AW.imp (Imp.frz 4 ?_);refine gS ?_;refine vU1 ?_;rw[dl,if_pos Um,uG];try rfl
attribute [local go_sem] length_append length_cons length_nil
instance LY(s:List ag)(l:List ah)(x:ah):Ctr lim prog 178 [] [.ab 19 ak (dk s),.ab 3 ai (l),.agg (cNo x)] (.tup [.ab 3 ai (ins s l x),.ac true]) [] (0<=idx (nmP x.ae) (dk s)/\l.length<=4194304/\J s l/\kyB (nd s x.ae) x=true/\∀y∈l,¬same s x y):=by
 refine Ctr.bd func178 ntmps178 λhp=>?_;have gOn:=bI.on;obtain⟨h0,hl,hJ,hkx,hs⟩:=hp;refine AW.f1 1 λhf=>?_;refine vK1 ?_;refine AW.aw [8] [0,1,5] (λm xs o=>∃k:Nat,xs=[.aa k]/\o=[]/\m=l.length - k/\k<=l.length/\∀y∈l.take k,stP (dk s) x y=false) l.length [] trivial ⟨0,?_,rfl,rfl,?_,?_⟩ ?_
 ·rfl
 ·omega
 ·simp
 rintro m xs o ⟨k,rfl,rfl,rfl,hk,hR⟩;have hj0:k<l.length->0<=idx (nmP (at_ l k).ae) (dk s):=λq=>((nX.1 hJ).1 _ (at_mem q)).1
 have hj1:k<l.length->kyB (at_ (dk s) (idx (nmP (at_ l k).ae) (dk s)).toNat) (at_ l k)=true:=λq=>((nX.1 hJ).1 _ (at_mem q)).2.1
 have afd:kyB (at_ (dk s) (idx (nmP x.ae) (dk s)).toNat) x=true:=hkx
 have hst:k<l.length->dY (dk s) (at_ l k) x=!stP (dk s) x (at_ l k):=λq=>WN h0 (hs _ (at_mem q))
 have hbk:k<l.length->dY (dk s) (at_ l k) x=false->dY (dk s) x (at_ l k)=true:=λq=>QD h0 (hs _ (at_mem q))
 (refine vK2 ?_ ?_<;>with_reducible repeat intro h)
 ·exact hj1 (by first|assumption|grind)
 refine AW.c (λh=>?_) λh=>?_
 ·have hlk:=h.1
  have hb:=h.2;clear h;refine vU1 ?_;exact⟨_,[_],_,Um,⟨k+1,rfl,rfl,rfl,Um,bL hlk hR (by have:=hst hlk;rw[hb]at this;cases hz:stP (dk s) x (at_ l k)with|false=>rfl|true=>rw[hz]at this;cases this)⟩,rfl,gO⟩
 have hpos:pos (stP (dk s) x) l=k:=by
  by_cases hlk:k<l.length
  ·have hb:=h hlk;refine pos_at hlk hR ?_;have:=hst hlk;rw[hb]at this
   cases hz:stP (dk s) x (at_ l k)with
   | true=>rfl
   | false=>rw[hz]at this;cases this
  ·rw[FE hlk hR];omega
 have hbb:¬(k<l.length/\dY (dk s) x (at_ l k)=false):=λc=>by
  have:=hbk c.1 (h c.1);rw[this]at c;cases c.2
 clear h;refine vK1 ?_;refine AW.c (λh=>?_) λh=>?_
 ·exact absurd (by grind) hbb
 clear h;refine vX1 ?_;have em:List.map (ai false) (take k l)++AV.agg (cNo x)::List.map (ai false) (List.drop k l)=(l.take k++x::l.drop k).map (ai false):=by rw[map_append,map_cons,bO _ x]
 rw[em];clear em;refine AW.imp (Imp.frz 6 ?_);refine gS ?_;refine vU1 ?_;rw[ins,hpos]
end
section
attribute [-instance] eQ
attribute [local go_sem] bD aS bk eI eH fY iE iM
def chC(n:ag)(e:aI):Int:=if ¬wrg n e=0 then wrg n e else if n.aj=2/\ep n e.af=false then 4 else 0
def chV(n:ag)(e:aI):Str:=if chC n e=0/\(n.aj=4\/n.aj=3/\e.fOp<4) then cvS n.fType e.aq else []
def chK(n:ag)(e:aI):List Str:=if chC n e=0/\n.aj=2 then Gt n e.af else []
def qf{n:ag}{e:aI}{c:Int}(h:chC n e=c)(h0:¬c=0):chV n e=[]/\chK n e=[]:=by rw[chV,chK,if_neg (by rintro⟨a,_⟩;omega),if_neg (by rintro⟨a,_⟩;omega)];exact⟨rfl,rfl⟩
def Ca{n:ag}{e:aI}(h:¬wrg n e=0):chC n e=wrg n e:=by rw[chC,if_pos h]
instance(n:ag)(e:aI):Ctr lim prog 298 [] [.agg (cSc n),.agg (cEd e)] (.tup [.str (chV n e),.am (chK n e),.aa (chC n e)]) [] ((n.aj=2->KyS n)/\1<=n.aj/\n.aj<=4/\e.aq.length<=1048576/\e.af.length<=1048576/\∀x∈e.af,x.aq.length<=1048576):=by
 refine Ctr.bd func298 ntmps298 λhp=>?_;have gOn:=bI.on;obtain⟨hp1,hp2,hp3,hp4,hp5,hp6⟩:=hp
 haveI hK:n.aj=2->Ctr lim prog 323 [] [.agg (cSc n),.agg (cEd e)] (.tup [.am (CQ n e.af),.ac (ep n e.af)]) [] True:=λh=>⟨(aT 323),λ_=>(U2 n e).out ⟨hp1 h,hp5,hp6⟩⟩
 refine AW.RA 1 rfl (xs:=e.af.map (dE false)) (own:=false) (sz:=4) Xp λhf=>?_;simp(disch:=omega)only[go_sem]at hf
 have hk:e.af=[]↔¬(0:Int)<e.af.length:=by
  cases e.af with
  | nil=>simp
  | cons x xs=>simp only[length_cons];constructor<;>intro h<;>first|cases h|(exfalso;omega)
 refine vK1 ?_;refine AW.c (λh=>?_) λh=>?_
 ·have hw:wrg n e=2:=by unfold wrg;grind
  have hc:chC n e=2:=by rw[Ca Um,hw]
  refine vX1 ?_;refine AW.imp (Imp.iB 5 (x:=.v (.slice none 0 0)) (x':=.sl true 1 []) gO (λ_ _ _ _ r=>Rep.fL _ _ r) ?_);refine vU1 ?_;rw[(qf hc Um).1,(qf hc Um).2,hc];try rfl
 have w1:¬(((n.aj=1\/n.aj=2)/\¬e.aq=[])\/(¬(n.aj=1\/n.aj=2)/\¬e.af=[])):=by grind
 clear h;refine vK1 ?_;refine AW.c (λh=>?_) λh=>?_
 ·have hw:wrg n e=3:=by rw[wrg,if_neg w1,if_pos (by grind)]
  have hc:chC n e=3:=by rw[Ca Um,hw]
  refine vX1 ?_;refine AW.imp (Imp.iB 5 (x:=.v (.slice none 0 0)) (x':=.sl true 1 []) gO (λ_ _ _ _ r=>Rep.fL _ _ r) ?_);refine vU1 ?_;rw[(qf hc Um).1,(qf hc Um).2,hc];try rfl
 have w2:¬(e.fOp<1\/5<e.fOp):=by grind
 clear h;refine vK1 ?_;refine AW.c (λh=>?_) λh=>?_
 ·have hq:=h;clear h;refine vK1 ?_;refine AW.c (λh=>?_) λh=>?_
  ·have hw:wrg n e=7:=by rw[wrg,if_neg w1,if_neg w2,if_pos ⟨by grind,h⟩]
   have hc:chC n e=7:=by rw[Ca Um,hw]
   refine vX1 ?_;refine AW.imp (Imp.iB 5 (x:=.v (.slice none 0 0)) (x':=.sl true 1 []) gO (λ_ _ _ _ r=>Rep.fL _ _ r) ?_);refine vU1 ?_;rw[(qf hc Um).1,(qf hc Um).2,hc];try rfl
  have hw:wrg n e=0:=by rw[wrg,if_neg w1,if_neg w2,if_neg (by grind)]
  clear h;have hc:chC n e=0:=by rw[chC,if_neg Um,if_neg (by rintro⟨c,_⟩;omega)]
  refine vK1 ?_;refine AW.c (λh=>?_) λh=>?_
  rotate_left
  ·exfalso;omega
  refine vX1 ?_;refine AW.imp (Imp.iB 5 (x:=.v (.slice none 0 0)) (x':=.sl true 1 []) gO (λ_ _ _ _ r=>Rep.fL _ _ r) ?_);refine vU1 ?_;rw[chV,chK,hc,if_pos (by grind),if_neg (by rintro⟨_,c⟩;omega)];try rfl
 ·have hw:wrg n e=0:=by rw[wrg,if_neg w1,if_neg w2,if_neg (by grind)]
  have hq:=h;clear h;refine vK1 ?_;refine AW.c (λh=>?_) λh=>?_
  ·have hc:chC n e=0:=by rw[chC,if_neg Um,if_neg (by rintro⟨c,_⟩;omega)]
   refine vX1 ?_;refine AW.imp (Imp.iB 5 (x:=.v (.slice none 0 0)) (x':=.sl true 1 []) gO (λ_ _ _ _ r=>Rep.fL _ _ r) ?_);refine vU1 ?_;rw[chV,chK,hc,if_neg (by grind),if_neg (by rintro⟨_,c⟩;omega)];try rfl
  have h2:n.aj=2:=by omega
  clear h;haveI:=hK h2;refine vK1 ?_;refine AW.c (λh=>?_) λh=>?_
  ·have hc:chC n e=4:=by rw[chC,if_neg Um,if_pos ⟨h2,h⟩]
   refine vX1 ?_;refine AW.imp (Imp.iB 5 (x:=.v (.slice none 0 0)) (x':=.sl true 1 []) gO (λ_ _ _ _ r=>Rep.fL _ _ r) ?_);refine vU1 ?_;rw[(qf hc Um).1,(qf hc Um).2,hc];try rfl
  ·have hc:chC n e=0:=by rw[chC,if_neg Um,if_neg (by rintro⟨_,c⟩;rw[h]at c;cases c)]
   refine vU1 ?_;rw[chV,chK,hc,if_neg (by rintro⟨_,c⟩;omega),if_pos ⟨rfl,h2⟩,CQ,if_pos h];try rfl
