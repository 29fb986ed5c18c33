/- Part of a proof. -/
import Derived.Test.YtbiikafnjialjaaGreatDoorS24
import Derived.Test.YtbiikafnjialjaaGreatDoorS26
import Derived.Test.YtbiikafnjialjaaGreatDoorS27
set_option linter.all false
set_option maxRecDepth 20000
set_option maxHeartbeats 4000000
open Go.Proofs.Tryz
open List
namespace Go.Proofs
open Go.Ab Go.Dt
attribute [-instance] eQ
attribute [local go_sem] bD aS bk eI eH fY iE iM
def fU(l:List ah):∀x,x∈l.map (ai false)->x.elem 3=true:=bW (λx=>by rw[bO];try rfl) _
def zN:∀l:List ah,((l.map (ai false)).flatMap AV.cells).all AV.one=true:=λl=>eD (λx=>by rw[bO];try rfl) l
def qx(l:List ah)(x:ah){k:Nat}(hk:k<=l.length)(hl:l.length<=4194304):HZ lim prog 344 [.sl true 3 (l.map (ai false)),.aa k,.sl true 3 [.agg (cNo x)]] (.sl true 3 ((l.take k++x::l.drop k).map (ai false))):=by have h:=LA.con (L:=lim) (i:=k) (l:=l.map (ai false)) (x:=ai false x) abv (fU l) (zN l) (by rw[bO];try rfl) (by rw[bO];try rfl) (by rw[length_map];omega) (by rw[length_map];omega) (by rw[length_map];show _<=2147483648;omega);rw[<- map_take,<- map_drop,<- map_cons,<- map_append]at h;rw[bO]at h;exact h
theorem Jw(s:List ag)(l:List ah)(x:ah):Ctr lim prog 327 [] [.ab 19 ak s,.ab 3 ai l,.agg (cNo x)] (.ab 3 ai (ins s l x)) [] (0<=idx (nmP x.ae) (dk s)/\bR s<=1048576/\l.length<=4194304):=by
 refine Ctr.bd func327 ntmps327 λhp=>?_;have gOn:=bI.on;obtain⟨h0,hc,hl⟩:=hp;have hj:=fV (p:=nmP x.ae) (dk s);refine vK1 ?_;refine AW.aw [10] [0,1,5,7,8,9] (λm xs o=>∃k:Nat,xs=[.aa k]/\o=[]/\m=l.length - k/\k<=l.length/\∀y∈l.take k,stP (dk s) x y=false) l.length [] trivial ⟨0,?_,rfl,rfl,?_,?_⟩ ?_
 ·rfl
 ·omega
 ·simp
 rintro m xs o ⟨k,rfl,rfl,rfl,hk,hR⟩;refine vK1 ?_;refine AW.c (λh=>?_) λh=>?_
 ·have hlk:=h;clear h;refine vK1 ?_;refine AW.c (λh=>?_) λh=>?_
  ·have hpos:pos (stP (dk s) x) l=k:=pos_at hlk hR (by rw[stP];grind);clear h;refine vN1 ?_;refine AW.ot [(6,.sl true 3 ((l.take k++x::l.drop k).map (ai false)))] [] caa (λK hK=>?_) ?_
   ·change az lim prog _ 8 #[false,false,false,false,false,false,false,false] _ _;refine az.mvN 1 caa caa caa ?_;refine gS ?_;refine az.mvN 3 caa caa caa ?_;refine gS ?_;refine az.sp _ [0,4] ?_;simp only[fA];refine vN2 ?_ ?_
    ·refine az.sp _ [2,4] ?_;simp only[fA];refine vN2 ?_ ?_
     ·refine az.sp _ [4] ?_;simp only[fA];refine vN1 ?_;refine az.sp _ [5] ?_;simp only[fA];refine vN1 ?_;refine az.qE 6 caa ?_;refine gS ?_;refine⟨by first|trivial|decide,(aT 344),_,qx l x Um Um,?_⟩;refine az.sp _ [7] ?_;simp only[fA];refine vN1 ?_;exact az.fR [6] [] caa gO (by simp(maxSteps:=2000000) (disch:=omega)only[go_sem];exact hK)
     ·refine az.sp _ [2,5] ?_;simp only[fA];refine vN2 ?_ ?_
      ·refine az.sp _ [5] ?_;simp only[fA];refine vN1 ?_;refine az.qE 6 caa ?_;refine gS ?_;refine⟨by first|trivial|decide,(aT 344),_,qx l x Um Um,?_⟩;refine az.sp _ [7] ?_;simp only[fA];refine vN1 ?_;exact az.fR [6] [] caa gO (by simp(maxSteps:=2000000) (disch:=omega)only[go_sem];exact hK)
      ·refine az.sp _ [2] ?_;simp only[fA];refine vN1 ?_;refine az.qE 6 caa ?_;refine gS ?_;refine⟨by first|trivial|decide,(aT 344),_,qx l x Um Um,?_⟩;refine az.sp _ [7] ?_;simp only[fA];refine vN1 ?_;exact az.fR [6] [] caa gO (by simp(maxSteps:=2000000) (disch:=omega)only[go_sem];exact hK)
    ·refine az.sp _ [0,5] ?_;simp only[fA];refine vN2 ?_ ?_
     ·refine az.sp _ [2,5] ?_;simp only[fA];refine vN2 ?_ ?_
      ·refine az.sp _ [5] ?_;simp only[fA];refine vN1 ?_;refine az.qE 6 caa ?_;refine gS ?_;refine⟨by first|trivial|decide,(aT 344),_,qx l x Um Um,?_⟩;refine az.sp _ [7] ?_;simp only[fA];refine vN1 ?_;exact az.fR [6] [] caa gO (by simp(maxSteps:=2000000) (disch:=omega)only[go_sem];exact hK)
      ·refine az.sp _ [2] ?_;simp only[fA];refine vN1 ?_;refine az.qE 6 caa ?_;refine gS ?_;refine⟨by first|trivial|decide,(aT 344),_,qx l x Um Um,?_⟩;refine az.sp _ [7] ?_;simp only[fA];refine vN1 ?_;exact az.fR [6] [] caa gO (by simp(maxSteps:=2000000) (disch:=omega)only[go_sem];exact hK)
     ·refine az.sp _ [0] ?_;simp only[fA];refine vN1 ?_;refine az.sp _ [2] ?_;simp only[fA];refine vN1 ?_;refine az.qE 6 caa ?_;refine gS ?_;refine⟨by first|trivial|decide,(aT 344),_,qx l x Um Um,?_⟩;refine az.sp _ [7] ?_;simp only[fA];refine vN1 ?_;exact az.fR [6] [] caa gO (by simp(maxSteps:=2000000) (disch:=omega)only[go_sem];exact hK)
   ·refine thenQ.n ?_;refine AW.imp (Imp.frz 6 ?_);refine gS ?_;refine vU1 ?_;rw[ins,hpos]
  ·refine vU1 ?_;exact⟨_,[_],_,Um,⟨k+1,rfl,rfl,rfl,Um,bL hlk hR (by rw[stP];grind)⟩,rfl,gO⟩
 ·have ek:k=l.length:=by omega
  have hpos:pos (stP (dk s) x) l=k:=by rw[FE Um hR,ek]
  clear h;refine vN1 ?_;refine AW.ot [(6,.sl true 3 ((l.take k++x::l.drop k).map (ai false)))] [] caa (λK hK=>?_) ?_
  ·change az lim prog _ 8 #[false,false,false,false,false,false,false,false] _ _;refine az.mvN 1 caa caa caa ?_;refine gS ?_;refine az.mvN 3 caa caa caa ?_;refine gS ?_;refine az.sp _ [0,4] ?_;simp only[fA];refine vN2 ?_ ?_
   ·refine az.sp _ [2,4] ?_;simp only[fA];refine vN2 ?_ ?_
    ·refine az.sp _ [4] ?_;simp only[fA];refine vN1 ?_;refine az.sp _ [5] ?_;simp only[fA];refine vN1 ?_;refine az.qE 6 caa ?_;refine gS ?_;refine⟨by first|trivial|decide,(aT 344),_,qx l x Um Um,?_⟩;refine az.sp _ [7] ?_;simp only[fA];refine vN1 ?_;exact az.fR [6] [] caa gO (by simp(maxSteps:=2000000) (disch:=omega)only[go_sem];exact hK)
    ·refine az.sp _ [2,5] ?_;simp only[fA];refine vN2 ?_ ?_
     ·refine az.sp _ [5] ?_;simp only[fA];refine vN1 ?_;refine az.qE 6 caa ?_;refine gS ?_;refine⟨by first|trivial|decide,(aT 344),_,qx l x Um Um,?_⟩;refine az.sp _ [7] ?_;simp only[fA];refine vN1 ?_;exact az.fR [6] [] caa gO (by simp(maxSteps:=2000000) (disch:=omega)only[go_sem];exact hK)
     ·refine az.sp _ [2] ?_;simp only[fA];refine vN1 ?_;refine az.qE 6 caa ?_;refine gS ?_;refine⟨by first|trivial|decide,(aT 344),_,qx l x Um Um,?_⟩;refine az.sp _ [7] ?_;simp only[fA];refine vN1 ?_;exact az.fR [6] [] caa gO (by simp(maxSteps:=2000000) (disch:=omega)only[go_sem];exact hK)
   ·refine az.sp _ [0,5] ?_;simp only[fA];refine vN2 ?_ ?_
    ·refine az.sp _ [2,5] ?_;simp only[fA];refine vN2 ?_ ?_
     ·refine az.sp _ [5] ?_;simp only[fA];refine vN1 ?_;refine az.qE 6 caa ?_;refine gS ?_;refine⟨by first|trivial|decide,(aT 344),_,qx l x Um Um,?_⟩;refine az.sp _ [7] ?_;simp only[fA];refine vN1 ?_;exact az.fR [6] [] caa gO (by simp(maxSteps:=2000000) (disch:=omega)only[go_sem];exact hK)
     ·refine az.sp _ [2] ?_;simp only[fA];refine vN1 ?_;refine az.qE 6 caa ?_;refine gS ?_;refine⟨by first|trivial|decide,(aT 344),_,qx l x Um Um,?_⟩;refine az.sp _ [7] ?_;simp only[fA];refine vN1 ?_;exact az.fR [6] [] caa gO (by simp(maxSteps:=2000000) (disch:=omega)only[go_sem];exact hK)
    ·refine az.sp _ [0] ?_;simp only[fA];refine vN1 ?_;refine az.sp _ [2] ?_;simp only[fA];refine vN1 ?_;refine az.qE 6 caa ?_;refine gS ?_;refine⟨by first|trivial|decide,(aT 344),_,qx l x Um Um,?_⟩;refine az.sp _ [7] ?_;simp only[fA];refine vN1 ?_;exact az.fR [6] [] caa gO (by simp(maxSteps:=2000000) (disch:=omega)only[go_sem];exact hK)
  ·refine thenQ.n ?_;refine AW.imp (Imp.frz 6 ?_);refine gS ?_;refine vU1 ?_;rw[ins,hpos]
end Go.Proofs
namespace Go.Ab
def Imp.SB{L:gaa}{n:Nat}{t:faa}{o:Sto}{Q:AS->Prop}{b:Nat}(pre post:List AV){own:Bool}{sz:Nat}{l:List AV}(p q:List AV)(o':Bool)(z:Nat)(hO:O o b=some (pre++([.sl own sz (l++[.agg (p++.v (.slice none 0 0)::q)])]++post)))
  (h:Q ⟨n,t,ic o b (some (pre++([.sl own sz (l++[.agg (p++.sl o' z []::q)])]++post)))⟩):Imp L ⟨n,t,o⟩ Q :=
 Imp.yh hO λvs=>⟨[.sl own sz (l++[.agg (p++.sl o' z []::q)])],h,λF w f r=>by
  simp only[au]at r ⊢;obtain⟨y,vs',f1,f2,e1,e2,hy,e3,e4⟩:=r
  exact⟨y,vs',f1,f2,e1,e2,Rep.aaQ (Rep.Zo Rep.fL) _ _ hy,e3,e4⟩⟩
end Go.Ab
namespace Go.Proofs
open Go.Ab Go.Dt
section
attribute [-instance] eQ
attribute [local go_sem] bD aS bk eI eH fY iE iM
def Gu(n:ag)(e:aI):Int:=if n.aj=2/\ep n e.af=false then 4 else 0
def nJ(n:ag)(e:aI):ah:=if n.aj=2/\ep n e.af=false then .mk [] [] [] else cv n e
def pE{n:ag}{e:aI}(h:n.aj=2/\ep n e.af=false):Gu n e=4/\nJ n e=.mk [] [] []:=⟨if_pos h,if_pos h⟩
def oH{n:ag}{e:aI}(h:¬(n.aj=2/\ep n e.af=false)):Gu n e=0/\nJ n e=cv n e:=⟨if_neg h,if_neg h⟩
def PA{n:ag}{q:Str}{es:List aI}{j:Nat}(h:j<es.length)(hn:(at_ es j).ae=q):kvV n q (es.take (j+1))=kvV n q (es.take j)++[.mk q (cvS (kt n q) (at_ es j).aq) []]/\kvF q (es.take (j+1))=kvF q (es.take j)++[at_ es j]:=by
 have e1:kvF q (es.take (j+1))=kvF q (es.take j)++[at_ es j]:=by
  rw[eV h,kvF,filter_append];have:edP q (at_ es j)=true:=by simpa[edP]using hn
  simp[kvF,this]
 exact⟨by rw[kvV,e1,map_append];rfl,e1⟩
def PB{n:ag}{q:Str}{es:List aI}{j:Nat}(h:j<es.length)(hn:¬(at_ es j).ae=q):kvV n q (es.take (j+1))=kvV n q (es.take j)/\kvF q (es.take (j+1))=kvF q (es.take j):=by
 have e1:kvF q (es.take (j+1))=kvF q (es.take j):=by
  rw[eV h,kvF,filter_append];have:edP q (at_ es j)=false:=by simpa[edP]using hn
  simp[kvF,this]
 exact⟨by rw[kvV,e1];rfl,e1⟩
def VG(q:Str)(es:List aI)(j:Nat):(kvF q (es.take j)).length<=j:=by have:=length_filter_le (edP q) (es.take j);rw[length_take]at this;unfold kvF;omega
def Gs{n:ag}{es:List aI}{k:Nat}(hk:k<n.ax.length)(h:(decide ((kvF (at_ n.ax k) es).length=1) && (kvF (at_ n.ax k) es).all (kvG n (at_ n.ax k)))=false):ep n es=false:=jL hk h
def VE{n:ag}{q:Str}{es:List aI}{j:Nat}(h:j<es.length)(hn:(at_ es j).ae=q)(hg:kvG n q (at_ es j)=false):(kvF q es).all (kvG n q)=false:=by rw[Bool.eq_false_iff];intro c;have:at_ es j∈kvF q es:=List.mem_filter.2 ⟨at_mem h,by simpa[edP]using hn⟩;rw[List.all_eq_true.1 c _ this]at hg;cases hg
def MW(n:ag)(es:List aI):∀(Ks:List Str) (k:Nat),((Ks.take k).flatMap (λq=>kvV n q es)).length<=k * es.length
 | [],k=>by simp
 | q::Ks,0=>by simp
 | q::Ks,k+1=>by
  rw[take_succ_cons,flatMap_cons,length_append,Nat.add_mul];have h1:=MW n es Ks k
  have h2:(kvV n q es).length<=es.length:=by rw[kvV,length_map];exact length_filter_le _ _
  omega
theorem VV(n:ag)(e:aI):Ctr lim prog 302 [] [.agg (cSc n),.agg (cEd e)] (.tup [.agg [.str (nJ n e).ae,.str (nJ n e).aq,.sl true 3 ((nJ n e).af.map (ai false))],.aa (Gu n e)]) [] ((n.aj=2->∀q∈n.ax,0<=idx (fq q) n.af)/\n.ax.length<=3/\e.aq.length<=1048576/\e.af.length<=1048576/\∀x∈e.af,x.aq.length<=1048576):=by
 refine Ctr.bd func302 ntmps302 λhp=>?_;have gOn:=bI.on;obtain⟨hp1,hp2,hp3,hp5,hp4⟩:=hp;refine AW.RA 1 rfl (xs:=e.af.map (dE false)) (own:=false) (sz:=4) Xp λhf=>?_;simp(disch:=omega)only[go_sem]at hf
 (refine vK1 ?_;intro h h h)
 rename_i b1 b2;refine AW.imp (Imp.nA (b:=b2) 3 [.str n.ae,.str []] [] gO ?_);refine gS ?_;refine AW.c (λh=>?_) λh=>?_
 ·refine vU1 ?_;rw[(oH (n:=n) (e:=e) Um).1,(oH (n:=n) (e:=e) Um).2,cv,if_pos h,if_neg Um];try rfl
 have h4:=h;clear h;refine vK1 ?_;refine AW.c (λh=>?_) λh=>?_
 ·refine vU1 ?_;rw[(oH (n:=n) (e:=e) Um).1,(oH (n:=n) (e:=e) Um).2,cv,if_neg h4,if_neg h];try rfl
 have h2:n.aj=2:=by omega
 clear h;refine vK1 ?_;refine AW.lJ [39] [2,3,4,6,37,38] (λm xs o=>∃k:Nat,xs=[.aa k]/\o=[(b2,some [.str n.ae,.str [],.sl true 3 (((n.ax.take k).flatMap (λq=>kvV n q e.af)).map (ai false))]),(b1,some [.str [],.str [],.v (.slice none 0 0)])]/\m=n.ax.length - k/\k<=n.ax.length/\∀q∈n.ax.take k,(!(decide ((kvF q e.af).length=1) && (kvF q e.af).all (kvG n q)))=false) n.ax.length [(b2,some [.str n.ae,.str [],.sl true 3 ((([]:List ah)).map (ai false))]),(b1,some [.str [],.str [],.v (.slice none 0 0)])] gO ⟨0,rfl,rfl,rfl,Um,Xp⟩ ?_;rintro m xs o ⟨k,rfl,rfl,rfl,hk,hR⟩;refine vK1 ?_;refine AW.c (λh=>?_) λh=>?_
 ·have hlk:=h
  have hlf:=hp1 h2 _ (at_mem h);clear h;refine vK1 ?_;refine AW.lJ [9,46] [2,3,4,6,8,37,38,39,44,45] (λm xs o=>∃j:Nat,xs=[.aa (kvF (at_ n.ax k) (e.af.take j)).length,.aa j]/\o=[(b2,some [.str n.ae,.str [],.sl true 3 (((n.ax.take k).flatMap (λq=>kvV n q e.af)++kvV n (at_ n.ax k) (e.af.take j)).map (ai false))]),(b1,some [.str [],.str [],.v (.slice none 0 0)])]/\m=e.af.length - j/\j<=e.af.length/\(kvF (at_ n.ax k) (e.af.take j)).all (kvG n (at_ n.ax k))=true) e.af.length [(b2,some [.str n.ae,.str [],.sl true 3 (((n.ax.take k).flatMap (λq=>kvV n q e.af)).map (ai false))]),(b1,some [.str [],.str [],.v (.slice none 0 0)])] gO ⟨0,rfl,by simp[kvV,kvF],rfl,Um,by simp[kvF]⟩ ?_;rintro m xs o ⟨j,rfl,rfl,rfl,hj,hG⟩;have hle:=VG (at_ n.ax k) e.af j;refine vK1 ?_;refine AW.c (λh=>?_) λh=>?_
  ·have hlj:=h
   have hv:=hp4 _ (at_mem h);clear h
   (refine vK1 ?_;intro h h)
   refine AW.c (λh=>?_) λh=>?_
   ·have hs:=PB (n:=n) hlj h;refine vU1 ?_;refine Imp.id ?_;refine gS ?_;exact⟨_,[_,_],_,Um,⟨j+1,by rw[hs.2],rfl,rfl,Um,by rw[hs.2];exact hG⟩,rfl,by rw[hs.1];simp(maxSteps:=2000000) (disch:=omega)only[go_sem]⟩
   have hnm:(at_ e.af j).ae=(at_ n.ax k):=by grind
   clear h;haveI:=xC n.af (at_ n.ax k)
   (refine vK1 ?_;intro h h)
   refine AW.c (λh=>?_) λh=>?_
   ·refine vX1 ?_;refine AW.imp (Imp.nA (b:=b1) 3 [.str [],.str []] [] gO ?_);refine vU1 ?_
    have hb:n.aj=2/\ep n e.af=false:=⟨h2,Gs hlk (by rw[VE hlj hnm (by unfold kvG kt;grind),Bool.and_false])⟩
    rw[(pE hb).1,(pE hb).2];try rfl
   have hs:=PA (n:=n) hlj hnm
   have hz:=h
   have hLl:((n.ax.take k).flatMap (λq=>kvV n q e.af)++kvV n (at_ n.ax k) (e.af.take j)).length<=4194304:=by
    have h1:=MW n e.af n.ax k
    have h2:(kvV n (at_ n.ax k) (e.af.take j)).length<=e.af.length:=by rw[kvV,length_map];omega
    have h3:k * e.af.length<=3 * e.af.length:=Nat.mul_le_mul_right _ Um;rw[length_append];omega
   obtain⟨L,hL⟩:∃L:List ah,L=(n.ax.take k).flatMap (λq=>kvV n q e.af)++kvV n (at_ n.ax k) (e.af.take j):=⟨_,rfl⟩
   simp only[<- hL]at hLl ⊢;simp only[kt]at hs;clear h;refine AW.imp (Imp.mH (b0:=b2) (k:=2) (sz:=3) (cells0:=[.str n.ae,.str [],.sl true 3 (L.map (ai false))]) (l:=L.map (ai false)) gO rfl (fU _) (λg hg'=>?_) (λhnil=>?_))
   ·have hb1:=hg'.nf;simp only[go_sem]at hb1;simp only[set_cons_zero,set_cons_succ,length_map]
    (refine vU2 ?_ ?_<;>with_reducible repeat intro h)
    ·rw[dw (sz:=3) (fU _),length_map]
    rename Nat=>g2
    refine Imp.bind (Q:=λs'=>s'=_) (Imp.j9 (b:=g2) 3 ((L.map (ai false)).flatMap AV.cells++[.str (at_ n.ax k),.str (cvS (at_ n.af (idx (fq (at_ n.ax k)) n.af).toNat).fType (at_ e.af j).aq)]) [] (by simp(maxSteps:=2000000) (disch:=omega)only[go_sem];try simp) rfl) ?_;rintro _ rfl;refine gS ?_;refine Imp.BQ (b0:=b2) (k:=2) (b:=g2) (sz:=3) (cells0:=[.str n.ae,.str [],.arr g2 0 (L.length+1) 3]) (l:=L.map (ai false)) (.agg [.str (at_ n.ax k),.str (cvS (at_ n.af (idx (fq (at_ n.ax k)) n.af).toNat).fType (at_ e.af j).aq),.sl false 3 []]) gO (by rw[length_map];rfl) (by simp(maxSteps:=2000000) (disch:=omega)only[go_sem];try simp) Um (fU _) rfl ?_;simp only[set_cons_zero,set_cons_succ];exact⟨trivial,_,[_,_],_,Um,⟨j+1,by rw[hs.2,length_append];rfl,rfl,rfl,Um,by rw[hs.2,all_append,hG];unfold kvG kt;grind⟩,rfl,by rw[hs.1,<- append_assoc,<- hL,map_append,map_cons,map_nil,bO];refine gS ?_;try rfl⟩
   ·have hL0:L=[]:=List.map_eq_nil_iff.1 hnil;subst hL0;simp only[set_cons_zero,set_cons_succ];refine vU1 ?_;refine Imp.SB (b:=b2) (l:=[]) (own:=true) (sz:=3) [.str n.ae,.str []] [] [.str (at_ n.ax k),.str (cvS (at_ n.af (idx (fq (at_ n.ax k)) n.af).toNat).fType (at_ e.af j).aq)] [] false 3 gO ?_;refine gS ?_;exact⟨_,[_,_],_,Um,⟨j+1,by rw[hs.2,length_append];rfl,rfl,rfl,Um,by rw[hs.2,all_append,hG];unfold kvG kt;grind⟩,rfl,by rw[hs.1,<- append_assoc,<- hL,map_append,map_cons,map_nil,bO];refine gS ?_;try rfl⟩
  ·have ej:j=e.af.length:=by omega
   subst ej;clear h;rw[take_length]at *;refine vK1 ?_;refine AW.c (λh=>?_) λh=>?_
   ·refine vX1 ?_;refine AW.imp (Imp.nA (b:=b1) 3 [.str [],.str []] [] gO ?_);refine vU1 ?_
    have hb:n.aj=2/\ep n e.af=false:=⟨h2,Gs hlk (by rw[show decide ((kvF (at_ n.ax k) e.af).length=1)=false by simp;omega,Bool.false_and])⟩
    rw[(pE hb).1,(pE hb).2];try rfl
   refine vU1 ?_;refine Imp.id ?_;refine gS ?_;exact⟨_,[_],_,Um,⟨k+1,rfl,rfl,rfl,Um,bL hlk hR (by rw[hG,show decide ((kvF (at_ n.ax k) e.af).length=1)=true by simp;omega];rfl)⟩,rfl,by rw[show n.ax.take (k+1)=n.ax.take k++[(at_ n.ax k)]from eV hlk,flatMap_append,flatMap_cons,flatMap_nil,append_nil];simp(maxSteps:=2000000) (disch:=omega)only[go_sem]⟩
 ·refine vU1 ?_;have hk0:ep n e.af=true:=fG baa hR
  have hb:¬(n.aj=2/\ep n e.af=false):=by rw[hk0];simp
  rw[(oH hb).1,(oH hb).2,cv,if_neg h4,if_pos h2,take_of_length_le Um];try rfl
end
section
attribute [-instance] eQ
attribute [local go_sem] bD aS bk eI eH fY iE iM
instance(s:List ag)(l:List ah)(nm v:Str)(ks:List ah):Ctr lim prog 327 [] [.ab 19 ak s,.ab 3 ai (l),.agg [.str nm,.str v,.ab 3 ai (ks)]] (.ab 3 ai (ins s l (.mk nm v ks))) [] (0<=idx (nmP nm) (dk s)/\bR s<=1048576/\l.length<=4194304):=Jw s l (.mk nm v ks)
instance(s:List ag)(l:List ah)(nm v:Str):Ctr lim prog 327 [] [.ab 19 ak s,.ab 3 ai (l),.agg [.str nm,.str v,.sl false 3 []]] (.ab 3 ai (ins s l (.mk nm v []))) [] (0<=idx (nmP nm) (dk s)/\bR s<=1048576/\l.length<=4194304):=Jw s l (.mk nm v [])
def Qi{p:ah->Bool}{l:List ah}{k:Nat}(h:k<l.length):(l.take (k+1)).filter p=(l.take k).filter p++(if p (at_ l k)=true then [at_ l k] else []):=by rw[eV h,filter_append,filter_cons];rfl
def Wq(p:ah->Bool)(l:List ah)(k:Nat):((l.take k).filter p).length<=k:=by have:=length_filter_le p (l.take k);rw[length_take]at this;omega
def Gn(l:List ah):l.length<=cnt l:=by unfold cnt;omega
theorem Nw(N:Nat)(ih:∀(s:List ag) (l:List ah) (es:List aI),Ctr lim prog 213 [] [.ab 19 ak s,.ab 3 ai (l),.ab 4 dE (es)] (.tup [.ab 3 ai ((mdE es s l).1),.aa (mdE es s l).2]) [] (SizeOf.sizeOf es<N/\gdS s/\wtS s<=1048576/\cnt l+fC es<=4194304/\wtE es<=1048576))(s:List ag)(l:List ah)(n:ag)(e:aI):Ctr lim prog 305 [] [.ab 19 ak s,.ab 3 ai (l),.agg (cSc n),.agg (cEd e)] (.tup [.ab 3 ai ((crt (mdE e.af) s l n e).1),.aa (crt (mdE e.af) s l n e).2]) [] (SizeOf.sizeOf e.af<N/\gdS n.af/\n.ae=(nd s n.ae).ae/\0<=idx (nmP n.ae) (dk s)/\wtS s<=1048576/\wtS n.af<=1048576/\l.length<=4194304/\fC e.af<=4194304/\e.aq.length<=1048576/\wtE e.af<=1048576):=by
 haveI ihN:∀(s:List ag) (es:List aI),Ctr lim prog 213 [] [.ab 19 ak s,.v (.slice none 0 0),.ab 4 dE (es)] (.tup [.ab 3 ai ((mdE es s []).1),.aa (mdE es s []).2]) [] (SizeOf.sizeOf es<N/\gdS s/\wtS s<=1048576/\cnt []+fC es<=4194304/\wtE es<=1048576):=λs es=>(ih s [] es).view λF w vs fp r=>au.at (l:=[.ab 19 ak s]) (x:=.v (.slice none 0 0)) (x':=.sl false 3 []) (l2:=[.ab 4 dE (es)]) Rep.fL _ _ r;refine Ctr.bd func305 ntmps305 λhp=>?_;have gOn:=bI.on;obtain⟨hN,hg,hn0,hi,hs,hs2,hl,hce,hv,hwe⟩:=hp;have hc:=gV s
 have hol:=FM s n.ae
 have hc0:cnt ([]:List ah)=0:=j5;refine AW.f1 1 λhf=>?_;refine vK1 ?_;refine AW.aw [12,28] [0,1,6,7,10,26,27] (λm xs o=>∃k:Nat,xs=[.sl true 3 (((l.take k).filter (λy:ah=>!cont (jq s n.ae) y.ae)).map (ai false)),.aa k]/\o=[]/\m=l.length - k/\k<=l.length) l.length [] trivial ⟨0,?_,rfl,rfl,?_⟩ ?_
 ·rfl
 ·omega
 rintro m xs o ⟨k,rfl,rfl,rfl,hk⟩;have hfl:=Wq (λy:ah=>!cont (jq s n.ae) y.ae) l k;refine vK1 ?_;refine AW.c (λh=>?_) λh=>?_
 ·have hlk:=h
  have hst:=Qi (p:=λy:ah=>!cont (jq s n.ae) y.ae) h;clear h
  (refine vK1 ?_;intro h)
  refine AW.c (λh=>?_) λh=>?_
  ·refine vU1 ?_;exact⟨_,[_,_],_,Um,⟨k+1,by rw[hst,if_pos (by rw[h];rfl),map_append,map_cons,map_nil,bO],rfl,rfl,Um⟩,rfl,gO⟩
  ·refine vU1 ?_;exact⟨_,[_,_],_,Um,⟨k+1,by rw[hst,if_neg (by rw[h];simp),append_nil],rfl,rfl,Um⟩,rfl,gO⟩
 have ew:(l.take k).filter (λy:ah=>!cont (jq s n.ae) y.ae)=wo s n.ae l:=by rw[take_of_length_le Um];rfl
 rw[ew]at hfl ⊢;clear h;refine AW.imp (Imp.frz 12 ?_);refine gS ?_
 (refine vK1 ?_;intro h)
 rename Nat=>b2
 refine AW.imp (Imp.j9 (b:=b2) 3 [.str n.ae,.str []] [] gO ?_);refine gS ?_;refine AW.c (λh=>?_) λh=>?_
 ·refine vU1 ?_;rw[crt,if_pos h];try rfl
 have h34:=h;clear h;refine vK1 ?_;refine AW.c (λh=>?_) λh=>?_
 ·refine vX1 ?_;refine AW.imp (Imp.iB 8 (x:=.v (.slice none 0 0)) (x':=.sl false 3 []) gO (λ_ _ _ _ r=>Rep.fL _ _ r) ?_);refine vU1 ?_;rw[crt,if_neg Um,if_pos h];try rfl
 have afl:=h;clear h
 have hz:(mdE e.af n.af []).1=[]↔((mdE e.af n.af []).1.length:Int)=0:=by
  rw[<- length_eq_zero_iff];omega
 refine vK1 ?_;refine AW.c (λh=>?_) λh=>?_
 ·refine vU1 ?_;rw[crt,if_neg Um,if_neg Um,if_pos (by grind)];try rfl
 ·refine vU1 ?_;rw[crt,if_neg Um,if_neg Um,if_neg (by grind)];try rfl
