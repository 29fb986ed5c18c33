/- Part of a proof. -/
import Derived.Test.YtbiikafnjialjaaGreatDoorQ24
import Derived.Test.YtbiikafnjialjaaGreatDoorQ26
import Derived.Test.YtbiikafnjialjaaGreatDoorQ27
set_option linter.all false
set_option maxRecDepth 20000
set_option maxHeartbeats 4000000
open Go.Proofs.Tryz
open List
namespace Go.Proofs
open Go.Ab Go.Dt
attribute [-instance] fg
attribute [local go_sem] bL aV bu eW eV gC jf jI
def gr(l:List ah):∀x,x∈l.map (ai false)->x.elem 3=true:=ct (λx=>by rw[bW];try rfl) _
def Ar:∀l:List ah,((l.map (ai false)).flatMap AV.cells).all AV.one=true:=λl=>eO (λx=>by rw[bW];try rfl) l
def qU(l:List ah)(x:ah){k:Nat}(hk:k<=l.length)(hl:l.length<=4194304):I0 lim prog 344 [.sl true 3 (l.map (ai false)),.aa k,.sl true 3 [.agg (cNo x)]] (.sl true 3 ((l.take k++x::l.drop k).map (ai false))):=by have h:=Mw.con (L:=lim) (i:=k) (l:=l.map (ai false)) (x:=ai false x) ab5 (gr l) (Ar l) (by rw[bW];try rfl) (by rw[bW];try rfl) (by rw[length_map];omega) (by rw[length_map];omega) (by rw[length_map];show _<=2147483648;omega);rw[<- map_take,<- map_drop,<- map_cons,<- map_append]at h;rw[bW]at h;exact h
theorem Kl(s:List ag)(l:List ah)(x:ah):Ctr lim prog 327 [] [.ab 19 ak s,.ab 3 ai l,.agg (cNo x)] (.ab 3 ai (ins s l x)) [] (0<=idx (nmP x.ae) (dk s)/\cl s<=1048576/\l.length<=4194304):=by
 refine Ctr.bd func327 ntmps327 λhp=>?_;have gOn:=bM.on;obtain⟨h0,hc,hl⟩:=hp;have hj:=gu (p:=nmP x.ae) (dk s);refine vK1 ?_;refine AW.aw [10] [0,1,5,7,8,9] (λm xs o=>∃k:Nat,xs=[.aa k]/\o=[]/\m=l.length - k/\k<=l.length/\∀y∈l.take k,stP (dk s) x y=false) l.length [] trivial ⟨0,?_,rfl,rfl,?_,?_⟩ ?_
 ·rfl
 ·omega
 ·simp
 rintro m xs o ⟨k,rfl,rfl,rfl,hk,hR⟩;refine vK1 ?_;refine AW.c (λh=>?_) λh=>?_
 ·have hlk:=h;clear h;refine vK1 ?_;refine AW.c (λh=>?_) λh=>?_
  ·have hpos:pos (stP (dk s) x) l=k:=pos_at hlk hR (by rw[stP];grind);clear h;refine vN1 ?_;refine AW.pQ [(6,.sl true 3 ((l.take k++x::l.drop k).map (ai false)))] [] caa (λK hK=>?_) ?_
   ·change aD lim prog _ 8 #[false,false,false,false,false,false,false,false] _ _;refine aD.mvN 1 caa caa caa ?_;refine gS ?_;refine aD.mvN 3 caa caa caa ?_;refine gS ?_;refine aD.sp _ [0,4] ?_;simp only[fL];refine vN2 ?_ ?_
    ·refine aD.sp _ [2,4] ?_;simp only[fL];refine vN2 ?_ ?_
     ·refine aD.sp _ [4] ?_;simp only[fL];refine vN1 ?_;refine aD.sp _ [5] ?_;simp only[fL];refine vN1 ?_;refine aD.q9 6 caa ?_;refine gS ?_;refine⟨by first|trivial|decide,(aU 344),_,qU l x Yt Yt,?_⟩;refine aD.sp _ [7] ?_;simp only[fL];refine vN1 ?_;exact aD.ib [6] [] caa gO (by simp(maxSteps:=2000000) (disch:=omega)only[go_sem];exact hK)
     ·refine aD.sp _ [2,5] ?_;simp only[fL];refine vN2 ?_ ?_
      ·refine aD.sp _ [5] ?_;simp only[fL];refine vN1 ?_;refine aD.q9 6 caa ?_;refine gS ?_;refine⟨by first|trivial|decide,(aU 344),_,qU l x Yt Yt,?_⟩;refine aD.sp _ [7] ?_;simp only[fL];refine vN1 ?_;exact aD.ib [6] [] caa gO (by simp(maxSteps:=2000000) (disch:=omega)only[go_sem];exact hK)
      ·refine aD.sp _ [2] ?_;simp only[fL];refine vN1 ?_;refine aD.q9 6 caa ?_;refine gS ?_;refine⟨by first|trivial|decide,(aU 344),_,qU l x Yt Yt,?_⟩;refine aD.sp _ [7] ?_;simp only[fL];refine vN1 ?_;exact aD.ib [6] [] caa gO (by simp(maxSteps:=2000000) (disch:=omega)only[go_sem];exact hK)
    ·refine aD.sp _ [0,5] ?_;simp only[fL];refine vN2 ?_ ?_
     ·refine aD.sp _ [2,5] ?_;simp only[fL];refine vN2 ?_ ?_
      ·refine aD.sp _ [5] ?_;simp only[fL];refine vN1 ?_;refine aD.q9 6 caa ?_;refine gS ?_;refine⟨by first|trivial|decide,(aU 344),_,qU l x Yt Yt,?_⟩;refine aD.sp _ [7] ?_;simp only[fL];refine vN1 ?_;exact aD.ib [6] [] caa gO (by simp(maxSteps:=2000000) (disch:=omega)only[go_sem];exact hK)
      ·refine aD.sp _ [2] ?_;simp only[fL];refine vN1 ?_;refine aD.q9 6 caa ?_;refine gS ?_;refine⟨by first|trivial|decide,(aU 344),_,qU l x Yt Yt,?_⟩;refine aD.sp _ [7] ?_;simp only[fL];refine vN1 ?_;exact aD.ib [6] [] caa gO (by simp(maxSteps:=2000000) (disch:=omega)only[go_sem];exact hK)
     ·refine aD.sp _ [0] ?_;simp only[fL];refine vN1 ?_;refine aD.sp _ [2] ?_;simp only[fL];refine vN1 ?_;refine aD.q9 6 caa ?_;refine gS ?_;refine⟨by first|trivial|decide,(aU 344),_,qU l x Yt Yt,?_⟩;refine aD.sp _ [7] ?_;simp only[fL];refine vN1 ?_;exact aD.ib [6] [] caa gO (by simp(maxSteps:=2000000) (disch:=omega)only[go_sem];exact hK)
   ·refine thenQ.n ?_;refine AW.imp (Imp.frz 6 ?_);refine gS ?_;refine vU1 ?_;rw[ins,hpos]
  ·refine vU1 ?_;exact⟨_,[_],_,Yt,⟨k+1,rfl,rfl,rfl,Yt,bV hlk hR (by rw[stP];grind)⟩,rfl,gO⟩
 ·have ek:k=l.length:=by omega
  have hpos:pos (stP (dk s) x) l=k:=by rw[Gt Yt hR,ek]
  clear h;refine vN1 ?_;refine AW.pQ [(6,.sl true 3 ((l.take k++x::l.drop k).map (ai false)))] [] caa (λK hK=>?_) ?_
  ·change aD lim prog _ 8 #[false,false,false,false,false,false,false,false] _ _;refine aD.mvN 1 caa caa caa ?_;refine gS ?_;refine aD.mvN 3 caa caa caa ?_;refine gS ?_;refine aD.sp _ [0,4] ?_;simp only[fL];refine vN2 ?_ ?_
   ·refine aD.sp _ [2,4] ?_;simp only[fL];refine vN2 ?_ ?_
    ·refine aD.sp _ [4] ?_;simp only[fL];refine vN1 ?_;refine aD.sp _ [5] ?_;simp only[fL];refine vN1 ?_;refine aD.q9 6 caa ?_;refine gS ?_;refine⟨by first|trivial|decide,(aU 344),_,qU l x Yt Yt,?_⟩;refine aD.sp _ [7] ?_;simp only[fL];refine vN1 ?_;exact aD.ib [6] [] caa gO (by simp(maxSteps:=2000000) (disch:=omega)only[go_sem];exact hK)
    ·refine aD.sp _ [2,5] ?_;simp only[fL];refine vN2 ?_ ?_
     ·refine aD.sp _ [5] ?_;simp only[fL];refine vN1 ?_;refine aD.q9 6 caa ?_;refine gS ?_;refine⟨by first|trivial|decide,(aU 344),_,qU l x Yt Yt,?_⟩;refine aD.sp _ [7] ?_;simp only[fL];refine vN1 ?_;exact aD.ib [6] [] caa gO (by simp(maxSteps:=2000000) (disch:=omega)only[go_sem];exact hK)
     ·refine aD.sp _ [2] ?_;simp only[fL];refine vN1 ?_;refine aD.q9 6 caa ?_;refine gS ?_;refine⟨by first|trivial|decide,(aU 344),_,qU l x Yt Yt,?_⟩;refine aD.sp _ [7] ?_;simp only[fL];refine vN1 ?_;exact aD.ib [6] [] caa gO (by simp(maxSteps:=2000000) (disch:=omega)only[go_sem];exact hK)
   ·refine aD.sp _ [0,5] ?_;simp only[fL];refine vN2 ?_ ?_
    ·refine aD.sp _ [2,5] ?_;simp only[fL];refine vN2 ?_ ?_
     ·refine aD.sp _ [5] ?_;simp only[fL];refine vN1 ?_;refine aD.q9 6 caa ?_;refine gS ?_;refine⟨by first|trivial|decide,(aU 344),_,qU l x Yt Yt,?_⟩;refine aD.sp _ [7] ?_;simp only[fL];refine vN1 ?_;exact aD.ib [6] [] caa gO (by simp(maxSteps:=2000000) (disch:=omega)only[go_sem];exact hK)
     ·refine aD.sp _ [2] ?_;simp only[fL];refine vN1 ?_;refine aD.q9 6 caa ?_;refine gS ?_;refine⟨by first|trivial|decide,(aU 344),_,qU l x Yt Yt,?_⟩;refine aD.sp _ [7] ?_;simp only[fL];refine vN1 ?_;exact aD.ib [6] [] caa gO (by simp(maxSteps:=2000000) (disch:=omega)only[go_sem];exact hK)
    ·refine aD.sp _ [0] ?_;simp only[fL];refine vN1 ?_;refine aD.sp _ [2] ?_;simp only[fL];refine vN1 ?_;refine aD.q9 6 caa ?_;refine gS ?_;refine⟨by first|trivial|decide,(aU 344),_,qU l x Yt Yt,?_⟩;refine aD.sp _ [7] ?_;simp only[fL];refine vN1 ?_;exact aD.ib [6] [] caa gO (by simp(maxSteps:=2000000) (disch:=omega)only[go_sem];exact hK)
  ·refine thenQ.n ?_;refine AW.imp (Imp.frz 6 ?_);refine gS ?_;refine vU1 ?_;rw[ins,hpos]
end Go.Proofs
namespace Go.Ab
def Imp.Tr{L:gaa}{n:Nat}{t:faa}{o:Sto}{Q:AS->Prop}{b:Nat}(pre post:List AV){own:Bool}{sz:Nat}{l:List AV}(p q:List AV)(o':Bool)(z:Nat)(hO:O o b=some (pre++([.sl own sz (l++[.agg (p++.v (.slice none 0 0)::q)])]++post)))
  (h:Q ⟨n,t,iC o b (some (pre++([.sl own sz (l++[.agg (p++.sl o' z []::q)])]++post)))⟩):Imp L ⟨n,t,o⟩ Q :=
 Imp.yJ hO λvs=>⟨[.sl own sz (l++[.agg (p++.sl o' z []::q)])],h,λF w f r=>by
  simp only[au]at r ⊢;obtain⟨y,vs',f1,f2,e1,e2,hy,e3,e4⟩:=r
  exact⟨y,vs',f1,f2,e1,e2,Rep.abt (Rep.ZZ Rep.fX) _ _ hy,e3,e4⟩⟩
end Go.Ab
namespace Go.Proofs
open Go.Ab Go.Dt
section
attribute [-instance] fg
attribute [local go_sem] bL aV bu eW eV gC jf jI
def Ht(n:ag)(e:aL):Int:=if n.aj=2/\eG n e.af=false then 4 else 0
def nU(n:ag)(e:aL):ah:=if n.aj=2/\eG n e.af=false then .mk [] [] [] else cO n e
def pW{n:ag}{e:aL}(h:n.aj=2/\eG n e.af=false):Ht n e=4/\nU n e=.mk [] [] []:=⟨if_pos h,if_pos h⟩
def oU{n:ag}{e:aL}(h:¬(n.aj=2/\eG n e.af=false)):Ht n e=0/\nU n e=cO n e:=⟨if_neg h,if_neg h⟩
def Qm{n:ag}{q:Str}{es:List aL}{j:Nat}(h:j<es.length)(hn:(at_ es j).ae=q):kvV n q (es.take (j+1))=kvV n q (es.take j)++[.mk q (cvS (kt n q) (at_ es j).aq) []]/\kvF q (es.take (j+1))=kvF q (es.take j)++[at_ es j]:=by
 have e1:kvF q (es.take (j+1))=kvF q (es.take j)++[at_ es j]:=by
  rw[fo h,kvF,filter_append];have:edP q (at_ es j)=true:=by simpa[edP]using hn
  simp[kvF,this]
 exact⟨by rw[kvV,e1,map_append];rfl,e1⟩
def Qo{n:ag}{q:Str}{es:List aL}{j:Nat}(h:j<es.length)(hn:¬(at_ es j).ae=q):kvV n q (es.take (j+1))=kvV n q (es.take j)/\kvF q (es.take (j+1))=kvF q (es.take j):=by
 have e1:kvF q (es.take (j+1))=kvF q (es.take j):=by
  rw[fo h,kvF,filter_append];have:edP q (at_ es j)=false:=by simpa[edP]using hn
  simp[kvF,this]
 exact⟨by rw[kvV,e1];rfl,e1⟩
def Wl(q:Str)(es:List aL)(j:Nat):(kvF q (es.take j)).length<=j:=by have:=length_filter_le (edP q) (es.take j);rw[length_take]at this;unfold kvF;omega
def Hr{n:ag}{es:List aL}{k:Nat}(hk:k<n.ax.length)(h:(decide ((kvF (at_ n.ax k) es).length=1) && (kvF (at_ n.ax k) es).all (kvG n (at_ n.ax k)))=false):eG n es=false:=j4 hk h
def Wi{n:ag}{q:Str}{es:List aL}{j:Nat}(h:j<es.length)(hn:(at_ es j).ae=q)(hg:kvG n q (at_ es j)=false):(kvF q es).all (kvG n q)=false:=by rw[Bool.eq_false_iff];intro c;have:at_ es j∈kvF q es:=List.mem_filter.2 ⟨at_mem h,by simpa[edP]using hn⟩;rw[List.all_eq_true.1 c _ this]at hg;cases hg
def NT(n:ag)(es:List aL):∀(Ks:List Str) (k:Nat),((Ks.take k).flatMap (λq=>kvV n q es)).length<=k * es.length
 | [],k=>by simp
 | q::Ks,0=>by simp
 | q::Ks,k+1=>by
  rw[take_succ_cons,flatMap_cons,length_append,Nat.add_mul];have h1:=NT n es Ks k
  have h2:(kvV n q es).length<=es.length:=by rw[kvV,length_map];exact length_filter_le _ _
  omega
theorem WB(n:ag)(e:aL):Ctr lim prog 302 [] [.agg (cSc n),.agg (cEd e)] (.tup [.agg [.str (nU n e).ae,.str (nU n e).aq,.sl true 3 ((nU n e).af.map (ai false))],.aa (Ht n e)]) [] ((n.aj=2->∀q∈n.ax,0<=idx (fG q) n.af)/\n.ax.length<=3/\e.aq.length<=1048576/\e.af.length<=1048576/\∀x∈e.af,x.aq.length<=1048576):=by
 refine Ctr.bd func302 ntmps302 λhp=>?_;have gOn:=bM.on;obtain⟨hp1,hp2,hp3,hp5,hp4⟩:=hp;refine AW.Sk 1 rfl (xs:=e.af.map (dN false)) (own:=false) (sz:=4) zH λhf=>?_;simp(disch:=omega)only[go_sem]at hf
 (refine vK1 ?_;intro h h h)
 rename_i b1 b2;refine AW.imp (Imp.qi (b:=b2) 3 [.str n.ae,.str []] [] gO ?_);refine gS ?_;refine AW.c (λh=>?_) λh=>?_
 ·refine vU1 ?_;rw[(oU (n:=n) (e:=e) Yt).1,(oU (n:=n) (e:=e) Yt).2,cO,if_pos h,if_neg Yt];try rfl
 have h4:=h;clear h;refine vK1 ?_;refine AW.c (λh=>?_) λh=>?_
 ·refine vU1 ?_;rw[(oU (n:=n) (e:=e) Yt).1,(oU (n:=n) (e:=e) Yt).2,cO,if_neg h4,if_neg h];try rfl
 have h2:n.aj=2:=by omega
 clear h;refine vK1 ?_;refine AW.lU [39] [2,3,4,6,37,38] (λm xs o=>∃k:Nat,xs=[.aa k]/\o=[(b2,some [.str n.ae,.str [],.sl true 3 (((n.ax.take k).flatMap (λq=>kvV n q e.af)).map (ai false))]),(b1,some [.str [],.str [],.v (.slice none 0 0)])]/\m=n.ax.length - k/\k<=n.ax.length/\∀q∈n.ax.take k,(!(decide ((kvF q e.af).length=1) && (kvF q e.af).all (kvG n q)))=false) n.ax.length [(b2,some [.str n.ae,.str [],.sl true 3 ((([]:List ah)).map (ai false))]),(b1,some [.str [],.str [],.v (.slice none 0 0)])] gO ⟨0,rfl,rfl,rfl,Yt,zH⟩ ?_;rintro m xs o ⟨k,rfl,rfl,rfl,hk,hR⟩;refine vK1 ?_;refine AW.c (λh=>?_) λh=>?_
 ·have hlk:=h
  have hlf:=hp1 h2 _ (at_mem h);clear h;refine vK1 ?_;refine AW.lU [9,46] [2,3,4,6,8,37,38,39,44,45] (λm xs o=>∃j:Nat,xs=[.aa (kvF (at_ n.ax k) (e.af.take j)).length,.aa j]/\o=[(b2,some [.str n.ae,.str [],.sl true 3 (((n.ax.take k).flatMap (λq=>kvV n q e.af)++kvV n (at_ n.ax k) (e.af.take j)).map (ai false))]),(b1,some [.str [],.str [],.v (.slice none 0 0)])]/\m=e.af.length - j/\j<=e.af.length/\(kvF (at_ n.ax k) (e.af.take j)).all (kvG n (at_ n.ax k))=true) e.af.length [(b2,some [.str n.ae,.str [],.sl true 3 (((n.ax.take k).flatMap (λq=>kvV n q e.af)).map (ai false))]),(b1,some [.str [],.str [],.v (.slice none 0 0)])] gO ⟨0,rfl,by simp[kvV,kvF],rfl,Yt,by simp[kvF]⟩ ?_;rintro m xs o ⟨j,rfl,rfl,rfl,hj,hG⟩;have hle:=Wl (at_ n.ax k) e.af j;refine vK1 ?_;refine AW.c (λh=>?_) λh=>?_
  ·have hlj:=h
   have hv:=hp4 _ (at_mem h);clear h
   (refine vK1 ?_;intro h h)
   refine AW.c (λh=>?_) λh=>?_
   ·have hs:=Qo (n:=n) hlj h;refine vU1 ?_;refine Imp.id ?_;refine gS ?_;exact⟨_,[_,_],_,Yt,⟨j+1,by rw[hs.2],rfl,rfl,Yt,by rw[hs.2];exact hG⟩,rfl,by rw[hs.1];simp(maxSteps:=2000000) (disch:=omega)only[go_sem]⟩
   have hnm:(at_ e.af j).ae=(at_ n.ax k):=by grind
   clear h;haveI:=xX n.af (at_ n.ax k)
   (refine vK1 ?_;intro h h)
   refine AW.c (λh=>?_) λh=>?_
   ·refine vX1 ?_;refine AW.imp (Imp.qi (b:=b1) 3 [.str [],.str []] [] gO ?_);refine vU1 ?_
    have hb:n.aj=2/\eG n e.af=false:=⟨h2,Hr hlk (by rw[Wi hlj hnm (by unfold kvG kt;grind),Bool.and_false])⟩
    rw[(pW hb).1,(pW hb).2];try rfl
   have hs:=Qm (n:=n) hlj hnm
   have hz:=h
   have hLl:((n.ax.take k).flatMap (λq=>kvV n q e.af)++kvV n (at_ n.ax k) (e.af.take j)).length<=4194304:=by
    have h1:=NT n e.af n.ax k
    have h2:(kvV n (at_ n.ax k) (e.af.take j)).length<=e.af.length:=by rw[kvV,length_map];omega
    have h3:k * e.af.length<=3 * e.af.length:=Nat.mul_le_mul_right _ Yt;rw[length_append];omega
   obtain⟨L,hL⟩:∃L:List ah,L=(n.ax.take k).flatMap (λq=>kvV n q e.af)++kvV n (at_ n.ax k) (e.af.take j):=⟨_,rfl⟩
   simp only[<- hL]at hLl ⊢;simp only[kt]at hs;clear h;refine AW.imp (Imp.mQ (b0:=b2) (k:=2) (sz:=3) (cells0:=[.str n.ae,.str [],.sl true 3 (L.map (ai false))]) (l:=L.map (ai false)) gO rfl (gr _) (λg hg'=>?_) (λhnil=>?_))
   ·have hb1:=hg'.nf;simp only[go_sem]at hb1;simp only[set_cons_zero,set_cons_succ,length_map]
    (refine vU2 ?_ ?_<;>with_reducible repeat intro h)
    ·rw[dD (sz:=3) (gr _),length_map]
    rename Nat=>g2
    refine Imp.bind (Q:=λs'=>s'=_) (Imp.kW (b:=g2) 3 ((L.map (ai false)).flatMap AV.cells++[.str (at_ n.ax k),.str (cvS (at_ n.af (idx (fG (at_ n.ax k)) n.af).toNat).fType (at_ e.af j).aq)]) [] (by simp(maxSteps:=2000000) (disch:=omega)only[go_sem];try simp) rfl) ?_;rintro _ rfl;refine gS ?_;refine Imp.CE (b0:=b2) (k:=2) (b:=g2) (sz:=3) (cells0:=[.str n.ae,.str [],.arr g2 0 (L.length+1) 3]) (l:=L.map (ai false)) (.agg [.str (at_ n.ax k),.str (cvS (at_ n.af (idx (fG (at_ n.ax k)) n.af).toNat).fType (at_ e.af j).aq),.sl false 3 []]) gO (by rw[length_map];rfl) (by simp(maxSteps:=2000000) (disch:=omega)only[go_sem];try simp) Yt (gr _) rfl ?_;simp only[set_cons_zero,set_cons_succ];exact⟨trivial,_,[_,_],_,Yt,⟨j+1,by rw[hs.2,length_append];rfl,rfl,rfl,Yt,by rw[hs.2,all_append,hG];unfold kvG kt;grind⟩,rfl,by rw[hs.1,<- append_assoc,<- hL,map_append,map_cons,map_nil,bW];refine gS ?_;try rfl⟩
   ·have hL0:L=[]:=List.map_eq_nil_iff.1 hnil;subst hL0;simp only[set_cons_zero,set_cons_succ];refine vU1 ?_;refine Imp.Tr (b:=b2) (l:=[]) (own:=true) (sz:=3) [.str n.ae,.str []] [] [.str (at_ n.ax k),.str (cvS (at_ n.af (idx (fG (at_ n.ax k)) n.af).toNat).fType (at_ e.af j).aq)] [] false 3 gO ?_;refine gS ?_;exact⟨_,[_,_],_,Yt,⟨j+1,by rw[hs.2,length_append];rfl,rfl,rfl,Yt,by rw[hs.2,all_append,hG];unfold kvG kt;grind⟩,rfl,by rw[hs.1,<- append_assoc,<- hL,map_append,map_cons,map_nil,bW];refine gS ?_;try rfl⟩
  ·have ej:j=e.af.length:=by omega
   subst ej;clear h;rw[take_length]at *;refine vK1 ?_;refine AW.c (λh=>?_) λh=>?_
   ·refine vX1 ?_;refine AW.imp (Imp.qi (b:=b1) 3 [.str [],.str []] [] gO ?_);refine vU1 ?_
    have hb:n.aj=2/\eG n e.af=false:=⟨h2,Hr hlk (by rw[show decide ((kvF (at_ n.ax k) e.af).length=1)=false by simp;omega,Bool.false_and])⟩
    rw[(pW hb).1,(pW hb).2];try rfl
   refine vU1 ?_;refine Imp.id ?_;refine gS ?_;exact⟨_,[_],_,Yt,⟨k+1,rfl,rfl,rfl,Yt,bV hlk hR (by rw[hG,show decide ((kvF (at_ n.ax k) e.af).length=1)=true by simp;omega];rfl)⟩,rfl,by rw[show n.ax.take (k+1)=n.ax.take k++[(at_ n.ax k)]from fo hlk,flatMap_append,flatMap_cons,flatMap_nil,append_nil];simp(maxSteps:=2000000) (disch:=omega)only[go_sem]⟩
 ·refine vU1 ?_;have hk0:eG n e.af=true:=fR baa hR
  have hb:¬(n.aj=2/\eG n e.af=false):=by rw[hk0];simp
  rw[(oU hb).1,(oU hb).2,cO,if_neg h4,if_pos h2,take_of_length_le Yt];try rfl
end
section
attribute [-instance] fg
attribute [local go_sem] bL aV bu eW eV gC jf jI
instance(s:List ag)(l:List ah)(nm v:Str)(ks:List ah):Ctr lim prog 327 [] [.ab 19 ak s,.ab 3 ai (l),.agg [.str nm,.str v,.ab 3 ai (ks)]] (.ab 3 ai (ins s l (.mk nm v ks))) [] (0<=idx (nmP nm) (dk s)/\cl s<=1048576/\l.length<=4194304):=Kl s l (.mk nm v ks)
instance(s:List ag)(l:List ah)(nm v:Str):Ctr lim prog 327 [] [.ab 19 ak s,.ab 3 ai (l),.agg [.str nm,.str v,.sl false 3 []]] (.ab 3 ai (ins s l (.mk nm v []))) [] (0<=idx (nmP nm) (dk s)/\cl s<=1048576/\l.length<=4194304):=Kl s l (.mk nm v [])
def Q3{p:ah->Bool}{l:List ah}{k:Nat}(h:k<l.length):(l.take (k+1)).filter p=(l.take k).filter p++(if p (at_ l k)=true then [at_ l k] else []):=by rw[fo h,filter_append,filter_cons];rfl
def Xc(p:ah->Bool)(l:List ah)(k:Nat):((l.take k).filter p).length<=k:=by have:=length_filter_le p (l.take k);rw[length_take]at this;omega
def Hm(l:List ah):l.length<=cnt l:=by unfold cnt;omega
theorem Oz(N:Nat)(ih:∀(s:List ag) (l:List ah) (es:List aL),Ctr lim prog 213 [] [.ab 19 ak s,.ab 3 ai (l),.ab 4 dN (es)] (.tup [.ab 3 ai ((mdE es s l).1),.aa (mdE es s l).2]) [] (SizeOf.sizeOf es<N/\gdS s/\wtS s<=1048576/\cnt l+fO es<=4194304/\wtE es<=1048576))(s:List ag)(l:List ah)(n:ag)(e:aL):Ctr lim prog 305 [] [.ab 19 ak s,.ab 3 ai (l),.agg (cSc n),.agg (cEd e)] (.tup [.ab 3 ai ((crt (mdE e.af) s l n e).1),.aa (crt (mdE e.af) s l n e).2]) [] (SizeOf.sizeOf e.af<N/\gdS n.af/\n.ae=(nd s n.ae).ae/\0<=idx (nmP n.ae) (dk s)/\wtS s<=1048576/\wtS n.af<=1048576/\l.length<=4194304/\fO e.af<=4194304/\e.aq.length<=1048576/\wtE e.af<=1048576):=by
 haveI ihN:∀(s:List ag) (es:List aL),Ctr lim prog 213 [] [.ab 19 ak s,.v (.slice none 0 0),.ab 4 dN (es)] (.tup [.ab 3 ai ((mdE es s []).1),.aa (mdE es s []).2]) [] (SizeOf.sizeOf es<N/\gdS s/\wtS s<=1048576/\cnt []+fO es<=4194304/\wtE es<=1048576):=λs es=>(ih s [] es).view λF w vs fp r=>au.at (l:=[.ab 19 ak s]) (x:=.v (.slice none 0 0)) (x':=.sl false 3 []) (l2:=[.ab 4 dN (es)]) Rep.fX _ _ r;refine Ctr.bd func305 ntmps305 λhp=>?_;have gOn:=bM.on;obtain⟨hN,hg,hn0,hi,hs,hs2,hl,hce,hv,hwe⟩:=hp;have hc:=iq s
 have hol:=GA s n.ae
 have hc0:cnt ([]:List ah)=0:=nP;refine AW.f1 1 λhf=>?_;refine vK1 ?_;refine AW.aw [12,28] [0,1,6,7,10,26,27] (λm xs o=>∃k:Nat,xs=[.sl true 3 (((l.take k).filter (λy:ah=>!cont (jG s n.ae) y.ae)).map (ai false)),.aa k]/\o=[]/\m=l.length - k/\k<=l.length) l.length [] trivial ⟨0,?_,rfl,rfl,?_⟩ ?_
 ·rfl
 ·omega
 rintro m xs o ⟨k,rfl,rfl,rfl,hk⟩;have hfl:=Xc (λy:ah=>!cont (jG s n.ae) y.ae) l k;refine vK1 ?_;refine AW.c (λh=>?_) λh=>?_
 ·have hlk:=h
  have hst:=Q3 (p:=λy:ah=>!cont (jG s n.ae) y.ae) h;clear h
  (refine vK1 ?_;intro h)
  refine AW.c (λh=>?_) λh=>?_
  ·refine vU1 ?_;exact⟨_,[_,_],_,Yt,⟨k+1,by rw[hst,if_pos (by rw[h];rfl),map_append,map_cons,map_nil,bW],rfl,rfl,Yt⟩,rfl,gO⟩
  ·refine vU1 ?_;exact⟨_,[_,_],_,Yt,⟨k+1,by rw[hst,if_neg (by rw[h];simp),append_nil],rfl,rfl,Yt⟩,rfl,gO⟩
 have ew:(l.take k).filter (λy:ah=>!cont (jG s n.ae) y.ae)=wo s n.ae l:=by rw[take_of_length_le Yt];rfl
 rw[ew]at hfl ⊢;clear h;refine AW.imp (Imp.frz 12 ?_);refine gS ?_
 (refine vK1 ?_;intro h)
 rename Nat=>b2
 refine AW.imp (Imp.kW (b:=b2) 3 [.str n.ae,.str []] [] gO ?_);refine gS ?_;refine AW.c (λh=>?_) λh=>?_
 ·refine vU1 ?_;rw[crt,if_pos h];try rfl
 have h34:=h;clear h;refine vK1 ?_;refine AW.c (λh=>?_) λh=>?_
 ·refine vX1 ?_;refine AW.imp (Imp.iM 8 (x:=.v (.slice none 0 0)) (x':=.sl false 3 []) gO (λ_ _ _ _ r=>Rep.fX _ _ r) ?_);refine vU1 ?_;rw[crt,if_neg Yt,if_pos h];try rfl
 have afU:=h;clear h
 have hz:(mdE e.af n.af []).1=[]↔((mdE e.af n.af []).1.length:Int)=0:=by
  rw[<- length_eq_zero_iff];omega
 refine vK1 ?_;refine AW.c (λh=>?_) λh=>?_
 ·refine vU1 ?_;rw[crt,if_neg Yt,if_neg Yt,if_pos (by grind)];try rfl
 ·refine vU1 ?_;rw[crt,if_neg Yt,if_neg Yt,if_neg (by grind)];try rfl
