/- Part of a proof. -/
import Derived.Test.YtbiikafnjialjaaGreatDoorQ28
import Derived.Test.YtbiikafnjialjaaGreatDoorQ29
set_option linter.all false
set_option maxRecDepth 20000
set_option maxHeartbeats 4000000
open Go.Proofs.Tryz
open List
namespace Go.Proofs
open Go.Ab Go.Dt
attribute [-instance] fg
attribute [local go_sem] bL aV bu eW eV gC jf jI
def oQ:∀l:List ah,AV.iT ((l.map (ai false)).flatMap AV.cells)=[]
 | []=>rfl
 | x::l=>by
  have:=oQ l;rw[map_cons,flatMap_cons,bW];simp only[AV.cells,cons_append,nil_append,AV.iT,AV.keys,this]
attribute [local go_sem] oQ
def ve(l:List ah):((l.map (ai false)).flatMap AV.cells).length=l.length * 3:=by rw[dD (sz:=3) (gr _),length_map]
def wS{l:List ah}{i:Nat}(hi:i<l.length):(l.map (ai false)).flatMap AV.cells=((l.take i).map (ai false)).flatMap AV.cells++((cNo (at_ l i))++((l.drop (i+1)).map (ai false)).flatMap AV.cells):=by
 conv=>lhs;rw[pM hi,map_append,map_cons,flatMap_append,flatMap_cons,bW]
 rfl
def xq{l:List ah}{i:Nat}{y:ah}(hi:i<l.length):((l.set i y).map (ai false)).flatMap AV.cells=((l.take i).map (ai false)).flatMap AV.cells++((cNo y)++((l.drop (i+1)).map (ai false)).flatMap AV.cells):=by rw[uF hi,map_append,map_cons,flatMap_append,flatMap_cons,bW];rfl
def PK{l:List ah}{i:Nat}{y:ah}:(l.set i y).take i=l.take i:=by rw[take_set_of_le (Nat.le_refl _)]
def Lg{l:List ah}{i:Nat}{y:ah}:(l.set i y).drop (i+1)=l.drop (i+1):=by rw[drop_set_of_lt (Nat.lt_succ_self _)]
instance Xo(b k:Nat)(l:List ah):Ctr lim prog 304 [(b,some ((l.map (ai false)).flatMap AV.cells))] [.arr b 0 l.length 3,.aa (k:Nat),.aa ((k+1:Nat):Int)] (.sl true 3 ((l.take k++l.drop (k+1)).map (ai false))) [none] (k<l.length):=by have h:=FO.ctr (L:=lim) (b:=b) (i:=k) (j:=k+1) (aU 304) O2 daa (gr l) (Ar l);rw[<- map_take,<- map_drop,<- map_append,length_map]at h;exact⟨h.en,λhp=>h.out ⟨Nat.lt_succ_self _,hp⟩⟩
theorem QC(N:Nat)(ih:∀(s:List ag) (l:List ah) (es:List aL),Ctr lim prog 213 [] [.ab 19 ak s,.ab 3 ai (l),.ab 4 dN (es)] (.tup [.ab 3 ai ((mdE es s l).1),.aa (mdE es s l).2]) [] (SizeOf.sizeOf es<N/\gdS s/\wtS s<=1048576/\cnt l+fO es<=4194304/\wtE es<=1048576))(l:List ah)(i:Nat)(n:ag)(e:aL):Ctr lim prog 303 [] [.ab 3 ai (l),.aa i,.agg (cSc n),.agg (cEd e)] (.tup [.ab 3 ai ((mrg (mdE e.af) l i n e).1),.aa (mrg (mdE e.af) l i n e).2]) [] (SizeOf.sizeOf e.af<N/\gdS n.af/\wtS n.af<=1048576/\i<l.length/\l.length<=4194304/\cnt (at_ l i).af+fO e.af<=4194304/\e.aq.length<=1048576/\wtE e.af<=1048576):=by
 refine Ctr.bd func303 ntmps303 λhp=>?_;have gOn:=bM.on;obtain⟨hN,hg,hs,hi,hl,hc,hv,hw⟩:=hp;have hpl:(((l.take i).map (ai false)).flatMap AV.cells).length=i * 3:=by rw[ve,length_take];congr 1;omega
 have hql:=ve (l.drop (i+1));refine vK1 ?_;refine AW.imp (Imp.pS 10 (sz:=3) (l:=l.map (ai false)) gO (gr _) (λb hb=>?_) (λhnil=>?_))
 rotate_left
 ·rw[map_eq_nil_iff]at hnil;rw[hnil]at hi;exact absurd hi (Nat.not_lt_zero _)
 have hb1:=hb.nf;simp only[go_sem]at hb1;rw[length_map,wS hi];generalize hpre:((l.take i).map (ai false)).flatMap AV.cells=pre at *;generalize hpost:((l.drop (i+1)).map (ai false)).flatMap AV.cells=post at *;refine gS ?_;have hset:∀y:ah,((l.set i y).map (ai false)).flatMap AV.cells=pre++.str y.ae::.str y.aq::.ab 3 ai y.af::post:=λy=>by rw[xq hi,hpre,hpost];rfl
 have hat:(l.map (ai false)).flatMap AV.cells=pre++.str (at_ l i).ae::.str (at_ l i).aq::.sl false 3 ((at_ l i).af.map (ai false))::post:=by rw[wS hi,hpre,hpost];rfl
 have hlen:∀a b c:AV,(pre++a::b::c::post).length=l.length * 3:=λa b c=>by
  simp only[length_append,length_cons,hpl,hql,length_drop];omega
 have hkp:AV.iT pre=[]:=by rw[<- hpre];exact oQ _
 have hkq:AV.iT post=[]:=by rw[<- hpost];exact oQ _
 refine AW.c (λh=>?_) λh=>?_
 ·refine vX1 ?_;refine AW.imp (Imp.fold 8 (b:=b) (len:=l.length) (sz:=3) (cells:=(pre++.str (at_ l i).ae::.str (cvS n.fType e.aq)::.sl false 3 ((at_ l i).af.map (ai false))::post)) (l:=(l.set i (.mk (at_ l i).ae (cvS n.fType e.aq) (at_ l i).af)).map (ai false)) gO gO zH (by rw[take_of_length_le (by rw[hlen];exact Nat.le_refl _)];exact hset _) (gr _) ?_);refine AW.imp (Imp.frz 8 ?_);refine gS ?_;refine vU1 ?_;rw[mrg,if_pos h];try rfl
 have h3:=h;clear h;refine vK1 ?_;refine AW.c (λh=>?_) λh=>?_
 ·have h12:n.aj=1\/n.aj=2:=.inl Yt
  have hk1:=h;clear h;refine vK1 ?_;refine AW.c (λh=>?_) λh=>?_
  rotate_left
  ·exact absurd hk1 h
  clear h;refine vK1 ?_;refine AW.c (λh=>?_) λh=>?_
  ·refine vX1 ?_;refine AW.imp (Imp.iM 8 (x:=.v (.slice none 0 0)) (x':=.sl false 3 []) gO (λ_ _ _ _ r=>Rep.fX _ _ r) ?_);refine vU1 ?_;rw[mrg,if_neg h3,if_pos h12,if_pos h];try rfl
  have hc0:=h;clear h
  have hz:(mdE e.af n.af (at_ l i).af).1=[]↔(((mdE e.af n.af (at_ l i).af).1).length:Int)=0:=by
   rw[<- length_eq_zero_iff];omega
  refine vK1 ?_;refine AW.c (λh=>?_) λh=>?_
  ·haveI hd:Ctr lim prog 304 [(b,some (((l.set i (.mk (at_ l i).ae (at_ l i).aq (mdE e.af n.af (at_ l i).af).1)).map (ai false)).flatMap AV.cells))] [.arr b 0 l.length 3,.aa (i:Nat),.aa ((i+1:Nat):Int)] (.sl true 3 ((l.eraseIdx i).map (ai false))) [none] True:=by
    have:=Xo b i (l.set i (.mk (at_ l i).ae (at_ l i).aq (mdE e.af n.af (at_ l i).af).1));rw[length_set]at this;rw[show (l.set i (.mk (at_ l i).ae (at_ l i).aq (mdE e.af n.af (at_ l i).af).1)).take i++(l.set i (.mk (at_ l i).ae (at_ l i).aq (mdE e.af n.af (at_ l i).af).1)).drop (i+1)=l.eraseIdx i by rw[vf,PK,Lg]]at this;exact⟨this.en,λ_=>this.out hi⟩
   have hs2:(pre++.str (at_ l i).ae::.str (at_ l i).aq::.sl false 3 ((mdE e.af n.af (at_ l i).af).1.map (ai false))::post)=(((l.set i (.mk (at_ l i).ae (at_ l i).aq (mdE e.af n.af (at_ l i).af).1)).map (ai false)).flatMap AV.cells):=(hset (.mk (at_ l i).ae (at_ l i).aq (mdE e.af n.af (at_ l i).af).1)).symm;rw[hs2];clear hs2
   (refine Z ?_;refine λ(K:_->_->Prop) hK=>?_;refine gS ?_)
   (repeat' first|(with_reducible first|refine Y ?_|(refine hK _ _ ?_;clear hK K)|refine And.intro ?_ ?_|exact Ct|intro(K:_->_->Prop) hK|(refine gI λhg=>?_;try simp only[hC,reduceCtorEq]at hg;try simp only[hg]))|((with_reducible refine E ?_;repeat refine Y ?_);refine eF rfl ?_)|simp(disch:=omega)only[go_sem,oQ]|(with_reducible intro hg;try simp only[hC,reduceCtorEq]at hg)|exact Cl|fail)
   refine vX1 ?_;refine AW.imp (Imp.frz 8 ?_);refine gS ?_;refine vU1 ?_;rw[mrg,if_neg h3,if_pos h12,if_neg (λc=>c hc0),if_pos (by grind)];try rfl
  ·refine vX1 ?_;refine AW.imp (Imp.fold 8 (b:=b) (len:=l.length) (sz:=3) (cells:=(pre++.str (at_ l i).ae::.str (at_ l i).aq::.sl false 3 ((mdE e.af n.af (at_ l i).af).1.map (ai false))::post)) (l:=(l.set i (.mk (at_ l i).ae (at_ l i).aq (mdE e.af n.af (at_ l i).af).1)).map (ai false)) gO gO zH (by rw[take_of_length_le (by rw[hlen];exact Nat.le_refl _)];exact hset _) (gr _) ?_);refine AW.imp (Imp.frz 8 ?_);refine gS ?_;refine vU1 ?_;rw[mrg,if_neg h3,if_pos h12,if_neg (λc=>c hc0),if_neg (by grind)];try rfl
 ·have h1:=h;clear h;refine vK1 ?_;refine AW.c (λh=>?_) λh=>?_
  ·have h12:n.aj=1\/n.aj=2:=.inr Yt
   have hk1:=h;clear h;refine vK1 ?_;refine AW.c (λh=>?_) λh=>?_
   ·refine vX1 ?_;refine AW.imp (Imp.iM 8 (x:=.v (.slice none 0 0)) (x':=.sl false 3 []) gO (λ_ _ _ _ r=>Rep.fX _ _ r) ?_);refine vU1 ?_;rw[mrg,if_neg h3,if_pos h12,if_pos h];try rfl
   have hc0:=h;clear h
   have hz:(mdE e.af n.af (at_ l i).af).1=[]↔(((mdE e.af n.af (at_ l i).af).1).length:Int)=0:=by
    rw[<- length_eq_zero_iff];omega
   refine vK1 ?_;refine AW.c (λh=>?_) λh=>?_
   ·exfalso;omega
   ·refine vX1 ?_;refine AW.imp (Imp.fold 8 (b:=b) (len:=l.length) (sz:=3) (cells:=(pre++.str (at_ l i).ae::.str (at_ l i).aq::.sl false 3 ((mdE e.af n.af (at_ l i).af).1.map (ai false))::post)) (l:=(l.set i (.mk (at_ l i).ae (at_ l i).aq (mdE e.af n.af (at_ l i).af).1)).map (ai false)) gO gO zH (by rw[take_of_length_le (by rw[hlen];exact Nat.le_refl _)];exact hset _) (gr _) ?_);refine AW.imp (Imp.frz 8 ?_);refine gS ?_;refine vU1 ?_;rw[mrg,if_neg h3,if_pos h12,if_neg (λc=>c hc0),if_neg (by grind)];try rfl
  ·refine vX1 ?_;refine AW.imp (Imp.fold 8 (b:=b) (len:=l.length) (sz:=3) (cells:=(pre++.str (at_ l i).ae::.str (at_ l i).aq::.sl false 3 ((at_ l i).af.map (ai false))::post)) (l:=l.map (ai false)) gO gO zH (by rw[take_of_length_le (by rw[hlen];exact Nat.le_refl _)];exact hat) (gr _) ?_);refine AW.imp (Imp.frz 8 ?_);refine gS ?_;refine vU1 ?_;rw[mrg,if_neg h3,if_neg Yt];try rfl
end Go.Proofs
namespace Go.Ab
section
variable {L : Nat -> Nat} {P : Program} {ops : Array Oper} {Q : Exit -> Act -> World -> Prop}
def Lr(R:Act->World->Prop):Exit->Act->World->Prop:=λe a w=>e=.normal/\R a w
def U5{R:Act->World->Prop}{o:Oper}{a:Act}{w:World}{K K':Act->World->Prop}(h:∀a w,K a w->K' a w)(hh:o.wp P a w K (Lr R)):o.wp P a w K' Q:=by
 have hl:¬LetsOut (Lr R):=by rintro⟨_,_,h,_⟩;cases h
 unfold Oper.wp at *;generalize (execOp a.eval o).run P w=r at *
 cases r with
 | ok n w' =>
  cases n<;>simp only[Oper.upon]at hh ⊢ <;>
   first
    | exact h _ _ hh
    | exact Calls.mono hh (λe w'' he=>by cases e<;>first|exact h _ _ he|exact absurd he hl|exact absurd he.1 zH)
    | exact Rows.mono hh (λ_ _ he=>h _ _ he)
 | halt x w'=>cases x<;>simp only[Oper.upon]at hh ⊢<;>first|exact hh|exact absurd hh hl|exact absurd hh.1 zH|exact hh.elim
def sW(l2:List Nat):∀(l1:List Nat) (a:Act) (w:World),wpOps P ops (Lr (wpOps P ops Q l2)) l1 a w->wpOps P ops Q (l1++l2) a w
 | [],a,w,h=>h.2
 | i::l1,a,w,h=>by
  have hl:¬LetsOut (Lr (wpOps P ops Q l2)):=by rintro⟨_,_,h,_⟩;cases h
  simp only[cons_append,wpOps]at h ⊢;split at h
  ·exact sW l2 l1 a w h
  ·split at h
   ·rename_i hw;rw[if_pos hw];rcases h with h|⟨_,h⟩
    ·exact .inl (U5 (sW l2 l1) h)
    ·exact absurd h hl
   ·rename_i hw;rw[if_neg hw];exact sW l2 l1 _ w h
def iY.app{s:AS}{K:AS->Prop}(l1 l2:List Nat)(h:iY L P ops l1 s (λs'=>iY L P ops l2 s' K)):iY L P ops (l1++l2) s K:=by intro B F0 w0 a w Q hd hQ;exact sW l2 l1 a w (h B F0 w0 a w _ hd λs' a' w' h1 h2=>⟨rfl,h1 B F0 w0 a' w' Q h2 hQ⟩)
def AW.abH{n:Nat}{t:faa}{o:Sto}{Q:Exit->AS->Prop}{id:Nat}(l1 l2:List Nat)(hl:List.range ops.size=l1++l2)
  (h:∀K:faa->Sto->Prop,(∀t o,Imp L ⟨n,t,o⟩ (λs'=>iY L P ops l2 s' (λs'=>Q .normal s'))->K t o)->Wn L P ops n K l1 [] t o):AW L P (.region id ops false) ⟨n,t,o⟩ Q :=
 AW.region (by
  rw[hl]
  exact iY.app l1 l2 (Wn.qd (K:=λt o=>Imp L ⟨n,t,o⟩ (λs'=>iY L P ops l2 s' (λs'=>Q .normal s'))) (λ_ _ h=>iY.imp h) _ _ _ (h _ (λ_ _ h=>h))))
def iY.wn{n:Nat}{t:faa}{o:Sto}{K':AS->Prop}{l:List Nat}(h:∀K:faa->Sto->Prop,(∀t o,K' ⟨n,t,o⟩->K t o)->Wn L P ops n K l [] t o):iY L P ops l ⟨n,t,o⟩ K' :=
 Wn.qd (K:=λt o=>K' ⟨n,t,o⟩) (λ_ _ h=>h) _ _ _ (h _ (λ_ _ h=>h))
end
end Go.Ab
namespace Go.Proofs
open Go.Ab Go.Dt
section
attribute [-instance] fg
attribute [local go_sem] bL aV bu eW eV gC jf jI
theorem QD(s:List ag)(nm:Str):Ctr lim prog 214 [] [.ab 19 ak s,.sl false 1 [.str nm]] (.tup [.agg cZe,.ac false]) [] (idx (nmP nm) (dk s)<0/\cl s<=1048576):=by
 refine Ctr.bd func214 ntmps214 λhp=>?_;have gOn:=bM.on;obtain⟨hi,hc⟩:=hp;have hj:=gu (p:=nmP nm) (dk s);refine AW.f1 0 λhf=>?_
 (refine bU1 ?_;intro h h h)
 rename_i a b;refine AW.aw [0,14] [1,4,5,6,12,13] (λm xs o=>xs=[.ab 19 ak s,.aa 0]/\o=[(b,some cZe),(a,some cZe)]/\m=1) 1 [(b,some cZe),(a,some cZe)] gO ⟨rfl,rfl,rfl⟩ ?_;rintro m xs o ⟨rfl,rfl,rfl⟩
 (refine vU1 ?_;intro h h h)
 refine⟨.str nm,λ_=>⟨daa,rfl,rfl⟩,?_⟩;refine vU1 ?_;refine h _ _ ?_
 all_goals exact uU
def KyP(n:ag)(e:aL):Prop:=(n.aj=2->∀q∈n.ax,0<=idx (fG q) n.af)/\n.ax.length<=3/\e.aq.length<=1048576/\e.af.length<=1048576/\∀x∈e.af,x.aq.length<=1048576
instance(n:ag)(e:aL):Ctr lim prog 302 [] [.agg (cSc n),.agg (cEd e)] (.tup [.agg [.str (nU n e).ae,.str (nU n e).aq,.sl true 3 ((nU n e).af.map (ai false))],.aa (Ht n e)]) [] (KyP n e):=WB n e
attribute [local go_sem] oQ
theorem Wy(N:Nat)(ih:∀(s:List ag) (l:List ah) (es:List aL),Ctr lim prog 213 [] [.ab 19 ak s,.ab 3 ai (l),.ab 4 dN (es)] (.tup [.ab 3 ai ((mdE es s l).1),.aa (mdE es s l).2]) [] (SizeOf.sizeOf es<N/\gdS s/\wtS s<=1048576/\cnt l+fO es<=4194304/\wtE es<=1048576))(s:List ag)(l:List ah)(e:aL):Ctr lim prog 269 [] [.ab 19 ak s,.ab 3 ai (l),.agg (cEd e)] (.tup [.ab 3 ai ((one (mdE e.af) s l e).1),.aa (one (mdE e.af) s l e).2]) [] (SizeOf.sizeOf e.af<N/\gdS s/\wtS s<=1048576/\cnt l+(1+fO e.af)<=4194304/\(e.ae.length<=1048576/\e.aq.length<=1048576/\wtE e.af<=1048576)):=by
 haveI mg:=QC N ih
 haveI cr:=Oz N ih;refine Ctr.bd func269 ntmps269 λhp=>?_;have gOn:=bM.on;obtain⟨hN,hg,hs,hc,hw0⟩:=hp;have hcs:=iq s
 have hll:=Hm l
 have hel:=Hn e.af
 have qW:=wJ e.af
 have hex:∀x∈e.af,x.aq.length<=1048576:=λx hx=>by have:=yF hx;omega
 haveI fz:∀(sz:Nat) (x:AV) (l:List AV) (C:List Nat) (K:AV->List Nat->Prop),Rl (bsK sz (x::l) C (K:=⟨K⟩)) (K (.sl false sz (AV.cH (x::l))) C):=λ_ _ _ _ _=>⟨.inr⟩
 by_cases h0:idx (nmP e.ae) (dk s)<0
 ·haveI:=QD s e.ae
  haveI:=Oq e
  (refine vK1 ?_;intro h)
  refine AW.c (λh=>?_) λh=>?_
  ·refine vX1 ?_;refine AW.imp (Imp.iM 6 (x:=.v (.slice none 0 0)) (x':=.sl false 3 []) gO (λ_ _ _ _ r=>Rep.fX _ _ r) ?_);refine vU1 ?_;rw[Nu h0];try rfl
  ·exfalso;omega
 have hnm:((at_ (dk s) (idx (nmP e.ae) (dk s)).toNat)).ae=e.ae/\(at_ (dk s) (idx (nmP e.ae) (dk s)).toNat)∈dk s:=il Yt
 have hgk:=(pG hg hnm.2).1
 have hwk:=ke _ _ hnm.2
 have hk3:=Kt hg hnm.2
 have hkq:((at_ (dk s) (idx (nmP e.ae) (dk s)).toNat)).aj=2->∀q∈((at_ (dk s) (idx (nmP e.ae) (dk s)).toNat)).ax,0<=idx (fG q) ((at_ (dk s) (idx (nmP e.ae) (dk s)).toNat)).af:=λ_ q hq=>(DS hg hnm.2 q hq).2.2
 have hni:0<=idx (nmP ((at_ (dk s) (idx (nmP e.ae) (dk s)).toNat)).ae) (dk s):=by rw[hnm.1];omega
 have hnn:((at_ (dk s) (idx (nmP e.ae) (dk s)).toNat)).ae=(nd s ((at_ (dk s) (idx (nmP e.ae) (dk s)).toNat)).ae).ae:=by
  have:=(il hni).1;exact this.symm
 have hkp:KyP (at_ (dk s) (idx (nmP e.ae) (dk s)).toNat) e:=⟨hkq,hk3,Yt,Yt,hex⟩
 (refine vK1 ?_;intro h)
 refine AW.c (λh=>?_) λh=>?_
 ·refine vX1 ?_;refine AW.imp (Imp.iM 6 (x:=.v (.slice none 0 0)) (x':=.sl false 3 []) gO (λ_ _ _ _ r=>Rep.fX _ _ r) ?_);refine vU1 ?_;rw[Ns h0 h];try rfl
 have hw:wrg (nd s e.ae) e=0:=h
 have hop:=Rt hw;clear h;clear fz
 (refine vK1 ?_;intro h h)
 refine AW.c (λh=>?_) λh=>?_
 ·have hk:(nd s e.ae).aj=2/\eG (nd s e.ae) e.af=false:=Classical.byContradiction λc=>h (oU c).1;rw[(pW hk).1];refine vX1 ?_;refine AW.imp (Imp.iM 6 (x:=.v (.slice none 0 0)) (x':=.sl false 3 []) gO (λ_ _ _ _ r=>Rep.fX _ _ r) ?_);refine vU1 ?_;rw[Nx h0 hw hk];try rfl
 have hk:¬((nd s e.ae).aj=2/\eG (nd s e.ae) e.af=false):=λc=>by
  have:=(pW c).1
  have h':Ht (nd s e.ae) e=0:=h;omega
 clear h;have hkr:nU (at_ (dk s) (idx (nmP e.ae) (dk s)).toNat) e=cO (at_ (dk s) (idx (nmP e.ae) (dk s)).toNat) e:=(oU hk).2;rw[hkr];refine vK1 ?_;by_cases hfn:fnd (at_ (dk s) (idx (nmP e.ae) (dk s)).toNat) l (cO (at_ (dk s) (idx (nmP e.ae) (dk s)).toNat) e)<0
 ·refine AW.c (λh=>?_) λh=>?_
  ·exfalso;omega
  clear h;refine vK1 ?_;refine AW.c (λh=>?_) λh=>?_
  ·have ho:e.fOp=4:=by omega
   refine vX1 ?_;refine AW.imp (Imp.iM 6 (x:=.v (.slice none 0 0)) (x':=.sl false 3 []) gO (λ_ _ _ _ r=>Rep.fX _ _ r) ?_);refine vU1 ?_;rw[Nw h0 hw hk hfn ho];try rfl
  have ho4:¬e.fOp=4:=by omega
  clear h;refine vK1 ?_;refine AW.c (λh=>?_) λh=>?_
  ·have ho:e.fOp=5:=by omega
   refine vU1 ?_;rw[Nv h0 hw hk hfn ho];try rfl
  have ho5:¬e.fOp=5:=by omega
  clear h;refine vK1 ?_;refine AW.c (λh=>?_) λh=>?_
  ·exfalso;omega
  clear h;refine vK1 ?_;refine AW.c (λh=>?_) λh=>?_
  ·exfalso;omega
  clear h;refine vK1 ?_;refine AW.c (λh=>?_) λh=>?_
  ·exfalso;omega
  clear h;refine vU1 ?_;rw[RR h0 hw hk hfn ho4 ho5];try rfl
 obtain⟨k,hf⟩:∃k:Nat,fnd (at_ (dk s) (idx (nmP e.ae) (dk s)).toNat) l (cO (at_ (dk s) (idx (nmP e.ae) (dk s)).toNat) e)=k:=⟨(fnd (at_ (dk s) (idx (nmP e.ae) (dk s)).toNat) l (cO (at_ (dk s) (idx (nmP e.ae) (dk s)).toNat) e)).toNat,Yt⟩
 have hkl:k<l.length:=by
  have:=gu (p:=fiP (nd s e.ae) (cO (nd s e.ae) e)) l
  have h2:idx (fiP (nd s e.ae) (cO (nd s e.ae) e)) l=k:=hf;omega
 have hck:=KH (at_mem hkl)
 have afQ:(l.eraseIdx k).length<=l.length:=(eraseIdx_sublist ..).length_le;simp only[hf];refine AW.c (λh=>?_) λh=>?_
 ·have ho:e.fOp=3:=by omega
  refine vX1 ?_;refine AW.imp (Imp.iM 6 (x:=.v (.slice none 0 0)) (x':=.sl false 3 []) gO (λ_ _ _ _ r=>Rep.fX _ _ r) ?_);refine vU1 ?_;rw[Ny h0 hw hk hf ho];try rfl
 have ho3:¬e.fOp=3:=by omega
 clear h;refine vK1 ?_;refine AW.c (λh=>?_) λh=>?_
 ·exfalso;omega
 clear h;refine vK1 ?_;refine AW.c (λh=>?_) λh=>?_
 ·exfalso;omega
 clear h;refine vK1 ?_;refine AW.c (λh=>?_) λh=>?_
 ·have ho:e.fOp=1:=by omega
  refine vU1 ?_;rw[Nz h0 hw hk hf ho];try rfl
 have ho1:¬e.fOp=1:=by omega
 clear h;refine vK1 ?_;refine AW.e λh=>?_;refine AW.abH [0,1,2] [3,4,5,6,7] (by rfl) ?_;refine vN1 ?_;refine Imp.pS 86 (sz:=3) (l:=l.map (ai false)) gO (gr _) (λb hb=>?_) (λhnil=>?_)
 rotate_left
 ·rw[map_eq_nil_iff]at hnil;rw[hnil]at hkl;exact absurd hkl (Nat.not_lt_zero _)
 have hb1:=hb.nf;simp only[go_sem]at hb1;rw[length_map];refine iY.wn ?_;refine vN1 ?_;refine AW.imp (Imp.frz 1 ?_);rw[<- vf];refine gS ?_;refine vK1 ?_;refine AW.c (λh=>?_) λh=>?_
 ·have ho:e.fOp=4\/e.fOp=5:=by omega
  refine vU1 ?_;rw[Ti h0 hw hk hf ho];try rfl
 have ho2:e.fOp=2:=by omega
 clear h;refine vU1 ?_;rw[V2 h0 hw hk hf ho2];try rfl
end
section
attribute [-instance] fg
attribute [local go_sem] bL aV bu eW eV gC jf jI
theorem OA:∀(N:Nat) (s:List ag) (l:List ah) (es:List aL),Ctr lim prog 213 [] [.ab 19 ak s,.ab 3 ai (l),.ab 4 dN (es)] (.tup [.ab 3 ai ((mdE es s l).1),.aa (mdE es s l).2]) [] (SizeOf.sizeOf es<N/\gdS s/\wtS s<=1048576/\cnt l+fO es<=4194304/\wtE es<=1048576)
 | 0,_,_,_=>⟨(aU 213),λh=>absurd h.1 (Nat.not_lt_zero _)⟩
 | N+1,s,l,es=>by
  haveI on:=Wy N (OA N);refine Ctr.bd func213 ntmps213 λhp=>?_;have gOn:=bM.on;obtain⟨hN,hg,hs,hc,hw⟩:=hp;refine AW.f1 2 λhf=>?_;refine vK1 ?_;refine AW.aw [1,14] [0,12,13] (λm xs o=>∃(k:Nat) (l':List ah),xs=[.ab 3 ai (l'),.aa k]/\o=[]/\m=es.length - k/\k<=es.length/\mdE (es.drop k) s l'=mdE es s l/\cnt l'+fO (es.drop k)<=4194304) es.length [] trivial ⟨0,l,rfl,rfl,rfl,Yt,rfl,hc⟩ ?_;rintro m xs o ⟨k,l',rfl,rfl,rfl,hk,hR,hcl⟩;refine vK1 ?_;refine AW.c (λh=>?_) λh=>?_
  ·have hlk:=h
   have hwm:=yF (at_mem h)
   have hsz:=Kr (at_mem h);rw[G6 h]at hR;have hcd:=E0 h
   have h1c:=De (R:=mdE (at_ es k).af) (c:=fO (at_ es k).af) (λs l=>uR _ s l) s l' (at_ es k);clear h
   (refine vK1 ?_;intro h)
   refine AW.c (λh=>?_) λh=>?_
   ·refine vX1 ?_;refine AW.imp (Imp.iM 6 (x:=.v (.slice none 0 0)) (x':=.sl false 3 []) gO (λ_ _ _ _ r=>Rep.fX _ _ r) ?_);refine vU1 ?_;rw[<- hR,if_pos h];try rfl
   ·rw[if_neg (λc=>c h)]at hR;refine vU1 ?_;exact⟨_,[_,_],_,Yt,⟨k+1,_,rfl,rfl,rfl,Yt,hR,Yt⟩,rfl,gO⟩
  ·rw[dn h,mdE]at hR;refine vU1 ?_;rw[<- hR];try rfl
instance OB(s:List ag)(l:List ah)(es:List aL):Ctr lim prog 213 [] [.ab 19 ak s,.ab 3 ai (l),.ab 4 dN (es)] (.tup [.ab 3 ai ((mdE es s l).1),.aa (mdE es s l).2]) [] (gdS s/\wtS s<=1048576/\cnt l+fO es<=4194304/\wtE es<=1048576):=⟨(aU 213),λh=>(OA (SizeOf.sizeOf es+1) s l es).out ⟨Nat.lt_succ_self _,h⟩⟩
theorem HL:∀(n:Nat) (l:List ah),Ctr lim prog 131 [] [.ab 3 ai (l)] (.aa (cnt l)) [] (cnt l<n/\n<=4194305)
 | 0,l=>⟨(aU 131),λh=>absurd h.1 (Nat.not_lt_zero _)⟩
 | n+1,l=>by
  have ih:=HL n;refine Ctr.bd func131 ntmps131 λhp=>?_;have hl:l.length<=cnt l:=by unfold cnt;omega
  refine vU1 ?_;refine AW.aw [3,10] [0,8,9] (λm xs o=>∃k q:Nat,xs=[.aa q,.aa k]/\o=[]/\m=l.length - k/\k<=l.length/\q+kc (l.drop k)=cnt l) l.length [] trivial ⟨0,l.length,?_,rfl,rfl,?_,rfl⟩ ?_
  ·rfl
  ·omega
  rintro m xs o ⟨k,q,rfl,rfl,rfl,hk,hR⟩;have h1:k<l.length->_:=O4 (l:=l) (k:=k)
  have h2:k<l.length->_:=RW (l:=l) (k:=k)
  have h3:cnt (at_ l k).af=(at_ l k).af.length+kc (at_ l k).af:=rfl
  (refine vU2 ?_ ?_<;>with_reducible repeat intro h)
  ·exact⟨_,[_,_],[],Yt,⟨k+1,q+cnt (at_ l k).af,rfl,rfl,rfl,Yt,Yt⟩,rfl,trivial⟩
  ·rw[dn h,kc]at hR;rw[<- hR,Nat.add_zero]
theorem Ow(s:List ag)(l:List ah):Ctr lim prog 88 [] [.ab 19 ak s,.ab 3 ai (l)] (.ac (dw s l)) [] (wtS s<=1048576/\cnt l<=4194304/\(cnt l<=120->wt l<=1048576)):=by
 haveI hC:Ctr lim prog 131 [] [.ab 3 ai (l)] (.aa (cnt l)) [] (cnt l<=4194304):=⟨(aU 131),λh=>(HL 4194305 l).out ⟨Yt,Yt⟩⟩
 refine Ctr.bd func88 ntmps88 λhp=>?_;have gOn:=bM.on;obtain⟨h1,h2,h3⟩:=hp
 (refine vU2 ?_ ?_<;>with_reducible repeat intro h)
 ·simp only[Bool.and_eq_true,decide_eq_true_eq]at h;exact h3 Yt
 refine congrArg (λb=>AV.ac b) ?_;rw[dw,show decide ((cnt l:Int)<=120)=decide (cnt l<=120)from decide_eq_decide.2 Yt]
instance(s:List ag)(l:List ah)(es:List aL):yB lim prog 213 [.ab 19 ak s,.ab 3 ai (l),.ab 4 dN (es)] (.tup [.ab 3 ai ((mdE es s l).1),.aa (mdE es s l).2]) (gdS s/\wtS s<=1048576/\cnt l+fO es<=4194304/\wtE es<=1048576):=⟨(aU 213),λhp=>(OB s l es).pure hp⟩
attribute [-instance] OB
instance(s:List ag)(l:List ah)(es:List aL):Ctr lim prog 149 [] [.ab 19 ak s,.ab 3 ai (l),.ab 4 dN (es)] (.tup [.sl true 3 ((mdT s l es).1.map (ai true)),.aa (mdT s l es).2]) [] (wtS s<=1048576/\wt l<=1048576/\wtE es<=1048576):=by
 refine Ctr.bd func149 ntmps149 λhp=>?_;have gOn:=bM.on;obtain⟨h1,h2,h3⟩:=hp;have hce:=wJ es;refine vK1 ?_;refine AW.c (λh=>?_) λh=>?_
 ·refine vU1 ?_;rw[GW h];try rfl
 have ht:dw s l=true:=by simpa using h
 have hg:=FX ht
 have hfit:=Dj es ht
 have hcl:=(tJ ht).2;clear h;refine vK1 ?_;refine AW.c (λh=>?_) λh=>?_
 ·refine vU1 ?_;rw[GZ ht h];try rfl
 have h0:(mdE es s l).2=0:=h;clear h;have hf1:=hfit.1
 haveI hT:Ctr lim prog 88 [] [.ab 19 ak s,.ab 3 ai ((mdE es s l).1)] (.ac (dw s (mdE es s l).1)) [] True:=⟨(aU 88),λ_=>(Ow s _).out ⟨h1,Yt,λc=>by have:=hfit.2 c;omega⟩⟩
 refine vK1 ?_;refine AW.c (λh=>?_) λh=>?_
 ·refine vU1 ?_;rw[GX ht h0 h];try rfl
 ·refine vU1 ?_;rw[GY ht h0 (by simpa using h)];try rfl
