/- Part of a proof. -/
import Derived.Test.YtbiikafnjialjaaGreatDoorS28
import Derived.Test.YtbiikafnjialjaaGreatDoorS29
set_option linter.all false
set_option maxRecDepth 20000
set_option maxHeartbeats 4000000
open Go.Proofs.Tryz
open List
namespace Go.Proofs
open Go.Ab Go.Dt
attribute [-instance] eQ
attribute [local go_sem] bD aS bk eI eH fY iE iM
def oD:∀l:List ah,AV.iN ((l.map (ai false)).flatMap AV.cells)=[]
 | []=>rfl
 | x::l=>by
  have:=oD l;rw[map_cons,flatMap_cons,bO];simp only[AV.cells,cons_append,nil_append,AV.iN,AV.keys,this]
attribute [local go_sem] oD
def uE(l:List ah):((l.map (ai false)).flatMap AV.cells).length=l.length * 3:=by rw[dw (sz:=3) (fU _),length_map]
def wu{l:List ah}{i:Nat}(hi:i<l.length):(l.map (ai false)).flatMap AV.cells=((l.take i).map (ai false)).flatMap AV.cells++((cNo (at_ l i))++((l.drop (i+1)).map (ai false)).flatMap AV.cells):=by
 conv=>lhs;rw[o7 hi,map_append,map_cons,flatMap_append,flatMap_cons,bO]
 rfl
def wX{l:List ah}{i:Nat}{y:ah}(hi:i<l.length):((l.set i y).map (ai false)).flatMap AV.cells=((l.take i).map (ai false)).flatMap AV.cells++((cNo y)++((l.drop (i+1)).map (ai false)).flatMap AV.cells):=by rw[tX hi,map_append,map_cons,flatMap_append,flatMap_cons,bO];rfl
def OQ{l:List ah}{i:Nat}{y:ah}:(l.set i y).take i=l.take i:=by rw[take_set_of_le (Nat.le_refl _)]
def Kl{l:List ah}{i:Nat}{y:ah}:(l.set i y).drop (i+1)=l.drop (i+1):=by rw[drop_set_of_lt (Nat.lt_succ_self _)]
instance WC(b k:Nat)(l:List ah):Ctr lim prog 304 [(b,some ((l.map (ai false)).flatMap AV.cells))] [.arr b 0 l.length 3,.aa (k:Nat),.aa ((k+1:Nat):Int)] (.sl true 3 ((l.take k++l.drop (k+1)).map (ai false))) [none] (k<l.length):=by have h:=EY.ctr (L:=lim) (b:=b) (i:=k) (j:=k+1) (aT 304) NZ daa (fU l) (zN l);rw[<- map_take,<- map_drop,<- map_append,length_map]at h;exact⟨h.en,λhp=>h.out ⟨Nat.lt_succ_self _,hp⟩⟩
theorem PR(N:Nat)(ih:∀(s:List ag) (l:List ah) (es:List aI),Ctr lim prog 213 [] [.ab 19 ak s,.ab 3 ai (l),.ab 4 dE (es)] (.tup [.ab 3 ai ((mdE es s l).1),.aa (mdE es s l).2]) [] (SizeOf.sizeOf es<N/\gdS s/\wtS s<=1048576/\cnt l+fC es<=4194304/\wtE es<=1048576))(l:List ah)(i:Nat)(n:ag)(e:aI):Ctr lim prog 303 [] [.ab 3 ai (l),.aa i,.agg (cSc n),.agg (cEd e)] (.tup [.ab 3 ai ((mrg (mdE e.af) l i n e).1),.aa (mrg (mdE e.af) l i n e).2]) [] (SizeOf.sizeOf e.af<N/\gdS n.af/\wtS n.af<=1048576/\i<l.length/\l.length<=4194304/\cnt (at_ l i).af+fC e.af<=4194304/\e.aq.length<=1048576/\wtE e.af<=1048576):=by
 refine Ctr.bd func303 ntmps303 λhp=>?_;have gOn:=bI.on;obtain⟨hN,hg,hs,hi,hl,hc,hv,hw⟩:=hp;have hpl:(((l.take i).map (ai false)).flatMap AV.cells).length=i * 3:=by rw[uE,length_take];congr 1;omega
 have hql:=uE (l.drop (i+1));refine vK1 ?_;refine AW.imp (Imp.pj 10 (sz:=3) (l:=l.map (ai false)) gO (fU _) (λb hb=>?_) (λhnil=>?_))
 rotate_left
 ·rw[map_eq_nil_iff]at hnil;rw[hnil]at hi;exact absurd hi (Nat.not_lt_zero _)
 have hb1:=hb.nf;simp only[go_sem]at hb1;rw[length_map,wu hi];generalize hpre:((l.take i).map (ai false)).flatMap AV.cells=pre at *;generalize hpost:((l.drop (i+1)).map (ai false)).flatMap AV.cells=post at *;refine gS ?_;have hset:∀y:ah,((l.set i y).map (ai false)).flatMap AV.cells=pre++.str y.ae::.str y.aq::.ab 3 ai y.af::post:=λy=>by rw[wX hi,hpre,hpost];rfl
 have hat:(l.map (ai false)).flatMap AV.cells=pre++.str (at_ l i).ae::.str (at_ l i).aq::.sl false 3 ((at_ l i).af.map (ai false))::post:=by rw[wu hi,hpre,hpost];rfl
 have hlen:∀a b c:AV,(pre++a::b::c::post).length=l.length * 3:=λa b c=>by
  simp only[length_append,length_cons,hpl,hql,length_drop];omega
 have hkp:AV.iN pre=[]:=by rw[<- hpre];exact oD _
 have hkq:AV.iN post=[]:=by rw[<- hpost];exact oD _
 refine AW.c (λh=>?_) λh=>?_
 ·refine vX1 ?_;refine AW.imp (Imp.fold 8 (b:=b) (len:=l.length) (sz:=3) (cells:=(pre++.str (at_ l i).ae::.str (cvS n.fType e.aq)::.sl false 3 ((at_ l i).af.map (ai false))::post)) (l:=(l.set i (.mk (at_ l i).ae (cvS n.fType e.aq) (at_ l i).af)).map (ai false)) gO gO Xp (by rw[take_of_length_le (by rw[hlen];exact Nat.le_refl _)];exact hset _) (fU _) ?_);refine AW.imp (Imp.frz 8 ?_);refine gS ?_;refine vU1 ?_;rw[mrg,if_pos h];try rfl
 have h3:=h;clear h;refine vK1 ?_;refine AW.c (λh=>?_) λh=>?_
 ·have h12:n.aj=1\/n.aj=2:=.inl Um
  have hk1:=h;clear h;refine vK1 ?_;refine AW.c (λh=>?_) λh=>?_
  rotate_left
  ·exact absurd hk1 h
  clear h;refine vK1 ?_;refine AW.c (λh=>?_) λh=>?_
  ·refine vX1 ?_;refine AW.imp (Imp.iB 8 (x:=.v (.slice none 0 0)) (x':=.sl false 3 []) gO (λ_ _ _ _ r=>Rep.fL _ _ r) ?_);refine vU1 ?_;rw[mrg,if_neg h3,if_pos h12,if_pos h];try rfl
  have hc0:=h;clear h
  have hz:(mdE e.af n.af (at_ l i).af).1=[]↔(((mdE e.af n.af (at_ l i).af).1).length:Int)=0:=by
   rw[<- length_eq_zero_iff];omega
  refine vK1 ?_;refine AW.c (λh=>?_) λh=>?_
  ·haveI hd:Ctr lim prog 304 [(b,some (((l.set i (.mk (at_ l i).ae (at_ l i).aq (mdE e.af n.af (at_ l i).af).1)).map (ai false)).flatMap AV.cells))] [.arr b 0 l.length 3,.aa (i:Nat),.aa ((i+1:Nat):Int)] (.sl true 3 ((l.eraseIdx i).map (ai false))) [none] True:=by
    have:=WC b i (l.set i (.mk (at_ l i).ae (at_ l i).aq (mdE e.af n.af (at_ l i).af).1));rw[length_set]at this;rw[show (l.set i (.mk (at_ l i).ae (at_ l i).aq (mdE e.af n.af (at_ l i).af).1)).take i++(l.set i (.mk (at_ l i).ae (at_ l i).aq (mdE e.af n.af (at_ l i).af).1)).drop (i+1)=l.eraseIdx i by rw[uG,OQ,Kl]]at this;exact⟨this.en,λ_=>this.out hi⟩
   have hs2:(pre++.str (at_ l i).ae::.str (at_ l i).aq::.sl false 3 ((mdE e.af n.af (at_ l i).af).1.map (ai false))::post)=(((l.set i (.mk (at_ l i).ae (at_ l i).aq (mdE e.af n.af (at_ l i).af).1)).map (ai false)).flatMap AV.cells):=(hset (.mk (at_ l i).ae (at_ l i).aq (mdE e.af n.af (at_ l i).af).1)).symm;rw[hs2];clear hs2
   (refine Z ?_;refine λ(K:_->_->Prop) hK=>?_;refine gS ?_)
   (repeat' first|(with_reducible first|refine Y ?_|(refine hK _ _ ?_;clear hK K)|refine And.intro ?_ ?_|exact Ct|intro(K:_->_->Prop) hK|(refine gI λhg=>?_;try simp only[hC,reduceCtorEq]at hg;try simp only[hg]))|((with_reducible refine E ?_;repeat refine Y ?_);refine eF rfl ?_)|simp(disch:=omega)only[go_sem,oD]|(with_reducible intro hg;try simp only[hC,reduceCtorEq]at hg)|exact Cl|fail)
   refine vX1 ?_;refine AW.imp (Imp.frz 8 ?_);refine gS ?_;refine vU1 ?_;rw[mrg,if_neg h3,if_pos h12,if_neg (λc=>c hc0),if_pos (by grind)];try rfl
  ·refine vX1 ?_;refine AW.imp (Imp.fold 8 (b:=b) (len:=l.length) (sz:=3) (cells:=(pre++.str (at_ l i).ae::.str (at_ l i).aq::.sl false 3 ((mdE e.af n.af (at_ l i).af).1.map (ai false))::post)) (l:=(l.set i (.mk (at_ l i).ae (at_ l i).aq (mdE e.af n.af (at_ l i).af).1)).map (ai false)) gO gO Xp (by rw[take_of_length_le (by rw[hlen];exact Nat.le_refl _)];exact hset _) (fU _) ?_);refine AW.imp (Imp.frz 8 ?_);refine gS ?_;refine vU1 ?_;rw[mrg,if_neg h3,if_pos h12,if_neg (λc=>c hc0),if_neg (by grind)];try rfl
 ·have h1:=h;clear h;refine vK1 ?_;refine AW.c (λh=>?_) λh=>?_
  ·have h12:n.aj=1\/n.aj=2:=.inr Um
   have hk1:=h;clear h;refine vK1 ?_;refine AW.c (λh=>?_) λh=>?_
   ·refine vX1 ?_;refine AW.imp (Imp.iB 8 (x:=.v (.slice none 0 0)) (x':=.sl false 3 []) gO (λ_ _ _ _ r=>Rep.fL _ _ r) ?_);refine vU1 ?_;rw[mrg,if_neg h3,if_pos h12,if_pos h];try rfl
   have hc0:=h;clear h
   have hz:(mdE e.af n.af (at_ l i).af).1=[]↔(((mdE e.af n.af (at_ l i).af).1).length:Int)=0:=by
    rw[<- length_eq_zero_iff];omega
   refine vK1 ?_;refine AW.c (λh=>?_) λh=>?_
   ·exfalso;omega
   ·refine vX1 ?_;refine AW.imp (Imp.fold 8 (b:=b) (len:=l.length) (sz:=3) (cells:=(pre++.str (at_ l i).ae::.str (at_ l i).aq::.sl false 3 ((mdE e.af n.af (at_ l i).af).1.map (ai false))::post)) (l:=(l.set i (.mk (at_ l i).ae (at_ l i).aq (mdE e.af n.af (at_ l i).af).1)).map (ai false)) gO gO Xp (by rw[take_of_length_le (by rw[hlen];exact Nat.le_refl _)];exact hset _) (fU _) ?_);refine AW.imp (Imp.frz 8 ?_);refine gS ?_;refine vU1 ?_;rw[mrg,if_neg h3,if_pos h12,if_neg (λc=>c hc0),if_neg (by grind)];try rfl
  ·refine vX1 ?_;refine AW.imp (Imp.fold 8 (b:=b) (len:=l.length) (sz:=3) (cells:=(pre++.str (at_ l i).ae::.str (at_ l i).aq::.sl false 3 ((at_ l i).af.map (ai false))::post)) (l:=l.map (ai false)) gO gO Xp (by rw[take_of_length_le (by rw[hlen];exact Nat.le_refl _)];exact hat) (fU _) ?_);refine AW.imp (Imp.frz 8 ?_);refine gS ?_;refine vU1 ?_;rw[mrg,if_neg h3,if_neg Um];try rfl
end Go.Proofs
namespace Go.Ab
section
variable {L : Nat -> Nat} {P : Program} {ops : Array Oper} {Q : Exit -> Act -> World -> Prop}
def Kx(R:Act->World->Prop):Exit->Act->World->Prop:=λe a w=>e=.normal/\R a w
def Uq{R:Act->World->Prop}{o:Oper}{a:Act}{w:World}{K K':Act->World->Prop}(h:∀a w,K a w->K' a w)(hh:o.wp P a w K (Kx R)):o.wp P a w K' Q:=by
 have hl:¬LetsOut (Kx R):=by rintro⟨_,_,h,_⟩;cases h
 unfold Oper.wp at *;generalize (execOp a.eval o).run P w=r at *
 cases r with
 | ok n w' =>
  cases n<;>simp only[Oper.upon]at hh ⊢ <;>
   first
    | exact h _ _ hh
    | exact Calls.mono hh (λe w'' he=>by cases e<;>first|exact h _ _ he|exact absurd he hl|exact absurd he.1 Xp)
    | exact Rows.mono hh (λ_ _ he=>h _ _ he)
 | halt x w'=>cases x<;>simp only[Oper.upon]at hh ⊢<;>first|exact hh|exact absurd hh hl|exact absurd hh.1 Xp|exact hh.elim
def sw(l2:List Nat):∀(l1:List Nat) (a:Act) (w:World),wpOps P ops (Kx (wpOps P ops Q l2)) l1 a w->wpOps P ops Q (l1++l2) a w
 | [],a,w,h=>h.2
 | i::l1,a,w,h=>by
  have hl:¬LetsOut (Kx (wpOps P ops Q l2)):=by rintro⟨_,_,h,_⟩;cases h
  simp only[cons_append,wpOps]at h ⊢;split at h
  ·exact sw l2 l1 a w h
  ·split at h
   ·rename_i hw;rw[if_pos hw];rcases h with h|⟨_,h⟩
    ·exact .inl (Uq (sw l2 l1) h)
    ·exact absurd h hl
   ·rename_i hw;rw[if_neg hw];exact sw l2 l1 _ w h
def iR.app{s:AS}{K:AS->Prop}(l1 l2:List Nat)(h:iR L P ops l1 s (λs'=>iR L P ops l2 s' K)):iR L P ops (l1++l2) s K:=by intro B F0 w0 a w Q hd hQ;exact sw l2 l1 a w (h B F0 w0 a w _ hd λs' a' w' h1 h2=>⟨rfl,h1 B F0 w0 a' w' Q h2 hQ⟩)
def AW.aa5{n:Nat}{t:faa}{o:Sto}{Q:Exit->AS->Prop}{id:Nat}(l1 l2:List Nat)(hl:List.range ops.size=l1++l2)
  (h:∀K:faa->Sto->Prop,(∀t o,Imp L ⟨n,t,o⟩ (λs'=>iR L P ops l2 s' (λs'=>Q .normal s'))->K t o)->Wn L P ops n K l1 [] t o):AW L P (.region id ops false) ⟨n,t,o⟩ Q :=
 AW.region (by
  rw[hl]
  exact iR.app l1 l2 (Wn.pR (K:=λt o=>Imp L ⟨n,t,o⟩ (λs'=>iR L P ops l2 s' (λs'=>Q .normal s'))) (λ_ _ h=>iR.imp h) _ _ _ (h _ (λ_ _ h=>h))))
def iR.wn{n:Nat}{t:faa}{o:Sto}{K':AS->Prop}{l:List Nat}(h:∀K:faa->Sto->Prop,(∀t o,K' ⟨n,t,o⟩->K t o)->Wn L P ops n K l [] t o):iR L P ops l ⟨n,t,o⟩ K' :=
 Wn.pR (K:=λt o=>K' ⟨n,t,o⟩) (λ_ _ h=>h) _ _ _ (h _ (λ_ _ h=>h))
end
end Go.Ab
namespace Go.Proofs
open Go.Ab Go.Dt
section
attribute [-instance] eQ
attribute [local go_sem] bD aS bk eI eH fY iE iM
theorem PS(s:List ag)(nm:Str):Ctr lim prog 214 [] [.ab 19 ak s,.sl false 1 [.str nm]] (.tup [.agg cZe,.ac false]) [] (idx (nmP nm) (dk s)<0/\bR s<=1048576):=by
 refine Ctr.bd func214 ntmps214 λhp=>?_;have gOn:=bI.on;obtain⟨hi,hc⟩:=hp;have hj:=fV (p:=nmP nm) (dk s);refine AW.f1 0 λhf=>?_
 (refine bU1 ?_;intro h h h)
 rename_i a b;refine AW.aw [0,14] [1,4,5,6,12,13] (λm xs o=>xs=[.ab 19 ak s,.aa 0]/\o=[(b,some cZe),(a,some cZe)]/\m=1) 1 [(b,some cZe),(a,some cZe)] gO ⟨rfl,rfl,rfl⟩ ?_;rintro m xs o ⟨rfl,rfl,rfl⟩
 (refine vU1 ?_;intro h h h)
 refine⟨.str nm,λ_=>⟨daa,rfl,rfl⟩,?_⟩;refine vU1 ?_;refine h _ _ ?_
 all_goals exact uU
def KyP(n:ag)(e:aI):Prop:=(n.aj=2->∀q∈n.ax,0<=idx (fq q) n.af)/\n.ax.length<=3/\e.aq.length<=1048576/\e.af.length<=1048576/\∀x∈e.af,x.aq.length<=1048576
instance(n:ag)(e:aI):Ctr lim prog 302 [] [.agg (cSc n),.agg (cEd e)] (.tup [.agg [.str (nJ n e).ae,.str (nJ n e).aq,.sl true 3 ((nJ n e).af.map (ai false))],.aa (Gu n e)]) [] (KyP n e):=VV n e
attribute [local go_sem] oD
theorem VS(N:Nat)(ih:∀(s:List ag) (l:List ah) (es:List aI),Ctr lim prog 213 [] [.ab 19 ak s,.ab 3 ai (l),.ab 4 dE (es)] (.tup [.ab 3 ai ((mdE es s l).1),.aa (mdE es s l).2]) [] (SizeOf.sizeOf es<N/\gdS s/\wtS s<=1048576/\cnt l+fC es<=4194304/\wtE es<=1048576))(s:List ag)(l:List ah)(e:aI):Ctr lim prog 269 [] [.ab 19 ak s,.ab 3 ai (l),.agg (cEd e)] (.tup [.ab 3 ai ((one (mdE e.af) s l e).1),.aa (one (mdE e.af) s l e).2]) [] (SizeOf.sizeOf e.af<N/\gdS s/\wtS s<=1048576/\cnt l+(1+fC e.af)<=4194304/\(e.ae.length<=1048576/\e.aq.length<=1048576/\wtE e.af<=1048576)):=by
 haveI mg:=PR N ih
 haveI cr:=Nw N ih;refine Ctr.bd func269 ntmps269 λhp=>?_;have gOn:=bI.on;obtain⟨hN,hg,hs,hc,hw0⟩:=hp;have hcs:=gV s
 have hll:=Gn l
 have hel:=Gp e.af
 have qz:=v7 e.af
 have hex:∀x∈e.af,x.aq.length<=1048576:=λx hx=>by have:=yd hx;omega
 haveI fz:∀(sz:Nat) (x:AV) (l:List AV) (C:List Nat) (K:AV->List Nat->Prop),Rl (bsK sz (x::l) C (K:=⟨K⟩)) (K (.sl false sz (AV.cl (x::l))) C):=λ_ _ _ _ _=>⟨.inr⟩
 by_cases h0:idx (nmP e.ae) (dk s)<0
 ·haveI:=PS s e.ae
  haveI:=Np e
  (refine vK1 ?_;intro h)
  refine AW.c (λh=>?_) λh=>?_
  ·refine vX1 ?_;refine AW.imp (Imp.iB 6 (x:=.v (.slice none 0 0)) (x':=.sl false 3 []) gO (λ_ _ _ _ r=>Rep.fL _ _ r) ?_);refine vU1 ?_;rw[Mx h0];try rfl
  ·exfalso;omega
 have hnm:((at_ (dk s) (idx (nmP e.ae) (dk s)).toNat)).ae=e.ae/\(at_ (dk s) (idx (nmP e.ae) (dk s)).toNat)∈dk s:=gR Um
 have hgk:=(o4 hg hnm.2).1
 have hwk:=jR _ _ hnm.2
 have hk3:=JC hg hnm.2
 have hkq:((at_ (dk s) (idx (nmP e.ae) (dk s)).toNat)).aj=2->∀q∈((at_ (dk s) (idx (nmP e.ae) (dk s)).toNat)).ax,0<=idx (fq q) ((at_ (dk s) (idx (nmP e.ae) (dk s)).toNat)).af:=λ_ q hq=>(C8 hg hnm.2 q hq).2.2
 have hni:0<=idx (nmP ((at_ (dk s) (idx (nmP e.ae) (dk s)).toNat)).ae) (dk s):=by rw[hnm.1];omega
 have hnn:((at_ (dk s) (idx (nmP e.ae) (dk s)).toNat)).ae=(nd s ((at_ (dk s) (idx (nmP e.ae) (dk s)).toNat)).ae).ae:=by
  have:=(gR hni).1;exact this.symm
 have hkp:KyP (at_ (dk s) (idx (nmP e.ae) (dk s)).toNat) e:=⟨hkq,hk3,Um,Um,hex⟩
 (refine vK1 ?_;intro h)
 refine AW.c (λh=>?_) λh=>?_
 ·refine vX1 ?_;refine AW.imp (Imp.iB 6 (x:=.v (.slice none 0 0)) (x':=.sl false 3 []) gO (λ_ _ _ _ r=>Rep.fL _ _ r) ?_);refine vU1 ?_;rw[Mv h0 h];try rfl
 have hw:wrg (nd s e.ae) e=0:=h
 have hop:=QH hw;clear h;clear fz
 (refine vK1 ?_;intro h h)
 refine AW.c (λh=>?_) λh=>?_
 ·have hk:(nd s e.ae).aj=2/\ep (nd s e.ae) e.af=false:=Classical.byContradiction λc=>h (oH c).1;rw[(pE hk).1];refine vX1 ?_;refine AW.imp (Imp.iB 6 (x:=.v (.slice none 0 0)) (x':=.sl false 3 []) gO (λ_ _ _ _ r=>Rep.fL _ _ r) ?_);refine vU1 ?_;rw[MA h0 hw hk];try rfl
 have hk:¬((nd s e.ae).aj=2/\ep (nd s e.ae) e.af=false):=λc=>by
  have:=(pE c).1
  have h':Gu (nd s e.ae) e=0:=h;omega
 clear h;have hkr:nJ (at_ (dk s) (idx (nmP e.ae) (dk s)).toNat) e=cv (at_ (dk s) (idx (nmP e.ae) (dk s)).toNat) e:=(oH hk).2;rw[hkr];refine vK1 ?_;by_cases hfn:fnd (at_ (dk s) (idx (nmP e.ae) (dk s)).toNat) l (cv (at_ (dk s) (idx (nmP e.ae) (dk s)).toNat) e)<0
 ·refine AW.c (λh=>?_) λh=>?_
  ·exfalso;omega
  clear h;refine vK1 ?_;refine AW.c (λh=>?_) λh=>?_
  ·have ho:e.fOp=4:=by omega
   refine vX1 ?_;refine AW.imp (Imp.iB 6 (x:=.v (.slice none 0 0)) (x':=.sl false 3 []) gO (λ_ _ _ _ r=>Rep.fL _ _ r) ?_);refine vU1 ?_;rw[Mz h0 hw hk hfn ho];try rfl
  have ho4:¬e.fOp=4:=by omega
  clear h;refine vK1 ?_;refine AW.c (λh=>?_) λh=>?_
  ·have ho:e.fOp=5:=by omega
   refine vU1 ?_;rw[My h0 hw hk hfn ho];try rfl
  have ho5:¬e.fOp=5:=by omega
  clear h;refine vK1 ?_;refine AW.c (λh=>?_) λh=>?_
  ·exfalso;omega
  clear h;refine vK1 ?_;refine AW.c (λh=>?_) λh=>?_
  ·exfalso;omega
  clear h;refine vK1 ?_;refine AW.c (λh=>?_) λh=>?_
  ·exfalso;omega
  clear h;refine vU1 ?_;rw[Q2 h0 hw hk hfn ho4 ho5];try rfl
 obtain⟨k,hf⟩:∃k:Nat,fnd (at_ (dk s) (idx (nmP e.ae) (dk s)).toNat) l (cv (at_ (dk s) (idx (nmP e.ae) (dk s)).toNat) e)=k:=⟨(fnd (at_ (dk s) (idx (nmP e.ae) (dk s)).toNat) l (cv (at_ (dk s) (idx (nmP e.ae) (dk s)).toNat) e)).toNat,Um⟩
 have hkl:k<l.length:=by
  have:=fV (p:=fiP (nd s e.ae) (cv (nd s e.ae) e)) l
  have h2:idx (fiP (nd s e.ae) (cv (nd s e.ae) e)) l=k:=hf;omega
 have hck:=JO (at_mem hkl)
 have afi:(l.eraseIdx k).length<=l.length:=(eraseIdx_sublist ..).length_le;simp only[hf];refine AW.c (λh=>?_) λh=>?_
 ·have ho:e.fOp=3:=by omega
  refine vX1 ?_;refine AW.imp (Imp.iB 6 (x:=.v (.slice none 0 0)) (x':=.sl false 3 []) gO (λ_ _ _ _ r=>Rep.fL _ _ r) ?_);refine vU1 ?_;rw[MC h0 hw hk hf ho];try rfl
 have ho3:¬e.fOp=3:=by omega
 clear h;refine vK1 ?_;refine AW.c (λh=>?_) λh=>?_
 ·exfalso;omega
 clear h;refine vK1 ?_;refine AW.c (λh=>?_) λh=>?_
 ·exfalso;omega
 clear h;refine vK1 ?_;refine AW.c (λh=>?_) λh=>?_
 ·have ho:e.fOp=1:=by omega
  refine vU1 ?_;rw[MD h0 hw hk hf ho];try rfl
 have ho1:¬e.fOp=1:=by omega
 clear h;refine vK1 ?_;refine AW.e λh=>?_;refine AW.aa5 [0,1,2] [3,4,5,6,7] (by rfl) ?_;refine vN1 ?_;refine Imp.pj 86 (sz:=3) (l:=l.map (ai false)) gO (fU _) (λb hb=>?_) (λhnil=>?_)
 rotate_left
 ·rw[map_eq_nil_iff]at hnil;rw[hnil]at hkl;exact absurd hkl (Nat.not_lt_zero _)
 have hb1:=hb.nf;simp only[go_sem]at hb1;rw[length_map];refine iR.wn ?_;refine vN1 ?_;refine AW.imp (Imp.frz 1 ?_);rw[<- uG];refine gS ?_;refine vK1 ?_;refine AW.c (λh=>?_) λh=>?_
 ·have ho:e.fOp=4\/e.fOp=5:=by omega
  refine vU1 ?_;rw[Ss h0 hw hk hf ho];try rfl
 have ho2:e.fOp=2:=by omega
 clear h;refine vU1 ?_;rw[Vp h0 hw hk hf ho2];try rfl
end
section
attribute [-instance] eQ
attribute [local go_sem] bD aS bk eI eH fY iE iM
theorem Nx:∀(N:Nat) (s:List ag) (l:List ah) (es:List aI),Ctr lim prog 213 [] [.ab 19 ak s,.ab 3 ai (l),.ab 4 dE (es)] (.tup [.ab 3 ai ((mdE es s l).1),.aa (mdE es s l).2]) [] (SizeOf.sizeOf es<N/\gdS s/\wtS s<=1048576/\cnt l+fC es<=4194304/\wtE es<=1048576)
 | 0,_,_,_=>⟨(aT 213),λh=>absurd h.1 (Nat.not_lt_zero _)⟩
 | N+1,s,l,es=>by
  haveI on:=VS N (Nx N);refine Ctr.bd func213 ntmps213 λhp=>?_;have gOn:=bI.on;obtain⟨hN,hg,hs,hc,hw⟩:=hp;refine AW.f1 2 λhf=>?_;refine vK1 ?_;refine AW.aw [1,14] [0,12,13] (λm xs o=>∃(k:Nat) (l':List ah),xs=[.ab 3 ai (l'),.aa k]/\o=[]/\m=es.length - k/\k<=es.length/\mdE (es.drop k) s l'=mdE es s l/\cnt l'+fC (es.drop k)<=4194304) es.length [] trivial ⟨0,l,rfl,rfl,rfl,Um,rfl,hc⟩ ?_;rintro m xs o ⟨k,l',rfl,rfl,rfl,hk,hR,hcl⟩;refine vK1 ?_;refine AW.c (λh=>?_) λh=>?_
  ·have hlk:=h
   have hwm:=yd (at_mem h)
   have hsz:=JB (at_mem h);rw[F7 h]at hR;have hcd:=Eg h
   have h1c:=CB (R:=mdE (at_ es k).af) (c:=fC (at_ es k).af) (λs l=>um _ s l) s l' (at_ es k);clear h
   (refine vK1 ?_;intro h)
   refine AW.c (λh=>?_) λh=>?_
   ·refine vX1 ?_;refine AW.imp (Imp.iB 6 (x:=.v (.slice none 0 0)) (x':=.sl false 3 []) gO (λ_ _ _ _ r=>Rep.fL _ _ r) ?_);refine vU1 ?_;rw[<- hR,if_pos h];try rfl
   ·rw[if_neg (λc=>c h)]at hR;refine vU1 ?_;exact⟨_,[_,_],_,Um,⟨k+1,_,rfl,rfl,rfl,Um,hR,Um⟩,rfl,gO⟩
  ·rw[cT h,mdE]at hR;refine vU1 ?_;rw[<- hR];try rfl
instance Ny(s:List ag)(l:List ah)(es:List aI):Ctr lim prog 213 [] [.ab 19 ak s,.ab 3 ai (l),.ab 4 dE (es)] (.tup [.ab 3 ai ((mdE es s l).1),.aa (mdE es s l).2]) [] (gdS s/\wtS s<=1048576/\cnt l+fC es<=4194304/\wtE es<=1048576):=⟨(aT 213),λh=>(Nx (SizeOf.sizeOf es+1) s l es).out ⟨Nat.lt_succ_self _,h⟩⟩
theorem GN:∀(n:Nat) (l:List ah),Ctr lim prog 131 [] [.ab 3 ai (l)] (.aa (cnt l)) [] (cnt l<n/\n<=4194305)
 | 0,l=>⟨(aT 131),λh=>absurd h.1 (Nat.not_lt_zero _)⟩
 | n+1,l=>by
  have ih:=GN n;refine Ctr.bd func131 ntmps131 λhp=>?_;have hl:l.length<=cnt l:=by unfold cnt;omega
  refine vU1 ?_;refine AW.aw [3,10] [0,8,9] (λm xs o=>∃k q:Nat,xs=[.aa q,.aa k]/\o=[]/\m=l.length - k/\k<=l.length/\q+kc (l.drop k)=cnt l) l.length [] trivial ⟨0,l.length,?_,rfl,rfl,?_,rfl⟩ ?_
  ·rfl
  ·omega
  rintro m xs o ⟨k,q,rfl,rfl,rfl,hk,hR⟩;have h1:k<l.length->_:=N8 (l:=l) (k:=k)
  have h2:k<l.length->_:=Q8 (l:=l) (k:=k)
  have h3:cnt (at_ l k).af=(at_ l k).af.length+kc (at_ l k).af:=rfl
  (refine vU2 ?_ ?_<;>with_reducible repeat intro h)
  ·exact⟨_,[_,_],[],Um,⟨k+1,q+cnt (at_ l k).af,rfl,rfl,rfl,Um,Um⟩,rfl,trivial⟩
  ·rw[cT h,kc]at hR;rw[<- hR,Nat.add_zero]
theorem Nt(s:List ag)(l:List ah):Ctr lim prog 88 [] [.ab 19 ak s,.ab 3 ai (l)] (.ac (cW s l)) [] (wtS s<=1048576/\cnt l<=4194304/\(cnt l<=120->wt l<=1048576)):=by
 haveI hC:Ctr lim prog 131 [] [.ab 3 ai (l)] (.aa (cnt l)) [] (cnt l<=4194304):=⟨(aT 131),λh=>(GN 4194305 l).out ⟨Um,Um⟩⟩
 refine Ctr.bd func88 ntmps88 λhp=>?_;have gOn:=bI.on;obtain⟨h1,h2,h3⟩:=hp
 (refine vU2 ?_ ?_<;>with_reducible repeat intro h)
 ·simp only[Bool.and_eq_true,decide_eq_true_eq]at h;exact h3 Um
 refine congrArg (λb=>AV.ac b) ?_;rw[cW,show decide ((cnt l:Int)<=120)=decide (cnt l<=120)from decide_eq_decide.2 Um]
instance(s:List ag)(l:List ah)(es:List aI):xX lim prog 213 [.ab 19 ak s,.ab 3 ai (l),.ab 4 dE (es)] (.tup [.ab 3 ai ((mdE es s l).1),.aa (mdE es s l).2]) (gdS s/\wtS s<=1048576/\cnt l+fC es<=4194304/\wtE es<=1048576):=⟨(aT 213),λhp=>(Ny s l es).pure hp⟩
attribute [-instance] Ny
instance(s:List ag)(l:List ah)(es:List aI):Ctr lim prog 149 [] [.ab 19 ak s,.ab 3 ai (l),.ab 4 dE (es)] (.tup [.sl true 3 ((mdT s l es).1.map (ai true)),.aa (mdT s l es).2]) [] (wtS s<=1048576/\wt l<=1048576/\wtE es<=1048576):=by
 refine Ctr.bd func149 ntmps149 λhp=>?_;have gOn:=bI.on;obtain⟨h1,h2,h3⟩:=hp;have hce:=v7 es;refine vK1 ?_;refine AW.c (λh=>?_) λh=>?_
 ·refine vU1 ?_;rw[FZ h];try rfl
 have ht:cW s l=true:=by simpa using h
 have hg:=E7 ht
 have hfit:=CG es ht
 have hcl:=(sQ ht).2;clear h;refine vK1 ?_;refine AW.c (λh=>?_) λh=>?_
 ·refine vU1 ?_;rw[F4 ht h];try rfl
 have h0:(mdE es s l).2=0:=h;clear h;have hf1:=hfit.1
 haveI hT:Ctr lim prog 88 [] [.ab 19 ak s,.ab 3 ai ((mdE es s l).1)] (.ac (cW s (mdE es s l).1)) [] True:=⟨(aT 88),λ_=>(Nt s _).out ⟨h1,Um,λc=>by have:=hfit.2 c;omega⟩⟩
 refine vK1 ?_;refine AW.c (λh=>?_) λh=>?_
 ·refine vU1 ?_;rw[F2 ht h0 h];try rfl
 ·refine vU1 ?_;rw[F3 ht h0 (by simpa using h)];try rfl
