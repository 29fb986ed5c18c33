/- Part of a proof. -/
import Derived.Test.YtbiikafnjialjaaGreatDoorS30
import Derived.Test.YtbiikafnjialjaaGreatDoorS31
import Derived.Test.YtbiikafnjialjaaGreatDoorS32
set_option linter.all false
set_option maxRecDepth 20000
set_option maxHeartbeats 4000000
open Go.Proofs.Tryz
open List
namespace Go.Ab
section
variable {L : Nat -> Nat} {P : Program} {n : Nat}
def TailC(P:Program)(ops:Array Oper)(n:Nat)(o:Sto)(D:List (AV×List Nat))(t:faa)(R:List Nat->faa->Sto->Prop):Prop :=
 match ops[D.length]? with
 | some oa=>match oa.op with
  | .alloc ty'=>match oa.dst with
   | some d=>match ops[D.length+1]? with
    | some ob=>match ob.op with
     | .store ty2 (.tmp d') (.tmp v)=>match zer P ty' with
      | some zs=>match ty P ty2 with
       | some (_,m)=>(Nat.beq d' d=true/\Nat.beq v d=false/\Nat.beq m zs.length=true/\oa.guard.isNone=true/\ob.guard.isNone=true/\ob.dst.isNone=true/\dn n (some d)=true) /\
        (T t v).elem m=true/\(T t v).cells.all AV.one=true/\drawOK ops (D.map Prod.snd++[[],kills t [.tmp v]])=true /\
        ∀b,nfO o b->R (range' (D.length+2) (ops.size - (D.length+2))) (killL (put t (some d) (.ptr b 0)) (kills t [.tmp v])) ((b,some (T t v).cells)::o)
       | none=>False
      | none=>False
     | _=>False
    | none=>False
   | none=>False
  | _=>drawOK ops (D.map Prod.snd)=true/\R (range' D.length (ops.size - D.length)) t o
 | none=>drawOK ops (D.map Prod.snd)=true/\R (range' D.length (ops.size - D.length)) t o
def TailC.out{ops:Array Oper}{o:Sto}{D:List (AV×List Nat)}{t:faa}{R:List Nat->faa->Sto->Prop}(h:TailC P ops n o D t R) :
  (drawOK ops (D.map Prod.snd)=true/\R (range' D.length (ops.size - D.length)) t o) \/
  ∃oa ob ty' ty2 zs d v g,ops[D.length]? = some oa/\oa.guard=none/\oa.op=.alloc ty'/\dn n oa.dst=true/\zer P ty'=some zs /\
   ops[D.length+1]? = some ob/\ob.guard=none/\ob.op=.store ty2 (.tmp d) (.tmp v)/\ob.dst=none/\oa.dst=some d/\v≠d/\ty P ty2=some (g,zs.length)/\(T t v).elem zs.length=true/\(T t v).cells.all AV.one=true/\drawOK ops (D.map Prod.snd++[[],kills t [.tmp v]])=true /\
   ∀b,iy o b->R (range' (D.length+2) (ops.size - (D.length+2))) (upd ob .dead (kills t [.tmp v]) (upd oa (.ptr b 0) [] t)) ((b,some (T t v).cells)::o):=by
 unfold TailC at h;split at h
 ·rename_i oa hoa;split at h
  ·rename_i ty' hop;split at h
   ·rename_i d hd;split at h
    ·rename_i ob hob;split at h
     ·rename_i ty2 d' v Ad;split at h
      ·rename_i zs hz;split at h
       ·rename_i g m ht;obtain⟨⟨h1,h2,h3,h4,h5,h6,h7⟩,h8,h9,h10,h11⟩:=h;have e1:=Nat.eq_of_beq_eq_true h1
        have e3:=Nat.eq_of_beq_eq_true h3;subst e1 e3;have e6:ob.dst=none:=by simpa using h6
        refine .inr ⟨oa,ob,ty',ty2,zs,d',v,g,hoa,by simpa using h4,hop,by rw[hd];exact h7,hz,hob,by simpa using h5,Ad,e6,hd,Nat.ne_of_beq_eq_false h2,ht,h8,h9,h10,λb hb=>?_⟩;have:=h11 b hb.nf;simp only[upd,killL,hd,e6]at this ⊢;exact this
       ·exact h.elim
      ·exact h.elim
     ·exact h.elim
    ·exact h.elim
   ·exact h.elim
  ·exact .inl h
 ·exact .inl h
variable {t : List (Nat × AV)} {o : Sto} {Q : Exit -> AS -> Prop} {id : Nat} {ops : Array Oper}
def lB.or{A A':faa->List (AV×List Nat)->Prop}{i:Nat}{D:List (AV×List Nat)}(h:lB L P ops n o (λt D=>A t D\/A' t D) i t D):lB L P ops n o A i t D\/lB L P ops n o A' i t D:=by
 induction h with
 | done h=>exact h.imp .done .done
 | step o x C h1 h2 _ ih=>exact ih.imp (.step o x C h1 h2) (.step o x C h1 h2)
def lB.mono{A A':faa->List (AV×List Nat)->Prop}{i:Nat}{D:List (AV×List Nat)}(h:lB L P ops n o A i t D)(hA:∀t D,A t D->A' t D):lB L P ops n o A' i t D:=by
 induction h with
 | done h=>exact .done (hA _ _ h)
 | step o x C h1 h2 _ ih=>exact .step o x C h1 h2 ih
theorem AW.Rs [iS P]{K0:AS->Prop}(hQ:∀s,K0 s->Q .normal s)
  (h:∀K:faa->List (AV×List Nat)->Prop,(∀t D,TailC P ops n o D t (λl t o=>iR L P ops l ⟨n,t,o⟩ K0)->K t D)->W L P ops [] n o (λt D _=>K t D) (range' 0 ops.size) t []):AW L P (.region id ops true) ⟨n,t,o⟩ Q:=by
 have h':=W.draw (os:=o) (eff:=[]) _ 0 _ _ rfl (h _ (λt D h=>h))
 have hm:∀ {l:List Nat} {s:AS},iR L P ops l s K0->iR L P ops l s (λs'=>Q .normal s'):=λh B F0 w0 a w Q' hd hq=>h B F0 w0 a w Q' hd λs' a' w' hk=>hq s' a' w' (hQ _ hk)
 have h2:lB L P ops n o (λt D=>(drawOK ops (D.map Prod.snd)=true/\iR L P ops (range' D.length (ops.size - D.length)) ⟨n,t,o⟩ (λs'=>Q .normal s')) \/
   ∃oa ob ty' ty2 zs d v g,ops[D.length]? = some oa/\oa.guard=none/\oa.op=.alloc ty'/\dn n oa.dst=true/\zer P ty'=some zs /\
   ops[D.length+1]? = some ob/\ob.guard=none/\ob.op=.store ty2 (.tmp d) (.tmp v)/\ob.dst=none/\oa.dst=some d/\v≠d/\ty P ty2=some (g,zs.length)/\(T t v).elem zs.length=true/\(T t v).cells.all AV.one=true/\drawOK ops (D.map Prod.snd++[[],kills t [.tmp v]])=true /\
   ∀b,iy o b->iR L P ops (range' (D.length+2) (ops.size - (D.length+2))) ⟨n,upd ob .dead (kills t [.tmp v]) (upd oa (.ptr b 0) [] t),(b,some (T t v).cells)::o⟩ (λs'=>Q .normal s')) 0 t []:=by
  refine h'.mono λt D h=>?_;rcases h.out with h|⟨oa,ob,ty',ty2,zs,d,v,g,h1,h2,h3,h4,h5,h6,h7,h8,h9,h10,h11,h12,h13,h14,h15,h16⟩
  ·exact .inl ⟨h.1,hm h.2⟩
  ·exact .inr ⟨oa,ob,ty',ty2,zs,d,v,g,h1,h2,h3,h4,h5,h6,h7,h8,h9,h10,h11,h12,h13,h14,h15,λb hb=>hm (h16 b hb)⟩
 rcases h2.or with h2|h2
 ·exact AW.draw h2
 ·exact AW.Zb h2
end
section
variable {L : Nat -> Nat} {P : Program} {n : Nat} {t : List (Nat × AV)} {o : Sto} {Q : Exit -> AS -> Prop} {id : Nat} {ops : Array Oper}
def TailC.mono{D:List (AV×List Nat)}{R R':List Nat->faa->Sto->Prop}(hR:∀l t o,R l t o->R' l t o)(h:TailC P ops n o D t R):TailC P ops n o D t R':=by
 unfold TailC at h ⊢;revert h
 repeat' split
 all_goals first
  | exact λh=>h
  | exact λh=>⟨h.1,hR _ _ _ h.2⟩
  | exact λ⟨h1,h2,h3,h4,h5⟩=>⟨h1,h2,h3,h4,λb hb=>hR _ _ _ (h5 b hb)⟩
theorem AW.Za [iS P] (h:∀K:faa->List (AV×List Nat)->Prop,(∀t D,TailC P ops n o D t (λl t o=>∀K':faa->Sto->Prop,(∀t o,Q .normal ⟨n,t,o⟩->K' t o)->Wn L P ops n K' l [] t o)->K t D) ->
   W L P ops [] n o (λt D _=>K t D) (range' 0 ops.size) t []):AW L P (.region id ops true) ⟨n,t,o⟩ Q :=
 AW.Rs (K0:=λs=>Q .normal s) (λ_ h=>h) λK hK=>h K λt D h=>hK t D (h.mono λ_ _ _ h=>Wn.pR (K:=λt o=>Q .normal ⟨n,t,o⟩) (λ_ _ h=>h) _ _ _ (h _ (λ_ _ h=>h)))
theorem AW.UX [iS P]{c:Code} (h:∀K:faa->List (AV×List Nat)->Prop,(∀t D,TailC P ops n o D t (λl t o=>∀K':faa->Sto->Prop,(∀t o,AW L P c ⟨n,t,o⟩ Q->K' t o)->Wn L P ops n K' l [] t o)->K t D) ->
   W L P ops [] n o (λt D _=>K t D) (range' 0 ops.size) t []):AW L P (.seq (.region id ops true) c) ⟨n,t,o⟩ Q :=
 AW.seq (AW.Rs (K0:=λs=>AW L P c s Q) (λ_ h=>h) λK hK=>h K λt D h=>hK t D (h.mono λ_ _ _ h=>Wn.pR (K:=λt o=>AW L P c ⟨n,t,o⟩ Q) (λ_ _ h=>h) _ _ _ (h _ (λ_ _ h=>h))))
instance (priority:=2000) kO [iS P]:Rz (AW L P (.region id ops true) ⟨n,t,o⟩ Q) (∀K:faa->List (AV×List Nat)->Prop,(∀t D,TailC P ops n o D t (λl t o=>∀K':faa->Sto->Prop,(∀t o,Q .normal ⟨n,t,o⟩->K' t o)->Wn L P ops n K' l [] t o)->K t D) ->
   W L P ops [] n o (λt D _=>K t D) (range' 0 ops.size) t []):=⟨AW.Za⟩
instance (priority:=2000) ju [iS P]{c:Code}:Rz (AW L P (.seq (.region id ops true) c) ⟨n,t,o⟩ Q) (∀K:faa->List (AV×List Nat)->Prop,(∀t D,TailC P ops n o D t (λl t o=>∀K':faa->Sto->Prop,(∀t o,AW L P c ⟨n,t,o⟩ Q->K' t o)->Wn L P ops n K' l [] t o)->K t D) ->
   W L P ops [] n o (λt D _=>K t D) (range' 0 ops.size) t []):=⟨AW.UX⟩
attribute [go_sem] TailC
instance (priority:=2000) cPf{L:gaa}{P:Program}{os:Sto}{la:List AV}{f:FuncId}{args:List AV}{G:Bool}{K:AV->Prop}{res:AV}{cs:List (Option (List AV))}{pre:Prop}[h:Ctr L P f [] args res cs pre]:Rl (CallP L P os la G f args (K:=⟨K⟩)) (AV.nownL args=true/\(G=true->pre)/\K res.frz) :=
 ⟨λq=>haveI:Ctr L P f [] args res.frz [] pre:=Ctr.kK h.en λhp=>(h.pure hp).frz;CallP.ctr q.1 q.2.1 q.2.2⟩
end
end Go.Ab
namespace Go.Proofs
open Go.Ab Go.Dt
section
attribute [-instance] eQ ju kO
attribute [local go_sem] bD aS bk eI eH fY iE iM
def Q4(l:List ah):AV.cl (l.map (ai false))=l.map (ai false):=jF _ _ (λx=>by rw[bO];rfl) l
attribute [local go_sem] Q4
instance(s:List ag)(l:List ah)(nm v:Str)(ks:List ah):Ctr lim prog 178 [] [.ab 19 ak (dk s),.ab 3 ai (l),.agg [.str nm,.str v,.ab 3 ai (ks)]] (.tup [.ab 3 ai (ins s l (.mk nm v ks)),.ac true]) [] (0<=idx (nmP nm) (dk s)/\l.length<=4194304/\J s l/\kyB (nd s nm) (.mk nm v ks)=true/\∀y∈l,¬same s (.mk nm v ks) y):=LY s l (.mk nm v ks)
instance(s:List ag)(l:List ah)(nm v:Str):Ctr lim prog 178 [] [.ab 19 ak (dk s),.ab 3 ai (l),.agg [.str nm,.str v,.sl false 3 []]] (.tup [.ab 3 ai (ins s l (.mk nm v [])),.ac true]) [] (0<=idx (nmP nm) (dk s)/\l.length<=4194304/\J s l/\kyB (nd s nm) (.mk nm v [])=true/\∀y∈l,¬same s (.mk nm v []) y):=LY s l (.mk nm v [])
theorem U7(N:Nat)(ih:∀(s:List ag) (l:List ah) (es:List aI),Ctr lim prog 208 [] [.ab 19 ak s,.ab 3 ai (l),.ab 4 dE (es)] (.tup [.ab 3 ai ((mdE es s l).1),.aa (mdE es s l).2]) [] (SizeOf.sizeOf es<N/\gdS s/\wtS s<=1048576/\cnt l+fC es<=4194304/\wtE es<=1048576/\J s l))(s:List ag)(l:List ah)(e:aI)(v:Str):Ctr lim prog 300 [] [.ab 19 ak s,.agg (cSc (at_ (dk s) (idx (nmP e.ae) (dk s)).toNat)),.ab 3 ai (l),.agg (cEd e),.str v] (.tup [.ab 3 ai ((crt (mdE e.af) s l (nd s e.ae) e).1),.aa (crt (mdE e.af) s l (nd s e.ae) e).2]) [] (SizeOf.sizeOf e.af<N/\gdS s/\0<=idx (nmP e.ae) (dk s)/\((nd s e.ae).aj=2->ep (nd s e.ae) e.af=true)/\wtS s<=1048576/\l.length<=4194304/\J s l/\(∀y∈l,¬same s (cv (nd s e.ae) e) y)/\fC e.af<=4194304/\wtE e.af<=1048576/\((nd s e.ae).aj=3\/(nd s e.ae).aj=4->v=cvS (nd s e.ae).fType e.aq)/\(¬((nd s e.ae).aj=3\/(nd s e.ae).aj=4)->v=[])):=by
 haveI ihN:∀(s:List ag) (es:List aI),Ctr lim prog 208 [] [.ab 19 ak s,.v (.slice none 0 0),.ab 4 dE (es)] (.tup [.ab 3 ai ((mdE es s []).1),.aa (mdE es s []).2]) [] (SizeOf.sizeOf es<N/\gdS s/\wtS s<=1048576/\cnt []+fC es<=4194304/\wtE es<=1048576/\J s []):=λs es=>(ih s [] es).view λF w vs fp r=>au.at (l:=[.ab 19 ak s]) (x:=.v (.slice none 0 0)) (x':=.sl false 3 []) (l2:=[.ab 4 dE (es)]) Rep.fL _ _ r
 haveI hDK:∀l:List ag,Ctr lim prog 116 [] [.ab 19 ak l] (.ad 19 ak (dk l)) [] (bR l<=1048576):=λl=>⟨(aT 116),λc=>(pT (SizeOf.sizeOf l+1) l).out ⟨Nat.lt_succ_self _,c⟩⟩
 refine Ctr.bd func300 ntmps300 λhp=>?_;have gOn:=bI.on;obtain⟨hN,hg,hi,hk,hs,hl,hJ,hfr,hce,hwe,hv1,hv2⟩:=hp;have hcs:=gV s
 have hc0:cnt ([]:List ah)=0:=j5
 have hnm:=gR hi
 have hgk:=(o4 hg hnm.2).1
 have hwk:=jR _ _ hnm.2
 have ae5:wtS ((at_ (dk s) (idx (nmP e.ae) (dk s)).toNat)).af<=1048576:=by
  show wtS (nd s e.ae).af<=_;omega
 have hJ0:J ((at_ (dk s) (idx (nmP e.ae) (dk s)).toNat)).af []:=Ck
 have hni:0<=idx (nmP ((at_ (dk s) (idx (nmP e.ae) (dk s)).toNat)).ae) (dk s):=by
  have:((at_ (dk s) (idx (nmP e.ae) (dk s)).toNat)).ae=e.ae:=hnm.1;rw[this];exact hi
 have hkd:=CP hi
 have hJw:J s (wo s ((at_ (dk s) (idx (nmP e.ae) (dk s)).toNat)).ae l):=Cj (rv _ _ _) hJ
 have hlw:(wo s ((at_ (dk s) (idx (nmP e.ae) (dk s)).toNat)).ae l).length<=l.length:=(rv _ _ _).length_le
 have hwo:(l.filter λy=>!cont (jq s ((at_ (dk s) (idx (nmP e.ae) (dk s)).toNat)).ae) y.ae)=wo s ((at_ (dk s) (idx (nmP e.ae) (dk s)).toNat)).ae l:=rfl
 have hol:=FM s ((at_ (dk s) (idx (nmP e.ae) (dk s)).toNat)).ae
 (refine vK1 ?_;intro h)
 rename Nat=>b2
 refine AW.imp (Imp.frz 12 ?_);refine gS ?_;refine AW.imp (Imp.j9 (b:=b2) 3 [.str ((at_ (dk s) (idx (nmP e.ae) (dk s)).toNat)).ae,.str v] [] gO ?_);refine gS ?_;refine AW.c (λh=>?_) λh=>?_
 ·have hnl:¬((nd s e.ae).aj=3\/(nd s e.ae).aj=4):=by
   show ¬(((at_ (dk s) (idx (nmP e.ae) (dk s)).toNat)).aj=3\/((at_ (dk s) (idx (nmP e.ae) (dk s)).toNat)).aj=4);omega
  have hv:=hv2 hnl;subst hv;clear h;refine vK1 ?_;refine AW.c (λh=>?_) λh=>?_
  ·refine vX1 ?_;refine AW.imp (Imp.iB 10 (x:=.v (.slice none 0 0)) (x':=.sl false 3 []) gO (λ_ _ _ _ r=>Rep.fL _ _ r) ?_);refine vU1 ?_;rw[crt,if_neg hnl,if_pos h];try rfl
  have hr0:(mdE e.af (nd s e.ae).af []).2=0:=h;clear h;have hpk:=OZ hg hi hk hfr (rok e.af hgk) hnl hr0
  have hp1:=hpk.1
  have hp2:=hpk.2
  have hz:(mdE e.af (nd s e.ae).af []).1=[]↔((mdE e.af (nd s e.ae).af []).1.length:Int)=0:=by
   rw[<- length_eq_zero_iff];omega
  refine vK1 ?_;refine AW.c (λh=>?_) λh=>?_
  ·refine vU1 ?_;rw[crt,if_neg hnl,if_neg (λc=>c hr0),if_pos (by grind)];try rfl
  ·have hcn:¬((nd s e.ae).aj=1/\(nd s e.ae).bQ=false/\(mdE e.af (nd s e.ae).af []).1=[]):=by grind
   clear h
   (refine vQ2 hwo ?_ ?_<;>with_reducible repeat first|intro(K:_->_->Prop) hK|intro h)
   ·exact hp2 _ baa
   rw[crt,if_neg hnl,if_neg (λc=>c hr0),if_neg hcn];try rfl
 ·have hlf:(nd s e.ae).aj=3\/(nd s e.ae).aj=4:=by
   show ((at_ (dk s) (idx (nmP e.ae) (dk s)).toNat)).aj=3\/((at_ (dk s) (idx (nmP e.ae) (dk s)).toNat)).aj=4
   have:((at_ (dk s) (idx (nmP e.ae) (dk s)).toNat)).aj=1\/((at_ (dk s) (idx (nmP e.ae) (dk s)).toNat)).aj=2\/((at_ (dk s) (idx (nmP e.ae) (dk s)).toNat)).aj=3\/((at_ (dk s) (idx (nmP e.ae) (dk s)).toNat)).aj=4:=hkd;omega
  have hv:=hv1 hlf;subst hv;have hpl:=OY hi hfr hlf
  have hp1:=hpl.1
  have hp2:=hpl.2;clear h;refine vK1 ?_;refine AW.c (λh=>?_) λh=>?_
  ·exfalso;have:((at_ (dk s) (idx (nmP e.ae) (dk s)).toNat)).aj=3\/((at_ (dk s) (idx (nmP e.ae) (dk s)).toNat)).aj=4:=hlf;omega
  clear h
  (refine vQ2 hwo ?_ ?_<;>with_reducible repeat first|intro(K:_->_->Prop) hK|intro h)
  ·exact hp2 _ baa
  rw[crt,if_pos hlf];try rfl
end
section
attribute [-instance] eQ ju kO
attribute [local go_sem] bD aS bk eI eH fY iE iM
def WJ{R:Rec}{s:List ag}{l:List ah}{e:aI}(h0:¬idx (nmP e.ae) (dk s)<0)(h:¬chC (nd s e.ae) e=0):one R s l e=([],chC (nd s e.ae) e):=by
 by_cases hw:wrg (nd s e.ae) e=0
 ·by_cases hk:(nd s e.ae).aj=2/\ep (nd s e.ae) e.af=false
  ·rw[MA h0 hw hk,chC,if_neg (λc=>c hw),if_pos hk]
  ·exact absurd (by rw[chC,if_neg (λc=>c hw),if_neg hk]) h
 ·rw[Mv h0 hw,Ca hw]
def Zg{n:ag}{e:aI}(h:chC n e=0):wrg n e=0/\¬(n.aj=2/\ep n e.af=false):=by
 by_cases hw:wrg n e=0
 ·refine⟨hw,λc=>?_⟩;rw[chC,if_neg (λc=>c hw),if_pos c]at h;exact absurd h daa
 ·rw[Ca hw]at h;exact absurd h hw
attribute [local go_sem] Q4
theorem U0(N:Nat)(ih:∀(s:List ag) (l:List ah) (es:List aI),Ctr lim prog 208 [] [.ab 19 ak s,.ab 3 ai (l),.ab 4 dE (es)] (.tup [.ab 3 ai ((mdE es s l).1),.aa (mdE es s l).2]) [] (SizeOf.sizeOf es<N/\gdS s/\wtS s<=1048576/\cnt l+fC es<=4194304/\wtE es<=1048576/\J s l))(s:List ag)(l:List ah)(e:aI):Ctr lim prog 265 [] [.ab 19 ak s,.ab 3 ai (l),.agg (cEd e)] (.tup [.ab 3 ai ((one (mdE e.af) s l e).1),.aa (one (mdE e.af) s l e).2]) [] (SizeOf.sizeOf e.af<N/\gdS s/\wtS s<=1048576/\cnt l+(1+fC e.af)<=4194304/\(e.ae.length<=1048576/\e.aq.length<=1048576/\wtE e.af<=1048576)/\J s l):=by
 haveI ad:=U7 N ih;refine Ctr.bd func265 ntmps265 λhp=>?_;have gOn:=bI.on;obtain⟨hN,hg,hs,hc,hw0,hJ⟩:=hp;have hcs:=gV s
 have hll:=Gn l
 have hel:=Gp e.af
 have qz:=v7 e.af
 have hex:∀x∈e.af,x.aq.length<=1048576:=λx hx=>by have:=yd hx;omega
 have hix:=fV (p:=nmP e.ae) (dk s);refine vK1 ?_;refine AW.c (λh=>?_) λh=>?_
 ·refine vX1 ?_;refine AW.imp (Imp.iB 6 (x:=.v (.slice none 0 0)) (x':=.sl false 3 []) gO (λ_ _ _ _ r=>Rep.fL _ _ r) ?_);refine vU1 ?_;rw[Mx h];try rfl
 have h0:¬idx (nmP e.ae) (dk s)<0:=by omega
 clear h;have hi:0<=idx (nmP e.ae) (dk s):=by omega
 have hnm:((at_ (dk s) (idx (nmP e.ae) (dk s)).toNat)).ae=e.ae/\(at_ (dk s) (idx (nmP e.ae) (dk s)).toNat)∈dk s:=gR Um
 have hgk:gdS ((at_ (dk s) (idx (nmP e.ae) (dk s)).toNat)).af:=(o4 hg hnm.2).1
 have hwk:wtS ((at_ (dk s) (idx (nmP e.ae) (dk s)).toNat)).af<=1048576:=by
  have:=jR _ _ hnm.2;omega
 have hk3:=JC hg hnm.2
 have hks:((at_ (dk s) (idx (nmP e.ae) (dk s)).toNat)).aj=2->KyS (at_ (dk s) (idx (nmP e.ae) (dk s)).toNat):=λ_=>⟨Wl hg hnm.2,hk3,λq hq=>(C8 hg hnm.2 q hq).2.2⟩
 have hkd:((at_ (dk s) (idx (nmP e.ae) (dk s)).toNat)).aj=1\/((at_ (dk s) (idx (nmP e.ae) (dk s)).toNat)).aj=2\/((at_ (dk s) (idx (nmP e.ae) (dk s)).toNat)).aj=3\/((at_ (dk s) (idx (nmP e.ae) (dk s)).toNat)).aj=4:=CP hi
 have aff:1<=((at_ (dk s) (idx (nmP e.ae) (dk s)).toNat)).aj:=by omega
 have afe:((at_ (dk s) (idx (nmP e.ae) (dk s)).toNat)).aj<=4:=by omega
 have hjy:∀y∈l,y.ae=((at_ (dk s) (idx (nmP e.ae) (dk s)).toNat)).ae->kyB (at_ (dk s) (idx (nmP e.ae) (dk s)).toNat) y=true:=λy hy c=>by
  have:=((nX.1 hJ).1 y hy).2.1;rw[c,hnm.1]at this;exact this
 (refine vK3 ?_ ?_ ?_<;>with_reducible repeat intro h)
 ·exact hks h
 ·exact hex _ baa
 refine AW.c (λh=>?_) λh=>?_
 ·refine vX1 ?_;refine AW.imp (Imp.iB 6 (x:=.v (.slice none 0 0)) (x':=.sl false 3 []) gO (λ_ _ _ _ r=>Rep.fL _ _ r) ?_);refine vU1 ?_;rw[WJ h0 h];try rfl
 have hch:chC (nd s e.ae) e=0:=h;obtain⟨hw,hk⟩:=Zg hch;have hop:=QH hw;clear h
 have hk2:(nd s e.ae).aj=2->ep (nd s e.ae) e.af=true:=λc=>by
  cases z:ep (nd s e.ae) e.af with
  | true=>rfl
  | false=>exact absurd ⟨c,z⟩ hk
 have hfs:idx (fsP (at_ (dk s) (idx (nmP e.ae) (dk s)).toNat) (chV (at_ (dk s) (idx (nmP e.ae) (dk s)).toNat) e) (chK (at_ (dk s) (idx (nmP e.ae) (dk s)).toNat) e)) l=fnd (at_ (dk s) (idx (nmP e.ae) (dk s)).toNat) l (cv (at_ (dk s) (idx (nmP e.ae) (dk s)).toNat) e):=by
  refine Wm (xo hk2) hjy (λc=>?_) (λc=>?_)
  ·rw[chV,if_pos ⟨hch,.inl c⟩,vC c]
  ·rw[chK,if_pos ⟨hch,c⟩,Tc c (hk2 c)]
 refine vK1 ?_;simp only[hfs];have hjd:J s (dl l (fnd (at_ (dk s) (idx (nmP e.ae) (dk s)).toNat) l (cv (at_ (dk s) (idx (nmP e.ae) (dk s)).toNat) e))):=Cj (BZ _ _) hJ
 have hfr:∀y∈dl l (fnd (at_ (dk s) (idx (nmP e.ae) (dk s)).toNat) l (cv (at_ (dk s) (idx (nmP e.ae) (dk s)).toNat) e)),¬same s (cv (nd s e.ae) e) y:=λy hy=>fresh hg hJ hi hk2 y hy
 have hdl:(dl l (fnd (at_ (dk s) (idx (nmP e.ae) (dk s)).toNat) l (cv (at_ (dk s) (idx (nmP e.ae) (dk s)).toNat) e))).length<=l.length:=(BZ _ _).length_le
 have hfl:fnd (at_ (dk s) (idx (nmP e.ae) (dk s)).toNat) l (cv (at_ (dk s) (idx (nmP e.ae) (dk s)).toNat) e)<l.length:=fV _
 have hva:(nd s e.ae).aj=3\/(nd s e.ae).aj=4->e.fOp<4->chV (at_ (dk s) (idx (nmP e.ae) (dk s)).toNat) e=cvS (nd s e.ae).fType e.aq:=λc d=>by
  show chV (nd s e.ae) e=_;rw[chV,if_pos ⟨hch,Um⟩]
 have hvb:¬((nd s e.ae).aj=3\/(nd s e.ae).aj=4)->chV (at_ (dk s) (idx (nmP e.ae) (dk s)).toNat) e=[]:=λc=>by
  show chV (nd s e.ae) e=_;rw[chV,if_neg (by rintro⟨_,d⟩;omega)]
 by_cases hf0:fnd (at_ (dk s) (idx (nmP e.ae) (dk s)).toNat) l (cv (at_ (dk s) (idx (nmP e.ae) (dk s)).toNat) e)<0
 ·have aca:dl l (fnd (at_ (dk s) (idx (nmP e.ae) (dk s)).toNat) l (cv (at_ (dk s) (idx (nmP e.ae) (dk s)).toNat) e))=l:=by rw[dl,if_neg Um]
  refine AW.c (λh=>?_) λh=>?_
  ·exfalso;omega
  clear h;refine vK1 ?_;refine AW.c (λh=>?_) λh=>?_
  ·have ho:e.fOp=4:=by omega
   refine vX1 ?_;refine AW.imp (Imp.iB 6 (x:=.v (.slice none 0 0)) (x':=.sl false 3 []) gO (λ_ _ _ _ r=>Rep.fL _ _ r) ?_);refine vU1 ?_;rw[Mz h0 hw hk hf0 ho];try rfl
  have ho4:¬e.fOp=4:=by omega
  clear h;refine vK1 ?_;refine AW.c (λh=>?_) λh=>?_
  ·refine vU1 ?_;rw[MF h0 hw hk (.inr Um)];try rfl
  have ho5:¬e.fOp=5:=by omega
  have hv1:(nd s e.ae).aj=3\/(nd s e.ae).aj=4->chV (at_ (dk s) (idx (nmP e.ae) (dk s)).toNat) e=cvS (nd s e.ae).fType e.aq:=λc=>hva c Um;clear h;refine vK1 ?_;refine AW.c (λh=>?_) λh=>?_
  ·(refine vU4 ?_ ?_ ?_ ?_<;>with_reducible repeat intro h)
   ·exact hfr _ baa
   ·exact hv1 baa
   ·exact hvb baa
   rw[Q3 h0 hw hk Um];try rfl
  clear h;rw[aca]at hjd hfr;refine vK1 ?_;refine AW.c (λh=>?_) λh=>?_
  ·(refine vU4 ?_ ?_ ?_ ?_<;>with_reducible repeat intro h)
   ·exact hfr _ baa
   ·exact hv1 baa
   ·exact hvb baa
   rw[Q2 h0 hw hk hf0 ho4 ho5];try rfl
  ·exfalso;omega
 obtain⟨k,hf⟩:∃k:Nat,fnd (at_ (dk s) (idx (nmP e.ae) (dk s)).toNat) l (cv (at_ (dk s) (idx (nmP e.ae) (dk s)).toNat) e)=k:=⟨(fnd (at_ (dk s) (idx (nmP e.ae) (dk s)).toNat) l (cv (at_ (dk s) (idx (nmP e.ae) (dk s)).toNat) e)).toNat,Um⟩
 have hkl:k<l.length:=by omega
 have hck:=JO (at_mem hkl);refine AW.c (λh=>?_) λh=>?_
 ·have ho:e.fOp=3:=by omega
  refine vX1 ?_;refine AW.imp (Imp.iB 6 (x:=.v (.slice none 0 0)) (x':=.sl false 3 []) gO (λ_ _ _ _ r=>Rep.fL _ _ r) ?_);refine vU1 ?_;rw[MC h0 hw hk hf ho];try rfl
 have ho3:¬e.fOp=3:=by omega
 clear h;refine vK1 ?_;refine AW.c (λh=>?_) λh=>?_
 ·exfalso;omega
 clear h;refine vK1 ?_;refine AW.c (λh=>?_) λh=>?_
 ·refine vU1 ?_;rw[MF h0 hw hk (by show e.fOp=4/\¬fnd (at_ (dk s) (idx (nmP e.ae) (dk s)).toNat) l (cv (at_ (dk s) (idx (nmP e.ae) (dk s)).toNat) e)<0\/e.fOp=5;omega)];try rfl
 have ae8:¬(e.fOp=4\/e.fOp=5):=by omega
 have hv1:(nd s e.ae).aj=3\/(nd s e.ae).aj=4->chV (at_ (dk s) (idx (nmP e.ae) (dk s)).toNat) e=cvS (nd s e.ae).fType e.aq:=λc=>hva c Um;clear h;refine vK1 ?_;refine AW.c (λh=>?_) λh=>?_
 ·(refine vU4 ?_ ?_ ?_ ?_<;>with_reducible repeat intro h)
  ·exact hfr _ baa
  ·exact hv1 baa
  ·exact hvb baa
  rw[Q3 h0 hw hk Um];try rfl
 have ho1:e.fOp=1:=by omega
 clear h;refine vK1 ?_;refine AW.c (λh=>?_) λh=>?_
 ·exfalso;omega
 clear h;simp only[hf];have hhit:=Da hg hJ hi hk2 (by show 0<=fnd (at_ (dk s) (idx (nmP e.ae) (dk s)).toNat) l (cv (at_ (dk s) (idx (nmP e.ae) (dk s)).toNat) e);omega)
 have hsm:same s (cv (at_ (dk s) (idx (nmP e.ae) (dk s)).toNat) e) (at_ l k):=by
  have:=hhit.2
  have e2:(fnd (nd s e.ae) l (cv (nd s e.ae) e)).toNat=k:=by
   show (fnd (at_ (dk s) (idx (nmP e.ae) (dk s)).toNat) l (cv (at_ (dk s) (idx (nmP e.ae) (dk s)).toNat) e)).toNat=k;omega
  rw[e2]at this;exact this
 have hna:((at_ (dk s) (idx (nmP e.ae) (dk s)).toNat)).ae=(at_ l k).ae:=hsm.1
 have hjx:=(nX.1 hJ).1 _ (at_mem hkl)
 have hnd:nd s (at_ l k).ae=(at_ (dk s) (idx (nmP e.ae) (dk s)).toNat):=by rw[<- hna,hnm.1]
 have hjk:((at_ (dk s) (idx (nmP e.ae) (dk s)).toNat)).aj=1\/((at_ (dk s) (idx (nmP e.ae) (dk s)).toNat)).aj=2->(at_ l k).aq=[]/\J ((at_ (dk s) (idx (nmP e.ae) (dk s)).toNat)).af (at_ l k).af:=λc=>by
  have:=hjx.2.2 (by rw[hnd];exact c);rw[hnd]at this;exact this
 have hmg:=MD (R:=mdE e.af) h0 hw hk hf ho1;refine vN1 ?_
 first|refine AW.Fv ?_|refine AW.Lp ?_
 (refine vN1 ?_;intro h h)
 rename Nat=>bx
 refine vK1 ?_;refine AW.c (λh=>?_) λh=>?_
 ·have hbk:((at_ (dk s) (idx (nmP e.ae) (dk s)).toNat)).aj=1\/((at_ (dk s) (idx (nmP e.ae) (dk s)).toNat)).aj=2:=h;obtain⟨hav,hJk⟩:=hjk hbk;have h3:¬((at_ (dk s) (idx (nmP e.ae) (dk s)).toNat)).aj=3:=by omega
  have hvv:chV (at_ (dk s) (idx (nmP e.ae) (dk s)).toNat) e=[]:=hvb (by show ¬(((at_ (dk s) (idx (nmP e.ae) (dk s)).toNat)).aj=3\/((at_ (dk s) (idx (nmP e.ae) (dk s)).toNat)).aj=4);omega);clear h;refine vK1 ?_;refine AW.c (λh=>?_) λh=>?_
  ·refine vX1 ?_;refine AW.imp (Imp.iB 6 (x:=.v (.slice none 0 0)) (x':=.sl false 3 []) gO (λ_ _ _ _ r=>Rep.fL _ _ r) ?_);refine vU1 ?_;rw[hmg,mrg,if_neg h3,if_pos hbk,if_pos h];try rfl
  have hr0:(mdE e.af (at_ (dk s) (idx (nmP e.ae) (dk s)).toNat).af (at_ l k).af).2=0:=h;clear h
  have hz:(mdE e.af (at_ (dk s) (idx (nmP e.ae) (dk s)).toNat).af (at_ l k).af).1=[]↔((mdE e.af (at_ (dk s) (idx (nmP e.ae) (dk s)).toNat).af (at_ l k).af).1.length:Int)=0:=by
   rw[<- length_eq_zero_iff];omega
  refine vK1 ?_;refine AW.c (λh=>?_) λh=>?_
  ·refine vU1 ?_;rw[hmg,mrg,if_neg h3,if_pos hbk,if_neg (λc=>c hr0),if_pos (by grind),dl,if_pos Um];try rfl
  ·have hcn:¬(((at_ (dk s) (idx (nmP e.ae) (dk s)).toNat)).aj=1/\((at_ (dk s) (idx (nmP e.ae) (dk s)).toNat)).bQ=false/\(mdE e.af (at_ (dk s) (idx (nmP e.ae) (dk s)).toNat).af (at_ l k).af).1=[]):=by grind
   clear h;refine vN1 ?_
   (refine Z ?_;refine λ(K:_->_->Prop) hK=>?_;refine gS ?_)
   refine vN1 ?_;refine AW.imp (Imp.pj 18 (sz:=3) (l:=l.map (ai false)) gO (fU _) (λb hb=>?_) (λhnil=>?_))
   rotate_left
   ·rw[map_eq_nil_iff]at hnil;rw[hnil]at hkl;exact absurd hkl (Nat.not_lt_zero _)
   have hb1:=hb.nf;simp only[go_sem]at hb1;rw[length_map,wu hkl];have hpl:(((l.take k).map (ai false)).flatMap AV.cells).length=k * 3:=by rw[uE,length_take];congr 1;omega
   have hql:=uE (l.drop (k+1));generalize hpre:((l.take k).map (ai false)).flatMap AV.cells=pre at *;generalize hpost:((l.drop (k+1)).map (ai false)).flatMap AV.cells=post at *;refine gS ?_;have hset:((l.set k (.mk (at_ (dk s) (idx (nmP e.ae) (dk s)).toNat).ae (chV (at_ (dk s) (idx (nmP e.ae) (dk s)).toNat) e) (mdE e.af (at_ (dk s) (idx (nmP e.ae) (dk s)).toNat).af (at_ l k).af).1)).map (ai false)).flatMap AV.cells=(pre++.str (at_ (dk s) (idx (nmP e.ae) (dk s)).toNat).ae::.str (chV (at_ (dk s) (idx (nmP e.ae) (dk s)).toNat) e)::.sl false 3 (((mdE e.af (at_ (dk s) (idx (nmP e.ae) (dk s)).toNat).af (at_ l k).af).1).map (ai false))::post):=by rw[wX hkl,hpre,hpost];rfl
   have hlen:(pre++.str (at_ (dk s) (idx (nmP e.ae) (dk s)).toNat).ae::.str (chV (at_ (dk s) (idx (nmP e.ae) (dk s)).toNat) e)::.sl false 3 (((mdE e.af (at_ (dk s) (idx (nmP e.ae) (dk s)).toNat).af (at_ l k).af).1).map (ai false))::post).length=l.length * 3:=by
    simp only[length_append,length_cons,hpl,hql,length_drop];omega
   refine vX1 ?_;refine AW.imp (Imp.fold 6 (b:=b) (len:=l.length) (sz:=3) (cells:=(pre++.str (at_ (dk s) (idx (nmP e.ae) (dk s)).toNat).ae::.str (chV (at_ (dk s) (idx (nmP e.ae) (dk s)).toNat) e)::.sl false 3 (((mdE e.af (at_ (dk s) (idx (nmP e.ae) (dk s)).toNat).af (at_ l k).af).1).map (ai false))::post)) (l:=(l.set k (.mk (at_ (dk s) (idx (nmP e.ae) (dk s)).toNat).ae (chV (at_ (dk s) (idx (nmP e.ae) (dk s)).toNat) e) (mdE e.af (at_ (dk s) (idx (nmP e.ae) (dk s)).toNat).af (at_ l k).af).1)).map (ai false)) gO (by simp(maxSteps:=2000000) (disch:=omega)only[go_sem];rw[take_left' hpl]) Xp (by rw[take_of_length_le (by rw[hlen];exact Nat.le_refl _)];exact hset) (fU _) ?_);refine AW.imp (Imp.frz 6 ?_);refine gS ?_;refine vU1 ?_;rw[hmg,mrg,if_neg h3,if_pos hbk,if_neg (λc=>c hr0),if_neg hcn,hvv,hna,hav];try rfl
 ·have hbk:¬(((at_ (dk s) (idx (nmP e.ae) (dk s)).toNat)).aj=1\/((at_ (dk s) (idx (nmP e.ae) (dk s)).toNat)).aj=2):=by omega
  clear h;refine vK1 ?_;refine AW.c (λh=>?_) λh=>?_
  ·exfalso;omega
  clear h;refine vN1 ?_
  (refine Z ?_;refine λ(K:_->_->Prop) hK=>?_;refine gS ?_)
  refine vN1 ?_;refine AW.imp (Imp.pj 18 (sz:=3) (l:=l.map (ai false)) gO (fU _) (λb hb=>?_) (λhnil=>?_))
  rotate_left
  ·rw[map_eq_nil_iff]at hnil;rw[hnil]at hkl;exact absurd hkl (Nat.not_lt_zero _)
  have hb1:=hb.nf;simp only[go_sem]at hb1;rw[length_map,wu hkl];have hpl:(((l.take k).map (ai false)).flatMap AV.cells).length=k * 3:=by rw[uE,length_take];congr 1;omega
  have hql:=uE (l.drop (k+1));generalize hpre:((l.take k).map (ai false)).flatMap AV.cells=pre at *;generalize hpost:((l.drop (k+1)).map (ai false)).flatMap AV.cells=post at *;refine gS ?_;have hset:((l.set k (.mk (at_ (dk s) (idx (nmP e.ae) (dk s)).toNat).ae (chV (at_ (dk s) (idx (nmP e.ae) (dk s)).toNat) e) (at_ l k).af)).map (ai false)).flatMap AV.cells=(pre++.str (at_ (dk s) (idx (nmP e.ae) (dk s)).toNat).ae::.str (chV (at_ (dk s) (idx (nmP e.ae) (dk s)).toNat) e)::.ab 3 ai ((at_ l k).af)::post):=by rw[wX hkl,hpre,hpost];rfl
  have hlen:(pre++.str (at_ (dk s) (idx (nmP e.ae) (dk s)).toNat).ae::.str (chV (at_ (dk s) (idx (nmP e.ae) (dk s)).toNat) e)::.ab 3 ai ((at_ l k).af)::post).length=l.length * 3:=by
   simp only[length_append,length_cons,hpl,hql,length_drop];omega
  refine vX1 ?_;refine AW.imp (Imp.fold 6 (b:=b) (len:=l.length) (sz:=3) (cells:=(pre++.str (at_ (dk s) (idx (nmP e.ae) (dk s)).toNat).ae::.str (chV (at_ (dk s) (idx (nmP e.ae) (dk s)).toNat) e)::.ab 3 ai ((at_ l k).af)::post)) (l:=(l.set k (.mk (at_ (dk s) (idx (nmP e.ae) (dk s)).toNat).ae (chV (at_ (dk s) (idx (nmP e.ae) (dk s)).toNat) e) (at_ l k).af)).map (ai false)) gO (by simp(maxSteps:=2000000) (disch:=omega)only[go_sem];rw[take_left' hpl]) Xp (by rw[take_of_length_le (by rw[hlen];exact Nat.le_refl _)];exact hset) (fU _) ?_);refine AW.imp (Imp.frz 6 ?_);refine gS ?_;refine vU1 ?_;by_cases h3:(at_ (dk s) (idx (nmP e.ae) (dk s)).toNat).aj=3
  ·rw[hmg,mrg,if_pos h3,<- hna,hv1 (.inl h3)];try rfl
  ·have h4:(at_ (dk s) (idx (nmP e.ae) (dk s)).toNat).aj=4:=by omega
   have enk:nd s (cv (at_ (dk s) (idx (nmP e.ae) (dk s)).toNat) e).ae=(at_ (dk s) (idx (nmP e.ae) (dk s)).toNat):=by rw[jY,hnm.1]
   have hval:chV (at_ (dk s) (idx (nmP e.ae) (dk s)).toNat) e=(at_ l k).aq:=by
    have q:=hsm.2 (by rw[enk,gM,h4];rfl);rw[enk,(gN Um).1,(gN Um).1,vC h4]at q;injection q with q
    rw[hv1 (.inr h4)];exact q
   rw[hmg,mrg,if_neg h3,if_neg hbk,SA hna hval rfl,OT hkl];try rfl
end
section
attribute [-instance] eQ
attribute [local go_sem] bD aS bk eI eH fY iE iM
theorem L9:∀(N:Nat) (s:List ag) (l:List ah) (es:List aI),Ctr lim prog 208 [] [.ab 19 ak s,.ab 3 ai (l),.ab 4 dE (es)] (.tup [.ab 3 ai ((mdE es s l).1),.aa (mdE es s l).2]) [] (SizeOf.sizeOf es<N/\gdS s/\wtS s<=1048576/\cnt l+fC es<=4194304/\wtE es<=1048576/\J s l)
 | 0,_,_,_=>⟨(aT 208),λh=>absurd h.1 (Nat.not_lt_zero _)⟩
 | N+1,s,l,es=>by
  haveI on:=U0 N (L9 N);refine Ctr.bd func208 ntmps208 λhp=>?_;have gOn:=bI.on;obtain⟨hN,hg,hs,hc,hw,hJ⟩:=hp;refine AW.f1 2 λhf=>?_;refine vK1 ?_;refine AW.aw [1,8] [0,2] (λm xs o=>∃(k:Nat) (l':List ah),xs=[.ab 3 ai (l'),.aa k]/\o=[]/\m=es.length - k/\k<=es.length/\mdE (es.drop k) s l'=mdE es s l/\cnt l'+fC (es.drop k)<=4194304/\J s l') es.length [] trivial ⟨0,l,rfl,rfl,rfl,Um,rfl,hc,hJ⟩ ?_;rintro m xs o ⟨k,l',rfl,rfl,rfl,hk,hR,hcl,hJl⟩;refine vK1 ?_;refine AW.c (λh=>?_) λh=>?_
  ·have hlk:=h
   have hwm:=yd (at_mem h)
   have hsz:=JB (at_mem h);rw[F7 h]at hR;have hcd:=Eg h
   have h1c:=CB (R:=mdE (at_ es k).af) (c:=fC (at_ es k).af) (λs l=>um _ s l) s l' (at_ es k);clear h;refine vK1 ?_;refine AW.c (λh=>?_) λh=>?_
   ·refine vX1 ?_;refine AW.imp (Imp.iB 6 (x:=.v (.slice none 0 0)) (x':=.sl false 3 []) gO (λ_ _ _ _ r=>Rep.fL _ _ r) ?_);refine vU1 ?_;rw[<- hR,if_pos h];try rfl
   ·have hJ2:=(Mw (R:=mdE (at_ es k).af) hg hJl (λn hn=>rok _ (o4 hg hn).1) h).1;rw[if_neg (λc=>c h)]at hR;refine vU1 ?_;exact⟨_,[_,_],_,Um,⟨k+1,_,rfl,rfl,rfl,Um,hR,Um,hJ2⟩,rfl,gO⟩
  ·rw[cT h,mdE]at hR;refine vU1 ?_;rw[<- hR];try rfl
instance(s:List ag)(l:List ah)(es:List aI):xX lim prog 208 [.ab 19 ak s,.ab 3 ai (l),.ab 4 dE (es)] (.tup [.ab 3 ai ((mdE es s l).1),.aa (mdE es s l).2]) (gdS s/\wtS s<=1048576/\cnt l+fC es<=4194304/\wtE es<=1048576/\J s l):=⟨(aT 208),λhp=>(L9 (SizeOf.sizeOf es+1) s l es).pure ⟨Nat.lt_succ_self _,hp⟩⟩
theorem IV:∀(n:Nat) (l:List ah) (r:Int),Ctr lim prog 114 [] [.ab 3 ai (l),.aa r] (.aa (fN l (r - l.length))) [] (cnt l<n/\n<=4194305/\0<=r/\r<=1048576)
 | 0,l,r=>⟨(aT 114),λh=>absurd h.1 (Nat.not_lt_zero _)⟩
 | n+1,l,r=>by
  have ih:=IV n;refine Ctr.bd func114 ntmps114 λhp=>?_;have hl:l.length<=cnt l:=by unfold cnt;omega
  refine vU1 ?_;refine AW.aw [1,5] [0] (λm xs o=>∃(k:Nat) (q:Int),xs=[.aa q,.aa k]/\o=[]/\m=l.length - k/\k<=l.length/\-4611686018427387904<=q/\q<=1048576/\fN (l.drop k) q=fN l (r - l.length)) l.length [] trivial ⟨0,r - l.length,?_,rfl,rfl,?_,?_,?_,rfl⟩ ?_
  ·rfl
  ·omega
  ·omega
  ·omega
  rintro m xs o ⟨k,q,rfl,rfl,rfl,hk,h0,h1,hR⟩;have hw:k<l.length->_:=N8 (l:=l) (k:=k)
  have hw2:(at_ l k).af.length<=cnt (at_ l k).af:=by unfold cnt;omega
  have h3:=yo (at_ l k).af (q - (at_ l k).af.length)
  (refine vU2 ?_ ?_<;>intro h)
  ·have h4:-4611686018427387904<=fN (at_ l k).af (q - (at_ l k).af.length):=z8 _ _ (by have:=hw h.1;omega) (by have:=hw h.1;omega);refine⟨_,[_,_],[],Um,⟨k+1,_,rfl,rfl,rfl,Um,h4,Um,?_⟩,rfl,trivial⟩;rw[<- hR,Jm h.1,if_neg Um]
  ·rw[<- hR];by_cases e:k<l.length
   ·rw[mb _ (h e)]
   ·rw[cT e,fN]
theorem L6(s:List ag)(l:List ah):Ctr lim prog 81 [] [.ab 19 ak s,.ab 3 ai (l)] (.ac (cW s l)) [] (wtS s<=1048576/\cnt l<=4194304/\(cnt l<=120->wt l<=1048576)):=by
 haveI hL:∀r:Int,Ctr lim prog 114 [] [.ab 3 ai (l),.aa r] (.aa (fN l (r - l.length))) [] (cnt l<=4194304/\0<=r/\r<=1048576):=λr=>⟨(aT 114),λh=>(IV 4194305 l r).out ⟨Um,Um,h.2⟩⟩
 refine Ctr.bd func81 ntmps81 λhp=>?_;have gOn:=bI.on;obtain⟨h1,h2,h3⟩:=hp;have hc:=gV s
 have hd:∀y∈dk s,wtS y.af<=1048576:=λy hy=>by have:=jR _ y hy;omega
 have e1:decide (0<=fN l (120 - l.length))=decide (cnt l<=120):=by
  apply decide_eq_decide.2;unfold cnt;rcases Int.lt_or_le (120 - (l.length:Int)) 0 with h|h
  ·rw[mb l h];omega
  ·have:=(qZ l _ h).1;omega
 (refine vU3 ?_ ?_ ?_<;>with_reducible repeat intro h)
 ·exact hd _ h
 ·have:=h.2;exact h3 (by have:=of_decide_eq_true (p:=cnt l<=120) (by rw[<- e1];simpa using h.2);exact this)
 ·refine congrArg (λb=>AV.ac b) ?_;rw[cW,e1]
instance(s:List ag)(l:List ah)(es:List aI):Ctr lim prog 141 [] [.ab 19 ak s,.ab 3 ai (l),.ab 4 dE (es)] (.tup [.sl true 3 ((mdT s l es).1.map (ai true)),.aa (mdT s l es).2]) [] (wtS s<=1048576/\wt l<=1048576/\wtE es<=1048576):=by
 refine Ctr.bd func141 ntmps141 λhp=>?_;have gOn:=bI.on;obtain⟨h1,h2,h3⟩:=hp;have hce:=v7 es;refine vK1 ?_;refine AW.c (λh=>?_) λh=>?_
 ·refine vU1 ?_;rw[FZ h];try rfl
 have ht:cW s l=true:=by simpa using h
 have hg:=E7 ht
 have hJ:=PJ ht
 have hfit:=CG es ht
 have hcl:=(sQ ht).2;clear h;refine vK1 ?_;refine AW.c (λh=>?_) λh=>?_
 ·refine vU1 ?_;rw[F4 ht h];try rfl
 have h0:(mdE es s l).2=0:=h;clear h;have hf1:=hfit.1
 haveI hT:Ctr lim prog 81 [] [.ab 19 ak s,.ab 3 ai ((mdE es s l).1)] (.ac (cW s (mdE es s l).1)) [] True:=⟨(aT 81),λ_=>(L6 s _).out ⟨h1,Um,λc=>by have:=hfit.2 c;omega⟩⟩
 refine vK1 ?_;refine AW.c (λh=>?_) λh=>?_
 ·refine vU1 ?_;rw[F2 ht h0 h];try rfl
 ·refine vU1 ?_;rw[F3 ht h0 (by simpa using h)];try rfl
