/- A part. -/
import Derived.Test.YtmcjbaafmjlblaaGreatDoorJ35
set_option linter.all false
set_option maxRecDepth 20000
set_option maxHeartbeats 4000000
namespace Go.Ab
section
variable {L : Nat -> Nat} {P : Program} {n : Nat}
def lV(P:Program)(ops:Array Oper)(n:Nat)(o:Sto)(D:List (AV×List Nat))(t:List (Nat×AV))(R:List Nat->List (Nat×AV)->Sto->Prop):Prop :=
 match ops[D.length]? with
 | some oa=>match oa.op with
  | .alloc ty'=>match oa.dst with
   | some d=>match ops[D.length+1]? with
    | some ob=>match ob.op with
     | .store ty2 (.tmp d') (.tmp v)=>match zer P ty' with
      | some zs=>match ty P ty2 with
       | some (_,m)=>(Nat.beq d' d=true/\Nat.beq v d=false/\Nat.beq m zs.length=true/\oa.guard.isNone=true/\ob.guard.isNone=true/\ob.dst.isNone=true/\cN n (some d)=true) /\
        (T t v).elem m=true/\(T t v).cells.all AV.one=true/\gh ops (D.map Prod.snd++[[],kills t [.tmp v]])=true /\
        ∀ b,nfO o b->R (List.range' (D.length+2) (ops.size - (D.length+2))) (bW (put t (some d) (.ptr b 0)) (kills t [.tmp v])) ((b,some (T t v).cells)::o)
       | none=>False
      | none=>False
     | _=>False
    | none=>False
   | none=>False
  | _=>gh ops (D.map Prod.snd)=true/\R (List.range' D.length (ops.size - D.length)) t o
 | none=>gh ops (D.map Prod.snd)=true/\R (List.range' D.length (ops.size - D.length)) t o
theorem lV.out{ops:Array Oper}{o:Sto}{D:List (AV×List Nat)}{t:List (Nat×AV)}{R:List Nat->List (Nat×AV)->Sto->Prop}(h:lV P ops n o D t R) :
  (gh ops (D.map Prod.snd)=true/\R (List.range' D.length (ops.size - D.length)) t o) \/
  ∃ oa ob ty' ty2 zs d v g,ops[D.length]? = some oa/\oa.guard=none/\oa.op=.alloc ty'/\cN n oa.dst=true/\zer P ty'=some zs /\
   ops[D.length+1]? = some ob/\ob.guard=none/\ob.op=.store ty2 (.tmp d) (.tmp v)/\ob.dst=none/\oa.dst=some d/\v≠d/\ty P ty2=some (g,zs.length)/\(T t v).elem zs.length=true/\(T t v).cells.all AV.one=true/\gh ops (D.map Prod.snd++[[],kills t [.tmp v]])=true /\
   ∀ b,gq o b->R (List.range' (D.length+2) (ops.size - (D.length+2))) (upd ob .dead (kills t [.tmp v]) (upd oa (.ptr b 0) [] t)) ((b,some (T t v).cells)::o):=by
 unfold lV at h
 split at h
 ·rename_i oa hoa
  split at h
  ·rename_i ty' hop
   split at h
   ·rename_i d hd
    split at h
    ·rename_i ob hob
     split at h
     ·rename_i ty2 d' v yq
      split at h
      ·rename_i zs hz
       split at h
       ·rename_i g m ht
        obtain ⟨⟨h1,h2,h3,h4,h5,h6,h7⟩,h8,h9,h10,h11⟩:=h
        have e1:=Nat.eq_of_beq_eq_true h1
        have e3:=Nat.eq_of_beq_eq_true h3
        subst e1 e3
        have e6:ob.dst=none:=by simpa using h6
        refine .inr ⟨oa,ob,ty',ty2,zs,d',v,g,hoa,by simpa using h4,hop,by rw [hd];exact h7,hz,hob,by simpa using h5,yq,e6,hd,Nat.ne_of_beq_eq_false h2,ht,h8,h9,h10,fun b hb=>?_⟩
        have:=h11 b hb.nf
        simp only [upd,bW,hd,e6] at this ⊢
        exact this
       ·exact h.elim
      ·exact h.elim
     ·exact h.elim
    ·exact h.elim
   ·exact h.elim
  ·exact .inl h
 ·exact .inl h
variable {t : List (Nat × AV)} {o : Sto} {Q : Exit -> AS -> Prop} {id : Nat} {ops : Array Oper}
theorem jF.or{A A':List (Nat×AV)->List (AV×List Nat)->Prop}{i:Nat}{D:List (AV×List Nat)}(h:jF L P ops n o (fun t D=>A t D\/A' t D) i t D):jF L P ops n o A i t D\/jF L P ops n o A' i t D:=by
 induction h with
 | done h=>exact h.imp .done .done
 | step o x C h1 h2 _ ih=>exact ih.imp (.step o x C h1 h2) (.step o x C h1 h2)
theorem jF.mono{A A':List (Nat×AV)->List (AV×List Nat)->Prop}{i:Nat}{D:List (AV×List Nat)}(h:jF L P ops n o A i t D)(hA:∀ t D,A t D->A' t D):jF L P ops n o A' i t D:=by
 induction h with
 | done h=>exact .done (hA _ _ h)
 | step o x C h1 h2 _ ih=>exact .step o x C h1 h2 ih
theorem AW.N0 [ku P]{K0:AS->Prop}(hQ:∀ s,K0 s->Q .normal s)
  (h:∀ K:List (Nat×AV)->List (AV×List Nat)->Prop,(∀ t D,lV P ops n o D t (fun l t o=>gK L P ops l ⟨n,t,o⟩ K0)->K t D)->W L P ops [] n o (fun t D _=>K t D) (List.range' 0 ops.size) t []):AW L P (.region id ops true) ⟨n,t,o⟩ Q:=by
 have h':=W.draw (os:=o) (eff:=[]) _ 0 _ _ rfl (h _ (fun t D h=>h))
 have hm:∀ {l:List Nat} {s:AS},gK L P ops l s K0->gK L P ops l s (fun s'=>Q .normal s'):=fun h B F0 w0 a w Q' hd hq=>h B F0 w0 a w Q' hd fun s' a' w' hk=>hq s' a' w' (hQ _ hk)
 have h2:jF L P ops n o (fun t D=>(gh ops (D.map Prod.snd)=true/\gK L P ops (List.range' D.length (ops.size - D.length)) ⟨n,t,o⟩ (fun s'=>Q .normal s')) \/
   ∃ oa ob ty' ty2 zs d v g,ops[D.length]? = some oa/\oa.guard=none/\oa.op=.alloc ty'/\cN n oa.dst=true/\zer P ty'=some zs /\
   ops[D.length+1]? = some ob/\ob.guard=none/\ob.op=.store ty2 (.tmp d) (.tmp v)/\ob.dst=none/\oa.dst=some d/\v≠d/\ty P ty2=some (g,zs.length)/\(T t v).elem zs.length=true/\(T t v).cells.all AV.one=true/\gh ops (D.map Prod.snd++[[],kills t [.tmp v]])=true /\
   ∀ b,gq o b->gK L P ops (List.range' (D.length+2) (ops.size - (D.length+2))) ⟨n,upd ob .dead (kills t [.tmp v]) (upd oa (.ptr b 0) [] t),(b,some (T t v).cells)::o⟩ (fun s'=>Q .normal s')) 0 t []:=by
  refine h'.mono fun t D h=>?_
  rcases h.out with h|⟨oa,ob,ty',ty2,zs,d,v,g,h1,h2,h3,h4,h5,h6,h7,h8,h9,h10,h11,h12,h13,h14,h15,h16⟩
  ·exact .inl ⟨h.1,hm h.2⟩
  ·exact .inr ⟨oa,ob,ty',ty2,zs,d,v,g,h1,h2,h3,h4,h5,h6,h7,h8,h9,h10,h11,h12,h13,h14,h15,fun b hb=>hm (h16 b hb)⟩
 rcases h2.or with h2|h2
 ·exact AW.draw h2
 ·exact AW.Um h2
end
section
variable {L : Nat -> Nat} {P : Program} {n : Nat} {t : List (Nat × AV)} {o : Sto} {Q : Exit -> AS -> Prop} {id : Nat} {ops : Array Oper}
theorem lV.mono{D:List (AV×List Nat)}{R R':List Nat->List (Nat×AV)->Sto->Prop}(hR:∀ l t o,R l t o->R' l t o)(h:lV P ops n o D t R):lV P ops n o D t R':=by
 unfold lV at h ⊢
 revert h
 repeat' split
 all_goals first
  | exact fun h=>h
  | exact fun h=>⟨h.1,hR _ _ _ h.2⟩
  | exact fun ⟨h1,h2,h3,h4,h5⟩=>⟨h1,h2,h3,h4,fun b hb=>hR _ _ _ (h5 b hb)⟩
theorem AW.Ul [ku P] (h:∀ K:List (Nat×AV)->List (AV×List Nat)->Prop,(∀ t D,lV P ops n o D t (fun l t o=>∀ K':List (Nat×AV)->Sto->Prop,(∀ t o,Q .normal ⟨n,t,o⟩->K' t o)->Wn L P ops n K' l [] t o)->K t D) ->
   W L P ops [] n o (fun t D _=>K t D) (List.range' 0 ops.size) t []):AW L P (.region id ops true) ⟨n,t,o⟩ Q :=
 AW.N0 (K0:=fun s=>Q .normal s) (fun _ h=>h) fun K hK=>h K fun t D h=>hK t D (h.mono fun _ _ _ h=>Wn.nU (K:=fun t o=>Q .normal ⟨n,t,o⟩) (fun _ _ h=>h) _ _ _ (h _ (fun _ _ h=>h)))
theorem AW.Qx [ku P]{c:Code} (h:∀ K:List (Nat×AV)->List (AV×List Nat)->Prop,(∀ t D,lV P ops n o D t (fun l t o=>∀ K':List (Nat×AV)->Sto->Prop,(∀ t o,AW L P c ⟨n,t,o⟩ Q->K' t o)->Wn L P ops n K' l [] t o)->K t D) ->
   W L P ops [] n o (fun t D _=>K t D) (List.range' 0 ops.size) t []):AW L P (.seq (.region id ops true) c) ⟨n,t,o⟩ Q :=
 AW.seq (AW.N0 (K0:=fun s=>AW L P c s Q) (fun _ h=>h) fun K hK=>h K fun t D h=>hK t D (h.mono fun _ _ _ h=>Wn.nU (K:=fun t o=>AW L P c ⟨n,t,o⟩ Q) (fun _ _ h=>h) _ _ _ (h _ (fun _ _ h=>h))))
instance (priority:=2000) Ji [ku P]:Rz (AW L P (.region id ops true) ⟨n,t,o⟩ Q) (∀ K:List (Nat×AV)->List (AV×List Nat)->Prop,(∀ t D,lV P ops n o D t (fun l t o=>∀ K':List (Nat×AV)->Sto->Prop,(∀ t o,Q .normal ⟨n,t,o⟩->K' t o)->Wn L P ops n K' l [] t o)->K t D) ->
   W L P ops [] n o (fun t D _=>K t D) (List.range' 0 ops.size) t []):=⟨AW.Ul⟩
instance (priority:=2000) F4 [ku P]{c:Code}:Rz (AW L P (.seq (.region id ops true) c) ⟨n,t,o⟩ Q) (∀ K:List (Nat×AV)->List (AV×List Nat)->Prop,(∀ t D,lV P ops n o D t (fun l t o=>∀ K':List (Nat×AV)->Sto->Prop,(∀ t o,AW L P c ⟨n,t,o⟩ Q->K' t o)->Wn L P ops n K' l [] t o)->K t D) ->
   W L P ops [] n o (fun t D _=>K t D) (List.range' 0 ops.size) t []):=⟨AW.Qx⟩
attribute [go_sem] lV
instance (priority:=2000) cPf{L:Nat->Nat}{P:Program}{os:Sto}{la:List AV}{f:FuncId}{args:List AV}{G:Bool}{K:AV->Prop}{res:AV}{cs:List (Option (List AV))}{pre:Prop}[h:Ctr L P f [] args res cs pre]:Rl (qT L P os la G f args (K:=⟨K⟩)) (AV.bL args=true/\(G=true->pre)/\K res.frz) :=
 ⟨fun q=>haveI:Ctr L P f [] args res.frz [] pre:=Ctr.lJ h.en fun hp=>(h.pure hp).frz;qT.ctr q.1 q.2.1 q.2.2⟩
end
end Go.Ab
namespace Go.Proofs
open Go.Ab Go.Dt
attribute [-instance] cz F4 Ji
attribute [local go_sem] ba aI aS cU cT dy fZ gH
theorem NC(l:List ah):AV.bZ (l.map (aj false))=l.map (aj false):=ll _ _ (fun x=>by rw [bR];rfl) l
attribute [local go_sem] NC
instance XG(s:List ag)(l:List ah)(nm v:Str)(ks:List ah):Ctr lim Tryz.prog 215 [] [.sl false 19 ((dk s).map (ak false)),.sl false 3 ((l).map (aj false)),.agg [.str nm,.str v,.sl false 3 ((ks).map (aj false))]] (.tup [.sl false 3 ((ins s l (.mk nm v ks)).map (aj false)),.v (.bool true)]) [] (0<=idx (nmP nm) (dk s)/\l.length<=4194304/\J s l/\kyB (nd s nm) (.mk nm v ks)=true/\∀ y∈l,¬ same s (.mk nm v ks) y):=Jv s l (.mk nm v ks)
instance XF(s:List ag)(l:List ah)(nm v:Str):Ctr lim Tryz.prog 215 [] [.sl false 19 ((dk s).map (ak false)),.sl false 3 ((l).map (aj false)),.agg [.str nm,.str v,.sl false 3 []]] (.tup [.sl false 3 ((ins s l (.mk nm v [])).map (aj false)),.v (.bool true)]) [] (0<=idx (nmP nm) (dk s)/\l.length<=4194304/\J s l/\kyB (nd s nm) (.mk nm v [])=true/\∀ y∈l,¬ same s (.mk nm v []) y):=Jv s l (.mk nm v [])
theorem QJ(N:Nat)(ih:∀ (s:List ag) (l:List ah) (es:List au),Ctr lim Tryz.prog 125 [] [.sl false 19 (s.map (ak false)),.sl false 3 ((l).map (aj false)),.sl false 4 ((es).map (aH false))] (.tup [.sl false 3 (((mdE es s l).1).map (aj false)),.v (.int .i64 (mdE es s l).2)]) [] (SizeOf.sizeOf es<N/\gdS s/\wtS s<=1048576/\cnt l+cY es<=4194304/\wtE es<=1048576/\J s l))(s:List ag)(l:List ah)(e:au)(v:Str):Ctr lim Tryz.prog 187 [] [.sl false 19 (s.map (ak false)),.agg (cSc (at_ (dk s) (idx (nmP e.ae) (dk s)).toNat)),.sl false 3 ((l).map (aj false)),.agg (cEd e),.str v] (.tup [.sl false 3 (((crt (mdE e.af) s l (nd s e.ae) e).1).map (aj false)),.v (.int .i64 (crt (mdE e.af) s l (nd s e.ae) e).2)]) [] (SizeOf.sizeOf e.af<N/\gdS s/\0<=idx (nmP e.ae) (dk s)/\((nd s e.ae).ai=2->dE (nd s e.ae) e.af=true)/\wtS s<=1048576/\l.length<=4194304/\J s l/\(∀ y∈l,¬ same s (bQ (nd s e.ae) e) y)/\cY e.af<=4194304/\wtE e.af<=1048576/\((nd s e.ae).ai=3\/(nd s e.ae).ai=4->v=cvS (nd s e.ae).fType e.av)/\(¬ ((nd s e.ae).ai=3\/(nd s e.ae).ai=4)->v=[])):=by
 haveI ihN:∀ (s:List ag) (es:List au),Ctr lim Tryz.prog 125 [] [.sl false 19 (s.map (ak false)),.v (.slice none 0 0),.sl false 4 ((es).map (aH false))] (.tup [.sl false 3 (((mdE es s []).1).map (aj false)),.v (.int .i64 (mdE es s []).2)]) [] (SizeOf.sizeOf es<N/\gdS s/\wtS s<=1048576/\cnt []+cY es<=4194304/\wtE es<=1048576/\J s []):=fun s es=>(ih s [] es).view fun F w vs fp r=>aq.at (l:=[.sl false 19 (s.map (ak false))]) (x:=.v (.slice none 0 0)) (x':=.sl false 3 []) (l2:=[.sl false 4 ((es).map (aH false))]) Rep.dY _ _ r
 haveI hDK:∀ l:List ag,Ctr lim Tryz.prog 129 [] [.sl false 19 (l.map (ak false))] (.sl true 19 ((dk l).map (ak true))) [] (bE l<=1048576):=fun l=>⟨(aM 129),fun c=>(nW (SizeOf.sizeOf l+1) l).out ⟨Nat.lt_succ_self _,c⟩⟩
 refine Ctr.bd Tryz.func187 Tryz.ntmps187 rfl rfl fun hp=>?_
 have gOn:=bA.on
 obtain ⟨hN,hg,hi,hk,hs,hl,hJ,hfr,hce,hwe,hv1,hv2⟩:=hp
 have hcs:=gM s
 have hc0:cnt ([]:List ah)=0:=lT
 have hnm:=fI hi
 have hgk:=(kz hg hnm.2).1
 have hwk:=nr _ _ hnm.2
 have ZL:wtS ((at_ (dk s) (idx (nmP e.ae) (dk s)).toNat)).af<=1048576:=by
  show wtS (nd s e.ae).af<=_
  omega
 have hJ0:J ((at_ (dk s) (idx (nmP e.ae) (dk s)).toNat)).af []:=Aa
 have hni:0<=idx (nmP ((at_ (dk s) (idx (nmP e.ae) (dk s)).toNat)).ae) (dk s):=by
  have:((at_ (dk s) (idx (nmP e.ae) (dk s)).toNat)).ae=e.ae:=hnm.1
  rw [this];exact hi
 have hkd:=AK hi
 have hJw:J s (wo s ((at_ (dk s) (idx (nmP e.ae) (dk s)).toNat)).ae l):=z8 (pW _ _ _) hJ
 have hlw:(wo s ((at_ (dk s) (idx (nmP e.ae) (dk s)).toNat)).ae l).length<=l.length:=(pW _ _ _).length_le
 have hwo:(l.filter fun y=>!cont (iq s ((at_ (dk s) (idx (nmP e.ae) (dk s)).toNat)).ae) y.ae)=wo s ((at_ (dk s) (idx (nmP e.ae) (dk s)).toNat)).ae l:=rfl
 have hol:=DL s ((at_ (dk s) (idx (nmP e.ae) (dk s)).toNat)).ae
 (refine vK ?_;with_reducible repeat' first|exact Le.l|apply Sw|intro h)
 rename Nat=>b2
 refine AW.imp (Imp.frz 12 ?_)
 simp (maxSteps:=2000000) (disch:=omega) only [go_sem]
 refine AW.imp (Imp.jU (b:=b2) 3 [.str ((at_ (dk s) (idx (nmP e.ae) (dk s)).toNat)).ae,.str v] [] gO ?_)
 simp (maxSteps:=2000000) (disch:=omega) only [go_sem]
 refine AW.c (fun h=>?_) fun h=>?_
 ·have hnl:¬ ((nd s e.ae).ai=3\/(nd s e.ae).ai=4):=by
   show ¬ (((at_ (dk s) (idx (nmP e.ae) (dk s)).toNat)).ai=3\/((at_ (dk s) (idx (nmP e.ae) (dk s)).toNat)).ai=4);omega
  have hv:=hv2 hnl
  subst hv
  clear h
  refine vO ?_;intros;refine AW.c (fun h=>?_) fun h=>?_
  ·(refine vX ?_;with_reducible repeat' first|exact Le.l|apply Sw|intro h)
   refine AW.imp (Imp.fU 10 (x:=.v (.slice none 0 0)) (x':=.sl false 3 []) gO (fun _ _ _ _ r=>Rep.dY _ _ r) ?_)
   (refine vU ?_;with_reducible repeat' first|exact Le.l|apply Sw|intro h)
   rw [crt,if_neg hnl,if_pos h];try rfl
  have hr0:(mdE e.af (nd s e.ae).af []).2=0:=h
  clear h
  have hpk:=LQ hg hi hk hfr (rok e.af hgk) hnl hr0
  have hp1:=hpk.1
  have hp2:=hpk.2
  have hz:(mdE e.af (nd s e.ae).af []).1=[]↔((mdE e.af (nd s e.ae).af []).1.length:Int)=0:=by
   rw [<- List.length_eq_zero_iff];omega
  refine vO ?_;intros;refine AW.c (fun h=>?_) fun h=>?_
  ·(refine vU ?_;with_reducible repeat' first|exact Le.l|apply Sw|intro h)
   rw [crt,if_neg hnl,if_neg (fun c=>c hr0),if_pos (by grind)];try rfl
  ·have hcn:¬ ((nd s e.ae).ai=1/\(nd s e.ae).bF=false/\(mdE e.af (nd s e.ae).af []).1=[]):=by grind
   clear h
   (repeat' first|(with_reducible first|refine Z ?_|refine Y ?_|(refine hK _ _ ?_;clear hK K)|refine And.intro ?_ ?_|exact Ct|intro (K:_->_->Prop) hK|(refine gI fun hg=>?_;try simp only [hC,reduceCtorEq] at hg;try simp only [hg]))|((with_reducible refine E ?_;repeat refine Y ?_);refine eF rfl ?_)|simp (disch:=omega) only [go_sem,hwo]|(with_reducible intro hg;try simp only [hC,reduceCtorEq] at hg)|exact Cl|fail)
   ·exact hp2 _ (by assumption)
   rw [crt,if_neg hnl,if_neg (fun c=>c hr0),if_neg hcn];try rfl
 ·have hlf:(nd s e.ae).ai=3\/(nd s e.ae).ai=4:=by
   show ((at_ (dk s) (idx (nmP e.ae) (dk s)).toNat)).ai=3\/((at_ (dk s) (idx (nmP e.ae) (dk s)).toNat)).ai=4
   have:((at_ (dk s) (idx (nmP e.ae) (dk s)).toNat)).ai=1\/((at_ (dk s) (idx (nmP e.ae) (dk s)).toNat)).ai=2\/((at_ (dk s) (idx (nmP e.ae) (dk s)).toNat)).ai=3\/((at_ (dk s) (idx (nmP e.ae) (dk s)).toNat)).ai=4:=hkd
   omega
  have hv:=hv1 hlf
  subst hv
  have hpl:=LP hi hfr hlf
  have hp1:=hpl.1
  have hp2:=hpl.2
  clear h
  refine vO ?_;intros;refine AW.c (fun h=>?_) fun h=>?_
  ·exfalso
   have:((at_ (dk s) (idx (nmP e.ae) (dk s)).toNat)).ai=3\/((at_ (dk s) (idx (nmP e.ae) (dk s)).toNat)).ai=4:=hlf
   omega
  clear h
  (repeat' first|(with_reducible first|refine Z ?_|refine Y ?_|(refine hK _ _ ?_;clear hK K)|refine And.intro ?_ ?_|exact Ct|intro (K:_->_->Prop) hK|(refine gI fun hg=>?_;try simp only [hC,reduceCtorEq] at hg;try simp only [hg]))|((with_reducible refine E ?_;repeat refine Y ?_);refine eF rfl ?_)|simp (disch:=omega) only [go_sem,hwo]|(with_reducible intro hg;try simp only [hC,reduceCtorEq] at hg)|exact Cl|fail)
  ·exact hp2 _ (by assumption)
  rw [crt,if_pos hlf];try rfl
end Go.Proofs
