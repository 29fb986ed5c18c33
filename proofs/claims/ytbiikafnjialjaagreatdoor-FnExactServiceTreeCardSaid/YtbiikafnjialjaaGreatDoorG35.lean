/- Part of a proof. -/
import Derived.Test.YtbiikafnjialjaaGreatDoorG34
set_option linter.all false
namespace Go.Ab
section
variable {L : Nat -> Nat} {P : Program} {n : Nat}
def lF(P:Program)(ops:Array Oper)(n:Nat)(o:Sto)(D:List (AV×List Nat))(t:List (Nat×AV))(R:List Nat->List (Nat×AV)->Sto->Prop):Prop :=
 match ops[D.length]? with
 | some oa=>match oa.op with
  | .alloc ty'=>match oa.dst with
   | some d=>match ops[D.length+1]? with
    | some ob=>match ob.op with
     | .store ty2 (.tmp d') (.tmp v)=>match zer P ty' with
      | some zs=>match ty P ty2 with
       | some (_,m)=>(Nat.beq d' d=true/\Nat.beq v d=false/\Nat.beq m zs.length=true/\oa.guard.isNone=true/\ob.guard.isNone=true/\ob.dst.isNone=true/\cK n (some d)=true) /\
        (T t v).elem m=true/\(T t v).cells.all AV.one=true/\fT ops (D.map Prod.snd++[[],kills t [.tmp v]])=true /\
        ∀ b,nfO o b->R (List.range' (D.length+2) (ops.size - (D.length+2))) (bQ (put t (some d) (.ptr b 0)) (kills t [.tmp v])) ((b,some (T t v).cells)::o)
       | none=>False
      | none=>False
     | _=>False
    | none=>False
   | none=>False
  | _=>fT ops (D.map Prod.snd)=true/\R (List.range' D.length (ops.size - D.length)) t o
 | none=>fT ops (D.map Prod.snd)=true/\R (List.range' D.length (ops.size - D.length)) t o
theorem lF.out{ops:Array Oper}{o:Sto}{D:List (AV×List Nat)}{t:List (Nat×AV)}{R:List Nat->List (Nat×AV)->Sto->Prop}(h:lF P ops n o D t R) :
  (fT ops (D.map Prod.snd)=true/\R (List.range' D.length (ops.size - D.length)) t o) \/
  ∃ oa ob ty' ty2 zs d v g,ops[D.length]? = some oa/\oa.guard=none/\oa.op=.alloc ty'/\cK n oa.dst=true/\zer P ty'=some zs /\
   ops[D.length+1]? = some ob/\ob.guard=none/\ob.op=.store ty2 (.tmp d) (.tmp v)/\ob.dst=none/\oa.dst=some d/\v≠d/\ty P ty2=some (g,zs.length)/\(T t v).elem zs.length=true/\(T t v).cells.all AV.one=true/\fT ops (D.map Prod.snd++[[],kills t [.tmp v]])=true /\
   ∀ b,fY o b->R (List.range' (D.length+2) (ops.size - (D.length+2))) (upd ob .dead (kills t [.tmp v]) (upd oa (.ptr b 0) [] t)) ((b,some (T t v).cells)::o):=by
 unfold lF at h
 split at h
 ·rename_i oa hoa
  split at h
  ·rename_i ty' hop
   split at h
   ·rename_i d hd
    split at h
    ·rename_i ob hob
     split at h
     ·rename_i ty2 d' v wT
      split at h
      ·rename_i zs hz
       split at h
       ·rename_i g m ht
        obtain ⟨⟨h1,h2,h3,h4,h5,h6,h7⟩,h8,h9,h10,h11⟩:=h
        have e1:=Nat.eq_of_beq_eq_true h1
        have e3:=Nat.eq_of_beq_eq_true h3
        subst e1 e3
        have e6:ob.dst=none:=by simpa using h6
        refine .inr ⟨oa,ob,ty',ty2,zs,d',v,g,hoa,by simpa using h4,hop,by rw [hd];exact h7,hz,hob,by simpa using h5,wT,e6,hd,Nat.ne_of_beq_eq_false h2,ht,h8,h9,h10,fun b hb=>?_⟩
        have:=h11 b hb.nf
        simp only [upd,bQ,hd,e6] at this ⊢
        exact this
       ·exact h.elim
      ·exact h.elim
     ·exact h.elim
    ·exact h.elim
   ·exact h.elim
  ·exact .inl h
 ·exact .inl h
variable {t : List (Nat × AV)} {o : Sto} {Q : Exit -> AS -> Prop} {id : Nat} {ops : Array Oper}
theorem jr.or{A A':List (Nat×AV)->List (AV×List Nat)->Prop}{i:Nat}{D:List (AV×List Nat)}(h:jr L P ops n o (fun t D=>A t D\/A' t D) i t D):jr L P ops n o A i t D\/jr L P ops n o A' i t D:=by
 induction h with
 | done h=>exact h.imp .done .done
 | step o x C h1 h2 _ ih=>exact ih.imp (.step o x C h1 h2) (.step o x C h1 h2)
theorem jr.mono{A A':List (Nat×AV)->List (AV×List Nat)->Prop}{i:Nat}{D:List (AV×List Nat)}(h:jr L P ops n o A i t D)(hA:∀ t D,A t D->A' t D):jr L P ops n o A' i t D:=by
 induction h with
 | done h=>exact .done (hA _ _ h)
 | step o x C h1 h2 _ ih=>exact .step o x C h1 h2 ih
theorem AW.K5 [gH P]{K0:AS->Prop}(hQ:∀ s,K0 s->Q .normal s)
  (h:∀ K:List (Nat×AV)->List (AV×List Nat)->Prop,(∀ t D,lF P ops n o D t (fun l t o=>ma L P ops l ⟨n,t,o⟩ K0)->K t D)->W L P ops [] n o (fun t D _=>K t D) (List.range' 0 ops.size) t []):AW L P (.region id ops true) ⟨n,t,o⟩ Q:=by
 have h':=W.draw (os:=o) (eff:=[]) _ 0 _ _ rfl (h _ (fun t D h=>h))
 have hm:∀ {l:List Nat} {s:AS},ma L P ops l s K0->ma L P ops l s (fun s'=>Q .normal s'):=fun h B F0 w0 a w Q' hd hq=>h B F0 w0 a w Q' hd fun s' a' w' hk=>hq s' a' w' (hQ _ hk)
 have h2:jr L P ops n o (fun t D=>(fT ops (D.map Prod.snd)=true/\ma L P ops (List.range' D.length (ops.size - D.length)) ⟨n,t,o⟩ (fun s'=>Q .normal s')) \/
   ∃ oa ob ty' ty2 zs d v g,ops[D.length]? = some oa/\oa.guard=none/\oa.op=.alloc ty'/\cK n oa.dst=true/\zer P ty'=some zs /\
   ops[D.length+1]? = some ob/\ob.guard=none/\ob.op=.store ty2 (.tmp d) (.tmp v)/\ob.dst=none/\oa.dst=some d/\v≠d/\ty P ty2=some (g,zs.length)/\(T t v).elem zs.length=true/\(T t v).cells.all AV.one=true/\fT ops (D.map Prod.snd++[[],kills t [.tmp v]])=true /\
   ∀ b,fY o b->ma L P ops (List.range' (D.length+2) (ops.size - (D.length+2))) ⟨n,upd ob .dead (kills t [.tmp v]) (upd oa (.ptr b 0) [] t),(b,some (T t v).cells)::o⟩ (fun s'=>Q .normal s')) 0 t []:=by
  refine h'.mono fun t D h=>?_
  rcases h.out with h|⟨oa,ob,ty',ty2,zs,d,v,g,h1,h2,h3,h4,h5,h6,h7,h8,h9,h10,h11,h12,h13,h14,h15,h16⟩
  ·exact .inl ⟨h.1,hm h.2⟩
  ·exact .inr ⟨oa,ob,ty',ty2,zs,d,v,g,h1,h2,h3,h4,h5,h6,h7,h8,h9,h10,h11,h12,h13,h14,h15,fun b hb=>hm (h16 b hb)⟩
 rcases h2.or with h2|h2
 ·exact AW.draw h2
 ·exact AW.Rt h2
end
section
variable {L : Nat -> Nat} {P : Program} {n : Nat} {t : List (Nat × AV)} {o : Sto} {Q : Exit -> AS -> Prop} {id : Nat} {ops : Array Oper}
theorem lF.mono{D:List (AV×List Nat)}{R R':List Nat->List (Nat×AV)->Sto->Prop}(hR:∀ l t o,R l t o->R' l t o)(h:lF P ops n o D t R):lF P ops n o D t R':=by
 unfold lF at h ⊢
 revert h
 repeat' split
 all_goals first
  | exact fun h=>h
  | exact fun h=>⟨h.1,hR _ _ _ h.2⟩
  | exact fun ⟨h1,h2,h3,h4,h5⟩=>⟨h1,h2,h3,h4,fun b hb=>hR _ _ _ (h5 b hb)⟩
theorem AW.Rp [gH P] (h:∀ K:List (Nat×AV)->List (AV×List Nat)->Prop,(∀ t D,lF P ops n o D t (fun l t o=>∀ K':List (Nat×AV)->Sto->Prop,(∀ t o,Q .normal ⟨n,t,o⟩->K' t o)->Wn L P ops n K' l [] t o)->K t D) ->
   W L P ops [] n o (fun t D _=>K t D) (List.range' 0 ops.size) t []):AW L P (.region id ops true) ⟨n,t,o⟩ Q :=
 AW.K5 (K0:=fun s=>Q .normal s) (fun _ h=>h) fun K hK=>h K fun t D h=>hK t D (h.mono fun _ _ _ h=>Wn.pW (K:=fun t o=>Q .normal ⟨n,t,o⟩) (fun _ _ h=>h) _ _ _ (h _ (fun _ _ h=>h)))
theorem AW.NH [gH P]{c:Code} (h:∀ K:List (Nat×AV)->List (AV×List Nat)->Prop,(∀ t D,lF P ops n o D t (fun l t o=>∀ K':List (Nat×AV)->Sto->Prop,(∀ t o,AW L P c ⟨n,t,o⟩ Q->K' t o)->Wn L P ops n K' l [] t o)->K t D) ->
   W L P ops [] n o (fun t D _=>K t D) (List.range' 0 ops.size) t []):AW L P (.seq (.region id ops true) c) ⟨n,t,o⟩ Q :=
 AW.seq (AW.K5 (K0:=fun s=>AW L P c s Q) (fun _ h=>h) fun K hK=>h K fun t D h=>hK t D (h.mono fun _ _ _ h=>Wn.pW (K:=fun t o=>AW L P c ⟨n,t,o⟩ Q) (fun _ _ h=>h) _ _ _ (h _ (fun _ _ h=>h))))
instance (priority:=2000) VQ [gH P]:Rz (AW L P (.region id ops true) ⟨n,t,o⟩ Q) (∀ K:List (Nat×AV)->List (AV×List Nat)->Prop,(∀ t D,lF P ops n o D t (fun l t o=>∀ K':List (Nat×AV)->Sto->Prop,(∀ t o,Q .normal ⟨n,t,o⟩->K' t o)->Wn L P ops n K' l [] t o)->K t D) ->
   W L P ops [] n o (fun t D _=>K t D) (List.range' 0 ops.size) t []):=⟨AW.Rp⟩
instance (priority:=2000) U1 [gH P]{c:Code}:Rz (AW L P (.seq (.region id ops true) c) ⟨n,t,o⟩ Q) (∀ K:List (Nat×AV)->List (AV×List Nat)->Prop,(∀ t D,lF P ops n o D t (fun l t o=>∀ K':List (Nat×AV)->Sto->Prop,(∀ t o,AW L P c ⟨n,t,o⟩ Q->K' t o)->Wn L P ops n K' l [] t o)->K t D) ->
   W L P ops [] n o (fun t D _=>K t D) (List.range' 0 ops.size) t []):=⟨AW.NH⟩
attribute [go_sem] lF
instance (priority:=2000) cPf{L:Nat->Nat}{P:Program}{os:Sto}{la:List AV}{f:FuncId}{args:List AV}{G:Bool}{K:AV->Prop}{res:AV}{cs:List (Option (List AV))}{pre:Prop}[h:Ctr L P f [] args res cs pre]:Rl (qA L P os la G f args (K:=⟨K⟩)) (AV.bA args=true/\(G=true->pre)/\K res.frz) :=
 ⟨fun q=>haveI:Ctr L P f [] args res.frz [] pre:=Ctr.jH h.en fun hp=>(h.pure hp).frz;qA.ctr q.1 q.2.1 q.2.2⟩
end
end Go.Ab
