/- Part of a proof. -/
import Derived.Test.YtpelkkfkecfmbaaGreatDoorH37
set_option linter.all false
set_option maxRecDepth 20000
set_option maxHeartbeats 4000000
open Go.Proofs.Tryz
namespace Go.Ab
section
variable {L : Nat -> Nat} {P : Program} {n : Nat}
def TailC(P:Program)(ops:Array Oper)(n:Nat)(o:Sto)(D:List (AV×List Nat))(t:daa)(R:List Nat->daa->Sto->Prop):Prop :=
 match ops[D.length]? with
 | some oa=>match oa.op with
  | .alloc ty'=>match oa.dst with
   | some d=>match ops[D.length+1]? with
    | some ob=>match ob.op with
     | .store ty2 (.tmp d') (.tmp v)=>match zer P ty' with
      | some zs=>match ty P ty2 with
       | some (_,m)=>(Nat.beq d' d=true/\Nat.beq v d=false/\Nat.beq m zs.length=true/\oa.guard.isNone=true/\ob.guard.isNone=true/\ob.dst.isNone=true/\cz n (some d)=true) /\
        (T t v).elem m=true/\(T t v).cells.all AV.one=true/\drawOK ops (D.map Prod.snd++[[],kills t [.tmp v]])=true /\
        ∀ b,nfO o b->R (List.range' (D.length+2) (ops.size - (D.length+2))) (killL (put t (some d) (.ptr b 0)) (kills t [.tmp v])) ((b,some (T t v).cells)::o)
       | none=>False
      | none=>False
     | _=>False
    | none=>False
   | none=>False
  | _=>drawOK ops (D.map Prod.snd)=true/\R (List.range' D.length (ops.size - D.length)) t o
 | none=>drawOK ops (D.map Prod.snd)=true/\R (List.range' D.length (ops.size - D.length)) t o
def TailC.out{ops:Array Oper}{o:Sto}{D:List (AV×List Nat)}{t:daa}{R:List Nat->daa->Sto->Prop}(h:TailC P ops n o D t R) :
  (drawOK ops (D.map Prod.snd)=true/\R (List.range' D.length (ops.size - D.length)) t o) \/
  ∃ oa ob ty' ty2 zs d v g,ops[D.length]? = some oa/\oa.guard=none/\oa.op=.alloc ty'/\cz n oa.dst=true/\zer P ty'=some zs /\
   ops[D.length+1]? = some ob/\ob.guard=none/\ob.op=.store ty2 (.tmp d) (.tmp v)/\ob.dst=none/\oa.dst=some d/\v≠d/\ty P ty2=some (g,zs.length)/\(T t v).elem zs.length=true/\(T t v).cells.all AV.one=true/\drawOK ops (D.map Prod.snd++[[],kills t [.tmp v]])=true /\
   ∀ b,fU o b->R (List.range' (D.length+2) (ops.size - (D.length+2))) (upd ob .dead (kills t [.tmp v]) (upd oa (.ptr b 0) [] t)) ((b,some (T t v).cells)::o):=by
 unfold TailC at h;split at h
 ·rename_i oa hoa;split at h
  ·rename_i ty' hop;split at h
   ·rename_i d hd;split at h
    ·rename_i ob hob;split at h
     ·rename_i ty2 d' v zG;split at h
      ·rename_i zs hz;split at h
       ·rename_i g m ht;obtain ⟨⟨h1,h2,h3,h4,h5,h6,h7⟩,h8,h9,h10,h11⟩:=h;have e1:=Nat.eq_of_beq_eq_true h1
        have e3:=Nat.eq_of_beq_eq_true h3;subst e1 e3;have e6:ob.dst=none:=by simpa using h6
        refine .inr ⟨oa,ob,ty',ty2,zs,d',v,g,hoa,by simpa using h4,hop,by rw [hd];exact h7,hz,hob,by simpa using h5,zG,e6,hd,Nat.ne_of_beq_eq_false h2,ht,h8,h9,h10,fun b hb=>?_⟩;have:=h11 b hb.nf;simp only [upd,killL,hd,e6] at this ⊢;exact this
       ·exact h.elim
      ·exact h.elim
     ·exact h.elim
    ·exact h.elim
   ·exact h.elim
  ·exact .inl h
 ·exact .inl h
variable {t : List (Nat × AV)} {o : Sto} {Q : Exit -> AS -> Prop} {id : Nat} {ops : Array Oper}
def jB.or{A A':daa->List (AV×List Nat)->Prop}{i:Nat}{D:List (AV×List Nat)}(h:jB L P ops n o (fun t D=>A t D\/A' t D) i t D):jB L P ops n o A i t D\/jB L P ops n o A' i t D:=by
 induction h with
 | done h=>exact h.imp .done .done
 | step o x C h1 h2 _ ih=>exact ih.imp (.step o x C h1 h2) (.step o x C h1 h2)
def jB.mono{A A':daa->List (AV×List Nat)->Prop}{i:Nat}{D:List (AV×List Nat)}(h:jB L P ops n o A i t D)(hA:∀ t D,A t D->A' t D):jB L P ops n o A' i t D:=by
 induction h with
 | done h=>exact .done (hA _ _ h)
 | step o x C h1 h2 _ ih=>exact .step o x C h1 h2 ih
theorem AW.Rc [fQ P]{K0:AS->Prop}(hQ:∀ s,K0 s->Q .normal s)
  (h:∀ K:daa->List (AV×List Nat)->Prop,(∀ t D,TailC P ops n o D t (fun l t o=>lU L P ops l ⟨n,t,o⟩ K0)->K t D)->W L P ops [] n o (fun t D _=>K t D) (List.range' 0 ops.size) t []):AW L P (.region id ops true) ⟨n,t,o⟩ Q:=by
 have h':=W.draw (os:=o) (eff:=[]) _ 0 _ _ rfl (h _ (fun t D h=>h))
 have hm:∀ {l:List Nat} {s:AS},lU L P ops l s K0->lU L P ops l s (fun s'=>Q .normal s'):=fun h B F0 w0 a w Q' hd hq=>h B F0 w0 a w Q' hd fun s' a' w' hk=>hq s' a' w' (hQ _ hk)
 have h2:jB L P ops n o (fun t D=>(drawOK ops (D.map Prod.snd)=true/\lU L P ops (List.range' D.length (ops.size - D.length)) ⟨n,t,o⟩ (fun s'=>Q .normal s')) \/
   ∃ oa ob ty' ty2 zs d v g,ops[D.length]? = some oa/\oa.guard=none/\oa.op=.alloc ty'/\cz n oa.dst=true/\zer P ty'=some zs /\
   ops[D.length+1]? = some ob/\ob.guard=none/\ob.op=.store ty2 (.tmp d) (.tmp v)/\ob.dst=none/\oa.dst=some d/\v≠d/\ty P ty2=some (g,zs.length)/\(T t v).elem zs.length=true/\(T t v).cells.all AV.one=true/\drawOK ops (D.map Prod.snd++[[],kills t [.tmp v]])=true /\
   ∀ b,fU o b->lU L P ops (List.range' (D.length+2) (ops.size - (D.length+2))) ⟨n,upd ob .dead (kills t [.tmp v]) (upd oa (.ptr b 0) [] t),(b,some (T t v).cells)::o⟩ (fun s'=>Q .normal s')) 0 t []:=by
  refine h'.mono fun t D h=>?_;rcases h.out with h|⟨oa,ob,ty',ty2,zs,d,v,g,h1,h2,h3,h4,h5,h6,h7,h8,h9,h10,h11,h12,h13,h14,h15,h16⟩
  ·exact .inl ⟨h.1,hm h.2⟩
  ·exact .inr ⟨oa,ob,ty',ty2,zs,d,v,g,h1,h2,h3,h4,h5,h6,h7,h8,h9,h10,h11,h12,h13,h14,h15,fun b hb=>hm (h16 b hb)⟩
 rcases h2.or with h2|h2
 ·exact AW.draw h2
 ·exact AW.YB h2
end
section
variable {L : Nat -> Nat} {P : Program} {n : Nat} {t : List (Nat × AV)} {o : Sto} {Q : Exit -> AS -> Prop} {id : Nat} {ops : Array Oper}
def TailC.mono{D:List (AV×List Nat)}{R R':List Nat->daa->Sto->Prop}(hR:∀ l t o,R l t o->R' l t o)(h:TailC P ops n o D t R):TailC P ops n o D t R':=by
 unfold TailC at h ⊢;revert h
 repeat' split
 all_goals first
  | exact fun h=>h
  | exact fun h=>⟨h.1,hR _ _ _ h.2⟩
  | exact fun ⟨h1,h2,h3,h4,h5⟩=>⟨h1,h2,h3,h4,fun b hb=>hR _ _ _ (h5 b hb)⟩
theorem AW.YA [fQ P] (h:∀ K:daa->List (AV×List Nat)->Prop,(∀ t D,TailC P ops n o D t (fun l t o=>∀ K':daa->Sto->Prop,(∀ t o,Q .normal ⟨n,t,o⟩->K' t o)->Wn L P ops n K' l [] t o)->K t D) ->
   W L P ops [] n o (fun t D _=>K t D) (List.range' 0 ops.size) t []):AW L P (.region id ops true) ⟨n,t,o⟩ Q :=
 AW.Rc (K0:=fun s=>Q .normal s) (fun _ h=>h) fun K hK=>h K fun t D h=>hK t D (h.mono fun _ _ _ h=>Wn.oG (K:=fun t o=>Q .normal ⟨n,t,o⟩) (fun _ _ h=>h) _ _ _ (h _ (fun _ _ h=>h)))
theorem AW.UR [fQ P]{c:Code} (h:∀ K:daa->List (AV×List Nat)->Prop,(∀ t D,TailC P ops n o D t (fun l t o=>∀ K':daa->Sto->Prop,(∀ t o,AW L P c ⟨n,t,o⟩ Q->K' t o)->Wn L P ops n K' l [] t o)->K t D) ->
   W L P ops [] n o (fun t D _=>K t D) (List.range' 0 ops.size) t []):AW L P (.seq (.region id ops true) c) ⟨n,t,o⟩ Q :=
 AW.seq (AW.Rc (K0:=fun s=>AW L P c s Q) (fun _ h=>h) fun K hK=>h K fun t D h=>hK t D (h.mono fun _ _ _ h=>Wn.oG (K:=fun t o=>AW L P c ⟨n,t,o⟩ Q) (fun _ _ h=>h) _ _ _ (h _ (fun _ _ h=>h))))
instance (priority:=2000) dh [fQ P]:Rz (AW L P (.region id ops true) ⟨n,t,o⟩ Q) (∀ K:daa->List (AV×List Nat)->Prop,(∀ t D,TailC P ops n o D t (fun l t o=>∀ K':daa->Sto->Prop,(∀ t o,Q .normal ⟨n,t,o⟩->K' t o)->Wn L P ops n K' l [] t o)->K t D) ->
   W L P ops [] n o (fun t D _=>K t D) (List.range' 0 ops.size) t []):=⟨AW.YA⟩
instance (priority:=2000) cK [fQ P]{c:Code}:Rz (AW L P (.seq (.region id ops true) c) ⟨n,t,o⟩ Q) (∀ K:daa->List (AV×List Nat)->Prop,(∀ t D,TailC P ops n o D t (fun l t o=>∀ K':daa->Sto->Prop,(∀ t o,AW L P c ⟨n,t,o⟩ Q->K' t o)->Wn L P ops n K' l [] t o)->K t D) ->
   W L P ops [] n o (fun t D _=>K t D) (List.range' 0 ops.size) t []):=⟨AW.UR⟩
attribute [go_sem] TailC
instance (priority:=2000) cPf{L:eaa}{P:Program}{os:Sto}{la:List AV}{f:FuncId}{args:List AV}{G:Bool}{K:AV->Prop}{res:AV}{cs:List (Option (List AV))}{pre:Prop}[h:Ctr L P f [] args res cs pre]:Rl (CallP L P os la G f args (K:=⟨K⟩)) (AV.nownL args=true/\(G=true->pre)/\K res.frz) :=
 ⟨fun q=>haveI:Ctr L P f [] args res.frz [] pre:=Ctr.kQ h.en fun hp=>(h.pure hp).frz;CallP.ctr q.1 q.2.1 q.2.2⟩
end
end Go.Ab
namespace Go.Dt
open Go Go.Ab
def xF{l:List ae}{ss:List GStep}{out:List Str}{k:Nat}(hk:k<ss.length)(h:dM l (out++[(at_ ss k).ag])=none):jV l (ss.drop k) out=none:=by rw [bq hk,jV,h]
def uy{l:List ae}{ss:List GStep}{out:List Str}{k:Nat}{n:ae}(hk:k<ss.length)(h:dM l (out++[(at_ ss k).ag])=some n)(h2:(at_ ss k).aT.all (ku n)=false):jV l (ss.drop k) out=none:=by rw [bq hk,jV,h];simp only [h2];rfl
def xG{l:List ae}{ss:List GStep}{out:List Str}{k:Nat}{n:ae}(hk:k<ss.length)(h:dM l (out++[(at_ ss k).ag])=some n)(h2:(at_ ss k).aT.all (ku n)=true):jV l (ss.drop k) out=jV l (ss.drop (k+1)) (out++[(at_ ss k).ag]):=by rw [bq hk,jV,h];simp only [h2,if_true]
def uw{l:List ae}{ss:List GStep}{out:List Str}{k:Nat}(hk:¬ k<ss.length):jV l (ss.drop k) out=some out:=by rw [List.drop_eq_nil_of_le Ir,jV]
def jm(l:List Str):∀ x,x∈l.map AV.str->x.elem 1=true:=fun x hx=>by obtain ⟨y,_,rfl⟩:=List.mem_map.1 hx;rfl
def gC(l:List Str):(l.map AV.str).flatMap AV.cells=l.map AV.str:=by
 induction l with
 | nil=>rfl
 | cons x l ih=>rw [List.map_cons,List.flatMap_cons,ih];rfl
def nM{x:bP}(h:dQ x=true):x.av.length<=10:=by simp only [dQ,AJ,Bool.and_eq_true,decide_eq_true_eq] at h;omega
def sX(l:List Str)(k:Nat):(l.map AV.str).take k=(l.take k).map AV.str:=List.map_take.symm
def qO:∀ {ns:List Str} {s:List ae} {n:ae},dM s ns=some n->1+aH n.af<=aH s
 | [],s,n,h=>by simp [dM] at h
 | [a],s,n,h=>by
  rw [dM] at h;split at h
  ·rename_i e;cases h;exact qk e
  ·cases h
 | a::b::r,s,n,h=>by
  rw [dM] at h;split at h
  ·rename_i e;have:=qO h
   have:=qk e;omega
  ·cases h
def p6{x:bP}{k:Nat}(h:dQ x=true)(hk:k<x.av.length):(at_ x.av k).aT.length<=3:=by simp only [dQ,Bool.and_eq_true,List.all_eq_true] at h;have:=h.1 _ (at_mem hk);simp only [iS,Bool.and_eq_true,decide_eq_true_eq] at this;omega
def gdL(r:Option (List Str)):List Str:=r.getD []
end Go.Dt
namespace Go.Proofs
open Go.Ab Go.Dt
attribute [local go_sem] aM aC dr dq jY iB jh jU tf qJ gC sX List.length_take
attribute [-instance] KU
instance Yk(l:List ae)(at0:List Str)(x:bP):Ctr lim prog 192 [] [.sl false 19 (l.map (aq false)),.sl false 1 (at0.map AV.str),.agg [.ac x.bR,.aa x.bG,.sl false 2 (x.av.map (aA false))]] (.tup [.sl true 1 ((gdL (eM l at0 x)).map AV.str),.ac (eM l at0 x).isSome]) [] (aH l<=1048576/\at0.length<=1024):=by
 refine Ctr.bd func192 ntmps192 fun hp=>?_;have gOn:=aD.on;obtain ⟨hc,ha⟩:=hp;refine vK1 ?_;refine AW.c (fun h=>?_) fun h=>?_
 ·have:eM l at0 x=none:=by rw [eM,if_neg];rintro ⟨h1,h2⟩;rcases h with h|h<;>first|omega|(rw [h1] at h;cases h)
  rw [this];refine vU1 ?_;rfl
 obtain ⟨hip,hup⟩:=h;have hiv:=l8 hip
 have hst:=nM hip
 have hR0:eM l at0 x=jV l x.av (if x.bR=true then [] else at0.take (at0.length - x.bG.toNat)):=by rw [eM,if_pos ⟨hip,hup⟩]
 refine vK1 ?_;refine AW.c (fun h=>?_) fun h=>?_
 ·rw [h,if_neg QC] at hR0;refine vK1 ?_;rw [show (at0.length:Int) - x.bG=((at0.length - x.bG.toNat:Nat):Int) by omega];refine AW.aw [8,44] [0,42,43] (fun m xs o=>∃ (k:Nat) (out:List Str),xs=[.sl true 1 (out.map AV.str),.aa k]/\o=[]/\m=x.av.length - k/\k<=x.av.length/\out.length<=at0.length+k/\jV l (x.av.drop k) out=eM l at0 x) x.av.length [] trivial ⟨0,(at0.take (at0.length - x.bG.toNat)),rfl,rfl,rfl,Nat.zero_le _,QC,hR0.symm⟩ ?_;clear hR0 h;rintro m xs o ⟨k,out,rfl,rfl,rfl,hk,ho,hR⟩;refine vK1 ?_;refine AW.c (fun h=>?_) fun h=>?_
  ·have hk1:=h;refine vN1 ?_;refine Z ?_
   (refine vN1 ?_;intro h)
   refine Z ?_;refine vN1 ?_;rw [show out.map AV.str++[AV.str (at_ x.av k).ag]=(out++[(at_ x.av k).ag]).map AV.str by simp];refine AW.imp (Imp.kM 8 (sz:=1) (l:=(out++[(at_ x.av k).ag]).map AV.str) rfl (jm _) (fun b hb=>?_) (fun hnil=>?_))
   ·have hb1:=hb.nf;refine gS ?_;have hb2:¬ h=b:=by simpa [nfO] using hb1
    have hol:(out++[(at_ x.av k).ag]).length=out.length+1:=by simp
    cases hf:dM l (out++[(at_ x.av k).ag]) with
    | none =>
     haveI hi:=zF b l (out++[(at_ x.av k).ag]);rw [hol] at hi;rw [<- hR,xF hk1 hf]
     (refine vU1 ?_;intro h h h)
     all_goals rfl
    | some n =>
     haveI hi:=wK b l (out++[(at_ x.av k).ag]) n;rw [hol] at hi
     (refine vK1 ?_;intro h h)
     rename Nat=>g
     obtain ⟨n1,n2⟩:=h;refine AW.e fun h=>?_;refine vK1 ?_;have hcn:=qO hf
     have ht3:=p6 hip hk1;refine AW.aw [65] [0,8,11,42,43,44,63,64] (fun m xs o=>∃ j:Nat,xs=[.aa j]/\o=[(g,some (jU n)),(b,some ((out++[(at_ x.av k).ag]).map AV.str))]/\m=(at_ x.av k).aT.length - j/\j<=(at_ x.av k).aT.length/\∀ y∈(at_ x.av k).aT.take j,(!ku n y)=false) (at_ x.av k).aT.length [(g,some (jU n)),(b,some ((out++[(at_ x.av k).ag]).map AV.str))] gO ⟨0,rfl,rfl,rfl,Nat.zero_le _,QC⟩ ?_;rintro m xs o ⟨j,rfl,rfl,rfl,hj,hT⟩;refine vK1 ?_;refine AW.c (fun h=>?_) fun h=>?_
     ·have hj1:=h;by_cases hx:0<=idx (dW (at_ (at_ x.av k).aT j).ag) (dk n.af)
      ·haveI hl:=rK (dk n.af) (at_ (at_ x.av k).aT j).ag
       (refine vU1 ?_;intro h h h h h)
       exact ⟨_,[_],_,Ir,⟨j+1,rfl,rfl,rfl,Ir,aL hj1 hT (by rw [ku,decide_eq_true hx];rfl)⟩,rfl,gO⟩
      ·haveI hl:=uM (dk n.af) (at_ (at_ x.av k).aT j).ag
       (refine vU1 ?_;intro h h h h h)
       rw [<- hR,uy hk1 hf (eQ hj1 (by rw [ku,decide_eq_false hx]))];rfl
     ·refine AW.imp (Imp.fold 8 (b:=b) (len:=out.length+1) (sz:=1) (cells:=(out++[(at_ x.av k).ag]).map AV.str) (l:=(out++[(at_ x.av k).ag]).map AV.str) rfl ?_ (by rw [List.length_map,hol]) (by rw [gC,List.take_of_length_le];rw [List.length_map,hol];omega) (jm _) ?_)
      ·rw [vA (Ne.symm n1),fq]
      refine vU1 ?_;exact ⟨_,[_,_],[],Ir,⟨k+1,out++[(at_ x.av k).ag],rfl,rfl,rfl,Ir,by rw [hol];omega,by rw [<- hR,xG hk1 hf (cM h hT)]⟩,rfl,trivial⟩
   ·simp at hnil
  ·rw [uw h] at hR;rw [<- hR];refine vU1 ?_;rfl
 ·rw [h,if_pos rfl] at hR0;refine vK1 ?_;refine AW.aw [8,44] [0,42,43] (fun m xs o=>∃ (k:Nat) (out:List Str),xs=[.sl true 1 (out.map AV.str),.aa k]/\o=[]/\m=x.av.length - k/\k<=x.av.length/\out.length<=at0.length+k/\jV l (x.av.drop k) out=eM l at0 x) x.av.length [] trivial ⟨0,([]:List Str),rfl,rfl,rfl,Nat.zero_le _,QC,hR0.symm⟩ ?_;clear hR0 h;rintro m xs o ⟨k,out,rfl,rfl,rfl,hk,ho,hR⟩;refine vK1 ?_;refine AW.c (fun h=>?_) fun h=>?_
  ·have hk1:=h;refine vN1 ?_;refine Z ?_
   (refine vN1 ?_;intro h)
   refine Z ?_;refine vN1 ?_;rw [show out.map AV.str++[AV.str (at_ x.av k).ag]=(out++[(at_ x.av k).ag]).map AV.str by simp];refine AW.imp (Imp.kM 8 (sz:=1) (l:=(out++[(at_ x.av k).ag]).map AV.str) rfl (jm _) (fun b hb=>?_) (fun hnil=>?_))
   ·have hb1:=hb.nf;refine gS ?_;have hb2:¬ h=b:=by simpa [nfO] using hb1
    have hol:(out++[(at_ x.av k).ag]).length=out.length+1:=by simp
    cases hf:dM l (out++[(at_ x.av k).ag]) with
    | none =>
     haveI hi:=zF b l (out++[(at_ x.av k).ag]);rw [hol] at hi;rw [<- hR,xF hk1 hf]
     (refine vU1 ?_;intro h h h)
     all_goals rfl
    | some n =>
     haveI hi:=wK b l (out++[(at_ x.av k).ag]) n;rw [hol] at hi
     (refine vK1 ?_;intro h h)
     rename Nat=>g
     obtain ⟨n1,n2⟩:=h;refine AW.e fun h=>?_;refine vK1 ?_;have hcn:=qO hf
     have ht3:=p6 hip hk1;refine AW.aw [65] [0,8,11,42,43,44,63,64] (fun m xs o=>∃ j:Nat,xs=[.aa j]/\o=[(g,some (jU n)),(b,some ((out++[(at_ x.av k).ag]).map AV.str))]/\m=(at_ x.av k).aT.length - j/\j<=(at_ x.av k).aT.length/\∀ y∈(at_ x.av k).aT.take j,(!ku n y)=false) (at_ x.av k).aT.length [(g,some (jU n)),(b,some ((out++[(at_ x.av k).ag]).map AV.str))] gO ⟨0,rfl,rfl,rfl,Nat.zero_le _,QC⟩ ?_;rintro m xs o ⟨j,rfl,rfl,rfl,hj,hT⟩;refine vK1 ?_;refine AW.c (fun h=>?_) fun h=>?_
     ·have hj1:=h;by_cases hx:0<=idx (dW (at_ (at_ x.av k).aT j).ag) (dk n.af)
      ·haveI hl:=rK (dk n.af) (at_ (at_ x.av k).aT j).ag
       (refine vU1 ?_;intro h h h h h)
       exact ⟨_,[_],_,Ir,⟨j+1,rfl,rfl,rfl,Ir,aL hj1 hT (by rw [ku,decide_eq_true hx];rfl)⟩,rfl,gO⟩
      ·haveI hl:=uM (dk n.af) (at_ (at_ x.av k).aT j).ag
       (refine vU1 ?_;intro h h h h h)
       rw [<- hR,uy hk1 hf (eQ hj1 (by rw [ku,decide_eq_false hx]))];rfl
     ·refine AW.imp (Imp.fold 8 (b:=b) (len:=out.length+1) (sz:=1) (cells:=(out++[(at_ x.av k).ag]).map AV.str) (l:=(out++[(at_ x.av k).ag]).map AV.str) rfl ?_ (by rw [List.length_map,hol]) (by rw [gC,List.take_of_length_le];rw [List.length_map,hol];omega) (jm _) ?_)
      ·rw [vA (Ne.symm n1),fq]
      refine vU1 ?_;exact ⟨_,[_,_],[],Ir,⟨k+1,out++[(at_ x.av k).ag],rfl,rfl,rfl,Ir,by rw [hol];omega,by rw [<- hR,xG hk1 hf (cM h hT)]⟩,rfl,trivial⟩
   ·simp at hnil
  ·rw [uw h] at hR;rw [<- hR];refine vU1 ?_;rfl
end Go.Proofs
namespace Go.Dt
open Go Go.Ab
def JR{s:List ae}{nm:Str}{n:ae}(h:fd1 s nm=some n):n∈dk s:=by
 rw [fd1] at h;split at h
 ·rename_i e;cases h;exact (dF e).2.2
 ·cases h
def CI:∀ {ns:List Str} {s:List ae} {n:ae},gdF s->dM s ns=some n->gdF n.af/\∃ kd b,gq kd b n=true
 | [],s,n,_,h=>by simp [dM] at h
 | [a],s,n,hg,h=>by
  obtain ⟨_,_,kd,bd,_,hk⟩:=hg;exact oX s kd bd hk n (JR (by rw [<- GR];exact h))
 | a::b::r,s,n,hg,h=>by
  cases h1:fd1 s a with
  | none=>rw [GS h1] at h;cases h
  | some c =>
   rw [GQ h1] at h;obtain ⟨_,_,kd,bd,_,hk⟩:=hg;exact CI (oX s kd bd hk c (JR h1)).1 h
def LZ{d:List ae}(hd:bT (nmS d)=true)(t:Str):0<=idx (dW t) d↔0<=idx (nmP t) d/\(at_ d (idx (nmP t) d).toNat).aj=3:=by
 constructor
 ·intro h;obtain ⟨h1,h2,h3⟩:=dF h;simp only [dW,Bool.and_eq_true,beq_iff_eq,decide_eq_true_eq] at h2;have h4:=(qM (p:=nmP t) h1 (by simp [nmP,h2.1])).2;obtain ⟨g1,g2,g3⟩:=dF h4;have:at_ d (idx (nmP t) d).toNat=at_ d (idx (dW t) d).toNat:=ou hd g3 h3 (by rw [h2.1];simpa [nmP] using g2);exact ⟨h4,by rw [this];exact h2.2⟩
 ·rintro ⟨h4,h5⟩;obtain ⟨g1,g2,g3⟩:=dF h4;exact (qM (p:=dW t) g1 (by simp only [dW,h5,decide_true,Bool.and_true];simpa [nmP] using g2)).2
end Go.Dt
namespace Go.Proofs
open Go.Ab Go.Dt
attribute [local go_sem] aM aC dr dq jY iB jh jU tf qJ gC sX List.length_take
attribute [-instance] cK dh
instance XR(l:List ae)(at0:List Str)(x:bP):Ctr lim prog 178 [] [.sl false 19 (l.map (aq false)),.sl false 1 (at0.map AV.str),.agg [.ac x.bR,.aa x.bG,.sl false 2 (x.av.map (aA false))]] (.tup [.sl true 1 ((gdL (eM l at0 x)).map AV.str),.ac (eM l at0 x).isSome]) [] (aH l<=1048576/\at0.length<=1024/\gdF l):=by
 refine Ctr.bd func178 ntmps178 fun hp=>?_;have gOn:=aD.on;obtain ⟨hc,ha,hg⟩:=hp;refine vK1 ?_;refine AW.c (fun h=>?_) fun h=>?_
 ·have:eM l at0 x=none:=by rw [eM,if_neg];rintro ⟨h1,h2⟩;rcases h with h|h<;>first|omega|(rw [h1] at h;cases h)
  rw [this];refine vU1 ?_;rfl
 obtain ⟨hip,hup⟩:=h;have hiv:=l8 hip
 have hst:=nM hip
 have hR0:eM l at0 x=jV l x.av (if x.bR=true then [] else at0.take (at0.length - x.bG.toNat)):=by rw [eM,if_pos ⟨hip,hup⟩]
 refine vK1 ?_;refine AW.c (fun h=>?_) fun h=>?_
 ·rw [h,if_pos rfl] at hR0;refine vK1 ?_;refine AW.aw [8,9] [0,5] (fun m xs o=>∃ (k:Nat) (out:List Str),xs=[.sl true 1 (out.map AV.str),.aa k]/\o=[]/\m=x.av.length - k/\k<=x.av.length/\out.length<=at0.length+k/\jV l (x.av.drop k) out=eM l at0 x) x.av.length [] trivial ⟨0,([]:List Str),rfl,rfl,rfl,Nat.zero_le _,QC,hR0.symm⟩ ?_;clear hR0 h;rintro m xs o ⟨k,out,rfl,rfl,rfl,hk,ho,hR⟩;refine vK1 ?_;refine AW.c (fun h=>?_) fun h=>?_
  ·have hk1:=h;refine vN1 ?_;refine Z ?_;refine vN1 ?_;rw [show out.map AV.str++[AV.str (at_ x.av k).ag]=(out++[(at_ x.av k).ag]).map AV.str by simp];refine AW.imp (Imp.kM 8 (sz:=1) (l:=(out++[(at_ x.av k).ag]).map AV.str) rfl (jm _) (fun b hb=>?_) (fun hnil=>?_))
   ·refine gS ?_;have hol:(out++[(at_ x.av k).ag]).length=out.length+1:=by simp
    cases hf:dM l (out++[(at_ x.av k).ag]) with
    | none =>
     haveI hi:=ur (out++[(at_ x.av k).ag]) (out.length+1) b 0 l;rw [List.drop_zero,Nat.zero_add] at hi;rw [<- hR,xF hk1 hf]
     (refine vU1 ?_;intro h h h)
     all_goals rfl
    | some n =>
     haveI hi:=rz (out++[(at_ x.av k).ag]) n (out.length+1) b 0 l;rw [List.drop_zero,Nat.zero_add] at hi;have hcn:=qO hf
     have ht3:=p6 hip hk1
     have hdd:=(CI hg hf).1.2.1
     (refine vK1 ?_;intro h h)
     rename Nat=>g
     have n1:=h;refine AW.e fun h=>?_;refine vK1 ?_;refine AW.aw [13] [0,5,8,9,12] (fun m xs o=>∃ j:Nat,xs=[.aa j]/\o=[(b,some ((out++[(at_ x.av k).ag]).map AV.str))]/\m=(at_ x.av k).aT.length - j/\j<=(at_ x.av k).aT.length/\∀ y∈(at_ x.av k).aT.take j,(!ku n y)=false) (at_ x.av k).aT.length [(b,some ((out++[(at_ x.av k).ag]).map AV.str))] gO ⟨0,rfl,rfl,rfl,Nat.zero_le _,QC⟩ ?_;rintro m xs o ⟨j,rfl,rfl,rfl,hj,hT⟩;have hte:=LZ hdd (at_ (at_ x.av k).aT j).ag
     have hlt:=eO (p:=nmP (at_ (at_ x.av k).aT j).ag) (dk n.af);refine vK1 ?_;refine AW.c (fun h=>?_) fun h=>?_
     ·have hj1:=h
      (refine vU2 ?_ ?_<;>with_reducible repeat intro h)
      ·rw [<- hR,uy hk1 hf (eQ hj1 (by rw [ku,decide_eq_false];rw [hte];omega))]<;>rfl
      ·exact ⟨_,[_],_,Ir,⟨j+1,rfl,rfl,rfl,Ir,aL hj1 hT (by rw [ku,decide_eq_true (hte.2 Ir)];rfl)⟩,rfl,gO⟩
     ·refine AW.imp (Imp.fold 8 (b:=b) (len:=out.length+1) (sz:=1) (cells:=(out++[(at_ x.av k).ag]).map AV.str) (l:=(out++[(at_ x.av k).ag]).map AV.str) rfl ?_ (by rw [List.length_map,hol]) (by rw [gC,List.take_of_length_le];rw [List.length_map,hol];omega) (jm _) ?_)
      ·rw [fq]
      refine vU1 ?_;exact ⟨_,[_,_],[],Ir,⟨k+1,out++[(at_ x.av k).ag],rfl,rfl,rfl,Ir,by rw [hol];omega,by rw [<- hR,xG hk1 hf (cM h hT)]⟩,rfl,trivial⟩
   ·simp at hnil
  ·rw [uw h] at hR;rw [<- hR];refine vU1 ?_;rfl
 ·rw [h,if_neg QC] at hR0;refine vK1 ?_;rw [show (at0.length:Int) - x.bG=((at0.length - x.bG.toNat:Nat):Int) by omega];refine AW.aw [8,9] [0,5] (fun m xs o=>∃ (k:Nat) (out:List Str),xs=[.sl true 1 (out.map AV.str),.aa k]/\o=[]/\m=x.av.length - k/\k<=x.av.length/\out.length<=at0.length+k/\jV l (x.av.drop k) out=eM l at0 x) x.av.length [] trivial ⟨0,(at0.take (at0.length - x.bG.toNat)),rfl,rfl,rfl,Nat.zero_le _,QC,hR0.symm⟩ ?_;clear hR0 h;rintro m xs o ⟨k,out,rfl,rfl,rfl,hk,ho,hR⟩;refine vK1 ?_;refine AW.c (fun h=>?_) fun h=>?_
  ·have hk1:=h;refine vN1 ?_;refine Z ?_;refine vN1 ?_;rw [show out.map AV.str++[AV.str (at_ x.av k).ag]=(out++[(at_ x.av k).ag]).map AV.str by simp];refine AW.imp (Imp.kM 8 (sz:=1) (l:=(out++[(at_ x.av k).ag]).map AV.str) rfl (jm _) (fun b hb=>?_) (fun hnil=>?_))
   ·refine gS ?_;have hol:(out++[(at_ x.av k).ag]).length=out.length+1:=by simp
    cases hf:dM l (out++[(at_ x.av k).ag]) with
    | none =>
     haveI hi:=ur (out++[(at_ x.av k).ag]) (out.length+1) b 0 l;rw [List.drop_zero,Nat.zero_add] at hi;rw [<- hR,xF hk1 hf]
     (refine vU1 ?_;intro h h h)
     all_goals rfl
    | some n =>
     haveI hi:=rz (out++[(at_ x.av k).ag]) n (out.length+1) b 0 l;rw [List.drop_zero,Nat.zero_add] at hi;have hcn:=qO hf
     have ht3:=p6 hip hk1
     have hdd:=(CI hg hf).1.2.1
     (refine vK1 ?_;intro h h)
     rename Nat=>g
     have n1:=h;refine AW.e fun h=>?_;refine vK1 ?_;refine AW.aw [13] [0,5,8,9,12] (fun m xs o=>∃ j:Nat,xs=[.aa j]/\o=[(b,some ((out++[(at_ x.av k).ag]).map AV.str))]/\m=(at_ x.av k).aT.length - j/\j<=(at_ x.av k).aT.length/\∀ y∈(at_ x.av k).aT.take j,(!ku n y)=false) (at_ x.av k).aT.length [(b,some ((out++[(at_ x.av k).ag]).map AV.str))] gO ⟨0,rfl,rfl,rfl,Nat.zero_le _,QC⟩ ?_;rintro m xs o ⟨j,rfl,rfl,rfl,hj,hT⟩;have hte:=LZ hdd (at_ (at_ x.av k).aT j).ag
     have hlt:=eO (p:=nmP (at_ (at_ x.av k).aT j).ag) (dk n.af);refine vK1 ?_;refine AW.c (fun h=>?_) fun h=>?_
     ·have hj1:=h
      (refine vU2 ?_ ?_<;>with_reducible repeat intro h)
      ·rw [<- hR,uy hk1 hf (eQ hj1 (by rw [ku,decide_eq_false];rw [hte];omega))]<;>rfl
      ·exact ⟨_,[_],_,Ir,⟨j+1,rfl,rfl,rfl,Ir,aL hj1 hT (by rw [ku,decide_eq_true (hte.2 Ir)];rfl)⟩,rfl,gO⟩
     ·refine AW.imp (Imp.fold 8 (b:=b) (len:=out.length+1) (sz:=1) (cells:=(out++[(at_ x.av k).ag]).map AV.str) (l:=(out++[(at_ x.av k).ag]).map AV.str) rfl ?_ (by rw [List.length_map,hol]) (by rw [gC,List.take_of_length_le];rw [List.length_map,hol];omega) (jm _) ?_)
      ·rw [fq]
      refine vU1 ?_;exact ⟨_,[_,_],[],Ir,⟨k+1,out++[(at_ x.av k).ag],rfl,rfl,rfl,Ir,by rw [hol];omega,by rw [<- hR,xG hk1 hf (cM h hT)]⟩,rfl,trivial⟩
   ·simp at hnil
  ·rw [uw h] at hR;rw [<- hR];refine vU1 ?_;rfl
end Go.Proofs
namespace Go.Dt
open Go Go.Ab
def IG{l:List ae}{at0:List Str}{t:cT}(h:¬ t.aj=5\/(kV t.az).isSome=false):nY l at0 t=none:=by
 rw [nY];split
 ·rcases h with h|h
  ·contradiction
  ·cases e:kV t.az with
   | none=>rfl
   | some p=>rw [e] at h;cases h
 ·rfl
def E9{l:List ae}{at0:List Str}{t:cT}{p:bP}(h:t.aj=5)(h2:kV t.az=some p):nY l at0 t=(match eM l at0 p with
   | none=>none
   | some out=>match dM l out with
    | none=>none
    | some n=>if vR n=true then some out else none):=by
 rw [nY,if_pos h,h2];rfl
def Fy{l:List ae}:∀ {ss:List GStep} {out r:List Str},jV l ss out=some r->r.length=out.length+ss.length
 | [],out,r,h=>by rw [jV] at h;cases h;simp
 | s::ss,out,r,h=>by
  rw [jV] at h;split at h
  ·cases h
  ·split at h
   ·have:=Fy h;rw [this];simp;omega
   ·cases h
def Fx{l:List ae}{at0 r:List Str}{x:bP}(h:eM l at0 x=some r):r.length<=at0.length+10:=by
 rw [eM] at h;split at h
 ·rename_i h1;have h2:=nM h1.1
  have:=Fy h;split at this
  ·simp at this;omega
  ·rw [List.length_take] at this;omega
 ·cases h
def Dn{s:Str}{p:bP}(h:kV s=some p):fV s=p:=by rw [fV,h]
end Go.Dt
namespace Go.Proofs
open Go.Ab Go.Dt
attribute [local go_sem] aM aC dr dq jY iB jh jU tf qJ gC sX List.length_take
attribute [-instance] cK dh
theorem Te(s:List ae):Ctr lim prog 119 [] [.sl false 19 (s.map (aq false)),.sl false 1 []] (.tup [.agg jh,.ac false]) [] True:=by
 refine Ctr.bd func119 ntmps119 fun hp=>?_;have gOn:=aD.on
 (refine vU1 ?_;intro h h h)
 rename_i c a;refine AW.aw [] [0,1,4,6,12,13,14] (fun m xs o=>xs=[]/\o=[(a,some jh),(c,some jh)]) 0 [(a,some jh),(c,some jh)] gO ⟨rfl,rfl⟩ ?_;rintro m xs o ⟨rfl,rfl⟩
 (refine vU1 ?_;intro h)
 all_goals rfl
theorem RQ(s:List ae):Ctr lim prog 180 [] [.sl false 19 (s.map (aq false)),.sl false 1 []] (.tup [.agg jh,.ac false]) [] True:=by
 refine Ctr.bd func180 ntmps180 fun hp=>?_;have gOn:=aD.on
 all_goals exact uU
theorem NX{f:FuncId}{os:Sto}{args:List AV}{res:AV}{cs:List (Option (List AV))}{ns:List Str}{s:List ae}{r:Option ae}{a b:Prop}(h:Ctr lim prog f os args res cs (0+ns.length=ns.length/\dM s (ns.drop 0)=r/\a/\b)):Ctr lim prog f os args res cs (dM s ns=r/\a/\b):=⟨h.en,fun hp=>h.out ⟨Nat.zero_add _,hp⟩⟩
instance Zr(l:List ae)(at0:List Str)(x:cT):Ctr lim prog 155 [] [.sl false 19 (l.map (aq false)),.sl false 1 (at0.map AV.str),.agg (cTy x)] (.tup [.sl true 1 ((gdL (nY l at0 x)).map AV.str),.ac (nY l at0 x).isSome]) [] (aH l<=1048576/\at0.length<=1000/\x.az.length<=1048576):=by
 refine Ctr.bd func155 ntmps155 fun hp=>?_;obtain ⟨hc,ha,hx⟩:=hp;have gOn:=aD.on
 (refine vK1 ?_;intro h)
 refine AW.c (fun h=>?_) fun h=>?_
 ·rw [IG (h.imp id id)];refine vU1 ?_;rfl
 obtain ⟨h5,hs⟩:=h;obtain ⟨p,hp⟩:=Option.isSome_iff_exists.1 hs;rw [E9 h5 hp];rw [Dn hp];refine vN1 ?_;refine Z ?_;refine vN1 ?_
 have hz:dM l (gdL (eM l at0 p))=none->(match eM l at0 p with
    | none=>none
    | some out=>match dM l out with
     | none=>none
     | some n=>if vR n=true then some out else none)=(none:Option (List Str)):=fun e=>by
  cases e2:eM l at0 p with
  | none=>rfl
  | some out=>rw [e2] at e;simp only [show dM l out=none from e]
 by_cases h0:gdL (eM l at0 p)=[]
 ·rw [hz (by rw [h0];rfl),h0];haveI hi:=Te l;refine AW.imp (Imp.frz 10 ?_);refine gS ?_
  (refine vU1 ?_;intro h h h)
  all_goals rfl
 obtain ⟨out,ho⟩:∃ out,eM l at0 p=some out:=by
  cases e:eM l at0 p with
  | none=>rw [e] at h0;exact absurd rfl h0
  | some out=>exact ⟨out,rfl⟩
 have hl:=Fx ho;rw [ho] at h0 hz ⊢;simp only [gdL,Option.getD_some,Option.isSome_some] at h0 hz ⊢;refine AW.imp (Imp.kM 10 (sz:=1) (l:=out.map AV.str) rfl (jm _) (fun b hb=>?_) (fun hnil=>?_))
 ·have hb1:=hb.nf;refine gS ?_
  cases hf:dM l out with
  | none =>
   haveI hi:=zF b l out
   (refine vU1 ?_;intro h h h)
   all_goals rfl
  | some n =>
   haveI hi:=wK b l out n
   (refine vK1 ?_;intro h h)
   refine AW.c (fun h=>?_) fun h=>?_
   ·rw [if_neg (by rw [vR];simp;omega)];refine vU1 ?_;rfl
   ·rw [if_pos (by rw [vR];simp;omega)];refine AW.imp (Imp.fold 10 (b:=b) (len:=out.length) (sz:=1) (cells:=out.map AV.str) (l:=out.map AV.str) rfl ?_ (by rw [List.length_map]) (by rw [gC,List.take_of_length_le];rw [List.length_map];omega) (jm _) ?_)
    ·exact gO
    all_goals exact uU
 ·exact absurd (List.map_eq_nil_iff.1 hnil) h0
instance Y2(l:List ae)(at0:List Str)(x:cT):Ctr lim prog 137 [] [.sl false 19 (l.map (aq false)),.sl false 1 (at0.map AV.str),.agg (cTy x)] (.tup [.sl true 1 ((gdL (nY l at0 x)).map AV.str),.ac (nY l at0 x).isSome]) [] (aH l<=1048576/\at0.length<=1000/\x.az.length<=1048576/\gdF l):=by
 refine Ctr.bd func137 ntmps137 fun hp=>?_;obtain ⟨hc,ha,hx,hg⟩:=hp;have gOn:=aD.on
 (refine vK1 ?_;intro h)
 refine AW.c (fun h=>?_) fun h=>?_
 ·rw [IG (h.imp id id)];refine vU1 ?_;rfl
 obtain ⟨h5,hs⟩:=h;obtain ⟨p,hp⟩:=Option.isSome_iff_exists.1 hs;rw [E9 h5 hp];rw [Dn hp];refine vN1 ?_;refine Z ?_;refine vN1 ?_
 have hz:dM l (gdL (eM l at0 p))=none->(match eM l at0 p with
    | none=>none
    | some out=>match dM l out with
     | none=>none
     | some n=>if vR n=true then some out else none)=(none:Option (List Str)):=fun e=>by
  cases e2:eM l at0 p with
  | none=>rfl
  | some out=>rw [e2] at e;simp only [show dM l out=none from e]
 by_cases h0:gdL (eM l at0 p)=[]
 ·rw [hz (by rw [h0];rfl),h0];haveI hi:=RQ l;refine AW.imp (Imp.frz 10 ?_);refine gS ?_
  (refine vU1 ?_;intro h h h)
  all_goals rfl
 obtain ⟨out,ho⟩:∃ out,eM l at0 p=some out:=by
  cases e:eM l at0 p with
  | none=>rw [e] at h0;exact absurd rfl h0
  | some out=>exact ⟨out,rfl⟩
 have hl:=Fx ho;rw [ho] at h0 hz ⊢;simp only [gdL,Option.getD_some,Option.isSome_some] at h0 hz ⊢;refine AW.imp (Imp.kM 10 (sz:=1) (l:=out.map AV.str) rfl (jm _) (fun b hb=>?_) (fun hnil=>?_))
 ·have hb1:=hb.nf;refine gS ?_
  cases hf:dM l out with
  | none =>
   haveI hi:=NX (ur out out.length b 0 l)
   (refine vU1 ?_;intro h h h)
   all_goals rfl
  | some n =>
   haveI hi:=NX (rz out n out.length b 0 l)
   (refine vK1 ?_;intro h h)
   refine AW.c (fun h=>?_) fun h=>?_
   ·rw [if_neg (by rw [vR];simp;omega)];refine vU1 ?_;rfl
   ·rw [if_pos (by rw [vR];simp;omega)];refine AW.imp (Imp.fold 10 (b:=b) (len:=out.length) (sz:=1) (cells:=out.map AV.str) (l:=out.map AV.str) rfl ?_ (by rw [List.length_map]) (by rw [gC,List.take_of_length_le];rw [List.length_map];omega) (jm _) ?_)
    ·exact gO
    all_goals exact uU
 ·exact absurd (List.map_eq_nil_iff.1 hnil) h0
end Go.Proofs
