/- Part of a proof. -/
import Derived.Test.YtbiikafnjialjaaGreatDoorS27
set_option linter.all false
open List
namespace Go.Ab
open Go.RowKit (Below)
section
variable {L : Nat -> Nat} {F : Nat -> Prop} {w : World}
def pfz:List AV->List Value->List AV
 | x::xs,v::vs=>(bif x.du then x else .pin v x.frz)::pfz xs vs
 | _,_=>[]
def au.pfz{F1:haa}(hF:∀b,F b->F1 b):∀ {l:List AV} {vs:List Value} {fp:List Nat},(∀b,b∈fp->F1 b)->au L F w l vs fp->au L F1 w (Ab.pfz l vs) vs []
 | [],vs,fp,_,h=>by simp only[au]at h;rw[h.1];simp[Ab.pfz,au]
 | x::xs,vs,fp,hf,h=>by
  simp only[au]at h;obtain⟨y,vs',f1,f2,rfl,rfl,hx,hxs⟩:=h;simp only[Ab.pfz,au];refine⟨y,vs',[],[],rfl,rfl,?_,au.pfz hF (λb hb=>hf b (by simp[hb])) hxs⟩
  cases hn:x.du with
  | true =>
   rw[cond_true];rw[Rep.eK hn hx]at hx;exact Rep.ext (S:=λ_=>True) ⟨Nat.le_refl _,λ_ _=>rfl,λb c T z h=>⟨c,h,rfl⟩⟩ (λb hb=>⟨hF b hb,trivial⟩) (λ_ _=>trivial) hx
  | false =>
   rw[cond_false];simp only[Rep];exact⟨trivial,Rep.frz hF (λb hb=>hf b (by simp[hb])) hx⟩
def nod(l:List AV):Bool:=l.all λx=>bif x.du then x.det else true
def au.I7{F':haa}{w':World}:∀ {l:List AV} {vs ys:List Value} {fp fp':List Nat},nod l=true->au L F w l vs fp->au L F' w' (Ab.pfz l vs) ys fp'->ys=vs
 | [],vs,ys,fp,fp',_,h,h'=>by
  simp only[au]at h;rw[h.1]at h' ⊢;simp only[Ab.pfz,au]at h';exact h'.1
 | x::xs,vs,ys,fp,fp',hd,h,h'=>by
  simp only[au]at h;obtain⟨y,us,f1,f2,rfl,_,hx,hxs⟩:=h;simp only[Ab.pfz,au]at h';obtain⟨y',us',g1,g2,rfl,_,hx',PT⟩:=h';simp only[nod,all_cons,Bool.and_eq_true]at hd;rw[au.I7 (l:=xs) hd.2 hxs PT]
  have:y'=y:=by
   cases hn:x.du with
   | true =>
    rw[hn,cond_true]at hx' hd;have hd:=hd.1
    cases x with
    | v x=>simp only[Rep]at hx hx';rw[hx.1,hx'.1]
    | str x=>simp only[Rep]at hx hx';rw[hx.1,hx'.1]
    | _=>simp[AV.det]at hd
   | false =>
    rw[hn,cond_false]at hx';simp only[Rep]at hx';exact hx'.1
  rw[this]
def bY.rows{α:Type}{sz:Nat}{enc:α->List AV}:∀ {l:List α} {vals:List Value} {fp:List Nat},bY L F w sz (l.map λa=>AV.agg (enc a)) vals fp ->
  ∃m:List ((α×List Value)×List Nat),m.map (λp=>p.1.1)=l/\vals=m.flatMap (λp=>p.1.2)/\fp=m.flatMap (λp=>p.2)/\∀p,p∈m->p.1.2.length=sz/\au L F w (enc p.1.1) p.1.2 p.2
 | [],vals,fp,h=>by
  simp only[map_nil,bY]at h;exact⟨[],rfl,by rw[h.1];rfl,by rw[h.2];rfl,Xp⟩
 | a::l,vals,fp,h=>by
  simp only[map_cons,bY,Rep]at h;obtain⟨y,vs',f1,f2,rfl,hsz,rfl,⟨us,rfl,hu⟩,hl⟩:=h;obtain⟨m,rfl,rfl,rfl,hm⟩:=bY.rows hl;refine⟨((a,us),f1)::m,rfl,by simp[Value.cells],Xp,?_⟩;intro p hp;rcases List.mem_cons.1 hp with rfl|hp
  ·exact⟨by simpa[Value.cells]using hsz,hu⟩
  ·exact hm p hp
def bY.E6{β:Type}{sz:Nat}{e:β->List AV}{us:β->List Value}{fs:β->List Nat}:∀ {m:List β},(∀p,p∈m->(us p).length=sz/\au L F w (e p) (us p) (fs p))->bY L F w sz (m.map λp=>AV.agg (e p)) (m.flatMap us) (m.flatMap fs)
 | [],_=>by simp[bY]
 | p::m,h=>by
  simp only[map_cons,bY,flatMap_cons];obtain⟨h1,h2⟩:=h p Xp;refine⟨.agg (us p).toArray,m.flatMap us,fs p,m.flatMap fs,by simp[Value.cells],by simpa[Value.cells]using h1,rfl,?_,bY.E6 λq hq=>h q (by simp[hq])⟩;simp only[Rep];exact⟨us p,rfl,h2⟩
end
def xc(t' t:faa):Prop:=∀j,T t' j=.dead\/(T t' j=T t j/\∃v,T t j=.v v)
def acJ{α:Type}(n:Nat)(e1:α->List AV)(m:List (α×List Value))(sz:Nat)(Q:AS->Prop)(s':AS):Prop :=
 (∃t',xc t' s'.t/\Q ⟨n,t',[]⟩) \/
 ∃(r:Nat) (m':List (α×List Value)) (t':faa),m'.Perm m/\T s'.t r=.sl true sz (m'.map λp=>.agg (pfz (e1 p.1) p.2.tail))/\xc t' s'.t/\Q ⟨n,(r,.sl true sz (m'.map λp=>.agg (e1 p.1)))::t',[]⟩
def AW.aba{L:gaa}{P:Program}{c:Code}{n:Nat}{t:faa}{o:Sto}{Q:Exit->AS->Prop}(i:Nat){sz:Nat}{α:Type}{x0:α->AV}{e1:α->List AV}(l:List α)
  (hT:T t i=.sl true (sz+1) (l.map λa=>.agg (x0 a::e1 a))) (hx:∀a,(x0 a).du=true) (hd:∀a,nod (x0 a::e1 a)=true)
  (h:∀m:List (α×List Value),m.map Prod.fst=l->(∀p,p∈m->p.2.length=sz+1) ->
   AW L P c ⟨n,(i,.sl true (sz+1) (m.map λp=>.agg (pfz (x0 p.1::e1 p.1) p.2)))::t,o⟩ (λe s'=>s'.n=n/\acJ n e1 m sz (Q e) s')):AW L P c ⟨n,t,o⟩ Q:=by
 intro B F0 w0 a w cH;obtain⟨F,own,fp,fs,hD⟩:=cH;have hr:=hD.slots i;simp only at hr;rw[hT]at hr
 obtain⟨m,N,hml,hN,hmr,CZ⟩:∃(m:List ((α×List Value)×List Nat)) (N:List Nat),m.map (λp=>p.1.1)=l/\N=m.flatMap (λp=>p.2)/\(∀p,p∈m->p.1.2.length=sz+1/\au L F w (x0 p.1.1::e1 p.1.1) p.1.2 p.2) /\
   ((fp i=N\/∃b,fp i=b::N)/\∀F1:Nat->Prop,(∀b,F b->F1 b)->(∀b,b∈N->F1 b)->Rep L F1 w (.sl true (sz+1) ((m.map Prod.fst).map λp=>.agg (pfz (x0 p.1::e1 p.1) p.2))) (a.tmps.getD i undef) (if fp i=N then [] else (fp i).take 1)):=by
  simp only[Rep]at hr;rcases hr with⟨hy,hl,hf⟩|⟨b,off,cap,vals,fp',hy,h1,h2,hrow,he,ho⟩
  ·have hl':l=[]:=by simpa using hl
   subst hl';refine⟨[],[],rfl,rfl,Xp,.inl hf,λF1 _ _=>?_⟩;rw[if_pos hf];simp only[Rep];exact .inl ⟨hy,rfl,by trivial⟩
  ·obtain⟨hfp,rfl,iO⟩:fp i=b::fp'/\off=0/\mq w b (off+cap * (sz+1)):=by
    rcases ho with⟨_,h⟩|⟨e,_⟩
    ·exact h
    ·cases e
   obtain⟨m,rfl,rfl,rfl,hm⟩:=bY.rows he;refine⟨m,_,rfl,rfl,hm,.inr ⟨b,hfp⟩,λF1 hF hN=>?_⟩
   have hne:fp i≠m.flatMap λp=>p.2:=λe=>by
    have:=congrArg List.length (hfp.symm.trans e);simp at this
   rw[if_neg hne,hfp];simp only[Rep];refine .inr ⟨b,0,cap,m.flatMap (λp=>p.1.2),[],by simpa using hy,by simpa using h1,by simpa using h2,hrow,?_,.inl ⟨by trivial,rfl,rfl,iO⟩⟩
   have:=bY.E6 (L:=L) (F:=F1) (w:=w) (sz:=sz+1) (m:=m) (e:=λp=>pfz (x0 p.1.1::e1 p.1.1) p.1.2) (us:=λp=>p.1.2) (fs:=λ_=>[]) λp hp=>⟨(hm p hp).1,au.pfz hF (λb hb=>hN b (List.mem_flatMap.2 ⟨p,hp,hb⟩)) (hm p hp).2⟩
   rw[map_map];rw[show m.flatMap (λ_=>([]:List Nat))=[]from List.flatMap_eq_nil_iff.2 λ_ _=>rfl]at this;exact this
 obtain⟨P1,CZ⟩:=CZ;have hNi:∀b,b∈N->own b=.slot i:=λb hb=>hD.so i b (by rcases P1 with e|⟨c,e⟩<;>rw[e]<;>simp[hb])
 have hNn:N.Nodup:=by
  have:=hD.sn i;rcases P1 with e|⟨c,e⟩
  ·rw[e]at this;exact this
  ·rw[e]at this;exact(List.nodup_cons.1 this).2
 classical
 let F1:Nat->Prop:=λb=>F b\/b∈N
 let B1:Nat->Prop:=λb=>B b\/F b\/b∈N
 let kG:Nat->Own:=λb=>if b∈N then .none else own b
 have hNw:∀b,b∈N->¬B b/\b<w.heap.size:=λb hb=>hD.ol b (by rw[hNi b hb];simp)
 have hB1:∀b,B1 b->b<w.heap.size:=λb hb=>by
  rcases hb with hb|hb|hb
  ·exact hD.hB b hb
  ·exact(hD.fl b hb).2.1
  ·exact(hNw b hb).2
 have hEr:Ext (λ_=>True) w w:=⟨Nat.le_refl _,λ_ _=>rfl,λb c T z h=>⟨c,h,rfl⟩⟩
 have YW:Den L B1 F1 w ⟨n,(i,.sl true (sz+1) ((m.map Prod.fst).map λp=>.agg (pfz (x0 p.1::e1 p.1) p.2)))::t,o⟩ a w:=by
  refine⟨F1,kG,λj=>if j=i then (if fp i=N then [] else (fp i).take 1) else fp j,fs,{ below:=Kp.refl _ _,hB:=hB1,tb:=hD.tb.kp hD.below λb hb=>.inl hb,f0:=λ_ h=>h,fl:=λb hb=>⟨?_,hB1 b (.inr hb),.inl hb⟩,ol:=λb hb=>?_,defers:=hD.defers,size:=hD.size,slots:=?_,sn:=?_,so:=?_,obj:=?_ }⟩
  ·rcases hb with hb|hb
   ·simp only[kG];split
    ·rfl
    ·exact(hD.fl b hb).1
   ·simp only[kG,if_pos hb]
  ·by_cases hm:b∈N
   ·simp only[kG,if_pos hm]at hb;exact absurd rfl hb
   ·simp only[kG,if_neg hm]at hb;have:=hD.ol b hb;refine⟨?_,this.2⟩;rintro(h|h|h)
    ·exact this.1 h
    ·exact hb (hD.fl b h).1
    ·exact hm h
  ·intro j;rw[gA];by_cases e:i=j
   ·subst e;simp only[if_true];exact CZ F1 (λb hb=>.inl hb) (λb hb=>.inr hb)
   ·have e':¬j=i:=λh=>e h.symm;simp only[if_neg e,if_neg e'];exact Rep.ext hEr (λb hb=>⟨.inl hb,trivial⟩) (λ_ _=>trivial) (hD.slots j)
  ·intro j;split
   ·split
    ·simp
    ·exact(hD.sn i).sublist (take_sublist _ _)
   ·exact hD.sn j
  ·intro j b hb;split at hb
   ·rename_i e;subst e;split at hb
    ·simp at hb
    ·rename_i hne
     have hbN:b ∉ N:=by
      rcases P1 with e|⟨c,e⟩
      ·exact absurd e hne
      ·have:=hD.sn j;rw[e]at this hb;simp only[take_succ_cons,take_zero,mem_singleton]at hb;rw[hb];exact(List.nodup_cons.1 this).1
     simp only[kG,if_neg hbN];exact hD.so j b (mem_of_mem_take hb)
   ·rename_i e;have:=hD.so j b hb
    have hbN:b ∉ N:=λhm=>by rw[hNi b hm]at this;cases this;exact e rfl
    simp only[kG,if_neg hbN];exact this
  ·intro b cells hO;obtain⟨g1,g2,g3,cc,Ty,vals,rest,g4,g5,g6⟩:=hD.obj b cells hO;have nN:∀k,own k≠.slot i->k ∉ N:=λk hk hm=>hk (hNi k hm);refine⟨by simp only[kG,if_neg (nN b (by rw[g1];simp))];exact g1,g2,λk hk=>by simp only[kG,if_neg (nN k (by rw[g3 k hk];simp))];exact g3 k hk,cc,Ty,vals,rest,g4,g5,au.ext hEr (λb hb=>⟨.inl hb,trivial⟩) (λ_ _=>trivial) g6⟩
 have hrun:=h (m.map Prod.fst) (by rw[map_map];exact hml) (λp hp=>by
  obtain⟨q,hq,rfl⟩:=List.mem_map.1 hp
  exact(hmr q hq).1) B1 F1 w a w YW
 refine wp_mono hrun ?_;rintro e a' w' ⟨s',⟨hn,hth⟩,F',own',fp',fs',hD'⟩;have hF1:∀b,F b->F' b:=λb hb=>hD'.f0 b (.inl hb)
 have hN1:∀b,b∈N->F' b:=λb hb=>hD'.f0 b (.inr hb)
 have hK:=hD'.below
 have hsz:=hK.size
 have hKB:Kp B w0 w':=hD.below.trans (hK.mono λb hb=>.inl hb)
 have hE:Ext B1 w w':=⟨hK.size,hK.block,hK.shape⟩
 have Wa:∀b,F b->b<w'.heap.size/\(F0 b\/¬B b):=λb hb=>⟨Nat.lt_of_lt_of_le (hD.fl b hb).2.1 hsz,(hD.fl b hb).2.2⟩
 have hplain:∀t',xc t' s'.t->∀j,Rep L F w' (T t' j) (a'.tmps.getD j undef) []:=λt' ht j=>by
  rcases ht j with hj|⟨hj,v,hv⟩
  ·rw[hj];simp[Rep]
  ·rw[hj,hv];have:=hD'.slots j;rw[hv]at this;simp only[Rep]at this ⊢;exact⟨this.1,by trivial⟩
 rcases hth with⟨t',ht,hQ⟩|⟨r,m',t',hp,hTr,ht,hQ⟩
 ·refine⟨_,hQ,F,λ_=>.none,λ_=>[],λ_=>[],{ below:=hKB,hB:=λb hb=>Nat.lt_of_lt_of_le (hD.hB b hb) hsz,tb:=hD.tb,f0:=hD.f0,fl:=λb hb=>⟨rfl,Wa b hb⟩,ol:=λb hb=>absurd rfl hb,defers:=hD'.defers,size:=by rw[hD'.size];exact hn,slots:=λj=>hplain t' ht j,sn:=by simp,so:=by simp,obj:=by simp[O] }⟩
 ·obtain⟨k,hkm,rfl⟩:=Dt.H5 Prod.fst hp rfl;have hrr:=hD'.slots r;rw[hTr]at hrr;have hkr:∀p,p∈k->p.1.2.length=sz+1/\au L F w (x0 p.1.1::e1 p.1.1) p.1.2 p.2:=λp hp=>hmr p (hkm.mem_iff.1 hp)
  have hNk:(k.flatMap λp=>p.2).Perm N:=by rw[hN];exact List.Perm.flatMap_right _ hkm
  have hrow:∀p,p∈k->p.1.2.tail.length=sz/\au L F w' (e1 p.1.1) p.1.2.tail p.2:=by
   intro p hp;obtain⟨h1,h2⟩:=hkr p hp;simp only[au]at h2;obtain⟨y,vs',f1,f2,e3,e4,hx1,hxs⟩:=h2;have:f1=[]:=Rep.eK (hx _) hx1;subst this;rw[nil_append]at e4;rw[e3]at h1 ⊢;simp only[length_cons,Nat.add_right_cancel_iff]at h1;refine⟨h1,?_⟩;rw[tail_cons,e4];refine au.ext hE (λb hb=>⟨hb,.inr (.inl hb)⟩) (λb hb=>.inr (.inr ?_)) hxs;exact hNk.mem_iff.1 (List.mem_flatMap.2 ⟨p,hp,by rw[e4];exact hb⟩)
  have Wb:∃fpr,Rep L F w' (.sl true sz ((k.map Prod.fst).map λp=>.agg (e1 p.1))) (a'.tmps.getD r undef) fpr/\(fpr=(k.flatMap λp=>p.2)\/∃b,fpr=b::(k.flatMap λp=>p.2)/\own' b=.slot r):=by
   simp only[Rep]at hrr;rcases hrr with⟨hy,hl,hf⟩|⟨b,off,cap,vals,fpE,hy,h1,h2,hrw,he,ho⟩
   ·have hk0:k=[]:=by simpa using hl
    subst hk0;refine⟨[],?_,.inl rfl⟩;simp only[Rep];exact .inl ⟨hy,rfl,by trivial⟩
   ·obtain⟨hfp,rfl,iO⟩:fp' r=b::fpE/\off=0/\mq w' b (off+cap * sz):=by
     rcases ho with⟨_,h⟩|⟨e,_⟩
     ·exact h
     ·cases e
    have vG:vals=k.flatMap λp=>p.1.2.tail:=by
     rw[map_map]at he
     have:∀(k:List ((α×List Value)×List Nat)) (vals:List Value) (fpE:List Nat),(∀p,p∈k->au L F w (x0 p.1.1::e1 p.1.1) p.1.2 p.2)->bY L F' w' sz (k.map ((λp=>AV.agg (pfz (e1 p.1) p.2.tail)) ∘ Prod.fst)) vals fpE->vals=k.flatMap λp=>p.1.2.tail:=by
      intro k
      induction k with
      | nil=>intro vals fpE _ h;simp only[map_nil,bY]at h;simp[h.1]
      | cons p k ih =>
       intro vals fpE hk h;simp only[map_cons,bY,Function.comp,Rep]at h;obtain⟨y,vs',f1,f2,rfl,_,_,⟨us,rfl,hu⟩,hl⟩:=h;rw[ih vs' f2 (λq hq=>hk q (by simp[hq])) hl];have h2:=hk p Xp;simp only[au]at h2;obtain⟨y',vs2,g1,g2,e3,_,_,hxs⟩:=h2;rw[e3,tail_cons]at hu
       have hd1:nod (e1 p.1.1)=true:=by
        have:=hd p.1.1;simp only[nod,all_cons,Bool.and_eq_true]at this ⊢;exact this.2
       have:=au.I7 hd1 hxs hu;rw[this,flatMap_cons,e3];simp[Value.cells]
     exact this k vals fpE (λp hp=>(hkr p hp).2) he
    refine⟨b::(k.flatMap λp=>p.2),?_,.inr ⟨b,rfl,hD'.so r b (by rw[hfp];simp)⟩⟩;simp only[Rep];refine .inr ⟨b,0,cap,vals,_,by simpa using hy,by simpa using h1,by simpa using h2,hrw,?_,.inl ⟨by trivial,rfl,rfl,iO⟩⟩;rw[vG,map_map];exact bY.E6 (m:=k) (e:=λp=>e1 p.1.1) (us:=λp=>p.1.2.tail) (fs:=λp=>p.2) hrow
  obtain⟨fpr,hfr,hfe⟩:=Wb;have hkn:(k.flatMap λp=>p.2).Nodup:=hNk.nodup_iff.2 hNn
  have hfn:fpr.Nodup:=by
   rcases hfe with rfl|⟨b,rfl,hb⟩
   ·exact hkn
   ·refine List.nodup_cons.2 ⟨λhm=>?_,hkn⟩;have:=(hD'.fl b (hN1 b (hNk.mem_iff.1 hm))).1;rw[hb]at this;cases this
  have hfo:∀b,b∈fpr->¬B b/\b<w'.heap.size/\¬F b:=by
   intro b hb
   have hin:b∈N->¬B b/\b<w'.heap.size/\¬F b:=λhm=>⟨(hNw b hm).1,Nat.lt_of_lt_of_le (hNw b hm).2 hsz,λhF=>by have:=(hD.fl b hF).1;rw[hNi b hm]at this;cases this⟩
   rcases hfe with rfl|⟨c,rfl,hc⟩
   ·exact hin (hNk.mem_iff.1 hb)
   ·rcases List.mem_cons.1 hb with rfl|hb
    ·have:=hD'.ol b (by rw[hc];simp);exact⟨λh=>this.1 (.inl h),this.2,λh=>this.1 (.inr (.inl h))⟩
    ·exact hin (hNk.mem_iff.1 hb)
  refine⟨_,hQ,F,λb=>if b∈fpr then .slot r else .none,λj=>if j=r then fpr else [],λ_=>[],{ below:=hKB,hB:=λb hb=>Nat.lt_of_lt_of_le (hD.hB b hb) hsz,tb:=hD.tb,f0:=hD.f0,fl:=λb hb=>⟨if_neg λhm=>(hfo b hm).2.2 hb,Wa b hb⟩,ol:=λb hb=>?_,defers:=hD'.defers,size:=by rw[hD'.size];exact hn,slots:=λj=>?_,sn:=λj=>?_,so:=λj b hb=>?_,obj:=by simp[O] }⟩
  ·by_cases hm:b∈fpr
   ·exact⟨(hfo b hm).1,(hfo b hm).2.1⟩
   ·rw[if_neg hm]at hb;exact absurd rfl hb
  ·rw[gA];by_cases e:r=j
   ·subst e;simp only[if_true];exact hfr
   ·have e':¬j=r:=λh=>e h.symm;simp only[if_neg e,if_neg e'];exact hplain t' ht j
  ·split
   ·exact hfn
   ·simp
  ·split at hb
   ·rename_i e;subst e;exact if_pos hb
   ·simp at hb
def AW.acy{L:gaa}{P:Program}{n:Nat}{t:faa}{os:Sto}{Q:Exit->AS->Prop}{c:Code}{α:Type}(live:List Nat)(t0:faa)(o0:α->Sto)(R:α->Prop)
  (h1:AW L P c ⟨n,t,os⟩ (λe s'=>e=.normal/\s'.n=n/\fu s'.t live=t0/\∃x,R x/\jM (o0 x) s'.o)) (h2:∀x,R x->Q .normal ⟨n,t0,o0 x⟩):AW L P c ⟨n,t,os⟩ Q:=by
 refine AW.post (h1.mono ?_);rintro e ⟨n',t',o'⟩ ⟨rfl,hn,hT,x,hR,ho⟩;simp only at hn hT ho;subst hn hT;exact Imp.weak (h2 x hR) (uM t' live) λ_ _ hb=>oR ho hb
def AW.vY{L:gaa}{P:Program}{n:Nat}{t:faa}{os:Sto}{Q:Exit->AS->Prop}{c:Code}{α:Type}(live:List Nat)(t0:α->faa)(o0:α->Sto)(R:α->Prop)
  (h1:AW L P c ⟨n,t,os⟩ (λe s'=>Imp L s' λs'=>(∃x,R x/\e=.normal/\s'.n=n/\fu s'.t live=t0 x/\jM (o0 x) s'.o)\/(¬e=.normal/\Q e s'))) (h2:∀x,R x->Q .normal ⟨n,t0 x,o0 x⟩):AW L P c ⟨n,t,os⟩ Q:=by
 refine AW.post (h1.mono ?_);intro e s' h;refine Imp.bind h ?_;rintro⟨n',t',o'⟩ (⟨x,hR,rfl,hn,hT,ho⟩|⟨_,h⟩)
 ·simp only at hn hT ho;subst hn;have:=h2 x hR;rw[<- hT]at this;exact Imp.weak this (uM t' live) λ_ _ hb=>oR ho hb
 ·exact Imp.id h
def gj.pins{L:gaa}{P:Program}{f:FuncId}{ys zs:List AV}{res:AV}(h:gj L P f ys res)(ha:∀F w vs,au L F w zs vs []->au L F w ys vs []):gj L P f zs res:=λw F vs hF ht hr=>h w F vs hF ht (ha F w vs hr)
section
variable {L : Nat -> Nat} {P : Program} {ops : Array Oper} {n : Nat} {os : Sto} {K : AS -> Prop}
def az.EJ{fuel:Nat}{listed:Array Bool}{t:faa}(i:Nat){oi:Oper}{x:AV}(hi:ops[i]? = some oi)(hs:Region.noSelect ops=true)(hf:Region.free .any ops listed i=true)(hr:(Region.ready .any ops listed).contains i=true)
  (hg:oi.guard=none) (hd:dn n oi.dst=true)
  (hx:∀B F0 w0 F own fp fs a w,di L B F0 w0 F own fp fs ⟨n,t,os⟩ a w->∃u,(∀w':World,(execOp a.eval oi).run P w'=.ok (.value u) w')/\Rep L F w x u [])
  (h:az L P ops fuel (listed.setIfInBounds i true) ⟨n,put t oi.dst x,os⟩ K):az L P ops (fuel+1) listed ⟨n,t,os⟩ K:=by
 intro B F0 w0 a w R cH hR;have hw:Region.wanted oi (yielded ops a.tmps)=true:=by simp[Region.wanted,hg]
 obtain⟨F,own,fp,fs,hD⟩:=cH;obtain⟨u,he,ig⟩:=hx _ _ _ _ _ _ _ _ _ hD;refine wpAny_take (v:=u) (a:=a) (w:=w) hi hs hf hr (λc a w h=>by cases h.1) (.inl ⟨hw,he⟩) ?_;refine h B F0 w0 _ w R ?_ hR;have:=hD.put (x:=x) (v:=u) (fx:=[]) [] oi.dst hd (w':=w) (F':=F) (Kp.refl _ _) (λ_ h=>h) (λb h=>.inl h) ig Xp Xp;simpa[killL]using this
def fxE(P:Program)(t:faa)(op:Op)(K:AV->Prop):Prop :=
 match op with
 | .move x=>(ev t x).du=true/\K (ev t x)
 | .binOp bop _ x y _=>match ev t x,ev t y with
  | .v u,.v v=>match Dp bop u v with
   | some z=>K (.v z)
   | none=>False
  | _,_=>False
 | .indexAddr ty x i=>match ev t x,ev t i,elm P ty with
  | .arr b off len sz,.v (.int _ m),some (_,sz',_)=>sz'=sz/\(0<=m/\m<len)/\K (.ptr b (off+m.toNat * sz))
  | .sl false sz l,.v (.int _ m),some (_,sz',_)=>sz'=sz/\idxVc true l m sz (K:=⟨λy=>K (.vp y.cells)⟩)
  | _,_,_=>False
 | .fieldAddr xt x k=>match ev t x,fld P xt k with
  | .vp cells,some (off,_,m)=>Nat.blt 0 m=true/\K (.vp (cells.drop off))
  | .ptr b o',some (off,_,m)=>Nat.blt 0 m=true/\K (.ptr b (o'+off))
  | _,_=>False
 | .extract x k=>match ev t x with
  | .tup l=>match l[k]? with
   | some y=>y.du=true/\K y
   | none=>False
  | _=>False
 | _=>False
def az.fx{fuel:Nat}{listed:Array Bool}{t:faa}(i:Nat){oi:Oper}(hi:ops[i]? = some oi)(hs:Region.noSelect ops=true)(hf:Region.free .any ops listed i=true)(hr:(Region.ready .any ops listed).contains i=true)(hg:oi.guard=none)(hd:dn n oi.dst=true)
  (h:fxE P t oi.op (λx=>az L P ops fuel (listed.setIfInBounds i true) ⟨n,put t oi.dst x,os⟩ K)):az L P ops (fuel+1) listed ⟨n,t,os⟩ K:=by
 unfold fxE at h;split at h
 ·rename_i x hop;exact az.mvN i hs hf hr (by rw[hi];simp only[hop];exact⟨⟨hg,hd⟩,h⟩)
 ·rename_i bop ty x y ty' hop;split at h
  ·rename_i u v hx hy;split at h
   ·rename_i z hz;refine az.QW i hi hs hf hr hg hd (x:=.v z) (u:=z) (λB F0 w0 F own fp fs a w hD w'=>?_) (λF' w'=>by simp[Rep]) h;simp only[execOp,hop,hD.val hx,hD.val hy];rw[Sem.run_bind,Fy hz];rfl
   ·exact h.elim
  ·exact h.elim
 ·rename_i ty x y hop;split at h
  ·rename_i b off len sz k m e sz' by_ hx hy he;obtain⟨rfl,hm,h⟩:=h;obtain⟨inf,hu,fO,hsz,_⟩:=jy he;refine az.QW i hi hs hf hr hg hd (x:=.ptr b (off+m.toNat * sz')) (u:=.pointer (some ⟨b,off+m.toNat * sz',none⟩)) (λB F0 w0 F own fp fs a w hD w'=>?_) (λF' w'=>by simp[Rep]) h;have hrp:=hD.ev x;rw[hx]at hrp;simp only[Rep]at hrp;obtain⟨_,cap,hv,_⟩:=hrp;have hP:P.elem ty=e:=by simp[Program.elem,hu]
   simp only[execOp,hop,hv,hD.val hy,Sem.run_bind,run_indexAt_slice w' ty _ _ _ k m (j4 hu)];rw[if_pos hm];simp[hP,sizeOf,typeInfo,fO,hsz,fW]
  ·rename_i sz l k m e sz' by_ hx hy he;obtain⟨rfl,z,hz,h⟩:=h;obtain⟨h0,hz1,hz2⟩:=hz rfl;obtain⟨inf,hu,fO,hsz,_⟩:=jy he;refine az.EJ i hi hs hf hr hg hd (x:=.vp z.cells) (λB F0 w0 F own fp fs a w hD=>?_) h
   have hlt:m.toNat<l.length:=by
    rcases Nat.lt_or_ge m.toNat l.length with h|h
    ·exact h
    ·rw[getElem?_eq_none h]at hz1;cases hz1
   have hrp:=hD.ev x;rw[hx]at hrp;simp only[Rep]at hrp;rcases hrp with⟨_,rfl,_⟩|⟨b,off,cap,vals,fp',hv,_,_,hrow,hl,hF⟩
   ·simp at hlt
   ·rcases hF with⟨hF,_⟩|⟨_,hF,rfl,_⟩
    ·cases hF
    ·obtain⟨y',f,h1,h2,h3,h4⟩:=hl.get hz1;have:f=[]:=List.eq_nil_iff_forall_not_mem.2 λb hb=>by simpa using h4 b hb
     subst this;have hP:P.elem ty=e:=by simp[Program.elem,hu]
     refine⟨.pointer (some ⟨b,off+m.toNat * sz',none⟩),λw'=>?_,?_⟩
     ·simp only[execOp,hop,hv,hD.val hy,Sem.run_bind,run_indexAt_slice w' ty _ _ _ k m (j4 hu)];rw[if_pos ⟨h0,Um⟩];simp[hP,sizeOf,typeInfo,fO,hsz,fW]
     ·simp only[Rep];refine⟨trivial,b,_,y'.cells.toList,rfl,hF,?_,(oL hz2 h3).1⟩;rw[<- h1];exact hrow.cut _ _
  ·exact h.elim
 ·rename_i xt x k hop;split at h
  ·rename_i cells off g m hx hfl;refine az.EJ i hi hs hf hr hg hd (x:=.vp (cells.drop off)) (λB F0 w0 F own fp fs a w hD=>?_) h.2;obtain⟨fs',f,hu,hk,ht,rfl⟩:=uD hfl;have hn':¬m=0:=by have:=h.1;simp at this;omega
   have hrp:=hD.ev x;rw[hx]at hrp;simp only[Rep]at hrp;obtain⟨_,b,o',vals,hv,hb,hrow,hl⟩:=hrp;refine⟨.pointer (some ⟨b,o'+f.offset,none⟩),λw'=>?_,?_⟩
   ·obtain⟨ha,hs⟩:=rA ht w';simp[execOp,hop,hv,Instr.fieldAt,run_underlying hu,hk,Instr.sureAddr,fieldPlace,hs,hn',fW]
   ·simp only[Rep];refine⟨trivial,b,_,vals.drop f.offset,rfl,hb,?_,?_⟩
    ·have:=hrow.cut f.offset vals.length;rw[take_of_length_le Xp]at this;exact this
    ·obtain⟨f',h1,h2⟩:=hl.cut f.offset (cells.length+vals.length);rw[take_of_length_le (by simp;omega),take_of_length_le (by simp;omega)]at h1;have:f'=[]:=List.eq_nil_iff_forall_not_mem.2 λb hb=>by simpa using h2 b hb
     rw[this]at h1;exact h1
  ·rename_i b o' off g m hx hfl;refine az.EJ i hi hs hf hr hg hd (x:=.ptr b (o'+off)) (λB F0 w0 F own fp fs a w hD=>?_) h.2;obtain⟨fs',f,hu,hk,ht,rfl⟩:=uD hfl;have hn':¬m=0:=by have:=h.1;simp at this;omega
   have hrp:=hD.ev x;rw[hx]at hrp;simp only[Rep]at hrp;refine⟨.pointer (some ⟨b,o'+f.offset,none⟩),λw'=>?_,by simp[Rep]⟩;obtain⟨ha,hs⟩:=rA ht w';simp[execOp,hop,hrp.1,Instr.fieldAt,run_underlying hu,hk,Instr.sureAddr,fieldPlace,hs,hn',fW]
  ·exact h.elim
 ·rename_i x k hop;split at h
  ·rename_i l hx;split at h
   ·rename_i y hy;refine az.EJ i hi hs hf hr hg hd (x:=y) (λB F0 w0 F own fp fs a w hD=>?_) h.2;have hrp:=hD.ev x;rw[hx]at hrp;simp only[Rep]at hrp;obtain⟨vs,hv,hl⟩:=hrp;obtain⟨u,f,h1,h2,_⟩:=hl.get hy;exact⟨u,λw'=>by simp[execOp,hop,hv,Instr.extract,h1],by rw[Rep.eK h.1 h2]at h2;exact h2⟩
   ·exact h.elim
  ·exact h.elim
 ·exact h.elim
def Qy(ops:Array Oper):Array Bool->List Nat->Bool
 | _,[]=>true
 | l,i::is=>Region.free .any ops l i && ((Region.ready .any ops l).contains i && Qy ops (l.setIfInBounds i true) is)
def OU:Array Bool->List Nat->Array Bool
 | l,[]=>l
 | l,i::is=>OU (l.setIfInBounds i true) is
def stL(P:Program)(ops:Array Oper)(n:Nat)(K:faa->Prop):List Nat->faa->Prop
 | [],t=>K t
 | i::is,t=>match ops[i]? with
  | some oi=>(oi.guard=none/\dn n oi.dst=true)/\fxE P t oi.op (λx=>stL P ops n K is (put t oi.dst x))
  | none=>False
def az.fxs{fuel:Nat}(hs:Region.noSelect ops=true):∀(is:List Nat) {listed:Array Bool} {t:faa},Qy ops listed is=true->stL P ops n (λt=>az L P ops fuel (OU listed is) ⟨n,t,os⟩ K) is t->az L P ops (fuel+is.length) listed ⟨n,t,os⟩ K
 | [],listed,t,_,h=>h
 | i::is,listed,t,hc,h=>by
  simp only[Qy,Bool.and_eq_true]at hc;simp only[stL]at h;split at h
  ·rename_i oi hi;obtain⟨⟨hg,hd⟩,h⟩:=h;refine az.fx (fuel:=fuel+is.length) i hi hs hc.1 hc.2.1 hg hd ?_;have key:∀t',stL P ops n (λt=>az L P ops fuel (OU (listed.setIfInBounds i true) is) ⟨n,t,os⟩ K) is t'->az L P ops (fuel+is.length) (listed.setIfInBounds i true) ⟨n,t',os⟩ K:=λt' h'=>az.fxs hs is hc.2.2 h';revert h;unfold fxE;split
   ·exact λh=>⟨h.1,key _ h.2⟩
   ·split
    ·split
     ·exact key _
     ·exact id
    ·exact id
   ·split
    ·exact λh=>⟨h.1,h.2.1,key _ h.2.2⟩
    ·rintro⟨h1,z,h2,h3⟩;exact⟨h1,z,h2,key _ h3⟩
    ·exact id
   ·split
    ·exact λh=>⟨h.1,key _ h.2⟩
    ·exact λh=>⟨h.1,key _ h.2⟩
    ·exact id
   ·split
    ·split
     ·exact λh=>⟨h.1,key _ h.2⟩
     ·exact id
    ·exact id
   ·exact id
  ·exact h.elim
attribute [go_sem] fxE stL
