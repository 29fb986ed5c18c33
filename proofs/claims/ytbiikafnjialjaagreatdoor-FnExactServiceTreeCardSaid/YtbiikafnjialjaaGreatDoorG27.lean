/- Part of a proof. -/
import Derived.Deep.LoopGhost
import Derived.Lib.AppendZerosOnto
import Derived.Lib.Overlaps
import Derived.Test.YtbiikafnjialjaaGreatDoorG19
import Derived.Test.YtbiikafnjialjaaGreatDoorG40
set_option linter.all false
set_option maxRecDepth 20000
set_option maxHeartbeats 4000000
namespace Go.Ab
open Go.RowKit (Below)
section
variable {L : Nat -> Nat} {F : Nat -> Prop} {w : World}
def pfz:List AV->List Value->List AV
 | x::xs,v::vs=>(bif x.cS then x else .pin v x.frz)::pfz xs vs
 | _,_=>[]
theorem aj.pfz{F1:Nat->Prop}(hF:∀ b,F b->F1 b):∀ {l:List AV} {vs:List Value} {fp:List Nat},(∀ b,b∈fp->F1 b)->aj L F w l vs fp->aj L F1 w (Ab.pfz l vs) vs []
 | [],vs,fp,_,h=>by simp only [aj] at h;rw [h.1];simp [Ab.pfz,aj]
 | x::xs,vs,fp,hf,h=>by
  simp only [aj] at h
  obtain ⟨y,vs',f1,f2,rfl,rfl,hx,hxs⟩:=h
  simp only [Ab.pfz,aj]
  refine ⟨y,vs',[],[],rfl,rfl,?_,aj.pfz hF (fun b hb=>hf b (by simp [hb])) hxs⟩
  cases hn:x.cS with
  | true =>
   rw [cond_true]
   rw [Rep.dL hn hx] at hx
   exact Rep.ext (S:=fun _=>True) ⟨Nat.le_refl _,fun _ _=>rfl,fun b c T z h=>⟨c,h,rfl⟩⟩ (fun b hb=>⟨hF b hb,trivial⟩) (fun _ _=>trivial) hx
  | false =>
   rw [cond_false]
   simp only [Rep]
   exact ⟨trivial,Rep.frz hF (fun b hb=>hf b (by simp [hb])) hx⟩
def nod(l:List AV):Bool:=l.all fun x=>bif x.cS then x.det else true
theorem aj.EP{F':Nat->Prop}{w':World}:∀ {l:List AV} {vs ys:List Value} {fp fp':List Nat},nod l=true->aj L F w l vs fp->aj L F' w' (Ab.pfz l vs) ys fp'->ys=vs
 | [],vs,ys,fp,fp',_,h,h'=>by
  simp only [aj] at h
  rw [h.1] at h' ⊢
  simp only [Ab.pfz,aj] at h'
  exact h'.1
 | x::xs,vs,ys,fp,fp',hd,h,h'=>by
  simp only [aj] at h
  obtain ⟨y,us,f1,f2,rfl,_,hx,hxs⟩:=h
  simp only [Ab.pfz,aj] at h'
  obtain ⟨y',us',g1,g2,rfl,_,hx',J0⟩:=h'
  simp only [nod,List.all_cons,Bool.and_eq_true] at hd
  rw [aj.EP (l:=xs) hd.2 hxs J0]
  have:y'=y:=by
   cases hn:x.cS with
   | true =>
    rw [hn,cond_true] at hx' hd
    have hd:=hd.1
    cases x with
    | v x=>simp only [Rep] at hx hx';rw [hx.1,hx'.1]
    | str x=>simp only [Rep] at hx hx';rw [hx.1,hx'.1]
    | _=>simp [AV.det] at hd
   | false =>
    rw [hn,cond_false] at hx'
    simp only [Rep] at hx'
    exact hx'.1
  rw [this]
theorem bH.rows{α:Type}{sz:Nat}{enc:α->List AV}:∀ {l:List α} {vals:List Value} {fp:List Nat},bH L F w sz (l.map fun a=>AV.agg (enc a)) vals fp ->
  ∃ m:List ((α×List Value)×List Nat),m.map (fun p=>p.1.1)=l/\vals=m.flatMap (fun p=>p.1.2)/\fp=m.flatMap (fun p=>p.2)/\∀ p,p∈m->p.1.2.length=sz/\aj L F w (enc p.1.1) p.1.2 p.2
 | [],vals,fp,h=>by
  simp only [List.map_nil,bH] at h
  exact ⟨[],rfl,by rw [h.1];rfl,by rw [h.2];rfl,by simp⟩
 | a::l,vals,fp,h=>by
  simp only [List.map_cons,bH,Rep] at h
  obtain ⟨y,vs',f1,f2,rfl,hsz,rfl,⟨us,rfl,hu⟩,hl⟩:=h
  obtain ⟨m,rfl,rfl,rfl,hm⟩:=bH.rows hl
  refine ⟨((a,us),f1)::m,rfl,by simp [Value.cells],by simp,?_⟩
  intro p hp
  rcases List.mem_cons.1 hp with rfl|hp
  ·exact ⟨by simpa [Value.cells] using hsz,hu⟩
  ·exact hm p hp
theorem bH.BU{β:Type}{sz:Nat}{e:β->List AV}{us:β->List Value}{fs:β->List Nat}:∀ {m:List β},(∀ p,p∈m->(us p).length=sz/\aj L F w (e p) (us p) (fs p))->bH L F w sz (m.map fun p=>AV.agg (e p)) (m.flatMap us) (m.flatMap fs)
 | [],_=>by simp [bH]
 | p::m,h=>by
  simp only [List.map_cons,bH,List.flatMap_cons]
  obtain ⟨h1,h2⟩:=h p (by simp)
  refine ⟨.agg (us p).toArray,m.flatMap us,fs p,m.flatMap fs,by simp [Value.cells],by simpa [Value.cells] using h1,rfl,?_,bH.BU fun q hq=>h q (by simp [hq])⟩
  simp only [Rep]
  exact ⟨us p,rfl,h2⟩
end
def tP(t' t:List (Nat×AV)):Prop:=∀ j,T t' j=.dead\/(T t' j=T t j/\∃ v,T t j=.v v)
def UY{α:Type}(n:Nat)(e1:α->List AV)(m:List (α×List Value))(sz:Nat)(Q:AS->Prop)(s':AS):Prop :=
 (∃ t',tP t' s'.t/\Q ⟨n,t',[]⟩) \/
 ∃ (r:Nat) (m':List (α×List Value)) (t':List (Nat×AV)),m'.Perm m/\T s'.t r=.sl true sz (m'.map fun p=>.agg (pfz (e1 p.1) p.2.tail))/\tP t' s'.t/\Q ⟨n,(r,.sl true sz (m'.map fun p=>.agg (e1 p.1)))::t',[]⟩
theorem AW.Tq{L:Nat->Nat}{P:Program}{c:Code}{n:Nat}{t:List (Nat×AV)}{o:Sto}{Q:Exit->AS->Prop}(i:Nat){sz:Nat}{α:Type}{x0:α->AV}{e1:α->List AV}(l:List α)
  (hT:T t i=.sl true (sz+1) (l.map fun a=>.agg (x0 a::e1 a))) (hx:∀ a,(x0 a).cS=true) (hd:∀ a,nod (x0 a::e1 a)=true)
  (h:∀ m:List (α×List Value),m.map Prod.fst=l->(∀ p,p∈m->p.2.length=sz+1) ->
   AW L P c ⟨n,(i,.sl true (sz+1) (m.map fun p=>.agg (pfz (x0 p.1::e1 p.1) p.2)))::t,o⟩ (fun e s'=>s'.n=n/\UY n e1 m sz (Q e) s')):AW L P c ⟨n,t,o⟩ Q:=by
 intro B F0 w0 a w bY
 obtain ⟨F,own,fp,fs,hD⟩:=bY
 have hr:=hD.slots i
 simp only at hr
 rw [hT] at hr
 obtain ⟨m,N,hml,hN,hmr,zn⟩:∃ (m:List ((α×List Value)×List Nat)) (N:List Nat),m.map (fun p=>p.1.1)=l/\N=m.flatMap (fun p=>p.2)/\(∀ p,p∈m->p.1.2.length=sz+1/\aj L F w (x0 p.1.1::e1 p.1.1) p.1.2 p.2) /\
   ((fp i=N\/∃ b,fp i=b::N)/\∀ F1:Nat->Prop,(∀ b,F b->F1 b)->(∀ b,b∈N->F1 b)->Rep L F1 w (.sl true (sz+1) ((m.map Prod.fst).map fun p=>.agg (pfz (x0 p.1::e1 p.1) p.2))) (a.tmps.getD i undef) (if fp i=N then [] else (fp i).take 1)):=by
  simp only [Rep] at hr
  rcases hr with ⟨hy,hl,hf⟩|⟨b,off,cap,vals,fp',hy,h1,h2,hrow,he,ho⟩
  ·have hl':l=[]:=by simpa using hl
   subst hl'
   refine ⟨[],[],rfl,rfl,by simp,.inl hf,fun F1 _ _=>?_⟩
   rw [if_pos hf]
   simp only [Rep]
   exact .inl ⟨hy,rfl,by trivial⟩
  ·obtain ⟨hfp,rfl,gP⟩:fp i=b::fp'/\off=0/\j0 w b (off+cap * (sz+1)):=by
    rcases ho with ⟨_,h⟩|⟨e,_⟩
    ·exact h
    ·cases e
   obtain ⟨m,rfl,rfl,rfl,hm⟩:=bH.rows he
   refine ⟨m,_,rfl,rfl,hm,.inr ⟨b,hfp⟩,fun F1 hF hN=>?_⟩
   have hne:fp i≠m.flatMap fun p=>p.2:=fun e=>by
    have:=congrArg List.length (hfp.symm.trans e)
    simp at this
   rw [if_neg hne,hfp]
   simp only [Rep]
   refine .inr ⟨b,0,cap,m.flatMap (fun p=>p.1.2),[],by simpa using hy,by simpa using h1,by simpa using h2,hrow,?_,.inl ⟨by trivial,rfl,rfl,gP⟩⟩
   have:=bH.BU (L:=L) (F:=F1) (w:=w) (sz:=sz+1) (m:=m) (e:=fun p=>pfz (x0 p.1.1::e1 p.1.1) p.1.2) (us:=fun p=>p.1.2) (fs:=fun _=>[]) fun p hp=>⟨(hm p hp).1,aj.pfz hF (fun b hb=>hN b (List.mem_flatMap.2 ⟨p,hp,hb⟩)) (hm p hp).2⟩
   rw [List.map_map]
   rw [show m.flatMap (fun _=>([]:List Nat))=[] from List.flatMap_eq_nil_iff.2 fun _ _=>rfl] at this
   exact this
 obtain ⟨J7,zn⟩:=zn
 have hNi:∀ b,b∈N->own b=.slot i:=fun b hb=>hD.so i b (by rcases J7 with e|⟨c,e⟩<;>rw [e]<;>simp [hb])
 have hNn:N.Nodup:=by
  have:=hD.sn i
  rcases J7 with e|⟨c,e⟩
  ·rw [e] at this;exact this
  ·rw [e] at this;exact (List.nodup_cons.1 this).2
 classical
 let F1:Nat->Prop:=fun b=>F b\/b∈N
 let B1:Nat->Prop:=fun b=>B b\/F b\/b∈N
 let iV:Nat->Own:=fun b=>if b∈N then .none else own b
 have hNw:∀ b,b∈N->¬ B b/\b<w.heap.size:=fun b hb=>hD.ol b (by rw [hNi b hb];simp)
 have hB1:∀ b,B1 b->b<w.heap.size:=fun b hb=>by
  rcases hb with hb|hb|hb
  ·exact hD.hB b hb
  ·exact (hD.fl b hb).2.1
  ·exact (hNw b hb).2
 have hEr:Ext (fun _=>True) w w:=⟨Nat.le_refl _,fun _ _=>rfl,fun b c T z h=>⟨c,h,rfl⟩⟩
 have Ra:Den L B1 F1 w ⟨n,(i,.sl true (sz+1) ((m.map Prod.fst).map fun p=>.agg (pfz (x0 p.1::e1 p.1) p.2)))::t,o⟩ a w:=by
  refine ⟨F1,iV,fun j=>if j=i then (if fp i=N then [] else (fp i).take 1) else fp j,fs,{ below:=Kp.refl _ _,hB:=hB1,tb:=hD.tb.kp hD.below fun b hb=>.inl hb,f0:=fun _ h=>h,fl:=fun b hb=>⟨?_,hB1 b (.inr hb),.inl hb⟩,ol:=fun b hb=>?_,defers:=hD.defers,size:=hD.size,slots:=?_,sn:=?_,so:=?_,obj:=?_ }⟩
  ·rcases hb with hb|hb
   ·simp only [iV];split
    ·rfl
    ·exact (hD.fl b hb).1
   ·simp only [iV,if_pos hb]
  ·by_cases hm:b∈N
   ·simp only [iV,if_pos hm] at hb;exact absurd rfl hb
   ·simp only [iV,if_neg hm] at hb
    have:=hD.ol b hb
    refine ⟨?_,this.2⟩
    rintro (h|h|h)
    ·exact this.1 h
    ·exact hb (hD.fl b h).1
    ·exact hm h
  ·intro j
   rw [eX]
   by_cases e:i=j
   ·subst e
    simp only [if_true]
    exact zn F1 (fun b hb=>.inl hb) (fun b hb=>.inr hb)
   ·have e':¬ j=i:=fun h=>e h.symm
    simp only [if_neg e,if_neg e']
    exact Rep.ext hEr (fun b hb=>⟨.inl hb,trivial⟩) (fun _ _=>trivial) (hD.slots j)
  ·intro j
   split
   ·split
    ·simp
    ·exact (hD.sn i).sublist (List.take_sublist _ _)
   ·exact hD.sn j
  ·intro j b hb
   split at hb
   ·rename_i e
    subst e
    split at hb
    ·simp at hb
    ·rename_i hne
     have hbN:b ∉ N:=by
      rcases J7 with e|⟨c,e⟩
      ·exact absurd e hne
      ·have:=hD.sn j
       rw [e] at this hb
       simp only [List.take_succ_cons,List.take_zero,List.mem_singleton] at hb
       rw [hb];exact (List.nodup_cons.1 this).1
     simp only [iV,if_neg hbN]
     exact hD.so j b (List.mem_of_mem_take hb)
   ·rename_i e
    have:=hD.so j b hb
    have hbN:b ∉ N:=fun hm=>by rw [hNi b hm] at this;cases this;exact e rfl
    simp only [iV,if_neg hbN];exact this
  ·intro b cells hO
   obtain ⟨g1,g2,g3,cc,Ty,vals,rest,g4,g5,g6⟩:=hD.obj b cells hO
   have nN:∀ k,own k≠.slot i->k ∉ N:=fun k hk hm=>hk (hNi k hm)
   refine ⟨by simp only [iV,if_neg (nN b (by rw [g1];simp))];exact g1,g2,fun k hk=>by simp only [iV,if_neg (nN k (by rw [g3 k hk];simp))];exact g3 k hk,cc,Ty,vals,rest,g4,g5,aj.ext hEr (fun b hb=>⟨.inl hb,trivial⟩) (fun _ _=>trivial) g6⟩
 have hrun:=h (m.map Prod.fst) (by rw [List.map_map];exact hml) (fun p hp=>by
  obtain ⟨q,hq,rfl⟩:=List.mem_map.1 hp
  exact (hmr q hq).1) B1 F1 w a w Ra
 refine wp_mono hrun ?_
 rintro e a' w' ⟨s',⟨hn,hth⟩,F',own',fp',fs',hD'⟩
 have hF1:∀ b,F b->F' b:=fun b hb=>hD'.f0 b (.inl hb)
 have hN1:∀ b,b∈N->F' b:=fun b hb=>hD'.f0 b (.inr hb)
 have hK:=hD'.below
 have hsz:=hK.size
 have hKB:Kp B w0 w':=hD.below.trans (hK.mono fun b hb=>.inl hb)
 have hE:Ext B1 w w':=⟨hK.size,hK.block,hK.shape⟩
 have O2:∀ b,F b->b<w'.heap.size/\(F0 b\/¬ B b):=fun b hb=>⟨Nat.lt_of_lt_of_le (hD.fl b hb).2.1 hsz,(hD.fl b hb).2.2⟩
 have hplain:∀ t',tP t' s'.t->∀ j,Rep L F w' (T t' j) (a'.tmps.getD j undef) []:=fun t' ht j=>by
  rcases ht j with hj|⟨hj,v,hv⟩
  ·rw [hj];simp [Rep]
  ·rw [hj,hv]
   have:=hD'.slots j
   rw [hv] at this
   simp only [Rep] at this ⊢
   exact ⟨this.1,by trivial⟩
 rcases hth with ⟨t',ht,hQ⟩|⟨r,m',t',hp,hTr,ht,hQ⟩
 ·refine ⟨_,hQ,F,fun _=>.none,fun _=>[],fun _=>[],{ below:=hKB,hB:=fun b hb=>Nat.lt_of_lt_of_le (hD.hB b hb) hsz,tb:=hD.tb,f0:=hD.f0,fl:=fun b hb=>⟨rfl,O2 b hb⟩,ol:=fun b hb=>absurd rfl hb,defers:=hD'.defers,size:=by rw [hD'.size];exact hn,slots:=fun j=>hplain t' ht j,sn:=by simp,so:=by simp,obj:=by simp [O] }⟩
 ·obtain ⟨k,hkm,rfl⟩:=Dt.D7 Prod.fst hp rfl
  have hrr:=hD'.slots r
  rw [hTr] at hrr
  have hkr:∀ p,p∈k->p.1.2.length=sz+1/\aj L F w (x0 p.1.1::e1 p.1.1) p.1.2 p.2:=fun p hp=>hmr p (hkm.mem_iff.1 hp)
  have hNk:(k.flatMap fun p=>p.2).Perm N:=by rw [hN];exact List.Perm.flatMap_right _ hkm
  have hrow:∀ p,p∈k->p.1.2.tail.length=sz/\aj L F w' (e1 p.1.1) p.1.2.tail p.2:=by
   intro p hp
   obtain ⟨h1,h2⟩:=hkr p hp
   simp only [aj] at h2
   obtain ⟨y,vs',f1,f2,e3,e4,hx1,hxs⟩:=h2
   have:f1=[]:=Rep.dL (hx _) hx1
   subst this
   rw [List.nil_append] at e4
   rw [e3] at h1 ⊢
   simp only [List.length_cons,Nat.add_right_cancel_iff] at h1
   refine ⟨h1,?_⟩
   rw [List.tail_cons,e4]
   refine aj.ext hE (fun b hb=>⟨hb,.inr (.inl hb)⟩) (fun b hb=>.inr (.inr ?_)) hxs
   exact hNk.mem_iff.1 (List.mem_flatMap.2 ⟨p,hp,by rw [e4];exact hb⟩)
  have O3:∃ fpr,Rep L F w' (.sl true sz ((k.map Prod.fst).map fun p=>.agg (e1 p.1))) (a'.tmps.getD r undef) fpr/\(fpr=(k.flatMap fun p=>p.2)\/∃ b,fpr=b::(k.flatMap fun p=>p.2)/\own' b=.slot r):=by
   simp only [Rep] at hrr
   rcases hrr with ⟨hy,hl,hf⟩|⟨b,off,cap,vals,fpE,hy,h1,h2,hrw,he,ho⟩
   ·have hk0:k=[]:=by simpa using hl
    subst hk0
    refine ⟨[],?_,.inl rfl⟩
    simp only [Rep]
    exact .inl ⟨hy,rfl,by trivial⟩
   ·obtain ⟨hfp,rfl,gP⟩:fp' r=b::fpE/\off=0/\j0 w' b (off+cap * sz):=by
     rcases ho with ⟨_,h⟩|⟨e,_⟩
     ·exact h
     ·cases e
    have sC:vals=k.flatMap fun p=>p.1.2.tail:=by
     rw [List.map_map] at he
     have:∀ (k:List ((α×List Value)×List Nat)) (vals:List Value) (fpE:List Nat),(∀ p,p∈k->aj L F w (x0 p.1.1::e1 p.1.1) p.1.2 p.2)->bH L F' w' sz (k.map ((fun p=>AV.agg (pfz (e1 p.1) p.2.tail)) ∘ Prod.fst)) vals fpE->vals=k.flatMap fun p=>p.1.2.tail:=by
      intro k
      induction k with
      | nil=>intro vals fpE _ h;simp only [List.map_nil,bH] at h;simp [h.1]
      | cons p k ih =>
       intro vals fpE hk h
       simp only [List.map_cons,bH,Function.comp,Rep] at h
       obtain ⟨y,vs',f1,f2,rfl,_,_,⟨us,rfl,hu⟩,hl⟩:=h
       rw [ih vs' f2 (fun q hq=>hk q (by simp [hq])) hl]
       have h2:=hk p (by simp)
       simp only [aj] at h2
       obtain ⟨y',vs2,g1,g2,e3,_,_,hxs⟩:=h2
       rw [e3,List.tail_cons] at hu
       have hd1:nod (e1 p.1.1)=true:=by
        have:=hd p.1.1
        simp only [nod,List.all_cons,Bool.and_eq_true] at this ⊢
        exact this.2
       have:=aj.EP hd1 hxs hu
       rw [this,List.flatMap_cons,e3]
       simp [Value.cells]
     exact this k vals fpE (fun p hp=>(hkr p hp).2) he
    refine ⟨b::(k.flatMap fun p=>p.2),?_,.inr ⟨b,rfl,hD'.so r b (by rw [hfp];simp)⟩⟩
    simp only [Rep]
    refine .inr ⟨b,0,cap,vals,_,by simpa using hy,by simpa using h1,by simpa using h2,hrw,?_,.inl ⟨by trivial,rfl,rfl,gP⟩⟩
    rw [sC,List.map_map]
    exact bH.BU (m:=k) (e:=fun p=>e1 p.1.1) (us:=fun p=>p.1.2.tail) (fs:=fun p=>p.2) hrow
  obtain ⟨fpr,hfr,hfe⟩:=O3
  have hkn:(k.flatMap fun p=>p.2).Nodup:=hNk.nodup_iff.2 hNn
  have hfn:fpr.Nodup:=by
   rcases hfe with rfl|⟨b,rfl,hb⟩
   ·exact hkn
   ·refine List.nodup_cons.2 ⟨fun hm=>?_,hkn⟩
    have:=(hD'.fl b (hN1 b (hNk.mem_iff.1 hm))).1
    rw [hb] at this;cases this
  have hfo:∀ b,b∈fpr->¬ B b/\b<w'.heap.size/\¬ F b:=by
   intro b hb
   have hin:b∈N->¬ B b/\b<w'.heap.size/\¬ F b:=fun hm=>⟨(hNw b hm).1,Nat.lt_of_lt_of_le (hNw b hm).2 hsz,fun hF=>by have:=(hD.fl b hF).1;rw [hNi b hm] at this;cases this⟩
   rcases hfe with rfl|⟨c,rfl,hc⟩
   ·exact hin (hNk.mem_iff.1 hb)
   ·rcases List.mem_cons.1 hb with rfl|hb
    ·have:=hD'.ol b (by rw [hc];simp)
     exact ⟨fun h=>this.1 (.inl h),this.2,fun h=>this.1 (.inr (.inl h))⟩
    ·exact hin (hNk.mem_iff.1 hb)
  refine ⟨_,hQ,F,fun b=>if b∈fpr then .slot r else .none,fun j=>if j=r then fpr else [],fun _=>[],{ below:=hKB,hB:=fun b hb=>Nat.lt_of_lt_of_le (hD.hB b hb) hsz,tb:=hD.tb,f0:=hD.f0,fl:=fun b hb=>⟨if_neg fun hm=>(hfo b hm).2.2 hb,O2 b hb⟩,ol:=fun b hb=>?_,defers:=hD'.defers,size:=by rw [hD'.size];exact hn,slots:=fun j=>?_,sn:=fun j=>?_,so:=fun j b hb=>?_,obj:=by simp [O] }⟩
  ·by_cases hm:b∈fpr
   ·exact ⟨(hfo b hm).1,(hfo b hm).2.1⟩
   ·rw [if_neg hm] at hb;exact absurd rfl hb
  ·rw [eX]
   by_cases e:r=j
   ·subst e
    simp only [if_true]
    exact hfr
   ·have e':¬ j=r:=fun h=>e h.symm
    simp only [if_neg e,if_neg e']
    exact hplain t' ht j
  ·split
   ·exact hfn
   ·simp
  ·split at hb
   ·rename_i e;subst e;exact if_pos hb
   ·simp at hb
theorem AW.UJ{L:Nat->Nat}{P:Program}{n:Nat}{t:List (Nat×AV)}{os:Sto}{Q:Exit->AS->Prop}{c:Code}{α:Type}(live:List Nat)(t0:List (Nat×AV))(o0:α->Sto)(R:α->Prop)
  (h1:AW L P c ⟨n,t,os⟩ (fun e s'=>e=.normal/\s'.n=n/\dX s'.t live=t0/\∃ x,R x/\iz (o0 x) s'.o)) (h2:∀ x,R x->Q .normal ⟨n,t0,o0 x⟩):AW L P c ⟨n,t,os⟩ Q:=by
 refine AW.post (h1.mono ?_)
 rintro e ⟨n',t',o'⟩ ⟨rfl,hn,hT,x,hR,ho⟩
 simp only at hn hT ho
 subst hn hT
 exact Imp.weak (h2 x hR) (rE t' live) fun _ _ hb=>mC ho hb
theorem AW.sN{L:Nat->Nat}{P:Program}{n:Nat}{t:List (Nat×AV)}{os:Sto}{Q:Exit->AS->Prop}{c:Code}{α:Type}(live:List Nat)(t0:α->List (Nat×AV))(o0:α->Sto)(R:α->Prop)
  (h1:AW L P c ⟨n,t,os⟩ (fun e s'=>Imp L s' fun s'=>(∃ x,R x/\e=.normal/\s'.n=n/\dX s'.t live=t0 x/\iz (o0 x) s'.o)\/(¬ e=.normal/\Q e s'))) (h2:∀ x,R x->Q .normal ⟨n,t0 x,o0 x⟩):AW L P c ⟨n,t,os⟩ Q:=by
 refine AW.post (h1.mono ?_)
 intro e s' h
 refine Imp.bind h ?_
 rintro ⟨n',t',o'⟩ (⟨x,hR,rfl,hn,hT,ho⟩|⟨_,h⟩)
 ·simp only at hn hT ho
  subst hn
  have:=h2 x hR
  rw [<- hT] at this
  exact Imp.weak this (rE t' live) fun _ _ hb=>mC ho hb
 ·exact Imp.id h
theorem eS.pins{L:Nat->Nat}{P:Program}{f:FuncId}{yY zZ:List AV}{res:AV}(h:eS L P f yY res)(ha:∀ F w vs,aj L F w zZ vs []->aj L F w yY vs []):eS L P f zZ res:=fun w F vs hF ht hr=>h w F vs hF ht (ha F w vs hr)
end Go.Ab
namespace Go.Ab
section
variable {L : Nat -> Nat} {n : Nat} {t : List (Nat × AV)} {o : Sto} {Q : AS -> Prop}
theorem Imp.QJ{b sz:Nat}{l:List AV}(pre post:List AV)(hO:O o b=some (pre++([.sl true sz l]++post)))(h:∀ p m c,Q ⟨n,t,fZ o b (some (pre++([.pin (.slice p m c) (.sl true sz l)]++post)))⟩):Imp L ⟨n,t,o⟩ Q :=
 Imp.xS hO fun vs=>by
  classical
  by_cases hv:∃ p m c,vs=[.slice p m c]
  ·obtain ⟨p,m,c,rfl⟩:=hv
   refine ⟨_,h p m c,fun F w f r=>?_⟩
   simp only [aj] at r ⊢
   obtain ⟨y,vs',f1,f2,e,hf,hr,hn⟩:=r
   cases e
   refine ⟨_,_,f1,f2,rfl,hf,?_,hn⟩
   rw [Rep]
   exact ⟨rfl,hr⟩
  ·refine ⟨_,h none 0 0,fun F w f r=>absurd ?_ hv⟩
   simp only [aj] at r
   obtain ⟨y,vs',f1,f2,rfl,hf,hr,rfl,_⟩:=r
   simp only [Rep] at hr
   rcases hr with ⟨e|⟨e,_⟩,_⟩|⟨b,off,cap,vals,fp',e,_⟩
   ·exact ⟨_,_,_,by rw [e]⟩
   ·cases e
   ·exact ⟨_,_,_,by rw [e]⟩
end
end Go.Ab
namespace Go.Ab
open Go.RowKit (Below)
section
def WY(P:Program)(f:FuncId)(sz:Nat):Prop :=
 ∀ (w:World) (b n cap i j:Nat) (c:Array Value) (Ty:TypeId),w.heap[b]? = some (.cells c Ty (0,0))->n<=cap->cap * sz<=c.size->n<=4611686018427387904->i<j->j<=n->(∀ (k:Nat) (v:Value),k<n * sz->c[k]? = some v->v.oneCell'=true) ->
  Calls P f #[.slice (some ⟨b,0,none⟩) n cap,.int .i64 i,.int .i64 j] w fun e w'=>e=.returned (.slice (some ⟨b,0,none⟩) (n - (j - i)) cap) /\
   ∃ c':Array Value,w'.heap[b]? = some (.cells c' Ty (0,0))/\c'.size=c.size/\(∀ k,k<i * sz->c'[k]? = c[k]?)/\(∀ k,k<(n - j) * sz->c'[i * sz+k]? = c[j * sz+k]?)/\Kp (fun k=>k<w.heap.size/\k≠b) w w'
end
section
def nrm(R:Act->World->Prop):Exit->Act->World->Prop:=fun e a w=>e=.normal/\R a w
def aH(L:Nat->Nat)(P:Program)(ops:Array Oper)(fuel:Nat)(listed:Array Bool)(s:AS)(K:AS->Prop):Prop :=
 ∀ B F0 w0 a w (R:Act->World->Prop),Den L B F0 w0 s a w->(∀ s' a' w',K s'->Den L B F0 w0 s' a' w'->R a' w')->wpAny P .any ops (nrm R) fuel listed a w
section
variable {L : Nat -> Nat} {P : Program} {ops : Array Oper} {n fuel : Nat} {listed : Array Bool} {t : List (Nat × AV)} {os : Sto} {K : AS -> Prop}
theorem aH.jD(live:List Nat)(o0:Sto)(hr:Region.ready .any ops listed=[])(ho:iz o0 os)(h:K ⟨n,dX t live,o0⟩):aH L P ops fuel listed ⟨n,t,os⟩ K :=
 fun B F0 w0 a w R hd hR=>wpAny_done hr ⟨rfl,hR _ _ _ h (hd.weaken rfl (rE t live) fun _ _ hb=>mC ho hb)⟩ fuel
def bk(L:Nat->Nat)(P:Program)(ops:Array Oper)(n fuel:Nat)(listed:Array Bool)(t:List (Nat×AV))(os:Sto)(K:AS->Prop):List Nat->Prop
 | []=>True
 | i::rs=>(match ops[i]? with
  | some o=>(o.guard=none/\cK n o.dst=true)/\nvc L P os t o.dst o.op (fun t' os'=>aH L P ops fuel (listed.setIfInBounds i true) ⟨n,t',os'⟩ K)
  | none=>False)/\bk L P ops n fuel listed t os K rs
theorem DZ:∀ {rs:List Nat},bk L P ops n fuel listed t os K rs->∀ i,i∈rs->∃ o,ops[i]? = some o/\o.guard=none/\cK n o.dst=true/\nvc L P os t o.dst o.op (fun t' os'=>aH L P ops fuel (listed.setIfInBounds i true) ⟨n,t',os'⟩ K)
 | [],_,i,hi=>by simp at hi
 | j::rs,h,i,hi=>by
  simp only [bk] at h
  rcases List.mem_cons.1 hi with rfl|hi
  ·have h1:=h.1
   split at h1
   ·rename_i o ho
    exact ⟨o,ho,h1.1.1,h1.1.2,h1.2⟩
   ·exact h1.elim
  ·exact DZ h.2 i hi
theorem aH.step(rs:List Nat)(hr:Region.ready .any ops listed=rs)(hne:rs≠[])(h:bk L P ops n fuel listed t os K rs):aH L P ops (fuel+1) listed ⟨n,t,os⟩ K:=by
 intro B F0 w0 a w R hd hR
 refine wpAny_all hr hne fun i hi=>?_
 obtain ⟨o,ho,hg,mX,hn⟩:=DZ h i hi
 unfold wpOp
 simp only [ho]
 have hw:Region.wanted o (yielded ops a.tmps)=true:=by simp [Region.wanted,hg]
 rw [if_pos hw]
 refine .inl (Ao mX hn B F0 w0 a w _ _ hd fun s' a' w' hs hd'=>?_)
 obtain ⟨hn',hK⟩:=hs
 obtain ⟨n',t',o'⟩:=s'
 simp only at hn' hK
 subst hn'
 exact hK B F0 w0 a' w' R hd' hR
def Xk(P:Program)(t:List (Nat×AV)):Op->Option (AV×Value)
 | .fieldAddr xt x k=>match ev t x,fld P xt k with
  | .ptr b o,some (off,_,m)=>bif Nat.blt 0 m then some (.ptr b (o+off),.pointer (some ⟨b,o+off,none⟩)) else none
  | _,_=>none
 | .move x=>match ev t x with
  | .v u=>some (.v u,u)
  | _=>none
 | _=>none
end
theorem AW.any{L:Nat->Nat}{P:Program}{ops:Array Oper}{n id:Nat}{t:List (Nat×AV)}{os:Sto}{Q:Exit->AS->Prop}(hm:P.follows .mixedOrders=true)
  (h:aH L P ops ops.size (Array.replicate ops.size false) ⟨n,t,os⟩ (fun s'=>Q .normal s')):AW L P (.region id ops true) ⟨n,t,os⟩ Q:=by
 intro B F0 w0 a w hd
 refine wp_mono (wp_region_any (id:=id) hm (h B F0 w0 a _ (fun a' w'=>∃ s',Q .normal s'/\Den L B F0 w0 s' a' w') hd.drew fun s' a' w' h1 h2=>⟨s',h1,h2⟩)) ?_
 rintro e a' w' ⟨rfl,h⟩
 exact h
theorem AW.oB{L:Nat->Nat}{P:Program}{ops:Array Oper}{n id:Nat}{t:List (Nat×AV)}{os:Sto}{Q:Exit->AS->Prop}(t0:List (Nat×AV))(o0:Sto)(hm:P.follows .mixedOrders=true)
  (h:∀ K:AS->Prop,K ⟨n,t0,o0⟩->aH L P ops ops.size (Array.replicate ops.size false) ⟨n,t,os⟩ K) (h2:Q .normal ⟨n,t0,o0⟩):AW L P (.region id ops true) ⟨n,t,os⟩ Q :=
 AW.any hm (h _ h2)
end
section
def FE(w:World)(b:Option Nat)(sz len:Nat)(news:List Value)(e:Ending)(w':World):Prop :=
 ∃ (b' cap':Nat) (c':Array Value) (Ty':TypeId),e=.returned (.slice (some ⟨b',0,none⟩) len cap')/\len<=cap'/\w'.heap[b']? = some (.cells c' Ty' (0,0))/\cap' * sz<=c'.size/\(some b'=b\/w.heap.size<=b') /\
  (∀ k,k<news.length->c'[k]? = news[k]?)/\w'.os=w.os/\w'.tape=w.tape/\w'.output=w.output/\Ext (fun k=>k<w.heap.size/\some k≠b) w w'
def Xp(P:Program)(f:FuncId)(sz bytes:Nat):Prop :=
 (∀ (w:World) (b n cap i vb vc:Nat) (c cx:Array Value) (Ty Tx:TypeId),w.heap[vb]? = some (.cells cx Tx (0,0))->1 * sz<=cx.size->(∀ (k:Nat) (v:Value),k<1 * sz->cx[k]? = some v->v.oneCell'=true) ->
  w.heap[b]? = some (.cells c Ty (0,0))->n<=cap->cap * sz<=c.size->(∀ (k:Nat) (v:Value),k<n * sz->c[k]? = some v->v.oneCell'=true)->vb≠b->i<=n->(n+1) * bytes<=140737488355328 ->
  Calls P f #[.slice (some ⟨b,0,none⟩) n cap,.int .i64 i,.slice (some ⟨vb,0,none⟩) 1 vc] w (FE w (some b) sz (n+1) ((c.toList.take (n * sz)).take (i * sz)++(cx.toList.take (1 * sz)++(c.toList.take (n * sz)).drop (i * sz))))) /\
 (∀ (w:World) (vb vc:Nat) (cx:Array Value) (Tx:TypeId),w.heap[vb]? = some (.cells cx Tx (0,0))->1 * sz<=cx.size->(∀ (k:Nat) (v:Value),k<1 * sz->cx[k]? = some v->v.oneCell'=true) ->
  Calls P f #[.slice none 0 0,.int .i64 (0:Nat),.slice (some ⟨vb,0,none⟩) 1 vc] w (FE w none sz 1 (cx.toList.take (1 * sz))))
end
section
def Xq(L:Nat->Nat)(P:Program)(f:FuncId)(args:List AV)(res:AV):Prop :=
 ∀ (w:World) (F:Nat->Prop) (vs:List Value) (fp:List Nat),(∀ b,F b->b<w.heap.size)->aj L F w args vs fp->fp.Nodup->(∀ b,b∈fp->b<w.heap.size/\¬ F b) ->
  Calls P f vs.toArray w fun e w'=>∃ v F' fp',e=.returned v/\Kp (fun b=>b<w.heap.size/\b ∉ fp) w w'/\(∀ b,F b->F' b)/\(∀ b,F' b->F b\/(w.heap.size<=b/\b<w'.heap.size)) /\
   Rep L F' w' res v fp'/\fp'.Nodup/\∀ b,b∈fp'->¬ F' b/\(b∈fp\/(w.heap.size<=b/\b<w'.heap.size))
section
variable {L : Nat -> Nat} {P : Program}
end
end
section
section
variable {L : Nat -> Nat} {P : Program} {ops : Array Oper} {n : Nat} {K : AS -> Prop}
def Ta(n f:Nat)(l:Array Bool)(Inv:Nat->Array Bool->AS->Prop)(t:List (Nat×AV))(os:Sto):Prop:=∃ live o0,iz o0 os/\Inv f l ⟨n,dX t live,o0⟩
def allI(L:Nat->Nat)(P:Program)(ops:Array Oper)(n f:Nat)(l:Array Bool)(t:List (Nat×AV))(os:Sto)(Inv:Nat->Array Bool->AS->Prop):List Nat->Prop
 | []=>True
 | i::rs=>(match ops[i]? with
  | some o=>(o.guard=none/\cK n o.dst=true)/\nvc L P os t o.dst o.op (fun t' os'=>Ta n f (l.setIfInBounds i true) Inv t' os')
  | none=>False)/\allI L P ops n f l t os Inv rs
end
theorem AW.cut{L:Nat->Nat}{P:Program}{n:Nat}{t:List (Nat×AV)}{os:Sto}{Q:Exit->AS->Prop}{c:Code}(live:List Nat)(t0:List (Nat×AV))(o0:Sto)
  (h1:AW L P c ⟨n,t,os⟩ (fun e s'=>e=.normal/\s'.n=n/\dX s'.t live=t0/\iz o0 s'.o)) (h2:Q .normal ⟨n,t0,o0⟩):AW L P c ⟨n,t,os⟩ Q:=by
 refine AW.post (h1.mono ?_)
 rintro e ⟨n',t',o'⟩ ⟨rfl,hn,hT,ho⟩
 simp only at hn hT ho
 subst hn hT
 exact Imp.weak h2 (rE t' live) fun _ _ hb=>mC ho hb
end
section
section
variable {L : Nat -> Nat} {P : Program} {ops : Array Oper} {n fuel : Nat} {listed : Array Bool} {t : List (Nat × AV)} {os : Sto} {K : AS -> Prop}
theorem aH.KK(i:Nat){oi:Oper}{x:AV}{u:Value}(hi:ops[i]? = some oi)(hs:Region.noSelect ops=true)(hf:Region.free .any ops listed i=true)(hr:(Region.ready .any ops listed).contains i=true)
  (hg:oi.guard=none) (hd:cK n oi.dst=true)
  (hx:∀ B F0 w0 F own fp fs a w,cz L B F0 w0 F own fp fs ⟨n,t,os⟩ a w->∀ w':World,(execOp a.eval oi).run P w'=.ok (.value u) w')
  (fR:∀ F' w',Rep L F' w' x u [])
  (h:aH L P ops fuel (listed.setIfInBounds i true) ⟨n,put t oi.dst x,os⟩ K):aH L P ops (fuel+1) listed ⟨n,t,os⟩ K:=by
 intro B F0 w0 a w R bY hR
 have hw:Region.wanted oi (yielded ops a.tmps)=true:=by simp [Region.wanted,hg]
 obtain ⟨F,own,fp,fs,hD⟩:=bY
 refine wpAny_take hi hs hf hr (fun c a w h=>by cases h.1) (.inl ⟨hw,hx _ _ _ _ _ _ _ _ _ hD⟩) ?_
 refine h B F0 w0 _ w R ?_ hR
 have:=hD.put (x:=x) (v:=u) (fx:=[]) [] oi.dst hd (w':=w) (F':=F) (Kp.refl _ _) (fun _ h=>h) (fun b h=>.inl h) (fR F w) (by simp) (by simp)
 simpa [bQ] using this
end
end
end Go.Ab
namespace Go.Ab
section
variable {L : Nat -> Nat} {P : Program} {ops : Array Oper} {n fuel : Nat} {listed : Array Bool} {t : List (Nat × AV)} {os : Sto} {K : AS -> Prop}
theorem aH.mvN(i:Nat)(hs:Region.noSelect ops=true)(hf:Region.free .any ops listed i=true)(hr:(Region.ready .any ops listed).contains i=true)
  (h:match ops[i]? with
   | some oi=>(oi.guard=none/\cK n oi.dst=true)/\(match oi.op with
    | .move y=>(ev t y).cS=true/\aH L P ops fuel (listed.setIfInBounds i true) ⟨n,put t oi.dst (ev t y),os⟩ K
    | _=>False)
   | none=>False):aH L P ops (fuel+1) listed ⟨n,t,os⟩ K:=by
 split at h
 ·rename_i oi hi
  obtain ⟨⟨hg,hd⟩,h⟩:=h
  split at h
  ·rename_i y hop
   obtain ⟨hno,h⟩:=h
   intro B F0 w0 a w R bY hR
   have hw:Region.wanted oi (yielded ops a.tmps)=true:=by simp [Region.wanted,hg]
   obtain ⟨F,own,fp,fs,hD⟩:=bY
   have hrp:=hD.ev y
   have hfp:fpo fp y=[]:=by
    exact Rep.dL hno hrp
   rw [hfp] at hrp
   refine wpAny_take (v:=a.eval y) (a:=a) (w:=w) hi hs hf hr (fun c a w h=>by cases h.1) (.inl ⟨hw,fun w'=>by simp [execOp,hop]⟩) ?_
   refine h B F0 w0 _ w R ?_ hR
   have:=hD.put (x:=ev t y) (v:=a.eval y) (fx:=[]) [] oi.dst hd (w':=w) (F':=F) (Kp.refl _ _) (fun _ h=>h) (fun b h=>.inl h) hrp (by simp) (by simp)
   simpa [bQ] using this
  ·exact h.elim
 ·exact h.elim
end
end Go.Ab
