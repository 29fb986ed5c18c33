/- A part. -/
import Derived.Test.YtmcjbaafmjlblaaGreatDoorL7
set_option linter.all false
set_option maxRecDepth 20000
set_option maxHeartbeats 4000000
namespace Go.Dt
open Go Go.Ab
def clp(n:Int)(m:Nat):Nat:=(max 0 (min n m)).toNat
theorem Ff(n:Int)(m:Nat):clp n m<=m:=by unfold clp;omega
theorem Oj(n:Int)(m:Nat):(if (if (m:Int)<n then (m:Int) else n) > 0 then (if (m:Int)<n then (m:Int) else n) else 0)=(clp n m:Int):=by
 unfold clp;split<;>split<;>omega
theorem Oi(n:Int)(m:Nat):max 0 (min n (m:Int))=(clp n m:Int):=by unfold clp;omega
theorem DD{s:List ag}:∀ (es:List (List au)) (n:Nat) (l:List ah),(eu s l es).2=true->(eu s l (es.take n)).2=true
 | [],n,l,_=>by simp [eu]
 | e::es,0,l,_=>by simp [eu]
 | e::es,n+1,l,h=>by
  rw [List.take_succ_cons]
  rw [eu] at h ⊢
  split at h
  ·simp at h
  ·rename_i c
   rw [if_neg c]
   exact DD es n _ h
theorem K2(l:List bV)(n:Nat):gR (l.take n)=(gR l).take n:=by unfold gR;rw [List.map_take]
abbrev E8(j:bu)(n:Int):bu:=⟨j.aQ,j.aF.take (clp n j.aF.length)⟩
theorem E7{s:List ag}{j:bu}(n:Int)(h:fq s j=true):fq s (E8 j n)=true:=by
 simp only [fq,Bool.and_eq_true,decide_eq_true_eq] at h ⊢
 refine ⟨⟨?_,h.1.2⟩,?_⟩
 ·have:=h.1.1;simp only [List.length_take];omega
 ·rw [K2];exact DD _ _ _ h.2
theorem Nc{s:List ag}{j:bu}(n:Int)(h:fq s j=true):eE s (E8 j n)=(eu s j.aQ (gR (j.aF.take (clp n j.aF.length)))).1:=by
 have:=E7 n h
 simp only [fq,Bool.and_eq_true,decide_eq_true_eq] at this
 rw [eE,if_neg (fun c=>c ⟨this.1.1,this.1.2⟩)]
def pkS(s:List ag)(j:bu)(n:Int):List ah:=bif fq s j then eE s (E8 j n) else j.aQ
def pkL(s:List ag)(j:bu)(n:Int):List bV:=bif fq s j then j.aF.drop (clp n j.aF.length) else j.aF
theorem QQ{s:List ag}{j:bu}{n:Int}(h:fq s j=false):pkS s j n=j.aQ/\pkL s j n=j.aF:=by simp [pkS,pkL,h]
theorem QP{s:List ag}{j:bu}{n:Int}(h:fq s j=true):pkS s j n=eE s (E8 j n)/\pkL s j n=j.aF.drop (clp n j.aF.length):=by simp [pkS,pkL,h]
def cCS:List bV->Nat
 | []=>0
 | c::cs=>2+3 * cY c.dG+cCS cs
theorem Aw:∀ (l:List bV) (k:Int),(mkL aV l k).2=k+(cCS l:Nat)
 | [],k=>by simp [mkL,cCS]
 | c::cs,k=>by
  simp only [mkL,cCS]
  rw [Aw cs,aV,rH];omega
theorem Fh:∀ (l:List bV) (n:Nat),cCS (l.drop n)<=cCS l
 | [],n=>by simp [cCS]
 | c::l,0=>by simp
 | c::l,n+1=>by
  have:=Fh l n
  simp only [List.drop_succ_cons,cCS];omega
theorem Tz(s:List ag)(n:Int){j:bu}{r:Int}(h0:0<=r)(h1:r<=1048576)(h:0<=cW j r):(mkL aV (pkL s j n) (mkL aT (pkS s j n) 1).2).2<=268435456:=by
 have c:=mc j 1 r h0 h
 simp only [j1,Aw,Av] at c
 have hw:=(uR h0 h1 h).1
 have hl:=jR j r h0
 rw [Aw,Av]
 have g1:cnt (pkS s j n)<=1048576:=by
  have h5:=Dx (s:=s) (j:=E8 j n) hw
  refine Nat.le_trans (Fa _) ?_
  unfold pkS
  cases fq s j
  ·simp only [cond_false];omega
  ·simp only [cond_true];omega
 have g2:cCS (pkL s j n)<=cCS j.aF:=by
  unfold pkL
  cases fq s j
  ·exact Nat.le_refl _
  ·exact Fh _ _
 omega
end Go.Dt
namespace Go.Ab
open Go.RowKit (Below)
theorem FG(n:Nat):AV.bL (List.replicate n .dead)=true:=by
 induction n with
 | zero=>rfl
 | succ n ih=>simp only [List.replicate_succ,AV.bL,AV.df,ih,Bool.and_self]
theorem InC.slo{L:Nat->Nat}{P:Program}{f:FuncId}{sz:Nat}{l l' rest:List AV}{res:AV}
  (hg:∀ b off,jO L P f [(b,some (List.replicate off .dead++l.flatMap AV.cells))] (.arr b off l.length sz::rest) (fun r os'=>r=res/\os'=[(b,some (List.replicate off .dead++l'.flatMap AV.cells))]))
  (hnil:l=[]->fM L P f (.sl false sz []::rest) res/\l'=[]) (hlen:l'.length=l.length) (hel:∀ x,x∈l->x.elem sz=true) (jc:∀ x,x∈l'->x.elem sz=true) (hr:res.df=true) :
  InC L P f false [.slo sz l] [.slo sz l'] rest res:=by
 refine ⟨rfl,fun _=>rfl,?_⟩
 intro B F own w vs rs fp hS hx hnd ho hrest
 simp only [aq] at hx
 obtain ⟨y,vs',f1,f2,rfl,rfl,hy,rfl,rfl⟩:=hx
 rw [List.append_nil] at hnd ho
 simp only [Rep] at hy
 have hmk:mkv false [y]=y:=rfl
 rw [hmk]
 rcases hy with ⟨rfl,e,rfl⟩|⟨b,off,cap,vals,fp',rfl,h1,h2,hrow,he,rfl,gX⟩
 ·obtain ⟨hp,rfl⟩:=hnil e
  subst e
  refine (jO.lJ hp B F own (fun _=>[]) w (_::rs) hS ?_).mono ?_
  ·simp only [aq]
   exact ⟨_,rs,[],[],rfl,rfl,by simp [Rep],hrest⟩
  ·rintro e w' ⟨v,r,os',F',own',fs',fp,rfl,⟨rfl,rfl⟩,h3,h4,_,_⟩
   rw [Rep.dP hr h4] at h4
   refine ⟨v,F',own',[],rfl,{ h3 with obj:=by simp [O] },h4,?_,by simp,by simp⟩
   simp only [aq]
   exact ⟨_,[],[],[],rfl,rfl,by simp [Rep],rfl,rfl⟩
 ·have rl:=List.nodup_cons.1 hnd
  obtain ⟨c,Ty,hc,hsz⟩:=gX
  obtain ⟨c2,T2,z2,hc2,hrow⟩:=hrow
  rw [hc] at hc2
  cases hc2
  have hvl:=he.len
  have hle:vals.length<=cap * sz:=by rw [hvl];exact Nat.mul_le_mul_right _ h1
  have hcl:c.toList=(c.toList.take off++vals)++c.toList.drop (off+vals.length):=by
   apply List.ext_getElem?
   intro i
   have hlt:(c.toList.take off).length=off:=by simp;omega
   by_cases h1:i<off
   ·rw [List.append_assoc,List.getElem?_append_left (by omega),List.getElem?_take,if_pos h1]
   ·by_cases h2:i<off+vals.length
    ·rw [List.getElem?_append_left (by simp;omega),List.getElem?_append_right (by omega),hlt]
     have:=hrow (i - off) (by omega)
     rw [<- this,Array.getElem?_toList]
     congr 1;omega
    ·rw [List.getElem?_append_right (by simp;omega),List.getElem?_drop]
     congr 1;simp;omega
  have hbs:=hS.ol b (by rw [ho b (by simp)];simp)
  classical
  let il:Nat->Own:=fun k=>if k=b then .key else if k∈fp' then .obj b else own k
  have hn2:∀ k,own k≠.slot 0->il k=own k:=fun k hk=>by
   have n1:k≠b:=fun e=>hk (ho k (by simp [e]))
   have n2:k ∉ fp':=fun hm=>hk (ho k (by simp [hm]))
   simp only [il,if_neg n1,if_neg n2]
  have hS2:kW L B F w F il (fun k=>if k=b then fp' else []) [(b,some (List.replicate off .dead++l.flatMap AV.cells))] w:=by
   refine { below:=hS.below,hB:=hS.hB,tb:=hS.tb,f0:=hS.f0,fl:=fun k hk=>?_,ol:=fun k hk=>?_,obj:=fun q cells hO=>?_ }
   ·have:=hS.fl k hk
    exact ⟨by rw [hn2 k (by rw [this.1];simp)];exact this.1,this.2⟩
   ·by_cases e1:k∈b::fp'
    ·exact hS.ol k (by rw [ho k e1];simp)
    ·have n1:k≠b:=fun e=>e1 (by simp [e])
     have n2:k ∉ fp':=fun e=>e1 (by simp [e])
     simp only [il,if_neg n1,if_neg n2] at hk
     exact hS.ol k hk
   ·simp only [O] at hO
    split at hO
    ·rename_i e
     subst e
     cases hO
     refine ⟨by simp [il],by simpa using rl.2,fun k hk=>?_,c,Ty,_,_,hc,hcl,?_⟩
     ·simp only [if_true] at hk
      have n1:k≠b:=fun e=>rl.1 (by rw [<- e];exact hk)
      simp only [il,if_neg n1,if_pos hk]
     ·simp only [if_true]
      have:=aq.join (L:=L) (F:=F) (w:=w) (aq.CU (c.toList.take off)) (bT.flat hel he)
      have hlt:(c.toList.take off).length=off:=by simp;omega
      rw [hlt,List.nil_append] at this
      exact this
    ·cases hO
  refine (hg b off B F il _ w (_::rs) hS2 ?_).mono ?_
  ·simp only [aq]
   exact ⟨_,rs,[],[],rfl,rfl,by simp only [Rep];exact ⟨by trivial,cap,rfl,h1,h2,c,Ty,hc,hsz⟩,hrest⟩
  ·rintro e w' ⟨v,r,os',F',own',fs',fp,rfl,⟨rfl,rfl⟩,h3,h4,_,_⟩
   rw [Rep.dP hr h4] at h4
   obtain ⟨hkey,iO,dW,c',Ty',kM,ZE,hc',W7,gE⟩:=h3.obj b _ (eQ _ _ _)
   obtain ⟨v1,v2,g1,g2,rfl,hfs,r1,r2⟩:=gE.split
   rw [aq.dP (FG off) r1] at hfs
   rw [List.nil_append] at hfs
   subst hfs
   have hv1:v1.length=off:=by have:=r1.len;simpa using this
   obtain ⟨c3,hc3,hcs⟩:=h3.below.shape b c Ty (0,0) hc
   rw [hc'] at hc3
   cases hc3
   refine ⟨v,F',fun k=>if k=b then .slot 0 else if k∈fs' b then .slot 0 else own' k,b::fs' b,rfl,{ below:=h3.below,hB:=h3.hB,tb:=h3.tb,f0:=h3.f0,fl:=fun k hk=>?_,ol:=fun k hk=>?_,obj:=by simp [O] },h4,?_,?_,?_⟩
   ·have:=h3.fl k hk
    have n1:k≠b:=fun e=>by rw [e,hkey] at this;cases this.1
    have n2:k ∉ fs' b:=fun hm=>by have e:=dW k hm;rw [e] at this;cases this.1
    simp only [if_neg n1,if_neg n2];exact this
   ·by_cases e1:k=b
    ·subst e1;exact h3.ol k (by rw [hkey];simp)
    ·by_cases e2:k∈fs' b
     ·exact h3.ol k (by rw [dW k e2];simp)
     ·simp only [if_neg e1,if_neg e2] at hk;exact h3.ol k hk
   ·simp only [aq]
    refine ⟨_,[],b::fs' b,[],rfl,by simp,?_,rfl,rfl⟩
    simp only [Rep]
    refine .inr ⟨b,off,cap,v2,fs' b,by rw [hlen],by omega,by omega,?_,aq.kX jc r2,by trivial,c',_,hc',by omega⟩
    refine ⟨c',_,_,hc',fun i hi=>?_⟩
    rw [<- Array.getElem?_toList,W7,List.append_assoc,List.getElem?_append_right (by omega),List.getElem?_append_left (by omega)]
    congr 1;omega
   ·rw [List.nodup_cons]
    exact ⟨fun hm=>(by have:=dW b hm;rw [hkey] at this;cases this),iO⟩
   ·intro k hk
    rcases List.mem_cons.1 hk with rfl|hk
    ·simp
    ·simp only [if_pos hk];split<;>rfl
theorem Rep.slo{L:Nat->Nat}{F:Nat->Prop}{w:World}{sz:Nat}{l:List AV}{y:Value}{f:List Nat}(h:Rep L F w (.sl true sz l) y f):Rep L F w (.slo sz l) y f:=by
 simp only [Rep] at h ⊢
 rcases h with ⟨h|⟨e,_⟩,h2⟩|⟨b,off,cap,vals,fp',h1,h2,h3,h4,h5,⟨_,h6,h7,h8⟩|⟨e,_⟩⟩
 ·exact .inl ⟨h,h2⟩
 ·cases e
 ·exact .inr ⟨b,off,cap,vals,fp',h1,h2,h3,h4,h5,h6,h8⟩
 ·cases e
section
variable {L : Nat -> Nat} {n : Nat} {t : List (Nat × AV)} {o : Sto} {Q : AS -> Prop}
theorem Imp.VQ{b sz:Nat}(pre:List AV){l:List AV}(post:List AV)(hO:O o b=some (pre++([.sl true sz l]++post)))(h:Q ⟨n,t,fY o b (some (pre++([.slo sz l]++post)))⟩):Imp L ⟨n,t,o⟩ Q :=
 Imp.wh hO fun vs=>⟨[.slo sz l],h,fun F w f r=>by
  simp only [aq] at r ⊢
  obtain ⟨y,vs',f1,f2,h1,h2,h3,h4⟩:=r
  exact ⟨y,vs',f1,f2,h1,h2,h3.slo,h4⟩⟩
end
end Go.Ab
namespace Go.Proofs
open Go.Ab Go.Dt
section
attribute [-instance] cz
attribute [local go_sem] nC nB gV gU ba aI aS cU cT dy fZ gH
attribute [local go_sem] HS Oj Oi List.drop_zero List.take_length lQ aS v7
theorem Hl(o:Bool)(l:List bV)(n:Nat):(l.map (az o)).drop n=(l.drop n).map (az o):=List.map_drop.symm
attribute [local go_sem] Hl
instance YE(a b:Int):Ctr lim Tryz.prog 92 [] [.v (.int .i64 a),.v (.int .i64 b)] (.v (.int .i64 (min a b))) [] True:=by
 refine Ctr.bd Tryz.func92 Tryz.ntmps92 rfl rfl fun hp=>?_
 refine vO ?_;intros;refine AW.c (fun h=>?_) fun h=>?_
 ·rw [show min a b=b by omega]
  all_goals exact uU
 ·rw [show min a b=a by omega]
  all_goals exact uU
instance XS(j:bu)(n:Int):Ctr lim Tryz.prog 89 [] [.agg [.sl false 3 (j.aQ.map (aj false)),.sl false 3 (j.aF.map (az false))],.v (.int .i64 n)] (.agg [.sl false 3 (j.aQ.map (aj false)),.sl false 3 ((j.aF.take (clp n j.aF.length)).map (az false))]) [] True:=by
 refine Ctr.bd Tryz.func89 Tryz.ntmps89 rfl rfl fun hp=>?_
 have gOn:=bA.on
 have hcl:=Ff n j.aF.length
 refine AW.kU 0 rfl (xs:=j.aF.map (az false)) (own:=false) (sz:=3) (by simp) fun hf=>?_
 simp (disch:=omega) only [go_sem] at hf
 (refine vN ?_;with_reducible repeat' first|exact Le.l|apply Sw|intro h)
 refine Z ?_
 (refine vN ?_;with_reducible repeat' first|exact Le.l|apply Sw|intro h)
 refine Z ?_
 (refine vN ?_;with_reducible repeat' first|exact Le.l|apply Sw|intro h)
 rename Nat=>b2
 refine AW.imp (Imp.ez (b:=b2) (cells:=[.sl true 3 (j.aQ.map (aj true)),.sl true 3 (j.aF.map (az true))]) gO ?_)
 simp (maxSteps:=2000000) (disch:=omega) only [go_sem]
 all_goals exact uU
end
section
attribute [-instance] cz
attribute [local go_sem] nC nB gV gU ba aI aS cU cT dy fZ gH
attribute [local go_sem] HS Hl Oj Oi List.drop_zero List.take_length lQ aS v7
instance UT(s:List ag)(b:List ah)(l:List bV):Ctr lim Tryz.prog 88 [] [.sl false 19 (s.map (ak false)),.agg [.sl false 3 (b.map (aj false)),.sl false 3 (l.map (az false))]] (.tup [.sl true 3 ((eE s ⟨b,l⟩).map (aj true)),.v (.bool (fq s ⟨b,l⟩))]) [] (wtS s<=1048576/\wt b<=1048576/\∀ c∈l,wtE c.dG<=1048576):=Ju s ⟨b,l⟩
instance Yb(s:List ag)(j:bu)(n:Int):Ctr lim Tryz.prog 41 [] [.sl false 19 (s.map (ak false)),.agg [.sl false 3 (j.aQ.map (aj false)),.sl false 3 (j.aF.map (az false))],.v (.int .i64 n)] (.tup [.agg [.sl true 3 ((pkS s j n).map (aj true)),.slo 3 ((pkL s j n).map (az true))],.v (.bool (fq s j))]) [] (wtS s<=1048576/\wt j.aQ<=1048576/\∀ c∈j.aF,wtE c.dG<=1048576):=by
 refine Ctr.bd Tryz.func41 Tryz.ntmps41 rfl rfl fun hp=>?_
 have gOn:=bA.on
 obtain ⟨h1,h2,h3⟩:=hp
 have hcl:=Ff n j.aF.length
 refine AW.kU 1 rfl (xs:=j.aF.map (az false)) (own:=false) (sz:=3) (by simp) fun hf=>?_
 simp (disch:=omega) only [go_sem] at hf
 (refine vK ?_;with_reducible repeat' first|exact Le.l|apply Sw|intro h)
 ·exact h3 _ (by assumption)
 rename Nat=>b2
 refine AW.c (fun h=>?_) fun h=>?_
 ·have hB:fq s j=false:=by simpa using h
  obtain ⟨e1,e2⟩:=QQ (n:=n) hB
  rw [e1,e2,hB]
  refine AW.imp (Imp.VQ (b:=b2) (sz:=3) (l:=j.aF.map (az true)) [.sl true 3 (j.aQ.map (aj true))] [] gO ?_)
  all_goals exact uU
 have hB:fq s j=true:=by simpa using h
 clear h
 obtain ⟨e1,e2⟩:=QP (n:=n) hB
 rw [e1,e2,hB,Nc n hB]
 ((refine vU ?_;with_reducible repeat' first|exact Le.l|apply Sw|intro h))
 exact h3 _ (by assumption)
instance XH(s:List ag)(j:bu)(n:Int):Ctr lim Tryz.prog 39 [] [.sl false 19 (s.map (ak false)),.agg [.sl false 3 (j.aQ.map (aj false)),.sl false 3 (j.aF.map (az false))],.v (.int .i64 n)] (.tup [.agg [.sl false 3 ((pkS s j n).map (aj false)),.sl false 3 ((pkL s j n).map (az false))],.v (.bool (fq s j))]) [] (wtS s<=1048576/\wt j.aQ<=1048576/\∀ c∈j.aF,wtE c.dG<=1048576):=by
 refine Ctr.bd Tryz.func39 Tryz.ntmps39 rfl rfl fun hp=>?_
 have gOn:=bA.on
 obtain ⟨h1,h2,h3⟩:=hp
 have hcl:=Ff n j.aF.length
 refine AW.kU 1 rfl (xs:=j.aF.map (az false)) (own:=false) (sz:=3) (by simp) fun hf=>?_
 simp (disch:=omega) only [go_sem] at hf
 (refine vK ?_;with_reducible repeat' first|exact Le.l|apply Sw|intro h)
 all_goals try exact h3 _ (by assumption)
 all_goals try exact h3 _ (List.mem_of_mem_take (by assumption))
 rename Nat=>b2
 refine AW.c (fun h=>?_) fun h=>?_
 ·have hB:fq s j=false:=by
   cases e:fq s j
   ·rfl
   ·rw [E7 n e,e] at h;simp at h
  obtain ⟨e1,e2⟩:=QQ (n:=n) hB
  rw [e1,e2,hB]
  refine AW.imp (Imp.ez (b:=b2) (cells:=[.sl true 3 (j.aQ.map (aj true)),.sl true 3 (j.aF.map (az true))]) gO ?_)
  simp (maxSteps:=2000000) (disch:=omega) only [go_sem]
  all_goals exact uU
 have hB:fq s j=true:=by
  cases e:fq s j
  ·rw [e] at h;simp at h
  ·rfl
 clear h
 obtain ⟨e1,e2⟩:=QP (n:=n) hB
 rw [e1,e2,hB]
 refine AW.imp (Imp.ez (b:=b2) (cells:=[.sl true 3 (j.aQ.map (aj true)),.sl true 3 (j.aF.map (az true))]) gO ?_)
 refine AW.imp (Imp.frz 10 ?_)
 simp (maxSteps:=2000000) (disch:=omega) only [go_sem]
 all_goals exact uU
end
section
attribute [-instance] cz
attribute [local go_sem] nC nB gV gU ba aI aS cU cT dy fZ gH
instance Qd(l:List bV)(k:Int):nF lim Tryz.prog 98 false [.slo 3 (l.map (az true))] [.v (.int .i64 k)] (.v (.int .i64 (mkL aV l k).2)) [.slo 3 ((mkL aV l k).1.map (az true))] (0<=k/\(mkL aV l k).2<=1099511627776):=by
 refine ⟨(aM 98),fun hq=>InC.slo (fun b off=>?_) (fun e=>?_) (by simp [gB]) (bB (fun _=>rfl) _) (bB (fun _=>rfl) _) rfl⟩
 ·simp only [List.length_map]
  refine (show Ctr lim Tryz.prog 98 [(b,some (List.replicate off .dead++(l.map (az true)).flatMap AV.cells))] [.arr b off l.length 3,.v (.int .i64 k)] (.v (.int .i64 (mkL aV l k).2)) [some (List.replicate off .dead++((mkL aV l k).1.map (az true)).flatMap AV.cells)] True from ?_).out trivial
  refine Ctr.bd Tryz.func98 Tryz.ntmps98 rfl rfl fun hp=>?_
  have hp:=hq
  have hup:=bG dJ l k
  (refine vU ?_;with_reducible repeat' first|exact Le.l|apply Sw|intro h)
  refine AW.iA [1,5] [0] (fun m xs o=>∃ i:Nat,xs=[.v (.int .i64 (mkc aV l k i)),.v (.int .i64 i)]/\o=[(b,some (List.replicate off .dead++((mkp aV l k i).map (az true)).flatMap AV.cells))]/\m=l.length - i/\i<=l.length) l.length [(b,some (List.replicate off .dead++(l.map (az true)).flatMap AV.cells))] (bw rfl) ⟨0,rfl,?_,rfl,?_⟩ ?_
  ·rw [jL]
  ·omega
  rintro m xs o ⟨i,rfl,rfl,rfl,hi⟩
  have h1:=jV ((dV dJ)) l k i
  have h2:=eV ((dV dJ)) l k i
  refine vO ?_;intros;refine AW.c (fun h=>?_) fun h=>?_
  ·have h3:=eV ((dV dJ)) l k (i+1)
   rw [l8 h]
   rw [dD h] at h3
   have hpre:=kG (e:=az true) (f:=aV) (sz:=3) (k:=k) (fun _=>rfl) hi
   have hpost:(((l.drop (i+1)).map (az true)).flatMap AV.cells).length=(l.length - (i+1)) * 3:=by
    rw [lq (e:=az true) (sz:=3) (fun _=>rfl),List.length_drop]
   have hnx:=jM (e:=az true) (f:=aV) (k:=k) h
   rw [<- List.append_assoc]
   have TX:(List.replicate off AV.dead++mkb (az true) aV l k i).length=off+i * 3:=by rw [List.length_append,List.length_replicate,hpre]
   have MJ:List.replicate off AV.dead++((mkp aV l k (i+1)).map (az true)).flatMap AV.cells=(List.replicate off AV.dead++mkb (az true) aV l k i)++((az true (aV (at_ l i) (mkc aV l k i)).1).cells++((l.drop (i+1)).map (az true)).flatMap AV.cells):=by rw [hnx,List.append_assoc]
   generalize List.replicate off AV.dead++mkb (az true) aV l k i=pre at TX MJ ⊢
   generalize ((l.drop (i+1)).map (az true)).flatMap AV.cells=post at MJ hpost ⊢
   generalize e1:at_ l i=x at *
   generalize e2:mkc aV l k i=c at *
   refine AW.imp (Imp.sO (b:=b) pre [_,_,_] post (eQ _ _ _) fun hs=>?_)
   simp (maxSteps:=2000000) (disch:=omega) only [go_sem]
   have g0:=bG eT x.dG (c+1+1)
   simp only [aV] at h3
   (refine vK ?_;with_reducible repeat' first|exact Le.l|apply Sw|intro h)
   refine Imp.uf (b:=b) pre [_,_,_] post (eQ _ _ _) ?_
   simp (maxSteps:=2000000) (disch:=omega) only [go_sem]
   exact ⟨_,[_,_],_,by omega,⟨i+1,by rw [dD h,e1,e2];rfl,rfl,rfl,by omega⟩,rfl,bw MJ⟩
  ·rw [iW h,kF h]
   all_goals exact uU
 ·have:l=[]:=by simpa using e
  subst this
  refine ⟨(show Ctr lim Tryz.prog 98 [] [.sl false 3 [],.v (.int .i64 k)] (.v (.int .i64 k)) [] True from ?_).pure trivial,rfl⟩
  refine Ctr.bd Tryz.func98 Tryz.ntmps98 rfl rfl fun hp=>?_
  (refine vU ?_;with_reducible repeat' first|exact Le.l|apply Sw|intro h)
  refine AW.aA [] [0,1,5] (fun m xs o=>xs=[]/\o=[]) 0 [] trivial ⟨rfl,rfl⟩ ?_
  rintro m xs o ⟨rfl,rfl⟩
  (refine vU ?_;with_reducible repeat' first|exact Le.l|apply Sw|intro h)
  try rfl
instance X2(a:List ah)(b:List bV)(k:Int):nF lim Tryz.prog 43 true [.sl true 3 (a.map (aj true)),.slo 3 (b.map (az true))] [.v (.int .i64 k)] (.v (.int .i64 (mkL aV b (mkL aT a k).2).2)) [.sl true 3 ((mkL aT a k).1.map (aj true)),.slo 3 ((mkL aV b (mkL aT a k).2).1.map (az true))] (0<=k/\(mkL aV b (mkL aT a k).2).2<=1099511627776):=by
 refine ⟨(aM 43),fun hp=>InC.gA Tryz.func43 rfl rfl rfl (fun hs=>rfl) (fun hs=>rfl) (fun hs=>rfl) rfl fun hs=>?_⟩
 rw [Tryz.ntmps43]
 have g0:=bG dO a k
 have g1:=bG dJ b (mkL aT a k).2
 (refine bX ?_;with_reducible repeat' first|exact Le.l|apply Sw|intro h)
 refine AW.ret (aJ.inp h rfl ?_)
 simp (maxSteps:=2000000) (disch:=omega) only [go_sem]
end
end Go.Proofs
