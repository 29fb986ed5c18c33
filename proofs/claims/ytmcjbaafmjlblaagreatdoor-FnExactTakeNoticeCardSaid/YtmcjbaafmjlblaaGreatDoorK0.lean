/- A part. -/
import Derived.Test.YtmcjbaafmjlblaaGreatDoorK4
set_option linter.all false
set_option maxRecDepth 20000
set_option maxHeartbeats 4000000
namespace Go.Ab
def bmA(N m:Nat):Array Bool:=((List.range N).map fun i=>m.testBit i).toArray
def pcA(N m:Nat):Nat:=((List.range N).filter fun i=>m.testBit i).length
def aab(T:List (Nat×Nat×Nat×AV))(m:Nat):List (Nat×AV) :=
 T.filterMap fun e=>bif ((m &&& e.2.1) == e.2.1) && ((m &&& e.2.2.1) == 0) then some (e.1,e.2.2.2) else none
def aaa(N n:Nat)(ms:List (Nat×List Nat))(side:Nat->Prop)(t0:List (Nat×AV))(T:Nat->List (Nat×Nat×Nat×AV))(os:Nat->Nat->Sto)(f:Nat)(l:Array Bool)(st:AS):Prop :=
 ∃ m rs b,(m,rs)∈ms/\(m % 2 ^ N=m)/\side b/\f=N - pcA N m/\l=bmA N m/\st=⟨n,t0++aab (T b) m,os b m⟩
theorem aaa.last{N n:Nat}{ms:List (Nat×List Nat)}{side:Nat->Prop}{t0:List (Nat×AV)}{T:Nat->List (Nat×Nat×Nat×AV)}{os:Nat->Nat->Sto}{l:Array Bool}{st:AS}(h:aaa N n ms side t0 T os 0 l st)(q:Nat)(hq:(ms.all fun p=>!(Nat.beq (N - pcA N p.1) 0) || Nat.beq p.1 q)=true) :
  l=bmA N q/\∃ b,side b/\st=⟨n,t0++aab (T b) q,os b q⟩:=by
 obtain ⟨m,rs,b,hm,h2,hs,hf,rfl,rfl⟩:=h
 have:=List.all_eq_true.1 hq _ hm
 simp only [<- hf,Nat.beq_refl,Bool.not_true,Bool.false_or] at this
 have e:=Nat.eq_of_beq_eq_true this
 subst e
 exact ⟨rfl,b,hs,rfl⟩
theorem aaa.next{N n:Nat}{ms:List (Nat×List Nat)}{side:Nat->Prop}{t0:List (Nat×AV)}{T:Nat->List (Nat×Nat×Nat×AV)}{os:Nat->Nat->Sto}{m i b:Nat}{t:List (Nat×AV)}{o:Sto}(hm:(m ||| 2 ^ i,(ms.lookup (m ||| 2 ^ i)).getD [])∈ms)(h2:(m ||| 2 ^ i) % 2 ^ N=m ||| 2 ^ i)(hf:N - pcA N m - 1=N - pcA N (m ||| 2 ^ i))(hl:(bmA N m).setIfInBounds i true=bmA N (m ||| 2 ^ i))
  (ht:eN t ((t0++aab (T b) (m ||| 2 ^ i)).map Prod.fst)=t0++aab (T b) (m ||| 2 ^ i)) (hs:side b) (ho:jS (os b (m ||| 2 ^ i)) o) :
  VR n (N - pcA N m - 1) ((bmA N m).setIfInBounds i true) (aaa N n ms side t0 T os) t o :=
 ⟨_,_,ho,m ||| 2 ^ i,_,b,hm,h2,hs,hf,hl,by rw [ht]⟩
end Go.Ab
namespace Go.Ab
open Go.RowKit (Below)
theorem FG(n:Nat):AV.bL (List.replicate n .dead)=true:=by
 induction n with
 | zero=>rfl
 | succ n ih=>simp only [List.replicate_succ,AV.bL,AV.df,ih,Bool.and_self]
theorem InC.slo{L:Nat->Nat}{P:Program}{f:FuncId}{sz:Nat}{l l' rest:List AV}{res:AV}
  (hg:∀ b off,jO L P f [(b,some (List.replicate off .dead++l.flatMap AV.cells))] (.arr b off l.length sz::rest) (fun r os'=>r=res/\os'=[(b,some (List.replicate off .dead++l'.flatMap AV.cells))]))
  (hnil:l=[]->fM L P f (.sl false sz []::rest) res/\l'=[]) (hlen:l'.length=l.length) (hel:∀ x,x∈l->x.elem sz=true) (jc:∀ x,x∈l'->x.elem sz=true) (hr:res.df=true) :
  InC L P f false [.slo sz l] [.slo sz l'] rest res:=by
 refine ⟨rfl,fun _=>rfl,?_⟩
 intro B F own w vs rs fp hS hx hnd ho hrest
 simp only [aq] at hx
 obtain ⟨y,vs',f1,f2,rfl,rfl,hy,rfl,rfl⟩:=hx
 rw [List.append_nil] at hnd ho
 simp only [Rep] at hy
 have hmk:mkv false [y]=y:=rfl
 rw [hmk]
 rcases hy with ⟨rfl,e,rfl⟩|⟨b,off,cap,vals,fp',rfl,h1,h2,hrow,he,rfl,gX⟩
 ·obtain ⟨hp,rfl⟩:=hnil e
  subst e
  refine (jO.lJ hp B F own (fun _=>[]) w (_::rs) hS ?_).mono ?_
  ·simp only [aq]
   exact ⟨_,rs,[],[],rfl,rfl,by simp [Rep],hrest⟩
  ·rintro e w' ⟨v,r,os',F',own',fs',fp,rfl,⟨rfl,rfl⟩,h3,h4,_,_⟩
   rw [Rep.dP hr h4] at h4
   refine ⟨v,F',own',[],rfl,{ h3 with obj:=by simp [O] },h4,?_,by simp,by simp⟩
   simp only [aq]
   exact ⟨_,[],[],[],rfl,rfl,by simp [Rep],rfl,rfl⟩
 ·have rl:=List.nodup_cons.1 hnd
  obtain ⟨c,Ty,hc,hsz⟩:=gX
  obtain ⟨c2,T2,z2,hc2,hrow⟩:=hrow
  rw [hc] at hc2
  cases hc2
  have hvl:=he.len
  have hle:vals.length<=cap * sz:=by rw [hvl];exact Nat.mul_le_mul_right _ h1
  have hcl:c.toList=(c.toList.take off++vals)++c.toList.drop (off+vals.length):=by
   apply List.ext_getElem?
   intro i
   have hlt:(c.toList.take off).length=off:=by simp;omega
   by_cases h1:i<off
   ·rw [List.append_assoc,List.getElem?_append_left (by omega),List.getElem?_take,if_pos h1]
   ·by_cases h2:i<off+vals.length
    ·rw [List.getElem?_append_left (by simp;omega),List.getElem?_append_right (by omega),hlt]
     have:=hrow (i - off) (by omega)
     rw [<- this,Array.getElem?_toList]
     congr 1;omega
    ·rw [List.getElem?_append_right (by simp;omega),List.getElem?_drop]
     congr 1;simp;omega
  have hbs:=hS.ol b (by rw [ho b (by simp)];simp)
  classical
  let il:Nat->Own:=fun k=>if k=b then .key else if k∈fp' then .obj b else own k
  have hn2:∀ k,own k≠.slot 0->il k=own k:=fun k hk=>by
   have n1:k≠b:=fun e=>hk (ho k (by simp [e]))
   have n2:k ∉ fp':=fun hm=>hk (ho k (by simp [hm]))
   simp only [il,if_neg n1,if_neg n2]
  have hS2:kW L B F w F il (fun k=>if k=b then fp' else []) [(b,some (List.replicate off .dead++l.flatMap AV.cells))] w:=by
   refine { below:=hS.below,hB:=hS.hB,tb:=hS.tb,f0:=hS.f0,fl:=fun k hk=>?_,ol:=fun k hk=>?_,obj:=fun q cells hO=>?_ }
   ·have:=hS.fl k hk
    exact ⟨by rw [hn2 k (by rw [this.1];simp)];exact this.1,this.2⟩
   ·by_cases e1:k∈b::fp'
    ·exact hS.ol k (by rw [ho k e1];simp)
    ·have n1:k≠b:=fun e=>e1 (by simp [e])
     have n2:k ∉ fp':=fun e=>e1 (by simp [e])
     simp only [il,if_neg n1,if_neg n2] at hk
     exact hS.ol k hk
   ·simp only [O] at hO
    split at hO
    ·rename_i e
     subst e
     cases hO
     refine ⟨by simp [il],by simpa using rl.2,fun k hk=>?_,c,Ty,_,_,hc,hcl,?_⟩
     ·simp only [if_true] at hk
      have n1:k≠b:=fun e=>rl.1 (by rw [<- e];exact hk)
      simp only [il,if_neg n1,if_pos hk]
     ·simp only [if_true]
      have:=aq.join (L:=L) (F:=F) (w:=w) (aq.CU (c.toList.take off)) (bT.flat hel he)
      have hlt:(c.toList.take off).length=off:=by simp;omega
      rw [hlt,List.nil_append] at this
      exact this
    ·cases hO
  refine (hg b off B F il _ w (_::rs) hS2 ?_).mono ?_
  ·simp only [aq]
   exact ⟨_,rs,[],[],rfl,rfl,by simp only [Rep];exact ⟨by trivial,cap,rfl,h1,h2,c,Ty,hc,hsz⟩,hrest⟩
  ·rintro e w' ⟨v,r,os',F',own',fs',fp,rfl,⟨rfl,rfl⟩,h3,h4,_,_⟩
   rw [Rep.dP hr h4] at h4
   obtain ⟨hkey,iO,dW,c',Ty',kM,ZE,hc',W7,gE⟩:=h3.obj b _ (eQ _ _ _)
   obtain ⟨v1,v2,g1,g2,rfl,hfs,r1,r2⟩:=gE.split
   rw [aq.dP (FG off) r1] at hfs
   rw [List.nil_append] at hfs
   subst hfs
   have hv1:v1.length=off:=by have:=r1.len;simpa using this
   obtain ⟨c3,hc3,hcs⟩:=h3.below.shape b c Ty (0,0) hc
   rw [hc'] at hc3
   cases hc3
   refine ⟨v,F',fun k=>if k=b then .slot 0 else if k∈fs' b then .slot 0 else own' k,b::fs' b,rfl,{ below:=h3.below,hB:=h3.hB,tb:=h3.tb,f0:=h3.f0,fl:=fun k hk=>?_,ol:=fun k hk=>?_,obj:=by simp [O] },h4,?_,?_,?_⟩
   ·have:=h3.fl k hk
    have n1:k≠b:=fun e=>by rw [e,hkey] at this;cases this.1
    have n2:k ∉ fs' b:=fun hm=>by have e:=dW k hm;rw [e] at this;cases this.1
    simp only [if_neg n1,if_neg n2];exact this
   ·by_cases e1:k=b
    ·subst e1;exact h3.ol k (by rw [hkey];simp)
    ·by_cases e2:k∈fs' b
     ·exact h3.ol k (by rw [dW k e2];simp)
     ·simp only [if_neg e1,if_neg e2] at hk;exact h3.ol k hk
   ·simp only [aq]
    refine ⟨_,[],b::fs' b,[],rfl,by simp,?_,rfl,rfl⟩
    simp only [Rep]
    refine .inr ⟨b,off,cap,v2,fs' b,by rw [hlen],by omega,by omega,?_,aq.kX jc r2,by trivial,c',_,hc',by omega⟩
    refine ⟨c',_,_,hc',fun i hi=>?_⟩
    rw [<- Array.getElem?_toList,W7,List.append_assoc,List.getElem?_append_right (by omega),List.getElem?_append_left (by omega)]
    congr 1;omega
   ·rw [List.nodup_cons]
    exact ⟨fun hm=>(by have:=dW b hm;rw [hkey] at this;cases this),iO⟩
   ·intro k hk
    rcases List.mem_cons.1 hk with rfl|hk
    ·simp
    ·simp only [if_pos hk];split<;>rfl
theorem Rep.slo{L:Nat->Nat}{F:Nat->Prop}{w:World}{sz:Nat}{l:List AV}{y:Value}{f:List Nat}(h:Rep L F w (.sl true sz l) y f):Rep L F w (.slo sz l) y f:=by
 simp only [Rep] at h ⊢
 rcases h with ⟨h|⟨e,_⟩,h2⟩|⟨b,off,cap,vals,fp',h1,h2,h3,h4,h5,⟨_,h6,h7,h8⟩|⟨e,_⟩⟩
 ·exact .inl ⟨h,h2⟩
 ·cases e
 ·exact .inr ⟨b,off,cap,vals,fp',h1,h2,h3,h4,h5,h6,h8⟩
 ·cases e
section
variable {L : Nat -> Nat} {n : Nat} {t : List (Nat × AV)} {o : Sto} {Q : AS -> Prop}
theorem Imp.VQ{b sz:Nat}(pre:List AV){l:List AV}(post:List AV)(hO:O o b=some (pre++([.sl true sz l]++post)))(h:Q ⟨n,t,fY o b (some (pre++([.slo sz l]++post)))⟩):Imp L ⟨n,t,o⟩ Q :=
 Imp.wh hO fun vs=>⟨[.slo sz l],h,fun F w f r=>by
  simp only [aq] at r ⊢
  obtain ⟨y,vs',f1,f2,h1,h2,h3,h4⟩:=r
  exact ⟨y,vs',f1,f2,h1,h2,h3.slo,h4⟩⟩
end
end Go.Ab
namespace Go.Dt
open Go Go.Ab
def tkB(s:List ag)(w:dm):Bool:=decide (0<w.bt.length) && decide ((mdT s w.cL (at_ w.bt 0)).2=0)
def tkS(s:List ag)(w:dm):List ah:=bif tkB s w then (mdT s w.cL (at_ w.bt 0)).1 else w.cL
def tkN(s:List ag)(w:dm):List (List au):=bif tkB s w then w.bt.drop 1 else w.bt
def tkE(s:List ag)(w:dm):List au:=bif tkB s w then at_ w.bt 0 else []
theorem aak{s:List ag}{w:dm}(h:tkB s w=false):tkS s w=w.cL/\tkN s w=w.bt/\tkE s w=[]:=by simp [tkS,tkN,tkE,h]
theorem tk_y{s:List ag}{w:dm}(h:tkB s w=true):tkS s w=(mdT s w.cL (at_ w.bt 0)).1/\tkN s w=w.bt.drop 1/\tkE s w=at_ w.bt 0:=by simp [tkS,tkN,tkE,h]
theorem aar{s:List ag}{w:dm}(h1:0<w.bt.length)(h2:(mdT s w.cL (at_ w.bt 0)).2=0):tkB s w=true:=by simp [tkB,h1,h2]
theorem aal{s:List ag}{w:dm}(h:w.bt.length=0):tkB s w=false:=by simp [tkB,h]
theorem aam{s:List ag}{w:dm}(h:¬ (mdT s w.cL (at_ w.bt 0)).2=0):tkB s w=false:=by simp [tkB,h]
theorem aaw(s:List ag)(w:dm):(tkN s w).length<=w.bt.length:=by
 unfold tkN;cases tkB s w<;>simp
def cES:List (List au)->Nat
 | []=>0
 | e::es=>cY e+cES es
theorem aac:∀ (l:List (List au)) (k:Int),(mkL eJ l k).2=k+3 * (cES l:Nat)
 | [],k=>by simp [mkL,cES]
 | e::es,k=>by
  simp only [mkL,cES]
  rw [aac es,show eJ e k=mkL cf e k from rfl,rH];omega
theorem aao(l:List (List au)):cES (l.drop 1)<=cES l:=by
 cases l with
 | nil=>simp
 | cons e l=>simp [cES]
theorem aax{l:List (List au)}(h:0<l.length):cY (at_ l 0)<=cES l:=by
 cases l with
 | nil=>simp at h
 | cons e l =>
  simp only [cES]
  have:at_ (e::l) 0=e:=rfl
  rw [this];omega
theorem aay(s:List ag)(w:dm):cES (tkN s w)<=cES w.bt:=by
 unfold tkN
 cases tkB s w
 ·exact Nat.le_refl _
 ·exact aao _
theorem aaC(s:List ag)(w:dm):cY (tkE s w)<=cES w.bt:=by
 unfold tkE
 cases h:tkB s w
 ·simp [fR]
 ·simp only [cond_true]
  refine aax ?_
  simp only [tkB,Bool.and_eq_true,decide_eq_true_eq] at h
  exact h.1
theorem aaD(s:List ag){w:dm}{r:Int}(h0:0<=r)(h1:r<=1048576)(h:0<=fE w r):(mkL cf (tkE s w) (mkL eJ (tkN s w) (mkL aT (tkS s w) (mkL ay w.ax 1).2).2).2).2<=268435456:=by
 have c:=Cp w 1 r h0 h
 simp only [oh,aac,Av] at c
 have hw:=(Jj h0 h1 h).1
 have hl:=um w r h0
 rw [rH,aac,Av]
 have c1:=aay s w
 have c2:=aaC s w
 have g0:=bG iP w.ax 1
 have g1:cnt (tkS s w)<=1055416:=by
  have h3:=(uK s w.cL (at_ w.bt 0)).1
  refine Nat.le_trans (Fa _) ?_
  unfold tkS
  cases tkB s w
  ·simp only [cond_false];omega
  ·simp only [cond_true];omega
 omega
end Go.Dt
namespace Go.Proofs
open Go.Ab Go.Dt
attribute [-instance] cz F4 Ji cPf
attribute [local go_sem] bD gf ub vz vw gV gU Xr VG ba aI aS cU cT dy fZ gH
instance aaz(l:List (List au))(k:Int):nF lim Tryz.prog 76 false [.slo 1 (l.map (bD true))] [.v (.int .i64 k)] (.v (.int .i64 (mkL eJ l k).2)) [.slo 1 ((mkL eJ l k).1.map (bD true))] ((0<=k/\(mkL eJ l k).2<=1099511627776)/\l.length<=1048576):=by
 refine ⟨(aM 76),fun hq=>InC.slo (fun b off=>?_) (fun e=>?_) (by simp [gB]) (bB (fun _=>rfl) _) (bB (fun _=>rfl) _) rfl⟩
 ·simp only [List.length_map]
  refine (show Ctr lim Tryz.prog 76 [(b,some (List.replicate off .dead++(l.map (bD true)).flatMap AV.cells))] [.arr b off l.length 1,.v (.int .i64 k)] (.v (.int .i64 (mkL eJ l k).2)) [some (List.replicate off .dead++((mkL eJ l k).1.map (bD true)).flatMap AV.cells)] True from ?_).out trivial
  refine Ctr.bd Tryz.func76 Tryz.ntmps76 rfl rfl fun hp=>?_
  have hp:=hq
  have hup:=nG (f:=eJ) kD l k
  (refine vU ?_;with_reducible repeat' first|exact Le.l|apply Sw|intro h)
  refine AW.iA [1,5] [0] (fun m xs o=>∃ i:Nat,xs=[.v (.int .i64 (mkc eJ l k i)),.v (.int .i64 i)]/\o=[(b,some (List.replicate off .dead++((mkp eJ l k i).map (bD true)).flatMap AV.cells))]/\m=l.length - i/\i<=l.length) l.length [(b,some (List.replicate off .dead++(l.map (bD true)).flatMap AV.cells))] (bw rfl) ⟨0,rfl,?_,rfl,?_⟩ ?_
  ·rw [jL]
  ·omega
  rintro m xs o ⟨i,rfl,rfl,rfl,hi⟩
  have h1:=jV (kD) l k i
  have h2:=eV (kD) l k i
  refine vO ?_;intros;refine AW.c (fun h=>?_) fun h=>?_
  ·have h3:=eV (kD) l k (i+1)
   rw [l8 h]
   rw [dD h] at h3
   have hpre:=kG (e:=bD true) (f:=eJ) (sz:=1) (k:=k) (fun _=>rfl) hi
   have hpost:(((l.drop (i+1)).map (bD true)).flatMap AV.cells).length=(l.length - (i+1)) * 1:=by
    rw [lq (e:=bD true) (sz:=1) (fun _=>rfl),List.length_drop]
   have hnx:=jM (e:=bD true) (f:=eJ) (k:=k) h
   rw [Nat.mul_one] at hpre hpost
   rw [<- List.append_assoc]
   have TX:(List.replicate off AV.dead++mkb (bD true) eJ l k i).length=off+i:=by rw [List.length_append,List.length_replicate,hpre]
   have MJ:List.replicate off AV.dead++((mkp eJ l k (i+1)).map (bD true)).flatMap AV.cells=(List.replicate off AV.dead++mkb (bD true) eJ l k i)++((bD true (eJ (at_ l i) (mkc eJ l k i)).1).cells++((l.drop (i+1)).map (bD true)).flatMap AV.cells):=by rw [hnx,List.append_assoc]
   generalize List.replicate off AV.dead++mkb (bD true) eJ l k i=pre at TX MJ ⊢
   generalize ((l.drop (i+1)).map (bD true)).flatMap AV.cells=post at MJ hpost ⊢
   generalize e1:at_ l i=x at *
   generalize e2:mkc eJ l k i=c at *
   refine AW.imp (Imp.sO (b:=b) pre [_] post (eQ _ _ _) fun hs=>?_)
   simp (maxSteps:=2000000) (disch:=omega) only [go_sem]
   have g0:=bG eT x c
   simp only [eJ] at h3
   (refine vK ?_;with_reducible repeat' first|exact Le.l|apply Sw|intro h)
   refine Imp.uf (b:=b) pre [_] post (eQ _ _ _) ?_
   simp (maxSteps:=2000000) (disch:=omega) only [go_sem]
   exact ⟨_,[_,_],_,by omega,⟨i+1,by rw [dD h,e1,e2];rfl,rfl,rfl,by omega⟩,rfl,bw MJ⟩
  ·rw [iW h,kF h]
   all_goals exact uU
 ·have:l=[]:=by simpa using e
  subst this
  refine ⟨(show Ctr lim Tryz.prog 76 [] [.sl false 1 [],.v (.int .i64 k)] (.v (.int .i64 k)) [] True from ?_).pure trivial,rfl⟩
  refine Ctr.bd Tryz.func76 Tryz.ntmps76 rfl rfl fun hp=>?_
  (refine vU ?_;with_reducible repeat' first|exact Le.l|apply Sw|intro h)
  refine AW.aA [] [0,1,5] (fun m xs o=>xs=[]/\o=[]) 0 [] trivial ⟨rfl,rfl⟩ ?_
  rintro m xs o ⟨rfl,rfl⟩
  (refine vU ?_;with_reducible repeat' first|exact Le.l|apply Sw|intro h)
  try rfl
instance aaG(a:List Str)(b:List ah)(c:List (List au))(k:Int):nF lim Tryz.prog 31 true [.sl true 1 (a.map AV.str),.sl true 3 (b.map (aj true)),.slo 1 (c.map (bD true))] [.v (.int .i64 k)] (.v (.int .i64 (mkL eJ c (mkL aT b (mkL ay a k).2).2).2)) [.sl true 1 ((mkL ay a k).1.map AV.str),.sl true 3 ((mkL aT b (mkL ay a k).2).1.map (aj true)),.slo 1 ((mkL eJ c (mkL aT b (mkL ay a k).2).2).1.map (bD true))] ((0<=k/\(mkL eJ c (mkL aT b (mkL ay a k).2).2).2<=1099511627776)/\c.length<=1048576):=by
 refine ⟨(aM 31),fun hp=>InC.gA Tryz.func31 rfl rfl rfl (fun hs=>rfl) (fun hs=>rfl) (fun hs=>rfl) rfl fun hs=>?_⟩
 rw [Tryz.ntmps31]
 have g0:=bG iP a k
 have g1:=bG dO b (mkL ay a k).2
 have g2:=nG (f:=eJ) kD c (mkL aT b (mkL ay a k).2).2
 (refine bX ?_;with_reducible repeat' first|exact Le.l|apply Sw|intro h)
 refine AW.ret (aJ.inp h rfl ?_)
 simp (maxSteps:=2000000) (disch:=omega) only [go_sem]
end Go.Proofs
