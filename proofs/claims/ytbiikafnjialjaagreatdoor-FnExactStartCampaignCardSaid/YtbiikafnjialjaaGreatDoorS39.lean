/- Part of a proof. -/
import Derived.Test.YtbiikafnjialjaaGreatDoorS21
set_option linter.all false
set_option maxRecDepth 20000
set_option maxHeartbeats 4000000
open Go.Proofs.Tryz
open List
namespace Go.Ab
open Go.RowKit (Below)
attribute [go_sem] Array.empty_append
section
variable {L : Nat -> Nat} {n : Nat} {t : List (Nat × AV)} {o : Sto} {Q : AS -> Prop}
def Imp.vpO(i:Nat){b off:Nat}{cells:List AV}(hT:T t i=.ptr b off)(hO:O o b=some cells)(hn:AV.nownL cells=true)(h:Q ⟨n,(i,.vp (cells.drop off))::t,(b,none)::o⟩):Imp L ⟨n,t,o⟩ Q:=by
 intro B F0 w0 a w hd;refine⟨_,h,?_⟩;obtain⟨F,own,fp,fs,hd⟩:=hd;obtain⟨hkey,_,_,c0,Ty0,nS,U9,hc0,vJ,hl0⟩:=hd.obj b _ hO;rw[au.eK hn hl0]at hl0
 classical
 let F':Nat->Prop:=λk=>F k\/k=b
 let own':Nat->Own:=λk=>if k=b then .none else own k
 have hid:Ext (λ_=>True) w w:=⟨Nat.le_refl _,λ_ _=>rfl,λb c T z hc=>⟨c,hc,rfl⟩⟩
 have hb:=hd.ol b (by rw[hkey];simp)
 have hnot:∀k,k≠b->own' k=own k:=λk hk=>by simp only[own',if_neg hk]
 have hrow:ia w b 0 nS:=by
  refine⟨c0,Ty0,(0,0),hc0,λj hj=>?_⟩;have:c0.toList[j]? = nS[j]?:=by rw[vJ,getElem?_append_left hj]
  rw[Nat.zero_add,<- this,Array.getElem?_toList]
 refine⟨F',own',fp,fs,{ below:=hd.below,hB:=hd.hB,tb:=hd.tb,f0:=λb hb=>.inl (hd.f0 b hb),fl:=?_,ol:=?_,defers:=hd.defers,size:=hd.size,slots:=?_,sn:=hd.sn,so:=?_,obj:=?_ }⟩
 ·rintro k (hk|rfl)
  ·have:=hd.fl k hk;exact⟨by simp only[own'];split<;>simp[this.1],this.2⟩
  ·exact⟨by simp only[own',if_true],hb.2,.inr hb.1⟩
 ·intro k hk;simp only[own']at hk;split at hk
  ·exact absurd rfl hk
  ·exact hd.ol k hk
 ·intro j;rw[gA];by_cases e:i=j
  ·subst e;simp only[if_true];have hr:=hd.slots i;rw[hT]at hr;simp only[Rep]at hr ⊢;refine⟨hr.2,b,off,nS.drop off,hr.1,.inr rfl,?_,?_⟩
   ·have:=hrow.cut off nS.length;rw[take_of_length_le Xp,Nat.zero_add]at this;exact this
   ·obtain⟨f',h1,h2⟩:=(au.ext (F':=F') hid (λb hb=>⟨.inl hb,trivial⟩) (λ_ _=>trivial) hl0).cut off (cells.length+nS.length);rw[take_of_length_le (by simp;omega),take_of_length_le (by simp;omega)]at h1;have:f'=[]:=List.eq_nil_iff_forall_not_mem.2 λb hb=>by simpa using h2 b hb
    rw[this]at h1;exact h1
  ·simp only[if_neg e];exact Rep.ext hid (λb hb=>⟨.inl hb,trivial⟩) (λ_ _=>trivial) (hd.slots j)
 ·intro j k hk;have:=hd.so j k hk;rw[hnot k (λe=>by rw[e,hkey]at this;cases this)];exact this
 ·intro q cs hq;simp only[O]at hq;split at hq
  ·cases hq
  ·rename_i hne;have PY:q≠b:=λe=>hne e.symm;obtain⟨g1,g2,g3,c,Ty,vals,rst,g4,g5,g6⟩:=hd.obj q cs hq;refine⟨by rw[hnot q PY];exact g1,g2,λk hk=>by rw[hnot k (λe=>by have:=g3 k hk;rw[e,hkey]at this;cases this)];exact g3 k hk,c,Ty,vals,rst,g4,g5,?_⟩;exact au.ext hid (λb hb=>⟨.inl hb,trivial⟩) (λ_ _=>trivial) g6
end
end Go.Ab
namespace Go.Proofs
open Go.Ab Go.Dt
instance(l:List dV)(k:Int):fI lim prog 76 2 (l.map (aU true)) [.aa k] (.aa (mkL bq l k).2) ((mkL bq l k).1.map (aU true)) (0<=k/\(mkL bq l k).2<=1099511627776):=by
 refine fI.of (aT 76) (λb=>?_) (λe=>?_) (by simp[gU]) (bW (λ_=>rfl) _) (bW (λ_=>rfl) _)
 ·simp only[length_map];refine Ctr.bd func76 ntmps76 λhp=>?_;have hup:=bJ kW l k;refine vU1 ?_;refine AW.aw [1,5] [0] (λm xs o=>∃i:Nat,xs=[.aa (mkc bq l k i),.aa i]/\o=[(b,some (((mkp bq l k i).map (aU true)).flatMap AV.cells))]/\m=l.length - i/\i<=l.length) l.length [(b,some ((l.map (aU true)).flatMap AV.cells))] (aE rfl) ⟨0,rfl,?_,rfl,?_⟩ ?_
  ·rw[jd]
  ·omega
  rintro m xs o ⟨i,rfl,rfl,rfl,hi⟩;have h1:=ke (dW kW) l k i
  have h2:=eZ (dW kW) l k i;refine vK1 ?_;refine AW.c (λh=>?_) λh=>?_
  ·have h3:=eZ (dW kW) l k (i+1);rw[lS h];rw[dI h]at h3;have hpre:=j1 (e:=aU true) (f:=bq) (sz:=2) (k:=k) (λ_=>rfl) hi
   have hpost:(((l.drop (i+1)).map (aU true)).flatMap AV.cells).length=(l.length - (i+1)) * 2:=by
    rw[ld (e:=aU true) (sz:=2) (λ_=>rfl),length_drop]
   have hnx:=je (e:=aU true) (f:=bq) (k:=k) h;generalize mkb (aU true) bq l k i=pre at hpre hnx ⊢;generalize ((l.drop (i+1)).map (aU true)).flatMap AV.cells=post at hnx hpost ⊢;generalize e1:at_ l i=x at *;generalize e2:mkc bq l k i=c at *;simp only[bq]at h3;refine vK1 ?_;exact⟨_,[_,_],_,Um,⟨i+1,by rw[dI h,e1,e2];rfl,rfl,rfl,Um⟩,rfl,aE hnx⟩
  ·rw[jf h,j0 h]
   all_goals exact uU
 ·have:l=[]:=by simpa using e
  subst this;refine⟨?_,rfl⟩;refine Ctr.bd func76 ntmps76 λhp=>?_;refine vU1 ?_;refine AW.aw [] [0,1,5] (λm xs o=>xs=[]/\o=[]) 0 [] trivial ⟨rfl,rfl⟩ ?_;rintro m xs o ⟨rfl,rfl⟩
  (refine vU1 ?_;intro h)
  rfl
instance(l:List fH)(k:Int):fI lim prog 205 2 (l.map (cU true)) [.aa k] (.aa (mkL jJ l k).2) ((mkL jJ l k).1.map (cU true)) (0<=k/\(mkL jJ l k).2<=1099511627776):=by
 refine fI.of (aT 205) (λb=>?_) (λe=>?_) (by simp[gU]) (bW (λ_=>rfl) _) (bW (λ_=>rfl) _)
 ·simp only[length_map];refine Ctr.bd func205 ntmps205 λhp=>?_;have hup:=bJ oA l k;refine vU1 ?_;refine AW.aw [1,5] [0] (λm xs o=>∃i:Nat,xs=[.aa (mkc jJ l k i),.aa i]/\o=[(b,some (((mkp jJ l k i).map (cU true)).flatMap AV.cells))]/\m=l.length - i/\i<=l.length) l.length [(b,some ((l.map (cU true)).flatMap AV.cells))] (aE rfl) ⟨0,rfl,?_,rfl,?_⟩ ?_
  ·rw[jd]
  ·omega
  rintro m xs o ⟨i,rfl,rfl,rfl,hi⟩;have h1:=ke (dW oA) l k i
  have h2:=eZ (dW oA) l k i;refine vK1 ?_;refine AW.c (λh=>?_) λh=>?_
  ·have h3:=eZ (dW oA) l k (i+1);rw[lS h];rw[dI h]at h3;have hpre:=j1 (e:=cU true) (f:=jJ) (sz:=2) (k:=k) (λ_=>rfl) hi
   have hpost:(((l.drop (i+1)).map (cU true)).flatMap AV.cells).length=(l.length - (i+1)) * 2:=by
    rw[ld (e:=cU true) (sz:=2) (λ_=>rfl),length_drop]
   have hnx:=je (e:=cU true) (f:=jJ) (k:=k) h;generalize mkb (cU true) jJ l k i=pre at hpre hnx ⊢;generalize ((l.drop (i+1)).map (cU true)).flatMap AV.cells=post at hnx hpost ⊢;generalize e1:at_ l i=x at *;generalize e2:mkc jJ l k i=c at *;simp only[jJ]at h3;refine vK1 ?_;exact⟨_,[_,_],_,Um,⟨i+1,by rw[dI h,e1,e2];rfl,rfl,rfl,Um⟩,rfl,aE hnx⟩
  ·rw[jf h,j0 h]
   all_goals exact uU
 ·have:l=[]:=by simpa using e
  subst this;refine⟨?_,rfl⟩;refine Ctr.bd func205 ntmps205 λhp=>?_;refine vU1 ?_;refine AW.aw [] [0,1,5] (λm xs o=>xs=[]/\o=[]) 0 [] trivial ⟨rfl,rfl⟩ ?_;rintro m xs o ⟨rfl,rfl⟩
  (refine vU1 ?_;intro h)
  rfl
instance(l:List Dt.GStep)(k:Int):fI lim prog 138 2 (l.map (bg true)) [.aa k] (.aa (mkL gp l k).2) ((mkL gp l k).1.map (bg true)) (0<=k/\(mkL gp l k).2<=1099511627776):=by
 refine fI.of (aT 138) (λb=>?_) (λe=>?_) (by simp[gU]) (bW (λ_=>rfl) _) (bW (λ_=>rfl) _)
 ·simp only[length_map];refine Ctr.bd func138 ntmps138 λhp=>?_;have hup:=bJ oB l k;refine vU1 ?_;refine AW.lJ [1,5] [0] (λm xs o=>∃i:Nat,xs=[.aa (mkc gp l k i),.aa i]/\o=[(b,some (((mkp gp l k i).map (bg true)).flatMap AV.cells))]/\m=l.length - i/\i<=l.length) l.length [(b,some ((l.map (bg true)).flatMap AV.cells))] (aE rfl) ⟨0,rfl,?_,rfl,?_⟩ ?_
  ·rw[jd]
  ·omega
  rintro m xs o ⟨i,rfl,rfl,rfl,hi⟩;have h1:=ke (dW oB) l k i
  have h2:=eZ (dW oB) l k i;refine vK1 ?_;refine AW.c (λh=>?_) λh=>?_
  ·have h3:=eZ (dW oB) l k (i+1);rw[lS h];rw[dI h]at h3;have hpre:=j1 (e:=bg true) (f:=gp) (sz:=2) (k:=k) (λ_=>rfl) hi
   have hpost:(((l.drop (i+1)).map (bg true)).flatMap AV.cells).length=(l.length - (i+1)) * 2:=by
    rw[ld (e:=bg true) (sz:=2) (λ_=>rfl),length_drop]
   have hnx:=je (e:=bg true) (f:=gp) (k:=k) h;generalize mkb (bg true) gp l k i=pre at hpre hnx ⊢;generalize ((l.drop (i+1)).map (bg true)).flatMap AV.cells=post at hnx hpost ⊢;generalize e1:at_ l i=x at *;generalize e2:mkc gp l k i=c at *;refine AW.imp (Imp.rI (b:=b) pre [_,_] post (eM _ _ _) λhs=>?_);refine gS ?_;have g0:=bJ oA x.cK (c+1);simp only[gp]at h3;refine vK1 ?_;refine Imp.rz (b:=b) pre [_,_] post (eM _ _ _) ?_;refine gS ?_;exact⟨_,[_,_],_,Um,⟨i+1,by rw[dI h,e1,e2];rfl,rfl,rfl,Um⟩,rfl,aE hnx⟩
  ·rw[jf h,j0 h]
   all_goals exact uU
 ·have:l=[]:=by simpa using e
  subst this;refine⟨?_,rfl⟩;refine Ctr.bd func138 ntmps138 λhp=>?_;refine vU1 ?_;refine AW.aw [] [0,1,5] (λm xs o=>xs=[]/\o=[]) 0 [] trivial ⟨rfl,rfl⟩ ?_;rintro m xs o ⟨rfl,rfl⟩
  (refine vU1 ?_;intro h)
  rfl
theorem zk:∀(n:Nat) (l:List aZ) (k:Int),fI lim prog 77 7 (l.map (aN true)) [.aa k] (.aa (mkL db l k).2) ((mkL db l k).1.map (aN true)) (SizeOf.sizeOf l<n/\0<=k/\(mkL db l k).2<=1099511627776)
 | 0,l,k=>⟨(aT 77),λh=>absurd h.1 (Nat.not_lt_zero _)⟩
 | n+1,l,k=>by
  have ih:=zk n;refine fI.of (aT 77) (λb=>?_) (λe=>?_) (by simp[gU]) (bW (λx=>by rw[dD];rfl) _) (bW (λx=>by rw[dD];rfl) _)
  ·simp only[length_map];refine Ctr.bd func77 ntmps77 λhp=>?_;have hup:=bJ jU l k;refine vU1 ?_;refine AW.lJ [1,5] [0] (λm xs o=>∃i:Nat,xs=[.aa (mkc db l k i),.aa i]/\o=[(b,some (((mkp db l k i).map (aN true)).flatMap AV.cells))]/\m=l.length - i/\i<=l.length) l.length [(b,some ((l.map (aN true)).flatMap AV.cells))] (aE rfl) ⟨0,rfl,?_,rfl,?_⟩ ?_
   ·rw[jd]
   ·omega
   rintro m xs o ⟨i,rfl,rfl,rfl,hi⟩;have h1:=ke (dW jU) l k i
   have h2:=eZ (dW jU) l k i;refine vK1 ?_;refine AW.c (λh=>?_) λh=>?_
   ·have h3:=eZ (dW jU) l k (i+1);rw[lS h];rw[dI h]at h3;have hpre:=j1 (e:=aN true) (f:=db) (sz:=7) (k:=k) (λx=>by rw[dD];rfl) hi
    have hpost:(((l.drop (i+1)).map (aN true)).flatMap AV.cells).length=(l.length - (i+1)) * 7:=by
     rw[ld (e:=aN true) (sz:=7) (λx=>by rw[dD];rfl),length_drop]
    have hnx:=je (e:=aN true) (f:=db) (k:=k) h
    have hkk:SizeOf.sizeOf (at_ l i).af<n:=by have:=aZ.dA (at_mem h);omega
    rw[sB]at hnx;generalize mkb (aN true) db l k i=pre at hpre hnx ⊢;generalize ((l.drop (i+1)).map (aN true)).flatMap AV.cells=post at hnx hpost ⊢;generalize e1:at_ l i=x at *;generalize e2:mkc db l k i=c at *;rw[dD];simp only[dD]at hnx;refine AW.imp (Imp.rI (b:=b) pre [_,_,_,_,_,_,_] post (eM _ _ _) λhs=>?_);refine gS ?_;have g0:=bJ oB x.aF.aW (c+1+1+1+1+1)
    have g1:=bJ jU x.af ((mkL gp x.aF.aW (c+1+1+1+1+1)).2);rw[sB]at h3;simp only at h3;refine vK1 ?_;refine Imp.rz (b:=b) pre [_,_,_,_,_,_,_] post (eM _ _ _) ?_;refine gS ?_;exact⟨_,[_,_],_,Um,⟨i+1,by rw[dI h,e1,e2,sB],rfl,rfl,Um⟩,rfl,aE hnx⟩
   ·rw[jf h,j0 h]
    all_goals exact uU
  ·have:l=[]:=by simpa using e
   subst this;refine⟨?_,rfl⟩;refine Ctr.bd func77 ntmps77 λhp=>?_;refine vU1 ?_;refine AW.aw [] [0,1,5] (λm xs o=>xs=[]/\o=[]) 0 [] trivial ⟨rfl,rfl⟩ ?_;rintro m xs o ⟨rfl,rfl⟩
   (refine vU1 ?_;intro h)
   rfl
instance(l:List aZ)(k:Int):fI lim prog 77 7 (l.map (aN true)) [.aa k] (.aa (mkL db l k).2) ((mkL db l k).1.map (aN true)) (0<=k/\(mkL db l k).2<=1099511627776):=⟨(aT 77),λh=>(zk (SizeOf.sizeOf l+1) l k).out ⟨Nat.lt_succ_self _,h⟩⟩
theorem wz:∀(n:Nat) (l:List ag) (k:Int),fI lim prog 21 19 (l.map (ak true)) [.aa k] (.aa (mkL bB l k).2) ((mkL bB l k).1.map (ak true)) (SizeOf.sizeOf l<n/\0<=k/\(mkL bB l k).2<=1099511627776)
 | 0,l,k=>⟨(aT 21),λh=>absurd h.1 (Nat.not_lt_zero _)⟩
 | n+1,l,k=>by
  have ih:=wz n;refine fI.of (aT 21) (λb=>?_) (λe=>?_) (by simp[gU]) (bW (λx=>by rw[dC];rfl) _) (bW (λx=>by rw[dC];rfl) _)
  ·simp only[length_map];refine Ctr.bd func21 ntmps21 λhp=>?_;have hup:=bJ jT l k;refine vU1 ?_;refine AW.lJ [1,5] [0] (λm xs o=>∃i:Nat,xs=[.aa (mkc bB l k i),.aa i]/\o=[(b,some (((mkp bB l k i).map (ak true)).flatMap AV.cells))]/\m=l.length - i/\i<=l.length) l.length [(b,some ((l.map (ak true)).flatMap AV.cells))] (aE rfl) ⟨0,rfl,?_,rfl,?_⟩ ?_
   ·rw[jd]
   ·omega
   rintro m xs o ⟨i,rfl,rfl,rfl,hi⟩;have h1:=ke (dW jT) l k i
   have h2:=eZ (dW jT) l k i;refine vK1 ?_;refine AW.c (λh=>?_) λh=>?_
   ·have h3:=eZ (dW jT) l k (i+1);rw[lS h];rw[dI h]at h3;have hpre:=j1 (e:=ak true) (f:=bB) (sz:=19) (k:=k) (λx=>by rw[dC];rfl) hi
    have hpost:(((l.drop (i+1)).map (ak true)).flatMap AV.cells).length=(l.length - (i+1)) * 19:=by
     rw[ld (e:=ak true) (sz:=19) (λx=>by rw[dC];rfl),length_drop]
    have hnx:=je (e:=ak true) (f:=bB) (k:=k) h
    have hkk:SizeOf.sizeOf (at_ l i).af<n:=by have:=ag.dA (at_mem h);omega
    rw[pS]at hnx;generalize mkb (ak true) bB l k i=pre at hpre hnx ⊢;generalize ((l.drop (i+1)).map (ak true)).flatMap AV.cells=post at hnx hpost ⊢;generalize e1:at_ l i=x at *;generalize e2:mkc bB l k i=c at *;rw[dC];simp only[dC]at hnx;refine AW.imp (Imp.rI (b:=b) pre [_,_,_,_,_,_,_,_,_,_,_,_,_,_,_,_,_,_,_] post (eM _ _ _) λhs=>?_);refine gS ?_;have g0:=bJ kW x.fType.ay (c+1+1+1)
    have g1:=bJ iJ x.fType.aB ((mkL bq x.fType.ay (c+1+1+1)).2)
    have g2:=bJ iJ x.ax ((mkL aA x.fType.aB ((mkL bq x.fType.ay (c+1+1+1)).2)).2+1+1)
    have g3:=bJ iJ x.aH ((mkL aA x.ax ((mkL aA x.fType.aB ((mkL bq x.fType.ay (c+1+1+1)).2)).2+1+1)).2)
    have g4:=bJ jU x.bP ((mkL aA x.aH ((mkL aA x.ax ((mkL aA x.fType.aB ((mkL bq x.fType.ay (c+1+1+1)).2)).2+1+1)).2)).2+1+1+1+1+1+1+1)
    have g5:=bJ jU x.cE ((mkL db x.bP ((mkL aA x.aH ((mkL aA x.ax ((mkL aA x.fType.aB ((mkL bq x.fType.ay (c+1+1+1)).2)).2+1+1)).2)).2+1+1+1+1+1+1+1)).2)
    have g6:=bJ jT x.af ((mkL db x.cE ((mkL db x.bP ((mkL aA x.aH ((mkL aA x.ax ((mkL aA x.fType.aB ((mkL bq x.fType.ay (c+1+1+1)).2)).2+1+1)).2)).2+1+1+1+1+1+1+1)).2)).2);rw[pS]at h3;simp only at h3;refine vK1 ?_;refine Imp.rz (b:=b) pre [_,_,_,_,_,_,_,_,_,_,_,_,_,_,_,_,_,_,_] post (eM _ _ _) ?_;refine gS ?_;exact⟨_,[_,_],_,Um,⟨i+1,by rw[dI h,e1,e2,pS],rfl,rfl,Um⟩,rfl,aE hnx⟩
   ·rw[jf h,j0 h]
    all_goals exact uU
  ·have:l=[]:=by simpa using e
   subst this;refine⟨?_,rfl⟩;refine Ctr.bd func21 ntmps21 λhp=>?_;refine vU1 ?_;refine AW.aw [] [0,1,5] (λm xs o=>xs=[]/\o=[]) 0 [] trivial ⟨rfl,rfl⟩ ?_;rintro m xs o ⟨rfl,rfl⟩
   (refine vU1 ?_;intro h)
   rfl
instance(l:List ag)(k:Int):fI lim prog 21 19 (l.map (ak true)) [.aa k] (.aa (mkL bB l k).2) ((mkL bB l k).1.map (ak true)) (0<=k/\(mkL bB l k).2<=1099511627776):=⟨(aT 21),λh=>(wz (SizeOf.sizeOf l+1) l k).out ⟨Nat.lt_succ_self _,h⟩⟩
theorem zj:∀(n:Nat) (l:List ah) (k:Int),fI lim prog 23 3 (l.map (ai true)) [.aa k] (.aa (mkL aM l k).2) ((mkL aM l k).1.map (ai true)) (SizeOf.sizeOf l<n/\0<=k/\(mkL aM l k).2<=1099511627776)
 | 0,l,k=>⟨(aT 23),λh=>absurd h.1 (Nat.not_lt_zero _)⟩
 | n+1,l,k=>by
  have ih:=zj n;refine fI.of (aT 23) (λb=>?_) (λe=>?_) (by simp[gU]) (bW (λx=>by rw[bO];rfl) _) (bW (λx=>by rw[bO];rfl) _)
  ·simp only[length_map];refine Ctr.bd func23 ntmps23 λhp=>?_;have hup:=bJ dL l k;refine vU1 ?_;refine AW.lJ [1,5] [0] (λm xs o=>∃i:Nat,xs=[.aa (mkc aM l k i),.aa i]/\o=[(b,some (((mkp aM l k i).map (ai true)).flatMap AV.cells))]/\m=l.length - i/\i<=l.length) l.length [(b,some ((l.map (ai true)).flatMap AV.cells))] (aE rfl) ⟨0,rfl,?_,rfl,?_⟩ ?_
   ·rw[jd]
   ·omega
   rintro m xs o ⟨i,rfl,rfl,rfl,hi⟩;have h1:=ke (dW dL) l k i
   have h2:=eZ (dW dL) l k i;refine vK1 ?_;refine AW.c (λh=>?_) λh=>?_
   ·have h3:=eZ (dW dL) l k (i+1);rw[lS h];rw[dI h]at h3;have hpre:=j1 (e:=ai true) (f:=aM) (sz:=3) (k:=k) (λx=>by rw[bO];rfl) hi
    have hpost:(((l.drop (i+1)).map (ai true)).flatMap AV.cells).length=(l.length - (i+1)) * 3:=by
     rw[ld (e:=ai true) (sz:=3) (λx=>by rw[bO];rfl),length_drop]
    have hnx:=je (e:=ai true) (f:=aM) (k:=k) h
    have hkk:SizeOf.sizeOf (at_ l i).af<n:=by have:=ah.dA (at_mem h);omega
    rw[oC]at hnx;generalize mkb (ai true) aM l k i=pre at hpre hnx ⊢;generalize ((l.drop (i+1)).map (ai true)).flatMap AV.cells=post at hnx hpost ⊢;generalize e1:at_ l i=x at *;generalize e2:mkc aM l k i=c at *;rw[bO];simp only[bO]at hnx;refine AW.imp (Imp.rI (b:=b) pre [_,_,_] post (eM _ _ _) λhs=>?_);refine gS ?_;have g0:=bJ dL x.af (c+1+1);rw[oC]at h3;simp only at h3;refine vK1 ?_;refine Imp.rz (b:=b) pre [_,_,_] post (eM _ _ _) ?_;refine gS ?_;exact⟨_,[_,_],_,Um,⟨i+1,by rw[dI h,e1,e2,oC],rfl,rfl,Um⟩,rfl,aE hnx⟩
   ·rw[jf h,j0 h]
    all_goals exact uU
  ·have:l=[]:=by simpa using e
   subst this;refine⟨?_,rfl⟩;refine Ctr.bd func23 ntmps23 λhp=>?_;refine vU1 ?_;refine AW.aw [] [0,1,5] (λm xs o=>xs=[]/\o=[]) 0 [] trivial ⟨rfl,rfl⟩ ?_;rintro m xs o ⟨rfl,rfl⟩
   (refine vU1 ?_;intro h)
   rfl
instance(l:List ah)(k:Int):fI lim prog 23 3 (l.map (ai true)) [.aa k] (.aa (mkL aM l k).2) ((mkL aM l k).1.map (ai true)) (0<=k/\(mkL aM l k).2<=1099511627776):=⟨(aT 23),λh=>(zj (SizeOf.sizeOf l+1) l k).out ⟨Nat.lt_succ_self _,h⟩⟩
theorem zn:∀(n:Nat) (l:List ah) (k:Int),Ctr lim prog 24 [] [.sl false 3 ((mkL aM l k).1.map (ai false)),.aa k] (.aa (mkL aM l k).2) [] (SizeOf.sizeOf l<n/\0<=k/\(mkL aM l k).2<=1099511627776)
 | 0,l,k=>⟨(aT 24),λh=>absurd h.1 (Nat.not_lt_zero _)⟩
 | n+1,l,k=>by
  have ih:=zn n;refine Ctr.bd func24 ntmps24 λhp=>?_;have hup:=bJ dL l k
  have hml:=gU (f:=aM) l k;refine vU1 ?_;refine AW.aw [1,5] [0] (λm xs o=>∃i:Nat,xs=[.aa (mkc aM l k i),.aa i]/\o=[]/\m=l.length - i/\i<=l.length) l.length [] trivial ⟨0,rfl,rfl,rfl,?_⟩ ?_
  ·omega
  rintro m xs o ⟨i,rfl,rfl,rfl,hi⟩;have h1:=ke (dW dL) l k i
  have h2:=eZ (dW dL) l k i;refine vK1 ?_;refine AW.c (λh=>?_) λh=>?_
  ·rw[hml]at h;have h3:=eZ (dW dL) l k (i+1)
   have hat:=ML (f:=aM) (k:=k) h;rw[dI h]at h3;have hlt:=h
   have hkk:SizeOf.sizeOf (at_ l i).af<n:=by have:=ah.dA (at_mem h);omega
   rw[oC]at h3 hat;simp only at h3 hat;have g0:=bJ dL (at_ l i).af ((mkc aM l k i)+1+1)
   have acg:(at_ (mkL aM l k).1 i).ae=mkT ((mkc aM l k i)):=by rw[hat];rfl
   have rP:(at_ (mkL aM l k).1 i).aq=mkT ((mkc aM l k i)+1):=by rw[hat];rfl
   have C5:(at_ (mkL aM l k).1 i).af=(mkL aM (at_ l i).af ((mkc aM l k i)+1+1)).1:=by rw[hat];rfl
   (repeat' first|(with_reducible first|refine Z ?_|refine Y ?_|(refine hK _ _ ?_;clear hK K)|refine And.intro ?_ ?_|exact Ct|intro(K:_->_->Prop) hK|(refine gI λhg=>?_;try simp only[hC,reduceCtorEq]at hg;try simp only[hg]))|(refine AW.i rfl (λh=>?_) (λh=>?_)<;>try simp only[hC,reduceCtorEq]at h)|((with_reducible refine E ?_;repeat refine Y ?_);refine eF rfl ?_)|simp(disch:=omega)only[go_sem,acg,rP,C5,beq_self_eq_true,bne_self_eq_false,Bool.not_true]|(with_reducible intro hg;try simp only[hC,reduceCtorEq]at hg)|exact Cl|fail)
   exact⟨_,[_,_],[],Um,⟨i+1,by rw[dI hlt,oC],rfl,rfl,Um⟩,rfl,trivial⟩
  ·rw[hml]at h;rw[jf h]
   all_goals exact uU
instance(l:List ah)(k:Int):Ctr lim prog 24 [] [.sl false 3 ((mkL aM l k).1.map (ai false)),.aa k] (.aa (mkL aM l k).2) [] (0<=k/\(mkL aM l k).2<=1099511627776):=⟨(aT 24),λh=>(zn (SizeOf.sizeOf l+1) l k).out ⟨Nat.lt_succ_self _,h⟩⟩
