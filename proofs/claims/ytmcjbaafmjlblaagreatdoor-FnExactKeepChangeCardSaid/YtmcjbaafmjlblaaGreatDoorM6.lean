/- A part. -/
import Derived.Lay
import Derived.MakeChecks
import Derived.Test.YtmcjbaafmjlblaaGreatDoorJ43
import Derived.Test.YtmcjbaafmjlblaaGreatDoorJ42
set_option linter.all false
set_option maxRecDepth 20000
set_option maxHeartbeats 4000000
namespace Go.Proofs
open Go.Ab Go.Dt
section
attribute [-instance] F4 Ji cPf
theorem xl:∀ (n:Nat) (l:List au) (k:Int),fS lim Tryz.prog 20 4 (l.map (aH true)) [.v (.int .i64 k)] (.v (.int .i64 (mkL cf l k).2)) ((mkL cf l k).1.map (aH true)) (SizeOf.sizeOf l<n/\0<=k/\(mkL cf l k).2<=1099511627776)
 | 0,l,k=>⟨(aM 20),fun h=>absurd h.1 (Nat.not_lt_zero _)⟩
 | n+1,l,k=>by
  have ih:=xl n
  refine fS.of (aM 20) (fun b=>?_) (fun e=>?_) (by simp [gB]) (bB (fun x=>by rw [bS];rfl) _) (bB (fun x=>by rw [bS];rfl) _)
  ·simp only [List.length_map]
   refine Ctr.bd Tryz.func20 Tryz.ntmps20 rfl rfl fun hp=>?_
   have hup:=bG eT l k
   (refine vU ?_;with_reducible repeat' first|exact Le.l|apply Sw|intro h)
   refine AW.iA [1,5] [0] (fun m xs o=>∃ i:Nat,xs=[.v (.int .i64 (mkc cf l k i)),.v (.int .i64 i)]/\o=[(b,some (((mkp cf l k i).map (aH true)).flatMap AV.cells))]/\m=l.length - i/\i<=l.length) l.length [(b,some ((l.map (aH true)).flatMap AV.cells))] (bw rfl) ⟨0,rfl,?_,rfl,?_⟩ ?_
   ·rw [jL]
   ·omega
   rintro m xs o ⟨i,rfl,rfl,rfl,hi⟩
   have h1:=jV (dV eT) l k i
   have h2:=eV (dV eT) l k i
   refine vO ?_;intros;refine AW.c (fun h=>?_) fun h=>?_
   ·have h3:=eV (dV eT) l k (i+1)
    rw [l8 h]
    rw [dD h] at h3
    have hpre:=kG (e:=aH true) (f:=cf) (sz:=4) (k:=k) (fun x=>by rw [bS];rfl) hi
    have hpost:(((l.drop (i+1)).map (aH true)).flatMap AV.cells).length=(l.length - (i+1)) * 4:=by
     rw [lq (e:=aH true) (sz:=4) (fun x=>by rw [bS];rfl),List.length_drop]
    have hnx:=jM (e:=aH true) (f:=cf) (k:=k) h
    have hkk:SizeOf.sizeOf (at_ l i).af<n:=by have:=au.cd (at_mem h);omega
    rw [mK] at hnx
    generalize mkb (aH true) cf l k i=pre at hpre hnx ⊢
    generalize ((l.drop (i+1)).map (aH true)).flatMap AV.cells=post at hnx hpost ⊢
    generalize e1:at_ l i=x at *
    generalize e2:mkc cf l k i=c at *
    rw [bS]
    simp only [bS] at hnx
    refine AW.imp (Imp.sO (b:=b) pre [_,_,_,_] post (eQ _ _ _) fun hs=>?_)
    simp (maxSteps:=2000000) (disch:=omega) only [go_sem]
    have g0:=bG eT x.af (c+1+1+1)
    rw [mK] at h3;simp only at h3
    (refine vK ?_;with_reducible repeat' first|exact Le.l|apply Sw|intro h)
    refine Imp.uf (b:=b) pre [_,_,_,_] post (eQ _ _ _) ?_
    simp (maxSteps:=2000000) (disch:=omega) only [go_sem]
    exact ⟨_,[_,_],_,by omega,⟨i+1,by rw [dD h,e1,e2,mK],rfl,rfl,by omega⟩,rfl,bw hnx⟩
   ·rw [iW h,kF h]
    all_goals exact uU
  ·have:l=[]:=by simpa using e
   subst this
   refine ⟨?_,rfl⟩
   refine Ctr.bd Tryz.func20 Tryz.ntmps20 rfl rfl fun hp=>?_
   (refine vU ?_;with_reducible repeat' first|exact Le.l|apply Sw|intro h)
   refine AW.aA [] [0,1,5] (fun m xs o=>xs=[]/\o=[]) 0 [] trivial ⟨rfl,rfl⟩ ?_
   rintro m xs o ⟨rfl,rfl⟩
   (refine vU ?_;with_reducible repeat' first|exact Le.l|apply Sw|intro h)
   rfl
instance SL(l:List au)(k:Int):fS lim Tryz.prog 20 4 (l.map (aH true)) [.v (.int .i64 k)] (.v (.int .i64 (mkL cf l k).2)) ((mkL cf l k).1.map (aH true)) (0<=k/\(mkL cf l k).2<=1099511627776):=⟨(aM 20),fun h=>(xl (SizeOf.sizeOf l+1) l k).out ⟨Nat.lt_succ_self _,h⟩⟩
theorem xo:∀ (n:Nat) (l:List au) (k:Int),Ctr lim Tryz.prog 21 [] [.sl false 4 ((mkL cf l k).1.map (aH false)),.v (.int .i64 k)] (.v (.int .i64 (mkL cf l k).2)) [] (SizeOf.sizeOf l<n/\0<=k/\(mkL cf l k).2<=1099511627776)
 | 0,l,k=>⟨(aM 21),fun h=>absurd h.1 (Nat.not_lt_zero _)⟩
 | n+1,l,k=>by
  have ih:=xo n
  refine Ctr.bd Tryz.func21 Tryz.ntmps21 rfl rfl fun hp=>?_
  have hup:=bG eT l k
  have hml:=gB (f:=cf) l k
  (refine vU ?_;with_reducible repeat' first|exact Le.l|apply Sw|intro h)
  refine AW.aA [1,5] [0] (fun m xs o=>∃ i:Nat,xs=[.v (.int .i64 (mkc cf l k i)),.v (.int .i64 i)]/\o=[]/\m=l.length - i/\i<=l.length) l.length [] trivial ⟨0,rfl,rfl,rfl,?_⟩ ?_
  ·omega
  rintro m xs o ⟨i,rfl,rfl,rfl,hi⟩
  have h1:=jV (dV eT) l k i
  have h2:=eV (dV eT) l k i
  refine vO ?_;intros;refine AW.c (fun h=>?_) fun h=>?_
  ·rw [hml] at h
   have h3:=eV (dV eT) l k (i+1)
   have hat:=DW (f:=cf) (k:=k) h
   rw [dD h] at h3
   have hlt:=h
   have hkk:SizeOf.sizeOf (at_ l i).af<n:=by have:=au.cd (at_mem h);omega
   rw [mK] at h3 hat
   simp only at h3 hat
   have g0:=bG eT (at_ l i).af ((mkc cf l k i)+1+1+1)
   have MT:(at_ (mkL cf l k).1 i).fOp=(mkc cf l k i):=by rw [hat];rfl
   have nO:(at_ (mkL cf l k).1 i).ae=mkT ((mkc cf l k i)+1):=by rw [hat];rfl
   have vl:(at_ (mkL cf l k).1 i).av=mkT ((mkc cf l k i)+1+1):=by rw [hat];rfl
   have Xc:(at_ (mkL cf l k).1 i).af=(mkL cf (at_ l i).af ((mkc cf l k i)+1+1+1)).1:=by rw [hat];rfl
   (repeat' first|(with_reducible first|refine Z ?_|refine Y ?_|(refine hK _ _ ?_;clear hK K)|refine And.intro ?_ ?_|exact Ct|intro (K:_->_->Prop) hK|(refine gI fun hg=>?_;try simp only [hC,reduceCtorEq] at hg;try simp only [hg]))|(refine AW.i rfl (fun h=>?_) (fun h=>?_)<;>try simp only [hC,reduceCtorEq] at h)|((with_reducible refine E ?_;repeat refine Y ?_);refine eF rfl ?_)|simp (disch:=omega) only [go_sem,MT,nO,vl,Xc,beq_self_eq_true,bne_self_eq_false,Bool.not_true]|(with_reducible intro hg;try simp only [hC,reduceCtorEq] at hg)|exact Cl|fail)
   exact ⟨_,[_,_],[],by omega,⟨i+1,by rw [dD hlt,mK],rfl,rfl,by omega⟩,rfl,trivial⟩
  ·rw [hml] at h
   rw [iW h]
   all_goals exact uU
instance SV(l:List au)(k:Int):Ctr lim Tryz.prog 21 [] [.sl false 4 ((mkL cf l k).1.map (aH false)),.v (.int .i64 k)] (.v (.int .i64 (mkL cf l k).2)) [] (0<=k/\(mkL cf l k).2<=1099511627776):=⟨(aM 21),fun h=>(xo (SizeOf.sizeOf l+1) l k).out ⟨Nat.lt_succ_self _,h⟩⟩
end
section
attribute [local go_sem] bD ba aI aS gf ub vz vw gV gU Xr VG
end
section
theorem OC(cs:List Str):List.drop (Int.toNat 1) (List.take cs.length (cs.map AV.str))=(cs.drop 1).map AV.str:=by
 rw [List.take_of_length_le (by simp),List.map_drop];rfl
attribute [local go_sem] ba aI aS cU cT dy fZ gH OC
end
section
attribute [local go_sem] ba aI aS
end
section
theorem E0(x:au):(aH true x).closed=true:=by
 rw [bS]
 simp only [AV.closed,AV.ck,dz x.af (fun y hy=>E0 y),Bool.true_and,Bool.and_true]
termination_by SizeOf.sizeOf x
decreasing_by have:=List.sizeOf_lt_of_mem hy;cases x;simp [au.af] at *;omega
theorem jz(l:List au):AV.ck (l.map (aH true))=true:=dz l fun x _=>E0 x
attribute [local go_sem] bD ba aI aS gf vz vw gV gU jz
end
end Go.Proofs
namespace Go.Ab
end Go.Ab
namespace Go.Ab
open Go.Dt
theorem qp{P:Program}{W:World}{name:String}{k:IntKind}{zs:List Int}{g:Nat}{t e:TypeId}{n:Nat}
  (hg:P.globalNamed name=some g) (hty:(P.globals[g]?).map (·.type)=some t) (ht:P.underlying t=some (.array n e)) (he:P.underlying e=some (.int k)) (hce:P.cellsOf e=1) (hct:P.cellsOf t=n) :
  ∀ {l:List (String×DataW Unit)} {ps:List MemPlace},(name,Lib.tabData k zs)∈l->DataW.LaidVars P W l ps->Lib.TabIs P W name k zs
 | [],_,hm,_=>by cases hm
 | (nm,d)::r,ps,hm,h=>by
  obtain ⟨g',t',cs,fuel,p,q,hg',ht',hvar,hd,hr,_⟩:=h
  rcases List.mem_cons.1 hm with e1|hm
  ·obtain ⟨rfl,rfl⟩:=Prod.mk.inj e1
   obtain rfl:=Option.some.inj (hg.symm.trans hg')
   obtain rfl:=Option.some.inj (hty.symm.trans ht')
   unfold Lib.TabIs
   rw [hvar,<- Lib.cells_of_tab ht he hce hct hd]
  ·exact qp hg hty ht he hce hct hm hr
theorem ym{P:Program}{os:Os}{laid:List (String×DataW Unit)}(args:Array Value)(hp:(laid.all fun x=>x.2.handleName?.isNone)=true)
  (hf:(World.holding P os ⟨#[],#[],[]⟩).layFits P laid []=true)
  (hi:(World.holding P os ⟨#[],#[],[]⟩).layIfaces P laid (World.laidAll P os laid)=true) :
  laidMetH P laid ((World.laidAll P os laid).forCall (fun _ _=>0) ⟨#[],args,[]⟩).memory:=by
 rw [MakeChecks.laidMetH_plain _ _ _ hp];exact laidMet_laidAll args hf hi
end Go.Ab
