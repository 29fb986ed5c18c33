/- Part of a proof. -/
import Derived.Test.YtpelkkfkecfmbaaGreatDoorH36
set_option linter.all false
set_option maxRecDepth 20000
set_option maxHeartbeats 4000000
open Go.Proofs.Tryz
namespace Go.Dt
open Go Go.Ab
def sW{l:List bt}{i:Nat}{bad:Bool}(h:bad=true\/l.length<=i):nA l i bad=⟨0,[],0⟩:=by
 rw [nA,if_neg];rintro ⟨h1,h2⟩;rcases h with h|h
 ·rw [h1] at h;cases h
 ·omega
def yX{l:List bt}{i:Nat}{bad:Bool}(h:bad=false)(h2:i<l.length):nA l i bad=at_ l i:=by rw [nA,if_pos ⟨h,h2⟩]
def atT(l:List bt)(k:Int)(t:Str)(i:Nat)(bad:Bool):Bool:=isK l k i bad && (t == [] || (nA l i bad).t == t)
def WM{l:List bt}{k:Int}{t:Str}{i:Nat}{bad:Bool}(hk:¬ k=0):(!bad && decide (i<l.length) && (at_ l i).k == k && (t == [] || (at_ l i).t == t))=atT l k t i bad:=by
 rw [atT,isK];by_cases h:bad=false/\i<l.length
 ·rw [yX h.1 h.2,h.1,decide_eq_true h.2];simp [fC]
 ·rw [sW (by cases bad with|true=>exact .inl rfl|false=>exact .inr (Nat.le_of_not_lt fun e=>h ⟨rfl,e⟩))]
  have:(!bad && decide (i<l.length))=false:=by
   cases bad with
   | true=>rfl
   | false=>rw [decide_eq_false (fun e=>h ⟨rfl,e⟩)];rfl
  rw [this,decide_eq_false (show ¬ (0:Int)=k by omega)];rfl
def WL{l:List bt}{t:Str}{i:Nat}{bad:Bool}(h:¬ t=[]):atT l 4 t i bad=isT l 4 t i bad:=by rw [atT,isT,isK,beq_eq_false_iff_ne.2 h,Bool.false_or]
def C5{l:List bt}{k:Int}{i:Nat}{bad:Bool}:atT l k [] i bad=isK l k i bad:=by simp [atT]
end Go.Dt
namespace Go.Proofs
open Go.Ab Go.Dt
attribute [go_sem] vP yV DQ
instance aat(b:Nat)(l:List bt)(i:Nat)(bad:Bool):Ctr lim prog 276 [(b,some [.sl false 3 (l.map aJ),.aa i,.ac bad])] [.ptr b 0] (.agg [.aa (nA l i bad).k,.str (nA l i bad).t,.aa (nA l i bad).a]) [some [.sl false 3 (l.map aJ),.aa i,.ac bad]] True:=by
 refine Ctr.bd func276 ntmps276 fun hp=>?_;have gOn:=aD.on
 (refine vU2 ?_ ?_<;>with_reducible repeat intro h)
 ·rw [sW h];rfl
 ·rw [yX h.1 Ir]
instance adb(b:Nat)(l:List bt)(i:Nat)(bad:Bool)(k:Int)(t:Str):Ctr lim prog 317 [(b,some [.sl false 3 (l.map aJ),.aa i,.ac bad])] [.ptr b 0,.aa k,.str t] (.ac (isT l k t i bad)) [some [.sl false 3 (l.map aJ),.aa i,.ac bad]] True:=by
 refine Ctr.bd func317 ntmps317 fun hp=>?_;have gOn:=aD.on
 (refine vU1 ?_;intro h h)
 rfl
instance aax(b:Nat)(l:List bt)(i:Nat)(bad:Bool)(t:Str):Ctr lim prog 278 [(b,some [.sl false 3 (l.map aJ),.aa i,.ac bad])] [.ptr b 0,.str t] (.ac (isT l 4 t i bad)) [some [.sl false 3 (l.map aJ),.aa i,.ac bad]] True:=by
 refine Ctr.bd func278 ntmps278 fun hp=>?_
 all_goals exact uU
instance aar(b:Nat)(l:List bt)(i:Nat)(bad:Bool)(t:Str):Ctr lim prog 275 [(b,some [.sl false 3 (l.map aJ),.aa i,.ac bad])] [.ptr b 0,.str t] (.ac (isT l 4 t i bad)) [some [.sl false 3 (l.map aJ),.aa (mI l t i bad:Nat),.ac bad]] (l.length<=1099511627776):=by
 refine Ctr.bd func275 ntmps275 fun hp=>?_;have gOn:=aD.on
 have hlt:=fun h=>gQ (l:=l) (k:=4) (t:=t) (i:=i) (bad:=bad) baa h
 (refine vU4 ?_ ?_ ?_ ?_<;>with_reducible repeat intro h)
 ·rw [h]
 ·rw [mI,h];rfl
 ·rw [h]
 ·have:=hlt h;rw [mI,h,wrap_i64 Ir Ir];rfl
instance aaw(b:Nat)(l:List bt)(i:Nat)(bad:Bool)(t:Str):Ctr lim prog 316 [(b,some [.sl false 3 (l.map aJ),.aa i,.ac bad])] [.ptr b 0,.str t] (.tup []) [some [.sl false 3 (l.map aJ),.aa (mI l t i bad:Nat),.ac (mB l t i bad)]] (l.length<=1099511627776):=by
 refine Ctr.bd func316 ntmps316 fun hp=>?_;have gOn:=aD.on
 (refine vU2 ?_ ?_<;>with_reducible repeat intro h)
 ·rw [mB,h];simp
 ·rw [mB,h];simp
instance aaq(b:Nat)(l:List bt)(i:Nat)(bad:Bool)(k:Int):Ctr lim prog 315 [(b,some [.sl false 3 (l.map aJ),.aa i,.ac bad])] [.ptr b 0,.aa k] (.str (kX l k i bad)) [some [.sl false 3 (l.map aJ),.aa (kI l k i bad:Nat),.ac (kB l k i bad)]] (l.length<=1099511627776/\0<k):=by
 refine Ctr.bd func315 ntmps315 fun hp=>?_;have gOn:=aD.on
 have hlt:=fun h=>Bo (l:=l) (k:=k) (i:=i) (bad:=bad) (show ¬ k=0 by omega) h
 (refine vU4 ?_ ?_ ?_ ?_<;>with_reducible repeat intro h)
 ·rw [kX,isK,decide_eq_false h];rfl
 ·rw [kI,kB,isK,decide_eq_false h];simp [adv]
 ·rw [kX,isK,decide_eq_true h];rfl
 ·have:=hlt (decide_eq_true h);rw [kI,kB,isK,decide_eq_true h,wrap_i64 Ir Ir];simp [adv]
instance ac9(b:Nat)(l:List bt)(i:Nat)(bad:Bool)(op k:Int)(t:Str):Ctr lim prog 259 [(b,some [.sl false 3 (l.map aJ),.aa i,.ac bad,.aa op])] [.ptr b 0,.aa k,.str t] (.ac (atT l k t i bad)) [some [.sl false 3 (l.map aJ),.aa i,.ac bad,.aa op]] (0<k):=by refine Ctr.bd func259 ntmps259 fun hp=>?_;have gOn:=aD.on;refine vU1 ?_;rw [WM Ir]
instance ac8(b:Nat)(l:List bt)(i:Nat)(bad:Bool)(op:Int)(t:Str):Ctr lim prog 303 [(b,some [.sl false 3 (l.map aJ),.aa i,.ac bad,.aa op])] [.ptr b 0,.str t] (.ac (isT l 4 t i bad)) [some [.sl false 3 (l.map aJ),.aa i,.ac bad,.aa op]] (t.isEmpty=false):=by
 refine Ctr.bd func303 ntmps303 fun hp=>?_;have gOn:=aD.on
 have e:=WL (l:=l) (i:=i) (bad:=bad) (t:=t) (by intro e;rw [e] at hp;cases hp);refine vU1 ?_;rw [e]
instance acg(b:Nat)(l:List bt)(i:Nat)(bad:Bool)(op:Int)(t:Str):Ctr lim prog 258 [(b,some [.sl false 3 (l.map aJ),.aa i,.ac bad,.aa op])] [.ptr b 0,.str t] (.ac (isT l 4 t i bad)) [some [.sl false 3 (l.map aJ),.aa (mI l t i bad:Nat),.ac bad,.aa op]] (t.isEmpty=false/\l.length<=1099511627776):=by
 refine Ctr.bd func258 ntmps258 fun hp=>?_;have gOn:=aD.on
 have hlt:=fun h=>gQ (l:=l) (k:=4) (t:=t) (i:=i) (bad:=bad) baa h
 (refine vU4 ?_ ?_ ?_ ?_<;>with_reducible repeat intro h)
 ·rw [h]
 ·have:=hlt h;rw [mI,h,wrap_i64 Ir Ir];rfl
 ·rw [h]
 ·rw [mI,h];rfl
instance aao(b:Nat)(l:List bt)(i:Nat)(bad:Bool)(op:Int)(t:Str):Ctr lim prog 261 [(b,some [.sl false 3 (l.map aJ),.aa i,.ac bad,.aa op])] [.ptr b 0,.str t] (.tup []) [some [.sl false 3 (l.map aJ),.aa (mI l t i bad:Nat),.ac (mB l t i bad),.aa op]] (t.isEmpty=false/\l.length<=1099511627776):=by
 refine Ctr.bd func261 ntmps261 fun hp=>?_;have gOn:=aD.on
 (refine vU2 ?_ ?_<;>with_reducible repeat intro h)
 ·rw [mB,h];simp
 ·rw [mB,h];simp
instance aap(b:Nat)(l:List bt)(i:Nat)(bad:Bool)(op k:Int):Ctr lim prog 260 [(b,some [.sl false 3 (l.map aJ),.aa i,.ac bad,.aa op])] [.ptr b 0,.aa k] (.str (kX l k i bad)) [some [.sl false 3 (l.map aJ),.aa (kI l k i bad:Nat),.ac (kB l k i bad),.aa op]] (l.length<=1099511627776/\0<k):=by
 refine Ctr.bd func260 ntmps260 fun hp=>?_;have gOn:=aD.on
 have hlt:=fun h=>Bo (l:=l) (k:=k) (i:=i) (bad:=bad) (show ¬ k=0 by omega) h
 cases e:isK l k i bad with
 | true =>
  obtain ⟨h1,h2⟩:=hlt e;have e2:atT l k [] i bad=true:=by rw [C5,e]
  (refine vP2 e2 ?_ ?_<;>with_reducible repeat first|intro (K:_->_->Prop) hK|intro h)
  ·rw [kX,e,yX h2 h1];rfl
  ·rw [kI,kB,e];simp [adv]
 | false =>
  have e2:atT l k [] i bad=false:=by rw [C5,e]
  (refine vP2 e2 ?_ ?_<;>with_reducible repeat first|intro (K:_->_->Prop) hK|intro h)
  ·rw [kX,e];rfl
  ·rw [kI,kB,e];simp [adv]
instance RT(b:Nat)(l:List bt)(i:Nat)(bad:Bool)(op:Int):Ctr lim prog 224 [(b,some [.sl false 3 (l.map aJ),.aa i,.ac bad,.aa op])] [.ptr b 0] (.ac (!bad && decide (i=l.length))) [some [.sl false 3 (l.map aJ),.aa i,.ac bad,.aa op]] True:=by refine Ctr.bd func224 ntmps224 fun hp=>?_;have gOn:=aD.on;refine vU1 ?_;rw [fC];simp only [Int.ofNat_inj]
instance O3(b:Nat)(l:List bt)(i:Nat)(bad:Bool):Ctr lim prog 240 [(b,some [.sl false 3 (l.map aJ),.aa i,.ac bad])] [.ptr b 0] (.ac (!bad && decide (i=l.length))) [some [.sl false 3 (l.map aJ),.aa i,.ac bad]] True:=by refine Ctr.bd func240 ntmps240 fun hp=>?_;have gOn:=aD.on;refine vU1 ?_;rw [fC];simp only [Int.ofNat_inj]
end Go.Proofs
namespace Go.Dt
open Go Go.Ab
def Da{l:List bt}{i:Nat}{b:Bool}{acc:List cu}(h:isT l 4 [91] i b=true):iI l i b acc=iI l (tsI l (i+1) b) (tsB l (i+1) b) (acc++[tsX l (i+1) b]):=by rw [iI,dif_pos h]
def yT{l:List bt}{i:Nat}{b:Bool}{acc:List cu}(h:isT l 4 [91] i b=false):iI l i b acc=(acc,i,b):=by rw [iI,dif_neg (by rw [h];simp)]
end Go.Dt
namespace Go.Proofs
open Go.Ab Go.Dt
instance aas(b:Nat)(l:List bt)(i:Nat)(bad:Bool):Ctr lim prog 277 [(b,some [.sl false 3 (l.map aJ),.aa i,.ac bad])] [.ptr b 0] (aA false (bp l i bad).1) [some [.sl false 3 (l.map aJ),.aa ((bp l i bad).2.1:Nat),.ac (bp l i bad).2.2]] (i<=l.length/\l.length<=1048576):=by
 refine Ctr.bd func277 ntmps277 fun hp=>?_;have gOn:=aD.on;obtain ⟨hi,hl⟩:=hp;have hs0:=Bl (l:=l) (k:=1) (bad:=bad) baa hi
 (refine vU1 ?_;intro h h h h)
 rename_i c _ a;obtain ⟨h1,h2⟩:=h;refine AW.imp (Imp.nG (b:=a) 2 [_] [] (fq _ _ _) ?_);refine gS ?_;refine AW.rF [] [0,2,3] (fun m xs o=>∃ (j:Nat) (bd:Bool) (acc:List cu),xs=[]/\o=[(a,some [.str (kX l 1 i bad),.sl true 2 (acc.map (ct true))]),(c,some [.str [],.v (.slice none 0 0)]),(b,some [.sl false 3 (l.map aJ),.aa j,.ac bd])]/\m=l.length - j/\j<=l.length/\acc.length<=j/\iI l j bd acc=iI l (kI l 1 i bad) (kB l 1 i bad) []) (l.length - kI l 1 i bad) [(a,some [.str (kX l 1 i bad),.sl true 2 []]),(c,some [.str [],.v (.slice none 0 0)]),(b,some [.sl false 3 (l.map aJ),.aa (kI l 1 i bad:Nat),.ac (kB l 1 i bad)])] gO ⟨_,_,[],rfl,rfl,rfl,hs0,Nat.zero_le _,rfl⟩ ?_;rintro m xs o ⟨j,bd,acc,rfl,rfl,rfl,hj,ha,hR⟩;have ht:=fun e=>gQ (l:=l) (k:=4) (t:=[91]) (i:=j) (bad:=bd) baa e;refine vK1 ?_;refine AW.c (fun h=>?_) fun h=>?_
 ·have e1:mI l [91] j bd=j+1:=by rw [mI,h];rfl
  have h9:=ht h
  have hR2:=(Da (acc:=acc) h).symm.trans hR
  have hge:=Af l (j+1) bd;rw [e1]
  (refine vU1 ?_;intro h h)
  refine Imp.id ?_;refine gS ?_;exact ⟨_,[],_,Ir,⟨tsI l (j+1) bd,tsB l (j+1) bd,acc++[tsX l (j+1) bd],rfl,rfl,rfl,E2 (show j+1<=l.length by omega),by rw [List.length_append,List.length_singleton];omega,hR2⟩,by rw [List.map_append];refine gS ?_;exact ⟨rfl,rfl⟩⟩
 ·refine AW.imp (Imp.dB (b:=a) (fq _ _ _) ?_);refine gS ?_;rw [yT h] at hR;have e2:bp l i bad=(⟨kX l 1 i bad,acc⟩,j,bd):=by rw [bp,<- hR]
  have e3:mI l [91] j bd=j:=by rw [mI,h];rfl
  rw [e2,e3];refine vU1 ?_;rw [qU]
instance sJ(b:Nat)(l:List bt)(i:Nat)(bad:Bool)(x:bP):Ctr lim prog 279 [(b,some [.sl false 3 (l.map aJ),.aa i,.ac bad])] [.ptr b 0,.agg [.ac x.bR,.aa x.bG,.sl false 2 (x.av.map (aA false))]] (.agg [.ac x.bR,.aa x.bG,.sl false 2 (x.av.map (aA false))]) [some [.sl false 3 (l.map aJ),.aa i,.ac (bad || !dQ x)]] True:=by
 refine Ctr.bd func279 ntmps279 fun hp=>?_;have gOn:=aD.on
 (refine vU2 ?_ ?_<;>with_reducible repeat intro h)
 ·rw [h];simp
 ·rw [h];simp
end Go.Proofs
namespace Go.Dt
section
variable {α : Type}
def Srt(lt:α->α->Bool)(l:List α):Prop:=l.Pairwise fun x y=>lt y x=false
structure Orr(lt:α->α->Bool):Prop where
 aeP:∀ x y,lt x y=true->lt y x=false
 trn:∀ x y z,lt y x=false->lt z y=false->lt z x=false
variable {lt : α -> α -> Bool}
def Part(lt:α->α->Bool)(a b:Nat)(l l':List α):Prop :=
 ∃ A X Z C,l=A++(X++C)/\l'=A++(Z++C)/\A.length=a/\A.length+X.length=b/\Z.Perm X/\Srt lt Z
def aek(lt:α->α->Bool)(a b:Nat)(l:List α):Prop:=Srt lt ((l.take b).drop a)
end
end Go.Dt
namespace Go.Ab
open Go.RowKit (Below)
section
variable {L : Nat -> Nat} {F : Nat -> Prop} {w : World}
def pfz:List AV->List Value->List AV
 | x::xs,v::vs=>(bif x.cW then x else .pin v x.frz)::pfz xs vs
 | _,_=>[]
def nod(l:List AV):Bool:=l.all fun x=>bif x.cW then x.det else true
end
def MD(t' t:daa):Prop:=∀ j,T t' j=.dead\/(T t' j=T t j/\∃ v,T t j=.v v)
def aeQ{α:Type}(n:Nat)(e1:α->List AV)(m:List (α×List Value))(sz:Nat)(Q:AS->Prop)(s':AS):Prop :=
 (∃ t',MD t' s'.t/\Q ⟨n,t',[]⟩) \/
 ∃ (r:Nat) (m':List (α×List Value)) (t':daa),m'.Perm m/\T s'.t r=.sl true sz (m'.map fun p=>.agg (pfz (e1 p.1) p.2.tail))/\MD t' s'.t/\Q ⟨n,(r,.sl true sz (m'.map fun p=>.agg (e1 p.1)))::t',[]⟩
def AW.jL{L:eaa}{P:Program}{n:Nat}{t:daa}{os:Sto}{Q:Exit->AS->Prop}{c:Code}{α:Type}(live:List Nat)(t0:α->daa)(o0:α->Sto)(R:α->Prop)
  (h1:AW L P c ⟨n,t,os⟩ (fun e s'=>Imp L s' fun s'=>(∃ x,R x/\e=.normal/\s'.n=n/\dP s'.t live=t0 x/\jk (o0 x) s'.o)\/(¬ e=.normal/\Q e s'))) (h2:∀ x,R x->Q .normal ⟨n,t0 x,o0 x⟩):AW L P c ⟨n,t,os⟩ Q:=by
 refine AW.post (h1.mono ?_);intro e s' h;refine Imp.bind h ?_;rintro ⟨n',t',o'⟩ (⟨x,hR,rfl,hn,hT,ho⟩|⟨_,h⟩)
 ·simp only at hn hT ho;subst hn;have:=h2 x hR;rw [<- hT] at this;exact Imp.weak this (tZ t' live) fun _ _ hb=>nB ho hb
 ·exact Imp.id h
end Go.Ab
namespace Go.Dt
open Go Go.Ab
def FE{l:List bt}(h:isT l 4 [47] 0 false=true)(h2:isK l 1 1 false=true):eC l=j8 true 0 (ld l (bp l 1 false).2.1 (bp l 1 false).2.2 [(bp l 1 false).1]):=by rw [eC,if_pos h,if_pos h2,runT]
def R2{l:List bt}(h:isT l 4 [47] 0 false=true)(h2:isK l 1 1 false=false):eC l=(⟨true,0,[]⟩,1,false):=by rw [eC,if_pos h,if_neg (by rw [h2];simp)];rfl
def BW{l:List bt}(h:isT l 4 [47] 0 false=false){u j:Nat}(h2:iQ l 0 0=(u,j,true)):eC l=j8 false u (ld l (bp l j false).2.1 (bp l j false).2.2 [(bp l j false).1]):=by rw [eC,if_neg (by rw [h];simp),h2];rfl
def I5{l:List bt}(h:isT l 4 [47] 0 false=false){u j:Nat}(h2:iQ l 0 0=(u,j,false)):eC l=j8 false u ([],j,false):=by rw [eC,if_neg (by rw [h];simp),h2];rfl
def Dh{l:List bt}{i:Nat}{b:Bool}{acc:List GStep}(h:isT l 4 [47] i b=true):ld l i b acc=ld l (bp l (i+1) b).2.1 (bp l (i+1) b).2.2 (acc++[(bp l (i+1) b).1]):=by rw [ld,dif_pos h]
def Fc{l:List bt}{i:Nat}{b:Bool}{acc:List GStep}(h:isT l 4 [47] i b=false):ld l i b acc=(acc,i,b):=by rw [ld,dif_neg (by rw [h];simp)]
def EX{l:List bt}{i u:Nat}(h:isT l 4 [46,46] i false=true)(h2:isT l 4 [47] (i+1) false=true):iQ l i u=iQ l (i+2) (u+1):=by rw [iQ,dif_pos h,if_pos h2]
def EY{l:List bt}{i u:Nat}(h:isT l 4 [46,46] i false=true)(h2:isT l 4 [47] (i+1) false=false):iQ l i u=(u+1,i+1,false):=by rw [iQ,dif_pos h,if_neg (by rw [h2];simp)]
def BN{l:List bt}{i u:Nat}(h:isT l 4 [46,46] i false=false):iQ l i u=(u,i,true):=by rw [iQ,dif_neg (by rw [h];simp)]
def tG(l:List bt)(t:Str)(i:Nat):isT l 4 t i true=false:=by rw [isT,sW (.inl rfl)];rfl
def nJ{l:List bt}{t:Str}{i:Nat}{b:Bool}(h:isT l 4 t i b=true):mI l t i b=i+1:=by rw [mI,h];rfl
def nK{l:List bt}{t:Str}{i:Nat}{b:Bool}(h:isT l 4 t i b=false):mI l t i b=i:=by rw [mI,h];rfl
end Go.Dt
namespace Go.Proofs
open Go.Ab Go.Dt
def UI(l:List Dt.GStep):AV.bg (l.map (aA false))=l.map (aA false):=by rw [AV.ng,List.map_map];refine List.map_congr_left fun x _=>?_;simp only [Function.comp,aA,AV.frz,AV.bg,cond_false]
instance Xl(b:Nat)(l:List bt)(i:Nat)(bad r:Bool)(u:Int):Ctr lim prog 279 [(b,some [.sl false 3 (l.map aJ),.aa i,.ac bad])] [.ptr b 0,.agg [.ac r,.aa u,.sl false 2 []]] (.agg [.ac r,.aa u,.sl false 2 []]) [some [.sl false 3 (l.map aJ),.aa i,.ac (bad || !dQ ⟨r,u,[]⟩)]] True:=sJ b l i bad ⟨r,u,[]⟩
instance Xm(b:Nat)(l:List bt)(i:Nat)(bad r:Bool)(u:Int)(ss:List Dt.GStep):Ctr lim prog 279 [(b,some [.sl false 3 (l.map aJ),.aa i,.ac bad])] [.ptr b 0,.agg [.ac r,.aa u,.sl false 2 (ss.map (aA false))]] (.agg [.ac r,.aa u,.sl false 2 (ss.map (aA false))]) [some [.sl false 3 (l.map aJ),.aa i,.ac (bad || !dQ ⟨r,u,ss⟩)]] True:=sJ b l i bad ⟨r,u,ss⟩
theorem H0(b:Nat)(l:List bt)(z:Nat):Ctr lim prog 239 [(b,some [.sl false 3 (l.map aJ),.aa z,.ac false])] [.ptr b 0] (cH false (eC l).1) [some [.sl false 3 (l.map aJ),.aa ((eC l).2.1:Nat),.ac (eC l).2.2]] (z=0/\l.length<=1048576):=by
 refine Ctr.bd func239 ntmps239 fun hp=>?_;have gOn:=aD.on;obtain ⟨hz,hl⟩:=hp
 (refine vK1 ?_;intro h h h h)
 rename_i c _ a;obtain ⟨n1,n2⟩:=h;refine AW.jL [0,2,3] (fun _=>[(0,.ptr b 0),(2,.ptr c 0),(3,.ptr a 0)]) (fun p:Bool×Nat×List Dt.GStep×Nat×Bool=>[(a,some [.ac p.1,.aa p.2.1,.sl true 2 (p.2.2.1.map (aA false))]),(c,some [.ac false,.aa 0,.v (.slice none 0 0)]),(b,some [.sl false 3 (l.map aJ),.aa p.2.2.2.1,.ac p.2.2.2.2])]) (fun p=>eC l=j8 p.1 p.2.1 (ld l p.2.2.2.1 p.2.2.2.2 p.2.2.1)/\p.2.2.2.1<=l.length/\p.2.2.1.length<=p.2.2.2.1+1) ?_ ?_
 ·refine AW.c (fun h=>?_) fun h=>?_
  ·have e1:=nJ h
   have hlt:=gQ baa h
   have h0:=h;rw [e1];refine vK1 ?_;refine AW.c (fun h=>?_) fun h=>?_
   ·refine vK1 ?_;refine AW.imp (Imp.iK (b:=c) 2 [.ac true,.aa 0] [] gO ?_);refine gS ?_;refine AW.ret (Imp.id (.inr ⟨QC,?_⟩));refine vK1 ?_;refine eF rfl ?_;refine gS ?_;subst hz;rw [R2 h0 (decide_eq_false h)];exact ⟨rfl,rfl⟩
   ·refine vN1 ?_
    repeat refine Y ?_
    refine AW.nT [(0,.ptr b 0),(2,.ptr c 0),(3,.ptr a 0)] [(a,some [.ac true,.aa 0,.sl true 2 [aA false (bp l (z+1) false).1]]),(c,some [.ac false,.aa 0,.v (.slice none 0 0)]),(b,some [.sl false 3 (l.map aJ),.aa (bp l (z+1) false).2.1,.ac (bp l (z+1) false).2.2])] (fQ.h (P:=prog)) (fun K hK=>?_) ?_
    ·refine aK.fxs (fuel:=6) LQ [0,2] LQ ?_;refine gS ?_;refine aK.sp 5 [1,3] (gT ?_);refine vN2 ?_ ?_
     ·refine aK.sp 4 [3] (gT ?_);refine vN1 ?_;refine aK.sp 3 [4] (gT ?_);refine vN1 ?_;refine aK.sp 2 [5] (gT ?_);refine vN1 ?_;refine aK.sp 1 [6] (gT ?_);refine vN1 ?_;refine aK.sp 0 [7] (gT ?_);refine vN1 ?_;refine aK.jw [0,2,3] [(a,some [.ac true,.aa 0,.sl true 2 [aA false (bp l (z+1) false).1]]),(c,some [.ac false,.aa 0,.v (.slice none 0 0)]),(b,some [.sl false 3 (l.map aJ),.aa (bp l (z+1) false).2.1,.ac (bp l (z+1) false).2.2])] LQ gO ?_;refine gS ?_;exact hK
     ·refine aK.sp 4 [1,4] (gT ?_);refine vN2 ?_ ?_
      ·refine aK.sp 3 [4] (gT ?_);refine vN1 ?_;refine aK.sp 2 [5] (gT ?_);refine vN1 ?_;refine aK.sp 1 [6] (gT ?_);refine vN1 ?_;refine aK.sp 0 [7] (gT ?_);refine vN1 ?_;refine aK.jw [0,2,3] [(a,some [.ac true,.aa 0,.sl true 2 [aA false (bp l (z+1) false).1]]),(c,some [.ac false,.aa 0,.v (.slice none 0 0)]),(b,some [.sl false 3 (l.map aJ),.aa (bp l (z+1) false).2.1,.ac (bp l (z+1) false).2.2])] LQ gO ?_;refine gS ?_;exact hK
      ·refine aK.sp 3 [1] (gT ?_);refine vN1 ?_;refine aK.sp 2 [5] (gT ?_);refine vN1 ?_;refine aK.sp 1 [6] (gT ?_);refine vN1 ?_;refine aK.sp 0 [7] (gT ?_);refine vN1 ?_;refine aK.jw [0,2,3] [(a,some [.ac true,.aa 0,.sl true 2 [aA false (bp l (z+1) false).1]]),(c,some [.ac false,.aa 0,.v (.slice none 0 0)]),(b,some [.sl false 3 (l.map aJ),.aa (bp l (z+1) false).2.1,.ac (bp l (z+1) false).2.2])] LQ gO ?_;refine gS ?_;exact hK
    ·refine vK1 ?_;refine Imp.id (.inl ⟨(true,0,[(bp l (z+1) false).1],(bp l (z+1) false).2.1,(bp l (z+1) false).2.2),⟨by subst hz;exact FE h0 (decide_eq_true h),(qb (show z+1<=l.length by omega)).2.1,QC⟩,rfl,rfl,?_⟩);refine gS ?_;rfl
  ·have e1:=nK h
   have h0:=h;rw [e1];refine vK1 ?_;refine AW.c (fun h=>?_) fun h=>?_
   ·refine vK1 ?_;refine AW.aw [] [0,2,3] (fun m xs o=>∃ j u:Nat,xs=[]/\o=[(a,some [.ac false,.aa u,.v (.slice none 0 0)]),(c,some [.ac false,.aa 0,.v (.slice none 0 0)]),(b,some [.sl false 3 (l.map aJ),.aa j,.ac false])]/\m=l.length - j/\j<=l.length/\u<=j/\iQ l j u=iQ l 0 0) (l.length - z) [(a,some [.ac false,.aa 0,.v (.slice none 0 0)]),(c,some [.ac false,.aa 0,.v (.slice none 0 0)]),(b,some [.sl false 3 (l.map aJ),.aa z,.ac false])] gO ⟨z,0,rfl,rfl,rfl,Ir,Nat.zero_le _,by rw [hz]⟩ ?_;rintro m xs o ⟨j,u,rfl,rfl,rfl,hj,hu,hR⟩;refine vK1 ?_;refine AW.c (fun h=>?_) fun h=>?_
    ·have e2:=nJ h
     have hl2:=gQ baa h
     have h3:=h;rw [e2];refine vK1 ?_;refine AW.c (fun h=>?_) fun h=>?_
     ·refine AW.imp (Imp.iK (b:=a) 2 [.ac false,.aa (u+1:Nat)] [] gO ?_);refine gS ?_;refine vK1 ?_;refine AW.ret (Imp.id (.inr ⟨QC,?_⟩));refine vK1 ?_;refine eF rfl ?_;refine gS ?_;have hE:=hR.symm.trans (EY h3 h);subst hz;rw [I5 h0 hE];exact ⟨rfl,rfl⟩
     ·refine vK1 ?_;have hl3:=gQ baa h;exact ⟨_,[],_,Ir,⟨j+2,u+1,rfl,rfl,rfl,Ir,Ir,by rw [<- hR,EX h3 h]⟩,gO⟩
    ·have e2:=nK h
     have h3:=h;rw [e2];refine vN1 ?_
     repeat refine Y ?_
     refine AW.nT [(0,.ptr b 0),(2,.ptr c 0),(3,.ptr a 0)] [(a,some [.ac false,.aa u,.sl true 2 [aA false (bp l j false).1]]),(c,some [.ac false,.aa 0,.v (.slice none 0 0)]),(b,some [.sl false 3 (l.map aJ),.aa (bp l j false).2.1,.ac (bp l j false).2.2])] (fQ.h (P:=prog)) (fun K hK=>?_) ?_
     ·refine aK.fxs (fuel:=6) LQ [0,2] LQ ?_;refine gS ?_;refine aK.sp 5 [1,3] (gT ?_);refine vN2 ?_ ?_
      ·refine aK.sp 4 [3] (gT ?_);refine vN1 ?_;refine aK.sp 3 [4] (gT ?_);refine vN1 ?_;refine aK.sp 2 [5] (gT ?_);refine vN1 ?_;refine aK.sp 1 [6] (gT ?_);refine vN1 ?_;refine aK.sp 0 [7] (gT ?_);refine vN1 ?_;refine aK.jw [0,2,3] [(a,some [.ac false,.aa u,.sl true 2 [aA false (bp l j false).1]]),(c,some [.ac false,.aa 0,.v (.slice none 0 0)]),(b,some [.sl false 3 (l.map aJ),.aa (bp l j false).2.1,.ac (bp l j false).2.2])] LQ gO ?_;refine gS ?_;exact hK
      ·refine aK.sp 4 [1,4] (gT ?_);refine vN2 ?_ ?_
       ·refine aK.sp 3 [4] (gT ?_);refine vN1 ?_;refine aK.sp 2 [5] (gT ?_);refine vN1 ?_;refine aK.sp 1 [6] (gT ?_);refine vN1 ?_;refine aK.sp 0 [7] (gT ?_);refine vN1 ?_;refine aK.jw [0,2,3] [(a,some [.ac false,.aa u,.sl true 2 [aA false (bp l j false).1]]),(c,some [.ac false,.aa 0,.v (.slice none 0 0)]),(b,some [.sl false 3 (l.map aJ),.aa (bp l j false).2.1,.ac (bp l j false).2.2])] LQ gO ?_;refine gS ?_;exact hK
       ·refine aK.sp 3 [1] (gT ?_);refine vN1 ?_;refine aK.sp 2 [5] (gT ?_);refine vN1 ?_;refine aK.sp 1 [6] (gT ?_);refine vN1 ?_;refine aK.sp 0 [7] (gT ?_);refine vN1 ?_;refine aK.jw [0,2,3] [(a,some [.ac false,.aa u,.sl true 2 [aA false (bp l j false).1]]),(c,some [.ac false,.aa 0,.v (.slice none 0 0)]),(b,some [.sl false 3 (l.map aJ),.aa (bp l j false).2.1,.ac (bp l j false).2.2])] LQ gO ?_;refine gS ?_;exact hK
     ·refine vK1 ?_;refine Imp.id (.inl ⟨(false,u,[(bp l j false).1],(bp l j false).2.1,(bp l j false).2.2),⟨by subst hz;exact BW h0 (hR.symm.trans (BN h3)),(qb hj).2.1,QC⟩,rfl,rfl,?_⟩);exact gO
   ·refine vN1 ?_
    repeat refine Y ?_
    refine AW.nT [(0,.ptr b 0),(2,.ptr c 0),(3,.ptr a 0)] [(a,some [.ac false,.aa 0,.sl true 2 [aA false (bp l z false).1]]),(c,some [.ac false,.aa 0,.v (.slice none 0 0)]),(b,some [.sl false 3 (l.map aJ),.aa (bp l z false).2.1,.ac (bp l z false).2.2])] (fQ.h (P:=prog)) (fun K hK=>?_) ?_
    ·refine aK.fxs (fuel:=6) LQ [0,2] LQ ?_;refine gS ?_;refine aK.sp 5 [1,3] (gT ?_);refine vN2 ?_ ?_
     ·refine aK.sp 4 [3] (gT ?_);refine vN1 ?_;refine aK.sp 3 [4] (gT ?_);refine vN1 ?_;refine aK.sp 2 [5] (gT ?_);refine vN1 ?_;refine aK.sp 1 [6] (gT ?_);refine vN1 ?_;refine aK.sp 0 [7] (gT ?_);refine vN1 ?_;refine aK.jw [0,2,3] [(a,some [.ac false,.aa 0,.sl true 2 [aA false (bp l z false).1]]),(c,some [.ac false,.aa 0,.v (.slice none 0 0)]),(b,some [.sl false 3 (l.map aJ),.aa (bp l z false).2.1,.ac (bp l z false).2.2])] LQ gO ?_;refine gS ?_;exact hK
     ·refine aK.sp 4 [1,4] (gT ?_);refine vN2 ?_ ?_
      ·refine aK.sp 3 [4] (gT ?_);refine vN1 ?_;refine aK.sp 2 [5] (gT ?_);refine vN1 ?_;refine aK.sp 1 [6] (gT ?_);refine vN1 ?_;refine aK.sp 0 [7] (gT ?_);refine vN1 ?_;refine aK.jw [0,2,3] [(a,some [.ac false,.aa 0,.sl true 2 [aA false (bp l z false).1]]),(c,some [.ac false,.aa 0,.v (.slice none 0 0)]),(b,some [.sl false 3 (l.map aJ),.aa (bp l z false).2.1,.ac (bp l z false).2.2])] LQ gO ?_;refine gS ?_;exact hK
      ·refine aK.sp 3 [1] (gT ?_);refine vN1 ?_;refine aK.sp 2 [5] (gT ?_);refine vN1 ?_;refine aK.sp 1 [6] (gT ?_);refine vN1 ?_;refine aK.sp 0 [7] (gT ?_);refine vN1 ?_;refine aK.jw [0,2,3] [(a,some [.ac false,.aa 0,.sl true 2 [aA false (bp l z false).1]]),(c,some [.ac false,.aa 0,.v (.slice none 0 0)]),(b,some [.sl false 3 (l.map aJ),.aa (bp l z false).2.1,.ac (bp l z false).2.2])] LQ gO ?_;refine gS ?_;exact hK
    ·refine vK1 ?_;refine Imp.id (.inl ⟨(false,0,[(bp l z false).1],(bp l z false).2.1,(bp l z false).2.2),⟨by subst hz;exact BW h0 (BN h),(qb (show z<=l.length by omega)).2.1,QC⟩,rfl,rfl,?_⟩);refine gS ?_;rfl
 ·rintro ⟨root,u,acc,j,bd⟩ ⟨hR,hj,ha⟩;simp only at hR hj ha ⊢;refine vK1 ?_;refine AW.rF [] [0,2,3] (fun m xs o=>∃ (j:Nat) (bd:Bool) (acc:List Dt.GStep),xs=[]/\o=[(a,some [.ac root,.aa u,.sl true 2 (acc.map (aA false))]),(c,some [.ac false,.aa 0,.v (.slice none 0 0)]),(b,some [.sl false 3 (l.map aJ),.aa j,.ac bd])]/\m=l.length - j/\j<=l.length/\acc.length<=j+1/\eC l=j8 root u (ld l j bd acc)) (l.length - j) [(a,some [.ac root,.aa u,.sl true 2 (acc.map (aA false))]),(c,some [.ac false,.aa 0,.v (.slice none 0 0)]),(b,some [.sl false 3 (l.map aJ),.aa j,.ac bd])] gO ⟨j,bd,acc,rfl,rfl,rfl,hj,ha,hR⟩ ?_;clear hR hj ha;rintro m xs o ⟨j,bd,acc,rfl,rfl,rfl,hj,ha,hR⟩;refine vK1 ?_;refine AW.c (fun h=>?_) fun h=>?_
  ·have e1:=nJ h
   have hlt:=gQ baa h
   have h3:=h;rw [e1];refine vN1 ?_
   repeat refine Y ?_
   refine AW.nT [(0,.ptr b 0),(2,.ptr c 0),(3,.ptr a 0)] [(a,some [.ac root,.aa u,.sl true 2 (acc.map (aA false)++[aA false (bp l (j+1) bd).1])]),(c,some [.ac false,.aa 0,.v (.slice none 0 0)]),(b,some [.sl false 3 (l.map aJ),.aa (bp l (j+1) bd).2.1,.ac (bp l (j+1) bd).2.2])] (fQ.h (P:=prog)) (fun K hK=>?_) ?_
   ·refine aK.fxs (fuel:=6) LQ [0,2] LQ ?_;refine gS ?_;refine aK.sp 5 [1,3] (gT ?_);refine vN2 ?_ ?_
    ·refine aK.sp 4 [3] (gT ?_);refine vN1 ?_;refine aK.sp 3 [4] (gT ?_);refine vN1 ?_;refine aK.sp 2 [5] (gT ?_);refine vN1 ?_;refine aK.sp 1 [6] (gT ?_);refine vN1 ?_;refine aK.sp 0 [7] (gT ?_);refine vN1 ?_;refine aK.jw [0,2,3] [(a,some [.ac root,.aa u,.sl true 2 (acc.map (aA false)++[aA false (bp l (j+1) bd).1])]),(c,some [.ac false,.aa 0,.v (.slice none 0 0)]),(b,some [.sl false 3 (l.map aJ),.aa (bp l (j+1) bd).2.1,.ac (bp l (j+1) bd).2.2])] LQ gO ?_;refine gS ?_;exact hK
    ·refine aK.sp 4 [1,4] (gT ?_);refine vN2 ?_ ?_
     ·refine aK.sp 3 [4] (gT ?_);refine vN1 ?_;refine aK.sp 2 [5] (gT ?_);refine vN1 ?_;refine aK.sp 1 [6] (gT ?_);refine vN1 ?_;refine aK.sp 0 [7] (gT ?_);refine vN1 ?_;refine aK.jw [0,2,3] [(a,some [.ac root,.aa u,.sl true 2 (acc.map (aA false)++[aA false (bp l (j+1) bd).1])]),(c,some [.ac false,.aa 0,.v (.slice none 0 0)]),(b,some [.sl false 3 (l.map aJ),.aa (bp l (j+1) bd).2.1,.ac (bp l (j+1) bd).2.2])] LQ gO ?_;refine gS ?_;exact hK
     ·refine aK.sp 3 [1] (gT ?_);refine vN1 ?_;refine aK.sp 2 [5] (gT ?_);refine vN1 ?_;refine aK.sp 1 [6] (gT ?_);refine vN1 ?_;refine aK.sp 0 [7] (gT ?_);refine vN1 ?_;refine aK.jw [0,2,3] [(a,some [.ac root,.aa u,.sl true 2 (acc.map (aA false)++[aA false (bp l (j+1) bd).1])]),(c,some [.ac false,.aa 0,.v (.slice none 0 0)]),(b,some [.sl false 3 (l.map aJ),.aa (bp l (j+1) bd).2.1,.ac (bp l (j+1) bd).2.2])] LQ gO ?_;refine gS ?_;exact hK
   ·refine vK1 ?_;have hs:=qb (b:=bd) (show j+1<=l.length by omega);refine Imp.id ?_;refine gS ?_;exact ⟨_,[],_,Ir,⟨(bp l (j+1) bd).2.1,(bp l (j+1) bd).2.2,acc++[(bp l (j+1) bd).1],rfl,rfl,rfl,hs.2.1,by rw [List.length_append,List.length_singleton];omega,by rw [hR,Dh h3]⟩,by rw [List.map_append];simp (maxSteps:=2000000) (disch:=omega) only [go_sem]⟩
  ·have e1:=nK h;rw [e1];rw [Fc h] at hR;refine AW.imp (Imp.dB (b:=a) (fq _ _ _) ?_);simp (maxSteps:=2000000) (disch:=omega) only [go_sem,UI];refine vU2 ?_ ?_
   ·rw [hR];rfl
   ·rw [hR];rfl
def OM(l:List bt)(i:Nat):bp l i true=(⟨[],[]⟩,i,true):=by
 have h0:∀ k,¬ k=0->isK l k i true=false:=fun k hk=>by rw [isK,sW (.inl rfl)];exact decide_eq_false (fun e=>hk e.symm)
 have h1:=h0 1 baa
 have e1:kI l 1 i true=i:=by rw [kI,h1];rfl
 have e2:kB l 1 i true=true:=by rw [kB,h1];rfl
 have e3:kX l 1 i true=[]:=by rw [kX,h1];rfl
 have e4:isT l 4 [91] i true=false:=by rw [isT,sW (.inl rfl)];rfl
 rw [bp,e1,e2,e3,yT e4]
instance Xk(b:Nat)(l:List bt)(i:Nat)(bad r:Bool)(u:Int)(x:Str):Ctr lim prog 279 [(b,some [.sl false 3 (l.map aJ),.aa i,.ac bad])] [.ptr b 0,.agg [.ac r,.aa u,.sl false 2 [.agg [.str x,.sl false 2 []]]]] (.agg [.ac r,.aa u,.sl false 2 [.agg [.str x,.sl false 2 []]]]) [some [.sl false 3 (l.map aJ),.aa i,.ac (bad || !dQ ⟨r,u,[⟨x,[]⟩]⟩)]] True:=sJ b l i bad ⟨r,u,[⟨x,[]⟩]⟩
theorem Kz(b:Nat)(l:List bt)(z:Nat):Ctr lim prog 239 [(b,some [.sl false 3 (l.map aJ),.aa z,.ac true])] [.ptr b 0] (cH false ⟨false,0,[⟨[],[]⟩]⟩) [some [.sl false 3 (l.map aJ),.aa z,.ac true]] (z<=l.length/\l.length<=1048576):=by
 refine Ctr.bd func239 ntmps239 fun hp=>?_;have gOn:=aD.on;obtain ⟨hz,hl⟩:=hp;have i1:=tG l [47] z
 have i2:=tG l [46,46] z
 have i3:mI l [47] z true=z:=nK i1
 have i4:=OM l z
 (repeat' first|(with_reducible first|refine Z ?_|refine Y ?_|(refine hK _ _ ?_;clear hK K)|refine And.intro ?_ ?_|exact Ct|intro (K:_->_->Prop) hK|(refine gI fun hg=>?_;try simp only [hC,reduceCtorEq] at hg;try simp only [hg]))|((with_reducible refine E ?_;repeat refine Y ?_);refine eF rfl ?_)|simp (disch:=omega) only [go_sem,i1,i2,i3]|(with_reducible intro hg;try simp only [hC,reduceCtorEq] at hg)|exact Cl|fail)
 refine AW.e fun h=>?_
 (repeat' first|(with_reducible first|refine Z ?_|refine Y ?_|(refine hK _ _ ?_;clear hK K)|refine And.intro ?_ ?_|exact Ct|intro (K:_->_->Prop) hK|(refine gI fun hg=>?_;try simp only [hC,reduceCtorEq] at hg;try simp only [hg]))|((with_reducible refine E ?_;repeat refine Y ?_);refine eF rfl ?_)|simp (disch:=omega) only [go_sem,i1,i2,i3]|(with_reducible intro hg;try simp only [hC,reduceCtorEq] at hg)|exact Cl|fail)
 refine AW.e fun h=>?_;refine vN1 ?_;rename_i c _ a _
 repeat refine Y ?_
 refine AW.nT [(0,.ptr b 0),(2,.ptr c 0),(3,.ptr a 0)] [(a,some [.ac false,.aa 0,.sl true 2 [aA false (bp l z true).1]]),(c,some [.ac false,.aa 0,.v (.slice none 0 0)]),(b,some [.sl false 3 (l.map aJ),.aa (bp l z true).2.1,.ac (bp l z true).2.2])] (fQ.h (P:=prog)) (fun K hK=>?_) ?_
 ·refine aK.fxs (fuel:=6) LQ [0,2] LQ ?_;refine gS ?_;refine aK.sp 5 [1,3] (gT ?_);refine vN2 ?_ ?_
  ·refine aK.sp 4 [3] (gT ?_);refine vN1 ?_;refine aK.sp 3 [4] (gT ?_);refine vN1 ?_;refine aK.sp 2 [5] (gT ?_);refine vN1 ?_;refine aK.sp 1 [6] (gT ?_);refine vN1 ?_;refine aK.sp 0 [7] (gT ?_);refine vN1 ?_;refine aK.jw [0,2,3] [(a,some [.ac false,.aa 0,.sl true 2 [aA false (bp l z true).1]]),(c,some [.ac false,.aa 0,.v (.slice none 0 0)]),(b,some [.sl false 3 (l.map aJ),.aa (bp l z true).2.1,.ac (bp l z true).2.2])] LQ gO ?_;refine gS ?_;exact hK
  ·refine aK.sp 4 [1,4] (gT ?_);refine vN2 ?_ ?_
   ·refine aK.sp 3 [4] (gT ?_);refine vN1 ?_;refine aK.sp 2 [5] (gT ?_);refine vN1 ?_;refine aK.sp 1 [6] (gT ?_);refine vN1 ?_;refine aK.sp 0 [7] (gT ?_);refine vN1 ?_;refine aK.jw [0,2,3] [(a,some [.ac false,.aa 0,.sl true 2 [aA false (bp l z true).1]]),(c,some [.ac false,.aa 0,.v (.slice none 0 0)]),(b,some [.sl false 3 (l.map aJ),.aa (bp l z true).2.1,.ac (bp l z true).2.2])] LQ gO ?_;refine gS ?_;exact hK
   ·refine aK.sp 3 [1] (gT ?_);refine vN1 ?_;refine aK.sp 2 [5] (gT ?_);refine vN1 ?_;refine aK.sp 1 [6] (gT ?_);refine vN1 ?_;refine aK.sp 0 [7] (gT ?_);refine vN1 ?_;refine aK.jw [0,2,3] [(a,some [.ac false,.aa 0,.sl true 2 [aA false (bp l z true).1]]),(c,some [.ac false,.aa 0,.v (.slice none 0 0)]),(b,some [.sl false 3 (l.map aJ),.aa (bp l z true).2.1,.ac (bp l z true).2.2])] LQ gO ?_;refine gS ?_;exact hK
 rw [i4];refine vK1 ?_;refine AW.imp (Imp.dB (b:=a) (fq _ _ _) ?_);refine gS ?_;rw [show [AV.agg [.str [],.sl false 2 []]]=([⟨[],[]⟩]:List Dt.GStep).map (aA false) from rfl];refine AW.aw [] [0,2,3] (fun m xs o=>xs=[]/\o=[(a,some [.ac false,.aa 0,.sl false 2 (([⟨[],[]⟩]:List Dt.GStep).map (aA false))]),(c,some [.ac false,.aa 0,.v (.slice none 0 0)]),(b,some [.sl false 3 (l.map aJ),.aa z,.ac true])]) 0 [(a,some [.ac false,.aa 0,.sl false 2 (([⟨[],[]⟩]:List Dt.GStep).map (aA false))]),(c,some [.ac false,.aa 0,.v (.slice none 0 0)]),(b,some [.sl false 3 (l.map aJ),.aa z,.ac true])] gO ⟨rfl,rfl⟩ ?_;rintro m xs o ⟨rfl,rfl⟩
 (repeat' first|(with_reducible first|refine Z ?_|refine Y ?_|(refine hK _ _ ?_;clear hK K)|refine And.intro ?_ ?_|exact Ct|intro (K:_->_->Prop) hK|(refine gI fun hg=>?_;try simp only [hC,reduceCtorEq] at hg;try simp only [hg]))|(refine AW.i rfl (fun h=>?_) (fun h=>?_)<;>try simp only [hC,reduceCtorEq] at h)|((with_reducible refine E ?_;repeat refine Y ?_);refine eF rfl ?_)|simp (disch:=omega) only [go_sem,i1,i3]|(with_reducible intro hg;try simp only [hC,reduceCtorEq] at hg)|exact Cl|fail)
end Go.Proofs
namespace Go.Ab
def isC(c0:List AV):List AV->Prop:=fun c=>c=c0
@[go_sem] def Ce(c0:List AV)(r:AV)(os:Sto):Prop:=match r with
 | .ptr b 0=>(match O os b with
  | some cells=>cells=c0
  | none=>False)
 | _=>False
section
variable {L : Nat -> Nat} {P : Program} {n : Nat} {fn : Func} {t : List (Nat × AV)} {o : Sto} {rs : List ResultVar} {c0 : List AV}
def EndsG.Ce(hr:fn.results=rs.toArray)(h:pj P n rs t o [] (fun xs os=>Ab.Ce c0 (qD xs) os)):EndsG L P fn ⟨n,t,o⟩ (fun res os'=>∃ b cells,res=.ptr b 0/\os'=[(b,some cells)]/\isC c0 cells):=by
 have h2:EndsG L P fn ⟨n,t,o⟩ (fun r os=>Ab.Ce c0 r os):=EndsG.res hr h;intro B F0 w0 a w hd;obtain ⟨v,sI,os',F',own',fs',fp,h3,h4,h5,h6,h7,h8⟩:=h2 B F0 w0 a w hd;unfold Ab.Ce at h4;split at h4
 ·rename_i b;split at h4
  ·rename_i cells hO;exact ⟨v,.ptr b 0,_,F',own',fs',fp,h3,⟨b,cells,rfl,rfl,h4⟩,h5.sub (o':=[(b,some cells)]) ⟨hO,trivial⟩,h6,h7,h8⟩
  ·exact h4.elim
 ·exact h4.elim
end
section
variable {os : Sto} {c0 : List AV} {K : AV -> Sto -> Prop}
instance aeB:Rl (NK os (isC c0) (K:=⟨K⟩)) (∀ b:Nat,nfO os b->K (.ptr b 0) ((b,some c0)::os)) :=
 ⟨fun k=>by rintro b cells rfl hb;exact k b hb⟩
end
end Go.Ab
namespace Go.Dt
open Go Go.Ab
def xN(s:Str):∀ (n i:Nat),s.length - i<=n->(gr s i).2 = -1\/0<=(gr s i).2
 | n,i,hn=>by
  rw [gr];split
  ·match n,hn with
   | 0,hn=>omega
   | n+1,hn =>
   split
   ·exact xN s n (i+1) Ir
   ·split
    ·rename_i h _ h35;have:=tU h h35;exact xN s n _ Ir
    ·split
     ·exact .inr (by simp only;omega)
     ·split
      ·exact .inl rfl
      ·rename_i h0 _;exact xN s n _ Ir
  ·exact .inl rfl
def Ck(s:Str):(eI s).2 = -1\/0<=(eI s).2:=xN s s.length 0 Ir
def fV(s:Str):bP:=match kV s with|some p=>p|none=>⟨false,0,[]⟩
def AG{s:Str}(h:¬ ((eI s).2 = -1/\(eC (eI s).1).2.2=false/\(eC (eI s).1).2.1=(eI s).1.length)):kV s=none:=by rw [kV,if_neg h]
def I7{s:Str}(h:(eI s).2 = -1/\(eC (eI s).1).2.2=false/\(eC (eI s).1).2.1=(eI s).1.length):kV s=some (eC (eI s).1).1:=by rw [kV,if_pos h]
def QP(l:List bt):AV.bg (l.map aJ)=l.map aJ:=by rw [AV.ng,List.map_map];rfl
end Go.Dt
namespace Go.Proofs
open Go.Ab Go.Dt
attribute [-instance] Nw Ml
attribute [local go_sem] vP yV
instance ad9(s:Str):iM lim prog 274 [.str s] (.tup [.sl false 3 ((eI s).1.map aJ),.aa (eI s).2]) (s.length<=1048576) :=
 ⟨(aU 274),fun c=>by
  have:=((Nw s).pure c).frz
  simpa only [AV.frz,AV.bg,QP,cond_true] using this⟩
instance adT(s:Str):iM lim prog 257 [.str s] (.tup [.sl false 3 ((eI s).1.map aJ),.aa (eI s).2]) (s.length<=1048576) :=
 ⟨(aU 257),fun c=>by
  have:=((Ml s).pure c).frz
  simpa only [AV.frz,AV.bg,QP,cond_true] using this⟩
instance ach(s:Str):xp lim prog 238 [.str s] (isC [.sl false 3 ((eI s).1.map aJ),.aa 0,.ac (!decide ((eI s).2 = -1))]) (s.length<=1048576):=by
 refine xp.gf (aU 238) func238 rfl rfl fun hp=>?_;rw [ntmps238]
 (refine vX1 ?_;intro h)
 refine AW.ret (EndsG.Ce rfl ?_);refine gS ?_;rw [bne,fC]
instance ace(s:Str):xp lim prog 222 [.str s] (isC [.sl false 3 ((eI s).1.map aJ),.aa 0,.ac (!decide ((eI s).2 = -1)),.aa 0]) (s.length<=1048576):=by
 refine xp.gf (aU 222) func222 rfl rfl fun hp=>?_;rw [ntmps222]
 (refine vX1 ?_;intro h)
 refine AW.ret (EndsG.Ce rfl ?_);refine gS ?_;rw [show decide (0<=(eI s).2)=!decide ((eI s).2 = -1) by rcases Ck s with e|e<;>simp [e]<;>omega]
instance aau(b:Nat)(l:List bt):Ctr lim prog 239 [(b,some [.sl false 3 (l.map aJ),.aa 0,.ac false])] [.ptr b 0] (cH false (eC l).1) [some [.sl false 3 (l.map aJ),.aa ((eC l).2.1:Nat),.ac (eC l).2.2]] (l.length<=1048576):=⟨(aU 239),fun c=>(H0 b l 0).out ⟨rfl,c⟩⟩
instance aav(b:Nat)(l:List bt):Ctr lim prog 239 [(b,some [.sl false 3 (l.map aJ),.aa 0,.ac true])] [.ptr b 0] (cH false ⟨false,0,[⟨[],[]⟩]⟩) [some [.sl false 3 (l.map aJ),.aa 0,.ac true]] (l.length<=1048576):=⟨(aU 239),fun c=>(Kz b l 0).out ⟨Nat.zero_le _,c⟩⟩
instance aay(b:Nat)(l:List bt):Ctr lim prog 240 [(b,some [.sl false 3 (l.map aJ),.aa 0,.ac true])] [.ptr b 0] (.ac false) [some [.sl false 3 (l.map aJ),.aa 0,.ac true]] True:=O3 b l 0 true
instance VT(s:Str):Ctr lim prog 193 [] [.str s] (.tup [cH false (fV s),.ac (kV s).isSome]) [] (s.length<=1048576):=by
 refine Ctr.bd func193 ntmps193 fun hp=>?_;have gOn:=aD.on
 have hl:=(Jq s).1;rcases Ck s with hat|hat
 ·(repeat' first|(with_reducible first|refine Z ?_|refine Y ?_|(refine hK _ _ ?_;clear hK K)|refine And.intro ?_ ?_|exact Ct|intro (K:_->_->Prop) hK|(refine gI fun hg=>?_;try simp only [hC,reduceCtorEq] at hg;try simp only [hg]))|((with_reducible refine E ?_;repeat refine Y ?_);refine eF rfl ?_)|simp (disch:=omega) only [go_sem,hat,decide_true,Bool.not_true]|(with_reducible intro hg;try simp only [hC,reduceCtorEq] at hg)|exact Cl|fail)
  refine AW.c (fun h=>?_) fun h=>?_
  ·have hn:kV s=none:=AG (by rintro ⟨_,h1,h2⟩;exact h h1 h2);refine vX1 ?_;rename_i c _ _ _;refine AW.ret (EndsG.imp (Imp.iK (b:=c) 2 [.ac false,.aa 0] [] gO ?_));refine gS ?_;refine EndsG.fin rfl ?_;refine gS ?_;rw [fV,hn];rfl
  ·rw [fV,I7 ⟨hat,h.1,h.2⟩]
   all_goals exact uU
 ·have hn:kV s=none:=AG Ir
  (repeat' first|(with_reducible first|refine Z ?_|refine Y ?_|(refine hK _ _ ?_;clear hK K)|refine And.intro ?_ ?_|exact Ct|intro (K:_->_->Prop) hK|(refine gI fun hg=>?_;try simp only [hC,reduceCtorEq] at hg;try simp only [hg]))|((with_reducible refine E ?_;repeat refine Y ?_);refine eF rfl ?_)|simp (disch:=omega) only [go_sem,decide_eq_false (show ¬ (eI s).2 = -1 by omega),Bool.not_false]|(with_reducible intro hg;try simp only [hC,reduceCtorEq] at hg)|exact Cl|fail)
  refine AW.e fun h=>?_;refine vX1 ?_;rename_i c _ _ _;refine AW.ret (EndsG.imp (Imp.iK (b:=c) 2 [.ac false,.aa 0] [] gO ?_));refine gS ?_;refine EndsG.fin rfl ?_;refine gS ?_;rw [fV,hn];rfl
end Go.Proofs
namespace Go.Dt
open Go Go.Ab
def spS(l:List bt)(more:Bool)(j:Nat)(bd:Bool)(acc:List GStep):List GStep×Nat×Bool :=
 if (more && !bd)=true then ld l (bp l j bd).2.1 (bp l j bd).2.2 (acc++[(bp l j bd).1]) else (acc,j,bd)
def Ar{l:List bt}{j:Nat}{acc:List GStep}:spS l true j false acc=ld l (bp l j false).2.1 (bp l j false).2.2 (acc++[(bp l j false).1]):=by rw [spS];rfl
def xD{l:List bt}{more:Bool}{j:Nat}{bd:Bool}{acc:List GStep}(h:(more && !bd)=false):spS l more j bd acc=(acc,j,bd):=by rw [spS,if_neg (by rw [h];simp)]
def OP{l:List bt}{j:Nat}{bd:Bool}{acc:List GStep}:spS l (isT l 4 [47] j bd) (mI l [47] j bd) bd acc=ld l j bd acc:=by
 cases h:isT l 4 [47] j bd with
 | true =>
  have:=(gQ baa h).2;subst this;rw [nJ h,Ar,Dh h]
 | false=>rw [nK h,xD rfl,Fc h]
def Vd{l:List bt}(h:isT l 4 [47] 0 false=true):eC l=j8 true 0 (spS l (isK l 1 1 false) 1 false []):=by
 cases h2:isK l 1 1 false with
 | true=>rw [FE h h2,Ar];rfl
 | false=>rw [xD rfl,eC,if_pos h,if_neg (by rw [h2];simp)]
def My{l:List bt}(h:isT l 4 [47] 0 false=false){u j:Nat}{more:Bool}(h2:iQ l 0 0=(u,j,more)):eC l=j8 false u (spS l more j false []):=by
 cases more with
 | true=>rw [BW h h2,Ar];rfl
 | false=>rw [I5 h h2,xD rfl]
def upS(l:List bt)(more:Bool)(j u:Nat):Nat×Nat×Bool:=if more=true then iQ l j u else (u,j,false)
def OA{l:List bt}{j u:Nat}(h:isT l 4 [46,46] j false=true):upS l (isT l 4 [47] (j+1) false) (mI l [47] (j+1) false) (u+1)=iQ l j u:=by
 cases h2:isT l 4 [47] (j+1) false with
 | true=>rw [upS,if_pos rfl,nJ h2,EX h h2]
 | false=>rw [upS,if_neg QC,nK h2,EY h h2]
def LY(l:List bt)(i:Nat)(acc:List cu):(iI l i true acc).2.2=true:=by rw [iI,dif_neg (by rw [tG];simp)]
def L7{l:List bt}{i:Nat}{b:Bool}(h:(bp l i b).2.2=false)(hi:i<=l.length):i+1<=(bp l i b).2.1:=by
 unfold bp at h ⊢;simp only at h ⊢
 cases e:isK l 1 i b with
 | false =>
  have:kB l 1 i b=true:=by rw [kB,e];simp
  rw [this,LY] at h;cases h
 | true =>
  have e1:kI l 1 i b=i+1:=by rw [kI,e];rfl
  have:=(yU (l:=l) (l.length - (i+1)) (i+1) (kB l 1 i b) [] (Nat.le_refl _) (Bo baa e).1 (Nat.zero_le _)).1;rw [e1];exact this
def RL{l:List bt}{root mr:Bool}{j u:Nat}(hI:(root=true/\u=0/\eC l=j8 true 0 (spS l mr j false []))\/(root=false/\isT l 4 [47] 0 false=false/\upS l mr j u=iQ l 0 0))(h:mr=true->root=true):eC l=j8 root u (spS l mr j false []):=by
 rcases hI with ⟨h1,h2,h3⟩|⟨h1,h2,h3⟩
 ·rw [h1,h2];exact h3
 ·have:mr=false:=by cases mr with|true=>rw [h rfl] at h1;cases h1|false=>rfl
  subst this;rw [h1];exact My h2 h3.symm
end Go.Dt
namespace Go.Proofs
open Go.Ab Go.Dt
instance Zd(r:Bool)(u:Int)(ss:List Dt.GStep):Ctr lim prog 221 [] [.agg [.ac r,.aa u,.sl false 2 (ss.map (aA false))]] (.ac (dQ ⟨r,u,ss⟩)) [] True:=Dl ⟨r,u,ss⟩
theorem O0(b:Nat)(l:List bt)(z:Nat):Ctr lim prog 223 [(b,some [.sl false 3 (l.map aJ),.aa z,.ac false,.aa 0])] [.ptr b 0] (cH false (eC l).1) [some [.sl false 3 (l.map aJ),.aa ((eC l).2.1:Nat),.ac (eC l).2.2,.aa 0]] (z=0/\l.length<=1048576):=by
 refine Ctr.bd func223 ntmps223 fun hp=>?_;have gOn:=aD.on;obtain ⟨hz,hl⟩:=hp
 (refine vK1 ?_;intro h h h h)
 rename_i c _ a;obtain ⟨n1,n2⟩:=h;refine AW.jL [0,2,3,4] (fun p:Bool×Bool×Nat=>[(0,.ptr b 0),(2,.ptr c 0),(3,.ptr a 0),(4,.ac p.2.1)]) (fun p=>[(a,some [.ac p.1,.aa 0,.v (.slice none 0 0)]),(c,some [.ac false,.aa 0,.v (.slice none 0 0)]),(b,some [.sl false 3 (l.map aJ),.aa p.2.2,.ac false,.aa 0])]) (fun p=>p.2.2<=l.length/\((p.1=true/\eC l=j8 true 0 (spS l p.2.1 p.2.2 false []))\/(p.1=false/\p.2.1=true/\p.2.2=0/\isT l 4 [47] 0 false=false))) ?_ ?_
 ·refine AW.c (fun h=>?_) fun h=>?_
  ·have e1:=nJ h
   have hlt:=gQ baa h;rw [e1];refine vK1 ?_;refine Imp.id (.inl ⟨(true,atT l 1 [] (z+1) false,z+1),⟨by simp only;omega,.inl ⟨rfl,by subst hz;rw [C5];exact Vd h⟩⟩,rfl,?_⟩);exact gO
  ·have e1:=nK h;rw [e1];refine vK1 ?_;refine Imp.id (.inl ⟨(false,true,z),⟨by simp only;omega,.inr ⟨rfl,rfl,hz,by subst hz;exact h⟩⟩,rfl,?_⟩);exact gO
 rintro ⟨root,more,j0⟩ ⟨hj0,hR⟩;simp only at hj0 hR ⊢;refine Y ?_;refine Y ?_;refine AW.jL [0,2,3,4] (fun p:Bool×Bool×Nat×Nat=>[(0,.ptr b 0),(2,.ptr c 0),(3,.ptr a 0),(4,.ac p.2.1)]) (fun p=>[(a,some [.ac p.1,.aa p.2.2.1,.v (.slice none 0 0)]),(c,some [.ac false,.aa 0,.v (.slice none 0 0)]),(b,some [.sl false 3 (l.map aJ),.aa p.2.2.2,.ac false,.aa 0])]) (fun p=>p.2.2.2<=l.length/\eC l=j8 p.1 p.2.2.1 (spS l p.2.1 p.2.2.2 false [])) ?_ ?_
 ·refine vK1 ?_;refine AW.aw [4] [0,2,3] (fun m xs o=>∃ (mr:Bool) (j u:Nat),xs=[.ac mr]/\o=[(a,some [.ac root,.aa u,.v (.slice none 0 0)]),(c,some [.ac false,.aa 0,.v (.slice none 0 0)]),(b,some [.sl false 3 (l.map aJ),.aa j,.ac false,.aa 0])]/\m=l.length - j/\j<=l.length/\u<=j/\((root=true/\u=0/\eC l=j8 true 0 (spS l mr j false []))\/(root=false/\isT l 4 [47] 0 false=false/\upS l mr j u=iQ l 0 0))) (l.length - j0) [(a,some [.ac root,.aa 0,.v (.slice none 0 0)]),(c,some [.ac false,.aa 0,.v (.slice none 0 0)]),(b,some [.sl false 3 (l.map aJ),.aa j0,.ac false,.aa 0])] gO ⟨more,j0,0,rfl,rfl,rfl,hj0,Nat.zero_le _,hR.imp (fun h=>⟨h.1,rfl,h.2⟩) (fun h=>⟨h.1,h.2.2.2,by rw [h.2.1,h.2.2.1];rfl⟩)⟩ ?_;rintro m xs o ⟨mr,j,u,rfl,rfl,rfl,hj,hu,hI⟩;have hg:=fun h=>gQ (l:=l) (k:=4) (t:=[46,46]) (i:=j) (bad:=false) baa h
  (refine vK2 ?_ ?_<;>with_reducible repeat intro h)
  ·obtain ⟨rfl,rfl⟩:=h;obtain ⟨h0,hU⟩:isT l 4 [47] 0 false=false/\upS l true j u=iQ l 0 0:=by rcases hI with hI|hI<;>simp at hI;exact hI
   refine AW.c (fun h=>?_) fun h=>?_
   ·have h2:=h
    have hlt:=hg h
    have aeF:=fun h=>gQ (l:=l) (k:=4) (t:=[47]) (i:=j+1) (bad:=false) baa h
    have hm:=Be (l:=l) (t:=[47]) (i:=j+1) (bad:=false) Ir;rw [nJ h];refine vK1 ?_;exact ⟨_,[_],_,by have:j+1<=mI l [47] (j+1) false:=(o6 _ _).1;omega,⟨_,mI l [47] (j+1) false,u+1,rfl,rfl,rfl,Be Ir,by have:j+1<=mI l [47] (j+1) false:=(o6 _ _).1;omega,.inr ⟨h0,by rw [<- hU];exact OA h2⟩⟩,rfl,gO⟩
   ·have h2:=h;rw [nK h];refine vK1 ?_;refine Imp.id (.inl ⟨(false,true,u,j),⟨hj,My h0 (hU.symm.trans (BN h2))⟩,rfl,?_⟩);exact gO
  ·have hP:eC l=j8 root u (spS l mr j false []):=RL hI h;refine AW.e fun h=>?_;refine vK1 ?_;refine Imp.id (.inl ⟨(root,mr,u,j),⟨hj,hP⟩,rfl,?_⟩);exact gO
 rintro ⟨root,more,u,j0⟩ ⟨hj0,hR⟩;simp only at hj0 hR ⊢;refine vK1 ?_;refine AW.imp (Imp.nG (b:=a) 2 [.ac root,.aa u] [] (fq _ _ _) ?_);refine gS ?_;refine AW.rF [4] [0,2,3] (fun m xs o=>∃ (mr bd:Bool) (j:Nat) (acc:List Dt.GStep),xs=[.ac mr]/\o=[(a,some [.ac root,.aa u,.sl true 2 (acc.map (aA false))]),(c,some [.ac false,.aa 0,.v (.slice none 0 0)]),(b,some [.sl false 3 (l.map aJ),.aa j,.ac bd,.aa 0])]/\m=(if (mr && !bd)=true then l.length - j+1 else 0)/\j<=l.length/\acc.length<=j+2/\(bd=false->acc.length<=j+1)/\eC l=j8 root u (spS l mr j bd acc)) (if (more && !false)=true then l.length - j0+1 else 0) [(a,some [.ac root,.aa u,.sl true 2 []]),(c,some [.ac false,.aa 0,.v (.slice none 0 0)]),(b,some [.sl false 3 (l.map aJ),.aa j0,.ac false,.aa 0])] gO ⟨more,false,j0,[],rfl,rfl,rfl,hj0,Nat.zero_le _,fun _=>Nat.zero_le _,hR⟩ ?_;clear hR hj0;rintro m xs o ⟨mr,bd,j,acc,rfl,rfl,rfl,hj,ha,ha2,hR⟩;refine vK1 ?_;refine AW.c (fun h=>?_) fun h=>?_
 ·obtain ⟨rfl,rfl⟩:=h;have hs0:=Bl (l:=l) (k:=1) (bad:=false) (i:=j) baa hj;rw [Ar] at hR
  (refine vK1 ?_;intro h h)
  rename_i d;obtain ⟨n3,n4,n5⟩:=h;refine AW.imp (Imp.nG (b:=d) 2 [.str (kX l 1 j false)] [] (fq _ _ _) ?_);refine gS ?_;refine AW.rF [] [0,2,3,5] (fun m xs o=>∃ (i:Nat) (bd:Bool) (ts:List cu),xs=[]/\o=[(d,some [.str (kX l 1 j false),.sl true 2 (ts.map (ct true))]),(a,some [.ac root,.aa u,.sl true 2 (acc.map (aA false))]),(c,some [.ac false,.aa 0,.v (.slice none 0 0)]),(b,some [.sl false 3 (l.map aJ),.aa i,.ac bd,.aa 0])]/\m=l.length - i/\i<=l.length/\ts.length<=i/\iI l i bd ts=iI l (kI l 1 j false) (kB l 1 j false) []) (l.length - kI l 1 j false) [(d,some [.str (kX l 1 j false),.sl true 2 []]),(a,some [.ac root,.aa u,.sl true 2 (acc.map (aA false))]),(c,some [.ac false,.aa 0,.v (.slice none 0 0)]),(b,some [.sl false 3 (l.map aJ),.aa (kI l 1 j false:Nat),.ac (kB l 1 j false),.aa 0])] gO ⟨_,_,[],rfl,rfl,rfl,hs0,Nat.zero_le _,rfl⟩ ?_;rintro m xs o ⟨i,bd,ts,rfl,rfl,rfl,hi,ht,hT⟩;have hti:=fun e=>gQ (l:=l) (k:=4) (t:=[91]) (i:=i) (bad:=bd) baa e;refine vK1 ?_;refine AW.c (fun h=>?_) fun h=>?_
  ·have e1:mI l [91] i bd=i+1:=nJ h
   have h9:=hti h
   have hT2:=(Da (acc:=ts) h).symm.trans hT
   have hge:=Af l (i+1) bd;rw [e1]
   (refine vU1 ?_;intro h h)
   refine Imp.id ?_;refine gS ?_;exact ⟨_,[],_,Ir,⟨tsI l (i+1) bd,tsB l (i+1) bd,ts++[tsX l (i+1) bd],rfl,rfl,rfl,E2 (show i+1<=l.length by omega),by rw [List.length_append,List.length_singleton];omega,hT2⟩,by rw [List.map_append];refine gS ?_;exact ⟨rfl,rfl⟩⟩
  ·rw [nK h];rw [yT h] at hT;have e2:bp l j false=(⟨kX l 1 j false,ts⟩,i,bd):=by rw [bp,<- hT]
   have hsl:=qb (l:=l) (i:=j) (b:=false) hj
   have hsg:=L7 (l:=l) (i:=j) (b:=false) (hi:=hj)
   have ha3:=ha2 rfl;rw [e2] at hR hsl hsg;simp only at hR hsl hsg;have hmi:i<=mI l [47] i bd:=(o6 _ _).1;refine AW.imp (Imp.dB (b:=d) (fq _ _ _) ?_);simp (maxSteps:=2000000) (disch:=omega) only [go_sem,qU];refine vU1 ?_;refine Imp.id ?_;refine gS ?_;refine ⟨_,[_],_,?_,⟨_,bd,mI l [47] i bd,acc++[⟨kX l 1 j false,ts⟩],rfl,rfl,rfl,Be hi,by rw [List.length_append,List.length_singleton];omega,fun e=>?_,by rw [hR,OP]⟩,rfl,by rw [List.map_append];simp (maxSteps:=2000000) (disch:=omega) only [go_sem]⟩
   ·cases e:isT l 4 [47] i bd with
    | true =>
     have h1:=gQ baa e;rw [h1.2,nJ (by rw [<- h1.2];exact e)];show l.length - (i+1)+1<_;omega
    | false=>rw [if_neg QC];omega
   ·have:=hsg e;rw [List.length_append,List.length_singleton];omega
 ·have h9:=xD (l:=l) (more:=mr) (j:=j) (bd:=bd) (acc:=acc) (by cases mr<;>cases bd<;>simp_all);rw [h9] at hR;refine AW.imp (Imp.dB (b:=a) (fq _ _ _) ?_);simp (maxSteps:=2000000) (disch:=omega) only [go_sem,UI]
  (refine vU4 ?_ ?_ ?_ ?_<;>with_reducible repeat intro h)
  ·rw [hR];rfl
  ·rw [hR,j8,h];simp
  ·rw [hR];rfl
  ·rw [hR,j8,h];simp
instance Zc(r:Bool)(u:Int):Ctr lim prog 221 [] [.agg [.ac r,.aa u,.sl false 2 []]] (.ac (dQ ⟨r,u,[]⟩)) [] True:=Dl ⟨r,u,[]⟩
theorem Kw(b:Nat)(l:List bt)(z:Nat):Ctr lim prog 223 [(b,some [.sl false 3 (l.map aJ),.aa z,.ac true,.aa 0])] [.ptr b 0] (cH false ⟨false,0,[]⟩) [some [.sl false 3 (l.map aJ),.aa z,.ac true,.aa 0]] (z<=l.length/\l.length<=1048576):=by
 refine Ctr.bd func223 ntmps223 fun hp=>?_;have gOn:=aD.on;obtain ⟨hz,hl⟩:=hp;have i1:=tG l [47] z
 have i2:=tG l [46,46] z
 have i3:mI l [47] z true=z:=nK i1
 have i4:mI l [46,46] z true=z:=nK i2
 (repeat' first|(with_reducible first|refine Z ?_|refine Y ?_|(refine hK _ _ ?_;clear hK K)|refine And.intro ?_ ?_|exact Ct|intro (K:_->_->Prop) hK|(refine gI fun hg=>?_;try simp only [hC,reduceCtorEq] at hg;try simp only [hg]))|((with_reducible refine E ?_;repeat refine Y ?_);refine eF rfl ?_)|simp (disch:=omega) only [go_sem,i1,i2,i3,i4]|(with_reducible intro hg;try simp only [hC,reduceCtorEq] at hg)|exact Cl|fail)
 refine AW.e fun h=>?_;refine vK1 ?_;rename_i c _ a;refine AW.imp (Imp.iK (b:=a) 2 [.ac false,.aa 0] [] gO ?_);refine gS ?_;refine AW.aw [] [0,2,3,4] (fun m xs o=>xs=[]/\o=[(a,some [.ac false,.aa 0,.sl false 2 []]),(c,some [.ac false,.aa 0,.v (.slice none 0 0)]),(b,some [.sl false 3 (l.map aJ),.aa z,.ac true,.aa 0])]) 0 [(a,some [.ac false,.aa 0,.sl false 2 []]),(c,some [.ac false,.aa 0,.v (.slice none 0 0)]),(b,some [.sl false 3 (l.map aJ),.aa z,.ac true,.aa 0])] gO ⟨rfl,rfl⟩ ?_;rintro m xs o ⟨rfl,rfl⟩
 (repeat' first|(with_reducible first|refine Z ?_|refine Y ?_|(refine hK _ _ ?_;clear hK K)|refine And.intro ?_ ?_|exact Ct|intro (K:_->_->Prop) hK|(refine gI fun hg=>?_;try simp only [hC,reduceCtorEq] at hg;try simp only [hg]))|((with_reducible refine E ?_;repeat refine Y ?_);refine eF rfl ?_)|simp (disch:=omega) only [go_sem,i1,i2,i3,i4]|(with_reducible intro hg;try simp only [hC,reduceCtorEq] at hg)|exact Cl|fail)
 refine AW.e fun h=>?_;refine vK1 ?_;refine AW.aw [] [0,2,3,4] (fun m xs o=>xs=[]/\o=[(a,some [.ac false,.aa 0,.sl false 2 []]),(c,some [.ac false,.aa 0,.v (.slice none 0 0)]),(b,some [.sl false 3 (l.map aJ),.aa z,.ac true,.aa 0])]) 0 [(a,some [.ac false,.aa 0,.sl false 2 []]),(c,some [.ac false,.aa 0,.v (.slice none 0 0)]),(b,some [.sl false 3 (l.map aJ),.aa z,.ac true,.aa 0])] gO ⟨rfl,rfl⟩ ?_;rintro m xs o ⟨rfl,rfl⟩
 all_goals exact uU
instance aam(b:Nat)(l:List bt):Ctr lim prog 223 [(b,some [.sl false 3 (l.map aJ),.aa 0,.ac false,.aa 0])] [.ptr b 0] (cH false (eC l).1) [some [.sl false 3 (l.map aJ),.aa ((eC l).2.1:Nat),.ac (eC l).2.2,.aa 0]] (l.length<=1048576):=⟨(aU 223),fun c=>(O0 b l 0).out ⟨rfl,c⟩⟩
instance aan(b:Nat)(l:List bt):Ctr lim prog 223 [(b,some [.sl false 3 (l.map aJ),.aa 0,.ac true,.aa 0])] [.ptr b 0] (cH false ⟨false,0,[]⟩) [some [.sl false 3 (l.map aJ),.aa 0,.ac true,.aa 0]] (l.length<=1048576):=⟨(aU 223),fun c=>(Kw b l 0).out ⟨Nat.zero_le _,c⟩⟩
instance acf(b:Nat)(l:List bt):Ctr lim prog 224 [(b,some [.sl false 3 (l.map aJ),.aa 0,.ac true,.aa 0])] [.ptr b 0] (.ac false) [some [.sl false 3 (l.map aJ),.aa 0,.ac true,.aa 0]] True:=RT b l 0 true 0
instance UW(s:Str):Ctr lim prog 179 [] [.str s] (.tup [cH false (fV s),.ac (kV s).isSome]) [] (s.length<=1048576):=by
 refine Ctr.bd func179 ntmps179 fun hp=>?_;have gOn:=aD.on
 have hl:=(Jq s).1;rcases Ck s with hat|hat
 ·(repeat' first|(with_reducible first|refine Z ?_|refine Y ?_|(refine hK _ _ ?_;clear hK K)|refine And.intro ?_ ?_|exact Ct|intro (K:_->_->Prop) hK|(refine gI fun hg=>?_;try simp only [hC,reduceCtorEq] at hg;try simp only [hg]))|((with_reducible refine E ?_;repeat refine Y ?_);refine eF rfl ?_)|simp (disch:=omega) only [go_sem,hat,decide_true,Bool.not_true]|(with_reducible intro hg;try simp only [hC,reduceCtorEq] at hg)|exact Cl|fail)
  refine AW.c (fun h=>?_) fun h=>?_
  ·have hn:kV s=none:=AG (by rintro ⟨_,h1,h2⟩;exact h h1 h2);refine vX1 ?_;rename_i c _ _ _;refine AW.ret (EndsG.imp (Imp.iK (b:=c) 2 [.ac false,.aa 0] [] gO ?_));refine gS ?_;refine EndsG.fin rfl ?_;refine gS ?_;rw [fV,hn];rfl
  ·rw [fV,I7 ⟨hat,h.1,h.2⟩]
   all_goals exact uU
 ·have hn:kV s=none:=AG Ir
  (repeat' first|(with_reducible first|refine Z ?_|refine Y ?_|(refine hK _ _ ?_;clear hK K)|refine And.intro ?_ ?_|exact Ct|intro (K:_->_->Prop) hK|(refine gI fun hg=>?_;try simp only [hC,reduceCtorEq] at hg;try simp only [hg]))|((with_reducible refine E ?_;repeat refine Y ?_);refine eF rfl ?_)|simp (disch:=omega) only [go_sem,decide_eq_false (show ¬ (eI s).2 = -1 by omega),Bool.not_false]|(with_reducible intro hg;try simp only [hC,reduceCtorEq] at hg)|exact Cl|fail)
  refine AW.e fun h=>?_;refine vX1 ?_;rename_i c _ _ _;refine AW.ret (EndsG.imp (Imp.iK (b:=c) 2 [.ac false,.aa 0] [] gO ?_));refine gS ?_;refine EndsG.fin rfl ?_;refine gS ?_;rw [fV,hn];rfl
end Go.Proofs
