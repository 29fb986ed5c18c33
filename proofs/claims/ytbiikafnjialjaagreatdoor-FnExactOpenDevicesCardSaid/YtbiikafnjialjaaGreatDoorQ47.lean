/- Part of a proof. -/
import Derived.Test.YtbiikafnjialjaaGreatDoorQ41
set_option linter.all false
set_option maxRecDepth 20000
set_option maxHeartbeats 4000000
open Go.Proofs.Tryz
open List
namespace Go.Dt
open Go Go.Ab
def KE{x:dI}{r:Int}(h0:0<=r)(h1:r<=1048576)(h:0<=dE x r):wtS x.av.bg<=1048576/\wt x.av.bk<=1048576:=by
 unfold dE at h;obtain⟨a,h⟩:=aH h;obtain⟨b,_⟩:=aH h;have e2:=aT x.ae r h0;unfold jL at b;obtain⟨c,b⟩:=aH b;have e1:=Ju a c;obtain⟨d,_⟩:=aH b;have e3:=Bt c d
 have e4:=ba bG fe x.av.bg _ a;omega
def Io{x:dI}{r:Int}(h0:0<=r)(h1:r<=1048576)(h:0<=dE x r):wt x.fJ<=1048576:=by
 unfold dE at h;obtain⟨a,h⟩:=aH h;obtain⟨b,h⟩:=aH h;obtain⟨c,_⟩:=aH h;have e1:=aT x.ae r h0
 have e2:=ru x.av _ a
 have e3:=Bt b c;omega
end Go.Dt
namespace Go.Proofs
open Go.Ab Go.Dt
def vG(T:List aE)(S:List bt)(x:dI):Bool :=
 (inT T S x.av.bg x.ae x.fJ).2 == 0 && smT (inT T S x.av.bg x.ae x.fJ).1 x.av.bk
attribute [-instance] lV mP
attribute [local go_sem] bL aV bu jI jf
instance(T:List aE)(S:List bt)(x:dI):Ctr lim prog 32 [] [.agg [.ab 3 aK T,.ab 4 aP S],.agg [.str x.ae,.ab 19 ak x.av.bg,.ab 3 ai x.av.bk,.ab 3 ai x.av.cD,.aa x.av.iV,.ab 3 bF x.av.dL,.ac x.av.bh.fOn,.aa x.av.bh.gz,.aa x.av.bh.fBy,.str x.av.bh.ae,.ab 3 ai x.av.bh.dS,.ab 3 ai x.fJ,.ac x.fUp,.aa x.om,.ac x.oq]] (.ac (vG T S x)) [] (nG T/\(∀x∈S,x.fArgs.length<=1048576/\eD x.fArgs)/\wtS x.av.bg<=1048576/\wt x.fJ<=1048576):=by
 refine Ctr.bd func32 ntmps32 λhp=>?_;have gOn:=bM.on;obtain⟨ht,hS,h1,h2⟩:=hp;refine AW.f1 0 λhf=>?_
 (refine vU4 ?_ ?_ ?_ ?_<;>with_reducible repeat intro h)
 ·exact(hS _ baa).1
 ·exact(hS _ baa).2
 ·simp[vG,h]
 ·simp[vG,h]
instance(T:List aE)(S:List bt)(x:dI):Ctr lim prog 30 [] [.agg [.ab 3 aK T,.ab 4 aP S],.agg [.str x.ae,.ab 19 ak x.av.bg,.ab 3 ai x.av.bk,.ab 3 ai x.av.cD,.aa x.av.iV,.ab 3 bF x.av.dL,.ac x.av.bh.fOn,.aa x.av.bh.gz,.aa x.av.bh.fBy,.str x.av.bh.ae,.ab 3 ai x.av.bh.dS,.ab 3 ai x.fJ,.ac x.fUp,.aa x.om,.ac x.oq]] (.ac (vG T S x)) [] (nG T/\(∀x∈S,x.fArgs.length<=1048576/\eD x.fArgs)/\wtS x.av.bg<=1048576/\wt x.fJ<=1048576):=by
 refine Ctr.bd func30 ntmps30 λhp=>?_;have gOn:=bM.on;obtain⟨ht,hS,h1,h2⟩:=hp;refine AW.f1 0 λhf=>?_
 (refine vU4 ?_ ?_ ?_ ?_<;>with_reducible repeat intro h)
 ·exact(hS _ baa).1
 ·exact(hS _ baa).2
 ·simp[vG,h]
 ·simp[vG,h]
