/- Part of a proof. -/
import Derived.Test.YtbiikafnjialjaaGreatDoorS21
set_option linter.all false
set_option maxRecDepth 20000
set_option maxHeartbeats 4000000
open Go.Proofs.Tryz
open List
namespace Go.Proofs
open Go.Ab Go.Dt
section
def plS(s:Dt.GStep):AV:=.agg [.str s.ae,.v (.slice none 0 0)]
def Sc(l:List Dt.GStep):(l.map plS).all (AV.elem 2)=true:=dX (λ_=>rfl) l
attribute [go_sem] plS Sc
def aeX(l:List Dt.GStep)(k:Nat):List AV:=((l.take k).map (bg true)).flatMap AV.cells++((l.drop k).map plS).flatMap AV.cells
end
section
instance(x:fS):Ctr lim prog 280 [] [.agg [.ac x.dB,.aa x.dQ,.ab 2 bg x.aW]] (.agg [.ac x.dB,.aa x.dQ,.ad 2 bg x.aW]) [] True:=by
 refine Ctr.bd func280 ntmps280 λhp=>?_;refine AW.f1 0 λhf=>?_
 (refine vU1 ?_;intro h h h)
 rename_i b2 b3;refine AW.imp (Imp.nA (b:=b3) 2 [_,_] [] (eM _ _ _) ?_);refine gS ?_;refine AW.lJ [4] [1,2,3] (λm xs o=>∃k:Nat,xs=[.aa k]/\o=[(b3,some [.ac x.dB,.aa x.dQ,.ad 2 bg (x.aW.take k)]),(b2,some [.ac false,.aa 0,.v (.slice none 0 0)])]/\m=x.aW.length - k/\k<=x.aW.length) x.aW.length [(b3,some [.ac x.dB,.aa x.dQ,.ad 2 bg (x.aW.take 0)]),(b2,some [.ac false,.aa 0,.v (.slice none 0 0)])] gO ⟨0,rfl,rfl,rfl,Um⟩ ?_;rintro m xs o ⟨k,rfl,rfl,rfl,hk⟩;have hlt:(x.aW.take k).length=k:=by rw[length_take];omega
 refine vK1 ?_;refine AW.c (λh=>?_) λh=>?_
 ·refine AW.Y5 12 rfl (x:=bg false (at_ x.aW k)) (mem_map_of_mem (at_mem h)) λhfe=>?_;simp(disch:=omega)only[go_sem]at hfe;refine AW.imp (Imp.mH (b0:=b3) (k:=2) (sz:=2) (l:=(x.aW.take k).map (bg true)) (eM _ _ _) rfl (bW (λ_=>rfl) _) (λb hb=>?_) (λhnil=>?_))
  ·have hb1:=hb.nf;simp only[go_sem]at hb1;simp only[set_cons_zero,set_cons_succ,length_map]
   (refine vU2 ?_ ?_<;>with_reducible repeat intro h)
   ·rw[dw (sz:=2) (bW (λ_=>rfl) _),length_map]
   rename_i g;refine Imp.BQ (b0:=b3) (k:=2) (b:=g) (sz:=2) (cells0:=[.ac x.dB,.aa x.dQ,.arr g 0 ((x.aW.take k).length+1) 2]) (l:=(x.aW.take k).map (bg true)) (bg true (at_ x.aW k)) gO (by rw[length_map];rfl) eaa Um (bW (λ_=>rfl) _) rfl ?_;simp only[set_cons_zero,set_cons_succ];exact⟨trivial,_,[_],_,Um,⟨k+1,rfl,rfl,rfl,Um⟩,rfl,by rw[eV baa,map_append];simp(maxSteps:=2000000) (disch:=omega)only[go_sem]⟩
  ·simp only[set_cons_zero,set_cons_succ,hnil];refine vU1 ?_;have hk0:k=0:=by rw[map_eq_nil_iff]at hnil;rw[hnil]at hlt;exact hlt.symm
   subst hk0;refine Imp.id ?_;refine gS ?_;exact⟨_,[_],_,Um,⟨1,rfl,rfl,rfl,Um⟩,rfl,by rw[eV baa];refine gS ?_;rfl⟩
 ·rw[show k=x.aW.length by omega,take_length]
  all_goals exact uU
