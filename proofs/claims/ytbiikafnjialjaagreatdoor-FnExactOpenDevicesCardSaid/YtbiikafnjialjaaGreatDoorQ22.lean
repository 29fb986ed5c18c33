/- Part of a proof. -/
import Derived.Test.YtbiikafnjialjaaGreatDoorQ21
set_option linter.all false
set_option maxRecDepth 20000
set_option maxHeartbeats 4000000
open Go.Proofs.Tryz
open List
namespace Go.Proofs
open Go.Ab Go.Dt
section
def plS(s:Dt.GStep):AV:=.agg [.str s.ae,.v (.slice none 0 0)]
def SZ(l:List Dt.GStep):(l.map plS).all (AV.elem 2)=true:=ez (λ_=>rfl) l
attribute [go_sem] plS SZ
def afw(l:List Dt.GStep)(k:Nat):List AV:=((l.take k).map (bp true)).flatMap AV.cells++((l.drop k).map plS).flatMap AV.cells
end
section
instance(x:gm):Ctr lim prog 280 [] [.agg [.ac x.dJ,.aa x.dY,.ab 2 bp x.aX]] (.agg [.ac x.dJ,.aa x.dY,.ad 2 bp x.aX]) [] True:=by
 refine Ctr.bd func280 ntmps280 λhp=>?_;refine AW.f1 0 λhf=>?_
 (refine vU1 ?_;intro h h h)
 rename_i b2 b3;refine AW.imp (Imp.qi (b:=b3) 2 [_,_] [] (fj _ _ _) ?_);refine gS ?_;refine AW.lU [4] [1,2,3] (λm xs o=>∃k:Nat,xs=[.aa k]/\o=[(b3,some [.ac x.dJ,.aa x.dY,.ad 2 bp (x.aX.take k)]),(b2,some [.ac false,.aa 0,.v (.slice none 0 0)])]/\m=x.aX.length - k/\k<=x.aX.length) x.aX.length [(b3,some [.ac x.dJ,.aa x.dY,.ad 2 bp (x.aX.take 0)]),(b2,some [.ac false,.aa 0,.v (.slice none 0 0)])] gO ⟨0,rfl,rfl,rfl,Yt⟩ ?_;rintro m xs o ⟨k,rfl,rfl,rfl,hk⟩;have hlt:(x.aX.take k).length=k:=by rw[length_take];omega
 refine vK1 ?_;refine AW.c (λh=>?_) λh=>?_
 ·refine AW.ZI 12 rfl (x:=bp false (at_ x.aX k)) (mem_map_of_mem (at_mem h)) λhfe=>?_;simp(disch:=omega)only[go_sem]at hfe;refine AW.imp (Imp.mQ (b0:=b3) (k:=2) (sz:=2) (l:=(x.aX.take k).map (bp true)) (fj _ _ _) rfl (ct (λ_=>rfl) _) (λb hb=>?_) (λhnil=>?_))
  ·have hb1:=hb.nf;simp only[go_sem]at hb1;simp only[set_cons_zero,set_cons_succ,length_map]
   (refine vU2 ?_ ?_<;>with_reducible repeat intro h)
   ·rw[dD (sz:=2) (ct (λ_=>rfl) _),length_map]
   rename_i g;refine Imp.CE (b0:=b3) (k:=2) (b:=g) (sz:=2) (cells0:=[.ac x.dJ,.aa x.dY,.arr g 0 ((x.aX.take k).length+1) 2]) (l:=(x.aX.take k).map (bp true)) (bp true (at_ x.aX k)) gO (by rw[length_map];rfl) eaa Yt (ct (λ_=>rfl) _) rfl ?_;simp only[set_cons_zero,set_cons_succ];exact⟨trivial,_,[_],_,Yt,⟨k+1,rfl,rfl,rfl,Yt⟩,rfl,by rw[fo baa,map_append];simp(maxSteps:=2000000) (disch:=omega)only[go_sem]⟩
  ·simp only[set_cons_zero,set_cons_succ,hnil];refine vU1 ?_;have hk0:k=0:=by rw[map_eq_nil_iff]at hnil;rw[hnil]at hlt;exact hlt.symm
   subst hk0;refine Imp.id ?_;refine gS ?_;exact⟨_,[_],_,Yt,⟨1,rfl,rfl,rfl,Yt⟩,rfl,by rw[fo baa];refine gS ?_;rfl⟩
 ·rw[show k=x.aX.length by omega,take_length]
  all_goals exact uU
