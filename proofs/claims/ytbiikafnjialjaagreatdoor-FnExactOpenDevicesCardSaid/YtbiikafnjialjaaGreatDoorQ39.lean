/- Part of a proof. -/
import Derived.Test.YtbiikafnjialjaaGreatDoorQ11
set_option linter.all false
open List
namespace Go.Ab
open Go.RowKit (Below)
attribute [go_sem] Array.empty_append
section
variable {L : Nat -> Nat} {n : Nat} {t : List (Nat × AV)} {o : Sto} {Q : AS -> Prop}
def Imp.vpO(i:Nat){b off:Nat}{cells:List AV}(hT:T t i=.ptr b off)(hO:O o b=some cells)(hn:AV.nownL cells=true)(h:Q ⟨n,(i,.vp (cells.drop off))::t,(b,none)::o⟩):Imp L ⟨n,t,o⟩ Q:=by
 intro B F0 w0 a w hd;refine⟨_,h,?_⟩;obtain⟨F,own,fp,fs,hd⟩:=hd;obtain⟨hkey,_,_,c0,Ty0,oe,VL,hc0,wv,hl0⟩:=hd.obj b _ hO;rw[au.eY hn hl0]at hl0
 classical
 let F':Nat->Prop:=λk=>F k\/k=b
 let own':Nat->Own:=λk=>if k=b then .none else own k
 have hid:Ext (λ_=>True) w w:=⟨Nat.le_refl _,λ_ _=>rfl,λb c T z hc=>⟨c,hc,rfl⟩⟩
 have hb:=hd.ol b (by rw[hkey];simp)
 have hnot:∀k,k≠b->own' k=own k:=λk hk=>by simp only[own',if_neg hk]
 have hrow:iA w b 0 oe:=by
  refine⟨c0,Ty0,(0,0),hc0,λj hj=>?_⟩;have:c0.toList[j]? = oe[j]?:=by rw[wv,getElem?_append_left hj]
  rw[Nat.zero_add,<- this,Array.getElem?_toList]
 refine⟨F',own',fp,fs,{ below:=hd.below,hB:=hd.hB,tb:=hd.tb,f0:=λb hb=>.inl (hd.f0 b hb),fl:=?_,ol:=?_,defers:=hd.defers,size:=hd.size,slots:=?_,sn:=hd.sn,so:=?_,obj:=?_ }⟩
 ·rintro k (hk|rfl)
  ·have:=hd.fl k hk;exact⟨by simp only[own'];split<;>simp[this.1],this.2⟩
  ·exact⟨by simp only[own',if_true],hb.2,.inr hb.1⟩
 ·intro k hk;simp only[own']at hk;split at hk
  ·exact absurd rfl hk
  ·exact hd.ol k hk
 ·intro j;rw[gM];by_cases e:i=j
  ·subst e;simp only[if_true];have hr:=hd.slots i;rw[hT]at hr;simp only[Rep]at hr ⊢;refine⟨hr.2,b,off,oe.drop off,hr.1,.inr rfl,?_,?_⟩
   ·have:=hrow.cut off oe.length;rw[take_of_length_le zH,Nat.zero_add]at this;exact this
   ·obtain⟨f',h1,h2⟩:=(au.ext (F':=F') hid (λb hb=>⟨.inl hb,trivial⟩) (λ_ _=>trivial) hl0).cut off (cells.length+oe.length);rw[take_of_length_le (by simp;omega),take_of_length_le (by simp;omega)]at h1;have:f'=[]:=List.eq_nil_iff_forall_not_mem.2 λb hb=>by simpa using h2 b hb
    rw[this]at h1;exact h1
  ·simp only[if_neg e];exact Rep.ext hid (λb hb=>⟨.inl hb,trivial⟩) (λ_ _=>trivial) (hd.slots j)
 ·intro j k hk;have:=hd.so j k hk;rw[hnot k (λe=>by rw[e,hkey]at this;cases this)];exact this
 ·intro q cs hq;simp only[O]at hq;split at hq
  ·cases hq
  ·rename_i hne;have QJ:q≠b:=λe=>hne e.symm;obtain⟨g1,g2,g3,c,Ty,vals,rst,g4,g5,g6⟩:=hd.obj q cs hq;refine⟨by rw[hnot q QJ];exact g1,g2,λk hk=>by rw[hnot k (λe=>by have:=g3 k hk;rw[e,hkey]at this;cases this)];exact g3 k hk,c,Ty,vals,rst,g4,g5,?_⟩;exact au.ext hid (λb hb=>⟨.inl hb,trivial⟩) (λ_ _=>trivial) g6
