/- Part of a proof. -/
import Derived.Test.YtpelkkfkecfmbaaGreatDoorH27
set_option linter.all false
open Go.Proofs.Tryz
namespace Go.Dt
open Go Go.Ab
section
def Bm:∀ (l:List ae) (kind:Int) (bd:Bool),kA l kind bd=true->∀ n∈l,gq kind bd n=true/\∃ b,kA n.af n.aj b=true
 | x::xs,kind,bd,hA,n,hn=>by
  rw [qi] at hA;simp only [Bool.and_eq_true] at hA;rcases List.mem_cons.1 hn with e|hn
  ·rw [e];exact ⟨hA.1.1,_,hA.1.2.2⟩
  ·exact Bm xs kind bd hA.2 n hn
def JV:∀ {s:List ae} {n c:ae},c∈s->c.aj=6->n∈dk c.af->n∈dk s
 | x::xs,n,c,hc,h6,hin=>by
  rw [iP,List.mem_append];rcases List.mem_cons.1 hc with e|hc1
  ·subst e;rw [if_neg (by rw [h6];simp [cg]),if_pos (.inr h6)];exact .inl hin
  ·exact .inr (JV hc1 h6 hin)
section
variable (fmt : Int -> Str) (t : List ah)
def fL:Nat->List ae->List Str->List Int->List ah->List bB
 | 0,_,_,_,_=>[]
 | f+1,s,names,at0,l=>s.flatMap fun n =>
  if n.aj=5 then
   let c:=(n.af.filter fun k=>hasB k.af l).length
   let w:=ck fmt t at0 n.aG
   flt (decide (0<c) && !w) 6 names at0++flt (decide (1<c)) 3 names at0++flt (decide (c=0) && n.bD && w) 2 names at0 ++
   n.af.flatMap fun k=>if hasB k.af l=true then flt (!ck fmt t at0 k.aG) 6 names at0++fL f k.af names at0 l else []
  else
   let nm:=names++[n.ag]
   let gone:=ck fmt t (at0++[-1]) n.aG
   if n.aj=2\/n.aj=4 then
    flt (decide (((cJ n.ag l).length:Int)<n.eJ) && gone || decide (0<n.dU) && decide (n.dU<((cJ n.ag l).length:Int))) 4 nm at0 ++
    (List.range l.length).flatMap fun i=>if ndP n.ag (at_ l i)=true then
     ij fmt t n nm (at0++[(i:Int)]) (at_ l i) ++
     flt ((plF (fun j=>ndP n.ag (at_ l j)) i).any fun j=>iC n (at_ l j) (at_ l i)) 5 nm (at0++[(i:Int)]) ++
     (if n.aj=2 then fL f n.af nm (at0++[(i:Int)]) (at_ l i).af else []) else []
   else if 0<=idx (ndP n.ag) l then
    ij fmt t n nm (at0++[((idx (ndP n.ag) l).toNat:Int)]) (at_ l (idx (ndP n.ag) l).toNat) ++
    fL f n.af nm (at0++[((idx (ndP n.ag) l).toNat:Int)]) (at_ l (idx (ndP n.ag) l).toNat).af
   else if n.aj=3 then flt (n.bD && gone) 2 nm at0
   else if n.aj=1 then (if (!n.aZ && gone)=true then fL f n.af nm (at0++[-1]) [] else [])
   else []
theorem P9(f:Nat)(names:List Str)(at0:List Int)(l:List ah):fL fmt t f [] names at0 l=[]:=by cases f<;>simp [fL]
theorem wZ:∀ (f:Nat) (s:List ae) (names:List Str) (at0:List Int) (l:List ah) (kind:Int) (bd:Bool),¬ kind=5->kA s kind bd=true->uqN f s l->gu fmt t f s names at0 l=fL fmt t f s names at0 l
 | 0,_,_,_,_,_,_,_,_,_=>rfl
 | f+1,s,names,at0,l,kind,bd,hk,hA,hu=>by
  rw [gu,fL];refine oy fun n hn=>?_;obtain ⟨ho,b,hkA⟩:=Bm s kind bd hA n hn;have ho':=ho;simp only [gq,j9,iT,Bool.and_eq_true,Bool.or_eq_true,Bool.not_eq_true',Bool.or_eq_false_iff,decide_eq_false_iff_not,decide_eq_true_eq] at ho';have h7:¬ n.aj=7:=ho'.1.1.1.1.2
  have h6:¬ n.aj=6:=fun c=>by
   have:=ho;simp only [gq,Bool.and_eq_true,beq_iff_eq,decide_eq_decide] at this;exact hk (this.1.1.1.2.1 c)
  simp only;by_cases h5:n.aj=5
  ·rw [if_pos h5,if_pos h5];simp only [has_eq]
   congr 1
   refine oy fun k hkm=>?_;rw [h5] at hkA;obtain ⟨hok,b2,hk2⟩:=Bm _ _ _ hkA k hkm
   have hk6:k.aj=6:=by
    simp only [gq,Bool.and_eq_true,beq_iff_eq,decide_eq_decide] at hok;exact hok.1.1.1.2.2 trivial
   have hsub:∀ m∈dk k.af,m∈dk s:=fun m hm=>Hl hn h5 (JV hkm hk6 hm);rw [hk6] at hk2;rw [wZ f k.af names at0 l 6 b2 baa hk2 (Rp hsub (EW f s l hu))]
  ·rw [if_neg h5,if_neg h5];have oK:=ho'.1.1.1.1.1.2.2
   have h14:n.aj=1\/n.aj=2\/n.aj=3\/n.aj=4:=by
    simp only [fw] at oK;by_cases c1:n.aj=1;exact .inl c1;by_cases c2:n.aj=2;exact .inr (.inl c2);by_cases c3:n.aj=3;exact .inr (.inr (.inl c3));by_cases c4:n.aj=4;exact .inr (.inr (.inr c4));rw [if_neg (by rintro (c|c|c);exact c1 c;exact h5 c;exact h6 c),if_neg c2,if_neg c3,if_neg c4,if_neg h7] at oK;simp at oK
   have CC:cg n.aj=true:=by simp only [cg,Bool.and_eq_true,decide_eq_true_eq];omega
   obtain ⟨hu1,hu2⟩:=hu n (Bx hn CC);by_cases hr:n.aj=2\/n.aj=4
   ·have h3:¬ n.aj=3:=by omega
    have h1:¬ n.aj=1:=by omega
    rw [if_neg h3,if_pos hr,if_pos hr]
    have hsz:0<=n.dU:=by
     have:lX n=true:=by
      simp only [fw] at oK;rcases hr with c|c
      ·rw [if_neg (by rintro (x|x|x)<;>omega),if_pos c] at oK;simp only [Bool.and_eq_true] at oK;exact oK.2
      ·rw [if_neg (by rintro (x|x|x)<;>omega),if_neg Ir,if_neg Ir,if_pos c] at oK;simp only [Bool.and_eq_true] at oK;exact oK.2
     simp only [lX,Bool.and_eq_true,Bool.or_eq_true,decide_eq_true_eq] at this;omega
    congr 1
    ·congr 1
     congr 1
     congr 1
     rw [Bool.eq_iff_iff];simp only [Bool.not_eq_true',decide_eq_false_iff_not,decide_eq_true_eq];omega
    ·have:=BX (fun j=>ndP n.ag (at_ l j)) (fun i pre=>ij fmt t n (names++[n.ag]) (at0++[(i:Int)]) (at_ l i)++flt (decide (n.aj=2) && pre.any fun j=>iC n (at_ l j) (at_ l i)) 5 (names++[n.ag]) (at0++[(i:Int)])++(if n.aj=1\/n.aj=2 then gu fmt t f n.af (names++[n.ag]) (at0++[(i:Int)]) (at_ l i).af else [])) l.length;refine Eq.trans this ?_;refine oy fun i hi=>?_;by_cases hp:ndP n.ag (at_ l i)=true
     ·rw [if_pos hp,if_pos hp];have hi':=List.mem_range.1 hi
      have hmem:at_ l i∈l.filter (ndP n.ag):=List.mem_filter.2 ⟨at_mem hi',hp⟩;rcases hr with c|c
      ·rw [if_pos (.inr c),if_pos c,wZ f n.af _ _ _ n.aj b Ir hkA (hu2 (.inr c) _ hmem)];simp [c]
      ·have hun:n.ay.isEmpty=true:=by
        have:=ho'.1.1.1.1.1.2.1.1.1.1.1.1.1.2;rcases this with x|x
        ·omega
        ·exact x.2
       rw [if_neg Ir,if_neg Ir];have hs0:∀ a b,iC n a b=false:=fun a b=>by simp [iC,hun]
       have ha:∀ L:List Nat,(L.any fun _=>false)=false:=fun L=>by induction L<;>simp_all
       simp [c,hs0,ha]
     ·rw [if_neg hp,if_neg hp]
   ·have h13:n.aj=1\/n.aj=3:=by omega
    have hone:=R9 (hu1 h13)
    have hr2:¬ n.aj=2:=by omega
    rw [if_neg hr,if_neg hr];by_cases h0:0<=idx (ndP n.ag) l
    ·obtain ⟨q1,q2,q3⟩:=dF h0;have hmem:at_ l (idx (ndP n.ag) l).toNat∈l.filter (ndP n.ag):=List.mem_filter.2 ⟨q3,q2⟩;rw [if_pos h0] at hone;rw [if_pos h0];generalize (idx (ndP n.ag) l).toNat=I at hone hmem ⊢;rw [hone];have hI:at_ [I] 0=I:=rfl;rcases h13 with c|c
     ·have e1:=wZ f n.af (names++[n.ag]) (at0++[(I:Int)]) (at_ l I).af n.aj b Ir hkA (hu2 (.inl c) _ hmem)
      have h3:¬ n.aj=3:=by omega
      rw [if_neg h3,if_pos c];simp only [List.length_cons,List.length_nil,Nat.zero_add,List.range_one,List.flatMap_cons,List.flatMap_nil,List.append_nil,hI,if_pos (Or.inl c:n.aj=1\/n.aj=2),e1];simp [flt,hr2]
     ·have abq:n.af=[]:=by
       have:=ho'.1.1.1.1.1.2.1.2;rcases this with x|x
       ·exact absurd c x.1
       ·simpa using x
      have h12:¬ (n.aj=1\/n.aj=2):=by omega
      rw [if_pos c,abq,P9];simp only [List.length_cons,List.length_nil,Nat.zero_add,List.range_one,List.flatMap_cons,List.flatMap_nil,List.append_nil,hI,if_neg h12];simp [flt,hr2]
    ·rw [if_neg h0] at hone;rw [if_neg h0,hone];rcases h13 with c|c
     ·have h3:¬ n.aj=3:=by omega
      have e1:=wZ f n.af (names++[n.ag]) (at0++[-1]) [] n.aj b Ir hkA (BM f _);rw [if_neg h3,if_pos c,if_neg h3,if_pos c,e1];simp
     ·rw [if_pos c,if_pos c];simp
end
end
section
def Bz:∀ (s:List ae),∀ n∈dk s,1+aW n.af<=aW s
 | [],n,h=>by simp [dk] at h
 | .mk k a b c d e f g h i j l m nn ks::xs,n,hn=>by
  rw [dk,List.mem_append] at hn;rw [aW];rcases hn with hn|hn
  ·split at hn
   ·rw [List.mem_singleton] at hn;subst hn;exact Nat.le_max_left _ _
   ·split at hn
    ·have:=Bz ks n hn;omega
    ·simp at hn
  ·have:=Bz xs n hn;omega
def Lc(fmt:Int->Str)(s:List ae)(l:List ah):List bB :=
 if (iF s).1=0/\bV s l=true then fL fmt (gW (aW s+1) s l) (aW s+1) s [] [] (gW (aW s+1) s l) else [⟨1,[],[]⟩]
def JK(fmt:Int->Str)(s:List ae)(l:List ah):uS fmt s l=Lc fmt s l:=by
 rw [uS,Lc];by_cases h:(iF s).1=0/\bV s l=true
 ·rw [if_pos h,if_pos h,<- JP h.2];have hs:=h.2;simp only [bV,fX,kR,Bool.and_eq_true,decide_eq_true_eq] at hs;exact wZ fmt _ _ s [] [] _ 0 false baa hs.1.1.2.2 (TH h.2 _)
 ·rw [if_neg h,if_neg h]
end
section
def iB(l:List ae):AV.bg (l.map (aq false))=l.map (aq false):=by rw [AV.ng,List.map_map];refine List.map_congr_left fun x _=>?_;simp only [Function.comp,dI,AV.frz,AV.bg,cond_false]
def oq(l:List ah):AV.bg (l.map (ak false))=l.map (ak false):=by rw [AV.ng,List.map_map];refine List.map_congr_left fun x _=>?_;simp only [Function.comp,dD,AV.frz,AV.bg,cond_false]
end
end Go.Dt
namespace Go.Proofs
open Go.Ab Go.Dt
instance KU(l:List ae):iM lim prog 156 [.sl false 19 (l.map (aq false))] (.sl false 19 ((dk l).map (aq false))) (aH l<=1048576) :=
 ⟨(aU 156),fun c=>by
  have:=((mD l).pure c).frz
  simpa only [AV.frz,AV.bg,iB,cond_true] using this⟩
end Go.Proofs
