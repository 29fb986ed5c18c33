/- Part of a proof. -/
import Derived.Test.YtbiikafnjialjaaGreatDoorG9
set_option linter.all false
namespace Go.Dt
open Go.Ab
theorem cw{s:Str}{i:Nat}{c:Int}:dJ s i c=true↔i<s.length/\at8 s i=c:=by simp [dJ]
theorem Fv{s:Str}:∀ (n i:Nat) (has:Nat->Bool) (h':Nat->Bool) (k:Nat),s.length - i<n->nj s i has=some (h',k)->i<k/\k<=s.length
 | 0,_,_,_,_,h,_=>by omega
 | n+1,i,has,h',k,hn,h=>by
  rw [nj] at h
  split at h
  ·rename_i h1
   have:=cw.1 h1
   simp only [Option.some.injEq,Prod.mk.injEq] at h;omega
  ·split at h
   ·cases h
   ·rename_i a z j he
    have h2:=zI he
    have:=Fv n j _ h' k (by omega) h
    omega
theorem KE{s:Str}{i:Nat}{p:bg}{j:Nat}(h:jn s i=some (p,j)):i<j/\j<=s.length:=by
 unfold jn at h
 split at h
 ·rename_i h1
  have:=cw.1 h1
  simp only [Option.some.injEq,Prod.mk.injEq] at h;omega
 ·split at h
  ·split at h
   ·cases h
   ·rename_i a z k he
    have h2:=zI he
    split at h
    ·cases h
    ·rename_i has k' hc
     have:=Fv (s.length+1) _ _ _ _ (by omega) hc
     simp only [Option.some.injEq,Prod.mk.injEq] at h;omega
  ·split at h
   ·rename_i h3
    simp only [Bool.and_eq_true,decide_eq_true_eq] at h3
    simp only [Option.some.injEq,Prod.mk.injEq] at h;omega
   ·cases h
theorem pBd(s:Str):∀ n:Nat,
  (∀ i p j,5 * (s.length - i)+4<n->i<=s.length->gE s i=some (p,j)->i<=j/\j<=s.length) /\
  (∀ i l p j,5 * (s.length - i)+3<n->i<=s.length->ke s i l=some (p,j)->i<=j/\j<=s.length) /\
  (∀ i l p j,5 * (s.length - i)+2<n->i<=s.length->gp s i l=some (p,j)->i<=j/\j<=s.length) /\
  (∀ i p j,5 * (s.length - i)+1<n->iT s i=some (p,j)->i<j/\j<=s.length)
 | 0=>⟨by omega,by omega,by omega,by omega⟩
 | n+1=>by
  obtain ⟨i1,i2,i3,i4⟩:=pBd s n
  refine ⟨?_,?_,?_,?_⟩
  ·intro i p j hn hi h
   rw [gE] at h
   split at h
   ·cases h
   ·rename_i q k hq
    split at h
    ·have a1:=i3 i [] q k (by omega) hi hq
     have a2:=i2 k [q] p j (by omega) (by omega) h
     omega
    ·cases h
  ·intro i l p j hn hi h
   rw [ke] at h
   split at h
   ·split at h
    ·split at h
     ·cases h
     ·rename_i q k hq
      split at h
      ·have a1:=i3 (i+1) [] q k (by omega) (by omega) hq
       have a2:=i2 k (l++[q]) p j (by omega) (by omega) h
       omega
      ·cases h
    ·simp only [Option.some.injEq,Prod.mk.injEq] at h;omega
   ·simp only [Option.some.injEq,Prod.mk.injEq] at h;omega
  ·intro i l p j hn hi h
   rw [gp] at h
   split at h
   ·split at h
    ·simp only [Option.some.injEq,Prod.mk.injEq] at h;omega
    ·split at h
     ·cases h
     ·rename_i q k hq
      split at h
      ·rename_i hlt
       have a1:=i4 i q k (by omega) hq
       have a3:=EO s q a1.2
       have a2:=i3 _ _ p j (by omega) a3 h
       omega
      ·cases h
   ·simp only [Option.some.injEq,Prod.mk.injEq] at h;omega
  ·intro i p j hn h
   rw [iT] at h
   split at h
   ·split at h
    ·split at h
     ·cases h
     ·rename_i q k hq
      split at h
      ·rename_i h41
       have a1:=i1 (i+1) q k (by omega) (by omega) hq
       have:=cw.1 h41
       simp only [Option.some.injEq,Prod.mk.injEq] at h;omega
      ·cases h
    ·exact KE h
   ·cases h
theorem wG{s:Str}{i:Nat}{p:bg}{j:Nat}(h:iT s i=some (p,j)):i<j/\j<=s.length:=(pBd s _).2.2.2 i p j (Nat.lt_succ_self _) h
theorem ET{s:Str}{i:Nat}{l:List bg}{p:bg}{j:Nat}(hi:i<=s.length)(h:gp s i l=some (p,j)):i<=j/\j<=s.length:=(pBd s _).2.2.1 i l p j (Nat.lt_succ_self _) hi h
def j9(s:Str)(i:Nat):Option (bg×Nat) :=
 match iT s i with
 | none=>none
 | some (p,j)=>some (post s p j)
theorem Cu{s:Str}{i:Nat}{p:bg}{j:Nat}(h:j9 s i=some (p,j)):i<j/\j<=s.length:=by
 unfold j9 at h
 split at h
 ·cases h
 ·rename_i q k hq
  have a1:=wG hq
  have a2:=LJ s q k
  have a3:=EO s q a1.2
  simp only [Option.some.injEq] at h
  rw [h] at a2 a3
  omega
theorem qb{s:Str}{i:Nat}(l:List bg)(h:i<s.length->at8 s i=124\/at8 s i=41):gp s i l=some (mkSeq l,i):=by
 rw [gp]
 split
 ·rename_i hi;rw [if_pos (h hi)]
 ·rfl
theorem Ag{s:Str}{i:Nat}(l:List bg)(hi:i<s.length)(h1:¬ at8 s i=124)(h2:¬ at8 s i=41)(h:j9 s i=none):gp s i l=none:=by
 rw [gp,dif_pos hi,if_neg (by omega)]
 unfold j9 at h
 split at h
 ·rename_i hq;rw [hq]
 ·cases h
theorem ES{s:Str}{i:Nat}(l:List bg){p:bg}{j:Nat}(hi:i<s.length)(h1:¬ at8 s i=124)(h2:¬ at8 s i=41)(h:j9 s i=some (p,j)):gp s i l=gp s j (l++[p]):=by
 have hb:=Cu h
 conv=>lhs;rw [gp]
 rw [dif_pos hi,if_neg (by omega)]
 unfold j9 at h
 split at h
 ·cases h
 ·rename_i q k hq
  simp only [Option.some.injEq] at h
  rw [hq]
  simp only [h]
  rw [dif_pos hb.1]
theorem Ah{s:Str}{i:Nat}(h:gp s i []=none):gE s i=none:=by rw [gE,h]
theorem EU{s:Str}{i:Nat}{p:bg}{j:Nat}(hi:i<=s.length)(h:gp s i []=some (p,j)):gE s i=ke s j [p]:=by
 have:=ET hi h
 rw [gE,h];simp only [if_pos this.1]
theorem xX{s:Str}{j:Nat}(l:List bg)(h:dJ s j 124=false):ke s j l=some (su l,j):=by
 rw [ke]
 split
 ·rename_i hj
  rw [if_neg]
  intro e
  rw [kO ⟨hj,e⟩] at h;cases h
 ·rfl
theorem xY{s:Str}{j:Nat}(l:List bg)(h:dJ s j 124=true)(hq:gp s (j+1) []=none):ke s j l=none:=by
 have:=cw.1 h
 rw [ke,dif_pos this.1,if_pos this.2,hq]
theorem Cv{s:Str}{j:Nat}(l:List bg){p:bg}{k:Nat}(h:dJ s j 124=true)(hq:gp s (j+1) []=some (p,k)):ke s j l=ke s k (l++[p]):=by
 have:=cw.1 h
 have hb:=ET (by omega) hq
 conv=>lhs;rw [ke]
 rw [dif_pos this.1,if_pos this.2,hq]
 simp only [if_pos (show j<k by omega)]
theorem vS{s:Str}{i:Nat}(h:dJ s i 40=true)(hq:gE s (i+1)=none):iT s i=none:=by
 have:=cw.1 h
 rw [iT,dif_pos this.1,if_pos this.2,hq]
theorem vR{s:Str}{i:Nat}{p:bg}{j:Nat}(h:dJ s i 40=true)(hq:gE s (i+1)=some (p,j))(h1:dJ s j 41=true):iT s i=some (p,j+1):=by
 have:=cw.1 h
 rw [iT,dif_pos this.1,if_pos this.2,hq];simp only [h1,if_true]
theorem vQ{s:Str}{i:Nat}{p:bg}{j:Nat}(h:dJ s i 40=true)(hq:gE s (i+1)=some (p,j))(h1:dJ s j 41=false):iT s i=none:=by
 have:=cw.1 h
 rw [iT,dif_pos this.1,if_pos this.2,hq];simp only [h1];rfl
theorem xW{s:Str}{i:Nat}(hi:i<s.length)(h:dJ s i 40=false):iT s i=jn s i:=by
 rw [iT,dif_pos hi,if_neg]
 intro e;rw [kO ⟨hi,e⟩] at h;cases h
end Go.Dt
