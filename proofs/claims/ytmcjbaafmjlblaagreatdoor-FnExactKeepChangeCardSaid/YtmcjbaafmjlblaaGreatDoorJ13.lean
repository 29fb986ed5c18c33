/- A part. -/
import Derived.Test.YtmcjbaafmjlblaaGreatDoorJ10
set_option linter.all false
namespace Go.Dt
open Go.Ab
theorem cv{s:Str}{i:Nat}{c:Int}:dN s i c=true↔i<s.length/\at8 s i=c:=by simp [dN]
theorem HF{s:Str}:∀ (n i:Nat) (has:Nat->Bool) (h':Nat->Bool) (k:Nat),s.length - i<n->nR s i has=some (h',k)->i<k/\k<=s.length
 | 0,_,_,_,_,h,_=>by omega
 | n+1,i,has,h',k,hn,h=>by
  rw [nR] at h
  split at h
  ·rename_i h1
   have:=cv.1 h1
   simp only [Option.some.injEq,Prod.mk.injEq] at h;omega
  ·split at h
   ·cases h
   ·rename_i a z j he
    have h2:=Bn he
    have:=HF n j _ h' k (by omega) h
    omega
theorem Nn{s:Str}{i:Nat}{p:bq}{j:Nat}(h:jD s i=some (p,j)):i<j/\j<=s.length:=by
 unfold jD at h
 split at h
 ·rename_i h1
  have:=cv.1 h1
  simp only [Option.some.injEq,Prod.mk.injEq] at h;omega
 ·split at h
  ·split at h
   ·cases h
   ·rename_i a z k he
    have h2:=Bn he
    split at h
    ·cases h
    ·rename_i has k' hc
     have:=HF (s.length+1) _ _ _ _ (by omega) hc
     simp only [Option.some.injEq,Prod.mk.injEq] at h;omega
  ·split at h
   ·rename_i h3
    simp only [Bool.and_eq_true,decide_eq_true_eq] at h3
    simp only [Option.some.injEq,Prod.mk.injEq] at h;omega
   ·cases h
theorem pBd(s:Str):∀ n:Nat,
  (∀ i p j,5 * (s.length - i)+4<n->i<=s.length->gQ s i=some (p,j)->i<=j/\j<=s.length) /\
  (∀ i l p j,5 * (s.length - i)+3<n->i<=s.length->kO s i l=some (p,j)->i<=j/\j<=s.length) /\
  (∀ i l p j,5 * (s.length - i)+2<n->i<=s.length->gD s i l=some (p,j)->i<=j/\j<=s.length) /\
  (∀ i p j,5 * (s.length - i)+1<n->ji s i=some (p,j)->i<j/\j<=s.length)
 | 0=>⟨by omega,by omega,by omega,by omega⟩
 | n+1=>by
  obtain ⟨i1,i2,i3,i4⟩:=pBd s n
  refine ⟨?_,?_,?_,?_⟩
  ·intro i p j hn hi h
   rw [gQ] at h
   split at h
   ·cases h
   ·rename_i q k hq
    split at h
    ·have a1:=i3 i [] q k (by omega) hi hq
     have a2:=i2 k [q] p j (by omega) (by omega) h
     omega
    ·cases h
  ·intro i l p j hn hi h
   rw [kO] at h
   split at h
   ·split at h
    ·split at h
     ·cases h
     ·rename_i q k hq
      split at h
      ·have a1:=i3 (i+1) [] q k (by omega) (by omega) hq
       have a2:=i2 k (l++[q]) p j (by omega) (by omega) h
       omega
      ·cases h
    ·simp only [Option.some.injEq,Prod.mk.injEq] at h;omega
   ·simp only [Option.some.injEq,Prod.mk.injEq] at h;omega
  ·intro i l p j hn hi h
   rw [gD] at h
   split at h
   ·split at h
    ·simp only [Option.some.injEq,Prod.mk.injEq] at h;omega
    ·split at h
     ·cases h
     ·rename_i q k hq
      split at h
      ·rename_i hlt
       have a1:=i4 i q k (by omega) hq
       have a3:=Gs s q a1.2
       have a2:=i3 _ _ p j (by omega) a3 h
       omega
      ·cases h
   ·simp only [Option.some.injEq,Prod.mk.injEq] at h;omega
  ·intro i p j hn h
   rw [ji] at h
   split at h
   ·split at h
    ·split at h
     ·cases h
     ·rename_i q k hq
      split at h
      ·rename_i h41
       have a1:=i1 (i+1) q k (by omega) (by omega) hq
       have:=cv.1 h41
       simp only [Option.some.injEq,Prod.mk.injEq] at h;omega
      ·cases h
    ·exact Nn h
   ·cases h
theorem xK{s:Str}{i:Nat}{p:bq}{j:Nat}(h:ji s i=some (p,j)):i<j/\j<=s.length:=(pBd s _).2.2.2 i p j (Nat.lt_succ_self _) h
theorem Gw{s:Str}{i:Nat}{l:List bq}{p:bq}{j:Nat}(hi:i<=s.length)(h:gD s i l=some (p,j)):i<=j/\j<=s.length:=(pBd s _).2.2.1 i l p j (Nat.lt_succ_self _) hi h
def kN(s:Str)(i:Nat):Option (bq×Nat) :=
 match ji s i with
 | none=>none
 | some (p,j)=>some (post s p j)
theorem DI{s:Str}{i:Nat}{p:bq}{j:Nat}(h:kN s i=some (p,j)):i<j/\j<=s.length:=by
 unfold kN at h
 split at h
 ·cases h
 ·rename_i q k hq
  have a1:=xK hq
  have a2:=OT s q k
  have a3:=Gs s q a1.2
  simp only [Option.some.injEq] at h
  rw [h] at a2 a3
  omega
theorem qx{s:Str}{i:Nat}(l:List bq)(h:i<s.length->at8 s i=124\/at8 s i=41):gD s i l=some (mkSeq l,i):=by
 rw [gD]
 split
 ·rename_i hi;rw [if_pos (h hi)]
 ·rfl
theorem BK{s:Str}{i:Nat}(l:List bq)(hi:i<s.length)(h1:¬ at8 s i=124)(h2:¬ at8 s i=41)(h:kN s i=none):gD s i l=none:=by
 rw [gD,dif_pos hi,if_neg (by omega)]
 unfold kN at h
 split at h
 ·rename_i hq;rw [hq]
 ·cases h
theorem Gv{s:Str}{i:Nat}(l:List bq){p:bq}{j:Nat}(hi:i<s.length)(h1:¬ at8 s i=124)(h2:¬ at8 s i=41)(h:kN s i=some (p,j)):gD s i l=gD s j (l++[p]):=by
 have hb:=DI h
 conv=>lhs;rw [gD]
 rw [dif_pos hi,if_neg (by omega)]
 unfold kN at h
 split at h
 ·cases h
 ·rename_i q k hq
  simp only [Option.some.injEq] at h
  rw [hq]
  simp only [h]
  rw [dif_pos hb.1]
theorem BL{s:Str}{i:Nat}(h:gD s i []=none):gQ s i=none:=by rw [gQ,h]
theorem Gx{s:Str}{i:Nat}{p:bq}{j:Nat}(hi:i<=s.length)(h:gD s i []=some (p,j)):gQ s i=kO s j [p]:=by
 have:=Gw hi h
 rw [gQ,h];simp only [if_pos this.1]
theorem zg{s:Str}{j:Nat}(l:List bq)(h:dN s j 124=false):kO s j l=some (sR l,j):=by
 rw [kO]
 split
 ·rename_i hj
  rw [if_neg]
  intro e
  rw [lg ⟨hj,e⟩] at h;cases h
 ·rfl
theorem zh{s:Str}{j:Nat}(l:List bq)(h:dN s j 124=true)(hq:gD s (j+1) []=none):kO s j l=none:=by
 have:=cv.1 h
 rw [kO,dif_pos this.1,if_pos this.2,hq]
theorem DJ{s:Str}{j:Nat}(l:List bq){p:bq}{k:Nat}(h:dN s j 124=true)(hq:gD s (j+1) []=some (p,k)):kO s j l=kO s k (l++[p]):=by
 have:=cv.1 h
 have hb:=Gw (by omega) hq
 conv=>lhs;rw [kO]
 rw [dif_pos this.1,if_pos this.2,hq]
 simp only [if_pos (show j<k by omega)]
theorem xh{s:Str}{i:Nat}(h:dN s i 40=true)(hq:gQ s (i+1)=none):ji s i=none:=by
 have:=cv.1 h
 rw [ji,dif_pos this.1,if_pos this.2,hq]
theorem xg{s:Str}{i:Nat}{p:bq}{j:Nat}(h:dN s i 40=true)(hq:gQ s (i+1)=some (p,j))(h1:dN s j 41=true):ji s i=some (p,j+1):=by
 have:=cv.1 h
 rw [ji,dif_pos this.1,if_pos this.2,hq];simp only [h1,if_true]
theorem xe{s:Str}{i:Nat}{p:bq}{j:Nat}(h:dN s i 40=true)(hq:gQ s (i+1)=some (p,j))(h1:dN s j 41=false):ji s i=none:=by
 have:=cv.1 h
 rw [ji,dif_pos this.1,if_pos this.2,hq];simp only [h1];rfl
theorem zf{s:Str}{i:Nat}(hi:i<s.length)(h:dN s i 40=false):ji s i=jD s i:=by
 rw [ji,dif_pos hi,if_neg]
 intro e;rw [lg ⟨hi,e⟩] at h;cases h
end Go.Dt
