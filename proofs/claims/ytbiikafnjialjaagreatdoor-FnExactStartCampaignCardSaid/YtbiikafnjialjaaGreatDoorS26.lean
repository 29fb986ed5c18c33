/- Part of a proof. -/
import Derived.Test.YtbiikafnjialjaaGreatDoorProg
import Derived.Test.YtbiikafnjialjaaGreatDoorS25
set_option linter.all false
open Go.Proofs.Tryz
open List
namespace Go.Proofs
open Go.Ab Go.RowKit
def yx{w:World}{b:Nat}{o:Obj}(h:w.heap[b]? = some o):b<w.heap.size:=(Array.getElem?_eq_some_iff.1 h).1
set_option maxRecDepth 1000000 in
set_option maxHeartbeats 4000000 in
def Ex(w:World)(b n cap vb m vc:Nat)(c cx:Array Value)(Ty Tx:TypeId)(hx:w.heap[vb]? = some (.cells cx Tx (0,0)))(hvl:m * 3<=cx.size)(hm:0<m)(h1x:∀(k:Nat) (v:Value),k<m * 3->cx[k]? = some v->v.oneCell'=true)(hc:w.heap[b]? = some (.cells c Ty (0,0)))(hnc:n<=cap)(hcs:cap * 3<=c.size)(h1c:∀(k:Nat) (v:Value),k<n * 3->c[k]? = some v->v.oneCell'=true)(hvb:vb≠b)(hroom:n+m<=cap):Calls prog 344 #[.slice (some ⟨b,0,none⟩) n cap,.int .i64 (n:Nat),.slice (some ⟨vb,0,none⟩) m vc] w (j7 w (some b) 3 (n+m) (c.toList.take (n * 3)++cx.toList.take (m * 3))):=by
 obtain ⟨i0,hi0,hz0,hz1,hz2⟩:=info_parts (P:=prog) (e:=140) (z:=(.agg #[.string "".toUTF8,.string "".toUTF8,.slice none 0 0])) (size:=3) (bytes:=56) caa;have ht:(prog).underlying 34=some (.slice 140):=by kernel_rfl
 have hti:(prog).underlying 3=some (.int .i64):=by kernel_rfl
 obtain⟨xs,hxs,hxl,mE,kZ,hsrc⟩:=uz (P:=prog) (vc:=vc) ht hz1 hx hvl h1x;have hns:n * 3<=c.size:=Nat.le_trans (Nat.mul_le_mul_right _ hnc) hcs;obtain⟨os,hos,hol,qP,mS⟩:=yt hc hns h1c;have hm0:¬((m:Int)=0):=by omega
 obtain⟨c1,hc1⟩:∃c1:Array Value,c1=(c.toList.take (n * 3)++xs++c.toList.drop (n * 3+xs.length)).toArray:=⟨_,rfl⟩
 obtain⟨W1,hW1⟩:∃W1,W1=w.setRow b c1:=⟨_,rfl⟩
 have hfit:n * 3+xs.length<=c.size:=by rw[hxl,<- Nat.add_mul];exact Nat.le_trans (Nat.mul_le_mul_right _ hroom) hcs
 have hrun:∀ty,(Builtin.append_ #[34,34] ty #[.slice (some ⟨b,0,none⟩) n cap,.slice (some ⟨vb,0,none⟩) m vc]).run prog w=.ok (.slice (some ⟨b,0,none⟩) (n+m) cap) W1:=λty=>by
  have:=wv (P:=prog) (tyr:=ty) ht hi0 (hsrc w rfl) b n cap c Ty hc mE hroom (by rw[hz1];exact hfit);rw[hz1,<- hc1,<- hW1]at this;exact this
 have pI:c1.size=c.size:=by
  have:c.toList.length=c.size:=by simp
  rw[hc1];simp only[size_toArray,length_append,length_take,length_drop];omega
 have hat:W1.heap[b]? = some (.cells c1 Ty (0,0)):=by rw[hW1];exact eE w b c1 c Ty _ hc
 have X:Aside (j7 w (some b) 3 (n+m) (c.toList.take (n * 3)++cx.toList.take (m * 3)) (.returned (.slice (some ⟨b,0,none⟩) (n+m) cap)) W1):=by
  refine⟨b,cap,c1,Ty,rfl,hroom,hat,by rw[pI];exact hcs,.inl rfl,λk hk=>?_,by rw[hW1];rfl,by rw[hW1];rfl,by rw[hW1];rfl,?_⟩
  ·rw[<- hxs]at hk ⊢;rw[hc1,<- Array.getElem?_toList,getElem?_append_left hk]
  ·rw[hW1];have:=Ext.setRow w b c1 c Ty _ hc pI;exact⟨this.size,λk hk=>this.same k ⟨hk.1,by simpa using hk.2⟩,this.shape⟩
 clear hc hx h1c h1x qP mS mE kZ hsrc hol hxl hos hxs hc1 hW1 hfit pI hat hcs hvl
 go_enter func344,ntmps344
 go_wp2_with (at_builtin;refine Lib.wpList_append_run _ rfl _ _ _ _ rfl _ _ rfl rfl _ _ (hrun _) ?_)
 go_ret
 exact X
set_option maxRecDepth 1000000 in
set_option maxHeartbeats 4000000 in
def Ey(w:World)(b n cap vb m vc:Nat)(c cx:Array Value)(Ty Tx:TypeId)(hx:w.heap[vb]? = some (.cells cx Tx (0,0)))(hvl:m * 3<=cx.size)(hm:0<m)(h1x:∀(k:Nat) (v:Value),k<m * 3->cx[k]? = some v->v.oneCell'=true)(hc:w.heap[b]? = some (.cells c Ty (0,0)))(hnc:n<=cap)(hcs:cap * 3<=c.size)(h1c:∀(k:Nat) (v:Value),k<n * 3->c[k]? = some v->v.oneCell'=true)(hvb:vb≠b)(hroom:cap<n+m)(qA:(n+m) * 56<=140737488355328):Calls prog 344 #[.slice (some ⟨b,0,none⟩) n cap,.int .i64 (n:Nat),.slice (some ⟨vb,0,none⟩) m vc] w (j7 w (some b) 3 (n+m) (c.toList.take (n * 3)++cx.toList.take (m * 3))):=by
 obtain ⟨i0,hi0,hz0,hz1,hz2⟩:=info_parts (P:=prog) (e:=140) (z:=(.agg #[.string "".toUTF8,.string "".toUTF8,.slice none 0 0])) (size:=3) (bytes:=56) caa;have ht:(prog).underlying 34=some (.slice 140):=by kernel_rfl
 have hti:(prog).underlying 3=some (.int .i64):=by kernel_rfl
 obtain⟨xs,hxs,hxl,mE,kZ,hsrc⟩:=uz (P:=prog) (vc:=vc) ht hz1 hx hvl h1x;have hns:n * 3<=c.size:=Nat.le_trans (Nat.mul_le_mul_right _ hnc) hcs;obtain⟨os,hos,hol,qP,mS⟩:=yt hc hns h1c;have hm0:¬((m:Int)=0):=by omega
 obtain⟨G,hG⟩:∃G,G=grownCap w (n+m) cap 140:=⟨_,rfl⟩
 have hGe:n+m<=G:=by rw[hG];exact grownCap_ge w _ _ _
 obtain ⟨ROW,o3⟩:∃ ROW:Array Value,ROW=os.toArray++xs.toArray++Builtin.zeroCells (Value.agg #[.string "".toUTF8,.string "".toUTF8,.slice none 0 0]).cells (G - (n+m)):=⟨_,rfl⟩
 obtain⟨W1,hW1⟩:∃W1,W1=w.drew.alloc (.cells ROW 140):=⟨_,rfl⟩
 have hrun:∀ty,(Builtin.append_ #[34,34] ty #[.slice (some ⟨b,0,none⟩) n cap,.slice (some ⟨vb,0,none⟩) m vc]).run prog w=.ok (.slice (some ⟨w.heap.size,0,none⟩) (n+m) G) W1:=λty=>by
  have:=AA (P:=prog) (tyr:=ty) ht hi0 hz0 (hsrc w rfl) ⟨b,0,none⟩ n cap os (by rw[hz1];exact hol) (λj v hj=>by rw[fW,Nat.zero_add];exact mS w rfl j v hj) hroom Um (by rw[hz2];exact qA);rw[<- hG,<- o3,<- hW1]at this;exact this
 have X:Aside (j7 w (some b) 3 (n+m) (c.toList.take (n * 3)++cx.toList.take (m * 3)) (.returned (.slice (some ⟨w.heap.size,0,none⟩) (n+m) G)) W1):=by
  refine⟨w.heap.size,G,ROW,140,rfl,hGe,by rw[hW1];exact gh w.drew _,?_,.inr (Nat.le_refl _),λk hk=>?_,by rw[hW1];rfl,by rw[hW1];rfl,by rw[hW1];rfl,?_⟩
  ·rw [o3];simp only [Array.size_append,size_toArray,hol,hxl];have:(Builtin.zeroCells (Value.agg #[.string "".toUTF8,.string "".toUTF8,.slice none 0 0]).cells (G - (n+m))).size=(G - (n+m)) * 3:=by simp [Builtin.zeroCells,Value.cells]
   rw[this];omega
  ·rw[<- hxs,<- hos]at hk ⊢;rw[o3,<- Array.getElem?_toList];simp only[Array.toList_append];rw[getElem?_append_left hk]
  ·rw[hW1];have:=Ext.mY w (.cells ROW 140) [b];exact⟨this.size,λk hk=>this.same k ⟨hk.1,by simpa using hk.2⟩,this.shape⟩
 clear hG o3 hW1;clear hc hx h1c h1x qP mS mE kZ hsrc hol hxl hos hxs hcs hvl
 go_enter func344,ntmps344
 go_wp2_with (at_builtin;refine Lib.wpList_append_run _ rfl _ _ _ _ rfl _ _ rfl rfl _ _ (hrun _) ?_)
 all_goals (go_ret;exact X)
set_option maxRecDepth 1000000 in
set_option maxHeartbeats 4000000 in
def PM(w:World)(vb m vc:Nat)(cx:Array Value)(Tx:TypeId)(hx:w.heap[vb]? = some (.cells cx Tx (0,0)))(hvl:m * 3<=cx.size)(hm:0<m)(h1x:∀(k:Nat) (v:Value),k<m * 3->cx[k]? = some v->v.oneCell'=true)(qA:m * 56<=140737488355328):Calls prog 344 #[.slice none 0 0,.int .i64 (0:Nat),.slice (some ⟨vb,0,none⟩) m vc] w (j7 w none 3 m (cx.toList.take (m * 3))):=by
 obtain ⟨i0,hi0,hz0,hz1,hz2⟩:=info_parts (P:=prog) (e:=140) (z:=(.agg #[.string "".toUTF8,.string "".toUTF8,.slice none 0 0])) (size:=3) (bytes:=56) caa;have ht:(prog).underlying 34=some (.slice 140):=by kernel_rfl
 have hti:(prog).underlying 3=some (.int .i64):=by kernel_rfl
 obtain⟨xs,hxs,hxl,mE,kZ,hsrc⟩:=uz (P:=prog) (vc:=vc) ht hz1 hx hvl h1x;have hm0:¬((m:Int)=0):=by omega
 obtain⟨G,hG⟩:∃G,G=grownCap w m 0 140:=⟨_,rfl⟩
 have hGe:m<=G:=by rw[hG];exact grownCap_ge w _ _ _
 obtain ⟨ROW,o3⟩:∃ ROW:Array Value,ROW=xs.toArray++Builtin.zeroCells (Value.agg #[.string "".toUTF8,.string "".toUTF8,.slice none 0 0]).cells (G - m):=⟨_,rfl⟩
 obtain⟨W1,hW1⟩:∃W1,W1=w.drew.alloc (.cells ROW 140):=⟨_,rfl⟩
 have hrun:∀ty,(Builtin.append_ #[34,34] ty #[.slice none 0 0,.slice (some ⟨vb,0,none⟩) m vc]).run prog w=.ok (.slice (some ⟨w.heap.size,0,none⟩) m G) W1:=λty=>by
  have:=Ds (P:=prog) (tyr:=ty) ht hi0 hz0 (hsrc w rfl) hm Um (by rw[hz2];exact qA);rw[<- hG,<- o3,<- hW1]at this;exact this
 have X:Aside (j7 w none 3 m (cx.toList.take (m * 3)) (.returned (.slice (some ⟨w.heap.size,0,none⟩) m G)) W1):=by
  refine⟨w.heap.size,G,ROW,140,rfl,hGe,by rw[hW1];exact gh w.drew _,?_,.inr (Nat.le_refl _),λk hk=>?_,by rw[hW1];rfl,by rw[hW1];rfl,by rw[hW1];rfl,?_⟩
  ·rw [o3];simp only [Array.size_append,size_toArray,hxl];have:(Builtin.zeroCells (Value.agg #[.string "".toUTF8,.string "".toUTF8,.slice none 0 0]).cells (G - m)).size=(G - m) * 3:=by simp [Builtin.zeroCells,Value.cells]
   rw[this];omega
  ·rw[<- hxs]at hk ⊢;rw[o3,<- Array.getElem?_toList];simp only[Array.toList_append];rw[getElem?_append_left hk]
  ·rw[hW1];have:=Ext.mY w (.cells ROW 140) [];exact⟨this.size,λk hk=>this.same k ⟨hk.1,Xp⟩,this.shape⟩
 clear hG o3 hW1 hx h1x mE kZ hsrc hxl hxs hvl
 go_enter func344,ntmps344
 go_wp2_with (at_builtin;refine Lib.wpList_append_run _ rfl _ _ _ _ rfl _ _ rfl rfl _ _ (hrun _) ?_)
 go_ret
 exact X
set_option maxRecDepth 1000000 in
set_option maxHeartbeats 4000000 in
def Ni(w:World)(b n cap i vb m vc:Nat)(c cx:Array Value)(Ty Tx:TypeId)(hx:w.heap[vb]? = some (.cells cx Tx (0,0)))(hvl:m * 3<=cx.size)(hm:0<m)(h1x:∀(k:Nat) (v:Value),k<m * 3->cx[k]? = some v->v.oneCell'=true)(hc:w.heap[b]? = some (.cells c Ty (0,0)))(hnc:n<=cap)(hcs:cap * 3<=c.size)(h1c:∀(k:Nat) (v:Value),k<n * 3->c[k]? = some v->v.oneCell'=true)(hvb:vb≠b)(hi:i<n)(hroom:cap<n+m)(qA:(n+m) * 56<=140737488355328):Calls prog 344 #[.slice (some ⟨b,0,none⟩) n cap,.int .i64 (i:Nat),.slice (some ⟨vb,0,none⟩) m vc] w (j7 w (some b) 3 (n+m) ((c.toList.take (n * 3)).take (i * 3)++(cx.toList.take (m * 3)++(c.toList.take (n * 3)).drop (i * 3)))):=by
 obtain ⟨i0,hi0,hz0,hz1,hz2⟩:=info_parts (P:=prog) (e:=140) (z:=(.agg #[.string "".toUTF8,.string "".toUTF8,.slice none 0 0])) (size:=3) (bytes:=56) caa;have ht:(prog).underlying 34=some (.slice 140):=by kernel_rfl
 have hti:(prog).underlying 3=some (.int .i64):=by kernel_rfl
 obtain⟨xs,hxs,hxl,mE,kZ,hsrc⟩:=uz (P:=prog) (vc:=vc) ht hz1 hx hvl h1x;have hns:n * 3<=c.size:=Nat.le_trans (Nat.mul_le_mul_right _ hnc) hcs;obtain⟨os,hos,hol,qP,mS⟩:=yt hc hns h1c;have hm0:¬((m:Int)=0):=by omega
 have ab2:¬((i:Int)=(n:Int)):=by omega
 have hz3:(cap:Int)<(n:Int)+(m:Int):=by omega
 have hbw:b<w.heap.size:=yx hc
 have hvw:vb<w.heap.size:=yx hx
 have hbN:b≠w.heap.size:=by omega
 have hvN:vb≠w.heap.size:=by omega
 have hkk:(n:Int)+(m:Int) - (i:Int)=((n+m - i:Nat):Int):=by omega
 have hik:i+(n+m - i)=n+m:=by omega
 obtain⟨G,hG⟩:∃G,G=grownCap w (n+m) cap 140:=⟨_,rfl⟩
 have hGe:n+m<=G:=by rw[hG];exact grownCap_ge w _ _ _
 have afo:G<=9223372036854775807:=by
  have:=grownCap_le_maxLen w (n+m) cap 140 (by unfold maxLen;omega);rw[<- hG]at this;unfold maxLen at this;omega
 obtain ⟨ROW,o3⟩:∃ ROW:Array Value,ROW=(os.take (i * 3)).toArray++Builtin.zeroCells (Value.agg #[.string "".toUTF8,.string "".toUTF8,.slice none 0 0]).cells (n+m - i)++Builtin.zeroCells (Value.agg #[.string "".toUTF8,.string "".toUTF8,.slice none 0 0]).cells (G - (n+m)):=⟨_,rfl⟩
 have hRs:ROW.size=G * 3:=by
  have e1:∀ k,(Builtin.zeroCells (Value.agg #[.string "".toUTF8,.string "".toUTF8,.slice none 0 0]).cells k).size=k * 3:=fun k=>by simp [Builtin.zeroCells,Value.cells]
  rw[o3];simp only[Array.size_append,size_toArray,length_take,hol,e1];omega
 obtain⟨W1,hW1⟩:∃W1,W1=w.drew.alloc (.cells ROW 140):=⟨_,rfl⟩
 have hrz:∀ty,(Builtin.append_ #[34,3] ty #[.slice (some ⟨b,0,none⟩) i cap,.int .i64 ((n:Int)+(m:Int) - (i:Int))]).run prog w=.ok (.slice (some ⟨w.heap.size,0,none⟩) (n+m) G) W1:=λty=>by
  have hold:(Builtin.firstCells i0.size i (.slice (some ⟨b,0,none⟩) i cap)).run prog w.drew=.ok (os.take (i * 3)).toArray w.drew :=
   run_firstCells_some (P:=prog) w.drew i0.size i ⟨b,0,none⟩ i cap (os.take (i * 3)) (by rw[length_take,hz1];omega) λj v hj=>by
    rw[fW,Nat.zero_add];rw[getElem?_take]at hj;split at hj
    ·exact mS w.drew rfl j v hj
    ·cases hj
  have h:=Lib.run_append_grow_zeros (P:=prog) w 34 3 ty 140 i0 _ .i64 .i64 ht hti hi0 hz0 (some ⟨b,0,none⟩) i cap _ hold (n+m - i) Um Um Um Um (by rw[hz2];omega) (by rw[hz2,hik];exact growslice_fits hroom qA);rw[hik,<- hG,<- o3,<- hW1]at h;rw[hkk];exact h
 have rP:W1.heap[w.heap.size]? = some (.cells ROW 140 (0,0)):=by rw[hW1];exact gh w.drew _
 have hE1:=Ext.mY w (.cells ROW 140) [];rw[<- hW1]at hE1
 obtain⟨c2,hc2⟩:∃c2:Array Value,c2=(ROW.toList.take (i * 3)++xs++ROW.toList.drop (i * 3+xs.length)).toArray:=⟨_,rfl⟩
 obtain⟨W2,hW2⟩:∃W2,W2=W1.setRow w.heap.size c2:=⟨_,rfl⟩
 have hRl:ROW.toList.length=G * 3:=by simpa using hRs
 have vL:c2.size=G * 3:=by rw[hc2];simp only[size_toArray,length_append,length_take,length_drop,hxl,hRl];omega
 have C5:W2.heap[w.heap.size]? = some (.cells c2 140 (0,0)):=by rw[hW2];exact eE W1 _ c2 ROW _ _ rP
 have hcA:∀ty dc,(Builtin.copy_ #[34,34] ty #[.slice (some ⟨w.heap.size,i * 3,none⟩) (n+m - i) dc,.slice (some ⟨vb,0,none⟩) m vc]).run prog W1=.ok (goInt m) W2:=λty dc=>by
  have jQ:Nat.min m (n+m - i)=m:=by simp only[Nat.min_def];split<;>omega
  have:=nT (P:=prog) W1 34 34 ty 140 i0 ht hi0 3 hz1 w.heap.size (i * 3) (n+m - i) dc ⟨vb,0,none⟩ m vc xs (by rw[jQ];exact hxl) (λj v hj=>kZ W1 (hE1.same vb ⟨hvw,Xp⟩) j v hj) ROW 140 rP (by rw[hxl,hRs];omega) mE;rw[jQ,<- hc2,<- hW2]at this;exact this
 have hE2:=Ext.setRow W1 w.heap.size c2 ROW 140 _ rP (by rw[vL,hRs]);rw[<- hW2]at hE2
 obtain⟨ds,hds⟩:∃ds,ds=os.drop (i * 3):=⟨_,rfl⟩
 have hdl:ds.length=(n - i) * 3:=by rw[hds,length_drop,hol];omega
 have BO:∀v∈ds,v.oneCell'=true:=λv hv=>qP v (mem_of_mem_drop (by rw[<- hds];exact hv))
 obtain⟨c3,hc3⟩:∃c3:Array Value,c3=(c2.toList.take ((i+m) * 3)++ds++c2.toList.drop ((i+m) * 3+ds.length)).toArray:=⟨_,rfl⟩
 obtain⟨W3,hW3⟩:∃W3,W3=W2.drew.setRow w.heap.size c3:=⟨_,rfl⟩
 have Wf:c2.toList.length=G * 3:=by simpa using vL
 have P6:c3.size=G * 3:=by rw[hc3];simp only[size_toArray,length_append,length_take,length_drop,hdl,Wf];omega
 have hcB:∀ty dc sc,(Builtin.copy_ #[34,34] ty #[.slice (some ⟨w.heap.size,(i+m) * 3,none⟩) (n+m - (i+m)) dc,.slice (some ⟨b,i * 3,none⟩) (n - i) sc]).run prog W2.drew=.ok (goInt (n - i:Nat)) W3:=λty dc sc=>by
  have jQ:Nat.min (n - i) (n+m - (i+m))=n - i:=by simp only[Nat.min_def];split<;>omega
  have:=nT (P:=prog) W2.drew 34 34 ty 140 i0 ht hi0 3 hz1 w.heap.size ((i+m) * 3) (n+m - (i+m)) dc ⟨b,i * 3,none⟩ (n - i) sc ds (by rw[jQ];exact hdl) (λj v hj=>by
   rw[fW];rw[hds,getElem?_drop]at hj
   exact mS W2.drew ((hE2.same b ⟨Nat.lt_of_lt_of_le hbw hE1.size,by simpa using hbN⟩).trans (hE1.same b ⟨hbw,Xp⟩)) (i * 3+j) v hj) c2 140 C5 (by rw[hdl,vL];omega) BO
  rw[jQ,<- hc3,<- hW3]at this;exact this
 have X:Aside (j7 w (some b) 3 (n+m) ((c.toList.take (n * 3)).take (i * 3)++(cx.toList.take (m * 3)++(c.toList.take (n * 3)).drop (i * 3))) (.returned (.slice (some ⟨w.heap.size,0,none⟩) (n+m) G)) W3):=by
  have hE3:=Ext.setRow W2.drew w.heap.size c3 c2 140 _ C5 (by rw[P6,vL]);rw[<- hW3]at hE3;refine⟨w.heap.size,G,c3,140,rfl,hGe,by rw[hW3];exact eE W2.drew _ c3 c2 _ _ C5,by rw[P6];exact Nat.le_refl _,.inr (Nat.le_refl _),λk hk=>?_,by rw[hW3,hW2,hW1];rfl,by rw[hW3,hW2,hW1];rfl,by rw[hW3,hW2,hW1];rfl,?_⟩
  ·rw[<- hxs,<- hos,<- hds]at hk ⊢;have htl:(os.take (i * 3)).length=i * 3:=by rw[length_take,hol];omega
   have Y3:ROW.toList.take (i * 3)=os.take (i * 3):=by
    rw[o3];simp only[Array.toList_append,append_assoc];rw[take_append_of_le_length (by rw[htl];exact Nat.le_refl _),take_of_length_le (by rw[htl];exact Nat.le_refl _)]
   have acb:c2.toList.take ((i+m) * 3)=os.take (i * 3)++xs:=by
    rw[hc2,Y3];rw[take_append_of_le_length (by rw[length_append,htl,hxl];omega),take_of_length_le (by rw[length_append,htl,hxl];omega)]
   rw[hc3,<- Array.getElem?_toList,acb,<- append_assoc,getElem?_append_left (by rw[append_assoc];exact hk)]
  ·refine⟨Nat.le_trans hE1.size (Nat.le_trans hE2.size hE3.size),λk hk=>?_,λq cc T z hq=>?_⟩
   ·have hkN:k ∉ [w.heap.size]:=by simp;omega
    exact(hE3.same k ⟨Nat.lt_of_lt_of_le hk.1 (Nat.le_trans hE1.size hE2.size),hkN⟩).trans ((hE2.same k ⟨Nat.lt_of_lt_of_le hk.1 hE1.size,hkN⟩).trans (hE1.same k ⟨hk.1,Xp⟩))
   ·obtain⟨d1,h1,h2⟩:=hE1.shape q cc T z hq;obtain⟨d2,h3,h4⟩:=hE2.shape q d1 T z h1;obtain⟨d3,h5,h6⟩:=hE3.shape q d2 T z h3;exact⟨d3,h5,h6.trans (h4.trans h2)⟩
 have hGi:¬(G=i):=by omega
 have afn:¬(G=i+m):=by omega
 have hci:¬(cap=i):=by omega
 have hw1:IntKind.i64.wrap ((i:Int)+(m:Int))=(i:Int)+(m:Int):=by rw[IntKind.wrap_i64];omega
 have hb1:(0:Int)<=(i:Int)+(m:Int):=by omega
 have hin:i<=n:=by omega
 have htn:((i:Int)+(m:Int)).toNat=i+m:=by omega
 have hb3:(i:Int)<=(n:Int):=by omega
 clear hG o3 hW1 hW2 hW3 hc2 hc3 hRs hRl vL Wf P6 hds hdl BO rP C5 hE1 hE2 hkk hik hns;clear hc hx h1c h1x qP mS mE kZ hsrc hol hxl hos hxs hcs hvl
 go_enter func344,ntmps344
 go_wp2_with (first
  | (at_builtin;refine Lib.wpList_append_run _ rfl _ _ _ _ rfl _ _ rfl rfl _ _ (hrz _) ?_)
  | (at_builtin;refine ru _ rfl _ _ 34 34 rfl _ _ rfl rfl (hcA _ _) ?_))
 go_region_law (refine tW rfl _ _ 34 34 rfl (.slice (some ⟨w.heap.size,(i+m) * 3,none⟩) (n+m - (i+m)) (G - (i+m))) (.slice (some ⟨b,i * 3,none⟩) (n - i) (cap - i)) (by simp[Act.eval,Act.put]) (by simp[Act.eval,Act.put]) (hcB _ _ _) ?_)
 go_wp2
 go_ret
 exact X
set_option maxRecDepth 1000000 in
set_option maxHeartbeats 4000000 in
def KL(w:World)(b n cap i vb m vc:Nat)(c cx:Array Value)(Ty Tx:TypeId)(hx:w.heap[vb]? = some (.cells cx Tx (0,0)))(hvl:m * 3<=cx.size)(hm:0<m)(h1x:∀(k:Nat) (v:Value),k<m * 3->cx[k]? = some v->v.oneCell'=true)(hc:w.heap[b]? = some (.cells c Ty (0,0)))(hnc:n<=cap)(hcs:cap * 3<=c.size)(h1c:∀(k:Nat) (v:Value),k<n * 3->c[k]? = some v->v.oneCell'=true)(hvb:vb≠b)(hi:i<n)(hroom:n+m<=cap)(qA:(n+m) * 56<=140737488355328):Calls prog 344 #[.slice (some ⟨b,0,none⟩) n cap,.int .i64 (i:Nat),.slice (some ⟨vb,0,none⟩) m vc] w (j7 w (some b) 3 (n+m) ((c.toList.take (n * 3)).take (i * 3)++(cx.toList.take (m * 3)++(c.toList.take (n * 3)).drop (i * 3)))):=by
 obtain ⟨i0,hi0,hz0,hz1,hz2⟩:=info_parts (P:=prog) (e:=140) (z:=(.agg #[.string "".toUTF8,.string "".toUTF8,.slice none 0 0])) (size:=3) (bytes:=56) caa;have ht:(prog).underlying 34=some (.slice 140):=by kernel_rfl
 have hti:(prog).underlying 3=some (.int .i64):=by kernel_rfl
 obtain⟨xs,hxs,hxl,mE,kZ,hsrc⟩:=uz (P:=prog) (vc:=vc) ht hz1 hx hvl h1x;have hns:n * 3<=c.size:=Nat.le_trans (Nat.mul_le_mul_right _ hnc) hcs;obtain⟨os,hos,hol,qP,mS⟩:=yt hc hns h1c;have hm0:¬((m:Int)=0):=by omega
 have ab2:¬((i:Int)=(n:Int)):=by omega
 have hz3:¬((cap:Int)<(n:Int)+(m:Int)):=by omega
 have hbw:b<w.heap.size:=yx hc
 have hvw:vb<w.heap.size:=yx hx
 have hcl:c.toList.length=c.size:=by simp
 have abT:(n+m) * 3<=c.size:=Nat.le_trans (Nat.mul_le_mul_right _ hroom) hcs
 have hov:∀lb cb,(callFunc 364 #[.slice (some ⟨vb,0,none⟩) m vc,.slice (some ⟨b,(i+m) * 3,none⟩) lb cb]).run prog w=.ok (.value (.bool false)) w:=λlb cb=>by
  rw[run_callFunc_extern (P:=prog) func364 caa caa caa (e:=Extern.SlicesOverlaps.overlaps #[34,34] #[4]) caa,
   Lib.run_overlaps_apart (P:=prog) w 34 4 140 ht 3 (λw=>by simp[sizeOf,typeInfo,hi0,hz1]) ⟨vb,0,none⟩ ⟨b,(i+m) * 3,none⟩ m vc lb cb hvb Tx Ty cx.size c.size (by simp[World.shape?,hx]) (by simp[World.shape?,hc]) Um (by simp[World.frozen?,hx]) (by simp[World.frozen?,hx])]
  rfl
 obtain⟨ds,hds⟩:∃ds,ds=os.drop (i * 3):=⟨_,rfl⟩
 have hdl:ds.length=(n - i) * 3:=by rw[hds,length_drop,hol];omega
 have BO:∀v∈ds,v.oneCell'=true:=λv hv=>qP v (mem_of_mem_drop (by rw[<- hds];exact hv))
 obtain⟨c1,hc1⟩:∃c1:Array Value,c1=(c.toList.take ((i+m) * 3)++ds++c.toList.drop ((i+m) * 3+ds.length)).toArray:=⟨_,rfl⟩
 obtain⟨W1,hW1⟩:∃W1,W1=w.drew.setRow b c1:=⟨_,rfl⟩
 have pI:c1.size=c.size:=by rw[hc1];simp only[size_toArray,length_append,length_take,length_drop,hdl,hcl];omega
 have hcA:∀ty dc sc,(Builtin.copy_ #[34,34] ty #[.slice (some ⟨b,(i+m) * 3,none⟩) (n+m - (i+m)) dc,.slice (some ⟨b,i * 3,none⟩) (n+m - i) sc]).run prog w.drew=.ok (goInt (n - i:Nat)) W1:=λty dc sc=>by
  have jQ:Nat.min (n+m - i) (n+m - (i+m))=n - i:=by simp only[Nat.min_def];split<;>omega
  have:=nT (P:=prog) w.drew 34 34 ty 140 i0 ht hi0 3 hz1 b ((i+m) * 3) (n+m - (i+m)) dc ⟨b,i * 3,none⟩ (n+m - i) sc ds (by rw[jQ];exact hdl) (λj v hj=>by
   rw[fW];rw[hds,getElem?_drop]at hj
   exact mS w.drew rfl (i * 3+j) v hj) c Ty hc (by rw[hdl];omega) BO
  rw[jQ,<- hc1,<- hW1]at this;exact this
 have rP:W1.heap[b]? = some (.cells c1 Ty (0,0)):=by rw[hW1];exact eE w.drew _ c1 c _ _ hc
 have hE1:=Ext.setRow w.drew b c1 c Ty _ hc pI;rw[<- hW1]at hE1
 obtain⟨c2,hc2⟩:∃c2:Array Value,c2=(c1.toList.take (i * 3)++xs++c1.toList.drop (i * 3+xs.length)).toArray:=⟨_,rfl⟩
 obtain⟨W2,hW2⟩:∃W2,W2=W1.setRow b c2:=⟨_,rfl⟩
 have Wg:c1.toList.length=c.size:=by simpa using pI
 have vL:c2.size=c.size:=by rw[hc2];simp only[size_toArray,length_append,length_take,length_drop,hxl,Wg];omega
 have hcB:∀ty dc,(Builtin.copy_ #[34,34] ty #[.slice (some ⟨b,i * 3,none⟩) (n+m - i) dc,.slice (some ⟨vb,0,none⟩) m vc]).run prog W1=.ok (goInt m) W2:=λty dc=>by
  have jQ:Nat.min m (n+m - i)=m:=by simp only[Nat.min_def];split<;>omega
  have:=nT (P:=prog) W1 34 34 ty 140 i0 ht hi0 3 hz1 b (i * 3) (n+m - i) dc ⟨vb,0,none⟩ m vc xs (by rw[jQ];exact hxl) (λj v hj=>kZ W1 (hE1.same vb ⟨hvw,by simpa using hvb⟩) j v hj) c1 Ty rP (by rw[hxl,pI];omega) mE;rw[jQ,<- hc2,<- hW2]at this;exact this
 have X:Aside (j7 w (some b) 3 (n+m) ((c.toList.take (n * 3)).take (i * 3)++(cx.toList.take (m * 3)++(c.toList.take (n * 3)).drop (i * 3))) (.returned (.slice (some ⟨b,0,none⟩) (n+m) cap)) W2):=by
  have hE2:=Ext.setRow W1 b c2 c1 Ty _ rP (by rw[vL,pI]);rw[<- hW2]at hE2;refine⟨b,cap,c2,Ty,rfl,hroom,by rw[hW2];exact eE W1 _ c2 c1 _ _ rP,by rw[vL];exact hcs,.inl rfl,λk hk=>?_,by rw[hW2,hW1];rfl,by rw[hW2,hW1];rfl,by rw[hW2,hW1];rfl,?_⟩
  ·rw[<- hxs,<- hos,<- hds]at hk ⊢
   have ht1:c1.toList.take (i * 3)=os.take (i * 3):=by
    rw[hc1,append_assoc];rw[take_append_of_le_length (by rw[length_take,hcl];omega),take_take,hos,take_take]
    congr 1;omega
   have htl:(os.take (i * 3)).length=i * 3:=by rw[length_take,hol];omega
   have hd1:(c1.toList.drop (i * 3+xs.length)).take ((n - i) * 3)=ds:=by
    have e1:(c.toList.take ((i+m) * 3)).length=i * 3+xs.length:=by rw[length_take,hcl,hxl];omega
    rw[hc1,append_assoc,<- e1,drop_left,<- hdl,take_left]
   have hD:c1.toList.drop (i * 3+xs.length)=ds++(c1.toList.drop (i * 3+xs.length)).drop ((n - i) * 3):=by
    rw[<- hd1,take_append_drop]
   rw[hc2,<- Array.getElem?_toList,ht1,hD,<- append_assoc,append_assoc (os.take (i * 3)),getElem?_append_left hk]
  ·refine⟨Nat.le_trans hE1.size hE2.size,λk hk=>?_,λq cc T z hq=>?_⟩
   ·have hkN:k ∉ [b]:=by simpa using hk.2
    exact(hE2.same k ⟨Nat.lt_of_lt_of_le hk.1 hE1.size,hkN⟩).trans (hE1.same k ⟨hk.1,hkN⟩)
   ·obtain⟨d1,h1,h2⟩:=hE1.shape q cc T z hq;obtain⟨d2,h3,h4⟩:=hE2.shape q d1 T z h1;exact⟨d2,h3,h4.trans h2⟩
 have hci:¬(cap=i):=by omega
 have afk:¬(cap=i+m):=by omega
 have hw1:IntKind.i64.wrap ((i:Int)+(m:Int))=(i:Int)+(m:Int):=by rw[IntKind.wrap_i64];omega
 have hb1:(0:Int)<=(i:Int)+(m:Int):=by omega
 have hin:i<=n:=by omega
 have htn:((i:Int)+(m:Int)).toNat=i+m:=by omega
 have hb3:(i:Int)<=(n:Int)+(m:Int):=by omega
 clear hW1 hW2 hc1 hc2 pI Wg vL hds hdl BO rP hE1 hcl abT hns;clear hc hx h1c h1x qP mS mE kZ hsrc hol hxl hos hxs hcs hvl
 go_enter func344,ntmps344
 go_wp2_with (simp only[hov])
 go_region_law (refine tW rfl _ _ 34 34 rfl _ _ (by simp[Act.eval,Act.put]) (by simp[Act.eval,Act.put]) (hcA _ _ _) ?_)
 go_wp2_with (at_builtin;refine ru _ rfl _ _ 34 34 rfl _ _ rfl rfl (hcB _ _) ?_)
 go_ret
 exact X
def abv:LA prog 344 3 56:=by
 refine⟨λw b n cap i vb vc c cx Ty Tx hx hvl h1x hc hnc hcs h1c hvb hi qA=>?_,λw vb vc cx Tx hx hvl h1x=>PM w vb 1 vc cx Tx hx hvl Um h1x Um⟩;by_cases hr:n+1<=cap
 ·by_cases hn:i=n
  ·subst hn;have:=Ex w b i cap vb 1 vc c cx Ty Tx hx hvl Um h1x hc hnc hcs h1c hvb hr;rw[take_take,Nat.min_self,drop_eq_nil_of_le (by rw[length_take];omega),append_nil];exact this
  ·exact KL w b n cap i vb 1 vc c cx Ty Tx hx hvl Um h1x hc hnc hcs h1c hvb Um hr qA
 ·by_cases hn:i=n
  ·subst hn;have:=Ey w b i cap vb 1 vc c cx Ty Tx hx hvl Um h1x hc hnc hcs h1c hvb Um qA;rw[take_take,Nat.min_self,drop_eq_nil_of_le (by rw[length_take];omega),append_nil];exact this
  ·exact Ni w b n cap i vb 1 vc c cx Ty Tx hx hvl Um h1x hc hnc hcs h1c hvb Um Um qA
