/- A part. -/
import Derived.Deep.RegionLaw
import Derived.Deep.LoopGhost
import Derived.Lib.Walk
import Derived.Lib.SliceRun
import Derived.Lib.AppendZerosOnto
import Derived.Lib.Overlaps
import Derived.Test.YtmcjbaafmjlblaaGreatDoorProg
import Derived.Test.YtmcjbaafmjlblaaGreatDoorJ0
set_option linter.all false
namespace Go.Ab
open Go.RowKit (Below)
theorem mf{P:Program}(w:World)(t u ty e:TypeId)(i:TypeInfo)(ht:P.underlying t=some (.slice e))(hi:P.info? e=some i)(size:Nat)(hsz:i.size=size)(b o dLen dCap:Nat)(A:Addr)(sLen sCap:Nat)(news:List Value)(hn:news.length=Nat.min sLen dLen * size)
  (hc:∀ j v,news[j]? = some v->w.cell? (A.add j)=some v) (cur:Array Value) (Ty:TypeId) (hg:w.heap[b]? = some (.cells cur Ty (0,0))) (hfit:o+news.length<=cur.size) (h1:∀ v∈news,v.oneCell'=true) :
  (Builtin.copy_ #[t,u] ty #[.slice (some ⟨b,o,none⟩) dLen dCap,.slice (some A) sLen sCap]).run P w=.ok (goInt (Nat.min sLen dLen)) (w.setRow b (cur.toList.take o++news++cur.toList.drop (o+news.length)).toArray):=by
 subst hsz
 have hst:=run_storeCells_at P b o Ty news 0 cur w hg (by simpa using hfit) h1
 simp only [Nat.add_zero] at hst
 have hf:=run_firstCells_some (P:=P) w i.size (Nat.min sLen dLen) A sLen sCap news hn hc
 simp only [Builtin.copy_,List.getElem?_toArray,Sem.run_bind,run_underlying ht,Result.andThen_ok,Builtin.lenOf,Sem.run_pure,sizeOf,typeInfo,hi,hf,List.getElem?_cons_zero,List.getElem?_cons_succ]
 simp [Builtin.copy_,run_underlying ht,Builtin.lenOf,sizeOf,typeInfo,hi,hf,hst,-List.append_assoc]
theorem pV{P:Program}(w:World){ops:Array Oper}{rest:List Oper}{o:Oper}{a:Act}{Q:Exit->Act->World->Prop}(hgd:o.guard=none)(d s:Operand)(t t':TypeId)
  (ho:o.op=.call { callee:=.builtin .copy,args:=#[d,s],argTypes:=#[t,t'] }) (v u:Value) (hd:a.eval d=v) (hs:a.eval s=u) {v':Value} {w':World}
  (hr:(Builtin.copy_ #[t,t'] o.type #[v,u]).run P w=.ok v' w') (h:wpList P ops Q rest (a.put o.dst v') w'):wpList P ops Q (o::rest) a w:=by
 refine wpList_plain hgd fun _ hK=>?_
 unfold Oper.wp execOp
 simp only [ho,resolve,invoke,builtin,Sem.run_bind,Sem.run_pure,Result.andThen_ok,List.map_toArray,List.map_cons,List.map_nil,hd,hs,hr]
 exact hK _ _ h
theorem rz{P:Program}{ops:Array Oper}{o:Oper}{a:Act}{w:World}{K:Act->World->Prop}{Q:Exit->Act->World->Prop}{E:Prop}
  (hg:o.guard=none) (d x:Operand) (dT sT:TypeId) (hop:o.op=Op.call { callee:=Callee.builtin Builtin.copy,args:=#[d,x],argTypes:=#[dT,sT] })
  (v u:Value) (hd:a.eval d=v) (hx:a.eval x=u) {v':Value} {w':World} (hr:(Builtin.copy_ #[dT,sT] o.type #[v,u]).run P w=.ok v' w') (hK:K (a.put o.dst v') w') :
  if Region.wanted o (yielded ops a.tmps)=true then Oper.wp P o a w K Q else E:=by
 have hw:Region.wanted o (yielded ops a.tmps)=true:=by simp [Region.wanted,hg]
 rw [if_pos hw]
 unfold Oper.wp
 simp [execOp,hop,resolve,invoke,builtin,hd,hx,hr,Result.andThen]
 exact hK
theorem rP{sz:Nat}{P:Program}{w:World}{vb vc m:Nat}{cx:Array Value}{Tx S E:TypeId}{i0:TypeInfo}(ht:P.underlying S=some (.slice E))(hz1:i0.size=sz)(hx:w.heap[vb]? = some (.cells cx Tx (0,0)))(hvl:m * sz<=cx.size)(h1x:∀ (k:Nat) (v:Value),k<m * sz->cx[k]? = some v->v.oneCell'=true) :
  ∃ xs:List Value,xs=cx.toList.take (m * sz)/\xs.length=m * sz/\(∀ v∈xs,v.oneCell'=true)/\(∀ W:World,W.heap[vb]? = w.heap[vb]?->∀ j v,xs[j]? = some v->W.cell? ((⟨vb,0,none⟩:Addr).add j)=some v)/\(∀ W:World,W.heap[vb]? = w.heap[vb]?->Src P W i0.size S (.slice (some ⟨vb,0,none⟩) m vc) m xs):=by
 obtain ⟨xs,hxs⟩:∃ xs,xs=cx.toList.take (m * sz):=⟨_,rfl⟩
 have hxl:xs.length=m * sz:=by rw [hxs];simp;omega
 have NR:∀ k,k<m * sz->xs[k]? = cx[k]?:=fun k h=>by rw [hxs,List.getElem?_take_of_lt h,Array.getElem?_toList]
 have kP:∀ v∈xs,v.oneCell'=true:=by
  intro u hu
  obtain ⟨k,hk,rfl⟩:=List.getElem_of_mem hu
  have h3:=List.getElem?_eq_getElem hk
  rw [hxl] at hk
  rw [NR k hk] at h3
  exact h1x _ _ hk h3
 have jx:∀ (W:World),W.heap[vb]? = w.heap[vb]?->∀ j v,xs[j]? = some v->W.cell? ((⟨vb,0,none⟩:Addr).add j)=some v:=fun W hW j v hj=>by
  have hj2:j<m * sz:=by
   have:=(List.getElem?_eq_some_iff.1 hj).1
   omega
  rw [NR j hj2] at hj
  rw [Addr.add_lit,Nat.zero_add]
  have h2:W.heap[vb]? = some (.cells cx Tx (0,0)):=hW.trans hx
  simp [World.cell?,h2,hj]
 refine ⟨xs,hxs,hxl,kP,jx,fun W hW=>⟨.inl ⟨_,ht⟩,fun w'=>by simp [Builtin.lenOf],fun w' hw'=>run_firstCells_some (P:=P) w' i0.size m ⟨vb,0,none⟩ m vc xs (by rw [hz1];exact hxl) fun j v hj=>?_⟩⟩
 have:=jx W hW j v hj
 simpa [World.cell?,hw'] using this
theorem wv{sz:Nat}{w:World}{b n:Nat}{c:Array Value}{Ty:TypeId}(hc:w.heap[b]? = some (.cells c Ty (0,0)))(hns:n * sz<=c.size)(h1c:∀ (k:Nat) (v:Value),k<n * sz->c[k]? = some v->v.oneCell'=true) :
  ∃ os:List Value,os=c.toList.take (n * sz)/\os.length=n * sz/\(∀ v∈os,v.oneCell'=true)/\∀ W:World,W.heap[b]? = w.heap[b]?->∀ j v,os[j]? = some v->W.cell? (⟨b,j,none⟩:Addr)=some v:=by
 obtain ⟨os,hos⟩:∃ os,os=c.toList.take (n * sz):=⟨_,rfl⟩
 have hol:os.length=n * sz:=by rw [hos];simp;omega
 have NU:∀ k,k<n * sz->os[k]? = c[k]?:=fun k h=>by rw [hos,List.getElem?_take_of_lt h,Array.getElem?_toList]
 refine ⟨os,hos,hol,?_,fun W hW j v hj=>?_⟩
 ·intro u hu
  obtain ⟨k,hk,rfl⟩:=List.getElem_of_mem hu
  have h3:=List.getElem?_eq_getElem hk
  rw [hol] at hk
  rw [NU k hk] at h3
  exact h1c _ _ hk h3
 ·have hj2:j<n * sz:=by
   have:=(List.getElem?_eq_some_iff.1 hj).1
   omega
  rw [NU j hj2] at hj
  have h2:W.heap[b]? = some (.cells c Ty (0,0)):=hW.trans hc
  simp [World.cell?,h2,hj]
def iY(w:World)(b:Option Nat)(sz len:Nat)(news:List Value)(e:Ending)(w':World):Prop :=
 ∃ (b' cap':Nat) (c':Array Value) (Ty':TypeId),e=.returned (.slice (some ⟨b',0,none⟩) len cap')/\len<=cap'/\w'.heap[b']? = some (.cells c' Ty' (0,0))/\cap' * sz<=c'.size/\(some b'=b\/w.heap.size<=b') /\
  (∀ k,k<news.length->c'[k]? = news[k]?)/\w'.os=w.os/\w'.tape=w.tape/\w'.output=w.output/\Ext (fun k=>k<w.heap.size/\some k≠b) w w'
def Je(P:Program)(f:FuncId)(sz bytes:Nat):Prop :=
 (∀ (w:World) (b n cap i vb vc:Nat) (c cx:Array Value) (Ty Tx:TypeId),w.heap[vb]? = some (.cells cx Tx (0,0))->1 * sz<=cx.size->(∀ (k:Nat) (v:Value),k<1 * sz->cx[k]? = some v->v.oneCell'=true) ->
  w.heap[b]? = some (.cells c Ty (0,0))->n<=cap->cap * sz<=c.size->(∀ (k:Nat) (v:Value),k<n * sz->c[k]? = some v->v.oneCell'=true)->vb≠b->i<=n->(n+1) * bytes<=140737488355328 ->
  Calls P f #[.slice (some ⟨b,0,none⟩) n cap,.int .i64 i,.slice (some ⟨vb,0,none⟩) 1 vc] w (iY w (some b) sz (n+1) ((c.toList.take (n * sz)).take (i * sz)++(cx.toList.take (1 * sz)++(c.toList.take (n * sz)).drop (i * sz))))) /\
 (∀ (w:World) (vb vc:Nat) (cx:Array Value) (Tx:TypeId),w.heap[vb]? = some (.cells cx Tx (0,0))->1 * sz<=cx.size->(∀ (k:Nat) (v:Value),k<1 * sz->cx[k]? = some v->v.oneCell'=true) ->
  Calls P f #[.slice none 0 0,.int .i64 (0:Nat),.slice (some ⟨vb,0,none⟩) 1 vc] w (iY w none sz 1 (cx.toList.take (1 * sz))))
end Go.Ab
namespace Go.Proofs
open Go.Ab Go.RowKit
theorem wy{w:World}{b:Nat}{o:Obj}(h:w.heap[b]? = some o):b<w.heap.size:=(Array.getElem?_eq_some_iff.1 h).1
set_option maxRecDepth 1000000 in
set_option maxHeartbeats 4000000 in
theorem CD(w:World)(b n cap vb m vc:Nat)(c cx:Array Value)(Ty Tx:TypeId)(hx:w.heap[vb]? = some (.cells cx Tx (0,0)))(hvl:m * 3<=cx.size)(hm:0<m)(h1x:∀ (k:Nat) (v:Value),k<m * 3->cx[k]? = some v->v.oneCell'=true)(hc:w.heap[b]? = some (.cells c Ty (0,0)))(hnc:n<=cap)(hcs:cap * 3<=c.size)(h1c:∀ (k:Nat) (v:Value),k<n * 3->c[k]? = some v->v.oneCell'=true)(hvb:vb≠b)(hroom:n+m<=cap):Calls Tryz.prog 251 #[.slice (some ⟨b,0,none⟩) n cap,.int .i64 (n:Nat),.slice (some ⟨vb,0,none⟩) m vc] w (iY w (some b) 3 (n+m) (c.toList.take (n * 3)++cx.toList.take (m * 3))):=by
 obtain ⟨i0,hi0,hz0,hz1,hz2⟩:=info_parts (P:=Tryz.prog) (e:=99) (z:=(.agg #[.string "".toUTF8,.string "".toUTF8,.slice none 0 0])) (size:=3) (bytes:=56) (by kernel_rfl)
 have ht:(Tryz.prog).underlying 37=some (.slice 99):=by kernel_rfl
 have hti:(Tryz.prog).underlying 3=some (.int .i64):=by kernel_rfl
 obtain ⟨xs,hxs,hxl,kP,jx,hsrc⟩:=rP (P:=Tryz.prog) (vc:=vc) ht hz1 hx hvl h1x
 have hns:n * 3<=c.size:=Nat.le_trans (Nat.mul_le_mul_right _ hnc) hcs
 obtain ⟨os,hos,hol,pE,lh⟩:=wv hc hns h1c
 have hm0:¬ ((m:Int)=0):=by omega
 obtain ⟨c1,hc1⟩:∃ c1:Array Value,c1=(c.toList.take (n * 3)++xs++c.toList.drop (n * 3+xs.length)).toArray:=⟨_,rfl⟩
 obtain ⟨W1,hW1⟩:∃ W1,W1=w.setRow b c1:=⟨_,rfl⟩
 have hfit:n * 3+xs.length<=c.size:=by rw [hxl,<- Nat.add_mul];exact Nat.le_trans (Nat.mul_le_mul_right _ hroom) hcs
 have hrun:∀ ty,(Builtin.append_ #[37,37] ty #[.slice (some ⟨b,0,none⟩) n cap,.slice (some ⟨vb,0,none⟩) m vc]).run Tryz.prog w=.ok (.slice (some ⟨b,0,none⟩) (n+m) cap) W1:=fun ty=>by
  have:=tQ (P:=Tryz.prog) (tyr:=ty) ht hi0 (hsrc w rfl) b n cap c Ty hc kP hroom (by rw [hz1];exact hfit)
  rw [hz1,<- hc1,<- hW1] at this
  exact this
 have nN:c1.size=c.size:=by
  have:c.toList.length=c.size:=by simp
  rw [hc1];simp only [List.size_toArray,List.length_append,List.length_take,List.length_drop];omega
 have hat:W1.heap[b]? = some (.cells c1 Ty (0,0)):=by rw [hW1];exact dK w b c1 c Ty _ hc
 have X:Aside (iY w (some b) 3 (n+m) (c.toList.take (n * 3)++cx.toList.take (m * 3)) (.returned (.slice (some ⟨b,0,none⟩) (n+m) cap)) W1):=by
  refine ⟨b,cap,c1,Ty,rfl,hroom,hat,by rw [nN];exact hcs,.inl rfl,fun k hk=>?_,by rw [hW1];rfl,by rw [hW1];rfl,by rw [hW1];rfl,?_⟩
  ·rw [<- hxs] at hk ⊢
   rw [hc1,<- Array.getElem?_toList,List.getElem?_append_left hk]
  ·rw [hW1]
   have:=Ext.setRow w b c1 c Ty _ hc nN
   exact ⟨this.size,fun k hk=>this.same k ⟨hk.1,by simpa using hk.2⟩,this.shape⟩
 clear hc hx h1c h1x pE lh kP jx hsrc hol hxl hos hxs hc1 hW1 hfit nN hat hcs hvl
 go_enter Tryz.func251,Tryz.ntmps251
 go_wp2_with (at_builtin;refine Lib.wpList_append_run _ rfl _ _ _ _ rfl _ _ rfl rfl _ _ (hrun _) ?_)
 go_ret
 exact X
set_option maxRecDepth 1000000 in
set_option maxHeartbeats 4000000 in
theorem CE(w:World)(b n cap vb m vc:Nat)(c cx:Array Value)(Ty Tx:TypeId)(hx:w.heap[vb]? = some (.cells cx Tx (0,0)))(hvl:m * 3<=cx.size)(hm:0<m)(h1x:∀ (k:Nat) (v:Value),k<m * 3->cx[k]? = some v->v.oneCell'=true)(hc:w.heap[b]? = some (.cells c Ty (0,0)))(hnc:n<=cap)(hcs:cap * 3<=c.size)(h1c:∀ (k:Nat) (v:Value),k<n * 3->c[k]? = some v->v.oneCell'=true)(hvb:vb≠b)(hroom:cap<n+m)(oZ:(n+m) * 56<=140737488355328):Calls Tryz.prog 251 #[.slice (some ⟨b,0,none⟩) n cap,.int .i64 (n:Nat),.slice (some ⟨vb,0,none⟩) m vc] w (iY w (some b) 3 (n+m) (c.toList.take (n * 3)++cx.toList.take (m * 3))):=by
 obtain ⟨i0,hi0,hz0,hz1,hz2⟩:=info_parts (P:=Tryz.prog) (e:=99) (z:=(.agg #[.string "".toUTF8,.string "".toUTF8,.slice none 0 0])) (size:=3) (bytes:=56) (by kernel_rfl)
 have ht:(Tryz.prog).underlying 37=some (.slice 99):=by kernel_rfl
 have hti:(Tryz.prog).underlying 3=some (.int .i64):=by kernel_rfl
 obtain ⟨xs,hxs,hxl,kP,jx,hsrc⟩:=rP (P:=Tryz.prog) (vc:=vc) ht hz1 hx hvl h1x
 have hns:n * 3<=c.size:=Nat.le_trans (Nat.mul_le_mul_right _ hnc) hcs
 obtain ⟨os,hos,hol,pE,lh⟩:=wv hc hns h1c
 have hm0:¬ ((m:Int)=0):=by omega
 obtain ⟨G,hG⟩:∃ G,G=grownCap w (n+m) cap 99:=⟨_,rfl⟩
 have hGe:n+m<=G:=by rw [hG];exact grownCap_ge w _ _ _
 obtain ⟨ROW,ni⟩:∃ ROW:Array Value,ROW=os.toArray++xs.toArray++Builtin.zeroCells (Value.agg #[.string "".toUTF8,.string "".toUTF8,.slice none 0 0]).cells (G - (n+m)):=⟨_,rfl⟩
 obtain ⟨W1,hW1⟩:∃ W1,W1=w.drew.alloc (.cells ROW 99):=⟨_,rfl⟩
 have hrun:∀ ty,(Builtin.append_ #[37,37] ty #[.slice (some ⟨b,0,none⟩) n cap,.slice (some ⟨vb,0,none⟩) m vc]).run Tryz.prog w=.ok (.slice (some ⟨w.heap.size,0,none⟩) (n+m) G) W1:=fun ty=>by
  have:=yL (P:=Tryz.prog) (tyr:=ty) ht hi0 hz0 (hsrc w rfl) ⟨b,0,none⟩ n cap os (by rw [hz1];exact hol) (fun j v hj=>by rw [fO,Nat.zero_add];exact lh w rfl j v hj) hroom (by omega) (by rw [hz2];exact oZ)
  rw [<- hG,<- ni,<- hW1] at this
  exact this
 have X:Aside (iY w (some b) 3 (n+m) (c.toList.take (n * 3)++cx.toList.take (m * 3)) (.returned (.slice (some ⟨w.heap.size,0,none⟩) (n+m) G)) W1):=by
  refine ⟨w.heap.size,G,ROW,99,rfl,hGe,by rw [hW1];exact eX w.drew _,?_,.inr (Nat.le_refl _),fun k hk=>?_,by rw [hW1];rfl,by rw [hW1];rfl,by rw [hW1];rfl,?_⟩
  ·rw [ni]
   simp only [Array.size_append,List.size_toArray,hol,hxl]
   have:(Builtin.zeroCells (Value.agg #[.string "".toUTF8,.string "".toUTF8,.slice none 0 0]).cells (G - (n+m))).size=(G - (n+m)) * 3:=by simp [Builtin.zeroCells,Value.cells]
   rw [this];omega
  ·rw [<- hxs,<- hos] at hk ⊢
   rw [ni,<- Array.getElem?_toList]
   simp only [Array.toList_append]
   rw [List.getElem?_append_left hk]
  ·rw [hW1]
   have:=Ext.lz w (.cells ROW 99) [b]
   exact ⟨this.size,fun k hk=>this.same k ⟨hk.1,by simpa using hk.2⟩,this.shape⟩
 clear hG ni hW1
 clear hc hx h1c h1x pE lh kP jx hsrc hol hxl hos hxs hcs hvl
 go_enter Tryz.func251,Tryz.ntmps251
 go_wp2_with (at_builtin;refine Lib.wpList_append_run _ rfl _ _ _ _ rfl _ _ rfl rfl _ _ (hrun _) ?_)
 all_goals (go_ret;exact X)
set_option maxRecDepth 1000000 in
set_option maxHeartbeats 4000000 in
theorem MA(w:World)(vb m vc:Nat)(cx:Array Value)(Tx:TypeId)(hx:w.heap[vb]? = some (.cells cx Tx (0,0)))(hvl:m * 3<=cx.size)(hm:0<m)(h1x:∀ (k:Nat) (v:Value),k<m * 3->cx[k]? = some v->v.oneCell'=true)(oZ:m * 56<=140737488355328):Calls Tryz.prog 251 #[.slice none 0 0,.int .i64 (0:Nat),.slice (some ⟨vb,0,none⟩) m vc] w (iY w none 3 m (cx.toList.take (m * 3))):=by
 obtain ⟨i0,hi0,hz0,hz1,hz2⟩:=info_parts (P:=Tryz.prog) (e:=99) (z:=(.agg #[.string "".toUTF8,.string "".toUTF8,.slice none 0 0])) (size:=3) (bytes:=56) (by kernel_rfl)
 have ht:(Tryz.prog).underlying 37=some (.slice 99):=by kernel_rfl
 have hti:(Tryz.prog).underlying 3=some (.int .i64):=by kernel_rfl
 obtain ⟨xs,hxs,hxl,kP,jx,hsrc⟩:=rP (P:=Tryz.prog) (vc:=vc) ht hz1 hx hvl h1x
 have hm0:¬ ((m:Int)=0):=by omega
 obtain ⟨G,hG⟩:∃ G,G=grownCap w m 0 99:=⟨_,rfl⟩
 have hGe:m<=G:=by rw [hG];exact grownCap_ge w _ _ _
 obtain ⟨ROW,ni⟩:∃ ROW:Array Value,ROW=xs.toArray++Builtin.zeroCells (Value.agg #[.string "".toUTF8,.string "".toUTF8,.slice none 0 0]).cells (G - m):=⟨_,rfl⟩
 obtain ⟨W1,hW1⟩:∃ W1,W1=w.drew.alloc (.cells ROW 99):=⟨_,rfl⟩
 have hrun:∀ ty,(Builtin.append_ #[37,37] ty #[.slice none 0 0,.slice (some ⟨vb,0,none⟩) m vc]).run Tryz.prog w=.ok (.slice (some ⟨w.heap.size,0,none⟩) m G) W1:=fun ty=>by
  have:=Bs (P:=Tryz.prog) (tyr:=ty) ht hi0 hz0 (hsrc w rfl) hm (by omega) (by rw [hz2];exact oZ)
  rw [<- hG,<- ni,<- hW1] at this
  exact this
 have X:Aside (iY w none 3 m (cx.toList.take (m * 3)) (.returned (.slice (some ⟨w.heap.size,0,none⟩) m G)) W1):=by
  refine ⟨w.heap.size,G,ROW,99,rfl,hGe,by rw [hW1];exact eX w.drew _,?_,.inr (Nat.le_refl _),fun k hk=>?_,by rw [hW1];rfl,by rw [hW1];rfl,by rw [hW1];rfl,?_⟩
  ·rw [ni]
   simp only [Array.size_append,List.size_toArray,hxl]
   have:(Builtin.zeroCells (Value.agg #[.string "".toUTF8,.string "".toUTF8,.slice none 0 0]).cells (G - m)).size=(G - m) * 3:=by simp [Builtin.zeroCells,Value.cells]
   rw [this];omega
  ·rw [<- hxs] at hk ⊢
   rw [ni,<- Array.getElem?_toList]
   simp only [Array.toList_append]
   rw [List.getElem?_append_left hk]
  ·rw [hW1]
   have:=Ext.lz w (.cells ROW 99) []
   exact ⟨this.size,fun k hk=>this.same k ⟨hk.1,by simp⟩,this.shape⟩
 clear hG ni hW1 hx h1x kP jx hsrc hxl hxs hvl
 go_enter Tryz.func251,Tryz.ntmps251
 go_wp2_with (at_builtin;refine Lib.wpList_append_run _ rfl _ _ _ _ rfl _ _ rfl rfl _ _ (hrun _) ?_)
 go_ret
 exact X
set_option maxRecDepth 1000000 in
set_option maxHeartbeats 4000000 in
theorem Kz(w:World)(b n cap i vb m vc:Nat)(c cx:Array Value)(Ty Tx:TypeId)(hx:w.heap[vb]? = some (.cells cx Tx (0,0)))(hvl:m * 3<=cx.size)(hm:0<m)(h1x:∀ (k:Nat) (v:Value),k<m * 3->cx[k]? = some v->v.oneCell'=true)(hc:w.heap[b]? = some (.cells c Ty (0,0)))(hnc:n<=cap)(hcs:cap * 3<=c.size)(h1c:∀ (k:Nat) (v:Value),k<n * 3->c[k]? = some v->v.oneCell'=true)(hvb:vb≠b)(hi:i<n)(hroom:cap<n+m)(oZ:(n+m) * 56<=140737488355328):Calls Tryz.prog 251 #[.slice (some ⟨b,0,none⟩) n cap,.int .i64 (i:Nat),.slice (some ⟨vb,0,none⟩) m vc] w (iY w (some b) 3 (n+m) ((c.toList.take (n * 3)).take (i * 3)++(cx.toList.take (m * 3)++(c.toList.take (n * 3)).drop (i * 3)))):=by
 obtain ⟨i0,hi0,hz0,hz1,hz2⟩:=info_parts (P:=Tryz.prog) (e:=99) (z:=(.agg #[.string "".toUTF8,.string "".toUTF8,.slice none 0 0])) (size:=3) (bytes:=56) (by kernel_rfl)
 have ht:(Tryz.prog).underlying 37=some (.slice 99):=by kernel_rfl
 have hti:(Tryz.prog).underlying 3=some (.int .i64):=by kernel_rfl
 obtain ⟨xs,hxs,hxl,kP,jx,hsrc⟩:=rP (P:=Tryz.prog) (vc:=vc) ht hz1 hx hvl h1x
 have hns:n * 3<=c.size:=Nat.le_trans (Nat.mul_le_mul_right _ hnc) hcs
 obtain ⟨os,hos,hol,pE,lh⟩:=wv hc hns h1c
 have hm0:¬ ((m:Int)=0):=by omega
 have WW:¬ ((i:Int)=(n:Int)):=by omega
 have hz3:(cap:Int)<(n:Int)+(m:Int):=by omega
 have hbw:b<w.heap.size:=wy hc
 have hvw:vb<w.heap.size:=wy hx
 have hbN:b≠w.heap.size:=by omega
 have hvN:vb≠w.heap.size:=by omega
 have hkk:(n:Int)+(m:Int) - (i:Int)=((n+m - i:Nat):Int):=by omega
 have hik:i+(n+m - i)=n+m:=by omega
 obtain ⟨G,hG⟩:∃ G,G=grownCap w (n+m) cap 99:=⟨_,rfl⟩
 have hGe:n+m<=G:=by rw [hG];exact grownCap_ge w _ _ _
 have Z1:G<=9223372036854775807:=by
  have:=grownCap_le_maxLen w (n+m) cap 99 (by unfold maxLen;omega)
  rw [<- hG] at this
  unfold maxLen at this
  omega
 obtain ⟨ROW,ni⟩:∃ ROW:Array Value,ROW=(os.take (i * 3)).toArray++Builtin.zeroCells (Value.agg #[.string "".toUTF8,.string "".toUTF8,.slice none 0 0]).cells (n+m - i)++Builtin.zeroCells (Value.agg #[.string "".toUTF8,.string "".toUTF8,.slice none 0 0]).cells (G - (n+m)):=⟨_,rfl⟩
 have hRs:ROW.size=G * 3:=by
  have e1:∀ k,(Builtin.zeroCells (Value.agg #[.string "".toUTF8,.string "".toUTF8,.slice none 0 0]).cells k).size=k * 3:=fun k=>by simp [Builtin.zeroCells,Value.cells]
  rw [ni]
  simp only [Array.size_append,List.size_toArray,List.length_take,hol,e1]
  omega
 obtain ⟨W1,hW1⟩:∃ W1,W1=w.drew.alloc (.cells ROW 99):=⟨_,rfl⟩
 have hrz:∀ ty,(Builtin.append_ #[37,3] ty #[.slice (some ⟨b,0,none⟩) i cap,.int .i64 ((n:Int)+(m:Int) - (i:Int))]).run Tryz.prog w=.ok (.slice (some ⟨w.heap.size,0,none⟩) (n+m) G) W1:=fun ty=>by
  have hold:(Builtin.firstCells i0.size i (.slice (some ⟨b,0,none⟩) i cap)).run Tryz.prog w.drew=.ok (os.take (i * 3)).toArray w.drew :=
   run_firstCells_some (P:=Tryz.prog) w.drew i0.size i ⟨b,0,none⟩ i cap (os.take (i * 3)) (by rw [List.length_take,hz1];omega) fun j v hj=>by
    rw [fO,Nat.zero_add]
    rw [List.getElem?_take] at hj
    split at hj
    ·exact lh w.drew rfl j v hj
    ·cases hj
  have h:=Lib.run_append_grow_zeros (P:=Tryz.prog) w 37 3 ty 99 i0 _ .i64 .i64 ht hti hi0 hz0 (some ⟨b,0,none⟩) i cap _ hold (n+m - i) (by omega) (by omega) (by omega) (by omega) (by rw [hz2];omega) (by rw [hz2,hik];exact growslice_fits hroom oZ)
  rw [hik,<- hG,<- ni,<- hW1] at h
  rw [hkk]
  exact h
 have nO:W1.heap[w.heap.size]? = some (.cells ROW 99 (0,0)):=by rw [hW1];exact eX w.drew _
 have hE1:=Ext.lz w (.cells ROW 99) []
 rw [<- hW1] at hE1
 obtain ⟨c2,hc2⟩:∃ c2:Array Value,c2=(ROW.toList.take (i * 3)++xs++ROW.toList.drop (i * 3+xs.length)).toArray:=⟨_,rfl⟩
 obtain ⟨W2,hW2⟩:∃ W2,W2=W1.setRow w.heap.size c2:=⟨_,rfl⟩
 have hRl:ROW.toList.length=G * 3:=by simpa using hRs
 have tj:c2.size=G * 3:=by rw [hc2];simp only [List.size_toArray,List.length_append,List.length_take,List.length_drop,hxl,hRl];omega
 have vl:W2.heap[w.heap.size]? = some (.cells c2 99 (0,0)):=by rw [hW2];exact dK W1 _ c2 ROW _ _ nO
 have hcA:∀ ty dc,(Builtin.copy_ #[37,37] ty #[.slice (some ⟨w.heap.size,i * 3,none⟩) (n+m - i) dc,.slice (some ⟨vb,0,none⟩) m vc]).run Tryz.prog W1=.ok (goInt m) W2:=fun ty dc=>by
  have iN:Nat.min m (n+m - i)=m:=by simp only [Nat.min_def];split<;>omega
  have:=mf (P:=Tryz.prog) W1 37 37 ty 99 i0 ht hi0 3 hz1 w.heap.size (i * 3) (n+m - i) dc ⟨vb,0,none⟩ m vc xs (by rw [iN];exact hxl) (fun j v hj=>jx W1 (hE1.same vb ⟨hvw,by simp⟩) j v hj) ROW 99 nO (by rw [hxl,hRs];omega) kP
  rw [iN,<- hc2,<- hW2] at this
  exact this
 have hE2:=Ext.setRow W1 w.heap.size c2 ROW 99 _ nO (by rw [tj,hRs])
 rw [<- hW2] at hE2
 obtain ⟨ds,hds⟩:∃ ds,ds=os.drop (i * 3):=⟨_,rfl⟩
 have hdl:ds.length=(n - i) * 3:=by rw [hds,List.length_drop,hol];omega
 have zD:∀ v∈ds,v.oneCell'=true:=fun v hv=>pE v (List.mem_of_mem_drop (by rw [<- hds];exact hv))
 obtain ⟨c3,hc3⟩:∃ c3:Array Value,c3=(c2.toList.take ((i+m) * 3)++ds++c2.toList.drop ((i+m) * 3+ds.length)).toArray:=⟨_,rfl⟩
 obtain ⟨W3,hW3⟩:∃ W3,W3=W2.drew.setRow w.heap.size c3:=⟨_,rfl⟩
 have RS:c2.toList.length=G * 3:=by simpa using tj
 have MR:c3.size=G * 3:=by rw [hc3];simp only [List.size_toArray,List.length_append,List.length_take,List.length_drop,hdl,RS];omega
 have hcB:∀ ty dc sc,(Builtin.copy_ #[37,37] ty #[.slice (some ⟨w.heap.size,(i+m) * 3,none⟩) (n+m - (i+m)) dc,.slice (some ⟨b,i * 3,none⟩) (n - i) sc]).run Tryz.prog W2.drew=.ok (goInt (n - i:Nat)) W3:=fun ty dc sc=>by
  have iN:Nat.min (n - i) (n+m - (i+m))=n - i:=by simp only [Nat.min_def];split<;>omega
  have:=mf (P:=Tryz.prog) W2.drew 37 37 ty 99 i0 ht hi0 3 hz1 w.heap.size ((i+m) * 3) (n+m - (i+m)) dc ⟨b,i * 3,none⟩ (n - i) sc ds (by rw [iN];exact hdl) (fun j v hj=>by
   rw [fO]
   rw [hds,List.getElem?_drop] at hj
   exact lh W2.drew ((hE2.same b ⟨Nat.lt_of_lt_of_le hbw hE1.size,by simpa using hbN⟩).trans (hE1.same b ⟨hbw,by simp⟩)) (i * 3+j) v hj) c2 99 vl (by rw [hdl,tj];omega) zD
  rw [iN,<- hc3,<- hW3] at this
  exact this
 have X:Aside (iY w (some b) 3 (n+m) ((c.toList.take (n * 3)).take (i * 3)++(cx.toList.take (m * 3)++(c.toList.take (n * 3)).drop (i * 3))) (.returned (.slice (some ⟨w.heap.size,0,none⟩) (n+m) G)) W3):=by
  have hE3:=Ext.setRow W2.drew w.heap.size c3 c2 99 _ vl (by rw [MR,tj])
  rw [<- hW3] at hE3
  refine ⟨w.heap.size,G,c3,99,rfl,hGe,by rw [hW3];exact dK W2.drew _ c3 c2 _ _ vl,by rw [MR];exact Nat.le_refl _,.inr (Nat.le_refl _),fun k hk=>?_,by rw [hW3,hW2,hW1];rfl,by rw [hW3,hW2,hW1];rfl,by rw [hW3,hW2,hW1];rfl,?_⟩
  ·rw [<- hxs,<- hos,<- hds] at hk ⊢
   have htl:(os.take (i * 3)).length=i * 3:=by rw [List.length_take,hol];omega
   have Uf:ROW.toList.take (i * 3)=os.take (i * 3):=by
    rw [ni]
    simp only [Array.toList_append,List.append_assoc]
    rw [List.take_append_of_le_length (by rw [htl];exact Nat.le_refl _),List.take_of_length_le (by rw [htl];exact Nat.le_refl _)]
   have W8:c2.toList.take ((i+m) * 3)=os.take (i * 3)++xs:=by
    rw [hc2,Uf]
    rw [List.take_append_of_le_length (by rw [List.length_append,htl,hxl];omega),List.take_of_length_le (by rw [List.length_append,htl,hxl];omega)]
   rw [hc3,<- Array.getElem?_toList,W8,<- List.append_assoc,List.getElem?_append_left (by rw [List.append_assoc];exact hk)]
  ·refine ⟨Nat.le_trans hE1.size (Nat.le_trans hE2.size hE3.size),fun k hk=>?_,fun q cc T z hq=>?_⟩
   ·have hkN:k ∉ [w.heap.size]:=by simp;omega
    exact (hE3.same k ⟨Nat.lt_of_lt_of_le hk.1 (Nat.le_trans hE1.size hE2.size),hkN⟩).trans ((hE2.same k ⟨Nat.lt_of_lt_of_le hk.1 hE1.size,hkN⟩).trans (hE1.same k ⟨hk.1,by simp⟩))
   ·obtain ⟨d1,h1,h2⟩:=hE1.shape q cc T z hq
    obtain ⟨d2,h3,h4⟩:=hE2.shape q d1 T z h1
    obtain ⟨d3,h5,h6⟩:=hE3.shape q d2 T z h3
    exact ⟨d3,h5,h6.trans (h4.trans h2)⟩
 have hGi:¬ (G=i):=by omega
 have Z0:¬ (G=i+m):=by omega
 have hci:¬ (cap=i):=by omega
 have hw1:IntKind.i64.wrap ((i:Int)+(m:Int))=(i:Int)+(m:Int):=by rw [IntKind.wrap_i64];omega
 have hb1:(0:Int)<=(i:Int)+(m:Int):=by omega
 have hin:i<=n:=by omega
 have htn:((i:Int)+(m:Int)).toNat=i+m:=by omega
 have hb3:(i:Int)<=(n:Int):=by omega
 clear hG ni hW1 hW2 hW3 hc2 hc3 hRs hRl tj RS MR hds hdl zD nO vl hE1 hE2 hkk hik hns
 clear hc hx h1c h1x pE lh kP jx hsrc hol hxl hos hxs hcs hvl
 go_enter Tryz.func251,Tryz.ntmps251
 go_wp2_with (first
  | (at_builtin;refine Lib.wpList_append_run _ rfl _ _ _ _ rfl _ _ rfl rfl _ _ (hrz _) ?_)
  | (at_builtin;refine pV _ rfl _ _ 37 37 rfl _ _ rfl rfl (hcA _ _) ?_))
 go_region_law (refine rz rfl _ _ 37 37 rfl (.slice (some ⟨w.heap.size,(i+m) * 3,none⟩) (n+m - (i+m)) (G - (i+m))) (.slice (some ⟨b,i * 3,none⟩) (n - i) (cap - i)) (by simp [Act.eval,Act.put]) (by simp [Act.eval,Act.put]) (hcB _ _ _) ?_)
 go_wp2
 go_ret
 exact X
set_option maxRecDepth 1000000 in
set_option maxHeartbeats 4000000 in
theorem Il(w:World)(b n cap i vb m vc:Nat)(c cx:Array Value)(Ty Tx:TypeId)(hx:w.heap[vb]? = some (.cells cx Tx (0,0)))(hvl:m * 3<=cx.size)(hm:0<m)(h1x:∀ (k:Nat) (v:Value),k<m * 3->cx[k]? = some v->v.oneCell'=true)(hc:w.heap[b]? = some (.cells c Ty (0,0)))(hnc:n<=cap)(hcs:cap * 3<=c.size)(h1c:∀ (k:Nat) (v:Value),k<n * 3->c[k]? = some v->v.oneCell'=true)(hvb:vb≠b)(hi:i<n)(hroom:n+m<=cap)(oZ:(n+m) * 56<=140737488355328):Calls Tryz.prog 251 #[.slice (some ⟨b,0,none⟩) n cap,.int .i64 (i:Nat),.slice (some ⟨vb,0,none⟩) m vc] w (iY w (some b) 3 (n+m) ((c.toList.take (n * 3)).take (i * 3)++(cx.toList.take (m * 3)++(c.toList.take (n * 3)).drop (i * 3)))):=by
 obtain ⟨i0,hi0,hz0,hz1,hz2⟩:=info_parts (P:=Tryz.prog) (e:=99) (z:=(.agg #[.string "".toUTF8,.string "".toUTF8,.slice none 0 0])) (size:=3) (bytes:=56) (by kernel_rfl)
 have ht:(Tryz.prog).underlying 37=some (.slice 99):=by kernel_rfl
 have hti:(Tryz.prog).underlying 3=some (.int .i64):=by kernel_rfl
 obtain ⟨xs,hxs,hxl,kP,jx,hsrc⟩:=rP (P:=Tryz.prog) (vc:=vc) ht hz1 hx hvl h1x
 have hns:n * 3<=c.size:=Nat.le_trans (Nat.mul_le_mul_right _ hnc) hcs
 obtain ⟨os,hos,hol,pE,lh⟩:=wv hc hns h1c
 have hm0:¬ ((m:Int)=0):=by omega
 have WW:¬ ((i:Int)=(n:Int)):=by omega
 have hz3:¬ ((cap:Int)<(n:Int)+(m:Int)):=by omega
 have hbw:b<w.heap.size:=wy hc
 have hvw:vb<w.heap.size:=wy hx
 have hcl:c.toList.length=c.size:=by simp
 have WN:(n+m) * 3<=c.size:=Nat.le_trans (Nat.mul_le_mul_right _ hroom) hcs
 have hov:∀ lb cb,(callFunc 268 #[.slice (some ⟨vb,0,none⟩) m vc,.slice (some ⟨b,(i+m) * 3,none⟩) lb cb]).run Tryz.prog w=.ok (.value (.bool false)) w:=fun lb cb=>by
  rw [run_callFunc_extern (P:=Tryz.prog) Tryz.func268 (by kernel_rfl) (by kernel_rfl) (by kernel_rfl) (e:=Extern.SlicesOverlaps.overlaps #[37,37] #[4]) (by kernel_rfl),
   Lib.run_overlaps_apart (P:=Tryz.prog) w 37 4 99 ht 3 (fun w=>by simp [sizeOf,typeInfo,hi0,hz1]) ⟨vb,0,none⟩ ⟨b,(i+m) * 3,none⟩ m vc lb cb hvb Tx Ty cx.size c.size (by simp [World.shape?,hx]) (by simp [World.shape?,hc]) (by omega) (by simp [World.frozen?,hx]) (by simp [World.frozen?,hx])]
  rfl
 obtain ⟨ds,hds⟩:∃ ds,ds=os.drop (i * 3):=⟨_,rfl⟩
 have hdl:ds.length=(n - i) * 3:=by rw [hds,List.length_drop,hol];omega
 have zD:∀ v∈ds,v.oneCell'=true:=fun v hv=>pE v (List.mem_of_mem_drop (by rw [<- hds];exact hv))
 obtain ⟨c1,hc1⟩:∃ c1:Array Value,c1=(c.toList.take ((i+m) * 3)++ds++c.toList.drop ((i+m) * 3+ds.length)).toArray:=⟨_,rfl⟩
 obtain ⟨W1,hW1⟩:∃ W1,W1=w.drew.setRow b c1:=⟨_,rfl⟩
 have nN:c1.size=c.size:=by rw [hc1];simp only [List.size_toArray,List.length_append,List.length_take,List.length_drop,hdl,hcl];omega
 have hcA:∀ ty dc sc,(Builtin.copy_ #[37,37] ty #[.slice (some ⟨b,(i+m) * 3,none⟩) (n+m - (i+m)) dc,.slice (some ⟨b,i * 3,none⟩) (n+m - i) sc]).run Tryz.prog w.drew=.ok (goInt (n - i:Nat)) W1:=fun ty dc sc=>by
  have iN:Nat.min (n+m - i) (n+m - (i+m))=n - i:=by simp only [Nat.min_def];split<;>omega
  have:=mf (P:=Tryz.prog) w.drew 37 37 ty 99 i0 ht hi0 3 hz1 b ((i+m) * 3) (n+m - (i+m)) dc ⟨b,i * 3,none⟩ (n+m - i) sc ds (by rw [iN];exact hdl) (fun j v hj=>by
   rw [fO]
   rw [hds,List.getElem?_drop] at hj
   exact lh w.drew rfl (i * 3+j) v hj) c Ty hc (by rw [hdl];omega) zD
  rw [iN,<- hc1,<- hW1] at this
  exact this
 have nO:W1.heap[b]? = some (.cells c1 Ty (0,0)):=by rw [hW1];exact dK w.drew _ c1 c _ _ hc
 have hE1:=Ext.setRow w.drew b c1 c Ty _ hc nN
 rw [<- hW1] at hE1
 obtain ⟨c2,hc2⟩:∃ c2:Array Value,c2=(c1.toList.take (i * 3)++xs++c1.toList.drop (i * 3+xs.length)).toArray:=⟨_,rfl⟩
 obtain ⟨W2,hW2⟩:∃ W2,W2=W1.setRow b c2:=⟨_,rfl⟩
 have RT:c1.toList.length=c.size:=by simpa using nN
 have tj:c2.size=c.size:=by rw [hc2];simp only [List.size_toArray,List.length_append,List.length_take,List.length_drop,hxl,RT];omega
 have hcB:∀ ty dc,(Builtin.copy_ #[37,37] ty #[.slice (some ⟨b,i * 3,none⟩) (n+m - i) dc,.slice (some ⟨vb,0,none⟩) m vc]).run Tryz.prog W1=.ok (goInt m) W2:=fun ty dc=>by
  have iN:Nat.min m (n+m - i)=m:=by simp only [Nat.min_def];split<;>omega
  have:=mf (P:=Tryz.prog) W1 37 37 ty 99 i0 ht hi0 3 hz1 b (i * 3) (n+m - i) dc ⟨vb,0,none⟩ m vc xs (by rw [iN];exact hxl) (fun j v hj=>jx W1 (hE1.same vb ⟨hvw,by simpa using hvb⟩) j v hj) c1 Ty nO (by rw [hxl,nN];omega) kP
  rw [iN,<- hc2,<- hW2] at this
  exact this
 have X:Aside (iY w (some b) 3 (n+m) ((c.toList.take (n * 3)).take (i * 3)++(cx.toList.take (m * 3)++(c.toList.take (n * 3)).drop (i * 3))) (.returned (.slice (some ⟨b,0,none⟩) (n+m) cap)) W2):=by
  have hE2:=Ext.setRow W1 b c2 c1 Ty _ nO (by rw [tj,nN])
  rw [<- hW2] at hE2
  refine ⟨b,cap,c2,Ty,rfl,hroom,by rw [hW2];exact dK W1 _ c2 c1 _ _ nO,by rw [tj];exact hcs,.inl rfl,fun k hk=>?_,by rw [hW2,hW1];rfl,by rw [hW2,hW1];rfl,by rw [hW2,hW1];rfl,?_⟩
  ·rw [<- hxs,<- hos,<- hds] at hk ⊢
   have ht1:c1.toList.take (i * 3)=os.take (i * 3):=by
    rw [hc1,List.append_assoc]
    rw [List.take_append_of_le_length (by rw [List.length_take,hcl];omega),List.take_take,hos,List.take_take]
    congr 1;omega
   have htl:(os.take (i * 3)).length=i * 3:=by rw [List.length_take,hol];omega
   have hd1:(c1.toList.drop (i * 3+xs.length)).take ((n - i) * 3)=ds:=by
    have e1:(c.toList.take ((i+m) * 3)).length=i * 3+xs.length:=by rw [List.length_take,hcl,hxl];omega
    rw [hc1,List.append_assoc,<- e1,List.drop_left,<- hdl,List.take_left]
   have hD:c1.toList.drop (i * 3+xs.length)=ds++(c1.toList.drop (i * 3+xs.length)).drop ((n - i) * 3):=by
    rw [<- hd1,List.take_append_drop]
   rw [hc2,<- Array.getElem?_toList,ht1,hD,<- List.append_assoc,List.append_assoc (os.take (i * 3)),List.getElem?_append_left hk]
  ·refine ⟨Nat.le_trans hE1.size hE2.size,fun k hk=>?_,fun q cc T z hq=>?_⟩
   ·have hkN:k ∉ [b]:=by simpa using hk.2
    exact (hE2.same k ⟨Nat.lt_of_lt_of_le hk.1 hE1.size,hkN⟩).trans (hE1.same k ⟨hk.1,hkN⟩)
   ·obtain ⟨d1,h1,h2⟩:=hE1.shape q cc T z hq
    obtain ⟨d2,h3,h4⟩:=hE2.shape q d1 T z h1
    exact ⟨d2,h3,h4.trans h2⟩
 have hci:¬ (cap=i):=by omega
 have ZX:¬ (cap=i+m):=by omega
 have hw1:IntKind.i64.wrap ((i:Int)+(m:Int))=(i:Int)+(m:Int):=by rw [IntKind.wrap_i64];omega
 have hb1:(0:Int)<=(i:Int)+(m:Int):=by omega
 have hin:i<=n:=by omega
 have htn:((i:Int)+(m:Int)).toNat=i+m:=by omega
 have hb3:(i:Int)<=(n:Int)+(m:Int):=by omega
 clear hW1 hW2 hc1 hc2 nN RT tj hds hdl zD nO hE1 hcl WN hns
 clear hc hx h1c h1x pE lh kP jx hsrc hol hxl hos hxs hcs hvl
 go_enter Tryz.func251,Tryz.ntmps251
 go_wp2_with (simp only [hov])
 go_region_law (refine rz rfl _ _ 37 37 rfl _ _ (by simp [Act.eval,Act.put]) (by simp [Act.eval,Act.put]) (hcA _ _ _) ?_)
 go_wp2_with (at_builtin;refine pV _ rfl _ _ 37 37 rfl _ _ rfl rfl (hcB _ _) ?_)
 go_ret
 exact X
theorem Wp:Je Tryz.prog 251 3 56:=by
 refine ⟨fun w b n cap i vb vc c cx Ty Tx hx hvl h1x hc hnc hcs h1c hvb hi oZ=>?_,fun w vb vc cx Tx hx hvl h1x=>MA w vb 1 vc cx Tx hx hvl (by omega) h1x (by omega)⟩
 by_cases hr:n+1<=cap
 ·by_cases hn:i=n
  ·subst hn
   have:=CD w b i cap vb 1 vc c cx Ty Tx hx hvl (by omega) h1x hc hnc hcs h1c hvb hr
   rw [List.take_take,Nat.min_self,List.drop_eq_nil_of_le (by rw [List.length_take];omega),List.append_nil]
   exact this
  ·exact Il w b n cap i vb 1 vc c cx Ty Tx hx hvl (by omega) h1x hc hnc hcs h1c hvb (by omega) hr oZ
 ·by_cases hn:i=n
  ·subst hn
   have:=CE w b i cap vb 1 vc c cx Ty Tx hx hvl (by omega) h1x hc hnc hcs h1c hvb (by omega) oZ
   rw [List.take_take,Nat.min_self,List.drop_eq_nil_of_le (by rw [List.length_take];omega),List.append_nil]
   exact this
  ·exact Kz w b n cap i vb 1 vc c cx Ty Tx hx hvl (by omega) h1x hc hnc hcs h1c hvb (by omega) (by omega) oZ
end Go.Proofs
