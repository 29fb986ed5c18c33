/- Part of a proof. -/
import Derived.Deep.RegionLaw
import Derived.Deep.LoopGhost
import Derived.Lib.Walk
import Derived.Lib.SliceRun
import Derived.Lib.AppendZerosOnto
import Derived.Lib.Overlaps
import Derived.Test.YtbiikafnjialjaaGreatDoorS0
set_option linter.all false
open List
namespace Go.Ab
open Go.RowKit (Below)
def nT{P:Program}(w:World)(t u ty e:TypeId)(i:TypeInfo)(ht:P.underlying t=some (.slice e))(hi:P.info? e=some i)(size:Nat)(hsz:i.size=size)(b o dLen dCap:Nat)(A:Addr)(sLen sCap:Nat)(news:List Value)(hn:news.length=Nat.min sLen dLen * size)
  (hc:∀j v,news[j]? = some v->w.cell? (A.add j)=some v) (cur:Array Value) (Ty:TypeId) (hg:w.heap[b]? = some (.cells cur Ty (0,0))) (hfit:o+news.length<=cur.size) (h1:∀v∈news,v.oneCell'=true) :
  (Builtin.copy_ #[t,u] ty #[.slice (some ⟨b,o,none⟩) dLen dCap,.slice (some A) sLen sCap]).run P w=.ok (goInt (Nat.min sLen dLen)) (w.setRow b (cur.toList.take o++news++cur.toList.drop (o+news.length)).toArray):=by
 subst hsz;have hst:=run_storeCells_at P b o Ty news 0 cur w hg (by simpa using hfit) h1;simp only[Nat.add_zero]at hst;have hf:=run_firstCells_some (P:=P) w i.size (Nat.min sLen dLen) A sLen sCap news hn hc;simp only[Builtin.copy_,getElem?_toArray,Sem.run_bind,run_underlying ht,Result.andThen_ok,Builtin.lenOf,Sem.run_pure,sizeOf,typeInfo,hi,hf,getElem?_cons_zero,getElem?_cons_succ];simp[Builtin.copy_,run_underlying ht,Builtin.lenOf,sizeOf,typeInfo,hi,hf,hst,-append_assoc]
def ru{P:Program}(w:World){ops:Array Oper}{rest:List Oper}{o:Oper}{a:Act}{Q:Exit->Act->World->Prop}(hgd:o.guard=none)(d s:Operand)(t t':TypeId)
  (ho:o.op=.call { callee:=.builtin .copy,args:=#[d,s],argTypes:=#[t,t'] }) (v u:Value) (hd:a.eval d=v) (hs:a.eval s=u) {v':Value} {w':World}
  (hr:(Builtin.copy_ #[t,t'] o.type #[v,u]).run P w=.ok v' w') (h:wpList P ops Q rest (a.put o.dst v') w'):wpList P ops Q (o::rest) a w:=by
 refine wpList_plain hgd λ_ hK=>?_;unfold Oper.wp execOp;simp only[ho,resolve,invoke,builtin,Sem.run_bind,Sem.run_pure,Result.andThen_ok,map_toArray,map_cons,map_nil,hd,hs,hr];exact hK _ _ h
def tW{P:Program}{ops:Array Oper}{o:Oper}{a:Act}{w:World}{K:Act->World->Prop}{Q:Exit->Act->World->Prop}{E:Prop}
  (hg:o.guard=none) (d x:Operand) (dT sT:TypeId) (hop:o.op=Op.call { callee:=Callee.builtin Builtin.copy,args:=#[d,x],argTypes:=#[dT,sT] })
  (v u:Value) (hd:a.eval d=v) (hx:a.eval x=u) {v':Value} {w':World} (hr:(Builtin.copy_ #[dT,sT] o.type #[v,u]).run P w=.ok v' w') (hK:K (a.put o.dst v') w') :
  if Region.wanted o (yielded ops a.tmps)=true then Oper.wp P o a w K Q else E:=by
 have hw:Region.wanted o (yielded ops a.tmps)=true:=by simp[Region.wanted,hg]
 rw[if_pos hw];unfold Oper.wp;simp[execOp,hop,resolve,invoke,builtin,hd,hx,hr,Result.andThen];exact hK
def uz{sz:Nat}{P:Program}{w:World}{vb vc m:Nat}{cx:Array Value}{Tx S E:TypeId}{i0:TypeInfo}(ht:P.underlying S=some (.slice E))(hz1:i0.size=sz)(hx:w.heap[vb]? = some (.cells cx Tx (0,0)))(hvl:m * sz<=cx.size)(h1x:∀(k:Nat) (v:Value),k<m * sz->cx[k]? = some v->v.oneCell'=true) :
  ∃xs:List Value,xs=cx.toList.take (m * sz)/\xs.length=m * sz/\(∀v∈xs,v.oneCell'=true)/\(∀W:World,W.heap[vb]? = w.heap[vb]?->∀j v,xs[j]? = some v->W.cell? ((⟨vb,0,none⟩:Addr).add j)=some v)/\(∀W:World,W.heap[vb]? = w.heap[vb]?->Src P W i0.size S (.slice (some ⟨vb,0,none⟩) m vc) m xs):=by
 obtain⟨xs,hxs⟩:∃xs,xs=cx.toList.take (m * sz):=⟨_,rfl⟩
 have hxl:xs.length=m * sz:=by rw[hxs];simp;omega
 have Rg:∀k,k<m * sz->xs[k]? = cx[k]?:=λk h=>by rw[hxs,getElem?_take_of_lt h,Array.getElem?_toList]
 have mE:∀v∈xs,v.oneCell'=true:=by
  intro u hu;obtain⟨k,hk,rfl⟩:=getElem_of_mem hu;have h3:=getElem?_eq_getElem hk;rw[hxl]at hk;rw[Rg k hk]at h3;exact h1x _ _ hk h3
 have kZ:∀(W:World),W.heap[vb]? = w.heap[vb]?->∀j v,xs[j]? = some v->W.cell? ((⟨vb,0,none⟩:Addr).add j)=some v:=λW hW j v hj=>by
  have hj2:j<m * sz:=by
   have:=(List.getElem?_eq_some_iff.1 hj).1;omega
  rw[Rg j hj2]at hj;rw[Addr.add_lit,Nat.zero_add];have h2:W.heap[vb]? = some (.cells cx Tx (0,0)):=hW.trans hx;simp[World.cell?,h2,hj]
 refine⟨xs,hxs,hxl,mE,kZ,λW hW=>⟨.inl ⟨_,ht⟩,λw'=>by simp[Builtin.lenOf],λw' hw'=>run_firstCells_some (P:=P) w' i0.size m ⟨vb,0,none⟩ m vc xs (by rw[hz1];exact hxl) λj v hj=>?_⟩⟩;have:=kZ W hW j v hj;simpa[World.cell?,hw']using this
def yt{sz:Nat}{w:World}{b n:Nat}{c:Array Value}{Ty:TypeId}(hc:w.heap[b]? = some (.cells c Ty (0,0)))(hns:n * sz<=c.size)(h1c:∀(k:Nat) (v:Value),k<n * sz->c[k]? = some v->v.oneCell'=true) :
  ∃os:List Value,os=c.toList.take (n * sz)/\os.length=n * sz/\(∀v∈os,v.oneCell'=true)/\∀W:World,W.heap[b]? = w.heap[b]?->∀j v,os[j]? = some v->W.cell? (⟨b,j,none⟩:Addr)=some v:=by
 obtain⟨os,hos⟩:∃os,os=c.toList.take (n * sz):=⟨_,rfl⟩
 have hol:os.length=n * sz:=by rw[hos];simp;omega
 have Rk:∀k,k<n * sz->os[k]? = c[k]?:=λk h=>by rw[hos,getElem?_take_of_lt h,Array.getElem?_toList]
 refine⟨os,hos,hol,?_,λW hW j v hj=>?_⟩
 ·intro u hu;obtain⟨k,hk,rfl⟩:=getElem_of_mem hu;have h3:=getElem?_eq_getElem hk;rw[hol]at hk;rw[Rk k hk]at h3;exact h1c _ _ hk h3
 ·have hj2:j<n * sz:=by
   have:=(List.getElem?_eq_some_iff.1 hj).1;omega
  rw[Rk j hj2]at hj;have h2:W.heap[b]? = some (.cells c Ty (0,0)):=hW.trans hc;simp[World.cell?,h2,hj]
def j7(w:World)(b:Option Nat)(sz len:Nat)(news:List Value)(e:Ending)(w':World):Prop :=
 ∃(b' cap':Nat) (c':Array Value) (Ty':TypeId),e=.returned (.slice (some ⟨b',0,none⟩) len cap')/\len<=cap'/\w'.heap[b']? = some (.cells c' Ty' (0,0))/\cap' * sz<=c'.size/\(some b'=b\/w.heap.size<=b') /\
  (∀k,k<news.length->c'[k]? = news[k]?)/\w'.os=w.os/\w'.tape=w.tape/\w'.output=w.output/\Ext (λk=>k<w.heap.size/\some k≠b) w w'
def LA(P:Program)(f:FuncId)(sz bytes:Nat):Prop :=
 (∀(w:World) (b n cap i vb vc:Nat) (c cx:Array Value) (Ty Tx:TypeId),w.heap[vb]? = some (.cells cx Tx (0,0))->1 * sz<=cx.size->(∀(k:Nat) (v:Value),k<1 * sz->cx[k]? = some v->v.oneCell'=true) ->
  w.heap[b]? = some (.cells c Ty (0,0))->n<=cap->cap * sz<=c.size->(∀(k:Nat) (v:Value),k<n * sz->c[k]? = some v->v.oneCell'=true)->vb≠b->i<=n->(n+1) * bytes<=140737488355328 ->
  Calls P f #[.slice (some ⟨b,0,none⟩) n cap,.int .i64 i,.slice (some ⟨vb,0,none⟩) 1 vc] w (j7 w (some b) sz (n+1) ((c.toList.take (n * sz)).take (i * sz)++(cx.toList.take (1 * sz)++(c.toList.take (n * sz)).drop (i * sz))))) /\
 (∀(w:World) (vb vc:Nat) (cx:Array Value) (Tx:TypeId),w.heap[vb]? = some (.cells cx Tx (0,0))->1 * sz<=cx.size->(∀(k:Nat) (v:Value),k<1 * sz->cx[k]? = some v->v.oneCell'=true) ->
  Calls P f #[.slice none 0 0,.int .i64 (0:Nat),.slice (some ⟨vb,0,none⟩) 1 vc] w (j7 w none sz 1 (cx.toList.take (1 * sz))))
