/- Part of a proof. -/
import Derived.WalkLawsBesides
import Derived.Test.YtmcjbaafmjlblaaGreatDoorJ0
set_option linter.all false
namespace Go.Ab
open Go.RowKit (Below)
section
theorem rv{P:Program}{t:TypeId}{zs:List Value}(h:zer P t=some zs):∃ i z,P.info? t=some i/\i.zero=some z/\z.cells.toList=zs:=by
 unfold zer at h
 split at h
 ·rename_i i hi
  split at h
  ·rename_i z hz
   simp at h
   exact ⟨i,z,hi,hz,h⟩
  ·cases h
 ·cases h
section ops
variable {L : Nat -> Nat} {P : Program} {s : AS} {o : Oper}
theorem rF{c:Call}{x y:Operand}{t u e:TypeId}{b len sz bytes n:Nat}{cells ncells:List AV}{zs:List Value}(ho:o.op=.call c)(hc:c=⟨.builtin .append,#[x,y],#[t,u]⟩)
  (hd:cN s.n o.dst=true) (hx:ev s.t x=.arr b 0 len sz) (hO:O s.o b=some cells) (hlen:cells.length=len * sz) (ht:elm P t=some (e,sz,bytes)) (hz:zer P e=some zs) (hzl:zs.length=sz)
  (hu:(∃ e',P.underlying u=some (.slice e'))\/P.underlying u=some .string) (hsrc:gP s.o sz (ev s.t y)=some (n,ncells)) (hone:ncells.all AV.one=true)
  (hL:len+n<=L sz) (hby:(len+n) * bytes<=140737488355328) (h63:len+n<=9223372036854775807) {K:AS->Prop}
  (hK:∀ b',(∀ q cs,O (jk s.o [b]) q=some cs->q≠b')->K ⟨s.n,put (bW s.t (kills s.t [y])) o.dst (.arr b' 0 (len+n) sz),(b',some (cells++ncells))::jk s.o [b]⟩):OpW L P o s K:=by
 subst hc
 obtain ⟨inf,hut,fu,rfl,rfl⟩:=jq ht
 obtain ⟨Io,z,kQ,hzz,EA⟩:=rv hz
 rw [fu] at kQ
 cases kQ
 intro B F0 w0 a w next Q cw bI
 obtain ⟨F,own,fp,fs,h⟩:=cw
 have hr:=h.ev x
 rw [hx] at hr
 simp only [Rep] at hr
 obtain ⟨_,cap,hv,hlc,hlL,gX⟩:=hr
 obtain ⟨hkey,iO,dW,c,Ty,vals,rest,hc,hcl,gE⟩:=h.obj b cells hO
 obtain ⟨news,f,hS,hnl,hnr,hfn,hfk⟩:=uB h hsrc hu
 have hvl:=gE.len
 have hbB:=h.ol b (by rw [hkey];simp)
 have Ud:cap * inf.size<=c.size:=by
  obtain ⟨c',Ty',hc',hle⟩:=gX
  rw [hc] at hc';cases hc';omega
 have IK:(fs b++f).Nodup:=by
  rw [List.nodup_append]
  refine ⟨iO,hfn,fun k hk k' hk' e=>?_⟩
  subst e
  obtain ⟨i,_,hi⟩:=hfk k hk'
  have e1:=h.so i k hi
  rw [dW k hk] at e1;cases e1
 have hfn':∀ k,k∈fs b++f->(∃ i,i∈kills s.t [y]/\k∈fp i)\/(∃ b',b'∈[b]/\own k=.obj b'):=by
  intro k hk
  rcases List.mem_append.1 hk with hk|hk
  ·exact .inr ⟨b,by simp,dW k hk⟩
  ·exact .inl (hfk k hk)
 have hFS:∀ b',F b'->F b'/\(b'<w.heap.size/\b' ∉ [b]):=fun b' hb'=>⟨hb',(h.fl b' hb').2.1,fun hd'=>by
  have e0:b'=b:=by simpa using hd'
  have e1:=(h.fl b' hb').1;rw [e0,hkey] at e1;cases e1⟩
 have hSk:∀ k,k∈fs b++f->k<w.heap.size/\k ∉ [b]:=by
  intro k hk
  have hne:own k≠.none/\own k≠.key:=by
   rcases hfn' k hk with ⟨i,_,hi⟩|⟨b',_,e⟩
   ·rw [h.so i k hi];simp
   ·rw [e];simp
  refine ⟨(h.ol k hne.1).2,fun hd'=>?_⟩
  have e0:k=b:=by simpa using hd'
  rw [e0] at hne
  exact hne.2 hkey
 unfold Oper.wp
 by_cases hroom:len+n<=cap
 ·have h2:len * inf.size+news.length<=c.size:=by
   rw [hnl,<- Nat.add_mul];exact Nat.le_trans (Nat.mul_le_mul_right _ hroom) Ud
  have hrun:=tQ (tyr:=o.type) hut fu hS b len cap c Ty hc (hnr.ones hone) hroom h2
  have hex:(execOp a.eval o).run P w=.ok (.value (.slice (some ⟨b,0,none⟩) (len+n) cap)) (w.setRow b (c.toList.take (len * inf.size)++news++c.toList.drop (len * inf.size+news.length)).toArray):=by
   simp only [execOp,ho,resolve,invoke,builtin,Sem.run_bind,Sem.run_pure,Result.andThen_ok,List.map_toArray,List.map_cons,List.map_nil,hv,hrun]
  rw [hex]
  have htk:c.toList.take (len * inf.size)=vals:=by
   rw [hcl,<- hlen,<- hvl,List.take_left]
  have hsz:(c.toList.take (len * inf.size)++news++c.toList.drop (len * inf.size+news.length)).toArray.size=c.size:=by
   have:c.toList.length=c.size:=by simp
   simp only [List.size_toArray,List.length_append,List.length_take,List.length_drop,this];omega
  have cl:=Ext.setRow w b _ c Ty _ hc hsz
  refine bI _ _ _ (hK b fun q cs hq e=>by (subst e;rw [nE] at hq;simp at hq)) ?_
  refine h.renew (kills s.t [y]) [b] b (cells++ncells) (fs b++f) o.dst hd ⟨rfl,rfl,rfl⟩ cl (by simpa using hkey) (.inl (by simp)) ?_ IK hfn' ?_
  ·refine ⟨_,Ty,vals++news,c.toList.drop (len * inf.size+news.length),dK w b _ c Ty _ hc,by rw [htk],?_⟩
   exact aq.join (aq.ext cl hFS (fun k hk=>hSk k (by simp [hk])) gE) (aq.ext cl hFS (fun k hk=>hSk k (by simp [hk])) hnr)
  ·simp only [Rep]
   exact ⟨trivial,cap,rfl,hroom,hL,gX.ext cl⟩
 ·have hrun:=yL (tyr:=o.type) hut fu hzz hS ⟨b,0,none⟩ len cap vals (by rw [hvl,hlen]) (fun j v hj=>by
   have hrow:gp w b 0 vals:=⟨c,Ty,_,hc,fun i hi=>by rw [Nat.zero_add,<- Array.getElem?_toList,hcl,List.getElem?_append_left hi]⟩
   rw [fO];exact hrow.cell hj) (by omega) h63 hby
  have hex:(execOp a.eval o).run P w=.ok (.value (.slice (some ⟨w.heap.size,0,none⟩) (len+n) (grownCap w (len+n) cap e)))
    (w.drew.alloc (.cells (vals.toArray++news.toArray++Builtin.zeroCells z.cells (grownCap w (len+n) cap e - (len+n))) e)):=by
   simp only [execOp,ho,resolve,invoke,builtin,Sem.run_bind,Sem.run_pure,Result.andThen_ok,List.map_toArray,List.map_cons,List.map_nil,hv,hrun]
  rw [hex]
  refine bI _ _ _ (hK w.heap.size fun q cs hq e=>by
   rw [nE] at hq
   split at hq
   ·cases hq
   ·have:=(h.ol q (by rw [(h.obj q cs hq).1];simp)).2
    omega) ?_
  have cl:=Ext.lz w (.cells (vals.toArray++news.toArray++Builtin.zeroCells z.cells (grownCap w (len+n) cap e - (len+n))) e) [b]
  have hge:=grownCap_ge w (len+n) cap e
  have AR:z.cells.size=inf.size:=by rw [<- hzl,<- EA];simp
  refine h.renew (kills s.t [y]) [b] w.heap.size (cells++ncells) (fs b++f) o.dst hd ⟨rfl,rfl,rfl⟩ cl (by simpa using hkey) (.inr ⟨Nat.le_refl _,by simp⟩) ?_ IK hfn' ?_
  ·refine ⟨_,e,vals++news,(Builtin.zeroCells z.cells (grownCap w (len+n) cap e - (len+n))).toList,eX w.drew _,by simp,?_⟩
   exact aq.join (aq.ext cl hFS (fun k hk=>hSk k (by simp [hk])) gE) (aq.ext cl hFS (fun k hk=>hSk k (by simp [hk])) hnr)
  ·simp only [Rep]
   refine ⟨trivial,_,rfl,hge,hL,_,e,eX w.drew _,?_⟩
   simp only [Array.size_append,List.size_toArray,size_zeroCells,AR,hvl,hlen,hnl,Nat.zero_add]
   rw [<- Nat.add_mul,<- Nat.add_mul]
   exact Nat.mul_le_mul_right _ (by omega)
theorem rE{c:Call}{x y:Operand}{t u e:TypeId}{sz bytes n:Nat}{ncells:List AV}{zs:List Value}(ho:o.op=.call c)(hc:c=⟨.builtin .append,#[x,y],#[t,u]⟩)
  (hd:cN s.n o.dst=true) (hx:ev s.t x=.v (.slice none 0 0)) (ht:elm P t=some (e,sz,bytes)) (hz:zer P e=some zs) (hzl:zs.length=sz)
  (hu:(∃ e',P.underlying u=some (.slice e'))\/P.underlying u=some .string) (hsrc:gP s.o sz (ev s.t y)=some (n,ncells)) (h0:0<n)
  (hL:n<=L sz) (hby:n * bytes<=140737488355328) (h63:n<=9223372036854775807) {K:AS->Prop}
  (hK:∀ b',(∀ q cs,O s.o q=some cs->q≠b')->K ⟨s.n,put (bW s.t (kills s.t [y])) o.dst (.arr b' 0 n sz),(b',some ncells)::s.o⟩):OpW L P o s K:=by
 subst hc
 obtain ⟨inf,hut,fu,rfl,rfl⟩:=jq ht
 obtain ⟨Io,z,kQ,hzz,EA⟩:=rv hz
 rw [fu] at kQ
 cases kQ
 intro B F0 w0 a w next Q cw bI
 obtain ⟨F,own,fp,fs,h⟩:=cw
 have hv:=h.val hx
 obtain ⟨news,f,hS,hnl,hnr,hfn,hfk⟩:=uB h hsrc hu
 unfold Oper.wp
 have hrun:=Bs (tyr:=o.type) hut fu hzz hS h0 h63 hby
 have hex:(execOp a.eval o).run P w=.ok (.value (.slice (some ⟨w.heap.size,0,none⟩) n (grownCap w n 0 e)))
   (w.drew.alloc (.cells (news.toArray++Builtin.zeroCells z.cells (grownCap w n 0 e - n)) e)):=by
  simp only [execOp,ho,resolve,invoke,builtin,Sem.run_bind,Sem.run_pure,Result.andThen_ok,List.map_toArray,List.map_cons,List.map_nil,hv,hrun]
 rw [hex]
 refine bI _ _ _ (hK w.heap.size fun q cs hq e=>by
  have:=(h.ol q (by rw [(h.obj q cs hq).1];simp)).2
  omega) ?_
 have cl:=Ext.lz w (.cells (news.toArray++Builtin.zeroCells z.cells (grownCap w n 0 e - n)) e) []
 have hge:=grownCap_ge w n 0 e
 have AR:z.cells.size=inf.size:=by rw [<- hzl,<- EA];simp
 have hFS:∀ b',F b'->F b'/\(b'<w.heap.size/\b' ∉ ([]:List Nat)):=fun b' hb'=>⟨hb',(h.fl b' hb').2.1,by simp⟩
 refine h.renew (kills s.t [y]) [] w.heap.size ncells f o.dst hd ⟨rfl,rfl,rfl⟩ cl (by simp) (.inr ⟨Nat.le_refl _,by simp⟩) ?_ hfn (fun k hk=>.inl (hfk k hk)) ?_
 ·refine ⟨_,e,news,(Builtin.zeroCells z.cells (grownCap w n 0 e - n)).toList,eX w.drew _,by simp,?_⟩
  exact aq.ext cl hFS (fun k hk=>⟨by obtain ⟨i,_,hi⟩:=hfk k hk;exact (h.ig hi).2,by simp⟩) hnr
 ·simp only [Rep]
  refine ⟨trivial,_,rfl,hge,hL,_,e,eX w.drew _,?_⟩
  simp only [Array.size_append,List.size_toArray,size_zeroCells,AR,hnl,Nat.zero_add]
  rw [<- Nat.add_mul]
  exact Nat.mul_le_mul_right _ (by omega)
theorem aq.Dr{F:Nat->Prop}{w:World}{l m:List AV}{vs us:List Value}{f g:List Nat}(r:aq L F w l vs f)(q:aq L F w m us g)(off n:Nat)(hn:m.length=n)(hle:off+n<=l.length) :
  ∃ f',aq L F w (l.take off++m++l.drop (off+n)) (vs.take off++us++vs.drop (off+n)) f'/\((f++g).Nodup->f'.Nodup)/\∀ b,b∈f'->b∈f\/b∈g:=by
 have hl:=r.len
 have e1:l=l.take off++((l.drop off).take n++l.drop (off+n)):=by
  rw [<- List.drop_drop,List.take_append_drop,List.take_append_drop]
 rw [e1] at r
 obtain ⟨v1,v23,f1,f23,rfl,rfl,r1,r23⟩:=r.split
 obtain ⟨v2,v3,f2,f3,rfl,rfl,r2,r3⟩:=r23.split
 have h1:=r1.len
 have h2:=r2.len
 simp only [List.length_take,List.length_drop] at h1 h2
 have hv1:v1.length=off:=by omega
 have hv2:v2.length=n:=by omega
 have e2:(v1++(v2++v3)).take off=v1:=by rw [<- hv1,List.take_left]
 have e3:(v1++(v2++v3)).drop (off+n)=v3:=by
  rw [<- List.append_assoc,<- hv1,<- hv2,<- List.length_append,List.drop_left]
 rw [e2,e3]
 refine ⟨f1++g++f3,(r1.join q).join r3,fun hnd=>?_,fun b hb=>?_⟩
 ·have hsub:(f1++f3++g).Sublist (f1++(f2++f3)++g):=(List.Sublist.append (List.Sublist.append (List.Sublist.refl _) (List.sublist_append_right _ _)) (List.Sublist.refl _))
  have h3:=hsub.nodup hnd
  have hp:(f1++g++f3).Perm (f1++f3++g):=by
   rw [List.append_assoc,List.append_assoc]
   exact List.Perm.append_left _ List.perm_append_comm
  exact hp.nodup_iff.2 h3
 ·simp only [List.mem_append] at hb ⊢
  rcases hb with (hb|hb)|hb
  ·exact .inl (.inl hb)
  ·exact .inr hb
  ·exact .inl (.inr (.inr hb))
theorem BN{t:TypeId}{ad x:Operand}{b off n:Nat}{g:Bool}{cells:List AV}(ho:o.op=.store t ad x)(hd:o.dst=none)(ha:ev s.t ad=.ptr b off)(hO:O s.o b=some cells)
  (ht:ty P t=some (g,n)) (hx:(ev s.t x).elem n=true) (hone:(ev s.t x).cells.all AV.one=true) (hle:off+n<=cells.length) {K:AS->Prop}
  (hK:K ⟨s.n,bW s.t (kills s.t [x]),(b,some (cells.take off++(ev s.t x).cells++cells.drop (off+n)))::jk s.o [b]⟩):OpW L P o s K:=by
 intro B F0 w0 a w next Q cw bI
 obtain ⟨F,own,fp,fs,h⟩:=cw
 have hr:=h.ev ad
 rw [ha] at hr
 simp only [Rep] at hr
 have hrx:=h.ev x
 obtain ⟨hxl,hxs⟩:=oD hx hrx
 obtain ⟨hkey,iO,dW,c,Ty,vals,rest,hc,hcl,gE⟩:=h.obj b cells hO
 have hvl:=gE.len
 have hbB:=h.ol b (by rw [hkey];simp)
 obtain ⟨hag,WE⟩:=ug ht w
 have Ub:c.size=vals.length+rest.length:=by rw [<- Array.length_toList,hcl];simp
 have hst:=run_storeCells_at P b off Ty (a.eval x).cells.toList 0 c w hc (by simp only [Nat.add_zero,Array.length_toList,hxs];omega) (hxl.ones hone)
 simp only [Nat.add_zero] at hst
 have hln:(a.eval x).cells.toList.length=n:=by simp [hxs]
 rw [hln] at hst
 have hex:(execOp a.eval o).run P w=.ok .skip (w.setRow b (c.toList.take off++(a.eval x).cells.toList++c.toList.drop (off+n)).toArray):=by
  simp [execOp,ho,Instr.storeAt,hr.1,Instr.sureAddr,storeVar,WE,hxs,hst]
 unfold Oper.wp
 rw [hex]
 have IK:(fs b++fpo fp x).Nodup:=by
  rw [List.nodup_append]
  refine ⟨iO,lp h x,fun k hk k' hk' e=>?_⟩
  subst e
  obtain ⟨i,_,hi⟩:=fV h (xs:=[x]) (by simp) k hk'
  have e1:=h.so i k hi
  rw [dW k hk] at e1;cases e1
 obtain ⟨f',hf',hnd,hmem⟩:=gE.Dr hxl off n (by rw [<- hxl.len,hln]) hle
 have hsz:(c.toList.take off++(a.eval x).cells.toList++c.toList.drop (off+n)).toArray.size=c.size:=by
  have:c.toList.length=c.size:=by simp
  simp only [List.size_toArray,List.length_append,List.length_take,List.length_drop,this,hln];omega
 have cl:=Ext.setRow w b _ c Ty _ hc hsz
 have hFS:∀ b',F b'->F b'/\(b'<w.heap.size/\b' ∉ [b]):=fun b' hb'=>⟨hb',(h.fl b' hb').2.1,fun hd'=>by
  have e0:b'=b:=by simpa using hd'
  have e1:=(h.fl b' hb').1;rw [e0,hkey] at e1;cases e1⟩
 have hfn':∀ k,k∈f'->(∃ i,i∈kills s.t [x]/\k∈fp i)\/(∃ b',b'∈[b]/\own k=.obj b'):=by
  intro k hk
  rcases hmem k hk with hk|hk
  ·exact .inr ⟨b,by simp,dW k hk⟩
  ·exact .inl (fV h (by simp) k hk)
 have hSk:∀ k,k∈f'->k<w.heap.size/\k ∉ [b]:=by
  intro k hk
  have hne:own k≠.none/\own k≠.key:=by
   rcases hfn' k hk with ⟨i,_,hi⟩|⟨b',_,e⟩
   ·rw [h.so i k hi];simp
   ·rw [e];simp
  refine ⟨(h.ol k hne.1).2,fun hd'=>?_⟩
  have e0:k=b:=by simpa using hd'
  rw [e0] at hne
  exact hne.2 hkey
 have:=h.renew (w':=w.setRow b (c.toList.take off++(a.eval x).cells.toList++c.toList.drop (off+n)).toArray) (x:=.dead) (v:=undef) (kills s.t [x]) [b] b _ f' o.dst (by rw [hd];rfl) ⟨rfl,rfl,rfl⟩ cl (by simpa using hkey) (.inl (by simp))
  ⟨_,Ty,_,rest.drop 0,dK w b _ c Ty _ hc,by
   simp only [List.drop_zero]
   rw [hcl,List.take_append_of_le_length (by omega),List.drop_append_of_le_length (by omega)]
   simp only [List.append_assoc],aq.ext cl hFS hSk hf'⟩ (hnd IK) hfn' (by simp [Rep])
 rw [hd] at this
 exact bI _ _ _ hK (by rw [hd];exact this)
end ops
end
section
theorem xp(off:Nat):∀ (xs:List Value) (k:Nat) (cells:List Value),off+k+xs.length<=cells.length ->
  (xs.zipIdx k).foldl (fun (cs:Array Value) (p:Value×Nat)=>cs.setIfInBounds (off+p.2) p.1) cells.toArray=(cells.take (off+k)++xs++cells.drop (off+k+xs.length)).toArray
 | [],k,cells,_=>by simp
 | x::xs,k,cells,h=>by
  simp only [List.length_cons] at h
  simp only [List.zipIdx_cons,List.foldl_cons,List.setIfInBounds_toArray]
  rw [xp off xs (k+1) (cells.set (off+k) x) (by simp;omega)]
  congr 1
  have h1:off+k<cells.length:=by omega
  rw [List.set_eq_take_append_cons_drop,if_pos h1]
  have ht:(cells.take (off+k)).length=off+k:=by simp;omega
  have e1:(cells.take (off+k)++x::cells.drop (off+k+1)).take (off+(k+1))=cells.take (off+k)++[x]:=by
   rw [List.take_append,ht,show off+(k+1) - (off+k)=1 by omega,List.take_of_length_le (by rw [ht];omega)];simp
  have e2:(cells.take (off+k)++x::cells.drop (off+k+1)).drop (off+(k+1)+xs.length)=cells.drop (off+k+(xs.length+1)):=by
   rw [List.drop_append,ht,List.drop_eq_nil_of_le (by rw [ht];omega),show off+(k+1)+xs.length - (off+k)=xs.length+1 by omega]
   simp only [List.drop_succ_cons,List.drop_drop,List.nil_append]
   congr 1;omega
  rw [e1,e2]
  simp
def oe(place:Nat->Option (Nat×Nat)):List AV->List (Nat×AV)->Option (List AV)
 | cells,[]=>some cells
 | cells,p::rest =>
  match place p.1 with
  | none=>none
  | some q=>bif p.2.elem q.2 && Nat.ble (q.1+q.2) cells.length then oe place (cells.take q.1++p.2.cells++cells.drop (q.1+q.2)) rest else none
section
variable {L : Nat -> Nat} {B : Nat -> Prop} {F0 : Nat -> Prop} {w0 : World} {F : Nat -> Prop} {own : Nat -> Own} {fp fs : Nat -> List Nat} {s : AS} {a : Act} {w : World} {P : Program}
theorem vm(h:cD L B F0 w0 F own fp fs s a w):∀ xs:List Operand,(kills s.t xs).Nodup->(xs.flatMap (fpo fp)).Nodup
 | [],_=>by simp
 | x::xs,hk=>by
  rw [List.flatMap_cons,List.nodup_append]
  have hk':(kills s.t xs).Nodup:=by
   cases x with
   | tmp i =>
    simp only [kills] at hk
    cases hn:(T s.t i).df with
    | true=>rw [hn] at hk;exact hk
    | false=>rw [hn] at hk;simp at hk;exact hk.2
   | const _=>exact hk
   | global _=>exact hk
   | func _=>exact hk
  refine ⟨lp h x,vm h xs hk',fun b hb b' hb' e=>?_⟩
  subst e
  cases x with
  | tmp i =>
   simp only [fpo] at hb
   obtain ⟨y,hy,hby⟩:=List.mem_flatMap.1 hb'
   obtain ⟨j,hj,hbj⟩:=fV h hy b hby
   have e1:=h.so i b hb
   rw [h.so j b hbj] at e1
   cases e1
   simp only [kills] at hk
   cases hn:(T s.t i).df with
   | true=>rw [Rep.dP hn (h.slots i)] at hb;simp at hb
   | false=>rw [hn] at hk;simp at hk;exact hk.1 hj
  | const _=>simp [fpo] at hb
  | global _=>simp [fpo] at hb
  | func _=>simp [fpo] at hb
theorem BZ(h:cD L B F0 w0 F own fp fs s a w)(xs:List Operand):∀ b,b∈xs.flatMap (fpo fp)->∃ i,i∈kills s.t xs/\b∈fp i:=by
 intro b hb
 obtain ⟨y,hy,hby⟩:=List.mem_flatMap.1 hb
 exact fV h hy b hby
theorem yz(h:cD L B F0 w0 F own fp fs s a w)(place:Nat->Option (Nat×Nat)):∀ (parts:List (Nat×Operand)) (cells cells':List AV) (vals:List Value) (f0:List Nat),
  aq L F w cells vals f0->oe place cells (parts.map fun p=>(p.1,ev s.t p.2))=some cells'->(f0++(parts.map Prod.snd).flatMap (fpo fp)).Nodup ->
  ∃ (kM:List Value) (f':List Nat),Instr.fill place vals.toArray (parts.map fun p=>(p.1,a.eval p.2))=some kM.toArray/\aq L F w cells' kM f'/\f'.Nodup /\
   (∀ b,b∈f'->b∈f0\/b∈(parts.map Prod.snd).flatMap (fpo fp))/\cells'.length=cells.length
 | [],cells,cells',vals,f0,r,hf,hn=>by
  simp [oe] at hf
  subst hf
  exact ⟨vals,f0,by simp [Instr.fill],r,by simpa using hn,fun b hb=>.inl hb,rfl⟩
 | p::parts,cells,cells',vals,f0,r,hf,hn=>by
  simp only [List.map_cons,oe] at hf
  cases hp:place p.1 with
  | none=>rw [hp] at hf;simp at hf
  | some q =>
   rw [hp] at hf
   simp only at hf
   cases hc:((ev s.t p.2).elem q.2 && Nat.ble (q.1+q.2) cells.length) with
   | false=>rw [hc] at hf;simp at hf
   | true =>
    rw [hc] at hf
    simp only [cond_true] at hf
    simp at hc
    obtain ⟨hel,hle⟩:=hc
    obtain ⟨hxl,hxs⟩:=oD hel (h.ev p.2)
    have hln:(a.eval p.2).cells.toList.length=q.2:=by simp [hxs]
    obtain ⟨f',hf',hnd,hmem⟩:=r.Dr hxl q.1 q.2 (by rw [<- hxl.len,hln]) hle
    simp only [List.map_cons,List.flatMap_cons] at hn
    have hn1:(f0++fpo fp p.2).Nodup:=by rw [<- List.append_assoc] at hn;exact (List.nodup_append.1 hn).1
    have hn2:(f'++(parts.map Prod.snd).flatMap (fpo fp)).Nodup:=by
     rw [<- List.append_assoc] at hn
     rw [List.nodup_append] at hn ⊢
     refine ⟨hnd hn1,hn.2.1,fun b hb b' hb'=>hn.2.2 b ?_ b' hb'⟩
     rcases hmem b hb with e|e<;>simp [e]
    obtain ⟨kM,f'',h1,h2,h3,h4,h5⟩:=yz h place parts _ cells' _ f' hf' hf hn2
    refine ⟨kM,f'',?_,h2,h3,fun b hb=>?_,?_⟩
    ·simp only [List.map_cons,Instr.fill,hp]
     have hvl:=r.len
     rw [if_neg (by simp [hxs];omega)]
     rw [<- h1]
     congr 1
     rw [<- Array.foldl_toList,Array.toList_zipIdx]
     have:=xp q.1 (a.eval p.2).cells.toList 0 vals (by rw [hln];omega)
     simp only [Nat.add_zero,hln] at this
     rw [<- this]
    ·simp only [List.map_cons,List.flatMap_cons,List.mem_append]
     rcases h4 b hb with e|e
     ·rcases hmem b e with e|e
      ·exact .inl e
      ·exact .inr (.inl e)
     ·exact .inr (.inr e)
    ·rw [h5]
     have:(ev s.t p.2).cells.length=q.2:=by rw [<- hxl.len,hln]
     simp [this];omega
end
def plc(P:Program)(t:TypeId):Option (List (Nat×Nat)×List Value) :=
 match P.info? t,P.underlying t with
 | some it,some (.struct fields) =>
  match it.zero,fields.toList.mapM (fun f=>(P.info? f.type).map fun i=>(f.offset,i.size)) with
  | some z,some places=>some (places,z.cells.toList)
  | _,_=>none
 | _,_=>none
theorem JH{P:Program}{t:TypeId}{places:List (Nat×Nat)}{zs:List Value}(h:plc P t=some (places,zs))(parts:List (Nat×Value)) :
  P.built t parts=Instr.fill (places[·]?) zs.toArray parts:=by
 unfold plc at h
 split at h
 ·rename_i it fields hi hu
  split at h
  ·rename_i z pl hz hp
   simp at h
   obtain ⟨rfl,rfl⟩:=h
   simp [Program.built,hi,hu,hz,hp]
  ·cases h
 ·cases h
section ops
variable {L : Nat -> Nat} {P : Program} {s : AS} {o : Oper}
theorem J9{t:TypeId}{parts:Array (Nat×Operand)}{places:List (Nat×Nat)}{zs:List Value}{cells:List AV}(ho:o.op=.build t parts)(hp:plc P t=some (places,zs))
  (hf:oe (places[·]?) (zs.map avz) (parts.toList.map fun p=>(p.1,ev s.t p.2))=some cells) (hk:(kills s.t (parts.toList.map Prod.snd)).Nodup) :
  LOp L P s o (.agg cells) (kills s.t (parts.toList.map Prod.snd)):=by
 refine LOp.of_run fun B F0 w0 F own fp fs a w h=>?_
 obtain ⟨kM,f',h1,h2,h3,h4,_⟩:=yz h (places[·]?) parts.toList _ cells zs [] (aq.plain zs) hf (by simpa using vm h _ hk)
 refine ⟨.agg kM.toArray,f',?_,by simp only [Rep];exact ⟨kM,rfl,h2⟩,h3,fun b hb=>?_⟩
 ·have hb:=run_build (P:=P) w t (parts.map fun p=>(p.1,a.eval p.2)) kM.toArray (by rw [JH hp];simpa using h1)
  simp only [execOp,ho,Sem.run_bind]
  rw [show (fun (x:Nat×Operand)=>(x.1,a.eval x.2))=(fun p:Nat×Operand=>(p.1,a.eval p.2)) from rfl] at *
  rw [hb];rfl
 ·rcases h4 b hb with e|e
  ·simp at e
  ·exact BZ h _ b e
end ops
end
section
theorem H5{L:Nat->Nat}{F:Nat->Prop}{w:World}{sz:Nat}{x:AV}{y:Value}{f:List Nat}(h:x.elem sz=true)(hx:x.cells=[x])(r:Rep L F w x y f)(hna:∀ l,x≠.agg l):y.cells.toList=[y]/\sz=1:=by
 have h2:=oD h r
 cases x with
 | agg l=>exact absurd rfl (hna l)
 | dead=>simp [AV.elem] at h
 | tup l=>simp [AV.elem] at h
 | cnd _ _=>simp [AV.elem] at h
 | pin _ _=>simp [AV.elem] at h
 | v x =>
  simp only [Rep] at r
  obtain ⟨rfl,_⟩:=r
  simp [AV.elem] at h
  exact ⟨by cases y<;>simp_all [Value.cells,Value.oneCell'],h.2⟩
 | str _=>simp only [Rep] at r;simp [AV.elem] at h;rw [r.1];exact ⟨rfl,h⟩
 | sl _ _ _=>simp only [Rep] at r;simp [AV.elem] at h;rcases r with ⟨rfl|⟨_,_,rfl⟩,_⟩|⟨_,_,_,_,_,rfl,_⟩<;>exact ⟨rfl,h⟩
 | slo _ _=>simp only [Rep] at r;simp [AV.elem] at h;rcases r with ⟨rfl,_⟩|⟨_,_,_,_,_,rfl,_⟩<;>exact ⟨rfl,h⟩
 | vp _=>simp only [Rep] at r;simp [AV.elem] at h;obtain ⟨_,_,_,_,rfl,_⟩:=r;exact ⟨rfl,h⟩
 | arr _ _ _ _=>simp only [Rep] at r;simp [AV.elem] at h;obtain ⟨_,_,rfl,_⟩:=r;exact ⟨rfl,h⟩
 | ptr _ _=>simp only [Rep] at r;simp [AV.elem] at h;obtain ⟨rfl,_⟩:=r;exact ⟨rfl,h⟩
 | fn _ _=>simp only [Rep] at r;simp [AV.elem] at h;obtain ⟨_,rfl,_⟩:=r;exact ⟨rfl,h⟩
theorem DA{L:Nat->Nat}{F:Nat->Prop}{w:World}{sz:Nat}{x:AV}{us:List Value}{f:List Nat}(h:x.elem sz=true)(r:aq L F w x.cells us f):∃ y,Rep L F w x y f/\y.cells.toList=us/\y.cells.size=sz:=by
 by_cases ha:∃ l,x=.agg l
 ·obtain ⟨l,rfl⟩:=ha
  simp [AV.elem] at h
  exact ⟨.agg us.toArray,by simp only [Rep];exact ⟨us,rfl,r⟩,by simp [Value.cells],by simp [Value.cells,r.len,AV.cells,h]⟩
 ·have hna:∀ l,x≠.agg l:=fun l e=>ha ⟨l,e⟩
  have hx:x.cells=[x]:=by cases x<;>first|rfl|exact absurd rfl (hna _)
  rw [hx] at r
  simp only [aq] at r
  obtain ⟨y,vs',f1,f2,rfl,rfl,hr,rfl,rfl⟩:=r
  obtain ⟨h1,rfl⟩:=H5 h hx hr hna
  exact ⟨y,by simpa using hr,h1,by rw [<- Array.length_toList,h1];rfl⟩
theorem aq.kX{L:Nat->Nat}{F:Nat->Prop}{w:World}{sz:Nat}:∀ {l:List AV} {vs:List Value} {fp:List Nat},(∀ x,x∈l->x.elem sz=true)->aq L F w (l.flatMap AV.cells) vs fp->bT L F w sz l vs fp
 | [],_,_,_,r=>by simpa [bT,aq] using r
 | x::xs,vs,fp,h,r=>by
  rw [List.flatMap_cons] at r
  obtain ⟨v1,v2,f1,f2,rfl,rfl,r1,r2⟩:=r.split
  obtain ⟨y,hy,e,hs⟩:=DA (h x (by simp)) r1
  simp only [bT]
  exact ⟨y,v2,f1,f2,by rw [e],hs,rfl,hy,aq.kX (fun z hz=>h z (by simp [hz])) r2⟩
theorem aq.CU{L:Nat->Nat}{F:Nat->Prop}{w:World}:∀ vs:List Value,aq L F w (List.replicate vs.length .dead) vs []
 | []=>by simp [aq]
 | y::vs=>by simp only [List.length_cons,List.replicate_succ,aq];exact ⟨y,vs,[],[],rfl,rfl,by simp [Rep],aq.CU vs⟩
def sZ(z:Value)(n:Nat):Array Value:=if n=0 then (Array.range n).map ((#[]:Array Value)[·% (#[]:Array Value).size]!) else (Array.range n).map (z.cells[·% z.cells.size]!)
theorem Im(z:Value)(n:Nat):(sZ z n).size=n:=by unfold sZ;split<;>simp
theorem QK{P:Program}{t e:TypeId}{inf:TypeInfo}{z:Value}(w:World)(len:Nat)(pv:Array (Nat×Value))(cells:Array Value)(hut:P.underlying t=some (.slice e))(fu:P.info? e=some inf)
  (hz:inf.zero=some z) (hsm:len * inf.size<=16777216)
  (wx:Instr.fill (fun i=>some (i * inf.size,inf.size)) (sZ z (len * inf.size)) pv.toList=some cells) :
  (Instr.buildSlice t len pv).run P w=.ok (.slice (some ⟨w.heap.size,0,none⟩) len len) (w.alloc (.cells cells e)):=by
 have WH:¬ (len * inf.size > 2 ^ 24):=by omega
 unfold Instr.buildSlice
 simp only [Sem.run_bind,run_underlying hut,Result.andThen_ok,sizeOf,typeInfo,run_program,fu,Sem.run_pure,zeroValue]
 rw [if_neg WH]
 by_cases h0:len * inf.size=0
 ·rw [if_pos h0]
  unfold sZ at wx
  rw [if_pos h0] at wx
  simp only [Sem.run_pure,Sem.run_bind,Result.andThen_ok,wx,newRow,run_newObj]
  rfl
 ·rw [if_neg h0]
  unfold sZ at wx
  rw [if_neg h0] at wx
  simp only [Sem.run_pure,Sem.run_bind,Result.andThen_ok,run_program,fu,hz,wx,newRow,run_newObj]
  rfl
section ops
variable {L : Nat -> Nat} {P : Program} {s : AS} {o : Oper}
theorem Bo{B:Nat->Prop}{F0:Nat->Prop}{w0:World}{F:Nat->Prop}{own:Nat->Own}{fp fs:Nat->List Nat}{a:Act}{w:World}(h:cD L B F0 w0 F own fp fs s a w)
  {t e:TypeId} {len sz bytes:Nat} {parts:Array (Nat×Operand)} {zs:List Value} {cells:List AV} (ho:o.op=.buildSlice t len parts) (ht:elm P t=some (e,sz,bytes)) (hz:zer P e=some zs) (hsm:len * sz<=16777216)
  (hf:oe (fun i=>some (i * sz,sz)) (List.replicate (len * sz) .dead) (parts.toList.map fun p=>(p.1,ev s.t p.2))=some cells) (hk:(kills s.t (parts.toList.map Prod.snd)).Nodup) :
  ∃ vals f,(execOp a.eval o).run P w=.ok (.value (.slice (some ⟨w.heap.size,0,none⟩) len len)) (w.alloc (.cells vals.toArray e))/\aq L F w cells vals f/\f.Nodup/\(∀ b,b∈f->∃ i,i∈kills s.t (parts.toList.map Prod.snd)/\b∈fp i)/\cells.length=len * sz:=by
 obtain ⟨inf,hut,fu,rfl,rfl⟩:=jq ht
 obtain ⟨z,hzc,hzr⟩:=vW hz
 obtain ⟨Io,z',kQ,hzz,_⟩:=rv hz
 rw [fu] at kQ
 cases kQ
 obtain ⟨kM,f',h1,h2,h3,h4,h5⟩:=yz h (fun i=>some (i * inf.size,inf.size)) parts.toList (List.replicate (len * inf.size) .dead) cells (sZ z' (len * inf.size)).toList [] (by
  have:=aq.CU (L:=L) (F:=F) (w:=w) (sZ z' (len * inf.size)).toList
  rwa [Array.length_toList,Im] at this) hf (by simpa using vm h _ hk)
 refine ⟨kM,f',?_,h2,h3,fun b hb=>?_,by simpa using h5⟩
 ·have hr:=QK (P:=P) w len (parts.map fun p=>(p.1,a.eval p.2)) kM.toArray hut fu hzz hsm (by simpa using h1)
  simp only [execOp,ho,Sem.run_bind]
  rw [hr];rfl
 ·rcases h4 b hb with e'|e'
  ·simp at e'
  ·exact BZ h _ b e'
theorem AA{t e:TypeId}{len sz bytes:Nat}{parts:Array (Nat×Operand)}{zs:List Value}{cells elems:List AV}(ho:o.op=.buildSlice t len parts)(ht:elm P t=some (e,sz,bytes))(hz:zer P e=some zs)(hsm:len * sz<=16777216)
  (hf:oe (fun i=>some (i * sz,sz)) (List.replicate (len * sz) .dead) (parts.toList.map fun p=>(p.1,ev s.t p.2))=some cells) (hk:(kills s.t (parts.toList.map Prod.snd)).Nodup)
  (hel:elems.flatMap AV.cells=cells) (hall:∀ x,x∈elems->x.elem sz=true) (hlen:elems.length=len) (hL:len<=L sz) :
  LOp L P s o (.sl true sz elems) (kills s.t (parts.toList.map Prod.snd)):=by
 intro B F0 w0 F own fp fs a w next Q h bI
 obtain ⟨vals,f,hrun,gE,hn,hmem,hcl⟩:=Bo h ho ht hz hsm hf hk
 unfold Oper.wp
 rw [hrun]
 have hvl:=gE.len
 have hFS:∀ b,F b->F b/\(b<w.heap.size):=fun b hb'=>⟨hb',(h.fl b hb').2.1⟩
 have hlt:∀ k,k∈f->k<w.heap.size:=fun k hk=>by obtain ⟨i,_,hi⟩:=hmem k hk;exact (h.ig hi).2
 refine bI _ _ ⟨Kp.ld ((Below.refl _ _).alloc (Nat.le_refl _) _),F,w.heap.size::f,fun _ h=>h,fun _ h=>.inl h,?_,?_,?_⟩
 ·simp only [Rep]
  refine .inr ⟨w.heap.size,0,len,vals,f,by rw [hlen],by omega,by omega,⟨_,_,_,eX w _,fun i _=>by simp⟩,?_,.inl ⟨by trivial,rfl,rfl,_,_,eX w _,by simp;omega⟩⟩
  refine aq.kX hall ?_
  rw [hel]
  exact aq.ext (Ext.alloc' w _) hFS hlt gE
 ·rw [List.nodup_cons]
  exact ⟨fun hm=>by have:=hlt _ hm;omega,hn⟩
 ·intro b hb
  rcases List.mem_cons.1 hb with rfl|hb
  ·exact ⟨fun hF=>by have:=(hFS _ hF).2;omega,.inr ⟨Nat.le_refl _,by simp⟩⟩
  ·obtain ⟨i,hi,hbi⟩:=hmem b hb
   exact ⟨h.AY hbi,.inl ⟨i,hi,hbi⟩⟩
theorem rK(z:Array Value)(n m:Nat)(hz:z.size=m):(madeCells z (n * m)).toList=(List.replicate n z.toList).flatten:=by
 have key:∀ n,((List.range (n * m)).map fun j=>z[j % m]!)=(List.replicate n z.toList).flatten:=by
  intro n
  induction n with
  | zero=>simp
  | succ n ih =>
   rw [List.replicate_succ',List.flatten_append,<- ih,Nat.add_mul,Nat.one_mul,List.range_add,List.map_append,List.map_map]
   congr 1
   simp only [List.flatten_cons,List.flatten_nil,List.append_nil]
   apply List.ext_getElem
   ·simp [hz]
   ·intro j h1 h2
    simp only [List.length_map,List.length_range] at h1
    simp only [List.getElem_map,List.getElem_range,Function.comp_apply]
    rw [Nat.mul_comm,Nat.mul_add_mod,Nat.mod_eq_of_lt h1,getElem!_pos z j (by omega)]
    simp
 have:=key n
 rw [<- this]
 simp [madeCells,hz]
end ops
end
section
def AW(L:Nat->Nat)(P:Program)(c:Code)(s:AS)(Q:Exit->AS->Prop):Prop :=
 ∀ B F0 w0 a w,Den L B F0 w0 s a w->c.wp P (fun e a' w'=>∃ s',Q e s'/\Den L B F0 w0 s' a' w') a w
def gK(L:Nat->Nat)(P:Program)(ops:Array Oper)(l:List Nat)(s:AS)(K:AS->Prop):Prop :=
 ∀ B F0 w0 a w (Q:Exit->Act->World->Prop),Den L B F0 w0 s a w->(∀ s' a' w',K s'->Den L B F0 w0 s' a' w'->Q .normal a' w')->wpOps P ops Q l a w
section
variable {L : Nat -> Nat} {P : Program} {s : AS} {Q : Exit -> AS -> Prop}
theorem AW.mono{c:Code}{Q':Exit->AS->Prop}(h:AW L P c s Q)(hq:∀ e s,Q e s->Q' e s):AW L P c s Q' :=
 fun B F0 w0 a w hd=>wp_mono (h B F0 w0 a w hd) fun _ _ _ ⟨s',h1,h2⟩=>⟨s',hq _ _ h1,h2⟩
theorem AW.skip(h:Q .normal s):AW L P .skip s Q:=fun _ _ _ _ _ hd=>wp_skip ⟨s,h,hd⟩
theorem AW.exit{id:Nat}(h:Q (.exit id) s):AW L P (.exit id) s Q:=fun _ _ _ _ _ hd=>wp_exit ⟨s,h,hd⟩
theorem AW.ret(h:Q .ret s):AW L P .ret s Q:=fun _ _ _ _ _ hd=>wp_ret ⟨s,h,hd⟩
def iy(next:AS->Prop)(Q:Exit->AS->Prop):Exit->AS->Prop
 | .normal,s=>next s
 | e,s=>Q e s
theorem AW.seq{x y:Code}(h:AW L P x s (iy (fun s'=>AW L P y s' Q) Q)):AW L P (.seq x y) s Q:=by
 intro B F0 w0 a w hd
 refine wp_seq (wp_mono (h B F0 w0 a w hd) ?_)
 rintro e a' w' ⟨s',h1,h2⟩
 cases e with
 | normal=>exact h1 B F0 w0 a' w' h2
 | _=>exact ⟨s',h1,h2⟩
def fN(id:Nat)(Q:Exit->AS->Prop):Exit->AS->Prop
 | .exit id',s=>if id'=id then Q .normal s else Q (.exit id') s
 | e,s=>Q e s
theorem AW.block{id:Nat}{c:Code}(h:AW L P c s (fN id Q)):AW L P (.block id c) s Q:=by
 intro B F0 w0 a w hd
 refine wp_block (wp_mono (h B F0 w0 a w hd) ?_)
 rintro e a' w' ⟨s',h1,h2⟩
 cases e with
 | exit id' =>
  simp only [fN] at h1
  simp only [Exit.inBlock]
  split
  ·rename_i e;rw [if_pos e] at h1;exact ⟨s',h1,h2⟩
  ·rename_i e;rw [if_neg e] at h1;exact ⟨s',h1,h2⟩
 | _=>exact ⟨s',h1,h2⟩
theorem AW.cond{c:Operand}{x y:Code}{t:Bool}(hc:ev s.t c=.v (.bool t))(ht:t=true->AW L P x s Q)(hf:t=false->AW L P y s Q):AW L P (.cond c x y) s Q:=by
 intro B F0 w0 a w hd
 have hd':=hd
 obtain ⟨F,own,fp,fs,h⟩:=hd'
 exact wp_cond_split (h.val hc) (fun e=>ht e B F0 w0 a w hd) (fun e=>hf e B F0 w0 a w hd)
theorem least{J:Nat->Prop}(h:∃ n,J n):∃ n,J n/\∀ m,J m->n<=m:=by
 obtain ⟨n,hn⟩:=h
 induction n using Nat.strongRecOn with
 | _ n ih =>
  by_cases e:∃ m,m<n/\J m
  ·obtain ⟨m,hm,hj⟩:=e
   exact ih m hm hj
  ·exact ⟨n,hn,fun m hm=>Nat.le_of_not_lt fun hlt=>e ⟨m,hlt,hm⟩⟩
theorem AW.loop{c:Code}(I:Nat->AS->Prop)(n:Nat)(h0:I n s)(round:∀ n s,I n s->AW L P c s (iy (fun s'=>∃ m,m<n/\I m s') Q)):AW L P (.loop c) s Q:=by
 intro B F0 w0 a w hd
 classical
 let J:Act->World->Nat->Prop:=fun a w n=>∃ s,I n s/\Den L B F0 w0 s a w
 let μ:Act->World->Nat:=fun a w=>if h:∃ n,J a w n then Classical.choose (least h) else 0
 refine wp_loop (fun a w=>∃ n,J a w n) μ ⟨n,s,h0,hd⟩ ?_
 intro a w hJ
 obtain ⟨⟨s,hI,hd⟩,iN⟩:=Classical.choose_spec (least hJ)
 refine wp_mono (round _ s hI B F0 w0 a w hd) ?_
 rintro e a' w' ⟨s',h1,h2⟩
 cases e with
 | normal =>
  obtain ⟨m,hm,hI'⟩:=h1
  refine ⟨⟨m,s',hI',h2⟩,?_⟩
  have hJ':∃ n,J a' w' n:=⟨m,s',hI',h2⟩
  simp only [μ,dif_pos hJ,dif_pos hJ']
  exact Nat.lt_of_le_of_lt ((Classical.choose_spec (least hJ')).2 m ⟨s',hI',h2⟩) hm
 | _=>exact ⟨s',h1,h2⟩
theorem Den.weaken{B:Nat->Prop}{F0:Nat->Prop}{w0:World}{a:Act}{w:World}{s':AS}(h:Den L B F0 w0 s a w)(hn:s'.n=s.n)(ht:∀ i,T s'.t i=T s.t i\/T s'.t i=.dead)
  (ho:∀ b cells,O s'.o b=some cells->O s.o b=some cells):Den L B F0 w0 s' a w:=by
 obtain ⟨F,own,fp,fs,h⟩:=h
 classical
 refine ⟨F,own,fun i=>if T s'.t i=T s.t i then fp i else [],fs,{ h with size:=by rw [hn];exact h.size,slots:=?_,sn:=?_,so:=?_,obj:=fun b cells hb=>h.obj b cells (ho b cells hb) }⟩
 ·intro i
  by_cases e:T s'.t i=T s.t i
  ·simp only [if_pos e];rw [e];exact h.slots i
  ·simp only [if_neg e]
   rcases ht i with e'|e'
   ·exact absurd e' e
   ·rw [e'];simp [Rep]
 ·intro i
  split
  ·exact h.sn i
  ·simp
 ·intro i b hb
  split at hb
  ·exact h.so i b hb
  ·simp at hb
theorem AW.weaken{c:Code}{s':AS}(h:AW L P c s' Q)(hn:s'.n=s.n)(ht:∀ i,T s'.t i=T s.t i\/T s'.t i=.dead)
  (ho:∀ b cells,O s'.o b=some cells->O s.o b=some cells):AW L P c s Q :=
 fun B F0 w0 a w hd=>h B F0 w0 a w (hd.weaken hn ht ho)
def eN(t:List (Nat×AV))(ks:List Nat):List (Nat×AV):=ks.map fun i=>(i,T t i)
theorem Fx(t:List (Nat×AV))(ks:List Nat)(i:Nat):T (eN t ks) i=T t i\/T (eN t ks) i=.dead:=by
 induction ks with
 | nil=>exact .inr rfl
 | cons k ks ih =>
  simp only [eN,List.map_cons,T]
  by_cases e:k=i
  ·subst e;simp
  ·have:(k == i)=false:=by simpa using e
   rw [this];exact ih
theorem AW.region{id:Nat}{ops:Array Oper}(h:gK L P ops (List.range ops.size) s (fun s'=>Q .normal s')):AW L P (.region id ops false) s Q:=by
 intro B F0 w0 a w hd
 exact wp_region (h B F0 w0 a w _ hd fun s' a' w' h1 h2=>⟨s',h1,h2⟩)
def o3:AV->Option (Bool×Bool)
 | .v (.bool g)=>some (true,g)
 | .cnd G (.v (.bool g))=>some (G,g)
 | .cnd false .dead=>some (false,false)
 | _=>none
theorem pd{B:Nat->Prop}{F0:Nat->Prop}{w0:World}{a:Act}{w:World}(h:Den L B F0 w0 s a w){ops:Array Oper}{j d:Nat}{oj:Oper}{G g:Bool}(hj:ops[j]? = some oj)(hd:oj.dst=some d)(hg:o3 (T s.t d)=some (G,g))(hlt:Nat.blt d s.n=true) :
  yielded ops a.tmps j=if G then some g else none:=by
 obtain ⟨F,own,fp,fs,h⟩:=h
 have hr:=h.slots d
 have ng:d<a.tmps.size:=by rw [h.size];simpa using hlt
 have key:∀ y,a.tmps.getD d undef=y->a.tmps[d]? = some y:=by
  intro y this
  rw [Array.getD_eq_getD_getElem?,Array.getElem?_eq_getElem ng] at this
  rw [Array.getElem?_eq_getElem ng]
  simpa using this
 generalize T s.t d=x at hg hr
 unfold o3 at hg
 split at hg
 ·cases hg
  simp only [Rep] at hr
  simp [yielded,hj,hd,key _ hr.1]
 ·cases hg
  simp only [Rep] at hr
  cases G with
  | true=>simp [yielded,hj,hd,key _ (hr.1 rfl).1]
  | false=>simp [yielded,hj,hd,key _ (hr.2 rfl).1,undef]
 ·cases hg
  simp only [Rep] at hr
  simp [yielded,hj,hd,key _ (hr.2 (by trivial)).1,undef]
 ·cases hg
theorem LOp.cnd{o:Oper}{x:AV}(h:LOp L P s o x []):LOp L P s o (.cnd true x) []:=by
 intro B F0 w0 F own fp fs a w next Q hd bI
 refine h B F0 w0 F own fp fs a w next Q hd fun v w' g=>bI v w' ⟨g.below,?_⟩
 obtain ⟨F',fx,h1,h2,h3,h4,h5⟩:=g.rep
 exact ⟨F',fx,h1,h2,by simp only [Rep];exact ⟨fun _=>h3,fun e=>by cases e⟩,h4,h5⟩
end
end
section
def fM(L:Nat->Nat)(P:Program)(f:FuncId)(args:List AV)(res:AV):Prop :=
 ∀ (w:World) (F:Nat->Prop) (vs:List Value),(∀ b,F b->b<w.heap.size)->Tb L (fun b=>b<w.heap.size) w->aq L F w args vs [] ->
  Calls P f vs.toArray w fun e w'=>∃ v F' fp,e=.returned v/\Below w.heap.size w w'/\(∀ b,F b->F' b)/\(∀ b,F' b->F b\/(w.heap.size<=b/\b<w'.heap.size)) /\
   Rep L F' w' res v fp/\fp.Nodup/\∀ b,b∈fp->¬ F' b/\w.heap.size<=b/\b<w'.heap.size
def oH:Nat->List AV->List (Nat×AV)
 | _,[]=>[]
 | i,x::xs=>(i,x)::oH (i+1) xs
theorem zX:∀ (xs:List AV) (k i:Nat),T (oH k xs) i=if k<=i then (xs[i - k]?).getD .dead else .dead
 | [],k,i=>by simp [oH,T]
 | x::xs,k,i=>by
  simp only [oH,T]
  by_cases e:k=i
  ·subst e;simp
  ·have:(k == i)=false:=by simpa using e
   rw [this,cond_false,zX xs (k+1) i]
   by_cases h:k<=i
   ·have h1:k+1<=i:=by omega
    rw [if_pos h,if_pos h1,show i - k=(i - (k+1))+1 by omega,List.getElem?_cons_succ]
   ·rw [if_neg h,if_neg (by omega)]
def Ends(L:Nat->Nat)(P:Program)(fn:Func)(s:AS)(res:AV):Prop :=
 ∀ B F0 w0 a w,Den L B F0 w0 s a w->∃ v F' fp,(results fn a.tmps).run P w=.ok v w/\(∀ b,F0 b->F' b)/\(∀ b,F' b->F0 b\/(¬ B b/\b<w.heap.size)) /\
  Rep L F' w res v fp/\fp.Nodup/\∀ b,b∈fp->¬ F' b/\¬ B b/\b<w.heap.size
def fin(L:Nat->Nat)(P:Program)(fn:Func)(res:AV):Exit->AS->Prop
 | .ret,s=>Ends L P fn s res
 | .normal,s=>Ends L P fn s res
 | _,_=>False
def enters(P:Program)(f:FuncId):Bool :=
 match P.funcs[f]? with
 | some fn=>fn.body.isSome && !(fn.name == "runtime.NumGoroutine")
 | none=>false
theorem tv{P:Program}{f:FuncId}(h:enters P f=true)(args:Array Value)(w:World):(callFunc f args).run P w=.ok (.enter f args) w:=by
 unfold enters at h
 split at h
 ·rename_i fn hf
  simp at h
  obtain ⟨h1,h2⟩:=h
  cases hb:fn.body with
  | none=>simp [hb] at h1
  | some c=>simp [callFunc,hf,h2,hb]
 ·cases h
section ops
variable {L : Nat -> Nat} {P : Program} {s : AS} {o : Oper}
theorem aq.rG{B:Nat->Prop}{F0:Nat->Prop}{w0:World}{F:Nat->Prop}{own:Nat->Own}{fp fs:Nat->List Nat}{a:Act}{w:World}(h:cD L B F0 w0 F own fp fs s a w) :
  ∀ xs:List Operand,AV.bL (xs.map (ev s.t))=true->aq L F w (xs.map (ev s.t)) (xs.map a.eval) []
 | [],_=>by simp [aq]
 | x::xs,hn=>by
  simp [AV.bL] at hn
  simp only [List.map_cons,aq]
  have hr:=h.ev x
  rw [Rep.dP hn.1 hr] at hr
  exact ⟨a.eval x,xs.map a.eval,[],[],rfl,rfl,hr,aq.rG h xs (by simpa using hn.2)⟩
end ops
section ends
variable {L : Nat -> Nat} {P : Program} {s : AS} {fn : Func}
end ends
end
section
def slotsOf(ops:Array Oper)(o:Oper):List Nat :=
 (o.op.operands.toList.filterMap fun|.tmp t=>some t|_=>none)++(match o.guard with|some (j,_)=>((ops[j]?).bind (·.dst)).toList|none=>[])
def upd(o:Oper)(x:AV)(C:List Nat)(t:List (Nat×AV)):List (Nat×AV):=put (bW t C) o.dst x
theorem wU(o:Oper)(x:AV)(C:List Nat)(t:List (Nat×AV))(k:Nat):T (upd o x C t) k=if o.dst=some k then x else if k∈C then .dead else T t k:=by
 simp only [upd,kV,zY]
structure sw(L:Nat->Nat)(P:Program)(ops:Array Oper)(n:Nat)(os:List (Nat×Option (List AV)))(t:List (Nat×AV))(o:Oper)(x:AV)(C:List Nat):Prop where
 dst:cN n o.dst=true
 sub:∀ i,i∈C->i∈slotsOf ops o
 run:(o.guard=none/\LOp L P ⟨n,eN t (slotsOf ops o),os⟩ o x C) \/
  ∃ j want oj d G g x0,o.guard=some (j,want)/\ops[j]? = some oj/\oj.dst=some d/\Nat.blt d n=true/\o3 (T t d)=some (G,g)/\x=.cnd (G && (g == want)) x0/\C=[] /\
   ((G && (g == want))=true->LOp L P ⟨n,eN t (slotsOf ops o),os⟩ o x0 [])
inductive jF(L:Nat->Nat)(P:Program)(ops:Array Oper)(n:Nat)(os:List (Nat×Option (List AV)))(K:List (Nat×AV)->List (AV×List Nat)->Prop):Nat->List (Nat×AV)->List (AV×List Nat)->Prop
 | done {i t acc}:K t acc->jF L P ops n os K i t acc
 | step {i t acc} (o:Oper) (x:AV) (C:List Nat):ops[i]? = some o->sw L P ops n os t o x C->jF L P ops n os K (i+1) (upd o x C t) (acc++[(x,C)])->jF L P ops n os K i t acc
def dn(ops:Array Oper)(D:List (AV×List Nat))(t:List (Nat×AV)):List Nat->List (Nat×AV)
 | []=>t
 | i::l=>dn ops D (match ops[i]?,D[i]? with|some o,some d=>upd o d.1 d.2 t|_,_=>t) l
theorem xc(ops:Array Oper)(D:List (AV×List Nat)):∀ (l1 l2:List Nat) (t:List (Nat×AV)),dn ops D t (l1++l2)=dn ops D (dn ops D t l1) l2
 | [],l2,t=>rfl
 | i::l1,l2,t=>by simp only [List.cons_append,dn];exact xc ops D l1 l2 _
def wr(ops:Array Oper)(Cs:List (List Nat))(i:Nat):List Nat:=((ops[i]?).bind (·.dst)).toList++(Cs[i]?).getD []
def rd(ops:Array Oper)(i:Nat):List Nat:=match ops[i]? with|some o=>slotsOf ops o|none=>[]
def conf(ops:Array Oper)(Cs:List (List Nat))(i j:Nat):Bool :=
 (wr ops Cs i).any (fun k=>(rd ops j).contains k || (wr ops Cs j).contains k) || (rd ops i).any (fun k=>(wr ops Cs j).contains k)
def wts(o:Oper):List Edge:=o.after.toList.filter (Region.binds .any)
theorem Ax{o:Oper}{e:Edge}:e∈wts o↔e∈o.after.toList/\Region.binds .any e=true:=by simp only [wts,List.mem_filter]
def gh(ops:Array Oper)(Cs:List (List Nat)):Bool :=
 let b:=Region.before ops
 let m:=Cs.length
 Nat.ble m ops.size &&
 ((List.range ops.size).all fun i=>((ops[i]?).map fun o=>(wts o).all fun e=>Nat.blt e.on i).getD true) &&
 ((List.range m).all fun j=>(List.range j).all fun i=>!conf ops Cs i j || (b.getD j 0).testBit i) &&
 ((List.range ops.size).all fun j=>Nat.blt j m || (List.range j).all fun i=>(b.getD j 0).testBit i)
theorem qm{ops:Array Oper}{D:List (AV×List Nat)}(k:Nat):∀ (l:List Nat) (t t':List (Nat×AV)),T t k=T t' k ->
  T (dn ops D t l) k=T (dn ops D t' (l.filter fun i=>(wr ops (D.map Prod.snd) i).contains k)) k
 | [],t,t',h=>h
 | i::l,t,t',h=>by
  cases hk:(wr ops (D.map Prod.snd) i).contains k with
  | true =>
   rw [List.filter_cons_of_pos (by simpa using hk)]
   simp only [dn]
   refine qm k l _ _ ?_
   split
   ·rw [wU,wU,h]
   ·exact h
  | false =>
   rw [List.filter_cons_of_neg (by simpa using hk)]
   simp only [dn]
   refine qm k l _ _ ?_
   split
   ·rename_i o d ho hd
    rw [wU]
    simp [wr,ho,hd] at hk
    rw [if_neg (fun e=>hk.1 e),if_neg hk.2,h]
   ·exact h
def oG(ops:Array Oper)(S:Nat->Prop):Prop:=∀ j o,S j->ops[j]? = some o->∀ e,e∈wts o->S e.on
theorem BS(acc:Array Nat)(i:Nat):∀ (es:List Edge) (s0:Nat),((es.foldl (fun s e=>if Region.binds .any e then s ||| 2 ^ e.on ||| acc.getD e.on 0 else s) s0).testBit i=true) ->
  s0.testBit i=true\/∃ e,(e∈es/\Region.binds .any e=true)/\(e.on=i\/(acc.getD e.on 0).testBit i=true)
 | [],s0,h=>.inl h
 | e::es,s0,h=>by
  simp only [List.foldl_cons] at h
  rcases BS acc i es _ h with h|⟨e',he',h⟩
  ·by_cases hb:Region.binds .any e=true
   ·rw [if_pos hb] at h
    simp only [Nat.testBit_or,Bool.or_eq_true] at h
    rcases h with (h|h)|h
    ·exact .inl h
    ·rw [Nat.testBit_two_pow] at h
     exact .inr ⟨e,⟨by simp,hb⟩,.inl (by simpa using h)⟩
    ·exact .inr ⟨e,⟨by simp,hb⟩,.inr h⟩
   ·rw [if_neg hb] at h
    exact .inl h
  ·exact .inr ⟨e',⟨by simp [he'.1],he'.2⟩,h⟩
theorem xB(ops:Array Oper)(S:Nat->Prop)(hS:oG ops S):∀ (l2 l1:List Oper) (acc:Array Nat),ops.toList=l1++l2->acc.size=l1.length ->
  (∀ j o i,l1[j]? = some o->(acc.getD j 0).testBit i=true->(∀ e,e∈wts o->S e.on)->S i) ->
  ∀ j o i,ops[j]? = some o->((l2.foldl (fun acc o=>acc.push (o.after.foldl (fun s e=>if Region.binds .any e then s ||| 2 ^ e.on ||| acc.getD e.on 0 else s) 0)) acc).getD j 0).testBit i=true->(∀ e,e∈wts o->S e.on)->S i
 | [],l1,acc,hl,_,hP,j,o,i,ho,hb,he=>by
  simp only [List.append_nil] at hl
  exact hP j o i (by rw [<- hl,Array.getElem?_toList];exact ho) hb he
 | q::l2,l1,acc,hl,hsz,hP,j,o,i,ho,hb,he=>by
  simp only [List.foldl_cons] at hb
  refine xB ops S hS l2 (l1++[q]) _ (by simpa using hl) (by simp [hsz]) ?_ j o i ho hb he
  intro j' o' i' ho' hb' he'
  by_cases hlt:j'<l1.length
  ·rw [List.getElem?_append_left hlt] at ho'
   rw [Array.getD_eq_getD_getElem?,Array.getElem?_push,if_neg (by omega),<- Array.getD_eq_getD_getElem?] at hb'
   exact hP j' o' i' ho' hb' he'
  ·have hj:j'=l1.length:=by
    rcases Nat.lt_or_ge j' (l1++[q]).length with h|h
    ·simp at h;omega
    ·rw [List.getElem?_eq_none h] at ho';cases ho'
   subst hj
   simp at ho'
   subst ho'
   rw [Array.getD_eq_getD_getElem?,Array.getElem?_push,if_pos hsz.symm,Option.getD_some,<- Array.foldl_toList] at hb'
   rcases BS acc i' q.after.toList 0 hb' with h|⟨e,hm,h⟩
   ·simp at h
   ·have hse:S e.on:=he' e (Ax.2 hm)
    rcases h with rfl|h
    ·exact hse
    ·by_cases ng:e.on<l1.length
     ·have hget:l1[e.on]? = some l1[e.on]:=List.getElem?_eq_getElem ng
      refine hP e.on _ i' hget h fun e' W5=>hS e.on l1[e.on] hse ?_ e' W5
      rw [<- Array.getElem?_toList,hl,List.getElem?_append_left ng];exact hget
     ·rw [Array.getD_eq_getD_getElem?,Array.getElem?_eq_none (by omega)] at h
      simp at h
theorem jB{ops:Array Oper}{S:Nat->Prop}(hS:oG ops S){i j:Nat}{o:Oper}(ho:ops[j]? = some o)(hb:((Region.before ops).getD j 0).testBit i=true)(he:∀ e,e∈wts o->S e.on):S i:=by
 unfold Region.before at hb
 simp only [<- Array.foldl_toList] at hb
 refine xB ops S hS ops.toList [] #[] (by simp) (by simp) (by simp) j o i ho ?_ he
 simpa only [<- Array.foldl_toList] using hb
end
section
structure jG(ops:Array Oper)(Cs:List (List Nat)):Prop where
 le:Cs.length<=ops.size
 edge:∀ (i:Nat) (o:Oper),ops[i]? = some o->∀ e,e∈wts o->e.on<i
 conf:∀ i j,i<j->j<Cs.length->conf ops Cs i j=true->((Region.before ops).getD j 0).testBit i=true
 tail:∀ i j,i<j->j<ops.size->Cs.length<=j->((Region.before ops).getD j 0).testBit i=true
theorem qh{ops:Array Oper}{Cs:List (List Nat)}(h:gh ops Cs=true):jG ops Cs:=by
 simp only [gh,Bool.and_eq_true,Bool.not_eq_true'] at h
 obtain ⟨⟨⟨h2,h3⟩,h4⟩,h5⟩:=h
 refine ⟨by simpa using h2,?_,?_,?_⟩
 ·intro i o ho e he
  have hlt:i<ops.size:=by
   rcases Nat.lt_or_ge i ops.size with h|h
   ·exact h
   ·rw [Array.getElem?_eq_none h] at ho;cases ho
  have:=List.all_eq_true.1 h3 i (by simpa using hlt)
  rw [ho] at this
  simp only [Option.map_some,Option.getD_some] at this
  simpa using List.all_eq_true.1 this e he
 ·intro i j hij hj hc
  have:=List.all_eq_true.1 (List.all_eq_true.1 h4 j (by simpa using hj)) i (by simpa using hij)
  simpa [hc] using this
 ·intro i j hij hj hm
  have:=List.all_eq_true.1 h5 j (by simpa using hj)
  simp only [Bool.or_eq_true] at this
  rcases this with h|h
  ·simp at h;omega
  ·exact List.all_eq_true.1 h i (by simpa using hij)
theorem tY{l:List Nat}{p q:Nat->Bool}(h:∀ i,i∈l->p i=q i):l.filter p=l.filter q:=List.filter_congr h
theorem Aj{ops:Array Oper}{D:List (AV×List Nat)}(hF:jG ops (D.map Prod.snd)){S:Nat->Bool}(hS:oG ops (fun i=>S i=true)){j:Nat}{o:Oper}(ho:ops[j]? = some o)(hj:j<D.length)(hSj:S j=false)
  (he:∀ e,e∈wts o->S e.on=true) (t:List (Nat×AV)) {k:Nat} (hk:k∈slotsOf ops o) :
  T (dn ops D t ((List.range D.length).filter S)) k=T (dn ops D t (List.range j)) k:=by
 have hrd:(rd ops j).contains k=true:=by simp [rd,ho,hk]
 rw [qm k _ t t rfl,qm k (List.range j) t t rfl]
 congr 2
 rw [List.filter_filter]
 have jW:List.range D.length=List.range j++(List.range (D.length - j)).map (j+·):=by
  rw [<- List.range_add];congr 1;omega
 rw [jW,List.filter_append]
 have h2:((List.range (D.length - j)).map (j+·)).filter (fun a=>(wr ops (D.map Prod.snd) a).contains k && S a)=[]:=by
  rw [List.filter_eq_nil_iff]
  intro i hi hc
  simp only [List.mem_map,List.mem_range] at hi
  obtain ⟨d,hd,rfl⟩:=hi
  simp only [Bool.and_eq_true] at hc
  rcases Nat.eq_zero_or_pos d with rfl|hpos
  ·simp [hSj] at hc
  ·have hlt:j+d<ops.size:=by have:=hF.le;simp at this;omega
   have zE:conf ops (D.map Prod.snd) j (j+d)=true:=by
    simp only [conf,Bool.or_eq_true,List.any_eq_true]
    exact .inr ⟨k,by simpa using hrd,hc.1⟩
   have hb:=hF.conf j (j+d) (by omega) (by simp;omega) zE
   have hs:=jB hS (Array.getElem?_eq_getElem hlt) hb (fun e he'=>hS (j+d) _ hc.2 (Array.getElem?_eq_getElem hlt) e he')
   rw [hSj] at hs;cases hs
 rw [h2,List.append_nil]
 refine tY fun i hi=>?_
 simp only [List.mem_range] at hi
 cases hw:(wr ops (D.map Prod.snd) i).contains k with
 | false=>simp
 | true =>
  have zE:conf ops (D.map Prod.snd) i j=true:=by
   simp only [conf,Bool.or_eq_true,List.any_eq_true]
   exact .inl ⟨k,by simpa using hw,.inl hrd⟩
  have hb:=hF.conf i j hi (by simpa using hj) zE
  simpa using jB hS ho hb he
theorem kZ(ops:Array Oper)(D:List (AV×List Nat))(t:List (Nat×AV))(l:List Nat)(j:Nat):dn ops D t (l++[j])=match ops[j]?,D[j]? with|some o,some d=>upd o d.1 d.2 (dn ops D t l)|_,_=>dn ops D t l:=by
 rw [xc];rfl
theorem step_eq{ops:Array Oper}{D:List (AV×List Nat)}(hF:jG ops (D.map Prod.snd)){S S':Nat->Bool}(hS:oG ops (fun i=>S i=true)){j:Nat}{o:Oper}{d:AV×List Nat}(ho:ops[j]? = some o)(hd:D[j]? = some d)(hSj:S j=false)
  (hS':∀ i,S' i=(S i || i == j)) (t:List (Nat×AV)) (k:Nat) :
  T (upd o d.1 d.2 (dn ops D t ((List.range D.length).filter S))) k=T (dn ops D t ((List.range D.length).filter S')) k:=by
 have hj:j<D.length:=by
  rcases Nat.lt_or_ge j D.length with h|h
  ·exact h
  ·rw [List.getElem?_eq_none h] at hd;cases hd
 have jW:List.range D.length=List.range j++([j]++(List.range (D.length - (j+1))).map (j+1+·)):=by
  rw [<- List.append_assoc,<- List.range_succ,<- List.range_add];congr 1;omega
 cases hw:(wr ops (D.map Prod.snd) j).contains k with
 | false =>
  rw [wU]
  have hw':=hw
  simp [wr,ho,hd] at hw'
  rw [if_neg (fun e=>hw'.1 e),if_neg hw'.2,qm k _ t t rfl,qm k ((List.range D.length).filter S') t t rfl,List.filter_filter,List.filter_filter]
  congr 2
  refine tY fun i _=>?_
  rw [hS']
  by_cases e:i=j
  ·subst e;rw [hw];simp
  ·have:(i == j)=false:=by simpa using e
   simp [this]
 | true =>
  have e0:∀ t0:List (Nat×AV),T (upd o d.1 d.2 t0) k=if o.dst=some k then d.1 else .dead:=by
   intro t0
   rw [wU]
   have hw':=hw
   simp [wr,ho,hd] at hw'
   by_cases e:o.dst=some k
   ·simp [e]
   ·rcases hw' with e'|e'
    ·exact absurd e' e
    ·simp [e,e']
  rw [e0,qm k ((List.range D.length).filter S') t t rfl,List.filter_filter,jW,List.filter_append,List.filter_append]
  have h2:((List.range (D.length - (j+1))).map (j+1+·)).filter (fun a=>(wr ops (D.map Prod.snd) a).contains k && S' a)=[]:=by
   rw [List.filter_eq_nil_iff]
   intro i hi hc
   simp only [List.mem_map,List.mem_range] at hi
   obtain ⟨q,hq,rfl⟩:=hi
   simp only [Bool.and_eq_true,hS'] at hc
   have hne:(j+1+q == j)=false:=by simp;omega
   rw [hne,Bool.or_false] at hc
   have hlt:j+1+q<ops.size:=by have:=hF.le;simp at this;omega
   have zE:conf ops (D.map Prod.snd) j (j+1+q)=true:=by
    simp only [conf,Bool.or_eq_true,List.any_eq_true]
    exact .inl ⟨k,by simpa using hw,.inr hc.1⟩
   have hb:=hF.conf j (j+1+q) (by omega) (by simp;omega) zE
   have hs:=jB hS (Array.getElem?_eq_getElem hlt) hb (fun e he'=>hS (j+1+q) _ hc.2 (Array.getElem?_eq_getElem hlt) e he')
   rw [hSj] at hs;cases hs
  have h1:[j].filter (fun a=>(wr ops (D.map Prod.snd) a).contains k && S' a)=[j]:=by
   rw [List.filter_cons_of_pos (by simp only [hw,hS'];simp),List.filter_nil]
  rw [h2,h1,List.append_nil,kZ]
  simp only [ho,hd]
  rw [e0]
theorem cD.congr{L:Nat->Nat}{B:Nat->Prop}{F0:Nat->Prop}{w0:World}{n:Nat}{t t':List (Nat×AV)}{os:List (Nat×Option (List AV))}{a:Act}{w:World}(h:Den L B F0 w0 ⟨n,t,os⟩ a w)(ht:∀ k,T t k=T t' k):Den L B F0 w0 ⟨n,t',os⟩ a w :=
 h.weaken rfl (fun k=>.inl (ht k).symm) (fun _ _ h=>h)
theorem LOp.Ar{L:Nat->Nat}{P:Program}{n:Nat}{t t':List (Nat×AV)}{os:List (Nat×Option (List AV))}{o:Oper}{x:AV}{C ks:List Nat}(h:LOp L P ⟨n,eN t ks,os⟩ o x C)(ht:∀ k,k∈ks->T t' k=T t k)(hC:∀ i,i∈C->i∈ks):LOp L P ⟨n,t',os⟩ o x C:=by
 intro B F0 w0 F own fp fs a w next Q hd bI
 have hT:∀ i,i∈ks->T (eN t ks) i=T t i:=by
  intro i hi
  clear h hC ht
  induction ks with
  | nil=>cases hi
  | cons q ks ih =>
   simp only [eN,List.map_cons,T]
   by_cases e:q=i
   ·subst e;simp
   ·have:(q == i)=false:=by simpa using e
    rw [this]
    rcases List.mem_cons.1 hi with rfl|hi
    ·exact absurd rfl e
    ·exact ih hi
 have hT':∀ i,i ∉ ks->T (eN t ks) i=.dead:=by
  intro i hi
  clear h hC ht hT
  induction ks with
  | nil=>rfl
  | cons q ks ih =>
   simp only [eN,List.map_cons,T]
   have e:¬ q=i:=fun e=>hi (by simp [e])
   have:(q == i)=false:=by simpa using e
   rw [this]
   exact ih (fun h=>hi (by simp [h]))
 classical
 refine h B F0 w0 F own (fun i=>if i∈ks then fp i else []) fs a w next Q { hd with slots:=?_,sn:=?_,so:=?_ } ?_
 ·intro i
  by_cases e:i∈ks
  ·simp only [if_pos e,hT i e,<- ht i e];exact hd.slots i
  ·simp only [if_neg e,hT' i e];simp [Rep]
 ·intro i
  split
  ·exact hd.sn i
  ·simp
 ·intro i b hb
  split at hb
  ·exact hd.so i b hb
  ·simp at hb
 ·intro v w' g
  refine bI v w' ⟨g.below.mono fun b hb=>⟨hb.1,fun ⟨i,hi,e⟩=>hb.2 ⟨i,hi,by by_cases hk:i∈ks<;>simp [hk] at e;exact e⟩⟩,?_⟩
  obtain ⟨F',fx,h1,h2,h3,h4,h5⟩:=g.rep
  refine ⟨F',fx,h1,fun b hb=>?_,h3,h4,fun b hb=>⟨(h5 b hb).1,?_⟩⟩
  ·rcases h2 b hb with e|e|⟨i,hi,e⟩
   ·exact .inl e
   ·exact .inr (.inl e)
   ·exact .inr (.inr ⟨i,hi,by simpa [hC i hi] using e⟩)
  ·rcases (h5 b hb).2 with ⟨i,hi,e⟩|e
   ·exact .inl ⟨i,hi,by simpa [hC i hi] using e⟩
   ·exact .inr e
end
section
theorem filter_le{p q:Nat->Bool}(h:∀ i,q i=true->p i=true):∀ l:List Nat,(l.filter q).length<=(l.filter p).length
 | []=>by simp
 | i::l=>by
  have:=filter_le h l
  cases hq:q i with
  | true=>rw [List.filter_cons_of_pos (by simpa using hq),List.filter_cons_of_pos (by simpa using h i hq)];simpa using this
  | false =>
   rw [List.filter_cons_of_neg (by simp [hq])]
   cases hp:p i with
   | true=>rw [List.filter_cons_of_pos (by simpa using hp)];simp;omega
   | false=>rw [List.filter_cons_of_neg (by simp [hp])];exact this
theorem filter_lt{p q:Nat->Bool}(h:∀ i,q i=true->p i=true):∀ l:List Nat,(∃ i,i∈l/\p i=true/\q i=false)->(l.filter q).length<(l.filter p).length
 | [],hex=>by simp at hex
 | i::l,⟨j,hj,hp,hq⟩=>by
  rcases List.mem_cons.1 hj with rfl|hj
  ·rw [List.filter_cons_of_neg (by simp [hq]),List.filter_cons_of_pos (by simpa using hp)]
   have:=filter_le h l
   simp;omega
  ·have:=filter_lt h l ⟨j,hj,hp,hq⟩
   cases hq':q i with
   | true=>rw [List.filter_cons_of_pos (by simpa using hq'),List.filter_cons_of_pos (by simpa using h i hq')];simpa using this
   | false =>
    rw [List.filter_cons_of_neg (by simp [hq'])]
    cases hp':p i with
    | true=>rw [List.filter_cons_of_pos (by simpa using hp')];simp;omega
    | false=>rw [List.filter_cons_of_neg (by simp [hp'])];exact this
def ready(ops:Array Oper)(listed:Array Bool)(i:Nat):Bool :=
 !listed.getD i true && ((ops[i]?).map (·.after.all fun e=>!Region.binds .any e || listed.getD e.on false)).getD false
theorem iS{ops:Array Oper}{listed:Array Bool}(hs:listed.size=ops.size){i:Nat}(hi:i<ops.size) :
  ready ops listed i=true↔listed.getD i false=false/\∀ e,e∈wts ops[i]->listed.getD e.on false=true:=by
 have ho:ops[i]? = some ops[i]:=Array.getElem?_eq_getElem hi
 have e1:listed.getD i true=listed.getD i false:=by simp [Array.getD,hs,hi]
 simp only [ready,ho,Option.map_some,Option.getD_some,Bool.and_eq_true,Bool.not_eq_true',e1]
 constructor
 ·rintro ⟨h1,h2⟩
  refine ⟨h1,fun e he=>?_⟩
  obtain ⟨he1,he2⟩:=Ax.1 he
  rw [Array.all_eq_true_iff_forall_mem] at h2
  have:=h2 e (by simpa using he1)
  rw [he2] at this
  simpa using this
 ·rintro ⟨h1,h2⟩
  refine ⟨h1,?_⟩
  rw [Array.all_eq_true_iff_forall_mem]
  intro e he
  cases hb:Region.binds .any e with
  | false=>simp
  | true=>rw [h2 e (Ax.2 ⟨by simpa using he,hb⟩)];simp
theorem go_succ(ops:Array Oper)(fuel t:Nat)(listed:Array Bool)(acc:List Nat):Region.linearise.go .any ops (fuel+1) t listed acc =
  match ((List.range ops.size).filter (ready ops listed))[t % ((List.range ops.size).filter (ready ops listed)).length]? with
  | some i=>Region.linearise.go .any ops fuel (t / ((List.range ops.size).filter (ready ops listed)).length) (listed.setIfInBounds i true) (i::acc)
  | none=>acc.reverse:=rfl
theorem sJ{listed:Array Bool}{i:Nat}(hi:i<listed.size)(j:Nat):(listed.setIfInBounds i true).getD j false=(listed.getD j false || j == i):=by
 rw [Array.getD_eq_getD_getElem?,Array.getElem?_setIfInBounds]
 by_cases e:i=j
 ·subst e;simp [hi]
 ·have:(j == i)=false:=by simp;exact fun h=>e h.symm
  rw [if_neg e,this,Bool.or_false,Array.getD_eq_getD_getElem?]
theorem wC{ops:Array Oper}{Cs:List (List Nat)}(hF:jG ops Cs):∀ (fuel t p:Nat) (acc:List Nat) (listed:Array Bool),Cs.length<=p->p<=ops.size->listed.size=ops.size->(∀ i,listed.getD i false=decide (i<p))->ops.size - p<=fuel ->
  Region.linearise.go .any ops fuel t listed acc=acc.reverse++List.range' p (ops.size - p)
 | 0,t,p,acc,listed,hm,hp,hs,hl,hf=>by
  have:ops.size - p=0:=by omega
  rw [this];simp [Region.linearise.go]
 | fuel+1,t,p,acc,listed,hm,hp,hs,hl,hf=>by
  have hS:oG ops (fun i=>listed.getD i false=true):=by
   intro j o hj ho e he
   have hj':j<p:=by rw [hl] at hj;simpa using hj
   rw [hl];have:=hF.edge j o ho e he;simp;omega
  rcases Nat.lt_or_ge p ops.size with hlt|hge
  ·have hrs:(List.range ops.size).filter (ready ops listed)=[p]:=by
    have jW:List.range ops.size=List.range p++([p]++(List.range (ops.size - (p+1))).map (p+1+·)):=by
     rw [<- List.append_assoc,<- List.range_succ,<- List.range_add];congr 1;omega
    rw [jW,List.filter_append,List.filter_append]
    have h1:(List.range p).filter (ready ops listed)=[]:=by
     rw [List.filter_eq_nil_iff]
     intro i hi hr
     simp only [List.mem_range] at hi
     have:=((iS hs (by omega)).1 hr).1
     rw [hl] at this;simp at this;omega
    have h2:[p].filter (ready ops listed)=[p]:=by
     rw [List.filter_cons_of_pos,List.filter_nil]
     refine (iS hs hlt).2 ⟨by rw [hl];simp,fun e he=>?_⟩
     have:=hF.edge p _ (Array.getElem?_eq_getElem hlt) e he
     rw [hl];simpa using this
    have h3:((List.range (ops.size - (p+1))).map (p+1+·)).filter (ready ops listed)=[]:=by
     rw [List.filter_eq_nil_iff]
     intro i hi hr
     simp only [List.mem_map,List.mem_range] at hi
     obtain ⟨q,hq,rfl⟩:=hi
     have ng:p+1+q<ops.size:=by omega
     have:=(iS hs ng).1 hr
     have hb:=hF.tail p (p+1+q) (by omega) ng (by omega)
     have:=jB hS (Array.getElem?_eq_getElem ng) hb this.2
     rw [hl] at this;simp at this
    rw [h1,h2,h3];rfl
   rw [go_succ,hrs]
   simp only [List.length_singleton,Nat.mod_one,List.getElem?_cons_zero]
   rw [wC hF fuel _ (p+1) (p::acc) (listed.setIfInBounds p true) (by omega) (by omega) (by simpa using hs) (fun i=>by
    rw [sJ (by omega),hl]
    by_cases e:i=p
    ·subst e;simp
    ·have:(i == p)=false:=by simpa using e
     rw [this,Bool.or_false];congr 1;apply propext;omega) (by omega)]
   rw [show ops.size - p=(ops.size - (p+1))+1 by omega,List.range'_succ]
   simp
  ·have hrs:(List.range ops.size).filter (ready ops listed)=[]:=by
    rw [List.filter_eq_nil_iff]
    intro i hi hr
    simp only [List.mem_range] at hi
    have:=((iS hs hi).1 hr).1
    rw [hl] at this;simp at this;omega
   rw [go_succ,hrs]
   have:ops.size - p=0:=by omega
   rw [this];simp
theorem RV{L:Nat->Nat}{P:Program}{ops:Array Oper}{n:Nat}{os:List (Nat×Option (List AV))}{t0:List (Nat×AV)}{D:List (AV×List Nat)}{K:AS->Prop}{B:Nat->Prop}{F0:Nat->Prop}{w0:World}{Q:Exit->Act->World->Prop}(hF:jG ops (D.map Prod.snd))
  (hst:∀ j o d,ops[j]? = some o->D[j]? = some d->sw L P ops n os (dn ops D t0 (List.range j)) o d.1 d.2)
  (htl:gK L P ops (List.range' D.length (ops.size - D.length)) ⟨n,dn ops D t0 (List.range D.length),os⟩ K) (hQ:∀ s' a' w',K s'->Den L B F0 w0 s' a' w'->Q .normal a' w') :
  ∀ (fuel t:Nat) (listed:Array Bool) (acc:List Nat),listed.size=ops.size->oG ops (fun i=>listed.getD i false=true)->(∀ j,D.length<=j->listed.getD j false=false)->((List.range ops.size).filter fun i=>!listed.getD i false).length<=fuel ->
  ∃ rest,Region.linearise.go .any ops fuel t listed acc=acc.reverse++rest/\∀ a w,Den L B F0 w0 ⟨n,dn ops D t0 ((List.range D.length).filter fun i=>listed.getD i false),os⟩ a w->wpOps P ops Q rest a w:=by
 intro fuel
 have EI:D.length<=ops.size:=by have:=hF.le;simpa using this
 induction fuel with
 | zero =>
  intro t listed acc hs hS hno vk
  have hnil:(List.range ops.size).filter (fun i=>!listed.getD i false)=[]:=List.eq_nil_of_length_eq_zero (by omega)
  rw [List.filter_eq_nil_iff] at hnil
  have hall:∀ i,i<ops.size->listed.getD i false=true:=fun i hi=>by simpa using hnil i (by simpa using hi)
  have hD:D.length=ops.size:=by
   rcases Nat.lt_or_ge D.length ops.size with h|h
   ·have:=hall D.length h;rw [hno D.length (Nat.le_refl _)] at this;cases this
   ·omega
  refine ⟨[],by simp [Region.linearise.go],fun a w hd=>?_⟩
  have yu:(List.range D.length).filter (fun i=>listed.getD i false)=List.range D.length:=by
   rw [List.filter_eq_self];intro i hi;exact hall i (by simp at hi;omega)
  rw [yu] at hd
  have:=htl B F0 w0 a w Q hd hQ
  rw [show ops.size - D.length=0 by omega] at this
  exact this
 | succ fuel ih =>
  intro t listed acc hs hS hno vk
  by_cases hall:∀ i,i<D.length->listed.getD i false=true
  ·refine ⟨List.range' D.length (ops.size - D.length),?_,fun a w hd=>?_⟩
   ·refine wC hF (fuel+1) t D.length acc listed (by simp) EI hs (fun i=>?_) ?_
    ·by_cases e:i<D.length
     ·rw [hall i e];simp [e]
     ·rw [hno i (by omega)];simp [e]
    ·refine Nat.le_trans ?_ vk
     have jW:List.range ops.size=List.range D.length++(List.range (ops.size - D.length)).map (D.length+·):=by
      rw [<- List.range_add];congr 1;omega
     rw [jW,List.filter_append,List.length_append]
     have:((List.range (ops.size - D.length)).map (D.length+·)).filter (fun i=>!listed.getD i false)=(List.range (ops.size - D.length)).map (D.length+·):=by
      rw [List.filter_eq_self];intro i hi
      simp only [List.mem_map,List.mem_range] at hi
      obtain ⟨q,_,rfl⟩:=hi
      rw [hno _ (by omega)];rfl
     rw [this];simp
   ·have yu:(List.range D.length).filter (fun i=>listed.getD i false)=List.range D.length:=by
     rw [List.filter_eq_self];intro i hi;exact hall i (by simpa using hi)
    rw [yu] at hd
    exact htl B F0 w0 a w Q hd hQ
  ·have hex:∃ i,i<D.length/\listed.getD i false=false:=by
    rcases Classical.em (∃ i,i<D.length/\listed.getD i false=false) with h|h
    ·exact h
    ·exact absurd (fun i hi=>by
      rcases hb:listed.getD i false with _|_
      ·exact absurd ⟨i,hi,hb⟩ h
      ·rfl) hall
   have iN:=least hex
   obtain ⟨i0,⟨hi0,hl0⟩,iN⟩:=iN
   have hr0:ready ops listed i0=true:=by
    refine (iS hs (by omega)).2 ⟨hl0,fun e he=>?_⟩
    have hlt:=hF.edge i0 _ (Array.getElem?_eq_getElem (by omega)) e he
    rcases hb:listed.getD e.on false with _|_
    ·have:=iN e.on ⟨by omega,hb⟩;omega
    ·rfl
   have zC:i0∈(List.range ops.size).filter (ready ops listed):=List.mem_filter.2 ⟨by simp;omega,hr0⟩
   have hpos:0<((List.range ops.size).filter (ready ops listed)).length:=List.length_pos_of_mem zC
   have hlt:=Nat.mod_lt t hpos
   rw [go_succ,List.getElem?_eq_getElem hlt]
   have qI:((List.range ops.size).filter (ready ops listed))[t % ((List.range ops.size).filter (ready ops listed)).length]∈(List.range ops.size).filter (ready ops listed):=List.getElem_mem hlt
   generalize ((List.range ops.size).filter (ready ops listed))[t % ((List.range ops.size).filter (ready ops listed)).length]=j at qI
   obtain ⟨hjn,hrj⟩:=List.mem_filter.1 qI
   simp only [List.mem_range] at hjn
   obtain ⟨hlj,hej⟩:=(iS hs hjn).1 hrj
   have hoj:ops[j]? = some ops[j]:=Array.getElem?_eq_getElem hjn
   have hjD:j<D.length:=by
    rcases Nat.lt_or_ge j D.length with h|h
    ·exact h
    ·have hb:=hF.tail i0 j (by omega) hjn (by simpa using h)
     have:=jB hS hoj hb hej
     rw [hl0] at this;cases this
   have hdj:D[j]? = some D[j]:=List.getElem?_eq_getElem hjD
   have hS':∀ i,(listed.setIfInBounds j true).getD i false=(listed.getD i false || i == j):=sJ (by omega)
   obtain ⟨rest,hrest,hwp⟩:=ih (t / ((List.range ops.size).filter (ready ops listed)).length) (listed.setIfInBounds j true) (j::acc) (by simpa using hs) (by
    intro i o hi ho e he
    rw [hS'] at hi ⊢
    simp only [Bool.or_eq_true] at hi ⊢
    rcases hi with hi|hi
    ·exact .inl (hS i o hi ho e he)
    ·have:i=j:=by simpa using hi
     subst this
     rw [hoj] at ho;cases ho
     exact .inl (hej e he)) (by
    intro i hi
    rw [hS',hno i hi]
    have:(i == j)=false:=by simp;omega
    rw [this];rfl) (by
    have:=filter_lt (p:=fun i=>!listed.getD i false) (q:=fun i=>!(listed.setIfInBounds j true).getD i false) (fun i hi=>by
     rw [hS'] at hi;simp only [Bool.not_or,Bool.and_eq_true] at hi;exact hi.1) (List.range ops.size) ⟨j,by simpa using hjn,by rw [hlj];rfl,by rw [hS'];simp⟩
    omega)
   refine ⟨j::rest,by dsimp only;rw [hrest];simp,fun a w hd=>?_⟩
   have hSt:=hst j ops[j] D[j] hoj hdj
   have vf:∀ k,k∈slotsOf ops ops[j]->T (dn ops D t0 ((List.range D.length).filter fun i=>listed.getD i false)) k=T (dn ops D t0 (List.range j)) k:=fun k hk =>
    Aj hF hS hoj hjD hlj hej t0 hk
   have bI:∀ a' w',Den L B F0 w0 ⟨n,upd ops[j] D[j].1 D[j].2 (dn ops D t0 ((List.range D.length).filter fun i=>listed.getD i false)),os⟩ a' w'->wpOps P ops Q rest a' w':=fun a' w' h' =>
    hwp a' w' (cD.congr h' (step_eq hF hS hoj hdj hlj hS' t0))
   have hop:LOp L P ⟨n,eN (dn ops D t0 (List.range j)) (slotsOf ops ops[j]),os⟩ ops[j] D[j].1 D[j].2->(ops[j]).wp P a w (wpOps P ops Q rest) Q:=fun hl =>
    (hl.Ar vf hSt.sub).opW hSt.dst (K:=fun s'=>s'=⟨n,upd ops[j] D[j].1 D[j].2 (dn ops D t0 ((List.range D.length).filter fun i=>listed.getD i false)),os⟩) rfl B F0 w0 a w _ Q hd fun s' a' w' e h'=>by
     subst e;exact bI a' w' h'
   rcases hSt.run with ⟨hg,hl⟩|⟨gi,want,oj,d,G,g,x0,hg,hgi,hgd,hgl,hT,hx,hC,h1⟩
   ·simp only [wpOps,hoj]
    rw [if_pos (by simp [Region.wanted,hg])]
    exact .inl (hop hl)
   ·have hk:d∈slotsOf ops ops[j]:=by simp [slotsOf,hg,hgi,hgd]
    have hy:=pd hd hgi hgd (by rw [vf d hk];exact hT) hgl
    simp only [wpOps,hoj,Region.wanted,hg,hy]
    cases hw:(G && (g == want)) with
    | true =>
     have hl:=(h1 hw).cnd
     rw [hw] at hx
     rw [<- hx,<- hC] at hl
     simp at hw
     obtain ⟨rfl,rfl⟩:=hw
     rw [if_pos (by simp)]
     exact .inl (hop hl)
    | false =>
     rw [if_neg (by cases G<;>simp_all)]
     refine bI _ _ ?_
     obtain ⟨F,own,fp,fs,h⟩:=hd
     have:=h.put (x:=.cnd false x0) (v:=undef) (fx:=[]) [] (ops[j]).dst hSt.dst (Kp.refl _ _) (fun _ h=>h) (fun _ h=>.inl h) (by simp [Rep]) (by simp) (by simp)
     rw [hx,hC,hw]
     exact this
theorem Den.drew{L:Nat->Nat}{B:Nat->Prop}{F0:Nat->Prop}{w0:World}{s:AS}{a:Act}{w:World}(h:Den L B F0 w0 s a w):Den L B F0 w0 s a { w with drawn:=w.drawn+1 }:=by
 obtain ⟨F,own,fp,fs,h⟩:=h
 have cl:Ext (fun _=>True) w { w with drawn:=w.drawn+1 }:=⟨Nat.le_refl _,fun _ _=>rfl,fun b c T z hc=>⟨c,hc,rfl⟩⟩
 refine ⟨F,own,fp,fs,{ h with below:=⟨h.below.os,h.below.tape,h.below.output,h.below.size,h.below.block,h.below.shape⟩,slots:=fun i=>Rep.ext cl (fun b hb=>⟨hb,trivial⟩) (fun _ _=>trivial) (h.slots i),obj:=fun b cells hb=>?_ }⟩
 obtain ⟨h1,h2,h3,c,Ty,vals,rest,h4,h5,h6⟩:=h.obj b cells hb
 exact ⟨h1,h2,h3,c,Ty,vals,rest,h4,h5,aq.ext cl (fun b hb=>⟨hb,trivial⟩) (fun _ _=>trivial) h6⟩
theorem jF.inv{L:Nat->Nat}{P:Program}{ops:Array Oper}{n:Nat}{os:List (Nat×Option (List AV))}{K:List (Nat×AV)->List (AV×List Nat)->Prop}{t0:List (Nat×AV)} :
  ∀ {i:Nat} {t:List (Nat×AV)} {acc:List (AV×List Nat)},jF L P ops n os K i t acc->i=acc.length->t=dn ops acc t0 (List.range acc.length) ->
  (∀ j o d,ops[j]? = some o->acc[j]? = some d->sw L P ops n os (dn ops acc t0 (List.range j)) o d.1 d.2) ->
  ∃ D,K (dn ops D t0 (List.range D.length)) D/\∀ j o d,ops[j]? = some o->D[j]? = some d->sw L P ops n os (dn ops D t0 (List.range j)) o d.1 d.2:=by
 intro i t acc h
 induction h with
 | done hK=>rintro _ rfl hst;exact ⟨_,hK,hst⟩
 | @step i t acc o x C ho hs _ ih =>
  rintro rfl rfl hst
  have hpre:∀ j,j<=acc.length->dn ops (acc++[(x,C)]) t0 (List.range j)=dn ops acc t0 (List.range j):=by
   intro j
   induction j with
   | zero=>intro _;rfl
   | succ j ihj =>
    intro hj
    rw [List.range_succ,kZ,kZ,ihj (by omega),List.getElem?_append_left (by omega)]
  refine ih (by simp) ?_ ?_
  ·rw [List.length_append,List.length_singleton,List.range_succ,kZ,hpre _ (Nat.le_refl _)]
   simp [ho]
  ·intro j o' d ho' hd
   rcases Nat.lt_or_ge j acc.length with h|h
   ·rw [List.getElem?_append_left h] at hd
    rw [hpre j (by omega)]
    exact hst j o' d ho' hd
   ·have hj:j=acc.length:=by
     rcases Nat.lt_or_ge j (acc++[(x,C)]).length with h'|h'
     ·simp at h';omega
     ·rw [List.getElem?_eq_none h'] at hd;cases hd
    subst hj
    simp at hd
    subst hd
    rw [ho] at ho'
    cases ho'
    rw [hpre _ (Nat.le_refl _)]
    exact hs
class ku(P:Program):Prop where
 h:P.follows .mixedOrders=true
theorem AW.draw{L:Nat->Nat}{P:Program}[hM:ku P]{s:AS}{Q:Exit->AS->Prop}{id:Nat}{ops:Array Oper}
  (h:jF L P ops s.n s.o (fun t D=>gh ops (D.map Prod.snd)=true/\gK L P ops (List.range' D.length (ops.size - D.length)) ⟨s.n,t,s.o⟩ (fun s'=>Q .normal s')) 0 s.t []) :
  AW L P (.region id ops true) s Q:=by
 intro B F0 w0 a w hd
 obtain ⟨D,⟨hok,htl⟩,hst⟩:=h.inv (t0:=s.t) rfl rfl (by simp)
 have hF:=qh hok
 refine wp_region_draw fun t=>?_
 have EC:Region.schedule (P.follows .mixedOrders) ops t=Region.linearise .any ops t:=by
  simp [Region.schedule,hM.h]
 rw [EC]
 obtain ⟨rest,hrest,hwp⟩:=RV (Q:=fun e a' w'=>∃ s',Q e s'/\Den L B F0 w0 s' a' w') (B:=B) (F0:=F0) (w0:=w0) hF hst htl (fun s' a' w' h1 h2=>⟨s',h1,h2⟩) ops.size t (Array.replicate ops.size false) [] (by simp) (by
  intro j o hj
  rw [Array.getD_eq_getD_getElem?,Array.getElem?_replicate] at hj
  split at hj<;>simp at hj) (by
  intro j _
  rw [Array.getD_eq_getD_getElem?,Array.getElem?_replicate]
  split<;>rfl) (by
  have:=List.length_filter_le (fun i=>!(Array.replicate ops.size false).getD i false) (List.range ops.size)
  simpa using this)
 unfold Region.linearise
 rw [hrest]
 simp only [List.reverse_nil,List.nil_append]
 refine hwp a _ ?_
 have:(List.range D.length).filter (fun i=>(Array.replicate ops.size false).getD i false)=[]:=by
  rw [List.filter_eq_nil_iff]
  intro i _
  rw [Array.getD_eq_getD_getElem?,Array.getElem?_replicate]
  split<;>simp
 rw [this]
 exact hd.drew
end
section
def Sk(k:IntKind)(a b:Int):Int:=k.wrap (BitVec.ofInt k.bits a &&& BitVec.ofInt k.bits b).toNat
def Qh(k:IntKind)(a b:Int):Int:=k.wrap (BitVec.ofInt k.bits a ^^^ BitVec.ofInt k.bits b).toNat
def Qw(k:IntKind)(a b:Int):Int:=a.fdiv (2 ^ min b.toNat k.bits)
def Fl(op:BinOp):Value->Value->Option Value
 | .int k a,.int k' b=>match op with
  | .shr=>if b<0 then none else some (.int k (Qw k a b))
  | _=>if k=k' then
   (match op with
   | .add=>some (.int k (k.wrap (a+b)))
   | .sub=>some (.int k (k.wrap (a - b)))
   | .mul=>some (.int k (k.wrap (a * b)))
   | .eql=>some (.bool (a == b))
   | .neq=>some (.bool (a != b))
   | .lss=>some (.bool (decide (a<b)))
   | .leq=>some (.bool (decide (a<=b)))
   | .gtr=>some (.bool (decide (b<a)))
   | .geq=>some (.bool (decide (b<=a)))
   | .quo=>if b=0 then none else some (.int k (k.wrap (a.tdiv b)))
   | .rem=>if b=0 then none else some (.int k (a.tmod b))
   | .and=>some (.int k (Sk k a b))
   | .xor=>some (.int k (Qh k a b))
   | _=>none) else none
 | _,_=>none
theorem LM{P:Program}{op:BinOp}{u v z:Value}{ty:TypeId}{x y:Operand}(h:Fl op u v=some z)(w:World):(do eqGuard op ty x y u v;binOp op ty u v:Sem Value).run P w=.ok z w:=by
 unfold Fl at h
 split at h
 ·rename_i k a k' b
  have hg:(eqGuard op ty x y (.int k a) (.int k' b)).run P w=.ok () w:=by cases op<;>simp [eqGuard]
  rw [Sem.run_bind,hg]
  simp only [Result.andThen_ok]
  split at h
  ·split at h
   ·cases h
   ·rename_i hb
    cases h
    simp [binOp,Op.shift,hb,Qw]
  ·split at h
   ·rename_i hk
    subst hk
    cases op<;>simp at h<;>first
     | (subst h;simp [binOp,Op.intArith,Op.intCmp];done)
     | (subst h;simp [binOp,Op.intBits,Sk,Qh];done)
     | (obtain ⟨hb,h⟩:=h;subst h;simp [binOp,Op.intDiv,hb];done)
   ·cases h
 ·cases h
def Fm(op:BinOp)(a b:List UInt8):Option Bool :=
 match op with
 | .eql=>some (a == b)
 | .neq=>some (!(a == b))
 | .lss=>some (Op.bytesLess a b)
 | .leq=>some (Op.bytesLess a b || a == b)
 | .gtr=>some (!(Op.bytesLess a b || a == b))
 | .geq=>some (!Op.bytesLess a b)
 | _=>none
theorem LN{P:Program}{op:BinOp}{a b:List UInt8}{z:Bool}{ty:TypeId}{x y:Operand}(h:Fm op a b=some z)(w:World):(do eqGuard op ty x y (.string ⟨a.toArray⟩) (.string ⟨b.toArray⟩);binOp op ty (.string ⟨a.toArray⟩) (.string ⟨b.toArray⟩):Sem Value).run P w=.ok (.bool z) w:=by
 have hg:(eqGuard op ty x y (.string ⟨a.toArray⟩) (.string ⟨b.toArray⟩)).run P w=.ok () w:=by cases op<;>simp [eqGuard]
 rw [Sem.run_bind,hg]
 simp only [Result.andThen_ok]
 unfold Fm at h
 cases op<;>simp only [Option.some.injEq,reduceCtorEq] at h<;>(subst h;simp [binOp,Op.stringOp])
def unV(op:UnOp):Value->Option Value
 | .bool b=>match op with|.not=>some (.bool (!b))|_=>none
 | .int k n=>match op with|.neg=>some (.int k (k.wrap (0 - n)))|_=>none
 | _=>none
theorem OO{P:Program}{op:UnOp}{u z:Value}(h:unV op u=some z)(w:World):(Op.unary op u).run P w=.ok z w:=by
 unfold unV at h
 split at h
 ·cases op<;>simp at h;subst h;simp [Op.unary]
 ·cases op<;>simp at h;subst h;simp [Op.unary,Op.intArith]
 ·cases h
section ops
variable {L : Nat -> Nat} {P : Program} {s : AS} {o : Oper}
theorem Mc{op:BinOp}{ty ty':TypeId}{x y:Operand}{u v z:Value}(ho:o.op=.binOp op ty x y ty')(hx:ev s.t x=.v u)(hy:ev s.t y=.v v)(hz:Fl op u v=some z):LOp L P s o (.v z) [] :=
 AB ho hx hy (LM hz)
theorem Md{op:BinOp}{ty ty':TypeId}{x y:Operand}{a b:List UInt8}{z:Bool}(ho:o.op=.binOp op ty x y ty')(hx:ev s.t x=.str a)(hy:ev s.t y=.str b)(hz:Fm op a b=some z):LOp L P s o (.v (.bool z)) []:=by
 refine jm fun B F0 w0 F own fp fs act w h=>?_
 have:=LN (P:=P) (ty:=ty) (x:=x) (y:=y) hz w
 simp only [execOp,ho,(h.uw hx).1,(h.uw hy).1]
 rw [Sem.run_bind,this]
 rfl
theorem Pm{ty ty':TypeId}{x y:Operand}{a b:List UInt8}(ho:o.op=.binOp .add ty x y ty')(hx:ev s.t x=S a)(hy:ev s.t y=S b)(hsz:a.length+b.length<=4611686018427387904):LOp L P s o (S (a++b)) []:=by
 refine sU fun B F0 w0 F own fp fs act w h=>⟨?_,by simpa using hsz⟩
 have h1:¬ ((a.length:Int)+(b.length:Int) > IntKind.i64.max):=by simp [IntKind.max,IntKind.bits,IntKind.signed];omega
 have hg:(eqGuard .add ty x y (.string ⟨a.toArray⟩) (.string ⟨b.toArray⟩)).run P w=.ok () w:=by simp [eqGuard]
 have hs:∀ l:List UInt8,(ByteArray.mk l.toArray).size=l.length:=fun l=>by simp [ByteArray.size]
 have hr:(do eqGuard .add ty x y (.string ⟨a.toArray⟩) (.string ⟨b.toArray⟩);binOp .add ty (.string ⟨a.toArray⟩) (.string ⟨b.toArray⟩):Sem Value).run P w=.ok (.string ⟨(a++b).toArray⟩) w:=by
  rw [Sem.run_bind,hg]
  simp only [Result.andThen_ok,binOp,Op.stringOp]
  rw [if_neg (by rw [hs,hs];push_cast;exact h1)]
  simp only [Sem.run_pure]
  congr 2
 simp only [execOp,ho,(h.uw hx).1,(h.uw hy).1]
 rw [Sem.run_bind,hr]
 rfl
theorem Pg{op:UnOp}{ty:TypeId}{x:Operand}{u z:Value}(ho:o.op=.unOp op ty x)(hx:ev s.t x=.v u)(hz:unV op u=some z):LOp L P s o (.v z) [] :=
 Q7 ho hx (OO hz)
theorem EJ{F:Nat->Prop}{w:World}{x:AV}{y:Value}{fp:List Nat}{G g:Bool}(h:o3 x=some (G,g))(r:Rep L F w x y fp)(hG:G=true):y=.bool g:=by
 unfold o3 at h
 split at h
 ·cases h;simp only [Rep] at r;exact r.1
 ·cases h;simp only [Rep] at r;exact (r.1 hG).1
 ·cases h;cases hG
 ·cases h
theorem Mb{c a b:Operand}{p Ga Gb u v:Bool}(ho:o.op=.pick c a b)(hc:ev s.t c=.v (.bool p))(ha:o3 (ev s.t a)=some (Ga,u))(hb:o3 (ev s.t b)=some (Gb,v))
  (h1:p=true->Ga=true) (h2:p=false->Gb=true):LOp L P s o (.v (.bool (bif p then u else v))) []:=by
 refine jm fun B F0 w0 F own fp fs act w h=>?_
 simp only [execOp,ho,h.val hc,asBool,Sem.run_bind,Sem.run_pure,Result.andThen_ok]
 cases p with
 | true=>simp [EJ ha (h.ev a) (h1 rfl)]
 | false=>simp [EJ hb (h.ev b) (h2 rfl)]
def bnd(t:List (Nat×AV))(o:Option Operand)(d:Int):Option Int :=
 match o with
 | none=>some d
 | some y=>match ev t y with
  | .v (.int _ n)=>some n
  | _=>none
theorem lU{B:Nat->Prop}{F0:Nat->Prop}{w0:World}{F:Nat->Prop}{own:Nat->Own}{fp fs:Nat->List Nat}{a:Act}{w:World}(h:cD L B F0 w0 F own fp fs s a w){y:Operand}{d n:Int}(hb:bnd s.t (some y) d=some n):∃ k,a.eval y=.int k n:=by
 unfold bnd at hb
 simp only at hb
 split at hb
 ·rename_i k m hm
  cases hb
  exact ⟨k,h.val hm⟩
 ·cases hb
theorem Cx{t:TypeId}{x:Operand}{lo hi:Option Operand}{l:List UInt8}{i j:Int}(ho:o.op=.slice t x lo hi none)(ht:P.underlying t=some .string)(hx:ev s.t x=S l)(hlo:bnd s.t lo 0=some i)(hhi:bnd s.t hi l.length=some j)
  (h0:0<=i) (h1:i<=j) (h2:j<=l.length):LOp L P s o (S ((l.take j.toNat).drop i.toNat)) []:=by
 refine sU fun B F0 w0 F own fp fs a w h=>⟨?_,by have:=(h.uw hx).2;simp;omega⟩
 have hsz:(ByteArray.mk l.toArray).size=l.length:=by simp [ByteArray.size]
 have cl:(ByteArray.mk l.toArray).extract i.toNat j.toNat=⟨((l.take j.toNat).drop i.toNat).toArray⟩:=by
  apply WideShapes.bytes_inj
  rw [ByteArray.data_extract]
  simp [List.extract_eq_take_drop,List.drop_take]
 have hv:=(h.uw hx).1
 have ht':=run_underlying ht w
 have hr:(Instr.sliceAt t (.string ⟨l.toArray⟩) (lo.map a.eval) (hi.map a.eval) none).run P w=.ok (.string ⟨((l.take j.toNat).drop i.toNat).toArray⟩) w:=by
  rw [<- cl,run_sliceAt_string w t _ _ _ _ ht]
  have hjn:((j.toNat:Nat):Int)=j:=by omega
  have e1:0<=j/\j<=(l.length:Int):=by omega
  cases lo with
  | none =>
   simp [bnd] at hlo
   subst hlo
   cases hi with
   | none =>
    simp [bnd] at hhi
    subst hhi
    simp [Instr.slice,ht',Instr.sliceBounds]
    have h3:=cl
    simp at h3
    exact h3.symm
   | some y =>
    obtain ⟨k,hk⟩:=lU h hhi
    simp [Instr.slice,ht',Instr.sliceBounds,Instr.sliceBound,hk,asIntOf,hsz,e1]
  | some z =>
   obtain ⟨k',hk'⟩:=lU h hlo
   cases hi with
   | none=>simp [bnd] at hhi;subst hhi;simp [Instr.slice,ht',Instr.sliceBounds,Instr.sliceBound,hk',asIntOf,hsz,h0,h1]
   | some y =>
    obtain ⟨k,hk⟩:=lU h hhi
    simp [Instr.slice,ht',Instr.sliceBounds,Instr.sliceBound,hk,hk',asIntOf,hsz,h0,h1,e1,hjn]
 simp only [execOp,ho,hv,Sem.run_bind,Option.map_none]
 rw [hr];rfl
theorem bT.split{F:Nat->Prop}{w:World}{sz:Nat}:∀ {l1 l2:List AV} {vs:List Value} {fp:List Nat},bT L F w sz (l1++l2) vs fp->∃ v1 v2 f1 f2,vs=v1++v2/\fp=f1++f2/\bT L F w sz l1 v1 f1/\bT L F w sz l2 v2 f2
 | [],l2,vs,fp,r=>⟨[],vs,[],fp,rfl,rfl,by simp [bT],r⟩
 | x::xs,l2,vs,fp,r=>by
  simp only [List.cons_append,bT] at r
  obtain ⟨y,vs',f1,f2,rfl,hsz,rfl,hx,hxs⟩:=r
  obtain ⟨v1,v2,g1,g2,rfl,rfl,h1,h2⟩:=bT.split hxs
  exact ⟨y.cells.toList++v1,v2,f1++g1,g2,by simp,by simp,by simp only [bT];exact ⟨y,v1,f1,g1,rfl,hsz,rfl,hx,h1⟩,h2⟩
theorem D7{t e:TypeId}{x:Operand}{lo hi:Option Operand}{sz bytes:Nat}{l:List AV}{i j:Int}(ho:o.op=.slice t x lo hi none)(ht:elm P t=some (e,sz,bytes))(hx:ev s.t x=.sl false sz l)(hlo:bnd s.t lo 0=some i)(hhi:bnd s.t hi l.length=some j)
  (h0:0<=i) (h1:i<=j) (h2:j<=l.length):LOp L P s o (.sl false sz ((l.take j.toNat).drop i.toNat)) []:=by
 obtain ⟨inf,hut,fu,rfl,rfl⟩:=jq ht
 refine LOp.gL fun B F0 w0 F own fp fs a w h=>?_
 have hr:=h.ev x
 rw [hx] at hr
 have hP:P.elem t=e:=by simp [Program.elem,hut]
 have hsz:(sizeOf (P.elem t)).run P w=.ok inf.size w:=by rw [hP];simp [sizeOf,typeInfo,fu]
 have hjn:((j.toNat:Nat):Int)=j:=by omega
 have run:∀ (q:Option Addr) (cap:Nat),l.length<=cap->(Instr.sliceAt t (.slice q l.length cap) (lo.map a.eval) (hi.map a.eval) none).run P w=.ok (sliced q i.toNat j.toNat cap inf.size) w:=by
  intro q cap hc
  have e1:0<=j/\j<=(cap:Int):=by omega
  rw [run_sliceAt_slice w t _ _ _ _ (jY hut),run_slice_any w t q l.length cap (jY hut)]
  cases lo with
  | none =>
   simp [bnd] at hlo
   subst hlo
   cases hi with
   | none=>simp [bnd] at hhi;subst hhi;simp [Instr.sliceBounds,hsz]
   | some y =>
    obtain ⟨k,hk⟩:=lU h hhi
    simp [Instr.sliceBounds,Instr.sliceBound,hk,asIntOf,e1,hsz]
  | some z =>
   obtain ⟨k',hk'⟩:=lU h hlo
   cases hi with
   | none=>simp [bnd] at hhi;subst hhi;simp [Instr.sliceBounds,Instr.sliceBound,hk',asIntOf,h0,h1,hsz]
   | some y =>
    obtain ⟨k,hk⟩:=lU h hhi
    simp [Instr.sliceBounds,Instr.sliceBound,hk,hk',asIntOf,h0,h1,e1,hjn,hsz]
 have hlen:((l.take j.toNat).drop i.toNat).length=j.toNat - i.toNat:=by simp;omega
 simp only [Rep] at hr
 rcases hr with ⟨hv|⟨_,aa,hv⟩,rfl,_⟩|⟨b,off,cap,vals,fp',hv,hlc,hlL,hrow,hE,hF⟩
 ·have hi0:i=0:=by simp at h2;omega
  have hj0:j=0:=by simp at h2;omega
  subst hi0 hj0
  refine ⟨.slice none 0 0,?_,by simp [Rep]⟩
  have:=run none 0 (by simp)
  simp only [List.length_nil] at this
  simp only [execOp,ho,hv,Sem.run_bind,Option.map_none]
  rw [this];simp [sliced]
 ·have hi0:i=0:=by simp at h2;omega
  have hj0:j=0:=by simp at h2;omega
  subst hi0 hj0
  refine ⟨sliced (some aa) 0 0 0 inf.size,?_,by simp [Rep,sliced]⟩
  have:=run (some aa) 0 (by simp)
  simp only [List.length_nil] at this
  simp only [execOp,ho,hv,Sem.run_bind,Option.map_none]
  rw [this];rfl
 ·rcases hF with ⟨hF,_⟩|⟨_,hF,rfl,_⟩
  ·cases hF
  ·refine ⟨sliced (some ⟨b,off,none⟩) i.toNat j.toNat cap inf.size,?_,?_⟩
   ·simp only [execOp,ho,hv,Sem.run_bind,Option.map_none]
    rw [run _ cap hlc];rfl
   ·have e1:l=l.take i.toNat++((l.take j.toNat).drop i.toNat++l.drop j.toNat):=by
     have h3:l.take j.toNat=l.take i.toNat++(l.take j.toNat).drop i.toNat:=by
      have:=List.take_append_drop i.toNat (l.take j.toNat)
      rw [List.take_take,Nat.min_eq_left (by omega)] at this
      exact this.symm
     rw [<- List.append_assoc,<- h3,List.take_append_drop]
    rw [e1] at hE
    obtain ⟨v1,v23,f1,f23,rfl,hf,r1,r23⟩:=hE.split
    obtain ⟨v2,v3,f2,f3,rfl,hf2,r2,r3⟩:=r23.split
    have hnil:f1++f23=[]:=hf.symm
    simp only [List.append_eq_nil_iff] at hnil
    obtain ⟨rfl,rfl⟩:=hnil
    have NV:f2++f3=[]:=hf2.symm
    simp only [List.append_eq_nil_iff] at NV
    obtain ⟨rfl,rfl⟩:=NV
    have hl1:=r1.len
    have hl2:=r2.len
    simp only [List.length_take] at hl1
    rw [Nat.min_eq_left (by omega)] at hl1
    simp only [Rep]
    by_cases hc:cap=i.toNat
    ·refine .inr ⟨b,off,0,[],[],?_,by omega,by omega,?_,?_,.inr ⟨by trivial,hF,rfl,by trivial⟩⟩
     ·simp only [sliced,hc,if_true,hlen];congr 1;omega
     ·obtain ⟨c,Ty,z,hc',_⟩:=hrow
      exact ⟨c,Ty,z,hc',by simp⟩
     ·have:(l.take j.toNat).drop i.toNat=[]:=List.eq_nil_of_length_eq_zero (by omega)
      rw [this];simp [bT]
    ·refine .inr ⟨b,off+i.toNat * inf.size,cap - i.toNat,v2,[],?_,by omega,by omega,?_,r2,.inr ⟨by trivial,hF,rfl,by trivial⟩⟩
     ·simp only [sliced,if_neg hc,Option.map_some,fO,hlen]
     ·have:=hrow.cut (i.toNat * inf.size) v2.length
      rw [<- hl1,List.drop_left,List.take_left] at this
      rw [<- hl1];exact this
theorem Cy{t e:TypeId}{x:Operand}{lo hi:Option Operand}{sz bytes:Nat}{l:List AV}{i j:Int}(ho:o.op=.slice t x lo hi none)(ht:elm P t=some (e,sz,bytes))(hx:ev s.t x=.sl true sz l)(hlo:bnd s.t lo 0=some i)(hhi:bnd s.t hi l.length=some j)
  (h0:0<=i) (h1:i<=j) (h2:j<=l.length):LOp L P s o (.slo sz ((l.take j.toNat).drop i.toNat)) (kills s.t [x]):=by
 obtain ⟨inf,hut,fu,rfl,rfl⟩:=jq ht
 refine LOp.of_run fun B F0 w0 F own fp fs a w h=>?_
 have hnd:=lp h x
 have hkl:=fV h (x:=x) (xs:=[x]) (by simp)
 have hr:=h.ev x
 rw [hx] at hr
 have hP:P.elem t=e:=by simp [Program.elem,hut]
 have hsz:(sizeOf (P.elem t)).run P w=.ok inf.size w:=by rw [hP];simp [sizeOf,typeInfo,fu]
 have hjn:((j.toNat:Nat):Int)=j:=by omega
 have run:∀ (q:Option Addr) (cap:Nat),l.length<=cap->(Instr.sliceAt t (.slice q l.length cap) (lo.map a.eval) (hi.map a.eval) none).run P w=.ok (sliced q i.toNat j.toNat cap inf.size) w:=by
  intro q cap hc
  have e1:0<=j/\j<=(cap:Int):=by omega
  rw [run_sliceAt_slice w t _ _ _ _ (jY hut),run_slice_any w t q l.length cap (jY hut)]
  cases lo with
  | none =>
   simp [bnd] at hlo
   subst hlo
   cases hi with
   | none=>simp [bnd] at hhi;subst hhi;simp [Instr.sliceBounds,hsz]
   | some y =>
    obtain ⟨k,hk⟩:=lU h hhi
    simp [Instr.sliceBounds,Instr.sliceBound,hk,asIntOf,e1,hsz]
  | some z =>
   obtain ⟨k',hk'⟩:=lU h hlo
   cases hi with
   | none=>simp [bnd] at hhi;subst hhi;simp [Instr.sliceBounds,Instr.sliceBound,hk',asIntOf,h0,h1,hsz]
   | some y =>
    obtain ⟨k,hk⟩:=lU h hhi
    simp [Instr.sliceBounds,Instr.sliceBound,hk,hk',asIntOf,h0,h1,e1,hjn,hsz]
 have hlen:((l.take j.toNat).drop i.toNat).length=j.toNat - i.toNat:=by simp;omega
 simp only [Rep] at hr
 rcases hr with ⟨hv|⟨hF,_⟩,rfl,_⟩|⟨b,off,cap,vals,fp',hv,hlc,hlL,hrow,hE,hF⟩
 ·have hi0:i=0:=by simp at h2;omega
  have hj0:j=0:=by simp at h2;omega
  subst hi0 hj0
  refine ⟨.slice none 0 0,[],?_,by simp [Rep],by simp,by simp⟩
  have:=run none 0 (by simp)
  simp only [List.length_nil] at this
  simp only [execOp,ho,hv,Sem.run_bind,Option.map_none]
  rw [this];simp [sliced]
 ·cases hF
 ·rcases hF with ⟨_,hfp,rfl,gX⟩|⟨hF,_⟩
  ·have e1:l=l.take i.toNat++((l.take j.toNat).drop i.toNat++l.drop j.toNat):=by
    have h3:l.take j.toNat=l.take i.toNat++(l.take j.toNat).drop i.toNat:=by
     have:=List.take_append_drop i.toNat (l.take j.toNat)
     rw [List.take_take,Nat.min_eq_left (by omega)] at this
     exact this.symm
    rw [<- List.append_assoc,<- h3,List.take_append_drop]
   rw [e1] at hE
   obtain ⟨v1,v23,f1,f23,rfl,hf,r1,r23⟩:=hE.split
   obtain ⟨v2,v3,f2,f3,rfl,hf2,r2,r3⟩:=r23.split
   have hsub:∀ q,q∈b::f2->q∈fpo fp x:=by
    intro q hq
    rw [hfp,hf,hf2]
    rcases List.mem_cons.1 hq with rfl|hq
    ·simp
    ·simp [hq]
   have hn2:(b::f2).Nodup:=by
    rw [hfp,hf,hf2] at hnd
    refine hnd.sublist (List.Sublist.cons_cons _ ?_)
    exact (List.sublist_append_left f2 f3).trans (List.sublist_append_right f1 _)
   have hl1:=r1.len
   simp only [List.length_take] at hl1
   rw [Nat.min_eq_left (by omega)] at hl1
   by_cases hc:cap=i.toNat
   ·refine ⟨sliced (some ⟨b,0,none⟩) i.toNat j.toNat cap inf.size,b::f2,?_,?_,hn2,fun q hq=>hkl q (hsub q hq)⟩
    ·simp only [execOp,ho,hv,Sem.run_bind,Option.map_none]
     rw [run _ cap hlc];rfl
    ·have e2:(l.take j.toNat).drop i.toNat=[]:=List.eq_nil_of_length_eq_zero (by omega)
     rw [e2] at r2
     simp only [bT] at r2
     obtain ⟨rfl,rfl⟩:=r2
     rw [e2]
     simp only [Rep]
     refine .inr ⟨b,0,0,[],[],?_,by simp,by simp,?_,by simp [bT],rfl,?_⟩
     ·simp only [sliced,hc,if_true,List.length_nil];congr 1<;>omega
     ·obtain ⟨c,Ty,z,hc',_⟩:=hrow
      exact ⟨c,Ty,z,hc',by simp⟩
     ·obtain ⟨c,T,hc',_⟩:=gX
      exact ⟨c,T,hc',by simp⟩
   ·refine ⟨sliced (some ⟨b,0,none⟩) i.toNat j.toNat cap inf.size,b::f2,?_,?_,hn2,fun q hq=>hkl q (hsub q hq)⟩
    ·simp only [execOp,ho,hv,Sem.run_bind,Option.map_none]
     rw [run _ cap hlc];rfl
    ·simp only [Rep]
     refine .inr ⟨b,0+i.toNat * inf.size,cap - i.toNat,v2,f2,?_,by omega,by omega,?_,r2,rfl,?_⟩
     ·simp only [sliced,if_neg hc,Option.map_some,fO,hlen]
     ·have:=hrow.cut (i.toNat * inf.size) v2.length
      rw [<- hl1,List.drop_left,List.take_left] at this
      rw [<- hl1];exact this
     ·obtain ⟨c,T,hc',ZM⟩:=gX
      refine ⟨c,T,hc',?_⟩
      have:i.toNat * inf.size+(cap - i.toNat) * inf.size=cap * inf.size:=by
       rw [<- Nat.add_mul];congr 1;omega
      omega
  ·cases hF
def dQ(l:List UInt8):List AV:=l.map fun c=>.v (.int .u8 c.toNat)
theorem tK{F:Nat->Prop}{w:World}:∀ {l:List UInt8} {vals:List Value} {f:List Nat},aq L F w (dQ l) vals f->vals=l.map fun c=>Value.int .u8 c.toNat
 | [],vals,f,hl=>by simp [dQ,aq] at hl;simp [hl.1]
 | c::l,vals,f,hl=>by
  simp only [dQ,List.map_cons,aq] at hl
  obtain ⟨y,vs',f1,f2,rfl,rfl,hy,hl'⟩:=hl
  simp only [Rep] at hy
  rw [hy.1,tK hl'];simp
theorem Az{src dst e:TypeId}{x:Operand}{b:Nat}{l:List UInt8}(ho:o.op=.convert src dst x)(hs:P.underlying src=some (.slice e))(he:P.underlying e=some (.int .u8))(hd:P.underlying dst=some .string)
  (hx:ev s.t x=.arr b 0 l.length 1) (hO:O s.o b=some (dQ l)) (hlen:l.length<=4611686018427387904):LOp L P s o (S l) []:=by
 refine sU fun B F0 w0 F own fp fs a w h=>⟨?_,hlen⟩
 have hr:=h.ev x
 rw [hx] at hr
 simp only [Rep] at hr
 obtain ⟨_,cap,hv,_⟩:=hr
 obtain ⟨vals,f,hrow,hl,_⟩:=h.row hO 0
 simp only [List.drop_zero] at hl
 have zA:=tK hl
 subst zA
 have hrun:=run_convert_bytes_back (P:=P) w src dst e ⟨b,0,none⟩ cap l hs he hd (fun j hj=>by
  rw [fO];exact hrow.cell (by simp [List.getElem?_eq_getElem hj]))
 simp only [execOp,ho,hv,Sem.run_bind,hrun];rfl
def unb:List AV->Option (List UInt8)
 | []=>some []
 | .v (.int .u8 n)::l=>if 0<=n/\n<=255 then (unb l).map (UInt8.ofNat n.toNat::·) else none
 | _=>none
theorem Bv:∀ l:List UInt8,unb (dQ l)=some l
 | []=>rfl
 | c::l=>by
  have h1:c.toNat<256:=c.toNat_lt
  have ih:=Bv l
  simp only [dQ] at ih
  simp only [dQ,List.map_cons,unb,Int.toNat_natCast,ih,Option.map_some,UInt8.ofNat_toNat]
  rw [if_pos (by omega)]
theorem F9:∀ {l:List AV} {bs:List UInt8},unb l=some bs->l=dQ bs
 | [],bs,h=>by simp [unb] at h;subst h;rfl
 | x::l,bs,h=>by
  unfold unb at h
  split at h
  ·rename_i e;cases e
  ·rename_i n l' e
   cases e
   split at h
   ·rename_i hn
    cases hl:unb l with
    | none=>rw [hl] at h;cases h
    | some bs' =>
     rw [hl] at h
     simp at h
     subst h
     rw [F9 hl]
     have:((UInt8.ofNat n.toNat).toNat:Int)=n:=by
      rw [UInt8.toNat_ofNat'];omega
     simp only [dQ,List.map_cons,this]
   ·cases h
  ·cases h
theorem Cw{src dst e:TypeId}{x:Operand}{own':Bool}{l:List UInt8}(ho:o.op=.convert src dst x)(hs:P.underlying src=some (.slice e))(he:P.underlying e=some (.int .u8))(hd:P.underlying dst=some .string)
  (hx:ev s.t x=.sl own' 1 (dQ l)) (hlen:l.length<=4611686018427387904):LOp L P s o (S l) []:=by
 refine sU fun B F0 w0 F own fp fs a w h=>⟨?_,hlen⟩
 have hr:=h.ev x
 rw [hx] at hr
 simp only [Rep] at hr
 have hfl:(dQ l).flatMap AV.cells=dQ l:=by
  clear hx hr hlen
  induction l with
  | nil=>rfl
  | cons c l ih =>
   simp only [dQ,List.map_cons,List.flatMap_cons] at ih ⊢
   rw [ih];rfl
 have hel:∀ z,z∈dQ l->z.elem 1=true:=by
  intro z hz
  simp only [dQ,List.mem_map] at hz
  obtain ⟨c,_,rfl⟩:=hz
  rfl
 rcases hr with ⟨hv,hl,_⟩|⟨b,off,cap,vals,fp',hv,_,_,hrow,hE,_⟩
 ·have:l=[]:=by cases l with|nil=>rfl|cons c l=>simp [dQ] at hl
  subst this
  rcases hv with hv|⟨_,aa,hv⟩
  ·have hrun:=run_convert_bytes_string (P:=P) w src dst e none 0 0 hs he hd
   have h0:(Conv.bytesToString (.slice none 0 0)).run P w=.ok (.string ⟨#[]⟩) w:=by
    unfold Conv.bytesToString
    rfl
   rw [h0] at hrun
   simp only [execOp,ho,hv,Sem.run_bind,hrun];rfl
  ·have hrun:=run_convert_bytes_back (P:=P) w src dst e aa 0 [] hs he hd (fun j hj=>by simp at hj)
   simp only [List.length_nil] at hrun
   simp only [execOp,ho,hv,Sem.run_bind,hrun];rfl
 ·have hl:=hE.flat hel
  rw [hfl] at hl
  have zA:=tK hl
  subst zA
  have hrun:=run_convert_bytes_back (P:=P) w src dst e ⟨b,off,none⟩ cap l hs he hd (fun j hj=>by
   rw [fO];exact hrow.cell (by simp [List.getElem?_eq_getElem hj]))
  have hll:(dQ l).length=l.length:=by simp [dQ]
  rw [hll] at hv
  simp only [execOp,ho,hv,Sem.run_bind,hrun];rfl
theorem Eb{src dst:TypeId}{x:Operand}{k k':IntKind}{n:Int}{d:TypeDesc}(ho:o.op=.convert src dst x)(hs:P.underlying src=some d)(hd:P.underlying dst=some (.int k))(hx:ev s.t x=.v (.int k' n)):LOp L P s o (.v (.int k (k.wrap n))) []:=by
 refine jm fun B F0 w0 F own fp fs a w h=>?_
 simp only [execOp,ho,h.val hx,Sem.run_bind,convert,run_underlying hs,run_underlying hd,Result.andThen_ok]
 simp [Conv.intToInt]
theorem Ea{f:FuncId}{cap:Array Operand}(ho:o.op=.makeFunc (.func f) #[] cap)(hn:AV.bL (cap.toList.map (ev s.t))=true):LOp L P s o (.fn f (cap.toList.map (ev s.t))) []:=by
 refine LOp.gL fun B F0 w0 F own fp fs a w h=>?_
 refine ⟨.func (.func f) #[] (cap.toList.map a.eval).toArray,?_,?_⟩
 ·have e:cap.map a.eval=(cap.toList.map a.eval).toArray:=by apply Array.ext';simp
  rw [<- e]
  simp [execOp,ho,Instr.makeFunc]
 ·simp only [Rep]
  exact ⟨_,rfl,aq.rG h _ hn⟩
theorem Ph{c:Call}{x y:Operand}{ts:Array TypeId}{k:IntKind}{m n:Int}(ho:o.op=.call c)(hc:c=⟨.builtin .min,#[x,y],ts⟩)(hx:ev s.t x=.v (.int k m))(hy:ev s.t y=.v (.int k n)):LOp L P s o (.v (.int k (if n<m then n else m))) []:=by
 subst hc
 refine jm fun B F0 w0 F own fp fs a w h=>?_
 simp [execOp,ho,resolve,invoke,builtin,h.val hx,h.val hy,Builtin.min_,Builtin.min2]
theorem Pj{c:Call}{x y:Operand}{ts:Array TypeId}{k:IntKind}{m n:Int}(ho:o.op=.call c)(hc:c=⟨.builtin .max,#[x,y],ts⟩)(hx:ev s.t x=.v (.int k m))(hy:ev s.t y=.v (.int k n)):LOp L P s o (.v (.int k (if n > m then n else m))) []:=by
 subst hc
 refine jm fun B F0 w0 F own fp fs a w h=>?_
 simp [execOp,ho,resolve,invoke,builtin,h.val hx,h.val hy,Builtin.max_,Builtin.max2]
end ops
end
section
def AV.unp:AV->AV
 | .pin _ x=>x
 | x=>x
def AV.nX:AV->AV->AV
 | .pin u _,x'=>.pin u x'
 | _,x'=>x'
def AV.det:AV->Bool
 | .v _=>true
 | .str _=>true
 | _=>false
def ny:List AV->Bool
 | []=>true
 | x::xs=>x.det && ny xs
def jl:List AV->List AV
 | []=>[]
 | x::xs=>x.unp::jl xs
def jT:List AV->List AV->List AV
 | x::xs,y::ys=>x.nX y::jT xs ys
 | _,_=>[]
def mkv(g:Bool)(vs:List Value):Value:=bif g then .agg vs.toArray else vs.headD undef
def jZ(g:Bool)(l:List AV):AV:=bif g then .agg l else l.headD .dead
section
variable {L : Nat -> Nat} {F : Nat -> Prop} {w : World}
theorem Rep.unp{x:AV}{y:Value}{fp:List Nat}(h:Rep L F w x y fp):Rep L F w x.unp y fp:=by
 cases x with
 | pin v x=>simp only [Rep] at h;exact h.2
 | _=>exact h
theorem Rep.yD{F':Nat->Prop}{w':World}{x:AV}{y y':Value}{fp fp':List Nat}(hd:x.hdr.det=true)(h:Rep L F w x y fp)(h':Rep L F' w' x.hdr y' fp'):y'=y:=by
 cases x with
 | pin v x=>simp only [Rep,AV.hdr] at h h';rw [h.1,h'.1]
 | v x=>simp only [Rep,AV.hdr] at h h';rw [h.1,h'.1]
 | str x=>simp only [Rep,AV.hdr] at h h';rw [h.1,h'.1]
 | _=>simp [AV.hdr,AV.det] at hd
theorem Rep.nX{F':Nat->Prop}{w':World}{x z:AV}{y:Value}{fp fp':List Nat}(h:Rep L F w x y fp)(h':Rep L F' w' z y fp'):Rep L F' w' (x.nX z) y fp':=by
 cases x with
 | pin v x=>simp only [Rep,AV.nX] at h ⊢;exact ⟨h.1,h'⟩
 | _=>exact h'
theorem aq.unp:∀ {l:List AV} {vs:List Value} {fp:List Nat},aq L F w l vs fp->aq L F w (jl l) vs fp
 | [],_,_,h=>h
 | x::xs,vs,fp,h=>by
  simp only [aq,jl] at h ⊢
  obtain ⟨y,vs',f1,f2,hv,hf,hx,hxs⟩:=h
  exact ⟨y,vs',f1,f2,hv,hf,hx.unp,hxs.unp⟩
theorem aq.yD{F':Nat->Prop}{w':World}:∀ {l:List AV} {vs vs':List Value} {fp fp':List Nat},ny (fC l)=true->aq L F w l vs fp->aq L F' w' (fC l) vs' fp'->vs'=vs
 | [],_,_,_,_,_,h,h'=>by simp only [aq,fC] at h h';rw [h.1,h'.1]
 | x::xs,vs,vs',fp,fp',hd,h,h'=>by
  simp only [fC,ny,Bool.and_eq_true] at hd
  simp only [aq,fC] at h h'
  obtain ⟨y,us,f1,f2,rfl,_,hx,hxs⟩:=h
  obtain ⟨y',us',g1,g2,rfl,_,hx',WC⟩:=h'
  rw [hx.yD hd.1 hx',aq.yD hd.2 hxs WC]
theorem aq.nX{F':Nat->Prop}{w':World}:∀ {l z:List AV} {vs:List Value} {fp fp':List Nat},aq L F w l vs fp->aq L F' w' z vs fp'->aq L F' w' (jT l z) vs fp'
 | [],z,vs,fp,fp',h,h'=>by
  simp only [aq] at h
  obtain ⟨rfl,_⟩:=h
  cases z with
  | nil=>simpa [jT] using h'
  | cons a z=>simp only [aq] at h';obtain ⟨y,vs',_,_,e,_⟩:=h';cases e
 | x::xs,z,vs,fp,fp',h,h'=>by
  simp only [aq] at h
  obtain ⟨y,us,f1,f2,rfl,_,hx,hxs⟩:=h
  cases z with
  | nil=>simp only [aq] at h';exact absurd h'.1 (by simp)
  | cons a z =>
   simp only [aq] at h'
   obtain ⟨y',us',g1,g2,e,rfl,ha,hz⟩:=h'
   cases e
   simp only [jT,aq]
   exact ⟨y,us,g1,g2,rfl,rfl,hx.nX ha,hxs.nX hz⟩
theorem sL{g:Bool}{x:List AV}{v:Value}{fp:List Nat}(hg:g=false->x.length=1)(h:Rep L F w (jZ g x) v fp):∃ vs,aq L F w x vs fp/\v=mkv g vs:=by
 cases g with
 | true =>
  simp only [jZ,cond_true,Rep] at h
  obtain ⟨vs,rfl,h⟩:=h
  exact ⟨vs,h,rfl⟩
 | false =>
  have:=hg rfl
  match x,this,h with
  | [x],_,h =>
   refine ⟨[v],?_,rfl⟩
   simp only [aq]
   exact ⟨v,[],fp,[],rfl,by simp,by simpa [jZ] using h,rfl,rfl⟩
theorem Fs{g:Bool}{x:List AV}{vs:List Value}{fp:List Nat}(hg:g=false->x.length=1)(h:aq L F w x vs fp):Rep L F w (jZ g x) (mkv g vs) fp:=by
 cases g with
 | true=>simp only [jZ,cond_true,Rep];exact ⟨vs,rfl,h⟩
 | false =>
  have:=hg rfl
  match x,this,h with
  | [x],_,h =>
   simp only [aq] at h
   obtain ⟨y,vs',f1,f2,rfl,rfl,hx,rfl,rfl⟩:=h
   simpa [jZ,mkv] using hx
theorem n9:∀ l:List AV,(fC l).length=l.length
 | []=>rfl
 | x::xs=>by simp [fC,n9 xs]
theorem qV:∀ l:List AV,(jl l).length=l.length
 | []=>rfl
 | x::xs=>by simp [jl,qV xs]
end
end
section
mutual
def AV.closed:AV->Bool
 | .sl o _ l=>o && AV.ck l
 | .vp _=>false
 | .agg l=>AV.ck l
 | .tup l=>AV.ck l
 | .fn _ l=>AV.ck l
 | .cnd _ x=>x.closed
 | .pin _ x=>x.closed
 | .slo _ l=>AV.ck l
 | _=>true
def AV.ck:List AV->Bool
 | []=>true
 | x::xs=>x.closed && AV.ck xs
end
mutual
theorem Rep.closed{L:Nat->Nat}{F G:Nat->Prop}{w:World}:∀ {x:AV} {y:Value} {fp:List Nat},x.closed=true->Rep L F w x y fp->Rep L G w x y fp
 | .dead,_,_,_,r=>by simpa [Rep] using r
 | .v _,_,_,_,r=>by simpa [Rep] using r
 | .str _,_,_,_,r=>by simpa [Rep] using r
 | .sl own sz l,y,fp,h,r=>by
  simp [AV.closed] at h
  simp only [Rep] at r ⊢
  rcases r with r|⟨b,off,cap,vals,fp',hy,h1,h2,hrow,he,ho⟩
  ·exact .inl r
  ·refine .inr ⟨b,off,cap,vals,fp',hy,h1,h2,hrow,bT.closed h.2 he,?_⟩
   rcases ho with ho|⟨e,_⟩
   ·exact .inl ho
   ·rw [h.1] at e;cases e
 | .vp _,_,_,h,_=>by simp [AV.closed] at h
 | .arr ..,_,_,_,r=>by simpa [Rep] using r
 | .ptr ..,_,_,_,r=>by simpa [Rep] using r
 | .agg l,y,fp,h,r=>by
  simp only [Rep] at r ⊢
  obtain ⟨vs,hy,hl⟩:=r
  exact ⟨vs,hy,aq.closed (by simpa [AV.closed] using h) hl⟩
 | .tup l,y,fp,h,r=>by
  simp only [Rep] at r ⊢
  obtain ⟨vs,hy,hl⟩:=r
  exact ⟨vs,hy,aq.closed (by simpa [AV.closed] using h) hl⟩
 | .fn f l,y,fp,h,r=>by
  simp only [Rep] at r ⊢
  obtain ⟨vs,hy,hl⟩:=r
  exact ⟨vs,hy,aq.closed (by simpa [AV.closed] using h) hl⟩
 | .cnd g x,y,fp,h,r=>by
  simp only [Rep] at r ⊢
  exact ⟨fun e=>Rep.closed (by simpa [AV.closed] using h) (r.1 e),r.2⟩
 | .pin v x,y,fp,h,r=>by
  simp only [Rep] at r ⊢
  exact ⟨r.1,Rep.closed (by simpa [AV.closed] using h) r.2⟩
 | .slo sz l,y,fp,h,r=>by
  simp [AV.closed] at h
  simp only [Rep] at r ⊢
  rcases r with r|⟨b,off,cap,vals,fp',hy,h1,h2,hrow,he,ho⟩
  ·exact .inl r
  ·exact .inr ⟨b,off,cap,vals,fp',hy,h1,h2,hrow,bT.closed h he,ho⟩
theorem aq.closed{L:Nat->Nat}{F G:Nat->Prop}{w:World}:∀ {l:List AV} {vs:List Value} {fp:List Nat},AV.ck l=true->aq L F w l vs fp->aq L G w l vs fp
 | [],_,_,_,r=>by simpa [aq] using r
 | x::xs,vs,fp,h,r=>by
  simp [AV.ck] at h
  simp only [aq] at r ⊢
  obtain ⟨y,vs',f1,f2,hv,rfl,hx,hxs⟩:=r
  exact ⟨y,vs',f1,f2,hv,rfl,Rep.closed h.1 hx,aq.closed h.2 hxs⟩
theorem bT.closed{L:Nat->Nat}{F G:Nat->Prop}{w:World}{sz:Nat}:∀ {l:List AV} {vs:List Value} {fp:List Nat},AV.ck l=true->bT L F w sz l vs fp->bT L G w sz l vs fp
 | [],_,_,_,r=>by simpa [bT] using r
 | x::xs,vs,fp,h,r=>by
  simp [AV.ck] at h
  simp only [bT] at r ⊢
  obtain ⟨y,vs',f1,f2,hv,hsz,rfl,hx,hxs⟩:=r
  exact ⟨y,vs',f1,f2,hv,hsz,rfl,Rep.closed h.1 hx,bT.closed h.2 hxs⟩
end
def Low(os:List (Nat×Option (List AV)))(x y:AV):Prop :=
 (x.df=true/\y=x)\/(∃ b off len sz l cells,x=.arr b off len sz/\O os b=some cells/\y=.sl false sz l/\l.length=len/\l.flatMap AV.cells=AV.bZ ((cells.drop off).take (len * sz))/\(∀ z,z∈l->z.elem sz=true))\/y=x.frz \/
 (∃ g b pre px post,O os b=some (pre++(px++post))/\ny (fC px)=true/\(g=false->px.length=1)/\x=jZ g (fC px)/\y=jZ g (AV.bZ px))
inductive mD(os:List (Nat×Option (List AV))):List AV->List AV->Prop
 | nil:mD os [] []
 | cons {x y xs ys}:Low os x y->mD os xs ys->mD os (x::xs) (y::ys)
def sB(L:Nat->Nat)(P:Program)(os:List (Nat×Option (List AV)))(f:FuncId)(args:List AV)(res:AV):Prop :=
 enters P f=true/\((AV.bL args=true/\fM L P f args res)\/∃ args',mD os args args'/\res.closed=true/\fM L P f args' res)
theorem sB.pure{L:Nat->Nat}{P:Program}{os:List (Nat×Option (List AV))}{f:FuncId}{args:List AV}{res:AV}(he:enters P f=true)(hn:AV.bL args=true)(h:fM L P f args res):sB L P os f args res:=⟨he,.inl ⟨hn,h⟩⟩
section
variable {L : Nat -> Nat} {P : Program} {s : AS} {o : Oper}
theorem Pf{B:Nat->Prop}{F0:Nat->Prop}{w0:World}{F:Nat->Prop}{own:Nat->Own}{fp fs:Nat->List Nat}{a:Act}{w:World}(h:cD L B F0 w0 F own fp fs s a w){x y:AV}{v:Value}{f:List Nat}(hl:Low s.o x y)(hr:Rep L F w x v f)(hf:∀ b,b∈f->b<w.heap.size) :
  Rep L (fun b=>b<w.heap.size) w y v []:=by
 have hFl:∀ b,F b->b<w.heap.size:=fun b hb=>(h.fl b hb).2.1
 have hid:Ext (fun _=>True) w w:=⟨Nat.le_refl _,fun _ _=>rfl,fun b c T z hc=>⟨c,hc,rfl⟩⟩
 rcases hl with ⟨hn,rfl⟩|⟨b,off,len,sz,l,cells,rfl,hO,rfl,hlen,hfl,hel⟩|rfl|⟨g,b,pre,px,post,hO,hdt,hg,rfl,rfl⟩
 ·rw [Rep.dP hn hr] at hr
  exact Rep.ext hid (fun b hb=>⟨hFl b hb,trivial⟩) (by simp) hr
 ·simp only [Rep] at hr
  obtain ⟨_,cap,hv,hlc,hlL,gX⟩:=hr
  obtain ⟨vals,f',hrow,hl',hsub⟩:=h.row hO off
  obtain ⟨f2,hl2,TU⟩:=hl'.cut 0 (len * sz)
  simp only [List.drop_zero] at hl2
  obtain ⟨hkey,_,dW,_⟩:=h.obj b cells hO
  have hb:=(h.ol b (by rw [hkey];simp)).2
  have hfz:=aq.frz (F':=fun b=>b<w.heap.size) hFl (fun k hk=>(h.ol k (by rw [dW k (hsub k (TU k hk))];simp)).2) hl2
  simp only [Rep]
  refine .inr ⟨b,off,cap,vals.take (len * sz),[],by rw [hlen];exact hv,by omega,by omega,?_,?_,.inr ⟨by trivial,hb,rfl,by trivial⟩⟩
  ·have:=hrow.cut 0 (len * sz);simpa using this
  ·refine aq.kX hel ?_
   rw [hfl];exact hfz
 ·exact Rep.frz hFl hf hr
 ·obtain ⟨hkey,iO,dW,c,Ty,vals,rst,hc,hcl,hl⟩:=h.obj b _ hO
  obtain ⟨v1,v23,f1,f23,rfl,hfs,r1,r23⟩:=hl.split
  obtain ⟨vs,v3,fx,f3,rfl,rfl,r2,r3⟩:=r23.split
  obtain ⟨vs',EB,rfl⟩:=sL (x:=fC px) (fun e=>by rw [n9];exact hg e) hr
  have e0:vs'=vs:=aq.yD hdt r2 EB
  subst e0
  refine Fs (fun e=>by rw [AV.pO,List.length_map];exact hg e) (aq.frz hFl (fun k hk=>?_) r2)
  exact (h.ol k (by rw [dW k (by rw [hfs];simp [hk])];simp)).2
theorem D4{B:Nat->Prop}{F0:Nat->Prop}{w0:World}{F:Nat->Prop}{own:Nat->Own}{fp fs:Nat->List Nat}{a:Act}{w:World}(h:cD L B F0 w0 F own fp fs s a w):∀ {xs ys:List AV} {vs:List Value} {f:List Nat},mD s.o xs ys->aq L F w xs vs f->(∀ b,b∈f->b<w.heap.size) ->
  aq L (fun b=>b<w.heap.size) w ys vs []
 | _,_,_,_,.nil,r,_=>by simp only [aq] at r ⊢;exact ⟨r.1,by trivial⟩
 | _,_,_,_,.cons hx hxs,r,hf=>by
  simp only [aq] at r ⊢
  obtain ⟨y,vs',f1,f2,hv,rfl,h1,h2⟩:=r
  exact ⟨y,vs',[],[],hv,rfl,Pf h hx h1 (fun b hb=>hf b (by simp [hb])),D4 h hxs h2 (fun b hb=>hf b (by simp [hb]))⟩
theorem aq.GG{B:Nat->Prop}{F0:Nat->Prop}{w0:World}{F:Nat->Prop}{own:Nat->Own}{fp fs:Nat->List Nat}{a:Act}{w:World}(h:cD L B F0 w0 F own fp fs s a w) :
  ∀ xs:List Operand,∃ f,aq L F w (xs.map (ev s.t)) (xs.map a.eval) f/\∀ b,b∈f->b<w.heap.size
 | []=>⟨[],by simp [aq],by simp⟩
 | x::xs=>by
  obtain ⟨f,h1,h2⟩:=aq.GG h xs
  refine ⟨fpo fp x++f,?_,fun b hb=>?_⟩
  ·simp only [List.map_cons,aq]
   exact ⟨_,_,fpo fp x,f,rfl,rfl,h.ev x,h1⟩
  ·rcases List.mem_append.1 hb with hb|hb
   ·obtain ⟨i,_,hi⟩:=fV h (xs:=[x]) (by simp) b hb
    exact (h.ig hi).2
   ·exact h2 b hb
def fnA:AV->Option (FuncId×List AV)
 | .fn f caps=>some (f,caps)
 | .v (.func (.func f) first cap)=>if first.size=0/\cap.size=0 then some (f,[]) else none
 | _=>none
theorem qB{c:Call}{y:Operand}{xs:Array Operand}{ts:Array TypeId}{f:FuncId}{caps:List AV}{res:AV}(ho:o.op=.call c)(hc:c=⟨.value y,xs,ts⟩)(hy:fnA (ev s.t y)=some (f,caps))
  (hcn:AV.bL caps=true) (hcall:sB L P s.o f (xs.toList.map (ev s.t)++caps) res):LOp L P s o res []:=by
 subst hc
 intro B F0 w0 F own fp fs a w next Q h bI
 have hry:=h.ev y
 obtain ⟨cvs,hyv,hcr⟩:∃ cvs:List Value,a.eval y=.func (.func f) #[] cvs.toArray/\aq L F w caps cvs []:=by
  generalize ev s.t y=z at hy hry
  unfold fnA at hy
  split at hy
  ·cases hy
   simp only [Rep] at hry
   obtain ⟨vs,e,hl⟩:=hry
   rw [aq.dP hcn hl] at hl
   exact ⟨vs,e,hl⟩
  ·split at hy
   ·rename_i first cap hsz
    cases hy
    simp only [Rep] at hry
    have e1:first=#[]:=Array.eq_empty_of_size_eq_zero hsz.1
    have e2:cap=#[]:=Array.eq_empty_of_size_eq_zero hsz.2
    exact ⟨[],by rw [hry.1,e1,e2],by simp [aq]⟩
   ·cases hy
  ·cases hy
 obtain ⟨he,Uc⟩:=hcall
 have hex:(execOp a.eval o).run P w=.ok (.enter f (xs.toList.map a.eval++cvs).toArray) w:=by
  have:=tv he (xs.toList.map a.eval++cvs).toArray w
  have e:xs.map a.eval++cvs.toArray=(xs.toList.map a.eval++cvs).toArray:=by apply Array.ext';simp
  rw [<- e] at this ⊢
  simp only [execOp,ho,resolve,Sem.run_bind,hyv,Deferred.ofValue,Sem.run_pure,Result.andThen_ok,invoke,Array.empty_append]
  exact this
 unfold Oper.wp
 rw [hex]
 have hl:∀ b,F b->b<w.heap.size:=fun b hb=>(h.fl b hb).2.1
 obtain ⟨f',hargs,hf'⟩:=aq.GG h xs.toList
 rcases Uc with ⟨hn,hp⟩|⟨args',hlow,hcl,hp⟩
 ·have hall:=aq.join hargs hcr
  rw [aq.dP hn hall] at hall
  refine (hp w F _ hl (h.tb.kp h.below h.hB) hall).mono ?_
  rintro e w' ⟨v,F',fp',rfl,h1,h2,h3,h4,h5,h6⟩
  refine bI v w' ⟨Kp.ld h1,F',fp',h2,fun b hb=>?_,h4,h5,fun b hb=>⟨(h6 b hb).1,.inr (h6 b hb).2⟩⟩
  rcases h3 b hb with e|e
  ·exact .inl e
  ·exact .inr (.inl e)
 ·have hall:=D4 h hlow (aq.join hargs hcr) (by simpa using hf')
  refine (hp w (fun b=>b<w.heap.size) _ (fun _ h=>h) (h.tb.kp h.below h.hB) hall).mono ?_
  rintro e w' ⟨v,F',fp',rfl,h1,h2,h3,h4,h5,h6⟩
  refine bI v w' ⟨Kp.ld h1,F,fp',fun _ h=>h,fun b hb=>.inl hb,Rep.closed hcl h4,h5,fun b hb=>⟨fun hF=>?_,.inr (h6 b hb).2⟩⟩
  have:=hl b hF
  have:=(h6 b hb).2.1
  omega
end
end
end Go.Ab
namespace Go.Ab
section ops
variable {L : Nat -> Nat} {P : Program} {s : AS} {o : Oper}
def ael(P:Program)(t:TypeId):Option (Nat×Nat) :=
 match P.underlying t with
 | some (.array n e)=>match P.info? e with
  | some i=>some (n,i.size)
  | none=>none
 | _=>none
theorem Bt{t:TypeId}{m sz:Nat}(h:ael P t=some (m,sz)):∃ e i,P.underlying t=some (.array m e)/\P.info? e=some i/\i.size=sz:=by
 unfold ael at h
 split at h
 ·rename_i n e he
  split at h
  ·rename_i i hi
   simp at h
   obtain ⟨rfl,rfl⟩:=h
   exact ⟨e,i,he,hi,rfl⟩
  ·cases h
 ·cases h
theorem wV{x i:Operand}{t:TypeId}{sz b off m:Nat}{k:IntKind}{n:Int}(ho:o.op=.indexAddr t x i)(hx:ev s.t x=.ptr b off)
  (hi:ev s.t i=.v (.int k n)) (ht:ael P t=some (m,sz)) (h0:0<=n) (hy:n<m):LOp L P s o (.ptr b (off+n.toNat * sz)) []:=by
 obtain ⟨e,inf,hu,fu,hsz⟩:=Bt ht
 refine LOp.gL fun B F0 w0 F own fp fs a w h=>?_
 have hr:=h.ev x
 rw [hx] at hr
 simp only [Rep] at hr
 have hP:P.elem t=e:=by simp [Program.elem,hu]
 have hA:P.arrayLen t=m:=by simp [Program.arrayLen,hu]
 refine ⟨.pointer (some ⟨b,off+n.toNat * sz,none⟩),?_,by simp [Rep]⟩
 simp only [execOp,ho,hr.1,h.val hi,Sem.run_bind,run_indexAt_array w t _ k n (by rw [hP,hA];exact hu)]
 rw [hA,if_pos ⟨h0,hy⟩]
 simp [hP,sizeOf,typeInfo,fu,hsz,fO]
theorem xV{x i:Operand}{t:TypeId}{sz m:Nat}{cells:List AV}{k:IntKind}{n:Int}(ho:o.op=.indexAddr t x i)(hx:ev s.t x=.vp cells)
  (hi:ev s.t i=.v (.int k n)) (ht:ael P t=some (m,sz)) (h0:0<=n) (hy:n<m):LOp L P s o (.vp (cells.drop (n.toNat * sz))) []:=by
 obtain ⟨e,inf,hu,fu,hsz⟩:=Bt ht
 refine LOp.gL fun B F0 w0 F own fp fs' a w h=>?_
 have hr:=h.ev x
 rw [hx] at hr
 simp only [Rep] at hr
 obtain ⟨_,b,o',vals,hv,hb,hrow,hl⟩:=hr
 have hP:P.elem t=e:=by simp [Program.elem,hu]
 have hA:P.arrayLen t=m:=by simp [Program.arrayLen,hu]
 refine ⟨.pointer (some ⟨b,o'+n.toNat * sz,none⟩),?_,?_⟩
 ·simp only [execOp,ho,hv,h.val hi,Sem.run_bind,run_indexAt_array w t _ k n (by rw [hP,hA];exact hu)]
  rw [hA,if_pos ⟨h0,hy⟩]
  simp [hP,sizeOf,typeInfo,fu,hsz,fO]
 ·simp only [Rep]
  refine ⟨trivial,b,_,vals.drop (n.toNat * sz),rfl,hb,?_,?_⟩
  ·have:=hrow.cut (n.toNat * sz) vals.length
   rw [List.take_of_length_le (by simp)] at this
   exact this
  ·obtain ⟨f',h1,h2⟩:=hl.cut (n.toNat * sz) (cells.length+vals.length)
   rw [List.take_of_length_le (by simp;omega),List.take_of_length_le (by simp;omega)] at h1
   have:f'=[]:=List.eq_nil_iff_forall_not_mem.2 fun b hb=>by simpa using h2 b hb
   rw [this] at h1;exact h1
theorem Ic{t:TypeId}{parts:Array (Nat×Operand)}{m sz:Nat}{zs:List Value}(ho:o.op=.build t parts)(hp:parts.toList=[])(ht:ael P t=some (m,sz))(hz:zer P t=some zs):LOp L P s o (.agg (zs.map avz)) []:=by
 obtain ⟨e,inf,hu,fu,hsz⟩:=Bt ht
 obtain ⟨z,hzc,hzr⟩:=vW hz
 have hp':parts=#[]:=by apply Array.ext';simpa using hp
 subst hp'
 refine LOp.gL fun B F0 w0 F own fp fs a w h=>?_
 refine ⟨.agg z.cells,?_,?_⟩
 ·simp [execOp,ho,Instr.build,hzr,run_underlying hu,sizeOf,typeInfo,fu,Instr.fill]
 ·simp only [Rep]
  exact ⟨zs,by rw [<- hzc],aq.plain zs⟩
end ops
end Go.Ab
namespace Go.Ab
open Go.RowKit (Below)
section
theorem Ft{P:Program}{w:World}{t u tyr e:TypeId}{i:TypeInfo}{x:Value}(ht:P.underlying t=some (.slice e))(hi:P.info? e=some i)(hs:Src P w i.size u x 0 []) :
  (Builtin.append_ #[t,u] tyr #[.slice none 0 0,x]).run P w=.ok (.slice none 0 0) w:=by
 have hf:=hs.first w rfl
 rcases hs.ty with ⟨e',hu⟩|hu<;>simp [Builtin.append_,run_underlying ht,run_underlying hu,sizeOf,typeInfo,hi,hs.len,hf]
def oJ(sz:Nat):AV->Option (List AV)
 | .sl _ z l=>bif z == sz then some l else none
 | .v (.slice none 0 0)=>some []
 | .str l=>bif sz == 1 then some (dQ l) else none
 | _=>none
theorem om{os:List (Nat×Option (List AV))}{sz:Nat}{x:AV}{l:List AV}(h:oJ sz x=some l)(hel:∀ z,z∈l->z.elem sz=true):gP os sz x=some (l.length,l.flatMap AV.cells):=by
 cases x with
 | sl o z m =>
  simp only [oJ] at h
  cases hz:(z == sz) with
  | false=>rw [hz] at h;cases h
  | true =>
   rw [hz] at h;cases h
   have:(l.all (AV.elem sz))=true:=by simpa [List.all_eq_true] using hel
   simp [gP,hz,this]
 | v y =>
  unfold oJ at h
  split at h
  ·rename_i e;cases e
  ·cases h;simp_all [gP]
  ·rename_i e;cases e
  ·cases h
 | str m =>
  simp only [oJ] at h
  cases hz:(sz == 1) with
  | false=>rw [hz] at h;cases h
  | true =>
   rw [hz] at h;cases h
   simp only [gP,hz,cond_true,dQ,List.length_map,Option.some.injEq,Prod.mk.injEq,true_and]
   clear hel hz
   induction m with
   | nil=>rfl
   | cons c m ih=>simp only [List.map_cons,List.flatMap_cons,<- ih];rfl
 | _=>simp [oJ] at h
theorem fc{t:List (Nat×AV)}{xs:List Operand}{i:Nat}:i∈kills t xs↔.tmp i∈xs/\(T t i).df=false:=by
 constructor
 ·intro h
  induction xs with
  | nil=>simp [kills] at h
  | cons x xs ih =>
   cases x with
   | tmp j =>
    simp only [kills] at h
    cases hn:(T t j).df with
    | true=>rw [hn] at h;have:=ih h;exact ⟨by simp [this.1],this.2⟩
    | false =>
     rw [hn] at h
     rcases List.mem_cons.1 h with rfl|h
     ·exact ⟨by simp,hn⟩
     ·have:=ih h;exact ⟨by simp [this.1],this.2⟩
   | const _=>have:=ih h;exact ⟨by simp [this.1],this.2⟩
   | global _=>have:=ih h;exact ⟨by simp [this.1],this.2⟩
   | func _=>have:=ih h;exact ⟨by simp [this.1],this.2⟩
 ·rintro ⟨h1,h2⟩;exact BR h1 h2
theorem bH{sz:Nat}:∀ {l:List AV},(∀ z,z∈l->z.elem sz=true)->(l.flatMap AV.cells).length=l.length * sz
 | [],_=>by simp
 | x::xs,h=>by
  have h1:=h x (by simp)
  have h2:=bH (l:=xs) fun z hz=>h z (by simp [hz])
  have h3:x.cells.length=sz:=by
   cases x<;>simp [AV.elem] at h1<;>simp [AV.cells,h1]
  rw [List.flatMap_cons,List.length_append,h2,h3,List.length_cons,Nat.add_mul];omega
def C4(P:Program)(e:TypeId):Option Nat:=(zer P e).map List.length
def zk:Operand->Nat->Bool
 | .tmp j,i=>!(Nat.beq j i)
 | _,_=>true
theorem BQ{y:Operand}{i:Nat}(h:zk y i=true):y≠.tmp i:=by
 intro e;subst e;simp [zk] at h
theorem C3{P:Program}{e:TypeId}{sz:Nat}(h:C4 P e=some sz):∃ zs,zer P e=some zs/\zs.length=sz:=by
 unfold C4 at h
 cases hz:zer P e with
 | none=>rw [hz] at h;cases h
 | some zs=>rw [hz] at h;cases h;exact ⟨zs,rfl,rfl⟩
def apW(t:List (Nat×AV)):Op->Bool
 | .call c=>match c.callee,c.args.toList with
  | .builtin .append,[.tmp i,_]=>match T t i with
   | .sl true _ _=>true
   | _=>false
  | _,_=>false
 | _=>false
section
variable {L : Nat -> Nat} {P : Program} {s : AS} {o : Oper}
theorem AE{c:Call}{i:Nat}{y:Operand}{t u e:TypeId}{sz bytes:Nat}{l l':List AV}{zs:List Value}(ho:o.op=.call c)(hc:c=⟨.builtin .append,#[.tmp i,y],#[t,u]⟩)
  (hx:T s.t i=.sl true sz l) (hxy:y≠.tmp i) (ht:elm P t=some (e,sz,bytes)) (hz:zer P e=some zs) (hzl:zs.length=sz)
  (hu:(∃ e',P.underlying u=some (.slice e'))\/P.underlying u=some .string) (hsrc:oJ sz (ev s.t y)=some l') (hel:∀ z,z∈l->z.elem sz=true) (jc:∀ z,z∈l'->z.elem sz=true) (hone:(l'.flatMap AV.cells).all AV.one=true)
  (hL:l.length+l'.length<=L sz) (hby:(l.length+l'.length) * bytes<=140737488355328) (h63:l.length+l'.length<=9223372036854775807):LOp L P s o (.sl true sz (l++l')) (kills s.t [.tmp i,y]):=by
 subst hc
 obtain ⟨inf,hut,fu,rfl,rfl⟩:=jq ht
 obtain ⟨Io,z,kQ,hzz,EA⟩:=rv hz
 rw [fu] at kQ
 cases kQ
 intro B F0 w0 F own fp fs a w next Q h bI
 have hi:i∈kills s.t [.tmp i,y]:=fc.2 ⟨by simp,by rw [hx];rfl⟩
 have hsub:∀ j,j∈kills s.t [y]->j∈kills s.t [.tmp i,y]/\j≠i:=fun j hj=>by
  have:=fc.1 hj
  have h1:=this.1
  simp only [List.mem_cons,List.not_mem_nil,or_false] at h1
  exact ⟨fc.2 ⟨by simp [h1],this.2⟩,fun e=>hxy (by rw [<- h1,e])⟩
 obtain ⟨news,f,hS,hnl,hnr,hfn,hfk⟩:=uB h (om (os:=s.o) hsrc jc) hu
 have hr:=h.slots i
 rw [hx] at hr
 simp only [Rep] at hr
 have hFS:∀ b,F b->F b/\b<w.heap.size:=fun b hb=>⟨hb,(h.fl b hb).2.1⟩
 have yt:∀ k,k∈f->k<w.heap.size/\¬ F k/\∃ j,j∈kills s.t [.tmp i,y]/\k∈fp j:=fun k hk=>by
  obtain ⟨j,hj,hkj⟩:=hfk k hk
  exact ⟨(h.ig hkj).2,h.AY hkj,j,(hsub j hj).1,hkj⟩
 have hall:∀ z,z∈l++l'->z.elem inf.size=true:=fun z hz=>by
  rcases List.mem_append.1 hz with h|h
  ·exact hel z h
  ·exact jc z h
 have IL:(l++l').flatMap AV.cells=l.flatMap AV.cells++l'.flatMap AV.cells:=by simp
 have hlc:=bH hel
 have RO:a.eval (.tmp i)=a.tmps.getD i undef:=rfl
 have AR:z.cells.size=inf.size:=by rw [<- hzl,<- EA];simp
 unfold Oper.wp
 rcases hr with ⟨hv|⟨e1,_⟩,rfl,hf0⟩|⟨b,off,cap,vals,fp',hv,Zr,hlL,hrow,hE,hown⟩
 ·rw [<- RO] at hv
  simp only [List.nil_append,List.length_nil,Nat.zero_add] at hL hby h63 hall IL ⊢
  by_cases h0:l'.length=0
  ·have:l'=[]:=List.eq_nil_of_length_eq_zero h0
   subst this
   have:news=[]:=by simp only [List.flatMap_nil,aq] at hnr;exact hnr.1
   subst this
   have hrun:=Ft (tyr:=o.type) hut fu hS
   have hex:(execOp a.eval o).run P w=.ok (.value (.slice none 0 0)) w:=by
    simp only [execOp,ho,resolve,invoke,builtin,Sem.run_bind,Sem.run_pure,Result.andThen_ok,List.map_toArray,List.map_cons,List.map_nil,hv,hrun]
   rw [hex]
   exact bI _ _ ⟨Kp.refl _ _,F,[],fun _ h=>h,fun _ h=>.inl h,by simp [Rep],by simp,by simp⟩
  ·have hrun:=Bs (tyr:=o.type) hut fu hzz hS (by omega) h63 hby
   have hex:(execOp a.eval o).run P w=.ok (.value (.slice (some ⟨w.heap.size,0,none⟩) l'.length (grownCap w l'.length 0 e)))
     (w.drew.alloc (.cells (news.toArray++Builtin.zeroCells z.cells (grownCap w l'.length 0 e - l'.length)) e)):=by
    simp only [execOp,ho,resolve,invoke,builtin,Sem.run_bind,Sem.run_pure,Result.andThen_ok,List.map_toArray,List.map_cons,List.map_nil,hv,hrun]
   rw [hex]
   have cl:=Ext.lz w (.cells (news.toArray++Builtin.zeroCells z.cells (grownCap w l'.length 0 e - l'.length)) e) []
   have hge:=grownCap_ge w l'.length 0 e
   refine bI _ _ ⟨⟨rfl,rfl,rfl,cl.size,fun k hk=>cl.same k ⟨hk.1,by simp⟩,cl.shape⟩,F,w.heap.size::f,fun _ h=>h,fun _ h=>.inl h,?_,?_,?_⟩
   ·simp only [Rep]
    refine .inr ⟨w.heap.size,0,_,news,f,rfl,hge,hL,⟨_,_,_,eX w.drew _,fun j hj=>?_⟩,?_,.inl ⟨by trivial,rfl,rfl,_,_,eX w.drew _,?_⟩⟩
    ·rw [Nat.zero_add,<- Array.getElem?_toList]
     simp only [Array.toList_append,List.getElem?_append_left hj]
    ·exact aq.kX hall (aq.ext cl (fun b hb=>⟨hb,(hFS b hb).2,by simp⟩) (fun k hk=>⟨(yt k hk).1,by simp⟩) hnr)
    ·simp only [Array.size_append,List.size_toArray,size_zeroCells,AR,hnl,Nat.zero_add]
     rw [<- Nat.add_mul];exact Nat.mul_le_mul_right _ (by omega)
   ·rw [List.nodup_cons];exact ⟨fun hm=>by have:=(yt _ hm).1;omega,hfn⟩
   ·intro k hk
    rcases List.mem_cons.1 hk with rfl|hk
    ·exact ⟨fun hF=>by have:=(hFS _ hF).2;omega,.inr ⟨Nat.le_refl _,by simp⟩⟩
    ·exact ⟨(yt k hk).2.1,.inl (yt k hk).2.2⟩
 ·cases e1
 ·rcases hown with ⟨_,hfp,rfl,gX⟩|⟨e1,_⟩
  rotate_left
  ·cases e1
  rw [<- RO] at hv
  have hbi:b∈fp i:=by rw [hfp];simp
  have hnd:=h.sn i
  rw [hfp,List.nodup_cons] at hnd
  have CT:∀ k,k∈fp'->k∈fp i:=fun k hk=>by rw [hfp];simp [hk]
  have hne:∀ k,k∈f->k ∉ fp i:=fun k hk hki=>by
   obtain ⟨j,hj,hkj⟩:=hfk k hk
   have e1:=h.so i k hki
   rw [h.so j k hkj] at e1;cases e1;exact (hsub i hj).2 rfl
  have hfb:b ∉ f:=fun hb=>hne b hb hbi
  have hrl:=bT.flat hel hE
  have hvl:=hrl.len
  have RG:(fp'++f).Nodup:=by
   rw [List.nodup_append]
   exact ⟨hnd.2,hfn,fun k hk k' hk' e=>by subst e;exact hne k hk' (CT k hk)⟩
  have hbF:¬ F b:=h.AY hbi
  have hFb:∀ b',F b'->F b'/\(b'<w.heap.size/\b' ∉ [b]):=fun b' hb'=>⟨hb',(hFS b' hb').2,fun e=>by
   have:b'=b:=by simpa using e
   subst this;exact hbF hb'⟩
  have hS1:∀ k,k∈fp'->k<w.heap.size/\k ∉ [b]:=fun k hk=>⟨(h.ig (CT k hk)).2,fun e=>by
   have:k=b:=by simpa using e
   subst this;exact hnd.1 hk⟩
  have hS2:∀ k,k∈f->k<w.heap.size/\k ∉ [b]:=fun k hk=>⟨(yt k hk).1,fun e=>by
   have:k=b:=by simpa using e
   subst this;exact hfb hk⟩
  have hin:∀ k,k∈fp'++f->¬ F k/\∃ j,j∈kills s.t [.tmp i,y]/\k∈fp j:=fun k hk=>by
   rcases List.mem_append.1 hk with hk|hk
   ·exact ⟨h.AY (CT k hk),i,hi,CT k hk⟩
   ·exact ⟨(yt k hk).2.1,(yt k hk).2.2⟩
  have hkb:∀ k,Kept fp (kills s.t [.tmp i,y]) w k->k ∉ [b]:=fun k hk e=>by
   have e2:k=b:=by simpa using e
   subst e2
   exact hk.2 ⟨i,hi,hbi⟩
  obtain ⟨cc,Ty,zz,hcc,hcl⟩:=hrow
  obtain ⟨c',Ty',hc',hle⟩:=gX
  rw [hcc] at hc';cases hc'
  rw [Nat.zero_add] at hle
  have MF:vals.length=l.length * inf.size:=by rw [hvl,hlc]
  have htk:cc.toList.take (l.length * inf.size)=vals:=by
   rw [<- MF]
   apply List.ext_getElem?
   intro j
   by_cases hj:j<vals.length
   ·rw [List.getElem?_take_of_lt hj,Array.getElem?_toList]
    have:=hcl j hj
    rwa [Nat.zero_add] at this
   ·rw [List.getElem?_eq_none (by rw [List.length_take];omega),List.getElem?_eq_none (by omega)]
  by_cases hroom:l.length+l'.length<=cap
  ·have h2:l.length * inf.size+news.length<=cc.size:=by
    rw [hnl,<- Nat.add_mul];exact Nat.le_trans (Nat.mul_le_mul_right _ hroom) hle
   have hrun:=tQ (tyr:=o.type) hut fu hS b l.length cap cc Ty hcc (hnr.ones hone) hroom h2
   have hex:(execOp a.eval o).run P w=.ok (.value (.slice (some ⟨b,0,none⟩) (l.length+l'.length) cap)) (w.setRow b (cc.toList.take (l.length * inf.size)++news++cc.toList.drop (l.length * inf.size+news.length)).toArray):=by
    simp only [execOp,ho,resolve,invoke,builtin,Sem.run_bind,Sem.run_pure,Result.andThen_ok,List.map_toArray,List.map_cons,List.map_nil,hv,hrun]
   rw [hex]
   have hsz:(cc.toList.take (l.length * inf.size)++news++cc.toList.drop (l.length * inf.size+news.length)).toArray.size=cc.size:=by
    have:cc.toList.length=cc.size:=by simp
    simp only [List.size_toArray,List.length_append,List.length_take,List.length_drop,this];omega
   have cl:=Ext.setRow w b _ cc Ty _ hcc hsz
   have hsame:=dK w b (cc.toList.take (l.length * inf.size)++news++cc.toList.drop (l.length * inf.size+news.length)).toArray cc Ty _ hcc
   refine bI _ _ ⟨⟨rfl,rfl,rfl,cl.size,fun k hk=>cl.same k ⟨hk.1,hkb k hk⟩,cl.shape⟩,F,b::(fp'++f),fun _ h=>h,fun _ h=>.inl h,?_,?_,?_⟩
   ·simp only [Rep]
    refine .inr ⟨b,0,cap,vals++news,fp'++f,by rw [List.length_append],by rw [List.length_append];exact hroom,by rw [List.length_append];exact hL,⟨_,_,_,hsame,fun j hj=>?_⟩,?_,.inl ⟨by trivial,rfl,rfl,_,_,hsame,by rw [hsz,Nat.zero_add];exact hle⟩⟩
    ·rw [Nat.zero_add,<- Array.getElem?_toList,htk,List.getElem?_append_left hj]
    ·refine aq.kX hall ?_
     rw [IL]
     exact aq.join (aq.ext cl hFb hS1 hrl) (aq.ext cl hFb hS2 hnr)
   ·rw [List.nodup_cons];exact ⟨fun hm=>by
     rcases List.mem_append.1 hm with hm|hm
     ·exact hnd.1 hm
     ·exact hfb hm,RG⟩
   ·intro k hk
    rcases List.mem_cons.1 hk with rfl|hk
    ·exact ⟨hbF,.inl ⟨i,hi,hbi⟩⟩
    ·exact ⟨(hin k hk).1,.inl (hin k hk).2⟩
  ·have hrun:=yL (tyr:=o.type) hut fu hzz hS ⟨b,0,none⟩ l.length cap vals MF (fun j v hj=>by
    have hrow:gp w b 0 vals:=⟨cc,Ty,_,hcc,hcl⟩
    rw [fO];exact hrow.cell hj) (by omega) h63 hby
   have hex:(execOp a.eval o).run P w=.ok (.value (.slice (some ⟨w.heap.size,0,none⟩) (l.length+l'.length) (grownCap w (l.length+l'.length) cap e)))
     (w.drew.alloc (.cells (vals.toArray++news.toArray++Builtin.zeroCells z.cells (grownCap w (l.length+l'.length) cap e - (l.length+l'.length))) e)):=by
    simp only [execOp,ho,resolve,invoke,builtin,Sem.run_bind,Sem.run_pure,Result.andThen_ok,List.map_toArray,List.map_cons,List.map_nil,hv,hrun]
   rw [hex]
   have cl:=Ext.lz w (.cells (vals.toArray++news.toArray++Builtin.zeroCells z.cells (grownCap w (l.length+l'.length) cap e - (l.length+l'.length))) e) [b]
   have hge:=grownCap_ge w (l.length+l'.length) cap e
   refine bI _ _ ⟨⟨rfl,rfl,rfl,cl.size,fun k hk=>cl.same k ⟨hk.1,hkb k hk⟩,cl.shape⟩,F,w.heap.size::(fp'++f),fun _ h=>h,fun _ h=>.inl h,?_,?_,?_⟩
   ·simp only [Rep]
    refine .inr ⟨w.heap.size,0,_,vals++news,fp'++f,by rw [List.length_append],by rw [List.length_append];exact hge,by rw [List.length_append];exact hL,⟨_,_,_,eX w.drew _,fun j hj=>?_⟩,?_,.inl ⟨by trivial,rfl,rfl,_,_,eX w.drew _,?_⟩⟩
    ·rw [Nat.zero_add,<- Array.getElem?_toList]
     simp only [Array.toList_append]
     rw [List.getElem?_append_left hj]
    ·refine aq.kX hall ?_
     rw [IL]
     exact aq.join (aq.ext cl hFb hS1 hrl) (aq.ext cl hFb hS2 hnr)
    ·simp only [Array.size_append,List.size_toArray,size_zeroCells,AR,MF,hnl,Nat.zero_add]
     rw [<- Nat.add_mul,<- Nat.add_mul]
     exact Nat.mul_le_mul_right _ (by omega)
   ·rw [List.nodup_cons];exact ⟨fun hm=>by
     rcases List.mem_append.1 hm with hm|hm
     ·have:=(hS1 _ hm).1;omega
     ·have:=(hS2 _ hm).1;omega,RG⟩
   ·intro k hk
    rcases List.mem_cons.1 hk with rfl|hk
    ·exact ⟨fun hF=>by have:=(hFS _ hF).2;omega,.inr ⟨Nat.le_refl _,by simp⟩⟩
    ·exact ⟨(hin k hk).1,.inl (hin k hk).2⟩
end
end
section
def fB(ρ:Operand->AV):List Operand->List Nat
 | []=>[]
 | .tmp i::xs=>bif (ρ (.tmp i)).df then fB ρ xs else i::fB ρ xs
 | _::xs=>fB ρ xs
def knd(P:Program)(t:TypeId):Option Bool :=
 match P.underlying t with
 | some .string=>some true
 | some (.slice _)=>some false
 | _=>none
def Mj:AV->Option (Bool×Nat)
 | .str l=>some (true,l.length)
 | .sl _ _ l=>some (false,l.length)
 | .arr _ _ len _=>some (false,len)
 | .v (.slice none 0 0)=>some (false,0)
 | _=>none
def tN(ρ:Operand->AV)(o:Option Operand)(d:Int):Option Int :=
 match o with
 | none=>some d
 | some y=>match ρ y with
  | .v (.int _ n)=>some n
  | _=>none
def ikd(P:Program)(t:TypeId):Option IntKind :=
 match P.underlying t with
 | some (.int k)=>some k
 | _=>none
def cy(P:Program)(t:TypeId):Bool:=(P.underlying t).isSome
def byS(P:Program)(t:TypeId):Bool :=
 match P.underlying t with
 | some (.slice e)=>match P.underlying e with
  | some (.int .u8)=>true
  | _=>false
 | _=>false
theorem PJ{P:Program}{t:TypeId}{k:IntKind}(h:ikd P t=some k):P.underlying t=some (.int k):=by
 unfold ikd at h;split at h<;>simp_all
theorem MU{P:Program}{t:TypeId}(h:cy P t=true):∃ d,P.underlying t=some d:=Option.isSome_iff_exists.1 h
theorem PZ{P:Program}{t:TypeId}(h:byS P t=true):∃ e,P.underlying t=some (.slice e)/\P.underlying e=some (.int .u8):=by
 unfold byS at h
 split at h
 ·rename_i e he
  split at h
  ·rename_i hu;exact ⟨e,he,hu⟩
  ·cases h
 ·cases h
def isB(P:Program)(t:TypeId):Bool :=
 match P.underlying t with
 | some .bool=>true
 | _=>false
theorem PE{P:Program}{t:TypeId}(h:isB P t=true):P.underlying t=some .bool:=by
 unfold isB at h;split at h<;>simp_all
theorem BH{P:Program}{t:TypeId}(h:isB P t=true)(x y:Operand)(a b:Bool)(w:World) :
  (do eqGuard .eql t x y (.bool a) (.bool b);binOp .eql t (.bool a) (.bool b):Sem Value).run P w=.ok (.bool (a == b)) w /\
  (do eqGuard .neq t x y (.bool a) (.bool b);binOp .neq t (.bool a) (.bool b):Sem Value).run P w=.ok (.bool (a != b)) w:=by
 have h1:=PE h
 constructor
 ·have:=run_eql_bool (P:=P) w t a b h1
  simp [eqGuard,this]
 ·have:=run_neq_bool (P:=P) w t a b h1
  simp [eqGuard,this,bne]
def at8(s:List UInt8)(n:Int):Int:=((s[n.toNat]?).getD 0).toNat
class Hd(α:Type) where
 v:α
def bsK(sz:Nat)(l:List AV)(C:List Nat)[K:Hd (AV->List Nat->Prop)]:Prop:=K.v (.sl true sz l) C\/K.v (.sl false sz (AV.bZ l)) C
theorem C0.frz{L:Nat->Nat}{F:Nat->Prop}{fp:Nat->List Nat}{C:List Nat}{w:World}{x:AV}{v:Value}{w':World}(h:C0 L F fp C w x v w'):C0 L F fp C w x.frz v w':=by
 obtain ⟨hb,F',fx,h1,h2,h3,h4,h5⟩:=h
 refine ⟨hb,fun b=>F' b\/b∈fx,[],fun b hb=>.inl (h1 b hb),?_,Rep.frz (fun b hb=>.inl hb) (fun b hb=>.inr hb) h3,by simp,by simp⟩
 rintro b (hb|hb)
 ·exact h2 b hb
 ·exact .inr ((h5 b hb).2.elim .inr .inl)
theorem LOp.frz{L:Nat->Nat}{P:Program}{s:AS}{o:Oper}{x:AV}{C:List Nat}(h:LOp L P s o x C):LOp L P s o x.frz C :=
 fun B F0 w0 F own fp fs a w next Q hd hn=>h B F0 w0 F own fp fs a w next Q hd fun v w' g=>hn v w' g.frz
def tf(G:Bool)(l:List AV)(n:Int)(sz:Nat)[K:Hd (AV->Prop)]:Prop:=∃ x,(G=true->0<=n/\l[n.toNat]? = some x/\x.elem sz=true)/\K.v x
def at_{α:Type}[Inhabited α](l:List α)(k:Nat):α:=(l[k]?).getD default
theorem su{α:Type}[Inhabited α]{l:List α}{k:Nat}(h:k<l.length):l[k]? = some (at_ l k):=by
 unfold at_;rw [List.getElem?_eq_getElem h];rfl
theorem at_mem{α:Type}[Inhabited α]{l:List α}{k:Nat}(h:k<l.length):at_ l k∈l:=List.mem_of_getElem? (su h)
theorem da{α:Type}[Inhabited α]{l:List α}{k:Nat}(h:k<l.length):l.drop k=at_ l k::l.drop (k+1):=by
 rw [List.drop_eq_getElem_cons h]
 unfold at_;rw [List.getElem?_eq_getElem h];rfl
theorem Ir{α:Type}[Inhabited α]{f:α->AV}{l:List α}{n:Int}{sz:Nat}{K:AV->Prop}(h0:0<=n)(h:n.toNat<l.length):tf true (l.map f) n sz (K:=⟨K⟩)=((f (at_ l n.toNat)).elem sz=true/\K (f (at_ l n.toNat))):=by
 have e:(l.map f)[n.toNat]? = some (f (at_ l n.toNat)):=by rw [List.getElem?_map,su h];rfl
 apply propext
 constructor
 ·rintro ⟨x,hx,hK⟩
  have:=hx rfl
  rw [e] at this
  obtain ⟨_,h2,h3⟩:=this
  cases h2;exact ⟨h3,hK⟩
 ·rintro ⟨h1,h2⟩
  exact ⟨_,fun _=>⟨h0,e,h1⟩,h2⟩
theorem tf.map{α:Type}[Inhabited α]{G:Bool}{f:α->AV}{l:List α}{n:Int}{sz:Nat}{K:AV->Prop}(hb:G=true->0<=n/\n.toNat<l.length)(he:(f (at_ l n.toNat)).elem sz=true)(hK:K (f (at_ l n.toNat))):tf G (l.map f) n sz (K:=⟨K⟩) :=
 ⟨_,fun hG=>⟨(hb hG).1,by rw [List.getElem?_map,su (hb hG).2];rfl,he⟩,hK⟩
def oP:List AV->List AV
 | []=>[]
 | x::xs=>(bif x.df then x else x.frz)::oP xs
@[reducible] def qT(L:Nat->Nat)(P:Program)(os:List (Nat×Option (List AV)))(_la:List AV)(G:Bool)(f:FuncId)(args:List AV)[K:Hd (AV->Prop)]:Prop:=∃ res,(G=true->sB L P os f args res)/\K.v res
def zU(L:Nat->Nat)(P:Program)(os:List (Nat×Option (List AV)))(ρ:Operand->AV)(G:Bool)(callee:Callee)(args:List Operand)(ts:List TypeId)(K:AV->List Nat->Prop):Prop :=
 match callee,args,ts with
 | .builtin .len,[x],[t]=>match Mj (ρ x) with
  | some (k,n)=>knd P t=some k/\K (.v (.int .i64 n)) []
  | none=>False
 | .builtin .min,[x,y],_=>match ρ x,ρ y with
  | .v (.int k m),.v (.int k' n)=>k=k'/\K (.v (.int k (if n<m then n else m))) []
  | _,_=>False
 | .builtin .max,[x,y],_=>match ρ x,ρ y with
  | .v (.int k m),.v (.int k' n)=>k=k'/\K (.v (.int k (if n > m then n else m))) []
  | _,_=>False
 | .builtin .append,[.tmp i,y],[t,u]=>match elm P t with
  | some (e,sz,bytes)=>match ρ (.tmp i) with
   | .sl true z l=>match oJ sz (ρ y) with
    | some l'=>((C4 P e=some sz/\(knd P u).isSome=true)/\(z=sz/\zk y i=true/\l.all (AV.elem sz)=true/\l'.all (AV.elem sz)=true/\(l'.flatMap AV.cells).all AV.one=true)) /\
      (G=true->l.length+l'.length<=L sz/\(l.length+l'.length) * bytes<=140737488355328/\l.length+l'.length<=9223372036854775807)/\K (.sl true sz (l++l')) (fB ρ [.tmp i,y])
    | none=>False
   | _=>False
  | none=>False
 | .value y,args,_=>match fnA (ρ y) with
  | some (f,caps)=>AV.bL caps=true/\qT L P os (oP (args.map ρ++caps)) G f (args.map ρ++caps) (K:=⟨fun res=>K res []⟩)
  | none=>False
 | _,_,_=>False
def ovc(L:Nat->Nat)(P:Program)(os:List (Nat×Option (List AV)))(ρ:Operand->AV)(G:Bool)(op:Op)(K:AV->List Nat->Prop):Prop :=
 match op with
 | .move x=>K (ρ x) (fB ρ [x])
 | .assign x=>K (ρ x) (fB ρ [x])
 | .pick c a b=>match ρ c,o3 (ρ a),o3 (ρ b) with
  | .v (.bool p),some (Ga,u),some (Gb,v)=>(G=true->(p=true->Ga=true)/\(p=false->Gb=true))/\K (.v (.bool (bif p then u else v))) []
  | _,_,_=>False
 | .binOp bop bty x y _=>match ρ x,ρ y with
  | .v u,.v v=>match Fl bop u v with
   | some z=>K (.v z) []
   | none=>match bop,u,v with
    | .eql,.bool a,.bool b=>isB P bty=true/\K (.v (.bool (a == b))) []
    | .neq,.bool a,.bool b=>isB P bty=true/\K (.v (.bool (a != b))) []
    | _,_,_=>False
  | .str a,.str b=>match Fm bop a b with
   | some z=>K (.v (.bool z)) []
   | none=>match bop with
    | .add=>(G=true->a.length+b.length<=4611686018427387904)/\K (.str (a++b)) []
    | _=>False
  | _,_=>False
 | .unOp uop _ x=>match ρ x with
  | .v u=>match unV uop u with
   | some z=>K (.v z) []
   | none=>False
  | _=>False
 | .field xt x k=>match ρ x,fld P xt k with
  | .agg cells,some (off,g,n)=>match val g n (cells.drop off) with
   | some y=>match y.df with
    | true=>K y []
    | false=>y.cpy.df=true/\K y.cpy []
   | none=>False
  | _,_=>False
 | .fieldAddr xt x k=>match fld P xt k with
  | some (off,_,n)=>Nat.blt 0 n=true/\(match ρ x with
   | .vp cells=>K (.vp (cells.drop off)) []
   | .ptr b o'=>K (.ptr b (o'+off)) []
   | _=>False)
  | none=>False
 | .load t x=>match ty P t with
  | some (g,n)=>match ρ x with
   | .vp cells=>match val g n cells with
    | some y=>K y []
    | none=>False
   | .ptr b off=>match O os b with
    | some cells=>match val g n (cells.drop off) with
     | some y=>match y.df with
      | true=>K y []
      | false=>y.cpy.df=true/\K y.cpy []
     | none=>False
    | none=>False
   | _=>False
  | none=>False
 | .nilCheck x=>match ρ x with
  | .ptr b off=>K (.ptr b off) []
  | .vp cells=>K (.vp cells) []
  | _=>False
 | .extract x k=>match ρ x with
  | .tup l=>match l[k]? with
   | some y=>y.df=true/\K y []
   | none=>False
  | _=>False
 | .index t x i=>match ρ x,ρ i with
  | .str a,.v (.int _ n)=>knd P t=some true/\(G=true->0<=n/\n.toNat<a.length)/\K (.v (.int .u8 (at8 a n))) []
  | _,_=>False
 | .indexAddr t x i=>match ρ i,elm P t with
  | .v (.int _ n),some (_,sz,_)=>match ρ x with
   | .sl false sz' l=>sz'=sz/\tf G l n sz (K:=⟨fun y=>K (.vp y.cells) []⟩)
   | .arr b off len sz'=>sz'=sz/\(G=true->0<=n/\n<len)/\K (.ptr b (off+n.toNat * sz)) []
   | _=>False
  | .v (.int _ n),none=>match ael P t,ρ x with
   | some (m,sz),.ptr b off=>(G=true->0<=n/\n<m)/\K (.ptr b (off+n.toNat * sz)) []
   | some (m,sz),.vp cells=>(G=true->0<=n/\n<m)/\K (.vp (cells.drop (n.toNat * sz))) []
   | _,_=>False
  | _,_=>False
 | .slice t x lo hi none=>match ρ x with
  | .str a=>knd P t=some true/\(match tN ρ lo 0,tN ρ hi a.length with
   | some i,some j=>(G=true->0<=i/\i<=j/\j<=a.length)/\K (S ((a.take j.toNat).drop i.toNat)) []
   | _,_=>False)
  | .sl false sz l=>match elm P t,tN ρ lo 0,tN ρ hi l.length with
   | some (_,sz',_),some i,some j=>sz'=sz/\(G=true->0<=i/\i<=j/\j<=l.length)/\K (.sl false sz ((l.take j.toNat).drop i.toNat)) []
   | _,_,_=>False
  | .sl true sz l=>match elm P t,tN ρ lo 0,tN ρ hi l.length with
   | some (_,sz',_),some i,some j=>sz'=sz/\(G=true->0<=i/\i<=j/\j<=l.length)/\K (.slo sz ((l.take j.toNat).drop i.toNat)) (fB ρ [x])
   | _,_,_=>False
  | _=>False
 | .build t parts=>match plc P t with
  | some (places,zs)=>match oe (places[·]?) (zs.map avz) (parts.toList.map fun p=>(p.1,ρ p.2)) with
   | some cells=>(fB ρ (parts.toList.map Prod.snd)).Nodup/\K (.agg cells) (fB ρ (parts.toList.map Prod.snd))
   | none=>False
  | none=>match ael P t,zer P t with
   | some _,some zs=>parts.toList=[]/\K (.agg (zs.map avz)) []
   | _,_=>False
 | .buildSlice t len parts=>match elm P t with
  | some (e,sz,_)=>(zer P e).isSome=true/\len * sz<=16777216/\len<=L sz/\(fB ρ (parts.toList.map Prod.snd)).Nodup /\
   (match oe (fun i=>some (i * sz,sz)) (List.replicate (len * sz) .dead) (parts.toList.map fun p=>(p.1,ρ p.2)) with
   | some cells=>((parts.toList.map fun p=>ρ p.2).flatMap AV.cells=cells/\parts.toList.length=len/\(parts.toList.map fun p=>ρ p.2).all (AV.elem sz)=true)/\bsK sz (parts.toList.map fun p=>ρ p.2) (fB ρ (parts.toList.map Prod.snd)) (K:=⟨K⟩)
   | none=>False)
  | none=>False
 | .box t x=>match ty P t with
  | some (_,n)=>(ρ x).elem n=true/\K (.vp (AV.bZ (ρ x).cells)) (fB ρ [x])
  | none=>False
 | .makeFunc (.func f) first cap=>first.toList=[]/\AV.bL (cap.toList.map ρ)=true/\K (.fn f (cap.toList.map ρ)) []
 | .convert src dst x=>match ρ x with
  | .v (.int _ n)=>match ikd P dst with
   | some k=>cy P src=true/\K (.v (.int k (k.wrap n))) []
   | none=>False
  | .sl _ 1 l=>match unb l with
   | some bs=>(knd P dst=some true/\byS P src=true)/\(G=true->bs.length<=4611686018427387904)/\K (S bs) []
   | none=>False
  | .arr b off len sz=>∃ l e,(G=true->off=0/\sz=1/\len=l.length/\l.length<=4611686018427387904/\O os b=some (dQ l)/\P.underlying src=some (.slice e)/\P.underlying e=some (.int .u8)/\P.underlying dst=some .string)/\K (S l) []
  | _=>False
 | .call c=>zU L P os ρ G c.callee c.args.toList c.argTypes.toList K
 | _=>False
theorem j3{s:AS}{ρ:Operand->AV}:∀ {xs:List Operand},(∀ y,y∈xs->ev s.t y=ρ y)->kills s.t xs=fB ρ xs
 | [],_=>rfl
 | x::xs,h=>by
  have ih:=j3 (s:=s) (ρ:=ρ) (xs:=xs) fun y hy=>h y (by simp [hy])
  cases x with
  | tmp i =>
   have:=h (.tmp i) (by simp)
   simp only [ev] at this
   simp only [kills,fB,this,ih]
  | const _=>simp only [kills,fB,ih]
  | global _=>simp only [kills,fB,ih]
  | func _=>simp only [kills,fB,ih]
theorem gj{ρ:Operand->AV}{i:Nat}:∀ {xs:List Operand},i∈fB ρ xs->.tmp i∈xs
 | [],h=>by simp [fB] at h
 | x::xs,h=>by
  cases x with
  | tmp j =>
   simp only [fB] at h
   cases hn:(ρ (.tmp j)).df with
   | true=>rw [hn] at h;exact List.mem_cons_of_mem _ (gj h)
   | false =>
    rw [hn] at h
    rcases List.mem_cons.1 h with rfl|h
    ·simp
    ·exact List.mem_cons_of_mem _ (gj h)
  | const _=>exact List.mem_cons_of_mem _ (gj h)
  | global _=>exact List.mem_cons_of_mem _ (gj h)
  | func _=>exact List.mem_cons_of_mem _ (gj h)
def Sound(L:Nat->Nat)(P:Program)(os:List (Nat×Option (List AV)))(ρ:Operand->AV)(G:Bool)(o:Oper)(K:AV->List Nat->Prop):Prop :=
 ∃ x C,K x C/\(∀ i,i∈C->.tmp i∈o.op.operands.toList)/\(G=true->∀ s:AS,(∀ y,y∈o.op.operands.toList->ev s.t y=ρ y)->s.o=os->LOp L P s o x C)
section
variable {L : Nat -> Nat} {P : Program} {os : List (Nat × Option (List AV))} {ρ : Operand -> AV} {G : Bool} {o : Oper} {K : AV -> List Nat -> Prop}
theorem pN{t:TypeId}(h:knd P t=some true):P.underlying t=some .string:=by
 unfold knd at h;split at h<;>simp_all
theorem uO{t:TypeId}(h:knd P t=some false):∃ e,P.underlying t=some (.slice e):=by
 unfold knd at h;split at h<;>simp_all
theorem sr{s:AS}{q:Option Operand}{d:Int}(h:∀ y,q=some y->ev s.t y=ρ y):bnd s.t q d=tN ρ q d:=by
 cases q with
 | none=>rfl
 | some y =>
  simp only [bnd,tN,h y rfl]
  try (generalize ρ y=z;cases z<;>rfl)
def vG:Callee->List Operand
 | .value f=>[f]
 | .invoke r _=>[r]
 | .builtin _=>[]
theorem PW{callee:Callee}{args:Array Operand}{ts:Array TypeId}:(Op.operands (.call ⟨callee,args,ts⟩)).toList=vG callee++args.toList:=by
 cases callee<;>simp [Op.operands,Call.operands,vG]
theorem H3{c:Call}(ho:o.op=.call c)(h:zU L P os ρ G c.callee c.args.toList c.argTypes.toList K):Sound L P os ρ G o K:=by
 obtain ⟨callee,args,ts⟩:=c
 simp only at h
 have jb:o.op.operands.toList=vG callee++args.toList:=by rw [ho];exact PW
 unfold zU at h
 split at h
 ·rename_i x t e2 e3
  split at h
  ·rename_i k n hk
   obtain ⟨IG,hK⟩:=h
   refine ⟨_,[],hK,by simp,fun _ s hs hso=>?_⟩
   have hc:(⟨.builtin .len,args,ts⟩:Call)=⟨.builtin .len,#[x],#[t]⟩:=by
    have h1:args=#[x]:=by apply Array.ext';simpa using e2
    have h2:ts=#[t]:=by apply Array.ext';simpa using e3
    rw [h1,h2]
   have hx:ev s.t x=ρ x:=hs x (by rw [jb,e2];simp)
   generalize ρ x=z at hk hx
   unfold Mj at hk
   split at hk
   ·cases hk
    exact FJ ho hc hx (pN IG)
   ·cases hk
    obtain ⟨e,he⟩:=uO IG
    exact Ib ho hc hx he
   ·cases hk
    obtain ⟨e,he⟩:=uO IG
    exact FL ho hc hx he
   ·cases hk
    obtain ⟨e,he⟩:=uO IG
    exact FK ho hc hx he
   ·cases hk
  ·exact h.elim
 ·rename_i x y e2
  split at h
  ·rename_i k m k' n h1 h2
   obtain ⟨rfl,hK⟩:=h
   refine ⟨_,[],hK,by simp,fun _ s hs hso=>?_⟩
   have hc:(⟨.builtin .min,args,ts⟩:Call)=⟨.builtin .min,#[x,y],ts⟩:=by
    have h1:args=#[x,y]:=by apply Array.ext';simpa using e2
    rw [h1]
   exact Ph ho hc ((hs x (by rw [jb,e2];simp)).trans h1) ((hs y (by rw [jb,e2];simp)).trans h2)
  ·exact h.elim
 ·rename_i x y e2
  split at h
  ·rename_i k m k' n h1 h2
   obtain ⟨rfl,hK⟩:=h
   refine ⟨_,[],hK,by simp,fun _ s hs hso=>?_⟩
   have hc:(⟨.builtin .max,args,ts⟩:Call)=⟨.builtin .max,#[x,y],ts⟩:=by
    have h1:args=#[x,y]:=by apply Array.ext';simpa using e2
    rw [h1]
   exact Pj ho hc ((hs x (by rw [jb,e2];simp)).trans h1) ((hs y (by rw [jb,e2];simp)).trans h2)
  ·exact h.elim
 ·rename_i i y t u e2 e3
  split at h
  ·rename_i e sz bytes ht
   split at h
   ·rename_i z l hx
    split at h
    ·rename_i l' hsrc
     obtain ⟨⟨⟨hzl,hk⟩,rfl,hne,hel,jc,hone⟩,hb,hK⟩:=h
     obtain ⟨zs,hz,hzl⟩:=C3 hzl
     have hu:(∃ e',P.underlying u=some (.slice e'))\/P.underlying u=some .string:=by
      cases hkk:knd P u with
      | none=>rw [hkk] at hk;cases hk
      | some b =>
       cases b with
       | true=>exact .inr (pN hkk)
       | false=>exact .inl (uO hkk)
     refine ⟨_,_,hK,fun j hj=>by rw [jb,e2];simpa [vG] using gj hj,fun hG s hs hso=>?_⟩
     have hc:(⟨.builtin .append,args,ts⟩:Call)=⟨.builtin .append,#[.tmp i,y],#[t,u]⟩:=by
      have h1:args=#[.tmp i,y]:=by apply Array.ext';simpa using e2
      have h2:ts=#[t,u]:=by apply Array.ext';simpa using e3
      rw [h1,h2]
     have hi:ev s.t (.tmp i)=ρ (.tmp i):=hs _ (by rw [jb,e2];simp [vG])
     have hy:ev s.t y=ρ y:=hs _ (by rw [jb,e2];simp [vG])
     have hkl:kills s.t [.tmp i,y]=fB ρ [.tmp i,y]:=j3 fun q hq=>hs q (by rw [jb,e2];simpa [vG] using hq)
     rw [<- hkl]
     obtain ⟨hL,hby,h63⟩:=hb hG
     exact AE ho hc (hi.trans hx) (BQ hne) ht hz hzl hu (by rw [hy];exact hsrc) (by simpa [List.all_eq_true] using hel) (by simpa [List.all_eq_true] using jc) hone hL hby h63
    ·exact h.elim
   ·exact h.elim
  ·exact h.elim
 ·rename_i y
  split at h
  ·rename_i f caps hf
   obtain ⟨hcn,res,hcall,hK⟩:=h
   refine ⟨_,[],hK,by simp,fun hG s hs hso=>?_⟩
   subst hso
   have hmap:args.toList.map (ev s.t)=args.toList.map ρ:=by
    apply List.map_congr_left
    intro z hz
    exact hs z (by rw [jb];simp;exact .inr (by simpa using hz))
   refine qB ho rfl (by rw [hs y (by rw [jb];simp [vG])];exact hf) hcn ?_
   rw [hmap]
   exact hcall hG
  ·exact h.elim
 ·exact h.elim
theorem qy(h:ovc L P os ρ G o.op K):Sound L P os ρ G o K:=by
 cases ho:o.op with
 | move x =>
  rw [ho] at h
  refine ⟨_,_,h,fun i hi=>?_,fun _ s hs _=>?_⟩
  ·rw [ho];have:=gj hi;simpa [Op.operands] using this
  ·have hx:=hs x (by rw [ho];simp [Op.operands])
   rw [<- hx,<- j3 (s:=s) (xs:=[x]) (by simpa using hx)]
   exact D9 (.inl ho)
 | assign x =>
  rw [ho] at h
  refine ⟨_,_,h,fun i hi=>?_,fun _ s hs _=>?_⟩
  ·rw [ho];have:=gj hi;simpa [Op.operands] using this
  ·have hx:=hs x (by rw [ho];simp [Op.operands])
   rw [<- hx,<- j3 (s:=s) (xs:=[x]) (by simpa using hx)]
   exact D9 (.inr ho)
 | pick c a b =>
  rw [ho] at h
  simp only [ovc] at h
  split at h
  ·rename_i p Ga u Gb v h1 h2 h3
   obtain ⟨hc,hK⟩:=h
   refine ⟨_,[],hK,by simp,fun hG s hs _=>?_⟩
   have hs':∀ y,y∈[c,a,b]->ev s.t y=ρ y:=fun y hy=>hs y (by rw [ho];simpa [Op.operands] using hy)
   exact Mb ho ((hs' c (by simp)).trans h1) (by rw [hs' a (by simp)];exact h2) (by rw [hs' b (by simp)];exact h3) (hc hG).1 (hc hG).2
  ·exact h.elim
 | binOp bop ty x y ty' =>
  rw [ho] at h
  simp only [ovc] at h
  split at h
  ·rename_i u v h1 h2
   split at h
   ·rename_i z hz
    refine ⟨_,[],h,by simp,fun hG s hs _=>?_⟩
    have hs':∀ q,q∈[x,y]->ev s.t q=ρ q:=fun q hq=>hs q (by rw [ho];simpa [Op.operands] using hq)
    exact Mc ho ((hs' x (by simp)).trans h1) ((hs' y (by simp)).trans h2) hz
   ·split at h
    ·rename_i a b _
     obtain ⟨hc,hK⟩:=h
     refine ⟨_,[],hK,by simp,fun hG s hs _=>?_⟩
     have hs':∀ q,q∈[x,y]->ev s.t q=ρ q:=fun q hq=>hs q (by rw [ho];simpa [Op.operands] using hq)
     exact AB ho ((hs' x (by simp)).trans h1) ((hs' y (by simp)).trans h2) (fun w=>(BH hc x y a b w).1)
    ·rename_i a b _
     obtain ⟨hc,hK⟩:=h
     refine ⟨_,[],hK,by simp,fun hG s hs _=>?_⟩
     have hs':∀ q,q∈[x,y]->ev s.t q=ρ q:=fun q hq=>hs q (by rw [ho];simpa [Op.operands] using hq)
     exact AB ho ((hs' x (by simp)).trans h1) ((hs' y (by simp)).trans h2) (fun w=>(BH hc x y a b w).2)
    ·exact h.elim
  ·rename_i a b h1 h2
   split at h
   ·rename_i z hz
    refine ⟨_,[],h,by simp,fun hG s hs _=>?_⟩
    have hs':∀ q,q∈[x,y]->ev s.t q=ρ q:=fun q hq=>hs q (by rw [ho];simpa [Op.operands] using hq)
    exact Md ho ((hs' x (by simp)).trans h1) ((hs' y (by simp)).trans h2) hz
   ·split at h
    ·obtain ⟨hc,hK⟩:=h
     refine ⟨_,[],hK,by simp,fun hG s hs _=>?_⟩
     have hs':∀ q,q∈[x,y]->ev s.t q=ρ q:=fun q hq=>hs q (by rw [ho];simpa [Op.operands] using hq)
     exact Pm ho ((hs' x (by simp)).trans h1) ((hs' y (by simp)).trans h2) (hc hG)
    ·exact h.elim
  ·exact h.elim
 | unOp uop ty x =>
  rw [ho] at h
  simp only [ovc] at h
  split at h
  ·rename_i u h1
   split at h
   ·rename_i z hz
    exact ⟨_,[],h,by simp,fun hG s hs _=>Pg ho ((hs x (by rw [ho];simp [Op.operands])).trans h1) hz⟩
   ·exact h.elim
  ·exact h.elim
 | field xt x k =>
  rw [ho] at h
  simp only [ovc] at h
  split at h
  ·rename_i cells off g n h1 h2
   split at h
   ·rename_i y hy
    split at h
    ·rename_i hny
     exact ⟨_,[],h,by simp,fun hG s hs _=>J7 ho ((hs x (by rw [ho];simp [Op.operands])).trans h1) h2 hy hny⟩
    ·exact ⟨_,[],h.2,by simp,fun hG s hs _=>zq ho ((hs x (by rw [ho];simp [Op.operands])).trans h1) h2 hy fun _ _ _ _ r=>Rep.cpy h.1 r⟩
   ·exact h.elim
  ·exact h.elim
 | fieldAddr xt x k =>
  rw [ho] at h
  simp only [ovc] at h
  split at h
  ·rename_i off g n h2
   obtain ⟨hn,h⟩:=h
   split at h
   ·rename_i cells h1
    exact ⟨_,[],h,by simp,fun hG s hs _=>xX ho ((hs x (by rw [ho];simp [Op.operands])).trans h1) h2 hn⟩
   ·rename_i b o' h1
    exact ⟨_,[],h,by simp,fun hG s hs _=>wX ho ((hs x (by rw [ho];simp [Op.operands])).trans h1) h2 hn⟩
   ·exact h.elim
  ·exact h.elim
 | load t x =>
  rw [ho] at h
  simp only [ovc] at h
  split at h
  ·rename_i g n ht
   split at h
   ·rename_i cells h1
    split at h
    ·rename_i y hy
     exact ⟨_,[],h,by simp,fun hG s hs _=>FI ho ((hs x (by rw [ho];simp [Op.operands])).trans h1) ht hy⟩
    ·exact h.elim
   ·rename_i b off h1
    split at h
    ·rename_i cells hO
     split at h
     ·rename_i y hy
      split at h
      ·rename_i hny
       exact ⟨_,[],h,by simp,fun hG s hs hso=>uM ho ((hs x (by rw [ho];simp [Op.operands])).trans h1) (by rw [hso];exact hO) ht hy hny⟩
      ·exact ⟨_,[],h.2,by simp,fun hG s hs hso=>oQ ho ((hs x (by rw [ho];simp [Op.operands])).trans h1) (by rw [hso];exact hO) ht hy fun _ _ _ _ r=>Rep.cpy h.1 r⟩
     ·exact h.elim
    ·exact h.elim
   ·exact h.elim
  ·exact h.elim
 | nilCheck x =>
  rw [ho] at h
  simp only [ovc] at h
  split at h
  ·rename_i b off h1
   exact ⟨_,[],h,by simp,fun hG s hs _=>D8 ho ((hs x (by rw [ho];simp [Op.operands])).trans h1)⟩
  ·rename_i cells h1
   exact ⟨_,[],h,by simp,fun hG s hs _=>zo ho ((hs x (by rw [ho];simp [Op.operands])).trans h1)⟩
  ·exact h.elim
 | extract x k =>
  rw [ho] at h
  simp only [ovc] at h
  split at h
  ·rename_i l h1
   split at h
   ·rename_i y hy
    exact ⟨_,[],h.2,by simp,fun hG s hs _=>xm ho ((hs x (by rw [ho];simp [Op.operands])).trans h1) hy h.1⟩
   ·exact h.elim
  ·exact h.elim
 | index t x i =>
  rw [ho] at h
  simp only [ovc] at h
  split at h
  ·rename_i a k n h1 h2
   obtain ⟨hk,hc,hK⟩:=h
   refine ⟨_,[],hK,by simp,fun hG s hs _=>?_⟩
   have hs':∀ q,q∈[x,i]->ev s.t q=ρ q:=fun q hq=>hs q (by rw [ho];simpa [Op.operands] using hq)
   exact Cz ho ((hs' x (by simp)).trans h1) ((hs' i (by simp)).trans h2) (pN hk) (hc hG).1 (by rw [List.getElem?_eq_getElem (hc hG).2];rfl)
  ·exact h.elim
 | indexAddr t x i =>
  rw [ho] at h
  simp only [ovc] at h
  split at h
  ·rename_i k n e sz by_ h2 ht
   split at h
   ·rename_i sz' l h1
    obtain ⟨rfl,y,hc,hK⟩:=h
    refine ⟨_,[],hK,by simp,fun hG s hs _=>?_⟩
    have hs':∀ q,q∈[x,i]->ev s.t q=ρ q:=fun q hq=>hs q (by rw [ho];simpa [Op.operands] using hq)
    exact xW ho ((hs' x (by simp)).trans h1) ((hs' i (by simp)).trans h2) ht (hc hG).1 (hc hG).2.1 (hc hG).2.2
   ·rename_i b off len sz' h1
    obtain ⟨rfl,hc,hK⟩:=h
    refine ⟨_,[],hK,by simp,fun hG s hs _=>?_⟩
    have hs':∀ q,q∈[x,i]->ev s.t q=ρ q:=fun q hq=>hs q (by rw [ho];simpa [Op.operands] using hq)
    exact wW ho ((hs' x (by simp)).trans h1) ((hs' i (by simp)).trans h2) ht (hc hG).1 (hc hG).2
   ·exact h.elim
  ·rename_i k n h2 _
   split at h
   ·rename_i m sz b off ht h1
    obtain ⟨hc,hK⟩:=h
    refine ⟨_,[],hK,by simp,fun hG s hs _=>?_⟩
    have hs':∀ q,q∈[x,i]->ev s.t q=ρ q:=fun q hq=>hs q (by rw [ho];simpa [Op.operands] using hq)
    exact wV ho ((hs' x (by simp)).trans h1) ((hs' i (by simp)).trans h2) ht (hc hG).1 (hc hG).2
   ·rename_i m sz cells ht h1
    obtain ⟨hc,hK⟩:=h
    refine ⟨_,[],hK,by simp,fun hG s hs _=>?_⟩
    have hs':∀ q,q∈[x,i]->ev s.t q=ρ q:=fun q hq=>hs q (by rw [ho];simpa [Op.operands] using hq)
    exact xV ho ((hs' x (by simp)).trans h1) ((hs' i (by simp)).trans h2) ht (hc hG).1 (hc hG).2
   ·exact h.elim
  ·exact h.elim
 | slice t x lo hi mx =>
  rw [ho] at h
  cases mx with
  | some _=>simp [ovc] at h
  | none =>
   simp only [ovc] at h
   have jb:∀ y,y∈[x]++lo.toList++hi.toList->y∈o.op.operands.toList:=by
    intro y hy
    rw [ho]
    simp only [Op.operands]
    cases lo<;>cases hi<;>simpa using hy
   split at h
   ·rename_i a h1
    obtain ⟨hk,h⟩:=h
    split at h
    ·rename_i i j hi' hj
     obtain ⟨hc,hK⟩:=h
     refine ⟨_,[],hK,by simp,fun hG s hs _=>?_⟩
     have hx:=(hs x (jb x (by simp))).trans h1
     exact Cx ho (pN hk) hx (by rw [sr (ρ:=ρ) (fun y e=>hs y (jb y (by simp [e])))];exact hi') (by rw [sr (ρ:=ρ) (fun y e=>hs y (jb y (by simp [e])))];exact hj) (hc hG).1 (hc hG).2.1 (hc hG).2.2
    ·exact h.elim
   ·rename_i sz l h1
    split at h
    ·rename_i e sz' by_ i j ht hi' hj
     obtain ⟨rfl,hc,hK⟩:=h
     refine ⟨_,[],hK,by simp,fun hG s hs _=>?_⟩
     have hx:=(hs x (jb x (by simp))).trans h1
     exact D7 ho ht hx (by rw [sr (ρ:=ρ) (fun y e=>hs y (jb y (by simp [e])))];exact hi') (by rw [sr (ρ:=ρ) (fun y e=>hs y (jb y (by simp [e])))];exact hj) (hc hG).1 (hc hG).2.1 (hc hG).2.2
    ·exact h.elim
   ·rename_i sz l h1
    split at h
    ·rename_i e sz' by_ i j ht hi' hj
     obtain ⟨rfl,hc,hK⟩:=h
     refine ⟨_,_,hK,fun q hq=>jb _ (by have:=gj hq;simp at this;simp [this]),fun hG s hs _=>?_⟩
     have hx:=(hs x (jb x (by simp))).trans h1
     rw [<- j3 (s:=s) (xs:=[x]) (fun y hy=>hs y (jb y (by simp at hy;simp [hy])))]
     exact Cy ho ht hx (by rw [sr (ρ:=ρ) (fun y e=>hs y (jb y (by simp [e])))];exact hi') (by rw [sr (ρ:=ρ) (fun y e=>hs y (jb y (by simp [e])))];exact hj) (hc hG).1 (hc hG).2.1 (hc hG).2.2
    ·exact h.elim
   ·exact h.elim
 | build t parts =>
  rw [ho] at h
  simp only [ovc] at h
  split at h
  ·rename_i places zs hp
   split at h
   ·rename_i cells hf
    obtain ⟨hnd,hK⟩:=h
    refine ⟨_,_,hK,fun i hi=>?_,fun hG s hs _=>?_⟩
    ·rw [ho];have:=gj hi;simpa [Op.operands] using this
    ·have hs':∀ y,y∈parts.toList.map Prod.snd->ev s.t y=ρ y:=fun y hy=>hs y (by rw [ho];simpa [Op.operands] using hy)
     have e1:=j3 hs'
     have e2:(parts.toList.map fun p=>(p.1,ev s.t p.2))=parts.toList.map fun p=>(p.1,ρ p.2):=by
      apply List.map_congr_left
      intro p hp'
      rw [hs' p.2 (List.mem_map_of_mem hp')]
     rw [<- e1] at hnd ⊢
     rw [<- e2] at hf
     exact J9 ho hp hf hnd
   ·exact h.elim
  ·split at h
   ·rename_i ms zs ht hz
    obtain ⟨hp,hK⟩:=h
    exact ⟨_,[],hK,by simp,fun hG s hs _=>Ic (m:=ms.1) (sz:=ms.2) ho hp ht hz⟩
   ·exact h.elim
 | buildSlice t len parts =>
  rw [ho] at h
  simp only [ovc] at h
  split at h
  ·rename_i e sz by_ ht
   obtain ⟨hz,hsm,hL,hnd,h⟩:=h
   split at h
   ·rename_i cells hf
    obtain ⟨⟨hcl,hln,hall⟩,hK⟩:=h
    have key:∀ s:AS,(∀ q,q∈o.op.operands.toList->ev s.t q=ρ q)->LOp L P s o (.sl true sz (parts.toList.map fun p=>ρ p.2)) (fB ρ (parts.toList.map Prod.snd)):=by
     intro s hs
     have hs':∀ y,y∈parts.toList.map Prod.snd->ev s.t y=ρ y:=fun y hy=>hs y (by rw [ho];simpa [Op.operands] using hy)
     have e1:=j3 hs'
     have e2:(parts.toList.map fun p=>(p.1,ev s.t p.2))=parts.toList.map fun p=>(p.1,ρ p.2):=by
      apply List.map_congr_left
      intro p hp'
      rw [hs' p.2 (List.mem_map_of_mem hp')]
     rw [<- e1] at hnd ⊢
     rw [<- e2] at hf
     obtain ⟨zs,hzs⟩:=Option.isSome_iff_exists.1 hz
     exact AA ho ht hzs hsm hf hnd hcl (fun x hx=>List.all_eq_true.1 hall x hx) (by simpa using hln) hL
    have hk:∀ i,i∈fB ρ (parts.toList.map Prod.snd)->.tmp i∈o.op.operands.toList:=fun i hi=>by rw [ho];have:=gj hi;simpa [Op.operands] using this
    rcases hK with hK|hK
    ·exact ⟨_,_,hK,hk,fun hG s hs _=>key s hs⟩
    ·exact ⟨_,_,hK,hk,fun hG s hs _=>(key s hs).frz⟩
   ·exact h.elim
  ·exact h.elim
 | box t x =>
  rw [ho] at h
  simp only [ovc] at h
  split at h
  ·rename_i g n ht
   obtain ⟨he,hK⟩:=h
   refine ⟨_,_,hK,fun i hi=>?_,fun hG s hs _=>?_⟩
   ·rw [ho];have:=gj hi;simpa [Op.operands] using this
   ·have hx:=hs x (by rw [ho];simp [Op.operands])
    rw [<- hx,<- j3 (s:=s) (xs:=[x]) (by simpa using hx)]
    rw [<- hx] at he
    exact Pn ho he
  ·exact h.elim
 | makeFunc fn first cap =>
  rw [ho] at h
  cases fn with
  | func f =>
   simp only [ovc] at h
   obtain ⟨hf,hn,hK⟩:=h
   have hf':first=#[]:=by apply Array.ext';simpa using hf
   subst hf'
   refine ⟨_,[],hK,by simp,fun hG s hs _=>?_⟩
   have hmap:cap.toList.map (ev s.t)=cap.toList.map ρ:=by
    apply List.map_congr_left
    intro z hz
    exact hs z (by rw [ho];simp [Op.operands];simpa using hz)
   rw [<- hmap] at hn ⊢
   exact Ea ho hn
  | _=>simp [ovc] at h
 | convert src dst x =>
  rw [ho] at h
  simp only [ovc] at h
  split at h
  ·rename_i k' n h1
   split at h
   ·rename_i k hk
    obtain ⟨hu,hK⟩:=h
    obtain ⟨d,hd⟩:=MU hu
    exact ⟨_,[],hK,by simp,fun hG s hs _=>Eb ho hd (PJ hk) ((hs x (by rw [ho];simp [Op.operands])).trans h1)⟩
   ·exact h.elim
  ·rename_i own' l h1
   split at h
   ·rename_i bs hb
    obtain ⟨⟨hk,hby⟩,hln,hK⟩:=h
    obtain ⟨e,hs1,hs2⟩:=PZ hby
    refine ⟨_,[],hK,by simp,fun hG s hs _=>?_⟩
    rw [F9 hb] at h1
    exact Cw ho hs1 hs2 (pN hk) ((hs x (by rw [ho];simp [Op.operands])).trans h1) (hln hG)
   ·exact h.elim
  ·rename_i b off len sz h1
   obtain ⟨l,e,hc,hK⟩:=h
   refine ⟨_,[],hK,by simp,fun hG s hs hso=>?_⟩
   obtain ⟨rfl,rfl,rfl,hln,hO,hs1,hs2,hs3⟩:=hc hG
   exact Az ho hs1 hs2 hs3 ((hs x (by rw [ho];simp [Op.operands])).trans h1) (by rw [hso];exact hO) hln
  ·exact h.elim
 | call c =>
  rw [ho] at h
  exact H3 ho h
 | _=>rw [ho] at h;simp [ovc] at h
end
end
section
def isL(eff:List Nat)(o:Oper):Bool :=
 match o.op with
 | .load ..=>match o.dst with|some d=>!eff.contains d|none=>true
 | .move _|.assign _|.pick ..|.build ..|.nilCheck _|.binOp ..|.unOp ..|.convert ..|.makeFunc ..|.slice ..|.fieldAddr ..|.field ..|.indexAddr ..|.index ..|.extract ..=>true
 | .box ..|.buildSlice ..=>match o.dst with|some d=>!eff.contains d|none=>true
 | .call c=>match c.callee with
  | .builtin .len|.builtin .min|.builtin .max=>true
  | .value _=>match o.dst with|some d=>!eff.contains d|none=>false
  | _=>false
 | _=>false
def AV.strip:AV->AV
 | .cnd _ x=>x
 | x=>x
def okc(G:Bool):AV->Prop
 | .cnd g _=>G=true->g=true
 | _=>True
def LY(t:List (Nat×AV))(G:Bool):List Operand->Prop
 | []=>True
 | .tmp i::xs=>okc G (T t i)/\LY t G xs
 | _::xs=>LY t G xs
def evS(t:List (Nat×AV))(y:Operand):AV:=(ev t y).strip
def stS:List Operand->List Nat
 | []=>[]
 | .tmp i::xs=>i::stS xs
 | _::xs=>stS xs
def stO:Op->List Nat
 | .pick c _ _=>stS [c]
 | op=>stS op.operands.toList
def Aq(t:List (Nat×AV))(G:Bool):List Nat->Prop
 | []=>True
 | i::xs=>okc G (T t i)/\Aq t G xs
def q9:List Nat->Nat->Bool
 | [],_=>false
 | k::ks,i=>Nat.beq k i || q9 ks i
def evK(t:List (Nat×AV))(ks:List Nat):Operand->AV
 | .tmp i=>bif q9 ks i then (T t i).strip else T t i
 | y=>ev t y
theorem xS{ks:List Nat}{i:Nat}:q9 ks i=true↔i∈ks:=by
 induction ks with
 | nil=>simp [q9]
 | cons k ks ih =>
  simp only [q9,Bool.or_eq_true,ih,List.mem_cons]
  constructor
  ·rintro (h|h)
   ·exact .inl (Nat.eq_of_beq_eq_true h).symm
   ·exact .inr h
  ·rintro (h|h)
   ·exact .inl (by rw [h];exact Nat.beq_refl _)
   ·exact .inr h
theorem DQ{t:List (Nat×AV)}{G:Bool}:∀ {ks:List Nat} {i:Nat},Aq t G ks->i∈ks->okc G (T t i)
 | [],_,_,h=>by cases h
 | k::ks,i,hk,h=>by
  rcases List.mem_cons.1 h with rfl|h
  ·exact hk.1
  ·exact DQ hk.2 h
def W(L:Nat->Nat)(P:Program)(ops:Array Oper)(eff:List Nat)(n:Nat)(os:List (Nat×Option (List AV)))(K:List (Nat×AV)->List (AV×List Nat)->List Nat->Prop):List Nat->List (Nat×AV)->List (AV×List Nat)->Prop
 | [],t,D=>K t D []
 | i::l,t,D =>
  match ops[i]? with
  | none=>False
  | some o =>
   match isL eff o || (o.guard.isNone && apW t o.op) with
   | false=>K t D (i::l)
   | true=>cN n o.dst=true/\(match o.guard with
    | none=>ovc L P os (ev t) true o.op (fun x C=>W L P ops eff n os K l (upd o x C t) (D++[(x,C)]))
    | some (j,want)=>match (ops[j]?).bind (·.dst) with
     | none=>False
     | some d=>Nat.blt d n=true/\(match o3 (T t d) with
      | none=>False
      | some (G,g)=>Aq t (G && (g == want)) (stO o.op) /\
       ovc L P os (evK t (stO o.op)) (G && (g == want)) o.op (fun x C=>C=[]/\W L P ops eff n os K l (upd o (.cnd (G && (g == want)) x) [] t) (D++[(.cnd (G && (g == want)) x,[])]))))
section
variable {L : Nat -> Nat} {P : Program} {ops : Array Oper} {eff : List Nat} {n : Nat} {os : List (Nat × Option (List AV))}
theorem LOp.DS{t:List (Nat×AV)}{o:Oper}{x:AV}{C:List Nat}{G:Bool}{ks:List Nat}(hG:G=true)(hok:Aq t G ks)(h:∀ s:AS,(∀ y,y∈o.op.operands.toList->ev s.t y=evK t ks y)->s.o=os->LOp L P s o x C)(s:AS)(hs:∀ y,y∈o.op.operands.toList->ev s.t y=ev t y)(hso:s.o=os):LOp L P s o x C:=by
 intro B F0 w0 F own fp fs a w next Q hd bI
 classical
 let ks':List Nat:=ks.filter fun i=>decide (.tmp i∈o.op.operands.toList)
 have hT:∀ (q:List Nat) (i:Nat),T (q.map (fun k=>(k,(T s.t k).strip))++s.t) i=if i∈q then (T s.t i).strip else T s.t i:=by
  intro q i
  induction q with
  | nil=>simp
  | cons k q ih =>
   simp only [List.map_cons,List.cons_append,T]
   by_cases e:k=i
   ·subst e;simp
   ·have e1:(k == i)=false:=by simpa using e
    have e2:¬ i=k:=fun h=>e h.symm
    rw [e1];simp [e2,ih]
 have hks:∀ i,i∈ks'↔i∈ks/\.tmp i∈o.op.operands.toList:=by
  intro i;simp only [ks',List.mem_filter,decide_eq_true_eq]
 refine h ⟨s.n,ks'.map (fun k=>(k,(T s.t k).strip))++s.t,s.o⟩ ?_ hso B F0 w0 F own fp fs a w next Q { hd with slots:=?_ } bI
 ·intro y hy
  cases y with
  | tmp i =>
   have e1:=hs (.tmp i) hy
   simp only [ev] at e1
   simp only [ev,evK,hT]
   by_cases hi:i∈ks
   ·rw [if_pos ((hks i).2 ⟨hi,hy⟩),xS.2 hi,e1];rfl
   ·rw [if_neg (fun h=>hi ((hks i).1 h).1)]
    cases hm:q9 ks i with
    | true=>exact absurd (xS.1 hm) hi
    | false=>exact e1
  | const v=>rfl
  | global _=>rfl
  | func _=>rfl
 ·intro i
  simp only [hT]
  split
  ·rename_i hi
   obtain ⟨h1,h2⟩:=(hks i).1 hi
   have e1:=hs (.tmp i) h2
   simp only [ev] at e1
   have e2:=DQ hok h1
   rw [<- e1] at e2
   have hr:=hd.slots i
   cases hTT:T s.t i with
   | cnd g x =>
    rw [hTT] at hr e2
    simp only [Rep] at hr
    exact hr.1 (e2 hG)
   | _=>rw [hTT] at hr;exact hr
  ·exact hd.slots i
theorem W.draw{K':List (Nat×AV)->List (AV×List Nat)->Prop}:∀ (l:List Nat) (i:Nat) (t:List (Nat×AV)) (D:List (AV×List Nat)),l=List.range' i (ops.size - i)->W L P ops eff n os (fun t D _=>K' t D) l t D->jF L P ops n os K' i t D
 | [],i,t,D,_,h=>by simp only [W] at h;exact .done h
 | i'::l,i,t,D,hl,h=>by
  have hlt:i<ops.size:=by
   rcases Nat.lt_or_ge i ops.size with h|h
   ·exact h
   ·rw [show ops.size - i=0 by omega] at hl;simp at hl
  rw [show ops.size - i=(ops.size - (i+1))+1 by omega,List.range'_succ] at hl
  simp only [List.cons.injEq] at hl
  obtain ⟨rfl,hl⟩:=hl
  simp only [W] at h
  split at h
  ·exact h.elim
  ·rename_i o ho
   split at h
   ·exact .done h
   ·obtain ⟨hd,h⟩:=h
    have hmem:∀ y,y∈o.op.operands.toList->ev (eN t (slotsOf ops o)) y=ev t y:=by
     intro y hy
     cases y with
     | tmp k =>
      have hk:k∈slotsOf ops o:=by
       simp only [slotsOf,List.mem_append,List.mem_filterMap]
       exact .inl ⟨.tmp k,hy,rfl⟩
      simp only [ev]
      clear h hd hl
      generalize slotsOf ops o=ks at hk
      induction ks with
      | nil=>cases hk
      | cons q ks ih =>
       simp only [eN,List.map_cons,T]
       by_cases e:q=k
       ·subst e;simp
       ·have:(q == k)=false:=by simpa using e
        rw [this]
        rcases List.mem_cons.1 hk with rfl|hk
        ·exact absurd rfl e
        ·exact ih hk
     | const _=>rfl
     | global _=>rfl
     | func _=>rfl
    split at h
    ·rename_i hg
     obtain ⟨x,C,hK,hC,hlo⟩:=qy h
     refine .step o x C ho ⟨hd,fun k hk=>?_,.inl ⟨hg,hlo rfl _ hmem rfl⟩⟩ (W.draw l (i'+1) _ _ hl hK)
     simp only [slotsOf,List.mem_append,List.mem_filterMap]
     exact .inl ⟨.tmp k,hC k hk,rfl⟩
    ·rename_i j want hg
     split at h
     ·exact h.elim
     ·rename_i d hj
      obtain ⟨ng,h⟩:=h
      split at h
      ·exact h.elim
      ·rename_i G g hgv
       obtain ⟨hok,h⟩:=h
       obtain ⟨x,C,⟨rfl,hK⟩,_,hlo⟩:=qy h
       cases hoj:ops[j]? with
       | none=>rw [hoj] at hj;cases hj
       | some oj =>
        rw [hoj] at hj
        refine .step o _ [] ho ⟨hd,by simp,.inr ⟨j,want,oj,d,G,g,x,hg,hoj,hj,ng,hgv,rfl,rfl,fun hG=>?_⟩⟩ (W.draw l (i'+1) _ _ hl hK)
        exact LOp.DS hG hok (hlo hG) _ hmem rfl
end
section
variable {L : Nat -> Nat} {P : Program} {n : Nat} {t : List (Nat × AV)} {o : List (Nat × Option (List AV))} {Q : Exit -> AS -> Prop} {id : Nat} {ops : Array Oper}
end
end
section
section
variable {L : Nat -> Nat} {P : Program} {s : AS} {Q : Exit -> AS -> Prop} {n0 : Nat} {t0 : List (Nat × AV)} {os : List (Nat × Option (List AV))}
theorem AW.TI{c:Code}(ks:List Nat)(o':List (Nat×Option (List AV)))(ho:∀ b cells,O o' b=some cells->O os b=some cells)(h:AW L P c ⟨n0,eN t0 ks,o'⟩ Q):AW L P c ⟨n0,t0,os⟩ Q :=
 AW.weaken h rfl (Fx t0 ks) ho
theorem AW.TC{c:Code}(ks:List Nat)(I:Nat->List (Nat×AV)->List (Nat×Option (List AV))->Prop)(n:Nat)(o0:List (Nat×Option (List AV)))(ho:∀ b cells,O o0 b=some cells->O os b=some cells)(h0:I n (eN t0 ks) o0)
  (round:∀ m t o,I m t o->AW L P c ⟨n0,t,o⟩ (iy (fun s'=>s'.n=n0/\∃ m' o',m'<m/\I m' (eN s'.t ks) o'/\∀ b cells,O o' b=some cells->O s'.o b=some cells) Q)):AW L P (.loop c) ⟨n0,t0,os⟩ Q:=by
 refine AW.TI ks o0 ho (AW.loop (fun m s'=>s'.n=n0/\I m s'.t s'.o) n ⟨rfl,h0⟩ ?_)
 rintro m ⟨n',t,o'⟩ ⟨rfl,hI⟩
 refine fun B F0 w0 a w hd=>wp_mono (round m t o' hI B F0 w0 a w hd) ?_
 rintro e a' w' ⟨s',h1,h2⟩
 cases e with
 | normal =>
  obtain ⟨hn,m',o'',hm,hI',ho'⟩:=h1
  exact ⟨⟨_,eN s'.t ks,o''⟩,⟨m',hm,rfl,hI'⟩,h2.weaken hn.symm (Fx s'.t ks) ho'⟩
 | _=>exact ⟨s',h1,h2⟩
end
theorem eQ(b:Nat)(c:Option (List AV))(o:List (Nat×Option (List AV))):O ((b,c)::o) b=c:=by simp [O]
theorem vQ{b b':Nat}(h:b'≠b)(c:Option (List AV))(o:List (Nat×Option (List AV))):O ((b',c)::o) b=O o b:=by simp [O,h]
theorem wrap_i64{x:Int}(h1:-9223372036854775808<=x)(h2:x<=9223372036854775807):IntKind.i64.wrap x=x:=by
 rw [IntKind.wrap_i64];omega
attribute [go_sem] W oH List.size_toArray List.length_cons List.length_nil List.range List.range.loop List.range' List.getElem?_toArray List.getElem?_cons_zero List.getElem?_cons_succ isL cN ovc ev T upd put bW fB AV.df AV.bL true_and List.map_cons List.map_nil Nat.zero_add cond_true cond_false Nat.blt Nat.ble List.nil_append Fl o3 unV Option.bind_some LY okc evS AV.strip implies_true and_true if_true Op.operands Bool.true_and beq_true Bool.and_true Bool.cond_false_right Bool.cond_true_left imp_self forall_const zU oP Mj Ir Option.map_some val List.drop_zero List.drop_succ_cons List.take_succ_cons List.take_zero List.head?_cons Bool.and_self Bool.not_true Bool.not_false AV.elem AV.cells AV.bZ AV.frz eN List.cons_append oe tN fnA AV.closed AV.ck List.all_cons List.all_nil List.contains List.elem List.flatMap_cons List.flatMap_nil List.append_nil Option.isSome_some List.nodup_nil AV.one eQ gP kills jk Int.toNat_natCast Int.natCast_nonneg List.length_map Option.getD_some Value.oneCell' BEq.rfl List.toList_toArray avz Fm Int.ofNat_lt Int.ofNat_le
end
section
theorem fM.frz{L:Nat->Nat}{P:Program}{f:FuncId}{args:List AV}{res:AV}(h:fM L P f args res):fM L P f args res.frz:=by
 intro w F vs hF ht hr
 refine (h w F vs hF ht hr).mono ?_
 rintro e w' ⟨v,F',fp,rfl,h1,h2,h3,h4,h5,h6⟩
 refine ⟨v,fun b=>F' b\/b∈fp,[],rfl,h1,fun b hb=>.inl (h2 b hb),?_,Rep.frz (fun b hb=>.inl hb) (fun b hb=>.inr hb) h4,by simp,by simp⟩
 rintro b (hb|hb)
 ·exact h3 b hb
 ·exact .inr (h6 b hb).2
def xJ(r:ResultVar)(tmps:Array Value):Sem Value :=
 match r with
 | .tmp t=>pure (tmps.getD t undef)
 | .cell a t=>do loadVar t (<- asAddr (tmps.getD a undef))
def Zw(L:Nat->Nat)(P:Program)(s:AS)(r:ResultVar)(x:AV):Prop :=
 ∀ B F0 w0 a w,Den L B F0 w0 s a w->∃ v F' fp,(xJ r a.tmps).run P w=.ok v w/\(∀ b,F0 b->F' b)/\(∀ b,F' b->F0 b\/(¬ B b/\b<w.heap.size)) /\
  Rep L F' w x v fp/\fp.Nodup/\∀ b,b∈fp->¬ F' b/\¬ B b/\b<w.heap.size
section
variable {L : Nat -> Nat} {P : Program} {s : AS} {fn : Func} {r : ResultVar} {x : AV}
theorem aq.Bk{F:Nat->Prop}{w:World}{l:List AV}{vs:List Value}{fp:List Nat}(r:aq L F w l vs fp)(i n:Nat):∃ f,aq L F w ((l.drop i).take n) ((vs.drop i).take n) f/\f.Sublist fp:=by
 have hl:=r.len
 have e1:l=l.take i++((l.drop i).take n++(l.drop i).drop n):=by rw [List.take_append_drop,List.take_append_drop]
 have r0:=r
 rw [e1] at r
 obtain ⟨v1,v23,f1,f23,rfl,rfl,r1,r23⟩:=r.split
 obtain ⟨v2,v3,f2,f3,rfl,rfl,r2,r3⟩:=r23.split
 obtain ⟨f,hf,_⟩:=r0.cut i n
 have h1:=r1.len
 have h2:=r2.len
 have e2:((v1++(v2++v3)).drop i).take n=v2:=by
  simp only [List.length_take,List.length_drop] at h1 h2
  have h3:=r3.len
  simp only [List.length_drop] at h3
  by_cases hi:i<=l.length
  ·have hv1:v1.length=i:=by omega
   rw [<- hv1,List.drop_left]
   by_cases hn:n<=l.length - i
   ·have hv2:v2.length=n:=by omega
    rw [<- hv2,List.take_left]
   ·have hv3:v3=[]:=List.eq_nil_of_length_eq_zero (by omega)
    subst hv3
    rw [List.append_nil,List.take_of_length_le (by omega)]
  ·have hv2:v2=[]:=List.eq_nil_of_length_eq_zero (by omega)
   have hv3:v3=[]:=List.eq_nil_of_length_eq_zero (by omega)
   subst hv2 hv3
   have:v1.drop i=[]:=List.drop_eq_nil_of_le (by omega)
   simp [this]
 rw [e2]
 exact ⟨f2,r2,(List.sublist_append_left f2 f3).trans (List.sublist_append_right f1 _)⟩
end
end
section
def gq(o:List (Nat×Option (List AV)))(b:Nat):Prop:=∀ b' cells,O o b'=some cells->b'≠b
section
variable {L : Nat -> Nat} {P : Program} {n : Nat} {t : List (Nat × AV)} {o : List (Nat × Option (List AV))} {ops : Array Oper} {i : Nat} {l : List Nat} {K' : AS -> Prop} {oo : Oper}
theorem cD.fresh{B:Nat->Prop}{F0:Nat->Prop}{w0:World}{F:Nat->Prop}{own:Nat->Own}{fp fs:Nat->List Nat}{s:AS}{a:Act}{w:World}(h:cD L B F0 w0 F own fp fs s a w):gq s.o w.heap.size:=by
 intro b' cells hb e
 have:=(h.ol b' (by rw [(h.obj b' cells hb).1];simp)).2
 omega
end
def mkC{α:Type}(f:α->AV)(zs:List Value)(l:List α)(k:Nat):List AV:=((l.take k).map f).flatMap AV.cells++(List.replicate (l.length - k) zs).flatten.map avz
theorem yx{α:Type}(f:α->AV)(sz:Nat)(hf:∀ x,(f x).cells.length=sz):∀ l:List α,((l.map f).flatMap AV.cells).length=l.length * sz
 | []=>by simp
 | x::xs=>by
  rw [List.map_cons,List.flatMap_cons,List.length_append,hf,yx f sz hf xs,List.length_cons,Nat.add_mul];omega
theorem OQ(zs:List Value)(sz:Nat)(hz:zs.length=sz)(m:Nat):((List.replicate m zs).flatten.map avz).length=m * sz:=by
 simp [hz]
theorem jN{α:Type}(f:α->AV)(zs:List Value)(l:List α):mkC f zs l 0=(List.replicate l.length zs).flatten.map avz:=by simp [mkC]
theorem kH{α:Type}(f:α->AV)(zs:List Value)(sz:Nat)(hf:∀ x,(f x).cells.length=sz)(hz:zs.length=sz)(l:List α)(k:Nat)(hk:k<=l.length):(mkC f zs l k).length=l.length * sz:=by
 rw [mkC,List.length_append,yx f sz hf,OQ zs sz hz,List.length_take,Nat.min_eq_left hk,<- Nat.add_mul];congr 1;omega
theorem Ma{α:Type}(f:α->AV)(zs:List Value)(sz:Nat)(hf:∀ x,(f x).cells.length=sz)(hz:zs.length=sz)(l:List α)(k:Nat)(hk:k<l.length) :
  (mkC f zs l k).take (k * sz)++(f l[k]).cells++(mkC f zs l k).drop (k * sz+sz)=mkC f zs l (k+1):=by
 have hA:(((l.take k).map f).flatMap AV.cells).length=k * sz:=by rw [yx f sz hf,List.length_take,Nat.min_eq_left (by omega)]
 have e1:(mkC f zs l k).take (k * sz)=((l.take k).map f).flatMap AV.cells:=by rw [mkC,<- hA,List.take_left]
 have e2:(mkC f zs l k).drop (k * sz+sz)=(List.replicate (l.length - (k+1)) zs).flatten.map avz:=by
  rw [mkC,<- List.drop_drop,<- hA,List.drop_left,show l.length - k=(l.length - (k+1))+1 by omega,List.replicate_succ,List.flatten_cons,List.map_append]
  have:(zs.map avz).length=sz:=by simpa using hz
  rw [<- this,List.drop_left]
 rw [e1,e2,mkC,List.take_succ_eq_append_getElem hk,List.map_append,List.flatMap_append]
 simp
theorem Pc{α:Type}(f:α->AV)(zs:List Value)(l:List α):mkC f zs l l.length=(l.map f).flatMap AV.cells:=by simp [mkC]
end
section
abbrev Sto:=List (Nat×Option (List AV))
theorem fP(t:List (Nat×AV))(i:Nat)(x:AV)(j:Nat):T ((i,x)::t) j=if i=j then x else T t j:=by
 by_cases h:i=j
 ·simp [T,h]
 ·have:(i == j)=false:=by simpa using h
  simp [T,h,this]
section
variable {L : Nat -> Nat} {F : Nat -> Prop} {w : World}
theorem aq.put:∀ {l:List AV} {vs:List Value} {fp:List Nat} {k:Nat} {x:AV},aq L F w l vs fp->l[k]? = some x ->
  ∃ y f1 fx f2,vs[k]? = some y/\fp=f1++(fx++f2)/\Rep L F w x y fx/\∀ x' fx',Rep L F w x' y fx'->aq L F w (l.set k x') vs (f1++(fx'++f2))
 | [],_,_,_,_,_,h=>by simp at h
 | z::l,vs,fp,0,x,r,h=>by
  simp at h;subst h
  simp only [aq] at r
  obtain ⟨y,vs',f1,f2,rfl,rfl,hx,hxs⟩:=r
  exact ⟨y,[],f1,f2,by simp,by simp,hx,fun x' fx' h'=>by simp only [List.set_cons_zero,aq];exact ⟨y,vs',fx',f2,rfl,by simp,h',hxs⟩⟩
 | z::l,vs,fp,k+1,x,r,h=>by
  simp only [aq] at r
  obtain ⟨y,vs',f1,f2,rfl,rfl,hx,hxs⟩:=r
  obtain ⟨y',g1,gx,g2,h1,rfl,h2,h3⟩:=aq.put hxs (k:=k) (by simpa using h)
  exact ⟨y',f1++g1,gx,g2,by simpa using h1,by simp,h2,fun x' fx' h'=>by simp only [List.set_cons_succ,aq];exact ⟨y,vs',f1,g1++(fx'++g2),rfl,by simp,hx,h3 x' fx' h'⟩⟩
end
def Imp(L:Nat->Nat)(s:AS)(Q:AS->Prop):Prop:=∀ B F0 w0 a w,Den L B F0 w0 s a w->∃ s',Q s'/\Den L B F0 w0 s' a w
section
variable {L : Nat -> Nat} {P : Program} {s : AS}
theorem AW.imp{c:Code}{Q:Exit->AS->Prop}(h:Imp L s (fun s'=>AW L P c s' Q)):AW L P c s Q:=by
 intro B F0 w0 a w hd
 obtain ⟨s',h1,h2⟩:=h B F0 w0 a w hd
 exact h1 B F0 w0 a w h2
theorem gK.imp{ops:Array Oper}{l:List Nat}{K:AS->Prop}(h:Imp L s (fun s'=>gK L P ops l s' K)):gK L P ops l s K:=by
 intro B F0 w0 a w Q hd hQ
 obtain ⟨s',h1,h2⟩:=h B F0 w0 a w hd
 exact h1 B F0 w0 a w Q h2 hQ
theorem Imp.id{Q:AS->Prop}(h:Q s):Imp L s Q:=fun _ _ _ _ _ hd=>⟨s,h,hd⟩
theorem Imp.bind{Q R:AS->Prop}(h:Imp L s Q)(hq:∀ s,Q s->Imp L s R):Imp L s R:=fun B F0 w0 a w hd=>by
 obtain ⟨s',h1,h2⟩:=h B F0 w0 a w hd
 exact hq _ h1 B F0 w0 a w h2
end
section
variable {L : Nat -> Nat} {n : Nat} {t : List (Nat × AV)} {o : Sto} {Q : AS -> Prop}
theorem Imp.frz(i:Nat)(h:Q ⟨n,(i,(T t i).frz)::t,o⟩):Imp L ⟨n,t,o⟩ Q:=by
 intro B F0 w0 a w hd
 refine ⟨_,h,?_⟩
 obtain ⟨F,own,fp,fs,hd⟩:=hd
 classical
 let F':Nat->Prop:=fun b=>F b\/b∈fp i
 let own':Nat->Own:=fun b=>if b∈fp i then .none else own b
 have hid:Ext (fun _=>True) w w:=⟨Nat.le_refl _,fun _ _=>rfl,fun b c T z hc=>⟨c,hc,rfl⟩⟩
 have hnot:∀ b,own b≠.slot i->own' b=own b:=fun b hb=>by
  have:b ∉ fp i:=fun hm=>hb (hd.so i b hm)
  simp only [own',if_neg this]
 refine ⟨F',own',fun j=>if j=i then [] else fp j,fs,{ below:=hd.below,hB:=hd.hB,tb:=hd.tb,f0:=fun b hb=>.inl (hd.f0 b hb),fl:=?_,ol:=?_,defers:=hd.defers,size:=hd.size,slots:=?_,sn:=?_,so:=?_,obj:=?_ }⟩
 ·rintro b (hb|hb)
  ·have:=hd.fl b hb
   exact ⟨by simp only [own'];split<;>simp [this.1],this.2⟩
  ·have:=hd.ig hb
   exact ⟨by simp only [own',if_pos hb],this.2,.inr this.1⟩
 ·intro b hb
  simp only [own'] at hb
  split at hb
  ·exact absurd rfl hb
  ·exact hd.ol b hb
 ·intro j
  rw [fP]
  by_cases e:i=j
  ·subst e
   simp only [if_true]
   exact Rep.frz (fun b hb=>.inl hb) (fun b hb=>.inr hb) (hd.slots i)
  ·have e':¬ j=i:=fun h=>e h.symm
   simp only [if_neg e,if_neg e']
   exact Rep.ext hid (fun b hb=>⟨.inl hb,trivial⟩) (fun _ _=>trivial) (hd.slots j)
 ·intro j
  split
  ·simp
  ·exact hd.sn j
 ·intro j b hb
  split at hb
  ·simp at hb
  ·rename_i e
   have:=hd.so j b hb
   rw [hnot b (by rw [this];simpa using e)];exact this
 ·intro b cells hO
  obtain ⟨h1,h2,h3,c,Ty,vals,rest,h4,h5,h6⟩:=hd.obj b cells hO
  refine ⟨by rw [hnot b (by rw [h1];simp)];exact h1,h2,fun k hk=>by rw [hnot k (by rw [h3 k hk];simp)];exact h3 k hk,c,Ty,vals,rest,h4,h5,?_⟩
  exact aq.ext hid (fun b hb=>⟨.inl hb,trivial⟩) (fun _ _=>trivial) h6
theorem xH{w:World}{b:Nat}{vals:List Value}(h:gp w b 0 vals){m:Nat}(ho:ma w b m):∃ c Ty rest,w.heap[b]? = some (.cells c Ty (0,0))/\c.toList=vals++rest:=by
 obtain ⟨c,T,z,h1,h2⟩:=h
 obtain ⟨c',T',h3,_⟩:=ho
 rw [h1] at h3
 cases h3
 refine ⟨c,T,c.toList.drop vals.length,h1,?_⟩
 have:c.toList.take vals.length=vals:=by
  apply List.ext_getElem?
  intro i
  rw [List.getElem?_take]
  split
  ·rename_i hi
   have:=h2 i hi
   rw [Nat.zero_add] at this
   rw [Array.getElem?_toList];exact this
  ·rw [List.getElem?_eq_none (by omega)]
 conv=>lhs;rw [<- List.take_append_drop vals.length c.toList,this]
theorem Imp.unfold(i:Nat){sz:Nat}{l:List AV}(hT:T t i=.sl true sz l)(hl:l≠[])(hel:∀ x,x∈l->x.elem sz=true)
  (h:∀ b,gq o b->Q ⟨n,(i,.arr b 0 l.length sz)::t,(b,some (l.flatMap AV.cells))::o⟩):Imp L ⟨n,t,o⟩ Q:=by
 intro B F0 w0 a w hd
 obtain ⟨F,own,fp,fs,hd⟩:=hd
 have hr:=hd.slots i
 simp only at hr
 rw [hT] at hr
 simp only [Rep] at hr
 rcases hr with ⟨_,e,_⟩|⟨b,off,cap,vals,fp',hy,h1,h2,hrow,he,ho⟩
 ·exact absurd e hl
 obtain ⟨hfp,rfl,gX⟩:fp i=b::fp'/\off=0/\ma w b (off+cap * sz):=by
  rcases ho with ⟨_,h⟩|⟨e,_⟩
  ·exact h
  ·cases e
 have hsb:own b=.slot i:=hd.so i b (by rw [hfp];simp)
 have hnd:=hd.sn i
 rw [hfp,List.nodup_cons] at hnd
 have hfr:gq o b:=by
  intro b' cells hO e
  have:=(hd.obj b' cells hO).1
  rw [e,hsb] at this;cases this
 refine ⟨_,h b hfr,?_⟩
 obtain ⟨c,Ty,rest,hc,hcl⟩:=xH hrow gX
 classical
 let own':Nat->Own:=fun k=>if k=b then .key else if k∈fp' then .obj b else own k
 have hnot:∀ k,own k≠.slot i->own' k=own k:=fun k hk=>by
  have n1:k≠b:=fun e=>hk (by rw [e];exact hsb)
  have n2:k ∉ fp':=fun hm=>hk (hd.so i k (by rw [hfp];simp [hm]))
  simp only [own',if_neg n1,if_neg n2]
 refine ⟨F,own',fun j=>if j=i then [] else fp j,fun k=>if k=b then fp' else fs k,{ below:=hd.below,hB:=hd.hB,tb:=hd.tb,f0:=hd.f0,fl:=?_,ol:=?_,defers:=hd.defers,size:=hd.size,slots:=?_,sn:=?_,so:=?_,obj:=?_ }⟩
 ·intro k hk
  have:=hd.fl k hk
  exact ⟨by rw [hnot k (by rw [this.1];simp)];exact this.1,this.2⟩
 ·intro k hk
  by_cases e1:k=b
  ·subst e1;exact hd.ol k (by rw [hsb];simp)
  ·by_cases e2:k∈fp'
   ·exact hd.ig (i:=i) (by rw [hfp];simp [e2])
   ·simp only [own',if_neg e1,if_neg e2] at hk;exact hd.ol k hk
 ·intro j
  rw [fP]
  by_cases e:i=j
  ·subst e
   simp only [if_true,Rep]
   exact ⟨trivial,cap,hy,h1,h2,gX⟩
  ·have e':¬ j=i:=fun h=>e h.symm
   simp only [if_neg e,if_neg e'];exact hd.slots j
 ·intro j
  split
  ·simp
  ·exact hd.sn j
 ·intro j k hk
  split at hk
  ·simp at hk
  ·rename_i e
   have:=hd.so j k hk
   rw [hnot k (by rw [this];simpa using e)];exact this
 ·intro q cells hO
  simp only [O] at hO
  by_cases e:b=q
  ·subst e
   rw [if_pos rfl] at hO;cases hO
   refine ⟨by simp [own'],by simpa using hnd.2,fun k hk=>?_,c,Ty,vals,rest,hc,hcl,by simpa using bT.flat hel he⟩
   simp only [if_true] at hk
   have n1:k≠b:=fun e=>hnd.1 (by rw [<- e];exact hk)
   simp only [own',if_neg n1,if_pos hk]
  ·rw [if_neg e] at hO
   have e':¬ q=b:=fun h=>e h.symm
   obtain ⟨g1,g2,g3,g4⟩:=hd.obj q cells hO
   simp only [if_neg e']
   exact ⟨by rw [hnot q (by rw [g1];simp)];exact g1,g2,fun k hk=>by rw [hnot k (by rw [g3 k hk];simp)];exact g3 k hk,g4⟩
theorem Imp.fold(i:Nat){b len sz:Nat}{cells l:List AV}(hT:T t i=.arr b 0 len sz)(hO:O o b=some cells)(hlen:l.length=len)(hfl:l.flatMap AV.cells=cells.take (len * sz))(hel:∀ x,x∈l->x.elem sz=true)
  (h:Q ⟨n,(i,.sl true sz l)::t,(b,none)::o⟩):Imp L ⟨n,t,o⟩ Q:=by
 intro B F0 w0 a w hd
 refine ⟨_,h,?_⟩
 obtain ⟨F,own,fp,fs,hd⟩:=hd
 have hr:=hd.slots i
 simp only at hr
 rw [hT] at hr
 simp only [Rep] at hr
 obtain ⟨hfp,cap,hv,hlc,hlL,gX⟩:=hr
 obtain ⟨hkey,iO,dW,c,Ty,vals,rest,hc,hcl,gE⟩:=hd.obj b cells hO
 obtain ⟨f,hl2,hsub⟩:=gE.Bk 0 (len * sz)
 have hrow:gp w b 0 vals:=⟨c,Ty,_,hc,fun i hi=>by rw [Nat.zero_add,<- Array.getElem?_toList,hcl,List.getElem?_append_left hi]⟩
 classical
 let own':Nat->Own:=fun k=>if k=b then .slot i else if k∈f then .slot i else own k
 have hnot:∀ k,own k≠.key->own k≠.obj b->own' k=own k:=fun k h1 h2=>by
  have n1:k≠b:=fun e=>h1 (by rw [e];exact hkey)
  have n2:k ∉ f:=fun hm=>h2 (dW k (hsub.subset hm))
  simp only [own',if_neg n1,if_neg n2]
 refine ⟨F,own',fun j=>if j=i then b::f else fp j,fs,{ below:=hd.below,hB:=hd.hB,tb:=hd.tb,f0:=hd.f0,fl:=?_,ol:=?_,defers:=hd.defers,size:=hd.size,slots:=?_,sn:=?_,so:=?_,obj:=?_ }⟩
 ·intro k hk
  have:=hd.fl k hk
  exact ⟨by rw [hnot k (by rw [this.1];simp) (by rw [this.1];simp)];exact this.1,this.2⟩
 ·intro k hk
  by_cases e1:k=b
  ·subst e1;exact hd.ol k (by rw [hkey];simp)
  ·by_cases e2:k∈f
   ·exact hd.ol k (by rw [dW k (hsub.subset e2)];simp)
   ·simp only [own',if_neg e1,if_neg e2] at hk;exact hd.ol k hk
 ·intro j
  rw [fP]
  by_cases e:i=j
  ·subst e
   simp only [if_true,Rep]
   refine .inr ⟨b,0,cap,(vals.drop 0).take (len * sz),f,by rw [hlen];exact hv,by omega,by omega,?_,?_,.inl ⟨by trivial,rfl,rfl,gX⟩⟩
   ·have:=hrow.cut 0 (len * sz);simpa using this
   ·refine aq.kX hel ?_
    rw [hfl];simpa using hl2
  ·have e':¬ j=i:=fun h=>e h.symm
   simp only [if_neg e,if_neg e'];exact hd.slots j
 ·intro j
  split
  ·rw [List.nodup_cons]
   refine ⟨fun hm=>?_,hsub.nodup iO⟩
   have e:=dW b (hsub.subset hm)
   rw [hkey] at e;cases e
  ·exact hd.sn j
 ·intro j k hk
  split at hk
  ·rename_i e
   subst e
   rcases List.mem_cons.1 hk with rfl|hk
   ·simp [own']
   ·simp only [own'];split<;>simp [hk]
  ·have:=hd.so j k hk
   rw [hnot k (by rw [this];simp) (by rw [this];simp)];exact this
 ·intro q cs hq
  simp only [O] at hq
  by_cases e:b=q
  ·rw [if_pos e] at hq;cases hq
  ·rw [if_neg e] at hq
   obtain ⟨g1,g2,g3,g4⟩:=hd.obj q cs hq
   have n1:q≠b:=fun h=>e h.symm
   have n2:q ∉ f:=fun hm=>by have:=dW q (hsub.subset hm);rw [g1] at this;cases this
   refine ⟨by simp only [own',if_neg n1,if_neg n2];exact g1,g2,fun k hk=>?_,g4⟩
   rw [hnot k (by rw [g3 k hk];simp) (by rw [g3 k hk];simpa using n1)];exact g3 k hk
theorem Imp.zF{b0 k b len sz:Nat}{cells0 cells l:List AV}(hO0:O o b0=some cells0)(hk:cells0[k]? = some (.arr b 0 len sz))(hO:O o b=some cells)(hne:b≠b0)(hlen:l.length=len)(hfl:l.flatMap AV.cells=cells.take (len * sz))(hel:∀ x,x∈l->x.elem sz=true)
  (h:Q ⟨n,t,(b,none)::(b0,some (cells0.set k (.sl true sz l)))::o⟩):Imp L ⟨n,t,o⟩ Q:=by
 intro B F0 w0 a w hd
 refine ⟨_,h,?_⟩
 obtain ⟨F,own,fp,fs,hd⟩:=hd
 obtain ⟨tg,CS,th,c0,Ty0,vZ,CO,hc0,yw,Ix⟩:=hd.obj b0 cells0 hO0
 obtain ⟨y,f1,fx,f2,hvk,qb,hr,hset⟩:=Ix.put hk
 simp only [Rep] at hr
 obtain ⟨rfl,cap,hv,hlc,hlL,gX⟩:=hr
 rw [List.nil_append] at qb
 obtain ⟨hkey,iO,dW,c,Ty,vals,rest,hc,hcl,gE⟩:=hd.obj b cells hO
 obtain ⟨f,hl2,hsub⟩:=gE.Bk 0 (len * sz)
 have hrow:gp w b 0 vals:=⟨c,Ty,_,hc,fun i hi=>by rw [Nat.zero_add,<- Array.getElem?_toList,hcl,List.getElem?_append_left hi]⟩
 classical
 let own':Nat->Own:=fun q=>if q=b then .obj b0 else if q∈f then .obj b0 else own q
 have hnot:∀ q,own q≠.key->own q≠.obj b->own' q=own q:=fun q h1 h2=>by
  have n1:q≠b:=fun e=>h1 (by rw [e];exact hkey)
  have n2:q ∉ f:=fun hm=>h2 (dW q (hsub.subset hm))
  simp only [own',if_neg n1,if_neg n2]
 refine ⟨F,own',fp,fun q=>if q=b0 then f1++((b::f)++f2) else fs q,{ below:=hd.below,hB:=hd.hB,tb:=hd.tb,f0:=hd.f0,fl:=?_,ol:=?_,defers:=hd.defers,size:=hd.size,slots:=hd.slots,sn:=hd.sn,so:=?_,obj:=?_ }⟩
 ·intro k hk
  have:=hd.fl k hk
  exact ⟨by rw [hnot k (by rw [this.1];simp) (by rw [this.1];simp)];exact this.1,this.2⟩
 ·intro k hk
  by_cases e1:k=b
  ·subst e1;exact hd.ol k (by rw [hkey];simp)
  ·by_cases e2:k∈f
   ·exact hd.ol k (by rw [dW k (hsub.subset e2)];simp)
   ·simp only [own',if_neg e1,if_neg e2] at hk;exact hd.ol k hk
 ·intro j k hk
  have:=hd.so j k hk
  rw [hnot k (by rw [this];simp) (by rw [this];simp)];exact this
 ·intro q cs hq
  simp only [O] at hq
  by_cases e:b=q
  ·rw [if_pos e] at hq;cases hq
  ·rw [if_neg e] at hq
   have n1:q≠b:=fun h=>e h.symm
   by_cases e2:b0=q
   ·subst e2
    rw [if_pos rfl] at hq;cases hq
    simp only [if_true]
    have n2:b0 ∉ f:=fun hm=>by have:=dW b0 (hsub.subset hm);rw [tg] at this;cases this
    have hfb:∀ q,q∈f1\/q∈f2->q≠b/\q ∉ f:=by
     intro q hq
     have e1:=th q (by rw [qb];rcases hq with h|h<;>simp [h])
     refine ⟨fun e=>by (rw [e,hkey] at e1;cases e1),fun hm=>?_⟩
     have:=dW q (hsub.subset hm)
     rw [e1] at this;cases this;exact hne rfl
    refine ⟨by simp only [own',if_neg n1,if_neg n2];exact tg,?_,fun q hq=>?_,c0,Ty0,vZ,CO,hc0,yw,?_⟩
    ·have hnd:=CS
     rw [qb,List.nodup_append] at hnd
     obtain ⟨hn1,hn2,hn3⟩:=hnd
     rw [List.nodup_append]
     refine ⟨hn1,?_,fun q hq q' hq' e=>?_⟩
     ·rw [List.nodup_append]
      refine ⟨?_,hn2,fun q hq q' hq' e=>?_⟩
      ·rw [List.nodup_cons]
       refine ⟨fun hm=>?_,hsub.nodup iO⟩
       have e:=dW b (hsub.subset hm)
       rw [hkey] at e;cases e
      ·subst e
       have:=hfb q (.inr hq')
       rcases List.mem_cons.1 hq with e|e
       ·exact this.1 e
       ·exact this.2 e
     ·subst e
      have:=hfb q (.inl hq)
      rcases List.mem_append.1 hq' with e|e
      ·rcases List.mem_cons.1 e with e|e
       ·exact this.1 e
       ·exact this.2 e
      ·exact hn3 q hq q e rfl
    ·rcases List.mem_append.1 hq with hq|hq
     ·have:=hfb q (.inl hq)
      simp only [own',if_neg this.1,if_neg this.2];exact th q (by rw [qb];simp [hq])
     ·rcases List.mem_append.1 hq with hq|hq
      ·rcases List.mem_cons.1 hq with rfl|hq
       ·simp [own']
       ·simp only [own'];split<;>simp [hq]
      ·have:=hfb q (.inr hq)
       simp only [own',if_neg this.1,if_neg this.2];exact th q (by rw [qb];simp [hq])
    ·refine hset (.sl true sz l) (b::f) ?_
     simp only [Rep]
     refine .inr ⟨b,0,cap,(vals.drop 0).take (len * sz),f,by rw [hlen];exact hv,by omega,by omega,?_,?_,.inl ⟨by trivial,rfl,rfl,gX⟩⟩
     ·have:=hrow.cut 0 (len * sz);simpa using this
     ·refine aq.kX hel ?_
      rw [hfl];simpa using hl2
   ·rw [if_neg e2] at hq
    have e2':¬ q=b0:=fun h=>e2 h.symm
    obtain ⟨g1,g2,g3,g4⟩:=hd.obj q cs hq
    simp only [if_neg e2']
    have n2:q ∉ f:=fun hm=>by have:=dW q (hsub.subset hm);rw [g1] at this;cases this
    refine ⟨by simp only [own',if_neg n1,if_neg n2];exact g1,g2,fun k hk=>?_,g4⟩
    rw [hnot k (by rw [g3 k hk];simp) (by rw [g3 k hk];simpa using n1)];exact g3 k hk
end
end
section
def jO(L:Nat->Nat)(P:Program)(f:FuncId)(os:Sto)(args:List AV)(Q:AV->Sto->Prop):Prop :=
 ∀ (B F:Nat->Prop) (own:Nat->Own) (fs:Nat->List Nat) (w:World) (vs:List Value),
  kW L B F w F own fs os w->aq L F w args vs [] ->
  Calls P f vs.toArray w fun e w'=>∃ v res os' F' own' fs' fp,e=.returned v/\Q res os'/\kW L B F w F' own' fs' os' w'/\Rep L F' w' res v fp/\fp.Nodup/\(∀ b,b∈fp->own' b=.slot 0)
theorem jO.mono{L:Nat->Nat}{P:Program}{f:FuncId}{os:Sto}{args:List AV}{Q R:AV->Sto->Prop}(h:jO L P f os args Q)(hq:∀ x o,Q x o->R x o):jO L P f os args R:=by
 intro B F own fs w vs h1 h2
 refine (h B F own fs w vs h1 h2).mono ?_
 rintro e w' ⟨v,res,os',F',own',fs',fp,h3,h4,h5⟩
 exact ⟨v,res,os',F',own',fs',fp,h3,hq _ _ h4,h5⟩
def aJ(L:Nat->Nat)(P:Program)(fn:Func)(s:AS)(Q:AV->Sto->Prop):Prop :=
 ∀ B F0 w0 a w,Den L B F0 w0 s a w->∃ v res os' F' own' fs' fp,(results fn a.tmps).run P w=.ok v w/\Q res os'/\kW L B F0 w0 F' own' fs' os' w/\Rep L F' w res v fp/\fp.Nodup/\(∀ b,b∈fp->own' b=.slot 0)
def Bc(L:Nat->Nat)(P:Program)(fn:Func)(Q:AV->Sto->Prop):Exit->AS->Prop
 | .ret,s=>aJ L P fn s Q
 | .normal,s=>aJ L P fn s Q
 | _,_=>False
theorem jO.gA{L:Nat->Nat}{P:Program}{f:FuncId}{fn:Func}{c:Code}{os:Sto}{args:List AV}{Q:AV->Sto->Prop}(hf:P.funcs[f]? = some fn)(hb:fn.body=some c)(hn:Nat.ble args.length fn.ntmps=true)
  (h:AW L P c ⟨fn.ntmps,oH 0 args,os⟩ (Bc L P fn Q)):jO L P f os args Q:=by
 intro B F own fs w vs hS hr
 have hl:=hr.len
 have hn':args.length<=fn.ntmps:=by simpa using hn
 refine calls_of_wp hf hb (wp_mono (h B F w _ w ?_) ?_)
 ·refine ⟨F,own,fun _=>[],fs,{ hS with defers:=rfl,size:=by simp;omega,slots:=?_,sn:=by simp,so:=by simp }⟩
  intro i
  simp only [zX,Nat.zero_le,if_true,Nat.sub_zero]
  cases hx:args[i]? with
  | none=>simp [Rep]
  | some x =>
   obtain ⟨y,f',h1,h2,h3⟩:=hr.get hx
   have:f'=[]:=List.eq_nil_iff_forall_not_mem.2 fun b hb=>by simpa using h3 b hb
   subst this
   have hlt:i<vs.length:=by
    rcases Nat.lt_or_ge i vs.length with h|h
    ·exact h
    ·rw [List.getElem?_eq_none h] at h1;cases h1
   have e:(vs.toArray++Array.replicate (fn.ntmps - vs.toArray.size) undef).getD i undef=y:=by
    rw [Array.getD_eq_getD_getElem?,Array.getElem?_append_left (by simpa using hlt)]
    simp [h1]
   rw [e]
   exact h2
 ·rintro e a' w' ⟨s',h1,h2⟩
  have key:aJ L P fn s' Q->a'.defers=[]/\∃ v,(results fn a'.tmps).run P w'=.ok v w'/\∃ v' res os' F' own' fs' fp,Ending.returned v=.returned v'/\Q res os'/\kW L B F w F' own' fs' os' w'/\Rep L F' w' res v' fp/\fp.Nodup/\(∀ b,b∈fp->own' b=.slot 0):=by
   intro he
   obtain ⟨v,res,os',F',own',fs',fp,h3,h4,h5,h6,h7,h8⟩:=he _ _ _ _ _ h2
   obtain ⟨G,il,fp',fs2,hd⟩:=h2
   exact ⟨hd.defers,v,h3,v,res,os',F',own',fs',fp,rfl,h4,h5,h6,h7,h8⟩
  cases e with
  | ret=>exact key h1
  | normal=>exact key h1
  | exit _=>exact h1.elim
  | goto _=>exact h1.elim
  | panic _=>exact h1.elim
  | outgrown=>exact h1.elim
theorem fM.Q1{L:Nat->Nat}{P:Program}{f:FuncId}{args:List AV}{res:AV}(h:jO L P f [] args (fun x _=>x=res)):fM L P f args res:=by
 intro w F vs hF ht hr
 refine (h (fun b=>b<w.heap.size) F (fun _=>.none) (fun _=>[]) w vs { below:=Kp.refl _ _,hB:=fun _ h=>h,tb:=ht,f0:=fun _ h=>h,fl:=fun b hb=>⟨rfl,hF b hb,.inl hb⟩,ol:=fun b hb=>absurd rfl hb,obj:=by simp [O] } hr).mono ?_
 rintro e w' ⟨v,x,os',F',own',fs',fp,rfl,rfl,h5,h6,h7,h8⟩
 refine ⟨v,F',fp,rfl,⟨h5.below.os,h5.below.tape,h5.below.output,h5.below.size,h5.below.block⟩,h5.f0,fun b hb=>?_,h6,h7,fun b hb=>?_⟩
 ·have:=h5.fl b hb
  exact this.2.2.imp id fun e=>⟨by omega,this.2.1⟩
 ·have:=h5.ol b (by rw [h8 b hb];simp)
  refine ⟨fun hF=>?_,by omega,this.2⟩
  have e:=(h5.fl b hF).1
  rw [h8 b hb] at e;cases e
theorem Fy(o1 o2:Sto)(b:Nat):O (o1++o2) b=if b∈o1.map Prod.fst then O o1 b else O o2 b:=by
 induction o1 with
 | nil=>simp
 | cons p o1 ih =>
  by_cases h:p.1=b
  ·simp [O,h]
  ·have h':¬ b=p.1:=fun e=>h e.symm
   simp only [List.cons_append,O,if_neg h,ih,List.map_cons,List.mem_cons,h',false_or]
theorem Om{o:Sto}{b:Nat}{cells:List AV}(h:O o b=some cells):b∈o.map Prod.fst:=by
 induction o with
 | nil=>simp [O] at h
 | cons p o ih =>
  by_cases e:p.1=b
  ·simp [e]
  ·simp only [O,if_neg e] at h
   simp [ih h]
section
variable {L : Nat -> Nat} {P : Program} {s : AS} {o : Oper}
theorem zi{c:Call}{y:Operand}{xs:Array Operand}{ts:Array TypeId}{f:FuncId}{caps:List AV}{os:Sto}{Q:AV->Sto->Prop}(ho:o.op=.call c)(hc:c=⟨.value y,xs,ts⟩)(hd:cN s.n o.dst=true)(hy:fnA (ev s.t y)=some (f,caps))
  (hcn:AV.bL caps=true) (hn:AV.bL (xs.toList.map (ev s.t))=true) (he:enters P f=true) (hos:∀ b cells,O os b=some cells->O s.o b=some cells) (hg:jO L P f os (xs.toList.map (ev s.t)++caps) Q) {K:AS->Prop}
  (hK:∀ res os',Q res os'->(∀ b cells,O os' b=some cells->b ∉ os.map Prod.fst->∀ b' cells',O s.o b'=some cells'->b'≠b)->K ⟨s.n,put s.t o.dst res,os'++jk s.o (os.map Prod.fst)⟩):OpW L P o s K:=by
 subst hc
 intro B F0 w0 a w next Qn cw bI
 obtain ⟨F,own,fp,fs,h⟩:=cw
 have hry:=h.ev y
 obtain ⟨cvs,hyv,hcr⟩:∃ cvs:List Value,a.eval y=.func (.func f) #[] cvs.toArray/\aq L F w caps cvs []:=by
  generalize ev s.t y=z at hy hry
  unfold fnA at hy
  split at hy
  ·cases hy
   simp only [Rep] at hry
   obtain ⟨vs,e,hl⟩:=hry
   rw [aq.dP hcn hl] at hl
   exact ⟨vs,e,hl⟩
  ·split at hy
   ·rename_i first cap hsz
    cases hy
    simp only [Rep] at hry
    have e1:first=#[]:=Array.eq_empty_of_size_eq_zero hsz.1
    have e2:cap=#[]:=Array.eq_empty_of_size_eq_zero hsz.2
    exact ⟨[],by rw [hry.1,e1,e2],by simp [aq]⟩
   ·cases hy
  ·cases hy
 have hex:(execOp a.eval o).run P w=.ok (.enter f (xs.toList.map a.eval++cvs).toArray) w:=by
  have:=tv he (xs.toList.map a.eval++cvs).toArray w
  have e:xs.map a.eval++cvs.toArray=(xs.toList.map a.eval++cvs).toArray:=by apply Array.ext';simp
  rw [<- e] at this ⊢
  simp only [execOp,ho,resolve,Sem.run_bind,hyv,Deferred.ofValue,Sem.run_pure,Result.andThen_ok,invoke,Array.empty_append]
  exact this
 unfold Oper.wp
 rw [hex]
 have hall:=aq.join (aq.rG h xs.toList hn) hcr
 rw [List.append_nil] at hall
 classical
 let D:=os.map Prod.fst
 let U:Nat->Prop:=fun b=>b<w.heap.size/\¬ (b∈D/\own b=.key)/\¬ ∃ d,d∈D/\own b=.obj d
 let oO:Nat->Own:=fun b=>if U b then .none else own b
 have hUn:∀ b,b<w.heap.size->own b=.none->U b:=fun b hb e=>⟨hb,fun ⟨_,h⟩=>by (rw [e] at h;cases h),fun ⟨d,_,h⟩=>by (rw [e] at h;cases h)⟩
 have hUs:∀ b i,own b=.slot i->U b:=fun b i e=>⟨(h.ol b (by rw [e];simp)).2,fun ⟨_,h⟩=>by (rw [e] at h;cases h),fun ⟨d,_,h⟩=>by (rw [e] at h;cases h)⟩
 have hUB:∀ b,B b->U b:=fun b hb=>by
  refine hUn b (h.hB b hb) ?_
  rcases Classical.em (own b=.none) with e|e
  ·exact e
  ·exact absurd hb (h.ol b e).1
 have hS:kW L U F w F oO fs os w:=by
  refine { below:=Kp.refl _ _,hB:=fun b hb=>hb.1,tb:=h.tb.kp h.below hUB,f0:=fun _ h=>h,fl:=fun b hb=>⟨?_,(h.fl b hb).2.1,.inl hb⟩,ol:=?_,obj:=?_ }
  ·simp only [oO];split
   ·rfl
   ·exact (h.fl b hb).1
  ·intro b hb
   simp only [oO] at hb
   split at hb
   ·exact absurd rfl hb
   ·rename_i hu;exact ⟨hu,(h.ol b hb).2⟩
  ·intro b cells hO
   obtain ⟨g1,g2,g3,g4⟩:=h.obj b cells (hos b cells hO)
   have hm:b∈D:=Om hO
   refine ⟨?_,g2,fun k hk=>?_,g4⟩
   ·have:¬ U b:=fun hu=>hu.2.1 ⟨hm,g1⟩
    simp only [oO,if_neg this];exact g1
   ·have:¬ U k:=fun hu=>hu.2.2 ⟨b,hm,g3 k hk⟩
    simp only [oO,if_neg this];exact g3 k hk
 refine (hg U F oO fs w _ hS hall).mono ?_
 rintro e w' ⟨v,res,os',F',own',fs',fp',rfl,hQ,h5,h6,h7,h8⟩
 refine bI _ _ _ (hK res os' hQ fun b cells hO hnb b' cells' hO' e=>?_) ?_
 ·subst e
  obtain ⟨g1,_⟩:=h5.obj b' cells hO
  obtain ⟨g2,_⟩:=h.obj b' cells' hO'
  have hlt:=(h.ol b' (by rw [g2];simp)).2
  have hu:U b':=⟨hlt,fun e=>hnb e.1,fun ⟨d,_,e⟩=>by (rw [g2] at e;cases e)⟩
  exact (h5.ol b' (by rw [g1];simp)).1 hu
 have cl:Ext U w w':=⟨h5.below.size,h5.below.block,h5.below.shape⟩
 have hFS:∀ b,F b->F' b/\U b:=fun b hb=>⟨h5.f0 b hb,hUn b (h.fl b hb).2.1 (h.fl b hb).1⟩
 let il:Nat->Own:=fun b=>if U b then own b else match own' b with|.slot _=>(match o.dst with|some d=>.slot d|none=>.none)|x=>x
 have hU2:∀ b,U b->own' b=.none:=fun b hb=>by
  rcases Classical.em (own' b=.none) with e|e
  ·exact e
  ·exact absurd hb (h5.ol b e).1
 refine ⟨F',il,fun i=>if o.dst=some i then fp' else fp i,fun b=>if U b then fs b else fs' b,{ below:=?_,hB:=fun b hb=>Nat.lt_of_lt_of_le (h.hB b hb) h5.below.size,tb:=h.tb,f0:=fun b hb=>h5.f0 b (h.f0 b hb),fl:=?_,ol:=?_,defers:=?_,size:=?_,slots:=?_,sn:=?_,so:=?_,obj:=?_ }⟩
 ·exact h.below.trans (h5.below.mono hUB)
 ·intro b hb
  have g:=h5.fl b hb
  by_cases hu:U b
  ·have hF:F b:=g.2.2.resolve_right fun e=>e hu
   exact ⟨by simp only [il,if_pos hu];exact (h.fl b hF).1,g.2.1,(h.fl b hF).2.2⟩
  ·exact ⟨by simp only [il,if_neg hu,g.1],g.2.1,.inr fun hb'=>hu (hUB b hb')⟩
 ·intro b hb
  by_cases hu:U b
  ·simp only [il,if_pos hu] at hb
   exact ⟨(h.ol b hb).1,Nat.lt_of_lt_of_le hu.1 h5.below.size⟩
  ·simp only [il,if_neg hu] at hb
   have hne:own' b≠.none:=fun e=>by rw [e] at hb;exact hb rfl
   exact ⟨fun hb'=>hu (hUB b hb'),(h5.ol b hne).2⟩
 ·have:=h.defers;cases o.dst<;>simpa [Act.put] using this
 ·have:=h.size;cases o.dst<;>simpa [Act.put] using this
 ·intro i
  simp only [kV]
  rw [iF a o.dst v i (by rw [h.size];exact hd)]
  by_cases e:o.dst=some i
  ·simp only [e,if_true];exact h6
  ·simp only [if_neg e]
   exact Rep.ext cl hFS (fun b hb=>hUs b i (h.so i b hb)) (h.slots i)
 ·intro i
  split
  ·exact h7
  ·exact h.sn i
 ·intro i b hb
  by_cases e:o.dst=some i
  ·simp only [e,if_true] at hb
   have hu:¬ U b:=(h5.ol b (by rw [h8 b hb];simp)).1
   simp only [il,if_neg hu,h8 b hb,e]
  ·rw [if_neg e] at hb
   have:=h.so i b hb
   simp only [il,if_pos (hUs b i this)];exact this
 ·intro b cells hO
  simp only [Fy] at hO
  split at hO
  ·obtain ⟨g1,g2,g3,g4⟩:=h5.obj b cells hO
   have hu:¬ U b:=(h5.ol b (by rw [g1];simp)).1
   simp only [if_neg hu]
   refine ⟨by simp only [il,if_neg hu,g1],g2,fun k hk=>?_,g4⟩
   have hu':¬ U k:=(h5.ol k (by rw [g3 k hk];simp)).1
   simp only [il,if_neg hu',g3 k hk]
  ·rw [nE] at hO
   split at hO
   ·cases hO
   ·rename_i hnD
    obtain ⟨g1,g2,g3,c,Ty,vals,rest,g4,g5,g6⟩:=h.obj b cells hO
    have hu:U b:=⟨(h.ol b (by rw [g1];simp)).2,fun e=>hnD e.1,fun ⟨d,_,e⟩=>by (rw [g1] at e;cases e)⟩
    have huk:∀ k,k∈fs b->U k:=fun k hk=>⟨(h.ol k (by rw [g3 k hk];simp)).2,fun e=>by (have:=e.2;rw [g3 k hk] at this;cases this),fun ⟨d,hd,e⟩=>by (rw [g3 k hk] at e;cases e;exact hnD hd)⟩
    simp only [if_pos hu]
    refine ⟨by simp only [il,if_pos hu];exact g1,g2,fun k hk=>?_,c,Ty,vals,rest,?_,g5,aq.ext cl hFS huk g6⟩
    ·simp only [il,if_pos (huk k hk)];exact g3 k hk
    ·rw [h5.below.block b hu];exact g4
theorem JM{c:Call}{y:Operand}{xs:Array Operand}{ts:Array TypeId}{f:FuncId}{caps:List AV}{os:Sto}{Q:AV->Sto->Prop}(ho:o.op=.call c)(hc:c=⟨.value y,xs,ts⟩)(hd:cN s.n o.dst=true)(hy:fnA (ev s.t y)=some (f,caps))
  (hcn:AV.bL caps=true) (hn:AV.bL (xs.toList.map (ev s.t))=true) (he:enters P f=true) (hos:∀ b cells,O os b=some cells->O s.o b=some cells) (hg:jO L P f os (xs.toList.map (ev s.t)++caps) Q) {K:AS->Prop}
  (hK:∀ res os',Q res os'->K ⟨s.n,put s.t o.dst res,os'++jk s.o (os.map Prod.fst)⟩):OpW L P o s K :=
 zi ho hc hd hy hcn hn he hos hg fun res os' hQ _=>hK res os' hQ
end
section
variable {L : Nat -> Nat} {P : Program} {n : Nat} {t : List (Nat × AV)} {o : Sto} {ops : Array Oper} {i : Nat} {l : List Nat} {K' : AS -> Prop} {oo : Oper}
end
end
section
def qR(P:Program)(w:World)(tmps:Array Value):List ResultVar->List Value->Prop
 | [],vs=>vs=[]
 | r::rs,vs=>∃ v vs',vs=v::vs'/\(xJ r tmps).run P w=.ok v w/\qR P w tmps rs vs'
def nY(vs:List Value):Value:=match vs with|[v]=>v|_=>.tuple vs.toArray
theorem y5{P:Program}{w:World}{tmps:Array Value}:∀ {rs:List ResultVar} {vs:List Value},qR P w tmps rs vs->(rs.mapM (fun r=>xJ r tmps)).run P w=.ok vs w
 | [],vs,h=>by simp only [qR] at h;subst h;simp
 | r::rs,vs,h=>by
  simp only [qR] at h
  obtain ⟨v,vs',rfl,h1,h2⟩:=h
  have:=y5 h2
  rw [List.mapM_cons]
  simp only [Sem.run_bind,h1,Result.andThen_ok,this,Sem.run_pure]
theorem FF{P:Program}{w:World}{fn:Func}{tmps:Array Value}{rs:List ResultVar}{vs:List Value}(hr:fn.results=rs.toArray)(h:qR P w tmps rs vs):(results fn tmps).run P w=.ok (nY vs) w:=by
 have hm:=y5 h
 have e:results fn tmps=(do let vs <- rs.mapM (fun r=>xJ r tmps);pure (nY vs)):=by
  unfold results
  rw [hr,List.mapM_toArray]
  simp only [bind_map_left]
  have e1:(fun r=>xJ r tmps)=(fun r=>match r with|.tmp t=>(pure (tmps.getD t undef):Sem Value)|.cell a t=>do loadVar t (<- asAddr (tmps.getD a undef))):=by
   funext r;cases r<;>rfl
  rw [e1]
  congr 1
  funext vs
  congr 1
  match vs with
  | []=>simp [nY]
  | [v]=>simp [nY]
  | _::_::_=>simp [nY]
 rw [e]
 simp only [Sem.run_bind,hm,Result.andThen_ok,Sem.run_pure]
def p5(xs:List AV):AV:=match xs with|[x]=>x|_=>.tup xs
theorem LX{L:Nat->Nat}{F:Nat->Prop}{w:World}{xs:List AV}{vs:List Value}{fp:List Nat}(h:aq L F w xs vs fp):Rep L F w (p5 xs) (nY vs) fp:=by
 have hl:=h.len
 match xs,vs,hl,h with
 | [],[],_,h=>simp only [p5,nY,Rep];exact ⟨[],rfl,h⟩
 | [x],[v],_,h =>
  simp only [aq] at h
  obtain ⟨y,vs',f1,f2,e,rfl,hx,e1,e2⟩:=h
  cases e
  subst e2
  simpa [p5,nY] using hx
 | x::x'::xs,v::v'::vs,_,h=>simp only [p5,nY,Rep];exact ⟨_,rfl,h⟩
 | [],_::_,hl,_=>simp at hl
 | _::_,[],hl,_=>simp at hl
 | [_],_::_::_,hl,_=>simp at hl
 | _::_::_,[_],hl,_=>simp at hl
def oL(P:Program)(n:Nat):List ResultVar->List (Nat×AV)->Sto->List AV->(List AV->Sto->Prop)->Prop
 | [],_,o,acc,K=>K acc o
 | .tmp i::rs,t,o,acc,K=>Nat.blt i n=true/\oL P n rs ((i,.dead)::t) o (acc++[T t i]) K
 | .cell ad ty'::rs,t,o,acc,K=>match T t ad,ty P ty' with
  | .ptr b off,some (g,m)=>match O o b with
   | some cells=>match val g m (cells.drop off) with
    | some y=>oL P n rs t ((b,none)::o) (acc++[y]) K
    | none=>False
   | none=>False
  | _,_=>False
section
variable {L : Nat -> Nat} {P : Program} {n : Nat}
theorem HW{B F0:Nat->Prop}{w0:World}{F:Nat->Prop}{own:Nat->Own}{fp fs:Nat->List Nat}{s:AS}{a:Act}{w:World}(h:cD L B F0 w0 F own fp fs s a w){b off m:Nat}{g:Bool}{cells:List AV}{y:AV}{t:TypeId}
  (hb:O s.o b=some cells) (ht:ty P t=some (g,m)) (hy:val g m (cells.drop off)=some y) :
  ∃ v fx,(loadVar t ⟨b,off,none⟩).run P w=.ok v w/\Rep L F w y v fx/\fx.Nodup/\∀ k,k∈fx->own k=.obj b:=by
 obtain ⟨hkey,iO,dW,c,Ty,vals,rest,hc,hcl,gE⟩:=h.obj b cells hb
 have Iw:gp w b 0 vals:=⟨c,Ty,_,hc,fun i hi=>by rw [Nat.zero_add,<- Array.getElem?_toList,hcl,List.getElem?_append_left hi]⟩
 have hrow:gp w b off (vals.drop off):=by
  have:=Iw.cut off vals.length
  rw [List.take_of_length_le (by simp),Nat.zero_add] at this
  exact this
 have hvl:=gE.len
 obtain ⟨l1,l2⟩:=sV (P:=P) ht hrow
 unfold val at hy
 cases g with
 | true =>
  cases hn:Nat.ble m (cells.drop off).length with
  | false=>simp only [cond_true,hn,cond_false] at hy;cases hy
  | true =>
   simp only [cond_true,hn] at hy
   cases hy
   obtain ⟨f,hf,hsub⟩:=gE.Bk off m
   have hle:m<=(vals.drop off).length:=by
    have:=Nat.le_of_ble_eq_true hn
    simp at this ⊢;omega
   exact ⟨_,f,l1 rfl hle,by simp only [Rep];exact ⟨_,rfl,hf⟩,hsub.nodup iO,fun k hk=>dW k (hsub.subset hk)⟩
 | false =>
  simp at hy
  obtain ⟨f',hf,hsub⟩:=gE.Bk off 1
  have e1:(cells.drop off).take 1=[y]:=by
   have e:cells[off]? = some y:=hy
   have hlt:off<cells.length:=by
    rcases Nat.lt_or_ge off cells.length with h|h
    ·exact h
    ·rw [List.getElem?_eq_none h] at e;cases e
   rw [List.drop_eq_getElem_cons hlt]
   rw [List.getElem?_eq_getElem hlt] at e
   cases e;rfl
  rw [e1] at hf
  simp only [aq] at hf
  obtain ⟨y',vs',f1,f2,hv,rfl,hy',rfl,rfl⟩:=hf
  have hv0:(vals.drop off)[0]? = some y':=by
   cases hd:vals.drop off with
   | nil=>rw [hd] at hv;simp at hv
   | cons z zs=>rw [hd] at hv;simp at hv;simp [hv]
  exact ⟨y',f1,l2 rfl y' hv0,hy',by simpa using hsub.nodup iO,fun k hk=>dW k (hsub.subset (by simpa using hk))⟩
theorem xI{tmps:Array Value}{K:List AV->Sto->Prop}{B F0:Nat->Prop}{w0:World}{w:World}{a:Act}(hsz:a.tmps=tmps):∀ (rs:List ResultVar) (t:List (Nat×AV)) (o:Sto) (xs:List AV) (vs:List Value) (F:Nat->Prop) (own:Nat->Own) (fp fs:Nat->List Nat) (fa:List Nat),
  oL P n rs t o xs K->cD L B F0 w0 F own fp fs ⟨n,t,o⟩ a w->aq L F w xs vs fa->fa.Nodup->(∀ b,b∈fa->own b=.slot n) ->
  ∃ vs1 xs' os' own' fs' fa',qR P w tmps rs vs1/\K xs' os'/\kW L B F0 w0 F own' fs' os' w/\aq L F w xs' (vs++vs1) fa'/\fa'.Nodup/\∀ b,b∈fa'->own' b=.slot 0
 | [],t,o,xs,vs,F,own,fp,fs,fa,hK,hd,hr,hn,ho=>by
  simp only [oL] at hK
  classical
  let own':Nat->Own:=fun b=>match own b with|.slot i=>if i=n then .slot 0 else .none|x=>x
  have hnot:∀ b,(∀ i,own b≠.slot i)->own' b=own b:=fun b hb=>by
   show (match own b with|.slot i=>if i=n then Own.slot 0 else .none|x=>x)=own b
   cases h:own b with
   | slot i=>exact absurd h (hb i)
   | none=>rfl
   | key=>rfl
   | obj _=>rfl
  refine ⟨[],xs,o,own',fs,fa,rfl,hK,{ below:=hd.below,hB:=hd.hB,tb:=hd.tb,f0:=hd.f0,fl:=fun b hb=>⟨?_,(hd.fl b hb).2⟩,ol:=fun b hb=>hd.ol b ?_,obj:=?_ },by simpa using hr,hn,fun b hb=>?_⟩
  ·rw [hnot b (by rw [(hd.fl b hb).1];simp)];exact (hd.fl b hb).1
  ·exact fun e=>hb (by rw [hnot b (by rw [e];simp)];exact e)
  ·intro b cells hO
   obtain ⟨g1,g2,g3,g4⟩:=hd.obj b cells hO
   exact ⟨by rw [hnot b (by rw [g1];simp)];exact g1,g2,fun k hk=>by rw [hnot k (by rw [g3 k hk];simp)];exact g3 k hk,g4⟩
  ·simp only [own',ho b hb,if_true]
 | .tmp i::rs,t,o,xs,vs,F,own,fp,fs,fa,hK,hd,hr,hn,ho=>by
  simp only [oL] at hK
  obtain ⟨hlt,hK⟩:=hK
  have ng:i<n:=by simpa using hlt
  classical
  let own':Nat->Own:=fun b=>if b∈fp i then .slot n else own b
  have hnot:∀ b,own b≠.slot i->own' b=own b:=fun b hb=>by
   have:b ∉ fp i:=fun hm=>hb (hd.so i b hm)
   simp only [own',if_neg this]
  have hd':cD L B F0 w0 F own' (fun j=>if j=i then [] else fp j) fs ⟨n,(i,.dead)::t,o⟩ a w:=by
   refine { below:=hd.below,hB:=hd.hB,tb:=hd.tb,f0:=hd.f0,fl:=fun b hb=>⟨?_,(hd.fl b hb).2⟩,ol:=?_,defers:=hd.defers,size:=hd.size,slots:=?_,sn:=?_,so:=?_,obj:=?_ }
   ·rw [hnot b (by rw [(hd.fl b hb).1];simp)];exact (hd.fl b hb).1
   ·intro b hb
    by_cases e:b∈fp i
    ·exact hd.ig e
    ·simp only [own',if_neg e] at hb;exact hd.ol b hb
   ·intro j
    rw [fP]
    by_cases e:i=j
    ·subst e;simp [Rep]
    ·have e':¬ j=i:=fun h=>e h.symm
     simp only [if_neg e,if_neg e'];exact hd.slots j
   ·intro j
    split
    ·simp
    ·exact hd.sn j
   ·intro j b hb
    split at hb
    ·simp at hb
    ·rename_i e
     have:=hd.so j b hb
     rw [hnot b (by rw [this];simpa using e)];exact this
   ·intro b cells hO
    obtain ⟨g1,g2,g3,g4⟩:=hd.obj b cells hO
    exact ⟨by rw [hnot b (by rw [g1];simp)];exact g1,g2,fun k hk=>by rw [hnot k (by rw [g3 k hk];simp)];exact g3 k hk,g4⟩
  have hri:aq L F w [T t i] [a.tmps.getD i undef] (fp i):=by
   simp only [aq];exact ⟨_,_,fp i,[],rfl,by simp,hd.slots i,rfl,rfl⟩
  obtain ⟨vs1,xs',os',il,fs',fa',h1,h2,h3,h4,h5,h6⟩:=xI hsz rs _ o _ (vs++[a.tmps.getD i undef]) F own' _ fs (fa++fp i) hK hd' (hr.join hri) (by
   rw [List.nodup_append]
   refine ⟨hn,hd.sn i,fun b hb b' hb' e=>?_⟩
   subst e
   have e1:=ho b hb
   rw [hd.so i b hb'] at e1
   exact Nat.lt_irrefl n ((Own.slot.inj e1) ▸ ng)) (by
   intro b hb
   rcases List.mem_append.1 hb with hb|hb
   ·rw [hnot b (fun e=>Nat.lt_irrefl i ((Own.slot.inj ((ho b hb).symm.trans e)) ▸ ng))];exact ho b hb
   ·simp only [own',if_pos hb])
  refine ⟨a.tmps.getD i undef::vs1,xs',os',il,fs',fa',?_,h2,h3,by simpa using h4,h5,h6⟩
  simp only [qR]
  exact ⟨_,vs1,rfl,by rw [<- hsz];simp [xJ],h1⟩
 | .cell ad ty'::rs,t,o,xs,vs,F,own,fp,fs,fa,hK,hd,hr,hn,ho=>by
  simp only [oL] at hK
  split at hK
  ·rename_i b off g m hT ht
   split at hK
   ·rename_i cells hO
    split at hK
    ·rename_i y hy
     obtain ⟨v,fx,hrun,gE,WY,MM⟩:=HW hd hO ht hy
     have hra:=hd.slots ad
     simp only at hra
     rw [hT] at hra
     simp only [Rep] at hra
     have hkey:=(hd.obj b cells hO).1
     classical
     let own':Nat->Own:=fun k=>if k∈fx then .slot n else own k
     have hnot:∀ k,own k≠.obj b->own' k=own k:=fun k hk=>by
      have:k ∉ fx:=fun hm=>hk (MM k hm)
      simp only [own',if_neg this]
     have hd':cD L B F0 w0 F own' fp fs ⟨n,t,(b,none)::o⟩ a w:=by
      refine { below:=hd.below,hB:=hd.hB,tb:=hd.tb,f0:=hd.f0,fl:=fun b hb=>⟨?_,(hd.fl b hb).2⟩,ol:=?_,defers:=hd.defers,size:=hd.size,slots:=hd.slots,sn:=hd.sn,so:=?_,obj:=?_ }
      ·rw [hnot b (by rw [(hd.fl b hb).1];simp)];exact (hd.fl b hb).1
      ·intro k hk
       by_cases e:k∈fx
       ·exact hd.ol k (by rw [MM k e];simp)
       ·simp only [own',if_neg e] at hk;exact hd.ol k hk
      ·intro j k hk
       have:=hd.so j k hk
       rw [hnot k (by rw [this];simp)];exact this
      ·intro q cs hq
       simp only [O] at hq
       split at hq
       ·cases hq
       ·rename_i hne
        obtain ⟨g1,g2,g3,g4⟩:=hd.obj q cs hq
        exact ⟨by rw [hnot q (by rw [g1];simp)];exact g1,g2,fun k hk=>by rw [hnot k (by rw [g3 k hk];simp;exact fun e=>hne e.symm)];exact g3 k hk,g4⟩
     have hri:aq L F w [y] [v] fx:=by
      simp only [aq];exact ⟨_,_,fx,[],rfl,by simp,gE,rfl,rfl⟩
     obtain ⟨vs1,xs',os',il,fs',fa',h1,h2,h3,h4,h5,h6⟩:=xI hsz rs t _ _ (vs++[v]) F own' fp fs (fa++fx) hK hd' (hr.join hri) (by
      rw [List.nodup_append]
      refine ⟨hn,WY,fun k hk k' hk' e=>?_⟩
      subst e
      have e1:=ho k hk
      rw [MM k hk'] at e1;cases e1) (by
      intro k hk
      rcases List.mem_append.1 hk with hk|hk
      ·rw [hnot k (by rw [ho k hk];simp)];exact ho k hk
      ·simp only [own',if_pos hk])
     refine ⟨v::vs1,xs',os',il,fs',fa',?_,h2,h3,by simpa using h4,h5,h6⟩
     simp only [qR]
     have hr1:tmps[ad]?.getD undef=.pointer (some ⟨b,off,none⟩):=by rw [<- hra.1,Array.getD_eq_getD_getElem?,hsz]
     exact ⟨v,vs1,rfl,by simp [xJ,hr1,asAddr,hrun],h1⟩
    ·exact hK.elim
   ·exact hK.elim
  ·exact hK.elim
theorem aJ.res{fn:Func}{t:List (Nat×AV)}{o:Sto}{rs:List ResultVar}{Q:AV->Sto->Prop}(hr:fn.results=rs.toArray)(h:oL P n rs t o [] (fun xs os=>Q (p5 xs) os)):aJ L P fn ⟨n,t,o⟩ Q:=by
 intro B F0 w0 a w hd
 obtain ⟨F,own,fp,fs,hd⟩:=hd
 obtain ⟨vs1,xs',os',own',fs',fa',h1,h2,h3,h4,h5,h6⟩:=xI (tmps:=a.tmps) rfl rs t o [] [] F own fp fs [] h hd (by simp [aq]) (by simp) (by simp)
 exact ⟨nY vs1,p5 xs',os',F,own',fs',fa',FF hr h1,h2,h3,LX (by simpa using h4),h5,h6⟩
end
end
end Go.Ab
