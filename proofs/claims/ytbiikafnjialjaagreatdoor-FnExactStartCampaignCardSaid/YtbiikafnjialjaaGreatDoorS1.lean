/- Part of a proof. -/
import Derived.WalkLawsBesides
import Derived.Test.YtbiikafnjialjaaGreatDoorS0
set_option linter.all false
open List
namespace Go.Ab
open Go.RowKit (Below)
def tQ{P:Program}{t:TypeId}{zs:List Value}(h:zer P t=some zs):∃i z,P.info? t=some i/\i.zero=some z/\z.cells.toList=zs:=by
 unfold zer at h;split at h
 ·rename_i i hi;split at h
  ·rename_i z hz;simp at h;exact⟨i,z,hi,hz,h⟩
  ·cases h
 ·cases h
section ops
variable {L : Nat -> Nat} {P : Program} {s : AS} {o : Oper}
def ue{c:Call}{x y:Operand}{t u e:TypeId}{b len sz bytes n:Nat}{cells ncells:List AV}{zs:List Value}(ho:o.op=.call c)(hc:c=⟨.builtin .append,#[x,y],#[t,u]⟩)
  (hd:dn s.n o.dst=true) (hx:ev s.t x=.arr b 0 len sz) (hO:O s.o b=some cells) (hlen:cells.length=len * sz) (ht:elm P t=some (e,sz,bytes)) (hz:zer P e=some zs) (hzl:zs.length=sz)
  (hu:(∃e',P.underlying u=some (.slice e'))\/P.underlying u=some .string) (hsrc:iX s.o sz (ev s.t y)=some (n,ncells)) (hone:ncells.all AV.one=true)
  (hL:len+n<=L sz) (hby:(len+n) * bytes<=140737488355328) (h63:len+n<=9223372036854775807) {K:AS->Prop}
  (hK:∀b',(∀q cs,O (kF s.o [b]) q=some cs->q≠b')->K ⟨s.n,put (killL s.t (kills s.t [y])) o.dst (.arr b' 0 (len+n) sz),(b',some (cells++ncells))::kF s.o [b]⟩):OpW L P o s K:=by
 subst hc;obtain⟨inf,hut,fO,rfl,rfl⟩:=jy ht;obtain⟨KN,z,mF,hzz,GP⟩:=tQ hz;rw[fO]at mF;cases mF;intro B F0 w0 a w next Q cH bZ
 obtain⟨F,own,fp,fs,h⟩:=cH;have hr:=h.ev x;rw[hx]at hr;simp only[Rep]at hr;obtain⟨_,cap,hv,hlc,hlL,iO⟩:=hr;obtain⟨hkey,kH,fP,c,Ty,vals,rest,hc,hcl,ig⟩:=h.obj b cells hO;obtain⟨news,f,hS,hnl,hnr,hfn,hfk⟩:=wW h hsrc hu;have hvl:=ig.len
 have hbB:=h.ol b (by rw[hkey];simp)
 have YZ:cap * inf.size<=c.size:=by
  obtain⟨c',Ty',hc',hle⟩:=iO;rw[hc]at hc';cases hc';omega
 have K3:(fs b++f).Nodup:=by
  rw[nodup_append];refine⟨kH,hfn,λk hk k' hk' e=>?_⟩;subst e;obtain⟨i,_,hi⟩:=hfk k hk';have e1:=h.so i k hi;rw[fP k hk]at e1;cases e1
 have hfn':∀k,k∈fs b++f->(∃i,i∈kills s.t [y]/\k∈fp i)\/(∃b',b'∈[b]/\own k=.obj b'):=by
  intro k hk;rcases List.mem_append.1 hk with hk|hk
  ·exact .inr ⟨b,Xp,fP k hk⟩
  ·exact .inl (hfk k hk)
 have hFS:∀b',F b'->F b'/\(b'<w.heap.size/\b' ∉ [b]):=λb' hb'=>⟨hb',(h.fl b' hb').2.1,λhd'=>by
  have e0:b'=b:=by simpa using hd'
  have e1:=(h.fl b' hb').1;rw[e0,hkey]at e1;cases e1⟩
 have hSk:∀k,k∈fs b++f->k<w.heap.size/\k ∉ [b]:=by
  intro k hk
  have hne:own k≠.none/\own k≠.key:=by
   rcases hfn' k hk with⟨i,_,hi⟩|⟨b',_,e⟩
   ·rw[h.so i k hi];simp
   ·rw[e];simp
  refine⟨(h.ol k hne.1).2,λhd'=>?_⟩;have e0:k=b:=by simpa using hd'
  rw[e0]at hne;exact hne.2 hkey
 unfold Oper.wp;by_cases hroom:len+n<=cap
 ·have h2:len * inf.size+news.length<=c.size:=by
   rw[hnl,<- Nat.add_mul];exact Nat.le_trans (Nat.mul_le_mul_right _ hroom) YZ
  have hrun:=wv (tyr:=o.type) hut fO hS b len cap c Ty hc (hnr.ones hone) hroom h2
  have hex:(execOp a.eval o).run P w=.ok (.value (.slice (some ⟨b,0,none⟩) (len+n) cap)) (w.setRow b (c.toList.take (len * inf.size)++news++c.toList.drop (len * inf.size+news.length)).toArray):=by
   simp only[execOp,ho,resolve,invoke,builtin,Sem.run_bind,Sem.run_pure,Result.andThen_ok,map_toArray,map_cons,map_nil,hv,hrun]
  rw[hex]
  have htk:c.toList.take (len * inf.size)=vals:=by
   rw[hcl,<- hlen,<- hvl,take_left]
  have hsz:(c.toList.take (len * inf.size)++news++c.toList.drop (len * inf.size+news.length)).toArray.size=c.size:=by
   have:c.toList.length=c.size:=by simp
   simp only[size_toArray,length_append,length_take,length_drop,this];omega
  have cV:=Ext.setRow w b _ c Ty _ hc hsz;refine bZ _ _ _ (hK b λq cs hq e=>by(subst e;rw[pg]at hq;simp at hq)) ?_;refine h.renew (kills s.t [y]) [b] b (cells++ncells) (fs b++f) o.dst hd ⟨rfl,rfl,rfl⟩ cV (by simpa using hkey) (.inl Xp) ?_ K3 hfn' ?_
  ·refine⟨_,Ty,vals++news,c.toList.drop (len * inf.size+news.length),eE w b _ c Ty _ hc,by rw[htk],?_⟩;exact au.join (au.ext cV hFS (λk hk=>hSk k (by simp[hk])) ig) (au.ext cV hFS (λk hk=>hSk k (by simp[hk])) hnr)
  ·simp only[Rep];exact⟨trivial,cap,rfl,hroom,hL,iO.ext cV⟩
 ·have hrun:=AA (tyr:=o.type) hut fO hzz hS ⟨b,0,none⟩ len cap vals (by rw[hvl,hlen]) (λj v hj=>by
   have hrow:ia w b 0 vals:=⟨c,Ty,_,hc,λi hi=>by rw[Nat.zero_add,<- Array.getElem?_toList,hcl,getElem?_append_left hi]⟩
   rw[fW];exact hrow.cell hj) Um h63 hby
  have hex:(execOp a.eval o).run P w=.ok (.value (.slice (some ⟨w.heap.size,0,none⟩) (len+n) (grownCap w (len+n) cap e)))
    (w.drew.alloc (.cells (vals.toArray++news.toArray++Builtin.zeroCells z.cells (grownCap w (len+n) cap e - (len+n))) e)):=by
   simp only[execOp,ho,resolve,invoke,builtin,Sem.run_bind,Sem.run_pure,Result.andThen_ok,map_toArray,map_cons,map_nil,hv,hrun]
  rw[hex]
  refine bZ _ _ _ (hK w.heap.size λq cs hq e=>by
   rw[pg]at hq;split at hq
   ·cases hq
   ·have:=(h.ol q (by rw[(h.obj q cs hq).1];simp)).2
    omega) ?_
  have cV:=Ext.mY w (.cells (vals.toArray++news.toArray++Builtin.zeroCells z.cells (grownCap w (len+n) cap e - (len+n))) e) [b]
  have hge:=grownCap_ge w (len+n) cap e
  have CY:z.cells.size=inf.size:=by rw[<- hzl,<- GP];simp
  refine h.renew (kills s.t [y]) [b] w.heap.size (cells++ncells) (fs b++f) o.dst hd ⟨rfl,rfl,rfl⟩ cV (by simpa using hkey) (.inr ⟨Nat.le_refl _,Xp⟩) ?_ K3 hfn' ?_
  ·refine⟨_,e,vals++news,(Builtin.zeroCells z.cells (grownCap w (len+n) cap e - (len+n))).toList,gh w.drew _,Xp,?_⟩;exact au.join (au.ext cV hFS (λk hk=>hSk k (by simp[hk])) ig) (au.ext cV hFS (λk hk=>hSk k (by simp[hk])) hnr)
  ·simp only[Rep];refine⟨trivial,_,rfl,hge,hL,_,e,gh w.drew _,?_⟩;simp only[Array.size_append,size_toArray,size_zeroCells,CY,hvl,hlen,hnl,Nat.zero_add];rw[<- Nat.add_mul,<- Nat.add_mul];exact Nat.mul_le_mul_right _ Um
def ud{c:Call}{x y:Operand}{t u e:TypeId}{sz bytes n:Nat}{ncells:List AV}{zs:List Value}(ho:o.op=.call c)(hc:c=⟨.builtin .append,#[x,y],#[t,u]⟩)
  (hd:dn s.n o.dst=true) (hx:ev s.t x=.v (.slice none 0 0)) (ht:elm P t=some (e,sz,bytes)) (hz:zer P e=some zs) (hzl:zs.length=sz)
  (hu:(∃e',P.underlying u=some (.slice e'))\/P.underlying u=some .string) (hsrc:iX s.o sz (ev s.t y)=some (n,ncells)) (h0:0<n)
  (hL:n<=L sz) (hby:n * bytes<=140737488355328) (h63:n<=9223372036854775807) {K:AS->Prop}
  (hK:∀b',(∀q cs,O s.o q=some cs->q≠b')->K ⟨s.n,put (killL s.t (kills s.t [y])) o.dst (.arr b' 0 n sz),(b',some ncells)::s.o⟩):OpW L P o s K:=by
 subst hc;obtain⟨inf,hut,fO,rfl,rfl⟩:=jy ht;obtain⟨KN,z,mF,hzz,GP⟩:=tQ hz;rw[fO]at mF;cases mF;intro B F0 w0 a w next Q cH bZ
 obtain⟨F,own,fp,fs,h⟩:=cH;have hv:=h.val hx;obtain⟨news,f,hS,hnl,hnr,hfn,hfk⟩:=wW h hsrc hu;unfold Oper.wp
 have hrun:=Ds (tyr:=o.type) hut fO hzz hS h0 h63 hby
 have hex:(execOp a.eval o).run P w=.ok (.value (.slice (some ⟨w.heap.size,0,none⟩) n (grownCap w n 0 e)))
   (w.drew.alloc (.cells (news.toArray++Builtin.zeroCells z.cells (grownCap w n 0 e - n)) e)):=by
  simp only[execOp,ho,resolve,invoke,builtin,Sem.run_bind,Sem.run_pure,Result.andThen_ok,map_toArray,map_cons,map_nil,hv,hrun]
 rw[hex]
 refine bZ _ _ _ (hK w.heap.size λq cs hq e=>by
  have:=(h.ol q (by rw[(h.obj q cs hq).1];simp)).2
  omega) ?_
 have cV:=Ext.mY w (.cells (news.toArray++Builtin.zeroCells z.cells (grownCap w n 0 e - n)) e) []
 have hge:=grownCap_ge w n 0 e
 have CY:z.cells.size=inf.size:=by rw[<- hzl,<- GP];simp
 have hFS:∀b',F b'->F b'/\(b'<w.heap.size/\b' ∉ ([]:List Nat)):=λb' hb'=>⟨hb',(h.fl b' hb').2.1,Xp⟩
 refine h.renew (kills s.t [y]) [] w.heap.size ncells f o.dst hd ⟨rfl,rfl,rfl⟩ cV Xp (.inr ⟨Nat.le_refl _,Xp⟩) ?_ hfn (λk hk=>.inl (hfk k hk)) ?_
 ·refine⟨_,e,news,(Builtin.zeroCells z.cells (grownCap w n 0 e - n)).toList,gh w.drew _,Xp,?_⟩;exact au.ext cV hFS (λk hk=>⟨by obtain⟨i,_,hi⟩:=hfk k hk;exact(h.jl hi).2,Xp⟩) hnr
 ·simp only[Rep];refine⟨trivial,_,rfl,hge,hL,_,e,gh w.drew _,?_⟩;simp only[Array.size_append,size_toArray,size_zeroCells,CY,hnl,Nat.zero_add];rw[<- Nat.add_mul];exact Nat.mul_le_mul_right _ Um
def au.Fs{F:haa}{w:World}{l m:List AV}{vs us:List Value}{f g:List Nat}(r:au L F w l vs f)(q:au L F w m us g)(off n:Nat)(hn:m.length=n)(hle:off+n<=l.length) :
  ∃f',au L F w (l.take off++m++l.drop (off+n)) (vs.take off++us++vs.drop (off+n)) f'/\((f++g).Nodup->f'.Nodup)/\∀b,b∈f'->b∈f\/b∈g:=by
 have hl:=r.len
 have e1:l=l.take off++((l.drop off).take n++l.drop (off+n)):=by
  rw[<- drop_drop,take_append_drop,take_append_drop]
 rw[e1]at r;obtain⟨v1,v23,f1,f23,rfl,rfl,r1,r23⟩:=r.split;obtain⟨v2,v3,f2,f3,rfl,rfl,r2,r3⟩:=r23.split;have h1:=r1.len
 have h2:=r2.len;simp only[length_take,length_drop]at h1 h2;have hv1:v1.length=off:=by omega
 have hv2:v2.length=n:=by omega
 have e2:(v1++(v2++v3)).take off=v1:=by rw[<- hv1,take_left]
 have e3:(v1++(v2++v3)).drop (off+n)=v3:=by
  rw[<- append_assoc,<- hv1,<- hv2,<- length_append,drop_left]
 rw[e2,e3];refine⟨f1++g++f3,(r1.join q).join r3,λhnd=>?_,λb hb=>?_⟩
 ·have hsub:(f1++f3++g).Sublist (f1++(f2++f3)++g):=(List.Sublist.append (List.Sublist.append (List.Sublist.refl _) (sublist_append_right _ _)) (List.Sublist.refl _))
  have h3:=hsub.nodup hnd
  have hp:(f1++g++f3).Perm (f1++f3++g):=by
   rw[append_assoc,append_assoc];exact List.Perm.append_left _ perm_append_comm
  exact hp.nodup_iff.2 h3
 ·simp only[mem_append]at hb ⊢;rcases hb with(hb|hb)|hb
  ·exact .inl (.inl hb)
  ·exact .inr hb
  ·exact .inl (.inr (.inr hb))
def DN{t:TypeId}{ad x:Operand}{b off n:Nat}{g:Bool}{cells:List AV}(ho:o.op=.store t ad x)(hd:o.dst=none)(ha:ev s.t ad=.ptr b off)(hO:O s.o b=some cells)
  (ht:ty P t=some (g,n)) (hx:(ev s.t x).elem n=true) (hone:(ev s.t x).cells.all AV.one=true) (hle:off+n<=cells.length) {K:AS->Prop}
  (hK:K ⟨s.n,killL s.t (kills s.t [x]),(b,some (cells.take off++(ev s.t x).cells++cells.drop (off+n)))::kF s.o [b]⟩):OpW L P o s K:=by
 intro B F0 w0 a w next Q cH bZ
 obtain⟨F,own,fp,fs,h⟩:=cH;have hr:=h.ev ad;rw[ha]at hr;simp only[Rep]at hr;have hrx:=h.ev x;obtain⟨hxl,hxs⟩:=oL hx hrx;obtain⟨hkey,kH,fP,c,Ty,vals,rest,hc,hcl,ig⟩:=h.obj b cells hO;have hvl:=ig.len
 have hbB:=h.ol b (by rw[hkey];simp);obtain⟨hag,abJ⟩:=rA ht w;have YX:c.size=vals.length+rest.length:=by rw[<- Array.length_toList,hcl];simp
 have hst:=run_storeCells_at P b off Ty (a.eval x).cells.toList 0 c w hc (by simp only[Nat.add_zero,Array.length_toList,hxs];omega) (hxl.ones hone);simp only[Nat.add_zero]at hst;have hln:(a.eval x).cells.toList.length=n:=by simp[hxs]
 rw[hln]at hst
 have hex:(execOp a.eval o).run P w=.ok .skip (w.setRow b (c.toList.take off++(a.eval x).cells.toList++c.toList.drop (off+n)).toArray):=by
  simp[execOp,ho,Instr.storeAt,hr.1,Instr.sureAddr,storeVar,abJ,hxs,hst]
 unfold Oper.wp;rw[hex]
 have K3:(fs b++fpo fp x).Nodup:=by
  rw[nodup_append];refine⟨kH,mU h x,λk hk k' hk' e=>?_⟩;subst e;obtain⟨i,_,hi⟩:=gY h (xs:=[x]) Xp k hk';have e1:=h.so i k hi;rw[fP k hk]at e1;cases e1
 obtain⟨f',hf',hnd,hmem⟩:=ig.Fs hxl off n (by rw[<- hxl.len,hln]) hle
 have hsz:(c.toList.take off++(a.eval x).cells.toList++c.toList.drop (off+n)).toArray.size=c.size:=by
  have:c.toList.length=c.size:=by simp
  simp only[size_toArray,length_append,length_take,length_drop,this,hln];omega
 have cV:=Ext.setRow w b _ c Ty _ hc hsz
 have hFS:∀b',F b'->F b'/\(b'<w.heap.size/\b' ∉ [b]):=λb' hb'=>⟨hb',(h.fl b' hb').2.1,λhd'=>by
  have e0:b'=b:=by simpa using hd'
  have e1:=(h.fl b' hb').1;rw[e0,hkey]at e1;cases e1⟩
 have hfn':∀k,k∈f'->(∃i,i∈kills s.t [x]/\k∈fp i)\/(∃b',b'∈[b]/\own k=.obj b'):=by
  intro k hk;rcases hmem k hk with hk|hk
  ·exact .inr ⟨b,Xp,fP k hk⟩
  ·exact .inl (gY h Xp k hk)
 have hSk:∀k,k∈f'->k<w.heap.size/\k ∉ [b]:=by
  intro k hk
  have hne:own k≠.none/\own k≠.key:=by
   rcases hfn' k hk with⟨i,_,hi⟩|⟨b',_,e⟩
   ·rw[h.so i k hi];simp
   ·rw[e];simp
  refine⟨(h.ol k hne.1).2,λhd'=>?_⟩;have e0:k=b:=by simpa using hd'
  rw[e0]at hne;exact hne.2 hkey
 have:=h.renew (w':=w.setRow b (c.toList.take off++(a.eval x).cells.toList++c.toList.drop (off+n)).toArray) (x:=.dead) (v:=undef) (kills s.t [x]) [b] b _ f' o.dst (by rw[hd];rfl) ⟨rfl,rfl,rfl⟩ cV (by simpa using hkey) (.inl Xp)
  ⟨_,Ty,_,rest.drop 0,eE w b _ c Ty _ hc,by
   simp only[drop_zero];rw[hcl,take_append_of_le_length Um,drop_append_of_le_length Um]
   simp only[append_assoc],au.ext cV hFS hSk hf'⟩ (hnd K3) hfn' (by simp[Rep])
 rw[hd]at this;exact bZ _ _ _ hK (by rw[hd];exact this)
end ops
def zq(off:Nat):∀(xs:List Value) (k:Nat) (cells:List Value),off+k+xs.length<=cells.length ->
  (xs.zipIdx k).foldl (λ(cs:Array Value) (p:Value×Nat)=>cs.setIfInBounds (off+p.2) p.1) cells.toArray=(cells.take (off+k)++xs++cells.drop (off+k+xs.length)).toArray
 | [],k,cells,_=>by simp
 | x::xs,k,cells,h=>by
  simp only[length_cons]at h;simp only[zipIdx_cons,foldl_cons,setIfInBounds_toArray];rw[zq off xs (k+1) (cells.set (off+k) x) (by simp;omega)]
  congr 1
  have h1:off+k<cells.length:=by omega
  rw[set_eq_take_append_cons_drop,if_pos h1];have ht:(cells.take (off+k)).length=off+k:=by simp;omega
  have e1:(cells.take (off+k)++x::cells.drop (off+k+1)).take (off+(k+1))=cells.take (off+k)++[x]:=by
   rw[take_append,ht,show off+(k+1) - (off+k)=1 by omega,take_of_length_le (by rw[ht];omega)];simp
  have e2:(cells.take (off+k)++x::cells.drop (off+k+1)).drop (off+(k+1)+xs.length)=cells.drop (off+k+(xs.length+1)):=by
   rw[drop_append,ht,drop_eq_nil_of_le (by rw[ht];omega),show off+(k+1)+xs.length - (off+k)=xs.length+1 by omega];simp only[drop_succ_cons,drop_drop,nil_append]
   congr 1;omega
  rw[e1,e2];simp
def pY(place:Nat->Option (Nat×Nat)):List AV->faa->Option (List AV)
 | cells,[]=>some cells
 | cells,p::rest =>
  match place p.1 with
  | none=>none
  | some q=>bif p.2.elem q.2 && Nat.ble (q.1+q.2) cells.length then pY place (cells.take q.1++p.2.cells++cells.drop (q.1+q.2)) rest else none
section
variable {L : Nat -> Nat} {B : Nat -> Prop} {F0 : Nat -> Prop} {w0 : World} {F : Nat -> Prop} {own : Nat -> Own} {fp fs : Nat -> List Nat} {s : AS} {a : Act} {w : World} {P : Program}
def xI(h:di L B F0 w0 F own fp fs s a w):∀xs:List Operand,(kills s.t xs).Nodup->(xs.flatMap (fpo fp)).Nodup
 | [],_=>by simp
 | x::xs,hk=>by
  rw[flatMap_cons,nodup_append]
  have hk':(kills s.t xs).Nodup:=by
   cases x with
   | tmp i =>
    simp only[kills]at hk
    cases hn:(T s.t i).du with
    | true=>rw[hn]at hk;exact hk
    | false=>rw[hn]at hk;simp at hk;exact hk.2
   | const _=>exact hk
   | global _=>exact hk
   | func _=>exact hk
  refine⟨mU h x,xI h xs hk',λb hb b' hb' e=>?_⟩;subst e
  cases x with
  | tmp i =>
   simp only[fpo]at hb;obtain⟨y,hy,hby⟩:=List.mem_flatMap.1 hb'
   obtain⟨j,hj,hbj⟩:=gY h hy b hby;have e1:=h.so i b hb;rw[h.so j b hbj]at e1;cases e1;simp only[kills]at hk
   cases hn:(T s.t i).du with
   | true=>rw[Rep.eK hn (h.slots i)]at hb;simp at hb
   | false=>rw[hn]at hk;simp at hk;exact hk.1 hj
  | const _=>simp[fpo]at hb
  | global _=>simp[fpo]at hb
  | func _=>simp[fpo]at hb
def D6(h:di L B F0 w0 F own fp fs s a w)(xs:List Operand):∀b,b∈xs.flatMap (fpo fp)->∃i,i∈kills s.t xs/\b∈fp i:=by
 intro b hb;obtain⟨y,hy,hby⟩:=List.mem_flatMap.1 hb
 exact gY h hy b hby
def Aj(h:di L B F0 w0 F own fp fs s a w)(place:Nat->Option (Nat×Nat)):∀(parts:List (Nat×Operand)) (cells cells':List AV) (vals:List Value) (f0:List Nat),
  au L F w cells vals f0->pY place cells (parts.map λp=>(p.1,ev s.t p.2))=some cells'->(f0++(parts.map Prod.snd).flatMap (fpo fp)).Nodup ->
  ∃(nk:List Value) (f':List Nat),Instr.fill place vals.toArray (parts.map λp=>(p.1,a.eval p.2))=some nk.toArray/\au L F w cells' nk f'/\f'.Nodup /\
   (∀b,b∈f'->b∈f0\/b∈(parts.map Prod.snd).flatMap (fpo fp))/\cells'.length=cells.length
 | [],cells,cells',vals,f0,r,hf,hn=>by
  simp[pY]at hf;subst hf;exact⟨vals,f0,by simp[Instr.fill],r,by simpa using hn,λb hb=>.inl hb,rfl⟩
 | p::parts,cells,cells',vals,f0,r,hf,hn=>by
  simp only[map_cons,pY]at hf
  cases hp:place p.1 with
  | none=>rw[hp]at hf;simp at hf
  | some q =>
   rw[hp]at hf;simp only at hf
   cases hc:((ev s.t p.2).elem q.2 && Nat.ble (q.1+q.2) cells.length)with
   | false=>rw[hc]at hf;simp at hf
   | true =>
    rw[hc]at hf;simp only[cond_true]at hf;simp at hc;obtain⟨hel,hle⟩:=hc;obtain⟨hxl,hxs⟩:=oL hel (h.ev p.2);have hln:(a.eval p.2).cells.toList.length=q.2:=by simp[hxs]
    obtain⟨f',hf',hnd,hmem⟩:=r.Fs hxl q.1 q.2 (by rw[<- hxl.len,hln]) hle;simp only[map_cons,flatMap_cons]at hn;have hn1:(f0++fpo fp p.2).Nodup:=by rw[<- append_assoc]at hn;exact(List.nodup_append.1 hn).1
    have hn2:(f'++(parts.map Prod.snd).flatMap (fpo fp)).Nodup:=by
     rw[<- append_assoc]at hn;rw[nodup_append]at hn ⊢;refine⟨hnd hn1,hn.2.1,λb hb b' hb'=>hn.2.2 b ?_ b' hb'⟩;rcases hmem b hb with e|e<;>simp[e]
    obtain⟨nk,f'',h1,h2,h3,h4,h5⟩:=Aj h place parts _ cells' _ f' hf' hf hn2;refine⟨nk,f'',?_,h2,h3,λb hb=>?_,?_⟩
    ·simp only[map_cons,Instr.fill,hp];have hvl:=r.len;rw[if_neg (by simp[hxs];omega)];rw[<- h1]
     congr 1
     rw[<- Array.foldl_toList,Array.toList_zipIdx];have:=zq q.1 (a.eval p.2).cells.toList 0 vals (by rw[hln];omega);simp only[Nat.add_zero,hln]at this;rw[<- this]
    ·simp only[map_cons,flatMap_cons,mem_append];rcases h4 b hb with e|e
     ·rcases hmem b e with e|e
      ·exact .inl e
      ·exact .inr (.inl e)
     ·exact .inr (.inr e)
    ·rw[h5];have:(ev s.t p.2).cells.length=q.2:=by rw[<- hxl.len,hln]
     simp[this];omega
end
def plc(P:Program)(t:TypeId):Option (List (Nat×Nat)×List Value) :=
 match P.info? t,P.underlying t with
 | some it,some (.struct fields) =>
  match it.zero,fields.toList.mapM (λf=>(P.info? f.type).map λi=>(f.offset,i.size))with
  | some z,some places=>some (places,z.cells.toList)
  | _,_=>none
 | _,_=>none
def Mf{P:Program}{t:TypeId}{places:List (Nat×Nat)}{zs:List Value}(h:plc P t=some (places,zs))(parts:List (Nat×Value)) :
  P.built t parts=Instr.fill (places[·]?) zs.toArray parts:=by
 unfold plc at h;split at h
 ·rename_i it fields hi hu;split at h
  ·rename_i z pl hz hp;simp at h;obtain⟨rfl,rfl⟩:=h;simp[Program.built,hi,hu,hz,hp]
  ·cases h
 ·cases h
section ops
variable {L : Nat -> Nat} {P : Program} {s : AS} {o : Oper}
def MQ{t:TypeId}{parts:Array (Nat×Operand)}{places:List (Nat×Nat)}{zs:List Value}{cells:List AV}(ho:o.op=.build t parts)(hp:plc P t=some (places,zs))
  (hf:pY (places[·]?) (zs.map avz) (parts.toList.map λp=>(p.1,ev s.t p.2))=some cells) (hk:(kills s.t (parts.toList.map Prod.snd)).Nodup) :
  LOp L P s o (.agg cells) (kills s.t (parts.toList.map Prod.snd)):=by
 refine LOp.of_run λB F0 w0 F own fp fs a w h=>?_;obtain⟨nk,f',h1,h2,h3,h4,_⟩:=Aj h (places[·]?) parts.toList _ cells zs [] (au.plain zs) hf (by simpa using xI h _ hk);refine⟨.agg nk.toArray,f',?_,by simp only[Rep];exact⟨nk,rfl,h2⟩,h3,λb hb=>?_⟩
 ·have hb:=run_build (P:=P) w t (parts.map λp=>(p.1,a.eval p.2)) nk.toArray (by rw[Mf hp];simpa using h1);simp only[execOp,ho,Sem.run_bind];rw[show (λ(x:Nat×Operand)=>(x.1,a.eval x.2))=(λp:Nat×Operand=>(p.1,a.eval p.2))from rfl]at *;rw[hb];rfl
 ·rcases h4 b hb with e|e
  ·simp at e
  ·exact D6 h _ b e
end ops
def Km{L:gaa}{F:haa}{w:World}{sz:Nat}{x:AV}{y:Value}{f:List Nat}(h:x.elem sz=true)(hx:x.cells=[x])(r:Rep L F w x y f)(hna:∀l,x≠.agg l):y.cells.toList=[y]/\sz=1:=by
 have h2:=oL h r
 cases x with
 | agg l=>exact absurd rfl (hna l)
 | dead=>simp[AV.elem]at h
 | tup l=>simp[AV.elem]at h
 | cnd _ _=>simp[AV.elem]at h
 | pin _ _=>simp[AV.elem]at h
 | v x =>
  simp only[Rep]at r;obtain⟨rfl,_⟩:=r;simp[AV.elem]at h;exact⟨by cases y<;>simp_all [Value.cells,Value.oneCell'],h.2⟩
 | str _=>simp only[Rep]at r;simp[AV.elem]at h;rw[r.1];exact⟨rfl,h⟩
 | sl _ _ _=>simp only[Rep]at r;simp[AV.elem]at h;rcases r with⟨rfl|⟨_,_,rfl⟩,_⟩|⟨_,_,_,_,_,rfl,_⟩<;>exact⟨rfl,h⟩
 | slo _ _=>simp only[Rep]at r;simp[AV.elem]at h;rcases r with⟨rfl,_⟩|⟨_,_,_,_,_,rfl,_⟩<;>exact⟨rfl,h⟩
 | vp _=>simp only[Rep]at r;simp[AV.elem]at h;obtain⟨_,_,_,_,rfl,_⟩:=r;exact⟨rfl,h⟩
 | arr _ _ _ _=>simp only[Rep]at r;simp[AV.elem]at h;obtain⟨_,_,rfl,_⟩:=r;exact⟨rfl,h⟩
 | ptr _ _=>simp only[Rep]at r;simp[AV.elem]at h;obtain⟨rfl,_⟩:=r;exact⟨rfl,h⟩
 | fn _ _=>simp only[Rep]at r;simp[AV.elem]at h;obtain⟨_,rfl,_⟩:=r;exact⟨rfl,h⟩
def FB{L:gaa}{F:haa}{w:World}{sz:Nat}{x:AV}{us:List Value}{f:List Nat}(h:x.elem sz=true)(r:au L F w x.cells us f):∃y,Rep L F w x y f/\y.cells.toList=us/\y.cells.size=sz:=by
 by_cases ha:∃l,x=.agg l
 ·obtain⟨l,rfl⟩:=ha;simp[AV.elem]at h;exact⟨.agg us.toArray,by simp only[Rep];exact⟨us,rfl,r⟩,by simp[Value.cells],by simp[Value.cells,r.len,AV.cells,h]⟩
 ·have hna:∀l,x≠.agg l:=λl e=>ha ⟨l,e⟩
  have hx:x.cells=[x]:=by cases x<;>first|rfl|exact absurd rfl (hna _)
  rw[hx]at r;simp only[au]at r;obtain⟨y,vs',f1,f2,rfl,rfl,hr,rfl,rfl⟩:=r;obtain⟨h1,rfl⟩:=Km h hx hr hna;exact⟨y,by simpa using hr,h1,by rw[<- Array.length_toList,h1];rfl⟩
def au.nM{L:gaa}{F:haa}{w:World}{sz:Nat}:∀ {l:List AV} {vs:List Value} {fp:List Nat},(∀x,x∈l->x.elem sz=true)->au L F w (l.flatMap AV.cells) vs fp->bY L F w sz l vs fp
 | [],_,_,_,r=>by simpa[bY,au]using r
 | x::xs,vs,fp,h,r=>by
  rw[flatMap_cons]at r;obtain⟨v1,v2,f1,f2,rfl,rfl,r1,r2⟩:=r.split;obtain⟨y,hy,e,hs⟩:=FB (h x Xp) r1;simp only[bY];exact⟨y,v2,f1,f2,by rw[e],hs,rfl,hy,au.nM (λz hz=>h z (by simp[hz])) r2⟩
def au.Ls{L:gaa}{F:haa}{w:World}:∀vs:List Value,au L F w (replicate vs.length .dead) vs []
 | []=>by simp[au]
 | y::vs=>by simp only[length_cons,replicate_succ,au];exact⟨y,vs,[],[],rfl,rfl,by simp[Rep],au.Ls vs⟩
def vF(z:Value)(n:Nat):Array Value:=if n=0 then (Array.range n).map ((#[]:Array Value)[·% (#[]:Array Value).size]!) else (Array.range n).map (z.cells[·% z.cells.size]!)
def KM(z:Value)(n:Nat):(vF z n).size=n:=by unfold vF;split<;>simp
def U8{P:Program}{t e:TypeId}{inf:TypeInfo}{z:Value}(w:World)(len:Nat)(pv:Array (Nat×Value))(cells:Array Value)(hut:P.underlying t=some (.slice e))(fO:P.info? e=some inf)
  (hz:inf.zero=some z) (hsm:len * inf.size<=16777216)
  (yw:Instr.fill (λi=>some (i * inf.size,inf.size)) (vF z (len * inf.size)) pv.toList=some cells) :
  (Instr.buildSlice t len pv).run P w=.ok (.slice (some ⟨w.heap.size,0,none⟩) len len) (w.alloc (.cells cells e)):=by
 have abL:¬(len * inf.size > 2 ^ 24):=by omega
 unfold Instr.buildSlice;simp only[Sem.run_bind,run_underlying hut,Result.andThen_ok,sizeOf,typeInfo,run_program,fO,Sem.run_pure,zeroValue];rw[if_neg abL];by_cases h0:len * inf.size=0
 ·rw[if_pos h0];unfold vF at yw;rw[if_pos h0]at yw;simp only[Sem.run_pure,Sem.run_bind,Result.andThen_ok,yw,newRow,run_newObj];rfl
 ·rw[if_neg h0];unfold vF at yw;rw[if_neg h0]at yw;simp only[Sem.run_pure,Sem.run_bind,Result.andThen_ok,run_program,fO,hz,yw,newRow,run_newObj];rfl
section ops
variable {L : Nat -> Nat} {P : Program} {s : AS} {o : Oper}
def Dn{B:haa}{F0:haa}{w0:World}{F:haa}{own:Nat->Own}{fp fs:Nat->List Nat}{a:Act}{w:World}(h:di L B F0 w0 F own fp fs s a w)
  {t e:TypeId} {len sz bytes:Nat} {parts:Array (Nat×Operand)} {zs:List Value} {cells:List AV} (ho:o.op=.buildSlice t len parts) (ht:elm P t=some (e,sz,bytes)) (hz:zer P e=some zs) (hsm:len * sz<=16777216)
  (hf:pY (λi=>some (i * sz,sz)) (replicate (len * sz) .dead) (parts.toList.map λp=>(p.1,ev s.t p.2))=some cells) (hk:(kills s.t (parts.toList.map Prod.snd)).Nodup) :
  ∃vals f,(execOp a.eval o).run P w=.ok (.value (.slice (some ⟨w.heap.size,0,none⟩) len len)) (w.alloc (.cells vals.toArray e))/\au L F w cells vals f/\f.Nodup/\(∀b,b∈f->∃i,i∈kills s.t (parts.toList.map Prod.snd)/\b∈fp i)/\cells.length=len * sz:=by
 obtain⟨inf,hut,fO,rfl,rfl⟩:=jy ht;obtain⟨z,hzc,hzr⟩:=yc hz;obtain⟨KN,z',mF,hzz,_⟩:=tQ hz;rw[fO]at mF;cases mF
 obtain⟨nk,f',h1,h2,h3,h4,h5⟩:=Aj h (λi=>some (i * inf.size,inf.size)) parts.toList (replicate (len * inf.size) .dead) cells (vF z' (len * inf.size)).toList [] (by
  have:=au.Ls (L:=L) (F:=F) (w:=w) (vF z' (len * inf.size)).toList
  rwa [Array.length_toList,KM]at this) hf (by simpa using xI h _ hk)
 refine⟨nk,f',?_,h2,h3,λb hb=>?_,by simpa using h5⟩
 ·have hr:=U8 (P:=P) w len (parts.map λp=>(p.1,a.eval p.2)) nk.toArray hut fO hzz hsm (by simpa using h1);simp only[execOp,ho,Sem.run_bind];rw[hr];rfl
 ·rcases h4 b hb with e'|e'
  ·simp at e'
  ·exact D6 h _ b e'
def CK{t e:TypeId}{len sz bytes:Nat}{parts:Array (Nat×Operand)}{zs:List Value}{cells elems:List AV}(ho:o.op=.buildSlice t len parts)(ht:elm P t=some (e,sz,bytes))(hz:zer P e=some zs)(hsm:len * sz<=16777216)
  (hf:pY (λi=>some (i * sz,sz)) (replicate (len * sz) .dead) (parts.toList.map λp=>(p.1,ev s.t p.2))=some cells) (hk:(kills s.t (parts.toList.map Prod.snd)).Nodup)
  (hel:elems.flatMap AV.cells=cells) (hall:∀x,x∈elems->x.elem sz=true) (hlen:elems.length=len) (hL:len<=L sz) :
  LOp L P s o (.sl true sz elems) (kills s.t (parts.toList.map Prod.snd)):=by
 intro B F0 w0 F own fp fs a w next Q h bZ
 obtain⟨vals,f,hrun,ig,hn,hmem,hcl⟩:=Dn h ho ht hz hsm hf hk;unfold Oper.wp;rw[hrun];have hvl:=ig.len
 have hFS:∀b,F b->F b/\(b<w.heap.size):=λb hb'=>⟨hb',(h.fl b hb').2.1⟩
 have hlt:∀k,k∈f->k<w.heap.size:=λk hk=>by obtain⟨i,_,hi⟩:=hmem k hk;exact(h.jl hi).2
 refine bZ _ _ ⟨Kp.mN ((Below.refl _ _).alloc (Nat.le_refl _) _),F,w.heap.size::f,λ_ h=>h,λ_ h=>.inl h,?_,?_,?_⟩
 ·simp only[Rep];refine .inr ⟨w.heap.size,0,len,vals,f,by rw[hlen],Um,Um,⟨_,_,_,gh w _,λi _=>by simp⟩,?_,.inl ⟨by trivial,rfl,rfl,_,_,gh w _,by simp;omega⟩⟩;refine au.nM hall ?_;rw[hel];exact au.ext (Ext.alloc' w _) hFS hlt ig
 ·rw[nodup_cons];exact⟨λhm=>by have:=hlt _ hm;omega,hn⟩
 ·intro b hb;rcases List.mem_cons.1 hb with rfl|hb
  ·exact⟨λhF=>by have:=(hFS _ hF).2;omega,.inr ⟨Nat.le_refl _,Xp⟩⟩
  ·obtain⟨i,hi,hbi⟩:=hmem b hb;exact⟨h.C9 hbi,.inl ⟨i,hi,hbi⟩⟩
def uo(z:Array Value)(n m:Nat)(hz:z.size=m):(madeCells z (n * m)).toList=(replicate n z.toList).flatten:=by
 have key:∀n,((List.range (n * m)).map λj=>z[j % m]!)=(replicate n z.toList).flatten:=by
  intro n
  induction n with
  | zero=>simp
  | succ n ih =>
   rw[replicate_succ',flatten_append,<- ih,Nat.add_mul,Nat.one_mul,range_add,map_append,map_map]
   congr 1
   simp only[flatten_cons,flatten_nil,append_nil];apply ext_getElem
   ·simp[hz]
   ·intro j h1 h2;simp only[length_map,length_range]at h1;simp only[getElem_map,getElem_range,Function.comp_apply];rw[Nat.mul_comm,Nat.mul_add_mod,Nat.mod_eq_of_lt h1,getElem!_pos z j Um];simp
 have:=key n;rw[<- this];simp[madeCells,hz]
end ops
def AW(L:gaa)(P:Program)(c:Code)(s:AS)(Q:Exit->AS->Prop):Prop :=
 ∀B F0 w0 a w,Den L B F0 w0 s a w->c.wp P (λe a' w'=>∃s',Q e s'/\Den L B F0 w0 s' a' w') a w
def iR(L:gaa)(P:Program)(ops:Array Oper)(l:List Nat)(s:AS)(K:AS->Prop):Prop :=
 ∀B F0 w0 a w (Q:Exit->Act->World->Prop),Den L B F0 w0 s a w->(∀s' a' w',K s'->Den L B F0 w0 s' a' w'->Q .normal a' w')->wpOps P ops Q l a w
section
variable {L : Nat -> Nat} {P : Program} {s : AS} {Q : Exit -> AS -> Prop}
def AW.mono{c:Code}{Q':Exit->AS->Prop}(h:AW L P c s Q)(hq:∀e s,Q e s->Q' e s):AW L P c s Q' :=
 λB F0 w0 a w hd=>wp_mono (h B F0 w0 a w hd) λ_ _ _ ⟨s',h1,h2⟩=>⟨s',hq _ _ h1,h2⟩
def AW.skip(h:Q .normal s):AW L P .skip s Q:=λ_ _ _ _ _ hd=>wp_skip ⟨s,h,hd⟩
def AW.exit{id:Nat}(h:Q (.exit id) s):AW L P (.exit id) s Q:=λ_ _ _ _ _ hd=>wp_exit ⟨s,h,hd⟩
def AW.ret(h:Q .ret s):AW L P .ret s Q:=λ_ _ _ _ _ hd=>wp_ret ⟨s,h,hd⟩
def thenQ(next:AS->Prop)(Q:Exit->AS->Prop):Exit->AS->Prop
 | .normal,s=>next s
 | e,s=>Q e s
def AW.seq{x y:Code}(h:AW L P x s (thenQ (λs'=>AW L P y s' Q) Q)):AW L P (.seq x y) s Q:=by
 intro B F0 w0 a w hd;refine wp_seq (wp_mono (h B F0 w0 a w hd) ?_);rintro e a' w' ⟨s',h1,h2⟩
 cases e with
 | normal=>exact h1 B F0 w0 a' w' h2
 | _=>exact⟨s',h1,h2⟩
def blockQ(id:Nat)(Q:Exit->AS->Prop):Exit->AS->Prop
 | .exit id',s=>if id'=id then Q .normal s else Q (.exit id') s
 | e,s=>Q e s
def AW.block{id:Nat}{c:Code}(h:AW L P c s (blockQ id Q)):AW L P (.block id c) s Q:=by
 intro B F0 w0 a w hd;refine wp_block (wp_mono (h B F0 w0 a w hd) ?_);rintro e a' w' ⟨s',h1,h2⟩
 cases e with
 | exit id' =>
  simp only[blockQ]at h1;simp only[Exit.inBlock];split
  ·rename_i e;rw[if_pos e]at h1;exact⟨s',h1,h2⟩
  ·rename_i e;rw[if_neg e]at h1;exact⟨s',h1,h2⟩
 | _=>exact⟨s',h1,h2⟩
def AW.cond{c:Operand}{x y:Code}{t:Bool}(hc:ev s.t c=.v (.bool t))(ht:t=true->AW L P x s Q)(hf:t=false->AW L P y s Q):AW L P (.cond c x y) s Q:=by intro B F0 w0 a w hd;have hd':=hd;obtain⟨F,own,fp,fs,h⟩:=hd';exact wp_cond_split (h.val hc) (λe=>ht e B F0 w0 a w hd) (λe=>hf e B F0 w0 a w hd)
def least{J:haa}(h:∃n,J n):∃n,J n/\∀m,J m->n<=m:=by
 obtain⟨n,hn⟩:=h
 induction n using Nat.strongRecOn with
 | _ n ih =>
  by_cases e:∃m,m<n/\J m
  ·obtain⟨m,hm,hj⟩:=e;exact ih m hm hj
  ·exact⟨n,hn,λm hm=>Nat.le_of_not_lt λhlt=>e ⟨m,hlt,hm⟩⟩
def AW.loop{c:Code}(I:Nat->AS->Prop)(n:Nat)(h0:I n s)(round:∀n s,I n s->AW L P c s (thenQ (λs'=>∃m,m<n/\I m s') Q)):AW L P (.loop c) s Q:=by
 intro B F0 w0 a w hd
 classical
 let J:Act->World->Nat->Prop:=λa w n=>∃s,I n s/\Den L B F0 w0 s a w
 let μ:Act->World->Nat:=λa w=>if h:∃n,J a w n then Classical.choose (least h) else 0
 refine wp_loop (λa w=>∃n,J a w n) μ ⟨n,s,h0,hd⟩ ?_;intro a w hJ;obtain⟨⟨s,hI,hd⟩,jQ⟩:=Classical.choose_spec (least hJ);refine wp_mono (round _ s hI B F0 w0 a w hd) ?_;rintro e a' w' ⟨s',h1,h2⟩
 cases e with
 | normal =>
  obtain⟨m,hm,hI'⟩:=h1;refine⟨⟨m,s',hI',h2⟩,?_⟩
  have hJ':∃n,J a' w' n:=⟨m,s',hI',h2⟩
  simp only[μ,dif_pos hJ,dif_pos hJ'];exact Nat.lt_of_le_of_lt ((Classical.choose_spec (least hJ')).2 m ⟨s',hI',h2⟩) hm
 | _=>exact⟨s',h1,h2⟩
def Den.weaken{B:haa}{F0:haa}{w0:World}{a:Act}{w:World}{s':AS}(h:Den L B F0 w0 s a w)(hn:s'.n=s.n)(ht:∀i,T s'.t i=T s.t i\/T s'.t i=.dead)
  (ho:∀b cells,O s'.o b=some cells->O s.o b=some cells):Den L B F0 w0 s' a w:=by
 obtain⟨F,own,fp,fs,h⟩:=h
 classical
 refine⟨F,own,λi=>if T s'.t i=T s.t i then fp i else [],fs,{ h with size:=by rw[hn];exact h.size,slots:=?_,sn:=?_,so:=?_,obj:=λb cells hb=>h.obj b cells (ho b cells hb) }⟩
 ·intro i;by_cases e:T s'.t i=T s.t i
  ·simp only[if_pos e];rw[e];exact h.slots i
  ·simp only[if_neg e];rcases ht i with e'|e'
   ·exact absurd e' e
   ·rw[e'];simp[Rep]
 ·intro i;split
  ·exact h.sn i
  ·simp
 ·intro i b hb;split at hb
  ·exact h.so i b hb
  ·simp at hb
def AW.weaken{c:Code}{s':AS}(h:AW L P c s' Q)(hn:s'.n=s.n)(ht:∀i,T s'.t i=T s.t i\/T s'.t i=.dead)
  (ho:∀b cells,O s'.o b=some cells->O s.o b=some cells):AW L P c s Q :=
 λB F0 w0 a w hd=>h B F0 w0 a w (hd.weaken hn ht ho)
def fu(t:faa)(ks:List Nat):faa:=ks.map λi=>(i,T t i)
def uM(t:faa)(ks:List Nat)(i:Nat):T (fu t ks) i=T t i\/T (fu t ks) i=.dead:=by
 induction ks with
 | nil=>exact .inr rfl
 | cons k ks ih =>
  simp only[fu,map_cons,T];by_cases e:k=i
  ·subst e;simp
  ·have:(k == i)=false:=by simpa using e
   rw[this];exact ih
def AW.region{id:Nat}{ops:Array Oper}(h:iR L P ops (List.range ops.size) s (λs'=>Q .normal s')):AW L P (.region id ops false) s Q:=by intro B F0 w0 a w hd;exact wp_region (h B F0 w0 a w _ hd λs' a' w' h1 h2=>⟨s',h1,h2⟩)
def qB:AV->Option (Bool×Bool)
 | .v (.bool g)=>some (true,g)
 | .cnd G (.v (.bool g))=>some (G,g)
 | .cnd false .dead=>some (false,false)
 | _=>none
def qI{B:haa}{F0:haa}{w0:World}{a:Act}{w:World}(h:Den L B F0 w0 s a w){ops:Array Oper}{j d:Nat}{oj:Oper}{G g:Bool}(hj:ops[j]? = some oj)(hd:oj.dst=some d)(hg:qB (T s.t d)=some (G,g))(hlt:Nat.blt d s.n=true) :
  yielded ops a.tmps j=if G then some g else none:=by
 obtain⟨F,own,fp,fs,h⟩:=h;have hr:=h.slots d
 have oZ:d<a.tmps.size:=by rw[h.size];simpa using hlt
 have key:∀y,a.tmps.getD d undef=y->a.tmps[d]? = some y:=by
  intro y this;rw[Array.getD_eq_getD_getElem?,Array.getElem?_eq_getElem oZ]at this;rw[Array.getElem?_eq_getElem oZ];simpa using this
 generalize T s.t d=x at hg hr;unfold qB at hg;split at hg
 ·cases hg;simp only[Rep]at hr;simp[yielded,hj,hd,key _ hr.1]
 ·cases hg;simp only[Rep]at hr
  cases G with
  | true=>simp[yielded,hj,hd,key _ (hr.1 rfl).1]
  | false=>simp[yielded,hj,hd,key _ (hr.2 rfl).1,undef]
 ·cases hg;simp only[Rep]at hr;simp[yielded,hj,hd,key _ (hr.2 (by trivial)).1,undef]
 ·cases hg
def LOp.cnd{o:Oper}{x:AV}(h:LOp L P s o x []):LOp L P s o (.cnd true x) []:=by
 intro B F0 w0 F own fp fs a w next Q hd bZ
 refine h B F0 w0 F own fp fs a w next Q hd λv w' g=>bZ v w' ⟨g.below,?_⟩
 obtain⟨F',fx,h1,h2,h3,h4,h5⟩:=g.rep;exact⟨F',fx,h1,h2,by simp only[Rep];exact⟨λ_=>h3,λe=>by cases e⟩,h4,h5⟩
end
def gj(L:gaa)(P:Program)(f:FuncId)(args:List AV)(res:AV):Prop :=
 ∀(w:World) (F:haa) (vs:List Value),(∀b,F b->b<w.heap.size)->Tb L (λb=>b<w.heap.size) w->au L F w args vs [] ->
  Calls P f vs.toArray w λe w'=>∃v F' fp,e=.returned v/\Below w.heap.size w w'/\(∀b,F b->F' b)/\(∀b,F' b->F b\/(w.heap.size<=b/\b<w'.heap.size)) /\
   Rep L F' w' res v fp/\fp.Nodup/\∀b,b∈fp->¬F' b/\w.heap.size<=b/\b<w'.heap.size
def qj:Nat->List AV->faa
 | _,[]=>[]
 | i,x::xs=>(i,x)::qj (i+1) xs
def Cg:∀(xs:List AV) (k i:Nat),T (qj k xs) i=if k<=i then (xs[i - k]?).getD .dead else .dead
 | [],k,i=>by simp[qj,T]
 | x::xs,k,i=>by
  simp only[qj,T];by_cases e:k=i
  ·subst e;simp
  ·have:(k == i)=false:=by simpa using e
   rw[this,cond_false,Cg xs (k+1) i];by_cases h:k<=i
   ·have h1:k+1<=i:=by omega
    rw[if_pos h,if_pos h1,show i - k=(i - (k+1))+1 by omega,getElem?_cons_succ]
   ·rw[if_neg h,if_neg Um]
def Ends(L:gaa)(P:Program)(fn:Func)(s:AS)(res:AV):Prop :=
 ∀B F0 w0 a w,Den L B F0 w0 s a w->∃v F' fp,(results fn a.tmps).run P w=.ok v w/\(∀b,F0 b->F' b)/\(∀b,F' b->F0 b\/(¬B b/\b<w.heap.size)) /\
  Rep L F' w res v fp/\fp.Nodup/\∀b,b∈fp->¬F' b/\¬B b/\b<w.heap.size
def fin(L:gaa)(P:Program)(fn:Func)(res:AV):Exit->AS->Prop
 | .ret,s=>Ends L P fn s res
 | .normal,s=>Ends L P fn s res
 | _,_=>False
def enters(P:Program)(f:FuncId):Bool :=
 match P.funcs[f]? with
 | some fn=>fn.body.isSome && !(fn.name == "runtime.NumGoroutine")
 | none=>false
def vQ{P:Program}{f:FuncId}(h:enters P f=true)(args:Array Value)(w:World):(callFunc f args).run P w=.ok (.enter f args) w:=by
 unfold enters at h;split at h
 ·rename_i fn hf;simp at h;obtain⟨h1,h2⟩:=h
  cases hb:fn.body with
  | none=>simp[hb]at h1
  | some c=>simp[callFunc,hf,h2,hb]
 ·cases h
section ops
variable {L : Nat -> Nat} {P : Program} {s : AS} {o : Oper}
def au.uj{B:haa}{F0:haa}{w0:World}{F:haa}{own:Nat->Own}{fp fs:Nat->List Nat}{a:Act}{w:World}(h:di L B F0 w0 F own fp fs s a w) :
  ∀xs:List Operand,AV.nownL (xs.map (ev s.t))=true->au L F w (xs.map (ev s.t)) (xs.map a.eval) []
 | [],_=>by simp[au]
 | x::xs,hn=>by
  simp[AV.nownL]at hn;simp only[map_cons,au];have hr:=h.ev x;rw[Rep.eK hn.1 hr]at hr;exact⟨a.eval x,xs.map a.eval,[],[],rfl,rfl,hr,au.uj h xs (by simpa using hn.2)⟩
end ops
section ends
variable {L : Nat -> Nat} {P : Program} {s : AS} {fn : Func}
end ends
def slotsOf(ops:Array Oper)(o:Oper):List Nat :=
 (o.op.operands.toList.filterMap fun|.tmp t=>some t|_=>none)++(match o.guard with|some (j,_)=>((ops[j]?).bind (·.dst)).toList|none=>[])
def upd(o:Oper)(x:AV)(C:List Nat)(t:faa):faa:=put (killL t C) o.dst x
def yV(o:Oper)(x:AV)(C:List Nat)(t:faa)(k:Nat):T (upd o x C t) k=if o.dst=some k then x else if k∈C then .dead else T t k:=by simp only[upd,mG,Ch]
structure uN(L:gaa)(P:Program)(ops:Array Oper)(n:Nat)(os:List (Nat×Option (List AV)))(t:faa)(o:Oper)(x:AV)(C:List Nat):Prop where
 dst:dn n o.dst=true
 sub:∀i,i∈C->i∈slotsOf ops o
 run:(o.guard=none/\LOp L P ⟨n,fu t (slotsOf ops o),os⟩ o x C) \/
  ∃j want oj d G g x0,o.guard=some (j,want)/\ops[j]? = some oj/\oj.dst=some d/\Nat.blt d n=true/\qB (T t d)=some (G,g)/\x=.cnd (G && (g == want)) x0/\C=[] /\
   ((G && (g == want))=true->LOp L P ⟨n,fu t (slotsOf ops o),os⟩ o x0 [])
inductive lB(L:gaa)(P:Program)(ops:Array Oper)(n:Nat)(os:List (Nat×Option (List AV)))(K:faa->List (AV×List Nat)->Prop):Nat->faa->List (AV×List Nat)->Prop
 | done {i t acc}:K t acc->lB L P ops n os K i t acc
 | step {i t acc} (o:Oper) (x:AV) (C:List Nat):ops[i]? = some o->uN L P ops n os t o x C->lB L P ops n os K (i+1) (upd o x C t) (acc++[(x,C)])->lB L P ops n os K i t acc
def dP(ops:Array Oper)(D:List (AV×List Nat))(t:faa):List Nat->faa
 | []=>t
 | i::l=>dP ops D (match ops[i]?,D[i]? with|some o,some d=>upd o d.1 d.2 t|_,_=>t) l
def zb(ops:Array Oper)(D:List (AV×List Nat)):∀(l1 l2:List Nat) (t:faa),dP ops D t (l1++l2)=dP ops D (dP ops D t l1) l2
 | [],l2,t=>rfl
 | i::l1,l2,t=>by simp only[cons_append,dP];exact zb ops D l1 l2 _
def wr(ops:Array Oper)(Cs:List (List Nat))(i:Nat):List Nat:=((ops[i]?).bind (·.dst)).toList++(Cs[i]?).getD []
def rd(ops:Array Oper)(i:Nat):List Nat:=match ops[i]? with|some o=>slotsOf ops o|none=>[]
def conf(ops:Array Oper)(Cs:List (List Nat))(i j:Nat):Bool :=
 (wr ops Cs i).any (λk=>(rd ops j).contains k || (wr ops Cs j).contains k) || (rd ops i).any (λk=>(wr ops Cs j).contains k)
def wts(o:Oper):List Edge:=o.after.toList.filter (Region.binds .any)
def CF{o:Oper}{e:Edge}:e∈wts o↔e∈o.after.toList/\Region.binds .any e=true:=by simp only[wts,mem_filter]
def drawOK(ops:Array Oper)(Cs:List (List Nat)):Bool :=
 let b:=Region.before ops
 let m:=Cs.length
 Nat.ble m ops.size &&
 ((List.range ops.size).all λi=>((ops[i]?).map λo=>(wts o).all λe=>Nat.blt e.on i).getD true) &&
 ((List.range m).all λj=>(List.range j).all λi=>!conf ops Cs i j || (b.getD j 0).testBit i) &&
 ((List.range ops.size).all λj=>Nat.blt j m || (List.range j).all λi=>(b.getD j 0).testBit i)
def si{ops:Array Oper}{D:List (AV×List Nat)}(k:Nat):∀(l:List Nat) (t t':faa),T t k=T t' k ->
  T (dP ops D t l) k=T (dP ops D t' (l.filter λi=>(wr ops (D.map Prod.snd) i).contains k)) k
 | [],t,t',h=>h
 | i::l,t,t',h=>by
  cases hk:(wr ops (D.map Prod.snd) i).contains k with
  | true =>
   rw[filter_cons_of_pos (by simpa using hk)];simp only[dP];refine si k l _ _ ?_;split
   ·rw[yV,yV,h]
   ·exact h
  | false =>
   rw[filter_cons_of_neg (by simpa using hk)];simp only[dP];refine si k l _ _ ?_;split
   ·rename_i o d ho hd;rw[yV];simp[wr,ho,hd]at hk;rw[if_neg (λe=>hk.1 e),if_neg hk.2,h]
   ·exact h
def qi(ops:Array Oper)(S:haa):Prop:=∀j o,S j->ops[j]? = some o->∀e,e∈wts o->S e.on
def DW(acc:Array Nat)(i:Nat):∀(es:List Edge) (s0:Nat),((es.foldl (λs e=>if Region.binds .any e then s ||| 2 ^ e.on ||| acc.getD e.on 0 else s) s0).testBit i=true) ->
  s0.testBit i=true\/∃e,(e∈es/\Region.binds .any e=true)/\(e.on=i\/(acc.getD e.on 0).testBit i=true)
 | [],s0,h=>.inl h
 | e::es,s0,h=>by
  simp only[foldl_cons]at h;rcases DW acc i es _ h with h|⟨e',he',h⟩
  ·by_cases hb:Region.binds .any e=true
   ·rw[if_pos hb]at h;simp only[Nat.testBit_or,Bool.or_eq_true]at h;rcases h with(h|h)|h
    ·exact .inl h
    ·rw[Nat.testBit_two_pow]at h;exact .inr ⟨e,⟨Xp,hb⟩,.inl (by simpa using h)⟩
    ·exact .inr ⟨e,⟨Xp,hb⟩,.inr h⟩
   ·rw[if_neg hb]at h;exact .inl h
  ·exact .inr ⟨e',⟨by simp[he'.1],he'.2⟩,h⟩
def zy(ops:Array Oper)(S:haa)(hS:qi ops S):∀(l2 l1:List Oper) (acc:Array Nat),ops.toList=l1++l2->acc.size=l1.length ->
  (∀j o i,l1[j]? = some o->(acc.getD j 0).testBit i=true->(∀e,e∈wts o->S e.on)->S i) ->
  ∀j o i,ops[j]? = some o->((l2.foldl (λacc o=>acc.push (o.after.foldl (λs e=>if Region.binds .any e then s ||| 2 ^ e.on ||| acc.getD e.on 0 else s) 0)) acc).getD j 0).testBit i=true->(∀e,e∈wts o->S e.on)->S i
 | [],l1,acc,hl,_,hP,j,o,i,ho,hb,he=>by
  simp only[append_nil]at hl;exact hP j o i (by rw[<- hl,Array.getElem?_toList];exact ho) hb he
 | q::l2,l1,acc,hl,hsz,hP,j,o,i,ho,hb,he=>by
  simp only[foldl_cons]at hb;refine zy ops S hS l2 (l1++[q]) _ (by simpa using hl) (by simp[hsz]) ?_ j o i ho hb he;intro j' o' i' ho' hb' he';by_cases hlt:j'<l1.length
  ·rw[getElem?_append_left hlt]at ho';rw[Array.getD_eq_getD_getElem?,Array.getElem?_push,if_neg Um,<- Array.getD_eq_getD_getElem?]at hb';exact hP j' o' i' ho' hb' he'
  ·have hj:j'=l1.length:=by
    rcases Nat.lt_or_ge j' (l1++[q]).length with h|h
    ·simp at h;omega
    ·rw[getElem?_eq_none h]at ho';cases ho'
   subst hj;simp at ho';subst ho';rw[Array.getD_eq_getD_getElem?,Array.getElem?_push,if_pos hsz.symm,Option.getD_some,<- Array.foldl_toList]at hb';rcases DW acc i' q.after.toList 0 hb' with h|⟨e,hm,h⟩
   ·simp at h
   ·have hse:S e.on:=he' e (CF.2 hm);rcases h with rfl|h
    ·exact hse
    ·by_cases oZ:e.on<l1.length
     ·have hget:l1[e.on]? = some l1[e.on]:=getElem?_eq_getElem oZ;refine hP e.on _ i' hget h λe' ab8=>hS e.on l1[e.on] hse ?_ e' ab8;rw[<- Array.getElem?_toList,hl,getElem?_append_left oZ];exact hget
     ·rw[Array.getD_eq_getD_getElem?,Array.getElem?_eq_none Um]at h;simp at h
def lq{ops:Array Oper}{S:haa}(hS:qi ops S){i j:Nat}{o:Oper}(ho:ops[j]? = some o)(hb:((Region.before ops).getD j 0).testBit i=true)(he:∀e,e∈wts o->S e.on):S i:=by unfold Region.before at hb;simp only[<- Array.foldl_toList]at hb;refine zy ops S hS ops.toList [] #[] Xp Xp Xp j o i ho ?_ he;simpa only[<- Array.foldl_toList]using hb
structure lC(ops:Array Oper)(Cs:List (List Nat)):Prop where
 le:Cs.length<=ops.size
 edge:∀(i:Nat) (o:Oper),ops[i]? = some o->∀e,e∈wts o->e.on<i
 conf:∀i j,i<j->j<Cs.length->conf ops Cs i j=true->((Region.before ops).getD j 0).testBit i=true
 tail:∀i j,i<j->j<ops.size->Cs.length<=j->((Region.before ops).getD j 0).testBit i=true
def rV{ops:Array Oper}{Cs:List (List Nat)}(h:drawOK ops Cs=true):lC ops Cs:=by
 simp only[drawOK,Bool.and_eq_true,Bool.not_eq_true']at h;obtain⟨⟨⟨h2,h3⟩,h4⟩,h5⟩:=h;refine⟨by simpa using h2,?_,?_,?_⟩
 ·intro i o ho e he
  have hlt:i<ops.size:=by
   rcases Nat.lt_or_ge i ops.size with h|h
   ·exact h
   ·rw[Array.getElem?_eq_none h]at ho;cases ho
  have:=List.all_eq_true.1 h3 i (by simpa using hlt);rw[ho]at this;simp only[Option.map_some,Option.getD_some]at this;simpa using List.all_eq_true.1 this e he
 ·intro i j hij hj hc;have:=List.all_eq_true.1 (List.all_eq_true.1 h4 j (by simpa using hj)) i (by simpa using hij);simpa[hc]using this
 ·intro i j hij hj hm;have:=List.all_eq_true.1 h5 j (by simpa using hj);simp only[Bool.or_eq_true]at this;rcases this with h|h
  ·simp at h;omega
  ·exact List.all_eq_true.1 h i (by simpa using hij)
def wD{l:List Nat}{p q:Nat->Bool}(h:∀i,i∈l->p i=q i):l.filter p=l.filter q:=filter_congr h
def Cw{ops:Array Oper}{D:List (AV×List Nat)}(hF:lC ops (D.map Prod.snd)){S:Nat->Bool}(hS:qi ops (λi=>S i=true)){j:Nat}{o:Oper}(ho:ops[j]? = some o)(hj:j<D.length)(hSj:S j=false)
  (he:∀e,e∈wts o->S e.on=true) (t:faa) {k:Nat} (hk:k∈slotsOf ops o) :
  T (dP ops D t ((List.range D.length).filter S)) k=T (dP ops D t (List.range j)) k:=by
 have hrd:(rd ops j).contains k=true:=by simp[rd,ho,hk]
 rw[si k _ t t rfl,si k (List.range j) t t rfl]
 congr 2
 rw[filter_filter]
 have lV:List.range D.length=List.range j++(List.range (D.length - j)).map (j+·):=by
  rw[<- range_add];congr 1;omega
 rw[lV,filter_append]
 have h2:((List.range (D.length - j)).map (j+·)).filter (λa=>(wr ops (D.map Prod.snd) a).contains k && S a)=[]:=by
  rw[filter_eq_nil_iff];intro i hi hc;simp only[mem_map,mem_range]at hi;obtain⟨d,hd,rfl⟩:=hi;simp only[Bool.and_eq_true]at hc;rcases Nat.eq_zero_or_pos d with rfl|hpos
  ·simp[hSj]at hc
  ·have hlt:j+d<ops.size:=by have:=hF.le;simp at this;omega
   have BP:conf ops (D.map Prod.snd) j (j+d)=true:=by
    simp only[conf,Bool.or_eq_true,any_eq_true];exact .inr ⟨k,by simpa using hrd,hc.1⟩
   have hb:=hF.conf j (j+d) Um (by simp;omega) BP
   have hs:=lq hS (Array.getElem?_eq_getElem hlt) hb (λe he'=>hS (j+d) _ hc.2 (Array.getElem?_eq_getElem hlt) e he');rw[hSj]at hs;cases hs
 rw[h2,append_nil];refine wD λi hi=>?_;simp only[mem_range]at hi
 cases hw:(wr ops (D.map Prod.snd) i).contains k with
 | false=>simp
 | true =>
  have BP:conf ops (D.map Prod.snd) i j=true:=by
   simp only[conf,Bool.or_eq_true,any_eq_true];exact .inl ⟨k,by simpa using hw,.inl hrd⟩
  have hb:=hF.conf i j hi (by simpa using hj) BP;simpa using lq hS ho hb he
def mL(ops:Array Oper)(D:List (AV×List Nat))(t:faa)(l:List Nat)(j:Nat):dP ops D t (l++[j])=match ops[j]?,D[j]? with|some o,some d=>upd o d.1 d.2 (dP ops D t l)|_,_=>dP ops D t l:=by rw[zb];rfl
def step_eq{ops:Array Oper}{D:List (AV×List Nat)}(hF:lC ops (D.map Prod.snd)){S S':Nat->Bool}(hS:qi ops (λi=>S i=true)){j:Nat}{o:Oper}{d:AV×List Nat}(ho:ops[j]? = some o)(hd:D[j]? = some d)(hSj:S j=false)
  (hS':∀i,S' i=(S i || i == j)) (t:faa) (k:Nat) :
  T (upd o d.1 d.2 (dP ops D t ((List.range D.length).filter S))) k=T (dP ops D t ((List.range D.length).filter S')) k:=by
 have hj:j<D.length:=by
  rcases Nat.lt_or_ge j D.length with h|h
  ·exact h
  ·rw[getElem?_eq_none h]at hd;cases hd
 have lV:List.range D.length=List.range j++([j]++(List.range (D.length - (j+1))).map (j+1+·)):=by
  rw[<- append_assoc,<- range_succ,<- range_add];congr 1;omega
 cases hw:(wr ops (D.map Prod.snd) j).contains k with
 | false =>
  rw[yV];have hw':=hw;simp[wr,ho,hd]at hw';rw[if_neg (λe=>hw'.1 e),if_neg hw'.2,si k _ t t rfl,si k ((List.range D.length).filter S') t t rfl,filter_filter,filter_filter]
  congr 2
  refine wD λi _=>?_;rw[hS'];by_cases e:i=j
  ·subst e;rw[hw];simp
  ·have:(i == j)=false:=by simpa using e
   simp[this]
 | true =>
  have e0:∀t0:faa,T (upd o d.1 d.2 t0) k=if o.dst=some k then d.1 else .dead:=by
   intro t0;rw[yV];have hw':=hw;simp[wr,ho,hd]at hw';by_cases e:o.dst=some k
   ·simp[e]
   ·rcases hw' with e'|e'
    ·exact absurd e' e
    ·simp[e,e']
  rw[e0,si k ((List.range D.length).filter S') t t rfl,filter_filter,lV,filter_append,filter_append]
  have h2:((List.range (D.length - (j+1))).map (j+1+·)).filter (λa=>(wr ops (D.map Prod.snd) a).contains k && S' a)=[]:=by
   rw[filter_eq_nil_iff];intro i hi hc;simp only[mem_map,mem_range]at hi;obtain⟨q,hq,rfl⟩:=hi;simp only[Bool.and_eq_true,hS']at hc;have hne:(j+1+q == j)=false:=by simp;omega
   rw[hne,Bool.or_false]at hc;have hlt:j+1+q<ops.size:=by have:=hF.le;simp at this;omega
   have BP:conf ops (D.map Prod.snd) j (j+1+q)=true:=by
    simp only[conf,Bool.or_eq_true,any_eq_true];exact .inl ⟨k,by simpa using hw,.inr hc.1⟩
   have hb:=hF.conf j (j+1+q) Um (by simp;omega) BP
   have hs:=lq hS (Array.getElem?_eq_getElem hlt) hb (λe he'=>hS (j+1+q) _ hc.2 (Array.getElem?_eq_getElem hlt) e he');rw[hSj]at hs;cases hs
  have h1:[j].filter (λa=>(wr ops (D.map Prod.snd) a).contains k && S' a)=[j]:=by
   rw[filter_cons_of_pos (by simp only[hw,hS'];simp),filter_nil]
  rw[h2,h1,append_nil,mL];simp only[ho,hd];rw[e0]
def di.congr{L:gaa}{B:haa}{F0:haa}{w0:World}{n:Nat}{t t':faa}{os:List (Nat×Option (List AV))}{a:Act}{w:World}(h:Den L B F0 w0 ⟨n,t,os⟩ a w)(ht:∀k,T t k=T t' k):Den L B F0 w0 ⟨n,t',os⟩ a w :=
 h.weaken rfl (λk=>.inl (ht k).symm) (λ_ _ h=>h)
def LOp.CD{L:gaa}{P:Program}{n:Nat}{t t':faa}{os:List (Nat×Option (List AV))}{o:Oper}{x:AV}{C ks:List Nat}(h:LOp L P ⟨n,fu t ks,os⟩ o x C)(ht:∀k,k∈ks->T t' k=T t k)(hC:∀i,i∈C->i∈ks):LOp L P ⟨n,t',os⟩ o x C:=by
 intro B F0 w0 F own fp fs a w next Q hd bZ
 have hT:∀i,i∈ks->T (fu t ks) i=T t i:=by
  intro i hi;clear h hC ht
  induction ks with
  | nil=>cases hi
  | cons q ks ih =>
   simp only[fu,map_cons,T];by_cases e:q=i
   ·subst e;simp
   ·have:(q == i)=false:=by simpa using e
    rw[this];rcases List.mem_cons.1 hi with rfl|hi
    ·exact absurd rfl e
    ·exact ih hi
 have hT':∀i,i ∉ ks->T (fu t ks) i=.dead:=by
  intro i hi;clear h hC ht hT
  induction ks with
  | nil=>rfl
  | cons q ks ih =>
   simp only[fu,map_cons,T];have e:¬q=i:=λe=>hi (by simp[e])
   have:(q == i)=false:=by simpa using e
   rw[this];exact ih (λh=>hi (by simp[h]))
 classical
 refine h B F0 w0 F own (λi=>if i∈ks then fp i else []) fs a w next Q { hd with slots:=?_,sn:=?_,so:=?_ } ?_
 ·intro i;by_cases e:i∈ks
  ·simp only[if_pos e,hT i e,<- ht i e];exact hd.slots i
  ·simp only[if_neg e,hT' i e];simp[Rep]
 ·intro i;split
  ·exact hd.sn i
  ·simp
 ·intro i b hb;split at hb
  ·exact hd.so i b hb
  ·simp at hb
 ·intro v w' g;refine bZ v w' ⟨g.below.mono λb hb=>⟨hb.1,λ⟨i,hi,e⟩=>hb.2 ⟨i,hi,by by_cases hk:i∈ks<;>simp[hk]at e;exact e⟩⟩,?_⟩;obtain⟨F',fx,h1,h2,h3,h4,h5⟩:=g.rep;refine⟨F',fx,h1,λb hb=>?_,h3,h4,λb hb=>⟨(h5 b hb).1,?_⟩⟩
  ·rcases h2 b hb with e|e|⟨i,hi,e⟩
   ·exact .inl e
   ·exact .inr (.inl e)
   ·exact .inr (.inr ⟨i,hi,by simpa[hC i hi]using e⟩)
  ·rcases(h5 b hb).2 with⟨i,hi,e⟩|e
   ·exact .inl ⟨i,hi,by simpa[hC i hi]using e⟩
   ·exact .inr e
def filter_le{p q:Nat->Bool}(h:∀i,q i=true->p i=true):∀l:List Nat,(l.filter q).length<=(l.filter p).length
 | []=>by simp
 | i::l=>by
  have:=filter_le h l
  cases hq:q i with
  | true=>rw[filter_cons_of_pos (by simpa using hq),filter_cons_of_pos (by simpa using h i hq)];simpa using this
  | false =>
   rw[filter_cons_of_neg (by simp[hq])]
   cases hp:p i with
   | true=>rw[filter_cons_of_pos (by simpa using hp)];simp;omega
   | false=>rw[filter_cons_of_neg (by simp[hp])];exact this
def filter_lt{p q:Nat->Bool}(h:∀i,q i=true->p i=true):∀l:List Nat,(∃i,i∈l/\p i=true/\q i=false)->(l.filter q).length<(l.filter p).length
 | [],hex=>by simp at hex
 | i::l,⟨j,hj,hp,hq⟩=>by
  rcases List.mem_cons.1 hj with rfl|hj
  ·rw[filter_cons_of_neg (by simp[hq]),filter_cons_of_pos (by simpa using hp)];have:=filter_le h l;simp;omega
  ·have:=filter_lt h l ⟨j,hj,hp,hq⟩
   cases hq':q i with
   | true=>rw[filter_cons_of_pos (by simpa using hq'),filter_cons_of_pos (by simpa using h i hq')];simpa using this
   | false =>
    rw[filter_cons_of_neg (by simp[hq'])]
    cases hp':p i with
    | true=>rw[filter_cons_of_pos (by simpa using hp')];simp;omega
    | false=>rw[filter_cons_of_neg (by simp[hp'])];exact this
def ready(ops:Array Oper)(listed:Array Bool)(i:Nat):Bool :=
 !listed.getD i true && ((ops[i]?).map (·.after.all λe=>!Region.binds .any e || listed.getD e.on false)).getD false
def jW{ops:Array Oper}{listed:Array Bool}(hs:listed.size=ops.size){i:Nat}(hi:i<ops.size) :
  ready ops listed i=true↔listed.getD i false=false/\∀e,e∈wts ops[i]->listed.getD e.on false=true:=by
 have ho:ops[i]? = some ops[i]:=Array.getElem?_eq_getElem hi
 have e1:listed.getD i true=listed.getD i false:=by simp[Array.getD,hs,hi]
 simp only[ready,ho,Option.map_some,Option.getD_some,Bool.and_eq_true,Bool.not_eq_true',e1];constructor
 ·rintro⟨h1,h2⟩;refine⟨h1,λe he=>?_⟩;obtain⟨he1,he2⟩:=CF.1 he;rw[Array.all_eq_true_iff_forall_mem]at h2;have:=h2 e (by simpa using he1);rw[he2]at this;simpa using this
 ·rintro⟨h1,h2⟩;refine⟨h1,?_⟩;rw[Array.all_eq_true_iff_forall_mem];intro e he
  cases hb:Region.binds .any e with
  | false=>simp
  | true=>rw[h2 e (CF.2 ⟨by simpa using he,hb⟩)];simp
def go_succ(ops:Array Oper)(fuel t:Nat)(listed:Array Bool)(acc:List Nat):Region.linearise.go .any ops (fuel+1) t listed acc =
  match ((List.range ops.size).filter (ready ops listed))[t % ((List.range ops.size).filter (ready ops listed)).length]? with
  | some i=>Region.linearise.go .any ops fuel (t / ((List.range ops.size).filter (ready ops listed)).length) (listed.setIfInBounds i true) (i::acc)
  | none=>acc.reverse:=rfl
def u7{listed:Array Bool}{i:Nat}(hi:i<listed.size)(j:Nat):(listed.setIfInBounds i true).getD j false=(listed.getD j false || j == i):=by
 rw[Array.getD_eq_getD_getElem?,Array.getElem?_setIfInBounds];by_cases e:i=j
 ·subst e;simp[hi]
 ·have:(j == i)=false:=by simp;exact λh=>e h.symm
  rw[if_neg e,this,Bool.or_false,Array.getD_eq_getD_getElem?]
def yA{ops:Array Oper}{Cs:List (List Nat)}(hF:lC ops Cs):∀(fuel t p:Nat) (acc:List Nat) (listed:Array Bool),Cs.length<=p->p<=ops.size->listed.size=ops.size->(∀i,listed.getD i false=decide (i<p))->ops.size - p<=fuel ->
  Region.linearise.go .any ops fuel t listed acc=acc.reverse++range' p (ops.size - p)
 | 0,t,p,acc,listed,hm,hp,hs,hl,hf=>by
  have:ops.size - p=0:=by omega
  rw[this];simp[Region.linearise.go]
 | fuel+1,t,p,acc,listed,hm,hp,hs,hl,hf=>by
  have hS:qi ops (λi=>listed.getD i false=true):=by
   intro j o hj ho e he;have hj':j<p:=by rw[hl]at hj;simpa using hj
   rw[hl];have:=hF.edge j o ho e he;simp;omega
  rcases Nat.lt_or_ge p ops.size with hlt|hge
  ·have hrs:(List.range ops.size).filter (ready ops listed)=[p]:=by
    have lV:List.range ops.size=List.range p++([p]++(List.range (ops.size - (p+1))).map (p+1+·)):=by
     rw[<- append_assoc,<- range_succ,<- range_add];congr 1;omega
    rw[lV,filter_append,filter_append]
    have h1:(List.range p).filter (ready ops listed)=[]:=by
     rw[filter_eq_nil_iff];intro i hi hr;simp only[mem_range]at hi;have:=((jW hs Um).1 hr).1;rw[hl]at this;simp at this;omega
    have h2:[p].filter (ready ops listed)=[p]:=by
     rw[filter_cons_of_pos,filter_nil];refine(jW hs hlt).2 ⟨by rw[hl];simp,λe he=>?_⟩;have:=hF.edge p _ (Array.getElem?_eq_getElem hlt) e he;rw[hl];simpa using this
    have h3:((List.range (ops.size - (p+1))).map (p+1+·)).filter (ready ops listed)=[]:=by
     rw[filter_eq_nil_iff];intro i hi hr;simp only[mem_map,mem_range]at hi;obtain⟨q,hq,rfl⟩:=hi;have oZ:p+1+q<ops.size:=by omega
     have:=(jW hs oZ).1 hr
     have hb:=hF.tail p (p+1+q) Um oZ Um
     have:=lq hS (Array.getElem?_eq_getElem oZ) hb this.2;rw[hl]at this;simp at this
    rw[h1,h2,h3];rfl
   rw[go_succ,hrs];simp only[length_singleton,Nat.mod_one,getElem?_cons_zero]
   rw[yA hF fuel _ (p+1) (p::acc) (listed.setIfInBounds p true) Um Um (by simpa using hs) (λi=>by
    rw[u7 Um,hl];by_cases e:i=p
    ·subst e;simp
    ·have:(i == p)=false:=by simpa using e
     rw[this,Bool.or_false];congr 1;apply propext;omega) Um]
   rw[show ops.size - p=(ops.size - (p+1))+1 by omega,range'_succ];simp
  ·have hrs:(List.range ops.size).filter (ready ops listed)=[]:=by
    rw[filter_eq_nil_iff];intro i hi hr;simp only[mem_range]at hi;have:=((jW hs hi).1 hr).1;rw[hl]at this;simp at this;omega
   rw[go_succ,hrs];have:ops.size - p=0:=by omega
   rw[this];simp
def Wj{L:gaa}{P:Program}{ops:Array Oper}{n:Nat}{os:List (Nat×Option (List AV))}{t0:faa}{D:List (AV×List Nat)}{K:AS->Prop}{B:haa}{F0:haa}{w0:World}{Q:Exit->Act->World->Prop}(hF:lC ops (D.map Prod.snd))
  (hst:∀j o d,ops[j]? = some o->D[j]? = some d->uN L P ops n os (dP ops D t0 (List.range j)) o d.1 d.2)
  (htl:iR L P ops (range' D.length (ops.size - D.length)) ⟨n,dP ops D t0 (List.range D.length),os⟩ K) (hQ:∀s' a' w',K s'->Den L B F0 w0 s' a' w'->Q .normal a' w') :
  ∀(fuel t:Nat) (listed:Array Bool) (acc:List Nat),listed.size=ops.size->qi ops (λi=>listed.getD i false=true)->(∀j,D.length<=j->listed.getD j false=false)->((List.range ops.size).filter λi=>!listed.getD i false).length<=fuel ->
  ∃rest,Region.linearise.go .any ops fuel t listed acc=acc.reverse++rest/\∀a w,Den L B F0 w0 ⟨n,dP ops D t0 ((List.range D.length).filter λi=>listed.getD i false),os⟩ a w->wpOps P ops Q rest a w:=by
 intro fuel;have G6:D.length<=ops.size:=by have:=hF.le;simpa using this
 induction fuel with
 | zero =>
  intro t listed acc hs hS hno xH;have hnil:(List.range ops.size).filter (λi=>!listed.getD i false)=[]:=eq_nil_of_length_eq_zero Um;rw[filter_eq_nil_iff]at hnil;have hall:∀i,i<ops.size->listed.getD i false=true:=λi hi=>by simpa using hnil i (by simpa using hi)
  have hD:D.length=ops.size:=by
   rcases Nat.lt_or_ge D.length ops.size with h|h
   ·have:=hall D.length h;rw[hno D.length (Nat.le_refl _)]at this;cases this
   ·omega
  refine⟨[],by simp[Region.linearise.go],λa w hd=>?_⟩
  have Ag:(List.range D.length).filter (λi=>listed.getD i false)=List.range D.length:=by
   rw[filter_eq_self];intro i hi;exact hall i (by simp at hi;omega)
  rw[Ag]at hd;have:=htl B F0 w0 a w Q hd hQ;rw[show ops.size - D.length=0 by omega]at this;exact this
 | succ fuel ih =>
  intro t listed acc hs hS hno xH;by_cases hall:∀i,i<D.length->listed.getD i false=true
  ·refine⟨range' D.length (ops.size - D.length),?_,λa w hd=>?_⟩
   ·refine yA hF (fuel+1) t D.length acc listed Xp G6 hs (λi=>?_) ?_
    ·by_cases e:i<D.length
     ·rw[hall i e];simp[e]
     ·rw[hno i Um];simp[e]
    ·refine Nat.le_trans ?_ xH
     have lV:List.range ops.size=List.range D.length++(List.range (ops.size - D.length)).map (D.length+·):=by
      rw[<- range_add];congr 1;omega
     rw[lV,filter_append,length_append]
     have:((List.range (ops.size - D.length)).map (D.length+·)).filter (λi=>!listed.getD i false)=(List.range (ops.size - D.length)).map (D.length+·):=by
      rw[filter_eq_self];intro i hi;simp only[mem_map,mem_range]at hi;obtain⟨q,_,rfl⟩:=hi;rw[hno _ Um];rfl
     rw[this];simp
   ·have Ag:(List.range D.length).filter (λi=>listed.getD i false)=List.range D.length:=by
     rw[filter_eq_self];intro i hi;exact hall i (by simpa using hi)
    rw[Ag]at hd;exact htl B F0 w0 a w Q hd hQ
  ·have hex:∃i,i<D.length/\listed.getD i false=false:=by
    rcases Classical.em (∃i,i<D.length/\listed.getD i false=false)with h|h
    ·exact h
    ·exact absurd (λi hi=>by
      rcases hb:listed.getD i false with _|_
      ·exact absurd ⟨i,hi,hb⟩ h
      ·rfl) hall
   have jQ:=least hex;obtain⟨i0,⟨hi0,hl0⟩,jQ⟩:=jQ
   have hr0:ready ops listed i0=true:=by
    refine(jW hs Um).2 ⟨hl0,λe he=>?_⟩;have hlt:=hF.edge i0 _ (Array.getElem?_eq_getElem Um) e he;rcases hb:listed.getD e.on false with _|_
    ·have:=jQ e.on ⟨Um,hb⟩;omega
    ·rfl
   have BN:i0∈(List.range ops.size).filter (ready ops listed):=List.mem_filter.2 ⟨by simp;omega,hr0⟩
   have hpos:0<((List.range ops.size).filter (ready ops listed)).length:=length_pos_of_mem BN
   have hlt:=Nat.mod_lt t hpos;rw[go_succ,getElem?_eq_getElem hlt];have sS:((List.range ops.size).filter (ready ops listed))[t % ((List.range ops.size).filter (ready ops listed)).length]∈(List.range ops.size).filter (ready ops listed):=getElem_mem hlt;generalize ((List.range ops.size).filter (ready ops listed))[t % ((List.range ops.size).filter (ready ops listed)).length]=j at sS;obtain⟨hjn,hrj⟩:=List.mem_filter.1 sS;simp only[mem_range]at hjn;obtain⟨hlj,hej⟩:=(jW hs hjn).1 hrj;have hoj:ops[j]? = some ops[j]:=Array.getElem?_eq_getElem hjn
   have hjD:j<D.length:=by
    rcases Nat.lt_or_ge j D.length with h|h
    ·exact h
    ·have hb:=hF.tail i0 j Um hjn (by simpa using h)
     have:=lq hS hoj hb hej;rw[hl0]at this;cases this
   have hdj:D[j]? = some D[j]:=getElem?_eq_getElem hjD
   have hS':∀i,(listed.setIfInBounds j true).getD i false=(listed.getD i false || i == j):=u7 Um
   obtain⟨rest,hrest,hwp⟩:=ih (t / ((List.range ops.size).filter (ready ops listed)).length) (listed.setIfInBounds j true) (j::acc) (by simpa using hs) (by
    intro i o hi ho e he;rw[hS']at hi ⊢;simp only[Bool.or_eq_true]at hi ⊢;rcases hi with hi|hi
    ·exact .inl (hS i o hi ho e he)
    ·have:i=j:=by simpa using hi
     subst this;rw[hoj]at ho;cases ho
     exact .inl (hej e he)) (by
    intro i hi;rw[hS',hno i hi];have:(i == j)=false:=by simp;omega
    rw[this];rfl) (by
    have:=filter_lt (p:=λi=>!listed.getD i false) (q:=λi=>!(listed.setIfInBounds j true).getD i false) (λi hi=>by
     rw[hS']at hi;simp only[Bool.not_or,Bool.and_eq_true]at hi;exact hi.1) (List.range ops.size) ⟨j,by simpa using hjn,by rw[hlj];rfl,by rw[hS'];simp⟩
    omega)
   refine⟨j::rest,by dsimp only;rw[hrest];simp,λa w hd=>?_⟩;have hSt:=hst j ops[j] D[j] hoj hdj
   have xF:∀k,k∈slotsOf ops ops[j]->T (dP ops D t0 ((List.range D.length).filter λi=>listed.getD i false)) k=T (dP ops D t0 (List.range j)) k:=λk hk =>
    Cw hF hS hoj hjD hlj hej t0 hk
   have bZ:∀a' w',Den L B F0 w0 ⟨n,upd ops[j] D[j].1 D[j].2 (dP ops D t0 ((List.range D.length).filter λi=>listed.getD i false)),os⟩ a' w'->wpOps P ops Q rest a' w':=λa' w' h' =>
    hwp a' w' (di.congr h' (step_eq hF hS hoj hdj hlj hS' t0))
   have hop:LOp L P ⟨n,fu (dP ops D t0 (List.range j)) (slotsOf ops ops[j]),os⟩ ops[j] D[j].1 D[j].2->(ops[j]).wp P a w (wpOps P ops Q rest) Q:=λhl =>
    (hl.CD xF hSt.sub).opW hSt.dst (K:=λs'=>s'=⟨n,upd ops[j] D[j].1 D[j].2 (dP ops D t0 ((List.range D.length).filter λi=>listed.getD i false)),os⟩) rfl B F0 w0 a w _ Q hd λs' a' w' e h'=>by
     subst e;exact bZ a' w' h'
   rcases hSt.run with⟨hg,hl⟩|⟨gi,want,oj,d,G,g,x0,hg,hgi,hgd,hgl,hT,hx,hC,h1⟩
   ·simp only[wpOps,hoj];rw[if_pos (by simp[Region.wanted,hg])];exact .inl (hop hl)
   ·have hk:d∈slotsOf ops ops[j]:=by simp[slotsOf,hg,hgi,hgd]
    have hy:=qI hd hgi hgd (by rw[xF d hk];exact hT) hgl;simp only[wpOps,hoj,Region.wanted,hg,hy]
    cases hw:(G && (g == want))with
    | true =>
     have hl:=(h1 hw).cnd;rw[hw]at hx;rw[<- hx,<- hC]at hl;simp at hw;obtain⟨rfl,rfl⟩:=hw;rw[if_pos Xp];exact .inl (hop hl)
    | false =>
     rw[if_neg (by cases G<;>simp_all)];refine bZ _ _ ?_;obtain⟨F,own,fp,fs,h⟩:=hd;have:=h.put (x:=.cnd false x0) (v:=undef) (fx:=[]) [] (ops[j]).dst hSt.dst (Kp.refl _ _) (λ_ h=>h) (λ_ h=>.inl h) (by simp[Rep]) Xp Xp;rw[hx,hC,hw];exact this
def Den.drew{L:gaa}{B:haa}{F0:haa}{w0:World}{s:AS}{a:Act}{w:World}(h:Den L B F0 w0 s a w):Den L B F0 w0 s a { w with drawn:=w.drawn+1 }:=by
 obtain⟨F,own,fp,fs,h⟩:=h
 have cV:Ext (λ_=>True) w { w with drawn:=w.drawn+1 }:=⟨Nat.le_refl _,λ_ _=>rfl,λb c T z hc=>⟨c,hc,rfl⟩⟩
 refine⟨F,own,fp,fs,{ h with below:=⟨h.below.os,h.below.tape,h.below.output,h.below.size,h.below.block,h.below.shape⟩,slots:=λi=>Rep.ext cV (λb hb=>⟨hb,trivial⟩) (λ_ _=>trivial) (h.slots i),obj:=λb cells hb=>?_ }⟩;obtain⟨h1,h2,h3,c,Ty,vals,rest,h4,h5,h6⟩:=h.obj b cells hb;exact⟨h1,h2,h3,c,Ty,vals,rest,h4,h5,au.ext cV (λb hb=>⟨hb,trivial⟩) (λ_ _=>trivial) h6⟩
def lB.inv{L:gaa}{P:Program}{ops:Array Oper}{n:Nat}{os:List (Nat×Option (List AV))}{K:faa->List (AV×List Nat)->Prop}{t0:faa} :
  ∀ {i:Nat} {t:faa} {acc:List (AV×List Nat)},lB L P ops n os K i t acc->i=acc.length->t=dP ops acc t0 (List.range acc.length) ->
  (∀j o d,ops[j]? = some o->acc[j]? = some d->uN L P ops n os (dP ops acc t0 (List.range j)) o d.1 d.2) ->
  ∃D,K (dP ops D t0 (List.range D.length)) D/\∀j o d,ops[j]? = some o->D[j]? = some d->uN L P ops n os (dP ops D t0 (List.range j)) o d.1 d.2:=by
 intro i t acc h
 induction h with
 | done hK=>rintro _ rfl hst;exact⟨_,hK,hst⟩
 | @step i t acc o x C ho hs _ ih =>
  rintro rfl rfl hst
  have hpre:∀j,j<=acc.length->dP ops (acc++[(x,C)]) t0 (List.range j)=dP ops acc t0 (List.range j):=by
   intro j
   induction j with
   | zero=>intro _;rfl
   | succ j ihj =>
    intro hj;rw[range_succ,mL,mL,ihj Um,getElem?_append_left Um]
  refine ih Xp ?_ ?_
  ·rw[length_append,length_singleton,range_succ,mL,hpre _ (Nat.le_refl _)];simp[ho]
  ·intro j o' d ho' hd;rcases Nat.lt_or_ge j acc.length with h|h
   ·rw[getElem?_append_left h]at hd;rw[hpre j Um];exact hst j o' d ho' hd
   ·have hj:j=acc.length:=by
     rcases Nat.lt_or_ge j (acc++[(x,C)]).length with h'|h'
     ·simp at h';omega
     ·rw[getElem?_eq_none h']at hd;cases hd
    subst hj;simp at hd;subst hd;rw[ho]at ho';cases ho';rw[hpre _ (Nat.le_refl _)];exact hs
class iS(P:Program):Prop where
 h:P.follows .mixedOrders=true
theorem AW.draw{L:gaa}{P:Program}[hM:iS P]{s:AS}{Q:Exit->AS->Prop}{id:Nat}{ops:Array Oper}
  (h:lB L P ops s.n s.o (λt D=>drawOK ops (D.map Prod.snd)=true/\iR L P ops (range' D.length (ops.size - D.length)) ⟨s.n,t,s.o⟩ (λs'=>Q .normal s')) 0 s.t []) :
  AW L P (.region id ops true) s Q:=by
 intro B F0 w0 a w hd;obtain⟨D,⟨hok,htl⟩,hst⟩:=h.inv (t0:=s.t) rfl rfl Xp;have hF:=rV hok;refine wp_region_draw λt=>?_
 have GU:Region.schedule (P.follows .mixedOrders) ops t=Region.linearise .any ops t:=by
  simp[Region.schedule,hM.h]
 rw[GU]
 obtain⟨rest,hrest,hwp⟩:=Wj (Q:=λe a' w'=>∃s',Q e s'/\Den L B F0 w0 s' a' w') (B:=B) (F0:=F0) (w0:=w0) hF hst htl (λs' a' w' h1 h2=>⟨s',h1,h2⟩) ops.size t (Array.replicate ops.size false) [] Xp (by
  intro j o hj;rw[Array.getD_eq_getD_getElem?,Array.getElem?_replicate]at hj
  split at hj<;>simp at hj) (by
  intro j _;rw[Array.getD_eq_getD_getElem?,Array.getElem?_replicate]
  split<;>rfl) (by
  have:=length_filter_le (λi=>!(Array.replicate ops.size false).getD i false) (List.range ops.size)
  simpa using this)
 unfold Region.linearise;rw[hrest];simp only[reverse_nil,nil_append];refine hwp a _ ?_
 have:(List.range D.length).filter (λi=>(Array.replicate ops.size false).getD i false)=[]:=by
  rw[filter_eq_nil_iff];intro i _;rw[Array.getD_eq_getD_getElem?,Array.getElem?_replicate];split<;>simp
 rw[this];exact hd.drew
def WT(k:IntKind)(a b:Int):Int:=k.wrap (BitVec.ofInt k.bits a &&& BitVec.ofInt k.bits b).toNat
def Un(k:IntKind)(a b:Int):Int:=k.wrap (BitVec.ofInt k.bits a ^^^ BitVec.ofInt k.bits b).toNat
def Kk(k:IntKind)(a b:Int):Int:=a.fdiv (2 ^ min b.toNat k.bits)
def Dp(op:BinOp):Value->Value->Option Value
 | .int k a,.int k' b=>match op with
  | .shr=>if b<0 then none else some (.int k (Kk k a b))
  | _=>if k=k' then
   (match op with
   | .add=>some (.int k (k.wrap (a+b)))
   | .sub=>some (.int k (k.wrap (a - b)))
   | .mul=>some (.int k (k.wrap (a * b)))
   | .eql=>some (.bool (a == b))
   | .neq=>some (.bool (a != b))
   | .lss=>some (.bool (decide (a<b)))
   | .leq=>some (.bool (decide (a<=b)))
   | .gtr=>some (.bool (decide (b<a)))
   | .geq=>some (.bool (decide (b<=a)))
   | .quo=>if b=0 then none else some (.int k (k.wrap (a.tdiv b)))
   | .rem=>if b=0 then none else some (.int k (a.tmod b))
   | .and=>some (.int k (WT k a b))
   | .xor=>some (.int k (Un k a b))
   | _=>none) else none
 | _,_=>none
def Fy{P:Program}{op:BinOp}{u v z:Value}{ty:TypeId}{x y:Operand}(h:Dp op u v=some z)(w:World):(do eqGuard op ty x y u v;binOp op ty u v:Sem Value).run P w=.ok z w:=by
 unfold Dp at h;split at h
 ·rename_i k a k' b;have hg:(eqGuard op ty x y (.int k a) (.int k' b)).run P w=.ok () w:=by cases op<;>simp[eqGuard]
  rw[Sem.run_bind,hg];simp only[Result.andThen_ok];split at h
  ·split at h
   ·cases h
   ·rename_i hb;cases h;simp[binOp,Op.shift,hb,Kk]
  ·split at h
   ·rename_i hk;subst hk
    cases op<;>simp at h<;>first
     | (subst h;simp[binOp,Op.intArith,Op.intCmp];done)
     | (subst h;simp[binOp,Op.intBits,WT,Un];done)
     | (obtain⟨hb,h⟩:=h;subst h;simp[binOp,Op.intDiv,hb];done)
   ·cases h
 ·cases h
def HG(op:BinOp)(a b:List UInt8):Option Bool :=
 match op with
 | .eql=>some (a == b)
 | .neq=>some (!(a == b))
 | .lss=>some (Op.bytesLess a b)
 | .leq=>some (Op.bytesLess a b || a == b)
 | .gtr=>some (!(Op.bytesLess a b || a == b))
 | .geq=>some (!Op.bytesLess a b)
 | _=>none
def OW{P:Program}{op:BinOp}{a b:List UInt8}{z:Bool}{ty:TypeId}{x y:Operand}(h:HG op a b=some z)(w:World):(do eqGuard op ty x y (.string ⟨a.toArray⟩) (.string ⟨b.toArray⟩);binOp op ty (.string ⟨a.toArray⟩) (.string ⟨b.toArray⟩):Sem Value).run P w=.ok (.bool z) w:=by
 have hg:(eqGuard op ty x y (.string ⟨a.toArray⟩) (.string ⟨b.toArray⟩)).run P w=.ok () w:=by cases op<;>simp[eqGuard]
 rw[Sem.run_bind,hg];simp only[Result.andThen_ok];unfold HG at h;cases op<;>simp only[Option.some.injEq,reduceCtorEq]at h<;>(subst h;simp[binOp,Op.stringOp])
def unV(op:UnOp):Value->Option Value
 | .bool b=>match op with|.not=>some (.bool (!b))|_=>none
 | .int k n=>match op with|.neg=>some (.int k (k.wrap (0 - n)))|_=>none
 | _=>none
def R4{P:Program}{op:UnOp}{u z:Value}(h:unV op u=some z)(w:World):(Op.unary op u).run P w=.ok z w:=by
 unfold unV at h;split at h
 ·cases op<;>simp at h;subst h;simp[Op.unary]
 ·cases op<;>simp at h;subst h;simp[Op.unary,Op.intArith]
 ·cases h
section ops
variable {L : Nat -> Nat} {P : Program} {s : AS} {o : Oper}
def Pm{op:BinOp}{ty ty':TypeId}{x y:Operand}{u v z:Value}(ho:o.op=.binOp op ty x y ty')(hx:ev s.t x=.v u)(hy:ev s.t y=.v v)(hz:Dp op u v=some z):LOp L P s o (.v z) [] :=
 CL ho hx hy (Fy hz)
def Pn{op:BinOp}{ty ty':TypeId}{x y:Operand}{a b:List UInt8}{z:Bool}(ho:o.op=.binOp op ty x y ty')(hx:ev s.t x=.str a)(hy:ev s.t y=.str b)(hz:HG op a b=some z):LOp L P s o (.v (.bool z)) []:=by refine kL λB F0 w0 F own fp fs act w h=>?_;have:=OW (P:=P) (ty:=ty) (x:=x) (y:=y) hz w;simp only[execOp,ho,(h.wR hx).1,(h.wR hy).1];rw[Sem.run_bind,this];rfl
def SU{ty ty':TypeId}{x y:Operand}{a b:List UInt8}(ho:o.op=.binOp .add ty x y ty')(hx:ev s.t x=S a)(hy:ev s.t y=S b)(hsz:a.length+b.length<=4611686018427387904):LOp L P s o (S (a++b)) []:=by
 refine vw λB F0 w0 F own fp fs act w h=>⟨?_,by simpa using hsz⟩
 have h1:¬((a.length:Int)+(b.length:Int) > IntKind.i64.max):=by simp[IntKind.max,IntKind.bits,IntKind.signed];omega
 have hg:(eqGuard .add ty x y (.string ⟨a.toArray⟩) (.string ⟨b.toArray⟩)).run P w=.ok () w:=by simp[eqGuard]
 have hs:∀l:List UInt8,(ByteArray.mk l.toArray).size=l.length:=λl=>by simp[ByteArray.size]
 have hr:(do eqGuard .add ty x y (.string ⟨a.toArray⟩) (.string ⟨b.toArray⟩);binOp .add ty (.string ⟨a.toArray⟩) (.string ⟨b.toArray⟩):Sem Value).run P w=.ok (.string ⟨(a++b).toArray⟩) w:=by
  rw[Sem.run_bind,hg];simp only[Result.andThen_ok,binOp,Op.stringOp];rw[if_neg (by rw[hs,hs];push_cast;exact h1)];simp only[Sem.run_pure]
  congr 2
 simp only[execOp,ho,(h.wR hx).1,(h.wR hy).1];rw[Sem.run_bind,hr];rfl
def SP{op:UnOp}{ty:TypeId}{x:Operand}{u z:Value}(ho:o.op=.unOp op ty x)(hx:ev s.t x=.v u)(hz:unV op u=some z):LOp L P s o (.v z) [] :=
 Vx ho hx (R4 hz)
def G7{F:haa}{w:World}{x:AV}{y:Value}{fp:List Nat}{G g:Bool}(h:qB x=some (G,g))(r:Rep L F w x y fp)(hG:G=true):y=.bool g:=by
 unfold qB at h;split at h
 ·cases h;simp only[Rep]at r;exact r.1
 ·cases h;simp only[Rep]at r;exact(r.1 hG).1
 ·cases h;cases hG
 ·cases h
def Pk{c a b:Operand}{p Ga Gb u v:Bool}(ho:o.op=.pick c a b)(hc:ev s.t c=.v (.bool p))(ha:qB (ev s.t a)=some (Ga,u))(hb:qB (ev s.t b)=some (Gb,v))
  (h1:p=true->Ga=true) (h2:p=false->Gb=true):LOp L P s o (.v (.bool (bif p then u else v))) []:=by
 refine kL λB F0 w0 F own fp fs act w h=>?_;simp only[execOp,ho,h.val hc,asBool,Sem.run_bind,Sem.run_pure,Result.andThen_ok]
 cases p with
 | true=>simp[G7 ha (h.ev a) (h1 rfl)]
 | false=>simp[G7 hb (h.ev b) (h2 rfl)]
def bnd(t:faa)(o:Option Operand)(d:Int):Option Int :=
 match o with
 | none=>some d
 | some y=>match ev t y with
  | .v (.int _ n)=>some n
  | _=>none
def nF{B:haa}{F0:haa}{w0:World}{F:haa}{own:Nat->Own}{fp fs:Nat->List Nat}{a:Act}{w:World}(h:di L B F0 w0 F own fp fs s a w){y:Operand}{d n:Int}(hb:bnd s.t (some y) d=some n):∃k,a.eval y=.int k n:=by
 unfold bnd at hb;simp only at hb;split at hb
 ·rename_i k m hm;cases hb;exact⟨k,h.val hm⟩
 ·cases hb
def Et{t:TypeId}{x:Operand}{lo hi:Option Operand}{l:List UInt8}{i j:Int}(ho:o.op=.slice t x lo hi none)(ht:P.underlying t=some .string)(hx:ev s.t x=S l)(hlo:bnd s.t lo 0=some i)(hhi:bnd s.t hi l.length=some j)
  (h0:0<=i) (h1:i<=j) (h2:j<=l.length):LOp L P s o (S ((l.take j.toNat).drop i.toNat)) []:=by
 refine vw λB F0 w0 F own fp fs a w h=>⟨?_,by have:=(h.wR hx).2;simp;omega⟩
 have hsz:(ByteArray.mk l.toArray).size=l.length:=by simp[ByteArray.size]
 have cV:(ByteArray.mk l.toArray).extract i.toNat j.toNat=⟨((l.take j.toNat).drop i.toNat).toArray⟩:=by
  apply WideShapes.bytes_inj;rw[ByteArray.data_extract];simp[extract_eq_take_drop,drop_take]
 have hv:=(h.wR hx).1
 have ht':=run_underlying ht w
 have hr:(Instr.sliceAt t (.string ⟨l.toArray⟩) (lo.map a.eval) (hi.map a.eval) none).run P w=.ok (.string ⟨((l.take j.toNat).drop i.toNat).toArray⟩) w:=by
  rw[<- cV,run_sliceAt_string w t _ _ _ _ ht];have hjn:((j.toNat:Nat):Int)=j:=by omega
  have e1:0<=j/\j<=(l.length:Int):=by omega
  cases lo with
  | none =>
   simp[bnd]at hlo;subst hlo
   cases hi with
   | none =>
    simp[bnd]at hhi;subst hhi;simp[Instr.slice,ht',Instr.sliceBounds];have h3:=cV;simp at h3;exact h3.symm
   | some y =>
    obtain⟨k,hk⟩:=nF h hhi;simp[Instr.slice,ht',Instr.sliceBounds,Instr.sliceBound,hk,asIntOf,hsz,e1]
  | some z =>
   obtain⟨k',hk'⟩:=nF h hlo
   cases hi with
   | none=>simp[bnd]at hhi;subst hhi;simp[Instr.slice,ht',Instr.sliceBounds,Instr.sliceBound,hk',asIntOf,hsz,h0,h1]
   | some y =>
    obtain⟨k,hk⟩:=nF h hhi;simp[Instr.slice,ht',Instr.sliceBounds,Instr.sliceBound,hk,hk',asIntOf,hsz,h0,h1,e1,hjn]
 simp only[execOp,ho,hv,Sem.run_bind,Option.map_none];rw[hr];rfl
def bY.split{F:haa}{w:World}{sz:Nat}:∀ {l1 l2:List AV} {vs:List Value} {fp:List Nat},bY L F w sz (l1++l2) vs fp->∃v1 v2 f1 f2,vs=v1++v2/\fp=f1++f2/\bY L F w sz l1 v1 f1/\bY L F w sz l2 v2 f2
 | [],l2,vs,fp,r=>⟨[],vs,[],fp,rfl,rfl,by simp[bY],r⟩
 | x::xs,l2,vs,fp,r=>by
  simp only[cons_append,bY]at r;obtain⟨y,vs',f1,f2,rfl,hsz,rfl,hx,hxs⟩:=r;obtain⟨v1,v2,g1,g2,rfl,rfl,h1,h2⟩:=bY.split hxs;exact⟨y.cells.toList++v1,v2,f1++g1,g2,Xp,Xp,by simp only[bY];exact⟨y,v1,f1,g1,rfl,hsz,rfl,hx,h1⟩,h2⟩
def Ge{t e:TypeId}{x:Operand}{lo hi:Option Operand}{sz bytes:Nat}{l:List AV}{i j:Int}(ho:o.op=.slice t x lo hi none)(ht:elm P t=some (e,sz,bytes))(hx:ev s.t x=.sl false sz l)(hlo:bnd s.t lo 0=some i)(hhi:bnd s.t hi l.length=some j)
  (h0:0<=i) (h1:i<=j) (h2:j<=l.length):LOp L P s o (.sl false sz ((l.take j.toNat).drop i.toNat)) []:=by
 obtain⟨inf,hut,fO,rfl,rfl⟩:=jy ht;refine LOp.iU λB F0 w0 F own fp fs a w h=>?_;have hr:=h.ev x;rw[hx]at hr;have hP:P.elem t=e:=by simp[Program.elem,hut]
 have hsz:(sizeOf (P.elem t)).run P w=.ok inf.size w:=by rw[hP];simp[sizeOf,typeInfo,fO]
 have hjn:((j.toNat:Nat):Int)=j:=by omega
 have run:∀(q:Option Addr) (cap:Nat),l.length<=cap->(Instr.sliceAt t (.slice q l.length cap) (lo.map a.eval) (hi.map a.eval) none).run P w=.ok (sliced q i.toNat j.toNat cap inf.size) w:=by
  intro q cap hc;have e1:0<=j/\j<=(cap:Int):=by omega
  rw[run_sliceAt_slice w t _ _ _ _ (j4 hut),run_slice_any w t q l.length cap (j4 hut)]
  cases lo with
  | none =>
   simp[bnd]at hlo;subst hlo
   cases hi with
   | none=>simp[bnd]at hhi;subst hhi;simp[Instr.sliceBounds,hsz]
   | some y =>
    obtain⟨k,hk⟩:=nF h hhi;simp[Instr.sliceBounds,Instr.sliceBound,hk,asIntOf,e1,hsz]
  | some z =>
   obtain⟨k',hk'⟩:=nF h hlo
   cases hi with
   | none=>simp[bnd]at hhi;subst hhi;simp[Instr.sliceBounds,Instr.sliceBound,hk',asIntOf,h0,h1,hsz]
   | some y =>
    obtain⟨k,hk⟩:=nF h hhi;simp[Instr.sliceBounds,Instr.sliceBound,hk,hk',asIntOf,h0,h1,e1,hjn,hsz]
 have hlen:((l.take j.toNat).drop i.toNat).length=j.toNat - i.toNat:=by simp;omega
 simp only[Rep]at hr;rcases hr with⟨hv|⟨_,aa,hv⟩,rfl,_⟩|⟨b,off,cap,vals,fp',hv,hlc,hlL,hrow,hE,hF⟩
 ·have hi0:i=0:=by simp at h2;omega
  have hj0:j=0:=by simp at h2;omega
  subst hi0 hj0;refine⟨.slice none 0 0,?_,by simp[Rep]⟩;have:=run none 0 Xp;simp only[length_nil]at this;simp only[execOp,ho,hv,Sem.run_bind,Option.map_none];rw[this];simp[sliced]
 ·have hi0:i=0:=by simp at h2;omega
  have hj0:j=0:=by simp at h2;omega
  subst hi0 hj0;refine⟨sliced (some aa) 0 0 0 inf.size,?_,by simp[Rep,sliced]⟩;have:=run (some aa) 0 Xp;simp only[length_nil]at this;simp only[execOp,ho,hv,Sem.run_bind,Option.map_none];rw[this];rfl
 ·rcases hF with⟨hF,_⟩|⟨_,hF,rfl,_⟩
  ·cases hF
  ·refine⟨sliced (some ⟨b,off,none⟩) i.toNat j.toNat cap inf.size,?_,?_⟩
   ·simp only[execOp,ho,hv,Sem.run_bind,Option.map_none];rw[run _ cap hlc];rfl
   ·have e1:l=l.take i.toNat++((l.take j.toNat).drop i.toNat++l.drop j.toNat):=by
     have h3:l.take j.toNat=l.take i.toNat++(l.take j.toNat).drop i.toNat:=by
      have:=take_append_drop i.toNat (l.take j.toNat);rw[take_take,Nat.min_eq_left Um]at this;exact this.symm
     rw[<- append_assoc,<- h3,take_append_drop]
    rw[e1]at hE;obtain⟨v1,v23,f1,f23,rfl,hf,r1,r23⟩:=hE.split;obtain⟨v2,v3,f2,f3,rfl,hf2,r2,r3⟩:=r23.split;have hnil:f1++f23=[]:=hf.symm;simp only[append_eq_nil_iff]at hnil;obtain⟨rfl,rfl⟩:=hnil;have Rm:f2++f3=[]:=hf2.symm;simp only[append_eq_nil_iff]at Rm;obtain⟨rfl,rfl⟩:=Rm;have hl1:=r1.len
    have hl2:=r2.len;simp only[length_take]at hl1;rw[Nat.min_eq_left Um]at hl1;simp only[Rep];by_cases hc:cap=i.toNat
    ·refine .inr ⟨b,off,0,[],[],?_,Um,Um,?_,?_,.inr ⟨by trivial,hF,rfl,by trivial⟩⟩
     ·simp only[sliced,hc,if_true,hlen];congr 1;omega
     ·obtain⟨c,Ty,z,hc',_⟩:=hrow;exact⟨c,Ty,z,hc',Xp⟩
     ·have:(l.take j.toNat).drop i.toNat=[]:=eq_nil_of_length_eq_zero Um;rw[this];simp[bY]
    ·refine .inr ⟨b,off+i.toNat * inf.size,cap - i.toNat,v2,[],?_,Um,Um,?_,r2,.inr ⟨by trivial,hF,rfl,by trivial⟩⟩
     ·simp only[sliced,if_neg hc,Option.map_some,fW,hlen]
     ·have:=hrow.cut (i.toNat * inf.size) v2.length;rw[<- hl1,drop_left,take_left]at this;rw[<- hl1];exact this
def Eu{t e:TypeId}{x:Operand}{lo hi:Option Operand}{sz bytes:Nat}{l:List AV}{i j:Int}(ho:o.op=.slice t x lo hi none)(ht:elm P t=some (e,sz,bytes))(hx:ev s.t x=.sl true sz l)(hlo:bnd s.t lo 0=some i)(hhi:bnd s.t hi l.length=some j)
  (h0:0<=i) (h1:i<=j) (h2:j<=l.length):LOp L P s o (.slo sz ((l.take j.toNat).drop i.toNat)) (kills s.t [x]):=by
 obtain⟨inf,hut,fO,rfl,rfl⟩:=jy ht;refine LOp.of_run λB F0 w0 F own fp fs a w h=>?_;have hnd:=mU h x
 have hkl:=gY h (x:=x) (xs:=[x]) Xp
 have hr:=h.ev x;rw[hx]at hr;have hP:P.elem t=e:=by simp[Program.elem,hut]
 have hsz:(sizeOf (P.elem t)).run P w=.ok inf.size w:=by rw[hP];simp[sizeOf,typeInfo,fO]
 have hjn:((j.toNat:Nat):Int)=j:=by omega
 have run:∀(q:Option Addr) (cap:Nat),l.length<=cap->(Instr.sliceAt t (.slice q l.length cap) (lo.map a.eval) (hi.map a.eval) none).run P w=.ok (sliced q i.toNat j.toNat cap inf.size) w:=by
  intro q cap hc;have e1:0<=j/\j<=(cap:Int):=by omega
  rw[run_sliceAt_slice w t _ _ _ _ (j4 hut),run_slice_any w t q l.length cap (j4 hut)]
  cases lo with
  | none =>
   simp[bnd]at hlo;subst hlo
   cases hi with
   | none=>simp[bnd]at hhi;subst hhi;simp[Instr.sliceBounds,hsz]
   | some y =>
    obtain⟨k,hk⟩:=nF h hhi;simp[Instr.sliceBounds,Instr.sliceBound,hk,asIntOf,e1,hsz]
  | some z =>
   obtain⟨k',hk'⟩:=nF h hlo
   cases hi with
   | none=>simp[bnd]at hhi;subst hhi;simp[Instr.sliceBounds,Instr.sliceBound,hk',asIntOf,h0,h1,hsz]
   | some y =>
    obtain⟨k,hk⟩:=nF h hhi;simp[Instr.sliceBounds,Instr.sliceBound,hk,hk',asIntOf,h0,h1,e1,hjn,hsz]
 have hlen:((l.take j.toNat).drop i.toNat).length=j.toNat - i.toNat:=by simp;omega
 simp only[Rep]at hr;rcases hr with⟨hv|⟨hF,_⟩,rfl,_⟩|⟨b,off,cap,vals,fp',hv,hlc,hlL,hrow,hE,hF⟩
 ·have hi0:i=0:=by simp at h2;omega
  have hj0:j=0:=by simp at h2;omega
  subst hi0 hj0;refine⟨.slice none 0 0,[],?_,by simp[Rep],Xp,Xp⟩;have:=run none 0 Xp;simp only[length_nil]at this;simp only[execOp,ho,hv,Sem.run_bind,Option.map_none];rw[this];simp[sliced]
 ·cases hF
 ·rcases hF with⟨_,hfp,rfl,iO⟩|⟨hF,_⟩
  ·have e1:l=l.take i.toNat++((l.take j.toNat).drop i.toNat++l.drop j.toNat):=by
    have h3:l.take j.toNat=l.take i.toNat++(l.take j.toNat).drop i.toNat:=by
     have:=take_append_drop i.toNat (l.take j.toNat);rw[take_take,Nat.min_eq_left Um]at this;exact this.symm
    rw[<- append_assoc,<- h3,take_append_drop]
   rw[e1]at hE;obtain⟨v1,v23,f1,f23,rfl,hf,r1,r23⟩:=hE.split;obtain⟨v2,v3,f2,f3,rfl,hf2,r2,r3⟩:=r23.split
   have hsub:∀q,q∈b::f2->q∈fpo fp x:=by
    intro q hq;rw[hfp,hf,hf2];rcases List.mem_cons.1 hq with rfl|hq
    ·simp
    ·simp[hq]
   have hn2:(b::f2).Nodup:=by
    rw[hfp,hf,hf2]at hnd;refine hnd.sublist (List.Sublist.cons_cons _ ?_);exact(sublist_append_left f2 f3).trans (sublist_append_right f1 _)
   have hl1:=r1.len;simp only[length_take]at hl1;rw[Nat.min_eq_left Um]at hl1;by_cases hc:cap=i.toNat
   ·refine⟨sliced (some ⟨b,0,none⟩) i.toNat j.toNat cap inf.size,b::f2,?_,?_,hn2,λq hq=>hkl q (hsub q hq)⟩
    ·simp only[execOp,ho,hv,Sem.run_bind,Option.map_none];rw[run _ cap hlc];rfl
    ·have e2:(l.take j.toNat).drop i.toNat=[]:=eq_nil_of_length_eq_zero Um;rw[e2]at r2;simp only[bY]at r2;obtain⟨rfl,rfl⟩:=r2;rw[e2];simp only[Rep];refine .inr ⟨b,0,0,[],[],?_,Xp,Xp,?_,by simp[bY],rfl,?_⟩
     ·simp only[sliced,hc,if_true,length_nil];congr 1<;>omega
     ·obtain⟨c,Ty,z,hc',_⟩:=hrow;exact⟨c,Ty,z,hc',Xp⟩
     ·obtain⟨c,T,hc',_⟩:=iO;exact⟨c,T,hc',Xp⟩
   ·refine⟨sliced (some ⟨b,0,none⟩) i.toNat j.toNat cap inf.size,b::f2,?_,?_,hn2,λq hq=>hkl q (hsub q hq)⟩
    ·simp only[execOp,ho,hv,Sem.run_bind,Option.map_none];rw[run _ cap hlc];rfl
    ·simp only[Rep];refine .inr ⟨b,0+i.toNat * inf.size,cap - i.toNat,v2,f2,?_,Um,Um,?_,r2,rfl,?_⟩
     ·simp only[sliced,if_neg hc,Option.map_some,fW,hlen]
     ·have:=hrow.cut (i.toNat * inf.size) v2.length;rw[<- hl1,drop_left,take_left]at this;rw[<- hl1];exact this
     ·obtain⟨c,T,hc',ae6⟩:=iO;refine⟨c,T,hc',?_⟩
      have:i.toNat * inf.size+(cap - i.toNat) * inf.size=cap * inf.size:=by
       rw[<- Nat.add_mul];congr 1;omega
      omega
  ·cases hF
def ct(l:List UInt8):List AV:=l.map λc=>.v (.int .u8 c.toNat)
def wi{F:haa}{w:World}:∀ {l:List UInt8} {vals:List Value} {f:List Nat},au L F w (ct l) vals f->vals=l.map λc=>Value.int .u8 c.toNat
 | [],vals,f,hl=>by simp[ct,au]at hl;simp[hl.1]
 | c::l,vals,f,hl=>by
  simp only[ct,map_cons,au]at hl;obtain⟨y,vs',f1,f2,rfl,rfl,hy,hl'⟩:=hl;simp only[Rep]at hy;rw[hy.1,wi hl'];simp
def CJ{src dst e:TypeId}{x:Operand}{b:Nat}{l:List UInt8}(ho:o.op=.convert src dst x)(hs:P.underlying src=some (.slice e))(he:P.underlying e=some (.int .u8))(hd:P.underlying dst=some .string)
  (hx:ev s.t x=.arr b 0 l.length 1) (hO:O s.o b=some (ct l)) (hlen:l.length<=4611686018427387904):LOp L P s o (S l) []:=by
 refine vw λB F0 w0 F own fp fs a w h=>⟨?_,hlen⟩
 have hr:=h.ev x;rw[hx]at hr;simp only[Rep]at hr;obtain⟨_,cap,hv,_⟩:=hr;obtain⟨vals,f,hrow,hl,_⟩:=h.row hO 0;simp only[drop_zero]at hl;have vG:=wi hl;subst vG
 have hrun:=run_convert_bytes_back (P:=P) w src dst e ⟨b,0,none⟩ cap l hs he hd (λj hj=>by
  rw[fW];exact hrow.cell (by simp[getElem?_eq_getElem hj]))
 simp only[execOp,ho,hv,Sem.run_bind,hrun];rfl
def unb:List AV->Option (List UInt8)
 | []=>some []
 | .v (.int .u8 n)::l=>if 0<=n/\n<=255 then (unb l).map (UInt8.ofNat n.toNat::·) else none
 | _=>none
def Dv:∀l:List UInt8,unb (ct l)=some l
 | []=>rfl
 | c::l=>by
  have h1:c.toNat<256:=c.toNat_lt
  have ih:=Dv l;simp only[ct]at ih;simp only[ct,map_cons,unb,Int.toNat_natCast,ih,Option.map_some,UInt8.ofNat_toNat];rw[if_pos Um]
def IB:∀ {l:List AV} {bs:List UInt8},unb l=some bs->l=ct bs
 | [],bs,h=>by simp[unb]at h;subst h;rfl
 | x::l,bs,h=>by
  unfold unb at h;split at h
  ·rename_i e;cases e
  ·rename_i n l' e;cases e;split at h
   ·rename_i hn
    cases hl:unb l with
    | none=>rw[hl]at h;cases h
    | some bs' =>
     rw[hl]at h;simp at h;subst h;rw[IB hl]
     have:((UInt8.ofNat n.toNat).toNat:Int)=n:=by
      rw[UInt8.toNat_ofNat'];omega
     simp only[ct,map_cons,this]
   ·cases h
  ·cases h
def Es{src dst e:TypeId}{x:Operand}{own':Bool}{l:List UInt8}(ho:o.op=.convert src dst x)(hs:P.underlying src=some (.slice e))(he:P.underlying e=some (.int .u8))(hd:P.underlying dst=some .string)
  (hx:ev s.t x=.sl own' 1 (ct l)) (hlen:l.length<=4611686018427387904):LOp L P s o (S l) []:=by
 refine vw λB F0 w0 F own fp fs a w h=>⟨?_,hlen⟩
 have hr:=h.ev x;rw[hx]at hr;simp only[Rep]at hr
 have hfl:(ct l).flatMap AV.cells=ct l:=by
  clear hx hr hlen
  induction l with
  | nil=>rfl
  | cons c l ih =>
   simp only[ct,map_cons,flatMap_cons]at ih ⊢;rw[ih];rfl
 have hel:∀z,z∈ct l->z.elem 1=true:=by
  intro z hz;simp only[ct,mem_map]at hz;obtain⟨c,_,rfl⟩:=hz;rfl
 rcases hr with⟨hv,hl,_⟩|⟨b,off,cap,vals,fp',hv,_,_,hrow,hE,_⟩
 ·have:l=[]:=by cases l with|nil=>rfl|cons c l=>simp[ct]at hl
  subst this;rcases hv with hv|⟨_,aa,hv⟩
  ·have hrun:=run_convert_bytes_string (P:=P) w src dst e none 0 0 hs he hd
   have h0:(Conv.bytesToString (.slice none 0 0)).run P w=.ok (.string ⟨#[]⟩) w:=by
    unfold Conv.bytesToString;rfl
   rw[h0]at hrun;simp only[execOp,ho,hv,Sem.run_bind,hrun];rfl
  ·have hrun:=run_convert_bytes_back (P:=P) w src dst e aa 0 [] hs he hd (λj hj=>by simp at hj);simp only[length_nil]at hrun;simp only[execOp,ho,hv,Sem.run_bind,hrun];rfl
 ·have hl:=hE.flat hel;rw[hfl]at hl;have vG:=wi hl;subst vG
  have hrun:=run_convert_bytes_back (P:=P) w src dst e ⟨b,off,none⟩ cap l hs he hd (λj hj=>by
   rw[fW];exact hrow.cell (by simp[getElem?_eq_getElem hj]))
  have hll:(ct l).length=l.length:=by simp[ct]
  rw[hll]at hv;simp only[execOp,ho,hv,Sem.run_bind,hrun];rfl
def Gi{src dst:TypeId}{x:Operand}{k k':IntKind}{n:Int}{d:TypeDesc}(ho:o.op=.convert src dst x)(hs:P.underlying src=some d)(hd:P.underlying dst=some (.int k))(hx:ev s.t x=.v (.int k' n)):LOp L P s o (.v (.int k (k.wrap n))) []:=by refine kL λB F0 w0 F own fp fs a w h=>?_;simp only[execOp,ho,h.val hx,Sem.run_bind,convert,run_underlying hs,run_underlying hd,Result.andThen_ok];simp[Conv.intToInt]
def Gh{f:FuncId}{cap:Array Operand}(ho:o.op=.makeFunc (.func f) #[] cap)(hn:AV.nownL (cap.toList.map (ev s.t))=true):LOp L P s o (.fn f (cap.toList.map (ev s.t))) []:=by
 refine LOp.iU λB F0 w0 F own fp fs a w h=>?_;refine⟨.func (.func f) #[] (cap.toList.map a.eval).toArray,?_,?_⟩
 ·have e:cap.map a.eval=(cap.toList.map a.eval).toArray:=by apply Array.ext';simp
  rw[<- e];simp[execOp,ho,Instr.makeFunc]
 ·simp only[Rep];exact⟨_,rfl,au.uj h _ hn⟩
def SQ{c:Call}{x y:Operand}{ts:Array TypeId}{k:IntKind}{m n:Int}(ho:o.op=.call c)(hc:c=⟨.builtin .min,#[x,y],ts⟩)(hx:ev s.t x=.v (.int k m))(hy:ev s.t y=.v (.int k n)):LOp L P s o (.v (.int k (if n<m then n else m))) []:=by subst hc;refine kL λB F0 w0 F own fp fs a w h=>?_;simp[execOp,ho,resolve,invoke,builtin,h.val hx,h.val hy,Builtin.min_,Builtin.min2]
def SR{c:Call}{x y:Operand}{ts:Array TypeId}{k:IntKind}{m n:Int}(ho:o.op=.call c)(hc:c=⟨.builtin .max,#[x,y],ts⟩)(hx:ev s.t x=.v (.int k m))(hy:ev s.t y=.v (.int k n)):LOp L P s o (.v (.int k (if n > m then n else m))) []:=by subst hc;refine kL λB F0 w0 F own fp fs a w h=>?_;simp[execOp,ho,resolve,invoke,builtin,h.val hx,h.val hy,Builtin.max_,Builtin.max2]
end ops
def AV.unp:AV->AV
 | .pin _ x=>x
 | x=>x
def AV.pU:AV->AV->AV
 | .pin u _,x'=>.pin u x'
 | _,x'=>x'
def AV.det:AV->Bool
 | .v _=>true
 | .str _=>true
 | _=>false
def o6:List AV->Bool
 | []=>true
 | x::xs=>x.det && o6 xs
def iW:List AV->List AV
 | []=>[]
 | x::xs=>x.unp::iW xs
def lR:List AV->List AV->List AV
 | x::xs,y::ys=>x.pU y::lR xs ys
 | _,_=>[]
def mkv(g:Bool)(vs:List Value):Value:=bif g then .agg vs.toArray else vs.headD undef
def lW(g:Bool)(l:List AV):AV:=bif g then .agg l else l.headD .dead
section
variable {L : Nat -> Nat} {F : Nat -> Prop} {w : World}
def Rep.unp{x:AV}{y:Value}{fp:List Nat}(h:Rep L F w x y fp):Rep L F w x.unp y fp:=by
 cases x with
 | pin v x=>simp only[Rep]at h;exact h.2
 | _=>exact h
def Rep.Aq{F':haa}{w':World}{x:AV}{y y':Value}{fp fp':List Nat}(hd:x.hdr.det=true)(h:Rep L F w x y fp)(h':Rep L F' w' x.hdr y' fp'):y'=y:=by
 cases x with
 | pin v x=>simp only[Rep,AV.hdr]at h h';rw[h.1,h'.1]
 | v x=>simp only[Rep,AV.hdr]at h h';rw[h.1,h'.1]
 | str x=>simp only[Rep,AV.hdr]at h h';rw[h.1,h'.1]
 | _=>simp[AV.hdr,AV.det]at hd
def Rep.pU{F':haa}{w':World}{x z:AV}{y:Value}{fp fp':List Nat}(h:Rep L F w x y fp)(h':Rep L F' w' z y fp'):Rep L F' w' (x.pU z) y fp':=by
 cases x with
 | pin v x=>simp only[Rep,AV.pU]at h ⊢;exact⟨h.1,h'⟩
 | _=>exact h'
def au.unp:∀ {l:List AV} {vs:List Value} {fp:List Nat},au L F w l vs fp->au L F w (iW l) vs fp
 | [],_,_,h=>h
 | x::xs,vs,fp,h=>by
  simp only[au,iW]at h ⊢;obtain⟨y,vs',f1,f2,hv,hf,hx,hxs⟩:=h;exact⟨y,vs',f1,f2,hv,hf,hx.unp,hxs.unp⟩
def au.Aq{F':haa}{w':World}:∀ {l:List AV} {vs vs':List Value} {fp fp':List Nat},o6 (gu l)=true->au L F w l vs fp->au L F' w' (gu l) vs' fp'->vs'=vs
 | [],_,_,_,_,_,h,h'=>by simp only[au,gu]at h h';rw[h.1,h'.1]
 | x::xs,vs,vs',fp,fp',hd,h,h'=>by
  simp only[gu,o6,Bool.and_eq_true]at hd;simp only[au,gu]at h h';obtain⟨y,us,f1,f2,rfl,_,hx,hxs⟩:=h;obtain⟨y',us',g1,g2,rfl,_,hx',PT⟩:=h';rw[hx.Aq hd.1 hx',au.Aq hd.2 hxs PT]
def au.pU{F':haa}{w':World}:∀ {l z:List AV} {vs:List Value} {fp fp':List Nat},au L F w l vs fp->au L F' w' z vs fp'->au L F' w' (lR l z) vs fp'
 | [],z,vs,fp,fp',h,h'=>by
  simp only[au]at h;obtain⟨rfl,_⟩:=h
  cases z with
  | nil=>simpa[lR]using h'
  | cons a z=>simp only[au]at h';obtain⟨y,vs',_,_,e,_⟩:=h';cases e
 | x::xs,z,vs,fp,fp',h,h'=>by
  simp only[au]at h;obtain⟨y,us,f1,f2,rfl,_,hx,hxs⟩:=h
  cases z with
  | nil=>simp only[au]at h';exact absurd h'.1 Xp
  | cons a z =>
   simp only[au]at h';obtain⟨y',us',g1,g2,e,rfl,ha,hz⟩:=h';cases e;simp only[lR,au];exact⟨y,us,g1,g2,rfl,rfl,hx.pU ha,hxs.pU hz⟩
def vf{g:Bool}{x:List AV}{v:Value}{fp:List Nat}(hg:g=false->x.length=1)(h:Rep L F w (lW g x) v fp):∃vs,au L F w x vs fp/\v=mkv g vs:=by
 cases g with
 | true =>
  simp only[lW,cond_true,Rep]at h;obtain⟨vs,rfl,h⟩:=h;exact⟨vs,h,rfl⟩
 | false =>
  have:=hg rfl
  match x,this,h with
  | [x],_,h =>
   refine⟨[v],?_,rfl⟩;simp only[au];exact⟨v,[],fp,[],rfl,Xp,by simpa[lW]using h,rfl,rfl⟩
def HN{g:Bool}{x:List AV}{vs:List Value}{fp:List Nat}(hg:g=false->x.length=1)(h:au L F w x vs fp):Rep L F w (lW g x) (mkv g vs) fp:=by
 cases g with
 | true=>simp only[lW,cond_true,Rep];exact⟨vs,rfl,h⟩
 | false =>
  have:=hg rfl
  match x,this,h with
  | [x],_,h =>
   simp only[au]at h;obtain⟨y,vs',f1,f2,rfl,rfl,hx,rfl,rfl⟩:=h;simpa[lW,mkv]using hx
def pX:∀l:List AV,(gu l).length=l.length
 | []=>rfl
 | x::xs=>by simp[gu,pX xs]
def tw:∀l:List AV,(iW l).length=l.length
 | []=>rfl
 | x::xs=>by simp[iW,tw xs]
end
mutual
def AV.closed:AV->Bool
 | .sl o _ l=>o && AV.cL l
 | .vp _=>false
 | .agg l=>AV.cL l
 | .tup l=>AV.cL l
 | .fn _ l=>AV.cL l
 | .cnd _ x=>x.closed
 | .pin _ x=>x.closed
 | .slo _ l=>AV.cL l
 | _=>true
def AV.cL:List AV->Bool
 | []=>true
 | x::xs=>x.closed && AV.cL xs
end
mutual
def Rep.closed{L:gaa}{F G:haa}{w:World}:∀ {x:AV} {y:Value} {fp:List Nat},x.closed=true->Rep L F w x y fp->Rep L G w x y fp
 | .dead,_,_,_,r=>by simpa[Rep]using r
 | .v _,_,_,_,r=>by simpa[Rep]using r
 | .str _,_,_,_,r=>by simpa[Rep]using r
 | .sl own sz l,y,fp,h,r=>by
  simp[AV.closed]at h;simp only[Rep]at r ⊢;rcases r with r|⟨b,off,cap,vals,fp',hy,h1,h2,hrow,he,ho⟩
  ·exact .inl r
  ·refine .inr ⟨b,off,cap,vals,fp',hy,h1,h2,hrow,bY.closed h.2 he,?_⟩;rcases ho with ho|⟨e,_⟩
   ·exact .inl ho
   ·rw[h.1]at e;cases e
 | .vp _,_,_,h,_=>by simp[AV.closed]at h
 | .arr ..,_,_,_,r=>by simpa[Rep]using r
 | .ptr ..,_,_,_,r=>by simpa[Rep]using r
 | .agg l,y,fp,h,r=>by
  simp only[Rep]at r ⊢;obtain⟨vs,hy,hl⟩:=r;exact⟨vs,hy,au.closed (by simpa[AV.closed]using h) hl⟩
 | .tup l,y,fp,h,r=>by
  simp only[Rep]at r ⊢;obtain⟨vs,hy,hl⟩:=r;exact⟨vs,hy,au.closed (by simpa[AV.closed]using h) hl⟩
 | .fn f l,y,fp,h,r=>by
  simp only[Rep]at r ⊢;obtain⟨vs,hy,hl⟩:=r;exact⟨vs,hy,au.closed (by simpa[AV.closed]using h) hl⟩
 | .cnd g x,y,fp,h,r=>by
  simp only[Rep]at r ⊢;exact⟨λe=>Rep.closed (by simpa[AV.closed]using h) (r.1 e),r.2⟩
 | .pin v x,y,fp,h,r=>by
  simp only[Rep]at r ⊢;exact⟨r.1,Rep.closed (by simpa[AV.closed]using h) r.2⟩
 | .slo sz l,y,fp,h,r=>by
  simp[AV.closed]at h;simp only[Rep]at r ⊢;rcases r with r|⟨b,off,cap,vals,fp',hy,h1,h2,hrow,he,ho⟩
  ·exact .inl r
  ·exact .inr ⟨b,off,cap,vals,fp',hy,h1,h2,hrow,bY.closed h he,ho⟩
def au.closed{L:gaa}{F G:haa}{w:World}:∀ {l:List AV} {vs:List Value} {fp:List Nat},AV.cL l=true->au L F w l vs fp->au L G w l vs fp
 | [],_,_,_,r=>by simpa[au]using r
 | x::xs,vs,fp,h,r=>by
  simp[AV.cL]at h;simp only[au]at r ⊢;obtain⟨y,vs',f1,f2,hv,rfl,hx,hxs⟩:=r;exact⟨y,vs',f1,f2,hv,rfl,Rep.closed h.1 hx,au.closed h.2 hxs⟩
def bY.closed{L:gaa}{F G:haa}{w:World}{sz:Nat}:∀ {l:List AV} {vs:List Value} {fp:List Nat},AV.cL l=true->bY L F w sz l vs fp->bY L G w sz l vs fp
 | [],_,_,_,r=>by simpa[bY]using r
 | x::xs,vs,fp,h,r=>by
  simp[AV.cL]at h;simp only[bY]at r ⊢;obtain⟨y,vs',f1,f2,hv,hsz,rfl,hx,hxs⟩:=r;exact⟨y,vs',f1,f2,hv,hsz,rfl,Rep.closed h.1 hx,bY.closed h.2 hxs⟩
end
def Low(os:List (Nat×Option (List AV)))(x y:AV):Prop :=
 (x.du=true/\y=x)\/(∃b off len sz l cells,x=.arr b off len sz/\O os b=some cells/\y=.sl false sz l/\l.length=len/\l.flatMap AV.cells=AV.cl ((cells.drop off).take (len * sz))/\(∀z,z∈l->z.elem sz=true))\/y=x.frz \/
 (∃g b pre px post,O os b=some (pre++(px++post))/\o6 (gu px)=true/\(g=false->px.length=1)/\x=lW g (gu px)/\y=lW g (AV.cl px))
inductive ou(os:List (Nat×Option (List AV))):List AV->List AV->Prop
 | nil:ou os [] []
 | cons {x y xs ys}:Low os x y->ou os xs ys->ou os (x::xs) (y::ys)
def uP(L:gaa)(P:Program)(os:List (Nat×Option (List AV)))(f:FuncId)(args:List AV)(res:AV):Prop :=
 enters P f=true/\((AV.nownL args=true/\gj L P f args res)\/∃args',ou os args args'/\res.closed=true/\gj L P f args' res)
def uP.pure{L:gaa}{P:Program}{os:List (Nat×Option (List AV))}{f:FuncId}{args:List AV}{res:AV}(he:enters P f=true)(hn:AV.nownL args=true)(h:gj L P f args res):uP L P os f args res:=⟨he,.inl ⟨hn,h⟩⟩
section
variable {L : Nat -> Nat} {P : Program} {s : AS} {o : Oper}
def SN{B:haa}{F0:haa}{w0:World}{F:haa}{own:Nat->Own}{fp fs:Nat->List Nat}{a:Act}{w:World}(h:di L B F0 w0 F own fp fs s a w){x y:AV}{v:Value}{f:List Nat}(hl:Low s.o x y)(hr:Rep L F w x v f)(hf:∀b,b∈f->b<w.heap.size) :
  Rep L (λb=>b<w.heap.size) w y v []:=by
 have hFl:∀b,F b->b<w.heap.size:=λb hb=>(h.fl b hb).2.1
 have hid:Ext (λ_=>True) w w:=⟨Nat.le_refl _,λ_ _=>rfl,λb c T z hc=>⟨c,hc,rfl⟩⟩
 rcases hl with⟨hn,rfl⟩|⟨b,off,len,sz,l,cells,rfl,hO,rfl,hlen,hfl,hel⟩|rfl|⟨g,b,pre,px,post,hO,hdt,hg,rfl,rfl⟩
 ·rw[Rep.eK hn hr]at hr;exact Rep.ext hid (λb hb=>⟨hFl b hb,trivial⟩) Xp hr
 ·simp only[Rep]at hr;obtain⟨_,cap,hv,hlc,hlL,iO⟩:=hr;obtain⟨vals,f',hrow,hl',hsub⟩:=h.row hO off;obtain⟨f2,hl2,YN⟩:=hl'.cut 0 (len * sz);simp only[drop_zero]at hl2;obtain⟨hkey,_,fP,_⟩:=h.obj b cells hO;have hb:=(h.ol b (by rw[hkey];simp)).2
  have hfz:=au.frz (F':=λb=>b<w.heap.size) hFl (λk hk=>(h.ol k (by rw[fP k (hsub k (YN k hk))];simp)).2) hl2;simp only[Rep];refine .inr ⟨b,off,cap,vals.take (len * sz),[],by rw[hlen];exact hv,Um,Um,?_,?_,.inr ⟨by trivial,hb,rfl,by trivial⟩⟩
  ·have:=hrow.cut 0 (len * sz);simpa using this
  ·refine au.nM hel ?_;rw[hfl];exact hfz
 ·exact Rep.frz hFl hf hr
 ·obtain⟨hkey,kH,fP,c,Ty,vals,rst,hc,hcl,hl⟩:=h.obj b _ hO;obtain⟨v1,v23,f1,f23,rfl,hfs,r1,r23⟩:=hl.split;obtain⟨vs,v3,fx,f3,rfl,rfl,r2,r3⟩:=r23.split;obtain⟨vs',GS,rfl⟩:=vf (x:=gu px) (λe=>by rw[pX];exact hg e) hr;have e0:vs'=vs:=au.Aq hdt r2 GS;subst e0;refine HN (λe=>by rw[AV.pK,length_map];exact hg e) (au.frz hFl (λk hk=>?_) r2);exact(h.ol k (by rw[fP k (by rw[hfs];simp[hk])];simp)).2
def F8{B:haa}{F0:haa}{w0:World}{F:haa}{own:Nat->Own}{fp fs:Nat->List Nat}{a:Act}{w:World}(h:di L B F0 w0 F own fp fs s a w):∀ {xs ys:List AV} {vs:List Value} {f:List Nat},ou s.o xs ys->au L F w xs vs f->(∀b,b∈f->b<w.heap.size) ->
  au L (λb=>b<w.heap.size) w ys vs []
 | _,_,_,_,.nil,r,_=>by simp only[au]at r ⊢;exact⟨r.1,by trivial⟩
 | _,_,_,_,.cons hx hxs,r,hf=>by
  simp only[au]at r ⊢;obtain⟨y,vs',f1,f2,hv,rfl,h1,h2⟩:=r;exact⟨y,vs',[],[],hv,rfl,SN h hx h1 (λb hb=>hf b (by simp[hb])),F8 h hxs h2 (λb hb=>hf b (by simp[hb]))⟩
def au.Jh{B:haa}{F0:haa}{w0:World}{F:haa}{own:Nat->Own}{fp fs:Nat->List Nat}{a:Act}{w:World}(h:di L B F0 w0 F own fp fs s a w) :
  ∀xs:List Operand,∃f,au L F w (xs.map (ev s.t)) (xs.map a.eval) f/\∀b,b∈f->b<w.heap.size
 | []=>⟨[],by simp[au],Xp⟩
 | x::xs=>by
  obtain⟨f,h1,h2⟩:=au.Jh h xs;refine⟨fpo fp x++f,?_,λb hb=>?_⟩
  ·simp only[map_cons,au];exact⟨_,_,fpo fp x,f,rfl,rfl,h.ev x,h1⟩
  ·rcases List.mem_append.1 hb with hb|hb
   ·obtain⟨i,_,hi⟩:=gY h (xs:=[x]) Xp b hb;exact(h.jl hi).2
   ·exact h2 b hb
def fnA:AV->Option (FuncId×List AV)
 | .fn f caps=>some (f,caps)
 | .v (.func (.func f) first cap)=>if first.size=0/\cap.size=0 then some (f,[]) else none
 | _=>none
def sM{c:Call}{y:Operand}{xs:Array Operand}{ts:Array TypeId}{f:FuncId}{caps:List AV}{res:AV}(ho:o.op=.call c)(hc:c=⟨.value y,xs,ts⟩)(hy:fnA (ev s.t y)=some (f,caps))
  (hcn:AV.nownL caps=true) (hcall:uP L P s.o f (xs.toList.map (ev s.t)++caps) res):LOp L P s o res []:=by
 subst hc;intro B F0 w0 F own fp fs a w next Q h bZ
 have hry:=h.ev y
 obtain⟨cvs,hyv,hcr⟩:∃cvs:List Value,a.eval y=.func (.func f) #[] cvs.toArray/\au L F w caps cvs []:=by
  generalize ev s.t y=z at hy hry;unfold fnA at hy;split at hy
  ·cases hy;simp only[Rep]at hry;obtain⟨vs,e,hl⟩:=hry;rw[au.eK hcn hl]at hl;exact⟨vs,e,hl⟩
  ·split at hy
   ·rename_i first cap hsz
    cases hy;simp only[Rep]at hry;have e1:first=#[]:=Array.eq_empty_of_size_eq_zero hsz.1
    have e2:cap=#[]:=Array.eq_empty_of_size_eq_zero hsz.2;exact⟨[],by rw[hry.1,e1,e2],by simp[au]⟩
   ·cases hy
  ·cases hy
 obtain⟨he,YY⟩:=hcall
 have hex:(execOp a.eval o).run P w=.ok (.enter f (xs.toList.map a.eval++cvs).toArray) w:=by
  have:=vQ he (xs.toList.map a.eval++cvs).toArray w
  have e:xs.map a.eval++cvs.toArray=(xs.toList.map a.eval++cvs).toArray:=by apply Array.ext';simp
  rw[<- e]at this ⊢;simp only[execOp,ho,resolve,Sem.run_bind,hyv,Deferred.ofValue,Sem.run_pure,Result.andThen_ok,invoke,Array.empty_append];exact this
 unfold Oper.wp;rw[hex];have hl:∀b,F b->b<w.heap.size:=λb hb=>(h.fl b hb).2.1;obtain⟨f',hargs,hf'⟩:=au.Jh h xs.toList;rcases YY with⟨hn,hp⟩|⟨args',hlow,hcl,hp⟩
 ·have hall:=au.join hargs hcr;rw[au.eK hn hall]at hall;refine(hp w F _ hl (h.tb.kp h.below h.hB) hall).mono ?_;rintro e w' ⟨v,F',fp',rfl,h1,h2,h3,h4,h5,h6⟩;refine bZ v w' ⟨Kp.mN h1,F',fp',h2,λb hb=>?_,h4,h5,λb hb=>⟨(h6 b hb).1,.inr (h6 b hb).2⟩⟩;rcases h3 b hb with e|e
  ·exact .inl e
  ·exact .inr (.inl e)
 ·have hall:=F8 h hlow (au.join hargs hcr) (by simpa using hf');refine(hp w (λb=>b<w.heap.size) _ (λ_ h=>h) (h.tb.kp h.below h.hB) hall).mono ?_;rintro e w' ⟨v,F',fp',rfl,h1,h2,h3,h4,h5,h6⟩;refine bZ v w' ⟨Kp.mN h1,F,fp',λ_ h=>h,λb hb=>.inl hb,Rep.closed hcl h4,h5,λb hb=>⟨λhF=>?_,.inr (h6 b hb).2⟩⟩;have:=hl b hF
  have:=(h6 b hb).2.1;omega
end
section ops
variable {L : Nat -> Nat} {P : Program} {s : AS} {o : Oper}
def ael(P:Program)(t:TypeId):Option (Nat×Nat) :=
 match P.underlying t with
 | some (.array n e)=>match P.info? e with
  | some i=>some (n,i.size)
  | none=>none
 | _=>none
def Du{t:TypeId}{m sz:Nat}(h:ael P t=some (m,sz)):∃e i,P.underlying t=some (.array m e)/\P.info? e=some i/\i.size=sz:=by
 unfold ael at h;split at h
 ·rename_i n e he;split at h
  ·rename_i i hi;simp at h;obtain⟨rfl,rfl⟩:=h;exact⟨e,i,he,hi,rfl⟩
  ·cases h
 ·cases h
def yX{x i:Operand}{t:TypeId}{sz b off m:Nat}{k:IntKind}{n:Int}(ho:o.op=.indexAddr t x i)(hx:ev s.t x=.ptr b off)
  (hi:ev s.t i=.v (.int k n)) (ht:ael P t=some (m,sz)) (h0:0<=n) (hy:n<m):LOp L P s o (.ptr b (off+n.toNat * sz)) []:=by
 obtain⟨e,inf,hu,fO,hsz⟩:=Du ht;refine LOp.iU λB F0 w0 F own fp fs a w h=>?_;have hr:=h.ev x;rw[hx]at hr;simp only[Rep]at hr;have hP:P.elem t=e:=by simp[Program.elem,hu]
 have hA:P.arrayLen t=m:=by simp[Program.arrayLen,hu]
 refine⟨.pointer (some ⟨b,off+n.toNat * sz,none⟩),?_,by simp[Rep]⟩;simp only[execOp,ho,hr.1,h.val hi,Sem.run_bind,run_indexAt_array w t _ k n (by rw[hP,hA];exact hu)];rw[hA,if_pos ⟨h0,hy⟩];simp[hP,sizeOf,typeInfo,fO,hsz,fW]
def zT{x i:Operand}{t:TypeId}{sz m:Nat}{cells:List AV}{k:IntKind}{n:Int}(ho:o.op=.indexAddr t x i)(hx:ev s.t x=.vp cells)
  (hi:ev s.t i=.v (.int k n)) (ht:ael P t=some (m,sz)) (h0:0<=n) (hy:n<m):LOp L P s o (.vp (cells.drop (n.toNat * sz))) []:=by
 obtain⟨e,inf,hu,fO,hsz⟩:=Du ht;refine LOp.iU λB F0 w0 F own fp fs' a w h=>?_;have hr:=h.ev x;rw[hx]at hr;simp only[Rep]at hr;obtain⟨_,b,o',vals,hv,hb,hrow,hl⟩:=hr;have hP:P.elem t=e:=by simp[Program.elem,hu]
 have hA:P.arrayLen t=m:=by simp[Program.arrayLen,hu]
 refine⟨.pointer (some ⟨b,o'+n.toNat * sz,none⟩),?_,?_⟩
 ·simp only[execOp,ho,hv,h.val hi,Sem.run_bind,run_indexAt_array w t _ k n (by rw[hP,hA];exact hu)];rw[hA,if_pos ⟨h0,hy⟩];simp[hP,sizeOf,typeInfo,fO,hsz,fW]
 ·simp only[Rep];refine⟨trivial,b,_,vals.drop (n.toNat * sz),rfl,hb,?_,?_⟩
  ·have:=hrow.cut (n.toNat * sz) vals.length;rw[take_of_length_le Xp]at this;exact this
  ·obtain⟨f',h1,h2⟩:=hl.cut (n.toNat * sz) (cells.length+vals.length);rw[take_of_length_le (by simp;omega),take_of_length_le (by simp;omega)]at h1;have:f'=[]:=List.eq_nil_iff_forall_not_mem.2 λb hb=>by simpa using h2 b hb
   rw[this]at h1;exact h1
def KD{t:TypeId}{parts:Array (Nat×Operand)}{m sz:Nat}{zs:List Value}(ho:o.op=.build t parts)(hp:parts.toList=[])(ht:ael P t=some (m,sz))(hz:zer P t=some zs):LOp L P s o (.agg (zs.map avz)) []:=by
 obtain⟨e,inf,hu,fO,hsz⟩:=Du ht;obtain⟨z,hzc,hzr⟩:=yc hz;have hp':parts=#[]:=by apply Array.ext';simpa using hp
 subst hp';refine LOp.iU λB F0 w0 F own fp fs a w h=>?_;refine⟨.agg z.cells,?_,?_⟩
 ·simp[execOp,ho,Instr.build,hzr,run_underlying hu,sizeOf,typeInfo,fO,Instr.fill]
 ·simp only[Rep];exact⟨zs,by rw[<- hzc],au.plain zs⟩
end ops
open Go.RowKit (Below)
def HQ{P:Program}{w:World}{t u tyr e:TypeId}{i:TypeInfo}{x:Value}(ht:P.underlying t=some (.slice e))(hi:P.info? e=some i)(hs:Src P w i.size u x 0 []) :
  (Builtin.append_ #[t,u] tyr #[.slice none 0 0,x]).run P w=.ok (.slice none 0 0) w:=by
 have hf:=hs.first w rfl;rcases hs.ty with⟨e',hu⟩|hu<;>simp[Builtin.append_,run_underlying ht,run_underlying hu,sizeOf,typeInfo,hi,hs.len,hf]
def qm(sz:Nat):AV->Option (List AV)
 | .sl _ z l=>bif z == sz then some l else none
 | .v (.slice none 0 0)=>some []
 | .str l=>bif sz == 1 then some (ct l) else none
 | _=>none
def p5{os:List (Nat×Option (List AV))}{sz:Nat}{x:AV}{l:List AV}(h:qm sz x=some l)(hel:∀z,z∈l->z.elem sz=true):iX os sz x=some (l.length,l.flatMap AV.cells):=by
 cases x with
 | sl o z m =>
  simp only[qm]at h
  cases hz:(z == sz)with
  | false=>rw[hz]at h;cases h
  | true =>
   rw[hz]at h;cases h;have:(l.all (AV.elem sz))=true:=by simpa[all_eq_true]using hel
   simp[iX,hz,this]
 | v y =>
  unfold qm at h;split at h
  ·rename_i e;cases e
  ·cases h;simp_all [iX]
  ·rename_i e;cases e
  ·cases h
 | str m =>
  simp only[qm]at h
  cases hz:(sz == 1)with
  | false=>rw[hz]at h;cases h
  | true =>
   rw[hz]at h;cases h;simp only[iX,hz,cond_true,ct,length_map,Option.some.injEq,Prod.mk.injEq,true_and];clear hel hz
   induction m with
   | nil=>rfl
   | cons c m ih=>simp only[map_cons,flatMap_cons,<- ih];rfl
 | _=>simp[qm]at h
def gq{t:faa}{xs:List Operand}{i:Nat}:i∈kills t xs↔.tmp i∈xs/\(T t i).du=false:=by
 constructor
 ·intro h
  induction xs with
  | nil=>simp[kills]at h
  | cons x xs ih =>
   cases x with
   | tmp j =>
    simp only[kills]at h
    cases hn:(T t j).du with
    | true=>rw[hn]at h;have:=ih h;exact⟨by simp[this.1],this.2⟩
    | false =>
     rw[hn]at h;rcases List.mem_cons.1 h with rfl|h
     ·exact⟨Xp,hn⟩
     ·have:=ih h;exact⟨by simp[this.1],this.2⟩
   | const _=>have:=ih h;exact⟨by simp[this.1],this.2⟩
   | global _=>have:=ih h;exact⟨by simp[this.1],this.2⟩
   | func _=>have:=ih h;exact⟨by simp[this.1],this.2⟩
 ·rintro⟨h1,h2⟩;exact DV h1 h2
def dw{sz:Nat}:∀ {l:List AV},(∀z,z∈l->z.elem sz=true)->(l.flatMap AV.cells).length=l.length * sz
 | [],_=>by simp
 | x::xs,h=>by
  have h1:=h x Xp
  have h2:=dw (l:=xs) λz hz=>h z (by simp[hz])
  have h3:x.cells.length=sz:=by
   cases x<;>simp[AV.elem]at h1<;>simp[AV.cells,h1]
  rw[flatMap_cons,length_append,h2,h3,length_cons,Nat.add_mul];omega
def E0(P:Program)(e:TypeId):Option Nat:=(zer P e).map List.length
def Bx:Operand->Nat->Bool
 | .tmp j,i=>!(Nat.beq j i)
 | _,_=>true
def DU{y:Operand}{i:Nat}(h:Bx y i=true):y≠.tmp i:=by intro e;subst e;simp[Bx]at h
def EZ{P:Program}{e:TypeId}{sz:Nat}(h:E0 P e=some sz):∃zs,zer P e=some zs/\zs.length=sz:=by
 unfold E0 at h
 cases hz:zer P e with
 | none=>rw[hz]at h;cases h
 | some zs=>rw[hz]at h;cases h;exact⟨zs,rfl,rfl⟩
def apW(t:faa):Op->Bool
 | .call c=>match c.callee,c.args.toList with
  | .builtin .append,[.tmp i,_]=>match T t i with
   | .sl true _ _=>true
   | _=>false
  | _,_=>false
 | _=>false
section
variable {L : Nat -> Nat} {P : Program} {s : AS} {o : Oper}
def CM{c:Call}{i:Nat}{y:Operand}{t u e:TypeId}{sz bytes:Nat}{l l':List AV}{zs:List Value}(ho:o.op=.call c)(hc:c=⟨.builtin .append,#[.tmp i,y],#[t,u]⟩)
  (hx:T s.t i=.sl true sz l) (hxy:y≠.tmp i) (ht:elm P t=some (e,sz,bytes)) (hz:zer P e=some zs) (hzl:zs.length=sz)
  (hu:(∃e',P.underlying u=some (.slice e'))\/P.underlying u=some .string) (hsrc:qm sz (ev s.t y)=some l') (hel:∀z,z∈l->z.elem sz=true) (lG:∀z,z∈l'->z.elem sz=true) (hone:(l'.flatMap AV.cells).all AV.one=true)
  (hL:l.length+l'.length<=L sz) (hby:(l.length+l'.length) * bytes<=140737488355328) (h63:l.length+l'.length<=9223372036854775807):LOp L P s o (.sl true sz (l++l')) (kills s.t [.tmp i,y]):=by
 subst hc;obtain⟨inf,hut,fO,rfl,rfl⟩:=jy ht;obtain⟨KN,z,mF,hzz,GP⟩:=tQ hz;rw[fO]at mF;cases mF;intro B F0 w0 F own fp fs a w next Q h bZ
 have hi:i∈kills s.t [.tmp i,y]:=gq.2 ⟨Xp,by rw[hx];rfl⟩
 have hsub:∀j,j∈kills s.t [y]->j∈kills s.t [.tmp i,y]/\j≠i:=λj hj=>by
  have:=gq.1 hj
  have h1:=this.1;simp only[mem_cons,not_mem_nil,or_false]at h1;exact⟨gq.2 ⟨by simp[h1],this.2⟩,λe=>hxy (by rw[<- h1,e])⟩
 obtain⟨news,f,hS,hnl,hnr,hfn,hfk⟩:=wW h (p5 (os:=s.o) hsrc lG) hu;have hr:=h.slots i;rw[hx]at hr;simp only[Rep]at hr
 have hFS:∀b,F b->F b/\b<w.heap.size:=λb hb=>⟨hb,(h.fl b hb).2.1⟩
 have Af:∀k,k∈f->k<w.heap.size/\¬F k/\∃j,j∈kills s.t [.tmp i,y]/\k∈fp j:=λk hk=>by
  obtain⟨j,hj,hkj⟩:=hfk k hk;exact⟨(h.jl hkj).2,h.C9 hkj,j,(hsub j hj).1,hkj⟩
 have hall:∀z,z∈l++l'->z.elem inf.size=true:=λz hz=>by
  rcases List.mem_append.1 hz with h|h
  ·exact hel z h
  ·exact lG z h
 have K4:(l++l').flatMap AV.cells=l.flatMap AV.cells++l'.flatMap AV.cells:=by simp
 have hlc:=dw hel
 have Wc:a.eval (.tmp i)=a.tmps.getD i undef:=rfl
 have CY:z.cells.size=inf.size:=by rw[<- hzl,<- GP];simp
 unfold Oper.wp;rcases hr with⟨hv|⟨e1,_⟩,rfl,hf0⟩|⟨b,off,cap,vals,fp',hv,aeJ,hlL,hrow,hE,hown⟩
 ·rw[<- Wc]at hv;simp only[nil_append,length_nil,Nat.zero_add]at hL hby h63 hall K4 ⊢;by_cases h0:l'.length=0
  ·have:l'=[]:=eq_nil_of_length_eq_zero h0;subst this;have:news=[]:=by simp only[flatMap_nil,au]at hnr;exact hnr.1
   subst this;have hrun:=HQ (tyr:=o.type) hut fO hS
   have hex:(execOp a.eval o).run P w=.ok (.value (.slice none 0 0)) w:=by
    simp only[execOp,ho,resolve,invoke,builtin,Sem.run_bind,Sem.run_pure,Result.andThen_ok,map_toArray,map_cons,map_nil,hv,hrun]
   rw[hex];exact bZ _ _ ⟨Kp.refl _ _,F,[],λ_ h=>h,λ_ h=>.inl h,by simp[Rep],Xp,Xp⟩
  ·have hrun:=Ds (tyr:=o.type) hut fO hzz hS Um h63 hby
   have hex:(execOp a.eval o).run P w=.ok (.value (.slice (some ⟨w.heap.size,0,none⟩) l'.length (grownCap w l'.length 0 e)))
     (w.drew.alloc (.cells (news.toArray++Builtin.zeroCells z.cells (grownCap w l'.length 0 e - l'.length)) e)):=by
    simp only[execOp,ho,resolve,invoke,builtin,Sem.run_bind,Sem.run_pure,Result.andThen_ok,map_toArray,map_cons,map_nil,hv,hrun]
   rw[hex];have cV:=Ext.mY w (.cells (news.toArray++Builtin.zeroCells z.cells (grownCap w l'.length 0 e - l'.length)) e) []
   have hge:=grownCap_ge w l'.length 0 e;refine bZ _ _ ⟨⟨rfl,rfl,rfl,cV.size,λk hk=>cV.same k ⟨hk.1,Xp⟩,cV.shape⟩,F,w.heap.size::f,λ_ h=>h,λ_ h=>.inl h,?_,?_,?_⟩
   ·simp only[Rep];refine .inr ⟨w.heap.size,0,_,news,f,rfl,hge,hL,⟨_,_,_,gh w.drew _,λj hj=>?_⟩,?_,.inl ⟨by trivial,rfl,rfl,_,_,gh w.drew _,?_⟩⟩
    ·rw[Nat.zero_add,<- Array.getElem?_toList];simp only[Array.toList_append,getElem?_append_left hj]
    ·exact au.nM hall (au.ext cV (λb hb=>⟨hb,(hFS b hb).2,Xp⟩) (λk hk=>⟨(Af k hk).1,Xp⟩) hnr)
    ·simp only[Array.size_append,size_toArray,size_zeroCells,CY,hnl,Nat.zero_add];rw[<- Nat.add_mul];exact Nat.mul_le_mul_right _ Um
   ·rw[nodup_cons];exact⟨λhm=>by have:=(Af _ hm).1;omega,hfn⟩
   ·intro k hk;rcases List.mem_cons.1 hk with rfl|hk
    ·exact⟨λhF=>by have:=(hFS _ hF).2;omega,.inr ⟨Nat.le_refl _,Xp⟩⟩
    ·exact⟨(Af k hk).2.1,.inl (Af k hk).2.2⟩
 ·cases e1
 ·rcases hown with⟨_,hfp,rfl,iO⟩|⟨e1,_⟩
  rotate_left
  ·cases e1
  rw[<- Wc]at hv;have hbi:b∈fp i:=by rw[hfp];simp
  have hnd:=h.sn i;rw[hfp,nodup_cons]at hnd;have EP:∀k,k∈fp'->k∈fp i:=λk hk=>by rw[hfp];simp[hk]
  have hne:∀k,k∈f->k ∉ fp i:=λk hk hki=>by
   obtain⟨j,hj,hkj⟩:=hfk k hk;have e1:=h.so i k hki;rw[h.so j k hkj]at e1;cases e1;exact(hsub i hj).2 rfl
  have hfb:b ∉ f:=λhb=>hne b hb hbi
  have hrl:=bY.flat hel hE
  have hvl:=hrl.len
  have V3:(fp'++f).Nodup:=by
   rw[nodup_append];exact⟨hnd.2,hfn,λk hk k' hk' e=>by subst e;exact hne k hk' (EP k hk)⟩
  have hbF:¬F b:=h.C9 hbi
  have hFb:∀b',F b'->F b'/\(b'<w.heap.size/\b' ∉ [b]):=λb' hb'=>⟨hb',(hFS b' hb').2,λe=>by
   have:b'=b:=by simpa using e
   subst this;exact hbF hb'⟩
  have hS1:∀k,k∈fp'->k<w.heap.size/\k ∉ [b]:=λk hk=>⟨(h.jl (EP k hk)).2,λe=>by
   have:k=b:=by simpa using e
   subst this;exact hnd.1 hk⟩
  have hS2:∀k,k∈f->k<w.heap.size/\k ∉ [b]:=λk hk=>⟨(Af k hk).1,λe=>by
   have:k=b:=by simpa using e
   subst this;exact hfb hk⟩
  have hin:∀k,k∈fp'++f->¬F k/\∃j,j∈kills s.t [.tmp i,y]/\k∈fp j:=λk hk=>by
   rcases List.mem_append.1 hk with hk|hk
   ·exact⟨h.C9 (EP k hk),i,hi,EP k hk⟩
   ·exact⟨(Af k hk).2.1,(Af k hk).2.2⟩
  have hkb:∀k,Kept fp (kills s.t [.tmp i,y]) w k->k ∉ [b]:=λk hk e=>by
   have e2:k=b:=by simpa using e
   subst e2;exact hk.2 ⟨i,hi,hbi⟩
  obtain⟨cc,Ty,zz,hcc,hcl⟩:=hrow;obtain⟨c',Ty',hc',hle⟩:=iO;rw[hcc]at hc';cases hc';rw[Nat.zero_add]at hle;have PU:vals.length=l.length * inf.size:=by rw[hvl,hlc]
  have htk:cc.toList.take (l.length * inf.size)=vals:=by
   rw[<- PU];apply ext_getElem?;intro j;by_cases hj:j<vals.length
   ·rw[getElem?_take_of_lt hj,Array.getElem?_toList];have:=hcl j hj
    rwa [Nat.zero_add]at this
   ·rw[getElem?_eq_none (by rw[length_take];omega),getElem?_eq_none Um]
  by_cases hroom:l.length+l'.length<=cap
  ·have h2:l.length * inf.size+news.length<=cc.size:=by
    rw[hnl,<- Nat.add_mul];exact Nat.le_trans (Nat.mul_le_mul_right _ hroom) hle
   have hrun:=wv (tyr:=o.type) hut fO hS b l.length cap cc Ty hcc (hnr.ones hone) hroom h2
   have hex:(execOp a.eval o).run P w=.ok (.value (.slice (some ⟨b,0,none⟩) (l.length+l'.length) cap)) (w.setRow b (cc.toList.take (l.length * inf.size)++news++cc.toList.drop (l.length * inf.size+news.length)).toArray):=by
    simp only[execOp,ho,resolve,invoke,builtin,Sem.run_bind,Sem.run_pure,Result.andThen_ok,map_toArray,map_cons,map_nil,hv,hrun]
   rw[hex]
   have hsz:(cc.toList.take (l.length * inf.size)++news++cc.toList.drop (l.length * inf.size+news.length)).toArray.size=cc.size:=by
    have:cc.toList.length=cc.size:=by simp
    simp only[size_toArray,length_append,length_take,length_drop,this];omega
   have cV:=Ext.setRow w b _ cc Ty _ hcc hsz
   have hsame:=eE w b (cc.toList.take (l.length * inf.size)++news++cc.toList.drop (l.length * inf.size+news.length)).toArray cc Ty _ hcc;refine bZ _ _ ⟨⟨rfl,rfl,rfl,cV.size,λk hk=>cV.same k ⟨hk.1,hkb k hk⟩,cV.shape⟩,F,b::(fp'++f),λ_ h=>h,λ_ h=>.inl h,?_,?_,?_⟩
   ·simp only[Rep];refine .inr ⟨b,0,cap,vals++news,fp'++f,by rw[length_append],by rw[length_append];exact hroom,by rw[length_append];exact hL,⟨_,_,_,hsame,λj hj=>?_⟩,?_,.inl ⟨by trivial,rfl,rfl,_,_,hsame,by rw[hsz,Nat.zero_add];exact hle⟩⟩
    ·rw[Nat.zero_add,<- Array.getElem?_toList,htk,getElem?_append_left hj]
    ·refine au.nM hall ?_;rw[K4];exact au.join (au.ext cV hFb hS1 hrl) (au.ext cV hFb hS2 hnr)
   ·rw[nodup_cons];exact⟨λhm=>by
     rcases List.mem_append.1 hm with hm|hm
     ·exact hnd.1 hm
     ·exact hfb hm,V3⟩
   ·intro k hk;rcases List.mem_cons.1 hk with rfl|hk
    ·exact⟨hbF,.inl ⟨i,hi,hbi⟩⟩
    ·exact⟨(hin k hk).1,.inl (hin k hk).2⟩
  ·have hrun:=AA (tyr:=o.type) hut fO hzz hS ⟨b,0,none⟩ l.length cap vals PU (λj v hj=>by
    have hrow:ia w b 0 vals:=⟨cc,Ty,_,hcc,hcl⟩
    rw[fW];exact hrow.cell hj) Um h63 hby
   have hex:(execOp a.eval o).run P w=.ok (.value (.slice (some ⟨w.heap.size,0,none⟩) (l.length+l'.length) (grownCap w (l.length+l'.length) cap e)))
     (w.drew.alloc (.cells (vals.toArray++news.toArray++Builtin.zeroCells z.cells (grownCap w (l.length+l'.length) cap e - (l.length+l'.length))) e)):=by
    simp only[execOp,ho,resolve,invoke,builtin,Sem.run_bind,Sem.run_pure,Result.andThen_ok,map_toArray,map_cons,map_nil,hv,hrun]
   rw[hex];have cV:=Ext.mY w (.cells (vals.toArray++news.toArray++Builtin.zeroCells z.cells (grownCap w (l.length+l'.length) cap e - (l.length+l'.length))) e) [b]
   have hge:=grownCap_ge w (l.length+l'.length) cap e;refine bZ _ _ ⟨⟨rfl,rfl,rfl,cV.size,λk hk=>cV.same k ⟨hk.1,hkb k hk⟩,cV.shape⟩,F,w.heap.size::(fp'++f),λ_ h=>h,λ_ h=>.inl h,?_,?_,?_⟩
   ·simp only[Rep];refine .inr ⟨w.heap.size,0,_,vals++news,fp'++f,by rw[length_append],by rw[length_append];exact hge,by rw[length_append];exact hL,⟨_,_,_,gh w.drew _,λj hj=>?_⟩,?_,.inl ⟨by trivial,rfl,rfl,_,_,gh w.drew _,?_⟩⟩
    ·rw[Nat.zero_add,<- Array.getElem?_toList];simp only[Array.toList_append];rw[getElem?_append_left hj]
    ·refine au.nM hall ?_;rw[K4];exact au.join (au.ext cV hFb hS1 hrl) (au.ext cV hFb hS2 hnr)
    ·simp only[Array.size_append,size_toArray,size_zeroCells,CY,PU,hnl,Nat.zero_add];rw[<- Nat.add_mul,<- Nat.add_mul];exact Nat.mul_le_mul_right _ Um
   ·rw[nodup_cons];exact⟨λhm=>by
     rcases List.mem_append.1 hm with hm|hm
     ·have:=(hS1 _ hm).1;omega
     ·have:=(hS2 _ hm).1;omega,V3⟩
   ·intro k hk;rcases List.mem_cons.1 hk with rfl|hk
    ·exact⟨λhF=>by have:=(hFS _ hF).2;omega,.inr ⟨Nat.le_refl _,Xp⟩⟩
    ·exact⟨(hin k hk).1,.inl (hin k hk).2⟩
end
def gH(ρ:Operand->AV):List Operand->List Nat
 | []=>[]
 | .tmp i::xs=>bif (ρ (.tmp i)).du then gH ρ xs else i::gH ρ xs
 | _::xs=>gH ρ xs
def knd(P:Program)(t:TypeId):Option Bool :=
 match P.underlying t with
 | some .string=>some true
 | some (.slice _)=>some false
 | _=>none
def Pt:AV->Option (Bool×Nat)
 | .str l=>some (true,l.length)
 | .sl _ _ l=>some (false,l.length)
 | .arr _ _ len _=>some (false,len)
 | .v (.slice none 0 0)=>some (false,0)
 | _=>none
def wm(ρ:Operand->AV)(o:Option Operand)(d:Int):Option Int :=
 match o with
 | none=>some d
 | some y=>match ρ y with
  | .v (.int _ n)=>some n
  | _=>none
def ikd(P:Program)(t:TypeId):Option IntKind :=
 match P.underlying t with
 | some (.int k)=>some k
 | _=>none
def pJ(P:Program)(t:TypeId):Bool:=(P.underlying t).isSome
def byS(P:Program)(t:TypeId):Bool :=
 match P.underlying t with
 | some (.slice e)=>match P.underlying e with
  | some (.int .u8)=>true
  | _=>false
 | _=>false
def Tn{P:Program}{t:TypeId}{k:IntKind}(h:ikd P t=some k):P.underlying t=some (.int k):=by unfold ikd at h;split at h<;>simp_all
def P8{P:Program}{t:TypeId}(h:pJ P t=true):∃d,P.underlying t=some d:=Option.isSome_iff_exists.1 h
def TP{P:Program}{t:TypeId}(h:byS P t=true):∃e,P.underlying t=some (.slice e)/\P.underlying e=some (.int .u8):=by
 unfold byS at h;split at h
 ·rename_i e he;split at h
  ·rename_i hu;exact⟨e,he,hu⟩
  ·cases h
 ·cases h
def isB(P:Program)(t:TypeId):Bool :=
 match P.underlying t with
 | some .bool=>true
 | _=>false
def Th{P:Program}{t:TypeId}(h:isB P t=true):P.underlying t=some .bool:=by unfold isB at h;split at h<;>simp_all
def DE{P:Program}{t:TypeId}(h:isB P t=true)(x y:Operand)(a b:Bool)(w:World) :
  (do eqGuard .eql t x y (.bool a) (.bool b);binOp .eql t (.bool a) (.bool b):Sem Value).run P w=.ok (.bool (a == b)) w /\
  (do eqGuard .neq t x y (.bool a) (.bool b);binOp .neq t (.bool a) (.bool b):Sem Value).run P w=.ok (.bool (a != b)) w:=by
 have h1:=Th h;constructor
 ·have:=run_eql_bool (P:=P) w t a b h1;simp[eqGuard,this]
 ·have:=run_neq_bool (P:=P) w t a b h1;simp[eqGuard,this,bne]
def at8(s:List UInt8)(n:Int):Int:=((s[n.toNat]?).getD 0).toNat
class Hd(α:Type) where
 v:α
def bsK(sz:Nat)(l:List AV)(C:List Nat)[K:Hd (AV->List Nat->Prop)]:Prop:=K.v (.sl true sz l) C\/K.v (.sl false sz (AV.cl l)) C
def EX.frz{L:gaa}{F:haa}{fp:Nat->List Nat}{C:List Nat}{w:World}{x:AV}{v:Value}{w':World}(h:EX L F fp C w x v w'):EX L F fp C w x.frz v w':=by
 obtain⟨hb,F',fx,h1,h2,h3,h4,h5⟩:=h;refine⟨hb,λb=>F' b\/b∈fx,[],λb hb=>.inl (h1 b hb),?_,Rep.frz (λb hb=>.inl hb) (λb hb=>.inr hb) h3,Xp,Xp⟩;rintro b (hb|hb)
 ·exact h2 b hb
 ·exact .inr ((h5 b hb).2.elim .inr .inl)
def LOp.frz{L:gaa}{P:Program}{s:AS}{o:Oper}{x:AV}{C:List Nat}(h:LOp L P s o x C):LOp L P s o x.frz C :=
 λB F0 w0 F own fp fs a w next Q hd hn=>h B F0 w0 F own fp fs a w next Q hd λv w' g=>hn v w' g.frz
def idxVc(G:Bool)(l:List AV)(n:Int)(sz:Nat)[K:Hd (AV->Prop)]:Prop:=∃x,(G=true->0<=n/\l[n.toNat]? = some x/\x.elem sz=true)/\K.v x
def at_{α:Type}[Inhabited α](l:List α)(k:Nat):α:=(l[k]?).getD default
theorem uL{α:Type}[Inhabited α]{l:List α}{k:Nat}(h:k<l.length):l[k]? = some (at_ l k):=by unfold at_;rw[getElem?_eq_getElem h];rfl
theorem at_mem{α:Type}[Inhabited α]{l:List α}{k:Nat}(h:k<l.length):at_ l k∈l:=mem_of_getElem? (uL h)
theorem bA{α:Type}[Inhabited α]{l:List α}{k:Nat}(h:k<l.length):l.drop k=at_ l k::l.drop (k+1):=by rw[drop_eq_getElem_cons h];unfold at_;rw[getElem?_eq_getElem h];rfl
theorem KP{α:Type}[Inhabited α]{f:α->AV}{l:List α}{n:Int}{sz:Nat}{K:AV->Prop}(h0:0<=n)(h:n.toNat<l.length):idxVc true (l.map f) n sz (K:=⟨K⟩)=((f (at_ l n.toNat)).elem sz=true/\K (f (at_ l n.toNat))):=by
 have e:(l.map f)[n.toNat]? = some (f (at_ l n.toNat)):=by rw[getElem?_map,uL h];rfl
 apply propext;constructor
 ·rintro⟨x,hx,hK⟩;have:=hx rfl;rw[e]at this;obtain⟨_,h2,h3⟩:=this;cases h2;exact⟨h3,hK⟩
 ·rintro⟨h1,h2⟩;exact⟨_,λ_=>⟨h0,e,h1⟩,h2⟩
theorem idxVc.map{α:Type}[Inhabited α]{G:Bool}{f:α->AV}{l:List α}{n:Int}{sz:Nat}{K:AV->Prop}(hb:G=true->0<=n/\n.toNat<l.length)(he:(f (at_ l n.toNat)).elem sz=true)(hK:K (f (at_ l n.toNat))):idxVc G (l.map f) n sz (K:=⟨K⟩) :=
 ⟨_,λhG=>⟨(hb hG).1,by rw[getElem?_map,uL (hb hG).2];rfl,he⟩,hK⟩
def qt:List AV->List AV
 | []=>[]
 | x::xs=>(bif x.du then x else x.frz)::qt xs
@[reducible] def CallP(L:gaa)(P:Program)(os:List (Nat×Option (List AV)))(_la:List AV)(G:Bool)(f:FuncId)(args:List AV)[K:Hd (AV->Prop)]:Prop:=∃res,(G=true->uP L P os f args res)/\K.v res
def Cd(L:gaa)(P:Program)(os:List (Nat×Option (List AV)))(ρ:Operand->AV)(G:Bool)(callee:Callee)(args:List Operand)(ts:List TypeId)(K:AV->List Nat->Prop):Prop :=
 match callee,args,ts with
 | .builtin .len,[x],[t]=>match Pt (ρ x)with
  | some (k,n)=>knd P t=some k/\K (.v (.int .i64 n)) []
  | none=>False
 | .builtin .min,[x,y],_=>match ρ x,ρ y with
  | .v (.int k m),.v (.int k' n)=>k=k'/\K (.v (.int k (if n<m then n else m))) []
  | _,_=>False
 | .builtin .max,[x,y],_=>match ρ x,ρ y with
  | .v (.int k m),.v (.int k' n)=>k=k'/\K (.v (.int k (if n > m then n else m))) []
  | _,_=>False
 | .builtin .append,[.tmp i,y],[t,u]=>match elm P t with
  | some (e,sz,bytes)=>match ρ (.tmp i)with
   | .sl true z l=>match qm sz (ρ y)with
    | some l'=>((E0 P e=some sz/\(knd P u).isSome=true)/\(z=sz/\Bx y i=true/\l.all (AV.elem sz)=true/\l'.all (AV.elem sz)=true/\(l'.flatMap AV.cells).all AV.one=true)) /\
      (G=true->l.length+l'.length<=L sz/\(l.length+l'.length) * bytes<=140737488355328/\l.length+l'.length<=9223372036854775807)/\K (.sl true sz (l++l')) (gH ρ [.tmp i,y])
    | none=>False
   | _=>False
  | none=>False
 | .value y,args,_=>match fnA (ρ y)with
  | some (f,caps)=>AV.nownL caps=true/\CallP L P os (qt (args.map ρ++caps)) G f (args.map ρ++caps) (K:=⟨λres=>K res []⟩)
  | none=>False
 | _,_,_=>False
def ovc(L:gaa)(P:Program)(os:List (Nat×Option (List AV)))(ρ:Operand->AV)(G:Bool)(op:Op)(K:AV->List Nat->Prop):Prop :=
 match op with
 | .move x=>K (ρ x) (gH ρ [x])
 | .assign x=>K (ρ x) (gH ρ [x])
 | .pick c a b=>match ρ c,qB (ρ a),qB (ρ b)with
  | .v (.bool p),some (Ga,u),some (Gb,v)=>(G=true->(p=true->Ga=true)/\(p=false->Gb=true))/\K (.v (.bool (bif p then u else v))) []
  | _,_,_=>False
 | .binOp bop bty x y _=>match ρ x,ρ y with
  | .v u,.v v=>match Dp bop u v with
   | some z=>K (.v z) []
   | none=>match bop,u,v with
    | .eql,.bool a,.bool b=>isB P bty=true/\K (.v (.bool (a == b))) []
    | .neq,.bool a,.bool b=>isB P bty=true/\K (.v (.bool (a != b))) []
    | _,_,_=>False
  | .str a,.str b=>match HG bop a b with
   | some z=>K (.v (.bool z)) []
   | none=>match bop with
    | .add=>(G=true->a.length+b.length<=4611686018427387904)/\K (.str (a++b)) []
    | _=>False
  | _,_=>False
 | .unOp uop _ x=>match ρ x with
  | .v u=>match unV uop u with
   | some z=>K (.v z) []
   | none=>False
  | _=>False
 | .field xt x k=>match ρ x,fld P xt k with
  | .agg cells,some (off,g,n)=>match val g n (cells.drop off)with
   | some y=>match y.du with
    | true=>K y []
    | false=>y.cpy.du=true/\K y.cpy []
   | none=>False
  | _,_=>False
 | .fieldAddr xt x k=>match fld P xt k with
  | some (off,_,n)=>Nat.blt 0 n=true/\(match ρ x with
   | .vp cells=>K (.vp (cells.drop off)) []
   | .ptr b o'=>K (.ptr b (o'+off)) []
   | _=>False)
  | none=>False
 | .load t x=>match ty P t with
  | some (g,n)=>match ρ x with
   | .vp cells=>match val g n cells with
    | some y=>K y []
    | none=>False
   | .ptr b off=>match O os b with
    | some cells=>match val g n (cells.drop off)with
     | some y=>match y.du with
      | true=>K y []
      | false=>y.cpy.du=true/\K y.cpy []
     | none=>False
    | none=>False
   | _=>False
  | none=>False
 | .nilCheck x=>match ρ x with
  | .ptr b off=>K (.ptr b off) []
  | .vp cells=>K (.vp cells) []
  | _=>False
 | .extract x k=>match ρ x with
  | .tup l=>match l[k]? with
   | some y=>y.du=true/\K y []
   | none=>False
  | _=>False
 | .index t x i=>match ρ x,ρ i with
  | .str a,.v (.int _ n)=>knd P t=some true/\(G=true->0<=n/\n.toNat<a.length)/\K (.v (.int .u8 (at8 a n))) []
  | _,_=>False
 | .indexAddr t x i=>match ρ i,elm P t with
  | .v (.int _ n),some (_,sz,_)=>match ρ x with
   | .sl false sz' l=>sz'=sz/\idxVc G l n sz (K:=⟨λy=>K (.vp y.cells) []⟩)
   | .arr b off len sz'=>sz'=sz/\(G=true->0<=n/\n<len)/\K (.ptr b (off+n.toNat * sz)) []
   | _=>False
  | .v (.int _ n),none=>match ael P t,ρ x with
   | some (m,sz),.ptr b off=>(G=true->0<=n/\n<m)/\K (.ptr b (off+n.toNat * sz)) []
   | some (m,sz),.vp cells=>(G=true->0<=n/\n<m)/\K (.vp (cells.drop (n.toNat * sz))) []
   | _,_=>False
  | _,_=>False
 | .slice t x lo hi none=>match ρ x with
  | .str a=>knd P t=some true/\(match wm ρ lo 0,wm ρ hi a.length with
   | some i,some j=>(G=true->0<=i/\i<=j/\j<=a.length)/\K (S ((a.take j.toNat).drop i.toNat)) []
   | _,_=>False)
  | .sl false sz l=>match elm P t,wm ρ lo 0,wm ρ hi l.length with
   | some (_,sz',_),some i,some j=>sz'=sz/\(G=true->0<=i/\i<=j/\j<=l.length)/\K (.sl false sz ((l.take j.toNat).drop i.toNat)) []
   | _,_,_=>False
  | .sl true sz l=>match elm P t,wm ρ lo 0,wm ρ hi l.length with
   | some (_,sz',_),some i,some j=>sz'=sz/\(G=true->0<=i/\i<=j/\j<=l.length)/\K (.slo sz ((l.take j.toNat).drop i.toNat)) (gH ρ [x])
   | _,_,_=>False
  | _=>False
 | .build t parts=>match plc P t with
  | some (places,zs)=>match pY (places[·]?) (zs.map avz) (parts.toList.map λp=>(p.1,ρ p.2))with
   | some cells=>(gH ρ (parts.toList.map Prod.snd)).Nodup/\K (.agg cells) (gH ρ (parts.toList.map Prod.snd))
   | none=>False
  | none=>match ael P t,zer P t with
   | some _,some zs=>parts.toList=[]/\K (.agg (zs.map avz)) []
   | _,_=>False
 | .buildSlice t len parts=>match elm P t with
  | some (e,sz,_)=>(zer P e).isSome=true/\len * sz<=16777216/\len<=L sz/\(gH ρ (parts.toList.map Prod.snd)).Nodup /\
   (match pY (λi=>some (i * sz,sz)) (replicate (len * sz) .dead) (parts.toList.map λp=>(p.1,ρ p.2))with
   | some cells=>((parts.toList.map λp=>ρ p.2).flatMap AV.cells=cells/\parts.toList.length=len/\(parts.toList.map λp=>ρ p.2).all (AV.elem sz)=true)/\bsK sz (parts.toList.map λp=>ρ p.2) (gH ρ (parts.toList.map Prod.snd)) (K:=⟨K⟩)
   | none=>False)
  | none=>False
 | .box t x=>match ty P t with
  | some (_,n)=>(ρ x).elem n=true/\K (.vp (AV.cl (ρ x).cells)) (gH ρ [x])
  | none=>False
 | .makeFunc (.func f) first cap=>first.toList=[]/\AV.nownL (cap.toList.map ρ)=true/\K (.fn f (cap.toList.map ρ)) []
 | .convert src dst x=>match ρ x with
  | .v (.int _ n)=>match ikd P dst with
   | some k=>pJ P src=true/\K (.v (.int k (k.wrap n))) []
   | none=>False
  | .sl _ 1 l=>match unb l with
   | some bs=>(knd P dst=some true/\byS P src=true)/\(G=true->bs.length<=4611686018427387904)/\K (S bs) []
   | none=>False
  | .arr b off len sz=>∃l e,(G=true->off=0/\sz=1/\len=l.length/\l.length<=4611686018427387904/\O os b=some (ct l)/\P.underlying src=some (.slice e)/\P.underlying e=some (.int .u8)/\P.underlying dst=some .string)/\K (S l) []
  | _=>False
 | .call c=>Cd L P os ρ G c.callee c.args.toList c.argTypes.toList K
 | _=>False
def lY{s:AS}{ρ:Operand->AV}:∀ {xs:List Operand},(∀y,y∈xs->ev s.t y=ρ y)->kills s.t xs=gH ρ xs
 | [],_=>rfl
 | x::xs,h=>by
  have ih:=lY (s:=s) (ρ:=ρ) (xs:=xs) λy hy=>h y (by simp[hy])
  cases x with
  | tmp i =>
   have:=h (.tmp i) Xp;simp only[ev]at this;simp only[kills,gH,this,ih]
  | const _=>simp only[kills,gH,ih]
  | global _=>simp only[kills,gH,ih]
  | func _=>simp only[kills,gH,ih]
def iq{ρ:Operand->AV}{i:Nat}:∀ {xs:List Operand},i∈gH ρ xs->.tmp i∈xs
 | [],h=>by simp[gH]at h
 | x::xs,h=>by
  cases x with
  | tmp j =>
   simp only[gH]at h
   cases hn:(ρ (.tmp j)).du with
   | true=>rw[hn]at h;exact mem_cons_of_mem _ (iq h)
   | false =>
    rw[hn]at h;rcases List.mem_cons.1 h with rfl|h
    ·simp
    ·exact mem_cons_of_mem _ (iq h)
  | const _=>exact mem_cons_of_mem _ (iq h)
  | global _=>exact mem_cons_of_mem _ (iq h)
  | func _=>exact mem_cons_of_mem _ (iq h)
def Sound(L:gaa)(P:Program)(os:List (Nat×Option (List AV)))(ρ:Operand->AV)(G:Bool)(o:Oper)(K:AV->List Nat->Prop):Prop :=
 ∃x C,K x C/\(∀i,i∈C->.tmp i∈o.op.operands.toList)/\(G=true->∀s:AS,(∀y,y∈o.op.operands.toList->ev s.t y=ρ y)->s.o=os->LOp L P s o x C)
section
variable {L : Nat -> Nat} {P : Program} {os : List (Nat × Option (List AV))} {ρ : Operand -> AV} {G : Bool} {o : Oper} {K : AV -> List Nat -> Prop}
def q8{t:TypeId}(h:knd P t=some true):P.underlying t=some .string:=by unfold knd at h;split at h<;>simp_all
def xm{t:TypeId}(h:knd P t=some false):∃e,P.underlying t=some (.slice e):=by unfold knd at h;split at h<;>simp_all
def uK{s:AS}{q:Option Operand}{d:Int}(h:∀y,q=some y->ev s.t y=ρ y):bnd s.t q d=wm ρ q d:=by
 cases q with
 | none=>rfl
 | some y =>
  simp only[bnd,wm,h y rfl]
  try (generalize ρ y=z;cases z<;>rfl)
def xM:Callee->List Operand
 | .value f=>[f]
 | .invoke r _=>[r]
 | .builtin _=>[]
def TL{callee:Callee}{args:Array Operand}{ts:Array TypeId}:(Op.operands (.call ⟨callee,args,ts⟩)).toList=xM callee++args.toList:=by cases callee<;>simp[Op.operands,Call.operands,xM]
def Ki{c:Call}(ho:o.op=.call c)(h:Cd L P os ρ G c.callee c.args.toList c.argTypes.toList K):Sound L P os ρ G o K:=by
 obtain⟨callee,args,ts⟩:=c;simp only at h;have kr:o.op.operands.toList=xM callee++args.toList:=by rw[ho];exact TL
 unfold Cd at h;split at h
 ·rename_i x t e2 e3;split at h
  ·rename_i k n hk;obtain⟨KZ,hK⟩:=h;refine⟨_,[],hK,Xp,λ_ s hs hso=>?_⟩
   have hc:(⟨.builtin .len,args,ts⟩:Call)=⟨.builtin .len,#[x],#[t]⟩:=by
    have h1:args=#[x]:=by apply Array.ext';simpa using e2
    have h2:ts=#[t]:=by apply Array.ext';simpa using e3
    rw[h1,h2]
   have hx:ev s.t x=ρ x:=hs x (by rw[kr,e2];simp);generalize ρ x=z at hk hx;unfold Pt at hk;split at hk
   ·cases hk;exact H8 ho hc hx (q8 KZ)
   ·cases hk;obtain⟨e,he⟩:=xm KZ;exact KC ho hc hx he
   ·cases hk;obtain⟨e,he⟩:=xm KZ;exact Ia ho hc hx he
   ·cases hk;obtain⟨e,he⟩:=xm KZ;exact H9 ho hc hx he
   ·cases hk
  ·exact h.elim
 ·rename_i x y e2;split at h
  ·rename_i k m k' n h1 h2;obtain⟨rfl,hK⟩:=h;refine⟨_,[],hK,Xp,λ_ s hs hso=>?_⟩
   have hc:(⟨.builtin .min,args,ts⟩:Call)=⟨.builtin .min,#[x,y],ts⟩:=by
    have h1:args=#[x,y]:=by apply Array.ext';simpa using e2
    rw[h1]
   exact SQ ho hc ((hs x (by rw[kr,e2];simp)).trans h1) ((hs y (by rw[kr,e2];simp)).trans h2)
  ·exact h.elim
 ·rename_i x y e2;split at h
  ·rename_i k m k' n h1 h2;obtain⟨rfl,hK⟩:=h;refine⟨_,[],hK,Xp,λ_ s hs hso=>?_⟩
   have hc:(⟨.builtin .max,args,ts⟩:Call)=⟨.builtin .max,#[x,y],ts⟩:=by
    have h1:args=#[x,y]:=by apply Array.ext';simpa using e2
    rw[h1]
   exact SR ho hc ((hs x (by rw[kr,e2];simp)).trans h1) ((hs y (by rw[kr,e2];simp)).trans h2)
  ·exact h.elim
 ·rename_i i y t u e2 e3;split at h
  ·rename_i e sz bytes ht;split at h
   ·rename_i z l hx;split at h
    ·rename_i l' hsrc;obtain⟨⟨⟨hzl,hk⟩,rfl,hne,hel,lG,hone⟩,hb,hK⟩:=h;obtain⟨zs,hz,hzl⟩:=EZ hzl
     have hu:(∃e',P.underlying u=some (.slice e'))\/P.underlying u=some .string:=by
      cases hkk:knd P u with
      | none=>rw[hkk]at hk;cases hk
      | some b =>
       cases b with
       | true=>exact .inr (q8 hkk)
       | false=>exact .inl (xm hkk)
     refine⟨_,_,hK,λj hj=>by rw[kr,e2];simpa[xM]using iq hj,λhG s hs hso=>?_⟩
     have hc:(⟨.builtin .append,args,ts⟩:Call)=⟨.builtin .append,#[.tmp i,y],#[t,u]⟩:=by
      have h1:args=#[.tmp i,y]:=by apply Array.ext';simpa using e2
      have h2:ts=#[t,u]:=by apply Array.ext';simpa using e3
      rw[h1,h2]
     have hi:ev s.t (.tmp i)=ρ (.tmp i):=hs _ (by rw[kr,e2];simp[xM])
     have hy:ev s.t y=ρ y:=hs _ (by rw[kr,e2];simp[xM])
     have hkl:kills s.t [.tmp i,y]=gH ρ [.tmp i,y]:=lY λq hq=>hs q (by rw[kr,e2];simpa[xM]using hq);rw[<- hkl];obtain⟨hL,hby,h63⟩:=hb hG;exact CM ho hc (hi.trans hx) (DU hne) ht hz hzl hu (by rw[hy];exact hsrc) (by simpa[all_eq_true]using hel) (by simpa[all_eq_true]using lG) hone hL hby h63
    ·exact h.elim
   ·exact h.elim
  ·exact h.elim
 ·rename_i y;split at h
  ·rename_i f caps hf;obtain⟨hcn,res,hcall,hK⟩:=h;refine⟨_,[],hK,Xp,λhG s hs hso=>?_⟩;subst hso
   have hmap:args.toList.map (ev s.t)=args.toList.map ρ:=by
    apply map_congr_left;intro z hz;exact hs z (by rw[kr];simp;exact .inr (by simpa using hz))
   refine sM ho rfl (by rw[hs y (by rw[kr];simp[xM])];exact hf) hcn ?_;rw[hmap];exact hcall hG
  ·exact h.elim
 ·exact h.elim
def sJ(h:ovc L P os ρ G o.op K):Sound L P os ρ G o K:=by
 cases ho:o.op with
 | move x =>
  rw[ho]at h;refine⟨_,_,h,λi hi=>?_,λ_ s hs _=>?_⟩
  ·rw[ho];have:=iq hi;simpa[Op.operands]using this
  ·have hx:=hs x (by rw[ho];simp[Op.operands]);rw[<- hx,<- lY (s:=s) (xs:=[x]) (by simpa using hx)];exact Gg (.inl ho)
 | assign x =>
  rw[ho]at h;refine⟨_,_,h,λi hi=>?_,λ_ s hs _=>?_⟩
  ·rw[ho];have:=iq hi;simpa[Op.operands]using this
  ·have hx:=hs x (by rw[ho];simp[Op.operands]);rw[<- hx,<- lY (s:=s) (xs:=[x]) (by simpa using hx)];exact Gg (.inr ho)
 | pick c a b =>
  rw[ho]at h;simp only[ovc]at h;split at h
  ·rename_i p Ga u Gb v h1 h2 h3;obtain⟨hc,hK⟩:=h;refine⟨_,[],hK,Xp,λhG s hs _=>?_⟩;have hs':∀y,y∈[c,a,b]->ev s.t y=ρ y:=λy hy=>hs y (by rw[ho];simpa[Op.operands]using hy);exact Pk ho ((hs' c Xp).trans h1) (by rw[hs' a Xp];exact h2) (by rw[hs' b Xp];exact h3) (hc hG).1 (hc hG).2
  ·exact h.elim
 | binOp bop ty x y ty' =>
  rw[ho]at h;simp only[ovc]at h;split at h
  ·rename_i u v h1 h2;split at h
   ·rename_i z hz;refine⟨_,[],h,Xp,λhG s hs _=>?_⟩;have hs':∀q,q∈[x,y]->ev s.t q=ρ q:=λq hq=>hs q (by rw[ho];simpa[Op.operands]using hq);exact Pm ho ((hs' x Xp).trans h1) ((hs' y Xp).trans h2) hz
   ·split at h
    ·rename_i a b _;obtain⟨hc,hK⟩:=h;refine⟨_,[],hK,Xp,λhG s hs _=>?_⟩;have hs':∀q,q∈[x,y]->ev s.t q=ρ q:=λq hq=>hs q (by rw[ho];simpa[Op.operands]using hq);exact CL ho ((hs' x Xp).trans h1) ((hs' y Xp).trans h2) (λw=>(DE hc x y a b w).1)
    ·rename_i a b _;obtain⟨hc,hK⟩:=h;refine⟨_,[],hK,Xp,λhG s hs _=>?_⟩;have hs':∀q,q∈[x,y]->ev s.t q=ρ q:=λq hq=>hs q (by rw[ho];simpa[Op.operands]using hq);exact CL ho ((hs' x Xp).trans h1) ((hs' y Xp).trans h2) (λw=>(DE hc x y a b w).2)
    ·exact h.elim
  ·rename_i a b h1 h2;split at h
   ·rename_i z hz;refine⟨_,[],h,Xp,λhG s hs _=>?_⟩;have hs':∀q,q∈[x,y]->ev s.t q=ρ q:=λq hq=>hs q (by rw[ho];simpa[Op.operands]using hq);exact Pn ho ((hs' x Xp).trans h1) ((hs' y Xp).trans h2) hz
   ·split at h
    ·obtain⟨hc,hK⟩:=h;refine⟨_,[],hK,Xp,λhG s hs _=>?_⟩;have hs':∀q,q∈[x,y]->ev s.t q=ρ q:=λq hq=>hs q (by rw[ho];simpa[Op.operands]using hq);exact SU ho ((hs' x Xp).trans h1) ((hs' y Xp).trans h2) (hc hG)
    ·exact h.elim
  ·exact h.elim
 | unOp uop ty x =>
  rw[ho]at h;simp only[ovc]at h;split at h
  ·rename_i u h1;split at h
   ·rename_i z hz;exact⟨_,[],h,Xp,λhG s hs _=>SP ho ((hs x (by rw[ho];simp[Op.operands])).trans h1) hz⟩
   ·exact h.elim
  ·exact h.elim
 | field xt x k =>
  rw[ho]at h;simp only[ovc]at h;split at h
  ·rename_i cells off g n h1 h2;split at h
   ·rename_i y hy;split at h
    ·rename_i hny;exact⟨_,[],h,Xp,λhG s hs _=>MO ho ((hs x (by rw[ho];simp[Op.operands])).trans h1) h2 hy hny⟩
    ·exact⟨_,[],h.2,Xp,λhG s hs _=>BF ho ((hs x (by rw[ho];simp[Op.operands])).trans h1) h2 hy λ_ _ _ _ r=>Rep.cpy h.1 r⟩
   ·exact h.elim
  ·exact h.elim
 | fieldAddr xt x k =>
  rw[ho]at h;simp only[ovc]at h;split at h
  ·rename_i off g n h2;obtain⟨hn,h⟩:=h;split at h
   ·rename_i cells h1;exact⟨_,[],h,Xp,λhG s hs _=>zV ho ((hs x (by rw[ho];simp[Op.operands])).trans h1) h2 hn⟩
   ·rename_i b o' h1;exact⟨_,[],h,Xp,λhG s hs _=>yZ ho ((hs x (by rw[ho];simp[Op.operands])).trans h1) h2 hn⟩
   ·exact h.elim
  ·exact h.elim
 | load t x =>
  rw[ho]at h;simp only[ovc]at h;split at h
  ·rename_i g n ht;split at h
   ·rename_i cells h1;split at h
    ·rename_i y hy;exact⟨_,[],h,Xp,λhG s hs _=>H7 ho ((hs x (by rw[ho];simp[Op.operands])).trans h1) ht hy⟩
    ·exact h.elim
   ·rename_i b off h1;split at h
    ·rename_i cells hO;split at h
     ·rename_i y hy;split at h
      ·rename_i hny;exact⟨_,[],h,Xp,λhG s hs hso=>xj ho ((hs x (by rw[ho];simp[Op.operands])).trans h1) (by rw[hso];exact hO) ht hy hny⟩
      ·exact⟨_,[],h.2,Xp,λhG s hs hso=>qu ho ((hs x (by rw[ho];simp[Op.operands])).trans h1) (by rw[hso];exact hO) ht hy λ_ _ _ _ r=>Rep.cpy h.1 r⟩
     ·exact h.elim
    ·exact h.elim
   ·exact h.elim
  ·exact h.elim
 | nilCheck x =>
  rw[ho]at h;simp only[ovc]at h;split at h
  ·rename_i b off h1;exact⟨_,[],h,Xp,λhG s hs _=>Gf ho ((hs x (by rw[ho];simp[Op.operands])).trans h1)⟩
  ·rename_i cells h1;exact⟨_,[],h,Xp,λhG s hs _=>BD ho ((hs x (by rw[ho];simp[Op.operands])).trans h1)⟩
  ·exact h.elim
 | extract x k =>
  rw[ho]at h;simp only[ovc]at h;split at h
  ·rename_i l h1;split at h
   ·rename_i y hy;exact⟨_,[],h.2,Xp,λhG s hs _=>zl ho ((hs x (by rw[ho];simp[Op.operands])).trans h1) hy h.1⟩
   ·exact h.elim
  ·exact h.elim
 | index t x i =>
  rw[ho]at h;simp only[ovc]at h;split at h
  ·rename_i a k n h1 h2;obtain⟨hk,hc,hK⟩:=h;refine⟨_,[],hK,Xp,λhG s hs _=>?_⟩;have hs':∀q,q∈[x,i]->ev s.t q=ρ q:=λq hq=>hs q (by rw[ho];simpa[Op.operands]using hq);exact Ev ho ((hs' x Xp).trans h1) ((hs' i Xp).trans h2) (q8 hk) (hc hG).1 (by rw[getElem?_eq_getElem (hc hG).2];rfl)
  ·exact h.elim
 | indexAddr t x i =>
  rw[ho]at h;simp only[ovc]at h;split at h
  ·rename_i k n e sz by_ h2 ht;split at h
   ·rename_i sz' l h1;obtain⟨rfl,y,hc,hK⟩:=h;refine⟨_,[],hK,Xp,λhG s hs _=>?_⟩;have hs':∀q,q∈[x,i]->ev s.t q=ρ q:=λq hq=>hs q (by rw[ho];simpa[Op.operands]using hq);exact zU ho ((hs' x Xp).trans h1) ((hs' i Xp).trans h2) ht (hc hG).1 (hc hG).2.1 (hc hG).2.2
   ·rename_i b off len sz' h1;obtain⟨rfl,hc,hK⟩:=h;refine⟨_,[],hK,Xp,λhG s hs _=>?_⟩;have hs':∀q,q∈[x,i]->ev s.t q=ρ q:=λq hq=>hs q (by rw[ho];simpa[Op.operands]using hq);exact yY ho ((hs' x Xp).trans h1) ((hs' i Xp).trans h2) ht (hc hG).1 (hc hG).2
   ·exact h.elim
  ·rename_i k n h2 _;split at h
   ·rename_i m sz b off ht h1;obtain⟨hc,hK⟩:=h;refine⟨_,[],hK,Xp,λhG s hs _=>?_⟩;have hs':∀q,q∈[x,i]->ev s.t q=ρ q:=λq hq=>hs q (by rw[ho];simpa[Op.operands]using hq);exact yX ho ((hs' x Xp).trans h1) ((hs' i Xp).trans h2) ht (hc hG).1 (hc hG).2
   ·rename_i m sz cells ht h1;obtain⟨hc,hK⟩:=h;refine⟨_,[],hK,Xp,λhG s hs _=>?_⟩;have hs':∀q,q∈[x,i]->ev s.t q=ρ q:=λq hq=>hs q (by rw[ho];simpa[Op.operands]using hq);exact zT ho ((hs' x Xp).trans h1) ((hs' i Xp).trans h2) ht (hc hG).1 (hc hG).2
   ·exact h.elim
  ·exact h.elim
 | slice t x lo hi mx =>
  rw[ho]at h
  cases mx with
  | some _=>simp[ovc]at h
  | none =>
   simp only[ovc]at h
   have kr:∀y,y∈[x]++lo.toList++hi.toList->y∈o.op.operands.toList:=by
    intro y hy;rw[ho];simp only[Op.operands];cases lo<;>cases hi<;>simpa using hy
   split at h
   ·rename_i a h1;obtain⟨hk,h⟩:=h;split at h
    ·rename_i i j hi' hj;obtain⟨hc,hK⟩:=h;refine⟨_,[],hK,Xp,λhG s hs _=>?_⟩;have hx:=(hs x (kr x Xp)).trans h1;exact Et ho (q8 hk) hx (by rw[uK (ρ:=ρ) (λy e=>hs y (kr y (by simp[e])))];exact hi') (by rw[uK (ρ:=ρ) (λy e=>hs y (kr y (by simp[e])))];exact hj) (hc hG).1 (hc hG).2.1 (hc hG).2.2
    ·exact h.elim
   ·rename_i sz l h1;split at h
    ·rename_i e sz' by_ i j ht hi' hj;obtain⟨rfl,hc,hK⟩:=h;refine⟨_,[],hK,Xp,λhG s hs _=>?_⟩;have hx:=(hs x (kr x Xp)).trans h1;exact Ge ho ht hx (by rw[uK (ρ:=ρ) (λy e=>hs y (kr y (by simp[e])))];exact hi') (by rw[uK (ρ:=ρ) (λy e=>hs y (kr y (by simp[e])))];exact hj) (hc hG).1 (hc hG).2.1 (hc hG).2.2
    ·exact h.elim
   ·rename_i sz l h1;split at h
    ·rename_i e sz' by_ i j ht hi' hj;obtain⟨rfl,hc,hK⟩:=h;refine⟨_,_,hK,λq hq=>kr _ (by have:=iq hq;simp at this;simp[this]),λhG s hs _=>?_⟩;have hx:=(hs x (kr x Xp)).trans h1;rw[<- lY (s:=s) (xs:=[x]) (λy hy=>hs y (kr y (by simp at hy;simp[hy])))];exact Eu ho ht hx (by rw[uK (ρ:=ρ) (λy e=>hs y (kr y (by simp[e])))];exact hi') (by rw[uK (ρ:=ρ) (λy e=>hs y (kr y (by simp[e])))];exact hj) (hc hG).1 (hc hG).2.1 (hc hG).2.2
    ·exact h.elim
   ·exact h.elim
 | build t parts =>
  rw[ho]at h;simp only[ovc]at h;split at h
  ·rename_i places zs hp;split at h
   ·rename_i cells hf;obtain⟨hnd,hK⟩:=h;refine⟨_,_,hK,λi hi=>?_,λhG s hs _=>?_⟩
    ·rw[ho];have:=iq hi;simpa[Op.operands]using this
    ·have hs':∀y,y∈parts.toList.map Prod.snd->ev s.t y=ρ y:=λy hy=>hs y (by rw[ho];simpa[Op.operands]using hy)
     have e1:=lY hs'
     have e2:(parts.toList.map λp=>(p.1,ev s.t p.2))=parts.toList.map λp=>(p.1,ρ p.2):=by
      apply map_congr_left;intro p hp';rw[hs' p.2 (mem_map_of_mem hp')]
     rw[<- e1]at hnd ⊢;rw[<- e2]at hf;exact MQ ho hp hf hnd
   ·exact h.elim
  ·split at h
   ·rename_i ms zs ht hz;obtain⟨hp,hK⟩:=h;exact⟨_,[],hK,Xp,λhG s hs _=>KD (m:=ms.1) (sz:=ms.2) ho hp ht hz⟩
   ·exact h.elim
 | buildSlice t len parts =>
  rw[ho]at h;simp only[ovc]at h;split at h
  ·rename_i e sz by_ ht;obtain⟨hz,hsm,hL,hnd,h⟩:=h;split at h
   ·rename_i cells hf;obtain⟨⟨hcl,hln,hall⟩,hK⟩:=h
    have key:∀s:AS,(∀q,q∈o.op.operands.toList->ev s.t q=ρ q)->LOp L P s o (.sl true sz (parts.toList.map λp=>ρ p.2)) (gH ρ (parts.toList.map Prod.snd)):=by
     intro s hs;have hs':∀y,y∈parts.toList.map Prod.snd->ev s.t y=ρ y:=λy hy=>hs y (by rw[ho];simpa[Op.operands]using hy)
     have e1:=lY hs'
     have e2:(parts.toList.map λp=>(p.1,ev s.t p.2))=parts.toList.map λp=>(p.1,ρ p.2):=by
      apply map_congr_left;intro p hp';rw[hs' p.2 (mem_map_of_mem hp')]
     rw[<- e1]at hnd ⊢;rw[<- e2]at hf;obtain⟨zs,hzs⟩:=Option.isSome_iff_exists.1 hz;exact CK ho ht hzs hsm hf hnd hcl (λx hx=>List.all_eq_true.1 hall x hx) (by simpa using hln) hL
    have hk:∀i,i∈gH ρ (parts.toList.map Prod.snd)->.tmp i∈o.op.operands.toList:=λi hi=>by rw[ho];have:=iq hi;simpa[Op.operands]using this
    rcases hK with hK|hK
    ·exact⟨_,_,hK,hk,λhG s hs _=>key s hs⟩
    ·exact⟨_,_,hK,hk,λhG s hs _=>(key s hs).frz⟩
   ·exact h.elim
  ·exact h.elim
 | box t x =>
  rw[ho]at h;simp only[ovc]at h;split at h
  ·rename_i g n ht;obtain⟨he,hK⟩:=h;refine⟨_,_,hK,λi hi=>?_,λhG s hs _=>?_⟩
   ·rw[ho];have:=iq hi;simpa[Op.operands]using this
   ·have hx:=hs x (by rw[ho];simp[Op.operands]);rw[<- hx,<- lY (s:=s) (xs:=[x]) (by simpa using hx)];rw[<- hx]at he;exact SV ho he
  ·exact h.elim
 | makeFunc fn first cap =>
  rw[ho]at h
  cases fn with
  | func f =>
   simp only[ovc]at h;obtain⟨hf,hn,hK⟩:=h;have hf':first=#[]:=by apply Array.ext';simpa using hf
   subst hf';refine⟨_,[],hK,Xp,λhG s hs _=>?_⟩
   have hmap:cap.toList.map (ev s.t)=cap.toList.map ρ:=by
    apply map_congr_left;intro z hz;exact hs z (by rw[ho];simp[Op.operands];simpa using hz)
   rw[<- hmap]at hn ⊢;exact Gh ho hn
  | _=>simp[ovc]at h
 | convert src dst x =>
  rw[ho]at h;simp only[ovc]at h;split at h
  ·rename_i k' n h1;split at h
   ·rename_i k hk;obtain⟨hu,hK⟩:=h;obtain⟨d,hd⟩:=P8 hu;exact⟨_,[],hK,Xp,λhG s hs _=>Gi ho hd (Tn hk) ((hs x (by rw[ho];simp[Op.operands])).trans h1)⟩
   ·exact h.elim
  ·rename_i own' l h1;split at h
   ·rename_i bs hb;obtain⟨⟨hk,hby⟩,hln,hK⟩:=h
    obtain⟨e,hs1,hs2⟩:=TP hby;refine⟨_,[],hK,Xp,λhG s hs _=>?_⟩;rw[IB hb]at h1;exact Es ho hs1 hs2 (q8 hk) ((hs x (by rw[ho];simp[Op.operands])).trans h1) (hln hG)
   ·exact h.elim
  ·rename_i b off len sz h1;obtain⟨l,e,hc,hK⟩:=h;refine⟨_,[],hK,Xp,λhG s hs hso=>?_⟩;obtain⟨rfl,rfl,rfl,hln,hO,hs1,hs2,hs3⟩:=hc hG;exact CJ ho hs1 hs2 hs3 ((hs x (by rw[ho];simp[Op.operands])).trans h1) (by rw[hso];exact hO) hln
  ·exact h.elim
 | call c =>
  rw[ho]at h;exact Ki ho h
 | _=>rw[ho]at h;simp[ovc]at h
end
section
def isL(eff:List Nat)(o:Oper):Bool :=
 match o.op with
 | .load ..=>match o.dst with|some d=>!eff.contains d|none=>true
 | .move _|.assign _|.pick ..|.build ..|.nilCheck _|.binOp ..|.unOp ..|.convert ..|.makeFunc ..|.slice ..|.fieldAddr ..|.field ..|.indexAddr ..|.index ..|.extract ..=>true
 | .box ..|.buildSlice ..=>match o.dst with|some d=>!eff.contains d|none=>true
 | .call c=>match c.callee with
  | .builtin .len|.builtin .min|.builtin .max=>true
  | .value _=>match o.dst with|some d=>!eff.contains d|none=>false
  | _=>false
 | _=>false
def AV.strip:AV->AV
 | .cnd _ x=>x
 | x=>x
def okc(G:Bool):AV->Prop
 | .cnd g _=>G=true->g=true
 | _=>True
def O9(t:faa)(G:Bool):List Operand->Prop
 | []=>True
 | .tmp i::xs=>okc G (T t i)/\O9 t G xs
 | _::xs=>O9 t G xs
def evS(t:faa)(y:Operand):AV:=(ev t y).strip
def stS:List Operand->List Nat
 | []=>[]
 | .tmp i::xs=>i::stS xs
 | _::xs=>stS xs
def stO:Op->List Nat
 | .pick c _ _=>stS [c]
 | op=>stS op.operands.toList
def CC(t:faa)(G:Bool):List Nat->Prop
 | []=>True
 | i::xs=>okc G (T t i)/\CC t G xs
def tH:List Nat->Nat->Bool
 | [],_=>false
 | k::ks,i=>Nat.beq k i || tH ks i
def evK(t:faa)(ks:List Nat):Operand->AV
 | .tmp i=>bif tH ks i then (T t i).strip else T t i
 | y=>ev t y
def zQ{ks:List Nat}{i:Nat}:tH ks i=true↔i∈ks:=by
 induction ks with
 | nil=>simp[tH]
 | cons k ks ih =>
  simp only[tH,Bool.or_eq_true,ih,mem_cons];constructor
  ·rintro(h|h)
   ·exact .inl (Nat.eq_of_beq_eq_true h).symm
   ·exact .inr h
  ·rintro(h|h)
   ·exact .inl (by rw[h];exact Nat.beq_refl _)
   ·exact .inr h
def FQ{t:faa}{G:Bool}:∀ {ks:List Nat} {i:Nat},CC t G ks->i∈ks->okc G (T t i)
 | [],_,_,h=>by cases h
 | k::ks,i,hk,h=>by
  rcases List.mem_cons.1 h with rfl|h
  ·exact hk.1
  ·exact FQ hk.2 h
def W(L:gaa)(P:Program)(ops:Array Oper)(eff:List Nat)(n:Nat)(os:List (Nat×Option (List AV)))(K:faa->List (AV×List Nat)->List Nat->Prop):List Nat->faa->List (AV×List Nat)->Prop
 | [],t,D=>K t D []
 | i::l,t,D =>
  match ops[i]? with
  | none=>False
  | some o =>
   match isL eff o || (o.guard.isNone && apW t o.op)with
   | false=>K t D (i::l)
   | true=>dn n o.dst=true/\(match o.guard with
    | none=>ovc L P os (ev t) true o.op (λx C=>W L P ops eff n os K l (upd o x C t) (D++[(x,C)]))
    | some (j,want)=>match (ops[j]?).bind (·.dst)with
     | none=>False
     | some d=>Nat.blt d n=true/\(match qB (T t d)with
      | none=>False
      | some (G,g)=>CC t (G && (g == want)) (stO o.op) /\
       ovc L P os (evK t (stO o.op)) (G && (g == want)) o.op (λx C=>C=[]/\W L P ops eff n os K l (upd o (.cnd (G && (g == want)) x) [] t) (D++[(.cnd (G && (g == want)) x,[])]))))
section
variable {L : Nat -> Nat} {P : Program} {ops : Array Oper} {eff : List Nat} {n : Nat} {os : List (Nat × Option (List AV))}
def LOp.FU{t:faa}{o:Oper}{x:AV}{C:List Nat}{G:Bool}{ks:List Nat}(hG:G=true)(hok:CC t G ks)(h:∀s:AS,(∀y,y∈o.op.operands.toList->ev s.t y=evK t ks y)->s.o=os->LOp L P s o x C)(s:AS)(hs:∀y,y∈o.op.operands.toList->ev s.t y=ev t y)(hso:s.o=os):LOp L P s o x C:=by
 intro B F0 w0 F own fp fs a w next Q hd bZ
 classical
 let ks':List Nat:=ks.filter λi=>decide (.tmp i∈o.op.operands.toList)
 have hT:∀(q:List Nat) (i:Nat),T (q.map (λk=>(k,(T s.t k).strip))++s.t) i=if i∈q then (T s.t i).strip else T s.t i:=by
  intro q i
  induction q with
  | nil=>simp
  | cons k q ih =>
   simp only[map_cons,cons_append,T];by_cases e:k=i
   ·subst e;simp
   ·have e1:(k == i)=false:=by simpa using e
    have e2:¬i=k:=λh=>e h.symm;rw[e1];simp[e2,ih]
 have hks:∀i,i∈ks'↔i∈ks/\.tmp i∈o.op.operands.toList:=by
  intro i;simp only[ks',mem_filter,decide_eq_true_eq]
 refine h ⟨s.n,ks'.map (λk=>(k,(T s.t k).strip))++s.t,s.o⟩ ?_ hso B F0 w0 F own fp fs a w next Q { hd with slots:=?_ } bZ
 ·intro y hy
  cases y with
  | tmp i =>
   have e1:=hs (.tmp i) hy;simp only[ev]at e1;simp only[ev,evK,hT];by_cases hi:i∈ks
   ·rw[if_pos ((hks i).2 ⟨hi,hy⟩),zQ.2 hi,e1];rfl
   ·rw[if_neg (λh=>hi ((hks i).1 h).1)]
    cases hm:tH ks i with
    | true=>exact absurd (zQ.1 hm) hi
    | false=>exact e1
  | const v=>rfl
  | global _=>rfl
  | func _=>rfl
 ·intro i;simp only[hT];split
  ·rename_i hi;obtain⟨h1,h2⟩:=(hks i).1 hi;have e1:=hs (.tmp i) h2;simp only[ev]at e1;have e2:=FQ hok h1;rw[<- e1]at e2;have hr:=hd.slots i
   cases hTT:T s.t i with
   | cnd g x =>
    rw[hTT]at hr e2;simp only[Rep]at hr;exact hr.1 (e2 hG)
   | _=>rw[hTT]at hr;exact hr
  ·exact hd.slots i
def W.draw{K':faa->List (AV×List Nat)->Prop}:∀(l:List Nat) (i:Nat) (t:faa) (D:List (AV×List Nat)),l=range' i (ops.size - i)->W L P ops eff n os (λt D _=>K' t D) l t D->lB L P ops n os K' i t D
 | [],i,t,D,_,h=>by simp only[W]at h;exact .done h
 | i'::l,i,t,D,hl,h=>by
  have hlt:i<ops.size:=by
   rcases Nat.lt_or_ge i ops.size with h|h
   ·exact h
   ·rw[show ops.size - i=0 by omega]at hl;simp at hl
  rw[show ops.size - i=(ops.size - (i+1))+1 by omega,range'_succ]at hl;simp only[List.cons.injEq]at hl;obtain⟨rfl,hl⟩:=hl;simp only[W]at h;split at h
  ·exact h.elim
  ·rename_i o ho;split at h
   ·exact .done h
   ·obtain⟨hd,h⟩:=h
    have hmem:∀y,y∈o.op.operands.toList->ev (fu t (slotsOf ops o)) y=ev t y:=by
     intro y hy
     cases y with
     | tmp k =>
      have hk:k∈slotsOf ops o:=by
       simp only[slotsOf,mem_append,mem_filterMap];exact .inl ⟨.tmp k,hy,rfl⟩
      simp only[ev];clear h hd hl;generalize slotsOf ops o=ks at hk
      induction ks with
      | nil=>cases hk
      | cons q ks ih =>
       simp only[fu,map_cons,T];by_cases e:q=k
       ·subst e;simp
       ·have:(q == k)=false:=by simpa using e
        rw[this];rcases List.mem_cons.1 hk with rfl|hk
        ·exact absurd rfl e
        ·exact ih hk
     | const _=>rfl
     | global _=>rfl
     | func _=>rfl
    split at h
    ·rename_i hg;obtain⟨x,C,hK,hC,hlo⟩:=sJ h;refine .step o x C ho ⟨hd,λk hk=>?_,.inl ⟨hg,hlo rfl _ hmem rfl⟩⟩ (W.draw l (i'+1) _ _ hl hK);simp only[slotsOf,mem_append,mem_filterMap];exact .inl ⟨.tmp k,hC k hk,rfl⟩
    ·rename_i j want hg;split at h
     ·exact h.elim
     ·rename_i d hj;obtain⟨oZ,h⟩:=h;split at h
      ·exact h.elim
      ·rename_i G g hgv;obtain⟨hok,h⟩:=h;obtain⟨x,C,⟨rfl,hK⟩,_,hlo⟩:=sJ h
       cases hoj:ops[j]? with
       | none=>rw[hoj]at hj;cases hj
       | some oj =>
        rw[hoj]at hj;refine .step o _ [] ho ⟨hd,Xp,.inr ⟨j,want,oj,d,G,g,x,hg,hoj,hj,oZ,hgv,rfl,rfl,λhG=>?_⟩⟩ (W.draw l (i'+1) _ _ hl hK);exact LOp.FU hG hok (hlo hG) _ hmem rfl
end
section
variable {L : Nat -> Nat} {P : Program} {n : Nat} {t : List (Nat × AV)} {o : List (Nat × Option (List AV))} {Q : Exit -> AS -> Prop} {id : Nat} {ops : Array Oper}
