/- Part of a proof. -/
import Derived.Test.YtmcjbaafmjlblaaGreatDoorJ1
set_option linter.all false
namespace Go.Ab
open Go.RowKit (Below)
section
section
variable {L : Nat -> Nat} {P : Program} {o : Oper} {s : AS} {K : AS -> Prop}
theorem OpW.imp(h:Imp L s (fun s'=>OpW L P o s' K)):OpW L P o s K:=by
 intro B F0 w0 a w next Q hd hn
 obtain ⟨s',h1,h2⟩:=h B F0 w0 a w hd
 exact h1 B F0 w0 a w next Q h2 hn
theorem OpW.post(h:OpW L P o s (fun s'=>Imp L s' K)):OpW L P o s K:=by
 intro B F0 w0 a w next Q hd hn
 refine h B F0 w0 a w next Q hd fun s' a' w' h1 h2=>?_
 obtain ⟨s2,h3,h4⟩:=h1 B F0 w0 a' w' h2
 exact hn s2 a' w' h3 h4
end
section
variable {L : Nat -> Nat} {n : Nat} {t : List (Nat × AV)} {o : Sto} {Q : AS -> Prop}
theorem Imp.weak{t':List (Nat×AV)}{o':Sto}(h:Q ⟨n,t',o'⟩)(ht:∀ i,T t' i=T t i\/T t' i=.dead)(ho:∀ b cells,O o' b=some cells->O o b=some cells):Imp L ⟨n,t,o⟩ Q :=
 fun _ _ _ _ _ hd=>⟨_,h,hd.weaken rfl ht ho⟩
theorem Imp.pJ(i:Nat){sz:Nat}{l:List AV}(hT:T t i=.sl true sz l)(hel:∀ x,x∈l->x.elem sz=true)
  (h:∀ b,gq o b->Q ⟨n,(i,.arr b 0 l.length sz)::t,(b,some (l.flatMap AV.cells))::o⟩)
  (hnil:l=[]->Q ⟨n,(i,.v (.slice none 0 0))::t,o⟩):Imp L ⟨n,t,o⟩ Q:=by
 intro B F0 w0 a w hd
 obtain ⟨F,own,fp,fs,hd⟩:=hd
 have hr:=hd.slots i
 simp only at hr
 rw [hT] at hr
 simp only [Rep] at hr
 rcases hr with ⟨e1|⟨e0,_⟩,e,e3⟩|⟨b,off,cap,vals,fp',hy,h1,h2,hrow,he,ho⟩
 ·refine ⟨_,hnil e,F,own,fp,fs,{ hd with slots:=?_ }⟩
  intro j
  rw [fP]
  by_cases ej:i=j
  ·subst ej
   simp only [if_true,Rep]
   exact ⟨e1,e3⟩
  ·simp only [if_neg ej];exact hd.slots j
 ·cases e0
 obtain ⟨hfp,rfl,gX⟩:fp i=b::fp'/\off=0/\ma w b (off+cap * sz):=by
  rcases ho with ⟨_,h⟩|⟨e,_⟩
  ·exact h
  ·cases e
 have hsb:own b=.slot i:=hd.so i b (by rw [hfp];simp)
 have hnd:=hd.sn i
 rw [hfp,List.nodup_cons] at hnd
 have hfr:gq o b:=by
  intro b' cells hO e
  have:=(hd.obj b' cells hO).1
  rw [e,hsb] at this;cases this
 refine ⟨_,h b hfr,?_⟩
 obtain ⟨c,Ty,rest,hc,hcl⟩:=xH hrow gX
 classical
 let own':Nat->Own:=fun k=>if k=b then .key else if k∈fp' then .obj b else own k
 have hnot:∀ k,own k≠.slot i->own' k=own k:=fun k hk=>by
  have n1:k≠b:=fun e=>hk (by rw [e];exact hsb)
  have n2:k ∉ fp':=fun hm=>hk (hd.so i k (by rw [hfp];simp [hm]))
  simp only [own',if_neg n1,if_neg n2]
 refine ⟨F,own',fun j=>if j=i then [] else fp j,fun k=>if k=b then fp' else fs k,{ below:=hd.below,hB:=hd.hB,tb:=hd.tb,f0:=hd.f0,fl:=?_,ol:=?_,defers:=hd.defers,size:=hd.size,slots:=?_,sn:=?_,so:=?_,obj:=?_ }⟩
 ·intro k hk
  have:=hd.fl k hk
  exact ⟨by rw [hnot k (by rw [this.1];simp)];exact this.1,this.2⟩
 ·intro k hk
  by_cases e1:k=b
  ·subst e1;exact hd.ol k (by rw [hsb];simp)
  ·by_cases e2:k∈fp'
   ·exact hd.ig (i:=i) (by rw [hfp];simp [e2])
   ·simp only [own',if_neg e1,if_neg e2] at hk;exact hd.ol k hk
 ·intro j
  rw [fP]
  by_cases e:i=j
  ·subst e
   simp only [if_true,Rep]
   exact ⟨trivial,cap,hy,h1,h2,gX⟩
  ·have e':¬ j=i:=fun h=>e h.symm
   simp only [if_neg e,if_neg e'];exact hd.slots j
 ·intro j
  split
  ·simp
  ·exact hd.sn j
 ·intro j k hk
  split at hk
  ·simp at hk
  ·rename_i e
   have:=hd.so j k hk
   rw [hnot k (by rw [this];simpa using e)];exact this
 ·intro q cells hO
  simp only [O] at hO
  by_cases e:b=q
  ·subst e
   rw [if_pos rfl] at hO;cases hO
   refine ⟨by simp [own'],by simpa using hnd.2,fun k hk=>?_,c,Ty,vals,rest,hc,hcl,by simpa using bT.flat hel he⟩
   simp only [if_true] at hk
   have n1:k≠b:=fun e=>hnd.1 (by rw [<- e];exact hk)
   simp only [own',if_neg n1,if_pos hk]
  ·rw [if_neg e] at hO
   have e':¬ q=b:=fun h=>e h.symm
   obtain ⟨g1,g2,g3,g4⟩:=hd.obj q cells hO
   simp only [if_neg e']
   exact ⟨by rw [hnot q (by rw [g1];simp)];exact g1,g2,fun k hk=>by rw [hnot k (by rw [g3 k hk];simp)];exact g3 k hk,g4⟩
end
section
variable {L : Nat -> Nat} {F : Nat -> Prop} {w : World}
theorem aq.hole{l:List AV}{vs:List Value}{fp:List Nat}(r:aq L F w l vs fp)(i n:Nat)(hle:i+n<=l.length) :
  ∃ f1 fx f3,fp=f1++(fx++f3)/\aq L F w ((l.drop i).take n) ((vs.drop i).take n) fx/\aq L F w (l.take i++List.replicate n .dead++l.drop (i+n)) vs (f1++f3):=by
 have hl:=r.len
 have e1:l=l.take i++((l.drop i).take n++l.drop (i+n)):=by
  rw [<- List.drop_drop,List.take_append_drop,List.take_append_drop]
 have r0:=r
 rw [e1] at r
 obtain ⟨v1,v23,f1,f23,rfl,rfl,r1,r23⟩:=r.split
 obtain ⟨v2,v3,f2,f3,rfl,rfl,r2,r3⟩:=r23.split
 have h1:=r1.len
 have h2:=r2.len
 simp only [List.length_take,List.length_drop] at h1 h2
 have hv1:v1.length=i:=by omega
 have hv2:v2.length=n:=by omega
 have e2:((v1++(v2++v3)).drop i).take n=v2:=by
  rw [<- hv1,List.drop_left,<- hv2,List.take_left]
 refine ⟨f1,f2,f3,rfl,by rw [e2];exact r2,?_⟩
 have hd:=aq.CU (L:=L) (F:=F) (w:=w) v2
 rw [hv2] at hd
 have:=(r1.join hd).join r3
 simpa using this
end
section
variable {L : Nat -> Nat} {P : Program} {s : AS} {o : Oper}
theorem JL{t:TypeId}{x:Operand}{n b off:Nat}{g:Bool}{cells:List AV}{y:AV}(ho:o.op=.load t x)(hd:cN s.n o.dst=true)(hx:ev s.t x=.ptr b off)
  (hb:O s.o b=some cells) (ht:ty P t=some (g,n)) (hy:val g n (cells.drop off)=some y) (hn1:g=false->n=1) (hle:off+n<=cells.length) {K:AS->Prop} (hK:K ⟨s.n,put s.t o.dst y,(b,some (cells.take off++List.replicate n .dead++cells.drop (off+n)))::s.o⟩):OpW L P o s K:=by
 intro B F0 w0 a w next Q cw bI
 obtain ⟨F,own,fp,fs,h⟩:=cw
 have hr:=h.ev x
 rw [hx] at hr
 simp only [Rep] at hr
 obtain ⟨hkey,iO,dW,c,Ty,vals,rest,hc,hcl,gE⟩:=h.obj b cells hb
 have Iw:gp w b 0 vals:=⟨c,Ty,_,hc,fun i hi=>by rw [Nat.zero_add,<- Array.getElem?_toList,hcl,List.getElem?_append_left hi]⟩
 have hrow:gp w b off (vals.drop off):=by
  have:=Iw.cut off vals.length
  rw [List.take_of_length_le (by simp),Nat.zero_add] at this
  exact this
 have hvl:=gE.len
 obtain ⟨l1,l2⟩:=sV (P:=P) ht hrow
 obtain ⟨f1,fx,f3,hfs,ID,T9⟩:=gE.hole off n hle
 obtain ⟨v,hrun,TW⟩:∃ v,(loadVar t ⟨b,off,none⟩).run P w=.ok v w/\Rep L F w y v fx:=by
  unfold val at hy
  cases g with
  | true =>
   cases hn:Nat.ble n (cells.drop off).length with
   | false=>simp only [cond_true,hn,cond_false] at hy;cases hy
   | true =>
    simp only [cond_true,hn] at hy
    cases hy
    exact ⟨_,l1 rfl (by simp only [List.length_drop];omega),by simp only [Rep];exact ⟨_,rfl,ID⟩⟩
  | false =>
   simp at hy
   have hn:=hn1 rfl
   subst hn
   have hlt:off<cells.length:=by omega
   have e1:(cells.drop off).take 1=[y]:=by
    rw [List.drop_eq_getElem_cons hlt]
    rw [List.getElem?_eq_getElem hlt] at hy
    cases hy;rfl
   rw [e1] at ID
   simp only [aq] at ID
   obtain ⟨y',vs',g1,g2,hv,hfx,hy',rfl,rfl⟩:=ID
   have hv0:(vals.drop off)[0]? = some y':=by
    cases hd:vals.drop off with
    | nil=>rw [hd] at hv;simp at hv
    | cons z zs=>rw [hd] at hv;simp at hv;simp [hv]
   exact ⟨y',l2 rfl y' hv0,by rw [hfx];simpa using hy'⟩
 have hex:(execOp a.eval o).run P w=.ok (.value v) w:=by
  simp [execOp,ho,hr.1,Instr.loadAt,Instr.sureAddr,hrun]
 unfold Oper.wp
 rw [hex]
 refine bI _ _ _ hK ?_
 have hnd:=iO
 rw [hfs,List.nodup_append] at hnd
 obtain ⟨WS,RJ,RI⟩:=hnd
 rw [List.nodup_append] at RJ
 obtain ⟨hnx,hn4,hn5⟩:=RJ
 have h6:∀ k,k∈fx->own k=.obj b:=fun k hk=>dW k (by rw [hfs];simp [hk])
 classical
 let own':Nat->Own:=fun k=>if k∈fx then (match o.dst with|some d=>.slot d|none=>.none) else own k
 have hnot:∀ k,own k≠.obj b->own' k=own k:=fun k hk=>by
  have:k ∉ fx:=fun hm=>hk (h6 k hm)
  simp only [own',if_neg this]
 refine ⟨F,own',fun i=>if o.dst=some i then fx else fp i,fun q=>if q=b then f1++f3 else fs q,{ below:=h.below,hB:=h.hB,tb:=h.tb,f0:=h.f0,fl:=?_,ol:=?_,defers:=?_,size:=?_,slots:=?_,sn:=?_,so:=?_,obj:=?_ }⟩
 ·intro k hk
  have e:=h.fl k hk
  exact ⟨by rw [hnot k (by rw [e.1];simp)];exact e.1,e.2⟩
 ·intro k hk
  by_cases n1:k∈fx
  ·exact h.ol k (by rw [h6 k n1];simp)
  ·simp only [own',if_neg n1] at hk;exact h.ol k hk
 ·have:=h.defers;cases o.dst<;>simpa [Act.put] using this
 ·have:=h.size;cases o.dst<;>simpa [Act.put] using this
 ·intro i
  simp only [kV]
  rw [iF a o.dst v i (by rw [h.size];exact hd)]
  by_cases e:o.dst=some i
  ·simp only [e,if_true];exact TW
  ·simp only [if_neg e];exact h.slots i
 ·intro i
  split
  ·exact hnx
  ·exact h.sn i
 ·intro i k hk
  by_cases e:o.dst=some i
  ·simp only [e,if_true] at hk
   simp only [own',if_pos hk,e]
  ·rw [if_neg e] at hk
   have:=h.so i k hk
   rw [hnot k (by rw [this];simp)];exact this
 ·intro q cs hO
  simp only [O] at hO
  by_cases e:b=q
  ·subst e
   rw [if_pos rfl] at hO;cases hO
   simp only [if_true]
   refine ⟨by rw [hnot b (by rw [hkey];simp)];exact hkey,?_,fun k hk=>?_,c,Ty,vals,rest,hc,hcl,T9⟩
   ·rw [List.nodup_append]
    exact ⟨WS,hn4,fun a ha b hb=>RI a ha b (by simp [hb])⟩
   ·have hk':k∈fs b:=by rw [hfs];rcases List.mem_append.1 hk with h|h<;>simp [h]
    have:k ∉ fx:=fun hm=>by
     rcases List.mem_append.1 hk with h|h
     ·exact RI k h k (by simp [hm]) rfl
     ·exact hn5 k hm k h rfl
    simp only [own',if_neg this];exact dW k hk'
  ·rw [if_neg e] at hO
   have e':¬ q=b:=fun h=>e h.symm
   obtain ⟨g1,g2,g3,g4⟩:=h.obj q cs hO
   simp only [if_neg e']
   exact ⟨by rw [hnot q (by rw [g1];simp)];exact g1,g2,fun k hk=>by rw [hnot k (by rw [g3 k hk];simpa using e')];exact g3 k hk,g4⟩
theorem DN{i k:Nat}{l:List AV}{y:AV}(ho:o.op=.extract (.tmp i) k)(hd:cN s.n o.dst=true)(hx:T s.t i=.tup l)(hy:l[k]? = some y){K:AS->Prop}
  (hK:K ⟨s.n,put ((i,.tup (l.set k .dead))::s.t) o.dst y,s.o⟩):OpW L P o s K:=by
 intro B F0 w0 a w next Q cw bI
 obtain ⟨F,own,fp,fs,h⟩:=cw
 have hr:=h.slots i
 rw [hx] at hr
 simp only [Rep] at hr
 obtain ⟨vs,hv,hl⟩:=hr
 obtain ⟨v,f1,fx,f2,hvk,hfp,hrv,hset⟩:=hl.put hy
 have CR:=hset .dead [] (by simp [Rep])
 rw [List.nil_append] at CR
 have hex:(execOp a.eval o).run P w=.ok (.value v) w:=by
  have hv':a.tmps[i]?.getD undef=.tuple vs.toArray:=by rw [<- hv,Array.getD_eq_getD_getElem?]
  simp [execOp,ho,Act.eval,hv',hvk,Instr.extract]
 unfold Oper.wp
 rw [hex]
 refine bI _ _ _ hK ?_
 have hnd:=h.sn i
 rw [hfp,List.nodup_append] at hnd
 obtain ⟨hn1,hn2,hn3⟩:=hnd
 rw [List.nodup_append] at hn2
 obtain ⟨hnx,hn4,hn5⟩:=hn2
 have h6:∀ k,k∈fx->own k=.slot i:=fun k hk=>h.so i k (by rw [hfp];simp [hk])
 classical
 let own':Nat->Own:=fun k=>if k∈fx then (match o.dst with|some d=>.slot d|none=>.none) else own k
 have hnot:∀ k,own k≠.slot i->own' k=own k:=fun k hk=>by
  have:k ∉ fx:=fun hm=>hk (h6 k hm)
  simp only [own',if_neg this]
 refine ⟨F,own',fun j=>if o.dst=some j then fx else if j=i then f1++f2 else fp j,fs,{ below:=h.below,hB:=h.hB,tb:=h.tb,f0:=h.f0,fl:=?_,ol:=?_,defers:=?_,size:=?_,slots:=?_,sn:=?_,so:=?_,obj:=?_ }⟩
 ·intro k hk
  have e:=h.fl k hk
  exact ⟨by rw [hnot k (by rw [e.1];simp)];exact e.1,e.2⟩
 ·intro k hk
  by_cases n1:k∈fx
  ·exact h.ol k (by rw [h6 k n1];simp)
  ·simp only [own',if_neg n1] at hk;exact h.ol k hk
 ·have:=h.defers;cases o.dst<;>simpa [Act.put] using this
 ·have:=h.size;cases o.dst<;>simpa [Act.put] using this
 ·intro j
  simp only [kV,fP]
  rw [iF a o.dst v j (by rw [h.size];exact hd)]
  by_cases e:o.dst=some j
  ·simp only [e,if_true];exact hrv
  ·simp only [if_neg e]
   by_cases e2:i=j
   ·subst e2
    simp only [if_true,Rep]
    exact ⟨vs,hv,CR⟩
   ·have e2':¬ j=i:=fun h=>e2 h.symm
    simp only [if_neg e2,if_neg e2'];exact h.slots j
 ·intro j
  split
  ·exact hnx
  ·split
   ·rw [List.nodup_append]
    exact ⟨hn1,hn4,fun a ha b hb=>hn3 a ha b (by simp [hb])⟩
   ·exact h.sn j
 ·intro j q hq
  by_cases e:o.dst=some j
  ·simp only [e,if_true] at hq
   simp only [own',if_pos hq,e]
  ·rw [if_neg e] at hq
   by_cases e2:j=i
   ·subst e2
    rw [if_pos rfl] at hq
    have hq':q∈fp j:=by rw [hfp];rcases List.mem_append.1 hq with h|h<;>simp [h]
    have:q ∉ fx:=fun hm=>by
     rcases List.mem_append.1 hq with h|h
     ·exact hn3 q h q (by simp [hm]) rfl
     ·exact hn5 q hm q h rfl
    simp only [own',if_neg this];exact h.so j q hq'
   ·rw [if_neg e2] at hq
    have:=h.so j q hq
    rw [hnot q (by rw [this];simpa using e2)];exact this
 ·intro q cs hO
  obtain ⟨g1,g2,g3,g4⟩:=h.obj q cs hO
  exact ⟨by rw [hnot q (by rw [g1];simp)];exact g1,g2,fun k hk=>by rw [hnot k (by rw [g3 k hk];simp)];exact g3 k hk,g4⟩
end
end
section
section
variable {L : Nat -> Nat} {P : Program} {s : AS} {o : Oper}
theorem qz{c:Call}{x y:Operand}{t u e:TypeId}{sz bytes:Nat}(ho:o.op=.call c)(hc:c=⟨.builtin .append,#[x,y],#[t,u]⟩)
  (hd:cN s.n o.dst=true) (hx:ev s.t x=.v (.slice none 0 0)) (ht:elm P t=some (e,sz,bytes))
  (hu:(∃ e',P.underlying u=some (.slice e'))\/P.underlying u=some .string) (hsrc:gP s.o sz (ev s.t y)=some (0,[])) {K:AS->Prop}
  (hK:K ⟨s.n,put (bW s.t (kills s.t [y])) o.dst (.sl true sz []),s.o⟩):OpW L P o s K:=by
 subst hc
 obtain ⟨inf,hut,fu,rfl,rfl⟩:=jq ht
 refine LOp.opW (x:=.sl true inf.size []) (C:=kills s.t [y]) ?_ hd hK
 refine LOp.of_run fun B F0 w0 F own fp fs a w h=>?_
 have hv:=h.val hx
 obtain ⟨news,f,hS,hnl,hnr,hfn,hfk⟩:=uB h hsrc hu
 have:news=[]:=by simp only [aq] at hnr;exact hnr.1
 subst this
 have hrun:=Ft (tyr:=o.type) hut fu hS
 refine ⟨.slice none 0 0,[],?_,by simp [Rep],by simp,by simp⟩
 simp only [execOp,ho,resolve,invoke,builtin,Sem.run_bind,Sem.run_pure,Result.andThen_ok,List.map_toArray,List.map_cons,List.map_nil,hv,hrun]
theorem oT{t:List (Nat×AV)}{i:Nat}{x:AV}{y:Operand}(h:y≠.tmp i):kills ((i,x)::t) [y]=kills t [y]:=by
 cases y with
 | tmp j =>
  have hne:¬ i=j:=fun e=>h (by rw [e])
  simp only [kills,fP,if_neg hne]
 | _=>rfl
theorem lN{t:List (Nat×AV)}{i:Nat}{x:AV}{y:Operand}(h:y≠.tmp i):ev ((i,x)::t) y=ev t y:=by
 cases y with
 | tmp j =>
  have hne:¬ i=j:=fun e=>h (by rw [e])
  simp only [ev,fP,if_neg hne]
 | _=>rfl
theorem Ao{c:Call}{i:Nat}{y:Operand}{t u e:TypeId}{sz bytes:Nat}{l l':List AV}{zs:List Value}(ho:o.op=.call c)(hc:c=⟨.builtin .append,#[.tmp i,y],#[t,u]⟩)
  (hd:cN s.n o.dst=true) (hx:T s.t i=.sl true sz l) (hxy:y≠.tmp i) (ht:elm P t=some (e,sz,bytes)) (hz:zer P e=some zs) (hzl:zs.length=sz)
  (hu:(∃ e',P.underlying u=some (.slice e'))\/P.underlying u=some .string) (hsrc:oJ sz (ev s.t y)=some l') (hel:∀ z,z∈l->z.elem sz=true) (jc:∀ z,z∈l'->z.elem sz=true) (hone:(l'.flatMap AV.cells).all AV.one=true)
  (hL:l.length+l'.length<=L sz) (hby:(l.length+l'.length) * bytes<=140737488355328) (h63:l.length+l'.length<=9223372036854775807) {K:AS->Prop}
  (hK:K ⟨s.n,put (bW s.t (kills s.t [.tmp i,y])) o.dst (.sl true sz (l++l')),s.o⟩):OpW L P o s K:=by
 obtain ⟨n,tt,os⟩:=s
 simp only at *
 have hi:i∈kills tt [.tmp i,y]:=fc.2 ⟨by simp,by rw [hx];rfl⟩
 have hsub:∀ j,j∈kills tt [y]->j∈kills tt [.tmp i,y]:=fun j hj=>by
  have:=fc.1 hj
  exact fc.2 ⟨by simp at this;simp [this.1],this.2⟩
 have Zp:∀ j,j≠i->j∈kills tt [.tmp i,y]->j∈kills tt [y]:=fun j hj h=>by
  have:=fc.1 h
  refine fc.2 ⟨?_,this.2⟩
  have h1:=this.1
  simp only [List.mem_cons,Operand.tmp.injEq,List.not_mem_nil,or_false] at h1 ⊢
  exact h1.resolve_left hj
 have hsA:∀ os',gP os' sz (ev tt y)=some (l'.length,l'.flatMap AV.cells):=fun os'=>om hsrc jc
 have hTT:∀ (z:AV) (d:Option Nat) (r:AV) (j:Nat),T (put (bW tt (kills tt [.tmp i,y])) d r) j=T (put (bW ((i,z)::tt) (kills tt [y])) d r) j\/T (put (bW tt (kills tt [.tmp i,y])) d r) j=.dead:=by
  intro z d r j
  simp only [kV,zY,fP]
  by_cases e1:d=some j
  ·simp [e1]
  ·simp only [if_neg e1]
   by_cases e2:j=i
   ·subst e2;simp [hi]
   ·have e2':¬ i=j:=fun h=>e2 h.symm
    by_cases e3:j∈kills tt [.tmp i,y]
    ·simp [e3]
    ·have:j ∉ kills tt [y]:=fun h=>e3 (hsub j h)
     simp [e3,this,e2']
 have hfl:l.flatMap AV.cells++l'.flatMap AV.cells=(l++l').flatMap AV.cells:=by simp
 have hall:∀ z,z∈l++l'->z.elem sz=true:=fun z hz=>by
  rcases List.mem_append.1 hz with h|h
  ·exact hel z h
  ·exact jc z h
 have hlen:=bH hel
 have IE:=bH hall
 have back:∀ (z:AV) (b':Nat) (o1:Sto),(∀ q cs,O os q=some cs->O o1 q=some cs/\q≠b') ->
   Imp L ⟨n,put (bW ((i,z)::tt) (kills tt [y])) o.dst (.arr b' 0 (l.length+l'.length) sz),(b',some ((l++l').flatMap AV.cells))::o1⟩ K:=by
  intro z b' o1 ho1
  cases nM:o.dst with
  | none =>
   rw [nM] at hK
   refine Imp.weak hK (fun j=>?_) ?_
   ·have:=hTT z none (.sl true sz (l++l')) j
    simpa [put] using this
   ·intro q cs hq
    have:=ho1 q cs hq
    simp only [O,if_neg (fun e=>this.2 e.symm:¬ b'=q)];exact this.1
  | some d =>
   rw [nM] at hK
   refine Imp.bind (Q:=fun s'=>s'=⟨n,(d,.sl true sz (l++l'))::put (bW ((i,z)::tt) (kills tt [y])) (some d) (.arr b' 0 (l.length+l'.length) sz),(b',none)::(b',some ((l++l').flatMap AV.cells))::o1⟩) (Imp.fold d (b:=b') (len:=l.length+l'.length) (sz:=sz) (cells:=(l++l').flatMap AV.cells) (l:=l++l') (by simp [put,T]) (by simp [O]) (by simp) ?_ hall rfl) ?_
   ·rw [List.take_of_length_le];rw [IE];simp
   ·rintro _ rfl
    refine Imp.weak hK (fun j=>?_) ?_
    ·have:=hTT z (some d) (.sl true sz (l++l')) j
     simp only [put,fP] at this ⊢
     by_cases e:d=j
     ·simp [e]
     ·simpa [e] using this
    ·intro q cs hq
     have:=ho1 q cs hq
     have hne:¬ b'=q:=fun e=>this.2 e.symm
     simp only [O,if_neg hne];exact this.1
 refine OpW.imp (Imp.pJ i hx hel ?_ ?_)
 ·intro b hfr
  refine OpW.post (rF (b:=b) (len:=l.length) (cells:=l.flatMap AV.cells) (n:=l'.length) (ncells:=l'.flatMap AV.cells) (s:=⟨n,(i,.arr b 0 l.length sz)::tt,(b,some (l.flatMap AV.cells))::os⟩) ho hc hd (by simp [ev,T]) (by simp [O]) hlen ht hz hzl hu (by simp only [lN hxy];exact hsA _) hone hL hby h63 fun b' hb'=>?_)
  simp only [oT hxy,hfl]
  refine back _ b' _ fun q cs hq=>?_
  have hqb:q≠b:=hfr q cs hq
  have WJ:¬ b=q:=fun e=>hqb e.symm
  have h1:O (jk ((b,some (l.flatMap AV.cells))::os) [b]) q=some cs:=by
   rw [nE,if_neg (by simpa using hqb)]
   simp only [O,if_neg WJ];exact hq
  exact ⟨h1,hb' q cs h1⟩
 ·intro e0
  subst e0
  by_cases h0:l'=[]
  ·subst h0
   refine OpW.post (qz (s:=⟨n,(i,.v (.slice none 0 0))::tt,os⟩) ho hc hd (by simp [ev,T]) ht hu (by simp only [lN hxy];exact hsA _) ?_)
   simp only [oT hxy]
   exact Imp.weak hK (hTT _ _ _) (fun _ _ h=>h)
  ·have hpos:0<l'.length:=List.length_pos_iff.2 h0
   refine OpW.post (rE (s:=⟨n,(i,.v (.slice none 0 0))::tt,os⟩) ho hc hd (by simp [ev,T]) ht hz hzl hu (by simp only [lN hxy];exact hsA _) hpos (by simpa using hL) (by simpa using hby) (by simpa using h63) fun b' hb'=>?_)
   simp only [oT hxy]
   have:=back (.v (.slice none 0 0)) b' os fun q cs hq=>⟨hq,hb' q cs hq⟩
   simpa using this
end
theorem jO.lJ{L:Nat->Nat}{P:Program}{f:FuncId}{args:List AV}{res:AV}(h:fM L P f args res):jO L P f [] args (fun r os'=>r=res/\os'=[]):=by
 intro B F own fs w vs hS hr
 refine (h w F vs (fun b hb=>(hS.fl b hb).2.1) (hS.tb.kp hS.below hS.hB) hr).mono ?_
 rintro e w' ⟨v,F',fp,rfl,h1,h2,h3,h4,h5,h6⟩
 classical
 let own':Nat->Own:=fun b=>if b∈fp then .slot 0 else own b
 have hsz:=h1.size
 refine ⟨v,res,[],F',own',fs,fp,rfl,⟨rfl,rfl⟩,{ below:=Kp.J0 h1 (Ext.ld h1) hS.hB,hB:=fun b hb=>Nat.lt_of_lt_of_le (hS.hB b hb) hsz,tb:=hS.tb,f0:=h2,fl:=?_,ol:=?_,obj:=by simp [O] },h4,h5,fun b hb=>by simp only [own',if_pos hb]⟩
 ·intro b hb
  have hnx:b ∉ fp:=fun hm=>(h6 b hm).1 hb
  simp only [own',if_neg hnx]
  rcases h3 b hb with e|e
  ·have:=hS.fl b e;exact ⟨this.1,by omega,.inl e⟩
  ·refine ⟨?_,e.2,.inr fun hB=>by have:=hS.hB b hB;omega⟩
   rcases Classical.em (own b=.none) with e'|e'
   ·exact e'
   ·have:=(hS.ol b e').2;omega
 ·intro b hb
  by_cases e:b∈fp
  ·have:=h6 b e;exact ⟨fun hB=>by have:=hS.hB b hB;omega,this.2.2⟩
  ·simp only [own',if_neg e] at hb
   have:=hS.ol b hb;exact ⟨this.1,by omega⟩
end
section
def InC(L:Nat->Nat)(P:Program)(f:FuncId)(g:Bool)(x x' rest:List AV)(res:AV):Prop :=
 x'.length=x.length/\(g=false->x.length=1) /\
 ∀ (B F:Nat->Prop) (own:Nat->Own) (w:World) (vs rs:List Value) (fp:List Nat),
  kW L B F w F own (fun _=>[]) [] w->aq L F w x vs fp->fp.Nodup->(∀ b,b∈fp->own b=.slot 0)->aq L F w rest rs [] ->
  Calls P f (mkv g vs::rs).toArray w fun e w'=>∃ v F' own' fp',e=.returned v/\kW L B F w F' own' (fun _=>[]) [] w'/\Rep L F' w' res v []/\aq L F' w' x' vs fp'/\fp'.Nodup/\(∀ b,b∈fp'->own' b=.slot 0)
section
variable {L : Nat -> Nat} {P : Program} {f : FuncId} {g : Bool} {x x' rest : List AV} {res : AV}
theorem yo(hC:InC L P f g x x' rest res){B F0:Nat->Prop}{w0:World}{F:Nat->Prop}{own:Nat->Own}{fp fs:Nat->List Nat}{s:AS}{a:Act}{w:World}(h:cD L B F0 w0 F own fp fs s a w)
  {o1:Own} {fx:List Nat} {vs rs:List Value} (hx:aq L F w x vs fx) (hn:fx.Nodup) (ho:∀ b,b∈fx->own b=o1) (h1:o1≠.none) (hr:aq L F w rest rs []) :
  Calls P f (mkv g vs::rs).toArray w fun e w'=>∃ (v:Value) (F':Nat->Prop) (own':Nat->Own) (fx':List Nat),e=.returned v/\Kp (fun b=>b<w.heap.size/\b ∉ fx) w w'/\(∀ b,F b->F' b)/\(∀ b,F' b->own' b=.none/\b<w'.heap.size/\(F0 b\/¬ B b)) /\
   (∀ b,own' b≠.none->¬ B b/\b<w'.heap.size)/\(∀ b,b ∉ fx->own b≠.none->own' b=own b)/\Rep L F' w' res v []/\aq L F' w' x' vs fx'/\fx'.Nodup/\(∀ b,b∈fx'->own' b=o1/\¬ (b<w.heap.size/\b ∉ fx)):=by
 classical
 let U:Nat->Prop:=fun b=>b<w.heap.size/\b ∉ fx
 let oO:Nat->Own:=fun b=>if b∈fx then .slot 0 else .none
 have IJ:∀ b,b∈fx->own b≠.none:=fun b hb=>by rw [ho b hb];exact h1
 have hUB:∀ b,B b->U b:=fun b hb=>⟨h.hB b hb,fun hm=>(h.ol b (IJ b hm)).1 hb⟩
 have hS:kW L U F w F oO (fun _=>[]) [] w:=by
  refine { below:=Kp.refl _ _,hB:=fun b hb=>hb.1,tb:=h.tb.kp h.below hUB,f0:=fun _ h=>h,fl:=fun b hb=>⟨?_,(h.fl b hb).2.1,.inl hb⟩,ol:=fun b hb=>?_,obj:=by simp [O] }
  ·have:b ∉ fx:=fun hm=>IJ b hm (h.fl b hb).1
   simp only [oO,if_neg this]
  ·by_cases e:b∈fx
   ·exact ⟨fun hu=>hu.2 e,(h.ol b (IJ b e)).2⟩
   ·simp only [oO,if_neg e] at hb;exact absurd rfl hb
 refine (hC.2.2 U F oO w vs rs fx hS hx hn (fun b hb=>by simp only [oO,if_pos hb]) hr).mono ?_
 rintro e w' ⟨v,F',il,fx',rfl,h5,h6,h7,h8,h9⟩
 have hsz:=h5.below.size
 let own':Nat->Own:=fun b=>if U b then own b else if b∈fx' then o1 else .none
 have hnU:∀ b,b∈fx'->¬ U b:=fun b hb=>(h5.ol b (by rw [h9 b hb];simp)).1
 refine ⟨v,F',own',fx',rfl,h5.below,h5.f0,fun b hb=>?_,fun b hb=>?_,fun b hb1 hb2=>?_,h6,h7,h8,fun b hb=>⟨?_,hnU b hb⟩⟩
 ·have g0:=h5.fl b hb
  by_cases hu:U b
  ·have hF:F b:=g0.2.2.resolve_right fun e=>e hu
   exact ⟨by simp only [own',if_pos hu];exact (h.fl b hF).1,g0.2.1,(h.fl b hF).2.2⟩
  ·have:b ∉ fx':=fun hm=>by have:=h9 b hm;rw [g0.1] at this;cases this
   exact ⟨by simp only [own',if_neg hu,if_neg this],g0.2.1,.inr fun hB=>hu (hUB b hB)⟩
 ·by_cases hu:U b
  ·simp only [own',if_pos hu] at hb
   have:=h.ol b hb
   exact ⟨this.1,by omega⟩
  ·by_cases hm:b∈fx'
   ·have:=h5.ol b (by rw [h9 b hm];simp)
    exact ⟨fun hB=>hu (hUB b hB),this.2⟩
   ·simp only [own',if_neg hu,if_neg hm] at hb;exact absurd rfl hb
 ·have:U b:=⟨(h.ol b hb2).2,hb1⟩
  simp only [own',if_pos this]
 ·simp only [own',if_neg (hnU b hb),if_pos hb]
theorem mS{s:AS}{o:Oper}{y:Operand}{xs:Array Operand}{ts:Array TypeId}{caps:List AV}{B F0:Nat->Prop}{w0:World}{F:Nat->Prop}{own:Nat->Own}{fp fs:Nat->List Nat}{a:Act}{w:World}(h:cD L B F0 w0 F own fp fs s a w)
  (ho:o.op=.call ⟨.value y,xs,ts⟩) (hy:fnA (ev s.t y)=some (f,caps)) (hcn:AV.bL caps=true) (he:enters P f=true) :
  ∃ cvs:List Value,aq L F w caps cvs []/\(execOp a.eval o).run P w=.ok (.enter f (xs.toList.map a.eval++cvs).toArray) w:=by
 have hry:=h.ev y
 obtain ⟨cvs,hyv,hcr⟩:∃ cvs:List Value,a.eval y=.func (.func f) #[] cvs.toArray/\aq L F w caps cvs []:=by
  generalize ev s.t y=z at hy hry
  unfold fnA at hy
  split at hy
  ·cases hy
   simp only [Rep] at hry
   obtain ⟨vs,e,hl⟩:=hry
   rw [aq.dP hcn hl] at hl
   exact ⟨vs,e,hl⟩
  ·split at hy
   ·rename_i first cap hsz
    cases hy
    simp only [Rep] at hry
    have e1:first=#[]:=Array.eq_empty_of_size_eq_zero hsz.1
    have e2:cap=#[]:=Array.eq_empty_of_size_eq_zero hsz.2
    exact ⟨[],by rw [hry.1,e1,e2],by simp [aq]⟩
   ·cases hy
  ·cases hy
 refine ⟨cvs,hcr,?_⟩
 have:=tv he (xs.toList.map a.eval++cvs).toArray w
 have e:xs.map a.eval++cvs.toArray=(xs.toList.map a.eval++cvs).toArray:=by apply Array.ext';simp
 rw [<- e] at this ⊢
 simp only [execOp,ho,resolve,Sem.run_bind,hyv,Deferred.ofValue,Sem.run_pure,Result.andThen_ok,invoke,Array.empty_append]
 exact this
theorem E5{B F0:Nat->Prop}{w0:World}{F:Nat->Prop}{own:Nat->Own}{fp fs:Nat->List Nat}{n:Nat}{t:List (Nat×AV)}{os:Sto}{a:Act}{w:World}(h:cD L B F0 w0 F own fp fs ⟨n,t,os⟩ a w)
  {i:Nat} {f1 fx f3 fx':List Nat} (hfp:fp i=f1++(fx++f3)) {w':World} {F':Nat->Prop} {own':Nat->Own} (hk:Kp (fun b=>b<w.heap.size/\b ∉ fx) w w') (hF:∀ b,F b->F' b) (hfl:∀ b,F' b->own' b=.none/\b<w'.heap.size/\(F0 b\/¬ B b))
  (hol:∀ b,own' b≠.none->¬ B b/\b<w'.heap.size) (hsame:∀ b,b ∉ fx->own b≠.none->own' b=own b) (hn':fx'.Nodup) (ho':∀ b,b∈fx'->own' b=.slot i/\¬ (b<w.heap.size/\b ∉ fx))
  {z res:AV} {v:Value} {d:Option Nat} (hd:cN n d=true) (hz:Rep L F' w' z (a.tmps.getD i undef) (f1++(fx'++f3))) (hres:Rep L F' w' res v []):Den L B F0 w0 ⟨n,put ((i,z)::t) d res,os⟩ (a.put d v) w':=by
 have hsz:=hk.size
 have cl:Ext (fun b=>b<w.heap.size/\b ∉ fx) w w':=⟨hk.size,hk.block,hk.shape⟩
 have lj:∀ b,b∈fx->own b=.slot i:=fun b hb=>h.so i b (by rw [hfp];simp [hb])
 have hFS:∀ b,F b->F' b/\(b<w.heap.size/\b ∉ fx):=fun b hb=>⟨hF b hb,(h.fl b hb).2.1,fun hm=>by have:=lj b hm;rw [(h.fl b hb).1] at this;cases this⟩
 have hB:∀ b,B b->b<w.heap.size/\b ∉ fx:=fun b hb=>⟨h.hB b hb,fun hm=>(h.ol b (by rw [lj b hm];simp)).1 hb⟩
 have hnd:=h.sn i
 rw [hfp,List.nodup_append] at hnd
 obtain ⟨hn1,hn2,hn3⟩:=hnd
 rw [List.nodup_append] at hn2
 obtain ⟨hnx,hn4,hn5⟩:=hn2
 have hin:∀ b,b∈f1\/b∈f3->own b=.slot i/\b ∉ fx:=fun b hb=>by
  rcases hb with hb|hb
  ·exact ⟨h.so i b (by rw [hfp];simp [hb]),fun hm=>hn3 b hb b (by simp [hm]) rfl⟩
  ·exact ⟨h.so i b (by rw [hfp];simp [hb]),fun hm=>hn5 b hm b hb rfl⟩
 have EH:∀ b,b∈f1\/b∈f3->b ∉ fx':=fun b hb hm=>(ho' b hm).2 ⟨(h.ol b (by rw [(hin b hb).1];simp)).2,(hin b hb).2⟩
 refine ⟨F',own',fun j=>if d=some j then [] else if j=i then f1++(fx'++f3) else fp j,fs,{ below:=h.below.trans (hk.mono hB),hB:=fun b hb=>Nat.lt_of_lt_of_le (h.hB b hb) hsz,tb:=h.tb,f0:=fun b hb=>hF b (h.f0 b hb),fl:=hfl,ol:=hol,defers:=?_,size:=?_,slots:=?_,sn:=?_,so:=?_,obj:=?_ }⟩
 ·have:=h.defers;cases d<;>simpa [Act.put] using this
 ·have:=h.size;cases d<;>simpa [Act.put] using this
 ·intro j
  simp only [kV,fP]
  rw [iF a d v j (by rw [h.size];exact hd)]
  by_cases e:d=some j
  ·simp only [e,if_true];exact hres
  ·simp only [if_neg e]
   by_cases e2:i=j
   ·subst e2;simp only [if_true];exact hz
   ·have e2':¬ j=i:=fun h=>e2 h.symm
    simp only [if_neg e2,if_neg e2']
    refine Rep.ext cl hFS (fun b hb=>⟨(h.ig hb).2,fun hm=>?_⟩) (h.slots j)
    have e3:=lj b hm
    rw [h.so j b hb] at e3
    cases e3;exact e2 rfl
 ·intro j
  split
  ·simp
  ·split
   ·rw [List.nodup_append]
    refine ⟨hn1,?_,fun b hb b' hb' e=>?_⟩
    ·rw [List.nodup_append]
     exact ⟨hn',hn4,fun b hb b' hb' e=>EH b' (.inr hb') (e ▸ hb)⟩
    ·subst e
     rcases List.mem_append.1 hb' with hb'|hb'
     ·exact EH b (.inl hb) hb'
     ·exact hn3 b hb b (by simp [hb']) rfl
   ·exact h.sn j
 ·intro j b hb
  by_cases e:d=some j
  ·rw [if_pos e] at hb;simp at hb
  ·rw [if_neg e] at hb
   by_cases e2:j=i
   ·subst e2
    rw [if_pos rfl] at hb
    rcases List.mem_append.1 hb with hb|hb
    ·rw [hsame b (hin b (.inl hb)).2 (by rw [(hin b (.inl hb)).1];simp)];exact (hin b (.inl hb)).1
    ·rcases List.mem_append.1 hb with hb|hb
     ·exact (ho' b hb).1
     ·rw [hsame b (hin b (.inr hb)).2 (by rw [(hin b (.inr hb)).1];simp)];exact (hin b (.inr hb)).1
   ·rw [if_neg e2] at hb
    have hj:=h.so j b hb
    have:b ∉ fx:=fun hm=>by have:=lj b hm;rw [hj] at this;cases this;exact e2 rfl
    rw [hsame b this (by rw [hj];simp)];exact hj
 ·intro b cells hO
  obtain ⟨g1,g2,g3,c,Ty,vals,rest,g4,g5,g6⟩:=h.obj b cells hO
  have hb:b ∉ fx:=fun hm=>by have:=lj b hm;rw [g1] at this;cases this
  have hkk:∀ k,k∈fs b->k ∉ fx:=fun k hk hm=>by have:=lj k hm;rw [g3 k hk] at this;cases this
  refine ⟨by rw [hsame b hb (by rw [g1];simp)];exact g1,g2,fun k hk=>by rw [hsame k (hkk k hk) (by rw [g3 k hk];simp)];exact g3 k hk,c,Ty,vals,rest,?_,g5,?_⟩
  ·rw [hk.block b ⟨(h.ol b (by rw [g1];simp)).2,hb⟩];exact g4
  ·exact aq.ext cl hFS (fun k hk=>⟨(h.ol k (by rw [g3 k hk];simp)).2,hkk k hk⟩) g6
section
variable {o : Oper} {n : Nat} {t : List (Nat × AV)} {os : Sto} {y a0 : Operand} {xs : List Operand} {ts : Array TypeId} {caps : List AV} {K : AS -> Prop}
theorem O0{i:Nat}(ho:o.op=.call ⟨.value y,(.tmp i::xs).toArray,ts⟩)(hd:cN n o.dst=true)(hy:fnA (ev t y)=some (f,caps))(hcn:AV.bL caps=true)(he:enters P f=true)
  (hT:T t i=jZ g x) (hn:AV.bL (xs.map (ev t))=true) (hC:InC L P f g x x' (xs.map (ev t)++caps) res) (hK:K ⟨n,put ((i,jZ g x')::t) o.dst res,os⟩):OpW L P o ⟨n,t,os⟩ K:=by
 intro B F0 w0 a w next Q cw bI
 obtain ⟨F,own,fp,fs,h⟩:=cw
 obtain ⟨cvs,hcr,hex⟩:=mS (P:=P) (s:=⟨n,t,os⟩) h ho hy hcn he
 have hrest:=aq.join (aq.rG h xs hn) hcr
 rw [List.append_nil] at hrest
 have hr:=h.slots i
 simp only at hr
 rw [hT] at hr
 obtain ⟨vs,hvs,hv⟩:=sL hC.2.1 hr
 unfold Oper.wp
 rw [hex]
 simp only [List.toList_toArray,List.map_cons,List.cons_append]
 have e0:a.eval (.tmp i)=mkv g vs:=hv
 rw [e0]
 refine (yo hC h hvs (h.sn i) (fun b hb=>h.so i b hb) (by simp) hrest).mono ?_
 rintro e w' ⟨v,F',own',fx',rfl,h1,h2,h3,h4,h5,h6,h7,h8,h9⟩
 refine bI _ _ _ hK ?_
 refine E5 h (i:=i) (f1:=[]) (f3:=[]) (fx:=fp i) (fx':=fx') (by simp) h1 h2 h3 h4 h5 h8 h9 hd ?_ h6
 rw [hv]
 simp only [List.nil_append,List.append_nil]
 exact Fs (fun e=>by rw [hC.1];exact hC.2.1 e) h7
theorem OY{i:Nat}{pre px post:List AV}(ho:o.op=.call ⟨.value y,(a0::xs).toArray,ts⟩)(hd:cN n o.dst=true)(hy:fnA (ev t y)=some (f,caps))(hcn:AV.bL caps=true)(he:enters P f=true)
  (hT:T t i=.agg (pre++(px++post))) (ha:ev t a0=jZ g (fC px)) (hdt:ny (fC px)=true) (hn:AV.bL (xs.map (ev t))=true) (hC:InC L P f g (jl px) x' (xs.map (ev t)++caps) res)
  (hK:K ⟨n,put ((i,.agg (pre++(jT px x'++post)))::t) o.dst res,os⟩):OpW L P o ⟨n,t,os⟩ K:=by
 intro B F0 w0 a w next Q cw bI
 obtain ⟨F,own,fp,fs,h⟩:=cw
 obtain ⟨cvs,hcr,hex⟩:=mS (P:=P) (s:=⟨n,t,os⟩) h ho hy hcn he
 have hrest:=aq.join (aq.rG h xs hn) hcr
 rw [List.append_nil] at hrest
 have hr:=h.slots i
 simp only at hr
 rw [hT] at hr
 simp only [Rep] at hr
 obtain ⟨Zy,hval,hl⟩:=hr
 obtain ⟨v1,v23,f1,f23,rfl,hfp,r1,r23⟩:=hl.split
 obtain ⟨vs,v3,fx,f3,rfl,rfl,r2,r3⟩:=r23.split
 have hlen:g=false->(fC px).length=1:=fun e=>by rw [n9,<- qV];exact hC.2.1 e
 have hra:=h.ev a0
 simp only at hra
 rw [ha] at hra
 obtain ⟨vs',EB,hv'⟩:=sL hlen hra
 have e0:vs'=vs:=aq.yD hdt r2 EB
 subst e0
 unfold Oper.wp
 rw [hex]
 simp only [List.toList_toArray,List.map_cons,List.cons_append]
 rw [hv']
 have hnd:=h.sn i
 rw [hfp,List.nodup_append] at hnd
 have hnx:=(List.nodup_append.1 hnd.2.1).1
 refine (yo hC h r2.unp hnx (fun b hb=>h.so i b (by rw [hfp];simp [hb])) (by simp) hrest).mono ?_
 rintro e w' ⟨v,F',own',fx',rfl,h1,h2,h3,h4,h5,h6,h7,h8,h9⟩
 refine bI _ _ _ hK ?_
 refine E5 h (i:=i) (f1:=f1) (f3:=f3) (fx:=fx) (fx':=fx') hfp h1 h2 h3 h4 h5 h8 h9 hd ?_ h6
 have cl:Ext (fun b=>b<w.heap.size/\b ∉ fx) w w':=⟨h1.size,h1.block,h1.shape⟩
 have lj:∀ b,b∈fx->own b=.slot i:=fun b hb=>h.so i b (by rw [hfp];simp [hb])
 have hFS:∀ b,F b->F' b/\(b<w.heap.size/\b ∉ fx):=fun b hb=>⟨h2 b hb,(h.fl b hb).2.1,fun hm=>by have:=lj b hm;rw [(h.fl b hb).1] at this;cases this⟩
 rw [hval]
 simp only [Rep]
 refine ⟨_,rfl,?_⟩
 refine aq.join (aq.ext cl hFS (fun b hb=>?_) r1) (aq.join (aq.nX r2 h7) (aq.ext cl hFS (fun b hb=>?_) r3))
 ·exact ⟨(h.ol b (by rw [h.so i b (by rw [hfp];simp [hb])];simp)).2,fun hm=>hnd.2.2 b hb b (by simp [hm]) rfl⟩
 ·exact ⟨(h.ol b (by rw [h.so i b (by rw [hfp];simp [hb])];simp)).2,fun hm=>(List.nodup_append.1 hnd.2.1).2.2 b hm b hb rfl⟩
theorem OZ{b0:Nat}{pre px post:List AV}(ho:o.op=.call ⟨.value y,(a0::xs).toArray,ts⟩)(hd:cN n o.dst=true)(hy:fnA (ev t y)=some (f,caps))(hcn:AV.bL caps=true)(he:enters P f=true)
  (hO:O os b0=some (pre++(px++post))) (ha:ev t a0=jZ g (fC px)) (hdt:ny (fC px)=true) (hn:AV.bL (xs.map (ev t))=true) (hC:InC L P f g (jl px) x' (xs.map (ev t)++caps) res)
  (hK:K ⟨n,put t o.dst res,(b0,some (pre++(jT px x'++post)))::os⟩):OpW L P o ⟨n,t,os⟩ K:=by
 intro B F0 w0 a w next Q cw bI
 obtain ⟨F,own,fp,fs,h⟩:=cw
 obtain ⟨cvs,hcr,hex⟩:=mS (P:=P) (s:=⟨n,t,os⟩) h ho hy hcn he
 have hrest:=aq.join (aq.rG h xs hn) hcr
 rw [List.append_nil] at hrest
 obtain ⟨hkey,iO,dW,c,Ty,vals,rst,hc,hcl,hl⟩:=h.obj b0 _ hO
 obtain ⟨v1,v23,f1,f23,rfl,hfp,r1,r23⟩:=hl.split
 obtain ⟨vs,v3,fx,f3,rfl,rfl,r2,r3⟩:=r23.split
 have hlen:g=false->(fC px).length=1:=fun e=>by rw [n9,<- qV];exact hC.2.1 e
 have hra:=h.ev a0
 simp only at hra
 rw [ha] at hra
 obtain ⟨vs',EB,hv'⟩:=sL hlen hra
 have e0:vs'=vs:=aq.yD hdt r2 EB
 subst e0
 unfold Oper.wp
 rw [hex]
 simp only [List.toList_toArray,List.map_cons,List.cons_append]
 rw [hv']
 have hnd:=iO
 rw [hfp,List.nodup_append] at hnd
 obtain ⟨hn1,hn2,hn3⟩:=hnd
 rw [List.nodup_append] at hn2
 obtain ⟨hnx,hn4,hn5⟩:=hn2
 have lj:∀ b,b∈fx->own b=.obj b0:=fun b hb=>dW b (by rw [hfp];simp [hb])
 refine (yo hC h r2.unp hnx lj (by simp) hrest).mono ?_
 rintro e w' ⟨v,F',own',fx',rfl,h1,h2,h3,h4,h5,h6,h7,h8,h9⟩
 refine bI _ _ _ hK ?_
 have hsz:=h1.size
 have cl:Ext (fun b=>b<w.heap.size/\b ∉ fx) w w':=⟨h1.size,h1.block,h1.shape⟩
 have hFS:∀ b,F b->F' b/\(b<w.heap.size/\b ∉ fx):=fun b hb=>⟨h2 b hb,(h.fl b hb).2.1,fun hm=>by have:=lj b hm;rw [(h.fl b hb).1] at this;cases this⟩
 have hB:∀ b,B b->b<w.heap.size/\b ∉ fx:=fun b hb=>⟨h.hB b hb,fun hm=>(h.ol b (by rw [lj b hm];simp)).1 hb⟩
 have hin:∀ b,b∈f1\/b∈f3->own b=.obj b0/\b ∉ fx:=fun b hb=>by
  rcases hb with hb|hb
  ·exact ⟨dW b (by rw [hfp];simp [hb]),fun hm=>hn3 b hb b (by simp [hm]) rfl⟩
  ·exact ⟨dW b (by rw [hfp];simp [hb]),fun hm=>hn5 b hm b hb rfl⟩
 have EH:∀ b,b∈f1\/b∈f3->b ∉ fx':=fun b hb hm=>(h9 b hm).2 ⟨(h.ol b (by rw [(hin b hb).1];simp)).2,(hin b hb).2⟩
 have hb0:b0 ∉ fx:=fun hm=>by have:=lj b0 hm;rw [hkey] at this;cases this
 refine ⟨F',own',fun j=>if o.dst=some j then [] else fp j,fun q=>if q=b0 then f1++(fx'++f3) else fs q,{ below:=h.below.trans (h1.mono hB),hB:=fun b hb=>Nat.lt_of_lt_of_le (h.hB b hb) hsz,tb:=h.tb,f0:=fun b hb=>h2 b (h.f0 b hb),fl:=h3,ol:=h4,defers:=?_,size:=?_,slots:=?_,sn:=?_,so:=?_,obj:=?_ }⟩
 ·have:=h.defers;cases o.dst<;>simpa [Act.put] using this
 ·have:=h.size;cases o.dst<;>simpa [Act.put] using this
 ·intro j
  simp only [kV]
  rw [iF a o.dst v j (by rw [h.size];exact hd)]
  by_cases e:o.dst=some j
  ·simp only [e,if_true];exact h6
  ·simp only [if_neg e]
   refine Rep.ext cl hFS (fun b hb=>⟨(h.ig hb).2,fun hm=>?_⟩) (h.slots j)
   have e3:=lj b hm
   rw [h.so j b hb] at e3
   cases e3
 ·intro j
  split
  ·simp
  ·exact h.sn j
 ·intro j b hb
  by_cases e:o.dst=some j
  ·rw [if_pos e] at hb;simp at hb
  ·rw [if_neg e] at hb
   have hj:=h.so j b hb
   have:b ∉ fx:=fun hm=>by have:=lj b hm;rw [hj] at this;cases this
   rw [h5 b this (by rw [hj];simp)];exact hj
 ·intro b cells hOb
  simp only [O] at hOb
  by_cases e:b0=b
  ·subst e
   rw [if_pos rfl] at hOb;cases hOb
   simp only [if_true]
   refine ⟨by rw [h5 b0 hb0 (by rw [hkey];simp)];exact hkey,?_,fun k hk=>?_,c,Ty,_,rst,?_,hcl,?_⟩
   ·rw [List.nodup_append]
    refine ⟨hn1,?_,fun b hb b' hb' e=>?_⟩
    ·rw [List.nodup_append]
     exact ⟨h8,hn4,fun b hb b' hb' e=>EH b' (.inr hb') (e ▸ hb)⟩
    ·subst e
     rcases List.mem_append.1 hb' with hb'|hb'
     ·exact EH b (.inl hb) hb'
     ·exact hn3 b hb b (by simp [hb']) rfl
   ·rcases List.mem_append.1 hk with hb|hb
    ·rw [h5 k (hin k (.inl hb)).2 (by rw [(hin k (.inl hb)).1];simp)];exact (hin k (.inl hb)).1
    ·rcases List.mem_append.1 hb with hb|hb
     ·exact (h9 k hb).1
     ·rw [h5 k (hin k (.inr hb)).2 (by rw [(hin k (.inr hb)).1];simp)];exact (hin k (.inr hb)).1
   ·rw [h1.block b0 ⟨(h.ol b0 (by rw [hkey];simp)).2,hb0⟩];exact hc
   ·refine aq.join (aq.ext cl hFS (fun b hb=>?_) r1) (aq.join (aq.nX r2 h7) (aq.ext cl hFS (fun b hb=>?_) r3))
    ·exact ⟨(h.ol b (by rw [(hin b (.inl hb)).1];simp)).2,(hin b (.inl hb)).2⟩
    ·exact ⟨(h.ol b (by rw [(hin b (.inr hb)).1];simp)).2,(hin b (.inr hb)).2⟩
  ·rw [if_neg e] at hOb
   have e':¬ b=b0:=fun h=>e h.symm
   simp only [if_neg e']
   obtain ⟨g1,g2,g3,c',Ty',kM,Tu,g4,g5,g6⟩:=h.obj b cells hOb
   have hb:b ∉ fx:=fun hm=>by have:=lj b hm;rw [g1] at this;cases this
   have hkk:∀ k,k∈fs b->k ∉ fx:=fun k hk hm=>by have:=lj k hm;rw [g3 k hk] at this;cases this;exact e rfl
   refine ⟨by rw [h5 b hb (by rw [g1];simp)];exact g1,g2,fun k hk=>by rw [h5 k (hkk k hk) (by rw [g3 k hk];simp)];exact g3 k hk,c',Ty',kM,Tu,?_,g5,?_⟩
   ·rw [h1.block b ⟨(h.ol b (by rw [g1];simp)).2,hb⟩];exact g4
   ·exact aq.ext cl hFS (fun k hk=>⟨(h.ol k (by rw [g3 k hk];simp)).2,hkk k hk⟩) g6
end
end
end
section
mutual
def AV.keys:AV->List Nat
 | .arr b _ _ _=>[b]
 | .ptr b _=>[b]
 | .agg l=>AV.jw l
 | .tup l=>AV.jw l
 | .fn _ l=>AV.jw l
 | .cnd _ x=>x.keys
 | _=>[]
def AV.jw:List AV->List Nat
 | []=>[]
 | x::xs=>x.keys++AV.jw xs
end
def mh(os:Sto):List Nat->Sto
 | []=>[]
 | b::bs=>(b,O os b)::mh os bs
def zS:Sto->List Nat
 | []=>[]
 | (_,some cells)::o=>AV.jw cells++zS o
 | (_,none)::o=>zS o
def uE(os:Sto)(args:List AV):Sto:=mh os (AV.jw args)++mh os (zS (mh os (AV.jw args)))
theorem uH(os:Sto):∀ (a b:List Nat),mh os (a++b)=mh os a++mh os b
 | [],_=>rfl
 | x::a,b=>by simp only [List.cons_append,mh,uH os a b]
theorem Lp{os:Sto}{b:Nat}{cells:List AV}:∀ {bs:List Nat},O (mh os bs) b=some cells->O os b=some cells
 | [],h=>by simp [mh,O] at h
 | x::bs,h=>by
  simp only [mh,O] at h
  split at h
  ·rename_i e;subst e;exact h
  ·exact Lp h
theorem P7{os:Sto}{args:List AV}{b:Nat}{cells:List AV}(h:O (uE os args) b=some cells):O os b=some cells:=by
 rw [uE,<- uH] at h;exact Lp h
def fY:Sto->Nat->Option (List AV)->Sto
 | [],_,_=>[]
 | p::o,b,c=>if p.1=b then (b,c)::o else p::fY o b c
theorem v7(b:Nat)(c c':Option (List AV))(o:Sto):fY ((b,c')::o) b c=(b,c)::o:=by simp [fY]
theorem Oy{b b':Nat}(h:b'≠b)(c c':Option (List AV))(o:Sto):fY ((b',c')::o) b c=(b',c')::fY o b c:=by simp [fY,h]
theorem Jd:∀ (o:Sto) (b:Nat) (c:Option (List AV)) (q:Nat),O (fY o b c) q=if q=b/\b∈o.map Prod.fst then c else O o q
 | [],b,c,q=>by simp [fY,O]
 | p::o,b,c,q=>by
  simp only [fY]
  by_cases h:p.1=b
  ·rw [if_pos h]
   by_cases e:b=q
   ·subst e;simp [O,h]
   ·have e':¬ q=b:=fun h=>e h.symm
    have:¬ p.1=q:=fun h'=>e (h.symm.trans h')
    simp [O,e,e',this]
  ·rw [if_neg h]
   by_cases e:p.1=q
   ·have:¬ q=b:=fun h'=>h (e.trans h')
    simp [O,e,this]
   ·have h':¬ b=p.1:=fun e=>h e.symm
    simp only [O,if_neg e,Jd o b c q,List.map_cons,List.mem_cons,h',false_or]
def iw:Sto->Sto->Sto
 | o,[]=>o
 | o,p::o'=>fY (iw o o') p.1 p.2
theorem Dc:∀ (o:Sto) (b:Nat) (c:Option (List AV)),(fY o b c).map Prod.fst=o.map Prod.fst
 | [],_,_=>rfl
 | p::o,b,c=>by
  simp only [fY]
  split
  ·rename_i h;simp [h]
  ·simp [Dc o b c]
theorem zn:∀ (o o':Sto),(iw o o').map Prod.fst=o.map Prod.fst
 | _,[]=>rfl
 | o,p::o'=>by rw [iw,Dc,zn o o']
theorem HL:∀ (o o':Sto) (q:Nat),O (iw o o') q=if q∈o'.map Prod.fst/\q∈o.map Prod.fst then O o' q else O o q
 | o,[],q=>by simp [iw]
 | o,p::o',q=>by
  rw [iw,Jd,zn,HL o o' q]
  by_cases e:q=p.1
  ·subst e
   by_cases h:p.1∈o.map Prod.fst
   ·simp [h,O]
   ·simp only [h,and_false,if_false]
  ·have e':¬ p.1=q:=fun h=>e h.symm
   simp only [e,false_and,if_false,List.map_cons,List.mem_cons,false_or,O,if_neg e']
def pU:Sto->List (Option (List AV))->Sto
 | [],_=>[]
 | p::o,[]=>(p.1,none)::pU o []
 | p::o,c::cs=>(p.1,c)::pU o cs
theorem ud:∀ (o:Sto) (cs:List (Option (List AV))),(pU o cs).map Prod.fst=o.map Prod.fst
 | [],_=>rfl
 | p::o,[]=>by simp [pU,ud o []]
 | p::o,c::cs=>by simp [pU,ud o cs]
class Ctr(L:Nat->Nat)(P:Program)(f:FuncId)(os:Sto)(args:List AV)(res:outParam AV)(cs:outParam (List (Option (List AV))))(pre:outParam Prop):Prop where
 en:enters P f=true
 out:pre->jO L P f os args (fun r os'=>r=res/\os'=pU os cs)
theorem Ctr.lJ{L:Nat->Nat}{P:Program}{f:FuncId}{args:List AV}{res:AV}{pre:Prop}(he:enters P f=true)(h:pre->fM L P f args res):Ctr L P f [] args res [] pre :=
 ⟨he,fun hp=>jO.lJ (h hp)⟩
theorem Ctr.pure{L:Nat->Nat}{P:Program}{f:FuncId}{args:List AV}{res:AV}{cs:List (Option (List AV))}{pre:Prop}(h:Ctr L P f [] args res cs pre)(hp:pre):fM L P f args res :=
 fM.Q1 ((h.out hp).mono fun _ _ h=>h.1)
abbrev na:=oP
theorem D6(os:Sto):∀ l:List AV,mD os l (na l)
 | []=>.nil
 | x::xs=>by
  refine .cons ?_ (D6 os xs)
  cases h:x.df with
  | true=>exact .inl ⟨h,by simp⟩
  | false=>exact .inr (.inr (.inl (by simp)))
def FC(L:Nat->Nat)(P:Program)(f:FuncId)(sz:Nat)(l rest:List AV)(res:AV)(l':List AV):Prop :=
 (∀ b,jO L P f [(b,some (l.flatMap AV.cells))] (.arr b 0 l.length sz::rest) (fun r os'=>r=res/\os'=[(b,some (l'.flatMap AV.cells))])) /\
 (l=[]->fM L P f (.sl false sz []::rest) res/\l'=[])/\l'.length=l.length/\(∀ x,x∈l->x.elem sz=true)/\(∀ x,x∈l'->x.elem sz=true)
class fS(L:Nat->Nat)(P:Program)(f:FuncId)(sz:Nat)(l rest:List AV)(res:outParam AV)(l':outParam (List AV))(pre:outParam Prop):Prop where
 en:enters P f=true
 out:pre->FC L P f sz l rest res l'
def zV(t:List (Nat×AV)):List Operand->Option (Nat×Nat×List AV)
 | .tmp i::_=>match T t i with
  | .sl true sz l=>some (i,sz,l)
  | _=>none
 | _=>none
def nj(t:List (Nat×AV)):List Nat->List (Nat×AV)
 | []=>t
 | j::js=>(j,(T t j).frz)::nj t js
structure tU where
 t:List (Nat×AV)
 a0:Option Nat
 k:Nat->AV->AV->Prop
 kf:AV->Prop
 kb:Nat->Nat->List AV->AV->Prop
def nfO:Sto->Nat->Prop
 | [],_=>True
 | (b',some _)::o,b=>b'≠b/\nfO o b
 | (_,none)::_,_=>True
def H4:List Operand->Option Nat
 | .tmp i::_=>some i
 | _=>none
def eP(L:Nat->Nat)(P:Program)(os rs:Sto)(la:List AV)(bo:Option (Nat×Nat×List AV))(rest:List AV)(f:FuncId)(args:List AV)[K:Hd (AV->Sto->Prop)][KB:Hd (Nat->Nat->List AV->AV->Prop)][KX:Hd tU]:Prop :=
 enters P f=true/\((AV.bL args=true/\∃ Q,jO L P f rs args Q/\∀ res os',Q res os'->(os'.map Prod.fst=rs.map Prod.fst/\K.v res (iw os os'))\/(rs=[]/\∃ b cells,os'=[(b,some cells)]/\(nfO os b->K.v res ((b,some cells)::os)))) \/
  (∃ res,res.closed=true/\fM L P f la res/\K.v res os) \/
  (∃ la' res,mD os args la'/\res.closed=true/\fM L P f la' res/\K.v res os) \/
  (∃ i sz l,bo=some (i,sz,l)/\AV.bL rest=true/\∃ res l',FC L P f sz l rest res l'/\KB.v i sz l' res) \/
  (∃ g x x' res i,KX.v.a0=some i/\T KX.v.t i=jZ g x/\AV.bL rest=true/\InC L P f g x x' rest res/\KX.v.k i (jZ g x') res) \/
  (∃ g pre px post x' res i,args=jZ g (fC px)::rest/\T KX.v.t i=.agg (pre++(px++post))/\ny (fC px)=true/\AV.bL rest=true/\InC L P f g (jl px) x' rest res/\KX.v.k i (.agg (pre++(jT px x'++post))) res) \/
  (∃ g pre px post x' res b,args=jZ g (fC px)::rest/\O os b=some (pre++(px++post))/\ny (fC px)=true/\AV.bL rest=true/\InC L P f g (jl px) x' rest res/\K.v res (fY os b (some (pre++(jT px x'++post))))) \/
  (∃ res,fM L P f la res/\KX.v.kf res) \/
  (∃ x0 lar i sz l,la=x0::lar/\bo=some (i,sz,l)/\AV.bL lar=true/\∃ res l',FC L P f sz l lar res l'/\KX.v.kb i sz l' res))
class vS(L:Nat->Nat)(P:Program)(f:FuncId)(la:List AV)(res:outParam AV)(pre:outParam Prop):Prop where
 en:enters P f=true
 out:pre->fM L P f la res
class nF(L:Nat->Nat)(P:Program)(f:FuncId)(g:outParam Bool)(x rest:List AV)(res:outParam AV)(x':outParam (List AV))(pre:outParam Prop):Prop where
 en:enters P f=true
 out:pre->InC L P f g x x' rest res
section
variable {L : Nat -> Nat} {P : Program} {os rs : Sto} {la : List AV} {bo : Option (Nat × Nat × List AV)} {rest : List AV} {f : FuncId} {args : List AV} {K : AV -> Sto -> Prop} {KB : Nat -> Nat -> List AV -> AV -> Prop} {KX : tU}
theorem eP.ctr{res:AV}{cs:List (Option (List AV))}{pre:Prop}[h:Ctr L P f rs args res cs pre](hn:AV.bL args=true)(hp:pre)(hK:K res (iw os (pU rs cs))):eP L P os rs la bo rest f args (K:=⟨K⟩) (KB:=⟨KB⟩) (KX:=⟨KX⟩) :=
 ⟨h.en,.inl ⟨hn,_,h.out hp,by rintro _ _ ⟨rfl,rfl⟩;exact .inl ⟨ud _ _,hK⟩⟩⟩
theorem eP.gen{Q:AV->Sto->Prop}(he:enters P f=true)(hn:AV.bL args=true)(h:jO L P f rs args Q)(hK:∀ res os',Q res os'->os'.map Prod.fst=rs.map Prod.fst/\K res (iw os os')):eP L P os rs la bo rest f args (K:=⟨K⟩) (KB:=⟨KB⟩) (KX:=⟨KX⟩) :=
 ⟨he,.inl ⟨hn,_,h,fun res os' hq=>.inl (hK res os' hq)⟩⟩
theorem eP.low{res:AV}{cs:List (Option (List AV))}{pre:Prop}[h:Ctr L P f [] la res cs pre](hc:res.closed=true)(hp:pre)(hK:K res os):eP L P os rs la bo rest f args (K:=⟨K⟩) (KB:=⟨KB⟩) (KX:=⟨KX⟩) :=
 ⟨h.en,.inr (.inl ⟨_,hc,h.pure hp,hK⟩)⟩
theorem mD.low{x:AV}{xs ys:List AV}(h:mD os xs ys):mD os (x::xs) ((bif x.df then x else x.frz)::ys):=by
 refine .cons ?_ h
 cases h:x.df with
 | true=>exact .inl ⟨h,by simp⟩
 | false=>exact .inr (.inr (.inl (by simp)))
theorem mD.pin{x:AV}{xs ys:List AV}(g:Bool)(b:Nat)(pr px post:List AV)(hO:O os b=some (pr++(px++post)))(hd:ny (fC px)=true)(hg:g=false->px.length=1)(hx:x=jZ g (fC px))(h:mD os xs ys):mD os (x::xs) (jZ g (AV.bZ px)::ys) :=
 .cons (.inr (.inr (.inr ⟨g,b,pr,px,post,hO,hd,hg,hx,rfl⟩))) h
theorem eP.inO{g:Bool}{x':List AV}{res:AV}{pre:Prop}(b:Nat)(pr px post:List AV)[h:nF L P f g (jl px) rest res x' pre](ha:args=jZ g (fC px)::rest)(hT:O os b=some (pr++(px++post)))(hdt:ny (fC px)=true)(hn:AV.bL rest=true)(hp:pre)(hK:K res (fY os b (some (pr++(jT px x'++post))))):eP L P os rs la bo rest f args (K:=⟨K⟩) (KB:=⟨KB⟩) (KX:=⟨KX⟩) :=
 ⟨h.en,.inr (.inr (.inr (.inr (.inr (.inr (.inl ⟨g,pr,px,post,x',res,b,ha,hT,hdt,hn,h.out hp,hK⟩))))))⟩
theorem eP.fz{res:AV}{pre:Prop}[h:vS L P f la res pre](hp:pre)(hK:KX.kf res):eP L P os rs la bo rest f args (K:=⟨K⟩) (KB:=⟨KB⟩) (KX:=⟨KX⟩) :=
 ⟨h.en,.inr (.inr (.inr (.inr (.inr (.inr (.inr (.inl ⟨res,h.out hp,hK⟩)))))))⟩
theorem eP.Xu{x0:AV}{lar:List AV}{i sz:Nat}{l:List AV}{res:AV}{l':List AV}{pre:Prop}[h:fS L P f sz l lar res l' pre](hn:AV.bL lar=true)(hp:pre)(hK:KX.kb i sz l' res):eP L P os rs (x0::lar) (some (i,sz,l)) rest f args (K:=⟨K⟩) (KB:=⟨KB⟩) (KX:=⟨KX⟩) :=
 ⟨h.en,.inr (.inr (.inr (.inr (.inr (.inr (.inr (.inr ⟨x0,lar,i,sz,l,rfl,rfl,hn,_,_,h.out hp,hK⟩)))))))⟩
end
theorem gq.nf{o:Sto}{b:Nat}(h:gq o b):nfO o b:=by
 induction o with
 | nil=>trivial
 | cons p o ih =>
  obtain ⟨b',c⟩:=p
  cases c with
  | none=>trivial
  | some c =>
   have h1:b'≠b:=h b' c (by simp [O])
   refine ⟨h1,ih ?_⟩
   intro q cs hq e
   by_cases e2:b'=q
   ·exact h1 (e2.trans e)
   ·exact h q cs (by simp only [O,if_neg e2];exact hq) e
def rmO:Sto->Nat->Sto
 | [],_=>[]
 | p::o,b=>if p.1=b then rmO o b else p::rmO o b
theorem QM(b:Nat)(c:Option (List AV))(o:Sto):rmO ((b,c)::o) b=rmO o b:=by simp [rmO]
theorem QL{b b':Nat}(h:b'≠b)(c:Option (List AV))(o:Sto):rmO ((b',c)::o) b=(b',c)::rmO o b:=by simp [rmO,h]
theorem OP(b:Nat):rmO [] b=[]:=rfl
theorem Xy(o:Sto)(b q:Nat)(cs:List AV)(h:O (rmO o b) q=some cs):q≠b/\O o q=some cs:=by
 induction o with
 | nil=>simp [rmO,O] at h
 | cons p o ih =>
  simp only [rmO] at h
  by_cases e:p.1=b
  ·rw [if_pos e] at h
   have:=ih h
   refine ⟨this.1,?_⟩
   have:¬ p.1=q:=fun e'=>this.1 (e'.symm.trans e)
   simp only [O,if_neg this];exact (ih h).2
  ·rw [if_neg e] at h
   by_cases e2:p.1=q
   ·simp only [O,if_pos e2] at h ⊢
    exact ⟨fun e3=>e (e2.trans e3),h⟩
   ·simp only [O,if_neg e2] at h ⊢
    exact ih h
def CZ(L:Nat->Nat)(P:Program)(os:Sto)(t:List (Nat×AV))(d:Option Nat)(x y:Operand)(t1 u:TypeId)(K:List (Nat×AV)->Sto->Prop):Prop :=
 match elm P t1 with
 | none=>False
 | some (e,sz,bytes)=>(C4 P e=some sz/\(knd P u).isSome=true)/\(match x,ev t x with
  | .tmp i,.sl true z l=>match oJ sz (ev t y) with
   | none=>False
   | some l'=>(z=sz/\zk y i=true/\l.all (AV.elem sz)=true/\l'.all (AV.elem sz)=true/\(l'.flatMap AV.cells).all AV.one=true) /\
     ((l.length+l'.length<=L sz/\(l.length+l'.length) * bytes<=140737488355328/\l.length+l'.length<=9223372036854775807) /\
     K (put (bW t (kills t [.tmp i,y])) d (.sl true sz (l++l'))) os)
  | _,.v (.slice none 0 0)=>match oJ sz (ev t y) with
   | none=>False
   | some l'=>(l'.all (AV.elem sz)=true/\(l'.flatMap AV.cells).all AV.one=true) /\
     ((l'.length<=L sz/\l'.length * bytes<=140737488355328/\l'.length<=9223372036854775807) /\
     K (put (bW t (kills t [y])) d (.sl true sz l')) os)
  | _,.arr b 0 len z=>match O os b,oJ sz (ev t y) with
   | some cells,some l'=>(z=sz/\cells.length=len * sz/\l'.all (AV.elem sz)=true/\(l'.flatMap AV.cells).all AV.one=true) /\
     ((len+l'.length<=L sz/\(len+l'.length) * bytes<=140737488355328/\len+l'.length<=9223372036854775807) /\
     ∀ b',nfO (rmO os b) b'->K (put (bW t (kills t [y])) d (.arr b' 0 (len+l'.length) sz)) ((b',some (cells++l'.flatMap AV.cells))::rmO os b))
   | _,_=>False
  | _,_=>False)
def Qp(os:Sto)(sz:Nat)(x:AV):Option (Nat×List AV):=gP os sz x
theorem OJ(os:Sto)(sz:Nat)(o:Bool)(z:Nat)(l:List AV):Qp os sz (.sl o z l)=bif z == sz && l.all (AV.elem sz) then some (l.length,l.flatMap AV.cells) else none:=rfl
def CX(L:Nat->Nat)(P:Program)(os:Sto)(t:List (Nat×AV))(d:Option Nat)(x y:Operand)(t1 u:TypeId)(K:List (Nat×AV)->Sto->Prop):Prop :=
 match elm P t1,ev t x with
 | some (_,sz,_),.arr b off len z=>match O os b,Qp os sz (ev t y) with
  | some cells,some (m,cs)=>(z=sz/\(knd P u).isSome=true/\cs.all AV.one=true/\AV.bL cs=true)/\(m=len/\off+m * sz<=cells.length/\K (put t d (.v (.int .i64 m))) (fY os b (some (cells.take off++cs++cells.drop (off+m * sz)))))
  | _,_=>False
 | _,_=>False
def pI(L:Nat->Nat)(P:Program)(os:Sto)(t:List (Nat×AV))(d:Option Nat)(ty':TypeId)(x:Operand)[K:Hd (List (Nat×AV)->Sto->Prop)]:Prop :=
 ovc L P os (ev t) true (.box ty' x) (fun x C=>K.v (put (bW t C) d x) os) \/
 (match ty P ty' with
  | some (_,m)=>(ev t x).elem m=true/\∀ b,nfO os b->K.v (put (bW t (kills t [x])) d (.ptr b 0)) ((b,some (ev t x).cells)::os)
  | none=>False)
theorem pI.vp{L:Nat->Nat}{P:Program}{os:Sto}{t:List (Nat×AV)}{d:Option Nat}{ty':TypeId}{x:Operand}{K:List (Nat×AV)->Sto->Prop}
  (h:ovc L P os (ev t) true (.box ty' x) (fun x C=>K (put (bW t C) d x) os)):pI L P os t d ty' x (K:=⟨K⟩):=.inl h
theorem pI.obj{L:Nat->Nat}{P:Program}{os:Sto}{t:List (Nat×AV)}{d:Option Nat}{ty':TypeId}{x:Operand}{K:List (Nat×AV)->Sto->Prop}
  (h:match ty P ty' with
   | some (_,m)=>(ev t x).elem m=true/\∀ b,nfO os b->K (put (bW t (kills t [x])) d (.ptr b 0)) ((b,some (ev t x).cells)::os)
   | none=>False):pI L P os t d ty' x (K:=⟨K⟩):=.inr h
def bxN:Operand->Option Nat->Bool
 | .tmp i,some d=>Nat.ble 4 i && Nat.beq (i+1) d
 | _,_=>false
def nvc(L:Nat->Nat)(P:Program)(os:Sto)(t:List (Nat×AV))(d:Option Nat)(op:Op)(K:List (Nat×AV)->Sto->Prop):Prop :=
 match op with
 | .alloc ty'=>match zer P ty' with
  | some zs=>∀ b,nfO os b->K (put t d (.ptr b 0)) ((b,some (zs.map avz))::os)
  | none=>False
 | .store ty' ad x=>match d,ev t ad,ty P ty' with
  | none,.ptr b off,some (_,m)=>match O os b with
   | some cells=>((ev t x).elem m=true/\(ev t x).cells.all AV.one=true)/\(off+m<=cells.length/\K (bW t (kills t [x])) (fY os b (some (cells.take off++(ev t x).cells++cells.drop (off+m)))))
   | none=>False
  | _,_,_=>False
 | .load ty' x=>match ev t x with
  | .ptr b off=>match O os b,ty P ty' with
   | some cells,some (g,m)=>match val g m (cells.drop off) with
    | some y=>match y.df with
     | true=>K (put t d y) os
     | false=>match y.cpy.df with
      | true=>K (put t d y.cpy) os
      | false=>((g=false->m=1)/\off+m<=cells.length)/\K (put t d y) (fY os b (some (cells.take off++List.replicate m .dead++cells.drop (off+m))))
    | none=>False
   | _,_=>False
  | _=>ovc L P os (ev t) true op (fun x C=>K (put (bW t C) d x) os)
 | .extract x k=>match x,ev t x with
  | .tmp i,.tup l=>match l[k]? with
   | some y=>match y.df with
    | true=>K (put t d y) os
    | false=>K (put ((i,.tup (l.set k .dead))::t) d y) os
   | none=>False
  | _,_=>False
 | .makeSlice ty' x y=>match elm P ty',ev t x,ev t y with
  | some (e,sz,bytes),.v (.int _ m),.v (.int _ m')=>match zer P e with
   | some zs=>(zs.length=sz/\m'=m)/\((0<=m/\m.toNat<=L sz/\m.toNat * bytes<=140737488355328/\m.toNat<=9223372036854775807) /\
     ∀ b,nfO os b->K (put t d (.arr b 0 m.toNat sz)) ((b,some ((List.replicate m.toNat zs).flatten.map avz))::os))
   | none=>False
  | _,_,_=>False
 | .call c=>match c.callee,c.args.toList,c.argTypes.toList with
  | .value y,args,_=>match fnA (ev t y) with
   | some (f,caps)=>AV.bL caps=true/\eP L P os (uE os (args.map (ev t)++caps)) (na (args.map (ev t)++caps)) (zV t args) (args.tail.map (ev t)++caps) f (args.map (ev t)++caps) (K:=⟨fun res os'=>K (put t d res) os'⟩) (KB:=⟨fun i sz l' res=>K (put ((i,.sl true sz l')::t) d res) os⟩) (KX:=⟨⟨t,H4 args,fun i x res=>K (put ((i,x)::t) d res) os,fun res=>K (put (bW t (kills t args)) d res) os,fun i sz l' res=>q9 (kills t args.tail) i=false/\K (put ((i,.sl true sz l')::nj t (kills t args.tail)) d res) os⟩⟩)
   | none=>False
  | .builtin .append,[x,y],[t1,u]=>CZ L P os t d x y t1 u K
  | .builtin .copy,[x,y],[t1,u]=>CX L P os t d x y t1 u K
  | _,_,_=>ovc L P os (ev t) true op (fun x C=>K (put (bW t C) d x) os)
 | .box ty' x=>match bxN x d with
  | true=>match ty P ty' with
   | some (_,m)=>(ev t x).elem m=true/\∀ b,nfO os b->K (put (bW t (kills t [x])) d (.ptr b 0)) ((b,some (ev t x).cells)::os)
   | none=>False
  | false=>pI L P os t d ty' x (K:=⟨K⟩)
 | _=>ovc L P os (ev t) true op (fun x C=>K (put (bW t C) d x) os)
def AV.dd:AV->Bool
 | .dead=>true
 | _=>false
def CV:List AV->Bool
 | []=>false
 | x::xs=>x.dd || CV xs
def isE(t:List (Nat×AV)):Op->Bool
 | .move (.tmp j)=>!(T t j).df
 | .alloc _=>true
 | .store _ _ _=>true
 | .makeSlice _ _ _=>true
 | .call c=>match c.callee with
  | .builtin .append=>true
  | .builtin .copy=>true
  | .builtin .len=>CV (c.args.toList.map (ev t))
  | .value y=>!(AV.jw (c.args.toList.map (ev t))++(ev t y).keys).isEmpty || CV (c.args.toList.map (ev t))
  | _=>false
 | _=>false
def AV.unc:AV->AV
 | .cnd true x=>x
 | x=>x
def Af:List (Nat×AV)->List (Nat×AV)
 | []=>[]
 | p::t=>(p.1,p.2.unc)::Af t
def Gd(c:Bool)[p:Hd Prop]:Prop:=c=true->p.v
theorem GdT{p:Prop}:Gd true (p:=⟨p⟩)=p:=by simp [Gd]
theorem GdF{p:Prop}:Gd false (p:=⟨p⟩)=True:=by simp [Gd]
def alF:List (Nat×Nat)->Nat->Nat
 | [],j=>j
 | p::al,j=>bif Nat.beq p.1 j then p.2 else alF al j
def sbs(al:List (Nat×Nat)):Operand->Operand
 | .tmp j=>.tmp (alF al j)
 | x=>x
def kr:List (Nat×Nat)->Option Nat->List (Nat×Nat)
 | al,none=>al
 | [],some _=>[]
 | p::al,some d=>bif Nat.beq p.1 d || Nat.beq p.2 d then kr al (some d) else p::kr al (some d)
def kL(al:List (Nat×Nat)):Op->Op
 | .move x=>.move (sbs al x)
 | .assign x=>.assign (sbs al x)
 | .call c=>.call ⟨c.callee,(c.args.toList.map (sbs al)).toArray,c.argTypes⟩
 | .buildSlice t n ps=>.buildSlice t n (ps.toList.map fun p=>(p.1,sbs al p.2)).toArray
 | .build t ps=>.build t (ps.toList.map fun p=>(p.1,sbs al p.2)).toArray
 | .store t a x=>.store t a (sbs al x)
 | .indexAddr t x i=>.indexAddr t (sbs al x) i
 | .slice t x lo hi mx=>.slice t (sbs al x) lo hi mx
 | .field t x k=>.field t (sbs al x) k
 | .extract x k=>.extract (sbs al x) k
 | .box t x=>.box t (sbs al x)
 | .convert t u x=>.convert t u (sbs al x)
 | op=>op
def stp(L:Nat->Nat)(P:Program)(os:Sto)(al:List (Nat×Nat))(t:List (Nat×AV))(d:Option Nat)(op:Op)(K:List (Nat×Nat)->List (Nat×AV)->Sto->Prop):Prop :=
 match op,d with
 | .move (.tmp j),some d=>match (T t (alF al j)).df with
  | false=>Nat.beq d (alF al j)=false/\K ((d,alF al j)::kr al (some d)) ((d,.dead)::t) os
  | true=>K (kr al (some d)) ((d,T t (alF al j))::t) os
 | op,d=>nvc L P os t d (kL al op) (K (kr al d))
def AV.Ky:AV->Bool
 | .dead=>true
 | _=>false
def AV.NM:AV->Bool
 | .cnd g x=>x.Ky && !g
 | _=>false
def LI(t:List (Nat×AV)):List Nat->Bool
 | []=>false
 | i::xs=>(T t i).NM || LI t xs
def Wn(L:Nat->Nat)(P:Program)(ops:Array Oper)(n:Nat)(K:List (Nat×AV)->Sto->Prop):List Nat->List (Nat×Nat)->List (Nat×AV)->Sto->Prop
 | [],_,t,os=>K t os
 | i::l,al,t,os =>
  match ops[i]? with
  | none=>False
  | some o=>cN n o.dst=true/\(match o.guard with
   | none=>stp L P os al t o.dst o.op (fun al' t' os'=>Wn L P ops n K l al' t' os')
   | some (j,want)=>match (ops[j]?).bind (·.dst) with
    | none=>False
    | some d=>Nat.blt d n=true/\(match o3 (T t d) with
     | none=>False
     | some (G,g)=>match isE t o.op with
      | false=>match LI t (stO o.op) with
       | true=>(G && (g == want))=false/\Wn L P ops n K l (kr al o.dst) (put t o.dst (.cnd false .dead)) os
       | false=>Aq t (G && (g == want)) (stO o.op) /\
       ovc L P os (evK t (stO o.op)) (G && (g == want)) o.op (fun x C=>C=[]/\Wn L P ops n K l (kr al o.dst) (upd o (.cnd (G && (g == want)) x) [] t) os)
      | true=>Gd (G && (g == want)) (p:=⟨stp L P os al (Af t) o.dst o.op (fun al' t' os'=>Wn L P ops n K l al' t' os')⟩)/\Gd (!(G && (g == want))) (p:=⟨Wn L P ops n K l (kr al o.dst) (put t o.dst (.cnd false .dead)) os⟩)))
end
section
theorem Lq{o:Sto}{b:Nat}{cells:List AV}(h:O o b=some cells):b∈o.map Prod.fst:=Om h
theorem sx{o:Sto}{b:Nat}{cells new:List AV}(h:O o b=some cells)(q:Nat)(cs:List AV)(hq:O (fY o b (some new)) q=some cs):(q=b/\cs=new)\/(q≠b/\O o q=some cs):=by
 rw [Jd] at hq
 by_cases e:q=b
 ·subst e
  rw [if_pos ⟨rfl,Lq h⟩] at hq
  cases hq;exact .inl ⟨rfl,rfl⟩
 ·rw [if_neg (fun h=>e h.1)] at hq
  exact .inr ⟨e,hq⟩
theorem GR{P:Program}{u:TypeId}(h:(knd P u).isSome=true):(∃ e',P.underlying u=some (.slice e'))\/P.underlying u=some .string:=by
 cases hk:knd P u with
 | none=>rw [hk] at h;cases h
 | some b =>
  cases b with
  | true=>exact .inr (pN hk)
  | false=>exact .inl (uO hk)
section
variable {L : Nat -> Nat} {P : Program} {o : Oper} {n : Nat} {t : List (Nat × AV)} {os : Sto} {K : List (Nat × AV) -> Sto -> Prop}
theorem Imp.dY(i sz:Nat){Q:AS->Prop}(hT:T t i=.v (.slice none 0 0))(h:Q ⟨n,(i,.sl true sz [])::t,os⟩):Imp L ⟨n,t,os⟩ Q:=by
 intro B F0 w0 a w hd
 refine ⟨_,h,?_⟩
 obtain ⟨F,own,fp,fs,hd⟩:=hd
 refine ⟨F,own,fp,fs,{ hd with slots:=?_ }⟩
 intro j
 rw [fP]
 by_cases e:i=j
 ·subst e
  have:=hd.slots i
  simp only at this
  rw [hT] at this
  simp only [Rep] at this
  simp only [if_true,Rep]
  exact .inl ⟨.inl this.1,by trivial,this.2⟩
 ·simp only [if_neg e];exact hd.slots j
theorem F3{ty':TypeId}{zs:List Value}(hop:o.op=.alloc ty')(hd:cN n o.dst=true)(hz:zer P ty'=some zs)
  (h:∀ b,nfO os b->K (put t o.dst (.ptr b 0)) ((b,some (zs.map avz))::os)):OpW L P o ⟨n,t,os⟩ (fun s'=>s'.n=n/\K s'.t s'.o):=by
 intro B F0 w0 a w next Q cw bI
 have hfr:gq os w.heap.size:=by obtain ⟨F,own,fp,fs,hd'⟩:=cw;exact hd'.fresh
 obtain ⟨F,own,fp,fs,hD⟩:=cw
 obtain ⟨z,hzc,hzr⟩:=vW hz
 have hrun:(execOp a.eval o).run P w=.ok (.value (.pointer (some ⟨w.heap.size,0,none⟩))) (w.alloc (.cells z.cells ty')):=by
  simp [execOp,hop,Instr.alloc,hzr,newVar,newRow]
 unfold Oper.wp
 rw [hrun]
 refine bI ⟨n,put t o.dst (.ptr w.heap.size 0),(w.heap.size,some (zs.map avz))::os⟩ _ _ ⟨rfl,h w.heap.size hfr.nf⟩ ?_
 exact hD.renew [] [] w.heap.size (zs.map avz) [] o.dst hd ⟨rfl,rfl,rfl⟩ (Ext.alloc w _ []) (by simp) (.inr ⟨Nat.le_refl _,by simp⟩)
  ⟨z.cells,ty',zs,[],eX w _,by simp [hzc],aq.plain zs⟩ (by simp) (by simp) (by simp [Rep])
theorem Ck{ty':TypeId}{x:Operand}{sz:Nat}(hop:o.op=.box ty' x)(hd:cN n o.dst=true)(hx:(ev t x).elem sz=true)
  (hK:∀ b,nfO os b->K (put (bW t (kills t [x])) o.dst (.ptr b 0)) ((b,some (ev t x).cells)::os)):OpW L P o ⟨n,t,os⟩ (fun s'=>s'.n=n/\K s'.t s'.o):=by
 intro B F0 w0 a w next Q cw bI
 have hfr:gq os w.heap.size:=by obtain ⟨F,own,fp,fs,hd'⟩:=cw;exact hd'.fresh
 obtain ⟨F,own,fp,fs,h⟩:=cw
 have hr:=h.ev x
 have hrun:(execOp a.eval o).run P w=.ok (.value (.pointer (some ⟨w.heap.size,0,none⟩))) (w.alloc (.cells (a.eval x).cells ty')):=by
  simp [execOp,hop,Instr.box,newVar,newRow]
 unfold Oper.wp
 rw [hrun]
 refine bI ⟨n,put (bW t (kills t [x])) o.dst (.ptr w.heap.size 0),(w.heap.size,some (ev t x).cells)::os⟩ _ _ ⟨rfl,hK w.heap.size hfr.nf⟩ ?_
 have hFS:∀ b,F b->F b/\(b<w.heap.size):=fun b hb'=>⟨hb',(h.fl b hb').2.1⟩
 refine h.renew (kills t [x]) [] w.heap.size (ev t x).cells (fpo fp x) o.dst hd ⟨rfl,rfl,rfl⟩ (Ext.alloc w _ []) (by simp) (.inr ⟨Nat.le_refl _,by simp⟩)
  ⟨(a.eval x).cells,ty',(a.eval x).cells.toList,[],eX w _,by simp,?_⟩ (lp h x) (fun k hk=>.inl (fV h (by simp) k hk)) (by simp [Rep])
 refine aq.ext (Ext.alloc' w _) hFS (fun k hk=>?_) (yK hx hr)
 obtain ⟨i,_,hi⟩:=fV h (xs:=[x]) (by simp) k hk
 exact (h.ig hi).2
theorem Ia{ty' e:TypeId}{x y:Operand}{sz bytes:Nat}{k k':IntKind}{m m':Int}{zs:List Value}(hop:o.op=.makeSlice ty' x y)(hd:cN n o.dst=true)(ht:elm P ty'=some (e,sz,bytes))(hz:zer P e=some zs)(hzl:zs.length=sz)
  (hx:ev t x=.v (.int k m)) (hy:ev t y=.v (.int k' m')) (hm:m'=m) (h0:0<=m) (hL:m.toNat<=L sz) (hby:m.toNat * bytes<=140737488355328) (h63:m.toNat<=9223372036854775807)
  (h:∀ b,nfO os b->K (put t o.dst (.arr b 0 m.toNat sz)) ((b,some ((List.replicate m.toNat zs).flatten.map avz))::os)):OpW L P o ⟨n,t,os⟩ (fun s'=>s'.n=n/\K s'.t s'.o):=by
 subst hm
 obtain ⟨m,rfl⟩:=Int.eq_ofNat_of_zero_le h0
 simp only [Int.ofNat_eq_natCast,Int.toNat_natCast] at *
 intro B F0 w0 a w next Q cw bI
 obtain ⟨F,own,fp,fs,hD⟩:=cw
 obtain ⟨inf,hut,fu,rfl,rfl⟩:=jq ht
 obtain ⟨Io,z,kQ,hzz,hzc⟩:=rv hz
 rw [fu] at kQ
 cases kQ
 have hrun:=run_make (P:=P) w ty' e inf z hut fu hzz k k' (m:Int) m (by omega) (Int.le_refl _) (by
  have:(inf.bytes:Int) * m=((m * inf.bytes:Nat):Int):=by push_cast;rw [Int.mul_comm]
  omega) (by omega)
 have hzs:z.cells.size=inf.size:=by rw [<- hzl,<- hzc];simp
 have hex:(execOp a.eval o).run P w=.ok (.value (.slice (some ⟨w.heap.size,0,none⟩) m m)) (w.alloc (.cells (madeCells z.cells (m * inf.size)) e)):=by
  simp only [execOp,hop,hD.val hx,hD.val hy,Sem.run_bind,hrun,Int.toNat_natCast]
  rfl
 unfold Oper.wp
 rw [hex]
 refine bI ⟨n,put t o.dst (.arr w.heap.size 0 m inf.size),(w.heap.size,some ((List.replicate m zs).flatten.map avz))::os⟩ _ _ ⟨rfl,h w.heap.size hD.fresh.nf⟩ ?_
 refine hD.renew [] [] w.heap.size _ [] o.dst hd ⟨rfl,rfl,rfl⟩ (Ext.alloc w _ []) (by simp) (.inr ⟨Nat.le_refl _,by simp⟩)
  ⟨_,_,(List.replicate m zs).flatten,[],eX w _,by rw [rK z.cells m inf.size hzs,hzc];simp,aq.plain _⟩ (by simp) (by simp) ?_
 simp only [Rep]
 refine ⟨trivial,m,rfl,Nat.le_refl _,hL,_,_,eX w _,?_⟩
 have:=congrArg List.length (rK z.cells m inf.size hzs)
 simp at this
 rw [hzs] at this
 omega
theorem Ll{c:Call}{x y:Operand}{t1 u:TypeId}(ho:o.op=.call c)(hc:c=⟨.builtin .append,#[x,y],#[t1,u]⟩)(hd:cN n o.dst=true)(h:CZ L P os t o.dst x y t1 u K):OpW L P o ⟨n,t,os⟩ (fun s'=>s'.n=n/\K s'.t s'.o):=by
 unfold CZ at h
 split at h
 ·exact h.elim
 ·rename_i e sz bytes ht
  obtain ⟨⟨hzl,hk⟩,h⟩:=h
  obtain ⟨zs,hz,hzl⟩:=C3 hzl
  have hu:=GR hk
  split at h
  ·rename_i i z l hx
   split at h
   ·exact h.elim
   ·rename_i l' hsrc
    obtain ⟨⟨rfl,hne,hel,jc,hone⟩,⟨hL,hby,h63⟩,hK⟩:=h
    exact Ao (s:=⟨n,t,os⟩) ho hc hd hx (BQ hne) ht hz hzl hu hsrc (by simpa [List.all_eq_true] using hel) (by simpa [List.all_eq_true] using jc) hone hL hby h63 ⟨rfl,hK⟩
  ·rename_i hx
   split at h
   ·exact h.elim
   ·rename_i l' hsrc
    obtain ⟨⟨jc,hone⟩,⟨hL,hby,h63⟩,hK⟩:=h
    have oY:∀ z,z∈l'->z.elem sz=true:=by simpa [List.all_eq_true] using jc
    by_cases h0:l'=[]
    ·subst h0
     exact qz (s:=⟨n,t,os⟩) ho hc hd hx ht hu (om hsrc oY) ⟨rfl,hK⟩
    ·refine OpW.post (rE (s:=⟨n,t,os⟩) ho hc hd hx ht hz hzl hu (om hsrc oY) (List.length_pos_iff.2 h0) hL hby h63 fun b' hb'=>?_)
     cases nM:o.dst with
     | none =>
      rw [nM] at hK
      refine Imp.weak (t':=bW t (kills t [y])) (o':=os) ⟨rfl,hK⟩ (fun j=>.inl rfl) ?_
      intro q cs hq
      simp only [O,if_neg (fun e=>hb' q cs hq e.symm:¬ b'=q)];exact hq
     | some d =>
      rw [nM] at hK
      refine Imp.bind (Q:=fun s'=>s'=⟨n,(d,.sl true sz l')::put (bW t (kills t [y])) (some d) (.arr b' 0 l'.length sz),(b',none)::(b',some (l'.flatMap AV.cells))::os⟩) (Imp.fold d (b:=b') (len:=l'.length) (sz:=sz) (cells:=l'.flatMap AV.cells) (l:=l') (by simp [put,T]) (by simp [O]) rfl ?_ oY rfl) ?_
      ·rw [List.take_of_length_le];rw [bH oY];exact Nat.le_refl _
      ·rintro _ rfl
       refine Imp.weak (t':=put (bW t (kills t [y])) (some d) (.sl true sz l')) (o':=os) ⟨rfl,hK⟩ (fun j=>.inl ?_) ?_
       ·simp only [put,fP]
        by_cases e:d=j
        ·simp [e]
        ·simp [e]
       ·intro q cs hq
        have hne:¬ b'=q:=fun e=>hb' q cs hq e.symm
        simp only [O,if_neg hne];exact hq
  ·rename_i b len z hx
   split at h
   ·rename_i cells l' hO hsrc
    obtain ⟨⟨rfl,hlen,jc,hone⟩,⟨hL,hby,h63⟩,hK⟩:=h
    have oY:∀ x,x∈l'->x.elem z=true:=by simpa [List.all_eq_true] using jc
    refine OpW.post (rF (s:=⟨n,t,os⟩) ho hc hd hx hO hlen ht hz hzl hu (om hsrc oY) hone hL hby h63 fun b' hb'=>?_)
    have hsub:∀ q cs,O (rmO os b) q=some cs->O (jk os [b]) q=some cs:=fun q cs hq=>by
     have:=Xy os b q cs hq
     rw [nE,if_neg (by simpa using this.1)];exact this.2
    refine Imp.weak (t':=put (bW t (kills t [y])) o.dst (.arr b' 0 (len+l'.length) z)) (o':=(b',some (cells++l'.flatMap AV.cells))::rmO os b) ⟨rfl,hK b' (gq.nf fun q cs hq=>hb' q cs (hsub q cs hq))⟩ (fun _=>.inl rfl) ?_
    intro q cs hq
    by_cases e:b'=q
    ·subst e;simp only [eQ] at hq ⊢;exact hq
    ·rw [vQ e] at hq ⊢;exact hsub q cs hq
   ·exact h.elim
  ·exact h.elim
theorem lK:∀ {l m:List AV},AV.bL (l++m)=true->AV.bL l=true
 | [],_,_=>rfl
 | x::xs,m,h=>by
  simp [AV.bL] at h ⊢
  exact ⟨h.1,lK (m:=m) h.2⟩
theorem rm{i:Nat}{x:AV}:∀ {xs:List Operand},AV.bL (xs.map (ev t))=true->(T t i).df=false->xs.map (ev ((i,x)::t))=xs.map (ev t)
 | [],_,_=>rfl
 | y::xs,h,hi=>by
  simp only [List.map_cons,AV.bL,Bool.and_eq_true] at h
  have hne:y≠.tmp i:=fun e=>by
   subst e
   simp only [ev] at h
   rw [h.1] at hi;cases hi
  simp only [List.map_cons,lN hne,rm h.2 hi]
theorem ru{y:Operand}{i:Nat}{xs:List Operand}{ts:Array TypeId}{f:FuncId}{caps:List AV}{sz:Nat}{l l':List AV}{res:AV}(ho:o.op=.call ⟨.value y,(.tmp i::xs).toArray,ts⟩)(hd:cN n o.dst=true)(hy:fnA (ev t y)=some (f,caps))(hcn:AV.bL caps=true)
  (hx:T t i=.sl true sz l) (he:enters P f=true) (hn:AV.bL (xs.map (ev t)++caps)=true) (hb:FC L P f sz l (xs.map (ev t)++caps) res l') (hK:K (put ((i,.sl true sz l')::t) o.dst res) os):OpW L P o ⟨n,t,os⟩ (fun s'=>s'.n=n/\K s'.t s'.o):=by
 obtain ⟨hg,hnil,hlen,hel,jc⟩:=hb
 have hi:(T t i).df=false:=by rw [hx];rfl
 have hxs:=lK hn
 have hyi:y≠.tmp i:=fun e=>by
  subst e
  simp only [ev,hx] at hy
  cases hy
 refine OpW.imp (Imp.pJ i hx hel ?_ ?_)
 ·intro b hfr
  have EF:=rm (t:=t) (x:=.arr b 0 l.length sz) hxs hi
  refine OpW.post (JM (s:=⟨n,(i,.arr b 0 l.length sz)::t,(b,some (l.flatMap AV.cells))::os⟩) (os:=[(b,some (l.flatMap AV.cells))]) (caps:=caps) ho rfl hd (by rw [lN hyi];exact hy) hcn ?_ he ?_ (Q:=fun r os'=>r=res/\os'=[(b,some (l'.flatMap AV.cells))]) ?_ ?_)
  ·simp only [List.toList_toArray,List.map_cons,EF,AV.bL,Bool.and_eq_true]
   exact ⟨by simp [ev,T,AV.df],hxs⟩
  ·intro q cs hq
   simp only [O] at hq ⊢
   split at hq
   ·rename_i e;rw [if_pos e];exact hq
   ·cases hq
  ·have:ev ((i,.arr b 0 l.length sz)::t) (.tmp i)=.arr b 0 l.length sz:=by simp [ev,T]
   simp only [List.toList_toArray,List.map_cons,EF,this,List.cons_append]
   exact hg b
  ·rintro r os' ⟨rfl,rfl⟩
   simp only [List.map_cons,List.map_nil,jk]
   by_cases hdi:o.dst=some i
   ·refine Imp.weak (t':=put ((i,.sl true sz l')::t) o.dst r) (o':=os) ⟨rfl,hK⟩ (fun j=>.inl ?_) ?_
    ·rw [hdi];simp only [put,fP]
     by_cases e:i=j
     ·simp [e]
     ·simp [e]
    ·intro q cs hq
     have hne:b≠q:=fun e=>hfr q cs hq e.symm
     simp only [List.cons_append,List.nil_append,O,if_neg hne];exact hq
   ·have hTi:T (put ((i,.arr b 0 l.length sz)::t) o.dst r) i=.arr b 0 l.length sz:=by
     rw [kV,if_neg hdi];simp [T]
    refine Imp.bind (Q:=fun s'=>s'=⟨n,(i,.sl true sz l')::put ((i,.arr b 0 l.length sz)::t) o.dst r,(b,none)::([(b,some (l'.flatMap AV.cells))]++(b,none)::(b,some (l.flatMap AV.cells))::os)⟩) (Imp.fold i (b:=b) (len:=l.length) (sz:=sz) (cells:=l'.flatMap AV.cells) (l:=l') hTi (by simp [O]) hlen ?_ jc rfl) ?_
    ·rw [List.take_of_length_le];rw [bH jc,hlen];exact Nat.le_refl _
    ·rintro _ rfl
     refine Imp.weak (t':=put ((i,.sl true sz l')::t) o.dst r) (o':=os) ⟨rfl,hK⟩ (fun j=>.inl ?_) ?_
     ·simp only [fP,kV]
      by_cases e:i=j
      ·subst e;simp [hdi]
      ·simp [e]
     ·intro q cs hq
      have hne:b≠q:=fun e=>hfr q cs hq e.symm
      simp only [List.cons_append,List.nil_append,O,if_neg hne];exact hq
 ·intro e0
  obtain ⟨hp,rfl⟩:=hnil e0
  subst e0
  have EF:=rm (t:=t) (x:=.sl false sz []) hxs hi
  have NS:ev ((i,.sl false sz [])::t) (.tmp i)=.sl false sz []:=by simp [ev,T]
  have hl:LOp L P ⟨n,(i,.sl false sz [])::t,os⟩ o res []:=qB (L:=L) (s:=⟨n,(i,.sl false sz [])::t,os⟩) (res:=res) ho rfl (by rw [lN hyi];exact hy) hcn (sB.pure he (by
    simp only [List.toList_toArray,List.map_cons,EF,NS,List.cons_append,AV.bL,Bool.and_eq_true]
    exact ⟨rfl,hn⟩) (by
    simp only [List.toList_toArray,List.map_cons,EF,NS,List.cons_append]
    exact hp))
  intro B F0 w0 a w next Q cw bI
  obtain ⟨F,own,fp,fs,hD⟩:=cw
  refine hl B F0 w0 F own fp fs a w next Q { hD with slots:=?_ } fun v w' g=>?_
  ·intro j
   have:=hD.slots j
   simp only [fP] at this ⊢
   by_cases e:i=j
   ·subst e
    simp only [if_true,Rep] at this ⊢
    exact .inl ⟨.inl this.1,by trivial,this.2⟩
   ·simp only [if_neg e] at this ⊢;exact this
  ·obtain ⟨F',fx,h1,h2,h3,h4,h5⟩:=g.rep
   have IM:=hD.put [] o.dst hd g.below h1 h2 h3 h4 h5
   simp only [bW] at IM
   by_cases hdi:o.dst=some i
   ·refine bI ⟨n,put ((i,.sl true sz [])::t) o.dst res,os⟩ _ _ ⟨rfl,hK⟩ (IM.weaken rfl (fun j=>.inl ?_) (fun _ _ h=>h))
    rw [hdi];simp only [put,fP]
    by_cases e:i=j
    ·simp [e]
    ·simp [e]
   ·have hTi:T (put ((i,.v (.slice none 0 0))::t) o.dst res) i=.v (.slice none 0 0):=by
     rw [kV,if_neg hdi];simp [T]
    obtain ⟨s2,rfl,hd2⟩:=Imp.dY (L:=L) (n:=n) (os:=os) i sz hTi (Q:=fun s'=>s'=⟨n,(i,.sl true sz [])::put ((i,.v (.slice none 0 0))::t) o.dst res,os⟩) rfl B F0 w0 _ _ IM
    refine bI ⟨n,put ((i,.sl true sz [])::t) o.dst res,os⟩ _ _ ⟨rfl,hK⟩ (hd2.weaken rfl (fun j=>.inl ?_) (fun _ _ h=>h))
    simp only [fP,kV]
    by_cases e:i=j
    ·subst e;simp [hdi]
    ·simp [e]
theorem D5{B F0:Nat->Prop}{w0:World}{F:Nat->Prop}{own:Nat->Own}{fp fs:Nat->List Nat}{s:AS}{a:Act}{w:World}(h:cD L B F0 w0 F own fp fs s a w)(all:List Operand) :
  ∀ xs:List Operand,(∀ x,x∈xs->x∈all)->aq L (fun b=>F b\/∃ i,i∈kills s.t all/\b∈fp i) w (na (xs.map (ev s.t))) (xs.map a.eval) []
 | [],_=>by simp [aq,oP]
 | x::xs,hx=>by
  have ih:=D5 h all xs fun y hy=>hx y (by simp [hy])
  have hr:=h.ev x
  have hid:Ext (fun _=>True) w w:=⟨Nat.le_refl _,fun _ _=>rfl,fun b c T z hc=>⟨c,hc,rfl⟩⟩
  simp only [List.map_cons,oP,aq]
  refine ⟨_,_,[],[],rfl,rfl,?_,ih⟩
  cases hn:(ev s.t x).df with
  | true =>
   rw [Rep.dP hn hr] at hr
   exact Rep.ext hid (fun b hb=>⟨.inl hb,trivial⟩) (by simp) hr
  | false =>
   exact Rep.frz (fun b hb=>.inl hb) (fun b hb=>.inr (fV h (hx x (by simp)) b hb)) hr
theorem xU:∀ l m:List AV,na (l++m)=na l++na m
 | [],_=>rfl
 | x::l,m=>by simp only [List.cons_append,oP,xU l m]
theorem uL:∀ {l:List AV},AV.bL l=true->na l=l
 | [],_=>rfl
 | x::l,h=>by
  simp only [AV.bL,Bool.and_eq_true] at h
  simp only [oP,h.1,cond_true,uL h.2]
theorem J8{s:AS}{y:Operand}{xs:Array Operand}{ts:Array TypeId}{f:FuncId}{caps:List AV}{res:AV}(ho:o.op=.call ⟨.value y,xs,ts⟩)(hy:fnA (ev s.t y)=some (f,caps))
  (hcn:AV.bL caps=true) (he:enters P f=true) (hp:fM L P f (na (xs.toList.map (ev s.t)++caps)) res):LOp L P s o res (kills s.t xs.toList):=by
 intro B F0 w0 F own fp fs a w next Q h bI
 obtain ⟨cvs,hcr,hex⟩:=mS (P:=P) h ho hy hcn he
 unfold Oper.wp
 rw [hex]
 have hid:Ext (fun _=>True) w w:=⟨Nat.le_refl _,fun _ _=>rfl,fun b c T z hc=>⟨c,hc,rfl⟩⟩
 have hall:=aq.join (D5 h xs.toList xs.toList fun _ h=>h) (aq.ext (F':=fun b=>F b\/∃ i,i∈kills s.t xs.toList/\b∈fp i) hid (fun b hb=>⟨.inl hb,trivial⟩) (by simp) hcr)
 rw [List.append_nil] at hall
 rw [xU,uL hcn] at hp
 refine (hp w _ _ (fun b hb=>?_) (h.tb.kp h.below h.hB) hall).mono ?_
 ·rcases hb with hb|⟨i,_,hb⟩
  ·exact (h.fl b hb).2.1
  ·exact (h.ig hb).2
 rintro e w' ⟨v,F',fp',rfl,h1,h2,h3,h4,h5,h6⟩
 refine bI v w' ⟨Kp.ld h1,F',fp',fun b hb=>h2 b (.inl hb),fun b hb=>?_,h4,h5,fun b hb=>⟨(h6 b hb).1,.inr (h6 b hb).2⟩⟩
 rcases h3 b hb with (e|e)|e
 ·exact .inl e
 ·exact .inr (.inr e)
 ·exact .inr (.inl e)
theorem vP(t:List (Nat×AV)):∀ (js:List Nat) (i:Nat),T (nj t js) i=if i∈js then (T t i).frz else T t i
 | [],i=>by simp [nj]
 | j::js,i=>by
  simp only [nj,fP,vP t js i,List.mem_cons]
  by_cases e:j=i
  ·subst e;simp
  ·have:¬ i=j:=fun h=>e h.symm
   simp only [if_neg e,this,false_or]
mutual
theorem AV.wD:∀ x:AV,x.frz.frz=x.frz
 | .sl o sz l=>by cases o<;>simp only [AV.frz,cond_true,cond_false]
 | .agg l=>by simp only [AV.frz,AV.ox l]
 | .tup l=>by simp only [AV.frz,AV.ox l]
 | .fn f l=>by simp only [AV.frz,AV.ox l]
 | .cnd g x=>by simp only [AV.frz,AV.wD x]
 | .pin _ x=>by simp only [AV.frz,AV.wD x]
 | .slo _ l=>by simp only [AV.frz,AV.ox l,cond_false]
 | .dead|.v ..|.str ..|.vp ..|.arr ..|.ptr ..=>by simp only [AV.frz]
theorem AV.ox:∀ l:List AV,AV.bZ (AV.bZ l)=AV.bZ l
 | []=>rfl
 | x::xs=>by simp only [AV.bZ,AV.wD x,AV.ox xs]
end
theorem Imp.RY{n:Nat}{t:List (Nat×AV)}{o:Sto}{Q:AS->Prop}:∀ (js:List Nat),Imp L ⟨n,nj t js,o⟩ Q->Imp L ⟨n,t,o⟩ Q
 | [],h=>h
 | j::js,h=>by
  refine Imp.RY js ?_
  refine Imp.bind (Imp.frz (Q:=fun s=>s=_) j rfl) ?_
  rintro _ rfl
  refine Imp.bind (Imp.weak (t':=nj t (j::js)) (o':=o) (Q:=fun s=>s=⟨n,nj t (j::js),o⟩) rfl (fun i=>.inl ?_) (fun _ _ h=>h)) (fun s hs=>by rw [hs];exact h)
  simp only [nj,fP,vP]
  by_cases e:j=i
  ·subst e
   simp only [if_true]
   by_cases e2:j∈js
   ·rw [if_pos e2,AV.wD]
   ·rw [if_neg e2]
  ·simp only [if_neg e]
theorem Hg{t:List (Nat×AV)}{all:List Operand}:∀ {xs:List Operand},(∀ x,x∈xs->x∈all)->xs.map (ev (nj t (kills t all)))=na (xs.map (ev t))
 | [],_=>rfl
 | x::xs,h=>by
  simp only [List.map_cons,na,oP]
  rw [show oP (xs.map (ev t))=na (xs.map (ev t)) from rfl,Hg (t:=t) (xs:=xs) fun y hy=>h y (by simp [hy])]
  congr 1
  cases x with
  | tmp i =>
   simp only [ev,vP]
   cases hn:(T t i).df with
   | true=>rw [if_neg (fun hm=>by have:=(fc.1 hm).2;rw [hn] at this;cases this)];rfl
   | false=>rw [if_pos (fc.2 ⟨h _ (by simp),hn⟩)];rfl
  | const v =>
   simp only [ev]
   have:(avz v).frz=avz v:=by
    cases v with
    | string s=>simp only [avz];cases Nat.ble s.data.toList.length 4611686018427387904<;>rfl
    | _=>rfl
   rw [this];cases (avz v).df<;>rfl
  | global g=>rfl
  | func f=>rfl
theorem FH{y:Operand}{args:Array Operand}{ts:Array TypeId}{f:FuncId}{caps:List AV}(ho:o.op=.call ⟨.value y,args,ts⟩)(hd:cN n o.dst=true)(hy:fnA (ev t y)=some (f,caps))(hcn:AV.bL caps=true)
  (h:eP L P os (uE os (args.toList.map (ev t)++caps)) (na (args.toList.map (ev t)++caps)) (zV t args.toList) (args.toList.tail.map (ev t)++caps) f (args.toList.map (ev t)++caps) (K:=⟨fun res os'=>K (put t o.dst res) os'⟩) (KB:=⟨fun i sz l' res=>K (put ((i,.sl true sz l')::t) o.dst res) os⟩) (KX:=⟨⟨t,H4 args.toList,fun i x res=>K (put ((i,x)::t) o.dst res) os,fun res=>K (put (bW t (kills t args.toList)) o.dst res) os,fun i sz l' res=>q9 (kills t args.toList.tail) i=false/\K (put ((i,.sl true sz l')::nj t (kills t args.toList.tail)) o.dst res) os⟩⟩)):OpW L P o ⟨n,t,os⟩ (fun s'=>s'.n=n/\K s'.t s'.o):=by
 have hne:∀ (z:AV) (l:List AV),args.toList.map (ev t)++caps=z::(args.toList.tail.map (ev t)++caps)->∃ a0 xs,args=(a0::xs).toArray/\ev t a0=z:=by
  intro z l e
  cases hargs:args.toList with
  | nil =>
   rw [hargs] at e
   have:=congrArg List.length e
   simp at this
  | cons a0 xs =>
   rw [hargs] at e
   simp only [List.map_cons,List.cons_append,List.cons.injEq] at e
   exact ⟨a0,xs,by apply Array.ext';simpa using hargs,e.1⟩
 obtain ⟨he,⟨hn,Q,hg,hK⟩|⟨res,hcl,hp,hK⟩|⟨la',res,hll,hcl,hp,hK⟩|⟨i,sz,l,hbo,hn,res,l',hb,hK⟩|⟨g,x,x',res,i,ha0,hT,hn,hC,hK⟩|⟨g,pre,px,post,x',res,i,ha,hT,hdt,hn,hC,hK⟩|⟨g,pre,px,post,x',res,b,ha,hO,hdt,hn,hC,hK⟩|⟨res,hp,hK⟩|⟨x0,lar,i,sz,l,hla,hbo,hn,res,l',hb,hmem,hK⟩⟩:=h
 ·have hn':AV.bL (args.toList.map (ev t))=true:=lK hn
  refine OpW.post (zi (s:=⟨n,t,os⟩) ho rfl hd hy hcn hn' he (fun b cells=>P7) hg fun res os' hQ hnew=>?_)
  rcases hK res os' hQ with ⟨hkeys,hKK⟩|⟨hrs,b0,cells0,rfl,hKK⟩
  case inr =>
   have hnf:nfO os b0:=gq.nf fun b' cells' hO=>hnew b0 cells0 (by simp [O]) (by rw [hrs];simp) b' cells' hO
   refine Imp.weak (t':=put t o.dst res) (o':=(b0,some cells0)::os) ⟨rfl,hKK hnf⟩ (fun _=>.inl rfl) ?_
   intro q cs hq
   rw [hrs]
   simpa [jk] using hq
  refine Imp.weak (t':=put t o.dst res) (o':=iw os os') ⟨rfl,hKK⟩ (fun _=>.inl rfl) ?_
  intro q cs hq
  rw [HL] at hq
  rw [Fy,nE,<- hkeys]
  by_cases e:q∈os'.map Prod.fst
  ·rw [if_pos e]
   by_cases e2:q∈os.map Prod.fst
   ·rw [if_pos ⟨e,e2⟩] at hq;exact hq
   ·rw [if_neg (fun h=>e2 h.2)] at hq
    exact absurd (Lq hq) e2
  ·rw [if_neg e,if_neg e]
   rw [if_neg (fun h=>e h.1)] at hq;exact hq
 ·exact (qB (s:=⟨n,t,os⟩) ho rfl hy hcn ⟨he,.inr ⟨_,D6 os _,hcl,hp⟩⟩).opW hd ⟨rfl,by simpa [bW] using hK⟩
 ·exact (qB (s:=⟨n,t,os⟩) ho rfl hy hcn ⟨he,.inr ⟨_,hll,hcl,hp⟩⟩).opW hd ⟨rfl,by simpa [bW] using hK⟩
 ·obtain ⟨i',xs,hargs,hT⟩:∃ i' xs,args.toList=.tmp i'::xs/\i'=i/\T t i=.sl true sz l:=by
   unfold zV at hbo
   split at hbo
   ·rename_i i' xs hargs
    split at hbo
    ·rename_i sz' l'' hT
     cases hbo
     exact ⟨i,xs,hargs,rfl,hT⟩
    ·cases hbo
   ·cases hbo
  obtain ⟨rfl,hT⟩:=hT
  rw [hargs] at hb hn
  have ha:args=(.tmp i'::xs).toArray:=by apply Array.ext';simpa using hargs
  subst ha
  exact ru ho hd hy hcn hT he hn hb hK
 ·obtain ⟨xs,hargs⟩:∃ xs,args.toList=.tmp i::xs:=by
   simp only [H4] at ha0
   split at ha0
   ·rename_i i' xs hargs
    cases ha0;exact ⟨xs,hargs⟩
   ·cases ha0
  rw [hargs] at hn hC
  have ha:args=(.tmp i::xs).toArray:=by apply Array.ext';simpa using hargs
  subst ha
  exact O0 ho hd hy hcn he hT (lK hn) hC ⟨rfl,hK⟩
 ·obtain ⟨a0,xs,rfl,hz⟩:=hne _ [] ha
  exact OY ho hd hy hcn he hT hz hdt (lK hn) hC ⟨rfl,hK⟩
 ·obtain ⟨a0,xs,rfl,hz⟩:=hne _ [] ha
  refine OpW.post (OZ ho hd hy hcn he hO hz hdt (lK hn) hC ?_)
  refine Imp.weak (t':=put t o.dst res) (o':=fY os b (some (pre++(jT px x'++post)))) ⟨rfl,hK⟩ (fun _=>.inl rfl) ?_
  intro q cs hq
  rcases sx hO q cs hq with ⟨rfl,rfl⟩|⟨hne,hq⟩
  ·simp [O]
  ·rw [vQ (fun e=>hne e.symm)];exact hq
 ·exact (J8 (s:=⟨n,t,os⟩) ho hy hcn he hp).opW hd ⟨rfl,hK⟩
 ·obtain ⟨i',xs,hargs,hT⟩:∃ i' xs,args.toList=.tmp i'::xs/\i'=i/\T t i=.sl true sz l:=by
   unfold zV at hbo
   split at hbo
   ·rename_i i' xs hargs
    split at hbo
    ·rename_i sz' l'' hT
     cases hbo
     exact ⟨i,xs,hargs,rfl,hT⟩
    ·cases hbo
   ·cases hbo
  obtain ⟨rfl,hT⟩:=hT
  rw [hargs] at hmem hK hla
  simp only [List.tail_cons] at hmem hK
  have hi:i' ∉ kills t xs:=fun h=>by rw [xS.2 h] at hmem;cases hmem
  have ha:args=(.tmp i'::xs).toArray:=by apply Array.ext';simpa using hargs
  subst ha
  simp only [List.map_cons,List.cons_append,na,oP,List.cons.injEq] at hla
  have RL:xs.map (ev (nj t (kills t xs)))++caps=lar:=by
   rw [<- hla.2,show oP (xs.map (ev t)++caps)=na (xs.map (ev t)++caps) from rfl,xU,uL hcn,Hg fun _ h=>h]
  have hy':fnA (ev (nj t (kills t xs)) y)=some (f,caps):=by
   cases y with
   | tmp j =>
    have hj:j ∉ kills t xs:=fun h=>by
     have h2:=(fc.1 h).2
     simp only [ev] at hy
     cases hv:T t j with
     | fn g c=>rw [hv] at hy h2;simp only [fnA,Option.some.injEq,Prod.mk.injEq] at hy;rw [<- hy.2] at hcn;simp only [AV.df] at h2;rw [h2] at hcn;cases hcn
     | v u=>rw [hv] at h2;cases h2
     | _=>rw [hv] at hy;cases hy
    simp only [ev,vP,if_neg hj];exact hy
   | _=>exact hy
  refine OpW.imp (Imp.RY (kills t xs) (Imp.id ?_))
  exact ru ho hd hy' hcn (by rw [vP,if_neg hi];exact hT) he (by rw [RL];exact hn) (by rw [RL];exact hb) hK
theorem Ja{c:Call}{x y:Operand}{t1 u:TypeId}(ho:o.op=.call c)(hc:c=⟨.builtin .copy,#[x,y],#[t1,u]⟩)(hd:cN n o.dst=true)(h:CX L P os t o.dst x y t1 u K):OpW L P o ⟨n,t,os⟩ (fun s'=>s'.n=n/\K s'.t s'.o):=by
 subst hc
 unfold CX at h
 split at h
 case h_2=>exact h.elim
 rename_i e sz by_ b off len z he hx
 split at h
 case h_2=>exact h.elim
 rename_i cells m cs hO hs
 obtain ⟨⟨rfl,hk,hone,WM⟩,rfl,hle,hK⟩:=h
 obtain ⟨i,ht,hi,WV,_⟩:=jq he
 refine OpW.post ?_
 ·intro B F0 w0 a w next Q cw bI
  obtain ⟨F,own,fp,fs,h⟩:=cw
  have hr:=h.ev x
  rw [hx] at hr
  simp only [Rep] at hr
  obtain ⟨_,cap,hxv,_,_,_⟩:=hr
  obtain ⟨news,f,hsrc,hnl,hrn,_,_⟩:=uB (P:=P) h hs (GR hk)
  rw [aq.dP WM hrn] at hrn
  obtain ⟨hkey,iO,dW,c,Ty,vals,rest,hc,hcl,gE⟩:=h.obj b cells hO
  have hvl:=gE.len
  have hbB:=h.ol b (by rw [hkey];simp)
  have Ub:c.size=vals.length+rest.length:=by rw [<- Array.length_toList,hcl];simp
  have hst:=run_storeCells_at P b off Ty news 0 c w hc (by omega) (hrn.ones hone)
  simp only [Nat.add_zero] at hst
  have hf:=hsrc.first w rfl
  have hex:(execOp a.eval o).run P w=.ok (.value (.int .i64 m)) (w.setRow b (c.toList.take off++news++c.toList.drop (off+news.length)).toArray):=by
   simp [execOp,ho,resolve,invoke,builtin,Builtin.copy_,hxv,run_underlying ht,sizeOf,typeInfo,hi,WV,hsrc.len,hf,hst,goInt]
  unfold Oper.wp
  rw [hex]
  obtain ⟨f',hf',hnd,hmem⟩:=gE.Dr hrn off (m * z) (by rw [<- hnl,hrn.len]) hle
  have hsz:(c.toList.take off++news++c.toList.drop (off+news.length)).toArray.size=c.size:=by
   have:c.toList.length=c.size:=by simp
   simp only [List.size_toArray,List.length_append,List.length_take,List.length_drop,this];omega
  have cl:=Ext.setRow w b _ c Ty _ hc hsz
  have hFS:∀ b',F b'->F b'/\(b'<w.heap.size/\b' ∉ [b]):=fun b' hb'=>⟨hb',(h.fl b' hb').2.1,fun hd'=>by
   have e0:b'=b:=by simpa using hd'
   have e1:=(h.fl b' hb').1;rw [e0,hkey] at e1;cases e1⟩
  have hfn':∀ k,k∈f'->own k=.obj b:=by
   intro k hk
   rcases hmem k hk with hk|hk
   ·exact dW k hk
   ·simp at hk
  have hSk:∀ k,k∈f'->k<w.heap.size/\k ∉ [b]:=by
   intro k hk
   have e:=hfn' k hk
   refine ⟨(h.ol k (by rw [e];simp)).2,fun hd'=>?_⟩
   have e0:k=b:=by simpa using hd'
   rw [e0,hkey] at e;cases e
  have:=h.renew (w':=w.setRow b (c.toList.take off++news++c.toList.drop (off+news.length)).toArray) (x:=.v (.int .i64 m)) (v:=.int .i64 m) [] [b] b _ f' o.dst hd ⟨rfl,rfl,rfl⟩ cl (by simpa using hkey) (.inl (by simp))
   ⟨_,Ty,_,rest.drop 0,dK w b _ c Ty _ hc,by
    simp only [List.drop_zero]
    rw [hcl,List.take_append_of_le_length (by omega),List.drop_append_of_le_length (by omega),hnl]
    simp only [List.append_assoc],aq.ext cl hFS hSk hf'⟩ (hnd (by simpa using iO)) (fun k hk=>.inr ⟨b,by simp,hfn' k hk⟩) (by simp [Rep])
  refine bI _ _ _ ?_ this
  refine Imp.weak (t':=put t o.dst (.v (.int .i64 m))) (o':=fY os b (some (cells.take off++cs++cells.drop (off+m * z)))) ⟨rfl,hK⟩ (fun _=>.inl rfl) ?_
  intro q cs' hq
  rcases sx hO q cs' hq with ⟨rfl,rfl⟩|⟨hne,hq⟩
  ·simp [O]
  ·rw [vQ (fun e=>hne e.symm),nE,if_neg (by simpa using hne)];exact hq
theorem BP(hd:cN n o.dst=true)(h:nvc L P os t o.dst o.op K):OpW L P o ⟨n,t,os⟩ (fun s'=>s'.n=n/\K s'.t s'.o):=by
 have dflt:ovc L P os (ev t) true o.op (fun x C=>K (put (bW t C) o.dst x) os)->OpW L P o ⟨n,t,os⟩ (fun s'=>s'.n=n/\K s'.t s'.o):=by
  intro h
  obtain ⟨x,C,hK,_,hl⟩:=qy h
  exact (hl rfl ⟨n,t,os⟩ (fun _ _=>rfl) rfl).opW hd ⟨rfl,hK⟩
 cases ho:o.op with
 | alloc ty' =>
  rw [ho] at h
  simp only [nvc] at h
  split at h
  ·rename_i zs hz;exact F3 ho hd hz h
  ·exact h.elim
 | store ty' ad x =>
  rw [ho] at h
  simp only [nvc] at h
  split at h
  ·rename_i b off g m nM ha ht
   split at h
   ·rename_i cells hO
    obtain ⟨⟨hel,hone⟩,hle,hK⟩:=h
    refine OpW.post (BN (s:=⟨n,t,os⟩) ho nM ha hO ht hel hone hle ?_)
    refine Imp.weak (t':=bW t (kills t [x])) (o':=fY os b (some (cells.take off++(ev t x).cells++cells.drop (off+m)))) ⟨rfl,hK⟩ (fun _=>.inl rfl) ?_
    intro q cs hq
    rcases sx hO q cs hq with ⟨rfl,rfl⟩|⟨hne,hq⟩
    ·simp [O]
    ·rw [vQ (fun e=>hne e.symm),nE,if_neg (by simpa using hne)];exact hq
   ·exact h.elim
  ·exact h.elim
 | load ty' x =>
  have h0:=h
  rw [ho] at h
  simp only [nvc] at h
  split at h
  ·rename_i b off hx
   split at h
   ·rename_i cells g m hO ht
    split at h
    ·rename_i y hy
     split at h
     ·rename_i hny
      exact (uM (s:=⟨n,t,os⟩) ho hx hO ht hy hny).opW hd ⟨rfl,by simpa [bW] using h⟩
     ·split at h
      ·rename_i hu
       exact (oQ (s:=⟨n,t,os⟩) ho hx hO ht hy fun _ _ _ _ r=>Rep.cpy hu r).opW hd ⟨rfl,by simpa [bW] using h⟩
      ·obtain ⟨⟨h1,hle⟩,hK⟩:=h
       refine OpW.post (JL (s:=⟨n,t,os⟩) ho hd hx hO ht hy h1 hle ?_)
       refine Imp.weak (t':=put t o.dst y) (o':=fY os b (some (cells.take off++List.replicate m .dead++cells.drop (off+m)))) ⟨rfl,hK⟩ (fun _=>.inl rfl) ?_
       intro q cs hq
       rcases sx hO q cs hq with ⟨rfl,rfl⟩|⟨hne,hq⟩
       ·simp [O]
       ·rw [vQ (fun e=>hne e.symm)];exact hq
    ·exact h.elim
   ·exact h.elim
  ·rw [<- ho] at h;exact dflt h
 | extract x k =>
  rw [ho] at h
  simp only [nvc] at h
  split at h
  ·rename_i i l hx
   split at h
   ·rename_i y hy
    split at h
    ·rename_i hny
     exact (xm (s:=⟨n,t,os⟩) ho hx hy hny).opW hd ⟨rfl,by simpa [bW] using h⟩
    ·exact DN (s:=⟨n,t,os⟩) ho hd hx hy ⟨rfl,h⟩
   ·exact h.elim
  ·exact h.elim
 | makeSlice ty' x y =>
  rw [ho] at h
  simp only [nvc] at h
  split at h
  ·rename_i e sz bytes k m k' m' ht hx hy
   split at h
   ·rename_i zs hz
    obtain ⟨⟨hzl,hm⟩,⟨g0,g1,g2,g3⟩,hK⟩:=h
    exact Ia ho hd ht hz hzl hx hy hm g0 g1 g2 g3 hK
   ·exact h.elim
  ·exact h.elim
 | call c =>
  obtain ⟨callee,args,ts⟩:=c
  have h0:=h
  rw [ho] at h
  simp only [nvc] at h
  split at h
  ·rename_i y _
   split at h
   ·rename_i f caps hf
    exact FH ho hd hf h.1 h.2
   ·exact h.elim
  ·rename_i x y t1 u e2 e3
   have h1:args=#[x,y]:=by apply Array.ext';simpa using e2
   have h2:ts=#[t1,u]:=by apply Array.ext';simpa using e3
   exact Ll ho (by rw [h1,h2]) hd h
  ·rename_i x y t1 u e2 e3
   have h1:args=#[x,y]:=by apply Array.ext';simpa using e2
   have h2:ts=#[t1,u]:=by apply Array.ext';simpa using e3
   exact Ja ho (by rw [h1,h2]) hd h
  ·rw [<- ho] at h;exact dflt h
 | box ty' x =>
  rw [ho] at h
  simp only [nvc] at h
  split at h
  ·split at h
   ·exact Ck ho hd h.1 h.2
   ·exact h.elim
  ·rcases h with h|h
   ·rw [<- ho] at h;exact dflt h
   ·split at h
    ·exact Ck ho hd h.1 h.2
    ·exact h.elim
 | _ =>
  refine dflt ?_
  rw [ho] at h ⊢
  simpa only [nvc] using h
end
section
variable {L : Nat -> Nat} {P : Program} {ops : Array Oper} {n : Nat}
def vT(al:List (Nat×Nat))(a:Act):Prop:=∀ p,p∈al->a.tmps.getD p.1 undef=a.tmps.getD p.2 undef
theorem Fw{al:List (Nat×Nat)}{a:Act}(h:vT al a)(j:Nat):a.tmps.getD (alF al j) undef=a.tmps.getD j undef:=by
 induction al with
 | nil=>rfl
 | cons p al ih =>
  simp only [alF]
  have ih':=ih fun q hq=>h q (by simp [hq])
  cases e:Nat.beq p.1 j with
  | true =>
   have:p.1=j:=Nat.eq_of_beq_eq_true e
   subst this
   exact (h p (by simp)).symm
  | false=>exact ih'
theorem Qy{al:List (Nat×Nat)}{a:Act}(h:vT al a)(x:Operand):a.eval (sbs al x)=a.eval x:=by
 cases x with
 | tmp j=>exact Fw h j
 | _=>rfl
theorem J6{al:List (Nat×Nat)}{d:Nat}{p:Nat×Nat}(h:p∈kr al (some d)):p∈al/\p.1≠d/\p.2≠d:=by
 induction al with
 | nil=>simp [kr] at h
 | cons q al ih =>
  simp only [kr] at h
  cases e:(Nat.beq q.1 d || Nat.beq q.2 d) with
  | true=>rw [e] at h;have:=ih h;exact ⟨by simp [this.1],this.2⟩
  | false =>
   rw [e] at h
   rcases List.mem_cons.1 h with rfl|h
   ·have e':Nat.beq p.1 d=false/\Nat.beq p.2 d=false:=by simpa using e
    exact ⟨by simp,fun h=>by (rw [h,Nat.beq_refl] at e';cases e'.1),fun h=>by (rw [h,Nat.beq_refl] at e';cases e'.2)⟩
   ·have:=ih h;exact ⟨by simp [this.1],this.2⟩
theorem vT.put{al:List (Nat×Nat)}{a a0:Act}{d:Option Nat}{v:Value}(h:vT al a)(ha:a0.tmps=a.tmps)(hd:cN a.tmps.size d=true):vT (kr al d) (a0.put d v):=by
 cases d with
 | none =>
  have:kr al none=al:=by cases al<;>rfl
  rw [this]
  intro p hp
  simp only [Act.put,ha];exact h p hp
 | some d =>
  intro p hp
  obtain ⟨h1,h2,h3⟩:=J6 hp
  rw [iF a0 (some d) v _ (by rw [ha];exact hd),iF a0 (some d) v _ (by rw [ha];exact hd),if_neg (by simpa using fun e=>h2 e.symm),if_neg (by simpa using fun e=>h3 e.symm),ha]
  exact h p h1
theorem PT{al:List (Nat×Nat)}{ρ:Operand->Value}(h:∀ x,ρ (sbs al x)=ρ x)(o:Oper):execOp ρ { o with op:=kL al o.op }=execOp ρ o:=by
 obtain ⟨dst,op,type,pos,after,guard⟩:=o
 have hps:∀ ps:Array (Nat×Operand),((ps.toList.map fun p=>(p.1,sbs al p.2)).toArray.map fun (i,x)=>(i,ρ x))=ps.map fun (i,x)=>(i,ρ x):=by
  intro ps
  apply Array.ext'
  simp [h]
 have hcs:∀ x,(match sbs al x with|.const _=>true|_=>false)=(match x with|.const _=>true|_=>false):=by intro x;cases x<;>rfl
 cases op with
 | move x=>simp only [execOp,kL,h]
 | assign x=>simp only [execOp,kL,h]
 | call c =>
  obtain ⟨callee,args,ts⟩:=c
  have h1:((args.toList.map (sbs al)).toArray.map ρ)=args.map ρ:=by
   apply Array.ext'
   simp [h]
  have h2:((args.toList.map (sbs al)).toArray.map fun|.const _=>true|_=>false)=args.map fun|.const _=>true|_=>false:=by
   apply Array.ext'
   simp only [List.map_toArray,Array.toList_map,List.map_map]
   apply List.map_congr_left
   intro x _
   exact hcs x
  cases callee with
  | builtin b =>
   simp only [execOp,kL,resolve,h1]
   exact congrArg (fun z=>(do let d <- (pure { target:=Target.builtin b ts type z,args:=Array.map ρ args }:Sem Deferred);invoke d.target d.args)) h2
  | _=>simp only [execOp,kL,resolve,h1]
 | buildSlice t n ps=>simp only [execOp,kL,hps]
 | build t ps=>simp only [execOp,kL,hps]
 | store t a x=>simp only [execOp,kL,h]
 | indexAddr t x i=>simp only [execOp,kL,h]
 | slice t x lo hi mx=>simp only [execOp,kL,h]
 | field t x k=>simp only [execOp,kL,h]
 | extract x k=>simp only [execOp,kL,h]
 | box t x=>simp only [execOp,kL,h]
 | convert t u x=>simp only [execOp,kL,h]
 | _=>rfl
theorem Db{o:Oper}{a:Act}{next:Act->World->Prop}{Q:Exit->Act->World->Prop}{r:Result Next}(h:o.upon P a (fun a' w'=>(∃ (a0:Act) (v:Value),a0.tmps=a.tmps/\a'=a0.put o.dst v)->next a' w') Q r):o.upon P a next Q r:=by
 cases r with
 | ok x w =>
  cases x with
  | value v=>exact h ⟨a,v,rfl,rfl⟩
  | skip=>exact h ⟨a,_,rfl,rfl⟩
  | enter f args =>
   refine Calls.mono h ?_
   intro e w'
   cases e with
   | returned v=>exact fun h=>h ⟨a,v,rfl,rfl⟩
   | panicked _=>exact fun h=>h
   | outgrown=>exact fun h=>h
  | row row args=>exact Rows.mono h fun v w' h=>h ⟨a,v,rfl,rfl⟩
  | defer d=>exact h ⟨{ a with defers:=d::a.defers },undef,rfl,rfl⟩
  | _=>exact h
 | halt r w =>
  cases r with
  | panic v=>exact h
  | _=>exact h.elim
def Xx(L:Nat->Nat)(P:Program)(ops:Array Oper)(l:List Nat)(al:List (Nat×Nat))(s:AS)(K:AS->Prop):Prop :=
 ∀ B F0 w0 a w (Q:Exit->Act->World->Prop),Den L B F0 w0 s a w->vT al a->(∀ s' a' w',K s'->Den L B F0 w0 s' a' w'->Q .normal a' w')->wpOps P ops Q l a w
theorem BD{o:Oper}{t:List (Nat×AV)}{os:Sto}{al:List (Nat×Nat)}{K:List (Nat×Nat)->List (Nat×AV)->Sto->Prop}(hd:cN n o.dst=true)(h:stp L P os al t o.dst o.op K)
  {B F0:Nat->Prop} {w0:World} {a:Act} {w:World} (cw:Den L B F0 w0 ⟨n,t,os⟩ a w) (hal:vT al a) {next:Act->World->Prop} {Q:Exit->Act->World->Prop}
  (bI:∀ al' t' os' a' w',K al' t' os'->Den L B F0 w0 ⟨n,t',os'⟩ a' w'->vT al' a'->next a' w'):o.wp P a w next Q:=by
 have hsz:a.tmps.size=n:=by obtain ⟨F,own,fp,fs,cw⟩:=cw;exact cw.size
 have dflt:nvc L P os t o.dst (kL al o.op) (K (kr al o.dst))->o.wp P a w next Q:=by
  intro h
  have e:=PT (ρ:=a.eval) (Qy hal) o
  unfold Oper.wp
  rw [<- e]
  refine Db ?_
  have:=BP (o:={ o with op:=kL al o.op }) hd h B F0 w0 a w (fun a' w'=>(∃ (a0:Act) (v:Value),a0.tmps=a.tmps/\a'=a0.put o.dst v)->next a' w') Q cw ?_
  ·exact this
  ·rintro ⟨n',t',os'⟩ a' w' ⟨hn,hK⟩ hD ⟨a0,v,ha0,rfl⟩
   have hn':n=n':=hn.symm
   subst hn'
   exact bI _ _ _ _ _ hK hD (hal.put ha0 (by rw [hsz];exact hd))
 unfold stp at h
 split at h
 ·rename_i j d hop nM
  have hev:(execOp a.eval o).run P w=.ok (.value (a.tmps.getD j undef)) w:=by simp [execOp,hop,Act.eval]
  have hd':cN n (some d)=true:=by rw [<- nM];exact hd
  split at h
  ·obtain ⟨hne,hK⟩:=h
   unfold Oper.wp
   rw [hev]
   simp only [Oper.upon_value,nM]
   refine bI _ _ _ _ _ hK ?_ ?_
   ·obtain ⟨F,own,fp,fs,hD⟩:=cw
    have:=hD.put (x:=.dead) (v:=a.tmps.getD j undef) (fx:=[]) [] (some d) hd' (Kp.refl _ _) (fun _ h=>h) (fun _ h=>.inl h) (by simp [Rep]) (by simp) (by simp)
    simpa [bW,put] using this
   ·have h1:=hal.put (a0:=a) (d:=some d) (v:=a.tmps.getD j undef) rfl (by rw [hsz];exact hd')
    have WQ:¬ d=alF al j:=fun e=>by rw [e,Nat.beq_refl] at hne;cases hne
    intro p hp
    rcases List.mem_cons.1 hp with rfl|hp
    ·rw [iF a (some d) _ _ (by rw [hsz];exact hd'),iF a (some d) _ _ (by rw [hsz];exact hd')]
     simp only [if_true,Option.some.injEq,if_neg WQ]
     exact (Fw hal j).symm
    ·exact h1 p hp
  ·rename_i IA
   unfold Oper.wp
   rw [hev]
   simp only [Oper.upon_value,nM]
   refine bI _ _ _ _ _ h ?_ (hal.put rfl (by rw [hsz];exact hd'))
   obtain ⟨F,own,fp,fs,hD⟩:=cw
   have hr:=hD.slots (alF al j)
   simp only at hr
   rw [Fw hal j,Rep.dP IA hr] at hr
   have:=hD.put (x:=T t (alF al j)) (v:=a.tmps.getD j undef) (fx:=[]) [] (some d) hd' (Kp.refl _ _) (fun _ h=>h) (fun _ h=>.inl h) hr (by simp) (by simp)
   simpa [bW,put] using this
 ·exact dflt h
theorem UA(t:List (Nat×AV))(i:Nat):T (Af t) i=(T t i).unc:=by
 induction t with
 | nil=>rfl
 | cons p t ih =>
  simp only [Af,T]
  cases (p.1 == i)<;>simp [ih]
theorem Rep.unc{F:Nat->Prop}{w:World}{x:AV}{y:Value}{fp:List Nat}(h:Rep L F w x y fp):Rep L F w x.unc y fp:=by
 cases x with
 | cnd g x =>
  cases g with
  | true=>simp only [Rep] at h;exact h.1 (by trivial)
  | false=>exact h
 | _=>exact h
theorem Den.unc{B F0:Nat->Prop}{w0:World}{t:List (Nat×AV)}{os:Sto}{a:Act}{w:World}(h:Den L B F0 w0 ⟨n,t,os⟩ a w):Den L B F0 w0 ⟨n,Af t,os⟩ a w:=by
 obtain ⟨F,own,fp,fs,h⟩:=h
 exact ⟨F,own,fp,fs,{ h with slots:=fun i=>by rw [UA];exact (h.slots i).unc }⟩
theorem Wn.toA{K:List (Nat×AV)->Sto->Prop}{K':AS->Prop}(hKK:∀ t os,K t os->K' ⟨n,t,os⟩):∀ (l:List Nat) (al:List (Nat×Nat)) (t:List (Nat×AV)) (os:Sto),Wn L P ops n K l al t os->Xx L P ops l al ⟨n,t,os⟩ K'
 | [],al,t,os,h=>fun B F0 w0 a w Q cw hal hQ=>hQ _ _ _ (hKK t os (by simpa only [Wn] using h)) cw
 | i::l,al,t,os,h=>by
  intro B F0 w0 a w Q cw hal hQ
  have hsz:a.tmps.size=n:=by obtain ⟨F,own,fp,fs,cw⟩:=cw;exact cw.size
  simp only [Wn] at h
  split at h
  ·exact h.elim
  ·rename_i o ho
   obtain ⟨hd,h⟩:=h
   split at h
   ·rename_i hg
    simp only [wpOps,ho]
    rw [if_pos (by simp [Region.wanted,hg])]
    refine .inl (BD hd h cw hal fun al' t' os' a' w' hK hD MX=>?_)
    exact Wn.toA hKK l al' t' os' hK B F0 w0 a' w' Q hD MX hQ
   ·rename_i j want hg
    split at h
    ·exact h.elim
    ·rename_i d hj
     obtain ⟨hlt,h⟩:=h
     split at h
     ·exact h.elim
     ·rename_i G g hgv
      cases hoj:ops[j]? with
      | none=>rw [hoj] at hj;cases hj
      | some oj =>
       rw [hoj] at hj
       have hy:=pd cw hoj hj hgv hlt
       simp only [wpOps,ho,Region.wanted,hg,hy]
       have Iv:∀ x:AV,Den L B F0 w0 ⟨n,put t o.dst (.cnd false x),os⟩ (a.put o.dst undef) w:=by
        intro x
        obtain ⟨F,own,fp,fs,cw⟩:=cw
        have:=cw.put (x:=.cnd false x) (v:=undef) (fx:=[]) [] o.dst hd (Kp.refl _ _) (fun _ h=>h) (fun _ h=>.inl h) (by simp [Rep]) (by simp) (by simp)
        simpa [bW] using this
       have MW:=hal.put (a0:=a) (v:=undef) rfl (d:=o.dst) (by rw [hsz];exact hd)
       split at h
       ·split at h
        ·obtain ⟨hw,h⟩:=h
         rw [if_neg (by cases G<;>simp_all)]
         exact Wn.toA hKK l _ _ _ h B F0 w0 _ w Q (Iv .dead) MW hQ
        ·obtain ⟨hok,h⟩:=h
         obtain ⟨x,C,⟨rfl,hK⟩,_,hl⟩:=qy h
         cases hw:(G && (g == want)) with
         | true =>
          rw [hw] at hK hok hl
          simp at hw
          obtain ⟨rfl,rfl⟩:=hw
          rw [if_pos (by simp)]
          have WT:LOp L P ⟨n,t,os⟩ o x []:=LOp.DS rfl hok (hl rfl) ⟨n,t,os⟩ (fun _ _=>rfl) rfl
          refine .inl (Db ?_)
          refine (WT.cnd.opW hd (K:=fun s'=>s'=⟨n,put t o.dst (.cnd true x),os⟩) rfl) B F0 w0 a w _ Q cw fun s' a' w' e h'=>?_
          subst e
          rintro ⟨a0,v,ha0,rfl⟩
          refine Wn.toA hKK l _ _ _ hK B F0 w0 _ w' Q ?_ (hal.put ha0 (by rw [hsz];exact hd)) hQ
          simpa [upd,bW] using h'
         | false =>
          rw [hw] at hK
          rw [if_neg (by cases G<;>simp_all)]
          refine Wn.toA hKK l _ _ _ hK B F0 w0 _ w Q ?_ MW hQ
          simpa [upd,bW] using Iv x
       ·cases hw:(G && (g == want)) with
        | true =>
         have h1:=h.1 hw
         simp at hw
         obtain ⟨rfl,rfl⟩:=hw
         rw [if_pos (by simp)]
         refine .inl (BD hd h1 cw.unc hal fun al' t' os' a' w' hK hD MX=>?_)
         exact Wn.toA hKK l al' t' os' hK B F0 w0 a' w' Q hD MX hQ
        | false =>
         rw [if_neg (by cases G<;>simp_all)]
         exact Wn.toA hKK l _ _ _ (h.2 (by rw [hw];rfl)) B F0 w0 _ w Q (Iv .dead) MW hQ
theorem Wn.nU{K:List (Nat×AV)->Sto->Prop}{K':AS->Prop}(hKK:∀ t os,K t os->K' ⟨n,t,os⟩)(l:List Nat)(t:List (Nat×AV))(os:Sto)(h:Wn L P ops n K l [] t os):gK L P ops l ⟨n,t,os⟩ K' :=
 fun B F0 w0 a w Q cw hQ=>Wn.toA hKK l [] t os h B F0 w0 a w Q cw (fun p hp=>by cases hp) hQ
end
section
variable {L : Nat -> Nat} {P : Program} {n : Nat} {t : List (Nat × AV)} {o : Sto} {Q : Exit -> AS -> Prop} {id : Nat} {ops : Array Oper}
theorem AW.Tk{c:Code}(h:∀ K:List (Nat×AV)->Sto->Prop,(∀ t o,AW L P c ⟨n,t,o⟩ Q->K t o)->Wn L P ops n K (List.range ops.size) [] t o):AW L P (.seq (.region id ops false) c) ⟨n,t,o⟩ Q :=
 AW.seq (AW.region (Wn.nU (K:=fun t o=>AW L P c ⟨n,t,o⟩ Q) (fun _ _ h=>h) _ _ _ (h _ (fun _ _ h=>h))))
theorem AW.LO(h:∀ K:List (Nat×AV)->Sto->Prop,(∀ t o,Q .normal ⟨n,t,o⟩->K t o)->Wn L P ops n K (List.range ops.size) [] t o):AW L P (.region id ops false) ⟨n,t,o⟩ Q :=
 AW.region (Wn.nU (K:=fun t o=>Q .normal ⟨n,t,o⟩) (fun _ _ h=>h) _ _ _ (h _ (fun _ _ h=>h)))
theorem AW.Tn [ku P]{c:Code} (h:∀ K:List (Nat×AV)->List (AV×List Nat)->Prop,(∀ t D,(gh ops (D.map Prod.snd)=true/\∀ K':List (Nat×AV)->Sto->Prop,(∀ t o,AW L P c ⟨n,t,o⟩ Q->K' t o)->Wn L P ops n K' (List.range' D.length (ops.size - D.length)) [] t o)->K t D) ->
   W L P ops [] n o (fun t D _=>K t D) (List.range' 0 ops.size) t []):AW L P (.seq (.region id ops true) c) ⟨n,t,o⟩ Q :=
 AW.seq (AW.draw (W.draw _ 0 _ _ rfl (h (fun t D=>gh ops (D.map Prod.snd)=true/\gK L P ops (List.range' D.length (ops.size - D.length)) ⟨n,t,o⟩ (fun s'=>AW L P c s' Q)) (fun t D h=>⟨h.1,Wn.nU (K:=fun t o=>AW L P c ⟨n,t,o⟩ Q) (fun _ _ h=>h) _ _ _ (h.2 _ (fun _ _ h=>h))⟩))))
theorem AW.I6 [ku P] (h:∀ K:List (Nat×AV)->List (AV×List Nat)->Prop,(∀ t D,(gh ops (D.map Prod.snd)=true/\∀ K':List (Nat×AV)->Sto->Prop,(∀ t o,Q .normal ⟨n,t,o⟩->K' t o)->Wn L P ops n K' (List.range' D.length (ops.size - D.length)) [] t o)->K t D) ->
   W L P ops [] n o (fun t D _=>K t D) (List.range' 0 ops.size) t []):AW L P (.region id ops true) ⟨n,t,o⟩ Q :=
 AW.draw (W.draw _ 0 _ _ rfl (h (fun t D=>gh ops (D.map Prod.snd)=true/\gK L P ops (List.range' D.length (ops.size - D.length)) ⟨n,t,o⟩ (fun s'=>Q .normal s')) (fun t D h=>⟨h.1,Wn.nU (K:=fun t o=>Q .normal ⟨n,t,o⟩) (fun _ _ h=>h) _ _ _ (h.2 _ (fun _ _ h=>h))⟩)))
end
end
end Go.Ab
namespace Go.Ab
end Go.Ab
