/- Part of a proof. -/
import Derived.Test.YtpelkkfkecfmbaaGreatDoorH1
set_option linter.all false
namespace Go.Ab
open Go.RowKit (Below)
section
section
variable {L : Nat -> Nat} {P : Program} {s : AS} {Q : Exit -> AS -> Prop} {n0 : Nat} {t0 : List (Nat × AV)} {os : List (Nat × Option (List AV))}
def AW.Yd{c:Code}(ks:List Nat)(o':List (Nat×Option (List AV)))(ho:∀ b cells,O o' b=some cells->O os b=some cells)(h:AW L P c ⟨n0,dP t0 ks,o'⟩ Q):AW L P c ⟨n0,t0,os⟩ Q :=
 AW.weaken h rfl (tZ t0 ks) ho
def AW.X8{c:Code}(ks:List Nat)(I:Nat->daa->List (Nat×Option (List AV))->Prop)(n:Nat)(o0:List (Nat×Option (List AV)))(ho:∀ b cells,O o0 b=some cells->O os b=some cells)(h0:I n (dP t0 ks) o0)
  (round:∀ m t o,I m t o->AW L P c ⟨n0,t,o⟩ (thenQ (fun s'=>s'.n=n0/\∃ m' o',m'<m/\I m' (dP s'.t ks) o'/\∀ b cells,O o' b=some cells->O s'.o b=some cells) Q)):AW L P (.loop c) ⟨n0,t0,os⟩ Q:=by
 refine AW.Yd ks o0 ho (AW.loop (fun m s'=>s'.n=n0/\I m s'.t s'.o) n ⟨rfl,h0⟩ ?_);rintro m ⟨n',t,o'⟩ ⟨rfl,hI⟩;refine fun B F0 w0 a w hd=>wp_mono (round m t o' hI B F0 w0 a w hd) ?_;rintro e a' w' ⟨s',h1,h2⟩
 cases e with
 | normal =>
  obtain ⟨hn,m',o'',hm,hI',ho'⟩:=h1;exact ⟨⟨_,dP s'.t ks,o''⟩,⟨m',hm,rfl,hI'⟩,h2.weaken hn.symm (tZ s'.t ks) ho'⟩
 | _=>exact ⟨s',h1,h2⟩
end
def fq(b:Nat)(c:Option (List AV))(o:List (Nat×Option (List AV))):O ((b,c)::o) b=c:=by simp [O]
def vA{b b':Nat}(h:b'≠b)(c:Option (List AV))(o:List (Nat×Option (List AV))):O ((b',c)::o) b=O o b:=by simp [O,h]
def wrap_i64{x:Int}(h1:-9223372036854775808<=x)(h2:x<=9223372036854775807):IntKind.i64.wrap x=x:=by rw [IntKind.wrap_i64];omega
attribute [go_sem] W sw List.size_toArray List.length_cons List.length_nil List.range List.range.loop List.range' List.getElem?_toArray List.getElem?_cons_zero List.getElem?_cons_succ isL cz ovc ev T upd put killL eW AV.cW AV.nownL true_and List.map_cons List.map_nil Nat.zero_add cond_true cond_false Nat.blt Nat.ble List.nil_append C0 pM unV Option.bind_some Pa okc evS AV.strip implies_true and_true if_true Op.operands Bool.true_and beq_true Bool.and_true Bool.cond_false_right Bool.cond_true_left imp_self forall_const BD pF Pv KT Option.map_some val List.drop_zero List.drop_succ_cons List.take_succ_cons List.take_zero List.head?_cons Bool.and_self Bool.not_true Bool.not_false AV.elem AV.cells AV.bg AV.frz dP List.cons_append oM vr fnA AV.closed AV.cy List.all_cons List.all_nil List.contains List.elem List.flatMap_cons List.flatMap_nil List.append_nil Option.isSome_some List.nodup_nil AV.one fq gM kills jg Int.toNat_natCast Int.natCast_nonneg List.length_map Option.getD_some Value.oneCell' BEq.rfl List.toList_toArray avz HF Int.ofNat_lt Int.ofNat_le
end
section
def eY.frz{L:eaa}{P:Program}{f:FuncId}{args:List AV}{res:AV}(h:eY L P f args res):eY L P f args res.frz:=by
 intro w F vs hF ht hr;refine (h w F vs hF ht hr).mono ?_;rintro e w' ⟨v,F',fp,rfl,h1,h2,h3,h4,h5,h6⟩;refine ⟨v,fun b=>F' b\/b∈fp,[],rfl,h1,fun b hb=>.inl (h2 b hb),?_,Rep.frz (fun b hb=>.inl hb) (fun b hb=>.inr hb) h4,QC,QC⟩;rintro b (hb|hb)
 ·exact h3 b hb
 ·exact .inr (h6 b hb).2
def y9(r:ResultVar)(tmps:Array Value):Sem Value :=
 match r with
 | .tmp t=>pure (tmps.getD t undef)
 | .cell a t=>do loadVar t (<- asAddr (tmps.getD a undef))
def aem(L:eaa)(P:Program)(s:AS)(r:ResultVar)(x:AV):Prop :=
 ∀ B F0 w0 a w,Den L B F0 w0 s a w->∃ v F' fp,(y9 r a.tmps).run P w=.ok v w/\(∀ b,F0 b->F' b)/\(∀ b,F' b->F0 b\/(¬ B b/\b<w.heap.size)) /\
  Rep L F' w x v fp/\fp.Nodup/\∀ b,b∈fp->¬ F' b/\¬ B b/\b<w.heap.size
section
variable {L : Nat -> Nat} {P : Program} {s : AS} {fn : Func} {r : ResultVar} {x : AV}
def au.jL{F:faa}{w:World}{l:List AV}{vs:List Value}{fp:List Nat}(r:au L F w l vs fp)(i n:Nat):∃ f,au L F w ((l.drop i).take n) ((vs.drop i).take n) f/\f.Sublist fp:=by
 have hl:=r.len
 have e1:l=l.take i++((l.drop i).take n++(l.drop i).drop n):=by rw [List.take_append_drop,List.take_append_drop]
 have r0:=r;rw [e1] at r;obtain ⟨v1,v23,f1,f23,rfl,rfl,r1,r23⟩:=r.split;obtain ⟨v2,v3,f2,f3,rfl,rfl,r2,r3⟩:=r23.split;obtain ⟨f,hf,_⟩:=r0.cut i n;have h1:=r1.len
 have h2:=r2.len
 have e2:((v1++(v2++v3)).drop i).take n=v2:=by
  simp only [List.length_take,List.length_drop] at h1 h2;have h3:=r3.len;simp only [List.length_drop] at h3;by_cases hi:i<=l.length
  ·have hv1:v1.length=i:=by omega
   rw [<- hv1,List.drop_left];by_cases hn:n<=l.length - i
   ·have hv2:v2.length=n:=by omega
    rw [<- hv2,List.take_left]
   ·have hv3:v3=[]:=List.eq_nil_of_length_eq_zero Ir;subst hv3;rw [List.append_nil,List.take_of_length_le Ir]
  ·have hv2:v2=[]:=List.eq_nil_of_length_eq_zero Ir
   have hv3:v3=[]:=List.eq_nil_of_length_eq_zero Ir;subst hv2 hv3;have:v1.drop i=[]:=List.drop_eq_nil_of_le Ir;simp [this]
 rw [e2];exact ⟨f2,r2,(List.sublist_append_left f2 f3).trans (List.sublist_append_right f1 _)⟩
end
end
section
def fU(o:List (Nat×Option (List AV)))(b:Nat):Prop:=∀ b' cells,O o b'=some cells->b'≠b
section
variable {L : Nat -> Nat} {P : Program} {n : Nat} {t : List (Nat × AV)} {o : List (Nat × Option (List AV))} {ops : Array Oper} {i : Nat} {l : List Nat} {K' : AS -> Prop} {oo : Oper}
def cv.fresh{B:faa}{F0:faa}{w0:World}{F:faa}{own:Nat->Own}{fp fs:Nat->List Nat}{s:AS}{a:Act}{w:World}(h:cv L B F0 w0 F own fp fs s a w):fU s.o w.heap.size:=by intro b' cells hb e;have:=(h.ol b' (by rw [(h.obj b' cells hb).1];simp)).2;omega
end
def mkC{α:Type}(f:α->AV)(zs:List Value)(l:List α)(k:Nat):List AV:=((l.take k).map f).flatMap AV.cells++(List.replicate (l.length - k) zs).flatten.map avz
def zL{α:Type}(f:α->AV)(sz:Nat)(hf:∀ x,(f x).cells.length=sz):∀ l:List α,((l.map f).flatMap AV.cells).length=l.length * sz
 | []=>by simp
 | x::xs=>by
  rw [List.map_cons,List.flatMap_cons,List.length_append,hf,zL f sz hf xs,List.length_cons,Nat.add_mul];omega
def RX(zs:List Value)(sz:Nat)(hz:zs.length=sz)(m:Nat):((List.replicate m zs).flatten.map avz).length=m * sz:=by simp [hz]
def kz{α:Type}(f:α->AV)(zs:List Value)(l:List α):mkC f zs l 0=(List.replicate l.length zs).flatten.map avz:=by simp [mkC]
def lZ{α:Type}(f:α->AV)(zs:List Value)(sz:Nat)(hf:∀ x,(f x).cells.length=sz)(hz:zs.length=sz)(l:List α)(k:Nat)(hk:k<=l.length):(mkC f zs l k).length=l.length * sz:=by rw [mkC,List.length_append,zL f sz hf,RX zs sz hz,List.length_take,Nat.min_eq_left hk,<- Nat.add_mul];congr 1;omega
def Pm{α:Type}(f:α->AV)(zs:List Value)(sz:Nat)(hf:∀ x,(f x).cells.length=sz)(hz:zs.length=sz)(l:List α)(k:Nat)(hk:k<l.length) :
  (mkC f zs l k).take (k * sz)++(f l[k]).cells++(mkC f zs l k).drop (k * sz+sz)=mkC f zs l (k+1):=by
 have hA:(((l.take k).map f).flatMap AV.cells).length=k * sz:=by rw [zL f sz hf,List.length_take,Nat.min_eq_left Ir]
 have e1:(mkC f zs l k).take (k * sz)=((l.take k).map f).flatMap AV.cells:=by rw [mkC,<- hA,List.take_left]
 have e2:(mkC f zs l k).drop (k * sz+sz)=(List.replicate (l.length - (k+1)) zs).flatten.map avz:=by
  rw [mkC,<- List.drop_drop,<- hA,List.drop_left,show l.length - k=(l.length - (k+1))+1 by omega,List.replicate_succ,List.flatten_cons,List.map_append];have:(zs.map avz).length=sz:=by simpa using hz
  rw [<- this,List.drop_left]
 rw [e1,e2,mkC,List.take_succ_eq_append_getElem hk,List.map_append,List.flatMap_append];simp
def SC{α:Type}(f:α->AV)(zs:List Value)(l:List α):mkC f zs l l.length=(l.map f).flatMap AV.cells:=by simp [mkC]
end
section
abbrev Sto:=List (Nat×Option (List AV))
def fE(t:daa)(i:Nat)(x:AV)(j:Nat):T ((i,x)::t) j=if i=j then x else T t j:=by
 by_cases h:i=j
 ·simp [T,h]
 ·have:(i == j)=false:=by simpa using h
  simp [T,h,this]
section
variable {L : Nat -> Nat} {F : Nat -> Prop} {w : World}
def au.put:∀ {l:List AV} {vs:List Value} {fp:List Nat} {k:Nat} {x:AV},au L F w l vs fp->l[k]? = some x ->
  ∃ y f1 fx f2,vs[k]? = some y/\fp=f1++(fx++f2)/\Rep L F w x y fx/\∀ x' fx',Rep L F w x' y fx'->au L F w (l.set k x') vs (f1++(fx'++f2))
 | [],_,_,_,_,_,h=>by simp at h
 | z::l,vs,fp,0,x,r,h=>by
  simp at h;subst h;simp only [au] at r;obtain ⟨y,vs',f1,f2,rfl,rfl,hx,hxs⟩:=r;exact ⟨y,[],f1,f2,QC,QC,hx,fun x' fx' h'=>by simp only [List.set_cons_zero,au];exact ⟨y,vs',fx',f2,rfl,QC,h',hxs⟩⟩
 | z::l,vs,fp,k+1,x,r,h=>by
  simp only [au] at r;obtain ⟨y,vs',f1,f2,rfl,rfl,hx,hxs⟩:=r;obtain ⟨y',g1,gx,g2,h1,rfl,h2,h3⟩:=au.put hxs (k:=k) (by simpa using h);exact ⟨y',f1++g1,gx,g2,by simpa using h1,QC,h2,fun x' fx' h'=>by simp only [List.set_cons_succ,au];exact ⟨y,vs',f1,g1++(fx'++g2),rfl,QC,hx,h3 x' fx' h'⟩⟩
end
def Imp(L:eaa)(s:AS)(Q:AS->Prop):Prop:=∀ B F0 w0 a w,Den L B F0 w0 s a w->∃ s',Q s'/\Den L B F0 w0 s' a w
section
variable {L : Nat -> Nat} {P : Program} {s : AS}
def AW.imp{c:Code}{Q:Exit->AS->Prop}(h:Imp L s (fun s'=>AW L P c s' Q)):AW L P c s Q:=by intro B F0 w0 a w hd;obtain ⟨s',h1,h2⟩:=h B F0 w0 a w hd;exact h1 B F0 w0 a w h2
def Imp.id{Q:AS->Prop}(h:Q s):Imp L s Q:=fun _ _ _ _ _ hd=>⟨s,h,hd⟩
def Imp.bind{Q R:AS->Prop}(h:Imp L s Q)(hq:∀ s,Q s->Imp L s R):Imp L s R:=fun B F0 w0 a w hd=>by
 obtain ⟨s',h1,h2⟩:=h B F0 w0 a w hd;exact hq _ h1 B F0 w0 a w h2
end
section
variable {L : Nat -> Nat} {n : Nat} {t : List (Nat × AV)} {o : Sto} {Q : AS -> Prop}
def Imp.frz(i:Nat)(h:Q ⟨n,(i,(T t i).frz)::t,o⟩):Imp L ⟨n,t,o⟩ Q:=by
 intro B F0 w0 a w hd;refine ⟨_,h,?_⟩;obtain ⟨F,own,fp,fs,hd⟩:=hd
 classical
 let F':Nat->Prop:=fun b=>F b\/b∈fp i
 let own':Nat->Own:=fun b=>if b∈fp i then .none else own b
 have hid:Ext (fun _=>True) w w:=⟨Nat.le_refl _,fun _ _=>rfl,fun b c T z hc=>⟨c,hc,rfl⟩⟩
 have hnot:∀ b,own b≠.slot i->own' b=own b:=fun b hb=>by
  have:b ∉ fp i:=fun hm=>hb (hd.so i b hm);simp only [own',if_neg this]
 refine ⟨F',own',fun j=>if j=i then [] else fp j,fs,{ below:=hd.below,hB:=hd.hB,tb:=hd.tb,f0:=fun b hb=>.inl (hd.f0 b hb),fl:=?_,ol:=?_,defers:=hd.defers,size:=hd.size,slots:=?_,sn:=?_,so:=?_,obj:=?_ }⟩
 ·rintro b (hb|hb)
  ·have:=hd.fl b hb;exact ⟨by simp only [own'];split<;>simp [this.1],this.2⟩
  ·have:=hd.iq hb;exact ⟨by simp only [own',if_pos hb],this.2,.inr this.1⟩
 ·intro b hb;simp only [own'] at hb;split at hb
  ·exact absurd rfl hb
  ·exact hd.ol b hb
 ·intro j;rw [fE];by_cases e:i=j
  ·subst e;simp only [if_true];exact Rep.frz (fun b hb=>.inl hb) (fun b hb=>.inr hb) (hd.slots i)
  ·have e':¬ j=i:=fun h=>e h.symm;simp only [if_neg e,if_neg e'];exact Rep.ext hid (fun b hb=>⟨.inl hb,trivial⟩) (fun _ _=>trivial) (hd.slots j)
 ·intro j;split
  ·simp
  ·exact hd.sn j
 ·intro j b hb;split at hb
  ·simp at hb
  ·rename_i e;have:=hd.so j b hb;rw [hnot b (by rw [this];simpa using e)];exact this
 ·intro b cells hO;obtain ⟨h1,h2,h3,c,Ty,vals,rest,h4,h5,h6⟩:=hd.obj b cells hO;refine ⟨by rw [hnot b (by rw [h1];simp)];exact h1,h2,fun k hk=>by rw [hnot k (by rw [h3 k hk];simp)];exact h3 k hk,c,Ty,vals,rest,h4,h5,?_⟩;exact au.ext hid (fun b hb=>⟨.inl hb,trivial⟩) (fun _ _=>trivial) h6
def y6{w:World}{b:Nat}{vals:List Value}(h:fP w b 0 vals){m:Nat}(ho:mE w b m):∃ c Ty rest,w.heap[b]? = some (.cells c Ty (0,0))/\c.toList=vals++rest:=by
 obtain ⟨c,T,z,h1,h2⟩:=h;obtain ⟨c',T',h3,_⟩:=ho;rw [h1] at h3;cases h3;refine ⟨c,T,c.toList.drop vals.length,h1,?_⟩
 have:c.toList.take vals.length=vals:=by
  apply List.ext_getElem?;intro i;rw [List.getElem?_take];split
  ·rename_i hi;have:=h2 i hi;rw [Nat.zero_add] at this;rw [Array.getElem?_toList];exact this
  ·rw [List.getElem?_eq_none Ir]
 conv=>lhs;rw [<- List.take_append_drop vals.length c.toList,this]
def Imp.unfold(i:Nat){sz:Nat}{l:List AV}(hT:T t i=.sl true sz l)(hl:l≠[])(hel:∀ x,x∈l->x.elem sz=true)
  (h:∀ b,fU o b->Q ⟨n,(i,.arr b 0 l.length sz)::t,(b,some (l.flatMap AV.cells))::o⟩):Imp L ⟨n,t,o⟩ Q:=by
 intro B F0 w0 a w hd;obtain ⟨F,own,fp,fs,hd⟩:=hd;have hr:=hd.slots i;simp only at hr;rw [hT] at hr;simp only [Rep] at hr;rcases hr with ⟨_,e,_⟩|⟨b,off,cap,vals,fp',hy,h1,h2,hrow,he,ho⟩
 ·exact absurd e hl
 obtain ⟨hfp,rfl,iD⟩:fp i=b::fp'/\off=0/\mE w b (off+cap * sz):=by
  rcases ho with ⟨_,h⟩|⟨e,_⟩
  ·exact h
  ·cases e
 have hsb:own b=.slot i:=hd.so i b (by rw [hfp];simp)
 have hnd:=hd.sn i;rw [hfp,List.nodup_cons] at hnd
 have hfr:fU o b:=by
  intro b' cells hO e;have:=(hd.obj b' cells hO).1;rw [e,hsb] at this;cases this
 refine ⟨_,h b hfr,?_⟩;obtain ⟨c,Ty,rest,hc,hcl⟩:=y6 hrow iD
 classical
 let own':Nat->Own:=fun k=>if k=b then .key else if k∈fp' then .obj b else own k
 have hnot:∀ k,own k≠.slot i->own' k=own k:=fun k hk=>by
  have n1:k≠b:=fun e=>hk (by rw [e];exact hsb)
  have n2:k ∉ fp':=fun hm=>hk (hd.so i k (by rw [hfp];simp [hm]));simp only [own',if_neg n1,if_neg n2]
 refine ⟨F,own',fun j=>if j=i then [] else fp j,fun k=>if k=b then fp' else fs k,{ below:=hd.below,hB:=hd.hB,tb:=hd.tb,f0:=hd.f0,fl:=?_,ol:=?_,defers:=hd.defers,size:=hd.size,slots:=?_,sn:=?_,so:=?_,obj:=?_ }⟩
 ·intro k hk;have:=hd.fl k hk;exact ⟨by rw [hnot k (by rw [this.1];simp)];exact this.1,this.2⟩
 ·intro k hk;by_cases e1:k=b
  ·subst e1;exact hd.ol k (by rw [hsb];simp)
  ·by_cases e2:k∈fp'
   ·exact hd.iq (i:=i) (by rw [hfp];simp [e2])
   ·simp only [own',if_neg e1,if_neg e2] at hk;exact hd.ol k hk
 ·intro j;rw [fE];by_cases e:i=j
  ·subst e;simp only [if_true,Rep];exact ⟨trivial,cap,hy,h1,h2,iD⟩
  ·have e':¬ j=i:=fun h=>e h.symm;simp only [if_neg e,if_neg e'];exact hd.slots j
 ·intro j;split
  ·simp
  ·exact hd.sn j
 ·intro j k hk;split at hk
  ·simp at hk
  ·rename_i e;have:=hd.so j k hk;rw [hnot k (by rw [this];simpa using e)];exact this
 ·intro q cells hO;simp only [O] at hO;by_cases e:b=q
  ·subst e;rw [if_pos rfl] at hO;cases hO;refine ⟨by simp [own'],by simpa using hnd.2,fun k hk=>?_,c,Ty,vals,rest,hc,hcl,by simpa using bZ.flat hel he⟩;simp only [if_true] at hk;have n1:k≠b:=fun e=>hnd.1 (by rw [<- e];exact hk);simp only [own',if_neg n1,if_pos hk]
  ·rw [if_neg e] at hO;have e':¬ q=b:=fun h=>e h.symm;obtain ⟨g1,g2,g3,g4⟩:=hd.obj q cells hO;simp only [if_neg e'];exact ⟨by rw [hnot q (by rw [g1];simp)];exact g1,g2,fun k hk=>by rw [hnot k (by rw [g3 k hk];simp)];exact g3 k hk,g4⟩
def Imp.fold(i:Nat){b len sz:Nat}{cells l:List AV}(hT:T t i=.arr b 0 len sz)(hO:O o b=some cells)(hlen:l.length=len)(hfl:l.flatMap AV.cells=cells.take (len * sz))(hel:∀ x,x∈l->x.elem sz=true)
  (h:Q ⟨n,(i,.sl true sz l)::t,(b,none)::o⟩):Imp L ⟨n,t,o⟩ Q:=by
 intro B F0 w0 a w hd;refine ⟨_,h,?_⟩;obtain ⟨F,own,fp,fs,hd⟩:=hd;have hr:=hd.slots i;simp only at hr;rw [hT] at hr;simp only [Rep] at hr;obtain ⟨hfp,cap,hv,hlc,hlL,iD⟩:=hr;obtain ⟨hkey,j1,eD,c,Ty,vals,rest,hc,hcl,gF⟩:=hd.obj b cells hO;obtain ⟨f,hl2,hsub⟩:=gF.jL 0 (len * sz)
 have hrow:fP w b 0 vals:=⟨c,Ty,_,hc,fun i hi=>by rw [Nat.zero_add,<- Array.getElem?_toList,hcl,List.getElem?_append_left hi]⟩
 classical
 let own':Nat->Own:=fun k=>if k=b then .slot i else if k∈f then .slot i else own k
 have hnot:∀ k,own k≠.key->own k≠.obj b->own' k=own k:=fun k h1 h2=>by
  have n1:k≠b:=fun e=>h1 (by rw [e];exact hkey)
  have n2:k ∉ f:=fun hm=>h2 (eD k (hsub.subset hm));simp only [own',if_neg n1,if_neg n2]
 refine ⟨F,own',fun j=>if j=i then b::f else fp j,fs,{ below:=hd.below,hB:=hd.hB,tb:=hd.tb,f0:=hd.f0,fl:=?_,ol:=?_,defers:=hd.defers,size:=hd.size,slots:=?_,sn:=?_,so:=?_,obj:=?_ }⟩
 ·intro k hk;have:=hd.fl k hk;exact ⟨by rw [hnot k (by rw [this.1];simp) (by rw [this.1];simp)];exact this.1,this.2⟩
 ·intro k hk;by_cases e1:k=b
  ·subst e1;exact hd.ol k (by rw [hkey];simp)
  ·by_cases e2:k∈f
   ·exact hd.ol k (by rw [eD k (hsub.subset e2)];simp)
   ·simp only [own',if_neg e1,if_neg e2] at hk;exact hd.ol k hk
 ·intro j;rw [fE];by_cases e:i=j
  ·subst e;simp only [if_true,Rep];refine .inr ⟨b,0,cap,(vals.drop 0).take (len * sz),f,by rw [hlen];exact hv,Ir,Ir,?_,?_,.inl ⟨by trivial,rfl,rfl,iD⟩⟩
   ·have:=hrow.cut 0 (len * sz);simpa using this
   ·refine au.oO hel ?_;rw [hfl];simpa using hl2
  ·have e':¬ j=i:=fun h=>e h.symm;simp only [if_neg e,if_neg e'];exact hd.slots j
 ·intro j;split
  ·rw [List.nodup_cons];refine ⟨fun hm=>?_,hsub.nodup j1⟩;have e:=eD b (hsub.subset hm);rw [hkey] at e;cases e
  ·exact hd.sn j
 ·intro j k hk;split at hk
  ·rename_i e;subst e;rcases List.mem_cons.1 hk with rfl|hk
   ·simp [own']
   ·simp only [own'];split<;>simp [hk]
  ·have:=hd.so j k hk;rw [hnot k (by rw [this];simp) (by rw [this];simp)];exact this
 ·intro q cs hq;simp only [O] at hq;by_cases e:b=q
  ·rw [if_pos e] at hq;cases hq
  ·rw [if_neg e] at hq;obtain ⟨g1,g2,g3,g4⟩:=hd.obj q cs hq;have n1:q≠b:=fun h=>e h.symm
   have n2:q ∉ f:=fun hm=>by have:=eD q (hsub.subset hm);rw [g1] at this;cases this
   refine ⟨by simp only [own',if_neg n1,if_neg n2];exact g1,g2,fun k hk=>?_,g4⟩;rw [hnot k (by rw [g3 k hk];simp) (by rw [g3 k hk];simpa using n1)];exact g3 k hk
def Imp.Lb{b0 k b len sz:Nat}{cells0 cells l:List AV}(hO0:O o b0=some cells0)(hk:cells0[k]? = some (.arr b 0 len sz))(hO:O o b=some cells)(hne:b≠b0)(hlen:l.length=len)(hfl:l.flatMap AV.cells=cells.take (len * sz))(hel:∀ x,x∈l->x.elem sz=true)
  (h:Q ⟨n,t,(b,none)::(b0,some (cells0.set k (.sl true sz l)))::o⟩):Imp L ⟨n,t,o⟩ Q:=by
 intro B F0 w0 a w hd;refine ⟨_,h,?_⟩;obtain ⟨F,own,fp,fs,hd⟩:=hd;obtain ⟨uN,EB,uO,c0,Ty0,mF,Er,hc0,wU,K1⟩:=hd.obj b0 cells0 hO0;obtain ⟨y,f1,fx,f2,hvk,qN,hr,hset⟩:=K1.put hk;simp only [Rep] at hr;obtain ⟨rfl,cap,hv,hlc,hlL,iD⟩:=hr;rw [List.nil_append] at qN;obtain ⟨hkey,j1,eD,c,Ty,vals,rest,hc,hcl,gF⟩:=hd.obj b cells hO;obtain ⟨f,hl2,hsub⟩:=gF.jL 0 (len * sz)
 have hrow:fP w b 0 vals:=⟨c,Ty,_,hc,fun i hi=>by rw [Nat.zero_add,<- Array.getElem?_toList,hcl,List.getElem?_append_left hi]⟩
 classical
 let own':Nat->Own:=fun q=>if q=b then .obj b0 else if q∈f then .obj b0 else own q
 have hnot:∀ q,own q≠.key->own q≠.obj b->own' q=own q:=fun q h1 h2=>by
  have n1:q≠b:=fun e=>h1 (by rw [e];exact hkey)
  have n2:q ∉ f:=fun hm=>h2 (eD q (hsub.subset hm));simp only [own',if_neg n1,if_neg n2]
 refine ⟨F,own',fp,fun q=>if q=b0 then f1++((b::f)++f2) else fs q,{ below:=hd.below,hB:=hd.hB,tb:=hd.tb,f0:=hd.f0,fl:=?_,ol:=?_,defers:=hd.defers,size:=hd.size,slots:=hd.slots,sn:=hd.sn,so:=?_,obj:=?_ }⟩
 ·intro k hk;have:=hd.fl k hk;exact ⟨by rw [hnot k (by rw [this.1];simp) (by rw [this.1];simp)];exact this.1,this.2⟩
 ·intro k hk;by_cases e1:k=b
  ·subst e1;exact hd.ol k (by rw [hkey];simp)
  ·by_cases e2:k∈f
   ·exact hd.ol k (by rw [eD k (hsub.subset e2)];simp)
   ·simp only [own',if_neg e1,if_neg e2] at hk;exact hd.ol k hk
 ·intro j k hk;have:=hd.so j k hk;rw [hnot k (by rw [this];simp) (by rw [this];simp)];exact this
 ·intro q cs hq;simp only [O] at hq;by_cases e:b=q
  ·rw [if_pos e] at hq;cases hq
  ·rw [if_neg e] at hq;have n1:q≠b:=fun h=>e h.symm;by_cases e2:b0=q
   ·subst e2;rw [if_pos rfl] at hq;cases hq;simp only [if_true];have n2:b0 ∉ f:=fun hm=>by have:=eD b0 (hsub.subset hm);rw [uN] at this;cases this
    have hfb:∀ q,q∈f1\/q∈f2->q≠b/\q ∉ f:=by
     intro q hq;have e1:=uO q (by rw [qN];rcases hq with h|h<;>simp [h]);refine ⟨fun e=>by (rw [e,hkey] at e1;cases e1),fun hm=>?_⟩;have:=eD q (hsub.subset hm);rw [e1] at this;cases this;exact hne rfl
    refine ⟨by simp only [own',if_neg n1,if_neg n2];exact uN,?_,fun q hq=>?_,c0,Ty0,mF,Er,hc0,wU,?_⟩
    ·have hnd:=EB;rw [qN,List.nodup_append] at hnd;obtain ⟨hn1,hn2,hn3⟩:=hnd;rw [List.nodup_append];refine ⟨hn1,?_,fun q hq q' hq' e=>?_⟩
     ·rw [List.nodup_append];refine ⟨?_,hn2,fun q hq q' hq' e=>?_⟩
      ·rw [List.nodup_cons];refine ⟨fun hm=>?_,hsub.nodup j1⟩;have e:=eD b (hsub.subset hm);rw [hkey] at e;cases e
      ·subst e;have:=hfb q (.inr hq');rcases List.mem_cons.1 hq with e|e
       ·exact this.1 e
       ·exact this.2 e
     ·subst e;have:=hfb q (.inl hq);rcases List.mem_append.1 hq' with e|e
      ·rcases List.mem_cons.1 e with e|e
       ·exact this.1 e
       ·exact this.2 e
      ·exact hn3 q hq q e rfl
    ·rcases List.mem_append.1 hq with hq|hq
     ·have:=hfb q (.inl hq);simp only [own',if_neg this.1,if_neg this.2];exact uO q (by rw [qN];simp [hq])
     ·rcases List.mem_append.1 hq with hq|hq
      ·rcases List.mem_cons.1 hq with rfl|hq
       ·simp [own']
       ·simp only [own'];split<;>simp [hq]
      ·have:=hfb q (.inr hq);simp only [own',if_neg this.1,if_neg this.2];exact uO q (by rw [qN];simp [hq])
    ·refine hset (.sl true sz l) (b::f) ?_;simp only [Rep];refine .inr ⟨b,0,cap,(vals.drop 0).take (len * sz),f,by rw [hlen];exact hv,Ir,Ir,?_,?_,.inl ⟨by trivial,rfl,rfl,iD⟩⟩
     ·have:=hrow.cut 0 (len * sz);simpa using this
     ·refine au.oO hel ?_;rw [hfl];simpa using hl2
   ·rw [if_neg e2] at hq;have e2':¬ q=b0:=fun h=>e2 h.symm;obtain ⟨g1,g2,g3,g4⟩:=hd.obj q cs hq;simp only [if_neg e2'];have n2:q ∉ f:=fun hm=>by have:=eD q (hsub.subset hm);rw [g1] at this;cases this
    refine ⟨by simp only [own',if_neg n1,if_neg n2];exact g1,g2,fun k hk=>?_,g4⟩;rw [hnot k (by rw [g3 k hk];simp) (by rw [g3 k hk];simpa using n1)];exact g3 k hk
end
end
section
def ke(L:eaa)(P:Program)(f:FuncId)(os:Sto)(args:List AV)(Q:AV->Sto->Prop):Prop :=
 ∀ (B F:faa) (own:Nat->Own) (fs:Nat->List Nat) (w:World) (vs:List Value),
  mM L B F w F own fs os w->au L F w args vs [] ->
  Calls P f vs.toArray w fun e w'=>∃ v res os' F' own' fs' fp,e=.returned v/\Q res os'/\mM L B F w F' own' fs' os' w'/\Rep L F' w' res v fp/\fp.Nodup/\(∀ b,b∈fp->own' b=.slot 0)
def ke.mono{L:eaa}{P:Program}{f:FuncId}{os:Sto}{args:List AV}{Q R:AV->Sto->Prop}(h:ke L P f os args Q)(hq:∀ x o,Q x o->R x o):ke L P f os args R:=by intro B F own fs w vs h1 h2;refine (h B F own fs w vs h1 h2).mono ?_;rintro e w' ⟨v,res,os',F',own',fs',fp,h3,h4,h5⟩;exact ⟨v,res,os',F',own',fs',fp,h3,hq _ _ h4,h5⟩
def EndsG(L:eaa)(P:Program)(fn:Func)(s:AS)(Q:AV->Sto->Prop):Prop :=
 ∀ B F0 w0 a w,Den L B F0 w0 s a w->∃ v res os' F' own' fs' fp,(results fn a.tmps).run P w=.ok v w/\Q res os'/\mM L B F0 w0 F' own' fs' os' w/\Rep L F' w res v fp/\fp.Nodup/\(∀ b,b∈fp->own' b=.slot 0)
def finG(L:eaa)(P:Program)(fn:Func)(Q:AV->Sto->Prop):Exit->AS->Prop
 | .ret,s=>EndsG L P fn s Q
 | .normal,s=>EndsG L P fn s Q
 | _,_=>False
def ke.gf{L:eaa}{P:Program}{f:FuncId}{fn:Func}{c:Code}{os:Sto}{args:List AV}{Q:AV->Sto->Prop}(hf:P.funcs[f]? = some fn)(hb:fn.body=some c)(hn:Nat.ble args.length fn.ntmps=true)
  (h:AW L P c ⟨fn.ntmps,sw 0 args,os⟩ (finG L P fn Q)):ke L P f os args Q:=by
 intro B F own fs w vs hS hr;have hl:=hr.len
 have hn':args.length<=fn.ntmps:=by simpa using hn
 refine calls_of_wp hf hb (wp_mono (h B F w _ w ?_) ?_)
 ·refine ⟨F,own,fun _=>[],fs,{ hS with defers:=rfl,size:=by simp;omega,slots:=?_,sn:=by simp,so:=by simp }⟩;intro i;simp only [Rk,Nat.zero_le,if_true,Nat.sub_zero]
  cases hx:args[i]? with
  | none=>simp [Rep]
  | some x =>
   obtain ⟨y,f',h1,h2,h3⟩:=hr.get hx;have:f'=[]:=List.eq_nil_iff_forall_not_mem.2 fun b hb=>by simpa using h3 b hb
   subst this
   have hlt:i<vs.length:=by
    rcases Nat.lt_or_ge i vs.length with h|h
    ·exact h
    ·rw [List.getElem?_eq_none h] at h1;cases h1
   have e:(vs.toArray++Array.replicate (fn.ntmps - vs.toArray.size) undef).getD i undef=y:=by
    rw [Array.getD_eq_getD_getElem?,Array.getElem?_append_left (by simpa using hlt)];simp [h1]
   rw [e];exact h2
 ·rintro e a' w' ⟨s',h1,h2⟩
  have key:EndsG L P fn s' Q->a'.defers=[]/\∃ v,(results fn a'.tmps).run P w'=.ok v w'/\∃ v' res os' F' own' fs' fp,Ending.returned v=.returned v'/\Q res os'/\mM L B F w F' own' fs' os' w'/\Rep L F' w' res v' fp/\fp.Nodup/\(∀ b,b∈fp->own' b=.slot 0):=by
   intro he;obtain ⟨v,res,os',F',own',fs',fp,h3,h4,h5,h6,h7,h8⟩:=he _ _ _ _ _ h2;obtain ⟨G,lB,fp',fs2,hd⟩:=h2;exact ⟨hd.defers,v,h3,v,res,os',F',own',fs',fp,rfl,h4,h5,h6,h7,h8⟩
  cases e with
  | ret=>exact key h1
  | normal=>exact key h1
  | exit _=>exact h1.elim
  | goto _=>exact h1.elim
  | panic _=>exact h1.elim
  | outgrown=>exact h1.elim
def eY.Vo{L:eaa}{P:Program}{f:FuncId}{args:List AV}{res:AV}(h:ke L P f [] args (fun x _=>x=res)):eY L P f args res:=by
 intro w F vs hF ht hr;refine (h (fun b=>b<w.heap.size) F (fun _=>.none) (fun _=>[]) w vs { below:=Kp.refl _ _,hB:=fun _ h=>h,tb:=ht,f0:=fun _ h=>h,fl:=fun b hb=>⟨rfl,hF b hb,.inl hb⟩,ol:=fun b hb=>absurd rfl hb,obj:=by simp [O] } hr).mono ?_;rintro e w' ⟨v,x,os',F',own',fs',fp,rfl,rfl,h5,h6,h7,h8⟩;refine ⟨v,F',fp,rfl,⟨h5.below.os,h5.below.tape,h5.below.output,h5.below.size,h5.below.block⟩,h5.f0,fun b hb=>?_,h6,h7,fun b hb=>?_⟩
 ·have:=h5.fl b hb
  exact this.2.2.imp id fun e=>⟨Ir,this.2.1⟩
 ·have:=h5.ol b (by rw [h8 b hb];simp);refine ⟨fun hF=>?_,Ir,this.2⟩;have e:=(h5.fl b hF).1;rw [h8 b hb] at e;cases e
def HW(o1 o2:Sto)(b:Nat):O (o1++o2) b=if b∈o1.map Prod.fst then O o1 b else O o2 b:=by
 induction o1 with
 | nil=>simp
 | cons p o1 ih =>
  by_cases h:p.1=b
  ·simp [O,h]
  ·have h':¬ b=p.1:=fun e=>h e.symm;simp only [List.cons_append,O,if_neg h,ih,List.map_cons,List.mem_cons,h',false_or]
def Rm{o:Sto}{b:Nat}{cells:List AV}(h:O o b=some cells):b∈o.map Prod.fst:=by
 induction o with
 | nil=>simp [O] at h
 | cons p o ih =>
  by_cases e:p.1=b
  ·simp [e]
  ·simp only [O,if_neg e] at h;simp [ih h]
section
variable {L : Nat -> Nat} {P : Program} {s : AS} {o : Oper}
def AX{c:Call}{y:Operand}{xs:Array Operand}{ts:Array TypeId}{f:FuncId}{caps:List AV}{os:Sto}{Q:AV->Sto->Prop}(ho:o.op=.call c)(hc:c=⟨.value y,xs,ts⟩)(hd:cz s.n o.dst=true)(hy:fnA (ev s.t y)=some (f,caps))
  (hcn:AV.nownL caps=true) (hn:AV.nownL (xs.toList.map (ev s.t))=true) (he:enters P f=true) (hos:∀ b cells,O os b=some cells->O s.o b=some cells) (hg:ke L P f os (xs.toList.map (ev s.t)++caps) Q) {K:AS->Prop}
  (hK:∀ res os',Q res os'->(∀ b cells,O os' b=some cells->b ∉ os.map Prod.fst->∀ b' cells',O s.o b'=some cells'->b'≠b)->K ⟨s.n,put s.t o.dst res,os'++jg s.o (os.map Prod.fst)⟩):OpW L P o s K:=by
 subst hc;intro B F0 w0 a w next Qn cr bF
 obtain ⟨F,own,fp,fs,h⟩:=cr;have hry:=h.ev y
 obtain ⟨cvs,hyv,hcr⟩:∃ cvs:List Value,a.eval y=.func (.func f) #[] cvs.toArray/\au L F w caps cvs []:=by
  generalize ev s.t y=z at hy hry;unfold fnA at hy;split at hy
  ·cases hy;simp only [Rep] at hry;obtain ⟨vs,e,hl⟩:=hry;rw [au.dX hcn hl] at hl;exact ⟨vs,e,hl⟩
  ·split at hy
   ·rename_i first cap hsz
    cases hy;simp only [Rep] at hry;have e1:first=#[]:=Array.eq_empty_of_size_eq_zero hsz.1
    have e2:cap=#[]:=Array.eq_empty_of_size_eq_zero hsz.2;exact ⟨[],by rw [hry.1,e1,e2],by simp [au]⟩
   ·cases hy
  ·cases hy
 have hex:(execOp a.eval o).run P w=.ok (.enter f (xs.toList.map a.eval++cvs).toArray) w:=by
  have:=uZ he (xs.toList.map a.eval++cvs).toArray w
  have e:xs.map a.eval++cvs.toArray=(xs.toList.map a.eval++cvs).toArray:=by apply Array.ext';simp
  rw [<- e] at this ⊢;simp only [execOp,ho,resolve,Sem.run_bind,hyv,Deferred.ofValue,Sem.run_pure,Result.andThen_ok,invoke,Array.empty_append];exact this
 unfold Oper.wp;rw [hex];have hall:=au.join (au.tw h xs.toList hn) hcr;rw [List.append_nil] at hall
 classical
 let D:=os.map Prod.fst
 let U:Nat->Prop:=fun b=>b<w.heap.size/\¬ (b∈D/\own b=.key)/\¬ ∃ d,d∈D/\own b=.obj d
 let pE:Nat->Own:=fun b=>if U b then .none else own b
 have hUn:∀ b,b<w.heap.size->own b=.none->U b:=fun b hb e=>⟨hb,fun ⟨_,h⟩=>by (rw [e] at h;cases h),fun ⟨d,_,h⟩=>by (rw [e] at h;cases h)⟩
 have hUs:∀ b i,own b=.slot i->U b:=fun b i e=>⟨(h.ol b (by rw [e];simp)).2,fun ⟨_,h⟩=>by (rw [e] at h;cases h),fun ⟨d,_,h⟩=>by (rw [e] at h;cases h)⟩
 have hUB:∀ b,B b->U b:=fun b hb=>by
  refine hUn b (h.hB b hb) ?_;rcases Classical.em (own b=.none) with e|e
  ·exact e
  ·exact absurd hb (h.ol b e).1
 have hS:mM L U F w F pE fs os w:=by
  refine { below:=Kp.refl _ _,hB:=fun b hb=>hb.1,tb:=h.tb.kp h.below hUB,f0:=fun _ h=>h,fl:=fun b hb=>⟨?_,(h.fl b hb).2.1,.inl hb⟩,ol:=?_,obj:=?_ }
  ·simp only [pE];split
   ·rfl
   ·exact (h.fl b hb).1
  ·intro b hb;simp only [pE] at hb;split at hb
   ·exact absurd rfl hb
   ·rename_i hu;exact ⟨hu,(h.ol b hb).2⟩
  ·intro b cells hO;obtain ⟨g1,g2,g3,g4⟩:=h.obj b cells (hos b cells hO);have hm:b∈D:=Rm hO;refine ⟨?_,g2,fun k hk=>?_,g4⟩
   ·have:¬ U b:=fun hu=>hu.2.1 ⟨hm,g1⟩;simp only [pE,if_neg this];exact g1
   ·have:¬ U k:=fun hu=>hu.2.2 ⟨b,hm,g3 k hk⟩;simp only [pE,if_neg this];exact g3 k hk
 refine (hg U F pE fs w _ hS hall).mono ?_;rintro e w' ⟨v,res,os',F',own',fs',fp',rfl,hQ,h5,h6,h7,h8⟩;refine bF _ _ _ (hK res os' hQ fun b cells hO hnb b' cells' hO' e=>?_) ?_
 ·subst e;obtain ⟨g1,_⟩:=h5.obj b' cells hO;obtain ⟨g2,_⟩:=h.obj b' cells' hO';have hlt:=(h.ol b' (by rw [g2];simp)).2
  have hu:U b':=⟨hlt,fun e=>hnb e.1,fun ⟨d,_,e⟩=>by (rw [g2] at e;cases e)⟩
  exact (h5.ol b' (by rw [g1];simp)).1 hu
 have cE:Ext U w w':=⟨h5.below.size,h5.below.block,h5.below.shape⟩
 have hFS:∀ b,F b->F' b/\U b:=fun b hb=>⟨h5.f0 b hb,hUn b (h.fl b hb).2.1 (h.fl b hb).1⟩
 let lB:Nat->Own:=fun b=>if U b then own b else match own' b with|.slot _=>(match o.dst with|some d=>.slot d|none=>.none)|x=>x
 have hU2:∀ b,U b->own' b=.none:=fun b hb=>by
  rcases Classical.em (own' b=.none) with e|e
  ·exact e
  ·exact absurd hb (h5.ol b e).1
 refine ⟨F',lB,fun i=>if o.dst=some i then fp' else fp i,fun b=>if U b then fs b else fs' b,{ below:=?_,hB:=fun b hb=>Nat.lt_of_lt_of_le (h.hB b hb) h5.below.size,tb:=h.tb,f0:=fun b hb=>h5.f0 b (h.f0 b hb),fl:=?_,ol:=?_,defers:=?_,size:=?_,slots:=?_,sn:=?_,so:=?_,obj:=?_ }⟩
 ·exact h.below.trans (h5.below.mono hUB)
 ·intro b hb;have g:=h5.fl b hb;by_cases hu:U b
  ·have hF:F b:=g.2.2.resolve_right fun e=>e hu;exact ⟨by simp only [lB,if_pos hu];exact (h.fl b hF).1,g.2.1,(h.fl b hF).2.2⟩
  ·exact ⟨by simp only [lB,if_neg hu,g.1],g.2.1,.inr fun hb'=>hu (hUB b hb')⟩
 ·intro b hb;by_cases hu:U b
  ·simp only [lB,if_pos hu] at hb;exact ⟨(h.ol b hb).1,Nat.lt_of_lt_of_le hu.1 h5.below.size⟩
  ·simp only [lB,if_neg hu] at hb;have hne:own' b≠.none:=fun e=>by rw [e] at hb;exact hb rfl
   exact ⟨fun hb'=>hu (hUB b hb'),(h5.ol b hne).2⟩
 ·have:=h.defers;cases o.dst<;>simpa [Act.put] using this
 ·have:=h.size;cases o.dst<;>simpa [Act.put] using this
 ·intro i;simp only [mg];rw [iZ a o.dst v i (by rw [h.size];exact hd)];by_cases e:o.dst=some i
  ·simp only [e,if_true];exact h6
  ·simp only [if_neg e];exact Rep.ext cE hFS (fun b hb=>hUs b i (h.so i b hb)) (h.slots i)
 ·intro i;split
  ·exact h7
  ·exact h.sn i
 ·intro i b hb;by_cases e:o.dst=some i
  ·simp only [e,if_true] at hb;have hu:¬ U b:=(h5.ol b (by rw [h8 b hb];simp)).1;simp only [lB,if_neg hu,h8 b hb,e]
  ·rw [if_neg e] at hb;have:=h.so i b hb;simp only [lB,if_pos (hUs b i this)];exact this
 ·intro b cells hO;simp only [HW] at hO;split at hO
  ·obtain ⟨g1,g2,g3,g4⟩:=h5.obj b cells hO;have hu:¬ U b:=(h5.ol b (by rw [g1];simp)).1;simp only [if_neg hu];refine ⟨by simp only [lB,if_neg hu,g1],g2,fun k hk=>?_,g4⟩;have hu':¬ U k:=(h5.ol k (by rw [g3 k hk];simp)).1;simp only [lB,if_neg hu',g3 k hk]
  ·rw [nU] at hO;split at hO
   ·cases hO
   ·rename_i hnD;obtain ⟨g1,g2,g3,c,Ty,vals,rest,g4,g5,g6⟩:=h.obj b cells hO
    have hu:U b:=⟨(h.ol b (by rw [g1];simp)).2,fun e=>hnD e.1,fun ⟨d,_,e⟩=>by (rw [g1] at e;cases e)⟩
    have huk:∀ k,k∈fs b->U k:=fun k hk=>⟨(h.ol k (by rw [g3 k hk];simp)).2,fun e=>by (have:=e.2;rw [g3 k hk] at this;cases this),fun ⟨d,hd,e⟩=>by (rw [g3 k hk] at e;cases e;exact hnD hd)⟩
    simp only [if_pos hu];refine ⟨by simp only [lB,if_pos hu];exact g1,g2,fun k hk=>?_,c,Ty,vals,rest,?_,g5,au.ext cE hFS huk g6⟩
    ·simp only [lB,if_pos (huk k hk)];exact g3 k hk
    ·rw [h5.below.block b hu];exact g4
def ML{c:Call}{y:Operand}{xs:Array Operand}{ts:Array TypeId}{f:FuncId}{caps:List AV}{os:Sto}{Q:AV->Sto->Prop}(ho:o.op=.call c)(hc:c=⟨.value y,xs,ts⟩)(hd:cz s.n o.dst=true)(hy:fnA (ev s.t y)=some (f,caps))
  (hcn:AV.nownL caps=true) (hn:AV.nownL (xs.toList.map (ev s.t))=true) (he:enters P f=true) (hos:∀ b cells,O os b=some cells->O s.o b=some cells) (hg:ke L P f os (xs.toList.map (ev s.t)++caps) Q) {K:AS->Prop}
  (hK:∀ res os',Q res os'->K ⟨s.n,put s.t o.dst res,os'++jg s.o (os.map Prod.fst)⟩):OpW L P o s K :=
 AX ho hc hd hy hcn hn he hos hg fun res os' hQ _=>hK res os' hQ
end
section
variable {L : Nat -> Nat} {P : Program} {n : Nat} {t : List (Nat × AV)} {o : Sto} {ops : Array Oper} {i : Nat} {l : List Nat} {K' : AS -> Prop} {oo : Oper}
end
end
section
def su(P:Program)(w:World)(tmps:Array Value):List ResultVar->List Value->Prop
 | [],vs=>vs=[]
 | r::rs,vs=>∃ v vs',vs=v::vs'/\(y9 r tmps).run P w=.ok v w/\su P w tmps rs vs'
def oI(vs:List Value):Value:=match vs with|[v]=>v|_=>.tuple vs.toArray
def Ay{P:Program}{w:World}{tmps:Array Value}:∀ {rs:List ResultVar} {vs:List Value},su P w tmps rs vs->(rs.mapM (fun r=>y9 r tmps)).run P w=.ok vs w
 | [],vs,h=>by simp only [su] at h;subst h;simp
 | r::rs,vs,h=>by
  simp only [su] at h;obtain ⟨v,vs',rfl,h1,h2⟩:=h;have:=Ay h2;rw [List.mapM_cons];simp only [Sem.run_bind,h1,Result.andThen_ok,this,Sem.run_pure]
def HZ{P:Program}{w:World}{fn:Func}{tmps:Array Value}{rs:List ResultVar}{vs:List Value}(hr:fn.results=rs.toArray)(h:su P w tmps rs vs):(results fn tmps).run P w=.ok (oI vs) w:=by
 have hm:=Ay h
 have e:results fn tmps=(do let vs <- rs.mapM (fun r=>y9 r tmps);pure (oI vs)):=by
  unfold results;rw [hr,List.mapM_toArray];simp only [bind_map_left]
  have e1:(fun r=>y9 r tmps)=(fun r=>match r with|.tmp t=>(pure (tmps.getD t undef):Sem Value)|.cell a t=>do loadVar t (<- asAddr (tmps.getD a undef))):=by
   funext r;cases r<;>rfl
  rw [e1]
  congr 1
  funext vs
  congr 1
  match vs with
  | []=>simp [oI]
  | [v]=>simp [oI]
  | _::_::_=>simp [oI]
 rw [e];simp only [Sem.run_bind,hm,Result.andThen_ok,Sem.run_pure]
def qD(xs:List AV):AV:=match xs with|[x]=>x|_=>.tup xs
def O9{L:eaa}{F:faa}{w:World}{xs:List AV}{vs:List Value}{fp:List Nat}(h:au L F w xs vs fp):Rep L F w (qD xs) (oI vs) fp:=by
 have hl:=h.len
 match xs,vs,hl,h with
 | [],[],_,h=>simp only [qD,oI,Rep];exact ⟨[],rfl,h⟩
 | [x],[v],_,h =>
  simp only [au] at h;obtain ⟨y,vs',f1,f2,e,rfl,hx,e1,e2⟩:=h;cases e;subst e2;simpa [qD,oI] using hx
 | x::x'::xs,v::v'::vs,_,h=>simp only [qD,oI,Rep];exact ⟨_,rfl,h⟩
 | [],_::_,hl,_=>simp at hl
 | _::_,[],hl,_=>simp at hl
 | [_],_::_::_,hl,_=>simp at hl
 | _::_::_,[_],hl,_=>simp at hl
def pj(P:Program)(n:Nat):List ResultVar->daa->Sto->List AV->(List AV->Sto->Prop)->Prop
 | [],_,o,acc,K=>K acc o
 | .tmp i::rs,t,o,acc,K=>Nat.blt i n=true/\pj P n rs ((i,.dead)::t) o (acc++[T t i]) K
 | .cell ad ty'::rs,t,o,acc,K=>match T t ad,ty P ty' with
  | .ptr b off,some (g,m)=>match O o b with
   | some cells=>match val g m (cells.drop off) with
    | some y=>pj P n rs t ((b,none)::o) (acc++[y]) K
    | none=>False
   | none=>False
  | _,_=>False
section
variable {L : Nat -> Nat} {P : Program} {n : Nat}
def Kl{B F0:faa}{w0:World}{F:faa}{own:Nat->Own}{fp fs:Nat->List Nat}{s:AS}{a:Act}{w:World}(h:cv L B F0 w0 F own fp fs s a w){b off m:Nat}{g:Bool}{cells:List AV}{y:AV}{t:TypeId}
  (hb:O s.o b=some cells) (ht:ty P t=some (g,m)) (hy:val g m (cells.drop off)=some y) :
  ∃ v fx,(loadVar t ⟨b,off,none⟩).run P w=.ok v w/\Rep L F w y v fx/\fx.Nodup/\∀ k,k∈fx->own k=.obj b:=by
 obtain ⟨hkey,j1,eD,c,Ty,vals,rest,hc,hcl,gF⟩:=h.obj b cells hb
 have KZ:fP w b 0 vals:=⟨c,Ty,_,hc,fun i hi=>by rw [Nat.zero_add,<- Array.getElem?_toList,hcl,List.getElem?_append_left hi]⟩
 have hrow:fP w b off (vals.drop off):=by
  have:=KZ.cut off vals.length;rw [List.take_of_length_le QC,Nat.zero_add] at this;exact this
 have hvl:=gF.len;obtain ⟨l1,l2⟩:=uJ (P:=P) ht hrow;unfold val at hy
 cases g with
 | true =>
  cases hn:Nat.ble m (cells.drop off).length with
  | false=>simp only [cond_true,hn,cond_false] at hy;cases hy
  | true =>
   simp only [cond_true,hn] at hy;cases hy;obtain ⟨f,hf,hsub⟩:=gF.jL off m
   have hle:m<=(vals.drop off).length:=by
    have:=Nat.le_of_ble_eq_true hn;simp at this ⊢;omega
   exact ⟨_,f,l1 rfl hle,by simp only [Rep];exact ⟨_,rfl,hf⟩,hsub.nodup j1,fun k hk=>eD k (hsub.subset hk)⟩
 | false =>
  simp at hy;obtain ⟨f',hf,hsub⟩:=gF.jL off 1
  have e1:(cells.drop off).take 1=[y]:=by
   have e:cells[off]? = some y:=hy
   have hlt:off<cells.length:=by
    rcases Nat.lt_or_ge off cells.length with h|h
    ·exact h
    ·rw [List.getElem?_eq_none h] at e;cases e
   rw [List.drop_eq_getElem_cons hlt];rw [List.getElem?_eq_getElem hlt] at e;cases e;rfl
  rw [e1] at hf;simp only [au] at hf;obtain ⟨y',vs',f1,f2,hv,rfl,hy',rfl,rfl⟩:=hf
  have hv0:(vals.drop off)[0]? = some y':=by
   cases hd:vals.drop off with
   | nil=>rw [hd] at hv;simp at hv
   | cons z zs=>rw [hd] at hv;simp at hv;simp [hv]
  exact ⟨y',f1,l2 rfl y' hv0,hy',by simpa using hsub.nodup j1,fun k hk=>eD k (hsub.subset (by simpa using hk))⟩
def y8{tmps:Array Value}{K:List AV->Sto->Prop}{B F0:faa}{w0:World}{w:World}{a:Act}(hsz:a.tmps=tmps):∀ (rs:List ResultVar) (t:daa) (o:Sto) (xs:List AV) (vs:List Value) (F:faa) (own:Nat->Own) (fp fs:Nat->List Nat) (fa:List Nat),
  pj P n rs t o xs K->cv L B F0 w0 F own fp fs ⟨n,t,o⟩ a w->au L F w xs vs fa->fa.Nodup->(∀ b,b∈fa->own b=.slot n) ->
  ∃ vs1 xs' os' own' fs' fa',su P w tmps rs vs1/\K xs' os'/\mM L B F0 w0 F own' fs' os' w/\au L F w xs' (vs++vs1) fa'/\fa'.Nodup/\∀ b,b∈fa'->own' b=.slot 0
 | [],t,o,xs,vs,F,own,fp,fs,fa,hK,hd,hr,hn,ho=>by
  simp only [pj] at hK
  classical
  let own':Nat->Own:=fun b=>match own b with|.slot i=>if i=n then .slot 0 else .none|x=>x
  have hnot:∀ b,(∀ i,own b≠.slot i)->own' b=own b:=fun b hb=>by
   show (match own b with|.slot i=>if i=n then Own.slot 0 else .none|x=>x)=own b
   cases h:own b with
   | slot i=>exact absurd h (hb i)
   | none=>rfl
   | key=>rfl
   | obj _=>rfl
  refine ⟨[],xs,o,own',fs,fa,rfl,hK,{ below:=hd.below,hB:=hd.hB,tb:=hd.tb,f0:=hd.f0,fl:=fun b hb=>⟨?_,(hd.fl b hb).2⟩,ol:=fun b hb=>hd.ol b ?_,obj:=?_ },by simpa using hr,hn,fun b hb=>?_⟩
  ·rw [hnot b (by rw [(hd.fl b hb).1];simp)];exact (hd.fl b hb).1
  ·exact fun e=>hb (by rw [hnot b (by rw [e];simp)];exact e)
  ·intro b cells hO;obtain ⟨g1,g2,g3,g4⟩:=hd.obj b cells hO;exact ⟨by rw [hnot b (by rw [g1];simp)];exact g1,g2,fun k hk=>by rw [hnot k (by rw [g3 k hk];simp)];exact g3 k hk,g4⟩
  ·simp only [own',ho b hb,if_true]
 | .tmp i::rs,t,o,xs,vs,F,own,fp,fs,fa,hK,hd,hr,hn,ho=>by
  simp only [pj] at hK;obtain ⟨hlt,hK⟩:=hK;have nN:i<n:=by simpa using hlt
  classical
  let own':Nat->Own:=fun b=>if b∈fp i then .slot n else own b
  have hnot:∀ b,own b≠.slot i->own' b=own b:=fun b hb=>by
   have:b ∉ fp i:=fun hm=>hb (hd.so i b hm);simp only [own',if_neg this]
  have hd':cv L B F0 w0 F own' (fun j=>if j=i then [] else fp j) fs ⟨n,(i,.dead)::t,o⟩ a w:=by
   refine { below:=hd.below,hB:=hd.hB,tb:=hd.tb,f0:=hd.f0,fl:=fun b hb=>⟨?_,(hd.fl b hb).2⟩,ol:=?_,defers:=hd.defers,size:=hd.size,slots:=?_,sn:=?_,so:=?_,obj:=?_ }
   ·rw [hnot b (by rw [(hd.fl b hb).1];simp)];exact (hd.fl b hb).1
   ·intro b hb;by_cases e:b∈fp i
    ·exact hd.iq e
    ·simp only [own',if_neg e] at hb;exact hd.ol b hb
   ·intro j;rw [fE];by_cases e:i=j
    ·subst e;simp [Rep]
    ·have e':¬ j=i:=fun h=>e h.symm;simp only [if_neg e,if_neg e'];exact hd.slots j
   ·intro j;split
    ·simp
    ·exact hd.sn j
   ·intro j b hb;split at hb
    ·simp at hb
    ·rename_i e;have:=hd.so j b hb;rw [hnot b (by rw [this];simpa using e)];exact this
   ·intro b cells hO;obtain ⟨g1,g2,g3,g4⟩:=hd.obj b cells hO;exact ⟨by rw [hnot b (by rw [g1];simp)];exact g1,g2,fun k hk=>by rw [hnot k (by rw [g3 k hk];simp)];exact g3 k hk,g4⟩
  have hri:au L F w [T t i] [a.tmps.getD i undef] (fp i):=by
   simp only [au];exact ⟨_,_,fp i,[],rfl,QC,hd.slots i,rfl,rfl⟩
  obtain ⟨vs1,xs',os',lB,fs',fa',h1,h2,h3,h4,h5,h6⟩:=y8 hsz rs _ o _ (vs++[a.tmps.getD i undef]) F own' _ fs (fa++fp i) hK hd' (hr.join hri) (by
   rw [List.nodup_append];refine ⟨hn,hd.sn i,fun b hb b' hb' e=>?_⟩;subst e;have e1:=ho b hb;rw [hd.so i b hb'] at e1
   exact Nat.lt_irrefl n ((Own.slot.inj e1) ▸ nN)) (by
   intro b hb;rcases List.mem_append.1 hb with hb|hb
   ·rw [hnot b (fun e=>Nat.lt_irrefl i ((Own.slot.inj ((ho b hb).symm.trans e)) ▸ nN))];exact ho b hb
   ·simp only [own',if_pos hb])
  refine ⟨a.tmps.getD i undef::vs1,xs',os',lB,fs',fa',?_,h2,h3,by simpa using h4,h5,h6⟩;simp only [su];exact ⟨_,vs1,rfl,by rw [<- hsz];simp [y9],h1⟩
 | .cell ad ty'::rs,t,o,xs,vs,F,own,fp,fs,fa,hK,hd,hr,hn,ho=>by
  simp only [pj] at hK;split at hK
  ·rename_i b off g m hT ht;split at hK
   ·rename_i cells hO;split at hK
    ·rename_i y hy;obtain ⟨v,fx,hrun,gF,abu,PU⟩:=Kl hd hO ht hy;have hra:=hd.slots ad;simp only at hra;rw [hT] at hra;simp only [Rep] at hra;have hkey:=(hd.obj b cells hO).1
     classical
     let own':Nat->Own:=fun k=>if k∈fx then .slot n else own k
     have hnot:∀ k,own k≠.obj b->own' k=own k:=fun k hk=>by
      have:k ∉ fx:=fun hm=>hk (PU k hm);simp only [own',if_neg this]
     have hd':cv L B F0 w0 F own' fp fs ⟨n,t,(b,none)::o⟩ a w:=by
      refine { below:=hd.below,hB:=hd.hB,tb:=hd.tb,f0:=hd.f0,fl:=fun b hb=>⟨?_,(hd.fl b hb).2⟩,ol:=?_,defers:=hd.defers,size:=hd.size,slots:=hd.slots,sn:=hd.sn,so:=?_,obj:=?_ }
      ·rw [hnot b (by rw [(hd.fl b hb).1];simp)];exact (hd.fl b hb).1
      ·intro k hk;by_cases e:k∈fx
       ·exact hd.ol k (by rw [PU k e];simp)
       ·simp only [own',if_neg e] at hk;exact hd.ol k hk
      ·intro j k hk;have:=hd.so j k hk;rw [hnot k (by rw [this];simp)];exact this
      ·intro q cs hq;simp only [O] at hq;split at hq
       ·cases hq
       ·rename_i hne;obtain ⟨g1,g2,g3,g4⟩:=hd.obj q cs hq;exact ⟨by rw [hnot q (by rw [g1];simp)];exact g1,g2,fun k hk=>by rw [hnot k (by rw [g3 k hk];simp;exact fun e=>hne e.symm)];exact g3 k hk,g4⟩
     have hri:au L F w [y] [v] fx:=by
      simp only [au];exact ⟨_,_,fx,[],rfl,QC,gF,rfl,rfl⟩
     obtain ⟨vs1,xs',os',lB,fs',fa',h1,h2,h3,h4,h5,h6⟩:=y8 hsz rs t _ _ (vs++[v]) F own' fp fs (fa++fx) hK hd' (hr.join hri) (by
      rw [List.nodup_append];refine ⟨hn,abu,fun k hk k' hk' e=>?_⟩;subst e;have e1:=ho k hk
      rw [PU k hk'] at e1;cases e1) (by
      intro k hk;rcases List.mem_append.1 hk with hk|hk
      ·rw [hnot k (by rw [ho k hk];simp)];exact ho k hk
      ·simp only [own',if_pos hk])
     refine ⟨v::vs1,xs',os',lB,fs',fa',?_,h2,h3,by simpa using h4,h5,h6⟩;simp only [su];have hr1:tmps[ad]?.getD undef=.pointer (some ⟨b,off,none⟩):=by rw [<- hra.1,Array.getD_eq_getD_getElem?,hsz]
     exact ⟨v,vs1,rfl,by simp [y9,hr1,asAddr,hrun],h1⟩
    ·exact hK.elim
   ·exact hK.elim
  ·exact hK.elim
def EndsG.res{fn:Func}{t:daa}{o:Sto}{rs:List ResultVar}{Q:AV->Sto->Prop}(hr:fn.results=rs.toArray)(h:pj P n rs t o [] (fun xs os=>Q (qD xs) os)):EndsG L P fn ⟨n,t,o⟩ Q:=by intro B F0 w0 a w hd;obtain ⟨F,own,fp,fs,hd⟩:=hd;obtain ⟨vs1,xs',os',own',fs',fa',h1,h2,h3,h4,h5,h6⟩:=y8 (tmps:=a.tmps) rfl rs t o [] [] F own fp fs [] h hd (by simp [au]) QC QC;exact ⟨oI vs1,qD xs',os',F,own',fs',fa',HZ hr h1,h2,h3,O9 (by simpa using h4),h5,h6⟩
end
end
section
section
variable {L : Nat -> Nat} {P : Program} {o : Oper} {s : AS} {K : AS -> Prop}
def OpW.imp(h:Imp L s (fun s'=>OpW L P o s' K)):OpW L P o s K:=by
 intro B F0 w0 a w next Q hd hn
 obtain ⟨s',h1,h2⟩:=h B F0 w0 a w hd;exact h1 B F0 w0 a w next Q h2 hn
def OpW.post(h:OpW L P o s (fun s'=>Imp L s' K)):OpW L P o s K:=by
 intro B F0 w0 a w next Q hd hn
 refine h B F0 w0 a w next Q hd fun s' a' w' h1 h2=>?_
 obtain ⟨s2,h3,h4⟩:=h1 B F0 w0 a' w' h2;exact hn s2 a' w' h3 h4
end
section
variable {L : Nat -> Nat} {n : Nat} {t : List (Nat × AV)} {o : Sto} {Q : AS -> Prop}
def Imp.weak{t':daa}{o':Sto}(h:Q ⟨n,t',o'⟩)(ht:∀ i,T t' i=T t i\/T t' i=.dead)(ho:∀ b cells,O o' b=some cells->O o b=some cells):Imp L ⟨n,t,o⟩ Q :=
 fun _ _ _ _ _ hd=>⟨_,h,hd.weaken rfl ht ho⟩
def Imp.kM(i:Nat){sz:Nat}{l:List AV}(hT:T t i=.sl true sz l)(hel:∀ x,x∈l->x.elem sz=true)
  (h:∀ b,fU o b->Q ⟨n,(i,.arr b 0 l.length sz)::t,(b,some (l.flatMap AV.cells))::o⟩)
  (hnil:l=[]->Q ⟨n,(i,.v (.slice none 0 0))::t,o⟩):Imp L ⟨n,t,o⟩ Q:=by
 intro B F0 w0 a w hd;obtain ⟨F,own,fp,fs,hd⟩:=hd;have hr:=hd.slots i;simp only at hr;rw [hT] at hr;simp only [Rep] at hr;rcases hr with ⟨e1|⟨e0,_⟩,e,e3⟩|⟨b,off,cap,vals,fp',hy,h1,h2,hrow,he,ho⟩
 ·refine ⟨_,hnil e,F,own,fp,fs,{ hd with slots:=?_ }⟩;intro j;rw [fE];by_cases ej:i=j
  ·subst ej;simp only [if_true,Rep];exact ⟨e1,e3⟩
  ·simp only [if_neg ej];exact hd.slots j
 ·cases e0
 obtain ⟨hfp,rfl,iD⟩:fp i=b::fp'/\off=0/\mE w b (off+cap * sz):=by
  rcases ho with ⟨_,h⟩|⟨e,_⟩
  ·exact h
  ·cases e
 have hsb:own b=.slot i:=hd.so i b (by rw [hfp];simp)
 have hnd:=hd.sn i;rw [hfp,List.nodup_cons] at hnd
 have hfr:fU o b:=by
  intro b' cells hO e;have:=(hd.obj b' cells hO).1;rw [e,hsb] at this;cases this
 refine ⟨_,h b hfr,?_⟩;obtain ⟨c,Ty,rest,hc,hcl⟩:=y6 hrow iD
 classical
 let own':Nat->Own:=fun k=>if k=b then .key else if k∈fp' then .obj b else own k
 have hnot:∀ k,own k≠.slot i->own' k=own k:=fun k hk=>by
  have n1:k≠b:=fun e=>hk (by rw [e];exact hsb)
  have n2:k ∉ fp':=fun hm=>hk (hd.so i k (by rw [hfp];simp [hm]));simp only [own',if_neg n1,if_neg n2]
 refine ⟨F,own',fun j=>if j=i then [] else fp j,fun k=>if k=b then fp' else fs k,{ below:=hd.below,hB:=hd.hB,tb:=hd.tb,f0:=hd.f0,fl:=?_,ol:=?_,defers:=hd.defers,size:=hd.size,slots:=?_,sn:=?_,so:=?_,obj:=?_ }⟩
 ·intro k hk;have:=hd.fl k hk;exact ⟨by rw [hnot k (by rw [this.1];simp)];exact this.1,this.2⟩
 ·intro k hk;by_cases e1:k=b
  ·subst e1;exact hd.ol k (by rw [hsb];simp)
  ·by_cases e2:k∈fp'
   ·exact hd.iq (i:=i) (by rw [hfp];simp [e2])
   ·simp only [own',if_neg e1,if_neg e2] at hk;exact hd.ol k hk
 ·intro j;rw [fE];by_cases e:i=j
  ·subst e;simp only [if_true,Rep];exact ⟨trivial,cap,hy,h1,h2,iD⟩
  ·have e':¬ j=i:=fun h=>e h.symm;simp only [if_neg e,if_neg e'];exact hd.slots j
 ·intro j;split
  ·simp
  ·exact hd.sn j
 ·intro j k hk;split at hk
  ·simp at hk
  ·rename_i e;have:=hd.so j k hk;rw [hnot k (by rw [this];simpa using e)];exact this
 ·intro q cells hO;simp only [O] at hO;by_cases e:b=q
  ·subst e;rw [if_pos rfl] at hO;cases hO;refine ⟨by simp [own'],by simpa using hnd.2,fun k hk=>?_,c,Ty,vals,rest,hc,hcl,by simpa using bZ.flat hel he⟩;simp only [if_true] at hk;have n1:k≠b:=fun e=>hnd.1 (by rw [<- e];exact hk);simp only [own',if_neg n1,if_pos hk]
  ·rw [if_neg e] at hO;have e':¬ q=b:=fun h=>e h.symm;obtain ⟨g1,g2,g3,g4⟩:=hd.obj q cells hO;simp only [if_neg e'];exact ⟨by rw [hnot q (by rw [g1];simp)];exact g1,g2,fun k hk=>by rw [hnot k (by rw [g3 k hk];simp)];exact g3 k hk,g4⟩
end
section
variable {L : Nat -> Nat} {F : Nat -> Prop} {w : World}
def au.hole{l:List AV}{vs:List Value}{fp:List Nat}(r:au L F w l vs fp)(i n:Nat)(hle:i+n<=l.length) :
  ∃ f1 fx f3,fp=f1++(fx++f3)/\au L F w ((l.drop i).take n) ((vs.drop i).take n) fx/\au L F w (l.take i++List.replicate n .dead++l.drop (i+n)) vs (f1++f3):=by
 have hl:=r.len
 have e1:l=l.take i++((l.drop i).take n++l.drop (i+n)):=by
  rw [<- List.drop_drop,List.take_append_drop,List.take_append_drop]
 have r0:=r;rw [e1] at r;obtain ⟨v1,v23,f1,f23,rfl,rfl,r1,r23⟩:=r.split;obtain ⟨v2,v3,f2,f3,rfl,rfl,r2,r3⟩:=r23.split;have h1:=r1.len
 have h2:=r2.len;simp only [List.length_take,List.length_drop] at h1 h2;have hv1:v1.length=i:=by omega
 have hv2:v2.length=n:=by omega
 have e2:((v1++(v2++v3)).drop i).take n=v2:=by
  rw [<- hv1,List.drop_left,<- hv2,List.take_left]
 refine ⟨f1,f2,f3,rfl,by rw [e2];exact r2,?_⟩;have hd:=au.LG (L:=L) (F:=F) (w:=w) v2;rw [hv2] at hd;have:=(r1.join hd).join r3;simpa using this
end
section
variable {L : Nat -> Nat} {P : Program} {s : AS} {o : Oper}
def MK{t:TypeId}{x:Operand}{n b off:Nat}{g:Bool}{cells:List AV}{y:AV}(ho:o.op=.load t x)(hd:cz s.n o.dst=true)(hx:ev s.t x=.ptr b off)
  (hb:O s.o b=some cells) (ht:ty P t=some (g,n)) (hy:val g n (cells.drop off)=some y) (hn1:g=false->n=1) (hle:off+n<=cells.length) {K:AS->Prop} (hK:K ⟨s.n,put s.t o.dst y,(b,some (cells.take off++List.replicate n .dead++cells.drop (off+n)))::s.o⟩):OpW L P o s K:=by
 intro B F0 w0 a w next Q cr bF
 obtain ⟨F,own,fp,fs,h⟩:=cr;have hr:=h.ev x;rw [hx] at hr;simp only [Rep] at hr;obtain ⟨hkey,j1,eD,c,Ty,vals,rest,hc,hcl,gF⟩:=h.obj b cells hb
 have KZ:fP w b 0 vals:=⟨c,Ty,_,hc,fun i hi=>by rw [Nat.zero_add,<- Array.getElem?_toList,hcl,List.getElem?_append_left hi]⟩
 have hrow:fP w b off (vals.drop off):=by
  have:=KZ.cut off vals.length;rw [List.take_of_length_le QC,Nat.zero_add] at this;exact this
 have hvl:=gF.len;obtain ⟨l1,l2⟩:=uJ (P:=P) ht hrow;obtain ⟨f1,fx,f3,hfs,K5,Ys⟩:=gF.hole off n hle
 obtain ⟨v,hrun,Yq⟩:∃ v,(loadVar t ⟨b,off,none⟩).run P w=.ok v w/\Rep L F w y v fx:=by
  unfold val at hy
  cases g with
  | true =>
   cases hn:Nat.ble n (cells.drop off).length with
   | false=>simp only [cond_true,hn,cond_false] at hy;cases hy
   | true =>
    simp only [cond_true,hn] at hy;cases hy;exact ⟨_,l1 rfl (by simp only [List.length_drop];omega),by simp only [Rep];exact ⟨_,rfl,K5⟩⟩
  | false =>
   simp at hy;have hn:=hn1 rfl;subst hn;have hlt:off<cells.length:=by omega
   have e1:(cells.drop off).take 1=[y]:=by
    rw [List.drop_eq_getElem_cons hlt];rw [List.getElem?_eq_getElem hlt] at hy;cases hy;rfl
   rw [e1] at K5;simp only [au] at K5;obtain ⟨y',vs',g1,g2,hv,hfx,hy',rfl,rfl⟩:=K5
   have hv0:(vals.drop off)[0]? = some y':=by
    cases hd:vals.drop off with
    | nil=>rw [hd] at hv;simp at hv
    | cons z zs=>rw [hd] at hv;simp at hv;simp [hv]
   exact ⟨y',l2 rfl y' hv0,by rw [hfx];simpa using hy'⟩
 have hex:(execOp a.eval o).run P w=.ok (.value v) w:=by
  simp [execOp,ho,hr.1,Instr.loadAt,Instr.sureAddr,hrun]
 unfold Oper.wp;rw [hex];refine bF _ _ _ hK ?_;have hnd:=j1;rw [hfs,List.nodup_append] at hnd;obtain ⟨abo,V5,V4⟩:=hnd;rw [List.nodup_append] at V5;obtain ⟨hnx,hn4,hn5⟩:=V5;have h6:∀ k,k∈fx->own k=.obj b:=fun k hk=>eD k (by rw [hfs];simp [hk])
 classical
 let own':Nat->Own:=fun k=>if k∈fx then (match o.dst with|some d=>.slot d|none=>.none) else own k
 have hnot:∀ k,own k≠.obj b->own' k=own k:=fun k hk=>by
  have:k ∉ fx:=fun hm=>hk (h6 k hm);simp only [own',if_neg this]
 refine ⟨F,own',fun i=>if o.dst=some i then fx else fp i,fun q=>if q=b then f1++f3 else fs q,{ below:=h.below,hB:=h.hB,tb:=h.tb,f0:=h.f0,fl:=?_,ol:=?_,defers:=?_,size:=?_,slots:=?_,sn:=?_,so:=?_,obj:=?_ }⟩
 ·intro k hk;have e:=h.fl k hk;exact ⟨by rw [hnot k (by rw [e.1];simp)];exact e.1,e.2⟩
 ·intro k hk;by_cases n1:k∈fx
  ·exact h.ol k (by rw [h6 k n1];simp)
  ·simp only [own',if_neg n1] at hk;exact h.ol k hk
 ·have:=h.defers;cases o.dst<;>simpa [Act.put] using this
 ·have:=h.size;cases o.dst<;>simpa [Act.put] using this
 ·intro i;simp only [mg];rw [iZ a o.dst v i (by rw [h.size];exact hd)];by_cases e:o.dst=some i
  ·simp only [e,if_true];exact Yq
  ·simp only [if_neg e];exact h.slots i
 ·intro i;split
  ·exact hnx
  ·exact h.sn i
 ·intro i k hk;by_cases e:o.dst=some i
  ·simp only [e,if_true] at hk;simp only [own',if_pos hk,e]
  ·rw [if_neg e] at hk;have:=h.so i k hk;rw [hnot k (by rw [this];simp)];exact this
 ·intro q cs hO;simp only [O] at hO;by_cases e:b=q
  ·subst e;rw [if_pos rfl] at hO;cases hO;simp only [if_true];refine ⟨by rw [hnot b (by rw [hkey];simp)];exact hkey,?_,fun k hk=>?_,c,Ty,vals,rest,hc,hcl,Ys⟩
   ·rw [List.nodup_append];exact ⟨abo,hn4,fun a ha b hb=>V4 a ha b (by simp [hb])⟩
   ·have hk':k∈fs b:=by rw [hfs];rcases List.mem_append.1 hk with h|h<;>simp [h]
    have:k ∉ fx:=fun hm=>by
     rcases List.mem_append.1 hk with h|h
     ·exact V4 k h k (by simp [hm]) rfl
     ·exact hn5 k hm k h rfl
    simp only [own',if_neg this];exact eD k hk'
  ·rw [if_neg e] at hO;have e':¬ q=b:=fun h=>e h.symm;obtain ⟨g1,g2,g3,g4⟩:=h.obj q cs hO;simp only [if_neg e'];exact ⟨by rw [hnot q (by rw [g1];simp)];exact g1,g2,fun k hk=>by rw [hnot k (by rw [g3 k hk];simpa using e')];exact g3 k hk,g4⟩
def FR{i k:Nat}{l:List AV}{y:AV}(ho:o.op=.extract (.tmp i) k)(hd:cz s.n o.dst=true)(hx:T s.t i=.tup l)(hy:l[k]? = some y){K:AS->Prop}
  (hK:K ⟨s.n,put ((i,.tup (l.set k .dead))::s.t) o.dst y,s.o⟩):OpW L P o s K:=by
 intro B F0 w0 a w next Q cr bF
 obtain ⟨F,own,fp,fs,h⟩:=cr;have hr:=h.slots i;rw [hx] at hr;simp only [Rep] at hr;obtain ⟨vs,hv,hl⟩:=hr;obtain ⟨v,f1,fx,f2,hvk,hfp,hrv,hset⟩:=hl.put hy;have EA:=hset .dead [] (by simp [Rep]);rw [List.nil_append] at EA
 have hex:(execOp a.eval o).run P w=.ok (.value v) w:=by
  have hv':a.tmps[i]?.getD undef=.tuple vs.toArray:=by rw [<- hv,Array.getD_eq_getD_getElem?]
  simp [execOp,ho,Act.eval,hv',hvk,Instr.extract]
 unfold Oper.wp;rw [hex];refine bF _ _ _ hK ?_;have hnd:=h.sn i;rw [hfp,List.nodup_append] at hnd;obtain ⟨hn1,hn2,hn3⟩:=hnd;rw [List.nodup_append] at hn2;obtain ⟨hnx,hn4,hn5⟩:=hn2;have h6:∀ k,k∈fx->own k=.slot i:=fun k hk=>h.so i k (by rw [hfp];simp [hk])
 classical
 let own':Nat->Own:=fun k=>if k∈fx then (match o.dst with|some d=>.slot d|none=>.none) else own k
 have hnot:∀ k,own k≠.slot i->own' k=own k:=fun k hk=>by
  have:k ∉ fx:=fun hm=>hk (h6 k hm);simp only [own',if_neg this]
 refine ⟨F,own',fun j=>if o.dst=some j then fx else if j=i then f1++f2 else fp j,fs,{ below:=h.below,hB:=h.hB,tb:=h.tb,f0:=h.f0,fl:=?_,ol:=?_,defers:=?_,size:=?_,slots:=?_,sn:=?_,so:=?_,obj:=?_ }⟩
 ·intro k hk;have e:=h.fl k hk;exact ⟨by rw [hnot k (by rw [e.1];simp)];exact e.1,e.2⟩
 ·intro k hk;by_cases n1:k∈fx
  ·exact h.ol k (by rw [h6 k n1];simp)
  ·simp only [own',if_neg n1] at hk;exact h.ol k hk
 ·have:=h.defers;cases o.dst<;>simpa [Act.put] using this
 ·have:=h.size;cases o.dst<;>simpa [Act.put] using this
 ·intro j;simp only [mg,fE];rw [iZ a o.dst v j (by rw [h.size];exact hd)];by_cases e:o.dst=some j
  ·simp only [e,if_true];exact hrv
  ·simp only [if_neg e];by_cases e2:i=j
   ·subst e2;simp only [if_true,Rep];exact ⟨vs,hv,EA⟩
   ·have e2':¬ j=i:=fun h=>e2 h.symm;simp only [if_neg e2,if_neg e2'];exact h.slots j
 ·intro j;split
  ·exact hnx
  ·split
   ·rw [List.nodup_append];exact ⟨hn1,hn4,fun a ha b hb=>hn3 a ha b (by simp [hb])⟩
   ·exact h.sn j
 ·intro j q hq;by_cases e:o.dst=some j
  ·simp only [e,if_true] at hq;simp only [own',if_pos hq,e]
  ·rw [if_neg e] at hq;by_cases e2:j=i
   ·subst e2;rw [if_pos rfl] at hq;have hq':q∈fp j:=by rw [hfp];rcases List.mem_append.1 hq with h|h<;>simp [h]
    have:q ∉ fx:=fun hm=>by
     rcases List.mem_append.1 hq with h|h
     ·exact hn3 q h q (by simp [hm]) rfl
     ·exact hn5 q hm q h rfl
    simp only [own',if_neg this];exact h.so j q hq'
   ·rw [if_neg e2] at hq;have:=h.so j q hq;rw [hnot q (by rw [this];simpa using e2)];exact this
 ·intro q cs hO;obtain ⟨g1,g2,g3,g4⟩:=h.obj q cs hO;exact ⟨by rw [hnot q (by rw [g1];simp)];exact g1,g2,fun k hk=>by rw [hnot k (by rw [g3 k hk];simp)];exact g3 k hk,g4⟩
end
end
section
section
variable {L : Nat -> Nat} {P : Program} {s : AS} {o : Oper}
def rC{c:Call}{x y:Operand}{t u e:TypeId}{sz bytes:Nat}(ho:o.op=.call c)(hc:c=⟨.builtin .append,#[x,y],#[t,u]⟩)
  (hd:cz s.n o.dst=true) (hx:ev s.t x=.v (.slice none 0 0)) (ht:elm P t=some (e,sz,bytes))
  (hu:(∃ e',P.underlying u=some (.slice e'))\/P.underlying u=some .string) (hsrc:gM s.o sz (ev s.t y)=some (0,[])) {K:AS->Prop}
  (hK:K ⟨s.n,put (killL s.t (kills s.t [y])) o.dst (.sl true sz []),s.o⟩):OpW L P o s K:=by
 subst hc;obtain ⟨inf,hut,dR,rfl,rfl⟩:=gX ht;refine LOp.opW (x:=.sl true inf.size []) (C:=kills s.t [y]) ?_ hd hK;refine LOp.of_run fun B F0 w0 F own fp fs a w h=>?_;have hv:=h.val hx;obtain ⟨news,f,hS,hnl,hnr,hfn,hfk⟩:=vZ h hsrc hu;have:news=[]:=by simp only [au] at hnr;exact hnr.1
 subst this;have hrun:=HM (tyr:=o.type) hut dR hS;refine ⟨.slice none 0 0,[],?_,by simp [Rep],QC,QC⟩;simp only [execOp,ho,resolve,invoke,builtin,Sem.run_bind,Sem.run_pure,Result.andThen_ok,List.map_toArray,List.map_cons,List.map_nil,hv,hrun]
def pH{t:daa}{i:Nat}{x:AV}{y:Operand}(h:y≠.tmp i):kills ((i,x)::t) [y]=kills t [y]:=by
 cases y with
 | tmp j =>
  have hne:¬ i=j:=fun e=>h (by rw [e]);simp only [kills,fE,if_neg hne]
 | _=>rfl
def mb{t:daa}{i:Nat}{x:AV}{y:Operand}(h:y≠.tmp i):ev ((i,x)::t) y=ev t y:=by
 cases y with
 | tmp j =>
  have hne:¬ i=j:=fun e=>h (by rw [e]);simp only [ev,fE,if_neg hne]
 | _=>rfl
def B6{c:Call}{i:Nat}{y:Operand}{t u e:TypeId}{sz bytes:Nat}{l l':List AV}{zs:List Value}(ho:o.op=.call c)(hc:c=⟨.builtin .append,#[.tmp i,y],#[t,u]⟩)
  (hd:cz s.n o.dst=true) (hx:T s.t i=.sl true sz l) (hxy:y≠.tmp i) (ht:elm P t=some (e,sz,bytes)) (hz:zer P e=some zs) (hzl:zs.length=sz)
  (hu:(∃ e',P.underlying u=some (.slice e'))\/P.underlying u=some .string) (hsrc:pd sz (ev s.t y)=some l') (hel:∀ z,z∈l->z.elem sz=true) (jH:∀ z,z∈l'->z.elem sz=true) (hone:(l'.flatMap AV.cells).all AV.one=true)
  (hL:l.length+l'.length<=L sz) (hby:(l.length+l'.length) * bytes<=140737488355328) (h63:l.length+l'.length<=9223372036854775807) {K:AS->Prop}
  (hK:K ⟨s.n,put (killL s.t (kills s.t [.tmp i,y])) o.dst (.sl true sz (l++l')),s.o⟩):OpW L P o s K:=by
 obtain ⟨n,tt,os⟩:=s;simp only at *;have hi:i∈kills tt [.tmp i,y]:=eN.2 ⟨QC,by rw [hx];rfl⟩
 have hsub:∀ j,j∈kills tt [y]->j∈kills tt [.tmp i,y]:=fun j hj=>by
  have:=eN.1 hj;exact eN.2 ⟨by simp at this;simp [this.1],this.2⟩
 have aec:∀ j,j≠i->j∈kills tt [.tmp i,y]->j∈kills tt [y]:=fun j hj h=>by
  have:=eN.1 h;refine eN.2 ⟨?_,this.2⟩;have h1:=this.1;simp only [List.mem_cons,Operand.tmp.injEq,List.not_mem_nil,or_false] at h1 ⊢;exact h1.resolve_left hj
 have hsA:∀ os',gM os' sz (ev tt y)=some (l'.length,l'.flatMap AV.cells):=fun os'=>oU hsrc jH
 have hTT:∀ (z:AV) (d:Option Nat) (r:AV) (j:Nat),T (put (killL tt (kills tt [.tmp i,y])) d r) j=T (put (killL ((i,z)::tt) (kills tt [y])) d r) j\/T (put (killL tt (kills tt [.tmp i,y])) d r) j=.dead:=by
  intro z d r j;simp only [mg,BI,fE];by_cases e1:d=some j
  ·simp [e1]
  ·simp only [if_neg e1];by_cases e2:j=i
   ·subst e2;simp [hi]
   ·have e2':¬ i=j:=fun h=>e2 h.symm;by_cases e3:j∈kills tt [.tmp i,y]
    ·simp [e3]
    ·have:j ∉ kills tt [y]:=fun h=>e3 (hsub j h);simp [e3,this,e2']
 have hfl:l.flatMap AV.cells++l'.flatMap AV.cells=(l++l').flatMap AV.cells:=by simp
 have hall:∀ z,z∈l++l'->z.elem sz=true:=fun z hz=>by
  rcases List.mem_append.1 hz with h|h
  ·exact hel z h
  ·exact jH z h
 have hlen:=db hel
 have p7:=db hall
 have back:∀ (z:AV) (b':Nat) (o1:Sto),(∀ q cs,O os q=some cs->O o1 q=some cs/\q≠b') ->
   Imp L ⟨n,put (killL ((i,z)::tt) (kills tt [y])) o.dst (.arr b' 0 (l.length+l'.length) sz),(b',some ((l++l').flatMap AV.cells))::o1⟩ K:=by
  intro z b' o1 ho1
  cases mQ:o.dst with
  | none =>
   rw [mQ] at hK;refine Imp.weak hK (fun j=>?_) ?_
   ·have:=hTT z none (.sl true sz (l++l')) j;simpa [put] using this
   ·intro q cs hq;have:=ho1 q cs hq;simp only [O,if_neg (fun e=>this.2 e.symm:¬ b'=q)];exact this.1
  | some d =>
   rw [mQ] at hK;refine Imp.bind (Q:=fun s'=>s'=⟨n,(d,.sl true sz (l++l'))::put (killL ((i,z)::tt) (kills tt [y])) (some d) (.arr b' 0 (l.length+l'.length) sz),(b',none)::(b',some ((l++l').flatMap AV.cells))::o1⟩) (Imp.fold d (b:=b') (len:=l.length+l'.length) (sz:=sz) (cells:=(l++l').flatMap AV.cells) (l:=l++l') (by simp [put,T]) (by simp [O]) QC ?_ hall rfl) ?_
   ·rw [List.take_of_length_le];rw [p7];simp
   ·rintro _ rfl;refine Imp.weak hK (fun j=>?_) ?_
    ·have:=hTT z (some d) (.sl true sz (l++l')) j;simp only [put,fE] at this ⊢;by_cases e:d=j
     ·simp [e]
     ·simpa [e] using this
    ·intro q cs hq;have:=ho1 q cs hq
     have hne:¬ b'=q:=fun e=>this.2 e.symm;simp only [O,if_neg hne];exact this.1
 refine OpW.imp (Imp.kM i hx hel ?_ ?_)
 ·intro b hfr;refine OpW.post (tu (b:=b) (len:=l.length) (cells:=l.flatMap AV.cells) (n:=l'.length) (ncells:=l'.flatMap AV.cells) (s:=⟨n,(i,.arr b 0 l.length sz)::tt,(b,some (l.flatMap AV.cells))::os⟩) ho hc hd (by simp [ev,T]) (by simp [O]) hlen ht hz hzl hu (by simp only [mb hxy];exact hsA _) hone hL hby h63 fun b' hb'=>?_);simp only [pH hxy,hfl];refine back _ b' _ fun q cs hq=>?_;have hqb:q≠b:=hfr q cs hq
  have abk:¬ b=q:=fun e=>hqb e.symm
  have h1:O (jg ((b,some (l.flatMap AV.cells))::os) [b]) q=some cs:=by
   rw [nU,if_neg (by simpa using hqb)];simp only [O,if_neg abk];exact hq
  exact ⟨h1,hb' q cs h1⟩
 ·intro e0;subst e0;by_cases h0:l'=[]
  ·subst h0;refine OpW.post (rC (s:=⟨n,(i,.v (.slice none 0 0))::tt,os⟩) ho hc hd (by simp [ev,T]) ht hu (by simp only [mb hxy];exact hsA _) ?_);simp only [pH hxy];exact Imp.weak hK (hTT _ _ _) (fun _ _ h=>h)
  ·have hpos:0<l'.length:=List.length_pos_iff.2 h0;refine OpW.post (tr (s:=⟨n,(i,.v (.slice none 0 0))::tt,os⟩) ho hc hd (by simp [ev,T]) ht hz hzl hu (by simp only [mb hxy];exact hsA _) hpos (by simpa using hL) (by simpa using hby) (by simpa using h63) fun b' hb'=>?_);simp only [pH hxy]
   have:=back (.v (.slice none 0 0)) b' os fun q cs hq=>⟨hq,hb' q cs hq⟩
   simpa using this
end
def ke.kQ{L:eaa}{P:Program}{f:FuncId}{args:List AV}{res:AV}(h:eY L P f args res):ke L P f [] args (fun r os'=>r=res/\os'=[]):=by
 intro B F own fs w vs hS hr;refine (h w F vs (fun b hb=>(hS.fl b hb).2.1) (hS.tb.kp hS.below hS.hB) hr).mono ?_;rintro e w' ⟨v,F',fp,rfl,h1,h2,h3,h4,h5,h6⟩
 classical
 let own':Nat->Own:=fun b=>if b∈fp then .slot 0 else own b
 have hsz:=h1.size;refine ⟨v,res,[],F',own',fs,fp,rfl,⟨rfl,rfl⟩,{ below:=Kp.MQ h1 (Ext.lC h1) hS.hB,hB:=fun b hb=>Nat.lt_of_lt_of_le (hS.hB b hb) hsz,tb:=hS.tb,f0:=h2,fl:=?_,ol:=?_,obj:=by simp [O] },h4,h5,fun b hb=>by simp only [own',if_pos hb]⟩
 ·intro b hb;have hnx:b ∉ fp:=fun hm=>(h6 b hm).1 hb;simp only [own',if_neg hnx];rcases h3 b hb with e|e
  ·have:=hS.fl b e;exact ⟨this.1,Ir,.inl e⟩
  ·refine ⟨?_,e.2,.inr fun hB=>by have:=hS.hB b hB;omega⟩;rcases Classical.em (own b=.none) with e'|e'
   ·exact e'
   ·have:=(hS.ol b e').2;omega
 ·intro b hb;by_cases e:b∈fp
  ·have:=h6 b e;exact ⟨fun hB=>by have:=hS.hB b hB;omega,this.2.2⟩
  ·simp only [own',if_neg e] at hb;have:=hS.ol b hb;exact ⟨this.1,Ir⟩
end
section
def InC(L:eaa)(P:Program)(f:FuncId)(g:Bool)(x x' rest:List AV)(res:AV):Prop :=
 x'.length=x.length/\(g=false->x.length=1) /\
 ∀ (B F:faa) (own:Nat->Own) (w:World) (vs rs:List Value) (fp:List Nat),
  mM L B F w F own (fun _=>[]) [] w->au L F w x vs fp->fp.Nodup->(∀ b,b∈fp->own b=.slot 0)->au L F w rest rs [] ->
  Calls P f (mkv g vs::rs).toArray w fun e w'=>∃ v F' own' fp',e=.returned v/\mM L B F w F' own' (fun _=>[]) [] w'/\Rep L F' w' res v []/\au L F' w' x' vs fp'/\fp'.Nodup/\(∀ b,b∈fp'->own' b=.slot 0)
section
variable {L : Nat -> Nat} {P : Program} {f : FuncId} {g : Bool} {x x' rest : List AV} {res : AV}
def zD(hC:InC L P f g x x' rest res){B F0:faa}{w0:World}{F:faa}{own:Nat->Own}{fp fs:Nat->List Nat}{s:AS}{a:Act}{w:World}(h:cv L B F0 w0 F own fp fs s a w)
  {o1:Own} {fx:List Nat} {vs rs:List Value} (hx:au L F w x vs fx) (hn:fx.Nodup) (ho:∀ b,b∈fx->own b=o1) (h1:o1≠.none) (hr:au L F w rest rs []) :
  Calls P f (mkv g vs::rs).toArray w fun e w'=>∃ (v:Value) (F':faa) (own':Nat->Own) (fx':List Nat),e=.returned v/\Kp (fun b=>b<w.heap.size/\b ∉ fx) w w'/\(∀ b,F b->F' b)/\(∀ b,F' b->own' b=.none/\b<w'.heap.size/\(F0 b\/¬ B b)) /\
   (∀ b,own' b≠.none->¬ B b/\b<w'.heap.size)/\(∀ b,b ∉ fx->own b≠.none->own' b=own b)/\Rep L F' w' res v []/\au L F' w' x' vs fx'/\fx'.Nodup/\(∀ b,b∈fx'->own' b=o1/\¬ (b<w.heap.size/\b ∉ fx)):=by
 classical
 let U:Nat->Prop:=fun b=>b<w.heap.size/\b ∉ fx
 let pE:Nat->Own:=fun b=>if b∈fx then .slot 0 else .none
 have K7:∀ b,b∈fx->own b≠.none:=fun b hb=>by rw [ho b hb];exact h1
 have hUB:∀ b,B b->U b:=fun b hb=>⟨h.hB b hb,fun hm=>(h.ol b (K7 b hm)).1 hb⟩
 have hS:mM L U F w F pE (fun _=>[]) [] w:=by
  refine { below:=Kp.refl _ _,hB:=fun b hb=>hb.1,tb:=h.tb.kp h.below hUB,f0:=fun _ h=>h,fl:=fun b hb=>⟨?_,(h.fl b hb).2.1,.inl hb⟩,ol:=fun b hb=>?_,obj:=by simp [O] }
  ·have:b ∉ fx:=fun hm=>K7 b hm (h.fl b hb).1;simp only [pE,if_neg this]
  ·by_cases e:b∈fx
   ·exact ⟨fun hu=>hu.2 e,(h.ol b (K7 b e)).2⟩
   ·simp only [pE,if_neg e] at hb;exact absurd rfl hb
 refine (hC.2.2 U F pE w vs rs fx hS hx hn (fun b hb=>by simp only [pE,if_pos hb]) hr).mono ?_;rintro e w' ⟨v,F',lB,fx',rfl,h5,h6,h7,h8,h9⟩;have hsz:=h5.below.size
 let own':Nat->Own:=fun b=>if U b then own b else if b∈fx' then o1 else .none
 have hnU:∀ b,b∈fx'->¬ U b:=fun b hb=>(h5.ol b (by rw [h9 b hb];simp)).1;refine ⟨v,F',own',fx',rfl,h5.below,h5.f0,fun b hb=>?_,fun b hb=>?_,fun b hb1 hb2=>?_,h6,h7,h8,fun b hb=>⟨?_,hnU b hb⟩⟩
 ·have g0:=h5.fl b hb;by_cases hu:U b
  ·have hF:F b:=g0.2.2.resolve_right fun e=>e hu;exact ⟨by simp only [own',if_pos hu];exact (h.fl b hF).1,g0.2.1,(h.fl b hF).2.2⟩
  ·have:b ∉ fx':=fun hm=>by have:=h9 b hm;rw [g0.1] at this;cases this
   exact ⟨by simp only [own',if_neg hu,if_neg this],g0.2.1,.inr fun hB=>hu (hUB b hB)⟩
 ·by_cases hu:U b
  ·simp only [own',if_pos hu] at hb;have:=h.ol b hb;exact ⟨this.1,Ir⟩
  ·by_cases hm:b∈fx'
   ·have:=h5.ol b (by rw [h9 b hm];simp);exact ⟨fun hB=>hu (hUB b hB),this.2⟩
   ·simp only [own',if_neg hu,if_neg hm] at hb;exact absurd rfl hb
 ·have:U b:=⟨(h.ol b hb2).2,hb1⟩
  simp only [own',if_pos this]
 ·simp only [own',if_neg (hnU b hb),if_pos hb]
def sj{s:AS}{o:Oper}{y:Operand}{xs:Array Operand}{ts:Array TypeId}{caps:List AV}{B F0:faa}{w0:World}{F:faa}{own:Nat->Own}{fp fs:Nat->List Nat}{a:Act}{w:World}(h:cv L B F0 w0 F own fp fs s a w)
  (ho:o.op=.call ⟨.value y,xs,ts⟩) (hy:fnA (ev s.t y)=some (f,caps)) (hcn:AV.nownL caps=true) (he:enters P f=true) :
  ∃ cvs:List Value,au L F w caps cvs []/\(execOp a.eval o).run P w=.ok (.enter f (xs.toList.map a.eval++cvs).toArray) w:=by
 have hry:=h.ev y
 obtain ⟨cvs,hyv,hcr⟩:∃ cvs:List Value,a.eval y=.func (.func f) #[] cvs.toArray/\au L F w caps cvs []:=by
  generalize ev s.t y=z at hy hry;unfold fnA at hy;split at hy
  ·cases hy;simp only [Rep] at hry;obtain ⟨vs,e,hl⟩:=hry;rw [au.dX hcn hl] at hl;exact ⟨vs,e,hl⟩
  ·split at hy
   ·rename_i first cap hsz
    cases hy;simp only [Rep] at hry;have e1:first=#[]:=Array.eq_empty_of_size_eq_zero hsz.1
    have e2:cap=#[]:=Array.eq_empty_of_size_eq_zero hsz.2;exact ⟨[],by rw [hry.1,e1,e2],by simp [au]⟩
   ·cases hy
  ·cases hy
 refine ⟨cvs,hcr,?_⟩;have:=uZ he (xs.toList.map a.eval++cvs).toArray w
 have e:xs.map a.eval++cvs.toArray=(xs.toList.map a.eval++cvs).toArray:=by apply Array.ext';simp
 rw [<- e] at this ⊢;simp only [execOp,ho,resolve,Sem.run_bind,hyv,Deferred.ofValue,Sem.run_pure,Result.andThen_ok,invoke,Array.empty_append];exact this
def Hq{B F0:faa}{w0:World}{F:faa}{own:Nat->Own}{fp fs:Nat->List Nat}{n:Nat}{t:daa}{os:Sto}{a:Act}{w:World}(h:cv L B F0 w0 F own fp fs ⟨n,t,os⟩ a w)
  {i:Nat} {f1 fx f3 fx':List Nat} (hfp:fp i=f1++(fx++f3)) {w':World} {F':faa} {own':Nat->Own} (hk:Kp (fun b=>b<w.heap.size/\b ∉ fx) w w') (hF:∀ b,F b->F' b) (hfl:∀ b,F' b->own' b=.none/\b<w'.heap.size/\(F0 b\/¬ B b))
  (hol:∀ b,own' b≠.none->¬ B b/\b<w'.heap.size) (hsame:∀ b,b ∉ fx->own b≠.none->own' b=own b) (hn':fx'.Nodup) (ho':∀ b,b∈fx'->own' b=.slot i/\¬ (b<w.heap.size/\b ∉ fx))
  {z res:AV} {v:Value} {d:Option Nat} (hd:cz n d=true) (hz:Rep L F' w' z (a.tmps.getD i undef) (f1++(fx'++f3))) (hres:Rep L F' w' res v []):Den L B F0 w0 ⟨n,put ((i,z)::t) d res,os⟩ (a.put d v) w':=by
 have hsz:=hk.size
 have cE:Ext (fun b=>b<w.heap.size/\b ∉ fx) w w':=⟨hk.size,hk.block,hk.shape⟩
 have lH:∀ b,b∈fx->own b=.slot i:=fun b hb=>h.so i b (by rw [hfp];simp [hb])
 have hFS:∀ b,F b->F' b/\(b<w.heap.size/\b ∉ fx):=fun b hb=>⟨hF b hb,(h.fl b hb).2.1,fun hm=>by have:=lH b hm;rw [(h.fl b hb).1] at this;cases this⟩
 have hB:∀ b,B b->b<w.heap.size/\b ∉ fx:=fun b hb=>⟨h.hB b hb,fun hm=>(h.ol b (by rw [lH b hm];simp)).1 hb⟩
 have hnd:=h.sn i;rw [hfp,List.nodup_append] at hnd;obtain ⟨hn1,hn2,hn3⟩:=hnd;rw [List.nodup_append] at hn2;obtain ⟨hnx,hn4,hn5⟩:=hn2
 have hin:∀ b,b∈f1\/b∈f3->own b=.slot i/\b ∉ fx:=fun b hb=>by
  rcases hb with hb|hb
  ·exact ⟨h.so i b (by rw [hfp];simp [hb]),fun hm=>hn3 b hb b (by simp [hm]) rfl⟩
  ·exact ⟨h.so i b (by rw [hfp];simp [hb]),fun hm=>hn5 b hm b hb rfl⟩
 have GF:∀ b,b∈f1\/b∈f3->b ∉ fx':=fun b hb hm=>(ho' b hm).2 ⟨(h.ol b (by rw [(hin b hb).1];simp)).2,(hin b hb).2⟩;refine ⟨F',own',fun j=>if d=some j then [] else if j=i then f1++(fx'++f3) else fp j,fs,{ below:=h.below.trans (hk.mono hB),hB:=fun b hb=>Nat.lt_of_lt_of_le (h.hB b hb) hsz,tb:=h.tb,f0:=fun b hb=>hF b (h.f0 b hb),fl:=hfl,ol:=hol,defers:=?_,size:=?_,slots:=?_,sn:=?_,so:=?_,obj:=?_ }⟩
 ·have:=h.defers;cases d<;>simpa [Act.put] using this
 ·have:=h.size;cases d<;>simpa [Act.put] using this
 ·intro j;simp only [mg,fE];rw [iZ a d v j (by rw [h.size];exact hd)];by_cases e:d=some j
  ·simp only [e,if_true];exact hres
  ·simp only [if_neg e];by_cases e2:i=j
   ·subst e2;simp only [if_true];exact hz
   ·have e2':¬ j=i:=fun h=>e2 h.symm;simp only [if_neg e2,if_neg e2'];refine Rep.ext cE hFS (fun b hb=>⟨(h.iq hb).2,fun hm=>?_⟩) (h.slots j);have e3:=lH b hm;rw [h.so j b hb] at e3;cases e3;exact e2 rfl
 ·intro j;split
  ·simp
  ·split
   ·rw [List.nodup_append];refine ⟨hn1,?_,fun b hb b' hb' e=>?_⟩
    ·rw [List.nodup_append];exact ⟨hn',hn4,fun b hb b' hb' e=>GF b' (.inr hb') (e ▸ hb)⟩
    ·subst e;rcases List.mem_append.1 hb' with hb'|hb'
     ·exact GF b (.inl hb) hb'
     ·exact hn3 b hb b (by simp [hb']) rfl
   ·exact h.sn j
 ·intro j b hb;by_cases e:d=some j
  ·rw [if_pos e] at hb;simp at hb
  ·rw [if_neg e] at hb;by_cases e2:j=i
   ·subst e2;rw [if_pos rfl] at hb;rcases List.mem_append.1 hb with hb|hb
    ·rw [hsame b (hin b (.inl hb)).2 (by rw [(hin b (.inl hb)).1];simp)];exact (hin b (.inl hb)).1
    ·rcases List.mem_append.1 hb with hb|hb
     ·exact (ho' b hb).1
     ·rw [hsame b (hin b (.inr hb)).2 (by rw [(hin b (.inr hb)).1];simp)];exact (hin b (.inr hb)).1
   ·rw [if_neg e2] at hb;have hj:=h.so j b hb
    have:b ∉ fx:=fun hm=>by have:=lH b hm;rw [hj] at this;cases this;exact e2 rfl
    rw [hsame b this (by rw [hj];simp)];exact hj
 ·intro b cells hO;obtain ⟨g1,g2,g3,c,Ty,vals,rest,g4,g5,g6⟩:=h.obj b cells hO;have hb:b ∉ fx:=fun hm=>by have:=lH b hm;rw [g1] at this;cases this
  have hkk:∀ k,k∈fs b->k ∉ fx:=fun k hk hm=>by have:=lH k hm;rw [g3 k hk] at this;cases this
  refine ⟨by rw [hsame b hb (by rw [g1];simp)];exact g1,g2,fun k hk=>by rw [hsame k (hkk k hk) (by rw [g3 k hk];simp)];exact g3 k hk,c,Ty,vals,rest,?_,g5,?_⟩
  ·rw [hk.block b ⟨(h.ol b (by rw [g1];simp)).2,hb⟩];exact g4
  ·exact au.ext cE hFS (fun k hk=>⟨(h.ol k (by rw [g3 k hk];simp)).2,hkk k hk⟩) g6
section
variable {o : Oper} {n : Nat} {t : List (Nat × AV)} {os : Sto} {y a0 : Operand} {xs : List Operand} {ts : Array TypeId} {caps : List AV} {K : AS -> Prop}
def Sm{i:Nat}(ho:o.op=.call ⟨.value y,(.tmp i::xs).toArray,ts⟩)(hd:cz n o.dst=true)(hy:fnA (ev t y)=some (f,caps))(hcn:AV.nownL caps=true)(he:enters P f=true)
  (hT:T t i=kH g x) (hn:AV.nownL (xs.map (ev t))=true) (hC:InC L P f g x x' (xs.map (ev t)++caps) res) (hK:K ⟨n,put ((i,kH g x')::t) o.dst res,os⟩):OpW L P o ⟨n,t,os⟩ K:=by
 intro B F0 w0 a w next Q cr bF
 obtain ⟨F,own,fp,fs,h⟩:=cr;obtain ⟨cvs,hcr,hex⟩:=sj (P:=P) (s:=⟨n,t,os⟩) h ho hy hcn he;have hrest:=au.join (au.tw h xs hn) hcr;rw [List.append_nil] at hrest;have hr:=h.slots i;simp only at hr;rw [hT] at hr;obtain ⟨vs,hvs,hv⟩:=uA hC.2.1 hr;unfold Oper.wp;rw [hex];simp only [List.toList_toArray,List.map_cons,List.cons_append];have e0:a.eval (.tmp i)=mkv g vs:=hv;rw [e0];refine (zD hC h hvs (h.sn i) (fun b hb=>h.so i b hb) QC hrest).mono ?_;rintro e w' ⟨v,F',own',fx',rfl,h1,h2,h3,h4,h5,h6,h7,h8,h9⟩;refine bF _ _ _ hK ?_;refine Hq h (i:=i) (f1:=[]) (f3:=[]) (fx:=fp i) (fx':=fx') QC h1 h2 h3 h4 h5 h8 h9 hd ?_ h6;rw [hv];simp only [List.nil_append,List.append_nil];exact HK (fun e=>by rw [hC.1];exact hC.2.1 e) h7
def Sj{i:Nat}{pre px post:List AV}(ho:o.op=.call ⟨.value y,(a0::xs).toArray,ts⟩)(hd:cz n o.dst=true)(hy:fnA (ev t y)=some (f,caps))(hcn:AV.nownL caps=true)(he:enters P f=true)
  (hT:T t i=.agg (pre++(px++post))) (ha:ev t a0=kH g (fJ px)) (hdt:q8 (fJ px)=true) (hn:AV.nownL (xs.map (ev t))=true) (hC:InC L P f g (mi px) x' (xs.map (ev t)++caps) res)
  (hK:K ⟨n,put ((i,.agg (pre++(mC px x'++post)))::t) o.dst res,os⟩):OpW L P o ⟨n,t,os⟩ K:=by
 intro B F0 w0 a w next Q cr bF
 obtain ⟨F,own,fp,fs,h⟩:=cr;obtain ⟨cvs,hcr,hex⟩:=sj (P:=P) (s:=⟨n,t,os⟩) h ho hy hcn he;have hrest:=au.join (au.tw h xs hn) hcr;rw [List.append_nil] at hrest;have hr:=h.slots i;simp only at hr;rw [hT] at hr;simp only [Rep] at hr;obtain ⟨aeu,hval,hl⟩:=hr;obtain ⟨v1,v23,f1,f23,rfl,hfp,r1,r23⟩:=hl.split;obtain ⟨vs,v3,fx,f3,rfl,rfl,r2,r3⟩:=r23.split;have hlen:g=false->(fJ px).length=1:=fun e=>by rw [oL,<- sy];exact hC.2.1 e
 have hra:=h.ev a0;simp only at hra;rw [ha] at hra;obtain ⟨vs',Gw,hv'⟩:=uA hlen hra;have e0:vs'=vs:=au.CV hdt r2 Gw;subst e0;unfold Oper.wp;rw [hex];simp only [List.toList_toArray,List.map_cons,List.cons_append];rw [hv'];have hnd:=h.sn i;rw [hfp,List.nodup_append] at hnd;have hnx:=(List.nodup_append.1 hnd.2.1).1;refine (zD hC h r2.unp hnx (fun b hb=>h.so i b (by rw [hfp];simp [hb])) QC hrest).mono ?_;rintro e w' ⟨v,F',own',fx',rfl,h1,h2,h3,h4,h5,h6,h7,h8,h9⟩;refine bF _ _ _ hK ?_;refine Hq h (i:=i) (f1:=f1) (f3:=f3) (fx:=fx) (fx':=fx') hfp h1 h2 h3 h4 h5 h8 h9 hd ?_ h6
 have cE:Ext (fun b=>b<w.heap.size/\b ∉ fx) w w':=⟨h1.size,h1.block,h1.shape⟩
 have lH:∀ b,b∈fx->own b=.slot i:=fun b hb=>h.so i b (by rw [hfp];simp [hb])
 have hFS:∀ b,F b->F' b/\(b<w.heap.size/\b ∉ fx):=fun b hb=>⟨h2 b hb,(h.fl b hb).2.1,fun hm=>by have:=lH b hm;rw [(h.fl b hb).1] at this;cases this⟩
 rw [hval];simp only [Rep];refine ⟨_,rfl,?_⟩;refine au.join (au.ext cE hFS (fun b hb=>?_) r1) (au.join (au.oH r2 h7) (au.ext cE hFS (fun b hb=>?_) r3))
 ·exact ⟨(h.ol b (by rw [h.so i b (by rw [hfp];simp [hb])];simp)).2,fun hm=>hnd.2.2 b hb b (by simp [hm]) rfl⟩
 ·exact ⟨(h.ol b (by rw [h.so i b (by rw [hfp];simp [hb])];simp)).2,fun hm=>(List.nodup_append.1 hnd.2.1).2.2 b hm b hb rfl⟩
def Sk{b0:Nat}{pre px post:List AV}(ho:o.op=.call ⟨.value y,(a0::xs).toArray,ts⟩)(hd:cz n o.dst=true)(hy:fnA (ev t y)=some (f,caps))(hcn:AV.nownL caps=true)(he:enters P f=true)
  (hO:O os b0=some (pre++(px++post))) (ha:ev t a0=kH g (fJ px)) (hdt:q8 (fJ px)=true) (hn:AV.nownL (xs.map (ev t))=true) (hC:InC L P f g (mi px) x' (xs.map (ev t)++caps) res)
  (hK:K ⟨n,put t o.dst res,(b0,some (pre++(mC px x'++post)))::os⟩):OpW L P o ⟨n,t,os⟩ K:=by
 intro B F0 w0 a w next Q cr bF
 obtain ⟨F,own,fp,fs,h⟩:=cr;obtain ⟨cvs,hcr,hex⟩:=sj (P:=P) (s:=⟨n,t,os⟩) h ho hy hcn he;have hrest:=au.join (au.tw h xs hn) hcr;rw [List.append_nil] at hrest;obtain ⟨hkey,j1,eD,c,Ty,vals,rst,hc,hcl,hl⟩:=h.obj b0 _ hO;obtain ⟨v1,v23,f1,f23,rfl,hfp,r1,r23⟩:=hl.split;obtain ⟨vs,v3,fx,f3,rfl,rfl,r2,r3⟩:=r23.split;have hlen:g=false->(fJ px).length=1:=fun e=>by rw [oL,<- sy];exact hC.2.1 e
 have hra:=h.ev a0;simp only at hra;rw [ha] at hra;obtain ⟨vs',Gw,hv'⟩:=uA hlen hra;have e0:vs'=vs:=au.CV hdt r2 Gw;subst e0;unfold Oper.wp;rw [hex];simp only [List.toList_toArray,List.map_cons,List.cons_append];rw [hv'];have hnd:=j1;rw [hfp,List.nodup_append] at hnd;obtain ⟨hn1,hn2,hn3⟩:=hnd;rw [List.nodup_append] at hn2;obtain ⟨hnx,hn4,hn5⟩:=hn2;have lH:∀ b,b∈fx->own b=.obj b0:=fun b hb=>eD b (by rw [hfp];simp [hb]);refine (zD hC h r2.unp hnx lH QC hrest).mono ?_;rintro e w' ⟨v,F',own',fx',rfl,h1,h2,h3,h4,h5,h6,h7,h8,h9⟩;refine bF _ _ _ hK ?_;have hsz:=h1.size
 have cE:Ext (fun b=>b<w.heap.size/\b ∉ fx) w w':=⟨h1.size,h1.block,h1.shape⟩
 have hFS:∀ b,F b->F' b/\(b<w.heap.size/\b ∉ fx):=fun b hb=>⟨h2 b hb,(h.fl b hb).2.1,fun hm=>by have:=lH b hm;rw [(h.fl b hb).1] at this;cases this⟩
 have hB:∀ b,B b->b<w.heap.size/\b ∉ fx:=fun b hb=>⟨h.hB b hb,fun hm=>(h.ol b (by rw [lH b hm];simp)).1 hb⟩
 have hin:∀ b,b∈f1\/b∈f3->own b=.obj b0/\b ∉ fx:=fun b hb=>by
  rcases hb with hb|hb
  ·exact ⟨eD b (by rw [hfp];simp [hb]),fun hm=>hn3 b hb b (by simp [hm]) rfl⟩
  ·exact ⟨eD b (by rw [hfp];simp [hb]),fun hm=>hn5 b hm b hb rfl⟩
 have GF:∀ b,b∈f1\/b∈f3->b ∉ fx':=fun b hb hm=>(h9 b hm).2 ⟨(h.ol b (by rw [(hin b hb).1];simp)).2,(hin b hb).2⟩
 have hb0:b0 ∉ fx:=fun hm=>by have:=lH b0 hm;rw [hkey] at this;cases this
 refine ⟨F',own',fun j=>if o.dst=some j then [] else fp j,fun q=>if q=b0 then f1++(fx'++f3) else fs q,{ below:=h.below.trans (h1.mono hB),hB:=fun b hb=>Nat.lt_of_lt_of_le (h.hB b hb) hsz,tb:=h.tb,f0:=fun b hb=>h2 b (h.f0 b hb),fl:=h3,ol:=h4,defers:=?_,size:=?_,slots:=?_,sn:=?_,so:=?_,obj:=?_ }⟩
 ·have:=h.defers;cases o.dst<;>simpa [Act.put] using this
 ·have:=h.size;cases o.dst<;>simpa [Act.put] using this
 ·intro j;simp only [mg];rw [iZ a o.dst v j (by rw [h.size];exact hd)];by_cases e:o.dst=some j
  ·simp only [e,if_true];exact h6
  ·simp only [if_neg e];refine Rep.ext cE hFS (fun b hb=>⟨(h.iq hb).2,fun hm=>?_⟩) (h.slots j);have e3:=lH b hm;rw [h.so j b hb] at e3;cases e3
 ·intro j;split
  ·simp
  ·exact h.sn j
 ·intro j b hb;by_cases e:o.dst=some j
  ·rw [if_pos e] at hb;simp at hb
  ·rw [if_neg e] at hb;have hj:=h.so j b hb
   have:b ∉ fx:=fun hm=>by have:=lH b hm;rw [hj] at this;cases this
   rw [h5 b this (by rw [hj];simp)];exact hj
 ·intro b cells hOb;simp only [O] at hOb;by_cases e:b0=b
  ·subst e;rw [if_pos rfl] at hOb;cases hOb;simp only [if_true];refine ⟨by rw [h5 b0 hb0 (by rw [hkey];simp)];exact hkey,?_,fun k hk=>?_,c,Ty,_,rst,?_,hcl,?_⟩
   ·rw [List.nodup_append];refine ⟨hn1,?_,fun b hb b' hb' e=>?_⟩
    ·rw [List.nodup_append];exact ⟨h8,hn4,fun b hb b' hb' e=>GF b' (.inr hb') (e ▸ hb)⟩
    ·subst e;rcases List.mem_append.1 hb' with hb'|hb'
     ·exact GF b (.inl hb) hb'
     ·exact hn3 b hb b (by simp [hb']) rfl
   ·rcases List.mem_append.1 hk with hb|hb
    ·rw [h5 k (hin k (.inl hb)).2 (by rw [(hin k (.inl hb)).1];simp)];exact (hin k (.inl hb)).1
    ·rcases List.mem_append.1 hb with hb|hb
     ·exact (h9 k hb).1
     ·rw [h5 k (hin k (.inr hb)).2 (by rw [(hin k (.inr hb)).1];simp)];exact (hin k (.inr hb)).1
   ·rw [h1.block b0 ⟨(h.ol b0 (by rw [hkey];simp)).2,hb0⟩];exact hc
   ·refine au.join (au.ext cE hFS (fun b hb=>?_) r1) (au.join (au.oH r2 h7) (au.ext cE hFS (fun b hb=>?_) r3))
    ·exact ⟨(h.ol b (by rw [(hin b (.inl hb)).1];simp)).2,(hin b (.inl hb)).2⟩
    ·exact ⟨(h.ol b (by rw [(hin b (.inr hb)).1];simp)).2,(hin b (.inr hb)).2⟩
  ·rw [if_neg e] at hOb;have e':¬ b=b0:=fun h=>e h.symm;simp only [if_neg e'];obtain ⟨g1,g2,g3,c',Ty',lV,XX,g4,g5,g6⟩:=h.obj b cells hOb;have hb:b ∉ fx:=fun hm=>by have:=lH b hm;rw [g1] at this;cases this
   have hkk:∀ k,k∈fs b->k ∉ fx:=fun k hk hm=>by have:=lH k hm;rw [g3 k hk] at this;cases this;exact e rfl
   refine ⟨by rw [h5 b hb (by rw [g1];simp)];exact g1,g2,fun k hk=>by rw [h5 k (hkk k hk) (by rw [g3 k hk];simp)];exact g3 k hk,c',Ty',lV,XX,?_,g5,?_⟩
   ·rw [h1.block b ⟨(h.ol b (by rw [g1];simp)).2,hb⟩];exact g4
   ·exact au.ext cE hFS (fun k hk=>⟨(h.ol k (by rw [g3 k hk];simp)).2,hkk k hk⟩) g6
end
end
end
section
mutual
def AV.keys:AV->List Nat
 | .arr b _ _ _=>[b]
 | .ptr b _=>[b]
 | .agg l=>AV.jN l
 | .tup l=>AV.jN l
 | .fn _ l=>AV.jN l
 | .cnd _ x=>x.keys
 | _=>[]
def AV.jN:List AV->List Nat
 | []=>[]
 | x::xs=>x.keys++AV.jN xs
end
def mG(os:Sto):List Nat->Sto
 | []=>[]
 | b::bs=>(b,O os b)::mG os bs
def BC:Sto->List Nat
 | []=>[]
 | (_,some cells)::o=>AV.jN cells++BC o
 | (_,none)::o=>BC o
def wi(os:Sto)(args:List AV):Sto:=mG os (AV.jN args)++mG os (BC (mG os (AV.jN args)))
def wk(os:Sto):∀ (a b:List Nat),mG os (a++b)=mG os a++mG os b
 | [],_=>rfl
 | x::a,b=>by simp only [List.cons_append,mG,wk os a b]
def Oq{os:Sto}{b:Nat}{cells:List AV}:∀ {bs:List Nat},O (mG os bs) b=some cells->O os b=some cells
 | [],h=>by simp [mG,O] at h
 | x::bs,h=>by
  simp only [mG,O] at h;split at h
  ·rename_i e;subst e;exact h
  ·exact Oq h
def Ui{os:Sto}{args:List AV}{b:Nat}{cells:List AV}(h:O (wi os args) b=some cells):O os b=some cells:=by rw [wi,<- wk] at h;exact Oq h
def ig:Sto->Nat->Option (List AV)->Sto
 | [],_,_=>[]
 | p::o,b,c=>if p.1=b then (b,c)::o else p::ig o b c
def Iw(b:Nat)(c c':Option (List AV))(o:Sto):ig ((b,c')::o) b c=(b,c)::o:=by simp [ig]
def Rs{b b':Nat}(h:b'≠b)(c c':Option (List AV))(o:Sto):ig ((b',c')::o) b c=(b',c')::ig o b c:=by simp [ig,h]
def LN:∀ (o:Sto) (b:Nat) (c:Option (List AV)) (q:Nat),O (ig o b c) q=if q=b/\b∈o.map Prod.fst then c else O o q
 | [],b,c,q=>by simp [ig,O]
 | p::o,b,c,q=>by
  simp only [ig];by_cases h:p.1=b
  ·rw [if_pos h];by_cases e:b=q
   ·subst e;simp [O,h]
   ·have e':¬ q=b:=fun h=>e h.symm
    have:¬ p.1=q:=fun h'=>e (h.symm.trans h');simp [O,e,e',this]
  ·rw [if_neg h];by_cases e:p.1=q
   ·have:¬ q=b:=fun h'=>h (e.trans h');simp [O,e,this]
   ·have h':¬ b=p.1:=fun e=>h e.symm;simp only [O,if_neg e,LN o b c q,List.map_cons,List.mem_cons,h',false_or]
def mergeO:Sto->Sto->Sto
 | o,[]=>o
 | o,p::o'=>ig (mergeO o o') p.1 p.2
def E0:∀ (o:Sto) (b:Nat) (c:Option (List AV)),(ig o b c).map Prod.fst=o.map Prod.fst
 | [],_,_=>rfl
 | p::o,b,c=>by
  simp only [ig];split
  ·rename_i h;simp [h]
  ·simp [E0 o b c]
def Bd:∀ (o o':Sto),(mergeO o o').map Prod.fst=o.map Prod.fst
 | _,[]=>rfl
 | o,p::o'=>by rw [mergeO,E0,Bd o o']
def Ka:∀ (o o':Sto) (q:Nat),O (mergeO o o') q=if q∈o'.map Prod.fst/\q∈o.map Prod.fst then O o' q else O o q
 | o,[],q=>by simp [mergeO]
 | o,p::o',q=>by
  rw [mergeO,LN,Bd,Ka o o' q];by_cases e:q=p.1
  ·subst e;by_cases h:p.1∈o.map Prod.fst
   ·simp [h,O]
   ·simp only [h,and_false,if_false]
  ·have e':¬ p.1=q:=fun h=>e h.symm;simp only [e,false_and,if_false,List.map_cons,List.mem_cons,false_or,O,if_neg e']
def zipK:Sto->List (Option (List AV))->Sto
 | [],_=>[]
 | p::o,[]=>(p.1,none)::zipK o []
 | p::o,c::cs=>(p.1,c)::zipK o cs
def vJ:∀ (o:Sto) (cs:List (Option (List AV))),(zipK o cs).map Prod.fst=o.map Prod.fst
 | [],_=>rfl
 | p::o,[]=>by simp [zipK,vJ o []]
 | p::o,c::cs=>by simp [zipK,vJ o cs]
class Ctr(L:eaa)(P:Program)(f:FuncId)(os:Sto)(args:List AV)(res:outParam AV)(cs:outParam (List (Option (List AV))))(pre:outParam Prop):Prop where
 en:enters P f=true
 out:pre->ke L P f os args (fun r os'=>r=res/\os'=zipK os cs)
theorem Ctr.kQ{L:eaa}{P:Program}{f:FuncId}{args:List AV}{res:AV}{pre:Prop}(he:enters P f=true)(h:pre->eY L P f args res):Ctr L P f [] args res [] pre :=
 ⟨he,fun hp=>ke.kQ (h hp)⟩
theorem Ctr.pure{L:eaa}{P:Program}{f:FuncId}{args:List AV}{res:AV}{cs:List (Option (List AV))}{pre:Prop}(h:Ctr L P f [] args res cs pre)(hp:pre):eY L P f args res :=
 eY.Vo ((h.out hp).mono fun _ _ h=>h.1)
abbrev nL:=pF
def F5(os:Sto):∀ l:List AV,mY os l (nL l)
 | []=>.nil
 | x::xs=>by
  refine .cons ?_ (F5 os xs)
  cases h:x.cW with
  | true=>exact .inl ⟨h,QC⟩
  | false=>exact .inr (.inr (.inl QC))
def LP(L:eaa)(P:Program)(f:FuncId)(sz:Nat)(l rest:List AV)(res:AV)(l':List AV):Prop :=
 (∀ b,ke L P f [(b,some (l.flatMap AV.cells))] (.arr b 0 l.length sz::rest) (fun r os'=>r=res/\os'=[(b,some (l'.flatMap AV.cells))])) /\
 (l=[]->eY L P f (.sl false sz []::rest) res/\l'=[])/\l'.length=l.length/\(∀ x,x∈l->x.elem sz=true)/\(∀ x,x∈l'->x.elem sz=true)
class xq(L:eaa)(P:Program)(f:FuncId)(sz:Nat)(l rest:List AV)(res:outParam AV)(l':outParam (List AV))(pre:outParam Prop):Prop where
 en:enters P f=true
 out:pre->LP L P f sz l rest res l'
def BG(t:daa):List Operand->Option (Nat×Nat×List AV)
 | .tmp i::_=>match T t i with
  | .sl true sz l=>some (i,sz,l)
  | _=>none
 | _=>none
def nO(t:daa):List Nat->daa
 | []=>t
 | j::js=>(j,(T t j).frz)::nO t js
structure yp where
 t:daa
 a0:Option Nat
 k:Nat->AV->AV->Prop
 kf:AV->Prop
 kb:Nat->Nat->List AV->AV->Prop
def nfO:Sto->Nat->Prop
 | [],_=>True
 | (b',some _)::o,b=>b'≠b/\nfO o b
 | (_,none)::_,_=>True
def Kt:List Operand->Option Nat
 | .tmp i::_=>some i
 | _=>none
def CallN(L:eaa)(P:Program)(os rs:Sto)(la:List AV)(bo:Option (Nat×Nat×List AV))(rest:List AV)(f:FuncId)(args:List AV)[K:Hd (AV->Sto->Prop)][KB:Hd (Nat->Nat->List AV->AV->Prop)][KX:Hd yp]:Prop :=
 enters P f=true/\((AV.nownL args=true/\∃ Q,ke L P f rs args Q/\∀ res os',Q res os'->(os'.map Prod.fst=rs.map Prod.fst/\K.v res (mergeO os os'))\/(rs=[]/\∃ b cells,os'=[(b,some cells)]/\(nfO os b->K.v res ((b,some cells)::os)))) \/
  (∃ res,res.closed=true/\eY L P f la res/\K.v res os) \/
  (∃ la' res,mY os args la'/\res.closed=true/\eY L P f la' res/\K.v res os) \/
  (∃ i sz l,bo=some (i,sz,l)/\AV.nownL rest=true/\∃ res l',LP L P f sz l rest res l'/\KB.v i sz l' res) \/
  (∃ g x x' res i,KX.v.a0=some i/\T KX.v.t i=kH g x/\AV.nownL rest=true/\InC L P f g x x' rest res/\KX.v.k i (kH g x') res) \/
  (∃ g pre px post x' res i,args=kH g (fJ px)::rest/\T KX.v.t i=.agg (pre++(px++post))/\q8 (fJ px)=true/\AV.nownL rest=true/\InC L P f g (mi px) x' rest res/\KX.v.k i (.agg (pre++(mC px x'++post))) res) \/
  (∃ g pre px post x' res b,args=kH g (fJ px)::rest/\O os b=some (pre++(px++post))/\q8 (fJ px)=true/\AV.nownL rest=true/\InC L P f g (mi px) x' rest res/\K.v res (ig os b (some (pre++(mC px x'++post))))) \/
  (∃ res,eY L P f la res/\KX.v.kf res) \/
  (∃ x0 lar i sz l,la=x0::lar/\bo=some (i,sz,l)/\AV.nownL lar=true/\∃ res l',LP L P f sz l lar res l'/\KX.v.kb i sz l' res))
class iM(L:eaa)(P:Program)(f:FuncId)(la:List AV)(res:outParam AV)(pre:outParam Prop):Prop where
 en:enters P f=true
 out:pre->eY L P f la res
class aeS(L:eaa)(P:Program)(f:FuncId)(g:outParam Bool)(x rest:List AV)(res:outParam AV)(x':outParam (List AV))(pre:outParam Prop):Prop where
 en:enters P f=true
 out:pre->InC L P f g x x' rest res
section
variable {L : Nat -> Nat} {P : Program} {os rs : Sto} {la : List AV} {bo : Option (Nat × Nat × List AV)} {rest : List AV} {f : FuncId} {args : List AV} {K : AV -> Sto -> Prop} {KB : Nat -> Nat -> List AV -> AV -> Prop} {KX : yp}
theorem CallN.ctr{res:AV}{cs:List (Option (List AV))}{pre:Prop}[h:Ctr L P f rs args res cs pre](hn:AV.nownL args=true)(hp:pre)(hK:K res (mergeO os (zipK rs cs))):CallN L P os rs la bo rest f args (K:=⟨K⟩) (KB:=⟨KB⟩) (KX:=⟨KX⟩) :=
 ⟨h.en,.inl ⟨hn,_,h.out hp,by rintro _ _ ⟨rfl,rfl⟩;exact .inl ⟨vJ _ _,hK⟩⟩⟩
def CallN.gen{Q:AV->Sto->Prop}(he:enters P f=true)(hn:AV.nownL args=true)(h:ke L P f rs args Q)(hK:∀ res os',Q res os'->os'.map Prod.fst=rs.map Prod.fst/\K res (mergeO os os')):CallN L P os rs la bo rest f args (K:=⟨K⟩) (KB:=⟨KB⟩) (KX:=⟨KX⟩) :=
 ⟨he,.inl ⟨hn,_,h,fun res os' hq=>.inl (hK res os' hq)⟩⟩
theorem CallN.low{res:AV}{cs:List (Option (List AV))}{pre:Prop}[h:Ctr L P f [] la res cs pre](hc:res.closed=true)(hp:pre)(hK:K res os):CallN L P os rs la bo rest f args (K:=⟨K⟩) (KB:=⟨KB⟩) (KX:=⟨KX⟩) :=
 ⟨h.en,.inr (.inl ⟨_,hc,h.pure hp,hK⟩)⟩
theorem CallN.bor{i sz:Nat}{l:List AV}{res:AV}{l':List AV}{pre:Prop}[h:xq L P f sz l rest res l' pre](hn:AV.nownL rest=true)(hp:pre)(hK:KB i sz l' res):CallN L P os rs la (some (i,sz,l)) rest f args (K:=⟨K⟩) (KB:=⟨KB⟩) (KX:=⟨KX⟩) :=
 ⟨h.en,.inr (.inr (.inr (.inl ⟨i,sz,l,rfl,hn,_,_,h.out hp,hK⟩)))⟩
def mY.low{x:AV}{xs ys:List AV}(h:mY os xs ys):mY os (x::xs) ((bif x.cW then x else x.frz)::ys):=by
 refine .cons ?_ h
 cases h:x.cW with
 | true=>exact .inl ⟨h,QC⟩
 | false=>exact .inr (.inr (.inl QC))
def mY.pin{x:AV}{xs ys:List AV}(g:Bool)(b:Nat)(pr px post:List AV)(hO:O os b=some (pr++(px++post)))(hd:q8 (fJ px)=true)(hg:g=false->px.length=1)(hx:x=kH g (fJ px))(h:mY os xs ys):mY os (x::xs) (kH g (AV.bg px)::ys) :=
 .cons (.inr (.inr (.inr (.inl ⟨g,b,pr,px,post,hO,hd,hg,hx,rfl⟩)))) h
theorem CallN.fz{res:AV}{pre:Prop}[h:iM L P f la res pre](hp:pre)(hK:KX.kf res):CallN L P os rs la bo rest f args (K:=⟨K⟩) (KB:=⟨KB⟩) (KX:=⟨KX⟩) :=
 ⟨h.en,.inr (.inr (.inr (.inr (.inr (.inr (.inr (.inl ⟨res,h.out hp,hK⟩)))))))⟩
theorem CallN.abP{x0:AV}{lar:List AV}{i sz:Nat}{l:List AV}{res:AV}{l':List AV}{pre:Prop}[h:xq L P f sz l lar res l' pre](hn:AV.nownL lar=true)(hp:pre)(hK:KX.kb i sz l' res):CallN L P os rs (x0::lar) (some (i,sz,l)) rest f args (K:=⟨K⟩) (KB:=⟨KB⟩) (KX:=⟨KX⟩) :=
 ⟨h.en,.inr (.inr (.inr (.inr (.inr (.inr (.inr (.inr ⟨x0,lar,i,sz,l,rfl,rfl,hn,_,_,h.out hp,hK⟩)))))))⟩
end
def fU.nf{o:Sto}{b:Nat}(h:fU o b):nfO o b:=by
 induction o with
 | nil=>trivial
 | cons p o ih =>
  obtain ⟨b',c⟩:=p
  cases c with
  | none=>trivial
  | some c =>
   have h1:b'≠b:=h b' c (by simp [O]);refine ⟨h1,ih ?_⟩;intro q cs hq e;by_cases e2:b'=q
   ·exact h1 (e2.trans e)
   ·exact h q cs (by simp only [O,if_neg e2];exact hq) e
def rmO:Sto->Nat->Sto
 | [],_=>[]
 | p::o,b=>if p.1=b then rmO o b else p::rmO o b
def U8(b:Nat)(c:Option (List AV))(o:Sto):rmO ((b,c)::o) b=rmO o b:=by simp [rmO]
def U7{b b':Nat}(h:b'≠b)(c:Option (List AV))(o:Sto):rmO ((b',c)::o) b=(b',c)::rmO o b:=by simp [rmO,h]
def RW(b:Nat):rmO [] b=[]:=rfl
def abT(o:Sto)(b q:Nat)(cs:List AV)(h:O (rmO o b) q=some cs):q≠b/\O o q=some cs:=by
 induction o with
 | nil=>simp [rmO,O] at h
 | cons p o ih =>
  simp only [rmO] at h;by_cases e:p.1=b
  ·rw [if_pos e] at h;have:=ih h;refine ⟨this.1,?_⟩;have:¬ p.1=q:=fun e'=>this.1 (e'.symm.trans e);simp only [O,if_neg this];exact (ih h).2
  ·rw [if_neg e] at h;by_cases e2:p.1=q
   ·simp only [O,if_pos e2] at h ⊢;exact ⟨fun e3=>e (e2.trans e3),h⟩
   ·simp only [O,if_neg e2] at h ⊢;exact ih h
def EN(L:eaa)(P:Program)(os:Sto)(t:daa)(d:Option Nat)(x y:Operand)(t1 u:TypeId)(K:daa->Sto->Prop):Prop :=
 match elm P t1 with
 | none=>False
 | some (e,sz,bytes)=>(ES P e=some sz/\(knd P u).isSome=true)/\(match x,ev t x with
  | .tmp i,.sl true z l=>match pd sz (ev t y) with
   | none=>False
   | some l'=>(z=sz/\Bb y i=true/\l.all (AV.elem sz)=true/\l'.all (AV.elem sz)=true/\(l'.flatMap AV.cells).all AV.one=true) /\
     ((l.length+l'.length<=L sz/\(l.length+l'.length) * bytes<=140737488355328/\l.length+l'.length<=9223372036854775807) /\
     K (put (killL t (kills t [.tmp i,y])) d (.sl true sz (l++l'))) os)
  | _,.v (.slice none 0 0)=>match pd sz (ev t y) with
   | none=>False
   | some l'=>(l'.all (AV.elem sz)=true/\(l'.flatMap AV.cells).all AV.one=true) /\
     ((l'.length<=L sz/\l'.length * bytes<=140737488355328/\l'.length<=9223372036854775807) /\
     K (put (killL t (kills t [y])) d (.sl true sz l')) os)
  | _,.arr b 0 len z=>match O os b,pd sz (ev t y) with
   | some cells,some l'=>(z=sz/\cells.length=len * sz/\l'.all (AV.elem sz)=true/\(l'.flatMap AV.cells).all AV.one=true) /\
     ((len+l'.length<=L sz/\(len+l'.length) * bytes<=140737488355328/\len+l'.length<=9223372036854775807) /\
     ∀ b',nfO (rmO os b) b'->K (put (killL t (kills t [y])) d (.arr b' 0 (len+l'.length) sz)) ((b',some (cells++l'.flatMap AV.cells))::rmO os b))
   | _,_=>False
  | _,_=>False)
def UJ(os:Sto)(sz:Nat)(x:AV):Option (Nat×List AV):=gM os sz x
def RJ(os:Sto)(sz:Nat)(o:Bool)(z:Nat)(l:List AV):UJ os sz (.sl o z l)=bif z == sz && l.all (AV.elem sz) then some (l.length,l.flatMap AV.cells) else none:=rfl
def EI(L:eaa)(P:Program)(os:Sto)(t:daa)(d:Option Nat)(x y:Operand)(t1 u:TypeId)(K:daa->Sto->Prop):Prop :=
 match elm P t1,ev t x with
 | some (_,sz,_),.arr b off len z=>match O os b,UJ os sz (ev t y) with
  | some cells,some (m,cs)=>(z=sz/\(knd P u).isSome=true/\cs.all AV.one=true/\AV.nownL cs=true)/\(m=len/\off+m * sz<=cells.length/\K (put t d (.v (.int .i64 m))) (ig os b (some (cells.take off++cs++cells.drop (off+m * sz)))))
  | _,_=>False
 | _,_=>False
def BoxVc(L:eaa)(P:Program)(os:Sto)(t:daa)(d:Option Nat)(ty':TypeId)(x:Operand)[K:Hd (daa->Sto->Prop)]:Prop :=
 ovc L P os (ev t) true (.box ty' x) (fun x C=>K.v (put (killL t C) d x) os) \/
 (match ty P ty' with
  | some (_,m)=>(ev t x).elem m=true/\∀ b,nfO os b->K.v (put (killL t (kills t [x])) d (.ptr b 0)) ((b,some (ev t x).cells)::os)
  | none=>False)
def BoxVc.vp{L:eaa}{P:Program}{os:Sto}{t:daa}{d:Option Nat}{ty':TypeId}{x:Operand}{K:daa->Sto->Prop}
  (h:ovc L P os (ev t) true (.box ty' x) (fun x C=>K (put (killL t C) d x) os)):BoxVc L P os t d ty' x (K:=⟨K⟩):=.inl h
def BoxVc.obj{L:eaa}{P:Program}{os:Sto}{t:daa}{d:Option Nat}{ty':TypeId}{x:Operand}{K:daa->Sto->Prop}
  (h:match ty P ty' with
   | some (_,m)=>(ev t x).elem m=true/\∀ b,nfO os b->K (put (killL t (kills t [x])) d (.ptr b 0)) ((b,some (ev t x).cells)::os)
   | none=>False):BoxVc L P os t d ty' x (K:=⟨K⟩):=.inr h
def bxN:Operand->Option Nat->Bool
 | .tmp i,some d=>Nat.ble 4 i && Nat.beq (i+1) d
 | _,_=>false
def nvc(L:eaa)(P:Program)(os:Sto)(t:daa)(d:Option Nat)(op:Op)(K:daa->Sto->Prop):Prop :=
 match op with
 | .alloc ty'=>match zer P ty' with
  | some zs=>∀ b,nfO os b->K (put t d (.ptr b 0)) ((b,some (zs.map avz))::os)
  | none=>False
 | .store ty' ad x=>match d,ev t ad,ty P ty' with
  | none,.ptr b off,some (_,m)=>match O os b with
   | some cells=>((ev t x).elem m=true/\(ev t x).cells.all AV.one=true)/\(off+m<=cells.length/\K (killL t (kills t [x])) (ig os b (some (cells.take off++(ev t x).cells++cells.drop (off+m)))))
   | none=>False
  | _,_,_=>False
 | .load ty' x=>match ev t x with
  | .ptr b off=>match O os b,ty P ty' with
   | some cells,some (g,m)=>match val g m (cells.drop off) with
    | some y=>match y.cW with
     | true=>K (put t d y) os
     | false=>match y.cpy.cW with
      | true=>K (put t d y.cpy) os
      | false=>((g=false->m=1)/\off+m<=cells.length)/\K (put t d y) (ig os b (some (cells.take off++List.replicate m .dead++cells.drop (off+m))))
    | none=>False
   | _,_=>False
  | _=>ovc L P os (ev t) true op (fun x C=>K (put (killL t C) d x) os)
 | .extract x k=>match x,ev t x with
  | .tmp i,.tup l=>match l[k]? with
   | some y=>match y.cW with
    | true=>K (put t d y) os
    | false=>K (put ((i,.tup (l.set k .dead))::t) d y) os
   | none=>False
  | _,_=>False
 | .makeSlice ty' x y=>match elm P ty',ev t x,ev t y with
  | some (e,sz,bytes),.v (.int _ m),.v (.int _ m')=>match zer P e with
   | some zs=>(zs.length=sz/\m'=m)/\((0<=m/\m.toNat<=L sz/\m.toNat * bytes<=140737488355328/\m.toNat<=9223372036854775807) /\
     ∀ b,nfO os b->K (put t d (.arr b 0 m.toNat sz)) ((b,some ((List.replicate m.toNat zs).flatten.map avz))::os))
   | none=>False
  | _,_,_=>False
 | .call c=>match c.callee,c.args.toList,c.argTypes.toList with
  | .value y,args,_=>match fnA (ev t y) with
   | some (f,caps)=>AV.nownL caps=true/\CallN L P os (wi os (args.map (ev t)++caps)) (nL (args.map (ev t)++caps)) (BG t args) (args.tail.map (ev t)++caps) f (args.map (ev t)++caps) (K:=⟨fun res os'=>K (put t d res) os'⟩) (KB:=⟨fun i sz l' res=>K (put ((i,.sl true sz l')::t) d res) os⟩) (KX:=⟨⟨t,Kt args,fun i x res=>K (put ((i,x)::t) d res) os,fun res=>K (put (killL t (kills t args)) d res) os,fun i sz l' res=>sL (kills t args.tail) i=false/\K (put ((i,.sl true sz l')::nO t (kills t args.tail)) d res) os⟩⟩)
   | none=>False
  | .builtin .append,[x,y],[t1,u]=>EN L P os t d x y t1 u K
  | .builtin .copy,[x,y],[t1,u]=>EI L P os t d x y t1 u K
  | _,_,_=>ovc L P os (ev t) true op (fun x C=>K (put (killL t C) d x) os)
 | .box ty' x=>match bxN x d with
  | true=>match ty P ty' with
   | some (_,m)=>(ev t x).elem m=true/\∀ b,nfO os b->K (put (killL t (kills t [x])) d (.ptr b 0)) ((b,some (ev t x).cells)::os)
   | none=>False
  | false=>BoxVc L P os t d ty' x (K:=⟨K⟩)
 | _=>ovc L P os (ev t) true op (fun x C=>K (put (killL t C) d x) os)
def AV.dd:AV->Bool
 | .dead=>true
 | _=>false
def EG:List AV->Bool
 | []=>false
 | x::xs=>x.dd || EG xs
def isE(t:daa):Op->Bool
 | .move (.tmp j)=>!(T t j).cW
 | .alloc _=>true
 | .store _ _ _=>true
 | .makeSlice _ _ _=>true
 | .call c=>match c.callee with
  | .builtin .append=>true
  | .builtin .copy=>true
  | .builtin .len=>EG (c.args.toList.map (ev t))
  | .value y=>!(AV.jN (c.args.toList.map (ev t))++(ev t y).keys).isEmpty || EG (c.args.toList.map (ev t))
  | _=>false
 | _=>false
def AV.unc:AV->AV
 | .cnd true x=>x
 | x=>x
def BO:daa->daa
 | []=>[]
 | p::t=>(p.1,p.2.unc)::BO t
def Gd(c:Bool)[p:Hd Prop]:Prop:=c=true->p.v
def GdT{p:Prop}:Gd true (p:=⟨p⟩)=p:=by simp [Gd]
def GdF{p:Prop}:Gd false (p:=⟨p⟩)=True:=by simp [Gd]
def alF:List (Nat×Nat)->Nat->Nat
 | [],j=>j
 | p::al,j=>bif Nat.beq p.1 j then p.2 else alF al j
def sbs(al:List (Nat×Nat)):Operand->Operand
 | .tmp j=>.tmp (alF al j)
 | x=>x
def kJ:List (Nat×Nat)->Option Nat->List (Nat×Nat)
 | al,none=>al
 | [],some _=>[]
 | p::al,some d=>bif Nat.beq p.1 d || Nat.beq p.2 d then kJ al (some d) else p::kJ al (some d)
def kY(al:List (Nat×Nat)):Op->Op
 | .move x=>.move (sbs al x)
 | .assign x=>.assign (sbs al x)
 | .call c=>.call ⟨c.callee,(c.args.toList.map (sbs al)).toArray,c.argTypes⟩
 | .buildSlice t n ps=>.buildSlice t n (ps.toList.map fun p=>(p.1,sbs al p.2)).toArray
 | .build t ps=>.build t (ps.toList.map fun p=>(p.1,sbs al p.2)).toArray
 | .store t a x=>.store t a (sbs al x)
 | .indexAddr t x i=>.indexAddr t (sbs al x) i
 | .slice t x lo hi mx=>.slice t (sbs al x) lo hi mx
 | .field t x k=>.field t (sbs al x) k
 | .extract x k=>.extract (sbs al x) k
 | .box t x=>.box t (sbs al x)
 | .convert t u x=>.convert t u (sbs al x)
 | op=>op
def stp(L:eaa)(P:Program)(os:Sto)(al:List (Nat×Nat))(t:daa)(d:Option Nat)(op:Op)(K:List (Nat×Nat)->daa->Sto->Prop):Prop :=
 match op,d with
 | .move (.tmp j),some d=>match (T t (alF al j)).cW with
  | false=>Nat.beq d (alF al j)=false/\K ((d,alF al j)::kJ al (some d)) ((d,.dead)::t) os
  | true=>K (kJ al (some d)) ((d,T t (alF al j))::t) os
 | op,d=>nvc L P os t d (kY al op) (K (kJ al d))
def AV.Nq:AV->Bool
 | .dead=>true
 | _=>false
def AV.QZ:AV->Bool
 | .cnd g x=>x.Nq && !g
 | _=>false
def OQ(t:daa):List Nat->Bool
 | []=>false
 | i::xs=>(T t i).QZ || OQ t xs
def Wn(L:eaa)(P:Program)(ops:Array Oper)(n:Nat)(K:daa->Sto->Prop):List Nat->List (Nat×Nat)->daa->Sto->Prop
 | [],_,t,os=>K t os
 | i::l,al,t,os =>
  match ops[i]? with
  | none=>False
  | some o=>cz n o.dst=true/\(match o.guard with
   | none=>stp L P os al t o.dst o.op (fun al' t' os'=>Wn L P ops n K l al' t' os')
   | some (j,want)=>match (ops[j]?).bind (·.dst) with
    | none=>False
    | some d=>Nat.blt d n=true/\(match pM (T t d) with
     | none=>False
     | some (G,g)=>match isE t o.op with
      | false=>match OQ t (stO o.op) with
       | true=>(G && (g == want))=false/\Wn L P ops n K l (kJ al o.dst) (put t o.dst (.cnd false .dead)) os
       | false=>Ca t (G && (g == want)) (stO o.op) /\
       ovc L P os (evK t (stO o.op)) (G && (g == want)) o.op (fun x C=>C=[]/\Wn L P ops n K l (kJ al o.dst) (upd o (.cnd (G && (g == want)) x) [] t) os)
      | true=>Gd (G && (g == want)) (p:=⟨stp L P os al (BO t) o.dst o.op (fun al' t' os'=>Wn L P ops n K l al' t' os')⟩)/\Gd (!(G && (g == want))) (p:=⟨Wn L P ops n K l (kJ al o.dst) (put t o.dst (.cnd false .dead)) os⟩)))
end
section
def Ot{o:Sto}{b:Nat}{cells:List AV}(h:O o b=some cells):b∈o.map Prod.fst:=Rm h
def uc{o:Sto}{b:Nat}{cells new:List AV}(h:O o b=some cells)(q:Nat)(cs:List AV)(hq:O (ig o b (some new)) q=some cs):(q=b/\cs=new)\/(q≠b/\O o q=some cs):=by
 rw [LN] at hq;by_cases e:q=b
 ·subst e;rw [if_pos ⟨rfl,Ot h⟩] at hq;cases hq;exact .inl ⟨rfl,rfl⟩
 ·rw [if_neg (fun h=>e h.1)] at hq;exact .inr ⟨e,hq⟩
def Jt{P:Program}{u:TypeId}(h:(knd P u).isSome=true):(∃ e',P.underlying u=some (.slice e'))\/P.underlying u=some .string:=by
 cases hk:knd P u with
 | none=>rw [hk] at h;cases h
 | some b =>
  cases b with
  | true=>exact .inr (qg hk)
  | false=>exact .inl (wz hk)
section
variable {L : Nat -> Nat} {P : Program} {o : Oper} {n : Nat} {t : List (Nat × AV)} {os : Sto} {K : List (Nat × AV) -> Sto -> Prop}
def Imp.jf(i sz:Nat){Q:AS->Prop}(hT:T t i=.v (.slice none 0 0))(h:Q ⟨n,(i,.sl true sz [])::t,os⟩):Imp L ⟨n,t,os⟩ Q:=by
 intro B F0 w0 a w hd;refine ⟨_,h,?_⟩;obtain ⟨F,own,fp,fs,hd⟩:=hd;refine ⟨F,own,fp,fs,{ hd with slots:=?_ }⟩;intro j;rw [fE];by_cases e:i=j
 ·subst e;have:=hd.slots i;simp only at this;rw [hT] at this;simp only [Rep] at this;simp only [if_true,Rep];exact .inl ⟨.inl this.1,by trivial,this.2⟩
 ·simp only [if_neg e];exact hd.slots j
def Iq{ty':TypeId}{zs:List Value}(hop:o.op=.alloc ty')(hd:cz n o.dst=true)(hz:zer P ty'=some zs)
  (h:∀ b,nfO os b->K (put t o.dst (.ptr b 0)) ((b,some (zs.map avz))::os)):OpW L P o ⟨n,t,os⟩ (fun s'=>s'.n=n/\K s'.t s'.o):=by
 intro B F0 w0 a w next Q cr bF
 have hfr:fU os w.heap.size:=by obtain ⟨F,own,fp,fs,hd'⟩:=cr;exact hd'.fresh
 obtain ⟨F,own,fp,fs,hD⟩:=cr;obtain ⟨z,hzc,hzr⟩:=xx hz
 have hrun:(execOp a.eval o).run P w=.ok (.value (.pointer (some ⟨w.heap.size,0,none⟩))) (w.alloc (.cells z.cells ty')):=by
  simp [execOp,hop,Instr.alloc,hzr,newVar,newRow]
 unfold Oper.wp;rw [hrun];refine bF ⟨n,put t o.dst (.ptr w.heap.size 0),(w.heap.size,some (zs.map avz))::os⟩ _ _ ⟨rfl,h w.heap.size hfr.nf⟩ ?_
 exact hD.renew [] [] w.heap.size (zs.map avz) [] o.dst hd ⟨rfl,rfl,rfl⟩ (Ext.alloc w _ []) QC (.inr ⟨Nat.le_refl _,QC⟩)
  ⟨z.cells,ty',zs,[],fM w _,by simp [hzc],au.plain zs⟩ QC QC (by simp [Rep])
def D1{ty':TypeId}{x:Operand}{sz:Nat}(hop:o.op=.box ty' x)(hd:cz n o.dst=true)(hx:(ev t x).elem sz=true)
  (hK:∀ b,nfO os b->K (put (killL t (kills t [x])) o.dst (.ptr b 0)) ((b,some (ev t x).cells)::os)):OpW L P o ⟨n,t,os⟩ (fun s'=>s'.n=n/\K s'.t s'.o):=by
 intro B F0 w0 a w next Q cr bF
 have hfr:fU os w.heap.size:=by obtain ⟨F,own,fp,fs,hd'⟩:=cr;exact hd'.fresh
 obtain ⟨F,own,fp,fs,h⟩:=cr;have hr:=h.ev x
 have hrun:(execOp a.eval o).run P w=.ok (.value (.pointer (some ⟨w.heap.size,0,none⟩))) (w.alloc (.cells (a.eval x).cells ty')):=by
  simp [execOp,hop,Instr.box,newVar,newRow]
 unfold Oper.wp;rw [hrun];refine bF ⟨n,put (killL t (kills t [x])) o.dst (.ptr w.heap.size 0),(w.heap.size,some (ev t x).cells)::os⟩ _ _ ⟨rfl,hK w.heap.size hfr.nf⟩ ?_
 have hFS:∀ b,F b->F b/\(b<w.heap.size):=fun b hb'=>⟨hb',(h.fl b hb').2.1⟩
 refine h.renew (kills t [x]) [] w.heap.size (ev t x).cells (fpo fp x) o.dst hd ⟨rfl,rfl,rfl⟩ (Ext.alloc w _ []) QC (.inr ⟨Nat.le_refl _,QC⟩)
  ⟨(a.eval x).cells,ty',(a.eval x).cells.toList,[],fM w _,QC,?_⟩ (ni h x) (fun k hk=>.inl (gj h QC k hk)) (by simp [Rep])
 refine au.ext (Ext.alloc' w _) hFS (fun k hk=>?_) (zY hx hr);obtain ⟨i,_,hi⟩:=gj h (xs:=[x]) QC k hk;exact (h.iq hi).2
def KH{ty' e:TypeId}{x y:Operand}{sz bytes:Nat}{k k':IntKind}{m m':Int}{zs:List Value}(hop:o.op=.makeSlice ty' x y)(hd:cz n o.dst=true)(ht:elm P ty'=some (e,sz,bytes))(hz:zer P e=some zs)(hzl:zs.length=sz)
  (hx:ev t x=.v (.int k m)) (hy:ev t y=.v (.int k' m')) (hm:m'=m) (h0:0<=m) (hL:m.toNat<=L sz) (hby:m.toNat * bytes<=140737488355328) (h63:m.toNat<=9223372036854775807)
  (h:∀ b,nfO os b->K (put t o.dst (.arr b 0 m.toNat sz)) ((b,some ((List.replicate m.toNat zs).flatten.map avz))::os)):OpW L P o ⟨n,t,os⟩ (fun s'=>s'.n=n/\K s'.t s'.o):=by
 subst hm;obtain ⟨m,rfl⟩:=Int.eq_ofNat_of_zero_le h0;simp only [Int.ofNat_eq_natCast,Int.toNat_natCast] at *;intro B F0 w0 a w next Q cr bF
 obtain ⟨F,own,fp,fs,hD⟩:=cr;obtain ⟨inf,hut,dR,rfl,rfl⟩:=gX ht;obtain ⟨KS,z,lh,hzz,hzc⟩:=sU hz;rw [dR] at lh;cases lh
 have hrun:=run_make (P:=P) w ty' e inf z hut dR hzz k k' (m:Int) m Ir (Int.le_refl _) (by
  have:(inf.bytes:Int) * m=((m * inf.bytes:Nat):Int):=by push_cast;rw [Int.mul_comm]
  omega) Ir
 have hzs:z.cells.size=inf.size:=by rw [<- hzl,<- hzc];simp
 have hex:(execOp a.eval o).run P w=.ok (.value (.slice (some ⟨w.heap.size,0,none⟩) m m)) (w.alloc (.cells (madeCells z.cells (m * inf.size)) e)):=by
  simp only [execOp,hop,hD.val hx,hD.val hy,Sem.run_bind,hrun,Int.toNat_natCast];rfl
 unfold Oper.wp;rw [hex];refine bF ⟨n,put t o.dst (.arr w.heap.size 0 m inf.size),(w.heap.size,some ((List.replicate m zs).flatten.map avz))::os⟩ _ _ ⟨rfl,h w.heap.size hD.fresh.nf⟩ ?_
 refine hD.renew [] [] w.heap.size _ [] o.dst hd ⟨rfl,rfl,rfl⟩ (Ext.alloc w _ []) QC (.inr ⟨Nat.le_refl _,QC⟩)
  ⟨_,_,(List.replicate m zs).flatten,[],fM w _,by rw [tC z.cells m inf.size hzs,hzc];simp,au.plain _⟩ QC QC ?_
 simp only [Rep];refine ⟨trivial,m,rfl,Nat.le_refl _,hL,_,_,fM w _,?_⟩;have:=congrArg List.length (tC z.cells m inf.size hzs);simp at this;rw [hzs] at this;omega
def Ol{c:Call}{x y:Operand}{t1 u:TypeId}(ho:o.op=.call c)(hc:c=⟨.builtin .append,#[x,y],#[t1,u]⟩)(hd:cz n o.dst=true)(h:EN L P os t o.dst x y t1 u K):OpW L P o ⟨n,t,os⟩ (fun s'=>s'.n=n/\K s'.t s'.o):=by
 unfold EN at h;split at h
 ·exact h.elim
 ·rename_i e sz bytes ht;obtain ⟨⟨hzl,hk⟩,h⟩:=h;obtain ⟨zs,hz,hzl⟩:=ER hzl;have hu:=Jt hk;split at h
  ·rename_i i z l hx;split at h
   ·exact h.elim
   ·rename_i l' hsrc;obtain ⟨⟨rfl,hne,hel,jH,hone⟩,⟨hL,hby,h63⟩,hK⟩:=h;exact B6 (s:=⟨n,t,os⟩) ho hc hd hx (Dx hne) ht hz hzl hu hsrc (by simpa [List.all_eq_true] using hel) (by simpa [List.all_eq_true] using jH) hone hL hby h63 ⟨rfl,hK⟩
  ·rename_i hx;split at h
   ·exact h.elim
   ·rename_i l' hsrc;obtain ⟨⟨jH,hone⟩,⟨hL,hby,h63⟩,hK⟩:=h;have CB:∀ z,z∈l'->z.elem sz=true:=by simpa [List.all_eq_true] using jH
    by_cases h0:l'=[]
    ·subst h0;exact rC (s:=⟨n,t,os⟩) ho hc hd hx ht hu (oU hsrc CB) ⟨rfl,hK⟩
    ·refine OpW.post (tr (s:=⟨n,t,os⟩) ho hc hd hx ht hz hzl hu (oU hsrc CB) (List.length_pos_iff.2 h0) hL hby h63 fun b' hb'=>?_)
     cases mQ:o.dst with
     | none =>
      rw [mQ] at hK;refine Imp.weak (t':=killL t (kills t [y])) (o':=os) ⟨rfl,hK⟩ (fun j=>.inl rfl) ?_;intro q cs hq;simp only [O,if_neg (fun e=>hb' q cs hq e.symm:¬ b'=q)];exact hq
     | some d =>
      rw [mQ] at hK;refine Imp.bind (Q:=fun s'=>s'=⟨n,(d,.sl true sz l')::put (killL t (kills t [y])) (some d) (.arr b' 0 l'.length sz),(b',none)::(b',some (l'.flatMap AV.cells))::os⟩) (Imp.fold d (b:=b') (len:=l'.length) (sz:=sz) (cells:=l'.flatMap AV.cells) (l:=l') (by simp [put,T]) (by simp [O]) rfl ?_ CB rfl) ?_
      ·rw [List.take_of_length_le];rw [db CB];exact Nat.le_refl _
      ·rintro _ rfl;refine Imp.weak (t':=put (killL t (kills t [y])) (some d) (.sl true sz l')) (o':=os) ⟨rfl,hK⟩ (fun j=>.inl ?_) ?_
       ·simp only [put,fE];by_cases e:d=j
        ·simp [e]
        ·simp [e]
       ·intro q cs hq;have hne:¬ b'=q:=fun e=>hb' q cs hq e.symm;simp only [O,if_neg hne];exact hq
  ·rename_i b len z hx;split at h
   ·rename_i cells l' hO hsrc;obtain ⟨⟨rfl,hlen,jH,hone⟩,⟨hL,hby,h63⟩,hK⟩:=h;have CB:∀ x,x∈l'->x.elem z=true:=by simpa [List.all_eq_true] using jH
    refine OpW.post (tu (s:=⟨n,t,os⟩) ho hc hd hx hO hlen ht hz hzl hu (oU hsrc CB) hone hL hby h63 fun b' hb'=>?_)
    have hsub:∀ q cs,O (rmO os b) q=some cs->O (jg os [b]) q=some cs:=fun q cs hq=>by
     have:=abT os b q cs hq;rw [nU,if_neg (by simpa using this.1)];exact this.2
    refine Imp.weak (t':=put (killL t (kills t [y])) o.dst (.arr b' 0 (len+l'.length) z)) (o':=(b',some (cells++l'.flatMap AV.cells))::rmO os b) ⟨rfl,hK b' (fU.nf fun q cs hq=>hb' q cs (hsub q cs hq))⟩ (fun _=>.inl rfl) ?_;intro q cs hq;by_cases e:b'=q
    ·subst e;simp only [fq] at hq ⊢;exact hq
    ·rw [vA e] at hq ⊢;exact hsub q cs hq
   ·exact h.elim
  ·exact h.elim
def lY:∀ {l m:List AV},AV.nownL (l++m)=true->AV.nownL l=true
 | [],_,_=>rfl
 | x::xs,m,h=>by
  simp [AV.nownL] at h ⊢;exact ⟨h.1,lY (m:=m) h.2⟩
def sO{i:Nat}{x:AV}:∀ {xs:List Operand},AV.nownL (xs.map (ev t))=true->(T t i).cW=false->xs.map (ev ((i,x)::t))=xs.map (ev t)
 | [],_,_=>rfl
 | y::xs,h,hi=>by
  simp only [List.map_cons,AV.nownL,Bool.and_eq_true] at h
  have hne:y≠.tmp i:=fun e=>by
   subst e;simp only [ev] at h;rw [h.1] at hi;cases hi
  simp only [List.map_cons,mb hne,sO h.2 hi]
def yR{y:Operand}{i:Nat}{xs:List Operand}{ts:Array TypeId}{f:FuncId}{caps:List AV}{sz:Nat}{l l':List AV}{res:AV}(ho:o.op=.call ⟨.value y,(.tmp i::xs).toArray,ts⟩)(hd:cz n o.dst=true)(hy:fnA (ev t y)=some (f,caps))(hcn:AV.nownL caps=true)
  (hx:T t i=.sl true sz l) (he:enters P f=true) (hn:AV.nownL (xs.map (ev t)++caps)=true) (hb:LP L P f sz l (xs.map (ev t)++caps) res l') (hK:K (put ((i,.sl true sz l')::t) o.dst res) os):OpW L P o ⟨n,t,os⟩ (fun s'=>s'.n=n/\K s'.t s'.o):=by
 obtain ⟨hg,hnil,hlen,hel,jH⟩:=hb;have hi:(T t i).cW=false:=by rw [hx];rfl
 have hxs:=lY hn
 have hyi:y≠.tmp i:=fun e=>by
  subst e;simp only [ev,hx] at hy;cases hy
 refine OpW.imp (Imp.kM i hx hel ?_ ?_)
 ·intro b hfr;have GA:=sO (t:=t) (x:=.arr b 0 l.length sz) hxs hi;refine OpW.post (ML (s:=⟨n,(i,.arr b 0 l.length sz)::t,(b,some (l.flatMap AV.cells))::os⟩) (os:=[(b,some (l.flatMap AV.cells))]) (caps:=caps) ho rfl hd (by rw [mb hyi];exact hy) hcn ?_ he ?_ (Q:=fun r os'=>r=res/\os'=[(b,some (l'.flatMap AV.cells))]) ?_ ?_)
  ·simp only [List.toList_toArray,List.map_cons,GA,AV.nownL,Bool.and_eq_true];exact ⟨by simp [ev,T,AV.cW],hxs⟩
  ·intro q cs hq;simp only [O] at hq ⊢;split at hq
   ·rename_i e;rw [if_pos e];exact hq
   ·cases hq
  ·have:ev ((i,.arr b 0 l.length sz)::t) (.tmp i)=.arr b 0 l.length sz:=by simp [ev,T]
   simp only [List.toList_toArray,List.map_cons,GA,this,List.cons_append];exact hg b
  ·rintro r os' ⟨rfl,rfl⟩;simp only [List.map_cons,List.map_nil,jg];by_cases hdi:o.dst=some i
   ·refine Imp.weak (t':=put ((i,.sl true sz l')::t) o.dst r) (o':=os) ⟨rfl,hK⟩ (fun j=>.inl ?_) ?_
    ·rw [hdi];simp only [put,fE];by_cases e:i=j
     ·simp [e]
     ·simp [e]
    ·intro q cs hq;have hne:b≠q:=fun e=>hfr q cs hq e.symm;simp only [List.cons_append,List.nil_append,O,if_neg hne];exact hq
   ·have hTi:T (put ((i,.arr b 0 l.length sz)::t) o.dst r) i=.arr b 0 l.length sz:=by
     rw [mg,if_neg hdi];simp [T]
    refine Imp.bind (Q:=fun s'=>s'=⟨n,(i,.sl true sz l')::put ((i,.arr b 0 l.length sz)::t) o.dst r,(b,none)::([(b,some (l'.flatMap AV.cells))]++(b,none)::(b,some (l.flatMap AV.cells))::os)⟩) (Imp.fold i (b:=b) (len:=l.length) (sz:=sz) (cells:=l'.flatMap AV.cells) (l:=l') hTi (by simp [O]) hlen ?_ jH rfl) ?_
    ·rw [List.take_of_length_le];rw [db jH,hlen];exact Nat.le_refl _
    ·rintro _ rfl;refine Imp.weak (t':=put ((i,.sl true sz l')::t) o.dst r) (o':=os) ⟨rfl,hK⟩ (fun j=>.inl ?_) ?_
     ·simp only [fE,mg];by_cases e:i=j
      ·subst e;simp [hdi]
      ·simp [e]
     ·intro q cs hq;have hne:b≠q:=fun e=>hfr q cs hq e.symm;simp only [List.cons_append,List.nil_append,O,if_neg hne];exact hq
 ·intro e0;obtain ⟨hp,rfl⟩:=hnil e0;subst e0;have GA:=sO (t:=t) (x:=.sl false sz []) hxs hi
  have Q4:ev ((i,.sl false sz [])::t) (.tmp i)=.sl false sz []:=by simp [ev,T]
  have hl:LOp L P ⟨n,(i,.sl false sz [])::t,os⟩ o res []:=rE (L:=L) (s:=⟨n,(i,.sl false sz [])::t,os⟩) (res:=res) ho rfl (by rw [mb hyi];exact hy) hcn (ud.pure he (by
    simp only [List.toList_toArray,List.map_cons,GA,Q4,List.cons_append,AV.nownL,Bool.and_eq_true]
    exact ⟨rfl,hn⟩) (by
    simp only [List.toList_toArray,List.map_cons,GA,Q4,List.cons_append]
    exact hp))
  intro B F0 w0 a w next Q cr bF
  obtain ⟨F,own,fp,fs,hD⟩:=cr;refine hl B F0 w0 F own fp fs a w next Q { hD with slots:=?_ } fun v w' g=>?_
  ·intro j;have:=hD.slots j;simp only [fE] at this ⊢;by_cases e:i=j
   ·subst e;simp only [if_true,Rep] at this ⊢;exact .inl ⟨.inl this.1,by trivial,this.2⟩
   ·simp only [if_neg e] at this ⊢;exact this
  ·obtain ⟨F',fx,h1,h2,h3,h4,h5⟩:=g.rep;have La:=hD.put [] o.dst hd g.below h1 h2 h3 h4 h5;simp only [killL] at La;by_cases hdi:o.dst=some i
   ·refine bF ⟨n,put ((i,.sl true sz [])::t) o.dst res,os⟩ _ _ ⟨rfl,hK⟩ (La.weaken rfl (fun j=>.inl ?_) (fun _ _ h=>h));rw [hdi];simp only [put,fE];by_cases e:i=j
    ·simp [e]
    ·simp [e]
   ·have hTi:T (put ((i,.v (.slice none 0 0))::t) o.dst res) i=.v (.slice none 0 0):=by
     rw [mg,if_neg hdi];simp [T]
    obtain ⟨s2,rfl,hd2⟩:=Imp.jf (L:=L) (n:=n) (os:=os) i sz hTi (Q:=fun s'=>s'=⟨n,(i,.sl true sz [])::put ((i,.v (.slice none 0 0))::t) o.dst res,os⟩) rfl B F0 w0 _ _ La;refine bF ⟨n,put ((i,.sl true sz [])::t) o.dst res,os⟩ _ _ ⟨rfl,hK⟩ (hd2.weaken rfl (fun j=>.inl ?_) (fun _ _ h=>h));simp only [fE,mg];by_cases e:i=j
    ·subst e;simp [hdi]
    ·simp [e]
def F4{B F0:faa}{w0:World}{F:faa}{own:Nat->Own}{fp fs:Nat->List Nat}{s:AS}{a:Act}{w:World}(h:cv L B F0 w0 F own fp fs s a w)(all:List Operand) :
  ∀ xs:List Operand,(∀ x,x∈xs->x∈all)->au L (fun b=>F b\/∃ i,i∈kills s.t all/\b∈fp i) w (nL (xs.map (ev s.t))) (xs.map a.eval) []
 | [],_=>by simp [au,pF]
 | x::xs,hx=>by
  have ih:=F4 h all xs fun y hy=>hx y (by simp [hy])
  have hr:=h.ev x
  have hid:Ext (fun _=>True) w w:=⟨Nat.le_refl _,fun _ _=>rfl,fun b c T z hc=>⟨c,hc,rfl⟩⟩
  simp only [List.map_cons,pF,au];refine ⟨_,_,[],[],rfl,rfl,?_,ih⟩
  cases hn:(ev s.t x).cW with
  | true =>
   rw [Rep.dX hn hr] at hr;exact Rep.ext hid (fun b hb=>⟨.inl hb,trivial⟩) QC hr
  | false =>
   exact Rep.frz (fun b hb=>.inl hb) (fun b hb=>.inr (gj h (hx x QC) b hb)) hr
def zi:∀ l m:List AV,nL (l++m)=nL l++nL m
 | [],_=>rfl
 | x::l,m=>by simp only [List.cons_append,pF,zi l m]
def wv:∀ {l:List AV},AV.nownL l=true->nL l=l
 | [],_=>rfl
 | x::l,h=>by
  simp only [AV.nownL,Bool.and_eq_true] at h;simp only [pF,h.1,cond_true,wv h.2]
def M0{s:AS}{y:Operand}{xs:Array Operand}{ts:Array TypeId}{f:FuncId}{caps:List AV}{res:AV}(ho:o.op=.call ⟨.value y,xs,ts⟩)(hy:fnA (ev s.t y)=some (f,caps))
  (hcn:AV.nownL caps=true) (he:enters P f=true) (hp:eY L P f (nL (xs.toList.map (ev s.t)++caps)) res):LOp L P s o res (kills s.t xs.toList):=by
 intro B F0 w0 F own fp fs a w next Q h bF
 obtain ⟨cvs,hcr,hex⟩:=sj (P:=P) h ho hy hcn he;unfold Oper.wp;rw [hex]
 have hid:Ext (fun _=>True) w w:=⟨Nat.le_refl _,fun _ _=>rfl,fun b c T z hc=>⟨c,hc,rfl⟩⟩
 have hall:=au.join (F4 h xs.toList xs.toList fun _ h=>h) (au.ext (F':=fun b=>F b\/∃ i,i∈kills s.t xs.toList/\b∈fp i) hid (fun b hb=>⟨.inl hb,trivial⟩) QC hcr);rw [List.append_nil] at hall;rw [zi,wv hcn] at hp;refine (hp w _ _ (fun b hb=>?_) (h.tb.kp h.below h.hB) hall).mono ?_
 ·rcases hb with hb|⟨i,_,hb⟩
  ·exact (h.fl b hb).2.1
  ·exact (h.iq hb).2
 rintro e w' ⟨v,F',fp',rfl,h1,h2,h3,h4,h5,h6⟩;refine bF v w' ⟨Kp.lC h1,F',fp',fun b hb=>h2 b (.inl hb),fun b hb=>?_,h4,h5,fun b hb=>⟨(h6 b hb).1,.inr (h6 b hb).2⟩⟩;rcases h3 b hb with (e|e)|e
 ·exact .inl e
 ·exact .inr (.inr e)
 ·exact .inr (.inl e)
def xn(t:daa):∀ (js:List Nat) (i:Nat),T (nO t js) i=if i∈js then (T t i).frz else T t i
 | [],i=>by simp [nO]
 | j::js,i=>by
  simp only [nO,fE,xn t js i,List.mem_cons];by_cases e:j=i
  ·subst e;simp
  ·have:¬ i=j:=fun h=>e h.symm;simp only [if_neg e,this,false_or]
mutual
def AV.xV:∀ x:AV,x.frz.frz=x.frz
 | .sl o sz l=>by cases o<;>simp only [AV.frz,cond_true,cond_false]
 | .agg l=>by simp only [AV.frz,AV.oZ l]
 | .tup l=>by simp only [AV.frz,AV.oZ l]
 | .fn f l=>by simp only [AV.frz,AV.oZ l]
 | .cnd g x=>by simp only [AV.frz,AV.xV x]
 | .pin _ x=>by simp only [AV.frz,AV.xV x]
 | .slo _ l=>by simp only [AV.frz,AV.oZ l,cond_false]
 | .dead|.v ..|.str ..|.vp ..|.arr ..|.ptr ..=>by simp only [AV.frz]
def AV.oZ:∀ l:List AV,AV.bg (AV.bg l)=AV.bg l
 | []=>rfl
 | x::xs=>by simp only [AV.bg,AV.xV x,AV.oZ xs]
end
def Imp.Wo{n:Nat}{t:daa}{o:Sto}{Q:AS->Prop}:∀ (js:List Nat),Imp L ⟨n,nO t js,o⟩ Q->Imp L ⟨n,t,o⟩ Q
 | [],h=>h
 | j::js,h=>by
  refine Imp.Wo js ?_;refine Imp.bind (Imp.frz (Q:=fun s=>s=_) j rfl) ?_;rintro _ rfl;refine Imp.bind (Imp.weak (t':=nO t (j::js)) (o':=o) (Q:=fun s=>s=⟨n,nO t (j::js),o⟩) rfl (fun i=>.inl ?_) (fun _ _ h=>h)) (fun s hs=>by rw [hs];exact h);simp only [nO,fE,xn];by_cases e:j=i
  ·subst e;simp only [if_true];by_cases e2:j∈js
   ·rw [if_pos e2,AV.xV]
   ·rw [if_neg e2]
  ·simp only [if_neg e]
def JT{t:daa}{all:List Operand}:∀ {xs:List Operand},(∀ x,x∈xs->x∈all)->xs.map (ev (nO t (kills t all)))=nL (xs.map (ev t))
 | [],_=>rfl
 | x::xs,h=>by
  simp only [List.map_cons,nL,pF];rw [show pF (xs.map (ev t))=nL (xs.map (ev t)) from rfl,JT (t:=t) (xs:=xs) fun y hy=>h y (by simp [hy])]
  congr 1
  cases x with
  | tmp i =>
   simp only [ev,xn]
   cases hn:(T t i).cW with
   | true=>rw [if_neg (fun hm=>by have:=(eN.1 hm).2;rw [hn] at this;cases this)];rfl
   | false=>rw [if_pos (eN.2 ⟨h _ QC,hn⟩)];rfl
  | const v =>
   simp only [ev]
   have:(avz v).frz=avz v:=by
    cases v with
    | string s=>simp only [avz];cases Nat.ble s.data.toList.length 4611686018427387904<;>rfl
    | _=>rfl
   rw [this];cases (avz v).cW<;>rfl
  | global g=>rfl
  | func f=>rfl
def H2{y:Operand}{args:Array Operand}{ts:Array TypeId}{f:FuncId}{caps:List AV}(ho:o.op=.call ⟨.value y,args,ts⟩)(hd:cz n o.dst=true)(hy:fnA (ev t y)=some (f,caps))(hcn:AV.nownL caps=true)
  (h:CallN L P os (wi os (args.toList.map (ev t)++caps)) (nL (args.toList.map (ev t)++caps)) (BG t args.toList) (args.toList.tail.map (ev t)++caps) f (args.toList.map (ev t)++caps) (K:=⟨fun res os'=>K (put t o.dst res) os'⟩) (KB:=⟨fun i sz l' res=>K (put ((i,.sl true sz l')::t) o.dst res) os⟩) (KX:=⟨⟨t,Kt args.toList,fun i x res=>K (put ((i,x)::t) o.dst res) os,fun res=>K (put (killL t (kills t args.toList)) o.dst res) os,fun i sz l' res=>sL (kills t args.toList.tail) i=false/\K (put ((i,.sl true sz l')::nO t (kills t args.toList.tail)) o.dst res) os⟩⟩)):OpW L P o ⟨n,t,os⟩ (fun s'=>s'.n=n/\K s'.t s'.o):=by
 have hne:∀ (z:AV) (l:List AV),args.toList.map (ev t)++caps=z::(args.toList.tail.map (ev t)++caps)->∃ a0 xs,args=(a0::xs).toArray/\ev t a0=z:=by
  intro z l e
  cases hargs:args.toList with
  | nil =>
   rw [hargs] at e;have:=congrArg List.length e;simp at this
  | cons a0 xs =>
   rw [hargs] at e;simp only [List.map_cons,List.cons_append,List.cons.injEq] at e;exact ⟨a0,xs,by apply Array.ext';simpa using hargs,e.1⟩
 obtain ⟨he,⟨hn,Q,hg,hK⟩|⟨res,hcl,hp,hK⟩|⟨la',res,hll,hcl,hp,hK⟩|⟨i,sz,l,hbo,hn,res,l',hb,hK⟩|⟨g,x,x',res,i,ha0,hT,hn,hC,hK⟩|⟨g,pre,px,post,x',res,i,ha,hT,hdt,hn,hC,hK⟩|⟨g,pre,px,post,x',res,b,ha,hO,hdt,hn,hC,hK⟩|⟨res,hp,hK⟩|⟨x0,lar,i,sz,l,hla,hbo,hn,res,l',hb,hmem,hK⟩⟩:=h
 ·have hn':AV.nownL (args.toList.map (ev t))=true:=lY hn;refine OpW.post (AX (s:=⟨n,t,os⟩) ho rfl hd hy hcn hn' he (fun b cells=>Ui) hg fun res os' hQ hnew=>?_);rcases hK res os' hQ with ⟨hkeys,hKK⟩|⟨hrs,b0,cells0,rfl,hKK⟩
  case inr =>
   have hnf:nfO os b0:=fU.nf fun b' cells' hO=>hnew b0 cells0 (by simp [O]) (by rw [hrs];simp) b' cells' hO;refine Imp.weak (t':=put t o.dst res) (o':=(b0,some cells0)::os) ⟨rfl,hKK hnf⟩ (fun _=>.inl rfl) ?_;intro q cs hq;rw [hrs];simpa [jg] using hq
  refine Imp.weak (t':=put t o.dst res) (o':=mergeO os os') ⟨rfl,hKK⟩ (fun _=>.inl rfl) ?_;intro q cs hq;rw [Ka] at hq;rw [HW,nU,<- hkeys];by_cases e:q∈os'.map Prod.fst
  ·rw [if_pos e];by_cases e2:q∈os.map Prod.fst
   ·rw [if_pos ⟨e,e2⟩] at hq;exact hq
   ·rw [if_neg (fun h=>e2 h.2)] at hq;exact absurd (Ot hq) e2
  ·rw [if_neg e,if_neg e];rw [if_neg (fun h=>e h.1)] at hq;exact hq
 ·exact (rE (s:=⟨n,t,os⟩) ho rfl hy hcn ⟨he,.inr ⟨_,F5 os _,hcl,hp⟩⟩).opW hd ⟨rfl,by simpa [killL] using hK⟩
 ·exact (rE (s:=⟨n,t,os⟩) ho rfl hy hcn ⟨he,.inr ⟨_,hll,hcl,hp⟩⟩).opW hd ⟨rfl,by simpa [killL] using hK⟩
 ·obtain ⟨i',xs,hargs,hT⟩:∃ i' xs,args.toList=.tmp i'::xs/\i'=i/\T t i=.sl true sz l:=by
   unfold BG at hbo;split at hbo
   ·rename_i i' xs hargs;split at hbo
    ·rename_i sz' l'' hT;cases hbo;exact ⟨i,xs,hargs,rfl,hT⟩
    ·cases hbo
   ·cases hbo
  obtain ⟨rfl,hT⟩:=hT;rw [hargs] at hb hn;have ha:args=(.tmp i'::xs).toArray:=by apply Array.ext';simpa using hargs
  subst ha;exact yR ho hd hy hcn hT he hn hb hK
 ·obtain ⟨xs,hargs⟩:∃ xs,args.toList=.tmp i::xs:=by
   simp only [Kt] at ha0;split at ha0
   ·rename_i i' xs hargs;cases ha0;exact ⟨xs,hargs⟩
   ·cases ha0
  rw [hargs] at hn hC;have ha:args=(.tmp i::xs).toArray:=by apply Array.ext';simpa using hargs
  subst ha;exact Sm ho hd hy hcn he hT (lY hn) hC ⟨rfl,hK⟩
 ·obtain ⟨a0,xs,rfl,hz⟩:=hne _ [] ha;exact Sj ho hd hy hcn he hT hz hdt (lY hn) hC ⟨rfl,hK⟩
 ·obtain ⟨a0,xs,rfl,hz⟩:=hne _ [] ha;refine OpW.post (Sk ho hd hy hcn he hO hz hdt (lY hn) hC ?_);refine Imp.weak (t':=put t o.dst res) (o':=ig os b (some (pre++(mC px x'++post)))) ⟨rfl,hK⟩ (fun _=>.inl rfl) ?_;intro q cs hq;rcases uc hO q cs hq with ⟨rfl,rfl⟩|⟨hne,hq⟩
  ·simp [O]
  ·rw [vA (fun e=>hne e.symm)];exact hq
 ·exact (M0 (s:=⟨n,t,os⟩) ho hy hcn he hp).opW hd ⟨rfl,hK⟩
 ·obtain ⟨i',xs,hargs,hT⟩:∃ i' xs,args.toList=.tmp i'::xs/\i'=i/\T t i=.sl true sz l:=by
   unfold BG at hbo;split at hbo
   ·rename_i i' xs hargs;split at hbo
    ·rename_i sz' l'' hT;cases hbo;exact ⟨i,xs,hargs,rfl,hT⟩
    ·cases hbo
   ·cases hbo
  obtain ⟨rfl,hT⟩:=hT;rw [hargs] at hmem hK hla;simp only [List.tail_cons] at hmem hK;have hi:i' ∉ kills t xs:=fun h=>by rw [zh.2 h] at hmem;cases hmem
  have ha:args=(.tmp i'::xs).toArray:=by apply Array.ext';simpa using hargs
  subst ha;simp only [List.map_cons,List.cons_append,nL,pF,List.cons.injEq] at hla
  have V6:xs.map (ev (nO t (kills t xs)))++caps=lar:=by
   rw [<- hla.2,show pF (xs.map (ev t)++caps)=nL (xs.map (ev t)++caps) from rfl,zi,wv hcn,JT fun _ h=>h]
  have hy':fnA (ev (nO t (kills t xs)) y)=some (f,caps):=by
   cases y with
   | tmp j =>
    have hj:j ∉ kills t xs:=fun h=>by
     have h2:=(eN.1 h).2;simp only [ev] at hy
     cases hv:T t j with
     | fn g c=>rw [hv] at hy h2;simp only [fnA,Option.some.injEq,Prod.mk.injEq] at hy;rw [<- hy.2] at hcn;simp only [AV.cW] at h2;rw [h2] at hcn;cases hcn
     | v u=>rw [hv] at h2;cases h2
     | _=>rw [hv] at hy;cases hy
    simp only [ev,xn,if_neg hj];exact hy
   | _=>exact hy
  refine OpW.imp (Imp.Wo (kills t xs) (Imp.id ?_));exact yR ho hd hy' hcn (by rw [xn,if_neg hi];exact hT) he (by rw [V6];exact hn) (by rw [V6];exact hb) hK
def LH{c:Call}{x y:Operand}{t1 u:TypeId}(ho:o.op=.call c)(hc:c=⟨.builtin .copy,#[x,y],#[t1,u]⟩)(hd:cz n o.dst=true)(h:EI L P os t o.dst x y t1 u K):OpW L P o ⟨n,t,os⟩ (fun s'=>s'.n=n/\K s'.t s'.o):=by
 subst hc;unfold EI at h;split at h
 case h_2=>exact h.elim
 rename_i e sz by_ b off len z he hx;split at h
 case h_2=>exact h.elim
 rename_i cells m cs hO hs;obtain ⟨⟨rfl,hk,hone,abn⟩,rfl,hle,hK⟩:=h;obtain ⟨i,ht,hi,abr,_⟩:=gX he;refine OpW.post ?_
 ·intro B F0 w0 a w next Q cr bF
  obtain ⟨F,own,fp,fs,h⟩:=cr;have hr:=h.ev x;rw [hx] at hr;simp only [Rep] at hr;obtain ⟨_,cap,hxv,_,_,_⟩:=hr;obtain ⟨news,f,hsrc,hnl,hrn,_,_⟩:=vZ (P:=P) h hs (Jt hk);rw [au.dX abn hrn] at hrn;obtain ⟨hkey,j1,eD,c,Ty,vals,rest,hc,hcl,gF⟩:=h.obj b cells hO;have hvl:=gF.len
  have hbB:=h.ol b (by rw [hkey];simp)
  have Yu:c.size=vals.length+rest.length:=by rw [<- Array.length_toList,hcl];simp
  have hst:=run_storeCells_at P b off Ty news 0 c w hc Ir (hrn.ones hone);simp only [Nat.add_zero] at hst;have hf:=hsrc.first w rfl
  have hex:(execOp a.eval o).run P w=.ok (.value (.int .i64 m)) (w.setRow b (c.toList.take off++news++c.toList.drop (off+news.length)).toArray):=by
   simp [execOp,ho,resolve,invoke,builtin,Builtin.copy_,hxv,run_underlying ht,sizeOf,typeInfo,hi,abr,hsrc.len,hf,hst,goInt]
  unfold Oper.wp;rw [hex];obtain ⟨f',hf',hnd,hmem⟩:=gF.Fj hrn off (m * z) (by rw [<- hnl,hrn.len]) hle
  have hsz:(c.toList.take off++news++c.toList.drop (off+news.length)).toArray.size=c.size:=by
   have:c.toList.length=c.size:=by simp
   simp only [List.size_toArray,List.length_append,List.length_take,List.length_drop,this];omega
  have cE:=Ext.setRow w b _ c Ty _ hc hsz
  have hFS:∀ b',F b'->F b'/\(b'<w.heap.size/\b' ∉ [b]):=fun b' hb'=>⟨hb',(h.fl b' hb').2.1,fun hd'=>by
   have e0:b'=b:=by simpa using hd'
   have e1:=(h.fl b' hb').1;rw [e0,hkey] at e1;cases e1⟩
  have hfn':∀ k,k∈f'->own k=.obj b:=by
   intro k hk;rcases hmem k hk with hk|hk
   ·exact eD k hk
   ·simp at hk
  have hSk:∀ k,k∈f'->k<w.heap.size/\k ∉ [b]:=by
   intro k hk;have e:=hfn' k hk;refine ⟨(h.ol k (by rw [e];simp)).2,fun hd'=>?_⟩;have e0:k=b:=by simpa using hd'
   rw [e0,hkey] at e;cases e
  have:=h.renew (w':=w.setRow b (c.toList.take off++news++c.toList.drop (off+news.length)).toArray) (x:=.v (.int .i64 m)) (v:=.int .i64 m) [] [b] b _ f' o.dst hd ⟨rfl,rfl,rfl⟩ cE (by simpa using hkey) (.inl QC)
   ⟨_,Ty,_,rest.drop 0,iX w b _ c Ty _ hc,by
    simp only [List.drop_zero];rw [hcl,List.take_append_of_le_length Ir,List.drop_append_of_le_length Ir,hnl]
    simp only [List.append_assoc],au.ext cE hFS hSk hf'⟩ (hnd (by simpa using j1)) (fun k hk=>.inr ⟨b,QC,hfn' k hk⟩) (by simp [Rep])
  refine bF _ _ _ ?_ this;refine Imp.weak (t':=put t o.dst (.v (.int .i64 m))) (o':=ig os b (some (cells.take off++cs++cells.drop (off+m * z)))) ⟨rfl,hK⟩ (fun _=>.inl rfl) ?_;intro q cs' hq;rcases uc hO q cs' hq with ⟨rfl,rfl⟩|⟨hne,hq⟩
  ·simp [O]
  ·rw [vA (fun e=>hne e.symm),nU,if_neg (by simpa using hne)];exact hq
def wq(hd:cz n o.dst=true)(h:nvc L P os t o.dst o.op K):OpW L P o ⟨n,t,os⟩ (fun s'=>s'.n=n/\K s'.t s'.o):=by
 have dflt:ovc L P os (ev t) true o.op (fun x C=>K (put (killL t C) o.dst x) os)->OpW L P o ⟨n,t,os⟩ (fun s'=>s'.n=n/\K s'.t s'.o):=by
  intro h;obtain ⟨x,C,hK,_,hl⟩:=rB h;exact (hl rfl ⟨n,t,os⟩ (fun _ _=>rfl) rfl).opW hd ⟨rfl,hK⟩
 cases ho:o.op with
 | alloc ty' =>
  rw [ho] at h;simp only [nvc] at h;split at h
  ·rename_i zs hz;exact Iq ho hd hz h
  ·exact h.elim
 | store ty' ad x =>
  rw [ho] at h;simp only [nvc] at h;split at h
  ·rename_i b off g m mQ ha ht;split at h
   ·rename_i cells hO;obtain ⟨⟨hel,hone⟩,hle,hK⟩:=h;refine OpW.post (Du (s:=⟨n,t,os⟩) ho mQ ha hO ht hel hone hle ?_);refine Imp.weak (t':=killL t (kills t [x])) (o':=ig os b (some (cells.take off++(ev t x).cells++cells.drop (off+m)))) ⟨rfl,hK⟩ (fun _=>.inl rfl) ?_;intro q cs hq;rcases uc hO q cs hq with ⟨rfl,rfl⟩|⟨hne,hq⟩
    ·simp [O]
    ·rw [vA (fun e=>hne e.symm),nU,if_neg (by simpa using hne)];exact hq
   ·exact h.elim
  ·exact h.elim
 | load ty' x =>
  have h0:=h;rw [ho] at h;simp only [nvc] at h;split at h
  ·rename_i b off hx;split at h
   ·rename_i cells g m hO ht;split at h
    ·rename_i y hy;split at h
     ·rename_i hny;exact (wx (s:=⟨n,t,os⟩) ho hx hO ht hy hny).opW hd ⟨rfl,by simpa [killL] using h⟩
     ·split at h
      ·rename_i hu;exact (pG (s:=⟨n,t,os⟩) ho hx hO ht hy fun _ _ _ _ r=>Rep.cpy hu r).opW hd ⟨rfl,by simpa [killL] using h⟩
      ·obtain ⟨⟨h1,hle⟩,hK⟩:=h;refine OpW.post (MK (s:=⟨n,t,os⟩) ho hd hx hO ht hy h1 hle ?_);refine Imp.weak (t':=put t o.dst y) (o':=ig os b (some (cells.take off++List.replicate m .dead++cells.drop (off+m)))) ⟨rfl,hK⟩ (fun _=>.inl rfl) ?_;intro q cs hq;rcases uc hO q cs hq with ⟨rfl,rfl⟩|⟨hne,hq⟩
       ·simp [O]
       ·rw [vA (fun e=>hne e.symm)];exact hq
    ·exact h.elim
   ·exact h.elim
  ·rw [<- ho] at h;exact dflt h
 | extract x k =>
  rw [ho] at h;simp only [nvc] at h;split at h
  ·rename_i i l hx;split at h
   ·rename_i y hy;split at h
    ·rename_i hny;exact (yK (s:=⟨n,t,os⟩) ho hx hy hny).opW hd ⟨rfl,by simpa [killL] using h⟩
    ·exact FR (s:=⟨n,t,os⟩) ho hd hx hy ⟨rfl,h⟩
   ·exact h.elim
  ·exact h.elim
 | makeSlice ty' x y =>
  rw [ho] at h;simp only [nvc] at h;split at h
  ·rename_i e sz bytes k m k' m' ht hx hy;split at h
   ·rename_i zs hz;obtain ⟨⟨hzl,hm⟩,⟨g0,g1,g2,g3⟩,hK⟩:=h;exact KH ho hd ht hz hzl hx hy hm g0 g1 g2 g3 hK
   ·exact h.elim
  ·exact h.elim
 | call c =>
  obtain ⟨callee,args,ts⟩:=c;have h0:=h;rw [ho] at h;simp only [nvc] at h;split at h
  ·rename_i y _;split at h
   ·rename_i f caps hf;exact H2 ho hd hf h.1 h.2
   ·exact h.elim
  ·rename_i x y t1 u e2 e3;have h1:args=#[x,y]:=by apply Array.ext';simpa using e2
   have h2:ts=#[t1,u]:=by apply Array.ext';simpa using e3
   exact Ol ho (by rw [h1,h2]) hd h
  ·rename_i x y t1 u e2 e3;have h1:args=#[x,y]:=by apply Array.ext';simpa using e2
   have h2:ts=#[t1,u]:=by apply Array.ext';simpa using e3
   exact LH ho (by rw [h1,h2]) hd h
  ·rw [<- ho] at h;exact dflt h
 | box ty' x =>
  rw [ho] at h;simp only [nvc] at h;split at h
  ·split at h
   ·exact D1 ho hd h.1 h.2
   ·exact h.elim
  ·rcases h with h|h
   ·rw [<- ho] at h;exact dflt h
   ·split at h
    ·exact D1 ho hd h.1 h.2
    ·exact h.elim
 | _ =>
  refine dflt ?_;rw [ho] at h ⊢;simpa only [nvc] using h
end
section
variable {L : Nat -> Nat} {P : Program} {ops : Array Oper} {n : Nat}
def xu(al:List (Nat×Nat))(a:Act):Prop:=∀ p,p∈al->a.tmps.getD p.1 undef=a.tmps.getD p.2 undef
def HV{al:List (Nat×Nat)}{a:Act}(h:xu al a)(j:Nat):a.tmps.getD (alF al j) undef=a.tmps.getD j undef:=by
 induction al with
 | nil=>rfl
 | cons p al ih =>
  simp only [alF];have ih':=ih fun q hq=>h q (by simp [hq])
  cases e:Nat.beq p.1 j with
  | true =>
   have:p.1=j:=Nat.eq_of_beq_eq_true e;subst this;exact (h p QC).symm
  | false=>exact ih'
def US{al:List (Nat×Nat)}{a:Act}(h:xu al a)(x:Operand):a.eval (sbs al x)=a.eval x:=by
 cases x with
 | tmp j=>exact HV h j
 | _=>rfl
def MX{al:List (Nat×Nat)}{d:Nat}{p:Nat×Nat}(h:p∈kJ al (some d)):p∈al/\p.1≠d/\p.2≠d:=by
 induction al with
 | nil=>simp [kJ] at h
 | cons q al ih =>
  simp only [kJ] at h
  cases e:(Nat.beq q.1 d || Nat.beq q.2 d) with
  | true=>rw [e] at h;have:=ih h;exact ⟨by simp [this.1],this.2⟩
  | false =>
   rw [e] at h;rcases List.mem_cons.1 h with rfl|h
   ·have e':Nat.beq p.1 d=false/\Nat.beq p.2 d=false:=by simpa using e
    exact ⟨QC,fun h=>by (rw [h,Nat.beq_refl] at e';cases e'.1),fun h=>by (rw [h,Nat.beq_refl] at e';cases e'.2)⟩
   ·have:=ih h;exact ⟨by simp [this.1],this.2⟩
def xu.put{al:List (Nat×Nat)}{a a0:Act}{d:Option Nat}{v:Value}(h:xu al a)(ha:a0.tmps=a.tmps)(hd:cz a.tmps.size d=true):xu (kJ al d) (a0.put d v):=by
 cases d with
 | none =>
  have:kJ al none=al:=by cases al<;>rfl
  rw [this];intro p hp;simp only [Act.put,ha];exact h p hp
 | some d =>
  intro p hp;obtain ⟨h1,h2,h3⟩:=MX hp;rw [iZ a0 (some d) v _ (by rw [ha];exact hd),iZ a0 (some d) v _ (by rw [ha];exact hd),if_neg (by simpa using fun e=>h2 e.symm),if_neg (by simpa using fun e=>h3 e.symm),ha];exact h p h1
def TK{al:List (Nat×Nat)}{ρ:Operand->Value}(h:∀ x,ρ (sbs al x)=ρ x)(o:Oper):execOp ρ { o with op:=kY al o.op }=execOp ρ o:=by
 obtain ⟨dst,op,type,pos,after,guard⟩:=o
 have hps:∀ ps:Array (Nat×Operand),((ps.toList.map fun p=>(p.1,sbs al p.2)).toArray.map fun (i,x)=>(i,ρ x))=ps.map fun (i,x)=>(i,ρ x):=by
  intro ps;apply Array.ext';simp [h]
 have hcs:∀ x,(match sbs al x with|.const _=>true|_=>false)=(match x with|.const _=>true|_=>false):=by intro x;cases x<;>rfl
 cases op with
 | move x=>simp only [execOp,kY,h]
 | assign x=>simp only [execOp,kY,h]
 | call c =>
  obtain ⟨callee,args,ts⟩:=c
  have h1:((args.toList.map (sbs al)).toArray.map ρ)=args.map ρ:=by
   apply Array.ext';simp [h]
  have h2:((args.toList.map (sbs al)).toArray.map fun|.const _=>true|_=>false)=args.map fun|.const _=>true|_=>false:=by
   apply Array.ext';simp only [List.map_toArray,Array.toList_map,List.map_map];apply List.map_congr_left;intro x _;exact hcs x
  cases callee with
  | builtin b =>
   simp only [execOp,kY,resolve,h1];exact congrArg (fun z=>(do let d <- (pure { target:=Target.builtin b ts type z,args:=Array.map ρ args }:Sem Deferred);invoke d.target d.args)) h2
  | _=>simp only [execOp,kY,resolve,h1]
 | buildSlice t n ps=>simp only [execOp,kY,hps]
 | build t ps=>simp only [execOp,kY,hps]
 | store t a x=>simp only [execOp,kY,h]
 | indexAddr t x i=>simp only [execOp,kY,h]
 | slice t x lo hi mx=>simp only [execOp,kY,h]
 | field t x k=>simp only [execOp,kY,h]
 | extract x k=>simp only [execOp,kY,h]
 | box t x=>simp only [execOp,kY,h]
 | convert t u x=>simp only [execOp,kY,h]
 | _=>rfl
def EZ{o:Oper}{a:Act}{next:Act->World->Prop}{Q:Exit->Act->World->Prop}{r:Result Next}(h:o.upon P a (fun a' w'=>(∃ (a0:Act) (v:Value),a0.tmps=a.tmps/\a'=a0.put o.dst v)->next a' w') Q r):o.upon P a next Q r:=by
 cases r with
 | ok x w =>
  cases x with
  | value v=>exact h ⟨a,v,rfl,rfl⟩
  | skip=>exact h ⟨a,_,rfl,rfl⟩
  | enter f args =>
   refine Calls.mono h ?_;intro e w'
   cases e with
   | returned v=>exact fun h=>h ⟨a,v,rfl,rfl⟩
   | panicked _=>exact fun h=>h
   | outgrown=>exact fun h=>h
  | row row args=>exact Rows.mono h fun v w' h=>h ⟨a,v,rfl,rfl⟩
  | defer d=>exact h ⟨{ a with defers:=d::a.defers },undef,rfl,rfl⟩
  | _=>exact h
 | halt r w =>
  cases r with
  | panic v=>exact h
  | _=>exact h.elim
def abS(L:eaa)(P:Program)(ops:Array Oper)(l:List Nat)(al:List (Nat×Nat))(s:AS)(K:AS->Prop):Prop :=
 ∀ B F0 w0 a w (Q:Exit->Act->World->Prop),Den L B F0 w0 s a w->xu al a->(∀ s' a' w',K s'->Den L B F0 w0 s' a' w'->Q .normal a' w')->wpOps P ops Q l a w
def Di{o:Oper}{t:daa}{os:Sto}{al:List (Nat×Nat)}{K:List (Nat×Nat)->daa->Sto->Prop}(hd:cz n o.dst=true)(h:stp L P os al t o.dst o.op K)
  {B F0:faa} {w0:World} {a:Act} {w:World} (cr:Den L B F0 w0 ⟨n,t,os⟩ a w) (hal:xu al a) {next:Act->World->Prop} {Q:Exit->Act->World->Prop}
  (bF:∀ al' t' os' a' w',K al' t' os'->Den L B F0 w0 ⟨n,t',os'⟩ a' w'->xu al' a'->next a' w'):o.wp P a w next Q:=by
 have hsz:a.tmps.size=n:=by obtain ⟨F,own,fp,fs,cr⟩:=cr;exact cr.size
 have dflt:nvc L P os t o.dst (kY al o.op) (K (kJ al o.dst))->o.wp P a w next Q:=by
  intro h;have e:=TK (ρ:=a.eval) (US hal) o;unfold Oper.wp;rw [<- e];refine EZ ?_;have:=wq (o:={ o with op:=kY al o.op }) hd h B F0 w0 a w (fun a' w'=>(∃ (a0:Act) (v:Value),a0.tmps=a.tmps/\a'=a0.put o.dst v)->next a' w') Q cr ?_
  ·exact this
  ·rintro ⟨n',t',os'⟩ a' w' ⟨hn,hK⟩ hD ⟨a0,v,ha0,rfl⟩;have hn':n=n':=hn.symm;subst hn';exact bF _ _ _ _ _ hK hD (hal.put ha0 (by rw [hsz];exact hd))
 unfold stp at h;split at h
 ·rename_i j d hop mQ;have hev:(execOp a.eval o).run P w=.ok (.value (a.tmps.getD j undef)) w:=by simp [execOp,hop,Act.eval]
  have hd':cz n (some d)=true:=by rw [<- mQ];exact hd
  split at h
  ·obtain ⟨hne,hK⟩:=h;unfold Oper.wp;rw [hev];simp only [Oper.upon_value,mQ];refine bF _ _ _ _ _ hK ?_ ?_
   ·obtain ⟨F,own,fp,fs,hD⟩:=cr;have:=hD.put (x:=.dead) (v:=a.tmps.getD j undef) (fx:=[]) [] (some d) hd' (Kp.refl _ _) (fun _ h=>h) (fun _ h=>.inl h) (by simp [Rep]) QC QC;simpa [killL,put] using this
   ·have h1:=hal.put (a0:=a) (d:=some d) (v:=a.tmps.getD j undef) rfl (by rw [hsz];exact hd')
    have PT:¬ d=alF al j:=fun e=>by rw [e,Nat.beq_refl] at hne;cases hne
    intro p hp;rcases List.mem_cons.1 hp with rfl|hp
    ·rw [iZ a (some d) _ _ (by rw [hsz];exact hd'),iZ a (some d) _ _ (by rw [hsz];exact hd')];simp only [if_true,Option.some.injEq,if_neg PT];exact (HV hal j).symm
    ·exact h1 p hp
  ·rename_i K3;unfold Oper.wp;rw [hev];simp only [Oper.upon_value,mQ];refine bF _ _ _ _ _ h ?_ (hal.put rfl (by rw [hsz];exact hd'));obtain ⟨F,own,fp,fs,hD⟩:=cr;have hr:=hD.slots (alF al j);simp only at hr;rw [HV hal j,Rep.dX K3 hr] at hr;have:=hD.put (x:=T t (alF al j)) (v:=a.tmps.getD j undef) (fx:=[]) [] (some d) hd' (Kp.refl _ _) (fun _ h=>h) (fun _ h=>.inl h) hr QC QC;simpa [killL,put] using this
 ·exact dflt h
def YM(t:daa)(i:Nat):T (BO t) i=(T t i).unc:=by
 induction t with
 | nil=>rfl
 | cons p t ih =>
  simp only [BO,T];cases (p.1 == i)<;>simp [ih]
def Rep.unc{F:faa}{w:World}{x:AV}{y:Value}{fp:List Nat}(h:Rep L F w x y fp):Rep L F w x.unc y fp:=by
 cases x with
 | cnd g x =>
  cases g with
  | true=>simp only [Rep] at h;exact h.1 (by trivial)
  | false=>exact h
 | _=>exact h
def Den.unc{B F0:faa}{w0:World}{t:daa}{os:Sto}{a:Act}{w:World}(h:Den L B F0 w0 ⟨n,t,os⟩ a w):Den L B F0 w0 ⟨n,BO t,os⟩ a w:=by obtain ⟨F,own,fp,fs,h⟩:=h;exact ⟨F,own,fp,fs,{ h with slots:=fun i=>by rw [YM];exact (h.slots i).unc }⟩
def Wn.toA{K:daa->Sto->Prop}{K':AS->Prop}(hKK:∀ t os,K t os->K' ⟨n,t,os⟩):∀ (l:List Nat) (al:List (Nat×Nat)) (t:daa) (os:Sto),Wn L P ops n K l al t os->abS L P ops l al ⟨n,t,os⟩ K'
 | [],al,t,os,h=>fun B F0 w0 a w Q cr hal hQ=>hQ _ _ _ (hKK t os (by simpa only [Wn] using h)) cr
 | i::l,al,t,os,h=>by
  intro B F0 w0 a w Q cr hal hQ;have hsz:a.tmps.size=n:=by obtain ⟨F,own,fp,fs,cr⟩:=cr;exact cr.size
  simp only [Wn] at h;split at h
  ·exact h.elim
  ·rename_i o ho;obtain ⟨hd,h⟩:=h;split at h
   ·rename_i hg;simp only [wpOps,ho];rw [if_pos (by simp [Region.wanted,hg])];refine .inl (Di hd h cr hal fun al' t' os' a' w' hK hD P2=>?_);exact Wn.toA hKK l al' t' os' hK B F0 w0 a' w' Q hD P2 hQ
   ·rename_i j want hg;split at h
    ·exact h.elim
    ·rename_i d hj;obtain ⟨hlt,h⟩:=h;split at h
     ·exact h.elim
     ·rename_i G g hgv
      cases hoj:ops[j]? with
      | none=>rw [hoj] at hj;cases hj
      | some oj =>
       rw [hoj] at hj;have hy:=pW cr hoj hj hgv hlt;simp only [wpOps,ho,Region.wanted,hg,hy]
       have KY:∀ x:AV,Den L B F0 w0 ⟨n,put t o.dst (.cnd false x),os⟩ (a.put o.dst undef) w:=by
        intro x;obtain ⟨F,own,fp,fs,cr⟩:=cr;have:=cr.put (x:=.cnd false x) (v:=undef) (fx:=[]) [] o.dst hd (Kp.refl _ _) (fun _ h=>h) (fun _ h=>.inl h) (by simp [Rep]) QC QC;simpa [killL] using this
       have P1:=hal.put (a0:=a) (v:=undef) rfl (d:=o.dst) (by rw [hsz];exact hd);split at h
       ·split at h
        ·obtain ⟨hw,h⟩:=h;rw [if_neg (by cases G<;>simp_all)];exact Wn.toA hKK l _ _ _ h B F0 w0 _ w Q (KY .dead) P1 hQ
        ·obtain ⟨hok,h⟩:=h;obtain ⟨x,C,⟨rfl,hK⟩,_,hl⟩:=rB h
         cases hw:(G && (g == want)) with
         | true =>
          rw [hw] at hK hok hl;simp at hw;obtain ⟨rfl,rfl⟩:=hw;rw [if_pos QC];have abp:LOp L P ⟨n,t,os⟩ o x []:=LOp.FV rfl hok (hl rfl) ⟨n,t,os⟩ (fun _ _=>rfl) rfl;refine .inl (EZ ?_);refine (abp.cnd.opW hd (K:=fun s'=>s'=⟨n,put t o.dst (.cnd true x),os⟩) rfl) B F0 w0 a w _ Q cr fun s' a' w' e h'=>?_;subst e;rintro ⟨a0,v,ha0,rfl⟩;refine Wn.toA hKK l _ _ _ hK B F0 w0 _ w' Q ?_ (hal.put ha0 (by rw [hsz];exact hd)) hQ;simpa [upd,killL] using h'
         | false =>
          rw [hw] at hK;rw [if_neg (by cases G<;>simp_all)];refine Wn.toA hKK l _ _ _ hK B F0 w0 _ w Q ?_ P1 hQ;simpa [upd,killL] using KY x
       ·cases hw:(G && (g == want)) with
        | true =>
         have h1:=h.1 hw;simp at hw;obtain ⟨rfl,rfl⟩:=hw;rw [if_pos QC];refine .inl (Di hd h1 cr.unc hal fun al' t' os' a' w' hK hD P2=>?_);exact Wn.toA hKK l al' t' os' hK B F0 w0 a' w' Q hD P2 hQ
        | false =>
         rw [if_neg (by cases G<;>simp_all)];exact Wn.toA hKK l _ _ _ (h.2 (by rw [hw];rfl)) B F0 w0 _ w Q (KY .dead) P1 hQ
def Wn.oG{K:daa->Sto->Prop}{K':AS->Prop}(hKK:∀ t os,K t os->K' ⟨n,t,os⟩)(l:List Nat)(t:daa)(os:Sto)(h:Wn L P ops n K l [] t os):lU L P ops l ⟨n,t,os⟩ K' :=
 fun B F0 w0 a w Q cr hQ=>Wn.toA hKK l [] t os h B F0 w0 a w Q cr (fun p hp=>by cases hp) hQ
end
section
variable {L : Nat -> Nat} {P : Program} {n : Nat} {t : List (Nat × AV)} {o : Sto} {Q : Exit -> AS -> Prop} {id : Nat} {ops : Array Oper}
def AW.XM{c:Code}(h:∀ K:daa->Sto->Prop,(∀ t o,AW L P c ⟨n,t,o⟩ Q->K t o)->Wn L P ops n K (List.range ops.size) [] t o):AW L P (.seq (.region id ops false) c) ⟨n,t,o⟩ Q :=
 AW.seq (AW.region (Wn.oG (K:=fun t o=>AW L P c ⟨n,t,o⟩ Q) (fun _ _ h=>h) _ _ _ (h _ (fun _ _ h=>h))))
def AW.O2(h:∀ K:daa->Sto->Prop,(∀ t o,Q .normal ⟨n,t,o⟩->K t o)->Wn L P ops n K (List.range ops.size) [] t o):AW L P (.region id ops false) ⟨n,t,o⟩ Q :=
 AW.region (Wn.oG (K:=fun t o=>Q .normal ⟨n,t,o⟩) (fun _ _ h=>h) _ _ _ (h _ (fun _ _ h=>h)))
theorem AW.XP [fQ P]{c:Code} (h:∀ K:daa->List (AV×List Nat)->Prop,(∀ t D,(drawOK ops (D.map Prod.snd)=true/\∀ K':daa->Sto->Prop,(∀ t o,AW L P c ⟨n,t,o⟩ Q->K' t o)->Wn L P ops n K' (List.range' D.length (ops.size - D.length)) [] t o)->K t D) ->
   W L P ops [] n o (fun t D _=>K t D) (List.range' 0 ops.size) t []):AW L P (.seq (.region id ops true) c) ⟨n,t,o⟩ Q :=
 AW.seq (AW.draw (W.draw _ 0 _ _ rfl (h (fun t D=>drawOK ops (D.map Prod.snd)=true/\lU L P ops (List.range' D.length (ops.size - D.length)) ⟨n,t,o⟩ (fun s'=>AW L P c s' Q)) (fun t D h=>⟨h.1,Wn.oG (K:=fun t o=>AW L P c ⟨n,t,o⟩ Q) (fun _ _ h=>h) _ _ _ (h.2 _ (fun _ _ h=>h))⟩))))
theorem AW.LD [fQ P] (h:∀ K:daa->List (AV×List Nat)->Prop,(∀ t D,(drawOK ops (D.map Prod.snd)=true/\∀ K':daa->Sto->Prop,(∀ t o,Q .normal ⟨n,t,o⟩->K' t o)->Wn L P ops n K' (List.range' D.length (ops.size - D.length)) [] t o)->K t D) ->
   W L P ops [] n o (fun t D _=>K t D) (List.range' 0 ops.size) t []):AW L P (.region id ops true) ⟨n,t,o⟩ Q :=
 AW.draw (W.draw _ 0 _ _ rfl (h (fun t D=>drawOK ops (D.map Prod.snd)=true/\lU L P ops (List.range' D.length (ops.size - D.length)) ⟨n,t,o⟩ (fun s'=>Q .normal s')) (fun t D h=>⟨h.1,Wn.oG (K:=fun t o=>Q .normal ⟨n,t,o⟩) (fun _ _ h=>h) _ _ _ (h.2 _ (fun _ _ h=>h))⟩)))
end
end
end Go.Ab
namespace Go.Ab
end Go.Ab
