/- Part of a proof. -/
import Derived.Test.YtbiikafnjialjaaGreatDoorG3
set_option linter.all false
namespace Go.Ab
open Go.RowKit (Below)
theorem InC.CC{L:Nat->Nat}{P:Program}{f:FuncId}{sz:Nat}{l rest:List AV}{res:AV}{l':List AV}(he:enters P f=true)(hb:D3 L P f sz l rest res l')(hr:res.cS=true)(hn:AV.bA rest=true):InC L P f false [.sl true sz l] [.sl true sz l'] rest res:=by
 refine ⟨rfl,fun _=>rfl,?_⟩
 intro B F own w vs rs fp hS hx hnd ho hrest
 simp only [aj] at hx
 obtain ⟨y,vs',f1,f2,rfl,rfl,hy,rfl,rfl⟩:=hx
 rw [List.append_nil] at hnd ho
 have hlen:=hrest.len
 let m:=rest.length
 let t:List (Nat×AV):=nW 0 (.sl true sz l::rest)
 let a:Act:=⟨(y::rs++[undef]).toArray,[]⟩
 let xs:List Operand:=(List.range rest.length).map fun i=>.tmp (i+1)
 have hT0:T t 0=.sl true sz l:=by simp [t,nW,T]
 have hxs:xs.map (ev t)=rest:=by
  apply List.ext_getElem?
  intro i
  simp only [xs,List.map_map,List.getElem?_map]
  by_cases hi:i<rest.length
  ·rw [List.getElem?_range hi]
   simp [ev,t,yK,List.getElem?_eq_getElem hi]
  ·rw [List.getElem?_eq_none (by simp;omega),List.getElem?_eq_none (by omega)];rfl
 have hxe:xs.map a.eval=rs:=by
  apply List.ext_getElem?
  intro i
  simp only [xs,List.map_map,List.getElem?_map]
  by_cases hi:i<rest.length
  ·rw [List.getElem?_range hi]
   have hi':i<rs.length:=by omega
   simp [Act.eval,a,List.getElem?_append_left hi',List.getElem?_eq_getElem hi',Array.getD_eq_getD_getElem?]
  ·rw [List.getElem?_eq_none (by simp;omega),List.getElem?_eq_none (by omega)];rfl
 let o:Oper:={ dst:=some (rest.length+1),op:=.call ⟨.value (.func f),(.tmp 0::xs).toArray,#[]⟩,type:=0,pos := "",guard:=none,after:=#[] }
 have bY:Den L B F w ⟨rest.length+2,t,[]⟩ a w:=by
  refine ⟨F,own,fun i=>if i=0 then f1 else [],fun _=>[],{ below:=Kp.refl _ _,hB:=hS.hB,tb:=hS.tb,f0:=fun _ h=>h,fl:=fun b hb=>⟨(hS.fl b hb).1,(hS.fl b hb).2.1,.inl hb⟩,ol:=hS.ol,defers:=rfl,size:=by simp [a];omega,slots:=?_,sn:=?_,so:=?_,obj:=by simp [O] }⟩
  ·intro i
   simp only [t,yK,Nat.zero_le,if_true,Nat.sub_zero]
   match i with
   | 0=>simpa [a,Array.getD_eq_getD_getElem?] using hy
   | i+1 =>
    simp only [List.getElem?_cons_succ]
    by_cases hi:i<rest.length
    ·have hi':i<rs.length:=by omega
     rw [List.getElem?_eq_getElem hi]
     obtain ⟨y',f',h1,h2,h3⟩:=hrest.get (List.getElem?_eq_getElem hi)
     have e:f'=[]:=List.eq_nil_iff_forall_not_mem.2 fun b hb=>by simpa using h3 b hb
     subst e
     have:a.tmps.getD (i+1) undef=y':=by
      simp [a,Array.getD_eq_getD_getElem?,List.getElem?_append_left hi',h1]
     rw [this];simpa using h2
    ·rw [List.getElem?_eq_none (by omega)];simp [Rep]
  ·intro i;split
   ·exact hnd
   ·simp
  ·intro i b hb
   split at hb
   ·rename_i e;subst e;exact ho b hb
   ·simp at hb
 have hop:=qR (L:=L) (P:=P) (o:=o) (n:=rest.length+2) (t:=t) (os:=[]) (y:=.func f) (i:=0) (xs:=xs) (ts:=#[]) (f:=f) (caps:=[]) (sz:=sz) (l:=l) (l':=l') (res:=res)
  (K:=fun t' o'=>t'=put ((0,.sl true sz l')::t) (some (rest.length+1)) res) rfl (by simp [o,cK]) rfl rfl hT0 he (by rw [hxs,List.append_nil];exact hn) (by rw [hxs,List.append_nil];exact hb) rfl
 have hw:=hop B F w a w (fun a' w'=>∃ s':AS,(s'.n=rest.length+2/\s'.t=put ((0,.sl true sz l')::t) (some (rest.length+1)) res)/\Den L B F w s' a' w') (fun _ _ _=>False) bY (fun s' a' w' hK hD=>⟨s',hK,hD⟩)
 have hex:(execOp a.eval o).run P w=.ok (.enter f (y::rs).toArray) w:=by
  obtain ⟨F',own',fp',fs',hD⟩:=bY
  obtain ⟨cvs,hc,hex⟩:=nT (P:=P) (f:=f) (o:=o) (y:=.func f) (xs:=(.tmp 0::xs).toArray) (ts:=#[]) (caps:=[]) hD rfl rfl rfl he
  simp only [aj] at hc
  obtain ⟨rfl,_⟩:=hc
  rw [hex]
  simp only [List.toList_toArray,List.map_cons,hxe,List.append_nil]
  congr 3
 unfold Oper.wp at hw
 rw [hex] at hw
 simp only [Oper.upon_enter] at hw
 refine hw.mono ?_
 intro e w' h
 cases e with
 | panicked c=>exact h.elim
 | outgrown=>obtain ⟨_,_,h⟩:=h;exact h.elim
 | returned v =>
  obtain ⟨s',⟨hsn,hst⟩,F',own',fp',fs',hD⟩:=h
  have h0:=hD.slots 0
  have h1:=hD.slots (rest.length+1)
  have hsz:cK a.tmps.size o.dst=true:=by simp [o,cK,a];omega
  rw [hst,ik a _ v _ hsz] at h0 h1
  simp only [o,ko,eX,if_true,Option.some.injEq,Nat.add_eq_zero_iff,Nat.succ_ne_self,and_false,if_false] at h0 h1
  have e0:a.tmps.getD 0 undef=y:=by simp [a,Array.getD_eq_getD_getElem?]
  rw [e0] at h0
  rw [Rep.dL hr h1] at h1
  refine ⟨v,F',own',fp' 0,rfl,{ below:=hD.below,hB:=hD.hB,tb:=hD.tb,f0:=hD.f0,fl:=hD.fl,ol:=hD.ol,obj:=by simp [O] },h1,?_,hD.sn 0,hD.so 0⟩
  simp only [aj]
  exact ⟨y,[],fp' 0,[],rfl,by simp,h0,rfl,rfl⟩
theorem pT.CC{L:Nat->Nat}{P:Program}{f:FuncId}{sz:Nat}{l rest:List AV}{res:AV}{l':List AV}{pre:Prop}(h:fu L P f sz l rest res l' pre)(hr:res.cS=true)(hn:AV.bA rest=true):pT L P f false [.sl true sz l] rest res [.sl true sz l'] pre :=
 ⟨h.en,fun hp=>InC.CC h.en (h.out hp) hr hn⟩
instance TL{L:Nat->Nat}{P:Program}{f:FuncId}{sz:Nat}{l:List AV}{k z:Value}{l':List AV}{pre:Prop}[h:fu L P f sz l [.v k] (.v z) l' pre]:pT L P f false [.sl true sz l] [.v k] (.v z) [.sl true sz l'] pre :=
 pT.CC h rfl rfl
def AV.rY(u:Value):AV->AV
 | .sl true sz l=>.pin u (.sl true sz l)
 | .slo sz l=>.pin u (.slo sz l)
 | x=>x
def iB(hs:Nat->Value):Nat->List AV->List AV
 | _,[]=>[]
 | j,x::xs=>x.rY (hs j)::iB hs (j+1) xs
section
variable {L : Nat -> Nat} {F : Nat -> Prop} {w : World}
theorem Rep.rY{x:AV}{y:Value}{fp:List Nat}(h:Rep L F w x y fp):Rep L F w (x.rY y) y fp:=by
 unfold AV.rY
 split
 ·simp only [Rep] at h ⊢;exact ⟨by trivial,h⟩
 ·simp only [Rep] at h ⊢;exact ⟨by trivial,h⟩
 ·exact h
theorem aj.iB{hs:Nat->Value}:∀ {l:List AV} {vs:List Value} {fp:List Nat} {j:Nat},aj L F w l vs fp->(∀ k y,vs[k]? = some y->hs (j+k)=y)->aj L F w (iB hs j l) vs fp
 | [],_,_,_,h,_=>h
 | x::xs,vs,fp,j,h,hh=>by
  simp only [aj,Ab.iB] at h ⊢
  obtain ⟨y,vs',f1,f2,rfl,hf,hx,hxs⟩:=h
  have e:=hh 0 y (by simp)
  rw [Nat.add_zero] at e
  refine ⟨y,vs',f1,f2,rfl,hf,by rw [e];exact hx.rY,aj.iB hxs fun k y' hk=>?_⟩
  have:=hh (k+1) y' (by simpa using hk)
  rw [Nat.add_assoc,Nat.add_comm 1 k];exact this
end
section
variable {L : Nat -> Nat} {n : Nat} {t : List (Nat × AV)} {o : Sto} {Q : AS -> Prop}
theorem Imp.xS{b:Nat}{pre e post:List AV}(hO:O o b=some (pre++(e++post)))
  (h:∀ vs:List Value,∃ e',Q ⟨n,t,fZ o b (some (pre++(e'++post)))⟩/\∀ (F:Nat->Prop) (w:World) (f:List Nat),aj L F w e vs f->aj L F w e' vs f):Imp L ⟨n,t,o⟩ Q:=by
 intro B F0 w0 a w hd
 obtain ⟨F,own,fp,fs,hd⟩:=hd
 obtain ⟨hkey,iW,eG,c,Ty,vals,rst,hc,hcl,hl⟩:=hd.obj b _ hO
 obtain ⟨v1,v23,f1,f23,rfl,hfs,r1,r23⟩:=hl.split
 obtain ⟨vs,v3,fx,f3,rfl,rfl,r2,r3⟩:=r23.split
 obtain ⟨e',hQ,hr⟩:=h vs
 refine ⟨_,hQ,F,own,fp,fs,{ hd with obj:=?_ }⟩
 intro q cs hq
 rcases rH hO q cs hq with ⟨rfl,rfl⟩|⟨hne,hq⟩
 ·refine ⟨hkey,iW,eG,c,Ty,_,rst,hc,hcl,?_⟩
  rw [hfs]
  exact r1.join ((hr F w fx r2).join r3)
 ·exact hd.obj q cs hq
theorem Imp.tQ{b:Nat}(pre e post:List AV)(hO:O o b=some (pre++(e++post)))(h:∀ hs,Q ⟨n,t,fZ o b (some (pre++(iB hs 0 e++post)))⟩):Imp L ⟨n,t,o⟩ Q :=
 Imp.xS hO fun vs=>⟨iB (fun k=>(vs[k]?).getD undef) 0 e,h _,fun F w f r=>aj.iB r fun k y hk=>by simp [hk]⟩
theorem Imp.tv{b:Nat}(pre e post:List AV)(hO:O o b=some (pre++(e++post)))(h:Q ⟨n,t,fZ o b (some (pre++(gL e++post)))⟩):Imp L ⟨n,t,o⟩ Q :=
 Imp.xS hO fun vs=>⟨gL e,h,fun F w f r=>r.unp⟩
end
theorem aF.inp{L:Nat->Nat}{P:Program}{n:Nat}{fn:Func}{t:List (Nat×AV)}{o:Sto}{rs:List ResultVar}{res:AV}{px:List AV}(b:Nat)(hr:fn.results=rs.toArray)(h:n8 P n rs t o [] (fun xs os=>pj xs=res/\O os b=some px)):aF L P fn ⟨n,t,o⟩ (fun r os'=>r=res/\∃ b,os'=[(b,some px)]):=by
 have h2:aF L P fn ⟨n,t,o⟩ (fun r os=>r=res/\O os b=some px):=aF.res hr h
 intro B F0 w0 a w hd
 obtain ⟨v,Cj,os',F',own',fs',fp,h3,⟨rfl,h4⟩,h5,h6,h7,h8⟩:=h2 B F0 w0 a w hd
 exact ⟨v,Cj,[(b,some px)],F',own',fs',fp,h3,⟨rfl,b,rfl⟩,h5.sub (by simp only [iz];exact ⟨h4,trivial⟩),h6,h7,h8⟩
theorem InC.eO{L:Nat->Nat}{P:Program}{f:FuncId}{fn:Func}{c:Code}{x x' rest:List AV}{res:AV}(hf:P.funcs[f]? = some fn)(hb:fn.body=some c)(hn:Nat.ble (rest.length+1) fn.ntmps=true)(hr:res.cS=true)
  (hh:∀ hs,fg (iB hs 0 x')=fg (iB hs 0 x)) (hdt:∀ hs,mN (fg (iB hs 0 x))=true) (hun:∀ hs,gL (iB hs 0 x')=x') (hlen:x'.length=x.length)
  (h:∀ hs:Nat->Value,AW L P c ⟨fn.ntmps,nW 0 (.agg (iB hs 0 x)::rest),[]⟩ (lI L P fn (fun r os'=>r=res/\∃ b,os'=[(b,some (iB hs 0 x'))]))):InC L P f true x x' rest res:=by
 refine ⟨hlen,fun e=>by simp at e,?_⟩
 intro B F own w vs rs fp hS hx hnd ho hrest
 have hl:=hrest.len
 have hn':rest.length+1<=fn.ntmps:=by simpa using hn
 let hs:Nat->Value:=fun k=>(vs[k]?).getD undef
 have zn:aj L F w (iB hs 0 x) vs fp:=aj.iB hx fun k y hk=>by simp [hs,hk]
 refine calls_of_wp hf hb (wp_mono (h hs B F w _ w ?_) ?_)
 ·refine ⟨F,own,fun i=>if i=0 then fp else [],fun _=>[],{ hS with defers:=rfl,size:=by simp;omega,slots:=?_,sn:=?_,so:=?_,obj:=by simp [O] }⟩
  ·intro i
   simp only [yK,Nat.zero_le,if_true,Nat.sub_zero]
   match i with
   | 0 =>
    simp only [List.getElem?_cons_zero,Option.getD_some,if_true]
    have e:((mkv true vs::rs).toArray++Array.replicate (fn.ntmps - (mkv true vs::rs).toArray.size) undef).getD 0 undef=mkv true vs:=by
     rw [Array.getD_eq_getD_getElem?,Array.getElem?_append_left (by simp)];simp
    rw [e]
    simp only [Rep]
    exact ⟨vs,rfl,zn⟩
   | i+1 =>
    simp only [List.getElem?_cons_succ]
    by_cases hi:i<rest.length
    ·rw [List.getElem?_eq_getElem hi]
     obtain ⟨y',f',h1,h2,h3⟩:=hrest.get (List.getElem?_eq_getElem hi)
     have e:f'=[]:=List.eq_nil_iff_forall_not_mem.2 fun b hb=>by simpa using h3 b hb
     subst e
     have:((mkv true vs::rs).toArray++Array.replicate (fn.ntmps - (mkv true vs::rs).toArray.size) undef).getD (i+1) undef=y':=by
      rw [Array.getD_eq_getD_getElem?,Array.getElem?_append_left (by simp;omega)];simp [h1]
     rw [this];simpa using h2
    ·rw [List.getElem?_eq_none (by omega)];simp [Rep]
  ·intro i;split
   ·exact hnd
   ·simp
  ·intro i b hb
   split at hb
   ·rename_i e;subst e;exact ho b hb
   ·simp at hb
 ·rintro e a' w' ⟨s',h1,h2⟩
  have key:aF L P fn s' (fun r os'=>r=res/\∃ b,os'=[(b,some (iB hs 0 x'))])->a'.defers=[]/\∃ v,(results fn a'.tmps).run P w'=.ok v w'/\∃ v' F' own' fp',Ending.returned v=.returned v'/\lG L B F w F' own' (fun _=>[]) [] w'/\Rep L F' w' res v' []/\aj L F' w' x' vs fp'/\fp'.Nodup/\(∀ b,b∈fp'->own' b=.slot 0):=by
   intro he
   obtain ⟨v,r,os',F',own',fs',fp',h3,⟨rfl,b,rfl⟩,h5,h6,h7,h8⟩:=he _ _ _ _ _ h2
   obtain ⟨G,j6,fp2,fs2,hd⟩:=h2
   rw [Rep.dL hr h6] at h6
   obtain ⟨hkey,iW,eG,cc,Ty,vals,rst,hc,hcl,fR⟩:=h5.obj b (iB hs 0 x') (by simp [O])
   have sC:vals=vs:=by
    obtain ⟨f2,hf2⟩:=fR.J9
    rw [hh hs] at hf2
    exact aj.xb (hdt hs) zn hf2
   subst sC
   have hx2:=fR.unp
   rw [hun hs] at hx2
   classical
   refine ⟨hd.defers,v,h3,v,F',fun k=>if k∈fs' b then .slot 0 else .none,fs' b,rfl,{ below:=h5.below,hB:=h5.hB,tb:=h5.tb,f0:=h5.f0,fl:=fun k hk=>⟨?_,(h5.fl k hk).2⟩,ol:=fun k hk=>?_,obj:=by simp [O] },h6,hx2,iW,fun k hk=>by simp [hk]⟩
   ·have:k ∉ fs' b:=fun hm=>by have:=(h5.fl k hk).1;rw [eG k hm] at this;cases this
    simp [this]
   ·by_cases e:k∈fs' b
    ·exact h5.ol k (by rw [eG k e];simp)
    ·simp [e] at hk
  cases e with
  | ret=>exact key h1
  | normal=>exact key h1
  | exit _=>exact h1.elim
  | goto _=>exact h1.elim
  | panic _=>exact h1.elim
  | outgrown=>exact h1.elim
end Go.Ab
namespace Go.Ab
section
variable {L : Nat -> Nat} {n : Nat} {t : List (Nat × AV)} {o : Sto} {Q : AS -> Prop}
theorem Imp.jR{b:Nat}(sz:Nat)(pre post:List AV)(hO:O o b=some (pre++([.v (.slice none 0 0)]++post)))(h:Q ⟨n,t,fZ o b (some (pre++([.sl false sz []]++post)))⟩):Imp L ⟨n,t,o⟩ Q :=
 Imp.xS hO fun vs=>⟨[.sl false sz []],h,fun F w f r=>by
  simp only [aj] at r ⊢
  obtain ⟨y,vs',f1,f2,rfl,rfl,hy,rfl,rfl⟩:=r
  simp only [Rep] at hy
  obtain ⟨rfl,rfl⟩:=hy
  refine ⟨_,[],[],[],rfl,rfl,?_,rfl,rfl⟩
  simp only [Rep]
  exact .inl ⟨.inl trivial,by trivial,by trivial⟩⟩
theorem Imp.si{b:Nat}(sz:Nat)(pre post:List AV)(hO:O o b=some (pre++([.v (.slice none 0 0)]++post)))(h:Q ⟨n,t,fZ o b (some (pre++([.sl true sz []]++post)))⟩):Imp L ⟨n,t,o⟩ Q :=
 Imp.xS hO fun vs=>⟨[.sl true sz []],h,fun F w f r=>by
  simp only [aj] at r ⊢
  obtain ⟨y,vs',f1,f2,rfl,rfl,hy,rfl,rfl⟩:=r
  simp only [Rep] at hy
  obtain ⟨rfl,rfl⟩:=hy
  refine ⟨_,[],[],[],rfl,rfl,?_,rfl,rfl⟩
  simp only [Rep]
  exact .inl ⟨.inl trivial,by trivial,by trivial⟩⟩
theorem Imp.eK{b:Nat}{cells:List AV}(hO:O o b=some cells)(h:Q ⟨n,t,fZ o b (some (AV.bS cells))⟩):Imp L ⟨n,t,o⟩ Q:=by
 intro B F0 w0 a w hd
 refine ⟨_,h,?_⟩
 obtain ⟨F,own,fp,fs,hd⟩:=hd
 obtain ⟨hkey,iW,eG,c0,Ty0,lR,NV,hc0,um,hl0⟩:=hd.obj b _ hO
 classical
 let F':Nat->Prop:=fun k=>F k\/k∈fs b
 let own':Nat->Own:=fun k=>if k∈fs b then .none else own k
 have hid:Ext (fun _=>True) w w:=⟨Nat.le_refl _,fun _ _=>rfl,fun b c T z hc=>⟨c,hc,rfl⟩⟩
 have hnot:∀ k,own k≠.obj b->own' k=own k:=fun k hk=>by
  have:k ∉ fs b:=fun hm=>hk (eG k hm)
  simp only [own',if_neg this]
 refine ⟨F',own',fp,fun q=>if q=b then [] else fs q,{ below:=hd.below,hB:=hd.hB,tb:=hd.tb,f0:=fun b hb=>.inl (hd.f0 b hb),fl:=?_,ol:=?_,defers:=hd.defers,size:=hd.size,slots:=?_,sn:=hd.sn,so:=?_,obj:=?_ }⟩
 ·rintro k (hk|hk)
  ·have:=hd.fl k hk
   exact ⟨by simp only [own'];split<;>simp [this.1],this.2⟩
  ·have:=hd.ol k (by rw [eG k hk];simp)
   exact ⟨by simp only [own',if_pos hk],this.2,.inr this.1⟩
 ·intro k hk
  simp only [own'] at hk
  split at hk
  ·exact absurd rfl hk
  ·exact hd.ol k hk
 ·intro j
  exact Rep.ext hid (fun b hb=>⟨.inl hb,trivial⟩) (fun _ _=>trivial) (hd.slots j)
 ·intro j k hk
  have:=hd.so j k hk
  rw [hnot k (by rw [this];simp)];exact this
 ·intro q cs hq
  rcases rH hO q cs hq with ⟨rfl,rfl⟩|⟨hne,hq⟩
  ·simp only [if_true]
   refine ⟨by rw [hnot q (by rw [hkey];simp)];exact hkey,by simp,by simp,c0,Ty0,lR,NV,hc0,um,aj.frz (fun k hk=>.inl hk) (fun k hk=>.inr hk) hl0⟩
  ·obtain ⟨g1,g2,g3,c,Ty,vals,rst,g4,g5,g6⟩:=hd.obj q cs hq
   simp only [if_neg hne]
   refine ⟨by rw [hnot q (by rw [g1];simp)];exact g1,g2,fun k hk=>by rw [hnot k (by rw [g3 k hk];simpa using hne)];exact g3 k hk,c,Ty,vals,rst,g4,g5,?_⟩
   exact aj.ext hid (fun b hb=>⟨.inl hb,trivial⟩) (fun _ _=>trivial) g6
end
end Go.Ab
