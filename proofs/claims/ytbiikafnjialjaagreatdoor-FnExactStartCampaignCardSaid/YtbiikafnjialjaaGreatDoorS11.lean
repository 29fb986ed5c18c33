/- Part of a proof. -/
import Derived.Test.YtbiikafnjialjaaGreatDoorS3
set_option linter.all false
open List
namespace Go.Ab
open Go.RowKit (Below)
def InC.FV{L:gaa}{P:Program}{f:FuncId}{sz:Nat}{l rest:List AV}{res:AV}{l':List AV}(he:enters P f=true)(hb:H0 L P f sz l rest res l')(hr:res.du=true)(hn:AV.nownL rest=true):InC L P f false [.sl true sz l] [.sl true sz l'] rest res:=by
 refine⟨rfl,λ_=>rfl,?_⟩;intro B F own w vs rs fp hS hx hnd ho hrest;simp only[au]at hx;obtain⟨y,vs',f1,f2,rfl,rfl,hy,rfl,rfl⟩:=hx;rw[append_nil]at hnd ho;have hlen:=hrest.len
 let m:=rest.length
 let t:faa:=qj 0 (.sl true sz l::rest)
 let a:Act:=⟨(y::rs++[undef]).toArray,[]⟩
 let xs:List Operand:=(List.range rest.length).map λi=>.tmp (i+1)
 have hT0:T t 0=.sl true sz l:=by simp[t,qj,T]
 have hxs:xs.map (ev t)=rest:=by
  apply ext_getElem?;intro i;simp only[xs,map_map,getElem?_map];by_cases hi:i<rest.length
  ·rw[getElem?_range hi];simp[ev,t,Cg,getElem?_eq_getElem hi]
  ·rw[getElem?_eq_none (by simp;omega),getElem?_eq_none Um];rfl
 have hxe:xs.map a.eval=rs:=by
  apply ext_getElem?;intro i;simp only[xs,map_map,getElem?_map];by_cases hi:i<rest.length
  ·rw[getElem?_range hi];have hi':i<rs.length:=by omega
   simp[Act.eval,a,getElem?_append_left hi',getElem?_eq_getElem hi',Array.getD_eq_getD_getElem?]
  ·rw[getElem?_eq_none (by simp;omega),getElem?_eq_none Um];rfl
 let o:Oper:={ dst:=some (rest.length+1),op:=.call ⟨.value (.func f),(.tmp 0::xs).toArray,#[]⟩,type:=0,pos := "",guard:=none,after:=#[] }
 have cH:Den L B F w ⟨rest.length+2,t,[]⟩ a w:=by
  refine⟨F,own,λi=>if i=0 then f1 else [],λ_=>[],{ below:=Kp.refl _ _,hB:=hS.hB,tb:=hS.tb,f0:=λ_ h=>h,fl:=λb hb=>⟨(hS.fl b hb).1,(hS.fl b hb).2.1,.inl hb⟩,ol:=hS.ol,defers:=rfl,size:=by simp[a];omega,slots:=?_,sn:=?_,so:=?_,obj:=by simp[O] }⟩
  ·intro i;simp only[t,Cg,Nat.zero_le,if_true,Nat.sub_zero]
   match i with
   | 0=>simpa[a,Array.getD_eq_getD_getElem?]using hy
   | i+1 =>
    simp only[getElem?_cons_succ];by_cases hi:i<rest.length
    ·have hi':i<rs.length:=by omega
     rw[getElem?_eq_getElem hi];obtain⟨y',f',h1,h2,h3⟩:=hrest.get (getElem?_eq_getElem hi);have e:f'=[]:=List.eq_nil_iff_forall_not_mem.2 λb hb=>by simpa using h3 b hb
     subst e
     have:a.tmps.getD (i+1) undef=y':=by
      simp[a,Array.getD_eq_getD_getElem?,getElem?_append_left hi',h1]
     rw[this];simpa using h2
    ·rw[getElem?_eq_none Um];simp[Rep]
  ·intro i;split
   ·exact hnd
   ·simp
  ·intro i b hb;split at hb
   ·rename_i e;subst e;exact ho b hb
   ·simp at hb
 have hop:=tP (L:=L) (P:=P) (o:=o) (n:=rest.length+2) (t:=t) (os:=[]) (y:=.func f) (i:=0) (xs:=xs) (ts:=#[]) (f:=f) (caps:=[]) (sz:=sz) (l:=l) (l':=l') (res:=res)
  (K:=λt' o'=>t'=put ((0,.sl true sz l')::t) (some (rest.length+1)) res) rfl (by simp[o,dn]) rfl rfl hT0 he (by rw[hxs,append_nil];exact hn) (by rw[hxs,append_nil];exact hb) rfl
 have hw:=hop B F w a w (λa' w'=>∃s':AS,(s'.n=rest.length+2/\s'.t=put ((0,.sl true sz l')::t) (some (rest.length+1)) res)/\Den L B F w s' a' w') (λ_ _ _=>False) cH (λs' a' w' hK hD=>⟨s',hK,hD⟩)
 have hex:(execOp a.eval o).run P w=.ok (.enter f (y::rs).toArray) w:=by
  obtain⟨F',own',fp',fs',hD⟩:=cH;obtain⟨cvs,hc,hex⟩:=oM (P:=P) (f:=f) (o:=o) (y:=.func f) (xs:=(.tmp 0::xs).toArray) (ts:=#[]) (caps:=[]) hD rfl rfl rfl he;simp only[au]at hc;obtain⟨rfl,_⟩:=hc;rw[hex];simp only[toList_toArray,map_cons,hxe,append_nil]
  congr 3
 unfold Oper.wp at hw;rw[hex]at hw;simp only[Oper.upon_enter]at hw;refine hw.mono ?_;intro e w' h
 cases e with
 | panicked c=>exact h.elim
 | outgrown=>obtain⟨_,_,h⟩:=h;exact h.elim
 | returned v =>
  obtain⟨s',⟨hsn,hst⟩,F',own',fp',fs',hD⟩:=h;have h0:=hD.slots 0
  have h1:=hD.slots (rest.length+1)
  have hsz:dn a.tmps.size o.dst=true:=by simp[o,dn,a];omega
  rw[hst,jE a _ v _ hsz]at h0 h1;simp only[o,mG,gA,if_true,Option.some.injEq,Nat.add_eq_zero_iff,Nat.succ_ne_self,and_false,if_false]at h0 h1;have e0:a.tmps.getD 0 undef=y:=by simp[a,Array.getD_eq_getD_getElem?]
  rw[e0]at h0;rw[Rep.eK hr h1]at h1;refine⟨v,F',own',fp' 0,rfl,{ below:=hD.below,hB:=hD.hB,tb:=hD.tb,f0:=hD.f0,fl:=hD.fl,ol:=hD.ol,obj:=by simp[O] },h1,?_,hD.sn 0,hD.so 0⟩;simp only[au];exact⟨y,[],fp' 0,[],rfl,Xp,h0,rfl,rfl⟩
theorem sj.FV{L:gaa}{P:Program}{f:FuncId}{sz:Nat}{l rest:List AV}{res:AV}{l':List AV}{pre:Prop}(h:fI L P f sz l rest res l' pre)(hr:res.du=true)(hn:AV.nownL rest=true):sj L P f false [.sl true sz l] rest res [.sl true sz l'] pre :=
 ⟨h.en,λhp=>InC.FV h.en (h.out hp) hr hn⟩
instance{L:gaa}{P:Program}{f:FuncId}{sz:Nat}{l:List AV}{k z:Value}{l':List AV}{pre:Prop}[h:fI L P f sz l [.v k] (.v z) l' pre]:sj L P f false [.sl true sz l] [.v k] (.v z) [.sl true sz l'] pre :=
 sj.FV h rfl rfl
def AV.vg(u:Value):AV->AV
 | .sl true sz l=>.pin u (.sl true sz l)
 | .slo sz l=>.pin u (.slo sz l)
 | x=>x
def jO(hs:Nat->Value):Nat->List AV->List AV
 | _,[]=>[]
 | j,x::xs=>x.vg (hs j)::jO hs (j+1) xs
section
variable {L : Nat -> Nat} {F : Nat -> Prop} {w : World}
def Rep.vg{x:AV}{y:Value}{fp:List Nat}(h:Rep L F w x y fp):Rep L F w (x.vg y) y fp:=by
 unfold AV.vg;split
 ·simp only[Rep]at h ⊢;exact⟨by trivial,h⟩
 ·simp only[Rep]at h ⊢;exact⟨by trivial,h⟩
 ·exact h
def au.jO{hs:Nat->Value}:∀ {l:List AV} {vs:List Value} {fp:List Nat} {j:Nat},au L F w l vs fp->(∀k y,vs[k]? = some y->hs (j+k)=y)->au L F w (jO hs j l) vs fp
 | [],_,_,_,h,_=>h
 | x::xs,vs,fp,j,h,hh=>by
  simp only[au,Ab.jO]at h ⊢;obtain⟨y,vs',f1,f2,rfl,hf,hx,hxs⟩:=h;have e:=hh 0 y Xp;rw[Nat.add_zero]at e;refine⟨y,vs',f1,f2,rfl,hf,by rw[e];exact hx.vg,au.jO hxs λk y' hk=>?_⟩;have:=hh (k+1) y' (by simpa using hk);rw[Nat.add_assoc,Nat.add_comm 1 k];exact this
end
section
variable {L : Nat -> Nat} {n : Nat} {t : List (Nat × AV)} {o : Sto} {Q : AS -> Prop}
def Imp.yh{b:Nat}{pre e post:List AV}(hO:O o b=some (pre++(e++post)))
  (h:∀vs:List Value,∃e',Q ⟨n,t,ic o b (some (pre++(e'++post)))⟩/\∀(F:haa) (w:World) (f:List Nat),au L F w e vs f->au L F w e' vs f):Imp L ⟨n,t,o⟩ Q:=by
 intro B F0 w0 a w hd;obtain⟨F,own,fp,fs,hd⟩:=hd;obtain⟨hkey,kH,fP,c,Ty,vals,rst,hc,hcl,hl⟩:=hd.obj b _ hO;obtain⟨v1,v23,f1,f23,rfl,hfs,r1,r23⟩:=hl.split;obtain⟨vs,v3,fx,f3,rfl,rfl,r2,r3⟩:=r23.split;obtain⟨e',hQ,hr⟩:=h vs;refine⟨_,hQ,F,own,fp,fs,{ hd with obj:=?_ }⟩;intro q cs hq;rcases uO hO q cs hq with⟨rfl,rfl⟩|⟨hne,hq⟩
 ·refine⟨hkey,kH,fP,c,Ty,_,rst,hc,hcl,?_⟩;rw[hfs];exact r1.join ((hr F w fx r2).join r3)
 ·exact hd.obj q cs hq
def Imp.rI{b:Nat}(pre e post:List AV)(hO:O o b=some (pre++(e++post)))(h:∀hs,Q ⟨n,t,ic o b (some (pre++(jO hs 0 e++post)))⟩):Imp L ⟨n,t,o⟩ Q :=
 Imp.yh hO λvs=>⟨jO (λk=>(vs[k]?).getD undef) 0 e,h _,λF w f r=>au.jO r λk y hk=>by simp[hk]⟩
def Imp.rz{b:Nat}(pre e post:List AV)(hO:O o b=some (pre++(e++post)))(h:Q ⟨n,t,ic o b (some (pre++(iW e++post)))⟩):Imp L ⟨n,t,o⟩ Q :=
 Imp.yh hO λvs=>⟨iW e,h,λF w f r=>r.unp⟩
end
def EndsG.inp{L:gaa}{P:Program}{n:Nat}{fn:Func}{t:faa}{o:Sto}{rs:List ResultVar}{res:AV}{px:List AV}(b:Nat)(hr:fn.results=rs.toArray)(h:qo P n rs t o [] (λxs os=>rJ xs=res/\O os b=some px)):EndsG L P fn ⟨n,t,o⟩ (λr os'=>r=res/\∃b,os'=[(b,some px)]):=by have h2:EndsG L P fn ⟨n,t,o⟩ (λr os=>r=res/\O os b=some px):=EndsG.res hr h;intro B F0 w0 a w hd;obtain⟨v,FA,os',F',own',fs',fp,h3,⟨rfl,h4⟩,h5,h6,h7,h8⟩:=h2 B F0 w0 a w hd;exact⟨v,FA,[(b,some px)],F',own',fs',fp,h3,⟨rfl,b,rfl⟩,h5.sub (by simp only[jM];exact⟨h4,trivial⟩),h6,h7,h8⟩
def InC.fX{L:gaa}{P:Program}{f:FuncId}{fn:Func}{c:Code}{x x' rest:List AV}{res:AV}(hf:P.funcs[f]? = some fn)(hb:fn.body=some c)(hn:Nat.ble (rest.length+1) fn.ntmps=true)(hr:res.du=true)
  (hh:∀hs,gu (jO hs 0 x')=gu (jO hs 0 x)) (hdt:∀hs,o6 (gu (jO hs 0 x))=true) (hun:∀hs,iW (jO hs 0 x')=x') (hlen:x'.length=x.length)
  (h:∀hs:Nat->Value,AW L P c ⟨fn.ntmps,qj 0 (.agg (jO hs 0 x)::rest),[]⟩ (finG L P fn (λr os'=>r=res/\∃b,os'=[(b,some (jO hs 0 x'))]))):InC L P f true x x' rest res:=by
 refine⟨hlen,λe=>by simp at e,?_⟩;intro B F own w vs rs fp hS hx hnd ho hrest;have hl:=hrest.len
 have hn':rest.length+1<=fn.ntmps:=by simpa using hn
 let hs:Nat->Value:=λk=>(vs[k]?).getD undef
 have CZ:au L F w (jO hs 0 x) vs fp:=au.jO hx λk y hk=>by simp[hs,hk]
 refine calls_of_wp hf hb (wp_mono (h hs B F w _ w ?_) ?_)
 ·refine⟨F,own,λi=>if i=0 then fp else [],λ_=>[],{ hS with defers:=rfl,size:=by simp;omega,slots:=?_,sn:=?_,so:=?_,obj:=by simp[O] }⟩
  ·intro i;simp only[Cg,Nat.zero_le,if_true,Nat.sub_zero]
   match i with
   | 0 =>
    simp only[getElem?_cons_zero,Option.getD_some,if_true]
    have e:((mkv true vs::rs).toArray++Array.replicate (fn.ntmps - (mkv true vs::rs).toArray.size) undef).getD 0 undef=mkv true vs:=by
     rw[Array.getD_eq_getD_getElem?,Array.getElem?_append_left Xp];simp
    rw[e];simp only[Rep];exact⟨vs,rfl,CZ⟩
   | i+1 =>
    simp only[getElem?_cons_succ];by_cases hi:i<rest.length
    ·rw[getElem?_eq_getElem hi];obtain⟨y',f',h1,h2,h3⟩:=hrest.get (getElem?_eq_getElem hi);have e:f'=[]:=List.eq_nil_iff_forall_not_mem.2 λb hb=>by simpa using h3 b hb
     subst e
     have:((mkv true vs::rs).toArray++Array.replicate (fn.ntmps - (mkv true vs::rs).toArray.size) undef).getD (i+1) undef=y':=by
      rw[Array.getD_eq_getD_getElem?,Array.getElem?_append_left (by simp;omega)];simp[h1]
     rw[this];simpa using h2
    ·rw[getElem?_eq_none Um];simp[Rep]
  ·intro i;split
   ·exact hnd
   ·simp
  ·intro i b hb;split at hb
   ·rename_i e;subst e;exact ho b hb
   ·simp at hb
 ·rintro e a' w' ⟨s',h1,h2⟩
  have key:EndsG L P fn s' (λr os'=>r=res/\∃b,os'=[(b,some (jO hs 0 x'))])->a'.defers=[]/\∃v,(results fn a'.tmps).run P w'=.ok v w'/\∃v' F' own' fp',Ending.returned v=.returned v'/\nH L B F w F' own' (λ_=>[]) [] w'/\Rep L F' w' res v' []/\au L F' w' x' vs fp'/\fp'.Nodup/\(∀b,b∈fp'->own' b=.slot 0):=by
   intro he;obtain⟨v,r,os',F',own',fs',fp',h3,⟨rfl,b,rfl⟩,h5,h6,h7,h8⟩:=he _ _ _ _ _ h2;obtain⟨G,mA,fp2,fs2,hd⟩:=h2;rw[Rep.eK hr h6]at h6;obtain⟨hkey,kH,fP,cc,Ty,vals,rst,hc,hcl,ig⟩:=h5.obj b (jO hs 0 x') (by simp[O])
   have vG:vals=vs:=by
    obtain⟨f2,hf2⟩:=ig.P3;rw[hh hs]at hf2;exact au.Aq (hdt hs) CZ hf2
   subst vG;have hx2:=ig.unp;rw[hun hs]at hx2
   classical
   refine⟨hd.defers,v,h3,v,F',λk=>if k∈fs' b then .slot 0 else .none,fs' b,rfl,{ below:=h5.below,hB:=h5.hB,tb:=h5.tb,f0:=h5.f0,fl:=λk hk=>⟨?_,(h5.fl k hk).2⟩,ol:=λk hk=>?_,obj:=by simp[O] },h6,hx2,kH,λk hk=>by simp[hk]⟩
   ·have:k ∉ fs' b:=λhm=>by have:=(h5.fl k hk).1;rw[fP k hm]at this;cases this
    simp[this]
   ·by_cases e:k∈fs' b
    ·exact h5.ol k (by rw[fP k e];simp)
    ·simp[e]at hk
  cases e with
  | ret=>exact key h1
  | normal=>exact key h1
  | exit _=>exact h1.elim
  | goto _=>exact h1.elim
  | panic _=>exact h1.elim
  | outgrown=>exact h1.elim
section
variable {L : Nat -> Nat} {n : Nat} {t : List (Nat × AV)} {o : Sto} {Q : AS -> Prop}
def Imp.j9{b:Nat}(sz:Nat)(pre post:List AV)(hO:O o b=some (pre++([.v (.slice none 0 0)]++post)))(h:Q ⟨n,t,ic o b (some (pre++([.sl false sz []]++post)))⟩):Imp L ⟨n,t,o⟩ Q :=
 Imp.yh hO λvs=>⟨[.sl false sz []],h,λF w f r=>by
  simp only[au]at r ⊢;obtain⟨y,vs',f1,f2,rfl,rfl,hy,rfl,rfl⟩:=r;simp only[Rep]at hy;obtain⟨rfl,rfl⟩:=hy;refine⟨_,[],[],[],rfl,rfl,?_,rfl,rfl⟩;simp only[Rep]
  exact .inl ⟨.inl trivial,by trivial,by trivial⟩⟩
def Imp.nA{b:Nat}(sz:Nat)(pre post:List AV)(hO:O o b=some (pre++([.v (.slice none 0 0)]++post)))(h:Q ⟨n,t,ic o b (some (pre++([.sl true sz []]++post)))⟩):Imp L ⟨n,t,o⟩ Q :=
 Imp.yh hO λvs=>⟨[.sl true sz []],h,λF w f r=>by
  simp only[au]at r ⊢;obtain⟨y,vs',f1,f2,rfl,rfl,hy,rfl,rfl⟩:=r;simp only[Rep]at hy;obtain⟨rfl,rfl⟩:=hy;refine⟨_,[],[],[],rfl,rfl,?_,rfl,rfl⟩;simp only[Rep]
  exact .inl ⟨.inl trivial,by trivial,by trivial⟩⟩
def Imp.fQ{b:Nat}{cells:List AV}(hO:O o b=some cells)(h:Q ⟨n,t,ic o b (some (AV.cl cells))⟩):Imp L ⟨n,t,o⟩ Q:=by
 intro B F0 w0 a w hd;refine⟨_,h,?_⟩;obtain⟨F,own,fp,fs,hd⟩:=hd;obtain⟨hkey,kH,fP,c0,Ty0,nS,U9,hc0,vJ,hl0⟩:=hd.obj b _ hO
 classical
 let F':Nat->Prop:=λk=>F k\/k∈fs b
 let own':Nat->Own:=λk=>if k∈fs b then .none else own k
 have hid:Ext (λ_=>True) w w:=⟨Nat.le_refl _,λ_ _=>rfl,λb c T z hc=>⟨c,hc,rfl⟩⟩
 have hnot:∀k,own k≠.obj b->own' k=own k:=λk hk=>by
  have:k ∉ fs b:=λhm=>hk (fP k hm);simp only[own',if_neg this]
 refine⟨F',own',fp,λq=>if q=b then [] else fs q,{ below:=hd.below,hB:=hd.hB,tb:=hd.tb,f0:=λb hb=>.inl (hd.f0 b hb),fl:=?_,ol:=?_,defers:=hd.defers,size:=hd.size,slots:=?_,sn:=hd.sn,so:=?_,obj:=?_ }⟩
 ·rintro k (hk|hk)
  ·have:=hd.fl k hk;exact⟨by simp only[own'];split<;>simp[this.1],this.2⟩
  ·have:=hd.ol k (by rw[fP k hk];simp);exact⟨by simp only[own',if_pos hk],this.2,.inr this.1⟩
 ·intro k hk;simp only[own']at hk;split at hk
  ·exact absurd rfl hk
  ·exact hd.ol k hk
 ·intro j;exact Rep.ext hid (λb hb=>⟨.inl hb,trivial⟩) (λ_ _=>trivial) (hd.slots j)
 ·intro j k hk;have:=hd.so j k hk;rw[hnot k (by rw[this];simp)];exact this
 ·intro q cs hq;rcases uO hO q cs hq with⟨rfl,rfl⟩|⟨hne,hq⟩
  ·simp only[if_true];refine⟨by rw[hnot q (by rw[hkey];simp)];exact hkey,Xp,Xp,c0,Ty0,nS,U9,hc0,vJ,au.frz (λk hk=>.inl hk) (λk hk=>.inr hk) hl0⟩
  ·obtain⟨g1,g2,g3,c,Ty,vals,rst,g4,g5,g6⟩:=hd.obj q cs hq;simp only[if_neg hne];refine⟨by rw[hnot q (by rw[g1];simp)];exact g1,g2,λk hk=>by rw[hnot k (by rw[g3 k hk];simpa using hne)];exact g3 k hk,c,Ty,vals,rst,g4,g5,?_⟩;exact au.ext hid (λb hb=>⟨.inl hb,trivial⟩) (λ_ _=>trivial) g6
