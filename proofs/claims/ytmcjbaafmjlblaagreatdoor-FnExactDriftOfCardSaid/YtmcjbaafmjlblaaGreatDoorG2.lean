/-
  Part of a proof: AbSet2, AbN5, AbG, AbY, AbU.
-/
import Derived.KernelRfl
import Derived.Test.YtmcjbaafmjlblaaGreatDoorG1
set_option linter.unusedSimpArgs false
set_option linter.unusedVariables false
namespace Go.Ab
open Go.RowKit (Below)
def subO:Sto→Sto→Prop
 | [],_=>True
 | (b,some c)::o',o=>O o b=some c∧subO o' o
 | (_,none)::o',o=>subO o' o
theorem subO_O{o:Sto}:∀ {o':Sto} {b:Nat} {c:List AV},subO o' o→O o' b=some c→O o b=some c
 | [],_,_,_,h=>by simp [O] at h
 | (b',none)::o',b,c,hs,h=>by
  simp only [subO] at hs
  by_cases e:b'=b
  ·simp [O,e] at h
  ·simp only [O,if_neg e] at h;exact subO_O hs h
 | (b',some c')::o',b,c,hs,h=>by
  simp only [subO] at hs
  by_cases e:b'=b
  ·subst e
   simp [O] at h
   subst h;exact hs.1
  ·simp only [O,if_neg e] at h;exact subO_O hs.2 h
theorem StoAt.sub{L:Nat→Nat}{B F0:Nat→Prop}{w0:World}{F:Nat→Prop}{own:Nat→Own}{fs:Nat→List Nat}{o o':Sto}{w:World}(h:StoAt L B F0 w0 F own fs o w)(hs:subO o' o):StoAt L B F0 w0 F own fs o' w :=
 { h with obj:=fun b cells hb=>h.obj b cells (subO_O hs hb) }
theorem EndsG.fin{L:Nat→Nat}{P:Program}{n:Nat}{fn:Func}{t:List (Nat×AV)}{o o':Sto}{rs:List ResultVar}{res:AV}(hr:fn.results=rs.toArray)(h:resW P n rs t o [] (fun xs os=>oneA xs=res∧subO o' os)):EndsG L P fn ⟨n,t,o⟩ (fun r os'=>r=res∧os'=o'):=by
 have h2:EndsG L P fn ⟨n,t,o⟩ (fun r os=>r=res∧subO o' os):=EndsG.res hr h
 intro B F0 w0 a w hd
 obtain ⟨v,res',os',F',own',fs',fp,h3,⟨rfl,h4⟩,h5,h6,h7,h8⟩:=h2 B F0 w0 a w hd
 exact ⟨v,res',o',F',own',fs',fp,h3,⟨rfl,rfl⟩,h5.sub h4,h6,h7,h8⟩
theorem Ctr.of_body{L:Nat→Nat}{P:Program}{f:FuncId}{fn:Func}{c:Code}{os:Sto}{args:List AV}{res:AV}{cs:List (Option (List AV))}{pre:Prop}(he:enters P f=true)(hf:P.funcs[f]? = some fn)(hb:fn.body=some c)(hn:Nat.ble args.length fn.ntmps=true)
  (h:pre→AW L P c ⟨fn.ntmps,zipT 0 args,os⟩ (finG L P fn (fun r os'=>r=res∧os'=zipK os cs))):Ctr L P f os args res cs pre :=
 ⟨he,fun hp=>GenC.of_body hf hb hn (h hp)⟩
def AV.facts(L:Nat→Nat):AV→Prop
 | .str l=>l.length≤4611686018427387904
 | .sl _ sz l=>l.length≤L sz
 | .agg l=>AV.factsL L l
 | .vp l=>AV.factsL L l
 | _=>True
where AV.factsL (L:Nat→Nat):List AV→Prop
 | []=>True
 | x::xs=>AV.facts L x∧AV.factsL L xs
mutual
theorem Rep.facts{L:Nat→Nat}{F:Nat→Prop}{w:World}:∀ {x:AV} {y:Value} {fp:List Nat},Rep L F w x y fp→x.facts L
 | .str l,_,_,r=>by simp only [Rep] at r;simpa [AV.facts] using r.2.1
 | .sl own sz l,y,fp,r=>by
  simp only [Rep] at r
  simp only [AV.facts]
  rcases r with ⟨_,rfl,_⟩|⟨b,off,cap,vals,fp',_,_,h2,_⟩
  ·simp
  ·exact h2
 | .agg l,y,fp,r=>by
  simp only [Rep] at r
  obtain ⟨vs,_,hl⟩:=r
  simp only [AV.facts];exact RepL.facts hl
 | .vp l,y,fp,r=>by
  simp only [Rep] at r
  obtain ⟨_,b,off,vals,_,_,_,hl⟩:=r
  simp only [AV.facts];exact RepL.facts hl
 | .dead,_,_,_=>by simp [AV.facts]
 | .v _,_,_,_=>by simp [AV.facts]
 | .arr ..,_,_,_=>by simp [AV.facts]
 | .ptr ..,_,_,_=>by simp [AV.facts]
 | .tup _,_,_,_=>by simp [AV.facts]
 | .fn ..,_,_,_=>by simp [AV.facts]
 | .cnd ..,_,_,_=>by simp [AV.facts]
 | .pin ..,_,_,_=>by simp [AV.facts]
theorem RepL.facts{L:Nat→Nat}{F:Nat→Prop}{w:World}:∀ {l:List AV} {vs:List Value} {fp:List Nat},RepL L F w l vs fp→AV.facts.AV.factsL L l
 | [],_,_,_=>by simp [AV.facts.AV.factsL]
 | x::xs,vs,fp,r=>by
  simp only [RepL] at r
  obtain ⟨y,vs',f1,f2,_,_,hx,hxs⟩:=r
  simp only [AV.facts.AV.factsL];exact ⟨Rep.facts hx,RepL.facts hxs⟩
end
section
variable {L : Nat → Nat} {P : Program} {n : Nat} {t : List (Nat × AV)} {o : Sto} {Q : Exit → AS → Prop}
theorem AW.fact{c:Code}(i:Nat)(h:(T t i).facts L→AW L P c ⟨n,t,o⟩ Q):AW L P c ⟨n,t,o⟩ Q:=by
 intro B F0 w0 a w hd
 refine h ?_ B F0 w0 a w hd
 obtain ⟨F,ow,fp,fs,h⟩:=hd
 exact (h.slots i).facts
theorem AW.factE{c:Code}(i:Nat){own:Bool}{sz:Nat}{l:List AV}{x:AV}(hi:T t i=.sl own sz l)(hx:x∈l)(h:x.facts L→AW L P c ⟨n,t,o⟩ Q):AW L P c ⟨n,t,o⟩ Q:=by
 intro B F0 w0 a w hd
 refine h ?_ B F0 w0 a w hd
 obtain ⟨F,ow,fp,fs,h⟩:=hd
 have hr:=h.slots i
 simp only at hr
 rw [hi] at hr
 simp only [Rep] at hr
 rcases hr with ⟨_,rfl,_⟩|⟨b,off,cap,vals,fp',_,_,_,_,he,_⟩
 ·simp at hx
 ·obtain ⟨k,hk,e⟩:=List.getElem_of_mem hx
  obtain ⟨y,f,_,_,hr,_⟩:=he.get (i:=k) (x:=x) (by rw [List.getElem?_eq_getElem hk,e])
  exact hr.facts
theorem AW.loopV{c:Code}(ks live:List Nat)(I:Nat→List AV→Sto→Prop)(m:Nat)(o0:Sto)(ho:subO o0 o)(h0:I m (ks.map (T t)) o0)
  (round:∀ m xs o',I m xs o'→AW L P c ⟨n,ks.zip xs++keepT t live,o'⟩ (thenQ (fun s'=>s'.n=n∧∃ m' xs' o'',m'<m∧I m' xs' o''∧keepT s'.t (ks++live)=ks.zip xs'++keepT t live∧subO o'' s'.o) Q)):AW L P (.loop c) ⟨n,t,o⟩ Q:=by
 have key:ks.zip (ks.map (T t))++keepT t live=keepT t (ks++live):=by
  simp only [keepT,List.map_append]
  congr 1
  clear round h0
  induction ks with
  | nil=>rfl
  | cons k ks ih=>simp [ih]
 refine AW.loopO (ks++live) (fun m t' o'=>∃ xs,I m xs o'∧t'=ks.zip xs++keepT t live) m o0 (fun b cells h=>subO_O ho h) ⟨_,h0,key.symm⟩ ?_
 rintro m t' o' ⟨xs,hI,rfl⟩
 refine (round m xs o' hI).mono ?_
 intro e s' h
 cases e with
 | normal =>
  obtain ⟨hn,m',xs',o'',hm,hI',ht,hs⟩:=h
  exact ⟨hn,m',o'',hm,⟨xs',hI',ht⟩,fun b cells h=>subO_O hs h⟩
 | _=>exact h
end
theorem CallP.ctr{L:Nat→Nat}{P:Program}{os:Sto}{la:List AV}{G:Bool}{f:FuncId}{args:List AV}{K:AV→Prop}{res:AV}{cs:List (Option (List AV))}{pre:Prop}[h:Ctr L P f [] args res cs pre](hn:AV.nownL args=true)(hp:G=true→pre)(hK:K res):CallP L P os la G f args (K:=⟨K⟩) :=
 ⟨res,fun hg=>CallOK.pure h.en hn (h.pure (hp hg)),hK⟩
theorem wrap_u8{x:Int}(h1:0≤x)(h2:x≤255):IntKind.u8.wrap x=x:=by
 rw [IntKind.wrap_u8];omega
theorem cops_value(f:Operand)(args:Array Operand)(ts:Array TypeId):(Call.operands ⟨.value f,args,ts⟩).toList=f::args.toList:=by simp [Call.operands]
theorem cops_builtin(b:Builtin)(args:Array Operand)(ts:Array TypeId):(Call.operands ⟨.builtin b,args,ts⟩).toList=args.toList:=by simp [Call.operands]
theorem at8_le(s:List UInt8)(n:Int):at8 s n≤255:=by unfold at8;have:=((s[n.toNat]?).getD 0).toNat_lt;omega
theorem at8_ge(s:List UInt8)(n:Int):0≤at8 s n:=by unfold at8;omega
theorem wrap_at8(s:List UInt8)(n:Int):IntKind.i64.wrap (at8 s n)=at8 s n:=by have:=at8_le s n;have:=at8_ge s n;exact wrap_i64 (by omega) (by omega)
theorem thenQ.n{next:AS→Prop}{Q:Exit→AS→Prop}{s:AS}(h:next s):thenQ next Q .normal s:=h
theorem thenQ.e{next:AS→Prop}{Q:Exit→AS→Prop}{s:AS}{id:Nat}(h:Q (.exit id) s):thenQ next Q (.exit id) s:=h
theorem thenQ.r{next:AS→Prop}{Q:Exit→AS→Prop}{s:AS}(h:Q .ret s):thenQ next Q .ret s:=h
theorem blockQ.n{i:Nat}{Q:Exit→AS→Prop}{s:AS}(h:Q .normal s):blockQ i Q .normal s:=h
theorem blockQ.r{i:Nat}{Q:Exit→AS→Prop}{s:AS}(h:Q .ret s):blockQ i Q .ret s:=h
theorem blockQ.eq{i:Nat}{Q:Exit→AS→Prop}{s:AS}(h:Q .normal s):blockQ i Q (.exit i) s:=by simp only [blockQ,if_true];exact h
theorem blockQ.ne{i j:Nat}{Q:Exit→AS→Prop}{s:AS}(hne:Nat.beq j i=false)(h:Q (.exit j) s):blockQ i Q (.exit j) s:=by
 have:¬ j=i:=fun e=>by rw [e,Nat.beq_refl] at hne;cases hne
 simp only [blockQ,if_neg this];exact h
theorem at8_nat(s:List UInt8)(j:Nat):at8 s (j:Int)=((at_ s j).toNat:Int):=rfl
theorem map_all_elem{α:Type}{f:α→AV}{sz:Nat}(h:∀ x,(f x).elem sz=true)(l:List α):(l.map f).all (AV.elem sz)=true:=by
 simp only [List.all_map,List.all_eq_true];intro x _;exact h x
theorem str_all(l:List (List UInt8)):(l.map AV.str).all (AV.elem 1)=true:=map_all_elem (fun _=>rfl) l
theorem map_all_one{α:Type}{f:α→AV}(h:∀ x,(f x).cells.all AV.one=true)(l:List α):((l.map f).flatMap AV.cells).all AV.one=true:=by
 simp only [List.all_flatMap,List.all_map,List.all_eq_true];intro x _;exact h x
theorem str_one(l:List (List UInt8)):((l.map AV.str).flatMap AV.cells).all AV.one=true:=map_all_one (fun _=>rfl) l
theorem byte_all(l:List UInt8):(bytesA l).all (AV.elem 1)=true:=map_all_elem (fun _=>rfl) l
theorem byte_one(l:List UInt8):((bytesA l).flatMap AV.cells).all AV.one=true:=map_all_one (fun _=>rfl) l
theorem byte_len(l:List UInt8):(bytesA l).length=l.length:=by simp [bytesA]
theorem cast1(k:Nat):(k:Int)+1=((k+1:Nat):Int):=by omega
theorem castS{k:Nat}(h:1≤k):(k:Int) - 1=((k - 1:Nat):Int):=by omega
theorem castA(a b:Nat):(a:Int)+(b:Int)=((a+b:Nat):Int):=by omega
theorem castB{a b:Nat}(h:b≤a):(a:Int) - (b:Int)=((a - b:Nat):Int):=by omega
theorem finG.n{L:Nat→Nat}{P:Program}{fn:Func}{Q:AV→Sto→Prop}{s:AS}(h:EndsG L P fn s Q):finG L P fn Q .normal s:=h
theorem subO_one{b:Nat}{c c':List AV}{o:Sto}(h:c=c'):subO [(b,some c)] ((b,some c')::o):=by subst h;exact ⟨O_eq _ _ _,trivial⟩
theorem Gd.intro{c:Bool}{p:Prop}(h:c=true→p):Gd c (p:=⟨p⟩):=h
attribute [go_sem] copVc srcC_sl frzT memN Nat.zero_mul Nat.zero_le if_false Nat.mul_one AV.isDead AV.isSkp skpK AV.cpy AV.hdr hdrL AV.pind unpL AV.unp repinL AV.repin detL AV.det argv wrap_at8 borOf List.tail_cons List.tail_nil str_all str_one byte_all byte_one byte_len unb_bytes cast1 castS castA castB Int.ofNat_inj List.all_append Nat.add_sub_cancel S okcK evK stS stO memN cops_value cops_builtin Wn stp nvc bxN alF sbs alDel alOp appVc srcE neTmp zlen apW Option.isNone_none Option.isNone_some isE AV.dd deadL AV.unc uncT GdT GdF pickO cellsK reachO AV.keys AV.keysL updO_eq updO_ne O_ne mergeO zipK nfO rmO_eq rmO_ne rmO_nil resW oneA subO List.isEmpty_nil List.isEmpty_cons Nat.beq List.zip_cons_cons List.zip_nil_left List.set_cons_zero List.set_cons_succ List.replicate_succ List.replicate_zero Bool.false_and Bool.and_false Bool.or_false Bool.or_true Bool.false_or Bool.true_or Bool.not_not Bool.or_self List.range'_succ List.range'_zero AV.facts AV.facts.AV.factsL wrap_i64 wrap_u8 List.length_append Option.map_none Nat.reduceSub Nat.sub_self Option.isSome_none
theorem hCnd:(type_of% @decide_eq_true_eq)∧(type_of% @decide_eq_false_iff_not)∧(type_of% @Bool.and_eq_true)∧(type_of% @Bool.and_eq_false_imp)∧(type_of% @Bool.or_eq_true)∧(type_of% @Bool.or_eq_false_iff)∧(type_of% @Bool.not_eq_true')∧(type_of% @Bool.not_eq_false')∧(type_of% @beq_iff_eq.{0})∧(type_of% @beq_eq_false_iff_ne.{0})∧(type_of% @bne_iff_ne.{0})∧(type_of% @bne_eq_false_iff_eq.{0})∧(type_of% @Int.not_lt)∧(type_of% @Int.not_le)∧(type_of% @Bool.cond_true_left)∧(type_of% @Bool.cond_false_right)∧(type_of% @Bool.cond_true_right)∧(type_of% @Bool.cond_false_left)∧(type_of% @beq_false)∧(type_of% @beq_true)∧(type_of% @Bool.not_not)∧(type_of% @Bool.and_true)∧(type_of% @Bool.true_and)∧(type_of% @Bool.or_false)∧(type_of% @Bool.false_or)∧(type_of% @and_true)∧(type_of% @true_and)∧(type_of% @Bool.false_eq_true)∧(type_of% @Bool.true_eq_false)∧(type_of% @ne_eq.{1})∧(type_of% @not_true_eq_false)∧(type_of% @not_false_eq_true)∧(type_of% @or_self)∧(type_of% @or_false)∧(type_of% @false_or)∧(type_of% @and_false)∧(type_of% @false_and):=⟨@decide_eq_true_eq,@decide_eq_false_iff_not,@Bool.and_eq_true,@Bool.and_eq_false_imp,@Bool.or_eq_true,@Bool.or_eq_false_iff,@Bool.not_eq_true',@Bool.not_eq_false',@beq_iff_eq.{0},@beq_eq_false_iff_ne.{0},@bne_iff_ne.{0},@bne_eq_false_iff_eq.{0},@Int.not_lt,@Int.not_le,@Bool.cond_true_left,@Bool.cond_false_right,@Bool.cond_true_right,@Bool.cond_false_left,@beq_false,@beq_true,@Bool.not_not,@Bool.and_true,@Bool.true_and,@Bool.or_false,@Bool.false_or,@and_true,@true_and,@Bool.false_eq_true,@Bool.true_eq_false,@ne_eq.{1},@not_true_eq_false,@not_false_eq_true,@or_self,@or_false,@false_or,@and_false,@false_and⟩
end Go.Ab
namespace Go.Ab
open Go.RowKit (Below)
section
variable {L : Nat → Nat} {n : Nat} {t : List (Nat × AV)} {o : Sto} {Q : AS → Prop}
theorem Imp.unfoldO2{b0 k sz:Nat}{cells0 l:List AV}(hO0:O o b0=some cells0)(hk:cells0[k]? = some (.sl true sz l))(hel:∀ x,x∈l→x.elem sz=true)
  (h:∀ b,Fresh o b→Q ⟨n,t,(b,some (l.flatMap AV.cells))::(b0,some (cells0.set k (.arr b 0 l.length sz)))::o⟩)
  (hnil:l=[]→Q ⟨n,t,(b0,some (cells0.set k (.v (.slice none 0 0))))::o⟩):Imp L ⟨n,t,o⟩ Q:=by
 intro B F0 w0 a w hd
 obtain ⟨F,own,fp,fs,hd⟩:=hd
 obtain ⟨hkey0,hfsn0,hfso0,c0,Ty0,vals0,rest0,hc0,hcl0,hrep0⟩:=hd.obj b0 cells0 hO0
 obtain ⟨y,f1,fx,f2,hvk,hfs0,hr,hset⟩:=hrep0.put hk
 simp only [Rep] at hr
 rcases hr with ⟨e1|⟨e0,_⟩,e,e3⟩|⟨b,off,cap,vals,fp',hy,h1,h2,hrow,he,ho⟩
 ·refine ⟨_,hnil e,F,own,fp,fun q=>if q=b0 then f1++([]++f2) else fs q,{ hd with obj:=?_ }⟩
  have hset':=hset (.v (.slice none 0 0)) [] (by simp only [Rep];exact ⟨e1,by trivial⟩)
  intro q cells hO
  simp only [O] at hO
  by_cases e2:b0=q
  ·subst e2
   rw [if_pos rfl] at hO;cases hO
   simp only [if_true]
   have hnd:=hfsn0
   rw [hfs0,e3] at hnd
   refine ⟨hkey0,hnd,fun q hq=>hfso0 q (by rw [hfs0,e3];exact hq),c0,Ty0,vals0,rest0,hc0,hcl0,hset'⟩
  ·rw [if_neg e2] at hO
   have e2':¬ q=b0:=fun h=>e2 h.symm
   simp only [if_neg e2']
   exact hd.obj q cells hO
 ·cases e0
 obtain ⟨hfp,rfl,hblk⟩:fx=b::fp'∧off=0∧OwnBlk w b (off+cap * sz):=by
  rcases ho with ⟨_,h⟩|⟨e,_⟩
  ·exact h
  ·cases e
 have hmem:∀ q,q∈fx→own q=.obj b0:=fun q hq=>hfso0 q (by rw [hfs0];simp [hq])
 have hsb:own b=.obj b0:=hmem b (by rw [hfp];simp)
 have hbne:b≠b0:=fun e=>by rw [e,hkey0] at hsb;cases hsb
 have hnd0:=hfsn0
 rw [hfs0,List.nodup_append] at hnd0
 obtain ⟨hn1,hn2,hn3⟩:=hnd0
 rw [List.nodup_append] at hn2
 obtain ⟨hnx,hn4,hn5⟩:=hn2
 have hnd:=hnx
 rw [hfp,List.nodup_cons] at hnd
 have hfr:Fresh o b:=by
  intro b' cells hO e
  have:=(hd.obj b' cells hO).1
  rw [e,hsb] at this;cases this
 refine ⟨_,h b hfr,?_⟩
 obtain ⟨c,Ty,rest,hc,hcl⟩:=row_list hrow hblk
 classical
 let own':Nat→Own:=fun q=>if q=b then .key else if q∈fp' then .obj b else own q
 have hnot':∀ q,q ∉ fx→own' q=own q:=fun q hq=>by
  have n1:q≠b:=fun e=>hq (by rw [hfp,e];simp)
  have n2:q ∉ fp':=fun hm=>hq (by rw [hfp];simp [hm])
  simp only [own',if_neg n1,if_neg n2]
 have hnot:∀ q,own q≠.obj b0→own' q=own q:=fun q hq=>hnot' q fun hm=>hq (hmem q hm)
 refine ⟨F,own',fp,fun q=>if q=b then fp' else if q=b0 then f1++f2 else fs q,{ below:=hd.below,hB:=hd.hB,tb:=hd.tb,f0:=hd.f0,fl:=?_,ol:=?_,defers:=hd.defers,size:=hd.size,slots:=hd.slots,sn:=hd.sn,so:=?_,obj:=?_ }⟩
 ·intro q hq
  have:=hd.fl q hq
  exact ⟨by rw [hnot q (by rw [this.1];simp)];exact this.1,this.2⟩
 ·intro q hq
  by_cases e1:q∈fx
  ·exact hd.ol q (by rw [hmem q e1];simp)
  ·rw [hnot' q e1] at hq;exact hd.ol q hq
 ·intro j q hq
  have:=hd.so j q hq
  rw [hnot q (by rw [this];simp)];exact this
 ·intro q cells hO
  simp only [O] at hO
  by_cases e:b=q
  ·subst e
   rw [if_pos rfl] at hO;cases hO
   refine ⟨by simp [own'],by simpa using hnd.2,fun q hq=>?_,c,Ty,vals,rest,hc,hcl,by simpa using RepE.flat hel he⟩
   simp only [if_true] at hq
   have n1:q≠b:=fun e=>hnd.1 (by rw [← e];exact hq)
   simp only [own',if_neg n1,if_pos hq]
  ·rw [if_neg e] at hO
   have e':¬ q=b:=fun h=>e h.symm
   simp only [if_neg e']
   by_cases e2:b0=q
   ·subst e2
    rw [if_pos rfl] at hO;cases hO
    simp only [if_true]
    refine ⟨by rw [hnot b0 (by rw [hkey0];simp)];exact hkey0,?_,fun q hq=>?_,c0,Ty0,vals0,rest0,hc0,hcl0,?_⟩
    ·rw [List.nodup_append]
     exact ⟨hn1,hn4,fun a ha b hb=>hn3 a ha b (by simp [hb])⟩
    ·have hq':q∈fs b0:=by rw [hfs0];rcases List.mem_append.1 hq with h|h<;>simp [h]
     have:q ∉ fx:=fun hm=>by
      rcases List.mem_append.1 hq with h|h
      ·exact hn3 q h q (by simp [hm]) rfl
      ·exact hn5 q hm q h rfl
     rw [hnot' q this];exact hfso0 q hq'
    ·have:=hset (.arr b 0 l.length sz) [] (by simp only [Rep];exact ⟨trivial,cap,hy,h1,h2,hblk⟩)
     simpa using this
   ·rw [if_neg e2] at hO
    have e2':¬ q=b0:=fun h=>e2 h.symm
    obtain ⟨g1,g2,g3,g4⟩:=hd.obj q cells hO
    simp only [if_neg e2']
    exact ⟨by rw [hnot q (by rw [g1];simp)];exact g1,g2,fun k hk=>by rw [hnot k (by rw [g3 k hk];simpa using e2')];exact g3 k hk,g4⟩
end
theorem EndsG.imp{L:Nat→Nat}{P:Program}{fn:Func}{s:AS}{Q:AV→Sto→Prop}(h:Imp L s (fun s'=>EndsG L P fn s' Q)):EndsG L P fn s Q:=by
 intro B F0 w0 a w hd
 obtain ⟨s',h1,h2⟩:=h B F0 w0 a w hd
 exact h1 B F0 w0 a w h2
theorem subO_two{b1 b2:Nat}{c1 c1' c2 c2':List AV}{o:Sto}(hne:b1≠b2)(h1:c1=c1')(h2:c2=c2'):subO [(b1,some c1),(b2,some c2)] ((b1,some c1')::(b2,some c2')::o):=by
 subst h1 h2;exact ⟨O_eq _ _ _,by rw [O_ne hne,O_eq],trivial⟩
theorem mkC_at{α:Type}[Inhabited α](f:α→AV)(zs:List Value)(sz:Nat)(hf:∀ x,(f x).cells.length=sz)(hz:zs.length=sz)(l:List α)(k:Nat)(hk:k<l.length) :
  (mkC f zs l k).take (k * sz)++(f (at_ l k)).cells++(mkC f zs l k).drop (k * sz+sz)=mkC f zs l (k+1):=by
 have:at_ l k=l[k]:=by unfold at_;rw [List.getElem?_eq_getElem hk];rfl
 rw [this];exact mkC_step f zs sz hf hz l k hk
theorem AW.made{L:Nat→Nat}{P:Program}{c:Code}{n:Nat}{t:List (Nat×AV)}{Q:Exit→AS→Prop}{α:Type}{f:α→AV}{zs:List Value}{l:List α}{k b sz:Nat}(i:Nat)(hT:T t i=.arr b 0 l.length sz)(hk:¬ k<l.length)(hkl:k≤l.length)(hel:∀ x,(f x).elem sz=true)
  (h:AW L P c ⟨n,(i,.sl true sz (l.map f))::t,[]⟩ Q):AW L P c ⟨n,t,[(b,some (mkC f zs l k))]⟩ Q:=by
 have hk':k=l.length:=by omega
 subst hk'
 rw [mkC_end]
 refine AW.imp (Imp.bind (Q:=fun s'=>s'=⟨n,(i,.sl true sz (l.map f))::t,(b,none)::[(b,some ((l.map f).flatMap AV.cells))]⟩) (Imp.fold i (b:=b) (len:=l.length) (sz:=sz) (cells:=(l.map f).flatMap AV.cells) (l:=l.map f) hT (O_eq _ _ _) (by simp) ?_ ?_ rfl) ?_)
 ·rw [List.take_of_length_le]
  rw [flat_elem_len (sz:=sz) (by intro z hz;simp only [List.mem_map] at hz;obtain ⟨x,_,rfl⟩:=hz;exact hel x)];simp
 ·intro z hz;simp only [List.mem_map] at hz;obtain ⟨x,_,rfl⟩:=hz;exact hel x
 ·rintro _ rfl
  exact Imp.weak h (fun _=>.inl rfl) (fun b cells hb=>by simp [O] at hb)
theorem BCtr.of{L:Nat→Nat}{P:Program}{f:FuncId}{sz:Nat}{l rest:List AV}{res:AV}{l':List AV}{pre:Prop}(he:enters P f=true)(h1:∀ b,Ctr L P f [(b,some (l.flatMap AV.cells))] (.arr b 0 l.length sz::rest) res [some (l'.flatMap AV.cells)] pre)
  (h2:l=[]→Ctr L P f [] (.sl false sz []::rest) res [] pre∧l'=[]) (hlen:l'.length=l.length) (hel:∀ x,x∈l→x.elem sz=true) (hel':∀ x,x∈l'→x.elem sz=true):BCtr L P f sz l rest res l' pre :=
 ⟨he,fun hp=>⟨fun b=>(h1 b).out hp,fun e=>⟨(h2 e).1.pure hp,(h2 e).2⟩,hlen,hel,hel'⟩⟩
theorem fl_str(l:List (List UInt8)):(l.map AV.str).flatMap AV.cells=l.map AV.str:=by
 induction l with
 | nil=>rfl
 | cons c l ih=>simp only [List.map_cons,List.flatMap_cons,ih];rfl
theorem unb_nil:unb []=some []:=rfl
theorem unb_cons{n:Int}{l:List AV}(h0:0≤n)(h1:n≤255):unb (.v (.int .u8 n)::l)=(unb l).map (UInt8.ofNat n.toNat::·):=by
 simp only [unb];rw [if_pos ⟨h0,h1⟩]
theorem tmod10(n:Nat):Int.tmod (n:Int) 10=((n % 10:Nat):Int):=by
 rw [Int.tmod_eq_emod_of_nonneg (by omega)];omega
theorem tdiv10(n:Nat):Int.tdiv (n:Int) 10=((n / 10:Nat):Int):=by
 rw [Int.tdiv_eq_ediv_of_nonneg (by omega)];omega
attribute [go_sem] fl_str unb_nil unb_cons tmod10 tdiv10
end Go.Ab
namespace Go.Ab
class GCtr(L:Nat→Nat)(P:Program)(f:FuncId)(os:Sto)(args:List AV)(Q:outParam (AV→Sto→Prop))(pre:outParam Prop):Prop where
 en:enters P f=true
 out:pre→GenC L P f os args Q
def GK(os rs:Sto)(Q:AV→Sto→Prop)[K:Hd (AV→Sto→Prop)]:Prop:=∀ res os',Q res os'→os'.map Prod.fst=rs.map Prod.fst∧K.v res (mergeO os os')
theorem GK.intro{os rs:Sto}{Q:AV→Sto→Prop}{K:AV→Sto→Prop}(h:∀ res os',Q res os'→os'.map Prod.fst=rs.map Prod.fst∧K res (mergeO os os')):GK os rs Q (K:=⟨K⟩):=h
theorem CallN.gctr{L:Nat→Nat}{P:Program}{os rs:Sto}{la:List AV}{bo:Option (Nat×Nat×List AV)}{rest:List AV}{f:FuncId}{args:List AV}{K:AV→Sto→Prop}{KB:Nat→Nat→List AV→AV→Prop}{KX:CallX}
  {Q:AV→Sto→Prop} {pre:Prop} [h:GCtr L P f rs args Q pre] (hn:AV.nownL args=true) (hp:pre) (hK:GK os rs Q (K:=⟨K⟩)):CallN L P os rs la bo rest f args (K:=⟨K⟩) (KB:=⟨KB⟩) (KX:=⟨KX⟩) :=
 CallN.gen h.en hn (h.out hp) hK
theorem GCtr.of_body{L:Nat→Nat}{P:Program}{f:FuncId}{fn:Func}{c:Code}{os:Sto}{args:List AV}{Q:AV→Sto→Prop}{pre:Prop}(he:enters P f=true)(hf:P.funcs[f]? = some fn)(hb:fn.body=some c)(hn:Nat.ble args.length fn.ntmps=true)
  (h:pre→AW L P c ⟨fn.ntmps,zipT 0 args,os⟩ (finG L P fn Q)):GCtr L P f os args Q pre :=
 ⟨he,fun hp=>GenC.of_body hf hb hn (h hp)⟩
class NCtr(L:Nat→Nat)(P:Program)(f:FuncId)(args:List AV)(Q:outParam (List AV→Prop))(pre:outParam Prop):Prop where
 en:enters P f=true
 out:pre→GenC L P f [] args (fun res os'=>∃ b cells,res=.ptr b 0∧os'=[(b,some cells)]∧Q cells)
def NK(os:Sto)(Q:List AV→Prop)[K:Hd (AV→Sto→Prop)]:Prop:=∀ b cells,Q cells→nfO os b→K.v (.ptr b 0) ((b,some cells)::os)
theorem NCtr.of_body{L:Nat→Nat}{P:Program}{f:FuncId}{fn:Func}{c:Code}{args:List AV}{Q:List AV→Prop}{pre:Prop}(he:enters P f=true)(hf:P.funcs[f]? = some fn)(hb:fn.body=some c)(hn:Nat.ble args.length fn.ntmps=true)
  (h:pre→AW L P c ⟨fn.ntmps,zipT 0 args,[]⟩ (finG L P fn (fun res os'=>∃ b cells,res=.ptr b 0∧os'=[(b,some cells)]∧Q cells))):NCtr L P f args Q pre :=
 ⟨he,fun hp=>GenC.of_body hf hb hn (h hp)⟩
end Go.Ab
namespace Go.Ab
class Rl(G:Prop)(R:outParam Prop):Prop where
 r:R→G
class Rz(G:Prop)(R:outParam Prop):Prop where
 r:R→G
class Re(G:Prop)(R:outParam Prop):Prop where
 r:R→G
theorem Y{G R:Prop}[h:Rl G R](p:R):G:=h.r p
theorem Z{G R:Prop}[h:Rz G R](p:R):G:=h.r p
theorem E{G R:Prop}[h:Re G R](p:R):G:=h.r p
def exN:Exit→Nat→Bool
 | .exit j,i=>Nat.beq j i
 | _,_=>true
theorem blockQ_ne{i:Nat}{e:Exit}{Q:Exit→AS→Prop}{s:AS}(hne:exN e i=false)(h:Q e s):blockQ i Q e s:=by
 cases e<;>simp only [exN,reduceCtorEq] at hne
 exact blockQ.ne hne h
section
variable {L : Nat → Nat} {P : Program} {n : Nat} {t : List (Nat × AV)} {o : Sto} {Q : Exit → AS → Prop} {id : Nat} {ops : Array Oper} {c x y : Code} {s : AS}
instance rSeq:Rl (AW L P (.seq x y) s Q) (AW L P x s (thenQ (fun s'=>AW L P y s' Q) Q)):=⟨AW.seq⟩
instance rBlock:Rl (AW L P (.block id c) s Q) (AW L P c s (blockQ id Q)):=⟨AW.block⟩
instance rSkip:Rl (AW L P .skip s Q) (Q .normal s):=⟨AW.skip⟩
instance rExit:Rl (AW L P (.exit id) s Q) (Q (.exit id) s):=⟨AW.exit⟩
instance rThenN{next:AS→Prop}:Rl (thenQ next Q .normal s) (next s):=⟨thenQ.n⟩
instance rThenE{next:AS→Prop}:Rl (thenQ next Q (.exit id) s) (Q (.exit id) s):=⟨thenQ.e⟩
instance rThenR{next:AS→Prop}:Rl (thenQ next Q .ret s) (Q .ret s):=⟨thenQ.r⟩
instance rBlockN:Rl (blockQ id Q .normal s) (Q .normal s):=⟨blockQ.n⟩
instance rBlockR:Rl (blockQ id Q .ret s) (Q .ret s):=⟨blockQ.r⟩
instance rBlockX{e:Exit}:Rl (blockQ id Q e s) (exN e id=false∧Q e s):=⟨fun h=>blockQ_ne h.1 h.2⟩
instance rBlockE:Rl (blockQ id Q (.exit id) s) (Q .normal s):=⟨blockQ.eq⟩
instance rFinR{fn:Func}{R:AV→Sto→Prop}:Rl (finG L P fn R .ret s) (EndsG L P fn s R):=⟨fun h=>h⟩
instance eRet:Re (AW L P .ret s Q) (Q .ret s):=⟨AW.ret⟩
instance rIdx{α:Type}[Inhabited α]{G:Bool}{f:α→AV}{l:List α}{n:Int}{sz:Nat}{K:AV→Prop}:Rl (idxVc G (l.map f) n sz (K:=⟨K⟩)) ((G=true→0≤n∧n.toNat<l.length)∧(f (at_ l n.toNat)).elem sz=true∧K (f (at_ l n.toNat))):=⟨fun h=>idxVc.map h.1 h.2.1 h.2.2⟩
instance rBs{sz:Nat}{l:List AV}{C:List Nat}{K:AV→List Nat→Prop}:Rl (bsK sz l C (K:=⟨K⟩)) (K (.sl true sz l) C):=⟨.inl⟩
instance zRegn:Rz (AW L P (.region id ops false) ⟨n,t,o⟩ Q) (∀ K:List (Nat×AV)→Sto→Prop,(∀ t o,Q .normal ⟨n,t,o⟩→K t o)→Wn L P ops n K (List.range ops.size) [] t o):=⟨AW.regn⟩
instance zSregn:Rz (AW L P (.seq (.region id ops false) c) ⟨n,t,o⟩ Q) (∀ K:List (Nat×AV)→Sto→Prop,(∀ t o,AW L P c ⟨n,t,o⟩ Q→K t o)→Wn L P ops n K (List.range ops.size) [] t o):=⟨AW.sregn⟩
instance zDrwn [MixOK P]:Rz (AW L P (.region id ops true) ⟨n,t,o⟩ Q) (∀ K:List (Nat×AV)→List (AV×List Nat)→Prop,(∀ t D,(drawOK ops (D.map Prod.snd)=true∧∀ K':List (Nat×AV)→Sto→Prop,(∀ t o,Q .normal ⟨n,t,o⟩→K' t o)→Wn L P ops n K' (List.range' D.length (ops.size - D.length)) [] t o)→K t D) →
   W L P ops [] n o (fun t D _=>K t D) (List.range' 0 ops.size) t []):=⟨AW.drwn⟩
instance zSdrwn [MixOK P]:Rz (AW L P (.seq (.region id ops true) c) ⟨n,t,o⟩ Q) (∀ K:List (Nat×AV)→List (AV×List Nat)→Prop,(∀ t D,(drawOK ops (D.map Prod.snd)=true∧∀ K':List (Nat×AV)→Sto→Prop,(∀ t o,AW L P c ⟨n,t,o⟩ Q→K' t o)→Wn L P ops n K' (List.range' D.length (ops.size - D.length)) [] t o)→K t D) →
   W L P ops [] n o (fun t D _=>K t D) (List.range' 0 ops.size) t []):=⟨AW.sdrwn⟩
theorem AW.i{c:Operand}{x y:Code}{p:Bool}(hc:ev t c=.v (.bool p))(ht:p=true→AW L P x ⟨n,t,o⟩ Q)(hf:p=false→AW L P y ⟨n,t,o⟩ Q):AW L P (.cond c x y) ⟨n,t,o⟩ Q:=AW.cond hc ht hf
end
section
variable {L : Nat → Nat} {P : Program} {os rs : Sto} {la : List AV} {bo : Option (Nat × Nat × List AV)} {rest : List AV} {f : FuncId} {args : List AV} {K : AV → Sto → Prop} {KB : Nat → Nat → List AV → AV → Prop} {KX : CallX}
instance cG{Q:AV→Sto→Prop}{pre:Prop}[h:GCtr L P f rs args Q pre]:Rl (CallN L P os rs la bo rest f args (K:=⟨K⟩) (KB:=⟨KB⟩) (KX:=⟨KX⟩)) (AV.nownL args=true∧pre∧GK os rs Q (K:=⟨K⟩)):=⟨fun h=>CallN.gctr h.1 h.2.1 h.2.2⟩
instance cZ{x0:AV}{lar:List AV}{i sz:Nat}{l:List AV}{res:AV}{l':List AV}{pre:Prop}[h:BCtr L P f sz l lar res l' pre]:Rl (CallN L P os rs (x0::lar) (some (i,sz,l)) rest f args (K:=⟨K⟩) (KB:=⟨KB⟩) (KX:=⟨KX⟩)) (AV.nownL lar=true∧pre∧KX.kb i sz l' res):=⟨fun h=>CallN.borF h.1 h.2.1 h.2.2⟩
instance cB{res:AV}{cs:List (Option (List AV))}{pre:Prop}[h:Ctr L P f [] la res cs pre]:Rl (CallN L P os rs la bo rest f args (K:=⟨K⟩) (KB:=⟨KB⟩) (KX:=⟨KX⟩)) (res.closed=true∧pre∧K res os):=⟨fun h=>CallN.low h.1 h.2.1 h.2.2⟩
instance cA{res:AV}{cs:List (Option (List AV))}{pre:Prop}[h:Ctr L P f rs args res cs pre]:Rl (CallN L P os rs la bo rest f args (K:=⟨K⟩) (KB:=⟨KB⟩) (KX:=⟨KX⟩)) (AV.nownL args=true∧pre∧K res (mergeO os (zipK rs cs))):=⟨fun h=>CallN.ctr h.1 h.2.1 h.2.2⟩
instance cF{res:AV}{pre:Prop}[h:FCtr L P f la res pre]:Rl (CallN L P os rs la bo rest f args (K:=⟨K⟩) (KB:=⟨KB⟩) (KX:=⟨KX⟩)) (pre∧KX.kf res):=⟨fun h=>CallN.fz h.1 h.2⟩
instance cP{G:Bool}{K:AV→Prop}{res:AV}{cs:List (Option (List AV))}{pre:Prop}[h:Ctr L P f [] args res cs pre]:Rl (CallP L P os la G f args (K:=⟨K⟩)) (AV.nownL args=true∧(G=true→pre)∧K res):=⟨fun h=>CallP.ctr h.1 h.2.1 h.2.2⟩
end
instance rBox{L:Nat→Nat}{P:Program}{os:Sto}{t:List (Nat×AV)}{d:Option Nat}{ty':TypeId}{x:Operand}{K:List (Nat×AV)→Sto→Prop}:Rl (BoxVc L P os t d ty' x (K:=⟨K⟩)) (ovc L P os (ev t) true (.box ty' x) (fun x C=>K (put (killL t C) d x) os)):=⟨BoxVc.vp⟩
theorem xO{L:Nat→Nat}{P:Program}{os:Sto}{t:List (Nat×AV)}{d:Option Nat}{ty':TypeId}{x:Operand}{K:List (Nat×AV)→Sto→Prop}
  (h:match ty P ty' with
   | some (_,m)=>(ev t x).elem m=true∧∀ b,nfO os b→K (put (killL t (kills t [x])) d (.ptr b 0)) ((b,some (ev t x).cells)::os)
   | none=>False):BoxVc L P os t d ty' x (K:=⟨K⟩):=BoxVc.obj h
theorem eF{L:Nat→Nat}{P:Program}{n:Nat}{fn:Func}{t:List (Nat×AV)}{o o':Sto}{rs:List ResultVar}{res:AV}(hr:fn.results=rs.toArray)(h:resW P n rs t o [] (fun xs os=>oneA xs=res∧subO o' os)):EndsG L P fn ⟨n,t,o⟩ (fun r os'=>r=res∧os'=o'):=EndsG.fin hr h
theorem hC:type_of% hCnd:=hCnd
theorem gI{c:Bool}{p:Prop}(h:c=true→p):Gd c (p:=⟨p⟩):=h
inductive GrOn:Prop
 | on
theorem Cl{G:Prop}(h:G:=by first|(with_reducible show List.Nodup _;decide)|(with_reducible show (_:Bool)=false;first|rfl|(simp [*];done))|with_reducible exact at8_le _ _|with_reducible exact at8_ge _ _|(simp only [hC,reduceCtorEq];omega)|omega|with_reducible assumption|(with_reducible show (_:Bool)=true;first|(simp [*];done)|(simp only [hC,reduceCtorEq];(repeat' (first|assumption|apply And.intro));done))|((with_reducible first|show False|show false=true);have:=‹GrOn›;grind)):G:=h
theorem Ct{G:Prop}(h:G:=by first|exact trivial|rfl|(show drawOK _ _=true;kernel_rfl)):G:=h
theorem gO{G:Prop}(h:G:=by simp (maxSteps:=2000000) (disch:=omega) only [go_sem]):G:=h
theorem uU{G:Prop}(h:G:=by (repeat' first|(with_reducible first|refine Z ?_|refine Y ?_|(refine hK _ _ ?_;clear hK K)|refine And.intro ?_ ?_|exact Ct|intro (K:_→_→Prop) hK|(refine gI fun hg=>?_;try simp only [hC,reduceCtorEq] at hg;try simp only [hg]))|(refine AW.i rfl (fun h=>?_) (fun h=>?_)<;>try simp only [hC,reduceCtorEq] at h)|((with_reducible refine E ?_;repeat refine Y ?_);refine eF rfl ?_)|simp (maxSteps:=2000000) (disch:=omega) only [go_sem]|(with_reducible intro hg;try simp only [hC,reduceCtorEq] at hg)|exact Cl|fail)):G:=h
attribute [go_sem] exN Nat.reduceBEq Nat.reduceAdd Nat.reduceMul Nat.reduceLeDiff Int.reduceEq
end Go.Ab
namespace Go.Ab
def MV(_:Nat)[p:Hd Prop]:Prop:=p.v
end Go.Ab
namespace Go.Ab
structure Lf(A B:Prop):Prop where
 a:A
 b:B
inductive Le:Prop
 | l
inductive Mk:Prop
 | m
structure Hk(A:Prop):Prop where
 r:A
inductive Sl:Prop→Prop
 | d:Sl Le
 | x (A:Prop):Sl A
theorem Sw{A B:Prop}(a:A)(b:B):Lf A B:=⟨a,b⟩
theorem mkE{T:Prop}(h:T):Mk→T:=fun _=>h
structure Wk(A0 A1 A2 A3 A4 A5 A6 A7 A8 A9 A10 A11 G:Prop):Prop where
 h:Hk A0→Hk A1→Hk A2→Hk A3→Hk A4→Hk A5→Hk A6→Hk A7→Hk A8→Hk A9→Hk A10→Hk A11→Mk→G
 s0:Sl A0
 s1:Sl A1
 s2:Sl A2
 s3:Sl A3
 s4:Sl A4
 s5:Sl A5
 s6:Sl A6
 s7:Sl A7
 s8:Sl A8
 s9:Sl A9
 s10:Sl A10
 s11:Sl A11
theorem Wk.go{A0 A1 A2 A3 A4 A5 A6 A7 A8 A9 A10 A11 G:Prop}(h:Wk A0 A1 A2 A3 A4 A5 A6 A7 A8 A9 A10 A11 G)(r:(Lf A0 (Lf A1 (Lf A2 (Lf A3 (Lf A4 (Lf A5 (Lf A6 (Lf A7 (Lf A8 (Lf A9 (Lf A10 (Lf A11 Le))))))))))))):G:=h.1 ⟨r.a⟩ ⟨r.b.a⟩ ⟨r.b.b.a⟩ ⟨r.b.b.b.a⟩ ⟨r.b.b.b.b.a⟩ ⟨r.b.b.b.b.b.a⟩ ⟨r.b.b.b.b.b.b.a⟩ ⟨r.b.b.b.b.b.b.b.a⟩ ⟨r.b.b.b.b.b.b.b.b.a⟩ ⟨r.b.b.b.b.b.b.b.b.b.a⟩ ⟨r.b.b.b.b.b.b.b.b.b.b.a⟩ ⟨r.b.b.b.b.b.b.b.b.b.b.b.a⟩ .m
theorem vU{A0 A1 A2 A3 A4 A5 A6 A7 A8 A9 A10 A11 G:Prop}(r:(Lf A0 (Lf A1 (Lf A2 (Lf A3 (Lf A4 (Lf A5 (Lf A6 (Lf A7 (Lf A8 (Lf A9 (Lf A10 (Lf A11 Le))))))))))))) (h:Wk A0 A1 A2 A3 A4 A5 A6 A7 A8 A9 A10 A11 G:=by
 constructor
 ·intro r0 r1 r2 r3 r4 r5 r6 r7 r8 r9 r10 r11 m
  (repeat' first|(with_reducible first|refine Z ?_|refine Y ?_|(refine hK _ _ ?_;try clear hK K)|refine And.intro ?_ ?_|exact Ct|intro (K:_→_→Prop) hK|(refine gI fun hg=>?_;try simp only [hC,reduceCtorEq] at hg;try simp only [hg]))|(refine AW.i rfl (fun hg=>?_) (fun hg=>?_)<;>try simp only [hC,reduceCtorEq] at hg)|((with_reducible refine E ?_;repeat refine Y ?_);refine eF rfl ?_)|simp (maxSteps:=2000000) (disch:=omega) only [go_sem]|(with_reducible intro hg;try simp only [hC,reduceCtorEq] at hg)|exact Cl|fail)
  all_goals (repeat' first|(with_reducible refine mkE ?_;with_reducible first|exact r0.r|exact r1.r|exact r2.r|exact r3.r|exact r4.r|exact r5.r|exact r6.r|exact r7.r|exact r8.r|exact r9.r|exact r10.r|exact r11.r)|revert ‹_›)
 all_goals first|exact Sl.d|exact Sl.x _):G:=h.go r
theorem vK{A0 A1 A2 A3 A4 A5 A6 A7 A8 A9 A10 A11 G:Prop}(r:(Lf A0 (Lf A1 (Lf A2 (Lf A3 (Lf A4 (Lf A5 (Lf A6 (Lf A7 (Lf A8 (Lf A9 (Lf A10 (Lf A11 Le))))))))))))) (h:Wk A0 A1 A2 A3 A4 A5 A6 A7 A8 A9 A10 A11 G:=by
 constructor
 ·intro r0 r1 r2 r3 r4 r5 r6 r7 r8 r9 r10 r11 m
  (repeat' first|(with_reducible first|refine Z ?_|refine Y ?_|(refine hK _ _ ?_;try clear hK K)|refine And.intro ?_ ?_|exact Ct|intro (K:_→_→Prop) hK|(refine gI fun hg=>?_;try simp only [hC,reduceCtorEq] at hg;try simp only [hg]))|((with_reducible refine E ?_;repeat refine Y ?_);refine eF rfl ?_)|simp (maxSteps:=2000000) (disch:=omega) only [go_sem]|(with_reducible intro hg;try simp only [hC,reduceCtorEq] at hg)|exact Cl|fail)
  all_goals (repeat' first|(with_reducible refine mkE ?_;with_reducible first|exact r0.r|exact r1.r|exact r2.r|exact r3.r|exact r4.r|exact r5.r|exact r6.r|exact r7.r|exact r8.r|exact r9.r|exact r10.r|exact r11.r)|revert ‹_›)
 all_goals first|exact Sl.d|exact Sl.x _):G:=h.go r
theorem vN{A0 A1 A2 A3 A4 A5 A6 A7 A8 A9 A10 A11 G:Prop}(r:(Lf A0 (Lf A1 (Lf A2 (Lf A3 (Lf A4 (Lf A5 (Lf A6 (Lf A7 (Lf A8 (Lf A9 (Lf A10 (Lf A11 Le))))))))))))) (h:Wk A0 A1 A2 A3 A4 A5 A6 A7 A8 A9 A10 A11 G:=by
 constructor
 ·intro r0 r1 r2 r3 r4 r5 r6 r7 r8 r9 r10 r11 m
  (repeat' first|(with_reducible first|refine Y ?_|(refine hK _ _ ?_;try clear hK K)|refine And.intro ?_ ?_|exact Ct|intro (K:_→_→Prop) hK|(refine gI fun hg=>?_;try simp only [hC,reduceCtorEq] at hg;try simp only [hg]))|((with_reducible refine E ?_;repeat refine Y ?_);refine eF rfl ?_)|simp (maxSteps:=2000000) (disch:=omega) only [go_sem]|(with_reducible intro hg;try simp only [hC,reduceCtorEq] at hg)|exact Cl|fail)
  all_goals (repeat' first|(with_reducible refine mkE ?_;with_reducible first|exact r0.r|exact r1.r|exact r2.r|exact r3.r|exact r4.r|exact r5.r|exact r6.r|exact r7.r|exact r8.r|exact r9.r|exact r10.r|exact r11.r)|revert ‹_›)
 all_goals first|exact Sl.d|exact Sl.x _):G:=h.go r
theorem vX{A0 A1 A2 A3 A4 A5 A6 A7 A8 A9 A10 A11 G:Prop}(r:(Lf A0 (Lf A1 (Lf A2 (Lf A3 (Lf A4 (Lf A5 (Lf A6 (Lf A7 (Lf A8 (Lf A9 (Lf A10 (Lf A11 Le))))))))))))) (h:Wk A0 A1 A2 A3 A4 A5 A6 A7 A8 A9 A10 A11 G:=by
 constructor
 ·intro r0 r1 r2 r3 r4 r5 r6 r7 r8 r9 r10 r11 m
  (repeat' first|(with_reducible first|refine Z ?_|refine Y ?_|(refine hK _ _ ?_;try clear hK K)|refine And.intro ?_ ?_|exact Ct|intro (K:_→_→Prop) hK|(refine gI fun hg=>?_;try simp only [hC,reduceCtorEq] at hg;try simp only [hg]))|(refine AW.i rfl (fun hg=>?_) (fun hg=>?_)<;>try simp only [hC,reduceCtorEq] at hg)|simp (maxSteps:=2000000) (disch:=omega) only [go_sem]|(with_reducible intro hg;try simp only [hC,reduceCtorEq] at hg)|exact Cl|fail)
  all_goals (repeat' first|(with_reducible refine mkE ?_;with_reducible first|exact r0.r|exact r1.r|exact r2.r|exact r3.r|exact r4.r|exact r5.r|exact r6.r|exact r7.r|exact r8.r|exact r9.r|exact r10.r|exact r11.r)|revert ‹_›)
 all_goals first|exact Sl.d|exact Sl.x _):G:=h.go r
theorem bU{A0 A1 A2 A3 A4 A5 A6 A7 A8 A9 A10 A11 G:Prop}(r:(Lf A0 (Lf A1 (Lf A2 (Lf A3 (Lf A4 (Lf A5 (Lf A6 (Lf A7 (Lf A8 (Lf A9 (Lf A10 (Lf A11 Le))))))))))))) (h:Wk A0 A1 A2 A3 A4 A5 A6 A7 A8 A9 A10 A11 G:=by
 constructor
 ·intro r0 r1 r2 r3 r4 r5 r6 r7 r8 r9 r10 r11 m
  (repeat' first|(with_reducible first|refine Z ?_|refine xO ?_|refine Y ?_|(refine hK _ _ ?_;try clear hK K)|refine And.intro ?_ ?_|exact Ct|intro (K:_→_→Prop) hK|(refine gI fun hg=>?_;try simp only [hC,reduceCtorEq] at hg;try simp only [hg]))|(refine AW.i rfl (fun hg=>?_) (fun hg=>?_)<;>try simp only [hC,reduceCtorEq] at hg)|((with_reducible refine E ?_;repeat refine Y ?_);refine eF rfl ?_)|simp (maxSteps:=2000000) (disch:=omega) only [go_sem]|(with_reducible intro hg;try simp only [hC,reduceCtorEq] at hg)|exact Cl|fail)
  all_goals (repeat' first|(with_reducible refine mkE ?_;with_reducible first|exact r0.r|exact r1.r|exact r2.r|exact r3.r|exact r4.r|exact r5.r|exact r6.r|exact r7.r|exact r8.r|exact r9.r|exact r10.r|exact r11.r)|revert ‹_›)
 all_goals first|exact Sl.d|exact Sl.x _):G:=h.go r
theorem bK{A0 A1 A2 A3 A4 A5 A6 A7 A8 A9 A10 A11 G:Prop}(r:(Lf A0 (Lf A1 (Lf A2 (Lf A3 (Lf A4 (Lf A5 (Lf A6 (Lf A7 (Lf A8 (Lf A9 (Lf A10 (Lf A11 Le))))))))))))) (h:Wk A0 A1 A2 A3 A4 A5 A6 A7 A8 A9 A10 A11 G:=by
 constructor
 ·intro r0 r1 r2 r3 r4 r5 r6 r7 r8 r9 r10 r11 m
  (repeat' first|(with_reducible first|refine Z ?_|refine xO ?_|refine Y ?_|(refine hK _ _ ?_;try clear hK K)|refine And.intro ?_ ?_|exact Ct|intro (K:_→_→Prop) hK|(refine gI fun hg=>?_;try simp only [hC,reduceCtorEq] at hg;try simp only [hg]))|((with_reducible refine E ?_;repeat refine Y ?_);refine eF rfl ?_)|simp (maxSteps:=2000000) (disch:=omega) only [go_sem]|(with_reducible intro hg;try simp only [hC,reduceCtorEq] at hg)|exact Cl|fail)
  all_goals (repeat' first|(with_reducible refine mkE ?_;with_reducible first|exact r0.r|exact r1.r|exact r2.r|exact r3.r|exact r4.r|exact r5.r|exact r6.r|exact r7.r|exact r8.r|exact r9.r|exact r10.r|exact r11.r)|revert ‹_›)
 all_goals first|exact Sl.d|exact Sl.x _):G:=h.go r
theorem bN{A0 A1 A2 A3 A4 A5 A6 A7 A8 A9 A10 A11 G:Prop}(r:(Lf A0 (Lf A1 (Lf A2 (Lf A3 (Lf A4 (Lf A5 (Lf A6 (Lf A7 (Lf A8 (Lf A9 (Lf A10 (Lf A11 Le))))))))))))) (h:Wk A0 A1 A2 A3 A4 A5 A6 A7 A8 A9 A10 A11 G:=by
 constructor
 ·intro r0 r1 r2 r3 r4 r5 r6 r7 r8 r9 r10 r11 m
  (repeat' first|(with_reducible first|refine xO ?_|refine Y ?_|(refine hK _ _ ?_;try clear hK K)|refine And.intro ?_ ?_|exact Ct|intro (K:_→_→Prop) hK|(refine gI fun hg=>?_;try simp only [hC,reduceCtorEq] at hg;try simp only [hg]))|((with_reducible refine E ?_;repeat refine Y ?_);refine eF rfl ?_)|simp (maxSteps:=2000000) (disch:=omega) only [go_sem]|(with_reducible intro hg;try simp only [hC,reduceCtorEq] at hg)|exact Cl|fail)
  all_goals (repeat' first|(with_reducible refine mkE ?_;with_reducible first|exact r0.r|exact r1.r|exact r2.r|exact r3.r|exact r4.r|exact r5.r|exact r6.r|exact r7.r|exact r8.r|exact r9.r|exact r10.r|exact r11.r)|revert ‹_›)
 all_goals first|exact Sl.d|exact Sl.x _):G:=h.go r
theorem bX{A0 A1 A2 A3 A4 A5 A6 A7 A8 A9 A10 A11 G:Prop}(r:(Lf A0 (Lf A1 (Lf A2 (Lf A3 (Lf A4 (Lf A5 (Lf A6 (Lf A7 (Lf A8 (Lf A9 (Lf A10 (Lf A11 Le))))))))))))) (h:Wk A0 A1 A2 A3 A4 A5 A6 A7 A8 A9 A10 A11 G:=by
 constructor
 ·intro r0 r1 r2 r3 r4 r5 r6 r7 r8 r9 r10 r11 m
  (repeat' first|(with_reducible first|refine Z ?_|refine xO ?_|refine Y ?_|(refine hK _ _ ?_;try clear hK K)|refine And.intro ?_ ?_|exact Ct|intro (K:_→_→Prop) hK|(refine gI fun hg=>?_;try simp only [hC,reduceCtorEq] at hg;try simp only [hg]))|(refine AW.i rfl (fun hg=>?_) (fun hg=>?_)<;>try simp only [hC,reduceCtorEq] at hg)|simp (maxSteps:=2000000) (disch:=omega) only [go_sem]|(with_reducible intro hg;try simp only [hC,reduceCtorEq] at hg)|exact Cl|fail)
  all_goals (repeat' first|(with_reducible refine mkE ?_;with_reducible first|exact r0.r|exact r1.r|exact r2.r|exact r3.r|exact r4.r|exact r5.r|exact r6.r|exact r7.r|exact r8.r|exact r9.r|exact r10.r|exact r11.r)|revert ‹_›)
 all_goals first|exact Sl.d|exact Sl.x _):G:=h.go r
end Go.Ab
