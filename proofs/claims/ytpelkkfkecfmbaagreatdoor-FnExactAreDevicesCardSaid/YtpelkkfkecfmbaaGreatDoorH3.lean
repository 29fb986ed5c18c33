/- Part of a proof. -/
import Derived.Test.YtpelkkfkecfmbaaGreatDoorH2
set_option linter.all false
namespace Go.Ab
open Go.RowKit (Below)
section
def jk:Sto->Sto->Prop
 | [],_=>True
 | (b,some c)::o',o=>O o b=some c/\jk o' o
 | (_,none)::o',o=>jk o' o
def nB{o:Sto}:∀ {o':Sto} {b:Nat} {c:List AV},jk o' o->O o' b=some c->O o b=some c
 | [],_,_,_,h=>by simp [O] at h
 | (b',none)::o',b,c,hs,h=>by
  simp only [jk] at hs;by_cases e:b'=b
  ·simp [O,e] at h
  ·simp only [O,if_neg e] at h;exact nB hs h
 | (b',some c')::o',b,c,hs,h=>by
  simp only [jk] at hs;by_cases e:b'=b
  ·subst e;simp [O] at h;subst h;exact hs.1
  ·simp only [O,if_neg e] at h;exact nB hs.2 h
def mM.sub{L:eaa}{B F0:faa}{w0:World}{F:faa}{own:Nat->Own}{fs:Nat->List Nat}{o o':Sto}{w:World}(h:mM L B F0 w0 F own fs o w)(hs:jk o' o):mM L B F0 w0 F own fs o' w :=
 { h with obj:=fun b cells hb=>h.obj b cells (nB hs hb) }
def EndsG.fin{L:eaa}{P:Program}{n:Nat}{fn:Func}{t:daa}{o o':Sto}{rs:List ResultVar}{res:AV}(hr:fn.results=rs.toArray)(h:pj P n rs t o [] (fun xs os=>qD xs=res/\jk o' os)):EndsG L P fn ⟨n,t,o⟩ (fun r os'=>r=res/\os'=o'):=by have h2:EndsG L P fn ⟨n,t,o⟩ (fun r os=>r=res/\jk o' os):=EndsG.res hr h;intro B F0 w0 a w hd;obtain ⟨v,sI,os',F',own',fs',fp,h3,⟨rfl,h4⟩,h5,h6,h7,h8⟩:=h2 B F0 w0 a w hd;exact ⟨v,sI,o',F',own',fs',fp,h3,⟨rfl,rfl⟩,h5.sub h4,h6,h7,h8⟩
theorem Ctr.gf{L:eaa}{P:Program}{f:FuncId}{fn:Func}{c:Code}{os:Sto}{args:List AV}{res:AV}{cs:List (Option (List AV))}{pre:Prop}(he:enters P f=true)(hf:P.funcs[f]? = some fn)(hb:fn.body=some c)(hn:Nat.ble args.length fn.ntmps=true)
  (h:pre->AW L P c ⟨fn.ntmps,sw 0 args,os⟩ (finG L P fn (fun r os'=>r=res/\os'=zipK os cs))):Ctr L P f os args res cs pre :=
 ⟨he,fun hp=>ke.gf hf hb hn (h hp)⟩
theorem Ctr.bd{L:eaa}{P:Program}{f:FuncId}{fn:Func}{c:Code}{os:Sto}{args:List AV}{res:AV}{cs:List (Option (List AV))}{pre:Prop}{n:Nat}(hf:P.funcs[f]?=some fn)(hn:fn.ntmps=n)(h:pre->AW L P c ⟨n,sw 0 args,os⟩ (finG L P fn (fun r os'=>r=res/\os'=zipK os cs)))(hb:fn.body=some c:=by exact rfl)(hl:Nat.ble args.length n=true:=by exact rfl)(he:enters P f=true:=by kernel_rfl):Ctr L P f os args res cs pre:=by subst hn;exact Ctr.gf he hf hb hl h
def aU{P:Program}(n:Nat)(h:enters P n=true:=by kernel_rfl):enters P n=true:=h
def AV.facts(L:eaa):AV->Prop
 | .str l=>l.length<=4611686018427387904
 | .sl _ sz l=>l.length<=L sz
 | .agg l=>AV.qR L l
 | .vp l=>AV.qR L l
 | _=>True
where AV.qR (L:eaa):List AV->Prop
 | []=>True
 | x::xs=>AV.facts L x/\AV.qR L xs
mutual
def Rep.facts{L:eaa}{F:faa}{w:World}:∀ {x:AV} {y:Value} {fp:List Nat},Rep L F w x y fp->x.facts L
 | .str l,_,_,r=>by simp only [Rep] at r;simpa [AV.facts] using r.2.1
 | .sl own sz l,y,fp,r=>by
  simp only [Rep] at r;simp only [AV.facts];rcases r with ⟨_,rfl,_⟩|⟨b,off,cap,vals,fp',_,_,h2,_⟩
  ·simp
  ·exact h2
 | .agg l,y,fp,r=>by
  simp only [Rep] at r;obtain ⟨vs,_,hl⟩:=r;simp only [AV.facts];exact au.facts hl
 | .vp l,y,fp,r=>by
  simp only [Rep] at r;obtain ⟨_,b,off,vals,_,_,_,hl⟩:=r;simp only [AV.facts];exact au.facts hl
 | .dead,_,_,_=>by simp [AV.facts]
 | .v _,_,_,_=>by simp [AV.facts]
 | .arr ..,_,_,_=>by simp [AV.facts]
 | .ptr ..,_,_,_=>by simp [AV.facts]
 | .tup _,_,_,_=>by simp [AV.facts]
 | .fn ..,_,_,_=>by simp [AV.facts]
 | .cnd ..,_,_,_=>by simp [AV.facts]
 | .pin ..,_,_,_=>by simp [AV.facts]
 | .slo ..,_,_,_=>by simp [AV.facts]
def au.facts{L:eaa}{F:faa}{w:World}:∀ {l:List AV} {vs:List Value} {fp:List Nat},au L F w l vs fp->AV.facts.AV.qR L l
 | [],_,_,_=>by simp [AV.facts.AV.qR]
 | x::xs,vs,fp,r=>by
  simp only [au] at r;obtain ⟨y,vs',f1,f2,_,_,hx,hxs⟩:=r;simp only [AV.facts.AV.qR];exact ⟨Rep.facts hx,au.facts hxs⟩
end
section
variable {L : Nat -> Nat} {P : Program} {n : Nat} {t : List (Nat × AV)} {o : Sto} {Q : Exit -> AS -> Prop}
def AW.fact{c:Code}(i:Nat)(h:(T t i).facts L->AW L P c ⟨n,t,o⟩ Q):AW L P c ⟨n,t,o⟩ Q:=by intro B F0 w0 a w hd;refine h ?_ B F0 w0 a w hd;obtain ⟨F,ow,fp,fs,h⟩:=hd;exact (h.slots i).facts
def AW.Q9{c:Code}(i:Nat){own:Bool}{sz:Nat}{l:List AV}{x:AV}(hi:T t i=.sl own sz l)(hx:x∈l)(h:x.facts L->AW L P c ⟨n,t,o⟩ Q):AW L P c ⟨n,t,o⟩ Q:=by
 intro B F0 w0 a w hd;refine h ?_ B F0 w0 a w hd;obtain ⟨F,ow,fp,fs,h⟩:=hd;have hr:=h.slots i;simp only at hr;rw [hi] at hr;simp only [Rep] at hr;rcases hr with ⟨_,rfl,_⟩|⟨b,off,cap,vals,fp',_,_,_,_,he,_⟩
 ·simp at hx
 ·obtain ⟨k,hk,e⟩:=List.getElem_of_mem hx;obtain ⟨y,f,_,_,hr,_⟩:=he.get (i:=k) (x:=x) (by rw [List.getElem?_eq_getElem hk,e]);exact hr.facts
def AW.aw{c:Code}(ks live:List Nat)(I:Nat->List AV->Sto->Prop)(m:Nat)(o0:Sto)(ho:jk o0 o)(h0:I m (ks.map (T t)) o0)
  (round:∀ m xs o',I m xs o'->AW L P c ⟨n,ks.zip xs++dP t live,o'⟩ (thenQ (fun s'=>s'.n=n/\∃ m' xs' o'',m'<m/\I m' xs' o''/\dP s'.t (ks++live)=ks.zip xs'++dP t live/\jk o'' s'.o) Q)):AW L P (.loop c) ⟨n,t,o⟩ Q:=by
 have key:ks.zip (ks.map (T t))++dP t live=dP t (ks++live):=by
  simp only [dP,List.map_append]
  congr 1
  clear round h0
  induction ks with
  | nil=>rfl
  | cons k ks ih=>simp [ih]
 refine AW.X8 (ks++live) (fun m t' o'=>∃ xs,I m xs o'/\t'=ks.zip xs++dP t live) m o0 (fun b cells h=>nB ho h) ⟨_,h0,key.symm⟩ ?_;rintro m t' o' ⟨xs,hI,rfl⟩;refine (round m xs o' hI).mono ?_;intro e s' h
 cases e with
 | normal =>
  obtain ⟨hn,m',xs',o'',hm,hI',ht,hs⟩:=h;exact ⟨hn,m',o'',hm,⟨xs',hI',ht⟩,fun b cells h=>nB hs h⟩
 | _=>exact h
end
theorem CallP.ctr{L:eaa}{P:Program}{os:Sto}{la:List AV}{G:Bool}{f:FuncId}{args:List AV}{K:AV->Prop}{res:AV}{cs:List (Option (List AV))}{pre:Prop}[h:Ctr L P f [] args res cs pre](hn:AV.nownL args=true)(hp:G=true->pre)(hK:K res):CallP L P os la G f args (K:=⟨K⟩) :=
 ⟨res,fun hg=>ud.pure h.en hn (h.pure (hp hg)),hK⟩
def wrap_u8{x:Int}(h1:0<=x)(h2:x<=255):IntKind.u8.wrap x=x:=by rw [IntKind.wrap_u8];omega
def LI(f:Operand)(args:Array Operand)(ts:Array TypeId):(Call.operands ⟨.value f,args,ts⟩).toList=f::args.toList:=by simp [Call.operands]
def Hs(b:Builtin)(args:Array Operand)(ts:Array TypeId):(Call.operands ⟨.builtin b,args,ts⟩).toList=args.toList:=by simp [Call.operands]
def lS(s:List UInt8)(n:Int):at8 s n<=255:=by unfold at8;have:=((s[n.toNat]?).getD 0).toNat_lt;omega
def lT(s:List UInt8)(n:Int):0<=at8 s n:=by unfold at8;omega
def Ow(s:List UInt8)(n:Int):IntKind.i64.wrap (at8 s n)=at8 s n:=by have:=lS s n;have:=lT s n;exact wrap_i64 Ir Ir
def thenQ.n{next:AS->Prop}{Q:Exit->AS->Prop}{s:AS}(h:next s):thenQ next Q .normal s:=h
def thenQ.e{next:AS->Prop}{Q:Exit->AS->Prop}{s:AS}{id:Nat}(h:Q (.exit id) s):thenQ next Q (.exit id) s:=h
def thenQ.r{next:AS->Prop}{Q:Exit->AS->Prop}{s:AS}(h:Q .ret s):thenQ next Q .ret s:=h
def blockQ.n{i:Nat}{Q:Exit->AS->Prop}{s:AS}(h:Q .normal s):blockQ i Q .normal s:=h
def blockQ.r{i:Nat}{Q:Exit->AS->Prop}{s:AS}(h:Q .ret s):blockQ i Q .ret s:=h
def blockQ.eq{i:Nat}{Q:Exit->AS->Prop}{s:AS}(h:Q .normal s):blockQ i Q (.exit i) s:=by simp only [blockQ,if_true];exact h
def blockQ.ne{i j:Nat}{Q:Exit->AS->Prop}{s:AS}(hne:Nat.beq j i=false)(h:Q (.exit j) s):blockQ i Q (.exit j) s:=by
 have:¬ j=i:=fun e=>by rw [e,Nat.beq_refl] at hne;cases hne
 simp only [blockQ,if_neg this];exact h
def gZ(s:List UInt8)(j:Nat):at8 s (j:Int)=((at_ s j).toNat:Int):=rfl
def bL{α:Type}{f:α->AV}{sz:Nat}(h:∀ x,(f x).elem sz=true)(l:List α):(l.map f).all (AV.elem sz)=true:=by simp only [List.all_map,List.all_eq_true];intro x _;exact h x
def RB(l:List (List UInt8)):(l.map AV.str).all (AV.elem 1)=true:=bL (fun _=>rfl) l
def cf{α:Type}{f:α->AV}(h:∀ x,(f x).cells.all AV.one=true)(l:List α):((l.map f).flatMap AV.cells).all AV.one=true:=by simp only [List.all_flatMap,List.all_map,List.all_eq_true];intro x _;exact h x
def IK(l:List (List UInt8)):((l.map AV.str).flatMap AV.cells).all AV.one=true:=cf (fun _=>rfl) l
def Qw(l:List UInt8):(cX l).all (AV.elem 1)=true:=bL (fun _=>rfl) l
def Qu(l:List UInt8):((cX l).flatMap AV.cells).all AV.one=true:=cf (fun _=>rfl) l
def Qv(l:List UInt8):(cX l).length=l.length:=by simp [cX]
def YH(k:Nat):(k:Int)+1=((k+1:Nat):Int):=by omega
def Ri{k:Nat}(h:1<=k):(k:Int) - 1=((k - 1:Nat):Int):=by omega
def YG(a b:Nat):(a:Int)+(b:Int)=((a+b:Nat):Int):=by omega
def YF{a b:Nat}(h:b<=a):(a:Int) - (b:Int)=((a - b:Nat):Int):=by omega
def finG.n{L:eaa}{P:Program}{fn:Func}{Q:AV->Sto->Prop}{s:AS}(h:EndsG L P fn s Q):finG L P fn Q .normal s:=h
def cj{b:Nat}{c c':List AV}{o:Sto}(h:c=c'):jk [(b,some c)] ((b,some c')::o):=by subst h;exact ⟨fq _ _ _,trivial⟩
attribute [go_sem] EI RJ nO sL Nat.zero_mul Nat.zero_le if_false Nat.mul_one AV.Nq AV.QZ OQ AV.cpy AV.hdr fJ AV.aaz mi AV.unp mC AV.oH q8 AV.det kH Ow BG List.tail_cons List.tail_nil RB IK Qw Qu Qv C9 YH Ri YG YF Int.ofNat_inj List.all_append Nat.add_sub_cancel S Ca evK stS stO sL LI Hs Wn stp nvc bxN alF sbs kJ kY EN pd Bb ES apW Option.isNone_none Option.isNone_some isE AV.dd EG AV.unc BO GdT GdF mG BC wi AV.keys AV.jN Iw Rs vA mergeO zipK nfO U8 U7 RW pj qD jk List.isEmpty_nil List.isEmpty_cons Nat.beq List.zip_cons_cons List.zip_nil_left List.set_cons_zero List.set_cons_succ List.replicate_succ List.replicate_zero Bool.false_and Bool.and_false Bool.or_false Bool.or_true Bool.false_or Bool.true_or Bool.not_not Bool.or_self List.range'_succ List.range'_zero AV.facts AV.facts.AV.qR wrap_i64 wrap_u8 List.length_append Option.map_none Nat.reduceSub Nat.sub_self Option.isSome_none
def Wc:(type_of% @decide_eq_true_eq)/\(type_of% @decide_eq_false_iff_not)/\(type_of% @Bool.and_eq_true)/\(type_of% @Bool.and_eq_false_imp)/\(type_of% @Bool.or_eq_true)/\(type_of% @Bool.or_eq_false_iff)/\(type_of% @Bool.not_eq_true')/\(type_of% @Bool.not_eq_false')/\(type_of% @beq_iff_eq.{0})/\(type_of% @beq_eq_false_iff_ne.{0})/\(type_of% @bne_iff_ne.{0})/\(type_of% @bne_eq_false_iff_eq.{0})/\(type_of% @Int.not_lt)/\(type_of% @Int.not_le)/\(type_of% @Bool.cond_true_left)/\(type_of% @Bool.cond_false_right)/\(type_of% @Bool.cond_true_right)/\(type_of% @Bool.cond_false_left)/\(type_of% @beq_false)/\(type_of% @beq_true)/\(type_of% @Bool.not_not)/\(type_of% @Bool.and_true)/\(type_of% @Bool.true_and)/\(type_of% @Bool.or_false)/\(type_of% @Bool.false_or)/\(type_of% @and_true)/\(type_of% @true_and)/\(type_of% @Bool.false_eq_true)/\(type_of% @Bool.true_eq_false)/\(type_of% @ne_eq.{1})/\(type_of% @not_true_eq_false)/\(type_of% @not_false_eq_true)/\(type_of% @or_self)/\(type_of% @or_false)/\(type_of% @false_or)/\(type_of% @and_false)/\(type_of% @false_and):=⟨@decide_eq_true_eq,@decide_eq_false_iff_not,@Bool.and_eq_true,@Bool.and_eq_false_imp,@Bool.or_eq_true,@Bool.or_eq_false_iff,@Bool.not_eq_true',@Bool.not_eq_false',@beq_iff_eq.{0},@beq_eq_false_iff_ne.{0},@bne_iff_ne.{0},@bne_eq_false_iff_eq.{0},@Int.not_lt,@Int.not_le,@Bool.cond_true_left,@Bool.cond_false_right,@Bool.cond_true_right,@Bool.cond_false_left,@beq_false,@beq_true,@Bool.not_not,@Bool.and_true,@Bool.true_and,@Bool.or_false,@Bool.false_or,@and_true,@true_and,@Bool.false_eq_true,@Bool.true_eq_false,@ne_eq.{1},@not_true_eq_false,@not_false_eq_true,@or_self,@or_false,@false_or,@and_false,@false_and⟩
end
section
section
variable {L : Nat -> Nat} {n : Nat} {t : List (Nat × AV)} {o : Sto} {Q : AS -> Prop}
def Imp.nX{b0 k sz:Nat}{cells0 l:List AV}(hO0:O o b0=some cells0)(hk:cells0[k]? = some (.sl true sz l))(hel:∀ x,x∈l->x.elem sz=true)
  (h:∀ b,fU o b->Q ⟨n,t,(b,some (l.flatMap AV.cells))::(b0,some (cells0.set k (.arr b 0 l.length sz)))::o⟩)
  (hnil:l=[]->Q ⟨n,t,(b0,some (cells0.set k (.v (.slice none 0 0))))::o⟩):Imp L ⟨n,t,o⟩ Q:=by
 intro B F0 w0 a w hd;obtain ⟨F,own,fp,fs,hd⟩:=hd;obtain ⟨uN,EB,uO,c0,Ty0,mF,Er,hc0,wU,K1⟩:=hd.obj b0 cells0 hO0;obtain ⟨y,f1,fx,f2,hvk,qN,hr,hset⟩:=K1.put hk;simp only [Rep] at hr;rcases hr with ⟨e1|⟨e0,_⟩,e,e3⟩|⟨b,off,cap,vals,fp',hy,h1,h2,hrow,he,ho⟩
 ·refine ⟨_,hnil e,F,own,fp,fun q=>if q=b0 then f1++([]++f2) else fs q,{ hd with obj:=?_ }⟩;have EA:=hset (.v (.slice none 0 0)) [] (by simp only [Rep];exact ⟨e1,by trivial⟩);intro q cells hO;simp only [O] at hO;by_cases e2:b0=q
  ·subst e2;rw [if_pos rfl] at hO;cases hO;simp only [if_true];have hnd:=EB;rw [qN,e3] at hnd;refine ⟨uN,hnd,fun q hq=>uO q (by rw [qN,e3];exact hq),c0,Ty0,mF,Er,hc0,wU,EA⟩
  ·rw [if_neg e2] at hO;have e2':¬ q=b0:=fun h=>e2 h.symm;simp only [if_neg e2'];exact hd.obj q cells hO
 ·cases e0
 obtain ⟨hfp,rfl,iD⟩:fx=b::fp'/\off=0/\mE w b (off+cap * sz):=by
  rcases ho with ⟨_,h⟩|⟨e,_⟩
  ·exact h
  ·cases e
 have hmem:∀ q,q∈fx->own q=.obj b0:=fun q hq=>uO q (by rw [qN];simp [hq])
 have hsb:own b=.obj b0:=hmem b (by rw [hfp];simp)
 have aeJ:b≠b0:=fun e=>by rw [e,uN] at hsb;cases hsb
 have V3:=EB;rw [qN,List.nodup_append] at V3;obtain ⟨hn1,hn2,hn3⟩:=V3;rw [List.nodup_append] at hn2;obtain ⟨hnx,hn4,hn5⟩:=hn2;have hnd:=hnx;rw [hfp,List.nodup_cons] at hnd
 have hfr:fU o b:=by
  intro b' cells hO e;have:=(hd.obj b' cells hO).1;rw [e,hsb] at this;cases this
 refine ⟨_,h b hfr,?_⟩;obtain ⟨c,Ty,rest,hc,hcl⟩:=y6 hrow iD
 classical
 let own':Nat->Own:=fun q=>if q=b then .key else if q∈fp' then .obj b else own q
 have K4:∀ q,q ∉ fx->own' q=own q:=fun q hq=>by
  have n1:q≠b:=fun e=>hq (by rw [hfp,e];simp)
  have n2:q ∉ fp':=fun hm=>hq (by rw [hfp];simp [hm]);simp only [own',if_neg n1,if_neg n2]
 have hnot:∀ q,own q≠.obj b0->own' q=own q:=fun q hq=>K4 q fun hm=>hq (hmem q hm);refine ⟨F,own',fp,fun q=>if q=b then fp' else if q=b0 then f1++f2 else fs q,{ below:=hd.below,hB:=hd.hB,tb:=hd.tb,f0:=hd.f0,fl:=?_,ol:=?_,defers:=hd.defers,size:=hd.size,slots:=hd.slots,sn:=hd.sn,so:=?_,obj:=?_ }⟩
 ·intro q hq;have:=hd.fl q hq;exact ⟨by rw [hnot q (by rw [this.1];simp)];exact this.1,this.2⟩
 ·intro q hq;by_cases e1:q∈fx
  ·exact hd.ol q (by rw [hmem q e1];simp)
  ·rw [K4 q e1] at hq;exact hd.ol q hq
 ·intro j q hq;have:=hd.so j q hq;rw [hnot q (by rw [this];simp)];exact this
 ·intro q cells hO;simp only [O] at hO;by_cases e:b=q
  ·subst e;rw [if_pos rfl] at hO;cases hO;refine ⟨by simp [own'],by simpa using hnd.2,fun q hq=>?_,c,Ty,vals,rest,hc,hcl,by simpa using bZ.flat hel he⟩;simp only [if_true] at hq;have n1:q≠b:=fun e=>hnd.1 (by rw [<- e];exact hq);simp only [own',if_neg n1,if_pos hq]
  ·rw [if_neg e] at hO;have e':¬ q=b:=fun h=>e h.symm;simp only [if_neg e'];by_cases e2:b0=q
   ·subst e2;rw [if_pos rfl] at hO;cases hO;simp only [if_true];refine ⟨by rw [hnot b0 (by rw [uN];simp)];exact uN,?_,fun q hq=>?_,c0,Ty0,mF,Er,hc0,wU,?_⟩
    ·rw [List.nodup_append];exact ⟨hn1,hn4,fun a ha b hb=>hn3 a ha b (by simp [hb])⟩
    ·have hq':q∈fs b0:=by rw [qN];rcases List.mem_append.1 hq with h|h<;>simp [h]
     have:q ∉ fx:=fun hm=>by
      rcases List.mem_append.1 hq with h|h
      ·exact hn3 q h q (by simp [hm]) rfl
      ·exact hn5 q hm q h rfl
     rw [K4 q this];exact uO q hq'
    ·have:=hset (.arr b 0 l.length sz) [] (by simp only [Rep];exact ⟨trivial,cap,hy,h1,h2,iD⟩);simpa using this
   ·rw [if_neg e2] at hO;have e2':¬ q=b0:=fun h=>e2 h.symm;obtain ⟨g1,g2,g3,g4⟩:=hd.obj q cells hO;simp only [if_neg e2'];exact ⟨by rw [hnot q (by rw [g1];simp)];exact g1,g2,fun k hk=>by rw [hnot k (by rw [g3 k hk];simpa using e2')];exact g3 k hk,g4⟩
end
def EndsG.imp{L:eaa}{P:Program}{fn:Func}{s:AS}{Q:AV->Sto->Prop}(h:Imp L s (fun s'=>EndsG L P fn s' Q)):EndsG L P fn s Q:=by intro B F0 w0 a w hd;obtain ⟨s',h1,h2⟩:=h B F0 w0 a w hd;exact h1 B F0 w0 a w h2
def iA{b1 b2:Nat}{c1 c1' c2 c2':List AV}{o:Sto}(hne:b1≠b2)(h1:c1=c1')(h2:c2=c2'):jk [(b1,some c1),(b2,some c2)] ((b1,some c1')::(b2,some c2')::o):=by subst h1 h2;exact ⟨fq _ _ _,by rw [vA hne,fq],trivial⟩
theorem nI{α:Type}[Inhabited α](f:α->AV)(zs:List Value)(sz:Nat)(hf:∀ x,(f x).cells.length=sz)(hz:zs.length=sz)(l:List α)(k:Nat)(hk:k<l.length) :
  (mkC f zs l k).take (k * sz)++(f (at_ l k)).cells++(mkC f zs l k).drop (k * sz+sz)=mkC f zs l (k+1):=by
 have:at_ l k=l[k]:=by unfold at_;rw [List.getElem?_eq_getElem hk];rfl
 rw [this];exact Pm f zs sz hf hz l k hk
def AW.made{L:eaa}{P:Program}{c:Code}{n:Nat}{t:daa}{Q:Exit->AS->Prop}{α:Type}{f:α->AV}{zs:List Value}{l:List α}{k b sz:Nat}(i:Nat)(hT:T t i=.arr b 0 l.length sz)(hk:¬ k<l.length)(hkl:k<=l.length)(hel:∀ x,(f x).elem sz=true)
  (h:AW L P c ⟨n,(i,.sl true sz (l.map f))::t,[]⟩ Q):AW L P c ⟨n,t,[(b,some (mkC f zs l k))]⟩ Q:=by
 have hk':k=l.length:=by omega
 subst hk';rw [SC];refine AW.imp (Imp.bind (Q:=fun s'=>s'=⟨n,(i,.sl true sz (l.map f))::t,(b,none)::[(b,some ((l.map f).flatMap AV.cells))]⟩) (Imp.fold i (b:=b) (len:=l.length) (sz:=sz) (cells:=(l.map f).flatMap AV.cells) (l:=l.map f) hT (fq _ _ _) QC ?_ ?_ rfl) ?_)
 ·rw [List.take_of_length_le];rw [db (sz:=sz) (by intro z hz;simp only [List.mem_map] at hz;obtain ⟨x,_,rfl⟩:=hz;exact hel x)];simp
 ·intro z hz;simp only [List.mem_map] at hz;obtain ⟨x,_,rfl⟩:=hz;exact hel x
 ·rintro _ rfl;exact Imp.weak h (fun _=>.inl rfl) (fun b cells hb=>by simp [O] at hb)
theorem xq.of{L:eaa}{P:Program}{f:FuncId}{sz:Nat}{l rest:List AV}{res:AV}{l':List AV}{pre:Prop}(he:enters P f=true)(h1:∀ b,Ctr L P f [(b,some (l.flatMap AV.cells))] (.arr b 0 l.length sz::rest) res [some (l'.flatMap AV.cells)] pre)
  (h2:l=[]->Ctr L P f [] (.sl false sz []::rest) res [] pre/\l'=[]) (hlen:l'.length=l.length) (hel:∀ x,x∈l->x.elem sz=true) (jH:∀ x,x∈l'->x.elem sz=true):xq L P f sz l rest res l' pre :=
 ⟨he,fun hp=>⟨fun b=>(h1 b).out hp,fun e=>⟨(h2 e).1.pure hp,(h2 e).2⟩,hlen,hel,jH⟩⟩
def NM(l:List (List UInt8)):(l.map AV.str).flatMap AV.cells=l.map AV.str:=by
 induction l with
 | nil=>rfl
 | cons c l ih=>simp only [List.map_cons,List.flatMap_cons,ih];rfl
def Rt:unb []=some []:=rfl
def OB{n:Int}{l:List AV}(h0:0<=n)(h1:n<=255):unb (.v (.int .u8 n)::l)=(unb l).map (UInt8.ofNat n.toNat::·):=by simp only [unb];rw [if_pos ⟨h0,h1⟩]
def E6(n:Nat):Int.tmod (n:Int) 10=((n % 10:Nat):Int):=by rw [Int.tmod_eq_emod_of_nonneg Ir];omega
def vS(n:Nat):Int.tdiv (n:Int) 10=((n / 10:Nat):Int):=by rw [Int.tdiv_eq_ediv_of_nonneg Ir];omega
attribute [go_sem] NM Rt OB E6 vS
end
end Go.Ab
namespace Go.Ab
section
class fZ(L:eaa)(P:Program)(f:FuncId)(os:Sto)(args:List AV)(Q:outParam (AV->Sto->Prop))(pre:outParam Prop):Prop where
 en:enters P f=true
 out:pre->ke L P f os args Q
def GK(os rs:Sto)(Q:AV->Sto->Prop)[K:Hd (AV->Sto->Prop)]:Prop:=∀ res os',Q res os'->os'.map Prod.fst=rs.map Prod.fst/\K.v res (mergeO os os')
def GK.intro{os rs:Sto}{Q:AV->Sto->Prop}{K:AV->Sto->Prop}(h:∀ res os',Q res os'->os'.map Prod.fst=rs.map Prod.fst/\K res (mergeO os os')):GK os rs Q (K:=⟨K⟩):=h
theorem CallN.abG{L:eaa}{P:Program}{os rs:Sto}{la:List AV}{bo:Option (Nat×Nat×List AV)}{rest:List AV}{f:FuncId}{args:List AV}{K:AV->Sto->Prop}{KB:Nat->Nat->List AV->AV->Prop}{KX:yp}
  {Q:AV->Sto->Prop} {pre:Prop} [h:fZ L P f rs args Q pre] (hn:AV.nownL args=true) (hp:pre) (hK:GK os rs Q (K:=⟨K⟩)):CallN L P os rs la bo rest f args (K:=⟨K⟩) (KB:=⟨KB⟩) (KX:=⟨KX⟩) :=
 CallN.gen h.en hn (h.out hp) hK
theorem fZ.gf{L:eaa}{P:Program}{f:FuncId}{fn:Func}{c:Code}{os:Sto}{args:List AV}{Q:AV->Sto->Prop}{pre:Prop}(he:enters P f=true)(hf:P.funcs[f]? = some fn)(hb:fn.body=some c)(hn:Nat.ble args.length fn.ntmps=true)
  (h:pre->AW L P c ⟨fn.ntmps,sw 0 args,os⟩ (finG L P fn Q)):fZ L P f os args Q pre :=
 ⟨he,fun hp=>ke.gf hf hb hn (h hp)⟩
class xp(L:eaa)(P:Program)(f:FuncId)(args:List AV)(Q:outParam (List AV->Prop))(pre:outParam Prop):Prop where
 en:enters P f=true
 out:pre->ke L P f [] args (fun res os'=>∃ b cells,res=.ptr b 0/\os'=[(b,some cells)]/\Q cells)
def NK(os:Sto)(Q:List AV->Prop)[K:Hd (AV->Sto->Prop)]:Prop:=∀ b cells,Q cells->nfO os b->K.v (.ptr b 0) ((b,some cells)::os)
theorem CallN.aaE{L:eaa}{P:Program}{os:Sto}{la:List AV}{bo:Option (Nat×Nat×List AV)}{rest:List AV}{f:FuncId}{args:List AV}{K:AV->Sto->Prop}{KB:Nat->Nat->List AV->AV->Prop}{KX:yp}
  {Q:List AV->Prop} {pre:Prop} [h:xp L P f args Q pre] (hn:AV.nownL args=true) (hp:pre) (hK:NK os Q (K:=⟨K⟩)):CallN L P os [] la bo rest f args (K:=⟨K⟩) (KB:=⟨KB⟩) (KX:=⟨KX⟩) :=
 ⟨h.en,.inl ⟨hn,_,h.out hp,by
  rintro res os' ⟨b,cells,rfl,rfl,hq⟩
  exact .inr ⟨rfl,b,cells,rfl,hK b cells hq⟩⟩⟩
theorem xp.gf{L:eaa}{P:Program}{f:FuncId}{fn:Func}{c:Code}{args:List AV}{Q:List AV->Prop}{pre:Prop}(he:enters P f=true)(hf:P.funcs[f]? = some fn)(hb:fn.body=some c)(hn:Nat.ble args.length fn.ntmps=true)
  (h:pre->AW L P c ⟨fn.ntmps,sw 0 args,[]⟩ (finG L P fn (fun res os'=>∃ b cells,res=.ptr b 0/\os'=[(b,some cells)]/\Q cells))):xp L P f args Q pre :=
 ⟨he,fun hp=>ke.gf hf hb hn (h hp)⟩
end
section
class Rl(G:Prop)(R:outParam Prop):Prop where
 r:R->G
class Rz(G:Prop)(R:outParam Prop):Prop where
 r:R->G
class Re(G:Prop)(R:outParam Prop):Prop where
 r:R->G
theorem Y{G R:Prop}[h:Rl G R](p:R):G:=h.r p
theorem Z{G R:Prop}[h:Rz G R](p:R):G:=h.r p
theorem E{G R:Prop}[h:Re G R](p:R):G:=h.r p
def exN:Exit->Nat->Bool
 | .exit j,i=>Nat.beq j i
 | _,_=>true
def Og{i:Nat}{e:Exit}{Q:Exit->AS->Prop}{s:AS}(hne:exN e i=false)(h:Q e s):blockQ i Q e s:=by cases e<;>simp only [exN,reduceCtorEq] at hne;exact blockQ.ne hne h
section
variable {L : Nat -> Nat} {P : Program} {n : Nat} {t : List (Nat × AV)} {o : Sto} {Q : Exit -> AS -> Prop} {id : Nat} {ops : Array Oper} {c x y : Code} {s : AS}
instance aex:Rl (AW L P (.seq x y) s Q) (AW L P x s (thenQ (fun s'=>AW L P y s' Q) Q)):=⟨AW.seq⟩
instance adh:Rl (AW L P (.block id c) s Q) (AW L P c s (blockQ id Q)):=⟨AW.block⟩
instance adX:Rl (AW L P .skip s Q) (Q .normal s):=⟨AW.skip⟩
instance ad1:Rl (AW L P (.exit id) s Q) (Q (.exit id) s):=⟨AW.exit⟩
instance adf{next:AS->Prop}:Rl (thenQ next Q .normal s) (next s):=⟨thenQ.n⟩
instance adg{next:AS->Prop}:Rl (thenQ next Q (.exit id) s) (Q (.exit id) s):=⟨thenQ.e⟩
instance ade{next:AS->Prop}:Rl (thenQ next Q .ret s) (Q .ret s):=⟨thenQ.r⟩
instance ack:Rl (blockQ id Q .normal s) (Q .normal s):=⟨blockQ.n⟩
instance acj:Rl (blockQ id Q .ret s) (Q .ret s):=⟨blockQ.r⟩
instance aci{e:Exit}:Rl (blockQ id Q e s) (exN e id=false/\Q e s):=⟨fun h=>Og h.1 h.2⟩
instance acm:Rl (blockQ id Q (.exit id) s) (Q .normal s):=⟨blockQ.eq⟩
instance adZ{fn:Func}{R:AV->Sto->Prop}:Rl (finG L P fn R .ret s) (EndsG L P fn s R):=⟨fun h=>h⟩
instance aei{fn:Func}{R:AV->Sto->Prop}:Re (finG L P fn R .normal s) (EndsG L P fn s R):=⟨finG.n⟩
instance aeL:Re (AW L P .ret s Q) (Q .ret s):=⟨AW.ret⟩
instance aey{α:Type}[Inhabited α]{G:Bool}{f:α->AV}{l:List α}{n:Int}{sz:Nat}{K:AV->Prop}:Rl (idxVc G (l.map f) n sz (K:=⟨K⟩)) ((G=true->0<=n/\n.toNat<l.length)/\(f (at_ l n.toNat)).elem sz=true/\K (f (at_ l n.toNat))):=⟨fun h=>idxVc.map h.1 h.2.1 h.2.2⟩
instance rBs{sz:Nat}{l:List AV}{C:List Nat}{K:AV->List Nat->Prop}:Rl (bsK sz l C (K:=⟨K⟩)) (K (.sl true sz l) C):=⟨.inl⟩
instance adI:Rz (AW L P (.region id ops false) ⟨n,t,o⟩ Q) (∀ K:daa->Sto->Prop,(∀ t o,Q .normal ⟨n,t,o⟩->K t o)->Wn L P ops n K (List.range ops.size) [] t o):=⟨AW.O2⟩
instance acP:Rz (AW L P (.seq (.region id ops false) c) ⟨n,t,o⟩ Q) (∀ K:daa->Sto->Prop,(∀ t o,AW L P c ⟨n,t,o⟩ Q->K t o)->Wn L P ops n K (List.range ops.size) [] t o):=⟨AW.XM⟩
instance adJ [fQ P]:Rz (AW L P (.region id ops true) ⟨n,t,o⟩ Q) (∀ K:daa->List (AV×List Nat)->Prop,(∀ t D,(drawOK ops (D.map Prod.snd)=true/\∀ K':daa->Sto->Prop,(∀ t o,Q .normal ⟨n,t,o⟩->K' t o)->Wn L P ops n K' (List.range' D.length (ops.size - D.length)) [] t o)->K t D) ->
   W L P ops [] n o (fun t D _=>K t D) (List.range' 0 ops.size) t []):=⟨AW.LD⟩
instance acQ [fQ P]:Rz (AW L P (.seq (.region id ops true) c) ⟨n,t,o⟩ Q) (∀ K:daa->List (AV×List Nat)->Prop,(∀ t D,(drawOK ops (D.map Prod.snd)=true/\∀ K':daa->Sto->Prop,(∀ t o,AW L P c ⟨n,t,o⟩ Q->K' t o)->Wn L P ops n K' (List.range' D.length (ops.size - D.length)) [] t o)->K t D) ->
   W L P ops [] n o (fun t D _=>K t D) (List.range' 0 ops.size) t []):=⟨AW.XP⟩
def AW.i{c:Operand}{x y:Code}{p:Bool}(hc:ev t c=.v (.bool p))(ht:p=true->AW L P x ⟨n,t,o⟩ Q)(hf:p=false->AW L P y ⟨n,t,o⟩ Q):AW L P (.cond c x y) ⟨n,t,o⟩ Q:=AW.cond hc ht hf
end
section
variable {L : Nat -> Nat} {P : Program} {os rs : Sto} {la : List AV} {bo : Option (Nat × Nat × List AV)} {rest : List AV} {f : FuncId} {args : List AV} {K : AV -> Sto -> Prop} {KB : Nat -> Nat -> List AV -> AV -> Prop} {KX : yp}
instance cG{Q:AV->Sto->Prop}{pre:Prop}[h:fZ L P f rs args Q pre]:Rl (CallN L P os rs la bo rest f args (K:=⟨K⟩) (KB:=⟨KB⟩) (KX:=⟨KX⟩)) (AV.nownL args=true/\pre/\GK os rs Q (K:=⟨K⟩)):=⟨fun h=>CallN.abG h.1 h.2.1 h.2.2⟩
instance cN{Q:List AV->Prop}{pre:Prop}[h:xp L P f args Q pre]:Rl (CallN L P os [] la bo rest f args (K:=⟨K⟩) (KB:=⟨KB⟩) (KX:=⟨KX⟩)) (AV.nownL args=true/\pre/\NK os Q (K:=⟨K⟩)):=⟨fun h=>CallN.aaE h.1 h.2.1 h.2.2⟩
instance cZ{x0:AV}{lar:List AV}{i sz:Nat}{l:List AV}{res:AV}{l':List AV}{pre:Prop}[h:xq L P f sz l lar res l' pre]:Rl (CallN L P os rs (x0::lar) (some (i,sz,l)) rest f args (K:=⟨K⟩) (KB:=⟨KB⟩) (KX:=⟨KX⟩)) (AV.nownL lar=true/\pre/\KX.kb i sz l' res):=⟨fun h=>CallN.abP h.1 h.2.1 h.2.2⟩
instance cC{i sz:Nat}{l:List AV}{res:AV}{l':List AV}{pre:Prop}[h:xq L P f sz l rest res l' pre]:Rl (CallN L P os rs la (some (i,sz,l)) rest f args (K:=⟨K⟩) (KB:=⟨KB⟩) (KX:=⟨KX⟩)) (AV.nownL rest=true/\pre/\KB i sz l' res):=⟨fun h=>CallN.bor h.1 h.2.1 h.2.2⟩
instance cB{res:AV}{cs:List (Option (List AV))}{pre:Prop}[h:Ctr L P f [] la res cs pre]:Rl (CallN L P os rs la bo rest f args (K:=⟨K⟩) (KB:=⟨KB⟩) (KX:=⟨KX⟩)) (res.closed=true/\pre/\K res os):=⟨fun h=>CallN.low h.1 h.2.1 h.2.2⟩
instance cA{res:AV}{cs:List (Option (List AV))}{pre:Prop}[h:Ctr L P f rs args res cs pre]:Rl (CallN L P os rs la bo rest f args (K:=⟨K⟩) (KB:=⟨KB⟩) (KX:=⟨KX⟩)) (AV.nownL args=true/\pre/\K res (mergeO os (zipK rs cs))):=⟨fun h=>CallN.ctr h.1 h.2.1 h.2.2⟩
instance cF{res:AV}{pre:Prop}[h:iM L P f la res pre]:Rl (CallN L P os rs la bo rest f args (K:=⟨K⟩) (KB:=⟨KB⟩) (KX:=⟨KX⟩)) (pre/\KX.kf res):=⟨fun h=>CallN.fz h.1 h.2⟩
instance cP{G:Bool}{K:AV->Prop}{res:AV}{cs:List (Option (List AV))}{pre:Prop}[h:Ctr L P f [] args res cs pre]:Rl (CallP L P os la G f args (K:=⟨K⟩)) (AV.nownL args=true/\(G=true->pre)/\K res):=⟨fun h=>CallP.ctr h.1 h.2.1 h.2.2⟩
end
instance aez{L:eaa}{P:Program}{os:Sto}{t:daa}{d:Option Nat}{ty':TypeId}{x:Operand}{K:daa->Sto->Prop}:Rl (BoxVc L P os t d ty' x (K:=⟨K⟩)) (ovc L P os (ev t) true (.box ty' x) (fun x C=>K (put (killL t C) d x) os)):=⟨BoxVc.vp⟩
def xO{L:eaa}{P:Program}{os:Sto}{t:daa}{d:Option Nat}{ty':TypeId}{x:Operand}{K:daa->Sto->Prop}
  (h:match ty P ty' with
   | some (_,m)=>(ev t x).elem m=true/\∀ b,nfO os b->K (put (killL t (kills t [x])) d (.ptr b 0)) ((b,some (ev t x).cells)::os)
   | none=>False):BoxVc L P os t d ty' x (K:=⟨K⟩):=BoxVc.obj h
def eF{L:eaa}{P:Program}{n:Nat}{fn:Func}{t:daa}{o o':Sto}{rs:List ResultVar}{res:AV}(hr:fn.results=rs.toArray)(h:pj P n rs t o [] (fun xs os=>qD xs=res/\jk o' os)):EndsG L P fn ⟨n,t,o⟩ (fun r os'=>r=res/\os'=o'):=EndsG.fin hr h
def hC:type_of% Wc:=Wc
def gI{c:Bool}{p:Prop}(h:c=true->p):Gd c (p:=⟨p⟩):=h
inductive aD:Prop
 | on
def Cl{G:Prop}(h:G:=by first|(with_reducible show List.Nodup _;decide)|(with_reducible show (_:Bool)=false;first|rfl|(simp [*];done))|with_reducible exact lS _ _|with_reducible exact lT _ _|(simp only [hC,reduceCtorEq];omega)|omega|with_reducible assumption|(with_reducible show (_:Bool)=true;first|(simp [*];done)|(simp only [hC,reduceCtorEq];(repeat' (first|assumption|apply And.intro));done))|((with_reducible first|show False|show false=true);have:=‹aD›;grind)):G:=h
def Ct{G:Prop}(h:G:=by first|exact trivial|rfl|(show drawOK _ _=true;kernel_rfl)):G:=h
def gO{G:Prop}(h:G:=by simp (maxSteps:=2000000) (disch:=omega) only [go_sem]):G:=h
def caa{P:Prop}(h:P:=by simp (maxSteps:=2000000) (disch:=omega) only [go_sem];rfl):P:=h
def uU{G:Prop}(h:G:=by (repeat' first|(with_reducible first|refine Z ?_|refine Y ?_|(refine hK _ _ ?_;clear hK K)|refine And.intro ?_ ?_|exact Ct|intro (K:_->_->Prop) hK|(refine gI fun hg=>?_;try simp only [hC,reduceCtorEq] at hg;try simp only [hg]))|(refine AW.i rfl (fun h=>?_) (fun h=>?_)<;>try simp only [hC,reduceCtorEq] at h)|((with_reducible refine E ?_;repeat refine Y ?_);refine eF rfl ?_)|simp (maxSteps:=2000000) (disch:=omega) only [go_sem]|(with_reducible intro hg;try simp only [hC,reduceCtorEq] at hg)|exact Cl|fail)):G:=h
attribute [go_sem] exN Nat.reduceBEq Nat.reduceAdd Nat.reduceMul Nat.reduceLeDiff Int.reduceEq
end
section
def MV(_:Nat)[p:Hd Prop]:Prop:=p.v
def uV{p:Prop}(k:Nat)(h:p):MV k (p:=⟨p⟩):=h
end
section
structure Lf(A B:Prop):Prop where
 a:A
 b:B
inductive Le:Prop
 | l
inductive Mk:Prop
 | m
structure Hk(A:Prop):Prop where
 r:A
inductive Sl:Prop->Prop
 | d:Sl Le
 | x (A:Prop):Sl A
def Sw{A B:Prop}(a:A)(b:B):Lf A B:=⟨a,b⟩
def mkE{T:Prop}(h:T):Mk->T:=fun _=>h
structure Wk(A0 A1 A2 A3 A4 A5 A6 A7 A8 A9 A10 A11 G:Prop):Prop where
 h:Hk A0->Hk A1->Hk A2->Hk A3->Hk A4->Hk A5->Hk A6->Hk A7->Hk A8->Hk A9->Hk A10->Hk A11->Mk->G
 s0:Sl A0
 s1:Sl A1
 s2:Sl A2
 s3:Sl A3
 s4:Sl A4
 s5:Sl A5
 s6:Sl A6
 s7:Sl A7
 s8:Sl A8
 s9:Sl A9
 s10:Sl A10
 s11:Sl A11
def Wk.go{A0 A1 A2 A3 A4 A5 A6 A7 A8 A9 A10 A11 G:Prop}(h:Wk A0 A1 A2 A3 A4 A5 A6 A7 A8 A9 A10 A11 G)(r:(Lf A0 (Lf A1 (Lf A2 (Lf A3 (Lf A4 (Lf A5 (Lf A6 (Lf A7 (Lf A8 (Lf A9 (Lf A10 (Lf A11 Le))))))))))))):G:=h.1 ⟨r.a⟩ ⟨r.b.a⟩ ⟨r.b.b.a⟩ ⟨r.b.b.b.a⟩ ⟨r.b.b.b.b.a⟩ ⟨r.b.b.b.b.b.a⟩ ⟨r.b.b.b.b.b.b.a⟩ ⟨r.b.b.b.b.b.b.b.a⟩ ⟨r.b.b.b.b.b.b.b.b.a⟩ ⟨r.b.b.b.b.b.b.b.b.b.a⟩ ⟨r.b.b.b.b.b.b.b.b.b.b.a⟩ ⟨r.b.b.b.b.b.b.b.b.b.b.b.a⟩ .m
attribute [go_sem] AV.aa AV.ac kaa jaa
def wvU{A0 A1 A2 A3 A4 A5 A6 A7 A8 A9 A10 A11 G:Prop}(h:Wk A0 A1 A2 A3 A4 A5 A6 A7 A8 A9 A10 A11 G:=by
 constructor
 ·intro r0 r1 r2 r3 r4 r5 r6 r7 r8 r9 r10 r11 m
  (repeat' first|(with_reducible first|refine Z ?_|refine Y ?_|(refine hK _ _ ?_;try clear hK K)|refine And.intro ?_ ?_|exact Ct|intro (K:_->_->Prop) hK|(refine gI fun hg=>?_;try simp only [hC,reduceCtorEq] at hg;try simp only [hg]))|(refine AW.i rfl (fun hg=>?_) (fun hg=>?_)<;>try simp only [hC,reduceCtorEq] at hg)|((with_reducible refine E ?_;repeat refine Y ?_);refine eF rfl ?_)|simp (maxSteps:=2000000) (disch:=omega) only [go_sem]|(with_reducible intro hg;try simp only [hC,reduceCtorEq] at hg)|exact Cl|fail)
  all_goals (repeat' first|(with_reducible refine mkE ?_;with_reducible first|exact r0.r|exact r1.r|exact r2.r|exact r3.r|exact r4.r|exact r5.r|exact r6.r|exact r7.r|exact r8.r|exact r9.r|exact r10.r|exact r11.r)|revert ‹_›)
 all_goals first|exact Sl.d|exact Sl.x _):Wk A0 A1 A2 A3 A4 A5 A6 A7 A8 A9 A10 A11 G:=h
def vU{A0 A1 A2 A3 A4 A5 A6 A7 A8 A9 A10 A11 G:Prop}(r:(Lf A0 (Lf A1 (Lf A2 (Lf A3 (Lf A4 (Lf A5 (Lf A6 (Lf A7 (Lf A8 (Lf A9 (Lf A10 (Lf A11 Le)))))))))))))(h:Wk A0 A1 A2 A3 A4 A5 A6 A7 A8 A9 A10 A11 G:=by exact wvU):G:=h.go r
def wvP{T A0 A1 A2 A3 A4 A5 A6 A7 A8 A9 A10 A11 G:Prop}(h:T->Wk A0 A1 A2 A3 A4 A5 A6 A7 A8 A9 A10 A11 G:=by
 intro hx;constructor
 ·intro r0 r1 r2 r3 r4 r5 r6 r7 r8 r9 r10 r11 m
  (repeat' first|(with_reducible first|refine Z ?_|refine Y ?_|(refine hK _ _ ?_;try clear hK K)|refine And.intro ?_ ?_|exact Ct|intro (K:_->_->Prop) hK|(refine gI fun hg=>?_;try simp only [hC,reduceCtorEq] at hg;try simp only [hg]))|(refine AW.i rfl (fun hg=>?_) (fun hg=>?_)<;>try simp only [hC,reduceCtorEq] at hg)|((with_reducible refine E ?_;repeat refine Y ?_);refine eF rfl ?_)|simp (maxSteps:=2000000) (disch:=omega) only [go_sem,hx]|(with_reducible intro hg;try simp only [hC,reduceCtorEq] at hg)|exact Cl|fail)
  all_goals (repeat' first|(with_reducible refine mkE ?_;with_reducible first|exact r0.r|exact r1.r|exact r2.r|exact r3.r|exact r4.r|exact r5.r|exact r6.r|exact r7.r|exact r8.r|exact r9.r|exact r10.r|exact r11.r)|revert ‹_›)
 all_goals first|exact Sl.d|exact Sl.x _):T->Wk A0 A1 A2 A3 A4 A5 A6 A7 A8 A9 A10 A11 G:=h
def wvK{A0 A1 A2 A3 A4 A5 A6 A7 A8 A9 A10 A11 G:Prop}(h:Wk A0 A1 A2 A3 A4 A5 A6 A7 A8 A9 A10 A11 G:=by
 constructor
 ·intro r0 r1 r2 r3 r4 r5 r6 r7 r8 r9 r10 r11 m
  (repeat' first|(with_reducible first|refine Z ?_|refine Y ?_|(refine hK _ _ ?_;try clear hK K)|refine And.intro ?_ ?_|exact Ct|intro (K:_->_->Prop) hK|(refine gI fun hg=>?_;try simp only [hC,reduceCtorEq] at hg;try simp only [hg]))|((with_reducible refine E ?_;repeat refine Y ?_);refine eF rfl ?_)|simp (maxSteps:=2000000) (disch:=omega) only [go_sem]|(with_reducible intro hg;try simp only [hC,reduceCtorEq] at hg)|exact Cl|fail)
  all_goals (repeat' first|(with_reducible refine mkE ?_;with_reducible first|exact r0.r|exact r1.r|exact r2.r|exact r3.r|exact r4.r|exact r5.r|exact r6.r|exact r7.r|exact r8.r|exact r9.r|exact r10.r|exact r11.r)|revert ‹_›)
 all_goals first|exact Sl.d|exact Sl.x _):Wk A0 A1 A2 A3 A4 A5 A6 A7 A8 A9 A10 A11 G:=h
def vK{A0 A1 A2 A3 A4 A5 A6 A7 A8 A9 A10 A11 G:Prop}(r:(Lf A0 (Lf A1 (Lf A2 (Lf A3 (Lf A4 (Lf A5 (Lf A6 (Lf A7 (Lf A8 (Lf A9 (Lf A10 (Lf A11 Le)))))))))))))(h:Wk A0 A1 A2 A3 A4 A5 A6 A7 A8 A9 A10 A11 G:=by exact wvK):G:=h.go r
def wvQ{T A0 A1 A2 A3 A4 A5 A6 A7 A8 A9 A10 A11 G:Prop}(h:T->Wk A0 A1 A2 A3 A4 A5 A6 A7 A8 A9 A10 A11 G:=by
 intro hx;constructor
 ·intro r0 r1 r2 r3 r4 r5 r6 r7 r8 r9 r10 r11 m
  (repeat' first|(with_reducible first|refine Z ?_|refine Y ?_|(refine hK _ _ ?_;try clear hK K)|refine And.intro ?_ ?_|exact Ct|intro (K:_->_->Prop) hK|(refine gI fun hg=>?_;try simp only [hC,reduceCtorEq] at hg;try simp only [hg]))|((with_reducible refine E ?_;repeat refine Y ?_);refine eF rfl ?_)|simp (maxSteps:=2000000) (disch:=omega) only [go_sem,hx]|(with_reducible intro hg;try simp only [hC,reduceCtorEq] at hg)|exact Cl|fail)
  all_goals (repeat' first|(with_reducible refine mkE ?_;with_reducible first|exact r0.r|exact r1.r|exact r2.r|exact r3.r|exact r4.r|exact r5.r|exact r6.r|exact r7.r|exact r8.r|exact r9.r|exact r10.r|exact r11.r)|revert ‹_›)
 all_goals first|exact Sl.d|exact Sl.x _):T->Wk A0 A1 A2 A3 A4 A5 A6 A7 A8 A9 A10 A11 G:=h
def wvN{A0 A1 A2 A3 A4 A5 A6 A7 A8 A9 A10 A11 G:Prop}(h:Wk A0 A1 A2 A3 A4 A5 A6 A7 A8 A9 A10 A11 G:=by
 constructor
 ·intro r0 r1 r2 r3 r4 r5 r6 r7 r8 r9 r10 r11 m
  (repeat' first|(with_reducible first|refine Y ?_|(refine hK _ _ ?_;try clear hK K)|refine And.intro ?_ ?_|exact Ct|intro (K:_->_->Prop) hK|(refine gI fun hg=>?_;try simp only [hC,reduceCtorEq] at hg;try simp only [hg]))|((with_reducible refine E ?_;repeat refine Y ?_);refine eF rfl ?_)|simp (maxSteps:=2000000) (disch:=omega) only [go_sem]|(with_reducible intro hg;try simp only [hC,reduceCtorEq] at hg)|exact Cl|fail)
  all_goals (repeat' first|(with_reducible refine mkE ?_;with_reducible first|exact r0.r|exact r1.r|exact r2.r|exact r3.r|exact r4.r|exact r5.r|exact r6.r|exact r7.r|exact r8.r|exact r9.r|exact r10.r|exact r11.r)|revert ‹_›)
 all_goals first|exact Sl.d|exact Sl.x _):Wk A0 A1 A2 A3 A4 A5 A6 A7 A8 A9 A10 A11 G:=h
def vN{A0 A1 A2 A3 A4 A5 A6 A7 A8 A9 A10 A11 G:Prop}(r:(Lf A0 (Lf A1 (Lf A2 (Lf A3 (Lf A4 (Lf A5 (Lf A6 (Lf A7 (Lf A8 (Lf A9 (Lf A10 (Lf A11 Le)))))))))))))(h:Wk A0 A1 A2 A3 A4 A5 A6 A7 A8 A9 A10 A11 G:=by exact wvN):G:=h.go r
def wvX{A0 A1 A2 A3 A4 A5 A6 A7 A8 A9 A10 A11 G:Prop}(h:Wk A0 A1 A2 A3 A4 A5 A6 A7 A8 A9 A10 A11 G:=by
 constructor
 ·intro r0 r1 r2 r3 r4 r5 r6 r7 r8 r9 r10 r11 m
  (repeat' first|(with_reducible first|refine Z ?_|refine Y ?_|(refine hK _ _ ?_;try clear hK K)|refine And.intro ?_ ?_|exact Ct|intro (K:_->_->Prop) hK|(refine gI fun hg=>?_;try simp only [hC,reduceCtorEq] at hg;try simp only [hg]))|(refine AW.i rfl (fun hg=>?_) (fun hg=>?_)<;>try simp only [hC,reduceCtorEq] at hg)|simp (maxSteps:=2000000) (disch:=omega) only [go_sem]|(with_reducible intro hg;try simp only [hC,reduceCtorEq] at hg)|exact Cl|fail)
  all_goals (repeat' first|(with_reducible refine mkE ?_;with_reducible first|exact r0.r|exact r1.r|exact r2.r|exact r3.r|exact r4.r|exact r5.r|exact r6.r|exact r7.r|exact r8.r|exact r9.r|exact r10.r|exact r11.r)|revert ‹_›)
 all_goals first|exact Sl.d|exact Sl.x _):Wk A0 A1 A2 A3 A4 A5 A6 A7 A8 A9 A10 A11 G:=h
def vX{A0 A1 A2 A3 A4 A5 A6 A7 A8 A9 A10 A11 G:Prop}(r:(Lf A0 (Lf A1 (Lf A2 (Lf A3 (Lf A4 (Lf A5 (Lf A6 (Lf A7 (Lf A8 (Lf A9 (Lf A10 (Lf A11 Le)))))))))))))(h:Wk A0 A1 A2 A3 A4 A5 A6 A7 A8 A9 A10 A11 G:=by exact wvX):G:=h.go r
def wbU{A0 A1 A2 A3 A4 A5 A6 A7 A8 A9 A10 A11 G:Prop}(h:Wk A0 A1 A2 A3 A4 A5 A6 A7 A8 A9 A10 A11 G:=by
 constructor
 ·intro r0 r1 r2 r3 r4 r5 r6 r7 r8 r9 r10 r11 m
  (repeat' first|(with_reducible first|refine Z ?_|refine xO ?_|refine Y ?_|(refine hK _ _ ?_;try clear hK K)|refine And.intro ?_ ?_|exact Ct|intro (K:_->_->Prop) hK|(refine gI fun hg=>?_;try simp only [hC,reduceCtorEq] at hg;try simp only [hg]))|(refine AW.i rfl (fun hg=>?_) (fun hg=>?_)<;>try simp only [hC,reduceCtorEq] at hg)|((with_reducible refine E ?_;repeat refine Y ?_);refine eF rfl ?_)|simp (maxSteps:=2000000) (disch:=omega) only [go_sem]|(with_reducible intro hg;try simp only [hC,reduceCtorEq] at hg)|exact Cl|fail)
  all_goals (repeat' first|(with_reducible refine mkE ?_;with_reducible first|exact r0.r|exact r1.r|exact r2.r|exact r3.r|exact r4.r|exact r5.r|exact r6.r|exact r7.r|exact r8.r|exact r9.r|exact r10.r|exact r11.r)|revert ‹_›)
 all_goals first|exact Sl.d|exact Sl.x _):Wk A0 A1 A2 A3 A4 A5 A6 A7 A8 A9 A10 A11 G:=h
def bU{A0 A1 A2 A3 A4 A5 A6 A7 A8 A9 A10 A11 G:Prop}(r:(Lf A0 (Lf A1 (Lf A2 (Lf A3 (Lf A4 (Lf A5 (Lf A6 (Lf A7 (Lf A8 (Lf A9 (Lf A10 (Lf A11 Le)))))))))))))(h:Wk A0 A1 A2 A3 A4 A5 A6 A7 A8 A9 A10 A11 G:=by exact wbU):G:=h.go r
def wbK{A0 A1 A2 A3 A4 A5 A6 A7 A8 A9 A10 A11 G:Prop}(h:Wk A0 A1 A2 A3 A4 A5 A6 A7 A8 A9 A10 A11 G:=by
 constructor
 ·intro r0 r1 r2 r3 r4 r5 r6 r7 r8 r9 r10 r11 m
  (repeat' first|(with_reducible first|refine Z ?_|refine xO ?_|refine Y ?_|(refine hK _ _ ?_;try clear hK K)|refine And.intro ?_ ?_|exact Ct|intro (K:_->_->Prop) hK|(refine gI fun hg=>?_;try simp only [hC,reduceCtorEq] at hg;try simp only [hg]))|((with_reducible refine E ?_;repeat refine Y ?_);refine eF rfl ?_)|simp (maxSteps:=2000000) (disch:=omega) only [go_sem]|(with_reducible intro hg;try simp only [hC,reduceCtorEq] at hg)|exact Cl|fail)
  all_goals (repeat' first|(with_reducible refine mkE ?_;with_reducible first|exact r0.r|exact r1.r|exact r2.r|exact r3.r|exact r4.r|exact r5.r|exact r6.r|exact r7.r|exact r8.r|exact r9.r|exact r10.r|exact r11.r)|revert ‹_›)
 all_goals first|exact Sl.d|exact Sl.x _):Wk A0 A1 A2 A3 A4 A5 A6 A7 A8 A9 A10 A11 G:=h
def bK{A0 A1 A2 A3 A4 A5 A6 A7 A8 A9 A10 A11 G:Prop}(r:(Lf A0 (Lf A1 (Lf A2 (Lf A3 (Lf A4 (Lf A5 (Lf A6 (Lf A7 (Lf A8 (Lf A9 (Lf A10 (Lf A11 Le)))))))))))))(h:Wk A0 A1 A2 A3 A4 A5 A6 A7 A8 A9 A10 A11 G:=by exact wbK):G:=h.go r
def wbN{A0 A1 A2 A3 A4 A5 A6 A7 A8 A9 A10 A11 G:Prop}(h:Wk A0 A1 A2 A3 A4 A5 A6 A7 A8 A9 A10 A11 G:=by
 constructor
 ·intro r0 r1 r2 r3 r4 r5 r6 r7 r8 r9 r10 r11 m
  (repeat' first|(with_reducible first|refine xO ?_|refine Y ?_|(refine hK _ _ ?_;try clear hK K)|refine And.intro ?_ ?_|exact Ct|intro (K:_->_->Prop) hK|(refine gI fun hg=>?_;try simp only [hC,reduceCtorEq] at hg;try simp only [hg]))|((with_reducible refine E ?_;repeat refine Y ?_);refine eF rfl ?_)|simp (maxSteps:=2000000) (disch:=omega) only [go_sem]|(with_reducible intro hg;try simp only [hC,reduceCtorEq] at hg)|exact Cl|fail)
  all_goals (repeat' first|(with_reducible refine mkE ?_;with_reducible first|exact r0.r|exact r1.r|exact r2.r|exact r3.r|exact r4.r|exact r5.r|exact r6.r|exact r7.r|exact r8.r|exact r9.r|exact r10.r|exact r11.r)|revert ‹_›)
 all_goals first|exact Sl.d|exact Sl.x _):Wk A0 A1 A2 A3 A4 A5 A6 A7 A8 A9 A10 A11 G:=h
def bN{A0 A1 A2 A3 A4 A5 A6 A7 A8 A9 A10 A11 G:Prop}(r:(Lf A0 (Lf A1 (Lf A2 (Lf A3 (Lf A4 (Lf A5 (Lf A6 (Lf A7 (Lf A8 (Lf A9 (Lf A10 (Lf A11 Le)))))))))))))(h:Wk A0 A1 A2 A3 A4 A5 A6 A7 A8 A9 A10 A11 G:=by exact wbN):G:=h.go r
def wbX{A0 A1 A2 A3 A4 A5 A6 A7 A8 A9 A10 A11 G:Prop}(h:Wk A0 A1 A2 A3 A4 A5 A6 A7 A8 A9 A10 A11 G:=by
 constructor
 ·intro r0 r1 r2 r3 r4 r5 r6 r7 r8 r9 r10 r11 m
  (repeat' first|(with_reducible first|refine Z ?_|refine xO ?_|refine Y ?_|(refine hK _ _ ?_;try clear hK K)|refine And.intro ?_ ?_|exact Ct|intro (K:_->_->Prop) hK|(refine gI fun hg=>?_;try simp only [hC,reduceCtorEq] at hg;try simp only [hg]))|(refine AW.i rfl (fun hg=>?_) (fun hg=>?_)<;>try simp only [hC,reduceCtorEq] at hg)|simp (maxSteps:=2000000) (disch:=omega) only [go_sem]|(with_reducible intro hg;try simp only [hC,reduceCtorEq] at hg)|exact Cl|fail)
  all_goals (repeat' first|(with_reducible refine mkE ?_;with_reducible first|exact r0.r|exact r1.r|exact r2.r|exact r3.r|exact r4.r|exact r5.r|exact r6.r|exact r7.r|exact r8.r|exact r9.r|exact r10.r|exact r11.r)|revert ‹_›)
 all_goals first|exact Sl.d|exact Sl.x _):Wk A0 A1 A2 A3 A4 A5 A6 A7 A8 A9 A10 A11 G:=h
def bX{A0 A1 A2 A3 A4 A5 A6 A7 A8 A9 A10 A11 G:Prop}(r:(Lf A0 (Lf A1 (Lf A2 (Lf A3 (Lf A4 (Lf A5 (Lf A6 (Lf A7 (Lf A8 (Lf A9 (Lf A10 (Lf A11 Le)))))))))))))(h:Wk A0 A1 A2 A3 A4 A5 A6 A7 A8 A9 A10 A11 G:=by exact wbX):G:=h.go r
abbrev W0(G:Prop):=Wk Le Le Le Le Le Le Le Le Le Le Le Le G
def Wk.g0{G:Prop}(h:W0 G):G:=h.h ⟨.l⟩ ⟨.l⟩ ⟨.l⟩ ⟨.l⟩ ⟨.l⟩ ⟨.l⟩ ⟨.l⟩ ⟨.l⟩ ⟨.l⟩ ⟨.l⟩ ⟨.l⟩ ⟨.l⟩ .m
abbrev W1(A G:Prop):=Wk A Le Le Le Le Le Le Le Le Le Le Le G
def Wk.g1{A G:Prop}(h:W1 A G)(a:A):G:=h.h ⟨a⟩ ⟨.l⟩ ⟨.l⟩ ⟨.l⟩ ⟨.l⟩ ⟨.l⟩ ⟨.l⟩ ⟨.l⟩ ⟨.l⟩ ⟨.l⟩ ⟨.l⟩ ⟨.l⟩ .m
abbrev W2(A B G:Prop):=Wk A B Le Le Le Le Le Le Le Le Le Le G
def Wk.g2{A B G:Prop}(h:W2 A B G)(a:A)(b:B):G:=h.h ⟨a⟩ ⟨b⟩ ⟨.l⟩ ⟨.l⟩ ⟨.l⟩ ⟨.l⟩ ⟨.l⟩ ⟨.l⟩ ⟨.l⟩ ⟨.l⟩ ⟨.l⟩ ⟨.l⟩ .m
abbrev W3(A B C G:Prop):=Wk A B C Le Le Le Le Le Le Le Le Le G
def Wk.g3{A B C G:Prop}(h:W3 A B C G)(a:A)(b:B)(c:C):G:=h.h ⟨a⟩ ⟨b⟩ ⟨c⟩ ⟨.l⟩ ⟨.l⟩ ⟨.l⟩ ⟨.l⟩ ⟨.l⟩ ⟨.l⟩ ⟨.l⟩ ⟨.l⟩ ⟨.l⟩ .m
abbrev W4(A B C D G:Prop):=Wk A B C D Le Le Le Le Le Le Le Le G
def Wk.g4{A B C D G:Prop}(h:W4 A B C D G)(a:A)(b:B)(c:C)(d:D):G:=h.h ⟨a⟩ ⟨b⟩ ⟨c⟩ ⟨d⟩ ⟨.l⟩ ⟨.l⟩ ⟨.l⟩ ⟨.l⟩ ⟨.l⟩ ⟨.l⟩ ⟨.l⟩ ⟨.l⟩ .m
abbrev W5(A B C D E G:Prop):=Wk A B C D E Le Le Le Le Le Le Le G
def Wk.g5{A B C D E G:Prop}(h:W5 A B C D E G)(a:A)(b:B)(c:C)(d:D)(e:E):G:=h.h ⟨a⟩ ⟨b⟩ ⟨c⟩ ⟨d⟩ ⟨e⟩ ⟨.l⟩ ⟨.l⟩ ⟨.l⟩ ⟨.l⟩ ⟨.l⟩ ⟨.l⟩ ⟨.l⟩ .m
abbrev W6(A B C D E F G:Prop):=Wk A B C D E F Le Le Le Le Le Le G
def Wk.g6{A B C D E F G:Prop}(h:W6 A B C D E F G)(a:A)(b:B)(c:C)(d:D)(e:E)(f:F):G:=h.h ⟨a⟩ ⟨b⟩ ⟨c⟩ ⟨d⟩ ⟨e⟩ ⟨f⟩ ⟨.l⟩ ⟨.l⟩ ⟨.l⟩ ⟨.l⟩ ⟨.l⟩ ⟨.l⟩ .m
def vU0{G:Prop}(h:W0 G:=by exact wvU):G:=h.g0
def vU1{A G:Prop}(a:A)(h:W1 A G:=by exact wvU):G:=h.g1 a
def vU2{A B G:Prop}(a:A)(b:B)(h:W2 A B G:=by exact wvU):G:=h.g2 a b
def vU3{A B C G:Prop}(a:A)(b:B)(c:C)(h:W3 A B C G:=by exact wvU):G:=h.g3 a b c
def vU4{A B C D G:Prop}(a:A)(b:B)(c:C)(d:D)(h:W4 A B C D G:=by exact wvU):G:=h.g4 a b c d
def vU5{A B C D E G:Prop}(a:A)(b:B)(c:C)(d:D)(e:E)(h:W5 A B C D E G:=by exact wvU):G:=h.g5 a b c d e
def vU6{A B C D E F G:Prop}(a:A)(b:B)(c:C)(d:D)(e:E)(f:F)(h:W6 A B C D E F G:=by exact wvU):G:=h.g6 a b c d e f
def vK0{G:Prop}(h:W0 G:=by exact wvK):G:=h.g0
def vK1{A G:Prop}(a:A)(h:W1 A G:=by exact wvK):G:=h.g1 a
def vK2{A B G:Prop}(a:A)(b:B)(h:W2 A B G:=by exact wvK):G:=h.g2 a b
def vN1{A G:Prop}(a:A)(h:W1 A G:=by exact wvN):G:=h.g1 a
def vN2{A B G:Prop}(a:A)(b:B)(h:W2 A B G:=by exact wvN):G:=h.g2 a b
def vX1{A G:Prop}(a:A)(h:W1 A G:=by exact wvX):G:=h.g1 a
def vX2{A B G:Prop}(a:A)(b:B)(h:W2 A B G:=by exact wvX):G:=h.g2 a b
def bU0{G:Prop}(h:W0 G:=by exact wbU):G:=h.g0
def bU1{A G:Prop}(a:A)(h:W1 A G:=by exact wbU):G:=h.g1 a
def bK1{A G:Prop}(a:A)(h:W1 A G:=by exact wbK):G:=h.g1 a
def bN1{A G:Prop}(a:A)(h:W1 A G:=by exact wbN):G:=h.g1 a
def bX1{A G:Prop}(a:A)(h:W1 A G:=by exact wbX):G:=h.g1 a
def vP0{T G:Prop}(x:T)(h:T->W0 G:=by exact wvP):G:=(h x).g0
def vP1{T A G:Prop}(x:T)(a:A)(h:T->W1 A G:=by exact wvP):G:=(h x).g1 a
def vP2{T A B G:Prop}(x:T)(a:A)(b:B)(h:T->W2 A B G:=by exact wvP):G:=(h x).g2 a b
def vP3{T A B C G:Prop}(x:T)(a:A)(b:B)(c:C)(h:T->W3 A B C G:=by exact wvP):G:=(h x).g3 a b c
def vQ1{T A G:Prop}(x:T)(a:A)(h:T->W1 A G:=by exact wvQ):G:=(h x).g1 a
def vQ3{T A B C G:Prop}(x:T)(a:A)(b:B)(c:C)(h:T->W3 A B C G:=by exact wvQ):G:=(h x).g3 a b c
def AW.c{L:eaa}{P:Program}{n:Nat}{t:daa}{o:Sto}{Q:Exit->AS->Prop}{c:Operand}{x y:Code}{p:Bool}{A B:Prop}(ha:A->AW L P x ⟨n,t,o⟩ Q)(hb:B->AW L P y ⟨n,t,o⟩ Q)(h:ev t c=.v (.bool p)/\(p=true->A)/\(p=false->B):=by refine ⟨rfl,?_,?_⟩<;>intro h<;>first|(simp only [hC,reduceCtorEq] at h;exact h)|exact h):AW L P (.cond c x y) ⟨n,t,o⟩ Q:=AW.i h.1 (fun e=>ha (h.2.1 e)) fun e=>hb (h.2.2 e)
def AW.e{L:eaa}{P:Program}{n:Nat}{t:daa}{o:Sto}{Q:Exit->AS->Prop}{c:Operand}{x y z:Code}{p:Bool}{A:Prop}(ha:A->AW L P z ⟨n,t,o⟩ Q)(h:ev t c=.v (.bool p)/\((z=x/\(p=false->False)/\(p=true->A))\/(z=y/\(p=true->False)/\(p=false->A))):=by
 refine ⟨rfl,?_⟩
 first
 |(refine .inl ⟨rfl,?_,?_⟩;(focus intro h;simp only [hC,reduceCtorEq] at h;done);intro h;first|(simp only [hC,reduceCtorEq] at h;exact h)|exact h)
 |(refine .inr ⟨rfl,?_,?_⟩;(focus intro h;simp only [hC,reduceCtorEq] at h;done);intro h;first|(simp only [hC,reduceCtorEq] at h;exact h)|exact h)):AW L P (.cond c x y) ⟨n,t,o⟩ Q:=by
 cases p
 ·rcases h.2 with q|q
  ·exact (q.2.1 rfl).elim
  ·exact AW.i h.1 (fun e=>by cases e) fun e=>q.1▸ha (q.2.2 e)
 ·rcases h.2 with q|q
  ·exact AW.i h.1 (fun e=>q.1▸ha (q.2.2 e)) fun e=>by cases e
  ·exact (q.2.1 rfl).elim
def AW.f0{L:eaa}{P:Program}{n:Nat}{t:daa}{o:Sto}{Q:Exit->AS->Prop}{c:Code}(i:Nat){A:Prop}(h:A->AW L P c ⟨n,t,o⟩ Q)(e:(T t i).facts L=A:=by simp (disch:=omega) only [go_sem,Nat.reduceBEq];try rfl):AW L P c ⟨n,t,o⟩ Q:=AW.fact i fun k=>h (e.mp k)
def AW.f1{L:eaa}{P:Program}{n:Nat}{t:daa}{o:Sto}{Q:Exit->AS->Prop}{c:Code}(i:Nat){A:Prop}(h:A->AW L P c ⟨n,t,o⟩ Q)(e:(T t i).facts L=A:=by simp (disch:=omega) only [go_sem];try rfl):AW L P c ⟨n,t,o⟩ Q:=AW.fact i fun k=>h (e.mp k)
def gS{P Q:Prop}(h:Q)(e:P=Q:=by simp (maxSteps:=2000000) (disch:=omega) only [go_sem];try rfl):P:=e.mpr h
def gT{P Q:Prop}(h:Q)(e:P=Q:=by simp (maxSteps:=2000000) (disch:=omega) only [go_sem,C6];try rfl):P:=e.mpr h
end
end Go.Ab
