/- Part of a proof. -/
import Derived.Test.YtpelkkfkecfmbaaGreatDoorH0
set_option linter.all false
namespace Go.Ab
open Go.RowKit (Below)
section
def eW(ρ:Operand->AV):List Operand->List Nat
 | []=>[]
 | .tmp i::xs=>bif (ρ (.tmp i)).cW then eW ρ xs else i::eW ρ xs
 | _::xs=>eW ρ xs
def knd(P:Program)(t:TypeId):Option Bool :=
 match P.underlying t with
 | some .string=>some true
 | some (.slice _)=>some false
 | _=>none
def Pv:AV->Option (Bool×Nat)
 | .str l=>some (true,l.length)
 | .sl _ _ l=>some (false,l.length)
 | .arr _ _ len _=>some (false,len)
 | .v (.slice none 0 0)=>some (false,0)
 | _=>none
def vr(ρ:Operand->AV)(o:Option Operand)(d:Int):Option Int :=
 match o with
 | none=>some d
 | some y=>match ρ y with
  | .v (.int _ n)=>some n
  | _=>none
def ikd(P:Program)(t:TypeId):Option IntKind :=
 match P.underlying t with
 | some (.int k)=>some k
 | _=>none
def lI(P:Program)(t:TypeId):Bool:=(P.underlying t).isSome
def byS(P:Program)(t:TypeId):Bool :=
 match P.underlying t with
 | some (.slice e)=>match P.underlying e with
  | some (.int .u8)=>true
  | _=>false
 | _=>false
def Ta{P:Program}{t:TypeId}{k:IntKind}(h:ikd P t=some k):P.underlying t=some (.int k):=by unfold ikd at h;split at h<;>simp_all
def PZ{P:Program}{t:TypeId}(h:lI P t=true):∃ d,P.underlying t=some d:=Option.isSome_iff_exists.1 h
def TY{P:Program}{t:TypeId}(h:byS P t=true):∃ e,P.underlying t=some (.slice e)/\P.underlying e=some (.int .u8):=by
 unfold byS at h;split at h
 ·rename_i e he;split at h
  ·rename_i hu;exact ⟨e,he,hu⟩
  ·cases h
 ·cases h
def isB(P:Program)(t:TypeId):Bool :=
 match P.underlying t with
 | some .bool=>true
 | _=>false
def S0{P:Program}{t:TypeId}(h:isB P t=true):P.underlying t=some .bool:=by unfold isB at h;split at h<;>simp_all
def Dm{P:Program}{t:TypeId}(h:isB P t=true)(x y:Operand)(a b:Bool)(w:World) :
  (do eqGuard .eql t x y (.bool a) (.bool b);binOp .eql t (.bool a) (.bool b):Sem Value).run P w=.ok (.bool (a == b)) w /\
  (do eqGuard .neq t x y (.bool a) (.bool b);binOp .neq t (.bool a) (.bool b):Sem Value).run P w=.ok (.bool (a != b)) w:=by
 have h1:=S0 h;constructor
 ·have:=run_eql_bool (P:=P) w t a b h1;simp [eqGuard,this]
 ·have:=run_neq_bool (P:=P) w t a b h1;simp [eqGuard,this,bne]
def at8(s:List UInt8)(n:Int):Int:=((s[n.toNat]?).getD 0).toNat
class Hd(α:Type) where
 v:α
def bsK(sz:Nat)(l:List AV)(C:List Nat)[K:Hd (AV->List Nat->Prop)]:Prop:=K.v (.sl true sz l) C\/K.v (.sl false sz (AV.bg l)) C
def EO.frz{L:eaa}{F:faa}{fp:Nat->List Nat}{C:List Nat}{w:World}{x:AV}{v:Value}{w':World}(h:EO L F fp C w x v w'):EO L F fp C w x.frz v w':=by
 obtain ⟨hb,F',fx,h1,h2,h3,h4,h5⟩:=h;refine ⟨hb,fun b=>F' b\/b∈fx,[],fun b hb=>.inl (h1 b hb),?_,Rep.frz (fun b hb=>.inl hb) (fun b hb=>.inr hb) h3,QC,QC⟩;rintro b (hb|hb)
 ·exact h2 b hb
 ·exact .inr ((h5 b hb).2.elim .inr .inl)
def LOp.frz{L:eaa}{P:Program}{s:AS}{o:Oper}{x:AV}{C:List Nat}(h:LOp L P s o x C):LOp L P s o x.frz C :=
 fun B F0 w0 F own fp fs a w next Q hd hn=>h B F0 w0 F own fp fs a w next Q hd fun v w' g=>hn v w' g.frz
def idxVc(G:Bool)(l:List AV)(n:Int)(sz:Nat)[K:Hd (AV->Prop)]:Prop:=∃ x,(G=true->0<=n/\l[n.toNat]? = some x/\x.elem sz=true)/\K.v x
def at_{α:Type}[Inhabited α](l:List α)(k:Nat):α:=(l[k]?).getD default
theorem tX{α:Type}[Inhabited α]{l:List α}{k:Nat}(h:k<l.length):l[k]? = some (at_ l k):=by unfold at_;rw [List.getElem?_eq_getElem h];rfl
theorem at_mem{α:Type}[Inhabited α]{l:List α}{k:Nat}(h:k<l.length):at_ l k∈l:=List.mem_of_getElem? (tX h)
theorem bq{α:Type}[Inhabited α]{l:List α}{k:Nat}(h:k<l.length):l.drop k=at_ l k::l.drop (k+1):=by rw [List.drop_eq_getElem_cons h];unfold at_;rw [List.getElem?_eq_getElem h];rfl
theorem KT{α:Type}[Inhabited α]{f:α->AV}{l:List α}{n:Int}{sz:Nat}{K:AV->Prop}(h0:0<=n)(h:n.toNat<l.length):idxVc true (l.map f) n sz (K:=⟨K⟩)=((f (at_ l n.toNat)).elem sz=true/\K (f (at_ l n.toNat))):=by
 have e:(l.map f)[n.toNat]? = some (f (at_ l n.toNat)):=by rw [List.getElem?_map,tX h];rfl
 apply propext;constructor
 ·rintro ⟨x,hx,hK⟩;have:=hx rfl;rw [e] at this;obtain ⟨_,h2,h3⟩:=this;cases h2;exact ⟨h3,hK⟩
 ·rintro ⟨h1,h2⟩;exact ⟨_,fun _=>⟨h0,e,h1⟩,h2⟩
theorem idxVc.map{α:Type}[Inhabited α]{G:Bool}{f:α->AV}{l:List α}{n:Int}{sz:Nat}{K:AV->Prop}(hb:G=true->0<=n/\n.toNat<l.length)(he:(f (at_ l n.toNat)).elem sz=true)(hK:K (f (at_ l n.toNat))):idxVc G (l.map f) n sz (K:=⟨K⟩) :=
 ⟨_,fun hG=>⟨(hb hG).1,by rw [List.getElem?_map,tX (hb hG).2];rfl,he⟩,hK⟩
def pF:List AV->List AV
 | []=>[]
 | x::xs=>(bif x.cW then x else x.frz)::pF xs
@[reducible] def CallP(L:eaa)(P:Program)(os:List (Nat×Option (List AV)))(_la:List AV)(G:Bool)(f:FuncId)(args:List AV)[K:Hd (AV->Prop)]:Prop:=∃ res,(G=true->ud L P os f args res)/\K.v res
def BD(L:eaa)(P:Program)(os:List (Nat×Option (List AV)))(ρ:Operand->AV)(G:Bool)(callee:Callee)(args:List Operand)(ts:List TypeId)(K:AV->List Nat->Prop):Prop :=
 match callee,args,ts with
 | .builtin .len,[x],[t]=>match Pv (ρ x) with
  | some (k,n)=>knd P t=some k/\K (.v (.int .i64 n)) []
  | none=>False
 | .builtin .min,[x,y],_=>match ρ x,ρ y with
  | .v (.int k m),.v (.int k' n)=>k=k'/\K (.v (.int k (if n<m then n else m))) []
  | _,_=>False
 | .builtin .max,[x,y],_=>match ρ x,ρ y with
  | .v (.int k m),.v (.int k' n)=>k=k'/\K (.v (.int k (if n > m then n else m))) []
  | _,_=>False
 | .builtin .append,[.tmp i,y],[t,u]=>match elm P t with
  | some (e,sz,bytes)=>match ρ (.tmp i) with
   | .sl true z l=>match pd sz (ρ y) with
    | some l'=>((ES P e=some sz/\(knd P u).isSome=true)/\(z=sz/\Bb y i=true/\l.all (AV.elem sz)=true/\l'.all (AV.elem sz)=true/\(l'.flatMap AV.cells).all AV.one=true)) /\
      (G=true->l.length+l'.length<=L sz/\(l.length+l'.length) * bytes<=140737488355328/\l.length+l'.length<=9223372036854775807)/\K (.sl true sz (l++l')) (eW ρ [.tmp i,y])
    | none=>False
   | _=>False
  | none=>False
 | .value y,args,_=>match fnA (ρ y) with
  | some (f,caps)=>AV.nownL caps=true/\CallP L P os (pF (args.map ρ++caps)) G f (args.map ρ++caps) (K:=⟨fun res=>K res []⟩)
  | none=>False
 | _,_,_=>False
def ovc(L:eaa)(P:Program)(os:List (Nat×Option (List AV)))(ρ:Operand->AV)(G:Bool)(op:Op)(K:AV->List Nat->Prop):Prop :=
 match op with
 | .move x=>K (ρ x) (eW ρ [x])
 | .assign x=>K (ρ x) (eW ρ [x])
 | .pick c a b=>match ρ c,pM (ρ a),pM (ρ b) with
  | .v (.bool p),some (Ga,u),some (Gb,v)=>(G=true->(p=true->Ga=true)/\(p=false->Gb=true))/\K (.v (.bool (bif p then u else v))) []
  | _,_,_=>False
 | .binOp bop bty x y _=>match ρ x,ρ y with
  | .v u,.v v=>match C0 bop u v with
   | some z=>K (.v z) []
   | none=>match bop,u,v with
    | .eql,.bool a,.bool b=>isB P bty=true/\K (.v (.bool (a == b))) []
    | .neq,.bool a,.bool b=>isB P bty=true/\K (.v (.bool (a != b))) []
    | _,_,_=>False
  | .str a,.str b=>match HF bop a b with
   | some z=>K (.v (.bool z)) []
   | none=>match bop with
    | .add=>(G=true->a.length+b.length<=4611686018427387904)/\K (.str (a++b)) []
    | _=>False
  | _,_=>False
 | .unOp uop _ x=>match ρ x with
  | .v u=>match unV uop u with
   | some z=>K (.v z) []
   | none=>False
  | _=>False
 | .field xt x k=>match ρ x,fld P xt k with
  | .agg cells,some (off,g,n)=>match val g n (cells.drop off) with
   | some y=>match y.cW with
    | true=>K y []
    | false=>y.cpy.cW=true/\K y.cpy []
   | none=>False
  | _,_=>False
 | .fieldAddr xt x k=>match fld P xt k with
  | some (off,_,n)=>Nat.blt 0 n=true/\(match ρ x with
   | .vp cells=>K (.vp (cells.drop off)) []
   | .ptr b o'=>K (.ptr b (o'+off)) []
   | _=>False)
  | none=>False
 | .load t x=>match ty P t with
  | some (g,n)=>match ρ x with
   | .vp cells=>match val g n cells with
    | some y=>K y []
    | none=>False
   | .ptr b off=>match O os b with
    | some cells=>match val g n (cells.drop off) with
     | some y=>match y.cW with
      | true=>K y []
      | false=>y.cpy.cW=true/\K y.cpy []
     | none=>False
    | none=>False
   | _=>False
  | none=>False
 | .nilCheck x=>match ρ x with
  | .ptr b off=>K (.ptr b off) []
  | .vp cells=>K (.vp cells) []
  | _=>False
 | .extract x k=>match ρ x with
  | .tup l=>match l[k]? with
   | some y=>y.cW=true/\K y []
   | none=>False
  | _=>False
 | .index t x i=>match ρ x,ρ i with
  | .str a,.v (.int _ n)=>knd P t=some true/\(G=true->0<=n/\n.toNat<a.length)/\K (.v (.int .u8 (at8 a n))) []
  | _,_=>False
 | .indexAddr t x i=>match ρ i,elm P t with
  | .v (.int _ n),some (_,sz,_)=>match ρ x with
   | .sl false sz' l=>sz'=sz/\idxVc G l n sz (K:=⟨fun y=>K (.vp y.cells) []⟩)
   | .arr b off len sz'=>sz'=sz/\(G=true->0<=n/\n<len)/\K (.ptr b (off+n.toNat * sz)) []
   | _=>False
  | .v (.int _ n),none=>match ael P t,ρ x with
   | some (m,sz),.ptr b off=>(G=true->0<=n/\n<m)/\K (.ptr b (off+n.toNat * sz)) []
   | some (m,sz),.vp cells=>(G=true->0<=n/\n<m)/\K (.vp (cells.drop (n.toNat * sz))) []
   | _,_=>False
  | _,_=>False
 | .slice t x lo hi none=>match ρ x with
  | .str a=>knd P t=some true/\(match vr ρ lo 0,vr ρ hi a.length with
   | some i,some j=>(G=true->0<=i/\i<=j/\j<=a.length)/\K (S ((a.take j.toNat).drop i.toNat)) []
   | _,_=>False)
  | .sl false sz l=>match elm P t,vr ρ lo 0,vr ρ hi l.length with
   | some (_,sz',_),some i,some j=>sz'=sz/\(G=true->0<=i/\i<=j/\j<=l.length)/\K (.sl false sz ((l.take j.toNat).drop i.toNat)) []
   | _,_,_=>False
  | .sl true sz l=>match elm P t,vr ρ lo 0,vr ρ hi l.length with
   | some (_,sz',_),some i,some j=>sz'=sz/\(G=true->0<=i/\i<=j/\j<=l.length)/\K (.slo sz ((l.take j.toNat).drop i.toNat)) (eW ρ [x])
   | _,_,_=>False
  | _=>False
 | .build t parts=>match plc P t with
  | some (places,zs)=>match oM (places[·]?) (zs.map avz) (parts.toList.map fun p=>(p.1,ρ p.2)) with
   | some cells=>(eW ρ (parts.toList.map Prod.snd)).Nodup/\K (.agg cells) (eW ρ (parts.toList.map Prod.snd))
   | none=>False
  | none=>match ael P t,zer P t with
   | some _,some zs=>parts.toList=[]/\K (.agg (zs.map avz)) []
   | _,_=>False
 | .buildSlice t len parts=>match elm P t with
  | some (e,sz,_)=>(zer P e).isSome=true/\len * sz<=16777216/\len<=L sz/\(eW ρ (parts.toList.map Prod.snd)).Nodup /\
   (match oM (fun i=>some (i * sz,sz)) (List.replicate (len * sz) .dead) (parts.toList.map fun p=>(p.1,ρ p.2)) with
   | some cells=>((parts.toList.map fun p=>ρ p.2).flatMap AV.cells=cells/\parts.toList.length=len/\(parts.toList.map fun p=>ρ p.2).all (AV.elem sz)=true)/\bsK sz (parts.toList.map fun p=>ρ p.2) (eW ρ (parts.toList.map Prod.snd)) (K:=⟨K⟩)
   | none=>False)
  | none=>False
 | .box t x=>match ty P t with
  | some (_,n)=>(ρ x).elem n=true/\K (.vp (AV.bg (ρ x).cells)) (eW ρ [x])
  | none=>False
 | .makeFunc (.func f) first cap=>first.toList=[]/\AV.nownL (cap.toList.map ρ)=true/\K (.fn f (cap.toList.map ρ)) []
 | .convert src dst x=>match ρ x with
  | .v (.int _ n)=>match ikd P dst with
   | some k=>lI P src=true/\K (.v (.int k (k.wrap n))) []
   | none=>False
  | .sl _ 1 l=>match unb l with
   | some bs=>(knd P dst=some true/\byS P src=true)/\(G=true->bs.length<=4611686018427387904)/\K (S bs) []
   | none=>False
  | .arr b off len sz=>∃ l e,(G=true->off=0/\sz=1/\len=l.length/\l.length<=4611686018427387904/\O os b=some (cX l)/\P.underlying src=some (.slice e)/\P.underlying e=some (.int .u8)/\P.underlying dst=some .string)/\K (S l) []
  | _=>False
 | .call c=>BD L P os ρ G c.callee c.args.toList c.argTypes.toList K
 | _=>False
def ko{s:AS}{ρ:Operand->AV}:∀ {xs:List Operand},(∀ y,y∈xs->ev s.t y=ρ y)->kills s.t xs=eW ρ xs
 | [],_=>rfl
 | x::xs,h=>by
  have ih:=ko (s:=s) (ρ:=ρ) (xs:=xs) fun y hy=>h y (by simp [hy])
  cases x with
  | tmp i =>
   have:=h (.tmp i) QC;simp only [ev] at this;simp only [kills,eW,this,ih]
  | const _=>simp only [kills,eW,ih]
  | global _=>simp only [kills,eW,ih]
  | func _=>simp only [kills,eW,ih]
def fS{ρ:Operand->AV}{i:Nat}:∀ {xs:List Operand},i∈eW ρ xs->.tmp i∈xs
 | [],h=>by simp [eW] at h
 | x::xs,h=>by
  cases x with
  | tmp j =>
   simp only [eW] at h
   cases hn:(ρ (.tmp j)).cW with
   | true=>rw [hn] at h;exact List.mem_cons_of_mem _ (fS h)
   | false =>
    rw [hn] at h;rcases List.mem_cons.1 h with rfl|h
    ·simp
    ·exact List.mem_cons_of_mem _ (fS h)
  | const _=>exact List.mem_cons_of_mem _ (fS h)
  | global _=>exact List.mem_cons_of_mem _ (fS h)
  | func _=>exact List.mem_cons_of_mem _ (fS h)
def Sound(L:eaa)(P:Program)(os:List (Nat×Option (List AV)))(ρ:Operand->AV)(G:Bool)(o:Oper)(K:AV->List Nat->Prop):Prop :=
 ∃ x C,K x C/\(∀ i,i∈C->.tmp i∈o.op.operands.toList)/\(G=true->∀ s:AS,(∀ y,y∈o.op.operands.toList->ev s.t y=ρ y)->s.o=os->LOp L P s o x C)
section
variable {L : Nat -> Nat} {P : Program} {os : List (Nat × Option (List AV))} {ρ : Operand -> AV} {G : Bool} {o : Oper} {K : AV -> List Nat -> Prop}
def qg{t:TypeId}(h:knd P t=some true):P.underlying t=some .string:=by unfold knd at h;split at h<;>simp_all
def wz{t:TypeId}(h:knd P t=some false):∃ e,P.underlying t=some (.slice e):=by unfold knd at h;split at h<;>simp_all
def tW{s:AS}{q:Option Operand}{d:Int}(h:∀ y,q=some y->ev s.t y=ρ y):bnd s.t q d=vr ρ q d:=by
 cases q with
 | none=>rfl
 | some y =>
  simp only [bnd,vr,h y rfl]
  try (generalize ρ y=z;cases z<;>rfl)
def xh:Callee->List Operand
 | .value f=>[f]
 | .invoke r _=>[r]
 | .builtin _=>[]
def TQ{callee:Callee}{args:Array Operand}{ts:Array TypeId}:(Op.operands (.call ⟨callee,args,ts⟩)).toList=xh callee++args.toList:=by cases callee<;>simp [Op.operands,Call.operands,xh]
def Kq{c:Call}(ho:o.op=.call c)(h:BD L P os ρ G c.callee c.args.toList c.argTypes.toList K):Sound L P os ρ G o K:=by
 obtain ⟨callee,args,ts⟩:=c;simp only at h;have iW:o.op.operands.toList=xh callee++args.toList:=by rw [ho];exact TQ
 unfold BD at h;split at h
 ·rename_i x t e2 e3;split at h
  ·rename_i k n hk;obtain ⟨K6,hK⟩:=h;refine ⟨_,[],hK,QC,fun _ s hs hso=>?_⟩
   have hc:(⟨.builtin .len,args,ts⟩:Call)=⟨.builtin .len,#[x],#[t]⟩:=by
    have h1:args=#[x]:=by apply Array.ext';simpa using e2
    have h2:ts=#[t]:=by apply Array.ext';simpa using e3
    rw [h1,h2]
   have hx:ev s.t x=ρ x:=hs x (by rw [iW,e2];simp);generalize ρ x=z at hk hx;unfold Pv at hk;split at hk
   ·cases hk;exact H4 ho hc hx (qg K6)
   ·cases hk;obtain ⟨e,he⟩:=wz K6;exact KI ho hc hx he
   ·cases hk;obtain ⟨e,he⟩:=wz K6;exact H6 ho hc hx he
   ·cases hk;obtain ⟨e,he⟩:=wz K6;exact H5 ho hc hx he
   ·cases hk
  ·exact h.elim
 ·rename_i x y e2;split at h
  ·rename_i k m k' n h1 h2;obtain ⟨rfl,hK⟩:=h;refine ⟨_,[],hK,QC,fun _ s hs hso=>?_⟩
   have hc:(⟨.builtin .min,args,ts⟩:Call)=⟨.builtin .min,#[x,y],ts⟩:=by
    have h1:args=#[x,y]:=by apply Array.ext';simpa using e2
    rw [h1]
   exact SI ho hc ((hs x (by rw [iW,e2];simp)).trans h1) ((hs y (by rw [iW,e2];simp)).trans h2)
  ·exact h.elim
 ·rename_i x y e2;split at h
  ·rename_i k m k' n h1 h2;obtain ⟨rfl,hK⟩:=h;refine ⟨_,[],hK,QC,fun _ s hs hso=>?_⟩
   have hc:(⟨.builtin .max,args,ts⟩:Call)=⟨.builtin .max,#[x,y],ts⟩:=by
    have h1:args=#[x,y]:=by apply Array.ext';simpa using e2
    rw [h1]
   exact SJ ho hc ((hs x (by rw [iW,e2];simp)).trans h1) ((hs y (by rw [iW,e2];simp)).trans h2)
  ·exact h.elim
 ·rename_i i y t u e2 e3;split at h
  ·rename_i e sz bytes ht;split at h
   ·rename_i z l hx;split at h
    ·rename_i l' hsrc;obtain ⟨⟨⟨hzl,hk⟩,rfl,hne,hel,jH,hone⟩,hb,hK⟩:=h;obtain ⟨zs,hz,hzl⟩:=ER hzl
     have hu:(∃ e',P.underlying u=some (.slice e'))\/P.underlying u=some .string:=by
      cases hkk:knd P u with
      | none=>rw [hkk] at hk;cases hk
      | some b =>
       cases b with
       | true=>exact .inr (qg hkk)
       | false=>exact .inl (wz hkk)
     refine ⟨_,_,hK,fun j hj=>by rw [iW,e2];simpa [xh] using fS hj,fun hG s hs hso=>?_⟩
     have hc:(⟨.builtin .append,args,ts⟩:Call)=⟨.builtin .append,#[.tmp i,y],#[t,u]⟩:=by
      have h1:args=#[.tmp i,y]:=by apply Array.ext';simpa using e2
      have h2:ts=#[t,u]:=by apply Array.ext';simpa using e3
      rw [h1,h2]
     have hi:ev s.t (.tmp i)=ρ (.tmp i):=hs _ (by rw [iW,e2];simp [xh])
     have hy:ev s.t y=ρ y:=hs _ (by rw [iW,e2];simp [xh])
     have hkl:kills s.t [.tmp i,y]=eW ρ [.tmp i,y]:=ko fun q hq=>hs q (by rw [iW,e2];simpa [xh] using hq);rw [<- hkl];obtain ⟨hL,hby,h63⟩:=hb hG;exact Cj ho hc (hi.trans hx) (Dx hne) ht hz hzl hu (by rw [hy];exact hsrc) (by simpa [List.all_eq_true] using hel) (by simpa [List.all_eq_true] using jH) hone hL hby h63
    ·exact h.elim
   ·exact h.elim
  ·exact h.elim
 ·rename_i y;split at h
  ·rename_i f caps hf;obtain ⟨hcn,res,hcall,hK⟩:=h;refine ⟨_,[],hK,QC,fun hG s hs hso=>?_⟩;subst hso
   have hmap:args.toList.map (ev s.t)=args.toList.map ρ:=by
    apply List.map_congr_left;intro z hz;exact hs z (by rw [iW];simp;exact .inr (by simpa using hz))
   refine rE ho rfl (by rw [hs y (by rw [iW];simp [xh])];exact hf) hcn ?_;rw [hmap];exact hcall hG
  ·exact h.elim
 ·exact h.elim
def rB(h:ovc L P os ρ G o.op K):Sound L P os ρ G o K:=by
 cases ho:o.op with
 | move x =>
  rw [ho] at h;refine ⟨_,_,h,fun i hi=>?_,fun _ s hs _=>?_⟩
  ·rw [ho];have:=fS hi;simpa [Op.operands] using this
  ·have hx:=hs x (by rw [ho];simp [Op.operands]);rw [<- hx,<- ko (s:=s) (xs:=[x]) (by simpa using hx)];exact F8 (.inl ho)
 | assign x =>
  rw [ho] at h;refine ⟨_,_,h,fun i hi=>?_,fun _ s hs _=>?_⟩
  ·rw [ho];have:=fS hi;simpa [Op.operands] using this
  ·have hx:=hs x (by rw [ho];simp [Op.operands]);rw [<- hx,<- ko (s:=s) (xs:=[x]) (by simpa using hx)];exact F8 (.inr ho)
 | pick c a b =>
  rw [ho] at h;simp only [ovc] at h;split at h
  ·rename_i p Ga u Gb v h1 h2 h3;obtain ⟨hc,hK⟩:=h;refine ⟨_,[],hK,QC,fun hG s hs _=>?_⟩;have hs':∀ y,y∈[c,a,b]->ev s.t y=ρ y:=fun y hy=>hs y (by rw [ho];simpa [Op.operands] using hy);exact Po ho ((hs' c QC).trans h1) (by rw [hs' a QC];exact h2) (by rw [hs' b QC];exact h3) (hc hG).1 (hc hG).2
  ·exact h.elim
 | binOp bop ty x y ty' =>
  rw [ho] at h;simp only [ovc] at h;split at h
  ·rename_i u v h1 h2;split at h
   ·rename_i z hz;refine ⟨_,[],h,QC,fun hG s hs _=>?_⟩;have hs':∀ q,q∈[x,y]->ev s.t q=ρ q:=fun q hq=>hs q (by rw [ho];simpa [Op.operands] using hq);exact Pp ho ((hs' x QC).trans h1) ((hs' y QC).trans h2) hz
   ·split at h
    ·rename_i a b _;obtain ⟨hc,hK⟩:=h;refine ⟨_,[],hK,QC,fun hG s hs _=>?_⟩;have hs':∀ q,q∈[x,y]->ev s.t q=ρ q:=fun q hq=>hs q (by rw [ho];simpa [Op.operands] using hq);exact Ci ho ((hs' x QC).trans h1) ((hs' y QC).trans h2) (fun w=>(Dm hc x y a b w).1)
    ·rename_i a b _;obtain ⟨hc,hK⟩:=h;refine ⟨_,[],hK,QC,fun hG s hs _=>?_⟩;have hs':∀ q,q∈[x,y]->ev s.t q=ρ q:=fun q hq=>hs q (by rw [ho];simpa [Op.operands] using hq);exact Ci ho ((hs' x QC).trans h1) ((hs' y QC).trans h2) (fun w=>(Dm hc x y a b w).2)
    ·exact h.elim
  ·rename_i a b h1 h2;split at h
   ·rename_i z hz;refine ⟨_,[],h,QC,fun hG s hs _=>?_⟩;have hs':∀ q,q∈[x,y]->ev s.t q=ρ q:=fun q hq=>hs q (by rw [ho];simpa [Op.operands] using hq);exact Pq ho ((hs' x QC).trans h1) ((hs' y QC).trans h2) hz
   ·split at h
    ·obtain ⟨hc,hK⟩:=h;refine ⟨_,[],hK,QC,fun hG s hs _=>?_⟩;have hs':∀ q,q∈[x,y]->ev s.t q=ρ q:=fun q hq=>hs q (by rw [ho];simpa [Op.operands] using hq);exact SK ho ((hs' x QC).trans h1) ((hs' y QC).trans h2) (hc hG)
    ·exact h.elim
  ·exact h.elim
 | unOp uop ty x =>
  rw [ho] at h;simp only [ovc] at h;split at h
  ·rename_i u h1;split at h
   ·rename_i z hz;exact ⟨_,[],h,QC,fun hG s hs _=>SH ho ((hs x (by rw [ho];simp [Op.operands])).trans h1) hz⟩
   ·exact h.elim
  ·exact h.elim
 | field xt x k =>
  rw [ho] at h;simp only [ovc] at h;split at h
  ·rename_i cells off g n h1 h2;split at h
   ·rename_i y hy;split at h
    ·rename_i hny;exact ⟨_,[],h,QC,fun hG s hs _=>MZ ho ((hs x (by rw [ho];simp [Op.operands])).trans h1) h2 hy hny⟩
    ·exact ⟨_,[],h.2,QC,fun hG s hs _=>Bg ho ((hs x (by rw [ho];simp [Op.operands])).trans h1) h2 hy fun _ _ _ _ r=>Rep.cpy h.1 r⟩
   ·exact h.elim
  ·exact h.elim
 | fieldAddr xt x k =>
  rw [ho] at h;simp only [ovc] at h;split at h
  ·rename_i off g n h2;obtain ⟨hn,h⟩:=h;split at h
   ·rename_i cells h1;exact ⟨_,[],h,QC,fun hG s hs _=>zl ho ((hs x (by rw [ho];simp [Op.operands])).trans h1) h2 hn⟩
   ·rename_i b o' h1;exact ⟨_,[],h,QC,fun hG s hs _=>yu ho ((hs x (by rw [ho];simp [Op.operands])).trans h1) h2 hn⟩
   ·exact h.elim
  ·exact h.elim
 | load t x =>
  rw [ho] at h;simp only [ovc] at h;split at h
  ·rename_i g n ht;split at h
   ·rename_i cells h1;split at h
    ·rename_i y hy;exact ⟨_,[],h,QC,fun hG s hs _=>H3 ho ((hs x (by rw [ho];simp [Op.operands])).trans h1) ht hy⟩
    ·exact h.elim
   ·rename_i b off h1;split at h
    ·rename_i cells hO;split at h
     ·rename_i y hy;split at h
      ·rename_i hny;exact ⟨_,[],h,QC,fun hG s hs hso=>wx ho ((hs x (by rw [ho];simp [Op.operands])).trans h1) (by rw [hso];exact hO) ht hy hny⟩
      ·exact ⟨_,[],h.2,QC,fun hG s hs hso=>pG ho ((hs x (by rw [ho];simp [Op.operands])).trans h1) (by rw [hso];exact hO) ht hy fun _ _ _ _ r=>Rep.cpy h.1 r⟩
     ·exact h.elim
    ·exact h.elim
   ·exact h.elim
  ·exact h.elim
 | nilCheck x =>
  rw [ho] at h;simp only [ovc] at h;split at h
  ·rename_i b off h1;exact ⟨_,[],h,QC,fun hG s hs _=>F7 ho ((hs x (by rw [ho];simp [Op.operands])).trans h1)⟩
  ·rename_i cells h1;exact ⟨_,[],h,QC,fun hG s hs _=>Bf ho ((hs x (by rw [ho];simp [Op.operands])).trans h1)⟩
  ·exact h.elim
 | extract x k =>
  rw [ho] at h;simp only [ovc] at h;split at h
  ·rename_i l h1;split at h
   ·rename_i y hy;exact ⟨_,[],h.2,QC,fun hG s hs _=>yK ho ((hs x (by rw [ho];simp [Op.operands])).trans h1) hy h.1⟩
   ·exact h.elim
  ·exact h.elim
 | index t x i =>
  rw [ho] at h;simp only [ovc] at h;split at h
  ·rename_i a k n h1 h2;obtain ⟨hk,hc,hK⟩:=h;refine ⟨_,[],hK,QC,fun hG s hs _=>?_⟩;have hs':∀ q,q∈[x,i]->ev s.t q=ρ q:=fun q hq=>hs q (by rw [ho];simpa [Op.operands] using hq);exact Ea ho ((hs' x QC).trans h1) ((hs' i QC).trans h2) (qg hk) (hc hG).1 (by rw [List.getElem?_eq_getElem (hc hG).2];rfl)
  ·exact h.elim
 | indexAddr t x i =>
  rw [ho] at h;simp only [ovc] at h;split at h
  ·rename_i k n e sz by_ h2 ht;split at h
   ·rename_i sz' l h1;obtain ⟨rfl,y,hc,hK⟩:=h;refine ⟨_,[],hK,QC,fun hG s hs _=>?_⟩;have hs':∀ q,q∈[x,i]->ev s.t q=ρ q:=fun q hq=>hs q (by rw [ho];simpa [Op.operands] using hq);exact zk ho ((hs' x QC).trans h1) ((hs' i QC).trans h2) ht (hc hG).1 (hc hG).2.1 (hc hG).2.2
   ·rename_i b off len sz' h1;obtain ⟨rfl,hc,hK⟩:=h;refine ⟨_,[],hK,QC,fun hG s hs _=>?_⟩;have hs':∀ q,q∈[x,i]->ev s.t q=ρ q:=fun q hq=>hs q (by rw [ho];simpa [Op.operands] using hq);exact yt ho ((hs' x QC).trans h1) ((hs' i QC).trans h2) ht (hc hG).1 (hc hG).2
   ·exact h.elim
  ·rename_i k n h2 _;split at h
   ·rename_i m sz b off ht h1;obtain ⟨hc,hK⟩:=h;refine ⟨_,[],hK,QC,fun hG s hs _=>?_⟩;have hs':∀ q,q∈[x,i]->ev s.t q=ρ q:=fun q hq=>hs q (by rw [ho];simpa [Op.operands] using hq);exact yq ho ((hs' x QC).trans h1) ((hs' i QC).trans h2) ht (hc hG).1 (hc hG).2
   ·rename_i m sz cells ht h1;obtain ⟨hc,hK⟩:=h;refine ⟨_,[],hK,QC,fun hG s hs _=>?_⟩;have hs':∀ q,q∈[x,i]->ev s.t q=ρ q:=fun q hq=>hs q (by rw [ho];simpa [Op.operands] using hq);exact zj ho ((hs' x QC).trans h1) ((hs' i QC).trans h2) ht (hc hG).1 (hc hG).2
   ·exact h.elim
  ·exact h.elim
 | slice t x lo hi mx =>
  rw [ho] at h
  cases mx with
  | some _=>simp [ovc] at h
  | none =>
   simp only [ovc] at h
   have iW:∀ y,y∈[x]++lo.toList++hi.toList->y∈o.op.operands.toList:=by
    intro y hy;rw [ho];simp only [Op.operands];cases lo<;>cases hi<;>simpa using hy
   split at h
   ·rename_i a h1;obtain ⟨hk,h⟩:=h;split at h
    ·rename_i i j hi' hj;obtain ⟨hc,hK⟩:=h;refine ⟨_,[],hK,QC,fun hG s hs _=>?_⟩;have hx:=(hs x (iW x QC)).trans h1;exact D8 ho (qg hk) hx (by rw [tW (ρ:=ρ) (fun y e=>hs y (iW y (by simp [e])))];exact hi') (by rw [tW (ρ:=ρ) (fun y e=>hs y (iW y (by simp [e])))];exact hj) (hc hG).1 (hc hG).2.1 (hc hG).2.2
    ·exact h.elim
   ·rename_i sz l h1;split at h
    ·rename_i e sz' by_ i j ht hi' hj;obtain ⟨rfl,hc,hK⟩:=h;refine ⟨_,[],hK,QC,fun hG s hs _=>?_⟩;have hx:=(hs x (iW x QC)).trans h1;exact F6 ho ht hx (by rw [tW (ρ:=ρ) (fun y e=>hs y (iW y (by simp [e])))];exact hi') (by rw [tW (ρ:=ρ) (fun y e=>hs y (iW y (by simp [e])))];exact hj) (hc hG).1 (hc hG).2.1 (hc hG).2.2
    ·exact h.elim
   ·rename_i sz l h1;split at h
    ·rename_i e sz' by_ i j ht hi' hj;obtain ⟨rfl,hc,hK⟩:=h;refine ⟨_,_,hK,fun q hq=>iW _ (by have:=fS hq;simp at this;simp [this]),fun hG s hs _=>?_⟩;have hx:=(hs x (iW x QC)).trans h1;rw [<- ko (s:=s) (xs:=[x]) (fun y hy=>hs y (iW y (by simp at hy;simp [hy])))];exact D9 ho ht hx (by rw [tW (ρ:=ρ) (fun y e=>hs y (iW y (by simp [e])))];exact hi') (by rw [tW (ρ:=ρ) (fun y e=>hs y (iW y (by simp [e])))];exact hj) (hc hG).1 (hc hG).2.1 (hc hG).2.2
    ·exact h.elim
   ·exact h.elim
 | build t parts =>
  rw [ho] at h;simp only [ovc] at h;split at h
  ·rename_i places zs hp;split at h
   ·rename_i cells hf;obtain ⟨hnd,hK⟩:=h;refine ⟨_,_,hK,fun i hi=>?_,fun hG s hs _=>?_⟩
    ·rw [ho];have:=fS hi;simpa [Op.operands] using this
    ·have hs':∀ y,y∈parts.toList.map Prod.snd->ev s.t y=ρ y:=fun y hy=>hs y (by rw [ho];simpa [Op.operands] using hy)
     have e1:=ko hs'
     have e2:(parts.toList.map fun p=>(p.1,ev s.t p.2))=parts.toList.map fun p=>(p.1,ρ p.2):=by
      apply List.map_congr_left;intro p hp';rw [hs' p.2 (List.mem_map_of_mem hp')]
     rw [<- e1] at hnd ⊢;rw [<- e2] at hf;exact M3 ho hp hf hnd
   ·exact h.elim
  ·split at h
   ·rename_i ms zs ht hz;obtain ⟨hp,hK⟩:=h;exact ⟨_,[],hK,QC,fun hG s hs _=>KJ (m:=ms.1) (sz:=ms.2) ho hp ht hz⟩
   ·exact h.elim
 | buildSlice t len parts =>
  rw [ho] at h;simp only [ovc] at h;split at h
  ·rename_i e sz by_ ht;obtain ⟨hz,hsm,hL,hnd,h⟩:=h;split at h
   ·rename_i cells hf;obtain ⟨⟨hcl,hln,hall⟩,hK⟩:=h
    have key:∀ s:AS,(∀ q,q∈o.op.operands.toList->ev s.t q=ρ q)->LOp L P s o (.sl true sz (parts.toList.map fun p=>ρ p.2)) (eW ρ (parts.toList.map Prod.snd)):=by
     intro s hs;have hs':∀ y,y∈parts.toList.map Prod.snd->ev s.t y=ρ y:=fun y hy=>hs y (by rw [ho];simpa [Op.operands] using hy)
     have e1:=ko hs'
     have e2:(parts.toList.map fun p=>(p.1,ev s.t p.2))=parts.toList.map fun p=>(p.1,ρ p.2):=by
      apply List.map_congr_left;intro p hp';rw [hs' p.2 (List.mem_map_of_mem hp')]
     rw [<- e1] at hnd ⊢;rw [<- e2] at hf;obtain ⟨zs,hzs⟩:=Option.isSome_iff_exists.1 hz;exact Ch ho ht hzs hsm hf hnd hcl (fun x hx=>List.all_eq_true.1 hall x hx) (by simpa using hln) hL
    have hk:∀ i,i∈eW ρ (parts.toList.map Prod.snd)->.tmp i∈o.op.operands.toList:=fun i hi=>by rw [ho];have:=fS hi;simpa [Op.operands] using this
    rcases hK with hK|hK
    ·exact ⟨_,_,hK,hk,fun hG s hs _=>key s hs⟩
    ·exact ⟨_,_,hK,hk,fun hG s hs _=>(key s hs).frz⟩
   ·exact h.elim
  ·exact h.elim
 | box t x =>
  rw [ho] at h;simp only [ovc] at h;split at h
  ·rename_i g n ht;obtain ⟨he,hK⟩:=h;refine ⟨_,_,hK,fun i hi=>?_,fun hG s hs _=>?_⟩
   ·rw [ho];have:=fS hi;simpa [Op.operands] using this
   ·have hx:=hs x (by rw [ho];simp [Op.operands]);rw [<- hx,<- ko (s:=s) (xs:=[x]) (by simpa using hx)];rw [<- hx] at he;exact SL ho he
  ·exact h.elim
 | makeFunc fn first cap =>
  rw [ho] at h
  cases fn with
  | func f =>
   simp only [ovc] at h;obtain ⟨hf,hn,hK⟩:=h;have hf':first=#[]:=by apply Array.ext';simpa using hf
   subst hf';refine ⟨_,[],hK,QC,fun hG s hs _=>?_⟩
   have hmap:cap.toList.map (ev s.t)=cap.toList.map ρ:=by
    apply List.map_congr_left;intro z hz;exact hs z (by rw [ho];simp [Op.operands];simpa using hz)
   rw [<- hmap] at hn ⊢;exact F9 ho hn
  | _=>simp [ovc] at h
 | convert src dst x =>
  rw [ho] at h;simp only [ovc] at h;split at h
  ·rename_i k' n h1;split at h
   ·rename_i k hk;obtain ⟨hu,hK⟩:=h;obtain ⟨d,hd⟩:=PZ hu;exact ⟨_,[],hK,QC,fun hG s hs _=>Gc ho hd (Ta hk) ((hs x (by rw [ho];simp [Op.operands])).trans h1)⟩
   ·exact h.elim
  ·rename_i own' l h1;split at h
   ·rename_i bs hb;obtain ⟨⟨hk,hby⟩,hln,hK⟩:=h
    obtain ⟨e,hs1,hs2⟩:=TY hby;refine ⟨_,[],hK,QC,fun hG s hs _=>?_⟩;rw [Ix hb] at h1;exact D7 ho hs1 hs2 (qg hk) ((hs x (by rw [ho];simp [Op.operands])).trans h1) (hln hG)
   ·exact h.elim
  ·rename_i b off len sz h1;obtain ⟨l,e,hc,hK⟩:=h;refine ⟨_,[],hK,QC,fun hG s hs hso=>?_⟩;obtain ⟨rfl,rfl,rfl,hln,hO,hs1,hs2,hs3⟩:=hc hG;exact Cg ho hs1 hs2 hs3 ((hs x (by rw [ho];simp [Op.operands])).trans h1) (by rw [hso];exact hO) hln
  ·exact h.elim
 | call c =>
  rw [ho] at h;exact Kq ho h
 | _=>rw [ho] at h;simp [ovc] at h
end
end
section
def isL(eff:List Nat)(o:Oper):Bool :=
 match o.op with
 | .load ..=>match o.dst with|some d=>!eff.contains d|none=>true
 | .move _|.assign _|.pick ..|.build ..|.nilCheck _|.binOp ..|.unOp ..|.convert ..|.makeFunc ..|.slice ..|.fieldAddr ..|.field ..|.indexAddr ..|.index ..|.extract ..=>true
 | .box ..|.buildSlice ..=>match o.dst with|some d=>!eff.contains d|none=>true
 | .call c=>match c.callee with
  | .builtin .len|.builtin .min|.builtin .max=>true
  | .value _=>match o.dst with|some d=>!eff.contains d|none=>false
  | _=>false
 | _=>false
def AV.strip:AV->AV
 | .cnd _ x=>x
 | x=>x
def okc(G:Bool):AV->Prop
 | .cnd g _=>G=true->g=true
 | _=>True
def Pa(t:daa)(G:Bool):List Operand->Prop
 | []=>True
 | .tmp i::xs=>okc G (T t i)/\Pa t G xs
 | _::xs=>Pa t G xs
def evS(t:daa)(y:Operand):AV:=(ev t y).strip
def stS:List Operand->List Nat
 | []=>[]
 | .tmp i::xs=>i::stS xs
 | _::xs=>stS xs
def stO:Op->List Nat
 | .pick c _ _=>stS [c]
 | op=>stS op.operands.toList
def Ca(t:daa)(G:Bool):List Nat->Prop
 | []=>True
 | i::xs=>okc G (T t i)/\Ca t G xs
def sL:List Nat->Nat->Bool
 | [],_=>false
 | k::ks,i=>Nat.beq k i || sL ks i
def evK(t:daa)(ks:List Nat):Operand->AV
 | .tmp i=>bif sL ks i then (T t i).strip else T t i
 | y=>ev t y
def zh{ks:List Nat}{i:Nat}:sL ks i=true↔i∈ks:=by
 induction ks with
 | nil=>simp [sL]
 | cons k ks ih =>
  simp only [sL,Bool.or_eq_true,ih,List.mem_cons];constructor
  ·rintro (h|h)
   ·exact .inl (Nat.eq_of_beq_eq_true h).symm
   ·exact .inr h
  ·rintro (h|h)
   ·exact .inl (by rw [h];exact Nat.beq_refl _)
   ·exact .inr h
def FT{t:daa}{G:Bool}:∀ {ks:List Nat} {i:Nat},Ca t G ks->i∈ks->okc G (T t i)
 | [],_,_,h=>by cases h
 | k::ks,i,hk,h=>by
  rcases List.mem_cons.1 h with rfl|h
  ·exact hk.1
  ·exact FT hk.2 h
def W(L:eaa)(P:Program)(ops:Array Oper)(eff:List Nat)(n:Nat)(os:List (Nat×Option (List AV)))(K:daa->List (AV×List Nat)->List Nat->Prop):List Nat->daa->List (AV×List Nat)->Prop
 | [],t,D=>K t D []
 | i::l,t,D =>
  match ops[i]? with
  | none=>False
  | some o =>
   match isL eff o || (o.guard.isNone && apW t o.op) with
   | false=>K t D (i::l)
   | true=>cz n o.dst=true/\(match o.guard with
    | none=>ovc L P os (ev t) true o.op (fun x C=>W L P ops eff n os K l (upd o x C t) (D++[(x,C)]))
    | some (j,want)=>match (ops[j]?).bind (·.dst) with
     | none=>False
     | some d=>Nat.blt d n=true/\(match pM (T t d) with
      | none=>False
      | some (G,g)=>Ca t (G && (g == want)) (stO o.op) /\
       ovc L P os (evK t (stO o.op)) (G && (g == want)) o.op (fun x C=>C=[]/\W L P ops eff n os K l (upd o (.cnd (G && (g == want)) x) [] t) (D++[(.cnd (G && (g == want)) x,[])]))))
section
variable {L : Nat -> Nat} {P : Program} {ops : Array Oper} {eff : List Nat} {n : Nat} {os : List (Nat × Option (List AV))}
def LOp.FV{t:daa}{o:Oper}{x:AV}{C:List Nat}{G:Bool}{ks:List Nat}(hG:G=true)(hok:Ca t G ks)(h:∀ s:AS,(∀ y,y∈o.op.operands.toList->ev s.t y=evK t ks y)->s.o=os->LOp L P s o x C)(s:AS)(hs:∀ y,y∈o.op.operands.toList->ev s.t y=ev t y)(hso:s.o=os):LOp L P s o x C:=by
 intro B F0 w0 F own fp fs a w next Q hd bF
 classical
 let ks':List Nat:=ks.filter fun i=>decide (.tmp i∈o.op.operands.toList)
 have hT:∀ (q:List Nat) (i:Nat),T (q.map (fun k=>(k,(T s.t k).strip))++s.t) i=if i∈q then (T s.t i).strip else T s.t i:=by
  intro q i
  induction q with
  | nil=>simp
  | cons k q ih =>
   simp only [List.map_cons,List.cons_append,T];by_cases e:k=i
   ·subst e;simp
   ·have e1:(k == i)=false:=by simpa using e
    have e2:¬ i=k:=fun h=>e h.symm;rw [e1];simp [e2,ih]
 have hks:∀ i,i∈ks'↔i∈ks/\.tmp i∈o.op.operands.toList:=by
  intro i;simp only [ks',List.mem_filter,decide_eq_true_eq]
 refine h ⟨s.n,ks'.map (fun k=>(k,(T s.t k).strip))++s.t,s.o⟩ ?_ hso B F0 w0 F own fp fs a w next Q { hd with slots:=?_ } bF
 ·intro y hy
  cases y with
  | tmp i =>
   have e1:=hs (.tmp i) hy;simp only [ev] at e1;simp only [ev,evK,hT];by_cases hi:i∈ks
   ·rw [if_pos ((hks i).2 ⟨hi,hy⟩),zh.2 hi,e1];rfl
   ·rw [if_neg (fun h=>hi ((hks i).1 h).1)]
    cases hm:sL ks i with
    | true=>exact absurd (zh.1 hm) hi
    | false=>exact e1
  | const v=>rfl
  | global _=>rfl
  | func _=>rfl
 ·intro i;simp only [hT];split
  ·rename_i hi;obtain ⟨h1,h2⟩:=(hks i).1 hi;have e1:=hs (.tmp i) h2;simp only [ev] at e1;have e2:=FT hok h1;rw [<- e1] at e2;have hr:=hd.slots i
   cases hTT:T s.t i with
   | cnd g x =>
    rw [hTT] at hr e2;simp only [Rep] at hr;exact hr.1 (e2 hG)
   | _=>rw [hTT] at hr;exact hr
  ·exact hd.slots i
def W.draw{K':daa->List (AV×List Nat)->Prop}:∀ (l:List Nat) (i:Nat) (t:daa) (D:List (AV×List Nat)),l=List.range' i (ops.size - i)->W L P ops eff n os (fun t D _=>K' t D) l t D->jB L P ops n os K' i t D
 | [],i,t,D,_,h=>by simp only [W] at h;exact .done h
 | i'::l,i,t,D,hl,h=>by
  have hlt:i<ops.size:=by
   rcases Nat.lt_or_ge i ops.size with h|h
   ·exact h
   ·rw [show ops.size - i=0 by omega] at hl;simp at hl
  rw [show ops.size - i=(ops.size - (i+1))+1 by omega,List.range'_succ] at hl;simp only [List.cons.injEq] at hl;obtain ⟨rfl,hl⟩:=hl;simp only [W] at h;split at h
  ·exact h.elim
  ·rename_i o ho;split at h
   ·exact .done h
   ·obtain ⟨hd,h⟩:=h
    have hmem:∀ y,y∈o.op.operands.toList->ev (dP t (slotsOf ops o)) y=ev t y:=by
     intro y hy
     cases y with
     | tmp k =>
      have hk:k∈slotsOf ops o:=by
       simp only [slotsOf,List.mem_append,List.mem_filterMap];exact .inl ⟨.tmp k,hy,rfl⟩
      simp only [ev];clear h hd hl;generalize slotsOf ops o=ks at hk
      induction ks with
      | nil=>cases hk
      | cons q ks ih =>
       simp only [dP,List.map_cons,T];by_cases e:q=k
       ·subst e;simp
       ·have:(q == k)=false:=by simpa using e
        rw [this];rcases List.mem_cons.1 hk with rfl|hk
        ·exact absurd rfl e
        ·exact ih hk
     | const _=>rfl
     | global _=>rfl
     | func _=>rfl
    split at h
    ·rename_i hg;obtain ⟨x,C,hK,hC,hlo⟩:=rB h;refine .step o x C ho ⟨hd,fun k hk=>?_,.inl ⟨hg,hlo rfl _ hmem rfl⟩⟩ (W.draw l (i'+1) _ _ hl hK);simp only [slotsOf,List.mem_append,List.mem_filterMap];exact .inl ⟨.tmp k,hC k hk,rfl⟩
    ·rename_i j want hg;split at h
     ·exact h.elim
     ·rename_i d hj;obtain ⟨nN,h⟩:=h;split at h
      ·exact h.elim
      ·rename_i G g hgv;obtain ⟨hok,h⟩:=h;obtain ⟨x,C,⟨rfl,hK⟩,_,hlo⟩:=rB h
       cases hoj:ops[j]? with
       | none=>rw [hoj] at hj;cases hj
       | some oj =>
        rw [hoj] at hj;refine .step o _ [] ho ⟨hd,QC,.inr ⟨j,want,oj,d,G,g,x,hg,hoj,hj,nN,hgv,rfl,rfl,fun hG=>?_⟩⟩ (W.draw l (i'+1) _ _ hl hK);exact LOp.FV hG hok (hlo hG) _ hmem rfl
end
section
variable {L : Nat -> Nat} {P : Program} {n : Nat} {t : List (Nat × AV)} {o : List (Nat × Option (List AV))} {Q : Exit -> AS -> Prop} {id : Nat} {ops : Array Oper}
end
end
end Go.Ab
