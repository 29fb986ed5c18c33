/-
  Part of a proof: AbW, AbRun, AbSet, AbEnds, AbFx, AbGhost, AbGen, AbRes, AbN, AbN2, AbIn, AbN3, AbN4, AbMore.
-/
import Derived.Test.YtmcjbaafmjlblaaGreatDoorG0
set_option linter.unusedSimpArgs false
set_option linter.unusedVariables false
namespace Go.Ab
open Go.RowKit (Below)
def killsR(ρ:Operand→AV):List Operand→List Nat
 | []=>[]
 | .tmp i::xs=>bif (ρ (.tmp i)).nown then killsR ρ xs else i::killsR ρ xs
 | _::xs=>killsR ρ xs
def knd(P:Program)(t:TypeId):Option Bool :=
 match P.underlying t with
 | some .string=>some true
 | some (.slice _)=>some false
 | _=>none
def lenA:AV→Option (Bool×Nat)
 | .str l=>some (true,l.length)
 | .sl _ _ l=>some (false,l.length)
 | .arr _ _ len _=>some (false,len)
 | .v (.slice none 0 0)=>some (false,0)
 | _=>none
def bndR(ρ:Operand→AV)(o:Option Operand)(d:Int):Option Int :=
 match o with
 | none=>some d
 | some y=>match ρ y with
  | .v (.int _ n)=>some n
  | _=>none
def ikd(P:Program)(t:TypeId):Option IntKind :=
 match P.underlying t with
 | some (.int k)=>some k
 | _=>none
def hasU(P:Program)(t:TypeId):Bool:=(P.underlying t).isSome
def byS(P:Program)(t:TypeId):Bool :=
 match P.underlying t with
 | some (.slice e)=>match P.underlying e with
  | some (.int .u8)=>true
  | _=>false
 | _=>false
theorem ikd_inv{P:Program}{t:TypeId}{k:IntKind}(h:ikd P t=some k):P.underlying t=some (.int k):=by
 unfold ikd at h;split at h<;>simp_all
theorem hasU_inv{P:Program}{t:TypeId}(h:hasU P t=true):∃ d,P.underlying t=some d:=Option.isSome_iff_exists.1 h
theorem byS_inv{P:Program}{t:TypeId}(h:byS P t=true):∃ e,P.underlying t=some (.slice e)∧P.underlying e=some (.int .u8):=by
 unfold byS at h
 split at h
 ·rename_i e he
  split at h
  ·rename_i hu;exact ⟨e,he,hu⟩
  ·cases h
 ·cases h
def isB(P:Program)(t:TypeId):Bool :=
 match P.underlying t with
 | some .bool=>true
 | _=>false
theorem isB_inv{P:Program}{t:TypeId}(h:isB P t=true):P.underlying t=some .bool:=by
 unfold isB at h;split at h<;>simp_all
theorem run_boolV{P:Program}{t:TypeId}(h:isB P t=true)(x y:Operand)(a b:Bool)(w:World) :
  (do eqGuard .eql t x y (.bool a) (.bool b);binOp .eql t (.bool a) (.bool b):Sem Value).run P w=.ok (.bool (a == b)) w ∧
  (do eqGuard .neq t x y (.bool a) (.bool b);binOp .neq t (.bool a) (.bool b):Sem Value).run P w=.ok (.bool (a != b)) w:=by
 have h1:=isB_inv h
 constructor
 ·have:=run_eql_bool (P:=P) w t a b h1
  simp [eqGuard,this]
 ·have:=run_neq_bool (P:=P) w t a b h1
  simp [eqGuard,this,bne]
def at8(s:List UInt8)(n:Int):Int:=((s[n.toNat]?).getD 0).toNat
class Hd(α:Type) where
 v:α
def bsK(sz:Nat)(l:List AV)(C:List Nat)[K:Hd (AV→List Nat→Prop)]:Prop:=K.v (.sl true sz l) C∨K.v (.sl false sz (AV.frzL l)) C
theorem Gives.frz{L:Nat→Nat}{F:Nat→Prop}{fp:Nat→List Nat}{C:List Nat}{w:World}{x:AV}{v:Value}{w':World}(h:Gives L F fp C w x v w'):Gives L F fp C w x.frz v w':=by
 obtain ⟨hb,F',fx,h1,h2,h3,h4,h5⟩:=h
 refine ⟨hb,fun b=>F' b∨b∈fx,[],fun b hb=>.inl (h1 b hb),?_,Rep.frz (fun b hb=>.inl hb) (fun b hb=>.inr hb) h3,by simp,by simp⟩
 rintro b (hb|hb)
 ·exact h2 b hb
 ·exact .inr ((h5 b hb).2.elim .inr .inl)
theorem LOp.frz{L:Nat→Nat}{P:Program}{s:AS}{o:Oper}{x:AV}{C:List Nat}(h:LOp L P s o x C):LOp L P s o x.frz C :=
 fun B F0 w0 F own fp fs a w next Q hd hn=>h B F0 w0 F own fp fs a w next Q hd fun v w' g=>hn v w' g.frz
def idxVc(G:Bool)(l:List AV)(n:Int)(sz:Nat)[K:Hd (AV→Prop)]:Prop:=∃ x,(G=true→0≤n∧l[n.toNat]? = some x∧x.elem sz=true)∧K.v x
def at_{α:Type}[Inhabited α](l:List α)(k:Nat):α:=(l[k]?).getD default
theorem at_get{α:Type}[Inhabited α]{l:List α}{k:Nat}(h:k<l.length):l[k]? = some (at_ l k):=by
 unfold at_;rw [List.getElem?_eq_getElem h];rfl
theorem at_mem{α:Type}[Inhabited α]{l:List α}{k:Nat}(h:k<l.length):at_ l k∈l:=List.mem_of_getElem? (at_get h)
theorem at_drop{α:Type}[Inhabited α]{l:List α}{k:Nat}(h:k<l.length):l.drop k=at_ l k::l.drop (k+1):=by
 rw [List.drop_eq_getElem_cons h]
 unfold at_;rw [List.getElem?_eq_getElem h];rfl
theorem idxVc_true{α:Type}[Inhabited α]{f:α→AV}{l:List α}{n:Int}{sz:Nat}{K:AV→Prop}(h0:0≤n)(h:n.toNat<l.length):idxVc true (l.map f) n sz (K:=⟨K⟩)=((f (at_ l n.toNat)).elem sz=true∧K (f (at_ l n.toNat))):=by
 have e:(l.map f)[n.toNat]? = some (f (at_ l n.toNat)):=by rw [List.getElem?_map,at_get h];rfl
 apply propext
 constructor
 ·rintro ⟨x,hx,hK⟩
  have:=hx rfl
  rw [e] at this
  obtain ⟨_,h2,h3⟩:=this
  cases h2;exact ⟨h3,hK⟩
 ·rintro ⟨h1,h2⟩
  exact ⟨_,fun _=>⟨h0,e,h1⟩,h2⟩
theorem idxVc.map{α:Type}[Inhabited α]{G:Bool}{f:α→AV}{l:List α}{n:Int}{sz:Nat}{K:AV→Prop}(hb:G=true→0≤n∧n.toNat<l.length)(he:(f (at_ l n.toNat)).elem sz=true)(hK:K (f (at_ l n.toNat))):idxVc G (l.map f) n sz (K:=⟨K⟩) :=
 ⟨_,fun hG=>⟨(hb hG).1,by rw [List.getElem?_map,at_get (hb hG).2];rfl,he⟩,hK⟩
def lowP:List AV→List AV
 | []=>[]
 | x::xs=>(bif x.nown then x else x.frz)::lowP xs
@[reducible] def CallP(L:Nat→Nat)(P:Program)(os:List (Nat×Option (List AV)))(_la:List AV)(G:Bool)(f:FuncId)(args:List AV)[K:Hd (AV→Prop)]:Prop:=∃ res,(G=true→CallOK L P os f args res)∧K.v res
def callVc(L:Nat→Nat)(P:Program)(os:List (Nat×Option (List AV)))(ρ:Operand→AV)(G:Bool)(callee:Callee)(args:List Operand)(ts:List TypeId)(K:AV→List Nat→Prop):Prop :=
 match callee,args,ts with
 | .builtin .len,[x],[t]=>match lenA (ρ x) with
  | some (k,n)=>knd P t=some k∧K (.v (.int .i64 n)) []
  | none=>False
 | .builtin .min,[x,y],_=>match ρ x,ρ y with
  | .v (.int k m),.v (.int k' n)=>k=k'∧K (.v (.int k (if n<m then n else m))) []
  | _,_=>False
 | .builtin .max,[x,y],_=>match ρ x,ρ y with
  | .v (.int k m),.v (.int k' n)=>k=k'∧K (.v (.int k (if n > m then n else m))) []
  | _,_=>False
 | .builtin .append,[.tmp i,y],[t,u]=>match elm P t with
  | some (e,sz,bytes)=>match ρ (.tmp i) with
   | .sl true z l=>match srcE sz (ρ y) with
    | some l'=>((zlen P e=some sz∧(knd P u).isSome=true)∧(z=sz∧neTmp y i=true∧l.all (AV.elem sz)=true∧l'.all (AV.elem sz)=true∧(l'.flatMap AV.cells).all AV.one=true)) ∧
      (G=true→l.length+l'.length≤L sz∧(l.length+l'.length) * bytes≤140737488355328∧l.length+l'.length≤9223372036854775807)∧K (.sl true sz (l++l')) (killsR ρ [.tmp i,y])
    | none=>False
   | _=>False
  | none=>False
 | .value y,args,_=>match fnA (ρ y) with
  | some (f,caps)=>AV.nownL caps=true∧CallP L P os (lowP (args.map ρ++caps)) G f (args.map ρ++caps) (K:=⟨fun res=>K res []⟩)
  | none=>False
 | _,_,_=>False
def ovc(L:Nat→Nat)(P:Program)(os:List (Nat×Option (List AV)))(ρ:Operand→AV)(G:Bool)(op:Op)(K:AV→List Nat→Prop):Prop :=
 match op with
 | .move x=>K (ρ x) (killsR ρ [x])
 | .assign x=>K (ρ x) (killsR ρ [x])
 | .pick c a b=>match ρ c,gval (ρ a),gval (ρ b) with
  | .v (.bool p),some (Ga,u),some (Gb,v)=>(G=true→(p=true→Ga=true)∧(p=false→Gb=true))∧K (.v (.bool (bif p then u else v))) []
  | _,_,_=>False
 | .binOp bop bty x y _=>match ρ x,ρ y with
  | .v u,.v v=>match binV bop u v with
   | some z=>K (.v z) []
   | none=>match bop,u,v with
    | .eql,.bool a,.bool b=>isB P bty=true∧K (.v (.bool (a == b))) []
    | .neq,.bool a,.bool b=>isB P bty=true∧K (.v (.bool (a != b))) []
    | _,_,_=>False
  | .str a,.str b=>match binS bop a b with
   | some z=>K (.v (.bool z)) []
   | none=>match bop with
    | .add=>(G=true→a.length+b.length≤4611686018427387904)∧K (.str (a++b)) []
    | _=>False
  | _,_=>False
 | .unOp uop _ x=>match ρ x with
  | .v u=>match unV uop u with
   | some z=>K (.v z) []
   | none=>False
  | _=>False
 | .field xt x k=>match ρ x,fld P xt k with
  | .agg cells,some (off,g,n)=>match val g n (cells.drop off) with
   | some y=>match y.nown with
    | true=>K y []
    | false=>y.cpy.nown=true∧K y.cpy []
   | none=>False
  | _,_=>False
 | .fieldAddr xt x k=>match fld P xt k with
  | some (off,_,n)=>Nat.blt 0 n=true∧(match ρ x with
   | .vp cells=>K (.vp (cells.drop off)) []
   | .ptr b o'=>K (.ptr b (o'+off)) []
   | _=>False)
  | none=>False
 | .load t x=>match ty P t with
  | some (g,n)=>match ρ x with
   | .vp cells=>match val g n cells with
    | some y=>K y []
    | none=>False
   | .ptr b off=>match O os b with
    | some cells=>match val g n (cells.drop off) with
     | some y=>match y.nown with
      | true=>K y []
      | false=>y.cpy.nown=true∧K y.cpy []
     | none=>False
    | none=>False
   | _=>False
  | none=>False
 | .nilCheck x=>match ρ x with
  | .ptr b off=>K (.ptr b off) []
  | .vp cells=>K (.vp cells) []
  | _=>False
 | .extract x k=>match ρ x with
  | .tup l=>match l[k]? with
   | some y=>y.nown=true∧K y []
   | none=>False
  | _=>False
 | .index t x i=>match ρ x,ρ i with
  | .str a,.v (.int _ n)=>knd P t=some true∧(G=true→0≤n∧n.toNat<a.length)∧K (.v (.int .u8 (at8 a n))) []
  | _,_=>False
 | .indexAddr t x i=>match ρ i,elm P t with
  | .v (.int _ n),some (_,sz,_)=>match ρ x with
   | .sl false sz' l=>sz'=sz∧idxVc G l n sz (K:=⟨fun y=>K (.vp y.cells) []⟩)
   | .arr b off len sz'=>sz'=sz∧(G=true→0≤n∧n<len)∧K (.ptr b (off+n.toNat * sz)) []
   | _=>False
  | .v (.int _ n),none=>match ael P t,ρ x with
   | some (m,sz),.ptr b off=>(G=true→0≤n∧n<m)∧K (.ptr b (off+n.toNat * sz)) []
   | some (m,sz),.vp cells=>(G=true→0≤n∧n<m)∧K (.vp (cells.drop (n.toNat * sz))) []
   | _,_=>False
  | _,_=>False
 | .slice t x lo hi none=>match ρ x with
  | .str a=>knd P t=some true∧(match bndR ρ lo 0,bndR ρ hi a.length with
   | some i,some j=>(G=true→0≤i∧i≤j∧j≤a.length)∧K (S ((a.take j.toNat).drop i.toNat)) []
   | _,_=>False)
  | .sl false sz l=>match elm P t,bndR ρ lo 0,bndR ρ hi l.length with
   | some (_,sz',_),some i,some j=>sz'=sz∧(G=true→0≤i∧i≤j∧j≤l.length)∧K (.sl false sz ((l.take j.toNat).drop i.toNat)) []
   | _,_,_=>False
  | _=>False
 | .build t parts=>match plc P t with
  | some (places,zs)=>match fillA (places[·]?) (zs.map avz) (parts.toList.map fun p=>(p.1,ρ p.2)) with
   | some cells=>(killsR ρ (parts.toList.map Prod.snd)).Nodup∧K (.agg cells) (killsR ρ (parts.toList.map Prod.snd))
   | none=>False
  | none=>match ael P t,zer P t with
   | some _,some zs=>parts.toList=[]∧K (.agg (zs.map avz)) []
   | _,_=>False
 | .buildSlice t len parts=>match elm P t with
  | some (e,sz,_)=>(zer P e).isSome=true∧len * sz≤16777216∧len≤L sz∧(killsR ρ (parts.toList.map Prod.snd)).Nodup ∧
   (match fillA (fun i=>some (i * sz,sz)) (List.replicate (len * sz) .dead) (parts.toList.map fun p=>(p.1,ρ p.2)) with
   | some cells=>((parts.toList.map fun p=>ρ p.2).flatMap AV.cells=cells∧parts.toList.length=len∧(parts.toList.map fun p=>ρ p.2).all (AV.elem sz)=true)∧bsK sz (parts.toList.map fun p=>ρ p.2) (killsR ρ (parts.toList.map Prod.snd)) (K:=⟨K⟩)
   | none=>False)
  | none=>False
 | .box t x=>match ty P t with
  | some (_,n)=>(ρ x).elem n=true∧K (.vp (AV.frzL (ρ x).cells)) (killsR ρ [x])
  | none=>False
 | .makeFunc (.func f) first cap=>first.toList=[]∧AV.nownL (cap.toList.map ρ)=true∧K (.fn f (cap.toList.map ρ)) []
 | .convert src dst x=>match ρ x with
  | .v (.int _ n)=>match ikd P dst with
   | some k=>hasU P src=true∧K (.v (.int k (k.wrap n))) []
   | none=>False
  | .sl _ 1 l=>match unb l with
   | some bs=>(knd P dst=some true∧byS P src=true)∧(G=true→bs.length≤4611686018427387904)∧K (S bs) []
   | none=>False
  | .arr b off len sz=>∃ l e,(G=true→off=0∧sz=1∧len=l.length∧l.length≤4611686018427387904∧O os b=some (bytesA l)∧P.underlying src=some (.slice e)∧P.underlying e=some (.int .u8)∧P.underlying dst=some .string)∧K (S l) []
  | _=>False
 | .call c=>callVc L P os ρ G c.callee c.args.toList c.argTypes.toList K
 | _=>False
theorem killsR_eq{s:AS}{ρ:Operand→AV}:∀ {xs:List Operand},(∀ y,y∈xs→ev s.t y=ρ y)→kills s.t xs=killsR ρ xs
 | [],_=>rfl
 | x::xs,h=>by
  have ih:=killsR_eq (s:=s) (ρ:=ρ) (xs:=xs) fun y hy=>h y (by simp [hy])
  cases x with
  | tmp i =>
   have:=h (.tmp i) (by simp)
   simp only [ev] at this
   simp only [kills,killsR,this,ih]
  | const _=>simp only [kills,killsR,ih]
  | global _=>simp only [kills,killsR,ih]
  | func _=>simp only [kills,killsR,ih]
theorem killsR_sub{ρ:Operand→AV}{i:Nat}:∀ {xs:List Operand},i∈killsR ρ xs→.tmp i∈xs
 | [],h=>by simp [killsR] at h
 | x::xs,h=>by
  cases x with
  | tmp j =>
   simp only [killsR] at h
   cases hn:(ρ (.tmp j)).nown with
   | true=>rw [hn] at h;exact List.mem_cons_of_mem _ (killsR_sub h)
   | false =>
    rw [hn] at h
    rcases List.mem_cons.1 h with rfl|h
    ·simp
    ·exact List.mem_cons_of_mem _ (killsR_sub h)
  | const _=>exact List.mem_cons_of_mem _ (killsR_sub h)
  | global _=>exact List.mem_cons_of_mem _ (killsR_sub h)
  | func _=>exact List.mem_cons_of_mem _ (killsR_sub h)
def Sound(L:Nat→Nat)(P:Program)(os:List (Nat×Option (List AV)))(ρ:Operand→AV)(G:Bool)(o:Oper)(K:AV→List Nat→Prop):Prop :=
 ∃ x C,K x C∧(∀ i,i∈C→.tmp i∈o.op.operands.toList)∧(G=true→∀ s:AS,(∀ y,y∈o.op.operands.toList→ev s.t y=ρ y)→s.o=os→LOp L P s o x C)
section
variable {L : Nat → Nat} {P : Program} {os : List (Nat × Option (List AV))} {ρ : Operand → AV} {G : Bool} {o : Oper} {K : AV → List Nat → Prop}
theorem knd_str{t:TypeId}(h:knd P t=some true):P.underlying t=some .string:=by
 unfold knd at h;split at h<;>simp_all
theorem knd_sl{t:TypeId}(h:knd P t=some false):∃ e,P.underlying t=some (.slice e):=by
 unfold knd at h;split at h<;>simp_all
theorem bnd_eq{s:AS}{q:Option Operand}{d:Int}(h:∀ y,q=some y→ev s.t y=ρ y):bnd s.t q d=bndR ρ q d:=by
 cases q with
 | none=>rfl
 | some y =>
  simp only [bnd,bndR,h y rfl]
  generalize ρ y=z
  cases z<;>rfl
def cops:Callee→List Operand
 | .value f=>[f]
 | .invoke r _=>[r]
 | .builtin _=>[]
theorem cops_eq{callee:Callee}{args:Array Operand}{ts:Array TypeId}:(Op.operands (.call ⟨callee,args,ts⟩)).toList=cops callee++args.toList:=by
 cases callee<;>simp [Op.operands,Call.operands,cops]
theorem sound_call{c:Call}(ho:o.op=.call c)(h:callVc L P os ρ G c.callee c.args.toList c.argTypes.toList K):Sound L P os ρ G o K:=by
 obtain ⟨callee,args,ts⟩:=c
 simp only at h
 have hops:o.op.operands.toList=cops callee++args.toList:=by rw [ho];exact cops_eq
 unfold callVc at h
 split at h
 ·rename_i x t e2 e3
  split at h
  ·rename_i k n hk
   obtain ⟨hknd,hK⟩:=h
   refine ⟨_,[],hK,by simp,fun _ s hs hso=>?_⟩
   have hc:(⟨.builtin .len,args,ts⟩:Call)=⟨.builtin .len,#[x],#[t]⟩:=by
    have h1:args=#[x]:=by apply Array.ext';simpa using e2
    have h2:ts=#[t]:=by apply Array.ext';simpa using e3
    rw [h1,h2]
   have hx:ev s.t x=ρ x:=hs x (by rw [hops,e2];simp)
   generalize ρ x=z at hk hx
   unfold lenA at hk
   split at hk
   ·cases hk
    exact lop_len_str ho hc hx (knd_str hknd)
   ·cases hk
    obtain ⟨e,he⟩:=knd_sl hknd
    exact lop_len_sl ho hc hx he
   ·cases hk
    obtain ⟨e,he⟩:=knd_sl hknd
    exact lop_len_arr ho hc hx he
   ·cases hk
    obtain ⟨e,he⟩:=knd_sl hknd
    exact lop_len_nil ho hc hx he
   ·cases hk
  ·exact h.elim
 ·rename_i x y e2
  split at h
  ·rename_i k m k' n h1 h2
   obtain ⟨rfl,hK⟩:=h
   refine ⟨_,[],hK,by simp,fun _ s hs hso=>?_⟩
   have hc:(⟨.builtin .min,args,ts⟩:Call)=⟨.builtin .min,#[x,y],ts⟩:=by
    have h1:args=#[x,y]:=by apply Array.ext';simpa using e2
    rw [h1]
   exact lop_min ho hc ((hs x (by rw [hops,e2];simp)).trans h1) ((hs y (by rw [hops,e2];simp)).trans h2)
  ·exact h.elim
 ·rename_i x y e2
  split at h
  ·rename_i k m k' n h1 h2
   obtain ⟨rfl,hK⟩:=h
   refine ⟨_,[],hK,by simp,fun _ s hs hso=>?_⟩
   have hc:(⟨.builtin .max,args,ts⟩:Call)=⟨.builtin .max,#[x,y],ts⟩:=by
    have h1:args=#[x,y]:=by apply Array.ext';simpa using e2
    rw [h1]
   exact lop_max ho hc ((hs x (by rw [hops,e2];simp)).trans h1) ((hs y (by rw [hops,e2];simp)).trans h2)
  ·exact h.elim
 ·rename_i i y t u e2 e3
  split at h
  ·rename_i e sz bytes ht
   split at h
   ·rename_i z l hx
    split at h
    ·rename_i l' hsrc
     obtain ⟨⟨⟨hzl,hk⟩,rfl,hne,hel,hel',hone⟩,hb,hK⟩:=h
     obtain ⟨zs,hz,hzl⟩:=zlen_inv hzl
     have hu:(∃ e',P.underlying u=some (.slice e'))∨P.underlying u=some .string:=by
      cases hkk:knd P u with
      | none=>rw [hkk] at hk;cases hk
      | some b =>
       cases b with
       | true=>exact .inr (knd_str hkk)
       | false=>exact .inl (knd_sl hkk)
     refine ⟨_,_,hK,fun j hj=>by rw [hops,e2];simpa [cops] using killsR_sub hj,fun hG s hs hso=>?_⟩
     have hc:(⟨.builtin .append,args,ts⟩:Call)=⟨.builtin .append,#[.tmp i,y],#[t,u]⟩:=by
      have h1:args=#[.tmp i,y]:=by apply Array.ext';simpa using e2
      have h2:ts=#[t,u]:=by apply Array.ext';simpa using e3
      rw [h1,h2]
     have hi:ev s.t (.tmp i)=ρ (.tmp i):=hs _ (by rw [hops,e2];simp [cops])
     have hy:ev s.t y=ρ y:=hs _ (by rw [hops,e2];simp [cops])
     have hkl:kills s.t [.tmp i,y]=killsR ρ [.tmp i,y]:=killsR_eq fun q hq=>hs q (by rw [hops,e2];simpa [cops] using hq)
     rw [← hkl]
     obtain ⟨hL,hby,h63⟩:=hb hG
     exact lop_append_own ho hc (hi.trans hx) (neTmp_iff hne) ht hz hzl hu (by rw [hy];exact hsrc) (by simpa [List.all_eq_true] using hel) (by simpa [List.all_eq_true] using hel') hone hL hby h63
    ·exact h.elim
   ·exact h.elim
  ·exact h.elim
 ·rename_i y
  split at h
  ·rename_i f caps hf
   obtain ⟨hcn,res,hcall,hK⟩:=h
   refine ⟨_,[],hK,by simp,fun hG s hs hso=>?_⟩
   subst hso
   have hmap:args.toList.map (ev s.t)=args.toList.map ρ:=by
    apply List.map_congr_left
    intro z hz
    exact hs z (by rw [hops];simp;exact .inr (by simpa using hz))
   refine lop_callv ho rfl (by rw [hs y (by rw [hops];simp [cops])];exact hf) hcn ?_
   rw [hmap]
   exact hcall hG
  ·exact h.elim
 ·exact h.elim
theorem ovc_sound(h:ovc L P os ρ G o.op K):Sound L P os ρ G o K:=by
 cases ho:o.op with
 | move x =>
  rw [ho] at h
  refine ⟨_,_,h,fun i hi=>?_,fun _ s hs _=>?_⟩
  ·rw [ho];have:=killsR_sub hi;simpa [Op.operands] using this
  ·have hx:=hs x (by rw [ho];simp [Op.operands])
   rw [← hx,← killsR_eq (s:=s) (xs:=[x]) (by simpa using hx)]
   exact lop_move (.inl ho)
 | assign x =>
  rw [ho] at h
  refine ⟨_,_,h,fun i hi=>?_,fun _ s hs _=>?_⟩
  ·rw [ho];have:=killsR_sub hi;simpa [Op.operands] using this
  ·have hx:=hs x (by rw [ho];simp [Op.operands])
   rw [← hx,← killsR_eq (s:=s) (xs:=[x]) (by simpa using hx)]
   exact lop_move (.inr ho)
 | pick c a b =>
  rw [ho] at h
  simp only [ovc] at h
  split at h
  ·rename_i p Ga u Gb v h1 h2 h3
   obtain ⟨hc,hK⟩:=h
   refine ⟨_,[],hK,by simp,fun hG s hs _=>?_⟩
   have hs':∀ y,y∈[c,a,b]→ev s.t y=ρ y:=fun y hy=>hs y (by rw [ho];simpa [Op.operands] using hy)
   exact lop_pick ho ((hs' c (by simp)).trans h1) (by rw [hs' a (by simp)];exact h2) (by rw [hs' b (by simp)];exact h3) (hc hG).1 (hc hG).2
  ·exact h.elim
 | binOp bop ty x y ty' =>
  rw [ho] at h
  simp only [ovc] at h
  split at h
  ·rename_i u v h1 h2
   split at h
   ·rename_i z hz
    refine ⟨_,[],h,by simp,fun hG s hs _=>?_⟩
    have hs':∀ q,q∈[x,y]→ev s.t q=ρ q:=fun q hq=>hs q (by rw [ho];simpa [Op.operands] using hq)
    exact lop_binV ho ((hs' x (by simp)).trans h1) ((hs' y (by simp)).trans h2) hz
   ·split at h
    ·rename_i a b _
     obtain ⟨hc,hK⟩:=h
     refine ⟨_,[],hK,by simp,fun hG s hs _=>?_⟩
     have hs':∀ q,q∈[x,y]→ev s.t q=ρ q:=fun q hq=>hs q (by rw [ho];simpa [Op.operands] using hq)
     exact lop_bin ho ((hs' x (by simp)).trans h1) ((hs' y (by simp)).trans h2) (fun w=>(run_boolV hc x y a b w).1)
    ·rename_i a b _
     obtain ⟨hc,hK⟩:=h
     refine ⟨_,[],hK,by simp,fun hG s hs _=>?_⟩
     have hs':∀ q,q∈[x,y]→ev s.t q=ρ q:=fun q hq=>hs q (by rw [ho];simpa [Op.operands] using hq)
     exact lop_bin ho ((hs' x (by simp)).trans h1) ((hs' y (by simp)).trans h2) (fun w=>(run_boolV hc x y a b w).2)
    ·exact h.elim
  ·rename_i a b h1 h2
   split at h
   ·rename_i z hz
    refine ⟨_,[],h,by simp,fun hG s hs _=>?_⟩
    have hs':∀ q,q∈[x,y]→ev s.t q=ρ q:=fun q hq=>hs q (by rw [ho];simpa [Op.operands] using hq)
    exact lop_binS ho ((hs' x (by simp)).trans h1) ((hs' y (by simp)).trans h2) hz
   ·split at h
    ·obtain ⟨hc,hK⟩:=h
     refine ⟨_,[],hK,by simp,fun hG s hs _=>?_⟩
     have hs':∀ q,q∈[x,y]→ev s.t q=ρ q:=fun q hq=>hs q (by rw [ho];simpa [Op.operands] using hq)
     exact lop_cat ho ((hs' x (by simp)).trans h1) ((hs' y (by simp)).trans h2) (hc hG)
    ·exact h.elim
  ·exact h.elim
 | unOp uop ty x =>
  rw [ho] at h
  simp only [ovc] at h
  split at h
  ·rename_i u h1
   split at h
   ·rename_i z hz
    exact ⟨_,[],h,by simp,fun hG s hs _=>lop_unV ho ((hs x (by rw [ho];simp [Op.operands])).trans h1) hz⟩
   ·exact h.elim
  ·exact h.elim
 | field xt x k =>
  rw [ho] at h
  simp only [ovc] at h
  split at h
  ·rename_i cells off g n h1 h2
   split at h
   ·rename_i y hy
    split at h
    ·rename_i hny
     exact ⟨_,[],h,by simp,fun hG s hs _=>lop_field ho ((hs x (by rw [ho];simp [Op.operands])).trans h1) h2 hy hny⟩
    ·exact ⟨_,[],h.2,by simp,fun hG s hs _=>lop_fieldZ ho ((hs x (by rw [ho];simp [Op.operands])).trans h1) h2 hy fun _ _ _ _ r=>Rep.cpy h.1 r⟩
   ·exact h.elim
  ·exact h.elim
 | fieldAddr xt x k =>
  rw [ho] at h
  simp only [ovc] at h
  split at h
  ·rename_i off g n h2
   obtain ⟨hn,h⟩:=h
   split at h
   ·rename_i cells h1
    exact ⟨_,[],h,by simp,fun hG s hs _=>lop_fieldAddr_vp ho ((hs x (by rw [ho];simp [Op.operands])).trans h1) h2 hn⟩
   ·rename_i b o' h1
    exact ⟨_,[],h,by simp,fun hG s hs _=>lop_fieldAddr_ptr ho ((hs x (by rw [ho];simp [Op.operands])).trans h1) h2 hn⟩
   ·exact h.elim
  ·exact h.elim
 | load t x =>
  rw [ho] at h
  simp only [ovc] at h
  split at h
  ·rename_i g n ht
   split at h
   ·rename_i cells h1
    split at h
    ·rename_i y hy
     exact ⟨_,[],h,by simp,fun hG s hs _=>lop_load_vp ho ((hs x (by rw [ho];simp [Op.operands])).trans h1) ht hy⟩
    ·exact h.elim
   ·rename_i b off h1
    split at h
    ·rename_i cells hO
     split at h
     ·rename_i y hy
      split at h
      ·rename_i hny
       exact ⟨_,[],h,by simp,fun hG s hs hso=>lop_load_ptr ho ((hs x (by rw [ho];simp [Op.operands])).trans h1) (by rw [hso];exact hO) ht hy hny⟩
      ·exact ⟨_,[],h.2,by simp,fun hG s hs hso=>lop_load_ptrZ ho ((hs x (by rw [ho];simp [Op.operands])).trans h1) (by rw [hso];exact hO) ht hy fun _ _ _ _ r=>Rep.cpy h.1 r⟩
     ·exact h.elim
    ·exact h.elim
   ·exact h.elim
  ·exact h.elim
 | nilCheck x =>
  rw [ho] at h
  simp only [ovc] at h
  split at h
  ·rename_i b off h1
   exact ⟨_,[],h,by simp,fun hG s hs _=>lop_nilCheck ho ((hs x (by rw [ho];simp [Op.operands])).trans h1)⟩
  ·rename_i cells h1
   exact ⟨_,[],h,by simp,fun hG s hs _=>lop_nilCheck_vp ho ((hs x (by rw [ho];simp [Op.operands])).trans h1)⟩
  ·exact h.elim
 | extract x k =>
  rw [ho] at h
  simp only [ovc] at h
  split at h
  ·rename_i l h1
   split at h
   ·rename_i y hy
    exact ⟨_,[],h.2,by simp,fun hG s hs _=>lop_extract ho ((hs x (by rw [ho];simp [Op.operands])).trans h1) hy h.1⟩
   ·exact h.elim
  ·exact h.elim
 | index t x i =>
  rw [ho] at h
  simp only [ovc] at h
  split at h
  ·rename_i a k n h1 h2
   obtain ⟨hk,hc,hK⟩:=h
   refine ⟨_,[],hK,by simp,fun hG s hs _=>?_⟩
   have hs':∀ q,q∈[x,i]→ev s.t q=ρ q:=fun q hq=>hs q (by rw [ho];simpa [Op.operands] using hq)
   exact lop_index_str ho ((hs' x (by simp)).trans h1) ((hs' i (by simp)).trans h2) (knd_str hk) (hc hG).1 (by rw [List.getElem?_eq_getElem (hc hG).2];rfl)
  ·exact h.elim
 | indexAddr t x i =>
  rw [ho] at h
  simp only [ovc] at h
  split at h
  ·rename_i k n e sz by_ h2 ht
   split at h
   ·rename_i sz' l h1
    obtain ⟨rfl,y,hc,hK⟩:=h
    refine ⟨_,[],hK,by simp,fun hG s hs _=>?_⟩
    have hs':∀ q,q∈[x,i]→ev s.t q=ρ q:=fun q hq=>hs q (by rw [ho];simpa [Op.operands] using hq)
    exact lop_indexAddr_sl ho ((hs' x (by simp)).trans h1) ((hs' i (by simp)).trans h2) ht (hc hG).1 (hc hG).2.1 (hc hG).2.2
   ·rename_i b off len sz' h1
    obtain ⟨rfl,hc,hK⟩:=h
    refine ⟨_,[],hK,by simp,fun hG s hs _=>?_⟩
    have hs':∀ q,q∈[x,i]→ev s.t q=ρ q:=fun q hq=>hs q (by rw [ho];simpa [Op.operands] using hq)
    exact lop_indexAddr_arr ho ((hs' x (by simp)).trans h1) ((hs' i (by simp)).trans h2) ht (hc hG).1 (hc hG).2
   ·exact h.elim
  ·rename_i k n h2 _
   split at h
   ·rename_i m sz b off ht h1
    obtain ⟨hc,hK⟩:=h
    refine ⟨_,[],hK,by simp,fun hG s hs _=>?_⟩
    have hs':∀ q,q∈[x,i]→ev s.t q=ρ q:=fun q hq=>hs q (by rw [ho];simpa [Op.operands] using hq)
    exact lop_indexAddr_ptr ho ((hs' x (by simp)).trans h1) ((hs' i (by simp)).trans h2) ht (hc hG).1 (hc hG).2
   ·rename_i m sz cells ht h1
    obtain ⟨hc,hK⟩:=h
    refine ⟨_,[],hK,by simp,fun hG s hs _=>?_⟩
    have hs':∀ q,q∈[x,i]→ev s.t q=ρ q:=fun q hq=>hs q (by rw [ho];simpa [Op.operands] using hq)
    exact lop_indexAddr_vp ho ((hs' x (by simp)).trans h1) ((hs' i (by simp)).trans h2) ht (hc hG).1 (hc hG).2
   ·exact h.elim
  ·exact h.elim
 | slice t x lo hi mx =>
  rw [ho] at h
  cases mx with
  | some _=>simp [ovc] at h
  | none =>
   simp only [ovc] at h
   have hops:∀ y,y∈[x]++lo.toList++hi.toList→y∈o.op.operands.toList:=by
    intro y hy
    rw [ho]
    simp only [Op.operands]
    cases lo<;>cases hi<;>simpa using hy
   split at h
   ·rename_i a h1
    obtain ⟨hk,h⟩:=h
    split at h
    ·rename_i i j hi' hj
     obtain ⟨hc,hK⟩:=h
     refine ⟨_,[],hK,by simp,fun hG s hs _=>?_⟩
     have hx:=(hs x (hops x (by simp))).trans h1
     exact lop_slice_str ho (knd_str hk) hx (by rw [bnd_eq (ρ:=ρ) (fun y e=>hs y (hops y (by simp [e])))];exact hi') (by rw [bnd_eq (ρ:=ρ) (fun y e=>hs y (hops y (by simp [e])))];exact hj) (hc hG).1 (hc hG).2.1 (hc hG).2.2
    ·exact h.elim
   ·rename_i sz l h1
    split at h
    ·rename_i e sz' by_ i j ht hi' hj
     obtain ⟨rfl,hc,hK⟩:=h
     refine ⟨_,[],hK,by simp,fun hG s hs _=>?_⟩
     have hx:=(hs x (hops x (by simp))).trans h1
     exact lop_slice_sl ho ht hx (by rw [bnd_eq (ρ:=ρ) (fun y e=>hs y (hops y (by simp [e])))];exact hi') (by rw [bnd_eq (ρ:=ρ) (fun y e=>hs y (hops y (by simp [e])))];exact hj) (hc hG).1 (hc hG).2.1 (hc hG).2.2
    ·exact h.elim
   ·exact h.elim
 | build t parts =>
  rw [ho] at h
  simp only [ovc] at h
  split at h
  ·rename_i places zs hp
   split at h
   ·rename_i cells hf
    obtain ⟨hnd,hK⟩:=h
    refine ⟨_,_,hK,fun i hi=>?_,fun hG s hs _=>?_⟩
    ·rw [ho];have:=killsR_sub hi;simpa [Op.operands] using this
    ·have hs':∀ y,y∈parts.toList.map Prod.snd→ev s.t y=ρ y:=fun y hy=>hs y (by rw [ho];simpa [Op.operands] using hy)
     have e1:=killsR_eq hs'
     have e2:(parts.toList.map fun p=>(p.1,ev s.t p.2))=parts.toList.map fun p=>(p.1,ρ p.2):=by
      apply List.map_congr_left
      intro p hp'
      rw [hs' p.2 (List.mem_map_of_mem hp')]
     rw [← e1] at hnd ⊢
     rw [← e2] at hf
     exact lop_build ho hp hf hnd
   ·exact h.elim
  ·split at h
   ·rename_i ms zs ht hz
    obtain ⟨hp,hK⟩:=h
    exact ⟨_,[],hK,by simp,fun hG s hs _=>lop_build0 (m:=ms.1) (sz:=ms.2) ho hp ht hz⟩
   ·exact h.elim
 | buildSlice t len parts =>
  rw [ho] at h
  simp only [ovc] at h
  split at h
  ·rename_i e sz by_ ht
   obtain ⟨hz,hsm,hL,hnd,h⟩:=h
   split at h
   ·rename_i cells hf
    obtain ⟨⟨hcl,hln,hall⟩,hK⟩:=h
    have key:∀ s:AS,(∀ q,q∈o.op.operands.toList→ev s.t q=ρ q)→LOp L P s o (.sl true sz (parts.toList.map fun p=>ρ p.2)) (killsR ρ (parts.toList.map Prod.snd)):=by
     intro s hs
     have hs':∀ y,y∈parts.toList.map Prod.snd→ev s.t y=ρ y:=fun y hy=>hs y (by rw [ho];simpa [Op.operands] using hy)
     have e1:=killsR_eq hs'
     have e2:(parts.toList.map fun p=>(p.1,ev s.t p.2))=parts.toList.map fun p=>(p.1,ρ p.2):=by
      apply List.map_congr_left
      intro p hp'
      rw [hs' p.2 (List.mem_map_of_mem hp')]
     rw [← e1] at hnd ⊢
     rw [← e2] at hf
     obtain ⟨zs,hzs⟩:=Option.isSome_iff_exists.1 hz
     exact lop_buildSlice ho ht hzs hsm hf hnd hcl (fun x hx=>List.all_eq_true.1 hall x hx) (by simpa using hln) hL
    have hk:∀ i,i∈killsR ρ (parts.toList.map Prod.snd)→.tmp i∈o.op.operands.toList:=fun i hi=>by rw [ho];have:=killsR_sub hi;simpa [Op.operands] using this
    rcases hK with hK|hK
    ·exact ⟨_,_,hK,hk,fun hG s hs _=>key s hs⟩
    ·exact ⟨_,_,hK,hk,fun hG s hs _=>(key s hs).frz⟩
   ·exact h.elim
  ·exact h.elim
 | box t x =>
  rw [ho] at h
  simp only [ovc] at h
  split at h
  ·rename_i g n ht
   obtain ⟨he,hK⟩:=h
   refine ⟨_,_,hK,fun i hi=>?_,fun hG s hs _=>?_⟩
   ·rw [ho];have:=killsR_sub hi;simpa [Op.operands] using this
   ·have hx:=hs x (by rw [ho];simp [Op.operands])
    rw [← hx,← killsR_eq (s:=s) (xs:=[x]) (by simpa using hx)]
    rw [← hx] at he
    exact lop_box ho he
  ·exact h.elim
 | makeFunc fn first cap =>
  rw [ho] at h
  cases fn with
  | func f =>
   simp only [ovc] at h
   obtain ⟨hf,hn,hK⟩:=h
   have hf':first=#[]:=by apply Array.ext';simpa using hf
   subst hf'
   refine ⟨_,[],hK,by simp,fun hG s hs _=>?_⟩
   have hmap:cap.toList.map (ev s.t)=cap.toList.map ρ:=by
    apply List.map_congr_left
    intro z hz
    exact hs z (by rw [ho];simp [Op.operands];simpa using hz)
   rw [← hmap] at hn ⊢
   exact lop_makeFunc ho hn
  | _=>simp [ovc] at h
 | convert src dst x =>
  rw [ho] at h
  simp only [ovc] at h
  split at h
  ·rename_i k' n h1
   split at h
   ·rename_i k hk
    obtain ⟨hu,hK⟩:=h
    obtain ⟨d,hd⟩:=hasU_inv hu
    exact ⟨_,[],hK,by simp,fun hG s hs _=>lop_conv_int ho hd (ikd_inv hk) ((hs x (by rw [ho];simp [Op.operands])).trans h1)⟩
   ·exact h.elim
  ·rename_i own' l h1
   split at h
   ·rename_i bs hb
    obtain ⟨⟨hk,hby⟩,hln,hK⟩:=h
    obtain ⟨e,hs1,hs2⟩:=byS_inv hby
    refine ⟨_,[],hK,by simp,fun hG s hs _=>?_⟩
    rw [unb_inv hb] at h1
    exact lop_str_of_sl ho hs1 hs2 (knd_str hk) ((hs x (by rw [ho];simp [Op.operands])).trans h1) (hln hG)
   ·exact h.elim
  ·rename_i b off len sz h1
   obtain ⟨l,e,hc,hK⟩:=h
   refine ⟨_,[],hK,by simp,fun hG s hs hso=>?_⟩
   obtain ⟨rfl,rfl,rfl,hln,hO,hs1,hs2,hs3⟩:=hc hG
   exact lop_str_of_arr ho hs1 hs2 hs3 ((hs x (by rw [ho];simp [Op.operands])).trans h1) (by rw [hso];exact hO) hln
  ·exact h.elim
 | call c =>
  rw [ho] at h
  exact sound_call ho h
 | _=>rw [ho] at h;simp [ovc] at h
end
end Go.Ab
namespace Go.Ab
open Go.RowKit (Below)
def isL(eff:List Nat)(o:Oper):Bool :=
 match o.op with
 | .load ..=>match o.dst with|some d=>!eff.contains d|none=>true
 | .move _|.assign _|.pick ..|.build ..|.nilCheck _|.binOp ..|.unOp ..|.convert ..|.makeFunc ..|.slice ..|.fieldAddr ..|.field ..|.indexAddr ..|.index ..|.extract ..=>true
 | .box ..|.buildSlice ..=>match o.dst with|some d=>!eff.contains d|none=>true
 | .call c=>match c.callee with
  | .builtin .len|.builtin .min|.builtin .max=>true
  | .value _=>match o.dst with|some d=>!eff.contains d|none=>false
  | _=>false
 | _=>false
def AV.strip:AV→AV
 | .cnd _ x=>x
 | x=>x
def okc(G:Bool):AV→Prop
 | .cnd g _=>G=true→g=true
 | _=>True
def okcL(t:List (Nat×AV))(G:Bool):List Operand→Prop
 | []=>True
 | .tmp i::xs=>okc G (T t i)∧okcL t G xs
 | _::xs=>okcL t G xs
def evS(t:List (Nat×AV))(y:Operand):AV:=(ev t y).strip
def stS:List Operand→List Nat
 | []=>[]
 | .tmp i::xs=>i::stS xs
 | _::xs=>stS xs
def stO:Op→List Nat
 | .pick c _ _=>stS [c]
 | op=>stS op.operands.toList
def okcK(t:List (Nat×AV))(G:Bool):List Nat→Prop
 | []=>True
 | i::xs=>okc G (T t i)∧okcK t G xs
def memN:List Nat→Nat→Bool
 | [],_=>false
 | k::ks,i=>Nat.beq k i || memN ks i
def evK(t:List (Nat×AV))(ks:List Nat):Operand→AV
 | .tmp i=>bif memN ks i then (T t i).strip else T t i
 | y=>ev t y
theorem memN_iff{ks:List Nat}{i:Nat}:memN ks i=true↔i∈ks:=by
 induction ks with
 | nil=>simp [memN]
 | cons k ks ih =>
  simp only [memN,Bool.or_eq_true,ih,List.mem_cons]
  constructor
  ·rintro (h|h)
   ·exact .inl (Nat.eq_of_beq_eq_true h).symm
   ·exact .inr h
  ·rintro (h|h)
   ·exact .inl (by rw [h];exact Nat.beq_refl _)
   ·exact .inr h
theorem okcK_mem{t:List (Nat×AV)}{G:Bool}:∀ {ks:List Nat} {i:Nat},okcK t G ks→i∈ks→okc G (T t i)
 | [],_,_,h=>by cases h
 | k::ks,i,hk,h=>by
  rcases List.mem_cons.1 h with rfl|h
  ·exact hk.1
  ·exact okcK_mem hk.2 h
def W(L:Nat→Nat)(P:Program)(ops:Array Oper)(eff:List Nat)(n:Nat)(os:List (Nat×Option (List AV)))(K:List (Nat×AV)→List (AV×List Nat)→List Nat→Prop):List Nat→List (Nat×AV)→List (AV×List Nat)→Prop
 | [],t,D=>K t D []
 | i::l,t,D =>
  match ops[i]? with
  | none=>False
  | some o =>
   match isL eff o || (o.guard.isNone && apW t o.op) with
   | false=>K t D (i::l)
   | true=>dstOK n o.dst=true∧(match o.guard with
    | none=>ovc L P os (ev t) true o.op (fun x C=>W L P ops eff n os K l (upd o x C t) (D++[(x,C)]))
    | some (j,want)=>match (ops[j]?).bind (·.dst) with
     | none=>False
     | some d=>Nat.blt d n=true∧(match gval (T t d) with
      | none=>False
      | some (G,g)=>okcK t (G && (g == want)) (stO o.op) ∧
       ovc L P os (evK t (stO o.op)) (G && (g == want)) o.op (fun x C=>C=[]∧W L P ops eff n os K l (upd o (.cnd (G && (g == want)) x) [] t) (D++[(.cnd (G && (g == want)) x,[])]))))
section
variable {L : Nat → Nat} {P : Program} {ops : Array Oper} {eff : List Nat} {n : Nat} {os : List (Nat × Option (List AV))}
theorem LOp.of_strip{t:List (Nat×AV)}{o:Oper}{x:AV}{C:List Nat}{G:Bool}{ks:List Nat}(hG:G=true)(hok:okcK t G ks)(h:∀ s:AS,(∀ y,y∈o.op.operands.toList→ev s.t y=evK t ks y)→s.o=os→LOp L P s o x C)(s:AS)(hs:∀ y,y∈o.op.operands.toList→ev s.t y=ev t y)(hso:s.o=os):LOp L P s o x C:=by
 intro B F0 w0 F own fp fs a w next Q hd hnext
 classical
 let ks':List Nat:=ks.filter fun i=>decide (.tmp i∈o.op.operands.toList)
 have hT:∀ (q:List Nat) (i:Nat),T (q.map (fun k=>(k,(T s.t k).strip))++s.t) i=if i∈q then (T s.t i).strip else T s.t i:=by
  intro q i
  induction q with
  | nil=>simp
  | cons k q ih =>
   simp only [List.map_cons,List.cons_append,T]
   by_cases e:k=i
   ·subst e;simp
   ·have e1:(k == i)=false:=by simpa using e
    have e2:¬ i=k:=fun h=>e h.symm
    rw [e1];simp [e2,ih]
 have hks:∀ i,i∈ks'↔i∈ks∧.tmp i∈o.op.operands.toList:=by
  intro i;simp only [ks',List.mem_filter,decide_eq_true_eq]
 refine h ⟨s.n,ks'.map (fun k=>(k,(T s.t k).strip))++s.t,s.o⟩ ?_ hso B F0 w0 F own fp fs a w next Q { hd with slots:=?_ } hnext
 ·intro y hy
  cases y with
  | tmp i =>
   have e1:=hs (.tmp i) hy
   simp only [ev] at e1
   simp only [ev,evK,hT]
   by_cases hi:i∈ks
   ·rw [if_pos ((hks i).2 ⟨hi,hy⟩),memN_iff.2 hi,e1];rfl
   ·rw [if_neg (fun h=>hi ((hks i).1 h).1)]
    cases hm:memN ks i with
    | true=>exact absurd (memN_iff.1 hm) hi
    | false=>exact e1
  | const v=>rfl
  | global _=>rfl
  | func _=>rfl
 ·intro i
  simp only [hT]
  split
  ·rename_i hi
   obtain ⟨h1,h2⟩:=(hks i).1 hi
   have e1:=hs (.tmp i) h2
   simp only [ev] at e1
   have e2:=okcK_mem hok h1
   rw [← e1] at e2
   have hr:=hd.slots i
   cases hTT:T s.t i with
   | cnd g x =>
    rw [hTT] at hr e2
    simp only [Rep] at hr
    exact hr.1 (e2 hG)
   | _=>rw [hTT] at hr;exact hr
  ·exact hd.slots i
theorem W.toOps{K':AS→Prop}:∀ (l:List Nat) (t:List (Nat×AV)) (D:List (AV×List Nat)),W L P ops eff n os (fun t _ l'=>OpsW L P ops l' ⟨n,t,os⟩ K') l t D→OpsW L P ops l ⟨n,t,os⟩ K'
 | [],t,D,h=>by simpa only [W] using h
 | i::l,t,D,h=>by
  simp only [W] at h
  split at h
  ·exact h.elim
  ·rename_i o ho
   split at h
   ·exact h
   ·obtain ⟨hd,h⟩:=h
    split at h
    ·rename_i hg
     obtain ⟨x,C,hK,_,hl⟩:=ovc_sound h
     have:=hl rfl ⟨n,t,os⟩ (fun _ _=>rfl) rfl
     refine OpsW.cons ho hg (this.opW hd ?_)
     exact W.toOps l _ _ hK
    ·rename_i j want hg
     split at h
     ·exact h.elim
     ·rename_i d hj
      obtain ⟨hlt,h⟩:=h
      split at h
      ·exact h.elim
      ·rename_i G g hgv
       obtain ⟨hok,h⟩:=h
       obtain ⟨x,C,⟨rfl,hK⟩,_,hl⟩:=ovc_sound h
       cases hoj:ops[j]? with
       | none=>rw [hoj] at hj;cases hj
       | some oj =>
        rw [hoj] at hj
        refine OpsW.cons_guard ho hg hoj hj hgv hlt hd (x:=x) (fun hG=>?_) (W.toOps l _ _ hK)
        exact LOp.of_strip hG hok (hl hG) ⟨n,t,os⟩ (fun _ _=>rfl) rfl
theorem W.draw{K':List (Nat×AV)→List (AV×List Nat)→Prop}:∀ (l:List Nat) (i:Nat) (t:List (Nat×AV)) (D:List (AV×List Nat)),l=List.range' i (ops.size - i)→W L P ops eff n os (fun t D _=>K' t D) l t D→DrawG L P ops n os K' i t D
 | [],i,t,D,_,h=>by simp only [W] at h;exact .done h
 | i'::l,i,t,D,hl,h=>by
  have hlt:i<ops.size:=by
   rcases Nat.lt_or_ge i ops.size with h|h
   ·exact h
   ·rw [show ops.size - i=0 by omega] at hl;simp at hl
  rw [show ops.size - i=(ops.size - (i+1))+1 by omega,List.range'_succ] at hl
  simp only [List.cons.injEq] at hl
  obtain ⟨rfl,hl⟩:=hl
  simp only [W] at h
  split at h
  ·exact h.elim
  ·rename_i o ho
   split at h
   ·exact .done h
   ·obtain ⟨hd,h⟩:=h
    have hmem:∀ y,y∈o.op.operands.toList→ev (keepT t (slotsOf ops o)) y=ev t y:=by
     intro y hy
     cases y with
     | tmp k =>
      have hk:k∈slotsOf ops o:=by
       simp only [slotsOf,List.mem_append,List.mem_filterMap]
       exact .inl ⟨.tmp k,hy,rfl⟩
      simp only [ev]
      clear h hd hl
      generalize slotsOf ops o=ks at hk
      induction ks with
      | nil=>cases hk
      | cons q ks ih =>
       simp only [keepT,List.map_cons,T]
       by_cases e:q=k
       ·subst e;simp
       ·have:(q == k)=false:=by simpa using e
        rw [this]
        rcases List.mem_cons.1 hk with rfl|hk
        ·exact absurd rfl e
        ·exact ih hk
     | const _=>rfl
     | global _=>rfl
     | func _=>rfl
    split at h
    ·rename_i hg
     obtain ⟨x,C,hK,hC,hlo⟩:=ovc_sound h
     refine .step o x C ho ⟨hd,fun k hk=>?_,.inl ⟨hg,hlo rfl _ hmem rfl⟩⟩ (W.draw l (i'+1) _ _ hl hK)
     simp only [slotsOf,List.mem_append,List.mem_filterMap]
     exact .inl ⟨.tmp k,hC k hk,rfl⟩
    ·rename_i j want hg
     split at h
     ·exact h.elim
     ·rename_i d hj
      obtain ⟨hlt',h⟩:=h
      split at h
      ·exact h.elim
      ·rename_i G g hgv
       obtain ⟨hok,h⟩:=h
       obtain ⟨x,C,⟨rfl,hK⟩,_,hlo⟩:=ovc_sound h
       cases hoj:ops[j]? with
       | none=>rw [hoj] at hj;cases hj
       | some oj =>
        rw [hoj] at hj
        refine .step o _ [] ho ⟨hd,by simp,.inr ⟨j,want,oj,d,G,g,x,hg,hoj,hj,hlt',hgv,rfl,rfl,fun hG=>?_⟩⟩ (W.draw l (i'+1) _ _ hl hK)
        exact LOp.of_strip hG hok (hlo hG) _ hmem rfl
end
section
variable {L : Nat → Nat} {P : Program} {n : Nat} {t : List (Nat × AV)} {o : List (Nat × Option (List AV))} {Q : Exit → AS → Prop} {id : Nat} {ops : Array Oper}
theorem OpsW.go{l:List Nat}{K':AS→Prop}(eff:List Nat)
  (h:∀ K:List (Nat×AV)→List Nat→Prop,(∀ t l,OpsW L P ops l ⟨n,t,o⟩ K'→K t l)→W L P ops eff n o (fun t _ l=>K t l) l t []):OpsW L P ops l ⟨n,t,o⟩ K' :=
 W.toOps (n:=n) (os:=o) _ _ _ (h _ (fun _ _ h=>h))
end
end Go.Ab
namespace Go.Ab
open Go.RowKit (Below)
theorem O_nil(b:Nat):O [] b=none:=rfl
section
variable {L : Nat → Nat} {P : Program} {s : AS} {Q : Exit → AS → Prop} {n0 : Nat} {t0 : List (Nat × AV)} {os : List (Nat × Option (List AV))}
theorem AW.keep{c:Code}(ks:List Nat)(h:AW L P c ⟨n0,keepT t0 ks,[]⟩ Q):AW L P c ⟨n0,t0,os⟩ Q :=
 AW.weaken h rfl (T_keep t0 ks) (fun b cells hb=>by rw [O_nil] at hb;cases hb)
theorem AW.keepO{c:Code}(ks:List Nat)(o':List (Nat×Option (List AV)))(ho:∀ b cells,O o' b=some cells→O os b=some cells)(h:AW L P c ⟨n0,keepT t0 ks,o'⟩ Q):AW L P c ⟨n0,t0,os⟩ Q :=
 AW.weaken h rfl (T_keep t0 ks) ho
theorem AW.loopO{c:Code}(ks:List Nat)(I:Nat→List (Nat×AV)→List (Nat×Option (List AV))→Prop)(n:Nat)(o0:List (Nat×Option (List AV)))(ho:∀ b cells,O o0 b=some cells→O os b=some cells)(h0:I n (keepT t0 ks) o0)
  (round:∀ m t o,I m t o→AW L P c ⟨n0,t,o⟩ (thenQ (fun s'=>s'.n=n0∧∃ m' o',m'<m∧I m' (keepT s'.t ks) o'∧∀ b cells,O o' b=some cells→O s'.o b=some cells) Q)):AW L P (.loop c) ⟨n0,t0,os⟩ Q:=by
 refine AW.keepO ks o0 ho (AW.loop (fun m s'=>s'.n=n0∧I m s'.t s'.o) n ⟨rfl,h0⟩ ?_)
 rintro m ⟨n',t,o'⟩ ⟨rfl,hI⟩
 refine fun B F0 w0 a w hd=>wp_mono (round m t o' hI B F0 w0 a w hd) ?_
 rintro e a' w' ⟨s',h1,h2⟩
 cases e with
 | normal =>
  obtain ⟨hn,m',o'',hm,hI',ho'⟩:=h1
  exact ⟨⟨_,keepT s'.t ks,o''⟩,⟨m',hm,rfl,hI'⟩,h2.weaken hn.symm (T_keep s'.t ks) ho'⟩
 | _=>exact ⟨s',h1,h2⟩
end
theorem O_eq(b:Nat)(c:Option (List AV))(o:List (Nat×Option (List AV))):O ((b,c)::o) b=c:=by simp [O]
theorem O_ne{b b':Nat}(h:b'≠b)(c:Option (List AV))(o:List (Nat×Option (List AV))):O ((b',c)::o) b=O o b:=by simp [O,h]
theorem wrap_i64{x:Int}(h1:-9223372036854775808≤x)(h2:x≤9223372036854775807):IntKind.i64.wrap x=x:=by
 rw [IntKind.wrap_i64];omega
attribute [go_sem] W zipT List.size_toArray List.length_cons List.length_nil List.range List.range.loop List.range' List.getElem?_toArray List.getElem?_cons_zero List.getElem?_cons_succ isL dstOK ovc ev T upd put killL killsR AV.nown AV.nownL true_and List.map_cons List.map_nil Nat.zero_add cond_true cond_false Nat.blt Nat.ble List.nil_append binV gval unV Option.bind_some okcL okc evS AV.strip implies_true and_true if_true Op.operands Bool.true_and beq_true Bool.and_true Bool.cond_false_right Bool.cond_true_left imp_self forall_const callVc lowP lenA idxVc_true Option.map_some val List.drop_zero List.drop_succ_cons List.take_succ_cons List.take_zero List.head?_cons Bool.and_self Bool.not_true Bool.not_false AV.elem AV.cells AV.frzL AV.frz keepT List.cons_append fillA bndR fnA AV.closed AV.closedL List.all_cons List.all_nil List.contains List.elem List.flatMap_cons List.flatMap_nil List.append_nil Option.isSome_some List.nodup_nil AV.one O_eq srcA kills dropO Int.toNat_natCast Int.natCast_nonneg List.length_map Option.getD_some Value.oneCell' BEq.rfl List.toList_toArray avz binS Int.ofNat_lt Int.ofNat_le
end Go.Ab
namespace Go.Ab
open Go.RowKit (Below)
theorem PureC.frz{L:Nat→Nat}{P:Program}{f:FuncId}{args:List AV}{res:AV}(h:PureC L P f args res):PureC L P f args res.frz:=by
 intro w F vs hF ht hr
 refine (h w F vs hF ht hr).mono ?_
 rintro e w' ⟨v,F',fp,rfl,h1,h2,h3,h4,h5,h6⟩
 refine ⟨v,fun b=>F' b∨b∈fp,[],rfl,h1,fun b hb=>.inl (h2 b hb),?_,Rep.frz (fun b hb=>.inl hb) (fun b hb=>.inr hb) h4,by simp,by simp⟩
 rintro b (hb|hb)
 ·exact h3 b hb
 ·exact .inr (h6 b hb).2
def resV(r:ResultVar)(tmps:Array Value):Sem Value :=
 match r with
 | .tmp t=>pure (tmps.getD t undef)
 | .cell a t=>do loadVar t (← asAddr (tmps.getD a undef))
def ResOK(L:Nat→Nat)(P:Program)(s:AS)(r:ResultVar)(x:AV):Prop :=
 ∀ B F0 w0 a w,Den L B F0 w0 s a w→∃ v F' fp,(resV r a.tmps).run P w=.ok v w∧(∀ b,F0 b→F' b)∧(∀ b,F' b→F0 b∨(¬ B b∧b<w.heap.size)) ∧
  Rep L F' w x v fp∧fp.Nodup∧∀ b,b∈fp→¬ F' b∧¬ B b∧b<w.heap.size
section
variable {L : Nat → Nat} {P : Program} {s : AS} {fn : Func} {r : ResultVar} {x : AV}
theorem Ends.res(hr:fn.results=#[r])(h:ResOK L P s r x):Ends L P fn s x:=by
 intro B F0 w0 a w hd
 obtain ⟨v,F',fp,h1,h2,h3,h4,h5,h6⟩:=h B F0 w0 a w hd
 refine ⟨v,F',fp,?_,h2,h3,h4,h5,h6⟩
 unfold results
 rw [hr]
 cases r with
 | tmp t=>simpa [resV] using h1
 | cell ad t =>
  simp [resV] at h1 ⊢
  exact h1
theorem ResOK.slot{t:Nat}(hx:T s.t t=x):ResOK L P s (.tmp t) x:=by
 subst hx
 intro B F0 w0 a w hd
 obtain ⟨F,own,fp,fs,h⟩:=hd
 refine ⟨a.tmps.getD t undef,F,fp t,by simp [resV],h.f0,fun b hb=>?_,h.slots t,h.sn t,fun b hb=>⟨h.fp_F hb,h.fp_lt hb⟩⟩
 have:=h.fl b hb
 rcases this.2.2 with e|e
 ·exact .inl e
 ·exact .inr ⟨e,this.2.1⟩
theorem RepL.cutS{F:Nat→Prop}{w:World}{l:List AV}{vs:List Value}{fp:List Nat}(r:RepL L F w l vs fp)(i n:Nat):∃ f,RepL L F w ((l.drop i).take n) ((vs.drop i).take n) f∧f.Sublist fp:=by
 have hl:=r.len
 have e1:l=l.take i++((l.drop i).take n++(l.drop i).drop n):=by rw [List.take_append_drop,List.take_append_drop]
 have r0:=r
 rw [e1] at r
 obtain ⟨v1,v23,f1,f23,rfl,rfl,r1,r23⟩:=r.split
 obtain ⟨v2,v3,f2,f3,rfl,rfl,r2,r3⟩:=r23.split
 obtain ⟨f,hf,_⟩:=r0.cut i n
 have h1:=r1.len
 have h2:=r2.len
 have e2:((v1++(v2++v3)).drop i).take n=v2:=by
  simp only [List.length_take,List.length_drop] at h1 h2
  have h3:=r3.len
  simp only [List.length_drop] at h3
  by_cases hi:i≤l.length
  ·have hv1:v1.length=i:=by omega
   rw [← hv1,List.drop_left]
   by_cases hn:n≤l.length - i
   ·have hv2:v2.length=n:=by omega
    rw [← hv2,List.take_left]
   ·have hv3:v3=[]:=List.eq_nil_of_length_eq_zero (by omega)
    subst hv3
    rw [List.append_nil,List.take_of_length_le (by omega)]
  ·have hv2:v2=[]:=List.eq_nil_of_length_eq_zero (by omega)
   have hv3:v3=[]:=List.eq_nil_of_length_eq_zero (by omega)
   subst hv2 hv3
   have:v1.drop i=[]:=List.drop_eq_nil_of_le (by omega)
   simp [this]
 rw [e2]
 exact ⟨f2,r2,(List.sublist_append_left f2 f3).trans (List.sublist_append_right f1 _)⟩
theorem ResOK.cell{ad b off n:Nat}{t:TypeId}{g:Bool}{cells:List AV}(ha:T s.t ad=.ptr b off)(hO:O s.o b=some cells)(ht:ty P t=some (g,n))(hx:val g n (cells.drop off)=some x):ResOK L P s (.cell ad t) x:=by
 intro B F0 w0 a w hd
 obtain ⟨F,own,fp,fs,h⟩:=hd
 have hr:=h.slots ad
 rw [ha] at hr
 simp only [Rep] at hr
 obtain ⟨hkey,hfsn,hfso,c,Ty,vals,rest,hc,hcl,hrep⟩:=h.obj b cells hO
 have hrow0:RowAt w b 0 vals:=⟨c,Ty,_,hc,fun i hi=>by rw [Nat.zero_add,← Array.getElem?_toList,hcl,List.getElem?_append_left hi]⟩
 have hrow:RowAt w b off (vals.drop off):=by
  have:=hrow0.cut off vals.length
  rw [List.take_of_length_le (by simp),Nat.zero_add] at this
  exact this
 have hvl:=hrep.len
 have hend:∀ (v:Value) (f:List Nat),(loadVar t ⟨b,off,none⟩).run P w=.ok v w→Rep L F w x v f→f.Sublist (fs b)→∃ v F' fp,(resV (.cell ad t) a.tmps).run P w=.ok v w∧(∀ b,F0 b→F' b)∧(∀ b,F' b→F0 b∨(¬ B b∧b<w.heap.size)) ∧
   Rep L F' w x v fp∧fp.Nodup∧∀ b,b∈fp→¬ F' b∧¬ B b∧b<w.heap.size:=by
  intro v f hl hrx hsub
  have hr1:a.tmps[ad]?.getD undef=.pointer (some ⟨b,off,none⟩):=by rw [← hr.1,Array.getD_eq_getD_getElem?]
  refine ⟨v,F,f,by simp [resV,hr1,asAddr,hl],h.f0,fun k hk=>?_,hrx,hsub.nodup hfsn,fun k hk=>?_⟩
  ·have:=h.fl k hk
   rcases this.2.2 with e|e
   ·exact .inl e
   ·exact .inr ⟨e,this.2.1⟩
  ·have hne:own k≠.none:=by rw [hfso k (hsub.subset hk)];simp
   exact ⟨fun hF=>hne (h.fl k hF).1,h.ol k hne⟩
 obtain ⟨l1,l2⟩:=load_run (P:=P) ht hrow
 unfold val at hx
 cases g with
 | true =>
  cases hn:Nat.ble n (cells.drop off).length with
  | false=>simp only [cond_true,hn,cond_false] at hx;cases hx
  | true =>
   simp only [cond_true,hn] at hx
   cases hx
   obtain ⟨f,hf,hsub⟩:=hrep.cutS off n
   have hle:n≤(vals.drop off).length:=by
    have:=Nat.le_of_ble_eq_true hn
    simp at this ⊢;omega
   exact hend _ f (l1 rfl hle) (by simp only [Rep];exact ⟨_,rfl,hf⟩) hsub
 | false =>
  simp at hx
  obtain ⟨f,hf,hsub⟩:=hrep.cutS off 1
  have e1:(cells.drop off).take 1=[x]:=by
   have e:cells[off]? = some x:=by simpa using hx
   have hlt:off<cells.length:=by
    rcases Nat.lt_or_ge off cells.length with h|h
    ·exact h
    ·rw [List.getElem?_eq_none h] at e;cases e
   rw [List.drop_eq_getElem_cons hlt]
   rw [List.getElem?_eq_getElem hlt] at e
   cases e;rfl
  rw [e1] at hf
  simp only [RepL] at hf
  obtain ⟨y,vs',f1,f2,hv,rfl,hy,rfl,rfl⟩:=hf
  have hv0:(vals.drop off)[0]? = some y:=by
   cases hd:vals.drop off with
   | nil=>rw [hd] at hv;simp at hv
   | cons z zs=>rw [hd] at hv;simp at hv;simp [hv]
  exact hend y f1 (l2 rfl y hv0) hy (by simpa using hsub)
theorem AW.len{c:Code}{n:Nat}{t:List (Nat×AV)}{o:List (Nat×Option (List AV))}{Q:Exit→AS→Prop}(i:Nat){own:Bool}{sz:Nat}{l:List AV}(hi:T t i=.sl own sz l)(h:l.length≤L sz→AW L P c ⟨n,t,o⟩ Q):AW L P c ⟨n,t,o⟩ Q:=by
 intro B F0 w0 a w hd
 refine h ?_ B F0 w0 a w hd
 obtain ⟨F,ow,fp,fs,h⟩:=hd
 have hr:=h.slots i
 simp only at hr
 rw [hi] at hr
 simp only [Rep] at hr
 rcases hr with ⟨_,rfl,_⟩|⟨b,off,cap,vals,fp',_,_,h2,_⟩
 ·simp
 ·exact h2
end
theorem opw_take{L:Nat→Nat}{P:Program}{s:AS}{o:Oper}{t:TypeId}{x:Operand}{n b off:Nat}{g:Bool}{cells:List AV}{y:AV}(ho:o.op=.load t x)(hd:dstOK s.n o.dst=true)(hx:ev s.t x=.ptr b off)
  (hb:O s.o b=some cells) (ht:ty P t=some (g,n)) (hy:val g n (cells.drop off)=some y) {K:AS→Prop} (hK:K ⟨s.n,put s.t o.dst y,(b,none)::s.o⟩):OpW L P o s K:=by
 intro B F0 w0 a w next Q hden hnext
 obtain ⟨F,own,fp,fs,h⟩:=hden
 have hr:=h.ev x
 rw [hx] at hr
 simp only [Rep] at hr
 obtain ⟨v,F',fx,h1,h2,h3,h4,h5,h6⟩:∃ v F' fx,(loadVar t ⟨b,off,none⟩).run P w=.ok v w∧F'=F∧True∧Rep L F w y v fx∧fx.Nodup∧∀ k,k∈fx→own k=.obj b:=by
  obtain ⟨hkey,hfsn,hfso,c,Ty,vals,rest,hc,hcl,hrep⟩:=h.obj b cells hb
  have hrow0:RowAt w b 0 vals:=⟨c,Ty,_,hc,fun i hi=>by rw [Nat.zero_add,← Array.getElem?_toList,hcl,List.getElem?_append_left hi]⟩
  have hrow:RowAt w b off (vals.drop off):=by
   have:=hrow0.cut off vals.length
   rw [List.take_of_length_le (by simp),Nat.zero_add] at this
   exact this
  have hvl:=hrep.len
  obtain ⟨l1,l2⟩:=load_run (P:=P) ht hrow
  unfold val at hy
  cases g with
  | true =>
   cases hn:Nat.ble n (cells.drop off).length with
   | false=>simp only [cond_true,hn,cond_false] at hy;cases hy
   | true =>
    simp only [cond_true,hn] at hy
    cases hy
    obtain ⟨f,hf,hsub⟩:=hrep.cutS off n
    have hle:n≤(vals.drop off).length:=by
     have:=Nat.le_of_ble_eq_true hn
     simp at this ⊢;omega
    exact ⟨_,F,f,l1 rfl hle,rfl,trivial,by simp only [Rep];exact ⟨_,rfl,hf⟩,hsub.nodup hfsn,fun k hk=>hfso k (hsub.subset hk)⟩
  | false =>
   simp at hy
   obtain ⟨u,f,hu,hru,hsubm⟩:=hrep.get hy
   obtain ⟨f',hf,hsub⟩:=hrep.cutS off 1
   have e1:(cells.drop off).take 1=[y]:=by
    have e:cells[off]? = some y:=hy
    have hlt:off<cells.length:=by
     rcases Nat.lt_or_ge off cells.length with h|h
     ·exact h
     ·rw [List.getElem?_eq_none h] at e;cases e
    rw [List.drop_eq_getElem_cons hlt]
    rw [List.getElem?_eq_getElem hlt] at e
    cases e;rfl
   rw [e1] at hf
   simp only [RepL] at hf
   obtain ⟨y',vs',f1,f2,hv,rfl,hy',rfl,rfl⟩:=hf
   have hv0:(vals.drop off)[0]? = some y':=by
    cases hd:vals.drop off with
    | nil=>rw [hd] at hv;simp at hv
    | cons z zs=>rw [hd] at hv;simp at hv;simp [hv]
   exact ⟨y',F,f1,l2 rfl y' hv0,rfl,trivial,hy',by simpa using hsub.nodup hfsn,fun k hk=>hfso k (hsub.subset (by simpa using hk))⟩
 have hex:(execOp a.eval o).run P w=.ok (.value v) w:=by
  simp [execOp,ho,hr.1,Instr.loadAt,Instr.sureAddr,h1]
 unfold Oper.wp
 rw [hex]
 refine hnext _ _ _ hK ?_
 have hkey:=(h.obj b cells hb).1
 classical
 let own':Nat→Own:=fun k=>if k∈fx then (match o.dst with|some d=>.slot d|none=>.none) else if own k=.obj b∨k=b then .none else own k
 have hns:∀ k i,own k=.slot i→own' k=.slot i:=by
  intro k i e
  have n1:k ∉ fx:=fun hk=>by have:=h6 k hk;rw [e] at this;cases this
  have n2:¬ (own k=.obj b∨k=b):=by
   rintro (e'|e')
   ·rw [e] at e';cases e'
   ·rw [e',hkey] at e;cases e
  simp only [own',if_neg n1,if_neg n2];exact e
 refine ⟨F,own',fun i=>if o.dst=some i then fx else fp i,fs,{ below:=h.below,hB:=h.hB,tb:=h.tb,f0:=h.f0,fl:=?_,ol:=?_,defers:=?_,size:=?_,slots:=?_,sn:=?_,so:=?_,obj:=?_ }⟩
 ·intro k hk
  have e:=h.fl k hk
  have n1:k ∉ fx:=fun hk'=>by have:=h6 k hk';rw [e.1] at this;cases this
  have n2:¬ (own k=.obj b∨k=b):=by
   rintro (e'|e')
   ·rw [e.1] at e';cases e'
   ·have:=e.1;rw [e',hkey] at this;cases this
  exact ⟨by simp only [own',if_neg n1,if_neg n2];exact e.1,e.2⟩
 ·intro k hk
  simp only [own'] at hk
  by_cases n1:k∈fx
  ·exact h.ol k (by rw [h6 k n1];simp)
  ·rw [if_neg n1] at hk
   by_cases n2:own k=.obj b∨k=b
   ·rw [if_pos n2] at hk;exact absurd rfl hk
   ·rw [if_neg n2] at hk;exact h.ol k hk
 ·have:=h.defers;cases o.dst<;>simpa [Act.put] using this
 ·have:=h.size;cases o.dst<;>simpa [Act.put] using this
 ·intro i
  simp only [T_put]
  rw [getD_put a o.dst v i (by rw [h.size];exact hd)]
  by_cases e:o.dst=some i
  ·simp only [e,if_true];exact h4
  ·simp only [if_neg e];exact h.slots i
 ·intro i
  split
  ·exact h5
  ·exact h.sn i
 ·intro i k hk
  by_cases e:o.dst=some i
  ·simp only [e,if_true] at hk
   simp only [own',if_pos hk,e]
  ·rw [if_neg e] at hk
   exact hns k i (h.so i k hk)
 ·intro q cs hO
  simp only [O] at hO
  split at hO
  ·cases hO
  ·rename_i hne
   obtain ⟨g1,g2,g3,g4⟩:=h.obj q cs hO
   refine ⟨?_,g2,fun k hk=>?_,g4⟩
   ·have n1:q ∉ fx:=fun hk=>by have:=h6 q hk;rw [g1] at this;cases this
    have n2:¬ (own q=.obj b∨q=b):=by
     rintro (e'|e')
     ·rw [g1] at e';cases e'
     ·exact hne e'.symm
    simp only [own',if_neg n1,if_neg n2];exact g1
   ·have e:=g3 k hk
    have n1:k ∉ fx:=fun hk'=>by have:=h6 k hk';rw [e] at this;cases this;exact hne rfl
    have n2:¬ (own k=.obj b∨k=b):=by
     rintro (e'|e')
     ·rw [e] at e';cases e';exact hne rfl
     ·rw [e',hkey] at e;cases e
    simp only [own',if_neg n1,if_neg n2];exact e
end Go.Ab
namespace Go.Ab
open Go.RowKit (Below)
def Fresh(o:List (Nat×Option (List AV)))(b:Nat):Prop:=∀ b' cells,O o b'=some cells→b'≠b
section
variable {L : Nat → Nat} {P : Program} {n : Nat} {t : List (Nat × AV)} {o : List (Nat × Option (List AV))} {ops : Array Oper} {i : Nat} {l : List Nat} {K' : AS → Prop} {oo : Oper}
theorem DenAt.fresh{B:Nat→Prop}{F0:Nat→Prop}{w0:World}{F:Nat→Prop}{own:Nat→Own}{fp fs:Nat→List Nat}{s:AS}{a:Act}{w:World}(h:DenAt L B F0 w0 F own fp fs s a w):Fresh s.o w.heap.size:=by
 intro b' cells hb e
 have:=(h.ol b' (by rw [(h.obj b' cells hb).1];simp)).2
 omega
theorem OpsW.alloc{ty':TypeId}{zs:List Value}(ho:ops[i]? = some oo)(hg:oo.guard=none)(hop:oo.op=.alloc ty')(hd:dstOK n oo.dst=true)(hz:zer P ty'=some zs)
  (h:∀ K:List (Nat×AV)→List (Nat×Option (List AV))→Prop,(∀ t o,OpsW L P ops l ⟨n,t,o⟩ K'→K t o)→∀ b,Fresh o b→K (put t oo.dst (.ptr b 0)) ((b,some (zs.map avz))::o)):OpsW L P ops (i::l) ⟨n,t,o⟩ K':=by
 refine OpsW.cons ho hg ?_
 intro B F0 w0 a w next Q hden hnext
 have hfr:Fresh o w.heap.size:=by obtain ⟨F,own,fp,fs,hd'⟩:=hden;exact hd'.fresh
 obtain ⟨F,own,fp,fs,hD⟩:=hden
 obtain ⟨z,hzc,hzr⟩:=zer_run hz
 have hrun:(execOp a.eval oo).run P w=.ok (.value (.pointer (some ⟨w.heap.size,0,none⟩))) (w.alloc (.cells z.cells ty')):=by
  simp [execOp,hop,Instr.alloc,hzr,newVar,newRow]
 unfold Oper.wp
 rw [hrun]
 refine hnext _ _ _ (h (fun t o=>OpsW L P ops l ⟨n,t,o⟩ K') (fun _ _ h=>h) w.heap.size hfr) ?_
 exact hD.renew [] [] w.heap.size (zs.map avz) [] oo.dst hd ⟨rfl,rfl,rfl⟩ (Ext.alloc w _ []) (by simp) (.inr ⟨Nat.le_refl _,by simp⟩)
  ⟨z.cells,ty',zs,[],alloc_at w _,by simp [hzc],RepL.plain zs⟩ (by simp) (by simp) (by simp [Rep])
theorem OpsW.store{ty':TypeId}{ad x:Operand}{b off m:Nat}{g:Bool}{cells:List AV}{xv:AV}(ho:ops[i]? = some oo)(hg:oo.guard=none)(hop:oo.op=.store ty' ad x)(hd:oo.dst=none)(ha:ev t ad=.ptr b off)(hO:O o b=some cells)
  (ht:ty P ty'=some (g,m)) (hx:ev t x=xv) (he:xv.elem m=true) (hone:xv.cells.all AV.one=true) (hle:off+m≤cells.length)
  (h:∀ K:List (Nat×AV)→List (Nat×Option (List AV))→Prop,(∀ t o,OpsW L P ops l ⟨n,t,o⟩ K'→K t o)→K (killL t (kills t [x])) ((b,some (cells.take off++xv.cells++cells.drop (off+m)))::o)):OpsW L P ops (i::l) ⟨n,t,o⟩ K':=by
 refine OpsW.cons ho hg (opw_store (s:=⟨n,t,o⟩) hop hd ha hO ht (by rw [hx];exact he) (by rw [hx];exact hone) hle ?_)
 simp only [hx]
 have:=h (fun t o=>OpsW L P ops l ⟨n,t,o⟩ K') (fun _ _ h=>h)
 intro B F0 w0 a w Q hd' hQ
 refine this B F0 w0 a w Q (hd'.weaken rfl (fun _=>.inl rfl) ?_) hQ
 intro q cs hq
 simp only [O,dropO] at hq ⊢
 split at hq
 ·rename_i e;rw [if_pos e];exact hq
 ·rename_i e;rw [if_neg e,if_neg e];exact hq
theorem OpsW.take{ty':TypeId}{x:Operand}{b off m:Nat}{g:Bool}{cells:List AV}{y:AV}(ho:ops[i]? = some oo)(hg:oo.guard=none)(hop:oo.op=.load ty' x)(hd:dstOK n oo.dst=true)(hx:ev t x=.ptr b off)
  (hb:O o b=some cells) (ht:ty P ty'=some (g,m)) (hy:val g m (cells.drop off)=some y)
  (h:∀ K:List (Nat×AV)→List (Nat×Option (List AV))→Prop,(∀ t o,OpsW L P ops l ⟨n,t,o⟩ K'→K t o)→K (put t oo.dst y) ((b,none)::o)):OpsW L P ops (i::l) ⟨n,t,o⟩ K' :=
 OpsW.cons ho hg (opw_take (s:=⟨n,t,o⟩) hop hd hx hb ht hy (h (fun t o=>OpsW L P ops l ⟨n,t,o⟩ K') (fun _ _ h=>h)))
theorem OpsW.mk{ty' e:TypeId}{x y:Operand}{sz bytes m:Nat}{k k':IntKind}{zs:List Value}(ho:ops[i]? = some oo)(hg:oo.guard=none)(hop:oo.op=.makeSlice ty' x y)(hd:dstOK n oo.dst=true)(ht:elm P ty'=some (e,sz,bytes))(hz:zer P e=some zs)(hzl:zs.length=sz)
  (hx:ev t x=.v (.int k m)) (hy:ev t y=.v (.int k' m)) (hL:m≤L sz) (hby:m * bytes≤140737488355328)
  (h:∀ K:List (Nat×AV)→List (Nat×Option (List AV))→Prop,(∀ t o,OpsW L P ops l ⟨n,t,o⟩ K'→K t o)→∀ b,Fresh o b→K (put t oo.dst (.arr b 0 m sz)) ((b,some ((List.replicate m zs).flatten.map avz))::o))
  (h63:m≤9223372036854775807):OpsW L P ops (i::l) ⟨n,t,o⟩ K':=by
 refine OpsW.cons ho hg ?_
 intro B F0 w0 a w next Q hden hnext
 obtain ⟨F,own,fp,fs,hD⟩:=hden
 obtain ⟨inf,hut,hinf,rfl,rfl⟩:=elm_inv ht
 obtain ⟨inf',z,hinf',hzz,hzc⟩:=zer_inv hz
 rw [hinf] at hinf'
 cases hinf'
 have hrun:=run_make (P:=P) w ty' e inf z hut hinf hzz k k' (m:Int) m (by omega) (Int.le_refl _) (by
  have:(inf.bytes:Int) * m=((m * inf.bytes:Nat):Int):=by push_cast;rw [Int.mul_comm]
  omega) (by omega)
 have hzs:z.cells.size=inf.size:=by rw [← hzl,← hzc];simp
 have hex:(execOp a.eval oo).run P w=.ok (.value (.slice (some ⟨w.heap.size,0,none⟩) m m)) (w.alloc (.cells (madeCells z.cells (m * inf.size)) e)):=by
  simp only [execOp,hop,hD.val hx,hD.val hy,Sem.run_bind,hrun,Int.toNat_natCast]
  rfl
 unfold Oper.wp
 rw [hex]
 refine hnext _ _ _ (h (fun t o=>OpsW L P ops l ⟨n,t,o⟩ K') (fun _ _ h=>h) w.heap.size hD.fresh) ?_
 refine hD.renew [] [] w.heap.size _ [] oo.dst hd ⟨rfl,rfl,rfl⟩ (Ext.alloc w _ []) (by simp) (.inr ⟨Nat.le_refl _,by simp⟩)
  ⟨_,_,(List.replicate m zs).flatten,[],alloc_at w _,by rw [madeCells_list z.cells m inf.size hzs,hzc];simp,RepL.plain _⟩ (by simp) (by simp) ?_
 simp only [Rep]
 refine ⟨trivial,m,rfl,Nat.le_refl _,hL,_,_,alloc_at w _,?_⟩
 have:=congrArg List.length (madeCells_list z.cells m inf.size hzs)
 simp at this
 rw [hzs] at this
 omega
end
def mkC{α:Type}(f:α→AV)(zs:List Value)(l:List α)(k:Nat):List AV:=((l.take k).map f).flatMap AV.cells++(List.replicate (l.length - k) zs).flatten.map avz
theorem flat_len{α:Type}(f:α→AV)(sz:Nat)(hf:∀ x,(f x).cells.length=sz):∀ l:List α,((l.map f).flatMap AV.cells).length=l.length * sz
 | []=>by simp
 | x::xs=>by
  rw [List.map_cons,List.flatMap_cons,List.length_append,hf,flat_len f sz hf xs,List.length_cons,Nat.add_mul];omega
theorem rep_len(zs:List Value)(sz:Nat)(hz:zs.length=sz)(m:Nat):((List.replicate m zs).flatten.map avz).length=m * sz:=by
 simp [hz]
theorem mkC_zero{α:Type}(f:α→AV)(zs:List Value)(l:List α):mkC f zs l 0=(List.replicate l.length zs).flatten.map avz:=by simp [mkC]
theorem mkC_len{α:Type}(f:α→AV)(zs:List Value)(sz:Nat)(hf:∀ x,(f x).cells.length=sz)(hz:zs.length=sz)(l:List α)(k:Nat)(hk:k≤l.length):(mkC f zs l k).length=l.length * sz:=by
 rw [mkC,List.length_append,flat_len f sz hf,rep_len zs sz hz,List.length_take,Nat.min_eq_left hk,← Nat.add_mul];congr 1;omega
theorem mkC_step{α:Type}(f:α→AV)(zs:List Value)(sz:Nat)(hf:∀ x,(f x).cells.length=sz)(hz:zs.length=sz)(l:List α)(k:Nat)(hk:k<l.length) :
  (mkC f zs l k).take (k * sz)++(f l[k]).cells++(mkC f zs l k).drop (k * sz+sz)=mkC f zs l (k+1):=by
 have hA:(((l.take k).map f).flatMap AV.cells).length=k * sz:=by rw [flat_len f sz hf,List.length_take,Nat.min_eq_left (by omega)]
 have e1:(mkC f zs l k).take (k * sz)=((l.take k).map f).flatMap AV.cells:=by rw [mkC,← hA,List.take_left]
 have e2:(mkC f zs l k).drop (k * sz+sz)=(List.replicate (l.length - (k+1)) zs).flatten.map avz:=by
  rw [mkC,← List.drop_drop,← hA,List.drop_left,show l.length - k=(l.length - (k+1))+1 by omega,List.replicate_succ,List.flatten_cons,List.map_append]
  have:(zs.map avz).length=sz:=by simpa using hz
  rw [← this,List.drop_left]
 rw [e1,e2,mkC,List.take_succ_eq_append_getElem hk,List.map_append,List.flatMap_append]
 simp
theorem mkC_end{α:Type}(f:α→AV)(zs:List Value)(l:List α):mkC f zs l l.length=(l.map f).flatMap AV.cells:=by simp [mkC]
end Go.Ab
namespace Go.Ab
open Go.RowKit (Below)
abbrev Sto:=List (Nat×Option (List AV))
theorem T_cons(t:List (Nat×AV))(i:Nat)(x:AV)(j:Nat):T ((i,x)::t) j=if i=j then x else T t j:=by
 by_cases h:i=j
 ·simp [T,h]
 ·have:(i == j)=false:=by simpa using h
  simp [T,h,this]
section
variable {L : Nat → Nat} {F : Nat → Prop} {w : World}
theorem RepL.put:∀ {l:List AV} {vs:List Value} {fp:List Nat} {k:Nat} {x:AV},RepL L F w l vs fp→l[k]? = some x →
  ∃ y f1 fx f2,vs[k]? = some y∧fp=f1++(fx++f2)∧Rep L F w x y fx∧∀ x' fx',Rep L F w x' y fx'→RepL L F w (l.set k x') vs (f1++(fx'++f2))
 | [],_,_,_,_,_,h=>by simp at h
 | z::l,vs,fp,0,x,r,h=>by
  simp at h;subst h
  simp only [RepL] at r
  obtain ⟨y,vs',f1,f2,rfl,rfl,hx,hxs⟩:=r
  exact ⟨y,[],f1,f2,by simp,by simp,hx,fun x' fx' h'=>by simp only [List.set_cons_zero,RepL];exact ⟨y,vs',fx',f2,rfl,by simp,h',hxs⟩⟩
 | z::l,vs,fp,k+1,x,r,h=>by
  simp only [RepL] at r
  obtain ⟨y,vs',f1,f2,rfl,rfl,hx,hxs⟩:=r
  obtain ⟨y',g1,gx,g2,h1,rfl,h2,h3⟩:=RepL.put hxs (k:=k) (by simpa using h)
  exact ⟨y',f1++g1,gx,g2,by simpa using h1,by simp,h2,fun x' fx' h'=>by simp only [List.set_cons_succ,RepL];exact ⟨y,vs',f1,g1++(fx'++g2),rfl,by simp,hx,h3 x' fx' h'⟩⟩
end
def Imp(L:Nat→Nat)(s:AS)(Q:AS→Prop):Prop:=∀ B F0 w0 a w,Den L B F0 w0 s a w→∃ s',Q s'∧Den L B F0 w0 s' a w
section
variable {L : Nat → Nat} {P : Program} {s : AS}
theorem AW.imp{c:Code}{Q:Exit→AS→Prop}(h:Imp L s (fun s'=>AW L P c s' Q)):AW L P c s Q:=by
 intro B F0 w0 a w hd
 obtain ⟨s',h1,h2⟩:=h B F0 w0 a w hd
 exact h1 B F0 w0 a w h2
theorem OpsW.imp{ops:Array Oper}{l:List Nat}{K:AS→Prop}(h:Imp L s (fun s'=>OpsW L P ops l s' K)):OpsW L P ops l s K:=by
 intro B F0 w0 a w Q hd hQ
 obtain ⟨s',h1,h2⟩:=h B F0 w0 a w hd
 exact h1 B F0 w0 a w Q h2 hQ
theorem Imp.id{Q:AS→Prop}(h:Q s):Imp L s Q:=fun _ _ _ _ _ hd=>⟨s,h,hd⟩
theorem Imp.mono{Q R:AS→Prop}(h:Imp L s Q)(hq:∀ s,Q s→R s):Imp L s R:=fun B F0 w0 a w hd=>by
 obtain ⟨s',h1,h2⟩:=h B F0 w0 a w hd
 exact ⟨s',hq _ h1,h2⟩
theorem Imp.bind{Q R:AS→Prop}(h:Imp L s Q)(hq:∀ s,Q s→Imp L s R):Imp L s R:=fun B F0 w0 a w hd=>by
 obtain ⟨s',h1,h2⟩:=h B F0 w0 a w hd
 exact hq _ h1 B F0 w0 a w h2
end
section
variable {L : Nat → Nat} {n : Nat} {t : List (Nat × AV)} {o : Sto} {Q : AS → Prop}
theorem Imp.frz(i:Nat)(h:Q ⟨n,(i,(T t i).frz)::t,o⟩):Imp L ⟨n,t,o⟩ Q:=by
 intro B F0 w0 a w hd
 refine ⟨_,h,?_⟩
 obtain ⟨F,own,fp,fs,hd⟩:=hd
 classical
 let F':Nat→Prop:=fun b=>F b∨b∈fp i
 let own':Nat→Own:=fun b=>if b∈fp i then .none else own b
 have hid:Ext (fun _=>True) w w:=⟨Nat.le_refl _,fun _ _=>rfl,fun b c T z hc=>⟨c,hc,rfl⟩⟩
 have hnot:∀ b,own b≠.slot i→own' b=own b:=fun b hb=>by
  have:b ∉ fp i:=fun hm=>hb (hd.so i b hm)
  simp only [own',if_neg this]
 refine ⟨F',own',fun j=>if j=i then [] else fp j,fs,{ below:=hd.below,hB:=hd.hB,tb:=hd.tb,f0:=fun b hb=>.inl (hd.f0 b hb),fl:=?_,ol:=?_,defers:=hd.defers,size:=hd.size,slots:=?_,sn:=?_,so:=?_,obj:=?_ }⟩
 ·rintro b (hb|hb)
  ·have:=hd.fl b hb
   exact ⟨by simp only [own'];split<;>simp [this.1],this.2⟩
  ·have:=hd.fp_lt hb
   exact ⟨by simp only [own',if_pos hb],this.2,.inr this.1⟩
 ·intro b hb
  simp only [own'] at hb
  split at hb
  ·exact absurd rfl hb
  ·exact hd.ol b hb
 ·intro j
  rw [T_cons]
  by_cases e:i=j
  ·subst e
   simp only [if_true]
   exact Rep.frz (fun b hb=>.inl hb) (fun b hb=>.inr hb) (hd.slots i)
  ·have e':¬ j=i:=fun h=>e h.symm
   simp only [if_neg e,if_neg e']
   exact Rep.ext hid (fun b hb=>⟨.inl hb,trivial⟩) (fun _ _=>trivial) (hd.slots j)
 ·intro j
  split
  ·simp
  ·exact hd.sn j
 ·intro j b hb
  split at hb
  ·simp at hb
  ·rename_i e
   have:=hd.so j b hb
   rw [hnot b (by rw [this];simpa using e)];exact this
 ·intro b cells hO
  obtain ⟨h1,h2,h3,c,Ty,vals,rest,h4,h5,h6⟩:=hd.obj b cells hO
  refine ⟨by rw [hnot b (by rw [h1];simp)];exact h1,h2,fun k hk=>by rw [hnot k (by rw [h3 k hk];simp)];exact h3 k hk,c,Ty,vals,rest,h4,h5,?_⟩
  exact RepL.ext hid (fun b hb=>⟨.inl hb,trivial⟩) (fun _ _=>trivial) h6
theorem row_list{w:World}{b:Nat}{vals:List Value}(h:RowAt w b 0 vals){m:Nat}(ho:OwnBlk w b m):∃ c Ty rest,w.heap[b]? = some (.cells c Ty (0,0))∧c.toList=vals++rest:=by
 obtain ⟨c,T,z,h1,h2⟩:=h
 obtain ⟨c',T',h3,_⟩:=ho
 rw [h1] at h3
 cases h3
 refine ⟨c,T,c.toList.drop vals.length,h1,?_⟩
 have:c.toList.take vals.length=vals:=by
  apply List.ext_getElem?
  intro i
  rw [List.getElem?_take]
  split
  ·rename_i hi
   have:=h2 i hi
   rw [Nat.zero_add] at this
   rw [Array.getElem?_toList];exact this
  ·rw [List.getElem?_eq_none (by omega)]
 conv=>lhs;rw [← List.take_append_drop vals.length c.toList,this]
theorem Imp.unfold(i:Nat){sz:Nat}{l:List AV}(hT:T t i=.sl true sz l)(hl:l≠[])(hel:∀ x,x∈l→x.elem sz=true)
  (h:∀ b,Fresh o b→Q ⟨n,(i,.arr b 0 l.length sz)::t,(b,some (l.flatMap AV.cells))::o⟩):Imp L ⟨n,t,o⟩ Q:=by
 intro B F0 w0 a w hd
 obtain ⟨F,own,fp,fs,hd⟩:=hd
 have hr:=hd.slots i
 simp only at hr
 rw [hT] at hr
 simp only [Rep] at hr
 rcases hr with ⟨_,e,_⟩|⟨b,off,cap,vals,fp',hy,h1,h2,hrow,he,ho⟩
 ·exact absurd e hl
 obtain ⟨hfp,rfl,hblk⟩:fp i=b::fp'∧off=0∧OwnBlk w b (off+cap * sz):=by
  rcases ho with ⟨_,h⟩|⟨e,_⟩
  ·exact h
  ·cases e
 have hsb:own b=.slot i:=hd.so i b (by rw [hfp];simp)
 have hnd:=hd.sn i
 rw [hfp,List.nodup_cons] at hnd
 have hfr:Fresh o b:=by
  intro b' cells hO e
  have:=(hd.obj b' cells hO).1
  rw [e,hsb] at this;cases this
 refine ⟨_,h b hfr,?_⟩
 obtain ⟨c,Ty,rest,hc,hcl⟩:=row_list hrow hblk
 classical
 let own':Nat→Own:=fun k=>if k=b then .key else if k∈fp' then .obj b else own k
 have hnot:∀ k,own k≠.slot i→own' k=own k:=fun k hk=>by
  have n1:k≠b:=fun e=>hk (by rw [e];exact hsb)
  have n2:k ∉ fp':=fun hm=>hk (hd.so i k (by rw [hfp];simp [hm]))
  simp only [own',if_neg n1,if_neg n2]
 refine ⟨F,own',fun j=>if j=i then [] else fp j,fun k=>if k=b then fp' else fs k,{ below:=hd.below,hB:=hd.hB,tb:=hd.tb,f0:=hd.f0,fl:=?_,ol:=?_,defers:=hd.defers,size:=hd.size,slots:=?_,sn:=?_,so:=?_,obj:=?_ }⟩
 ·intro k hk
  have:=hd.fl k hk
  exact ⟨by rw [hnot k (by rw [this.1];simp)];exact this.1,this.2⟩
 ·intro k hk
  by_cases e1:k=b
  ·subst e1;exact hd.ol k (by rw [hsb];simp)
  ·by_cases e2:k∈fp'
   ·exact hd.fp_lt (i:=i) (by rw [hfp];simp [e2])
   ·simp only [own',if_neg e1,if_neg e2] at hk;exact hd.ol k hk
 ·intro j
  rw [T_cons]
  by_cases e:i=j
  ·subst e
   simp only [if_true,Rep]
   exact ⟨trivial,cap,hy,h1,h2,hblk⟩
  ·have e':¬ j=i:=fun h=>e h.symm
   simp only [if_neg e,if_neg e'];exact hd.slots j
 ·intro j
  split
  ·simp
  ·exact hd.sn j
 ·intro j k hk
  split at hk
  ·simp at hk
  ·rename_i e
   have:=hd.so j k hk
   rw [hnot k (by rw [this];simpa using e)];exact this
 ·intro q cells hO
  simp only [O] at hO
  by_cases e:b=q
  ·subst e
   rw [if_pos rfl] at hO;cases hO
   refine ⟨by simp [own'],by simpa using hnd.2,fun k hk=>?_,c,Ty,vals,rest,hc,hcl,by simpa using RepE.flat hel he⟩
   simp only [if_true] at hk
   have n1:k≠b:=fun e=>hnd.1 (by rw [← e];exact hk)
   simp only [own',if_neg n1,if_pos hk]
  ·rw [if_neg e] at hO
   have e':¬ q=b:=fun h=>e h.symm
   obtain ⟨g1,g2,g3,g4⟩:=hd.obj q cells hO
   simp only [if_neg e']
   exact ⟨by rw [hnot q (by rw [g1];simp)];exact g1,g2,fun k hk=>by rw [hnot k (by rw [g3 k hk];simp)];exact g3 k hk,g4⟩
theorem Imp.fold(i:Nat){b len sz:Nat}{cells l:List AV}(hT:T t i=.arr b 0 len sz)(hO:O o b=some cells)(hlen:l.length=len)(hfl:l.flatMap AV.cells=cells.take (len * sz))(hel:∀ x,x∈l→x.elem sz=true)
  (h:Q ⟨n,(i,.sl true sz l)::t,(b,none)::o⟩):Imp L ⟨n,t,o⟩ Q:=by
 intro B F0 w0 a w hd
 refine ⟨_,h,?_⟩
 obtain ⟨F,own,fp,fs,hd⟩:=hd
 have hr:=hd.slots i
 simp only at hr
 rw [hT] at hr
 simp only [Rep] at hr
 obtain ⟨hfp,cap,hv,hlc,hlL,hblk⟩:=hr
 obtain ⟨hkey,hfsn,hfso,c,Ty,vals,rest,hc,hcl,hrep⟩:=hd.obj b cells hO
 obtain ⟨f,hl2,hsub⟩:=hrep.cutS 0 (len * sz)
 have hrow:RowAt w b 0 vals:=⟨c,Ty,_,hc,fun i hi=>by rw [Nat.zero_add,← Array.getElem?_toList,hcl,List.getElem?_append_left hi]⟩
 classical
 let own':Nat→Own:=fun k=>if k=b then .slot i else if k∈f then .slot i else own k
 have hnot:∀ k,own k≠.key→own k≠.obj b→own' k=own k:=fun k h1 h2=>by
  have n1:k≠b:=fun e=>h1 (by rw [e];exact hkey)
  have n2:k ∉ f:=fun hm=>h2 (hfso k (hsub.subset hm))
  simp only [own',if_neg n1,if_neg n2]
 refine ⟨F,own',fun j=>if j=i then b::f else fp j,fs,{ below:=hd.below,hB:=hd.hB,tb:=hd.tb,f0:=hd.f0,fl:=?_,ol:=?_,defers:=hd.defers,size:=hd.size,slots:=?_,sn:=?_,so:=?_,obj:=?_ }⟩
 ·intro k hk
  have:=hd.fl k hk
  exact ⟨by rw [hnot k (by rw [this.1];simp) (by rw [this.1];simp)];exact this.1,this.2⟩
 ·intro k hk
  by_cases e1:k=b
  ·subst e1;exact hd.ol k (by rw [hkey];simp)
  ·by_cases e2:k∈f
   ·exact hd.ol k (by rw [hfso k (hsub.subset e2)];simp)
   ·simp only [own',if_neg e1,if_neg e2] at hk;exact hd.ol k hk
 ·intro j
  rw [T_cons]
  by_cases e:i=j
  ·subst e
   simp only [if_true,Rep]
   refine .inr ⟨b,0,cap,(vals.drop 0).take (len * sz),f,by rw [hlen];exact hv,by omega,by omega,?_,?_,.inl ⟨by trivial,rfl,rfl,hblk⟩⟩
   ·have:=hrow.cut 0 (len * sz);simpa using this
   ·refine RepL.unflat hel ?_
    rw [hfl];simpa using hl2
  ·have e':¬ j=i:=fun h=>e h.symm
   simp only [if_neg e,if_neg e'];exact hd.slots j
 ·intro j
  split
  ·rw [List.nodup_cons]
   refine ⟨fun hm=>?_,hsub.nodup hfsn⟩
   have e:=hfso b (hsub.subset hm)
   rw [hkey] at e;cases e
  ·exact hd.sn j
 ·intro j k hk
  split at hk
  ·rename_i e
   subst e
   rcases List.mem_cons.1 hk with rfl|hk
   ·simp [own']
   ·simp only [own'];split<;>simp [hk]
  ·have:=hd.so j k hk
   rw [hnot k (by rw [this];simp) (by rw [this];simp)];exact this
 ·intro q cs hq
  simp only [O] at hq
  by_cases e:b=q
  ·rw [if_pos e] at hq;cases hq
  ·rw [if_neg e] at hq
   obtain ⟨g1,g2,g3,g4⟩:=hd.obj q cs hq
   have n1:q≠b:=fun h=>e h.symm
   have n2:q ∉ f:=fun hm=>by have:=hfso q (hsub.subset hm);rw [g1] at this;cases this
   refine ⟨by simp only [own',if_neg n1,if_neg n2];exact g1,g2,fun k hk=>?_,g4⟩
   rw [hnot k (by rw [g3 k hk];simp) (by rw [g3 k hk];simpa using n1)];exact g3 k hk
theorem Imp.foldO{b0 k b len sz:Nat}{cells0 cells l:List AV}(hO0:O o b0=some cells0)(hk:cells0[k]? = some (.arr b 0 len sz))(hO:O o b=some cells)(hne:b≠b0)(hlen:l.length=len)(hfl:l.flatMap AV.cells=cells.take (len * sz))(hel:∀ x,x∈l→x.elem sz=true)
  (h:Q ⟨n,t,(b,none)::(b0,some (cells0.set k (.sl true sz l)))::o⟩):Imp L ⟨n,t,o⟩ Q:=by
 intro B F0 w0 a w hd
 refine ⟨_,h,?_⟩
 obtain ⟨F,own,fp,fs,hd⟩:=hd
 obtain ⟨hkey0,hfsn0,hfso0,c0,Ty0,vals0,rest0,hc0,hcl0,hrep0⟩:=hd.obj b0 cells0 hO0
 obtain ⟨y,f1,fx,f2,hvk,hfs0,hr,hset⟩:=hrep0.put hk
 simp only [Rep] at hr
 obtain ⟨rfl,cap,hv,hlc,hlL,hblk⟩:=hr
 rw [List.nil_append] at hfs0
 obtain ⟨hkey,hfsn,hfso,c,Ty,vals,rest,hc,hcl,hrep⟩:=hd.obj b cells hO
 obtain ⟨f,hl2,hsub⟩:=hrep.cutS 0 (len * sz)
 have hrow:RowAt w b 0 vals:=⟨c,Ty,_,hc,fun i hi=>by rw [Nat.zero_add,← Array.getElem?_toList,hcl,List.getElem?_append_left hi]⟩
 classical
 let own':Nat→Own:=fun q=>if q=b then .obj b0 else if q∈f then .obj b0 else own q
 have hnot:∀ q,own q≠.key→own q≠.obj b→own' q=own q:=fun q h1 h2=>by
  have n1:q≠b:=fun e=>h1 (by rw [e];exact hkey)
  have n2:q ∉ f:=fun hm=>h2 (hfso q (hsub.subset hm))
  simp only [own',if_neg n1,if_neg n2]
 refine ⟨F,own',fp,fun q=>if q=b0 then f1++((b::f)++f2) else fs q,{ below:=hd.below,hB:=hd.hB,tb:=hd.tb,f0:=hd.f0,fl:=?_,ol:=?_,defers:=hd.defers,size:=hd.size,slots:=hd.slots,sn:=hd.sn,so:=?_,obj:=?_ }⟩
 ·intro k hk
  have:=hd.fl k hk
  exact ⟨by rw [hnot k (by rw [this.1];simp) (by rw [this.1];simp)];exact this.1,this.2⟩
 ·intro k hk
  by_cases e1:k=b
  ·subst e1;exact hd.ol k (by rw [hkey];simp)
  ·by_cases e2:k∈f
   ·exact hd.ol k (by rw [hfso k (hsub.subset e2)];simp)
   ·simp only [own',if_neg e1,if_neg e2] at hk;exact hd.ol k hk
 ·intro j k hk
  have:=hd.so j k hk
  rw [hnot k (by rw [this];simp) (by rw [this];simp)];exact this
 ·intro q cs hq
  simp only [O] at hq
  by_cases e:b=q
  ·rw [if_pos e] at hq;cases hq
  ·rw [if_neg e] at hq
   have n1:q≠b:=fun h=>e h.symm
   by_cases e2:b0=q
   ·subst e2
    rw [if_pos rfl] at hq;cases hq
    simp only [if_true]
    have n2:b0 ∉ f:=fun hm=>by have:=hfso b0 (hsub.subset hm);rw [hkey0] at this;cases this
    have hfb:∀ q,q∈f1∨q∈f2→q≠b∧q ∉ f:=by
     intro q hq
     have e1:=hfso0 q (by rw [hfs0];rcases hq with h|h<;>simp [h])
     refine ⟨fun e=>by (rw [e,hkey] at e1;cases e1),fun hm=>?_⟩
     have:=hfso q (hsub.subset hm)
     rw [e1] at this;cases this;exact hne rfl
    refine ⟨by simp only [own',if_neg n1,if_neg n2];exact hkey0,?_,fun q hq=>?_,c0,Ty0,vals0,rest0,hc0,hcl0,?_⟩
    ·have hnd:=hfsn0
     rw [hfs0,List.nodup_append] at hnd
     obtain ⟨hn1,hn2,hn3⟩:=hnd
     rw [List.nodup_append]
     refine ⟨hn1,?_,fun q hq q' hq' e=>?_⟩
     ·rw [List.nodup_append]
      refine ⟨?_,hn2,fun q hq q' hq' e=>?_⟩
      ·rw [List.nodup_cons]
       refine ⟨fun hm=>?_,hsub.nodup hfsn⟩
       have e:=hfso b (hsub.subset hm)
       rw [hkey] at e;cases e
      ·subst e
       have:=hfb q (.inr hq')
       rcases List.mem_cons.1 hq with e|e
       ·exact this.1 e
       ·exact this.2 e
     ·subst e
      have:=hfb q (.inl hq)
      rcases List.mem_append.1 hq' with e|e
      ·rcases List.mem_cons.1 e with e|e
       ·exact this.1 e
       ·exact this.2 e
      ·exact hn3 q hq q e rfl
    ·rcases List.mem_append.1 hq with hq|hq
     ·have:=hfb q (.inl hq)
      simp only [own',if_neg this.1,if_neg this.2];exact hfso0 q (by rw [hfs0];simp [hq])
     ·rcases List.mem_append.1 hq with hq|hq
      ·rcases List.mem_cons.1 hq with rfl|hq
       ·simp [own']
       ·simp only [own'];split<;>simp [hq]
      ·have:=hfb q (.inr hq)
       simp only [own',if_neg this.1,if_neg this.2];exact hfso0 q (by rw [hfs0];simp [hq])
    ·refine hset (.sl true sz l) (b::f) ?_
     simp only [Rep]
     refine .inr ⟨b,0,cap,(vals.drop 0).take (len * sz),f,by rw [hlen];exact hv,by omega,by omega,?_,?_,.inl ⟨by trivial,rfl,rfl,hblk⟩⟩
     ·have:=hrow.cut 0 (len * sz);simpa using this
     ·refine RepL.unflat hel ?_
      rw [hfl];simpa using hl2
   ·rw [if_neg e2] at hq
    have e2':¬ q=b0:=fun h=>e2 h.symm
    obtain ⟨g1,g2,g3,g4⟩:=hd.obj q cs hq
    simp only [if_neg e2']
    have n2:q ∉ f:=fun hm=>by have:=hfso q (hsub.subset hm);rw [g1] at this;cases this
    refine ⟨by simp only [own',if_neg n1,if_neg n2];exact g1,g2,fun k hk=>?_,g4⟩
    rw [hnot k (by rw [g3 k hk];simp) (by rw [g3 k hk];simpa using n1)];exact g3 k hk
end
end Go.Ab
namespace Go.Ab
open Go.RowKit (Below)
def GenC(L:Nat→Nat)(P:Program)(f:FuncId)(os:Sto)(args:List AV)(Q:AV→Sto→Prop):Prop :=
 ∀ (B F:Nat→Prop) (own:Nat→Own) (fs:Nat→List Nat) (w:World) (vs:List Value),
  StoAt L B F w F own fs os w→RepL L F w args vs [] →
  Calls P f vs.toArray w fun e w'=>∃ v res os' F' own' fs' fp,e=.returned v∧Q res os'∧StoAt L B F w F' own' fs' os' w'∧Rep L F' w' res v fp∧fp.Nodup∧(∀ b,b∈fp→own' b=.slot 0)
theorem GenC.mono{L:Nat→Nat}{P:Program}{f:FuncId}{os:Sto}{args:List AV}{Q R:AV→Sto→Prop}(h:GenC L P f os args Q)(hq:∀ x o,Q x o→R x o):GenC L P f os args R:=by
 intro B F own fs w vs h1 h2
 refine (h B F own fs w vs h1 h2).mono ?_
 rintro e w' ⟨v,res,os',F',own',fs',fp,h3,h4,h5⟩
 exact ⟨v,res,os',F',own',fs',fp,h3,hq _ _ h4,h5⟩
def EndsG(L:Nat→Nat)(P:Program)(fn:Func)(s:AS)(Q:AV→Sto→Prop):Prop :=
 ∀ B F0 w0 a w,Den L B F0 w0 s a w→∃ v res os' F' own' fs' fp,(results fn a.tmps).run P w=.ok v w∧Q res os'∧StoAt L B F0 w0 F' own' fs' os' w∧Rep L F' w res v fp∧fp.Nodup∧(∀ b,b∈fp→own' b=.slot 0)
def finG(L:Nat→Nat)(P:Program)(fn:Func)(Q:AV→Sto→Prop):Exit→AS→Prop
 | .ret,s=>EndsG L P fn s Q
 | .normal,s=>EndsG L P fn s Q
 | _,_=>False
theorem GenC.of_body{L:Nat→Nat}{P:Program}{f:FuncId}{fn:Func}{c:Code}{os:Sto}{args:List AV}{Q:AV→Sto→Prop}(hf:P.funcs[f]? = some fn)(hb:fn.body=some c)(hn:Nat.ble args.length fn.ntmps=true)
  (h:AW L P c ⟨fn.ntmps,zipT 0 args,os⟩ (finG L P fn Q)):GenC L P f os args Q:=by
 intro B F own fs w vs hS hr
 have hl:=hr.len
 have hn':args.length≤fn.ntmps:=by simpa using hn
 refine calls_of_wp hf hb (wp_mono (h B F w _ w ?_) ?_)
 ·refine ⟨F,own,fun _=>[],fs,{ hS with defers:=rfl,size:=by simp;omega,slots:=?_,sn:=by simp,so:=by simp }⟩
  intro i
  simp only [T_zip,Nat.zero_le,if_true,Nat.sub_zero]
  cases hx:args[i]? with
  | none=>simp [Rep]
  | some x =>
   obtain ⟨y,f',h1,h2,h3⟩:=hr.get hx
   have:f'=[]:=List.eq_nil_iff_forall_not_mem.2 fun b hb=>by simpa using h3 b hb
   subst this
   have hlt:i<vs.length:=by
    rcases Nat.lt_or_ge i vs.length with h|h
    ·exact h
    ·rw [List.getElem?_eq_none h] at h1;cases h1
   have e:(vs.toArray++Array.replicate (fn.ntmps - vs.toArray.size) undef).getD i undef=y:=by
    rw [Array.getD_eq_getD_getElem?,Array.getElem?_append_left (by simpa using hlt)]
    simp [h1]
   rw [e]
   exact h2
 ·rintro e a' w' ⟨s',h1,h2⟩
  have key:EndsG L P fn s' Q→a'.defers=[]∧∃ v,(results fn a'.tmps).run P w'=.ok v w'∧∃ v' res os' F' own' fs' fp,Ending.returned v=.returned v'∧Q res os'∧StoAt L B F w F' own' fs' os' w'∧Rep L F' w' res v' fp∧fp.Nodup∧(∀ b,b∈fp→own' b=.slot 0):=by
   intro he
   obtain ⟨v,res,os',F',own',fs',fp,h3,h4,h5,h6,h7,h8⟩:=he _ _ _ _ _ h2
   obtain ⟨G,own2,fp',fs2,hd⟩:=h2
   exact ⟨hd.defers,v,h3,v,res,os',F',own',fs',fp,rfl,h4,h5,h6,h7,h8⟩
  cases e with
  | ret=>exact key h1
  | normal=>exact key h1
  | exit _=>exact h1.elim
  | goto _=>exact h1.elim
  | panic _=>exact h1.elim
  | outgrown=>exact h1.elim
theorem PureC.of_gen{L:Nat→Nat}{P:Program}{f:FuncId}{args:List AV}{res:AV}(h:GenC L P f [] args (fun x _=>x=res)):PureC L P f args res:=by
 intro w F vs hF ht hr
 refine (h (fun b=>b<w.heap.size) F (fun _=>.none) (fun _=>[]) w vs { below:=Kp.refl _ _,hB:=fun _ h=>h,tb:=ht,f0:=fun _ h=>h,fl:=fun b hb=>⟨rfl,hF b hb,.inl hb⟩,ol:=fun b hb=>absurd rfl hb,obj:=by simp [O] } hr).mono ?_
 rintro e w' ⟨v,x,os',F',own',fs',fp,rfl,rfl,h5,h6,h7,h8⟩
 refine ⟨v,F',fp,rfl,⟨h5.below.os,h5.below.tape,h5.below.output,h5.below.size,h5.below.block⟩,h5.f0,fun b hb=>?_,h6,h7,fun b hb=>?_⟩
 ·have:=h5.fl b hb
  exact this.2.2.imp id fun e=>⟨by omega,this.2.1⟩
 ·have:=h5.ol b (by rw [h8 b hb];simp)
  refine ⟨fun hF=>?_,by omega,this.2⟩
  have e:=(h5.fl b hF).1
  rw [h8 b hb] at e;cases e
theorem O_append(o1 o2:Sto)(b:Nat):O (o1++o2) b=if b∈o1.map Prod.fst then O o1 b else O o2 b:=by
 induction o1 with
 | nil=>simp
 | cons p o1 ih =>
  by_cases h:p.1=b
  ·simp [O,h]
  ·have h':¬ b=p.1:=fun e=>h e.symm
   simp only [List.cons_append,O,if_neg h,ih,List.map_cons,List.mem_cons,h',false_or]
theorem O_mem{o:Sto}{b:Nat}{cells:List AV}(h:O o b=some cells):b∈o.map Prod.fst:=by
 induction o with
 | nil=>simp [O] at h
 | cons p o ih =>
  by_cases e:p.1=b
  ·simp [e]
  ·simp only [O,if_neg e] at h
   simp [ih h]
section
variable {L : Nat → Nat} {P : Program} {s : AS} {o : Oper}
theorem opw_gcallN{c:Call}{y:Operand}{xs:Array Operand}{ts:Array TypeId}{f:FuncId}{caps:List AV}{os:Sto}{Q:AV→Sto→Prop}(ho:o.op=.call c)(hc:c=⟨.value y,xs,ts⟩)(hd:dstOK s.n o.dst=true)(hy:fnA (ev s.t y)=some (f,caps))
  (hcn:AV.nownL caps=true) (hn:AV.nownL (xs.toList.map (ev s.t))=true) (he:enters P f=true) (hos:∀ b cells,O os b=some cells→O s.o b=some cells) (hg:GenC L P f os (xs.toList.map (ev s.t)++caps) Q) {K:AS→Prop}
  (hK:∀ res os',Q res os'→(∀ b cells,O os' b=some cells→b ∉ os.map Prod.fst→∀ b' cells',O s.o b'=some cells'→b'≠b)→K ⟨s.n,put s.t o.dst res,os'++dropO s.o (os.map Prod.fst)⟩):OpW L P o s K:=by
 subst hc
 intro B F0 w0 a w next Qn hden hnext
 obtain ⟨F,own,fp,fs,h⟩:=hden
 have hry:=h.ev y
 obtain ⟨cvs,hyv,hcr⟩:∃ cvs:List Value,a.eval y=.func (.func f) #[] cvs.toArray∧RepL L F w caps cvs []:=by
  generalize ev s.t y=z at hy hry
  unfold fnA at hy
  split at hy
  ·cases hy
   simp only [Rep] at hry
   obtain ⟨vs,e,hl⟩:=hry
   rw [RepL.fp_nil hcn hl] at hl
   exact ⟨vs,e,hl⟩
  ·split at hy
   ·rename_i first cap hsz
    cases hy
    simp only [Rep] at hry
    have e1:first=#[]:=Array.eq_empty_of_size_eq_zero hsz.1
    have e2:cap=#[]:=Array.eq_empty_of_size_eq_zero hsz.2
    exact ⟨[],by rw [hry.1,e1,e2],by simp [RepL]⟩
   ·cases hy
  ·cases hy
 have hex:(execOp a.eval o).run P w=.ok (.enter f (xs.toList.map a.eval++cvs).toArray) w:=by
  have:=enters_run he (xs.toList.map a.eval++cvs).toArray w
  have e:xs.map a.eval++cvs.toArray=(xs.toList.map a.eval++cvs).toArray:=by apply Array.ext';simp
  rw [← e] at this ⊢
  simp only [execOp,ho,resolve,Sem.run_bind,hyv,Deferred.ofValue,Sem.run_pure,Result.andThen_ok,invoke,Array.empty_append]
  exact this
 unfold Oper.wp
 rw [hex]
 have hall:=RepL.join (RepL.of_evs h xs.toList hn) hcr
 rw [List.append_nil] at hall
 classical
 let D:=os.map Prod.fst
 let U:Nat→Prop:=fun b=>b<w.heap.size∧¬ (b∈D∧own b=.key)∧¬ ∃ d,d∈D∧own b=.obj d
 let own1:Nat→Own:=fun b=>if U b then .none else own b
 have hUn:∀ b,b<w.heap.size→own b=.none→U b:=fun b hb e=>⟨hb,fun ⟨_,h⟩=>by (rw [e] at h;cases h),fun ⟨d,_,h⟩=>by (rw [e] at h;cases h)⟩
 have hUs:∀ b i,own b=.slot i→U b:=fun b i e=>⟨(h.ol b (by rw [e];simp)).2,fun ⟨_,h⟩=>by (rw [e] at h;cases h),fun ⟨d,_,h⟩=>by (rw [e] at h;cases h)⟩
 have hUB:∀ b,B b→U b:=fun b hb=>by
  refine hUn b (h.hB b hb) ?_
  rcases Classical.em (own b=.none) with e|e
  ·exact e
  ·exact absurd hb (h.ol b e).1
 have hS:StoAt L U F w F own1 fs os w:=by
  refine { below:=Kp.refl _ _,hB:=fun b hb=>hb.1,tb:=h.tb.kp h.below hUB,f0:=fun _ h=>h,fl:=fun b hb=>⟨?_,(h.fl b hb).2.1,.inl hb⟩,ol:=?_,obj:=?_ }
  ·simp only [own1];split
   ·rfl
   ·exact (h.fl b hb).1
  ·intro b hb
   simp only [own1] at hb
   split at hb
   ·exact absurd rfl hb
   ·rename_i hu;exact ⟨hu,(h.ol b hb).2⟩
  ·intro b cells hO
   obtain ⟨g1,g2,g3,g4⟩:=h.obj b cells (hos b cells hO)
   have hm:b∈D:=O_mem hO
   refine ⟨?_,g2,fun k hk=>?_,g4⟩
   ·have:¬ U b:=fun hu=>hu.2.1 ⟨hm,g1⟩
    simp only [own1,if_neg this];exact g1
   ·have:¬ U k:=fun hu=>hu.2.2 ⟨b,hm,g3 k hk⟩
    simp only [own1,if_neg this];exact g3 k hk
 refine (hg U F own1 fs w _ hS hall).mono ?_
 rintro e w' ⟨v,res,os',F',own',fs',fp',rfl,hQ,h5,h6,h7,h8⟩
 refine hnext _ _ _ (hK res os' hQ fun b cells hO hnb b' cells' hO' e=>?_) ?_
 ·subst e
  obtain ⟨g1,_⟩:=h5.obj b' cells hO
  obtain ⟨g2,_⟩:=h.obj b' cells' hO'
  have hlt:=(h.ol b' (by rw [g2];simp)).2
  have hu:U b':=⟨hlt,fun e=>hnb e.1,fun ⟨d,_,e⟩=>by (rw [g2] at e;cases e)⟩
  exact (h5.ol b' (by rw [g1];simp)).1 hu
 have hext:Ext U w w':=⟨h5.below.size,h5.below.block,h5.below.shape⟩
 have hFS:∀ b,F b→F' b∧U b:=fun b hb=>⟨h5.f0 b hb,hUn b (h.fl b hb).2.1 (h.fl b hb).1⟩
 let own2:Nat→Own:=fun b=>if U b then own b else match own' b with|.slot _=>(match o.dst with|some d=>.slot d|none=>.none)|x=>x
 have hU2:∀ b,U b→own' b=.none:=fun b hb=>by
  rcases Classical.em (own' b=.none) with e|e
  ·exact e
  ·exact absurd hb (h5.ol b e).1
 refine ⟨F',own2,fun i=>if o.dst=some i then fp' else fp i,fun b=>if U b then fs b else fs' b,{ below:=?_,hB:=fun b hb=>Nat.lt_of_lt_of_le (h.hB b hb) h5.below.size,tb:=h.tb,f0:=fun b hb=>h5.f0 b (h.f0 b hb),fl:=?_,ol:=?_,defers:=?_,size:=?_,slots:=?_,sn:=?_,so:=?_,obj:=?_ }⟩
 ·exact h.below.trans (h5.below.mono hUB)
 ·intro b hb
  have g:=h5.fl b hb
  by_cases hu:U b
  ·have hF:F b:=g.2.2.resolve_right fun e=>e hu
   exact ⟨by simp only [own2,if_pos hu];exact (h.fl b hF).1,g.2.1,(h.fl b hF).2.2⟩
  ·exact ⟨by simp only [own2,if_neg hu,g.1],g.2.1,.inr fun hb'=>hu (hUB b hb')⟩
 ·intro b hb
  by_cases hu:U b
  ·simp only [own2,if_pos hu] at hb
   exact ⟨(h.ol b hb).1,Nat.lt_of_lt_of_le hu.1 h5.below.size⟩
  ·simp only [own2,if_neg hu] at hb
   have hne:own' b≠.none:=fun e=>by rw [e] at hb;exact hb rfl
   exact ⟨fun hb'=>hu (hUB b hb'),(h5.ol b hne).2⟩
 ·have:=h.defers;cases o.dst<;>simpa [Act.put] using this
 ·have:=h.size;cases o.dst<;>simpa [Act.put] using this
 ·intro i
  simp only [T_put]
  rw [getD_put a o.dst v i (by rw [h.size];exact hd)]
  by_cases e:o.dst=some i
  ·simp only [e,if_true];exact h6
  ·simp only [if_neg e]
   exact Rep.ext hext hFS (fun b hb=>hUs b i (h.so i b hb)) (h.slots i)
 ·intro i
  split
  ·exact h7
  ·exact h.sn i
 ·intro i b hb
  by_cases e:o.dst=some i
  ·simp only [e,if_true] at hb
   have hu:¬ U b:=(h5.ol b (by rw [h8 b hb];simp)).1
   simp only [own2,if_neg hu,h8 b hb,e]
  ·rw [if_neg e] at hb
   have:=h.so i b hb
   simp only [own2,if_pos (hUs b i this)];exact this
 ·intro b cells hO
  simp only [O_append] at hO
  split at hO
  ·obtain ⟨g1,g2,g3,g4⟩:=h5.obj b cells hO
   have hu:¬ U b:=(h5.ol b (by rw [g1];simp)).1
   simp only [if_neg hu]
   refine ⟨by simp only [own2,if_neg hu,g1],g2,fun k hk=>?_,g4⟩
   have hu':¬ U k:=(h5.ol k (by rw [g3 k hk];simp)).1
   simp only [own2,if_neg hu',g3 k hk]
  ·rw [O_drop] at hO
   split at hO
   ·cases hO
   ·rename_i hnD
    obtain ⟨g1,g2,g3,c,Ty,vals,rest,g4,g5,g6⟩:=h.obj b cells hO
    have hu:U b:=⟨(h.ol b (by rw [g1];simp)).2,fun e=>hnD e.1,fun ⟨d,_,e⟩=>by (rw [g1] at e;cases e)⟩
    have huk:∀ k,k∈fs b→U k:=fun k hk=>⟨(h.ol k (by rw [g3 k hk];simp)).2,fun e=>by (have:=e.2;rw [g3 k hk] at this;cases this),fun ⟨d,hd,e⟩=>by (rw [g3 k hk] at e;cases e;exact hnD hd)⟩
    simp only [if_pos hu]
    refine ⟨by simp only [own2,if_pos hu];exact g1,g2,fun k hk=>?_,c,Ty,vals,rest,?_,g5,RepL.ext hext hFS huk g6⟩
    ·simp only [own2,if_pos (huk k hk)];exact g3 k hk
    ·rw [h5.below.block b hu];exact g4
theorem opw_gcall{c:Call}{y:Operand}{xs:Array Operand}{ts:Array TypeId}{f:FuncId}{caps:List AV}{os:Sto}{Q:AV→Sto→Prop}(ho:o.op=.call c)(hc:c=⟨.value y,xs,ts⟩)(hd:dstOK s.n o.dst=true)(hy:fnA (ev s.t y)=some (f,caps))
  (hcn:AV.nownL caps=true) (hn:AV.nownL (xs.toList.map (ev s.t))=true) (he:enters P f=true) (hos:∀ b cells,O os b=some cells→O s.o b=some cells) (hg:GenC L P f os (xs.toList.map (ev s.t)++caps) Q) {K:AS→Prop}
  (hK:∀ res os',Q res os'→K ⟨s.n,put s.t o.dst res,os'++dropO s.o (os.map Prod.fst)⟩):OpW L P o s K :=
 opw_gcallN ho hc hd hy hcn hn he hos hg fun res os' hQ _=>hK res os' hQ
end
section
variable {L : Nat → Nat} {P : Program} {n : Nat} {t : List (Nat × AV)} {o : Sto} {ops : Array Oper} {i : Nat} {l : List Nat} {K' : AS → Prop} {oo : Oper}
end
end Go.Ab
namespace Go.Ab
open Go.RowKit (Below)
def RunsR(P:Program)(w:World)(tmps:Array Value):List ResultVar→List Value→Prop
 | [],vs=>vs=[]
 | r::rs,vs=>∃ v vs',vs=v::vs'∧(resV r tmps).run P w=.ok v w∧RunsR P w tmps rs vs'
def oneOr(vs:List Value):Value:=match vs with|[v]=>v|_=>.tuple vs.toArray
theorem runsR_mapM{P:Program}{w:World}{tmps:Array Value}:∀ {rs:List ResultVar} {vs:List Value},RunsR P w tmps rs vs→(rs.mapM (fun r=>resV r tmps)).run P w=.ok vs w
 | [],vs,h=>by simp only [RunsR] at h;subst h;simp
 | r::rs,vs,h=>by
  simp only [RunsR] at h
  obtain ⟨v,vs',rfl,h1,h2⟩:=h
  have:=runsR_mapM h2
  rw [List.mapM_cons]
  simp only [Sem.run_bind,h1,Result.andThen_ok,this,Sem.run_pure]
theorem results_run{P:Program}{w:World}{fn:Func}{tmps:Array Value}{rs:List ResultVar}{vs:List Value}(hr:fn.results=rs.toArray)(h:RunsR P w tmps rs vs):(results fn tmps).run P w=.ok (oneOr vs) w:=by
 have hm:=runsR_mapM h
 have e:results fn tmps=(do let vs ← rs.mapM (fun r=>resV r tmps);pure (oneOr vs)):=by
  unfold results
  rw [hr,List.mapM_toArray]
  simp only [bind_map_left]
  have e1:(fun r=>resV r tmps)=(fun r=>match r with|.tmp t=>(pure (tmps.getD t undef):Sem Value)|.cell a t=>do loadVar t (← asAddr (tmps.getD a undef))):=by
   funext r;cases r<;>rfl
  rw [e1]
  congr 1
  funext vs
  congr 1
  match vs with
  | []=>simp [oneOr]
  | [v]=>simp [oneOr]
  | _::_::_=>simp [oneOr]
 rw [e]
 simp only [Sem.run_bind,hm,Result.andThen_ok,Sem.run_pure]
def oneA(xs:List AV):AV:=match xs with|[x]=>x|_=>.tup xs
theorem oneA_rep{L:Nat→Nat}{F:Nat→Prop}{w:World}{xs:List AV}{vs:List Value}{fp:List Nat}(h:RepL L F w xs vs fp):Rep L F w (oneA xs) (oneOr vs) fp:=by
 have hl:=h.len
 match xs,vs,hl,h with
 | [],[],_,h=>simp only [oneA,oneOr,Rep];exact ⟨[],rfl,h⟩
 | [x],[v],_,h =>
  simp only [RepL] at h
  obtain ⟨y,vs',f1,f2,e,rfl,hx,e1,e2⟩:=h
  cases e
  subst e2
  simpa [oneA,oneOr] using hx
 | x::x'::xs,v::v'::vs,_,h=>simp only [oneA,oneOr,Rep];exact ⟨_,rfl,h⟩
 | [],_::_,hl,_=>simp at hl
 | _::_,[],hl,_=>simp at hl
 | [_],_::_::_,hl,_=>simp at hl
 | _::_::_,[_],hl,_=>simp at hl
def resW(P:Program)(n:Nat):List ResultVar→List (Nat×AV)→Sto→List AV→(List AV→Sto→Prop)→Prop
 | [],_,o,acc,K=>K acc o
 | .tmp i::rs,t,o,acc,K=>Nat.blt i n=true∧resW P n rs ((i,.dead)::t) o (acc++[T t i]) K
 | .cell ad ty'::rs,t,o,acc,K=>match T t ad,ty P ty' with
  | .ptr b off,some (g,m)=>match O o b with
   | some cells=>match val g m (cells.drop off) with
    | some y=>resW P n rs t ((b,none)::o) (acc++[y]) K
    | none=>False
   | none=>False
  | _,_=>False
section
variable {L : Nat → Nat} {P : Program} {n : Nat}
theorem take_cells{B F0:Nat→Prop}{w0:World}{F:Nat→Prop}{own:Nat→Own}{fp fs:Nat→List Nat}{s:AS}{a:Act}{w:World}(h:DenAt L B F0 w0 F own fp fs s a w){b off m:Nat}{g:Bool}{cells:List AV}{y:AV}{t:TypeId}
  (hb:O s.o b=some cells) (ht:ty P t=some (g,m)) (hy:val g m (cells.drop off)=some y) :
  ∃ v fx,(loadVar t ⟨b,off,none⟩).run P w=.ok v w∧Rep L F w y v fx∧fx.Nodup∧∀ k,k∈fx→own k=.obj b:=by
 obtain ⟨hkey,hfsn,hfso,c,Ty,vals,rest,hc,hcl,hrep⟩:=h.obj b cells hb
 have hrow0:RowAt w b 0 vals:=⟨c,Ty,_,hc,fun i hi=>by rw [Nat.zero_add,← Array.getElem?_toList,hcl,List.getElem?_append_left hi]⟩
 have hrow:RowAt w b off (vals.drop off):=by
  have:=hrow0.cut off vals.length
  rw [List.take_of_length_le (by simp),Nat.zero_add] at this
  exact this
 have hvl:=hrep.len
 obtain ⟨l1,l2⟩:=load_run (P:=P) ht hrow
 unfold val at hy
 cases g with
 | true =>
  cases hn:Nat.ble m (cells.drop off).length with
  | false=>simp only [cond_true,hn,cond_false] at hy;cases hy
  | true =>
   simp only [cond_true,hn] at hy
   cases hy
   obtain ⟨f,hf,hsub⟩:=hrep.cutS off m
   have hle:m≤(vals.drop off).length:=by
    have:=Nat.le_of_ble_eq_true hn
    simp at this ⊢;omega
   exact ⟨_,f,l1 rfl hle,by simp only [Rep];exact ⟨_,rfl,hf⟩,hsub.nodup hfsn,fun k hk=>hfso k (hsub.subset hk)⟩
 | false =>
  simp at hy
  obtain ⟨f',hf,hsub⟩:=hrep.cutS off 1
  have e1:(cells.drop off).take 1=[y]:=by
   have e:cells[off]? = some y:=hy
   have hlt:off<cells.length:=by
    rcases Nat.lt_or_ge off cells.length with h|h
    ·exact h
    ·rw [List.getElem?_eq_none h] at e;cases e
   rw [List.drop_eq_getElem_cons hlt]
   rw [List.getElem?_eq_getElem hlt] at e
   cases e;rfl
  rw [e1] at hf
  simp only [RepL] at hf
  obtain ⟨y',vs',f1,f2,hv,rfl,hy',rfl,rfl⟩:=hf
  have hv0:(vals.drop off)[0]? = some y':=by
   cases hd:vals.drop off with
   | nil=>rw [hd] at hv;simp at hv
   | cons z zs=>rw [hd] at hv;simp at hv;simp [hv]
  exact ⟨y',f1,l2 rfl y' hv0,hy',by simpa using hsub.nodup hfsn,fun k hk=>hfso k (hsub.subset (by simpa using hk))⟩
theorem resW_run{tmps:Array Value}{K:List AV→Sto→Prop}{B F0:Nat→Prop}{w0:World}{w:World}{a:Act}(hsz:a.tmps=tmps):∀ (rs:List ResultVar) (t:List (Nat×AV)) (o:Sto) (xs:List AV) (vs:List Value) (F:Nat→Prop) (own:Nat→Own) (fp fs:Nat→List Nat) (fa:List Nat),
  resW P n rs t o xs K→DenAt L B F0 w0 F own fp fs ⟨n,t,o⟩ a w→RepL L F w xs vs fa→fa.Nodup→(∀ b,b∈fa→own b=.slot n) →
  ∃ vs1 xs' os' own' fs' fa',RunsR P w tmps rs vs1∧K xs' os'∧StoAt L B F0 w0 F own' fs' os' w∧RepL L F w xs' (vs++vs1) fa'∧fa'.Nodup∧∀ b,b∈fa'→own' b=.slot 0
 | [],t,o,xs,vs,F,own,fp,fs,fa,hK,hd,hr,hn,ho=>by
  simp only [resW] at hK
  classical
  let own':Nat→Own:=fun b=>match own b with|.slot i=>if i=n then .slot 0 else .none|x=>x
  have hnot:∀ b,(∀ i,own b≠.slot i)→own' b=own b:=fun b hb=>by
   show (match own b with|.slot i=>if i=n then Own.slot 0 else .none|x=>x)=own b
   cases h:own b with
   | slot i=>exact absurd h (hb i)
   | none=>rfl
   | key=>rfl
   | obj _=>rfl
  refine ⟨[],xs,o,own',fs,fa,rfl,hK,{ below:=hd.below,hB:=hd.hB,tb:=hd.tb,f0:=hd.f0,fl:=fun b hb=>⟨?_,(hd.fl b hb).2⟩,ol:=fun b hb=>hd.ol b ?_,obj:=?_ },by simpa using hr,hn,fun b hb=>?_⟩
  ·rw [hnot b (by rw [(hd.fl b hb).1];simp)];exact (hd.fl b hb).1
  ·exact fun e=>hb (by rw [hnot b (by rw [e];simp)];exact e)
  ·intro b cells hO
   obtain ⟨g1,g2,g3,g4⟩:=hd.obj b cells hO
   exact ⟨by rw [hnot b (by rw [g1];simp)];exact g1,g2,fun k hk=>by rw [hnot k (by rw [g3 k hk];simp)];exact g3 k hk,g4⟩
  ·simp only [own',ho b hb,if_true]
 | .tmp i::rs,t,o,xs,vs,F,own,fp,fs,fa,hK,hd,hr,hn,ho=>by
  simp only [resW] at hK
  obtain ⟨hlt,hK⟩:=hK
  have hlt':i<n:=by simpa using hlt
  classical
  let own':Nat→Own:=fun b=>if b∈fp i then .slot n else own b
  have hnot:∀ b,own b≠.slot i→own' b=own b:=fun b hb=>by
   have:b ∉ fp i:=fun hm=>hb (hd.so i b hm)
   simp only [own',if_neg this]
  have hd':DenAt L B F0 w0 F own' (fun j=>if j=i then [] else fp j) fs ⟨n,(i,.dead)::t,o⟩ a w:=by
   refine { below:=hd.below,hB:=hd.hB,tb:=hd.tb,f0:=hd.f0,fl:=fun b hb=>⟨?_,(hd.fl b hb).2⟩,ol:=?_,defers:=hd.defers,size:=hd.size,slots:=?_,sn:=?_,so:=?_,obj:=?_ }
   ·rw [hnot b (by rw [(hd.fl b hb).1];simp)];exact (hd.fl b hb).1
   ·intro b hb
    by_cases e:b∈fp i
    ·exact hd.fp_lt e
    ·simp only [own',if_neg e] at hb;exact hd.ol b hb
   ·intro j
    rw [T_cons]
    by_cases e:i=j
    ·subst e;simp [Rep]
    ·have e':¬ j=i:=fun h=>e h.symm
     simp only [if_neg e,if_neg e'];exact hd.slots j
   ·intro j
    split
    ·simp
    ·exact hd.sn j
   ·intro j b hb
    split at hb
    ·simp at hb
    ·rename_i e
     have:=hd.so j b hb
     rw [hnot b (by rw [this];simpa using e)];exact this
   ·intro b cells hO
    obtain ⟨g1,g2,g3,g4⟩:=hd.obj b cells hO
    exact ⟨by rw [hnot b (by rw [g1];simp)];exact g1,g2,fun k hk=>by rw [hnot k (by rw [g3 k hk];simp)];exact g3 k hk,g4⟩
  have hri:RepL L F w [T t i] [a.tmps.getD i undef] (fp i):=by
   simp only [RepL];exact ⟨_,_,fp i,[],rfl,by simp,hd.slots i,rfl,rfl⟩
  obtain ⟨vs1,xs',os',own2,fs',fa',h1,h2,h3,h4,h5,h6⟩:=resW_run hsz rs _ o _ (vs++[a.tmps.getD i undef]) F own' _ fs (fa++fp i) hK hd' (hr.join hri) (by
   rw [List.nodup_append]
   refine ⟨hn,hd.sn i,fun b hb b' hb' e=>?_⟩
   subst e
   have e1:=ho b hb
   rw [hd.so i b hb'] at e1
   exact Nat.lt_irrefl n ((Own.slot.inj e1) ▸ hlt')) (by
   intro b hb
   rcases List.mem_append.1 hb with hb|hb
   ·rw [hnot b (fun e=>Nat.lt_irrefl i ((Own.slot.inj ((ho b hb).symm.trans e)) ▸ hlt'))];exact ho b hb
   ·simp only [own',if_pos hb])
  refine ⟨a.tmps.getD i undef::vs1,xs',os',own2,fs',fa',?_,h2,h3,by simpa using h4,h5,h6⟩
  simp only [RunsR]
  exact ⟨_,vs1,rfl,by rw [← hsz];simp [resV],h1⟩
 | .cell ad ty'::rs,t,o,xs,vs,F,own,fp,fs,fa,hK,hd,hr,hn,ho=>by
  simp only [resW] at hK
  split at hK
  ·rename_i b off g m hT ht
   split at hK
   ·rename_i cells hO
    split at hK
    ·rename_i y hy
     obtain ⟨v,fx,hrun,hrep,hfxn,hfxo⟩:=take_cells hd hO ht hy
     have hra:=hd.slots ad
     simp only at hra
     rw [hT] at hra
     simp only [Rep] at hra
     have hkey:=(hd.obj b cells hO).1
     classical
     let own':Nat→Own:=fun k=>if k∈fx then .slot n else own k
     have hnot:∀ k,own k≠.obj b→own' k=own k:=fun k hk=>by
      have:k ∉ fx:=fun hm=>hk (hfxo k hm)
      simp only [own',if_neg this]
     have hd':DenAt L B F0 w0 F own' fp fs ⟨n,t,(b,none)::o⟩ a w:=by
      refine { below:=hd.below,hB:=hd.hB,tb:=hd.tb,f0:=hd.f0,fl:=fun b hb=>⟨?_,(hd.fl b hb).2⟩,ol:=?_,defers:=hd.defers,size:=hd.size,slots:=hd.slots,sn:=hd.sn,so:=?_,obj:=?_ }
      ·rw [hnot b (by rw [(hd.fl b hb).1];simp)];exact (hd.fl b hb).1
      ·intro k hk
       by_cases e:k∈fx
       ·exact hd.ol k (by rw [hfxo k e];simp)
       ·simp only [own',if_neg e] at hk;exact hd.ol k hk
      ·intro j k hk
       have:=hd.so j k hk
       rw [hnot k (by rw [this];simp)];exact this
      ·intro q cs hq
       simp only [O] at hq
       split at hq
       ·cases hq
       ·rename_i hne
        obtain ⟨g1,g2,g3,g4⟩:=hd.obj q cs hq
        exact ⟨by rw [hnot q (by rw [g1];simp)];exact g1,g2,fun k hk=>by rw [hnot k (by rw [g3 k hk];simp;exact fun e=>hne e.symm)];exact g3 k hk,g4⟩
     have hri:RepL L F w [y] [v] fx:=by
      simp only [RepL];exact ⟨_,_,fx,[],rfl,by simp,hrep,rfl,rfl⟩
     obtain ⟨vs1,xs',os',own2,fs',fa',h1,h2,h3,h4,h5,h6⟩:=resW_run hsz rs t _ _ (vs++[v]) F own' fp fs (fa++fx) hK hd' (hr.join hri) (by
      rw [List.nodup_append]
      refine ⟨hn,hfxn,fun k hk k' hk' e=>?_⟩
      subst e
      have e1:=ho k hk
      rw [hfxo k hk'] at e1;cases e1) (by
      intro k hk
      rcases List.mem_append.1 hk with hk|hk
      ·rw [hnot k (by rw [ho k hk];simp)];exact ho k hk
      ·simp only [own',if_pos hk])
     refine ⟨v::vs1,xs',os',own2,fs',fa',?_,h2,h3,by simpa using h4,h5,h6⟩
     simp only [RunsR]
     have hr1:tmps[ad]?.getD undef=.pointer (some ⟨b,off,none⟩):=by rw [← hra.1,Array.getD_eq_getD_getElem?,hsz]
     exact ⟨v,vs1,rfl,by simp [resV,hr1,asAddr,hrun],h1⟩
    ·exact hK.elim
   ·exact hK.elim
  ·exact hK.elim
theorem EndsG.res{fn:Func}{t:List (Nat×AV)}{o:Sto}{rs:List ResultVar}{Q:AV→Sto→Prop}(hr:fn.results=rs.toArray)(h:resW P n rs t o [] (fun xs os=>Q (oneA xs) os)):EndsG L P fn ⟨n,t,o⟩ Q:=by
 intro B F0 w0 a w hd
 obtain ⟨F,own,fp,fs,hd⟩:=hd
 obtain ⟨vs1,xs',os',own',fs',fa',h1,h2,h3,h4,h5,h6⟩:=resW_run (tmps:=a.tmps) rfl rs t o [] [] F own fp fs [] h hd (by simp [RepL]) (by simp) (by simp)
 exact ⟨oneOr vs1,oneA xs',os',F,own',fs',fa',results_run hr h1,h2,h3,oneA_rep (by simpa using h4),h5,h6⟩
end
end Go.Ab
namespace Go.Ab
open Go.RowKit (Below)
section
variable {L : Nat → Nat} {P : Program} {o : Oper} {s : AS} {K : AS → Prop}
theorem OpW.imp(h:Imp L s (fun s'=>OpW L P o s' K)):OpW L P o s K:=by
 intro B F0 w0 a w next Q hd hn
 obtain ⟨s',h1,h2⟩:=h B F0 w0 a w hd
 exact h1 B F0 w0 a w next Q h2 hn
theorem OpW.post(h:OpW L P o s (fun s'=>Imp L s' K)):OpW L P o s K:=by
 intro B F0 w0 a w next Q hd hn
 refine h B F0 w0 a w next Q hd fun s' a' w' h1 h2=>?_
 obtain ⟨s2,h3,h4⟩:=h1 B F0 w0 a' w' h2
 exact hn s2 a' w' h3 h4
theorem OpW.mono{K':AS→Prop}(h:OpW L P o s K)(hk:∀ s,K s→K' s):OpW L P o s K' :=
 fun B F0 w0 a w next Q hd hn=>h B F0 w0 a w next Q hd fun s' a' w' h1 h2=>hn s' a' w' (hk _ h1) h2
end
section
variable {L : Nat → Nat} {n : Nat} {t : List (Nat × AV)} {o : Sto} {Q : AS → Prop}
theorem Imp.weak{t':List (Nat×AV)}{o':Sto}(h:Q ⟨n,t',o'⟩)(ht:∀ i,T t' i=T t i∨T t' i=.dead)(ho:∀ b cells,O o' b=some cells→O o b=some cells):Imp L ⟨n,t,o⟩ Q :=
 fun _ _ _ _ _ hd=>⟨_,h,hd.weaken rfl ht ho⟩
theorem Imp.unfold2(i:Nat){sz:Nat}{l:List AV}(hT:T t i=.sl true sz l)(hel:∀ x,x∈l→x.elem sz=true)
  (h:∀ b,Fresh o b→Q ⟨n,(i,.arr b 0 l.length sz)::t,(b,some (l.flatMap AV.cells))::o⟩)
  (hnil:l=[]→Q ⟨n,(i,.v (.slice none 0 0))::t,o⟩):Imp L ⟨n,t,o⟩ Q:=by
 intro B F0 w0 a w hd
 obtain ⟨F,own,fp,fs,hd⟩:=hd
 have hr:=hd.slots i
 simp only at hr
 rw [hT] at hr
 simp only [Rep] at hr
 rcases hr with ⟨e1|⟨e0,_⟩,e,e3⟩|⟨b,off,cap,vals,fp',hy,h1,h2,hrow,he,ho⟩
 ·refine ⟨_,hnil e,F,own,fp,fs,{ hd with slots:=?_ }⟩
  intro j
  rw [T_cons]
  by_cases ej:i=j
  ·subst ej
   simp only [if_true,Rep]
   exact ⟨e1,e3⟩
  ·simp only [if_neg ej];exact hd.slots j
 ·cases e0
 obtain ⟨hfp,rfl,hblk⟩:fp i=b::fp'∧off=0∧OwnBlk w b (off+cap * sz):=by
  rcases ho with ⟨_,h⟩|⟨e,_⟩
  ·exact h
  ·cases e
 have hsb:own b=.slot i:=hd.so i b (by rw [hfp];simp)
 have hnd:=hd.sn i
 rw [hfp,List.nodup_cons] at hnd
 have hfr:Fresh o b:=by
  intro b' cells hO e
  have:=(hd.obj b' cells hO).1
  rw [e,hsb] at this;cases this
 refine ⟨_,h b hfr,?_⟩
 obtain ⟨c,Ty,rest,hc,hcl⟩:=row_list hrow hblk
 classical
 let own':Nat→Own:=fun k=>if k=b then .key else if k∈fp' then .obj b else own k
 have hnot:∀ k,own k≠.slot i→own' k=own k:=fun k hk=>by
  have n1:k≠b:=fun e=>hk (by rw [e];exact hsb)
  have n2:k ∉ fp':=fun hm=>hk (hd.so i k (by rw [hfp];simp [hm]))
  simp only [own',if_neg n1,if_neg n2]
 refine ⟨F,own',fun j=>if j=i then [] else fp j,fun k=>if k=b then fp' else fs k,{ below:=hd.below,hB:=hd.hB,tb:=hd.tb,f0:=hd.f0,fl:=?_,ol:=?_,defers:=hd.defers,size:=hd.size,slots:=?_,sn:=?_,so:=?_,obj:=?_ }⟩
 ·intro k hk
  have:=hd.fl k hk
  exact ⟨by rw [hnot k (by rw [this.1];simp)];exact this.1,this.2⟩
 ·intro k hk
  by_cases e1:k=b
  ·subst e1;exact hd.ol k (by rw [hsb];simp)
  ·by_cases e2:k∈fp'
   ·exact hd.fp_lt (i:=i) (by rw [hfp];simp [e2])
   ·simp only [own',if_neg e1,if_neg e2] at hk;exact hd.ol k hk
 ·intro j
  rw [T_cons]
  by_cases e:i=j
  ·subst e
   simp only [if_true,Rep]
   exact ⟨trivial,cap,hy,h1,h2,hblk⟩
  ·have e':¬ j=i:=fun h=>e h.symm
   simp only [if_neg e,if_neg e'];exact hd.slots j
 ·intro j
  split
  ·simp
  ·exact hd.sn j
 ·intro j k hk
  split at hk
  ·simp at hk
  ·rename_i e
   have:=hd.so j k hk
   rw [hnot k (by rw [this];simpa using e)];exact this
 ·intro q cells hO
  simp only [O] at hO
  by_cases e:b=q
  ·subst e
   rw [if_pos rfl] at hO;cases hO
   refine ⟨by simp [own'],by simpa using hnd.2,fun k hk=>?_,c,Ty,vals,rest,hc,hcl,by simpa using RepE.flat hel he⟩
   simp only [if_true] at hk
   have n1:k≠b:=fun e=>hnd.1 (by rw [← e];exact hk)
   simp only [own',if_neg n1,if_pos hk]
  ·rw [if_neg e] at hO
   have e':¬ q=b:=fun h=>e h.symm
   obtain ⟨g1,g2,g3,g4⟩:=hd.obj q cells hO
   simp only [if_neg e']
   exact ⟨by rw [hnot q (by rw [g1];simp)];exact g1,g2,fun k hk=>by rw [hnot k (by rw [g3 k hk];simp)];exact g3 k hk,g4⟩
end
section
variable {L : Nat → Nat} {F : Nat → Prop} {w : World}
theorem RepL.hole{l:List AV}{vs:List Value}{fp:List Nat}(r:RepL L F w l vs fp)(i n:Nat)(hle:i+n≤l.length) :
  ∃ f1 fx f3,fp=f1++(fx++f3)∧RepL L F w ((l.drop i).take n) ((vs.drop i).take n) fx∧RepL L F w (l.take i++List.replicate n .dead++l.drop (i+n)) vs (f1++f3):=by
 have hl:=r.len
 have e1:l=l.take i++((l.drop i).take n++l.drop (i+n)):=by
  rw [← List.drop_drop,List.take_append_drop,List.take_append_drop]
 have r0:=r
 rw [e1] at r
 obtain ⟨v1,v23,f1,f23,rfl,rfl,r1,r23⟩:=r.split
 obtain ⟨v2,v3,f2,f3,rfl,rfl,r2,r3⟩:=r23.split
 have h1:=r1.len
 have h2:=r2.len
 simp only [List.length_take,List.length_drop] at h1 h2
 have hv1:v1.length=i:=by omega
 have hv2:v2.length=n:=by omega
 have e2:((v1++(v2++v3)).drop i).take n=v2:=by
  rw [← hv1,List.drop_left,← hv2,List.take_left]
 refine ⟨f1,f2,f3,rfl,by rw [e2];exact r2,?_⟩
 have hd:=RepL.deads (L:=L) (F:=F) (w:=w) v2
 rw [hv2] at hd
 have:=(r1.join hd).join r3
 simpa using this
end
section
variable {L : Nat → Nat} {P : Program} {s : AS} {o : Oper}
theorem opw_takeD{t:TypeId}{x:Operand}{n b off:Nat}{g:Bool}{cells:List AV}{y:AV}(ho:o.op=.load t x)(hd:dstOK s.n o.dst=true)(hx:ev s.t x=.ptr b off)
  (hb:O s.o b=some cells) (ht:ty P t=some (g,n)) (hy:val g n (cells.drop off)=some y) (hn1:g=false→n=1) (hle:off+n≤cells.length) {K:AS→Prop} (hK:K ⟨s.n,put s.t o.dst y,(b,some (cells.take off++List.replicate n .dead++cells.drop (off+n)))::s.o⟩):OpW L P o s K:=by
 intro B F0 w0 a w next Q hden hnext
 obtain ⟨F,own,fp,fs,h⟩:=hden
 have hr:=h.ev x
 rw [hx] at hr
 simp only [Rep] at hr
 obtain ⟨hkey,hfsn,hfso,c,Ty,vals,rest,hc,hcl,hrep⟩:=h.obj b cells hb
 have hrow0:RowAt w b 0 vals:=⟨c,Ty,_,hc,fun i hi=>by rw [Nat.zero_add,← Array.getElem?_toList,hcl,List.getElem?_append_left hi]⟩
 have hrow:RowAt w b off (vals.drop off):=by
  have:=hrow0.cut off vals.length
  rw [List.take_of_length_le (by simp),Nat.zero_add] at this
  exact this
 have hvl:=hrep.len
 obtain ⟨l1,l2⟩:=load_run (P:=P) ht hrow
 obtain ⟨f1,fx,f3,hfs,hmid,hhole⟩:=hrep.hole off n hle
 obtain ⟨v,hrun,hrepv⟩:∃ v,(loadVar t ⟨b,off,none⟩).run P w=.ok v w∧Rep L F w y v fx:=by
  unfold val at hy
  cases g with
  | true =>
   cases hn:Nat.ble n (cells.drop off).length with
   | false=>simp only [cond_true,hn,cond_false] at hy;cases hy
   | true =>
    simp only [cond_true,hn] at hy
    cases hy
    exact ⟨_,l1 rfl (by simp only [List.length_drop];omega),by simp only [Rep];exact ⟨_,rfl,hmid⟩⟩
  | false =>
   simp at hy
   have hn:=hn1 rfl
   subst hn
   have hlt:off<cells.length:=by omega
   have e1:(cells.drop off).take 1=[y]:=by
    rw [List.drop_eq_getElem_cons hlt]
    rw [List.getElem?_eq_getElem hlt] at hy
    cases hy;rfl
   rw [e1] at hmid
   simp only [RepL] at hmid
   obtain ⟨y',vs',g1,g2,hv,hfx,hy',rfl,rfl⟩:=hmid
   have hv0:(vals.drop off)[0]? = some y':=by
    cases hd:vals.drop off with
    | nil=>rw [hd] at hv;simp at hv
    | cons z zs=>rw [hd] at hv;simp at hv;simp [hv]
   exact ⟨y',l2 rfl y' hv0,by rw [hfx];simpa using hy'⟩
 have hex:(execOp a.eval o).run P w=.ok (.value v) w:=by
  simp [execOp,ho,hr.1,Instr.loadAt,Instr.sureAddr,hrun]
 unfold Oper.wp
 rw [hex]
 refine hnext _ _ _ hK ?_
 have hnd:=hfsn
 rw [hfs,List.nodup_append] at hnd
 obtain ⟨hn1',hn2',hn3'⟩:=hnd
 rw [List.nodup_append] at hn2'
 obtain ⟨hnx,hn4,hn5⟩:=hn2'
 have h6:∀ k,k∈fx→own k=.obj b:=fun k hk=>hfso k (by rw [hfs];simp [hk])
 classical
 let own':Nat→Own:=fun k=>if k∈fx then (match o.dst with|some d=>.slot d|none=>.none) else own k
 have hnot:∀ k,own k≠.obj b→own' k=own k:=fun k hk=>by
  have:k ∉ fx:=fun hm=>hk (h6 k hm)
  simp only [own',if_neg this]
 refine ⟨F,own',fun i=>if o.dst=some i then fx else fp i,fun q=>if q=b then f1++f3 else fs q,{ below:=h.below,hB:=h.hB,tb:=h.tb,f0:=h.f0,fl:=?_,ol:=?_,defers:=?_,size:=?_,slots:=?_,sn:=?_,so:=?_,obj:=?_ }⟩
 ·intro k hk
  have e:=h.fl k hk
  exact ⟨by rw [hnot k (by rw [e.1];simp)];exact e.1,e.2⟩
 ·intro k hk
  by_cases n1:k∈fx
  ·exact h.ol k (by rw [h6 k n1];simp)
  ·simp only [own',if_neg n1] at hk;exact h.ol k hk
 ·have:=h.defers;cases o.dst<;>simpa [Act.put] using this
 ·have:=h.size;cases o.dst<;>simpa [Act.put] using this
 ·intro i
  simp only [T_put]
  rw [getD_put a o.dst v i (by rw [h.size];exact hd)]
  by_cases e:o.dst=some i
  ·simp only [e,if_true];exact hrepv
  ·simp only [if_neg e];exact h.slots i
 ·intro i
  split
  ·exact hnx
  ·exact h.sn i
 ·intro i k hk
  by_cases e:o.dst=some i
  ·simp only [e,if_true] at hk
   simp only [own',if_pos hk,e]
  ·rw [if_neg e] at hk
   have:=h.so i k hk
   rw [hnot k (by rw [this];simp)];exact this
 ·intro q cs hO
  simp only [O] at hO
  by_cases e:b=q
  ·subst e
   rw [if_pos rfl] at hO;cases hO
   simp only [if_true]
   refine ⟨by rw [hnot b (by rw [hkey];simp)];exact hkey,?_,fun k hk=>?_,c,Ty,vals,rest,hc,hcl,hhole⟩
   ·rw [List.nodup_append]
    exact ⟨hn1',hn4,fun a ha b hb=>hn3' a ha b (by simp [hb])⟩
   ·have hk':k∈fs b:=by rw [hfs];rcases List.mem_append.1 hk with h|h<;>simp [h]
    have:k ∉ fx:=fun hm=>by
     rcases List.mem_append.1 hk with h|h
     ·exact hn3' k h k (by simp [hm]) rfl
     ·exact hn5 k hm k h rfl
    simp only [own',if_neg this];exact hfso k hk'
  ·rw [if_neg e] at hO
   have e':¬ q=b:=fun h=>e h.symm
   obtain ⟨g1,g2,g3,g4⟩:=h.obj q cs hO
   simp only [if_neg e']
   exact ⟨by rw [hnot q (by rw [g1];simp)];exact g1,g2,fun k hk=>by rw [hnot k (by rw [g3 k hk];simpa using e')];exact g3 k hk,g4⟩
theorem opw_extractD{i k:Nat}{l:List AV}{y:AV}(ho:o.op=.extract (.tmp i) k)(hd:dstOK s.n o.dst=true)(hx:T s.t i=.tup l)(hy:l[k]? = some y){K:AS→Prop}
  (hK:K ⟨s.n,put ((i,.tup (l.set k .dead))::s.t) o.dst y,s.o⟩):OpW L P o s K:=by
 intro B F0 w0 a w next Q hden hnext
 obtain ⟨F,own,fp,fs,h⟩:=hden
 have hr:=h.slots i
 rw [hx] at hr
 simp only [Rep] at hr
 obtain ⟨vs,hv,hl⟩:=hr
 obtain ⟨v,f1,fx,f2,hvk,hfp,hrv,hset⟩:=hl.put hy
 have hset':=hset .dead [] (by simp [Rep])
 rw [List.nil_append] at hset'
 have hex:(execOp a.eval o).run P w=.ok (.value v) w:=by
  have hv':a.tmps[i]?.getD undef=.tuple vs.toArray:=by rw [← hv,Array.getD_eq_getD_getElem?]
  simp [execOp,ho,Act.eval,hv',hvk,Instr.extract]
 unfold Oper.wp
 rw [hex]
 refine hnext _ _ _ hK ?_
 have hnd:=h.sn i
 rw [hfp,List.nodup_append] at hnd
 obtain ⟨hn1,hn2,hn3⟩:=hnd
 rw [List.nodup_append] at hn2
 obtain ⟨hnx,hn4,hn5⟩:=hn2
 have h6:∀ k,k∈fx→own k=.slot i:=fun k hk=>h.so i k (by rw [hfp];simp [hk])
 classical
 let own':Nat→Own:=fun k=>if k∈fx then (match o.dst with|some d=>.slot d|none=>.none) else own k
 have hnot:∀ k,own k≠.slot i→own' k=own k:=fun k hk=>by
  have:k ∉ fx:=fun hm=>hk (h6 k hm)
  simp only [own',if_neg this]
 refine ⟨F,own',fun j=>if o.dst=some j then fx else if j=i then f1++f2 else fp j,fs,{ below:=h.below,hB:=h.hB,tb:=h.tb,f0:=h.f0,fl:=?_,ol:=?_,defers:=?_,size:=?_,slots:=?_,sn:=?_,so:=?_,obj:=?_ }⟩
 ·intro k hk
  have e:=h.fl k hk
  exact ⟨by rw [hnot k (by rw [e.1];simp)];exact e.1,e.2⟩
 ·intro k hk
  by_cases n1:k∈fx
  ·exact h.ol k (by rw [h6 k n1];simp)
  ·simp only [own',if_neg n1] at hk;exact h.ol k hk
 ·have:=h.defers;cases o.dst<;>simpa [Act.put] using this
 ·have:=h.size;cases o.dst<;>simpa [Act.put] using this
 ·intro j
  simp only [T_put,T_cons]
  rw [getD_put a o.dst v j (by rw [h.size];exact hd)]
  by_cases e:o.dst=some j
  ·simp only [e,if_true];exact hrv
  ·simp only [if_neg e]
   by_cases e2:i=j
   ·subst e2
    simp only [if_true,Rep]
    exact ⟨vs,hv,hset'⟩
   ·have e2':¬ j=i:=fun h=>e2 h.symm
    simp only [if_neg e2,if_neg e2'];exact h.slots j
 ·intro j
  split
  ·exact hnx
  ·split
   ·rw [List.nodup_append]
    exact ⟨hn1,hn4,fun a ha b hb=>hn3 a ha b (by simp [hb])⟩
   ·exact h.sn j
 ·intro j q hq
  by_cases e:o.dst=some j
  ·simp only [e,if_true] at hq
   simp only [own',if_pos hq,e]
  ·rw [if_neg e] at hq
   by_cases e2:j=i
   ·subst e2
    rw [if_pos rfl] at hq
    have hq':q∈fp j:=by rw [hfp];rcases List.mem_append.1 hq with h|h<;>simp [h]
    have:q ∉ fx:=fun hm=>by
     rcases List.mem_append.1 hq with h|h
     ·exact hn3 q h q (by simp [hm]) rfl
     ·exact hn5 q hm q h rfl
    simp only [own',if_neg this];exact h.so j q hq'
   ·rw [if_neg e2] at hq
    have:=h.so j q hq
    rw [hnot q (by rw [this];simpa using e2)];exact this
 ·intro q cs hO
  obtain ⟨g1,g2,g3,g4⟩:=h.obj q cs hO
  exact ⟨by rw [hnot q (by rw [g1];simp)];exact g1,g2,fun k hk=>by rw [hnot k (by rw [g3 k hk];simp)];exact g3 k hk,g4⟩
end
end Go.Ab
namespace Go.Ab
open Go.RowKit (Below)
section
variable {L : Nat → Nat} {P : Program} {s : AS} {o : Oper}
theorem opw_append_nil0{c:Call}{x y:Operand}{t u e:TypeId}{sz bytes:Nat}(ho:o.op=.call c)(hc:c=⟨.builtin .append,#[x,y],#[t,u]⟩)
  (hd:dstOK s.n o.dst=true) (hx:ev s.t x=.v (.slice none 0 0)) (ht:elm P t=some (e,sz,bytes))
  (hu:(∃ e',P.underlying u=some (.slice e'))∨P.underlying u=some .string) (hsrc:srcA s.o sz (ev s.t y)=some (0,[])) {K:AS→Prop}
  (hK:K ⟨s.n,put (killL s.t (kills s.t [y])) o.dst (.sl true sz []),s.o⟩):OpW L P o s K:=by
 subst hc
 obtain ⟨inf,hut,hinf,rfl,rfl⟩:=elm_inv ht
 refine LOp.opW (x:=.sl true inf.size []) (C:=kills s.t [y]) ?_ hd hK
 refine LOp.of_run fun B F0 w0 F own fp fs a w h=>?_
 have hv:=h.val hx
 obtain ⟨news,f,hS,hnl,hnr,hfn,hfk⟩:=src_of h hsrc hu
 have:news=[]:=by simp only [RepL] at hnr;exact hnr.1
 subst this
 have hrun:=app_nil0 (tyr:=o.type) hut hinf hS
 refine ⟨.slice none 0 0,[],?_,by simp [Rep],by simp,by simp⟩
 simp only [execOp,ho,resolve,invoke,builtin,Sem.run_bind,Sem.run_pure,Result.andThen_ok,List.map_toArray,List.map_cons,List.map_nil,hv,hrun]
theorem kills_cons_ne{t:List (Nat×AV)}{i:Nat}{x:AV}{y:Operand}(h:y≠.tmp i):kills ((i,x)::t) [y]=kills t [y]:=by
 cases y with
 | tmp j =>
  have hne:¬ i=j:=fun e=>h (by rw [e])
  simp only [kills,T_cons,if_neg hne]
 | _=>rfl
theorem ev_cons_ne{t:List (Nat×AV)}{i:Nat}{x:AV}{y:Operand}(h:y≠.tmp i):ev ((i,x)::t) y=ev t y:=by
 cases y with
 | tmp j =>
  have hne:¬ i=j:=fun e=>h (by rw [e])
  simp only [ev,T_cons,if_neg hne]
 | _=>rfl
theorem opw_append_own{c:Call}{i:Nat}{y:Operand}{t u e:TypeId}{sz bytes:Nat}{l l':List AV}{zs:List Value}(ho:o.op=.call c)(hc:c=⟨.builtin .append,#[.tmp i,y],#[t,u]⟩)
  (hd:dstOK s.n o.dst=true) (hx:T s.t i=.sl true sz l) (hxy:y≠.tmp i) (ht:elm P t=some (e,sz,bytes)) (hz:zer P e=some zs) (hzl:zs.length=sz)
  (hu:(∃ e',P.underlying u=some (.slice e'))∨P.underlying u=some .string) (hsrc:srcE sz (ev s.t y)=some l') (hel:∀ z,z∈l→z.elem sz=true) (hel':∀ z,z∈l'→z.elem sz=true) (hone:(l'.flatMap AV.cells).all AV.one=true)
  (hL:l.length+l'.length≤L sz) (hby:(l.length+l'.length) * bytes≤140737488355328) (h63:l.length+l'.length≤9223372036854775807) {K:AS→Prop}
  (hK:K ⟨s.n,put (killL s.t (kills s.t [.tmp i,y])) o.dst (.sl true sz (l++l')),s.o⟩):OpW L P o s K:=by
 obtain ⟨n,tt,os⟩:=s
 simp only at *
 have hi:i∈kills tt [.tmp i,y]:=mem_kills_iff.2 ⟨by simp,by rw [hx];rfl⟩
 have hsub:∀ j,j∈kills tt [y]→j∈kills tt [.tmp i,y]:=fun j hj=>by
  have:=mem_kills_iff.1 hj
  exact mem_kills_iff.2 ⟨by simp at this;simp [this.1],this.2⟩
 have hsub':∀ j,j≠i→j∈kills tt [.tmp i,y]→j∈kills tt [y]:=fun j hj h=>by
  have:=mem_kills_iff.1 h
  refine mem_kills_iff.2 ⟨?_,this.2⟩
  have h1:=this.1
  simp only [List.mem_cons,Operand.tmp.injEq,List.not_mem_nil,or_false] at h1 ⊢
  exact h1.resolve_left hj
 have hsA:∀ os',srcA os' sz (ev tt y)=some (l'.length,l'.flatMap AV.cells):=fun os'=>srcE_srcA hsrc hel'
 have hTT:∀ (z:AV) (d:Option Nat) (r:AV) (j:Nat),T (put (killL tt (kills tt [.tmp i,y])) d r) j=T (put (killL ((i,z)::tt) (kills tt [y])) d r) j∨T (put (killL tt (kills tt [.tmp i,y])) d r) j=.dead:=by
  intro z d r j
  simp only [T_put,T_kill,T_cons]
  by_cases e1:d=some j
  ·simp [e1]
  ·simp only [if_neg e1]
   by_cases e2:j=i
   ·subst e2;simp [hi]
   ·have e2':¬ i=j:=fun h=>e2 h.symm
    by_cases e3:j∈kills tt [.tmp i,y]
    ·simp [e3]
    ·have:j ∉ kills tt [y]:=fun h=>e3 (hsub j h)
     simp [e3,this,e2']
 have hfl:l.flatMap AV.cells++l'.flatMap AV.cells=(l++l').flatMap AV.cells:=by simp
 have hall:∀ z,z∈l++l'→z.elem sz=true:=fun z hz=>by
  rcases List.mem_append.1 hz with h|h
  ·exact hel z h
  ·exact hel' z h
 have hlen:=flat_elem_len hel
 have hlen2:=flat_elem_len hall
 have back:∀ (z:AV) (b':Nat) (o1:Sto),(∀ q cs,O os q=some cs→O o1 q=some cs∧q≠b') →
   Imp L ⟨n,put (killL ((i,z)::tt) (kills tt [y])) o.dst (.arr b' 0 (l.length+l'.length) sz),(b',some ((l++l').flatMap AV.cells))::o1⟩ K:=by
  intro z b' o1 ho1
  cases hdst:o.dst with
  | none =>
   rw [hdst] at hK
   refine Imp.weak hK (fun j=>?_) ?_
   ·have:=hTT z none (.sl true sz (l++l')) j
    simpa [put] using this
   ·intro q cs hq
    have:=ho1 q cs hq
    simp only [O,if_neg (fun e=>this.2 e.symm:¬ b'=q)];exact this.1
  | some d =>
   rw [hdst] at hK
   refine Imp.bind (Q:=fun s'=>s'=⟨n,(d,.sl true sz (l++l'))::put (killL ((i,z)::tt) (kills tt [y])) (some d) (.arr b' 0 (l.length+l'.length) sz),(b',none)::(b',some ((l++l').flatMap AV.cells))::o1⟩) (Imp.fold d (b:=b') (len:=l.length+l'.length) (sz:=sz) (cells:=(l++l').flatMap AV.cells) (l:=l++l') (by simp [put,T]) (by simp [O]) (by simp) ?_ hall rfl) ?_
   ·rw [List.take_of_length_le];rw [hlen2];simp
   ·rintro _ rfl
    refine Imp.weak hK (fun j=>?_) ?_
    ·have:=hTT z (some d) (.sl true sz (l++l')) j
     simp only [put,T_cons] at this ⊢
     by_cases e:d=j
     ·simp [e]
     ·simpa [e] using this
    ·intro q cs hq
     have:=ho1 q cs hq
     have hne:¬ b'=q:=fun e=>this.2 e.symm
     simp only [O,if_neg hne];exact this.1
 refine OpW.imp (Imp.unfold2 i hx hel ?_ ?_)
 ·intro b hfr
  refine OpW.post (opw_append_arr (b:=b) (len:=l.length) (cells:=l.flatMap AV.cells) (n:=l'.length) (ncells:=l'.flatMap AV.cells) (s:=⟨n,(i,.arr b 0 l.length sz)::tt,(b,some (l.flatMap AV.cells))::os⟩) ho hc hd (by simp [ev,T]) (by simp [O]) hlen ht hz hzl hu (by simp only [ev_cons_ne hxy];exact hsA _) hone hL hby h63 fun b' hb'=>?_)
  simp only [kills_cons_ne hxy,hfl]
  refine back _ b' _ fun q cs hq=>?_
  have hqb:q≠b:=hfr q cs hq
  have hqb':¬ b=q:=fun e=>hqb e.symm
  have h1:O (dropO ((b,some (l.flatMap AV.cells))::os) [b]) q=some cs:=by
   rw [O_drop,if_neg (by simpa using hqb)]
   simp only [O,if_neg hqb'];exact hq
  exact ⟨h1,hb' q cs h1⟩
 ·intro e0
  subst e0
  by_cases h0:l'=[]
  ·subst h0
   refine OpW.post (opw_append_nil0 (s:=⟨n,(i,.v (.slice none 0 0))::tt,os⟩) ho hc hd (by simp [ev,T]) ht hu (by simp only [ev_cons_ne hxy];exact hsA _) ?_)
   simp only [kills_cons_ne hxy]
   exact Imp.weak hK (hTT _ _ _) (fun _ _ h=>h)
  ·have hpos:0<l'.length:=List.length_pos_iff.2 h0
   refine OpW.post (opw_append_nil (s:=⟨n,(i,.v (.slice none 0 0))::tt,os⟩) ho hc hd (by simp [ev,T]) ht hz hzl hu (by simp only [ev_cons_ne hxy];exact hsA _) hpos (by simpa using hL) (by simpa using hby) (by simpa using h63) fun b' hb'=>?_)
   simp only [kills_cons_ne hxy]
   have:=back (.v (.slice none 0 0)) b' os fun q cs hq=>⟨hq,hb' q cs hq⟩
   simpa using this
end
theorem GenC.of_pure{L:Nat→Nat}{P:Program}{f:FuncId}{args:List AV}{res:AV}(h:PureC L P f args res):GenC L P f [] args (fun r os'=>r=res∧os'=[]):=by
 intro B F own fs w vs hS hr
 refine (h w F vs (fun b hb=>(hS.fl b hb).2.1) (hS.tb.kp hS.below hS.hB) hr).mono ?_
 rintro e w' ⟨v,F',fp,rfl,h1,h2,h3,h4,h5,h6⟩
 classical
 let own':Nat→Own:=fun b=>if b∈fp then .slot 0 else own b
 have hsz:=h1.size
 refine ⟨v,res,[],F',own',fs,fp,rfl,⟨rfl,rfl⟩,{ below:=Kp.of_ext h1 (Ext.of_below h1) hS.hB,hB:=fun b hb=>Nat.lt_of_lt_of_le (hS.hB b hb) hsz,tb:=hS.tb,f0:=h2,fl:=?_,ol:=?_,obj:=by simp [O] },h4,h5,fun b hb=>by simp only [own',if_pos hb]⟩
 ·intro b hb
  have hnx:b ∉ fp:=fun hm=>(h6 b hm).1 hb
  simp only [own',if_neg hnx]
  rcases h3 b hb with e|e
  ·have:=hS.fl b e;exact ⟨this.1,by omega,.inl e⟩
  ·refine ⟨?_,e.2,.inr fun hB=>by have:=hS.hB b hB;omega⟩
   rcases Classical.em (own b=.none) with e'|e'
   ·exact e'
   ·have:=(hS.ol b e').2;omega
 ·intro b hb
  by_cases e:b∈fp
  ·have:=h6 b e;exact ⟨fun hB=>by have:=hS.hB b hB;omega,this.2.2⟩
  ·simp only [own',if_neg e] at hb
   have:=hS.ol b hb;exact ⟨this.1,by omega⟩
end Go.Ab
namespace Go.Ab
open Go.RowKit (Below)
def InC(L:Nat→Nat)(P:Program)(f:FuncId)(g:Bool)(x x' rest:List AV)(res:AV):Prop :=
 x'.length=x.length∧(g=false→x.length=1) ∧
 ∀ (B F:Nat→Prop) (own:Nat→Own) (w:World) (vs rs:List Value) (fp:List Nat),
  StoAt L B F w F own (fun _=>[]) [] w→RepL L F w x vs fp→fp.Nodup→(∀ b,b∈fp→own b=.slot 0)→RepL L F w rest rs [] →
  Calls P f (mkv g vs::rs).toArray w fun e w'=>∃ v F' own' fp',e=.returned v∧StoAt L B F w F' own' (fun _=>[]) [] w'∧Rep L F' w' res v []∧RepL L F' w' x' vs fp'∧fp'.Nodup∧(∀ b,b∈fp'→own' b=.slot 0)
section
variable {L : Nat → Nat} {P : Program} {f : FuncId} {g : Bool} {x x' rest : List AV} {res : AV}
theorem inp_core(hC:InC L P f g x x' rest res){B F0:Nat→Prop}{w0:World}{F:Nat→Prop}{own:Nat→Own}{fp fs:Nat→List Nat}{s:AS}{a:Act}{w:World}(h:DenAt L B F0 w0 F own fp fs s a w)
  {o1:Own} {fx:List Nat} {vs rs:List Value} (hx:RepL L F w x vs fx) (hn:fx.Nodup) (ho:∀ b,b∈fx→own b=o1) (h1:o1≠.none) (hr:RepL L F w rest rs []) :
  Calls P f (mkv g vs::rs).toArray w fun e w'=>∃ (v:Value) (F':Nat→Prop) (own':Nat→Own) (fx':List Nat),e=.returned v∧Kp (fun b=>b<w.heap.size∧b ∉ fx) w w'∧(∀ b,F b→F' b)∧(∀ b,F' b→own' b=.none∧b<w'.heap.size∧(F0 b∨¬ B b)) ∧
   (∀ b,own' b≠.none→¬ B b∧b<w'.heap.size)∧(∀ b,b ∉ fx→own b≠.none→own' b=own b)∧Rep L F' w' res v []∧RepL L F' w' x' vs fx'∧fx'.Nodup∧(∀ b,b∈fx'→own' b=o1∧¬ (b<w.heap.size∧b ∉ fx)):=by
 classical
 let U:Nat→Prop:=fun b=>b<w.heap.size∧b ∉ fx
 let own1:Nat→Own:=fun b=>if b∈fx then .slot 0 else .none
 have hfxne:∀ b,b∈fx→own b≠.none:=fun b hb=>by rw [ho b hb];exact h1
 have hUB:∀ b,B b→U b:=fun b hb=>⟨h.hB b hb,fun hm=>(h.ol b (hfxne b hm)).1 hb⟩
 have hS:StoAt L U F w F own1 (fun _=>[]) [] w:=by
  refine { below:=Kp.refl _ _,hB:=fun b hb=>hb.1,tb:=h.tb.kp h.below hUB,f0:=fun _ h=>h,fl:=fun b hb=>⟨?_,(h.fl b hb).2.1,.inl hb⟩,ol:=fun b hb=>?_,obj:=by simp [O] }
  ·have:b ∉ fx:=fun hm=>hfxne b hm (h.fl b hb).1
   simp only [own1,if_neg this]
  ·by_cases e:b∈fx
   ·exact ⟨fun hu=>hu.2 e,(h.ol b (hfxne b e)).2⟩
   ·simp only [own1,if_neg e] at hb;exact absurd rfl hb
 refine (hC.2.2 U F own1 w vs rs fx hS hx hn (fun b hb=>by simp only [own1,if_pos hb]) hr).mono ?_
 rintro e w' ⟨v,F',own2,fx',rfl,h5,h6,h7,h8,h9⟩
 have hsz:=h5.below.size
 let own':Nat→Own:=fun b=>if U b then own b else if b∈fx' then o1 else .none
 have hnU:∀ b,b∈fx'→¬ U b:=fun b hb=>(h5.ol b (by rw [h9 b hb];simp)).1
 refine ⟨v,F',own',fx',rfl,h5.below,h5.f0,fun b hb=>?_,fun b hb=>?_,fun b hb1 hb2=>?_,h6,h7,h8,fun b hb=>⟨?_,hnU b hb⟩⟩
 ·have g0:=h5.fl b hb
  by_cases hu:U b
  ·have hF:F b:=g0.2.2.resolve_right fun e=>e hu
   exact ⟨by simp only [own',if_pos hu];exact (h.fl b hF).1,g0.2.1,(h.fl b hF).2.2⟩
  ·have:b ∉ fx':=fun hm=>by have:=h9 b hm;rw [g0.1] at this;cases this
   exact ⟨by simp only [own',if_neg hu,if_neg this],g0.2.1,.inr fun hB=>hu (hUB b hB)⟩
 ·by_cases hu:U b
  ·simp only [own',if_pos hu] at hb
   have:=h.ol b hb
   exact ⟨this.1,by omega⟩
  ·by_cases hm:b∈fx'
   ·have:=h5.ol b (by rw [h9 b hm];simp)
    exact ⟨fun hB=>hu (hUB b hB),this.2⟩
   ·simp only [own',if_neg hu,if_neg hm] at hb;exact absurd rfl hb
 ·have:U b:=⟨(h.ol b hb2).2,hb1⟩
  simp only [own',if_pos this]
 ·simp only [own',if_neg (hnU b hb),if_pos hb]
theorem call_exec{s:AS}{o:Oper}{y:Operand}{xs:Array Operand}{ts:Array TypeId}{caps:List AV}{B F0:Nat→Prop}{w0:World}{F:Nat→Prop}{own:Nat→Own}{fp fs:Nat→List Nat}{a:Act}{w:World}(h:DenAt L B F0 w0 F own fp fs s a w)
  (ho:o.op=.call ⟨.value y,xs,ts⟩) (hy:fnA (ev s.t y)=some (f,caps)) (hcn:AV.nownL caps=true) (he:enters P f=true) :
  ∃ cvs:List Value,RepL L F w caps cvs []∧(execOp a.eval o).run P w=.ok (.enter f (xs.toList.map a.eval++cvs).toArray) w:=by
 have hry:=h.ev y
 obtain ⟨cvs,hyv,hcr⟩:∃ cvs:List Value,a.eval y=.func (.func f) #[] cvs.toArray∧RepL L F w caps cvs []:=by
  generalize ev s.t y=z at hy hry
  unfold fnA at hy
  split at hy
  ·cases hy
   simp only [Rep] at hry
   obtain ⟨vs,e,hl⟩:=hry
   rw [RepL.fp_nil hcn hl] at hl
   exact ⟨vs,e,hl⟩
  ·split at hy
   ·rename_i first cap hsz
    cases hy
    simp only [Rep] at hry
    have e1:first=#[]:=Array.eq_empty_of_size_eq_zero hsz.1
    have e2:cap=#[]:=Array.eq_empty_of_size_eq_zero hsz.2
    exact ⟨[],by rw [hry.1,e1,e2],by simp [RepL]⟩
   ·cases hy
  ·cases hy
 refine ⟨cvs,hcr,?_⟩
 have:=enters_run he (xs.toList.map a.eval++cvs).toArray w
 have e:xs.map a.eval++cvs.toArray=(xs.toList.map a.eval++cvs).toArray:=by apply Array.ext';simp
 rw [← e] at this ⊢
 simp only [execOp,ho,resolve,Sem.run_bind,hyv,Deferred.ofValue,Sem.run_pure,Result.andThen_ok,invoke,Array.empty_append]
 exact this
theorem den_slot{B F0:Nat→Prop}{w0:World}{F:Nat→Prop}{own:Nat→Own}{fp fs:Nat→List Nat}{n:Nat}{t:List (Nat×AV)}{os:Sto}{a:Act}{w:World}(h:DenAt L B F0 w0 F own fp fs ⟨n,t,os⟩ a w)
  {i:Nat} {f1 fx f3 fx':List Nat} (hfp:fp i=f1++(fx++f3)) {w':World} {F':Nat→Prop} {own':Nat→Own} (hk:Kp (fun b=>b<w.heap.size∧b ∉ fx) w w') (hF:∀ b,F b→F' b) (hfl:∀ b,F' b→own' b=.none∧b<w'.heap.size∧(F0 b∨¬ B b))
  (hol:∀ b,own' b≠.none→¬ B b∧b<w'.heap.size) (hsame:∀ b,b ∉ fx→own b≠.none→own' b=own b) (hn':fx'.Nodup) (ho':∀ b,b∈fx'→own' b=.slot i∧¬ (b<w.heap.size∧b ∉ fx))
  {z res:AV} {v:Value} {d:Option Nat} (hd:dstOK n d=true) (hz:Rep L F' w' z (a.tmps.getD i undef) (f1++(fx'++f3))) (hres:Rep L F' w' res v []):Den L B F0 w0 ⟨n,put ((i,z)::t) d res,os⟩ (a.put d v) w':=by
 have hsz:=hk.size
 have hext:Ext (fun b=>b<w.heap.size∧b ∉ fx) w w':=⟨hk.size,hk.block,hk.shape⟩
 have hfxi:∀ b,b∈fx→own b=.slot i:=fun b hb=>h.so i b (by rw [hfp];simp [hb])
 have hFS:∀ b,F b→F' b∧(b<w.heap.size∧b ∉ fx):=fun b hb=>⟨hF b hb,(h.fl b hb).2.1,fun hm=>by have:=hfxi b hm;rw [(h.fl b hb).1] at this;cases this⟩
 have hB:∀ b,B b→b<w.heap.size∧b ∉ fx:=fun b hb=>⟨h.hB b hb,fun hm=>(h.ol b (by rw [hfxi b hm];simp)).1 hb⟩
 have hnd:=h.sn i
 rw [hfp,List.nodup_append] at hnd
 obtain ⟨hn1,hn2,hn3⟩:=hnd
 rw [List.nodup_append] at hn2
 obtain ⟨hnx,hn4,hn5⟩:=hn2
 have hin:∀ b,b∈f1∨b∈f3→own b=.slot i∧b ∉ fx:=fun b hb=>by
  rcases hb with hb|hb
  ·exact ⟨h.so i b (by rw [hfp];simp [hb]),fun hm=>hn3 b hb b (by simp [hm]) rfl⟩
  ·exact ⟨h.so i b (by rw [hfp];simp [hb]),fun hm=>hn5 b hm b hb rfl⟩
 have hdis:∀ b,b∈f1∨b∈f3→b ∉ fx':=fun b hb hm=>(ho' b hm).2 ⟨(h.ol b (by rw [(hin b hb).1];simp)).2,(hin b hb).2⟩
 refine ⟨F',own',fun j=>if d=some j then [] else if j=i then f1++(fx'++f3) else fp j,fs,{ below:=h.below.trans (hk.mono hB),hB:=fun b hb=>Nat.lt_of_lt_of_le (h.hB b hb) hsz,tb:=h.tb,f0:=fun b hb=>hF b (h.f0 b hb),fl:=hfl,ol:=hol,defers:=?_,size:=?_,slots:=?_,sn:=?_,so:=?_,obj:=?_ }⟩
 ·have:=h.defers;cases d<;>simpa [Act.put] using this
 ·have:=h.size;cases d<;>simpa [Act.put] using this
 ·intro j
  simp only [T_put,T_cons]
  rw [getD_put a d v j (by rw [h.size];exact hd)]
  by_cases e:d=some j
  ·simp only [e,if_true];exact hres
  ·simp only [if_neg e]
   by_cases e2:i=j
   ·subst e2;simp only [if_true];exact hz
   ·have e2':¬ j=i:=fun h=>e2 h.symm
    simp only [if_neg e2,if_neg e2']
    refine Rep.ext hext hFS (fun b hb=>⟨(h.fp_lt hb).2,fun hm=>?_⟩) (h.slots j)
    have e3:=hfxi b hm
    rw [h.so j b hb] at e3
    cases e3;exact e2 rfl
 ·intro j
  split
  ·simp
  ·split
   ·rw [List.nodup_append]
    refine ⟨hn1,?_,fun b hb b' hb' e=>?_⟩
    ·rw [List.nodup_append]
     exact ⟨hn',hn4,fun b hb b' hb' e=>hdis b' (.inr hb') (e ▸ hb)⟩
    ·subst e
     rcases List.mem_append.1 hb' with hb'|hb'
     ·exact hdis b (.inl hb) hb'
     ·exact hn3 b hb b (by simp [hb']) rfl
   ·exact h.sn j
 ·intro j b hb
  by_cases e:d=some j
  ·rw [if_pos e] at hb;simp at hb
  ·rw [if_neg e] at hb
   by_cases e2:j=i
   ·subst e2
    rw [if_pos rfl] at hb
    rcases List.mem_append.1 hb with hb|hb
    ·rw [hsame b (hin b (.inl hb)).2 (by rw [(hin b (.inl hb)).1];simp)];exact (hin b (.inl hb)).1
    ·rcases List.mem_append.1 hb with hb|hb
     ·exact (ho' b hb).1
     ·rw [hsame b (hin b (.inr hb)).2 (by rw [(hin b (.inr hb)).1];simp)];exact (hin b (.inr hb)).1
   ·rw [if_neg e2] at hb
    have hj:=h.so j b hb
    have:b ∉ fx:=fun hm=>by have:=hfxi b hm;rw [hj] at this;cases this;exact e2 rfl
    rw [hsame b this (by rw [hj];simp)];exact hj
 ·intro b cells hO
  obtain ⟨g1,g2,g3,c,Ty,vals,rest,g4,g5,g6⟩:=h.obj b cells hO
  have hb:b ∉ fx:=fun hm=>by have:=hfxi b hm;rw [g1] at this;cases this
  have hkk:∀ k,k∈fs b→k ∉ fx:=fun k hk hm=>by have:=hfxi k hm;rw [g3 k hk] at this;cases this
  refine ⟨by rw [hsame b hb (by rw [g1];simp)];exact g1,g2,fun k hk=>by rw [hsame k (hkk k hk) (by rw [g3 k hk];simp)];exact g3 k hk,c,Ty,vals,rest,?_,g5,?_⟩
  ·rw [hk.block b ⟨(h.ol b (by rw [g1];simp)).2,hb⟩];exact g4
  ·exact RepL.ext hext hFS (fun k hk=>⟨(h.ol k (by rw [g3 k hk];simp)).2,hkk k hk⟩) g6
section
variable {o : Oper} {n : Nat} {t : List (Nat × AV)} {os : Sto} {y a0 : Operand} {xs : List Operand} {ts : Array TypeId} {caps : List AV} {K : AS → Prop}
theorem opw_inD{i:Nat}(ho:o.op=.call ⟨.value y,(.tmp i::xs).toArray,ts⟩)(hd:dstOK n o.dst=true)(hy:fnA (ev t y)=some (f,caps))(hcn:AV.nownL caps=true)(he:enters P f=true)
  (hT:T t i=argv g x) (hn:AV.nownL (xs.map (ev t))=true) (hC:InC L P f g x x' (xs.map (ev t)++caps) res) (hK:K ⟨n,put ((i,argv g x')::t) o.dst res,os⟩):OpW L P o ⟨n,t,os⟩ K:=by
 intro B F0 w0 a w next Q hden hnext
 obtain ⟨F,own,fp,fs,h⟩:=hden
 obtain ⟨cvs,hcr,hex⟩:=call_exec (P:=P) (s:=⟨n,t,os⟩) h ho hy hcn he
 have hrest:=RepL.join (RepL.of_evs h xs hn) hcr
 rw [List.append_nil] at hrest
 have hr:=h.slots i
 simp only at hr
 rw [hT] at hr
 obtain ⟨vs,hvs,hv⟩:=rep_argv hC.2.1 hr
 unfold Oper.wp
 rw [hex]
 simp only [List.toList_toArray,List.map_cons,List.cons_append]
 have e0:a.eval (.tmp i)=mkv g vs:=hv
 rw [e0]
 refine (inp_core hC h hvs (h.sn i) (fun b hb=>h.so i b hb) (by simp) hrest).mono ?_
 rintro e w' ⟨v,F',own',fx',rfl,h1,h2,h3,h4,h5,h6,h7,h8,h9⟩
 refine hnext _ _ _ hK ?_
 refine den_slot h (i:=i) (f1:=[]) (f3:=[]) (fx:=fp i) (fx':=fx') (by simp) h1 h2 h3 h4 h5 h8 h9 hd ?_ h6
 rw [hv]
 simp only [List.nil_append,List.append_nil]
 exact argv_rep (fun e=>by rw [hC.1];exact hC.2.1 e) h7
theorem opw_inS{i:Nat}{pre px post:List AV}(ho:o.op=.call ⟨.value y,(a0::xs).toArray,ts⟩)(hd:dstOK n o.dst=true)(hy:fnA (ev t y)=some (f,caps))(hcn:AV.nownL caps=true)(he:enters P f=true)
  (hT:T t i=.agg (pre++(px++post))) (ha:ev t a0=argv g (hdrL px)) (hdt:detL (hdrL px)=true) (hn:AV.nownL (xs.map (ev t))=true) (hC:InC L P f g (unpL px) x' (xs.map (ev t)++caps) res)
  (hK:K ⟨n,put ((i,.agg (pre++(repinL px x'++post)))::t) o.dst res,os⟩):OpW L P o ⟨n,t,os⟩ K:=by
 intro B F0 w0 a w next Q hden hnext
 obtain ⟨F,own,fp,fs,h⟩:=hden
 obtain ⟨cvs,hcr,hex⟩:=call_exec (P:=P) (s:=⟨n,t,os⟩) h ho hy hcn he
 have hrest:=RepL.join (RepL.of_evs h xs hn) hcr
 rw [List.append_nil] at hrest
 have hr:=h.slots i
 simp only at hr
 rw [hT] at hr
 simp only [Rep] at hr
 obtain ⟨vall,hval,hl⟩:=hr
 obtain ⟨v1,v23,f1,f23,rfl,hfp,r1,r23⟩:=hl.split
 obtain ⟨vs,v3,fx,f3,rfl,rfl,r2,r3⟩:=r23.split
 have hlen:g=false→(hdrL px).length=1:=fun e=>by rw [hdrL_length,← unpL_length];exact hC.2.1 e
 have hra:=h.ev a0
 simp only at hra
 rw [ha] at hra
 obtain ⟨vs',hvs',hv'⟩:=rep_argv hlen hra
 have e0:vs'=vs:=RepL.det1 hdt r2 hvs'
 subst e0
 unfold Oper.wp
 rw [hex]
 simp only [List.toList_toArray,List.map_cons,List.cons_append]
 rw [hv']
 have hnd:=h.sn i
 rw [hfp,List.nodup_append] at hnd
 have hnx:=(List.nodup_append.1 hnd.2.1).1
 refine (inp_core hC h r2.unp hnx (fun b hb=>h.so i b (by rw [hfp];simp [hb])) (by simp) hrest).mono ?_
 rintro e w' ⟨v,F',own',fx',rfl,h1,h2,h3,h4,h5,h6,h7,h8,h9⟩
 refine hnext _ _ _ hK ?_
 refine den_slot h (i:=i) (f1:=f1) (f3:=f3) (fx:=fx) (fx':=fx') hfp h1 h2 h3 h4 h5 h8 h9 hd ?_ h6
 have hext:Ext (fun b=>b<w.heap.size∧b ∉ fx) w w':=⟨h1.size,h1.block,h1.shape⟩
 have hfxi:∀ b,b∈fx→own b=.slot i:=fun b hb=>h.so i b (by rw [hfp];simp [hb])
 have hFS:∀ b,F b→F' b∧(b<w.heap.size∧b ∉ fx):=fun b hb=>⟨h2 b hb,(h.fl b hb).2.1,fun hm=>by have:=hfxi b hm;rw [(h.fl b hb).1] at this;cases this⟩
 rw [hval]
 simp only [Rep]
 refine ⟨_,rfl,?_⟩
 refine RepL.join (RepL.ext hext hFS (fun b hb=>?_) r1) (RepL.join (RepL.repin r2 h7) (RepL.ext hext hFS (fun b hb=>?_) r3))
 ·exact ⟨(h.ol b (by rw [h.so i b (by rw [hfp];simp [hb])];simp)).2,fun hm=>hnd.2.2 b hb b (by simp [hm]) rfl⟩
 ·exact ⟨(h.ol b (by rw [h.so i b (by rw [hfp];simp [hb])];simp)).2,fun hm=>(List.nodup_append.1 hnd.2.1).2.2 b hm b hb rfl⟩
theorem opw_inO{b0:Nat}{pre px post:List AV}(ho:o.op=.call ⟨.value y,(a0::xs).toArray,ts⟩)(hd:dstOK n o.dst=true)(hy:fnA (ev t y)=some (f,caps))(hcn:AV.nownL caps=true)(he:enters P f=true)
  (hO:O os b0=some (pre++(px++post))) (ha:ev t a0=argv g (hdrL px)) (hdt:detL (hdrL px)=true) (hn:AV.nownL (xs.map (ev t))=true) (hC:InC L P f g (unpL px) x' (xs.map (ev t)++caps) res)
  (hK:K ⟨n,put t o.dst res,(b0,some (pre++(repinL px x'++post)))::os⟩):OpW L P o ⟨n,t,os⟩ K:=by
 intro B F0 w0 a w next Q hden hnext
 obtain ⟨F,own,fp,fs,h⟩:=hden
 obtain ⟨cvs,hcr,hex⟩:=call_exec (P:=P) (s:=⟨n,t,os⟩) h ho hy hcn he
 have hrest:=RepL.join (RepL.of_evs h xs hn) hcr
 rw [List.append_nil] at hrest
 obtain ⟨hkey,hfsn,hfso,c,Ty,vals,rst,hc,hcl,hl⟩:=h.obj b0 _ hO
 obtain ⟨v1,v23,f1,f23,rfl,hfp,r1,r23⟩:=hl.split
 obtain ⟨vs,v3,fx,f3,rfl,rfl,r2,r3⟩:=r23.split
 have hlen:g=false→(hdrL px).length=1:=fun e=>by rw [hdrL_length,← unpL_length];exact hC.2.1 e
 have hra:=h.ev a0
 simp only at hra
 rw [ha] at hra
 obtain ⟨vs',hvs',hv'⟩:=rep_argv hlen hra
 have e0:vs'=vs:=RepL.det1 hdt r2 hvs'
 subst e0
 unfold Oper.wp
 rw [hex]
 simp only [List.toList_toArray,List.map_cons,List.cons_append]
 rw [hv']
 have hnd:=hfsn
 rw [hfp,List.nodup_append] at hnd
 obtain ⟨hn1,hn2,hn3⟩:=hnd
 rw [List.nodup_append] at hn2
 obtain ⟨hnx,hn4,hn5⟩:=hn2
 have hfxi:∀ b,b∈fx→own b=.obj b0:=fun b hb=>hfso b (by rw [hfp];simp [hb])
 refine (inp_core hC h r2.unp hnx hfxi (by simp) hrest).mono ?_
 rintro e w' ⟨v,F',own',fx',rfl,h1,h2,h3,h4,h5,h6,h7,h8,h9⟩
 refine hnext _ _ _ hK ?_
 have hsz:=h1.size
 have hext:Ext (fun b=>b<w.heap.size∧b ∉ fx) w w':=⟨h1.size,h1.block,h1.shape⟩
 have hFS:∀ b,F b→F' b∧(b<w.heap.size∧b ∉ fx):=fun b hb=>⟨h2 b hb,(h.fl b hb).2.1,fun hm=>by have:=hfxi b hm;rw [(h.fl b hb).1] at this;cases this⟩
 have hB:∀ b,B b→b<w.heap.size∧b ∉ fx:=fun b hb=>⟨h.hB b hb,fun hm=>(h.ol b (by rw [hfxi b hm];simp)).1 hb⟩
 have hin:∀ b,b∈f1∨b∈f3→own b=.obj b0∧b ∉ fx:=fun b hb=>by
  rcases hb with hb|hb
  ·exact ⟨hfso b (by rw [hfp];simp [hb]),fun hm=>hn3 b hb b (by simp [hm]) rfl⟩
  ·exact ⟨hfso b (by rw [hfp];simp [hb]),fun hm=>hn5 b hm b hb rfl⟩
 have hdis:∀ b,b∈f1∨b∈f3→b ∉ fx':=fun b hb hm=>(h9 b hm).2 ⟨(h.ol b (by rw [(hin b hb).1];simp)).2,(hin b hb).2⟩
 have hb0:b0 ∉ fx:=fun hm=>by have:=hfxi b0 hm;rw [hkey] at this;cases this
 refine ⟨F',own',fun j=>if o.dst=some j then [] else fp j,fun q=>if q=b0 then f1++(fx'++f3) else fs q,{ below:=h.below.trans (h1.mono hB),hB:=fun b hb=>Nat.lt_of_lt_of_le (h.hB b hb) hsz,tb:=h.tb,f0:=fun b hb=>h2 b (h.f0 b hb),fl:=h3,ol:=h4,defers:=?_,size:=?_,slots:=?_,sn:=?_,so:=?_,obj:=?_ }⟩
 ·have:=h.defers;cases o.dst<;>simpa [Act.put] using this
 ·have:=h.size;cases o.dst<;>simpa [Act.put] using this
 ·intro j
  simp only [T_put]
  rw [getD_put a o.dst v j (by rw [h.size];exact hd)]
  by_cases e:o.dst=some j
  ·simp only [e,if_true];exact h6
  ·simp only [if_neg e]
   refine Rep.ext hext hFS (fun b hb=>⟨(h.fp_lt hb).2,fun hm=>?_⟩) (h.slots j)
   have e3:=hfxi b hm
   rw [h.so j b hb] at e3
   cases e3
 ·intro j
  split
  ·simp
  ·exact h.sn j
 ·intro j b hb
  by_cases e:o.dst=some j
  ·rw [if_pos e] at hb;simp at hb
  ·rw [if_neg e] at hb
   have hj:=h.so j b hb
   have:b ∉ fx:=fun hm=>by have:=hfxi b hm;rw [hj] at this;cases this
   rw [h5 b this (by rw [hj];simp)];exact hj
 ·intro b cells hOb
  simp only [O] at hOb
  by_cases e:b0=b
  ·subst e
   rw [if_pos rfl] at hOb;cases hOb
   simp only [if_true]
   refine ⟨by rw [h5 b0 hb0 (by rw [hkey];simp)];exact hkey,?_,fun k hk=>?_,c,Ty,_,rst,?_,hcl,?_⟩
   ·rw [List.nodup_append]
    refine ⟨hn1,?_,fun b hb b' hb' e=>?_⟩
    ·rw [List.nodup_append]
     exact ⟨h8,hn4,fun b hb b' hb' e=>hdis b' (.inr hb') (e ▸ hb)⟩
    ·subst e
     rcases List.mem_append.1 hb' with hb'|hb'
     ·exact hdis b (.inl hb) hb'
     ·exact hn3 b hb b (by simp [hb']) rfl
   ·rcases List.mem_append.1 hk with hb|hb
    ·rw [h5 k (hin k (.inl hb)).2 (by rw [(hin k (.inl hb)).1];simp)];exact (hin k (.inl hb)).1
    ·rcases List.mem_append.1 hb with hb|hb
     ·exact (h9 k hb).1
     ·rw [h5 k (hin k (.inr hb)).2 (by rw [(hin k (.inr hb)).1];simp)];exact (hin k (.inr hb)).1
   ·rw [h1.block b0 ⟨(h.ol b0 (by rw [hkey];simp)).2,hb0⟩];exact hc
   ·refine RepL.join (RepL.ext hext hFS (fun b hb=>?_) r1) (RepL.join (RepL.repin r2 h7) (RepL.ext hext hFS (fun b hb=>?_) r3))
    ·exact ⟨(h.ol b (by rw [(hin b (.inl hb)).1];simp)).2,(hin b (.inl hb)).2⟩
    ·exact ⟨(h.ol b (by rw [(hin b (.inr hb)).1];simp)).2,(hin b (.inr hb)).2⟩
  ·rw [if_neg e] at hOb
   have e':¬ b=b0:=fun h=>e h.symm
   simp only [if_neg e']
   obtain ⟨g1,g2,g3,c',Ty',vals',rest',g4,g5,g6⟩:=h.obj b cells hOb
   have hb:b ∉ fx:=fun hm=>by have:=hfxi b hm;rw [g1] at this;cases this
   have hkk:∀ k,k∈fs b→k ∉ fx:=fun k hk hm=>by have:=hfxi k hm;rw [g3 k hk] at this;cases this;exact e rfl
   refine ⟨by rw [h5 b hb (by rw [g1];simp)];exact g1,g2,fun k hk=>by rw [h5 k (hkk k hk) (by rw [g3 k hk];simp)];exact g3 k hk,c',Ty',vals',rest',?_,g5,?_⟩
   ·rw [h1.block b ⟨(h.ol b (by rw [g1];simp)).2,hb⟩];exact g4
   ·exact RepL.ext hext hFS (fun k hk=>⟨(h.ol k (by rw [g3 k hk];simp)).2,hkk k hk⟩) g6
end
end
end Go.Ab
namespace Go.Ab
open Go.RowKit (Below)
mutual
def AV.keys:AV→List Nat
 | .arr b _ _ _=>[b]
 | .ptr b _=>[b]
 | .agg l=>AV.keysL l
 | .tup l=>AV.keysL l
 | .fn _ l=>AV.keysL l
 | .cnd _ x=>x.keys
 | _=>[]
def AV.keysL:List AV→List Nat
 | []=>[]
 | x::xs=>x.keys++AV.keysL xs
end
def pickO(os:Sto):List Nat→Sto
 | []=>[]
 | b::bs=>(b,O os b)::pickO os bs
def cellsK:Sto→List Nat
 | []=>[]
 | (_,some cells)::o=>AV.keysL cells++cellsK o
 | (_,none)::o=>cellsK o
def reachO(os:Sto)(args:List AV):Sto:=pickO os (AV.keysL args)++pickO os (cellsK (pickO os (AV.keysL args)))
theorem pickO_append(os:Sto):∀ (a b:List Nat),pickO os (a++b)=pickO os a++pickO os b
 | [],_=>rfl
 | x::a,b=>by simp only [List.cons_append,pickO,pickO_append os a b]
theorem O_pick{os:Sto}{b:Nat}{cells:List AV}:∀ {bs:List Nat},O (pickO os bs) b=some cells→O os b=some cells
 | [],h=>by simp [pickO,O] at h
 | x::bs,h=>by
  simp only [pickO,O] at h
  split at h
  ·rename_i e;subst e;exact h
  ·exact O_pick h
theorem O_reach{os:Sto}{args:List AV}{b:Nat}{cells:List AV}(h:O (reachO os args) b=some cells):O os b=some cells:=by
 rw [reachO,← pickO_append] at h;exact O_pick h
def updO:Sto→Nat→Option (List AV)→Sto
 | [],_,_=>[]
 | p::o,b,c=>if p.1=b then (b,c)::o else p::updO o b c
theorem updO_eq(b:Nat)(c c':Option (List AV))(o:Sto):updO ((b,c')::o) b c=(b,c)::o:=by simp [updO]
theorem updO_ne{b b':Nat}(h:b'≠b)(c c':Option (List AV))(o:Sto):updO ((b',c')::o) b c=(b',c')::updO o b c:=by simp [updO,h]
theorem O_upd:∀ (o:Sto) (b:Nat) (c:Option (List AV)) (q:Nat),O (updO o b c) q=if q=b∧b∈o.map Prod.fst then c else O o q
 | [],b,c,q=>by simp [updO,O]
 | p::o,b,c,q=>by
  simp only [updO]
  by_cases h:p.1=b
  ·rw [if_pos h]
   by_cases e:b=q
   ·subst e;simp [O,h]
   ·have e':¬ q=b:=fun h=>e h.symm
    have:¬ p.1=q:=fun h'=>e (h.symm.trans h')
    simp [O,e,e',this]
  ·rw [if_neg h]
   by_cases e:p.1=q
   ·have:¬ q=b:=fun h'=>h (e.trans h')
    simp [O,e,this]
   ·have h':¬ b=p.1:=fun e=>h e.symm
    simp only [O,if_neg e,O_upd o b c q,List.map_cons,List.mem_cons,h',false_or]
def mergeO:Sto→Sto→Sto
 | o,[]=>o
 | o,p::o'=>updO (mergeO o o') p.1 p.2
theorem upd_keys:∀ (o:Sto) (b:Nat) (c:Option (List AV)),(updO o b c).map Prod.fst=o.map Prod.fst
 | [],_,_=>rfl
 | p::o,b,c=>by
  simp only [updO]
  split
  ·rename_i h;simp [h]
  ·simp [upd_keys o b c]
theorem merge_keys:∀ (o o':Sto),(mergeO o o').map Prod.fst=o.map Prod.fst
 | _,[]=>rfl
 | o,p::o'=>by rw [mergeO,upd_keys,merge_keys o o']
theorem O_merge:∀ (o o':Sto) (q:Nat),O (mergeO o o') q=if q∈o'.map Prod.fst∧q∈o.map Prod.fst then O o' q else O o q
 | o,[],q=>by simp [mergeO]
 | o,p::o',q=>by
  rw [mergeO,O_upd,merge_keys,O_merge o o' q]
  by_cases e:q=p.1
  ·subst e
   by_cases h:p.1∈o.map Prod.fst
   ·simp [h,O]
   ·simp only [h,and_false,if_false]
  ·have e':¬ p.1=q:=fun h=>e h.symm
   simp only [e,false_and,if_false,List.map_cons,List.mem_cons,false_or,O,if_neg e']
def zipK:Sto→List (Option (List AV))→Sto
 | [],_=>[]
 | p::o,[]=>(p.1,none)::zipK o []
 | p::o,c::cs=>(p.1,c)::zipK o cs
theorem zipK_keys:∀ (o:Sto) (cs:List (Option (List AV))),(zipK o cs).map Prod.fst=o.map Prod.fst
 | [],_=>rfl
 | p::o,[]=>by simp [zipK,zipK_keys o []]
 | p::o,c::cs=>by simp [zipK,zipK_keys o cs]
class Ctr(L:Nat→Nat)(P:Program)(f:FuncId)(os:Sto)(args:List AV)(res:outParam AV)(cs:outParam (List (Option (List AV))))(pre:outParam Prop):Prop where
 en:enters P f=true
 out:pre→GenC L P f os args (fun r os'=>r=res∧os'=zipK os cs)
theorem Ctr.of_pure{L:Nat→Nat}{P:Program}{f:FuncId}{args:List AV}{res:AV}{pre:Prop}(he:enters P f=true)(h:pre→PureC L P f args res):Ctr L P f [] args res [] pre :=
 ⟨he,fun hp=>GenC.of_pure (h hp)⟩
theorem Ctr.pure{L:Nat→Nat}{P:Program}{f:FuncId}{args:List AV}{res:AV}{cs:List (Option (List AV))}{pre:Prop}(h:Ctr L P f [] args res cs pre)(hp:pre):PureC L P f args res :=
 PureC.of_gen ((h.out hp).mono fun _ _ h=>h.1)
abbrev lowF:=lowP
theorem lowF_low(os:Sto):∀ l:List AV,LowL os l (lowF l)
 | []=>.nil
 | x::xs=>by
  refine .cons ?_ (lowF_low os xs)
  cases h:x.nown with
  | true=>exact .inl ⟨h,by simp⟩
  | false=>exact .inr (.inr (.inl (by simp)))
def BorC(L:Nat→Nat)(P:Program)(f:FuncId)(sz:Nat)(l rest:List AV)(res:AV)(l':List AV):Prop :=
 (∀ b,GenC L P f [(b,some (l.flatMap AV.cells))] (.arr b 0 l.length sz::rest) (fun r os'=>r=res∧os'=[(b,some (l'.flatMap AV.cells))])) ∧
 (l=[]→PureC L P f (.sl false sz []::rest) res∧l'=[])∧l'.length=l.length∧(∀ x,x∈l→x.elem sz=true)∧(∀ x,x∈l'→x.elem sz=true)
class BCtr(L:Nat→Nat)(P:Program)(f:FuncId)(sz:Nat)(l rest:List AV)(res:outParam AV)(l':outParam (List AV))(pre:outParam Prop):Prop where
 en:enters P f=true
 out:pre→BorC L P f sz l rest res l'
def borOf(t:List (Nat×AV)):List Operand→Option (Nat×Nat×List AV)
 | .tmp i::_=>match T t i with
  | .sl true sz l=>some (i,sz,l)
  | _=>none
 | _=>none
def frzT(t:List (Nat×AV)):List Nat→List (Nat×AV)
 | []=>t
 | j::js=>(j,(T t j).frz)::frzT t js
structure CallX where
 t:List (Nat×AV)
 a0:Option Nat
 k:Nat→AV→AV→Prop
 kf:AV→Prop
 kb:Nat→Nat→List AV→AV→Prop
def nfO:Sto→Nat→Prop
 | [],_=>True
 | (b',some _)::o,b=>b'≠b∧nfO o b
 | (_,none)::_,_=>True
def slot0:List Operand→Option Nat
 | .tmp i::_=>some i
 | _=>none
def CallN(L:Nat→Nat)(P:Program)(os rs:Sto)(la:List AV)(bo:Option (Nat×Nat×List AV))(rest:List AV)(f:FuncId)(args:List AV)[K:Hd (AV→Sto→Prop)][KB:Hd (Nat→Nat→List AV→AV→Prop)][KX:Hd CallX]:Prop :=
 enters P f=true∧((AV.nownL args=true∧∃ Q,GenC L P f rs args Q∧∀ res os',Q res os'→(os'.map Prod.fst=rs.map Prod.fst∧K.v res (mergeO os os'))∨(rs=[]∧∃ b cells,os'=[(b,some cells)]∧(nfO os b→K.v res ((b,some cells)::os)))) ∨
  (∃ res,res.closed=true∧PureC L P f la res∧K.v res os) ∨
  (∃ la' res,LowL os args la'∧res.closed=true∧PureC L P f la' res∧K.v res os) ∨
  (∃ i sz l,bo=some (i,sz,l)∧AV.nownL rest=true∧∃ res l',BorC L P f sz l rest res l'∧KB.v i sz l' res) ∨
  (∃ g x x' res i,KX.v.a0=some i∧T KX.v.t i=argv g x∧AV.nownL rest=true∧InC L P f g x x' rest res∧KX.v.k i (argv g x') res) ∨
  (∃ g pre px post x' res i,args=argv g (hdrL px)::rest∧T KX.v.t i=.agg (pre++(px++post))∧detL (hdrL px)=true∧AV.nownL rest=true∧InC L P f g (unpL px) x' rest res∧KX.v.k i (.agg (pre++(repinL px x'++post))) res) ∨
  (∃ g pre px post x' res b,args=argv g (hdrL px)::rest∧O os b=some (pre++(px++post))∧detL (hdrL px)=true∧AV.nownL rest=true∧InC L P f g (unpL px) x' rest res∧K.v res (updO os b (some (pre++(repinL px x'++post))))) ∨
  (∃ res,PureC L P f la res∧KX.v.kf res) ∨
  (∃ x0 lar i sz l,la=x0::lar∧bo=some (i,sz,l)∧AV.nownL lar=true∧∃ res l',BorC L P f sz l lar res l'∧KX.v.kb i sz l' res))
class FCtr(L:Nat→Nat)(P:Program)(f:FuncId)(la:List AV)(res:outParam AV)(pre:outParam Prop):Prop where
 en:enters P f=true
 out:pre→PureC L P f la res
class ICtr(L:Nat→Nat)(P:Program)(f:FuncId)(g:outParam Bool)(x rest:List AV)(res:outParam AV)(x':outParam (List AV))(pre:outParam Prop):Prop where
 en:enters P f=true
 out:pre→InC L P f g x x' rest res
section
variable {L : Nat → Nat} {P : Program} {os rs : Sto} {la : List AV} {bo : Option (Nat × Nat × List AV)} {rest : List AV} {f : FuncId} {args : List AV} {K : AV → Sto → Prop} {KB : Nat → Nat → List AV → AV → Prop} {KX : CallX}
theorem CallN.ctr{res:AV}{cs:List (Option (List AV))}{pre:Prop}[h:Ctr L P f rs args res cs pre](hn:AV.nownL args=true)(hp:pre)(hK:K res (mergeO os (zipK rs cs))):CallN L P os rs la bo rest f args (K:=⟨K⟩) (KB:=⟨KB⟩) (KX:=⟨KX⟩) :=
 ⟨h.en,.inl ⟨hn,_,h.out hp,by rintro _ _ ⟨rfl,rfl⟩;exact .inl ⟨zipK_keys _ _,hK⟩⟩⟩
theorem CallN.gen{Q:AV→Sto→Prop}(he:enters P f=true)(hn:AV.nownL args=true)(h:GenC L P f rs args Q)(hK:∀ res os',Q res os'→os'.map Prod.fst=rs.map Prod.fst∧K res (mergeO os os')):CallN L P os rs la bo rest f args (K:=⟨K⟩) (KB:=⟨KB⟩) (KX:=⟨KX⟩) :=
 ⟨he,.inl ⟨hn,_,h,fun res os' hq=>.inl (hK res os' hq)⟩⟩
theorem CallN.low{res:AV}{cs:List (Option (List AV))}{pre:Prop}[h:Ctr L P f [] la res cs pre](hc:res.closed=true)(hp:pre)(hK:K res os):CallN L P os rs la bo rest f args (K:=⟨K⟩) (KB:=⟨KB⟩) (KX:=⟨KX⟩) :=
 ⟨h.en,.inr (.inl ⟨_,hc,h.pure hp,hK⟩)⟩
theorem LowL.low{x:AV}{xs ys:List AV}(h:LowL os xs ys):LowL os (x::xs) ((bif x.nown then x else x.frz)::ys):=by
 refine .cons ?_ h
 cases h:x.nown with
 | true=>exact .inl ⟨h,by simp⟩
 | false=>exact .inr (.inr (.inl (by simp)))
theorem LowL.pin{x:AV}{xs ys:List AV}(g:Bool)(b:Nat)(pr px post:List AV)(hO:O os b=some (pr++(px++post)))(hd:detL (hdrL px)=true)(hg:g=false→px.length=1)(hx:x=argv g (hdrL px))(h:LowL os xs ys):LowL os (x::xs) (argv g (AV.frzL px)::ys) :=
 .cons (.inr (.inr (.inr ⟨g,b,pr,px,post,hO,hd,hg,hx,rfl⟩))) h
theorem CallN.inO{g:Bool}{x':List AV}{res:AV}{pre:Prop}(b:Nat)(pr px post:List AV)[h:ICtr L P f g (unpL px) rest res x' pre](ha:args=argv g (hdrL px)::rest)(hT:O os b=some (pr++(px++post)))(hdt:detL (hdrL px)=true)(hn:AV.nownL rest=true)(hp:pre)(hK:K res (updO os b (some (pr++(repinL px x'++post))))):CallN L P os rs la bo rest f args (K:=⟨K⟩) (KB:=⟨KB⟩) (KX:=⟨KX⟩) :=
 ⟨h.en,.inr (.inr (.inr (.inr (.inr (.inr (.inl ⟨g,pr,px,post,x',res,b,ha,hT,hdt,hn,h.out hp,hK⟩))))))⟩
theorem CallN.fz{res:AV}{pre:Prop}[h:FCtr L P f la res pre](hp:pre)(hK:KX.kf res):CallN L P os rs la bo rest f args (K:=⟨K⟩) (KB:=⟨KB⟩) (KX:=⟨KX⟩) :=
 ⟨h.en,.inr (.inr (.inr (.inr (.inr (.inr (.inr (.inl ⟨res,h.out hp,hK⟩)))))))⟩
theorem CallN.borF{x0:AV}{lar:List AV}{i sz:Nat}{l:List AV}{res:AV}{l':List AV}{pre:Prop}[h:BCtr L P f sz l lar res l' pre](hn:AV.nownL lar=true)(hp:pre)(hK:KX.kb i sz l' res):CallN L P os rs (x0::lar) (some (i,sz,l)) rest f args (K:=⟨K⟩) (KB:=⟨KB⟩) (KX:=⟨KX⟩) :=
 ⟨h.en,.inr (.inr (.inr (.inr (.inr (.inr (.inr (.inr ⟨x0,lar,i,sz,l,rfl,rfl,hn,_,_,h.out hp,hK⟩)))))))⟩
end
theorem Fresh.nf{o:Sto}{b:Nat}(h:Fresh o b):nfO o b:=by
 induction o with
 | nil=>trivial
 | cons p o ih =>
  obtain ⟨b',c⟩:=p
  cases c with
  | none=>trivial
  | some c =>
   have h1:b'≠b:=h b' c (by simp [O])
   refine ⟨h1,ih ?_⟩
   intro q cs hq e
   by_cases e2:b'=q
   ·exact h1 (e2.trans e)
   ·exact h q cs (by simp only [O,if_neg e2];exact hq) e
def rmO:Sto→Nat→Sto
 | [],_=>[]
 | p::o,b=>if p.1=b then rmO o b else p::rmO o b
theorem rmO_eq(b:Nat)(c:Option (List AV))(o:Sto):rmO ((b,c)::o) b=rmO o b:=by simp [rmO]
theorem rmO_ne{b b':Nat}(h:b'≠b)(c:Option (List AV))(o:Sto):rmO ((b',c)::o) b=(b',c)::rmO o b:=by simp [rmO,h]
theorem rmO_nil(b:Nat):rmO [] b=[]:=rfl
theorem O_rm(o:Sto)(b q:Nat)(cs:List AV)(h:O (rmO o b) q=some cs):q≠b∧O o q=some cs:=by
 induction o with
 | nil=>simp [rmO,O] at h
 | cons p o ih =>
  simp only [rmO] at h
  by_cases e:p.1=b
  ·rw [if_pos e] at h
   have:=ih h
   refine ⟨this.1,?_⟩
   have:¬ p.1=q:=fun e'=>this.1 (e'.symm.trans e)
   simp only [O,if_neg this];exact (ih h).2
  ·rw [if_neg e] at h
   by_cases e2:p.1=q
   ·simp only [O,if_pos e2] at h ⊢
    exact ⟨fun e3=>e (e2.trans e3),h⟩
   ·simp only [O,if_neg e2] at h ⊢
    exact ih h
def appVc(L:Nat→Nat)(P:Program)(os:Sto)(t:List (Nat×AV))(d:Option Nat)(x y:Operand)(t1 u:TypeId)(K:List (Nat×AV)→Sto→Prop):Prop :=
 match elm P t1 with
 | none=>False
 | some (e,sz,bytes)=>(zlen P e=some sz∧(knd P u).isSome=true)∧(match x,ev t x with
  | .tmp i,.sl true z l=>match srcE sz (ev t y) with
   | none=>False
   | some l'=>(z=sz∧neTmp y i=true∧l.all (AV.elem sz)=true∧l'.all (AV.elem sz)=true∧(l'.flatMap AV.cells).all AV.one=true) ∧
     ((l.length+l'.length≤L sz∧(l.length+l'.length) * bytes≤140737488355328∧l.length+l'.length≤9223372036854775807) ∧
     K (put (killL t (kills t [.tmp i,y])) d (.sl true sz (l++l'))) os)
  | _,.v (.slice none 0 0)=>match srcE sz (ev t y) with
   | none=>False
   | some l'=>(l'.all (AV.elem sz)=true∧(l'.flatMap AV.cells).all AV.one=true) ∧
     ((l'.length≤L sz∧l'.length * bytes≤140737488355328∧l'.length≤9223372036854775807) ∧
     K (put (killL t (kills t [y])) d (.sl true sz l')) os)
  | _,.arr b 0 len z=>match O os b,srcE sz (ev t y) with
   | some cells,some l'=>(z=sz∧cells.length=len * sz∧l'.all (AV.elem sz)=true∧(l'.flatMap AV.cells).all AV.one=true) ∧
     ((len+l'.length≤L sz∧(len+l'.length) * bytes≤140737488355328∧len+l'.length≤9223372036854775807) ∧
     ∀ b',nfO (rmO os b) b'→K (put (killL t (kills t [y])) d (.arr b' 0 (len+l'.length) sz)) ((b',some (cells++l'.flatMap AV.cells))::rmO os b))
   | _,_=>False
  | _,_=>False)
def srcC(os:Sto)(sz:Nat)(x:AV):Option (Nat×List AV):=srcA os sz x
theorem srcC_sl(os:Sto)(sz:Nat)(o:Bool)(z:Nat)(l:List AV):srcC os sz (.sl o z l)=bif z == sz && l.all (AV.elem sz) then some (l.length,l.flatMap AV.cells) else none:=rfl
def copVc(L:Nat→Nat)(P:Program)(os:Sto)(t:List (Nat×AV))(d:Option Nat)(x y:Operand)(t1 u:TypeId)(K:List (Nat×AV)→Sto→Prop):Prop :=
 match elm P t1,ev t x with
 | some (_,sz,_),.arr b off len z=>match O os b,srcC os sz (ev t y) with
  | some cells,some (m,cs)=>(z=sz∧(knd P u).isSome=true∧cs.all AV.one=true∧AV.nownL cs=true)∧(m=len∧off+m * sz≤cells.length∧K (put t d (.v (.int .i64 m))) (updO os b (some (cells.take off++cs++cells.drop (off+m * sz)))))
  | _,_=>False
 | _,_=>False
def BoxVc(L:Nat→Nat)(P:Program)(os:Sto)(t:List (Nat×AV))(d:Option Nat)(ty':TypeId)(x:Operand)[K:Hd (List (Nat×AV)→Sto→Prop)]:Prop :=
 ovc L P os (ev t) true (.box ty' x) (fun x C=>K.v (put (killL t C) d x) os) ∨
 (match ty P ty' with
  | some (_,m)=>(ev t x).elem m=true∧∀ b,nfO os b→K.v (put (killL t (kills t [x])) d (.ptr b 0)) ((b,some (ev t x).cells)::os)
  | none=>False)
theorem BoxVc.vp{L:Nat→Nat}{P:Program}{os:Sto}{t:List (Nat×AV)}{d:Option Nat}{ty':TypeId}{x:Operand}{K:List (Nat×AV)→Sto→Prop}
  (h:ovc L P os (ev t) true (.box ty' x) (fun x C=>K (put (killL t C) d x) os)):BoxVc L P os t d ty' x (K:=⟨K⟩):=.inl h
theorem BoxVc.obj{L:Nat→Nat}{P:Program}{os:Sto}{t:List (Nat×AV)}{d:Option Nat}{ty':TypeId}{x:Operand}{K:List (Nat×AV)→Sto→Prop}
  (h:match ty P ty' with
   | some (_,m)=>(ev t x).elem m=true∧∀ b,nfO os b→K (put (killL t (kills t [x])) d (.ptr b 0)) ((b,some (ev t x).cells)::os)
   | none=>False):BoxVc L P os t d ty' x (K:=⟨K⟩):=.inr h
def bxN:Operand→Option Nat→Bool
 | .tmp i,some d=>Nat.ble 4 i && Nat.beq (i+1) d
 | _,_=>false
def nvc(L:Nat→Nat)(P:Program)(os:Sto)(t:List (Nat×AV))(d:Option Nat)(op:Op)(K:List (Nat×AV)→Sto→Prop):Prop :=
 match op with
 | .alloc ty'=>match zer P ty' with
  | some zs=>∀ b,nfO os b→K (put t d (.ptr b 0)) ((b,some (zs.map avz))::os)
  | none=>False
 | .store ty' ad x=>match d,ev t ad,ty P ty' with
  | none,.ptr b off,some (_,m)=>match O os b with
   | some cells=>((ev t x).elem m=true∧(ev t x).cells.all AV.one=true)∧(off+m≤cells.length∧K (killL t (kills t [x])) (updO os b (some (cells.take off++(ev t x).cells++cells.drop (off+m)))))
   | none=>False
  | _,_,_=>False
 | .load ty' x=>match ev t x with
  | .ptr b off=>match O os b,ty P ty' with
   | some cells,some (g,m)=>match val g m (cells.drop off) with
    | some y=>match y.nown with
     | true=>K (put t d y) os
     | false=>match y.cpy.nown with
      | true=>K (put t d y.cpy) os
      | false=>((g=false→m=1)∧off+m≤cells.length)∧K (put t d y) (updO os b (some (cells.take off++List.replicate m .dead++cells.drop (off+m))))
    | none=>False
   | _,_=>False
  | _=>ovc L P os (ev t) true op (fun x C=>K (put (killL t C) d x) os)
 | .extract x k=>match x,ev t x with
  | .tmp i,.tup l=>match l[k]? with
   | some y=>match y.nown with
    | true=>K (put t d y) os
    | false=>K (put ((i,.tup (l.set k .dead))::t) d y) os
   | none=>False
  | _,_=>False
 | .makeSlice ty' x y=>match elm P ty',ev t x,ev t y with
  | some (e,sz,bytes),.v (.int _ m),.v (.int _ m')=>match zer P e with
   | some zs=>(zs.length=sz∧m'=m)∧((0≤m∧m.toNat≤L sz∧m.toNat * bytes≤140737488355328∧m.toNat≤9223372036854775807) ∧
     ∀ b,nfO os b→K (put t d (.arr b 0 m.toNat sz)) ((b,some ((List.replicate m.toNat zs).flatten.map avz))::os))
   | none=>False
  | _,_,_=>False
 | .call c=>match c.callee,c.args.toList,c.argTypes.toList with
  | .value y,args,_=>match fnA (ev t y) with
   | some (f,caps)=>AV.nownL caps=true∧CallN L P os (reachO os (args.map (ev t)++caps)) (lowF (args.map (ev t)++caps)) (borOf t args) (args.tail.map (ev t)++caps) f (args.map (ev t)++caps) (K:=⟨fun res os'=>K (put t d res) os'⟩) (KB:=⟨fun i sz l' res=>K (put ((i,.sl true sz l')::t) d res) os⟩) (KX:=⟨⟨t,slot0 args,fun i x res=>K (put ((i,x)::t) d res) os,fun res=>K (put (killL t (kills t args)) d res) os,fun i sz l' res=>memN (kills t args.tail) i=false∧K (put ((i,.sl true sz l')::frzT t (kills t args.tail)) d res) os⟩⟩)
   | none=>False
  | .builtin .append,[x,y],[t1,u]=>appVc L P os t d x y t1 u K
  | .builtin .copy,[x,y],[t1,u]=>copVc L P os t d x y t1 u K
  | _,_,_=>ovc L P os (ev t) true op (fun x C=>K (put (killL t C) d x) os)
 | .box ty' x=>match bxN x d with
  | true=>match ty P ty' with
   | some (_,m)=>(ev t x).elem m=true∧∀ b,nfO os b→K (put (killL t (kills t [x])) d (.ptr b 0)) ((b,some (ev t x).cells)::os)
   | none=>False
  | false=>BoxVc L P os t d ty' x (K:=⟨K⟩)
 | _=>ovc L P os (ev t) true op (fun x C=>K (put (killL t C) d x) os)
def AV.dd:AV→Bool
 | .dead=>true
 | _=>false
def deadL:List AV→Bool
 | []=>false
 | x::xs=>x.dd || deadL xs
def isE(t:List (Nat×AV)):Op→Bool
 | .move (.tmp j)=>!(T t j).nown
 | .alloc _=>true
 | .store _ _ _=>true
 | .makeSlice _ _ _=>true
 | .call c=>match c.callee with
  | .builtin .append=>true
  | .builtin .copy=>true
  | .builtin .len=>deadL (c.args.toList.map (ev t))
  | .value y=>!(AV.keysL (c.args.toList.map (ev t))++(ev t y).keys).isEmpty || deadL (c.args.toList.map (ev t))
  | _=>false
 | _=>false
def AV.unc:AV→AV
 | .cnd true x=>x
 | x=>x
def uncT:List (Nat×AV)→List (Nat×AV)
 | []=>[]
 | p::t=>(p.1,p.2.unc)::uncT t
def Gd(c:Bool)[p:Hd Prop]:Prop:=c=true→p.v
theorem GdT{p:Prop}:Gd true (p:=⟨p⟩)=p:=by simp [Gd]
theorem GdF{p:Prop}:Gd false (p:=⟨p⟩)=True:=by simp [Gd]
def alF:List (Nat×Nat)→Nat→Nat
 | [],j=>j
 | p::al,j=>bif Nat.beq p.1 j then p.2 else alF al j
def sbs(al:List (Nat×Nat)):Operand→Operand
 | .tmp j=>.tmp (alF al j)
 | x=>x
def alDel:List (Nat×Nat)→Option Nat→List (Nat×Nat)
 | al,none=>al
 | [],some _=>[]
 | p::al,some d=>bif Nat.beq p.1 d || Nat.beq p.2 d then alDel al (some d) else p::alDel al (some d)
def alOp(al:List (Nat×Nat)):Op→Op
 | .move x=>.move (sbs al x)
 | .assign x=>.assign (sbs al x)
 | .call c=>.call ⟨c.callee,(c.args.toList.map (sbs al)).toArray,c.argTypes⟩
 | .buildSlice t n ps=>.buildSlice t n (ps.toList.map fun p=>(p.1,sbs al p.2)).toArray
 | .build t ps=>.build t (ps.toList.map fun p=>(p.1,sbs al p.2)).toArray
 | .store t a x=>.store t a (sbs al x)
 | .indexAddr t x i=>.indexAddr t (sbs al x) i
 | .slice t x lo hi mx=>.slice t (sbs al x) lo hi mx
 | .field t x k=>.field t (sbs al x) k
 | .extract x k=>.extract (sbs al x) k
 | .box t x=>.box t (sbs al x)
 | .convert t u x=>.convert t u (sbs al x)
 | op=>op
def stp(L:Nat→Nat)(P:Program)(os:Sto)(al:List (Nat×Nat))(t:List (Nat×AV))(d:Option Nat)(op:Op)(K:List (Nat×Nat)→List (Nat×AV)→Sto→Prop):Prop :=
 match op,d with
 | .move (.tmp j),some d=>match (T t (alF al j)).nown with
  | false=>Nat.beq d (alF al j)=false∧K ((d,alF al j)::alDel al (some d)) ((d,.dead)::t) os
  | true=>K (alDel al (some d)) ((d,T t (alF al j))::t) os
 | op,d=>nvc L P os t d (alOp al op) (K (alDel al d))
def AV.isDead:AV→Bool
 | .dead=>true
 | _=>false
def AV.isSkp:AV→Bool
 | .cnd g x=>x.isDead && !g
 | _=>false
def skpK(t:List (Nat×AV)):List Nat→Bool
 | []=>false
 | i::xs=>(T t i).isSkp || skpK t xs
def Wn(L:Nat→Nat)(P:Program)(ops:Array Oper)(n:Nat)(K:List (Nat×AV)→Sto→Prop):List Nat→List (Nat×Nat)→List (Nat×AV)→Sto→Prop
 | [],_,t,os=>K t os
 | i::l,al,t,os =>
  match ops[i]? with
  | none=>False
  | some o=>dstOK n o.dst=true∧(match o.guard with
   | none=>stp L P os al t o.dst o.op (fun al' t' os'=>Wn L P ops n K l al' t' os')
   | some (j,want)=>match (ops[j]?).bind (·.dst) with
    | none=>False
    | some d=>Nat.blt d n=true∧(match gval (T t d) with
     | none=>False
     | some (G,g)=>match isE t o.op with
      | false=>match skpK t (stO o.op) with
       | true=>(G && (g == want))=false∧Wn L P ops n K l (alDel al o.dst) (put t o.dst (.cnd false .dead)) os
       | false=>okcK t (G && (g == want)) (stO o.op) ∧
       ovc L P os (evK t (stO o.op)) (G && (g == want)) o.op (fun x C=>C=[]∧Wn L P ops n K l (alDel al o.dst) (upd o (.cnd (G && (g == want)) x) [] t) os)
      | true=>Gd (G && (g == want)) (p:=⟨stp L P os al (uncT t) o.dst o.op (fun al' t' os'=>Wn L P ops n K l al' t' os')⟩)∧Gd (!(G && (g == want))) (p:=⟨Wn L P ops n K l (alDel al o.dst) (put t o.dst (.cnd false .dead)) os⟩)))
end Go.Ab
namespace Go.Ab
open Go.RowKit (Below)
theorem O_keys{o:Sto}{b:Nat}{cells:List AV}(h:O o b=some cells):b∈o.map Prod.fst:=O_mem h
theorem O_updE{o:Sto}{b:Nat}{cells new:List AV}(h:O o b=some cells)(q:Nat)(cs:List AV)(hq:O (updO o b (some new)) q=some cs):(q=b∧cs=new)∨(q≠b∧O o q=some cs):=by
 rw [O_upd] at hq
 by_cases e:q=b
 ·subst e
  rw [if_pos ⟨rfl,O_keys h⟩] at hq
  cases hq;exact .inl ⟨rfl,rfl⟩
 ·rw [if_neg (fun h=>e h.1)] at hq
  exact .inr ⟨e,hq⟩
theorem knd_src{P:Program}{u:TypeId}(h:(knd P u).isSome=true):(∃ e',P.underlying u=some (.slice e'))∨P.underlying u=some .string:=by
 cases hk:knd P u with
 | none=>rw [hk] at h;cases h
 | some b =>
  cases b with
  | true=>exact .inr (knd_str hk)
  | false=>exact .inl (knd_sl hk)
section
variable {L : Nat → Nat} {P : Program} {o : Oper} {n : Nat} {t : List (Nat × AV)} {os : Sto} {K : List (Nat × AV) → Sto → Prop}
theorem Imp.nilSl(i sz:Nat){Q:AS→Prop}(hT:T t i=.v (.slice none 0 0))(h:Q ⟨n,(i,.sl true sz [])::t,os⟩):Imp L ⟨n,t,os⟩ Q:=by
 intro B F0 w0 a w hd
 refine ⟨_,h,?_⟩
 obtain ⟨F,own,fp,fs,hd⟩:=hd
 refine ⟨F,own,fp,fs,{ hd with slots:=?_ }⟩
 intro j
 rw [T_cons]
 by_cases e:i=j
 ·subst e
  have:=hd.slots i
  simp only at this
  rw [hT] at this
  simp only [Rep] at this
  simp only [if_true,Rep]
  exact .inl ⟨.inl this.1,by trivial,this.2⟩
 ·simp only [if_neg e];exact hd.slots j
theorem alloc_sound{ty':TypeId}{zs:List Value}(hop:o.op=.alloc ty')(hd:dstOK n o.dst=true)(hz:zer P ty'=some zs)
  (h:∀ b,nfO os b→K (put t o.dst (.ptr b 0)) ((b,some (zs.map avz))::os)):OpW L P o ⟨n,t,os⟩ (fun s'=>s'.n=n∧K s'.t s'.o):=by
 intro B F0 w0 a w next Q hden hnext
 have hfr:Fresh os w.heap.size:=by obtain ⟨F,own,fp,fs,hd'⟩:=hden;exact hd'.fresh
 obtain ⟨F,own,fp,fs,hD⟩:=hden
 obtain ⟨z,hzc,hzr⟩:=zer_run hz
 have hrun:(execOp a.eval o).run P w=.ok (.value (.pointer (some ⟨w.heap.size,0,none⟩))) (w.alloc (.cells z.cells ty')):=by
  simp [execOp,hop,Instr.alloc,hzr,newVar,newRow]
 unfold Oper.wp
 rw [hrun]
 refine hnext ⟨n,put t o.dst (.ptr w.heap.size 0),(w.heap.size,some (zs.map avz))::os⟩ _ _ ⟨rfl,h w.heap.size hfr.nf⟩ ?_
 exact hD.renew [] [] w.heap.size (zs.map avz) [] o.dst hd ⟨rfl,rfl,rfl⟩ (Ext.alloc w _ []) (by simp) (.inr ⟨Nat.le_refl _,by simp⟩)
  ⟨z.cells,ty',zs,[],alloc_at w _,by simp [hzc],RepL.plain zs⟩ (by simp) (by simp) (by simp [Rep])
theorem box_sound{ty':TypeId}{x:Operand}{sz:Nat}(hop:o.op=.box ty' x)(hd:dstOK n o.dst=true)(hx:(ev t x).elem sz=true)
  (hK:∀ b,nfO os b→K (put (killL t (kills t [x])) o.dst (.ptr b 0)) ((b,some (ev t x).cells)::os)):OpW L P o ⟨n,t,os⟩ (fun s'=>s'.n=n∧K s'.t s'.o):=by
 intro B F0 w0 a w next Q hden hnext
 have hfr:Fresh os w.heap.size:=by obtain ⟨F,own,fp,fs,hd'⟩:=hden;exact hd'.fresh
 obtain ⟨F,own,fp,fs,h⟩:=hden
 have hr:=h.ev x
 have hrun:(execOp a.eval o).run P w=.ok (.value (.pointer (some ⟨w.heap.size,0,none⟩))) (w.alloc (.cells (a.eval x).cells ty')):=by
  simp [execOp,hop,Instr.box,newVar,newRow]
 unfold Oper.wp
 rw [hrun]
 refine hnext ⟨n,put (killL t (kills t [x])) o.dst (.ptr w.heap.size 0),(w.heap.size,some (ev t x).cells)::os⟩ _ _ ⟨rfl,hK w.heap.size hfr.nf⟩ ?_
 have hFS:∀ b,F b→F b∧(b<w.heap.size):=fun b hb'=>⟨hb',(h.fl b hb').2.1⟩
 refine h.renew (kills t [x]) [] w.heap.size (ev t x).cells (fpo fp x) o.dst hd ⟨rfl,rfl,rfl⟩ (Ext.alloc w _ []) (by simp) (.inr ⟨Nat.le_refl _,by simp⟩)
  ⟨(a.eval x).cells,ty',(a.eval x).cells.toList,[],alloc_at w _,by simp,?_⟩ (fpo_nodup h x) (fun k hk=>.inl (fpo_kills h (by simp) k hk)) (by simp [Rep])
 refine RepL.ext (Ext.alloc' w _) hFS (fun k hk=>?_) (cells_of hx hr)
 obtain ⟨i,_,hi⟩:=fpo_kills h (xs:=[x]) (by simp) k hk
 exact (h.fp_lt hi).2
theorem make_sound{ty' e:TypeId}{x y:Operand}{sz bytes:Nat}{k k':IntKind}{m m':Int}{zs:List Value}(hop:o.op=.makeSlice ty' x y)(hd:dstOK n o.dst=true)(ht:elm P ty'=some (e,sz,bytes))(hz:zer P e=some zs)(hzl:zs.length=sz)
  (hx:ev t x=.v (.int k m)) (hy:ev t y=.v (.int k' m')) (hm:m'=m) (h0:0≤m) (hL:m.toNat≤L sz) (hby:m.toNat * bytes≤140737488355328) (h63:m.toNat≤9223372036854775807)
  (h:∀ b,nfO os b→K (put t o.dst (.arr b 0 m.toNat sz)) ((b,some ((List.replicate m.toNat zs).flatten.map avz))::os)):OpW L P o ⟨n,t,os⟩ (fun s'=>s'.n=n∧K s'.t s'.o):=by
 subst hm
 obtain ⟨m,rfl⟩:=Int.eq_ofNat_of_zero_le h0
 simp only [Int.ofNat_eq_natCast,Int.toNat_natCast] at *
 intro B F0 w0 a w next Q hden hnext
 obtain ⟨F,own,fp,fs,hD⟩:=hden
 obtain ⟨inf,hut,hinf,rfl,rfl⟩:=elm_inv ht
 obtain ⟨inf',z,hinf',hzz,hzc⟩:=zer_inv hz
 rw [hinf] at hinf'
 cases hinf'
 have hrun:=run_make (P:=P) w ty' e inf z hut hinf hzz k k' (m:Int) m (by omega) (Int.le_refl _) (by
  have:(inf.bytes:Int) * m=((m * inf.bytes:Nat):Int):=by push_cast;rw [Int.mul_comm]
  omega) (by omega)
 have hzs:z.cells.size=inf.size:=by rw [← hzl,← hzc];simp
 have hex:(execOp a.eval o).run P w=.ok (.value (.slice (some ⟨w.heap.size,0,none⟩) m m)) (w.alloc (.cells (madeCells z.cells (m * inf.size)) e)):=by
  simp only [execOp,hop,hD.val hx,hD.val hy,Sem.run_bind,hrun,Int.toNat_natCast]
  rfl
 unfold Oper.wp
 rw [hex]
 refine hnext ⟨n,put t o.dst (.arr w.heap.size 0 m inf.size),(w.heap.size,some ((List.replicate m zs).flatten.map avz))::os⟩ _ _ ⟨rfl,h w.heap.size hD.fresh.nf⟩ ?_
 refine hD.renew [] [] w.heap.size _ [] o.dst hd ⟨rfl,rfl,rfl⟩ (Ext.alloc w _ []) (by simp) (.inr ⟨Nat.le_refl _,by simp⟩)
  ⟨_,_,(List.replicate m zs).flatten,[],alloc_at w _,by rw [madeCells_list z.cells m inf.size hzs,hzc];simp,RepL.plain _⟩ (by simp) (by simp) ?_
 simp only [Rep]
 refine ⟨trivial,m,rfl,Nat.le_refl _,hL,_,_,alloc_at w _,?_⟩
 have:=congrArg List.length (madeCells_list z.cells m inf.size hzs)
 simp at this
 rw [hzs] at this
 omega
theorem app_sound{c:Call}{x y:Operand}{t1 u:TypeId}(ho:o.op=.call c)(hc:c=⟨.builtin .append,#[x,y],#[t1,u]⟩)(hd:dstOK n o.dst=true)(h:appVc L P os t o.dst x y t1 u K):OpW L P o ⟨n,t,os⟩ (fun s'=>s'.n=n∧K s'.t s'.o):=by
 unfold appVc at h
 split at h
 ·exact h.elim
 ·rename_i e sz bytes ht
  obtain ⟨⟨hzl,hk⟩,h⟩:=h
  obtain ⟨zs,hz,hzl⟩:=zlen_inv hzl
  have hu:=knd_src hk
  split at h
  ·rename_i i z l hx
   split at h
   ·exact h.elim
   ·rename_i l' hsrc
    obtain ⟨⟨rfl,hne,hel,hel',hone⟩,⟨hL,hby,h63⟩,hK⟩:=h
    exact opw_append_own (s:=⟨n,t,os⟩) ho hc hd hx (neTmp_iff hne) ht hz hzl hu hsrc (by simpa [List.all_eq_true] using hel) (by simpa [List.all_eq_true] using hel') hone hL hby h63 ⟨rfl,hK⟩
  ·rename_i hx
   split at h
   ·exact h.elim
   ·rename_i l' hsrc
    obtain ⟨⟨hel',hone⟩,⟨hL,hby,h63⟩,hK⟩:=h
    have hel2:∀ z,z∈l'→z.elem sz=true:=by simpa [List.all_eq_true] using hel'
    by_cases h0:l'=[]
    ·subst h0
     exact opw_append_nil0 (s:=⟨n,t,os⟩) ho hc hd hx ht hu (srcE_srcA hsrc hel2) ⟨rfl,hK⟩
    ·refine OpW.post (opw_append_nil (s:=⟨n,t,os⟩) ho hc hd hx ht hz hzl hu (srcE_srcA hsrc hel2) (List.length_pos_iff.2 h0) hL hby h63 fun b' hb'=>?_)
     cases hdst:o.dst with
     | none =>
      rw [hdst] at hK
      refine Imp.weak (t':=killL t (kills t [y])) (o':=os) ⟨rfl,hK⟩ (fun j=>.inl rfl) ?_
      intro q cs hq
      simp only [O,if_neg (fun e=>hb' q cs hq e.symm:¬ b'=q)];exact hq
     | some d =>
      rw [hdst] at hK
      refine Imp.bind (Q:=fun s'=>s'=⟨n,(d,.sl true sz l')::put (killL t (kills t [y])) (some d) (.arr b' 0 l'.length sz),(b',none)::(b',some (l'.flatMap AV.cells))::os⟩) (Imp.fold d (b:=b') (len:=l'.length) (sz:=sz) (cells:=l'.flatMap AV.cells) (l:=l') (by simp [put,T]) (by simp [O]) rfl ?_ hel2 rfl) ?_
      ·rw [List.take_of_length_le];rw [flat_elem_len hel2];exact Nat.le_refl _
      ·rintro _ rfl
       refine Imp.weak (t':=put (killL t (kills t [y])) (some d) (.sl true sz l')) (o':=os) ⟨rfl,hK⟩ (fun j=>.inl ?_) ?_
       ·simp only [put,T_cons]
        by_cases e:d=j
        ·simp [e]
        ·simp [e]
       ·intro q cs hq
        have hne:¬ b'=q:=fun e=>hb' q cs hq e.symm
        simp only [O,if_neg hne];exact hq
  ·rename_i b len z hx
   split at h
   ·rename_i cells l' hO hsrc
    obtain ⟨⟨rfl,hlen,hel',hone⟩,⟨hL,hby,h63⟩,hK⟩:=h
    have hel2:∀ x,x∈l'→x.elem z=true:=by simpa [List.all_eq_true] using hel'
    refine OpW.post (opw_append_arr (s:=⟨n,t,os⟩) ho hc hd hx hO hlen ht hz hzl hu (srcE_srcA hsrc hel2) hone hL hby h63 fun b' hb'=>?_)
    have hsub:∀ q cs,O (rmO os b) q=some cs→O (dropO os [b]) q=some cs:=fun q cs hq=>by
     have:=O_rm os b q cs hq
     rw [O_drop,if_neg (by simpa using this.1)];exact this.2
    refine Imp.weak (t':=put (killL t (kills t [y])) o.dst (.arr b' 0 (len+l'.length) z)) (o':=(b',some (cells++l'.flatMap AV.cells))::rmO os b) ⟨rfl,hK b' (Fresh.nf fun q cs hq=>hb' q cs (hsub q cs hq))⟩ (fun _=>.inl rfl) ?_
    intro q cs hq
    by_cases e:b'=q
    ·subst e;simp only [O_eq] at hq ⊢;exact hq
    ·rw [O_ne e] at hq ⊢;exact hsub q cs hq
   ·exact h.elim
  ·exact h.elim
theorem nownL_left:∀ {l m:List AV},AV.nownL (l++m)=true→AV.nownL l=true
 | [],_,_=>rfl
 | x::xs,m,h=>by
  simp [AV.nownL] at h ⊢
  exact ⟨h.1,nownL_left (m:=m) h.2⟩
theorem evs_cons_ne{i:Nat}{x:AV}:∀ {xs:List Operand},AV.nownL (xs.map (ev t))=true→(T t i).nown=false→xs.map (ev ((i,x)::t))=xs.map (ev t)
 | [],_,_=>rfl
 | y::xs,h,hi=>by
  simp only [List.map_cons,AV.nownL,Bool.and_eq_true] at h
  have hne:y≠.tmp i:=fun e=>by
   subst e
   simp only [ev] at h
   rw [h.1] at hi;cases hi
  simp only [List.map_cons,ev_cons_ne hne,evs_cons_ne h.2 hi]
theorem bcall_sound{y:Operand}{i:Nat}{xs:List Operand}{ts:Array TypeId}{f:FuncId}{caps:List AV}{sz:Nat}{l l':List AV}{res:AV}(ho:o.op=.call ⟨.value y,(.tmp i::xs).toArray,ts⟩)(hd:dstOK n o.dst=true)(hy:fnA (ev t y)=some (f,caps))(hcn:AV.nownL caps=true)
  (hx:T t i=.sl true sz l) (he:enters P f=true) (hn:AV.nownL (xs.map (ev t)++caps)=true) (hb:BorC L P f sz l (xs.map (ev t)++caps) res l') (hK:K (put ((i,.sl true sz l')::t) o.dst res) os):OpW L P o ⟨n,t,os⟩ (fun s'=>s'.n=n∧K s'.t s'.o):=by
 obtain ⟨hg,hnil,hlen,hel,hel'⟩:=hb
 have hi:(T t i).nown=false:=by rw [hx];rfl
 have hxs:=nownL_left hn
 have hyi:y≠.tmp i:=fun e=>by
  subst e
  simp only [ev,hx] at hy
  cases hy
 refine OpW.imp (Imp.unfold2 i hx hel ?_ ?_)
 ·intro b hfr
  have hevs:=evs_cons_ne (t:=t) (x:=.arr b 0 l.length sz) hxs hi
  refine OpW.post (opw_gcall (s:=⟨n,(i,.arr b 0 l.length sz)::t,(b,some (l.flatMap AV.cells))::os⟩) (os:=[(b,some (l.flatMap AV.cells))]) (caps:=caps) ho rfl hd (by rw [ev_cons_ne hyi];exact hy) hcn ?_ he ?_ (Q:=fun r os'=>r=res∧os'=[(b,some (l'.flatMap AV.cells))]) ?_ ?_)
  ·simp only [List.toList_toArray,List.map_cons,hevs,AV.nownL,Bool.and_eq_true]
   exact ⟨by simp [ev,T,AV.nown],hxs⟩
  ·intro q cs hq
   simp only [O] at hq ⊢
   split at hq
   ·rename_i e;rw [if_pos e];exact hq
   ·cases hq
  ·have:ev ((i,.arr b 0 l.length sz)::t) (.tmp i)=.arr b 0 l.length sz:=by simp [ev,T]
   simp only [List.toList_toArray,List.map_cons,hevs,this,List.cons_append]
   exact hg b
  ·rintro r os' ⟨rfl,rfl⟩
   simp only [List.map_cons,List.map_nil,dropO]
   by_cases hdi:o.dst=some i
   ·refine Imp.weak (t':=put ((i,.sl true sz l')::t) o.dst r) (o':=os) ⟨rfl,hK⟩ (fun j=>.inl ?_) ?_
    ·rw [hdi];simp only [put,T_cons]
     by_cases e:i=j
     ·simp [e]
     ·simp [e]
    ·intro q cs hq
     have hne:b≠q:=fun e=>hfr q cs hq e.symm
     simp only [List.cons_append,List.nil_append,O,if_neg hne];exact hq
   ·have hTi:T (put ((i,.arr b 0 l.length sz)::t) o.dst r) i=.arr b 0 l.length sz:=by
     rw [T_put,if_neg hdi];simp [T]
    refine Imp.bind (Q:=fun s'=>s'=⟨n,(i,.sl true sz l')::put ((i,.arr b 0 l.length sz)::t) o.dst r,(b,none)::([(b,some (l'.flatMap AV.cells))]++(b,none)::(b,some (l.flatMap AV.cells))::os)⟩) (Imp.fold i (b:=b) (len:=l.length) (sz:=sz) (cells:=l'.flatMap AV.cells) (l:=l') hTi (by simp [O]) hlen ?_ hel' rfl) ?_
    ·rw [List.take_of_length_le];rw [flat_elem_len hel',hlen];exact Nat.le_refl _
    ·rintro _ rfl
     refine Imp.weak (t':=put ((i,.sl true sz l')::t) o.dst r) (o':=os) ⟨rfl,hK⟩ (fun j=>.inl ?_) ?_
     ·simp only [T_cons,T_put]
      by_cases e:i=j
      ·subst e;simp [hdi]
      ·simp [e]
     ·intro q cs hq
      have hne:b≠q:=fun e=>hfr q cs hq e.symm
      simp only [List.cons_append,List.nil_append,O,if_neg hne];exact hq
 ·intro e0
  obtain ⟨hp,rfl⟩:=hnil e0
  subst e0
  have hevs:=evs_cons_ne (t:=t) (x:=.sl false sz []) hxs hi
  have hthis:ev ((i,.sl false sz [])::t) (.tmp i)=.sl false sz []:=by simp [ev,T]
  have hl:LOp L P ⟨n,(i,.sl false sz [])::t,os⟩ o res []:=lop_callv (L:=L) (s:=⟨n,(i,.sl false sz [])::t,os⟩) (res:=res) ho rfl (by rw [ev_cons_ne hyi];exact hy) hcn (CallOK.pure he (by
    simp only [List.toList_toArray,List.map_cons,hevs,hthis,List.cons_append,AV.nownL,Bool.and_eq_true]
    exact ⟨rfl,hn⟩) (by
    simp only [List.toList_toArray,List.map_cons,hevs,hthis,List.cons_append]
    exact hp))
  intro B F0 w0 a w next Q hden hnext
  obtain ⟨F,own,fp,fs,hD⟩:=hden
  refine hl B F0 w0 F own fp fs a w next Q { hD with slots:=?_ } fun v w' g=>?_
  ·intro j
   have:=hD.slots j
   simp only [T_cons] at this ⊢
   by_cases e:i=j
   ·subst e
    simp only [if_true,Rep] at this ⊢
    exact .inl ⟨.inl this.1,by trivial,this.2⟩
   ·simp only [if_neg e] at this ⊢;exact this
  ·obtain ⟨F',fx,h1,h2,h3,h4,h5⟩:=g.rep
   have hden':=hD.put [] o.dst hd g.below h1 h2 h3 h4 h5
   simp only [killL] at hden'
   by_cases hdi:o.dst=some i
   ·refine hnext ⟨n,put ((i,.sl true sz [])::t) o.dst res,os⟩ _ _ ⟨rfl,hK⟩ (hden'.weaken rfl (fun j=>.inl ?_) (fun _ _ h=>h))
    rw [hdi];simp only [put,T_cons]
    by_cases e:i=j
    ·simp [e]
    ·simp [e]
   ·have hTi:T (put ((i,.v (.slice none 0 0))::t) o.dst res) i=.v (.slice none 0 0):=by
     rw [T_put,if_neg hdi];simp [T]
    obtain ⟨s2,rfl,hd2⟩:=Imp.nilSl (L:=L) (n:=n) (os:=os) i sz hTi (Q:=fun s'=>s'=⟨n,(i,.sl true sz [])::put ((i,.v (.slice none 0 0))::t) o.dst res,os⟩) rfl B F0 w0 _ _ hden'
    refine hnext ⟨n,put ((i,.sl true sz [])::t) o.dst res,os⟩ _ _ ⟨rfl,hK⟩ (hd2.weaken rfl (fun j=>.inl ?_) (fun _ _ h=>h))
    simp only [T_cons,T_put]
    by_cases e:i=j
    ·subst e;simp [hdi]
    ·simp [e]
theorem lowF_rep{B F0:Nat→Prop}{w0:World}{F:Nat→Prop}{own:Nat→Own}{fp fs:Nat→List Nat}{s:AS}{a:Act}{w:World}(h:DenAt L B F0 w0 F own fp fs s a w)(all:List Operand) :
  ∀ xs:List Operand,(∀ x,x∈xs→x∈all)→RepL L (fun b=>F b∨∃ i,i∈kills s.t all∧b∈fp i) w (lowF (xs.map (ev s.t))) (xs.map a.eval) []
 | [],_=>by simp [RepL,lowP]
 | x::xs,hx=>by
  have ih:=lowF_rep h all xs fun y hy=>hx y (by simp [hy])
  have hr:=h.ev x
  have hid:Ext (fun _=>True) w w:=⟨Nat.le_refl _,fun _ _=>rfl,fun b c T z hc=>⟨c,hc,rfl⟩⟩
  simp only [List.map_cons,lowP,RepL]
  refine ⟨_,_,[],[],rfl,rfl,?_,ih⟩
  cases hn:(ev s.t x).nown with
  | true =>
   rw [Rep.fp_nil hn hr] at hr
   exact Rep.ext hid (fun b hb=>⟨.inl hb,trivial⟩) (by simp) hr
  | false =>
   exact Rep.frz (fun b hb=>.inl hb) (fun b hb=>.inr (fpo_kills h (hx x (by simp)) b hb)) hr
theorem lowF_app:∀ l m:List AV,lowF (l++m)=lowF l++lowF m
 | [],_=>rfl
 | x::l,m=>by simp only [List.cons_append,lowP,lowF_app l m]
theorem lowF_nown:∀ {l:List AV},AV.nownL l=true→lowF l=l
 | [],_=>rfl
 | x::l,h=>by
  simp only [AV.nownL,Bool.and_eq_true] at h
  simp only [lowP,h.1,cond_true,lowF_nown h.2]
theorem lop_callF{s:AS}{y:Operand}{xs:Array Operand}{ts:Array TypeId}{f:FuncId}{caps:List AV}{res:AV}(ho:o.op=.call ⟨.value y,xs,ts⟩)(hy:fnA (ev s.t y)=some (f,caps))
  (hcn:AV.nownL caps=true) (he:enters P f=true) (hp:PureC L P f (lowF (xs.toList.map (ev s.t)++caps)) res):LOp L P s o res (kills s.t xs.toList):=by
 intro B F0 w0 F own fp fs a w next Q h hnext
 obtain ⟨cvs,hcr,hex⟩:=call_exec (P:=P) h ho hy hcn he
 unfold Oper.wp
 rw [hex]
 have hid:Ext (fun _=>True) w w:=⟨Nat.le_refl _,fun _ _=>rfl,fun b c T z hc=>⟨c,hc,rfl⟩⟩
 have hall:=RepL.join (lowF_rep h xs.toList xs.toList fun _ h=>h) (RepL.ext (F':=fun b=>F b∨∃ i,i∈kills s.t xs.toList∧b∈fp i) hid (fun b hb=>⟨.inl hb,trivial⟩) (by simp) hcr)
 rw [List.append_nil] at hall
 rw [lowF_app,lowF_nown hcn] at hp
 refine (hp w _ _ (fun b hb=>?_) (h.tb.kp h.below h.hB) hall).mono ?_
 ·rcases hb with hb|⟨i,_,hb⟩
  ·exact (h.fl b hb).2.1
  ·exact (h.fp_lt hb).2
 rintro e w' ⟨v,F',fp',rfl,h1,h2,h3,h4,h5,h6⟩
 refine hnext v w' ⟨Kp.of_below h1,F',fp',fun b hb=>h2 b (.inl hb),fun b hb=>?_,h4,h5,fun b hb=>⟨(h6 b hb).1,.inr (h6 b hb).2⟩⟩
 rcases h3 b hb with (e|e)|e
 ·exact .inl e
 ·exact .inr (.inr e)
 ·exact .inr (.inl e)
theorem T_frzT(t:List (Nat×AV)):∀ (js:List Nat) (i:Nat),T (frzT t js) i=if i∈js then (T t i).frz else T t i
 | [],i=>by simp [frzT]
 | j::js,i=>by
  simp only [frzT,T_cons,T_frzT t js i,List.mem_cons]
  by_cases e:j=i
  ·subst e;simp
  ·have:¬ i=j:=fun h=>e h.symm
   simp only [if_neg e,this,false_or]
mutual
theorem AV.frz_frz:∀ x:AV,x.frz.frz=x.frz
 | .sl o sz l=>by cases o<;>simp only [AV.frz,cond_true,cond_false]
 | .agg l=>by simp only [AV.frz,AV.frzL_frzL l]
 | .tup l=>by simp only [AV.frz,AV.frzL_frzL l]
 | .fn f l=>by simp only [AV.frz,AV.frzL_frzL l]
 | .cnd g x=>by simp only [AV.frz,AV.frz_frz x]
 | .pin _ x=>by simp only [AV.frz,AV.frz_frz x]
 | .dead|.v ..|.str ..|.vp ..|.arr ..|.ptr ..=>by simp only [AV.frz]
theorem AV.frzL_frzL:∀ l:List AV,AV.frzL (AV.frzL l)=AV.frzL l
 | []=>rfl
 | x::xs=>by simp only [AV.frzL,AV.frz_frz x,AV.frzL_frzL xs]
end
theorem Imp.frzs{n:Nat}{t:List (Nat×AV)}{o:Sto}{Q:AS→Prop}:∀ (js:List Nat),Imp L ⟨n,frzT t js,o⟩ Q→Imp L ⟨n,t,o⟩ Q
 | [],h=>h
 | j::js,h=>by
  refine Imp.frzs js ?_
  refine Imp.bind (Imp.frz (Q:=fun s=>s=_) j rfl) ?_
  rintro _ rfl
  refine Imp.bind (Imp.weak (t':=frzT t (j::js)) (o':=o) (Q:=fun s=>s=⟨n,frzT t (j::js),o⟩) rfl (fun i=>.inl ?_) (fun _ _ h=>h)) (fun s hs=>by rw [hs];exact h)
  simp only [frzT,T_cons,T_frzT]
  by_cases e:j=i
  ·subst e
   simp only [if_true]
   by_cases e2:j∈js
   ·rw [if_pos e2,AV.frz_frz]
   ·rw [if_neg e2]
  ·simp only [if_neg e]
theorem evs_frz{t:List (Nat×AV)}{all:List Operand}:∀ {xs:List Operand},(∀ x,x∈xs→x∈all)→xs.map (ev (frzT t (kills t all)))=lowF (xs.map (ev t))
 | [],_=>rfl
 | x::xs,h=>by
  simp only [List.map_cons,lowF,lowP]
  rw [show lowP (xs.map (ev t))=lowF (xs.map (ev t)) from rfl,evs_frz (t:=t) (xs:=xs) fun y hy=>h y (by simp [hy])]
  congr 1
  cases x with
  | tmp i =>
   simp only [ev,T_frzT]
   cases hn:(T t i).nown with
   | true=>rw [if_neg (fun hm=>by have:=(mem_kills_iff.1 hm).2;rw [hn] at this;cases this)];rfl
   | false=>rw [if_pos (mem_kills_iff.2 ⟨h _ (by simp),hn⟩)];rfl
  | const v =>
   simp only [ev]
   have:(avz v).frz=avz v:=by
    cases v with
    | string s=>simp only [avz];cases Nat.ble s.data.toList.length 4611686018427387904<;>rfl
    | _=>rfl
   rw [this];cases (avz v).nown<;>rfl
  | global g=>rfl
  | func f=>rfl
theorem ncall_sound{y:Operand}{args:Array Operand}{ts:Array TypeId}{f:FuncId}{caps:List AV}(ho:o.op=.call ⟨.value y,args,ts⟩)(hd:dstOK n o.dst=true)(hy:fnA (ev t y)=some (f,caps))(hcn:AV.nownL caps=true)
  (h:CallN L P os (reachO os (args.toList.map (ev t)++caps)) (lowF (args.toList.map (ev t)++caps)) (borOf t args.toList) (args.toList.tail.map (ev t)++caps) f (args.toList.map (ev t)++caps) (K:=⟨fun res os'=>K (put t o.dst res) os'⟩) (KB:=⟨fun i sz l' res=>K (put ((i,.sl true sz l')::t) o.dst res) os⟩) (KX:=⟨⟨t,slot0 args.toList,fun i x res=>K (put ((i,x)::t) o.dst res) os,fun res=>K (put (killL t (kills t args.toList)) o.dst res) os,fun i sz l' res=>memN (kills t args.toList.tail) i=false∧K (put ((i,.sl true sz l')::frzT t (kills t args.toList.tail)) o.dst res) os⟩⟩)):OpW L P o ⟨n,t,os⟩ (fun s'=>s'.n=n∧K s'.t s'.o):=by
 have hne:∀ (z:AV) (l:List AV),args.toList.map (ev t)++caps=z::(args.toList.tail.map (ev t)++caps)→∃ a0 xs,args=(a0::xs).toArray∧ev t a0=z:=by
  intro z l e
  cases hargs:args.toList with
  | nil =>
   rw [hargs] at e
   have:=congrArg List.length e
   simp at this
  | cons a0 xs =>
   rw [hargs] at e
   simp only [List.map_cons,List.cons_append,List.cons.injEq] at e
   exact ⟨a0,xs,by apply Array.ext';simpa using hargs,e.1⟩
 obtain ⟨he,⟨hn,Q,hg,hK⟩|⟨res,hcl,hp,hK⟩|⟨la',res,hll,hcl,hp,hK⟩|⟨i,sz,l,hbo,hn,res,l',hb,hK⟩|⟨g,x,x',res,i,ha0,hT,hn,hC,hK⟩|⟨g,pre,px,post,x',res,i,ha,hT,hdt,hn,hC,hK⟩|⟨g,pre,px,post,x',res,b,ha,hO,hdt,hn,hC,hK⟩|⟨res,hp,hK⟩|⟨x0,lar,i,sz,l,hla,hbo,hn,res,l',hb,hmem,hK⟩⟩:=h
 ·have hn':AV.nownL (args.toList.map (ev t))=true:=nownL_left hn
  refine OpW.post (opw_gcallN (s:=⟨n,t,os⟩) ho rfl hd hy hcn hn' he (fun b cells=>O_reach) hg fun res os' hQ hnew=>?_)
  rcases hK res os' hQ with ⟨hkeys,hKK⟩|⟨hrs,b0,cells0,rfl,hKK⟩
  case inr =>
   have hnf:nfO os b0:=Fresh.nf fun b' cells' hO=>hnew b0 cells0 (by simp [O]) (by rw [hrs];simp) b' cells' hO
   refine Imp.weak (t':=put t o.dst res) (o':=(b0,some cells0)::os) ⟨rfl,hKK hnf⟩ (fun _=>.inl rfl) ?_
   intro q cs hq
   rw [hrs]
   simpa [dropO] using hq
  refine Imp.weak (t':=put t o.dst res) (o':=mergeO os os') ⟨rfl,hKK⟩ (fun _=>.inl rfl) ?_
  intro q cs hq
  rw [O_merge] at hq
  rw [O_append,O_drop,← hkeys]
  by_cases e:q∈os'.map Prod.fst
  ·rw [if_pos e]
   by_cases e2:q∈os.map Prod.fst
   ·rw [if_pos ⟨e,e2⟩] at hq;exact hq
   ·rw [if_neg (fun h=>e2 h.2)] at hq
    exact absurd (O_keys hq) e2
  ·rw [if_neg e,if_neg e]
   rw [if_neg (fun h=>e h.1)] at hq;exact hq
 ·exact (lop_callv (s:=⟨n,t,os⟩) ho rfl hy hcn ⟨he,.inr ⟨_,lowF_low os _,hcl,hp⟩⟩).opW hd ⟨rfl,by simpa [killL] using hK⟩
 ·exact (lop_callv (s:=⟨n,t,os⟩) ho rfl hy hcn ⟨he,.inr ⟨_,hll,hcl,hp⟩⟩).opW hd ⟨rfl,by simpa [killL] using hK⟩
 ·obtain ⟨i',xs,hargs,hT⟩:∃ i' xs,args.toList=.tmp i'::xs∧i'=i∧T t i=.sl true sz l:=by
   unfold borOf at hbo
   split at hbo
   ·rename_i i' xs hargs
    split at hbo
    ·rename_i sz' l'' hT
     cases hbo
     exact ⟨i,xs,hargs,rfl,hT⟩
    ·cases hbo
   ·cases hbo
  obtain ⟨rfl,hT⟩:=hT
  rw [hargs] at hb hn
  have ha:args=(.tmp i'::xs).toArray:=by apply Array.ext';simpa using hargs
  subst ha
  exact bcall_sound ho hd hy hcn hT he hn hb hK
 ·obtain ⟨xs,hargs⟩:∃ xs,args.toList=.tmp i::xs:=by
   simp only [slot0] at ha0
   split at ha0
   ·rename_i i' xs hargs
    cases ha0;exact ⟨xs,hargs⟩
   ·cases ha0
  rw [hargs] at hn hC
  have ha:args=(.tmp i::xs).toArray:=by apply Array.ext';simpa using hargs
  subst ha
  exact opw_inD ho hd hy hcn he hT (nownL_left hn) hC ⟨rfl,hK⟩
 ·obtain ⟨a0,xs,rfl,hz⟩:=hne _ [] ha
  exact opw_inS ho hd hy hcn he hT hz hdt (nownL_left hn) hC ⟨rfl,hK⟩
 ·obtain ⟨a0,xs,rfl,hz⟩:=hne _ [] ha
  refine OpW.post (opw_inO ho hd hy hcn he hO hz hdt (nownL_left hn) hC ?_)
  refine Imp.weak (t':=put t o.dst res) (o':=updO os b (some (pre++(repinL px x'++post)))) ⟨rfl,hK⟩ (fun _=>.inl rfl) ?_
  intro q cs hq
  rcases O_updE hO q cs hq with ⟨rfl,rfl⟩|⟨hne,hq⟩
  ·simp [O]
  ·rw [O_ne (fun e=>hne e.symm)];exact hq
 ·exact (lop_callF (s:=⟨n,t,os⟩) ho hy hcn he hp).opW hd ⟨rfl,hK⟩
 ·obtain ⟨i',xs,hargs,hT⟩:∃ i' xs,args.toList=.tmp i'::xs∧i'=i∧T t i=.sl true sz l:=by
   unfold borOf at hbo
   split at hbo
   ·rename_i i' xs hargs
    split at hbo
    ·rename_i sz' l'' hT
     cases hbo
     exact ⟨i,xs,hargs,rfl,hT⟩
    ·cases hbo
   ·cases hbo
  obtain ⟨rfl,hT⟩:=hT
  rw [hargs] at hmem hK hla
  simp only [List.tail_cons] at hmem hK
  have hi:i' ∉ kills t xs:=fun h=>by rw [memN_iff.2 h] at hmem;cases hmem
  have ha:args=(.tmp i'::xs).toArray:=by apply Array.ext';simpa using hargs
  subst ha
  simp only [List.map_cons,List.cons_append,lowF,lowP,List.cons.injEq] at hla
  have hlar:xs.map (ev (frzT t (kills t xs)))++caps=lar:=by
   rw [← hla.2,show lowP (xs.map (ev t)++caps)=lowF (xs.map (ev t)++caps) from rfl,lowF_app,lowF_nown hcn,evs_frz fun _ h=>h]
  have hy':fnA (ev (frzT t (kills t xs)) y)=some (f,caps):=by
   cases y with
   | tmp j =>
    have hj:j ∉ kills t xs:=fun h=>by
     have h2:=(mem_kills_iff.1 h).2
     simp only [ev] at hy
     cases hv:T t j with
     | fn g c=>rw [hv] at hy h2;simp only [fnA,Option.some.injEq,Prod.mk.injEq] at hy;rw [← hy.2] at hcn;simp only [AV.nown] at h2;rw [h2] at hcn;cases hcn
     | v u=>rw [hv] at h2;cases h2
     | _=>rw [hv] at hy;cases hy
    simp only [ev,T_frzT,if_neg hj];exact hy
   | _=>exact hy
  refine OpW.imp (Imp.frzs (kills t xs) (Imp.id ?_))
  exact bcall_sound ho hd hy' hcn (by rw [T_frzT,if_neg hi];exact hT) he (by rw [hlar];exact hn) (by rw [hlar];exact hb) hK
theorem copy_sound{c:Call}{x y:Operand}{t1 u:TypeId}(ho:o.op=.call c)(hc:c=⟨.builtin .copy,#[x,y],#[t1,u]⟩)(hd:dstOK n o.dst=true)(h:copVc L P os t o.dst x y t1 u K):OpW L P o ⟨n,t,os⟩ (fun s'=>s'.n=n∧K s'.t s'.o):=by
 subst hc
 unfold copVc at h
 split at h
 case h_2=>exact h.elim
 rename_i e sz by_ b off len z he hx
 split at h
 case h_2=>exact h.elim
 rename_i cells m cs hO hs
 obtain ⟨⟨rfl,hk,hone,hnow⟩,rfl,hle,hK⟩:=h
 obtain ⟨i,ht,hi,hisz,_⟩:=elm_inv he
 refine OpW.post ?_
 ·intro B F0 w0 a w next Q hden hnext
  obtain ⟨F,own,fp,fs,h⟩:=hden
  have hr:=h.ev x
  rw [hx] at hr
  simp only [Rep] at hr
  obtain ⟨_,cap,hxv,_,_,_⟩:=hr
  obtain ⟨news,f,hsrc,hnl,hrn,_,_⟩:=src_of (P:=P) h hs (knd_src hk)
  rw [RepL.fp_nil hnow hrn] at hrn
  obtain ⟨hkey,hfsn,hfso,c,Ty,vals,rest,hc,hcl,hrep⟩:=h.obj b cells hO
  have hvl:=hrep.len
  have hbB:=h.ol b (by rw [hkey];simp)
  have hclen:c.size=vals.length+rest.length:=by rw [← Array.length_toList,hcl];simp
  have hst:=run_storeCells_at P b off Ty news 0 c w hc (by omega) (hrn.ones hone)
  simp only [Nat.add_zero] at hst
  have hf:=hsrc.first w rfl
  have hex:(execOp a.eval o).run P w=.ok (.value (.int .i64 m)) (w.setRow b (c.toList.take off++news++c.toList.drop (off+news.length)).toArray):=by
   simp [execOp,ho,resolve,invoke,builtin,Builtin.copy_,hxv,run_underlying ht,sizeOf,typeInfo,hi,hisz,hsrc.len,hf,hst,goInt]
  unfold Oper.wp
  rw [hex]
  obtain ⟨f',hf',hnd,hmem⟩:=hrep.splice hrn off (m * z) (by rw [← hnl,hrn.len]) hle
  have hsz:(c.toList.take off++news++c.toList.drop (off+news.length)).toArray.size=c.size:=by
   have:c.toList.length=c.size:=by simp
   simp only [List.size_toArray,List.length_append,List.length_take,List.length_drop,this];omega
  have hext:=Ext.setRow w b _ c Ty _ hc hsz
  have hFS:∀ b',F b'→F b'∧(b'<w.heap.size∧b' ∉ [b]):=fun b' hb'=>⟨hb',(h.fl b' hb').2.1,fun hd'=>by
   have e0:b'=b:=by simpa using hd'
   have e1:=(h.fl b' hb').1;rw [e0,hkey] at e1;cases e1⟩
  have hfn':∀ k,k∈f'→own k=.obj b:=by
   intro k hk
   rcases hmem k hk with hk|hk
   ·exact hfso k hk
   ·simp at hk
  have hSk:∀ k,k∈f'→k<w.heap.size∧k ∉ [b]:=by
   intro k hk
   have e:=hfn' k hk
   refine ⟨(h.ol k (by rw [e];simp)).2,fun hd'=>?_⟩
   have e0:k=b:=by simpa using hd'
   rw [e0,hkey] at e;cases e
  have:=h.renew (w':=w.setRow b (c.toList.take off++news++c.toList.drop (off+news.length)).toArray) (x:=.v (.int .i64 m)) (v:=.int .i64 m) [] [b] b _ f' o.dst hd ⟨rfl,rfl,rfl⟩ hext (by simpa using hkey) (.inl (by simp))
   ⟨_,Ty,_,rest.drop 0,heap_setRow_same w b _ c Ty _ hc,by
    simp only [List.drop_zero]
    rw [hcl,List.take_append_of_le_length (by omega),List.drop_append_of_le_length (by omega),hnl]
    simp only [List.append_assoc],RepL.ext hext hFS hSk hf'⟩ (hnd (by simpa using hfsn)) (fun k hk=>.inr ⟨b,by simp,hfn' k hk⟩) (by simp [Rep])
  refine hnext _ _ _ ?_ this
  refine Imp.weak (t':=put t o.dst (.v (.int .i64 m))) (o':=updO os b (some (cells.take off++cs++cells.drop (off+m * z)))) ⟨rfl,hK⟩ (fun _=>.inl rfl) ?_
  intro q cs' hq
  rcases O_updE hO q cs' hq with ⟨rfl,rfl⟩|⟨hne,hq⟩
  ·simp [O]
  ·rw [O_ne (fun e=>hne e.symm),O_drop,if_neg (by simpa using hne)];exact hq
theorem nvc_sound(hd:dstOK n o.dst=true)(h:nvc L P os t o.dst o.op K):OpW L P o ⟨n,t,os⟩ (fun s'=>s'.n=n∧K s'.t s'.o):=by
 have dflt:ovc L P os (ev t) true o.op (fun x C=>K (put (killL t C) o.dst x) os)→OpW L P o ⟨n,t,os⟩ (fun s'=>s'.n=n∧K s'.t s'.o):=by
  intro h
  obtain ⟨x,C,hK,_,hl⟩:=ovc_sound h
  exact (hl rfl ⟨n,t,os⟩ (fun _ _=>rfl) rfl).opW hd ⟨rfl,hK⟩
 cases ho:o.op with
 | alloc ty' =>
  rw [ho] at h
  simp only [nvc] at h
  split at h
  ·rename_i zs hz;exact alloc_sound ho hd hz h
  ·exact h.elim
 | store ty' ad x =>
  rw [ho] at h
  simp only [nvc] at h
  split at h
  ·rename_i b off g m hdst ha ht
   split at h
   ·rename_i cells hO
    obtain ⟨⟨hel,hone⟩,hle,hK⟩:=h
    refine OpW.post (opw_store (s:=⟨n,t,os⟩) ho hdst ha hO ht hel hone hle ?_)
    refine Imp.weak (t':=killL t (kills t [x])) (o':=updO os b (some (cells.take off++(ev t x).cells++cells.drop (off+m)))) ⟨rfl,hK⟩ (fun _=>.inl rfl) ?_
    intro q cs hq
    rcases O_updE hO q cs hq with ⟨rfl,rfl⟩|⟨hne,hq⟩
    ·simp [O]
    ·rw [O_ne (fun e=>hne e.symm),O_drop,if_neg (by simpa using hne)];exact hq
   ·exact h.elim
  ·exact h.elim
 | load ty' x =>
  have h0:=h
  rw [ho] at h
  simp only [nvc] at h
  split at h
  ·rename_i b off hx
   split at h
   ·rename_i cells g m hO ht
    split at h
    ·rename_i y hy
     split at h
     ·rename_i hny
      exact (lop_load_ptr (s:=⟨n,t,os⟩) ho hx hO ht hy hny).opW hd ⟨rfl,by simpa [killL] using h⟩
     ·split at h
      ·rename_i hu
       exact (lop_load_ptrZ (s:=⟨n,t,os⟩) ho hx hO ht hy fun _ _ _ _ r=>Rep.cpy hu r).opW hd ⟨rfl,by simpa [killL] using h⟩
      ·obtain ⟨⟨h1,hle⟩,hK⟩:=h
       refine OpW.post (opw_takeD (s:=⟨n,t,os⟩) ho hd hx hO ht hy h1 hle ?_)
       refine Imp.weak (t':=put t o.dst y) (o':=updO os b (some (cells.take off++List.replicate m .dead++cells.drop (off+m)))) ⟨rfl,hK⟩ (fun _=>.inl rfl) ?_
       intro q cs hq
       rcases O_updE hO q cs hq with ⟨rfl,rfl⟩|⟨hne,hq⟩
       ·simp [O]
       ·rw [O_ne (fun e=>hne e.symm)];exact hq
    ·exact h.elim
   ·exact h.elim
  ·rw [← ho] at h;exact dflt h
 | extract x k =>
  rw [ho] at h
  simp only [nvc] at h
  split at h
  ·rename_i i l hx
   split at h
   ·rename_i y hy
    split at h
    ·rename_i hny
     exact (lop_extract (s:=⟨n,t,os⟩) ho hx hy hny).opW hd ⟨rfl,by simpa [killL] using h⟩
    ·exact opw_extractD (s:=⟨n,t,os⟩) ho hd hx hy ⟨rfl,h⟩
   ·exact h.elim
  ·exact h.elim
 | makeSlice ty' x y =>
  rw [ho] at h
  simp only [nvc] at h
  split at h
  ·rename_i e sz bytes k m k' m' ht hx hy
   split at h
   ·rename_i zs hz
    obtain ⟨⟨hzl,hm⟩,⟨g0,g1,g2,g3⟩,hK⟩:=h
    exact make_sound ho hd ht hz hzl hx hy hm g0 g1 g2 g3 hK
   ·exact h.elim
  ·exact h.elim
 | call c =>
  obtain ⟨callee,args,ts⟩:=c
  have h0:=h
  rw [ho] at h
  simp only [nvc] at h
  split at h
  ·rename_i y _
   split at h
   ·rename_i f caps hf
    exact ncall_sound ho hd hf h.1 h.2
   ·exact h.elim
  ·rename_i x y t1 u e2 e3
   have h1:args=#[x,y]:=by apply Array.ext';simpa using e2
   have h2:ts=#[t1,u]:=by apply Array.ext';simpa using e3
   exact app_sound ho (by rw [h1,h2]) hd h
  ·rename_i x y t1 u e2 e3
   have h1:args=#[x,y]:=by apply Array.ext';simpa using e2
   have h2:ts=#[t1,u]:=by apply Array.ext';simpa using e3
   exact copy_sound ho (by rw [h1,h2]) hd h
  ·rw [← ho] at h;exact dflt h
 | box ty' x =>
  rw [ho] at h
  simp only [nvc] at h
  split at h
  ·split at h
   ·exact box_sound ho hd h.1 h.2
   ·exact h.elim
  ·rcases h with h|h
   ·rw [← ho] at h;exact dflt h
   ·split at h
    ·exact box_sound ho hd h.1 h.2
    ·exact h.elim
 | _ =>
  refine dflt ?_
  rw [ho] at h ⊢
  simpa only [nvc] using h
end
section
variable {L : Nat → Nat} {P : Program} {ops : Array Oper} {n : Nat}
def AlOK(al:List (Nat×Nat))(a:Act):Prop:=∀ p,p∈al→a.tmps.getD p.1 undef=a.tmps.getD p.2 undef
theorem alF_ok{al:List (Nat×Nat)}{a:Act}(h:AlOK al a)(j:Nat):a.tmps.getD (alF al j) undef=a.tmps.getD j undef:=by
 induction al with
 | nil=>rfl
 | cons p al ih =>
  simp only [alF]
  have ih':=ih fun q hq=>h q (by simp [hq])
  cases e:Nat.beq p.1 j with
  | true =>
   have:p.1=j:=Nat.eq_of_beq_eq_true e
   subst this
   exact (h p (by simp)).symm
  | false=>exact ih'
theorem sbs_ok{al:List (Nat×Nat)}{a:Act}(h:AlOK al a)(x:Operand):a.eval (sbs al x)=a.eval x:=by
 cases x with
 | tmp j=>exact alF_ok h j
 | _=>rfl
theorem mem_alDel{al:List (Nat×Nat)}{d:Nat}{p:Nat×Nat}(h:p∈alDel al (some d)):p∈al∧p.1≠d∧p.2≠d:=by
 induction al with
 | nil=>simp [alDel] at h
 | cons q al ih =>
  simp only [alDel] at h
  cases e:(Nat.beq q.1 d || Nat.beq q.2 d) with
  | true=>rw [e] at h;have:=ih h;exact ⟨by simp [this.1],this.2⟩
  | false =>
   rw [e] at h
   rcases List.mem_cons.1 h with rfl|h
   ·have e':Nat.beq p.1 d=false∧Nat.beq p.2 d=false:=by simpa using e
    exact ⟨by simp,fun h=>by (rw [h,Nat.beq_refl] at e';cases e'.1),fun h=>by (rw [h,Nat.beq_refl] at e';cases e'.2)⟩
   ·have:=ih h;exact ⟨by simp [this.1],this.2⟩
theorem AlOK.put{al:List (Nat×Nat)}{a a0:Act}{d:Option Nat}{v:Value}(h:AlOK al a)(ha:a0.tmps=a.tmps)(hd:dstOK a.tmps.size d=true):AlOK (alDel al d) (a0.put d v):=by
 cases d with
 | none =>
  have:alDel al none=al:=by cases al<;>rfl
  rw [this]
  intro p hp
  simp only [Act.put,ha];exact h p hp
 | some d =>
  intro p hp
  obtain ⟨h1,h2,h3⟩:=mem_alDel hp
  rw [getD_put a0 (some d) v _ (by rw [ha];exact hd),getD_put a0 (some d) v _ (by rw [ha];exact hd),if_neg (by simpa using fun e=>h2 e.symm),if_neg (by simpa using fun e=>h3 e.symm),ha]
  exact h p h1
theorem exec_al{al:List (Nat×Nat)}{ρ:Operand→Value}(h:∀ x,ρ (sbs al x)=ρ x)(o:Oper):execOp ρ { o with op:=alOp al o.op }=execOp ρ o:=by
 obtain ⟨dst,op,type,pos,after,guard⟩:=o
 have hps:∀ ps:Array (Nat×Operand),((ps.toList.map fun p=>(p.1,sbs al p.2)).toArray.map fun (i,x)=>(i,ρ x))=ps.map fun (i,x)=>(i,ρ x):=by
  intro ps
  apply Array.ext'
  simp [h]
 have hcs:∀ x,(match sbs al x with|.const _=>true|_=>false)=(match x with|.const _=>true|_=>false):=by intro x;cases x<;>rfl
 cases op with
 | move x=>simp only [execOp,alOp,h]
 | assign x=>simp only [execOp,alOp,h]
 | call c =>
  obtain ⟨callee,args,ts⟩:=c
  have h1:((args.toList.map (sbs al)).toArray.map ρ)=args.map ρ:=by
   apply Array.ext'
   simp [h]
  have h2:((args.toList.map (sbs al)).toArray.map fun|.const _=>true|_=>false)=args.map fun|.const _=>true|_=>false:=by
   apply Array.ext'
   simp only [List.map_toArray,Array.toList_map,List.map_map]
   apply List.map_congr_left
   intro x _
   exact hcs x
  cases callee with
  | builtin b =>
   simp only [execOp,alOp,resolve,h1]
   exact congrArg (fun z=>(do let d ← (pure { target:=Target.builtin b ts type z,args:=Array.map ρ args }:Sem Deferred);invoke d.target d.args)) h2
  | _=>simp only [execOp,alOp,resolve,h1]
 | buildSlice t n ps=>simp only [execOp,alOp,hps]
 | build t ps=>simp only [execOp,alOp,hps]
 | store t a x=>simp only [execOp,alOp,h]
 | indexAddr t x i=>simp only [execOp,alOp,h]
 | slice t x lo hi mx=>simp only [execOp,alOp,h]
 | field t x k=>simp only [execOp,alOp,h]
 | extract x k=>simp only [execOp,alOp,h]
 | box t x=>simp only [execOp,alOp,h]
 | convert t u x=>simp only [execOp,alOp,h]
 | _=>rfl
theorem upon_put{o:Oper}{a:Act}{next:Act→World→Prop}{Q:Exit→Act→World→Prop}{r:Result Next}(h:o.upon P a (fun a' w'=>(∃ (a0:Act) (v:Value),a0.tmps=a.tmps∧a'=a0.put o.dst v)→next a' w') Q r):o.upon P a next Q r:=by
 cases r with
 | ok x w =>
  cases x with
  | value v=>exact h ⟨a,v,rfl,rfl⟩
  | skip=>exact h ⟨a,_,rfl,rfl⟩
  | enter f args =>
   refine Calls.mono h ?_
   intro e w'
   cases e with
   | returned v=>exact fun h=>h ⟨a,v,rfl,rfl⟩
   | panicked _=>exact fun h=>h
   | outgrown=>exact fun h=>h
  | row row args=>exact Rows.mono h fun v w' h=>h ⟨a,v,rfl,rfl⟩
  | defer d=>exact h ⟨{ a with defers:=d::a.defers },undef,rfl,rfl⟩
  | _=>exact h
 | halt r w =>
  cases r with
  | panic v=>exact h
  | _=>exact h.elim
def OpsA(L:Nat→Nat)(P:Program)(ops:Array Oper)(l:List Nat)(al:List (Nat×Nat))(s:AS)(K:AS→Prop):Prop :=
 ∀ B F0 w0 a w (Q:Exit→Act→World→Prop),Den L B F0 w0 s a w→AlOK al a→(∀ s' a' w',K s'→Den L B F0 w0 s' a' w'→Q .normal a' w')→wpOps P ops Q l a w
theorem stp_sound{o:Oper}{t:List (Nat×AV)}{os:Sto}{al:List (Nat×Nat)}{K:List (Nat×Nat)→List (Nat×AV)→Sto→Prop}(hd:dstOK n o.dst=true)(h:stp L P os al t o.dst o.op K)
  {B F0:Nat→Prop} {w0:World} {a:Act} {w:World} (hden:Den L B F0 w0 ⟨n,t,os⟩ a w) (hal:AlOK al a) {next:Act→World→Prop} {Q:Exit→Act→World→Prop}
  (hnext:∀ al' t' os' a' w',K al' t' os'→Den L B F0 w0 ⟨n,t',os'⟩ a' w'→AlOK al' a'→next a' w'):o.wp P a w next Q:=by
 have hsz:a.tmps.size=n:=by obtain ⟨F,own,fp,fs,hden⟩:=hden;exact hden.size
 have dflt:nvc L P os t o.dst (alOp al o.op) (K (alDel al o.dst))→o.wp P a w next Q:=by
  intro h
  have e:=exec_al (ρ:=a.eval) (sbs_ok hal) o
  unfold Oper.wp
  rw [← e]
  refine upon_put ?_
  have:=nvc_sound (o:={ o with op:=alOp al o.op }) hd h B F0 w0 a w (fun a' w'=>(∃ (a0:Act) (v:Value),a0.tmps=a.tmps∧a'=a0.put o.dst v)→next a' w') Q hden ?_
  ·exact this
  ·rintro ⟨n',t',os'⟩ a' w' ⟨hn,hK⟩ hD ⟨a0,v,ha0,rfl⟩
   have hn':n=n':=hn.symm
   subst hn'
   exact hnext _ _ _ _ _ hK hD (hal.put ha0 (by rw [hsz];exact hd))
 unfold stp at h
 split at h
 ·rename_i j d hop hdst
  have hev:(execOp a.eval o).run P w=.ok (.value (a.tmps.getD j undef)) w:=by simp [execOp,hop,Act.eval]
  have hd':dstOK n (some d)=true:=by rw [← hdst];exact hd
  split at h
  ·obtain ⟨hne,hK⟩:=h
   unfold Oper.wp
   rw [hev]
   simp only [Oper.upon_value,hdst]
   refine hnext _ _ _ _ _ hK ?_ ?_
   ·obtain ⟨F,own,fp,fs,hD⟩:=hden
    have:=hD.put (x:=.dead) (v:=a.tmps.getD j undef) (fx:=[]) [] (some d) hd' (Kp.refl _ _) (fun _ h=>h) (fun _ h=>.inl h) (by simp [Rep]) (by simp) (by simp)
    simpa [killL,put] using this
   ·have h1:=hal.put (a0:=a) (d:=some d) (v:=a.tmps.getD j undef) rfl (by rw [hsz];exact hd')
    have hne':¬ d=alF al j:=fun e=>by rw [e,Nat.beq_refl] at hne;cases hne
    intro p hp
    rcases List.mem_cons.1 hp with rfl|hp
    ·rw [getD_put a (some d) _ _ (by rw [hsz];exact hd'),getD_put a (some d) _ _ (by rw [hsz];exact hd')]
     simp only [if_true,Option.some.injEq,if_neg hne']
     exact (alF_ok hal j).symm
    ·exact h1 p hp
  ·rename_i hnown
   unfold Oper.wp
   rw [hev]
   simp only [Oper.upon_value,hdst]
   refine hnext _ _ _ _ _ h ?_ (hal.put rfl (by rw [hsz];exact hd'))
   obtain ⟨F,own,fp,fs,hD⟩:=hden
   have hr:=hD.slots (alF al j)
   simp only at hr
   rw [alF_ok hal j,Rep.fp_nil hnown hr] at hr
   have:=hD.put (x:=T t (alF al j)) (v:=a.tmps.getD j undef) (fx:=[]) [] (some d) hd' (Kp.refl _ _) (fun _ h=>h) (fun _ h=>.inl h) hr (by simp) (by simp)
   simpa [killL,put] using this
 ·exact dflt h
theorem T_unc(t:List (Nat×AV))(i:Nat):T (uncT t) i=(T t i).unc:=by
 induction t with
 | nil=>rfl
 | cons p t ih =>
  simp only [uncT,T]
  cases (p.1 == i)<;>simp [ih]
theorem Rep.unc{F:Nat→Prop}{w:World}{x:AV}{y:Value}{fp:List Nat}(h:Rep L F w x y fp):Rep L F w x.unc y fp:=by
 cases x with
 | cnd g x =>
  cases g with
  | true=>simp only [Rep] at h;exact h.1 (by trivial)
  | false=>exact h
 | _=>exact h
theorem Den.unc{B F0:Nat→Prop}{w0:World}{t:List (Nat×AV)}{os:Sto}{a:Act}{w:World}(h:Den L B F0 w0 ⟨n,t,os⟩ a w):Den L B F0 w0 ⟨n,uncT t,os⟩ a w:=by
 obtain ⟨F,own,fp,fs,h⟩:=h
 exact ⟨F,own,fp,fs,{ h with slots:=fun i=>by rw [T_unc];exact (h.slots i).unc }⟩
theorem Wn.toA{K:List (Nat×AV)→Sto→Prop}{K':AS→Prop}(hKK:∀ t os,K t os→K' ⟨n,t,os⟩):∀ (l:List Nat) (al:List (Nat×Nat)) (t:List (Nat×AV)) (os:Sto),Wn L P ops n K l al t os→OpsA L P ops l al ⟨n,t,os⟩ K'
 | [],al,t,os,h=>fun B F0 w0 a w Q hden hal hQ=>hQ _ _ _ (hKK t os (by simpa only [Wn] using h)) hden
 | i::l,al,t,os,h=>by
  intro B F0 w0 a w Q hden hal hQ
  have hsz:a.tmps.size=n:=by obtain ⟨F,own,fp,fs,hden⟩:=hden;exact hden.size
  simp only [Wn] at h
  split at h
  ·exact h.elim
  ·rename_i o ho
   obtain ⟨hd,h⟩:=h
   split at h
   ·rename_i hg
    simp only [wpOps,ho]
    rw [if_pos (by simp [Region.wanted,hg])]
    refine .inl (stp_sound hd h hden hal fun al' t' os' a' w' hK hD hal'=>?_)
    exact Wn.toA hKK l al' t' os' hK B F0 w0 a' w' Q hD hal' hQ
   ·rename_i j want hg
    split at h
    ·exact h.elim
    ·rename_i d hj
     obtain ⟨hlt,h⟩:=h
     split at h
     ·exact h.elim
     ·rename_i G g hgv
      cases hoj:ops[j]? with
      | none=>rw [hoj] at hj;cases hj
      | some oj =>
       rw [hoj] at hj
       have hy:=yielded_of hden hoj hj hgv hlt
       simp only [wpOps,ho,Region.wanted,hg,hy]
       have hskip:∀ x:AV,Den L B F0 w0 ⟨n,put t o.dst (.cnd false x),os⟩ (a.put o.dst undef) w:=by
        intro x
        obtain ⟨F,own,fp,fs,hden⟩:=hden
        have:=hden.put (x:=.cnd false x) (v:=undef) (fx:=[]) [] o.dst hd (Kp.refl _ _) (fun _ h=>h) (fun _ h=>.inl h) (by simp [Rep]) (by simp) (by simp)
        simpa [killL] using this
       have hal0:=hal.put (a0:=a) (v:=undef) rfl (d:=o.dst) (by rw [hsz];exact hd)
       split at h
       ·split at h
        ·obtain ⟨hw,h⟩:=h
         rw [if_neg (by cases G<;>simp_all)]
         exact Wn.toA hKK l _ _ _ h B F0 w0 _ w Q (hskip .dead) hal0 hQ
        ·obtain ⟨hok,h⟩:=h
         obtain ⟨x,C,⟨rfl,hK⟩,_,hl⟩:=ovc_sound h
         cases hw:(G && (g == want)) with
         | true =>
          rw [hw] at hK hok hl
          simp at hw
          obtain ⟨rfl,rfl⟩:=hw
          rw [if_pos (by simp)]
          have hlop:LOp L P ⟨n,t,os⟩ o x []:=LOp.of_strip rfl hok (hl rfl) ⟨n,t,os⟩ (fun _ _=>rfl) rfl
          refine .inl (upon_put ?_)
          refine (hlop.cnd.opW hd (K:=fun s'=>s'=⟨n,put t o.dst (.cnd true x),os⟩) rfl) B F0 w0 a w _ Q hden fun s' a' w' e h'=>?_
          subst e
          rintro ⟨a0,v,ha0,rfl⟩
          refine Wn.toA hKK l _ _ _ hK B F0 w0 _ w' Q ?_ (hal.put ha0 (by rw [hsz];exact hd)) hQ
          simpa [upd,killL] using h'
         | false =>
          rw [hw] at hK
          rw [if_neg (by cases G<;>simp_all)]
          refine Wn.toA hKK l _ _ _ hK B F0 w0 _ w Q ?_ hal0 hQ
          simpa [upd,killL] using hskip x
       ·cases hw:(G && (g == want)) with
        | true =>
         have h1:=h.1 hw
         simp at hw
         obtain ⟨rfl,rfl⟩:=hw
         rw [if_pos (by simp)]
         refine .inl (stp_sound hd h1 hden.unc hal fun al' t' os' a' w' hK hD hal'=>?_)
         exact Wn.toA hKK l al' t' os' hK B F0 w0 a' w' Q hD hal' hQ
        | false =>
         rw [if_neg (by cases G<;>simp_all)]
         exact Wn.toA hKK l _ _ _ (h.2 (by rw [hw];rfl)) B F0 w0 _ w Q (hskip .dead) hal0 hQ
theorem Wn.toOps{K:List (Nat×AV)→Sto→Prop}{K':AS→Prop}(hKK:∀ t os,K t os→K' ⟨n,t,os⟩)(l:List Nat)(t:List (Nat×AV))(os:Sto)(h:Wn L P ops n K l [] t os):OpsW L P ops l ⟨n,t,os⟩ K' :=
 fun B F0 w0 a w Q hden hQ=>Wn.toA hKK l [] t os h B F0 w0 a w Q hden (fun p hp=>by cases hp) hQ
end
section
variable {L : Nat → Nat} {P : Program} {n : Nat} {t : List (Nat × AV)} {o : Sto} {Q : Exit → AS → Prop} {id : Nat} {ops : Array Oper}
theorem AW.sregn{c:Code}(h:∀ K:List (Nat×AV)→Sto→Prop,(∀ t o,AW L P c ⟨n,t,o⟩ Q→K t o)→Wn L P ops n K (List.range ops.size) [] t o):AW L P (.seq (.region id ops false) c) ⟨n,t,o⟩ Q :=
 AW.seq (AW.region (Wn.toOps (K:=fun t o=>AW L P c ⟨n,t,o⟩ Q) (fun _ _ h=>h) _ _ _ (h _ (fun _ _ h=>h))))
theorem AW.regn(h:∀ K:List (Nat×AV)→Sto→Prop,(∀ t o,Q .normal ⟨n,t,o⟩→K t o)→Wn L P ops n K (List.range ops.size) [] t o):AW L P (.region id ops false) ⟨n,t,o⟩ Q :=
 AW.region (Wn.toOps (K:=fun t o=>Q .normal ⟨n,t,o⟩) (fun _ _ h=>h) _ _ _ (h _ (fun _ _ h=>h)))
theorem AW.sdrwn [MixOK P]{c:Code} (h:∀ K:List (Nat×AV)→List (AV×List Nat)→Prop,(∀ t D,(drawOK ops (D.map Prod.snd)=true∧∀ K':List (Nat×AV)→Sto→Prop,(∀ t o,AW L P c ⟨n,t,o⟩ Q→K' t o)→Wn L P ops n K' (List.range' D.length (ops.size - D.length)) [] t o)→K t D) →
   W L P ops [] n o (fun t D _=>K t D) (List.range' 0 ops.size) t []):AW L P (.seq (.region id ops true) c) ⟨n,t,o⟩ Q :=
 AW.seq (AW.draw (W.draw _ 0 _ _ rfl (h (fun t D=>drawOK ops (D.map Prod.snd)=true∧OpsW L P ops (List.range' D.length (ops.size - D.length)) ⟨n,t,o⟩ (fun s'=>AW L P c s' Q)) (fun t D h=>⟨h.1,Wn.toOps (K:=fun t o=>AW L P c ⟨n,t,o⟩ Q) (fun _ _ h=>h) _ _ _ (h.2 _ (fun _ _ h=>h))⟩))))
theorem AW.drwn [MixOK P] (h:∀ K:List (Nat×AV)→List (AV×List Nat)→Prop,(∀ t D,(drawOK ops (D.map Prod.snd)=true∧∀ K':List (Nat×AV)→Sto→Prop,(∀ t o,Q .normal ⟨n,t,o⟩→K' t o)→Wn L P ops n K' (List.range' D.length (ops.size - D.length)) [] t o)→K t D) →
   W L P ops [] n o (fun t D _=>K t D) (List.range' 0 ops.size) t []):AW L P (.region id ops true) ⟨n,t,o⟩ Q :=
 AW.draw (W.draw _ 0 _ _ rfl (h (fun t D=>drawOK ops (D.map Prod.snd)=true∧OpsW L P ops (List.range' D.length (ops.size - D.length)) ⟨n,t,o⟩ (fun s'=>Q .normal s')) (fun t D h=>⟨h.1,Wn.toOps (K:=fun t o=>Q .normal ⟨n,t,o⟩) (fun _ _ h=>h) _ _ _ (h.2 _ (fun _ _ h=>h))⟩)))
end
end Go.Ab
namespace Go.Ab
end Go.Ab
