/- Part of a proof. -/
import Derived.Test.YtbiikafnjialjaaGreatDoorS16
import Derived.Test.YtbiikafnjialjaaGreatDoorS27
set_option linter.all false
open List
namespace Go.Dt
open Go Go.Ab
def jc(d:List ag)(x:ah):List ah->Option (List ah)
 | []=>some [x]
 | y::ys=>if dY d y x=true then (jc d x ys).map (y::·) else if dY d x y=true then some (x::y::ys) else none
def vk(n:ag)(nm v:Str)(e:Bool)(ks:Option (List ah)):Option (Option ah) :=
 if n.aj=3\/n.aj=4 then (if cvB n.fType v=true/\e=true then some (some (.mk nm (cvS n.fType v) [])) else none)
 else match ks with
  | none=>none
  | some ks=>if v=[]/\kyB n (.mk nm [] ks)=true then (if n.aj=1/\n.bQ=false/\ks=[] then some none else some (some (.mk nm [] ks))) else none
def iz:List ag->List ah->List ah->Option (List ah)
 | _,acc,[]=>some acc
 | d,acc,.mk nm v ks::xs =>
  if idx (nmP nm) d<0 then none else
  match vk (at_ d (idx (nmP nm) d).toNat) nm v ks.isEmpty (iz (dk (at_ d (idx (nmP nm) d).toNat).af) [] ks)with
  | none=>none
  | some none=>iz d acc xs
  | some (some y)=>match jc d y acc with
   | none=>none
   | some acc'=>iz d acc' xs
def ma(d:List ag)(x:ah):Option (Option ah) :=
 if idx (nmP x.ae) d<0 then none else
 vk (at_ d (idx (nmP x.ae) d).toNat) x.ae x.aq x.af.isEmpty (iz (dk (at_ d (idx (nmP x.ae) d).toNat).af) [] x.af)
def u6(d:List ag)(acc:List ah):iz d acc []=some acc:=by rw[iz]
def sD(d:List ag)(acc:List ah)(x:ah)(xs:List ah):iz d acc (x::xs)=match ma d x with
  | none=>none
  | some none=>iz d acc xs
  | some (some y)=>match jc d y acc with
   | none=>none
   | some acc'=>iz d acc' xs:=by
 cases x with
 | mk nm v ks =>
  rw[iz,ma];by_cases h:idx (nmP nm) d<0
  ·rw[if_pos h,if_pos (show idx (nmP (ah.mk nm v ks).ae) d<0 from h)]
  ·rw[if_neg h,if_neg (show ¬idx (nmP (ah.mk nm v ks).ae) d<0 from h)];rfl
def fo(d:List ag):List ah->Option (List (Int×ah))
 | []=>some []
 | x::xs=>match ma d x with
  | none=>none
  | some none=>fo d xs
  | some (some y)=>(fo d xs).map ((idx (nmP x.ae) d,y)::·)
def cfR(d:List ag)(a b:Int×ah):Int:=if a.1=b.1 then jr (at_ d a.1.toNat) a.2 b.2 else a.1 - b.1
def ltR(d:List ag)(a b:Int×ah):Bool:=decide (cfR d a b<0)
def Q7{d:List ag}{a b:Int×ah}:ltR d a b=true↔cfR d a b<0:=decide_eq_true_iff
def BC{d:List ag}{a b:Int×ah}:ltR d a b=false↔¬cfR d a b<0:=decide_eq_false_iff_not
def pZ{d:List ag}{a b:Int×ah}(e:a.1=b.1):cfR d a b=jr (at_ d a.1.toNat) a.2 b.2:=if_pos e
def o9{d:List ag}{a b:Int×ah}(e:¬a.1=b.1):cfR d a b=a.1 - b.1:=if_neg e
def WI(a b:List Str):cmpL a b=0↔(dR a b=false/\dR b a=false):=by
 have h3:=mQ a b;rw[uI];constructor
 ·rintro rfl;exact⟨yn _,yn _⟩
 ·rintro⟨e1,e2⟩;rw[e1,e2]at h3;simpa using h3.symm
def Mn(n:ag)(a b:ah):jr n a b=0↔¬jr n a b<0/\¬jr n b a<0:=by
 unfold jr;by_cases h:gM n.aj=true
 ·rw[if_pos h,if_pos h,WI,kD,kD];simp
 ·rw[if_neg h,if_neg h];simp
def CI{d:List ag}{a b:Int×ah}(ha:a.1=idx (nmP a.2.ae) d)(hb:b.1=idx (nmP b.2.ae) d):ltR d a b=dY d a.2 b.2:=by
 rw[Bool.eq_iff_iff,Q7];unfold dY;rw[<- ha,<- hb];by_cases e:a.1=b.1
 ·rw[pZ e,jr,e];by_cases r:gM (at_ d b.1.toNat).aj=true
  ·rw[if_pos r,if_pos ⟨rfl,r⟩,kD];simp
  ·rw[if_neg r,if_neg λc=>r c.2];simp
 ·rw[o9 e,if_neg λc=>e c.1,decide_eq_true_iff];omega
def SL{d:List ag}(a b:Int×ah)(h1:ltR d a b=false)(h2:ltR d b a=false):a.1=b.1/\jr (at_ d a.1.toNat) a.2 b.2=0:=by
 rw[BC]at h1 h2;by_cases e:a.1=b.1
 ·rw[pZ e]at h1;rw[pZ e.symm,<- e]at h2;exact⟨e,(Mn _ _ _).2 ⟨h1,h2⟩⟩
 ·rw[o9 e]at h1;rw[o9 λc=>e c.symm]at h2;omega
def MU{a b c:List Str}(h1:dR b a=false)(h2:dR c b=false):dR c a=false:=by
 cases h:dR c a with
 | false=>rfl
 | true =>
  cases h3:dR a b with
  | true=>rw[vA c a b h h3]at h2;cases h2
  | false =>
   have:=mQ a b;rw[h3,h1]at this;have e:a=b:=by simpa using this.symm
   rw[e,h2]at h;cases h
def CH(d:List ag):Orr (ltR d):=by
 constructor
 ·intro x y h;rw[Q7]at h;rw[BC];by_cases e:x.1=y.1
  ·rw[pZ e]at h;rw[pZ e.symm,<- e];unfold jr at h ⊢;by_cases r:gM (at_ d x.1.toNat).aj=true
   ·rw[if_pos r]at h ⊢;intro h2;have h3:dR (kyL (at_ d x.1.toNat) x.2) (kyL (at_ d x.1.toNat) y.2)=true:=by rw[kD];simpa using h
    have h4:dR (kyL (at_ d x.1.toNat) y.2) (kyL (at_ d x.1.toNat) x.2)=true:=by rw[kD];simpa using h2
    have:=vA _ _ _ h3 h4;rw[yn]at this;cases this
   ·rw[if_neg r]at h;omega
  ·rw[o9 e]at h;rw[o9 λc=>e c.symm];omega
 ·intro x y z h1 h2;rw[BC]at h1 h2 ⊢;by_cases e1:y.1=x.1
  ·rw[pZ e1]at h1;by_cases e2:z.1=y.1
   ·rw[pZ e2]at h2;rw[pZ (e2.trans e1)];rw[e1]at h1;rw[e2,e1]at h2;rw[e2,e1];unfold jr at *;by_cases r:gM (at_ d x.1.toNat).aj=true
    ·rw[if_pos r]at h1 h2 ⊢;have:=MU (a:=kyL (at_ d x.1.toNat) x.2) (b:=kyL (at_ d x.1.toNat) y.2) (c:=kyL (at_ d x.1.toNat) z.2) (by rw[kD];simpa using h1) (by rw[kD];simpa using h2);rw[kD]at this;simpa using this
    ·rw[if_neg r];omega
   ·rw[o9 e2]at h2;rw[o9 Um];omega
  ·rw[o9 e1]at h1;by_cases e2:z.1=y.1
   ·rw[o9 Um];omega
   ·rw[o9 e2]at h2;rw[o9 Um];omega
def I2{d:List ag}{x:ah}:∀ {acc out:List ah},acc.Pairwise (λa b=>dY d a b=true)->jc d x acc=some out->out.Pairwise (λa b=>dY d a b=true)/\out.Perm (x::acc)
 | [],out,_,h=>by
  simp only[jc,Option.some.injEq]at h;subst h;exact⟨pairwise_singleton _ _,.refl _⟩
 | y::ys,out,hp,h=>by
  have hp':=List.pairwise_cons.1 hp;rw[jc]at h;by_cases h1:dY d y x=true
  ·rw[if_pos h1]at h
   cases h2:jc d x ys with
   | none=>rw[h2]at h;cases h
   | some o =>
    rw[h2]at h;simp only[Option.map_some,Option.some.injEq]at h;subst h;obtain⟨g1,g2⟩:=I2 hp'.2 h2;refine⟨List.pairwise_cons.2 ⟨λz hz=>?_,g1⟩,(g2.cons y).trans (List.Perm.swap x y ys)⟩;rcases List.mem_cons.1 (g2.mem_iff.1 hz)with rfl|hz
    ·exact h1
    ·exact hp'.1 z hz
  ·rw[if_neg h1]at h;by_cases h2:dY d x y=true
   ·rw[if_pos h2]at h;simp only[Option.some.injEq]at h;subst h;refine⟨List.pairwise_cons.2 ⟨λz hz=>?_,hp⟩,.refl _⟩;rcases List.mem_cons.1 hz with rfl|hz
    ·exact h2
    ·exact xR h2 (hp'.1 z hz)
   ·rw[if_neg h2]at h;cases h
def I3{d:List ag}{x:ah}:∀ {acc:List ah},jc d x acc=none->∃y∈acc,dY d y x=false/\dY d x y=false
 | [],h=>by simp[jc]at h
 | y::ys,h=>by
  rw[jc]at h;by_cases h1:dY d y x=true
  ·rw[if_pos h1]at h
   cases h2:jc d x ys with
   | none=>obtain⟨z,hz,h3⟩:=I3 h2;exact⟨z,by simp[hz],h3⟩
   | some o=>rw[h2]at h;cases h
  ·rw[if_neg h1]at h;by_cases h2:dY d x y=true
   ·rw[if_pos h2]at h;cases h
   ·exact⟨y,Xp,by simpa using h1,by simpa using h2⟩
def cmb(d:List ag)(a b:ah):Prop:=dY d a b=true\/dY d b a=true
def sC{d:List ag}:∀ {l acc:List ah} {R:List (Int×ah)},fo d l=some R->acc.Pairwise (λa b=>dY d a b=true) ->
  (∃out,iz d acc l=some out/\out.Pairwise (λa b=>dY d a b=true)/\out.Perm (R.map Prod.snd++acc))\/(iz d acc l=none/\¬(R.map Prod.snd++acc).Pairwise (cmb d))
 | [],acc,R,h,hp=>by
  simp only[fo,Option.some.injEq]at h;subst h;exact .inl ⟨acc,u6 _ _,hp,.refl _⟩
 | x::xs,acc,R,h,hp=>by
  rw[fo]at h;rw[sD]
  cases h1:ma d x with
  | none=>rw[h1]at h;cases h
  | some o =>
   rw[h1]at h
   cases o with
   | none=>exact sC h hp
   | some y =>
    simp only at h ⊢
    cases h2:fo d xs with
    | none=>rw[h2]at h;cases h
    | some R' =>
     rw[h2]at h;simp only[Option.map_some,Option.some.injEq]at h;subst h
     cases h3:jc d y acc with
     | none =>
      refine .inr ⟨rfl,λhc=>?_⟩;obtain⟨z,hz,a,b⟩:=I3 h3;rw[map_cons,cons_append,pairwise_cons]at hc;rcases hc.1 z (mem_append_right _ hz)with c|c
      ·rw[b]at c;cases c
      ·rw[a]at c;cases c
     | some acc' =>
      obtain⟨g1,g2⟩:=I2 hp h3
      have hperm:(R'.map Prod.snd++acc').Perm (((idx (nmP x.ae) d,y)::R').map Prod.snd++acc):=by
       rw[map_cons,cons_append];exact(g2.append_left _).trans perm_middle
      rcases sC h2 g1 with⟨out,e1,e2,e3⟩|⟨e1,e2⟩
      ·exact .inl ⟨out,e1,e2,e3.trans hperm⟩
      ·refine .inr ⟨e1,λhc=>e2 ?_⟩;exact(hperm.symm.pairwise_iff (R:=cmb d) fun {a b} h=>h.symm).1 hc
def zF{d:List ag}:∀ {l acc:List ah},fo d l=none->iz d acc l=none
 | [],acc,h=>by simp[fo]at h
 | x::xs,acc,h=>by
  rw[fo]at h;rw[sD]
  cases h1:ma d x with
  | none=>rfl
  | some o =>
   rw[h1]at h
   cases o with
   | none=>exact zF h
   | some y =>
    simp only at h ⊢
    have h2:fo d xs=none:=by
     cases h2:fo d xs with
     | none=>rfl
     | some R'=>rw[h2]at h;cases h
    cases jc d y acc with
    | none=>rfl
    | some acc'=>exact zF h2
def Q1(d:List ag)(r:Int×ah):Prop:=0<=r.1/\r.1=idx (nmP r.2.ae) d/\kyB (at_ d r.1.toNat) r.2=true
def Sv{n:ag}{nm v:Str}{e:Bool}{ks:Option (List ah)}{y:ah}(h:vk n nm v e ks=some (some y)):y.ae=nm/\kyB n y=true:=by
 unfold vk at h;split at h
 ·rename_i h1;split at h
  ·cases h;refine⟨rfl,(gN Um).2⟩
  ·cases h
 ·split at h
  ·cases h
  ·split at h
   ·rename_i h2;split at h
    ·cases h
    ·cases h;exact⟨rfl,h2.2⟩
   ·cases h
def St{d:List ag}{x y:ah}(h:ma d x=some (some y)):Q1 d (idx (nmP x.ae) d,y):=by
 unfold ma at h;split at h
 ·cases h
 ·have:=Sv h;exact⟨Um,by rw[this.1],this.2⟩
def rF{d:List ag}:∀ {l:List ah} {R:List (Int×ah)},fo d l=some R->∀r∈R,Q1 d r
 | [],R,h,r,hr=>by
  simp only[fo,Option.some.injEq]at h;subst h;simp at hr
 | x::xs,R,h,r,hr=>by
  rw[fo]at h
  cases h1:ma d x with
  | none=>rw[h1]at h;cases h
  | some o =>
   rw[h1]at h
   cases o with
   | none=>exact rF h r hr
   | some y =>
    simp only at h
    cases h2:fo d xs with
    | none=>rw[h2]at h;cases h
    | some R' =>
     rw[h2]at h;simp only[Option.map_some,Option.some.injEq]at h;subst h;rcases List.mem_cons.1 hr with rfl|hr
     ·exact St h1
     ·exact rF h2 r hr
def Di(d:List ag)(a b:Int×ah):Prop:=a.1=b.1/\jr (at_ d a.1.toNat) a.2 b.2=0
def Wx{d:List ag}{a b:Int×ah}(h:Di d a b):ltR d a b=false:=by rw[BC,pZ h.1,h.2];omega
def Wy{d:List ag}{a b:Int×ah}(h:Di d a b):ltR d b a=false:=by rw[BC,pZ h.1.symm,<- h.1];exact((Mn _ _ _).1 h.2).2
def Bd{d:List ag}:∀ {l:List (Int×ah)},Srt (ltR d) l->(∀P a b S,l=P++(a::b::S)->¬Di d a b)->l.Pairwise λa b=>ltR d a b=true
 | [],_,_=>List.Pairwise.nil
 | a::l,h,hn=>by
  have h1:=List.pairwise_cons.1 h
  have ih:=Bd h1.2 λP x y S e=>hn (a::P) x y S (by rw[e];rfl);refine List.pairwise_cons.2 ⟨λz hz=>?_,ih⟩
  cases l with
  | nil=>simp at hz
  | cons b S =>
   have hab:ltR d a b=true:=by
    cases e:ltR d a b with
    | true=>rfl
    | false=>exact absurd (SL a b e (h1.1 b Xp)) (hn [] a b S rfl)
   rcases List.mem_cons.1 hz with rfl|hz
   ·exact hab
   ·cases e:ltR d a z with
    | true=>rfl
    | false =>
     have hbz:=(List.pairwise_cons.1 h1.2).1 z hz
     have:=(CH d).trn b z a hbz e;rw[hab]at this;cases this
def Fq{d:List ag}{l:List ah}{R m:List (Int×ah)}(hR:fo d l=some R)(hp:m.Perm R)(hs:Srt (ltR d) m)(hn:∀P a b S,m=P++(a::b::S)->¬Di d a b):iz d [] l=some (m.map Prod.snd):=by
 have hok:=rF hR
 have hst:=Bd hs hn
 have hm:(m.map Prod.snd).Pairwise λa b=>dY d a b=true:=by
  rw[pairwise_map];refine hst.imp_of_mem fun {a b} ha hb h=>?_;rw[<- CI (hok a (hp.mem_iff.1 ha)).2.1 (hok b (hp.mem_iff.1 hb)).2.1];exact h
 rcases sC hR List.Pairwise.nil with⟨out,e1,e2,e3⟩|⟨e1,e2⟩
 ·rw[e1,append_nil]at *;refine congrArg some (LR (R:=λa b=>dY d a b=true) (λa b c=>xR) (λa h=>by rw[TT]at h;cases h) e2 hm λx=>?_);rw[e3.mem_iff,(hp.map Prod.snd).mem_iff]
 ·rw[append_nil]at e2;refine absurd ?_ e2;exact((hp.map Prod.snd).pairwise_iff (R:=cmb d) fun {a b} h=>h.symm).1 (hm.imp λh=>.inl h)
def RT{d:List ag}{l:List ah}{R m P S:List (Int×ah)}{a b:Int×ah}(hR:fo d l=some R)(hp:m.Perm R)(e:m=P++(a::b::S))(h:Di d a b):iz d [] l=none:=by
 have hok:=rF hR;rcases sC hR List.Pairwise.nil with⟨out,e1,e2,e3⟩|⟨e1,e2⟩
 ·exfalso;rw[append_nil]at e3;have h1:out.Pairwise (cmb d):=e2.imp λh=>.inl h
  have h2:(m.map Prod.snd).Pairwise (cmb d):=((e3.trans (hp.map Prod.snd).symm).pairwise_iff (R:=cmb d) fun {a b} h=>h.symm).1 h1;rw[e,map_append,pairwise_append,map_cons,map_cons,pairwise_cons]at h2;have h3:=h2.2.1.1 b.2 Xp
  have ha:=(hok a (hp.mem_iff.1 (by rw[e];simp))).2.1
  have hb:=(hok b (hp.mem_iff.1 (by rw[e];simp))).2.1;rcases h3 with h3|h3
  ·rw[<- CI ha hb,Wx h]at h3;cases h3
  ·rw[<- CI hb ha,Wy h]at h3;cases h3
 ·exact e1
def xa{d:List ag}{x:ah}:∀ {k:Nat} {l:List ah},k<=l.length->(∀j<k,dY d (at_ l j) x=true)->jc d x l=(jc d x (l.drop k)).map (l.take k++·)
 | 0,l,_,_=>by simp
 | k+1,[],h,_=>by simp at h
 | k+1,y::ys,h,hb=>by
  have h0:dY d y x=true:=hb 0 Um
  rw[jc,if_pos h0,xa (k:=k) (l:=ys) (by simpa using h) λj hj=>by
   have:=hb (j+1) Um
   rwa [yS]at this]
  simp only[drop_succ_cons,take_succ_cons,Option.map_map];rfl
def O0{d:List ag}{x:ah}{l:List ah}{k:Nat}(h:k=l.length)(hb:∀j<k,dY d (at_ l j) x=true):jc d x l=some (l.take k++x::l.drop k):=by rw[xa Um hb,drop_eq_nil_of_le Um,jc];rfl
def FD{d:List ag}{x:ah}{l:List ah}{k:Nat}(h:k<l.length)(hb:∀j<k,dY d (at_ l j) x=true)(h1:dY d (at_ l k) x=false):jc d x l=if dY d x (at_ l k)=true then some (l.take k++x::l.drop k) else none:=by
 rw[xa Um hb,bA h,jc,if_neg (by rw[h1];simp)];by_cases h2:dY d x (at_ l k)=true
 ·rw[if_pos h2,if_pos h2];rfl
 ·rw[if_neg h2,if_neg h2];rfl
def srF:Option (List ah)->AV
 | some r=>.tup [.ab 3 ai r,.ac true]
 | none=>.tup [.v (.slice none 0 0),.ac false]
def srO:Option (List ah)->AV
 | some r=>.tup [.ad 3 ai r,.ac true]
 | none=>.tup [.v (.slice none 0 0),.ac false]
section
def Qd(a b:Str)(c:List ah):(ah.mk a b c).ae=a:=rfl
def Qc(a b:Str)(c:List ah):(ah.mk a b c).aq=b:=rfl
def Qe(a b:Str)(c:List ah):(ah.mk a b c).af=c:=rfl
def tG(d:List ag)(x:ah)(v:Str)(ks:List ah)(ok:Bool):Prop :=
 ma d x=if ok=true/\kyB (at_ d (idx (nmP x.ae) d).toNat) (.mk x.ae v ks)=true then
  (if (at_ d (idx (nmP x.ae) d).toNat).aj=1/\(at_ d (idx (nmP x.ae) d).toNat).bQ=false/\ks=[] then some none else some (some (.mk x.ae v ks))) else none
def DR{d:List ag}{x:ah}(h0:0<=idx (nmP x.ae) d)(h:(at_ d (idx (nmP x.ae) d).toNat).aj=3\/(at_ d (idx (nmP x.ae) d).toNat).aj=4) :
  tG d x (cvS (at_ d (idx (nmP x.ae) d).toNat).fType x.aq) [] (cvB (at_ d (idx (nmP x.ae) d).toNat).fType x.aq && x.af.isEmpty):=by
 unfold tG;rw[ma,if_neg Um];unfold vk;rw[if_pos h,(gN Um).2];simp only[Bool.and_eq_true,and_true];by_cases hc:cvB (at_ d (idx (nmP x.ae) d).toNat).fType x.aq=true/\x.af.isEmpty=true
 ·rw[if_pos hc,if_pos hc,if_neg (by rintro⟨h1,_⟩;omega)]
 ·rw[if_neg hc,if_neg hc]
def DP{d:List ag}{x:ah}{ks:List ah}(h0:0<=idx (nmP x.ae) d)(h:¬(at_ d (idx (nmP x.ae) d).toNat).aj=3/\¬(at_ d (idx (nmP x.ae) d).toNat).aj=4)
  (hk:iz (dk (at_ d (idx (nmP x.ae) d).toNat).af) [] x.af=some ks):tG d x [] ks (x.aq == []):=by
 unfold tG;rw[ma,if_neg Um,hk];unfold vk;rw[if_neg Um];simp only[beq_iff_eq]
def DQ{d:List ag}{x:ah}(h0:0<=idx (nmP x.ae) d)(h:¬(at_ d (idx (nmP x.ae) d).toNat).aj=3/\¬(at_ d (idx (nmP x.ae) d).toNat).aj=4)
  (hk:iz (dk (at_ d (idx (nmP x.ae) d).toNat).af) [] x.af=none):tG d x [] [] false:=by
 unfold tG;rw[ma,if_neg Um,hk];unfold vk;rw[if_neg Um];simp
