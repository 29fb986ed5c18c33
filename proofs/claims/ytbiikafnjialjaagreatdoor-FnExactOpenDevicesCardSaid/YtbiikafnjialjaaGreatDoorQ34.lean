/- Part of a proof. -/
import Derived.Test.YtbiikafnjialjaaGreatDoorQ16
import Derived.Test.YtbiikafnjialjaaGreatDoorQ27
set_option linter.all false
open List
namespace Go.Dt
open Go Go.Ab
def jn(d:List ag)(x:ah):List ah->Option (List ah)
 | []=>some [x]
 | y::ys=>if eB d y x=true then (jn d x ys).map (y::·) else if eB d x y=true then some (x::y::ys) else none
def vS(n:ag)(nm v:Str)(e:Bool)(ks:Option (List ah)):Option (Option ah) :=
 if n.aj=3\/n.aj=4 then (if cvB n.fType v=true/\e=true then some (some (.mk nm (cvS n.fType v) [])) else none)
 else match ks with
  | none=>none
  | some ks=>if v=[]/\kyB n (.mk nm [] ks)=true then (if n.aj=1/\n.bZ=false/\ks=[] then some none else some (some (.mk nm [] ks))) else none
def iJ:List ag->List ah->List ah->Option (List ah)
 | _,acc,[]=>some acc
 | d,acc,.mk nm v ks::xs =>
  if idx (nmP nm) d<0 then none else
  match vS (at_ d (idx (nmP nm) d).toNat) nm v ks.isEmpty (iJ (dk (at_ d (idx (nmP nm) d).toNat).af) [] ks)with
  | none=>none
  | some none=>iJ d acc xs
  | some (some y)=>match jn d y acc with
   | none=>none
   | some acc'=>iJ d acc' xs
def mn(d:List ag)(x:ah):Option (Option ah) :=
 if idx (nmP x.ae) d<0 then none else
 vS (at_ d (idx (nmP x.ae) d).toNat) x.ae x.aq x.af.isEmpty (iJ (dk (at_ d (idx (nmP x.ae) d).toNat).af) [] x.af)
def vO(d:List ag)(acc:List ah):iJ d acc []=some acc:=by rw[iJ]
def tj(d:List ag)(acc:List ah)(x:ah)(xs:List ah):iJ d acc (x::xs)=match mn d x with
  | none=>none
  | some none=>iJ d acc xs
  | some (some y)=>match jn d y acc with
   | none=>none
   | some acc'=>iJ d acc' xs:=by
 cases x with
 | mk nm v ks =>
  rw[iJ,mn];by_cases h:idx (nmP nm) d<0
  ·rw[if_pos h,if_pos (show idx (nmP (ah.mk nm v ks).ae) d<0 from h)]
  ·rw[if_neg h,if_neg (show ¬idx (nmP (ah.mk nm v ks).ae) d<0 from h)];rfl
def fF(d:List ag):List ah->Option (List (Int×ah))
 | []=>some []
 | x::xs=>match mn d x with
  | none=>none
  | some none=>fF d xs
  | some (some y)=>(fF d xs).map ((idx (nmP x.ae) d,y)::·)
def cfR(d:List ag)(a b:Int×ah):Int:=if a.1=b.1 then jH (at_ d a.1.toNat) a.2 b.2 else a.1 - b.1
def ltR(d:List ag)(a b:Int×ah):Bool:=decide (cfR d a b<0)
def RV{d:List ag}{a b:Int×ah}:ltR d a b=true↔cfR d a b<0:=decide_eq_true_iff
def Cn{d:List ag}{a b:Int×ah}:ltR d a b=false↔¬cfR d a b<0:=decide_eq_false_iff_not
def qm{d:List ag}{a b:Int×ah}(e:a.1=b.1):cfR d a b=jH (at_ d a.1.toNat) a.2 b.2:=if_pos e
def pO{d:List ag}{a b:Int×ah}(e:¬a.1=b.1):cfR d a b=a.1 - b.1:=if_neg e
def Xt(a b:List Str):cmpL a b=0↔(dZ a b=false/\dZ b a=false):=by
 have h3:=mZ a b;rw[vk];constructor
 ·rintro rfl;exact⟨yO _,yO _⟩
 ·rintro⟨e1,e2⟩;rw[e1,e2]at h3;simpa using h3.symm
def Nh(n:ag)(a b:ah):jH n a b=0↔¬jH n a b<0/\¬jH n b a<0:=by
 unfold jH;by_cases h:ig n.aj=true
 ·rw[if_pos h,if_pos h,Xt,kP,kP];simp
 ·rw[if_neg h,if_neg h];simp
def Dl{d:List ag}{a b:Int×ah}(ha:a.1=idx (nmP a.2.ae) d)(hb:b.1=idx (nmP b.2.ae) d):ltR d a b=eB d a.2 b.2:=by
 rw[Bool.eq_iff_iff,RV];unfold eB;rw[<- ha,<- hb];by_cases e:a.1=b.1
 ·rw[qm e,jH,e];by_cases r:ig (at_ d b.1.toNat).aj=true
  ·rw[if_pos r,if_pos ⟨rfl,r⟩,kP];simp
  ·rw[if_neg r,if_neg λc=>r c.2];simp
 ·rw[pO e,if_neg λc=>e c.1,decide_eq_true_iff];omega
def TD{d:List ag}(a b:Int×ah)(h1:ltR d a b=false)(h2:ltR d b a=false):a.1=b.1/\jH (at_ d a.1.toNat) a.2 b.2=0:=by
 rw[Cn]at h1 h2;by_cases e:a.1=b.1
 ·rw[qm e]at h1;rw[qm e.symm,<- e]at h2;exact⟨e,(Nh _ _ _).2 ⟨h1,h2⟩⟩
 ·rw[pO e]at h1;rw[pO λc=>e c.symm]at h2;omega
def NS{a b c:List Str}(h1:dZ b a=false)(h2:dZ c b=false):dZ c a=false:=by
 cases h:dZ c a with
 | false=>rfl
 | true =>
  cases h3:dZ a b with
  | true=>rw[wg c a b h h3]at h2;cases h2
  | false =>
   have:=mZ a b;rw[h3,h1]at this;have e:a=b:=by simpa using this.symm
   rw[e,h2]at h;cases h
def Dk(d:List ag):Orr (ltR d):=by
 constructor
 ·intro x y h;rw[RV]at h;rw[Cn];by_cases e:x.1=y.1
  ·rw[qm e]at h;rw[qm e.symm,<- e];unfold jH at h ⊢;by_cases r:ig (at_ d x.1.toNat).aj=true
   ·rw[if_pos r]at h ⊢;intro h2;have h3:dZ (kyL (at_ d x.1.toNat) x.2) (kyL (at_ d x.1.toNat) y.2)=true:=by rw[kP];simpa using h
    have h4:dZ (kyL (at_ d x.1.toNat) y.2) (kyL (at_ d x.1.toNat) x.2)=true:=by rw[kP];simpa using h2
    have:=wg _ _ _ h3 h4;rw[yO]at this;cases this
   ·rw[if_neg r]at h;omega
  ·rw[pO e]at h;rw[pO λc=>e c.symm];omega
 ·intro x y z h1 h2;rw[Cn]at h1 h2 ⊢;by_cases e1:y.1=x.1
  ·rw[qm e1]at h1;by_cases e2:z.1=y.1
   ·rw[qm e2]at h2;rw[qm (e2.trans e1)];rw[e1]at h1;rw[e2,e1]at h2;rw[e2,e1];unfold jH at *;by_cases r:ig (at_ d x.1.toNat).aj=true
    ·rw[if_pos r]at h1 h2 ⊢;have:=NS (a:=kyL (at_ d x.1.toNat) x.2) (b:=kyL (at_ d x.1.toNat) y.2) (c:=kyL (at_ d x.1.toNat) z.2) (by rw[kP];simpa using h1) (by rw[kP];simpa using h2);rw[kP]at this;simpa using this
    ·rw[if_neg r];omega
   ·rw[pO e2]at h2;rw[pO Yt];omega
  ·rw[pO e1]at h1;by_cases e2:z.1=y.1
   ·rw[pO Yt];omega
   ·rw[pO e2]at h2;rw[pO Yt];omega
def JR{d:List ag}{x:ah}:∀ {acc out:List ah},acc.Pairwise (λa b=>eB d a b=true)->jn d x acc=some out->out.Pairwise (λa b=>eB d a b=true)/\out.Perm (x::acc)
 | [],out,_,h=>by
  simp only[jn,Option.some.injEq]at h;subst h;exact⟨pairwise_singleton _ _,.refl _⟩
 | y::ys,out,hp,h=>by
  have hp':=List.pairwise_cons.1 hp;rw[jn]at h;by_cases h1:eB d y x=true
  ·rw[if_pos h1]at h
   cases h2:jn d x ys with
   | none=>rw[h2]at h;cases h
   | some o =>
    rw[h2]at h;simp only[Option.map_some,Option.some.injEq]at h;subst h;obtain⟨g1,g2⟩:=JR hp'.2 h2;refine⟨List.pairwise_cons.2 ⟨λz hz=>?_,g1⟩,(g2.cons y).trans (List.Perm.swap x y ys)⟩;rcases List.mem_cons.1 (g2.mem_iff.1 hz)with rfl|hz
    ·exact h1
    ·exact hp'.1 z hz
  ·rw[if_neg h1]at h;by_cases h2:eB d x y=true
   ·rw[if_pos h2]at h;simp only[Option.some.injEq]at h;subst h;refine⟨List.pairwise_cons.2 ⟨λz hz=>?_,hp⟩,.refl _⟩;rcases List.mem_cons.1 hz with rfl|hz
    ·exact h2
    ·exact yq h2 (hp'.1 z hz)
   ·rw[if_neg h2]at h;cases h
def JS{d:List ag}{x:ah}:∀ {acc:List ah},jn d x acc=none->∃y∈acc,eB d y x=false/\eB d x y=false
 | [],h=>by simp[jn]at h
 | y::ys,h=>by
  rw[jn]at h;by_cases h1:eB d y x=true
  ·rw[if_pos h1]at h
   cases h2:jn d x ys with
   | none=>obtain⟨z,hz,h3⟩:=JS h2;exact⟨z,by simp[hz],h3⟩
   | some o=>rw[h2]at h;cases h
  ·rw[if_neg h1]at h;by_cases h2:eB d x y=true
   ·rw[if_pos h2]at h;cases h
   ·exact⟨y,zH,by simpa using h1,by simpa using h2⟩
def cmb(d:List ag)(a b:ah):Prop:=eB d a b=true\/eB d b a=true
def th{d:List ag}:∀ {l acc:List ah} {R:List (Int×ah)},fF d l=some R->acc.Pairwise (λa b=>eB d a b=true) ->
  (∃out,iJ d acc l=some out/\out.Pairwise (λa b=>eB d a b=true)/\out.Perm (R.map Prod.snd++acc))\/(iJ d acc l=none/\¬(R.map Prod.snd++acc).Pairwise (cmb d))
 | [],acc,R,h,hp=>by
  simp only[fF,Option.some.injEq]at h;subst h;exact .inl ⟨acc,vO _ _,hp,.refl _⟩
 | x::xs,acc,R,h,hp=>by
  rw[fF]at h;rw[tj]
  cases h1:mn d x with
  | none=>rw[h1]at h;cases h
  | some o =>
   rw[h1]at h
   cases o with
   | none=>exact th h hp
   | some y =>
    simp only at h ⊢
    cases h2:fF d xs with
    | none=>rw[h2]at h;cases h
    | some R' =>
     rw[h2]at h;simp only[Option.map_some,Option.some.injEq]at h;subst h
     cases h3:jn d y acc with
     | none =>
      refine .inr ⟨rfl,λhc=>?_⟩;obtain⟨z,hz,a,b⟩:=JS h3;rw[map_cons,cons_append,pairwise_cons]at hc;rcases hc.1 z (mem_append_right _ hz)with c|c
      ·rw[b]at c;cases c
      ·rw[a]at c;cases c
     | some acc' =>
      obtain⟨g1,g2⟩:=JR hp h3
      have hperm:(R'.map Prod.snd++acc').Perm (((idx (nmP x.ae) d,y)::R').map Prod.snd++acc):=by
       rw[map_cons,cons_append];exact(g2.append_left _).trans perm_middle
      rcases th h2 g1 with⟨out,e1,e2,e3⟩|⟨e1,e2⟩
      ·exact .inl ⟨out,e1,e2,e3.trans hperm⟩
      ·refine .inr ⟨e1,λhc=>e2 ?_⟩;exact(hperm.symm.pairwise_iff (R:=cmb d) fun {a b} h=>h.symm).1 hc
def Ah{d:List ag}:∀ {l acc:List ah},fF d l=none->iJ d acc l=none
 | [],acc,h=>by simp[fF]at h
 | x::xs,acc,h=>by
  rw[fF]at h;rw[tj]
  cases h1:mn d x with
  | none=>rfl
  | some o =>
   rw[h1]at h
   cases o with
   | none=>exact Ah h
   | some y =>
    simp only at h ⊢
    have h2:fF d xs=none:=by
     cases h2:fF d xs with
     | none=>rfl
     | some R'=>rw[h2]at h;cases h
    cases jn d y acc with
    | none=>rfl
    | some acc'=>exact Ah h2
def RQ(d:List ag)(r:Int×ah):Prop:=0<=r.1/\r.1=idx (nmP r.2.ae) d/\kyB (at_ d r.1.toNat) r.2=true
def Tl{n:ag}{nm v:Str}{e:Bool}{ks:Option (List ah)}{y:ah}(h:vS n nm v e ks=some (some y)):y.ae=nm/\kyB n y=true:=by
 unfold vS at h;split at h
 ·rename_i h1;split at h
  ·cases h;refine⟨rfl,(ij Yt).2⟩
  ·cases h
 ·split at h
  ·cases h
  ·split at h
   ·rename_i h2;split at h
    ·cases h
    ·cases h;exact⟨rfl,h2.2⟩
   ·cases h
def Tj{d:List ag}{x y:ah}(h:mn d x=some (some y)):RQ d (idx (nmP x.ae) d,y):=by
 unfold mn at h;split at h
 ·cases h
 ·have:=Tl h;exact⟨Yt,by rw[this.1],this.2⟩
def sx{d:List ag}:∀ {l:List ah} {R:List (Int×ah)},fF d l=some R->∀r∈R,RQ d r
 | [],R,h,r,hr=>by
  simp only[fF,Option.some.injEq]at h;subst h;simp at hr
 | x::xs,R,h,r,hr=>by
  rw[fF]at h
  cases h1:mn d x with
  | none=>rw[h1]at h;cases h
  | some o =>
   rw[h1]at h
   cases o with
   | none=>exact sx h r hr
   | some y =>
    simp only at h
    cases h2:fF d xs with
    | none=>rw[h2]at h;cases h
    | some R' =>
     rw[h2]at h;simp only[Option.map_some,Option.some.injEq]at h;subst h;rcases List.mem_cons.1 hr with rfl|hr
     ·exact Tj h1
     ·exact sx h2 r hr
def D3(d:List ag)(a b:Int×ah):Prop:=a.1=b.1/\jH (at_ d a.1.toNat) a.2 b.2=0
def Xj{d:List ag}{a b:Int×ah}(h:D3 d a b):ltR d a b=false:=by rw[Cn,qm h.1,h.2];omega
def Xk{d:List ag}{a b:Int×ah}(h:D3 d a b):ltR d b a=false:=by rw[Cn,qm h.1.symm,<- h.1];exact((Nh _ _ _).1 h.2).2
def BN{d:List ag}:∀ {l:List (Int×ah)},Srt (ltR d) l->(∀P a b S,l=P++(a::b::S)->¬D3 d a b)->l.Pairwise λa b=>ltR d a b=true
 | [],_,_=>List.Pairwise.nil
 | a::l,h,hn=>by
  have h1:=List.pairwise_cons.1 h
  have ih:=BN h1.2 λP x y S e=>hn (a::P) x y S (by rw[e];rfl);refine List.pairwise_cons.2 ⟨λz hz=>?_,ih⟩
  cases l with
  | nil=>simp at hz
  | cons b S =>
   have hab:ltR d a b=true:=by
    cases e:ltR d a b with
    | true=>rfl
    | false=>exact absurd (TD a b e (h1.1 b zH)) (hn [] a b S rfl)
   rcases List.mem_cons.1 hz with rfl|hz
   ·exact hab
   ·cases e:ltR d a z with
    | true=>rfl
    | false =>
     have hbz:=(List.pairwise_cons.1 h1.2).1 z hz
     have:=(Dk d).trn b z a hbz e;rw[hab]at this;cases this
def Gf{d:List ag}{l:List ah}{R m:List (Int×ah)}(hR:fF d l=some R)(hp:m.Perm R)(hs:Srt (ltR d) m)(hn:∀P a b S,m=P++(a::b::S)->¬D3 d a b):iJ d [] l=some (m.map Prod.snd):=by
 have hok:=sx hR
 have hst:=BN hs hn
 have hm:(m.map Prod.snd).Pairwise λa b=>eB d a b=true:=by
  rw[pairwise_map];refine hst.imp_of_mem fun {a b} ha hb h=>?_;rw[<- Dl (hok a (hp.mem_iff.1 ha)).2.1 (hok b (hp.mem_iff.1 hb)).2.1];exact h
 rcases th hR List.Pairwise.nil with⟨out,e1,e2,e3⟩|⟨e1,e2⟩
 ·rw[e1,append_nil]at *;refine congrArg some (MN (R:=λa b=>eB d a b=true) (λa b c=>yq) (λa h=>by rw[UF]at h;cases h) e2 hm λx=>?_);rw[e3.mem_iff,(hp.map Prod.snd).mem_iff]
 ·rw[append_nil]at e2;refine absurd ?_ e2;exact((hp.map Prod.snd).pairwise_iff (R:=cmb d) fun {a b} h=>h.symm).1 (hm.imp λh=>.inl h)
def SE{d:List ag}{l:List ah}{R m P S:List (Int×ah)}{a b:Int×ah}(hR:fF d l=some R)(hp:m.Perm R)(e:m=P++(a::b::S))(h:D3 d a b):iJ d [] l=none:=by
 have hok:=sx hR;rcases th hR List.Pairwise.nil with⟨out,e1,e2,e3⟩|⟨e1,e2⟩
 ·exfalso;rw[append_nil]at e3;have h1:out.Pairwise (cmb d):=e2.imp λh=>.inl h
  have h2:(m.map Prod.snd).Pairwise (cmb d):=((e3.trans (hp.map Prod.snd).symm).pairwise_iff (R:=cmb d) fun {a b} h=>h.symm).1 h1;rw[e,map_append,pairwise_append,map_cons,map_cons,pairwise_cons]at h2;have h3:=h2.2.1.1 b.2 zH
  have ha:=(hok a (hp.mem_iff.1 (by rw[e];simp))).2.1
  have hb:=(hok b (hp.mem_iff.1 (by rw[e];simp))).2.1;rcases h3 with h3|h3
  ·rw[<- Dl ha hb,Xj h]at h3;cases h3
  ·rw[<- Dl hb ha,Xk h]at h3;cases h3
 ·exact e1
def xA{d:List ag}{x:ah}:∀ {k:Nat} {l:List ah},k<=l.length->(∀j<k,eB d (at_ l j) x=true)->jn d x l=(jn d x (l.drop k)).map (l.take k++·)
 | 0,l,_,_=>by simp
 | k+1,[],h,_=>by simp at h
 | k+1,y::ys,h,hb=>by
  have h0:eB d y x=true:=hb 0 Yt
  rw[jn,if_pos h0,xA (k:=k) (l:=ys) (by simpa using h) λj hj=>by
   have:=hb (j+1) Yt
   rwa [zm]at this]
  simp only[drop_succ_cons,take_succ_cons,Option.map_map];rfl
def PT{d:List ag}{x:ah}{l:List ah}{k:Nat}(h:k=l.length)(hb:∀j<k,eB d (at_ l j) x=true):jn d x l=some (l.take k++x::l.drop k):=by rw[xA Yt hb,drop_eq_nil_of_le Yt,jn];rfl
def Gs{d:List ag}{x:ah}{l:List ah}{k:Nat}(h:k<l.length)(hb:∀j<k,eB d (at_ l j) x=true)(h1:eB d (at_ l k) x=false):jn d x l=if eB d x (at_ l k)=true then some (l.take k++x::l.drop k) else none:=by
 rw[xA Yt hb,bT h,jn,if_neg (by rw[h1];simp)];by_cases h2:eB d x (at_ l k)=true
 ·rw[if_pos h2,if_pos h2];rfl
 ·rw[if_neg h2,if_neg h2];rfl
def srF:Option (List ah)->AV
 | some r=>.tup [.ab 3 ai r,.ac true]
 | none=>.tup [.v (.slice none 0 0),.ac false]
def srO:Option (List ah)->AV
 | some r=>.tup [.ad 3 ai r,.ac true]
 | none=>.tup [.v (.slice none 0 0),.ac false]
section
def QY(a b:Str)(c:List ah):(ah.mk a b c).ae=a:=rfl
def QX(a b:Str)(c:List ah):(ah.mk a b c).aq=b:=rfl
def QZ(a b:Str)(c:List ah):(ah.mk a b c).af=c:=rfl
def ug(d:List ag)(x:ah)(v:Str)(ks:List ah)(ok:Bool):Prop :=
 mn d x=if ok=true/\kyB (at_ d (idx (nmP x.ae) d).toNat) (.mk x.ae v ks)=true then
  (if (at_ d (idx (nmP x.ae) d).toNat).aj=1/\(at_ d (idx (nmP x.ae) d).toNat).bZ=false/\ks=[] then some none else some (some (.mk x.ae v ks))) else none
def Ey{d:List ag}{x:ah}(h0:0<=idx (nmP x.ae) d)(h:(at_ d (idx (nmP x.ae) d).toNat).aj=3\/(at_ d (idx (nmP x.ae) d).toNat).aj=4) :
  ug d x (cvS (at_ d (idx (nmP x.ae) d).toNat).fType x.aq) [] (cvB (at_ d (idx (nmP x.ae) d).toNat).fType x.aq && x.af.isEmpty):=by
 unfold ug;rw[mn,if_neg Yt];unfold vS;rw[if_pos h,(ij Yt).2];simp only[Bool.and_eq_true,and_true];by_cases hc:cvB (at_ d (idx (nmP x.ae) d).toNat).fType x.aq=true/\x.af.isEmpty=true
 ·rw[if_pos hc,if_pos hc,if_neg (by rintro⟨h1,_⟩;omega)]
 ·rw[if_neg hc,if_neg hc]
def Ew{d:List ag}{x:ah}{ks:List ah}(h0:0<=idx (nmP x.ae) d)(h:¬(at_ d (idx (nmP x.ae) d).toNat).aj=3/\¬(at_ d (idx (nmP x.ae) d).toNat).aj=4)
  (hk:iJ (dk (at_ d (idx (nmP x.ae) d).toNat).af) [] x.af=some ks):ug d x [] ks (x.aq == []):=by
 unfold ug;rw[mn,if_neg Yt,hk];unfold vS;rw[if_neg Yt];simp only[beq_iff_eq]
def Ex{d:List ag}{x:ah}(h0:0<=idx (nmP x.ae) d)(h:¬(at_ d (idx (nmP x.ae) d).toNat).aj=3/\¬(at_ d (idx (nmP x.ae) d).toNat).aj=4)
  (hk:iJ (dk (at_ d (idx (nmP x.ae) d).toNat).af) [] x.af=none):ug d x [] [] false:=by
 unfold ug;rw[mn,if_neg Yt,hk];unfold vS;rw[if_neg Yt];simp
