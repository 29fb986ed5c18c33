/- Part of a proof. -/
import Derived.Test.YtbiikafnjialjaaGreatDoorG18
set_option linter.all false
namespace Go.Dt
section
variable {α : Type}
def Srt(lt:α->α->Bool)(l:List α):Prop:=l.Pairwise fun x y=>lt y x=false
structure Orr(lt:α->α->Bool):Prop where
 DR:∀ x y,lt x y=true->lt y x=false
 trn:∀ x y z,lt y x=false->lt z y=false->lt z x=false
variable {lt : α -> α -> Bool}
theorem Srt.app{A B:List α}(ha:Srt lt A)(hb:Srt lt B)(h:∀ u∈A,∀ v∈B,lt v u=false):Srt lt (A++B):=List.pairwise_append.2 ⟨ha,hb,h⟩
theorem Srt.l{A B:List α}(h:Srt lt (A++B)):Srt lt A:=(List.pairwise_append.1 h).1
theorem Srt.r{A B:List α}(h:Srt lt (A++B)):Srt lt B:=(List.pairwise_append.1 h).2.1
theorem Srt.c{A B:List α}(h:Srt lt (A++B)):∀ u∈A,∀ v∈B,lt v u=false:=(List.pairwise_append.1 h).2.2
theorem Srt.one(x:α):Srt lt [x]:=List.pairwise_singleton _ _
theorem Srt.nil:Srt lt ([]:List α):=List.Pairwise.nil
def Part(lt:α->α->Bool)(a b:Nat)(l l':List α):Prop :=
 ∃ A X Z C,l=A++(X++C)/\l'=A++(Z++C)/\A.length=a/\A.length+X.length=b/\Z.Perm X/\Srt lt Z
theorem Part.perm{a b:Nat}{l l':List α}(h:Part lt a b l l'):l'.Perm l:=by
 obtain ⟨A,X,Z,C,rfl,rfl,_,_,h,_⟩:=h
 exact (h.append_right C).append_left A
theorem Part.len{a b:Nat}{l l':List α}(h:Part lt a b l l'):l'.length=l.length:=h.perm.length_eq
theorem Pp{l:List α}{a b:Nat}(h1:a<=b)(h2:b<=l.length):∃ A X C,l=A++(X++C)/\A.length=a/\A.length+X.length=b:=by
 refine ⟨l.take a,(l.drop a).take (b - a),(l.drop a).drop (b - a),by rw [List.take_append_drop,List.take_append_drop],by rw [List.length_take];omega,?_⟩
 rw [List.length_take,List.length_take,List.length_drop];omega
theorem Kx{l:List α}{a m b:Nat}(h1:a<=m)(h2:m<=b)(h3:b<=l.length):∃ A X Y C,l=A++(X++(Y++C))/\A.length=a/\A.length+X.length=m/\A.length+X.length+Y.length=b:=by
 obtain ⟨A,X,C,rfl,h4,h5⟩:=Pp h1 (Nat.le_trans h2 h3)
 refine ⟨A,X,C.take (b - m),C.drop (b - m),by rw [List.take_append_drop],h4,h5,?_⟩
 simp only [List.length_append] at h3
 rw [List.length_take];omega
theorem FA{A B C D:List α}(h:A++B=C++D)(hl:A.length=C.length):A=C/\B=D:=List.append_inj h hl
def fB(lt:α->α->Bool)(a b:Nat)(l:List α):Prop:=Srt lt ((l.take b).drop a)
theorem iF{A X C:List α}{a b:Nat}(h1:A.length=a)(h2:A.length+X.length=b):fB lt a b (A++(X++C))↔Srt lt X:=by
 unfold fB
 subst h1;subst h2
 rw [<- List.append_assoc,List.take_left' (by simp),List.drop_left]
theorem Part.srt{a b:Nat}{l l':List α}(h:Part lt a b l l'):fB lt a b l':=by
 obtain ⟨A,X,Z,C,rfl,rfl,h1,h2,hp,hs⟩:=h
 exact (iF h1 (by rw [hp.length_eq];exact h2)).2 hs
theorem Part.mid{A X C l':List α}{a b:Nat}(h:Part lt a b (A++(X++C)) l')(h1:A.length=a)(h2:A.length+X.length=b):∃ Z,l'=A++(Z++C)/\Z.Perm X/\Srt lt Z:=by
 obtain ⟨A',X',Z,C',e,rfl,h3,h4,hp,hs⟩:=h
 obtain ⟨rfl,e2⟩:=FA e (by omega)
 obtain ⟨rfl,rfl⟩:=FA e2 (by omega)
 exact ⟨Z,rfl,hp,hs⟩
theorem Jm{X:List α}{i:Nat}(h:i<X.length):∃ P x S,X=P++(x::S)/\P.length=i :=
 ⟨X.take i,X[i],X.drop (i+1),by rw [<- List.drop_eq_getElem_cons h,List.take_append_drop],by rw [List.length_take];omega⟩
theorem Ho{X:List α}(h:0<X.length):∃ P x,X=P++[x]:=by
 obtain ⟨P,x,S,rfl,hP⟩:=Jm (X:=X) (i:=X.length - 1) (by omega)
 have:S=[]:=by
  simp only [List.length_append,List.length_cons] at hP
  exact List.length_eq_zero_iff.1 (by omega)
 subst this
 exact ⟨P,x,rfl⟩
theorem xI(X:List α):X=[]\/∃ P x,X=P++[x]:=by
 rcases Nat.eq_zero_or_pos X.length with h|h
 ·exact .inl (List.length_eq_zero_iff.1 h)
 ·exact .inr (Ho h)
theorem CW(ho:Orr lt){S1 S2:List α}{x:α}(hs:Srt lt (S1++S2))(h2:∀ y∈S2,lt x y=true)(h1:∀ y∈S1.getLast?,lt x y=false):Srt lt (S1++(x::S2)):=by
 refine Srt.app hs.l ?_ ?_
 ·exact List.pairwise_cons.2 ⟨fun y hy=>ho.DR _ _ (h2 y hy),hs.r⟩
 ·intro u hu v hv
  rcases List.mem_cons.1 hv with rfl|hv
  ·rcases List.eq_nil_or_concat S1 with rfl|⟨P,z,e⟩
   ·simp at hu
   ·have e':S1=P++[z]:=by rw [e];simp
    subst e'
    have hz:lt v z=false:=h1 z (by simp)
    rcases List.mem_append.1 hu with hu|hu
    ·exact ho.trn u z v (hs.l.c u hu z (by simp)) hz
    ·rw [List.mem_singleton.1 hu];exact hz
  ·exact hs.c u hu v hv
theorem LI(ho:Orr lt){x:α}{Y1 Y2:List α}(hs:Srt lt (Y1++Y2))(h1:∀ y∈Y1,lt y x=true)(h2:∀ y∈Y2,lt y x=false):Srt lt (Y1++(x::Y2)):=by
 refine Srt.app hs.l (List.pairwise_cons.2 ⟨fun y hy=>h2 y hy,hs.r⟩) ?_
 intro u hu v hv
 rcases List.mem_cons.1 hv with rfl|hv
 ·exact ho.DR _ _ (h1 u hu)
 ·exact hs.c u hu v hv
theorem LH(ho:Orr lt){y:α}{X1 X2:List α}(hs:Srt lt (X1++X2))(h1:∀ x∈X1,lt y x=false)(h2:∀ x∈X2,lt y x=true):Srt lt (X1++(y::X2)):=by
 refine Srt.app hs.l (List.pairwise_cons.2 ⟨fun x hx=>ho.DR _ _ (h2 x hx),hs.r⟩) ?_
 intro u hu v hv
 rcases List.mem_cons.1 hv with rfl|hv
 ·exact h1 u hu
 ·exact hs.c u hu v hv
theorem Hg(ho:Orr lt){X1 X2 Y1 Y2:List α}(hx:Srt lt (X1++X2))(hy:Srt lt (Y1++Y2))
  (h1:∀ x∈X1.getLast?,∀ y∈Y2.head?,lt y x=false) (h2:∀ y∈Y1.getLast?,∀ x∈X2.head?,lt y x=true) :
  ∀ u∈X1++Y1,∀ v∈X2++Y2,lt v u=false:=by
 have last:∀ (A:List α),Srt lt A->∀ u∈A,∃ z∈A.getLast?,(u=z\/lt z u=false):=by
  intro A hA u hu
  rcases List.eq_nil_or_concat A with rfl|⟨P,z,e⟩
  ·simp at hu
  ·have e':A=P++[z]:=by rw [e];simp
   subst e'
   refine ⟨z,by simp,?_⟩
   rcases List.mem_append.1 hu with hu|hu
   ·exact .inr (hA.c u hu z (by simp))
   ·exact .inl (List.mem_singleton.1 hu)
 have first:∀ (A:List α),Srt lt A->∀ u∈A,∃ z∈A.head?,(u=z\/lt u z=false):=by
  intro A hA u hu
  cases A with
  | nil=>simp at hu
  | cons z P =>
   refine ⟨z,by simp,?_⟩
   rcases List.mem_cons.1 hu with rfl|hu
   ·exact .inl rfl
   ·exact .inr ((List.pairwise_cons.1 hA).1 u hu)
 have chain:∀ {u z z' v:α},(u=z\/lt z u=false)->lt z' z=false->(v=z'\/lt v z'=false)->lt v u=false:=by
  intro u z z' v a b c
  have e1:lt z' u=false:=by rcases a with rfl|a;exact b;exact ho.trn _ _ _ a b
  rcases c with rfl|c;exact e1;exact ho.trn _ _ _ e1 c
 intro u hu v hv
 rcases List.mem_append.1 hu with hu|hu<;>rcases List.mem_append.1 hv with hv|hv
 ·exact hx.c u hu v hv
 ·obtain ⟨z,hz,a⟩:=last _ hx.l u hu
  obtain ⟨z',hz',b⟩:=first _ hy.r v hv
  exact chain a (h1 z hz z' hz') b
 ·obtain ⟨z,hz,a⟩:=last _ hy.l u hu
  obtain ⟨z',hz',b⟩:=first _ hx.r v hv
  exact chain a (ho.DR _ _ (h2 z hz z' hz')) b
 ·exact hy.c u hu v hv
theorem xH [Inhabited α]{Y:List α}(hs:Srt lt Y){i j:Nat}(h:i<j)(hj:j<Y.length):lt (Ab.at_ Y j) (Ab.at_ Y i)=false:=by
 have:=List.pairwise_iff_getElem.1 hs i j (by omega) hj h
 have e:∀ (k:Nat) (hk:k<Y.length),Ab.at_ Y k=Y[k]:=fun k hk=>by unfold Ab.at_;rw [List.getElem?_eq_getElem hk];rfl
 rw [e i (by omega),e j hj];exact this
theorem US(ho:Orr lt)[Inhabited α]{Y:List α}(hs:Srt lt Y){x:α}{h t:Nat}(hh:h<Y.length)(h1:lt (Ab.at_ Y h) x=true)(ht:t<=h):lt (Ab.at_ Y t) x=true:=by
 rcases Nat.lt_or_ge t h with q|q
 ·cases e:lt (Ab.at_ Y t) x with
  | true=>rfl
  | false=>rw [ho.trn _ _ _ e (xH hs q hh)] at h1;cases h1
 ·rw [show t=h by omega];exact h1
theorem UR(ho:Orr lt)[Inhabited α]{Y:List α}(hs:Srt lt Y){x:α}{h t:Nat}(ht:t<Y.length)(h1:lt (Ab.at_ Y h) x=false)(hh:h<=t):lt (Ab.at_ Y t) x=false:=by
 rcases Nat.lt_or_ge h t with q|q
 ·exact ho.trn _ _ _ h1 (xH hs q ht)
 ·rw [show t=h by omega];exact h1
theorem UQ(ho:Orr lt)[Inhabited α]{X:List α}(hs:Srt lt X){y:α}{h t:Nat}(hh:h<X.length)(h1:lt y (Ab.at_ X h)=false)(ht:t<=h):lt y (Ab.at_ X t)=false:=by
 rcases Nat.lt_or_ge t h with q|q
 ·exact ho.trn _ _ _ (xH hs q hh) h1
 ·rw [show t=h by omega];exact h1
theorem UO(ho:Orr lt)[Inhabited α]{X:List α}(hs:Srt lt X){y:α}{h t:Nat}(ht:t<X.length)(h1:lt y (Ab.at_ X h)=true)(hh:h<=t):lt y (Ab.at_ X t)=true:=by
 rcases Nat.lt_or_ge h t with q|q
 ·cases e:lt y (Ab.at_ X t) with
  | true=>rfl
  | false=>rw [ho.trn _ _ _ (xH hs q ht) e] at h1;cases h1
 ·rw [show t=h by omega];exact h1
theorem vT [Inhabited α]{Y:List α}{k:Nat}{y:α}(h:y∈Y.take k):∃ t,t<k/\t<Y.length/\y=Ab.at_ Y t:=by
 obtain ⟨t,ht,rfl⟩:=List.getElem_of_mem h
 rw [List.length_take] at ht
 refine ⟨t,by omega,by omega,?_⟩
 rw [List.getElem_take];unfold Ab.at_;rw [List.getElem?_eq_getElem (by omega)];rfl
theorem vV [Inhabited α]{Y:List α}{k:Nat}{y:α}(h:y∈Y.drop k):∃ t,k<=t/\t<Y.length/\y=Ab.at_ Y t:=by
 obtain ⟨t,ht,rfl⟩:=List.getElem_of_mem h
 rw [List.length_drop] at ht
 refine ⟨k+t,by omega,by omega,?_⟩
 rw [List.getElem_drop];unfold Ab.at_;rw [List.getElem?_eq_getElem (by omega)];rfl
theorem mz [Inhabited α]{A B:List α}{i:Nat}(h:A.length<=i):Ab.at_ (A++B) i=Ab.at_ B (i - A.length):=by unfold Ab.at_;rw [List.getElem?_append_right h]
theorem vm [Inhabited α]{A B:List α}{i:Nat}(h:i<A.length):Ab.at_ (A++B) i=Ab.at_ A i:=by unfold Ab.at_;rw [List.getElem?_append_left h]
theorem Av [Inhabited α]{X:List α}{k:Nat}{x:α}(h:x∈(X.take k).getLast?)(hk:k<=X.length):0<k/\x=Ab.at_ X (k - 1):=by
 cases k with
 | zero=>simp at h
 | succ k =>
  refine ⟨by omega,?_⟩
  rw [List.getLast?_take,if_neg (by omega)] at h
  have hk':k<X.length:=by omega
  simp only [Nat.add_sub_cancel,List.getElem?_eq_getElem hk'] at h
  unfold Ab.at_
  rw [Nat.add_sub_cancel,List.getElem?_eq_getElem hk']
  simpa using h.symm
theorem head_drop [Inhabited α]{X:List α}{k:Nat}{x:α}(h:x∈(X.drop k).head?):k<X.length/\x=Ab.at_ X k:=by
 rw [List.head?_drop] at h
 obtain ⟨hk,e⟩:=List.getElem?_eq_some_iff.1 h
 exact ⟨hk,by unfold Ab.at_;rw [h];rfl⟩
theorem D7{β:Type}(f:α->β):∀ {l' m:List β},l'.Perm m->∀ {l:List α},m=l.map f->∃ k:List α,k.Perm l/\l'=k.map f:=by
 intro l' m h
 induction h with
 | nil=>intro l e;cases l with
  | nil=>exact ⟨[],.refl _,rfl⟩
  | cons x l=>simp at e
 | cons x _ ih=>intro l e;cases l with
  | nil=>simp at e
  | cons y l =>
   simp only [List.map_cons,List.cons.injEq] at e
   obtain ⟨k,hk,e2⟩:=ih e.2
   exact ⟨y::k,hk.cons y,by rw [List.map_cons,e2,e.1]⟩
 | swap x y l0=>intro l e;match l,e with
  | a::b::l,e =>
   simp only [List.map_cons,List.cons.injEq] at e
   exact ⟨b::a::l,List.Perm.swap a b l,by simp only [List.map_cons,e.1,e.2.1,e.2.2]⟩
 | trans _ _ ih1 ih2 =>
  intro l e
  obtain ⟨k,hk,e2⟩:=ih2 e
  obtain ⟨k',hk',e3⟩:=ih1 e2
  exact ⟨k',hk'.trans hk,e3⟩
end
end Go.Dt
namespace Go.Dt
open Go Go.Ab
section
def gM(d:List ae)(x:ah):List ah->Option (List ah)
 | []=>some [x]
 | y::ys=>if fq d y x=true then (gM d x ys).map (y::·) else if fq d x y=true then some (x::y::ys) else none
def rZ(n:ae)(nm v:Str)(e:Bool)(ks:Option (List ah)):Option (Option ah) :=
 if n.ai=3\/n.ai=4 then (if cvB n.fType v=true/\e=true then some (some (.mk nm (cvS n.fType v) [])) else none)
 else match ks with
  | none=>none
  | some ks=>if v=[]/\kyB n (.mk nm [] ks)=true then (if n.ai=1/\n.bw=false/\ks=[] then some none else some (some (.mk nm [] ks))) else none
def gb:List ae->List ah->List ah->Option (List ah)
 | _,acc,[]=>some acc
 | d,acc,.mk nm v ks::xs =>
  if idx (nmP nm) d<0 then none else
  match rZ (at_ d (idx (nmP nm) d).toNat) nm v ks.isEmpty (gb (dk (at_ d (idx (nmP nm) d).toNat).ag) [] ks) with
  | none=>none
  | some none=>gb d acc xs
  | some (some y)=>match gM d y acc with
   | none=>none
   | some acc'=>gb d acc' xs
def jP(d:List ae)(x:ah):Option (Option ah) :=
 if idx (nmP x.af) d<0 then none else
 rZ (at_ d (idx (nmP x.af) d).toNat) x.af x.ax x.ag.isEmpty (gb (dk (at_ d (idx (nmP x.af) d).toNat).ag) [] x.ag)
theorem rT(d:List ae)(acc:List ah):gb d acc []=some acc:=by rw [gb]
theorem p7(d:List ae)(acc:List ah)(x:ah)(xs:List ah):gb d acc (x::xs)=match jP d x with
  | none=>none
  | some none=>gb d acc xs
  | some (some y)=>match gM d y acc with
   | none=>none
   | some acc'=>gb d acc' xs:=by
 cases x with
 | mk nm v ks =>
  rw [gb,jP]
  by_cases h:idx (nmP nm) d<0
  ·rw [if_pos h,if_pos (show idx (nmP (ah.mk nm v ks).af) d<0 from h)]
  ·rw [if_neg h,if_neg (show ¬ idx (nmP (ah.mk nm v ks).af) d<0 from h)];rfl
def dW(d:List ae):List ah->Option (List (Int×ah))
 | []=>some []
 | x::xs=>match jP d x with
  | none=>none
  | some none=>dW d xs
  | some (some y)=>(dW d xs).map ((idx (nmP x.af) d,y)::·)
def cfR(d:List ae)(a b:Int×ah):Int:=if a.1=b.1 then j7 (at_ d a.1.toNat) a.2 b.2 else a.1 - b.1
def ltR(d:List ae)(a b:Int×ah):Bool:=decide (cfR d a b<0)
theorem KQ{d:List ae}{a b:Int×ah}:ltR d a b=true↔cfR d a b<0:=decide_eq_true_iff
theorem yc{d:List ae}{a b:Int×ah}:ltR d a b=false↔¬ cfR d a b<0:=decide_eq_false_iff_not
theorem nG{d:List ae}{a b:Int×ah}(e:a.1=b.1):cfR d a b=j7 (at_ d a.1.toNat) a.2 b.2:=if_pos e
theorem mP{d:List ae}{a b:Int×ah}(e:¬ a.1=b.1):cfR d a b=a.1 - b.1:=if_neg e
theorem Ps(a b:List Str):cmpL a b=0↔(dq a b=false/\dq b a=false):=by
 have h3:=qh a b
 rw [DI]
 constructor
 ·rintro rfl;exact ⟨uN _,uN _⟩
 ·rintro ⟨e1,e2⟩
  rw [e1,e2] at h3
  simpa using h3.symm
theorem HF(n:ae)(a b:ah):j7 n a b=0↔¬ j7 n a b<0/\¬ j7 n b a<0:=by
 unfold j7
 by_cases h:kH n.ai=true
 ·rw [if_pos h,if_pos h,Ps,jU,jU];simp
 ·rw [if_neg h,if_neg h];simp
theorem y6{d:List ae}{a b:Int×ah}(ha:a.1=idx (nmP a.2.af) d)(hb:b.1=idx (nmP b.2.af) d):ltR d a b=fq d a.2 b.2:=by
 rw [Bool.eq_iff_iff,KQ]
 unfold fq
 rw [<- ha,<- hb]
 by_cases e:a.1=b.1
 ·rw [nG e,j7,e]
  by_cases r:kH (at_ d b.1.toNat).ai=true
  ·rw [if_pos r,if_pos ⟨rfl,r⟩,jU];simp
  ·rw [if_neg r,if_neg fun c=>r c.2];simp
 ·rw [mP e,if_neg fun c=>e c.1,decide_eq_true_iff]
  omega
theorem L6{d:List ae}(a b:Int×ah)(h1:ltR d a b=false)(h2:ltR d b a=false):a.1=b.1/\j7 (at_ d a.1.toNat) a.2 b.2=0:=by
 rw [yc] at h1 h2
 by_cases e:a.1=b.1
 ·rw [nG e] at h1
  rw [nG e.symm,<- e] at h2
  exact ⟨e,(HF _ _ _).2 ⟨h1,h2⟩⟩
 ·rw [mP e] at h1
  rw [mP fun c=>e c.symm] at h2
  omega
theorem HX{a b c:List Str}(h1:dq b a=false)(h2:dq c b=false):dq c a=false:=by
 cases h:dq c a with
 | false=>rfl
 | true =>
  cases h3:dq a b with
  | true=>rw [sy c a b h h3] at h2;cases h2
  | false =>
   have:=qh a b
   rw [h3,h1] at this
   have e:a=b:=by simpa using this.symm
   rw [e,h2] at h;cases h
theorem y5(d:List ae):Orr (ltR d):=by
 constructor
 ·intro x y h
  rw [KQ] at h
  rw [yc]
  by_cases e:x.1=y.1
  ·rw [nG e] at h
   rw [nG e.symm,<- e]
   unfold j7 at h ⊢
   by_cases r:kH (at_ d x.1.toNat).ai=true
   ·rw [if_pos r] at h ⊢
    intro h2
    have h3:dq (kyL (at_ d x.1.toNat) x.2) (kyL (at_ d x.1.toNat) y.2)=true:=by rw [jU];simpa using h
    have h4:dq (kyL (at_ d x.1.toNat) y.2) (kyL (at_ d x.1.toNat) x.2)=true:=by rw [jU];simpa using h2
    have:=sy _ _ _ h3 h4
    rw [uN] at this;cases this
   ·rw [if_neg r] at h;omega
  ·rw [mP e] at h
   rw [mP fun c=>e c.symm]
   omega
 ·intro x y z h1 h2
  rw [yc] at h1 h2 ⊢
  by_cases e1:y.1=x.1
  ·rw [nG e1] at h1
   by_cases e2:z.1=y.1
   ·rw [nG e2] at h2
    rw [nG (e2.trans e1)]
    rw [e1] at h1
    rw [e2,e1] at h2
    rw [e2,e1]
    unfold j7 at *
    by_cases r:kH (at_ d x.1.toNat).ai=true
    ·rw [if_pos r] at h1 h2 ⊢
     have:=HX (a:=kyL (at_ d x.1.toNat) x.2) (b:=kyL (at_ d x.1.toNat) y.2) (c:=kyL (at_ d x.1.toNat) z.2) (by rw [jU];simpa using h1) (by rw [jU];simpa using h2)
     rw [jU] at this
     simpa using this
    ·rw [if_neg r];omega
   ·rw [mP e2] at h2
    rw [mP (by omega)];omega
  ·rw [mP e1] at h1
   by_cases e2:z.1=y.1
   ·rw [mP (by omega)];omega
   ·rw [mP e2] at h2
    rw [mP (by omega)];omega
theorem EM{d:List ae}{x:ah}:∀ {acc out:List ah},acc.Pairwise (fun a b=>fq d a b=true)->gM d x acc=some out->out.Pairwise (fun a b=>fq d a b=true)/\out.Perm (x::acc)
 | [],out,_,h=>by
  simp only [gM,Option.some.injEq] at h
  subst h
  exact ⟨List.pairwise_singleton _ _,.refl _⟩
 | y::ys,out,hp,h=>by
  have hp':=List.pairwise_cons.1 hp
  rw [gM] at h
  by_cases h1:fq d y x=true
  ·rw [if_pos h1] at h
   cases h2:gM d x ys with
   | none=>rw [h2] at h;cases h
   | some o =>
    rw [h2] at h
    simp only [Option.map_some,Option.some.injEq] at h
    subst h
    obtain ⟨g1,g2⟩:=EM hp'.2 h2
    refine ⟨List.pairwise_cons.2 ⟨fun z hz=>?_,g1⟩,(g2.cons y).trans (List.Perm.swap x y ys)⟩
    rcases List.mem_cons.1 (g2.mem_iff.1 hz) with rfl|hz
    ·exact h1
    ·exact hp'.1 z hz
  ·rw [if_neg h1] at h
   by_cases h2:fq d x y=true
   ·rw [if_pos h2] at h
    simp only [Option.some.injEq] at h
    subst h
    refine ⟨List.pairwise_cons.2 ⟨fun z hz=>?_,hp⟩,.refl _⟩
    rcases List.mem_cons.1 hz with rfl|hz
    ·exact h2
    ·exact AZ h2 (hp'.1 z hz)
   ·rw [if_neg h2] at h;cases h
theorem EN{d:List ae}{x:ah}:∀ {acc:List ah},gM d x acc=none->∃ y∈acc,fq d y x=false/\fq d x y=false
 | [],h=>by simp [gM] at h
 | y::ys,h=>by
  rw [gM] at h
  by_cases h1:fq d y x=true
  ·rw [if_pos h1] at h
   cases h2:gM d x ys with
   | none=>obtain ⟨z,hz,h3⟩:=EN h2;exact ⟨z,by simp [hz],h3⟩
   | some o=>rw [h2] at h;cases h
  ·rw [if_neg h1] at h
   by_cases h2:fq d x y=true
   ·rw [if_pos h2] at h;cases h
   ·exact ⟨y,by simp,by simpa using h1,by simpa using h2⟩
def cmb(d:List ae)(a b:ah):Prop:=fq d a b=true\/fq d b a=true
theorem p6{d:List ae}:∀ {l acc:List ah} {R:List (Int×ah)},dW d l=some R->acc.Pairwise (fun a b=>fq d a b=true) ->
  (∃ out,gb d acc l=some out/\out.Pairwise (fun a b=>fq d a b=true)/\out.Perm (R.map Prod.snd++acc))\/(gb d acc l=none/\¬ (R.map Prod.snd++acc).Pairwise (cmb d))
 | [],acc,R,h,hp=>by
  simp only [dW,Option.some.injEq] at h
  subst h
  exact .inl ⟨acc,rT _ _,hp,.refl _⟩
 | x::xs,acc,R,h,hp=>by
  rw [dW] at h
  rw [p7]
  cases h1:jP d x with
  | none=>rw [h1] at h;cases h
  | some o =>
   rw [h1] at h
   cases o with
   | none=>exact p6 h hp
   | some y =>
    simp only at h ⊢
    cases h2:dW d xs with
    | none=>rw [h2] at h;cases h
    | some R' =>
     rw [h2] at h
     simp only [Option.map_some,Option.some.injEq] at h
     subst h
     cases h3:gM d y acc with
     | none =>
      refine .inr ⟨rfl,fun hc=>?_⟩
      obtain ⟨z,hz,a,b⟩:=EN h3
      rw [List.map_cons,List.cons_append,List.pairwise_cons] at hc
      rcases hc.1 z (List.mem_append_right _ hz) with c|c
      ·rw [b] at c;cases c
      ·rw [a] at c;cases c
     | some acc' =>
      obtain ⟨g1,g2⟩:=EM hp h3
      have hperm:(R'.map Prod.snd++acc').Perm (((idx (nmP x.af) d,y)::R').map Prod.snd++acc):=by
       rw [List.map_cons,List.cons_append]
       exact (g2.append_left _).trans List.perm_middle
      rcases p6 h2 g1 with ⟨out,e1,e2,e3⟩|⟨e1,e2⟩
      ·exact .inl ⟨out,e1,e2,e3.trans hperm⟩
      ·refine .inr ⟨e1,fun hc=>e2 ?_⟩
       exact (hperm.symm.pairwise_iff (R:=cmb d) fun {a b} h=>h.symm).1 hc
theorem wC{d:List ae}:∀ {l acc:List ah},dW d l=none->gb d acc l=none
 | [],acc,h=>by simp [dW] at h
 | x::xs,acc,h=>by
  rw [dW] at h
  rw [p7]
  cases h1:jP d x with
  | none=>rfl
  | some o =>
   rw [h1] at h
   cases o with
   | none=>exact wC h
   | some y =>
    simp only at h ⊢
    have h2:dW d xs=none:=by
     cases h2:dW d xs with
     | none=>rfl
     | some R'=>rw [h2] at h;cases h
    cases gM d y acc with
    | none=>rfl
    | some acc'=>exact wC h2
def KO(d:List ae)(r:Int×ah):Prop:=0<=r.1/\r.1=idx (nmP r.2.af) d/\kyB (at_ d r.1.toNat) r.2=true
theorem LX{n:ae}{nm v:Str}{e:Bool}{ks:Option (List ah)}{y:ah}(h:rZ n nm v e ks=some (some y)):y.af=nm/\kyB n y=true:=by
 unfold rZ at h
 split at h
 ·rename_i h1
  split at h
  ·cases h
   refine ⟨rfl,(nM (by omega)).2⟩
  ·cases h
 ·split at h
  ·cases h
  ·split at h
   ·rename_i h2
    split at h
    ·cases h
    ·cases h;exact ⟨rfl,h2.2⟩
   ·cases h
theorem LW{d:List ae}{x y:ah}(h:jP d x=some (some y)):KO d (idx (nmP x.af) d,y):=by
 unfold jP at h
 split at h
 ·cases h
 ·have:=LX h
  exact ⟨by omega,by rw [this.1],this.2⟩
theorem pd{d:List ae}:∀ {l:List ah} {R:List (Int×ah)},dW d l=some R->∀ r∈R,KO d r
 | [],R,h,r,hr=>by
  simp only [dW,Option.some.injEq] at h
  subst h;simp at hr
 | x::xs,R,h,r,hr=>by
  rw [dW] at h
  cases h1:jP d x with
  | none=>rw [h1] at h;cases h
  | some o =>
   rw [h1] at h
   cases o with
   | none=>exact pd h r hr
   | some y =>
    simp only at h
    cases h2:dW d xs with
    | none=>rw [h2] at h;cases h
    | some R' =>
     rw [h2] at h
     simp only [Option.map_some,Option.some.injEq] at h
     subst h
     rcases List.mem_cons.1 hr with rfl|hr
     ·exact LW h1
     ·exact pd h2 r hr
def zE(d:List ae)(a b:Int×ah):Prop:=a.1=b.1/\j7 (at_ d a.1.toNat) a.2 b.2=0
theorem Ph{d:List ae}{a b:Int×ah}(h:zE d a b):ltR d a b=false:=by
 rw [yc,nG h.1,h.2];omega
theorem Pj{d:List ae}{a b:Int×ah}(h:zE d a b):ltR d b a=false:=by
 rw [yc,nG h.1.symm,<- h.1]
 exact ((HF _ _ _).1 h.2).2
theorem xG{d:List ae}:∀ {l:List (Int×ah)},Srt (ltR d) l->(∀ P a b S,l=P++(a::b::S)->¬ zE d a b)->l.Pairwise fun a b=>ltR d a b=true
 | [],_,_=>List.Pairwise.nil
 | a::l,h,hn=>by
  have h1:=List.pairwise_cons.1 h
  have ih:=xG h1.2 fun P x y S e=>hn (a::P) x y S (by rw [e];rfl)
  refine List.pairwise_cons.2 ⟨fun z hz=>?_,ih⟩
  cases l with
  | nil=>simp at hz
  | cons b S =>
   have hab:ltR d a b=true:=by
    cases e:ltR d a b with
    | true=>rfl
    | false=>exact absurd (L6 a b e (h1.1 b (by simp))) (hn [] a b S rfl)
   rcases List.mem_cons.1 hz with rfl|hz
   ·exact hab
   ·cases e:ltR d a z with
    | true=>rfl
    | false =>
     have hbz:=(List.pairwise_cons.1 h1.2).1 z hz
     have:=(y5 d).trn b z a hbz e
     rw [hab] at this;cases this
theorem Cc{d:List ae}{l:List ah}{R m:List (Int×ah)}(hR:dW d l=some R)(hp:m.Perm R)(hs:Srt (ltR d) m)(hn:∀ P a b S,m=P++(a::b::S)->¬ zE d a b):gb d [] l=some (m.map Prod.snd):=by
 have hok:=pd hR
 have hst:=xG hs hn
 have hm:(m.map Prod.snd).Pairwise fun a b=>fq d a b=true:=by
  rw [List.pairwise_map]
  refine hst.imp_of_mem fun {a b} ha hb h=>?_
  rw [<- y6 (hok a (hp.mem_iff.1 ha)).2.1 (hok b (hp.mem_iff.1 hb)).2.1];exact h
 rcases p6 hR List.Pairwise.nil with ⟨out,e1,e2,e3⟩|⟨e1,e2⟩
 ·rw [e1,List.append_nil] at *
  refine congrArg some (Hl (R:=fun a b=>fq d a b=true) (fun a b c=>AZ) (fun a h=>by rw [MY] at h;cases h) e2 hm fun x=>?_)
  rw [e3.mem_iff,(hp.map Prod.snd).mem_iff]
 ·rw [List.append_nil] at e2
  refine absurd ?_ e2
  exact ((hp.map Prod.snd).pairwise_iff (R:=cmb d) fun {a b} h=>h.symm).1 (hm.imp fun h=>.inl h)
theorem Lt{d:List ae}{l:List ah}{R m P S:List (Int×ah)}{a b:Int×ah}(hR:dW d l=some R)(hp:m.Perm R)(e:m=P++(a::b::S))(h:zE d a b):gb d [] l=none:=by
 have hok:=pd hR
 rcases p6 hR List.Pairwise.nil with ⟨out,e1,e2,e3⟩|⟨e1,e2⟩
 ·exfalso
  rw [List.append_nil] at e3
  have h1:out.Pairwise (cmb d):=e2.imp fun h=>.inl h
  have h2:(m.map Prod.snd).Pairwise (cmb d):=((e3.trans (hp.map Prod.snd).symm).pairwise_iff (R:=cmb d) fun {a b} h=>h.symm).1 h1
  rw [e,List.map_append,List.pairwise_append,List.map_cons,List.map_cons,List.pairwise_cons] at h2
  have h3:=h2.2.1.1 b.2 (by simp)
  have ha:=(hok a (hp.mem_iff.1 (by rw [e];simp))).2.1
  have hb:=(hok b (hp.mem_iff.1 (by rw [e];simp))).2.1
  rcases h3 with h3|h3
  ·rw [<- y6 ha hb,Ph h] at h3;cases h3
  ·rw [<- y6 hb ha,Pj h] at h3;cases h3
 ·exact e1
theorem tN{d:List ae}{x:ah}:∀ {k:Nat} {l:List ah},k<=l.length->(∀ j<k,fq d (at_ l j) x=true)->gM d x l=(gM d x (l.drop k)).map (l.take k++·)
 | 0,l,_,_=>by simp
 | k+1,[],h,_=>by simp at h
 | k+1,y::ys,h,hb=>by
  have h0:fq d y x=true:=hb 0 (by omega)
  rw [gM,if_pos h0,tN (k:=k) (l:=ys) (by simpa using h) fun j hj=>by
   have:=hb (j+1) (by omega)
   rwa [zM] at this]
  simp only [List.drop_succ_cons,List.take_succ_cons,Option.map_map]
  rfl
theorem Jt{d:List ae}{x:ah}{l:List ah}{k:Nat}(h:k=l.length)(hb:∀ j<k,fq d (at_ l j) x=true):gM d x l=some (l.take k++x::l.drop k):=by
 rw [tN (by omega) hb,List.drop_eq_nil_of_le (by omega),gM];rfl
theorem Cn{d:List ae}{x:ah}{l:List ah}{k:Nat}(h:k<l.length)(hb:∀ j<k,fq d (at_ l j) x=true)(h1:fq d (at_ l k) x=false):gM d x l=if fq d x (at_ l k)=true then some (l.take k++x::l.drop k) else none:=by
 rw [tN (by omega) hb,ct h,gM,if_neg (by rw [h1];simp)]
 by_cases h2:fq d x (at_ l k)=true
 ·rw [if_pos h2,if_pos h2];rfl
 ·rw [if_neg h2,if_neg h2];rfl
end
section
def srF:Option (List ah)->AV
 | some r=>.tup [.sl false 3 (r.map (ak false)),.v (.bool true)]
 | none=>.tup [.v (.slice none 0 0),.v (.bool false)]
def srO:Option (List ah)->AV
 | some r=>.tup [.sl true 3 (r.map (ak true)),.v (.bool true)]
 | none=>.tup [.v (.slice none 0 0),.v (.bool false)]
end
section
theorem Ki(a b:Str)(c:List ah):(ah.mk a b c).af=a:=rfl
theorem Kh(a b:Str)(c:List ah):(ah.mk a b c).ax=b:=rfl
theorem Kj(a b:Str)(c:List ah):(ah.mk a b c).ag=c:=rfl
def qI(d:List ae)(x:ah)(v:Str)(ks:List ah)(ok:Bool):Prop :=
 jP d x=if ok=true/\kyB (at_ d (idx (nmP x.af) d).toNat) (.mk x.af v ks)=true then
  (if (at_ d (idx (nmP x.af) d).toNat).ai=1/\(at_ d (idx (nmP x.af) d).toNat).bw=false/\ks=[] then some none else some (some (.mk x.af v ks))) else none
theorem Am{d:List ae}{x:ah}(h0:0<=idx (nmP x.af) d)(h:(at_ d (idx (nmP x.af) d).toNat).ai=3\/(at_ d (idx (nmP x.af) d).toNat).ai=4) :
  qI d x (cvS (at_ d (idx (nmP x.af) d).toNat).fType x.ax) [] (cvB (at_ d (idx (nmP x.af) d).toNat).fType x.ax && x.ag.isEmpty):=by
 unfold qI
 rw [jP,if_neg (by omega)]
 unfold rZ
 rw [if_pos h,(nM (by omega)).2]
 simp only [Bool.and_eq_true,and_true]
 by_cases hc:cvB (at_ d (idx (nmP x.af) d).toNat).fType x.ax=true/\x.ag.isEmpty=true
 ·rw [if_pos hc,if_pos hc,if_neg (by rintro ⟨h1,_⟩;omega)]
 ·rw [if_neg hc,if_neg hc]
theorem Ak{d:List ae}{x:ah}{ks:List ah}(h0:0<=idx (nmP x.af) d)(h:¬ (at_ d (idx (nmP x.af) d).toNat).ai=3/\¬ (at_ d (idx (nmP x.af) d).toNat).ai=4)
  (hk:gb (dk (at_ d (idx (nmP x.af) d).toNat).ag) [] x.ag=some ks):qI d x [] ks (x.ax == []):=by
 unfold qI
 rw [jP,if_neg (by omega),hk]
 unfold rZ
 rw [if_neg (by omega)]
 simp only [beq_iff_eq]
theorem Al{d:List ae}{x:ah}(h0:0<=idx (nmP x.af) d)(h:¬ (at_ d (idx (nmP x.af) d).toNat).ai=3/\¬ (at_ d (idx (nmP x.af) d).toNat).ai=4)
  (hk:gb (dk (at_ d (idx (nmP x.af) d).toNat).ag) [] x.ag=none):qI d x [] [] false:=by
 unfold qI
 rw [jP,if_neg (by omega),hk]
 unfold rZ
 rw [if_neg (by omega)]
 simp
end
end Go.Dt
