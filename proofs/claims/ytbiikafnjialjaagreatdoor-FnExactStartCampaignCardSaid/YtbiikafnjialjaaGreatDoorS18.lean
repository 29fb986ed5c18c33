/- Part of a proof. -/
import Derived.Test.YtbiikafnjialjaaGreatDoorS11
set_option linter.all false
open List
namespace Go.Ab
class rr(u:Value)(l:List AV)(pr:outParam (List AV))(x:outParam AV)(post:outParam (List AV)):Prop where
 e:l=pr++([.pin u x]++post)
instance{u:Value}{p l pr:List AV}{x:AV}{post:List AV}[h:rr u l pr x post]:rr u (p++l) (p++pr) x post:=⟨by rw[h.e];simp⟩
instance{u:Value}{y:AV}{l pr:List AV}{x:AV}{post:List AV}[h:rr u l pr x post]:rr u (y::l) (y::pr) x post:=⟨by rw[h.e];rfl⟩
instance{u:Value}{x:AV}{post:List AV}:rr u (.pin u x::post) [] x post:=⟨rfl⟩
section
attribute [go_sem] jO AV.vg
section
variable {L : Nat -> Nat} {P : Program} {n : Nat} {t : List (Nat × AV)} {o : Sto} {Q : Exit -> AS -> Prop}
def AW.post{c:Code}{s:AS}(h:AW L P c s (λe s'=>Imp L s' (Q e))):AW L P c s Q:=by intro B F0 w0 a w hd;refine wp_mono (h B F0 w0 a w hd) ?_;rintro e a' w' ⟨s',h1,h2⟩;exact h1 B F0 w0 a' w' h2
def AW.lJ{c:Code}(ks live:List Nat)(I:Nat->List AV->Sto->Prop)(m:Nat)(o0:Sto)(ho:jM o0 o)(h0:I m (ks.map (T t)) o0)
  (round:∀m xs o',I m xs o'->AW L P c ⟨n,ks.zip xs++fu t live,o'⟩ (thenQ (λs'=>Imp L s' λs'=>s'.n=n/\∃m' xs' o'',m'<m/\I m' xs' o''/\fu s'.t (ks++live)=ks.zip xs'++fu t live/\jM o'' s'.o) Q)):AW L P (.loop c) ⟨n,t,o⟩ Q:=by
 refine AW.aw ks live I m o0 ho h0 λm xs o' hI=>AW.post ?_;refine(round m xs o' hI).mono ?_;intro e s' h
 cases e with
 | normal=>exact h
 | _=>exact λB F0 w0 a w hd=>⟨s',h,hd⟩
end
end
class qh(hd l:List AV)(px ux post:outParam (List AV)):Prop where
 e:l=px++post
 hh:gu px=hd
 uu:iW px=ux
instance{l:List AV}:qh [] l [] [] l:=⟨rfl,rfl,rfl⟩
instance{u:Value}{x:AV}{hd l px ux post:List AV}[h:qh hd l px ux post]:qh (.v u::hd) (.pin u x::l) (.pin u x::px) (x::ux) post :=
 ⟨by rw[h.e];rfl,by simp only[gu,AV.hdr,h.hh],by simp only[iW,AV.unp,h.uu]⟩
instance{u:Value}{hd l px ux post:List AV}[h:qh hd l px ux post]:qh (.v u::hd) (.v u::l) (.v u::px) (.v u::ux) post :=
 ⟨by rw[h.e];rfl,by simp only[gu,AV.hdr,h.hh],by simp only[iW,AV.unp,h.uu]⟩
instance{u:List UInt8}{hd l px ux post:List AV}[h:qh hd l px ux post]:qh (.str u::hd) (.str u::l) (.str u::px) (.str u::ux) post :=
 ⟨by rw[h.e];rfl,by simp only[gu,AV.hdr,h.hh],by simp only[iW,AV.unp,h.uu]⟩
class J4(hd l:List AV)(pr px ux post:outParam (List AV)):Prop where
 e:l=pr++(px++post)
 hh:gu px=hd
 uu:iW px=ux
instance{hd l px ux post:List AV}[h:qh hd l px ux post]:J4 hd l [] px ux post:=⟨h.e,h.hh,h.uu⟩
class su(hd:List AV)(os:Sto)(b:outParam Nat)(pr px ux post:outParam (List AV))(sd:outParam Prop):Prop where
 e:sd->O os b=some (pr++(px++post))
 hh:gu px=hd
 uu:iW px=ux
instance{hd:List AV}{os:Sto}{b b':Nat}{c:Option (List AV)}{pr px ux post:List AV}{sd:Prop}[h:su hd os b pr px ux post sd]:su hd ((b',c)::os) b pr px ux post (b'≠b/\sd):=⟨λs=>by rw[xV s.1];exact h.e s.2,h.hh,h.uu⟩
instance{hd:List AV}{os:Sto}{b:Nat}{cells pr px ux post:List AV}[h:J4 hd cells pr px ux post]:su hd ((b,some cells)::os) b pr px ux post True:=⟨λ_=>by rw[eM,h.e],h.hh,h.uu⟩
class HX(u:Value)(os:Sto)(b:outParam Nat)(pr:outParam (List AV))(x:outParam AV)(post:outParam (List AV))(sd:outParam Prop):Prop where
 e:sd->O os b=some (pr++([.pin u x]++post))
instance{u:Value}{os:Sto}{b:Nat}{cells pr post:List AV}{x:AV}[h:rr u cells pr x post]:HX u ((b,some cells)::os) b pr x post True:=⟨λ_=>by rw[eM,h.e]⟩
instance{L:gaa}{P:Program}{os rs:Sto}{la:List AV}{bo:Option (Nat×Nat×List AV)}{rest:List AV}{f:FuncId}{K:AV->Sto->Prop}{KB:Nat->Nat->List AV->AV->Prop}{KX:tu}{b:Nat}{pr post:List AV}{u:Value}{x res:AV}{x':List AV}{pre sd:Prop}[hp:HX u os b pr x post sd][h:sj L P f false [x] rest res x' pre] :
  Rl (CallN L P os rs la bo rest f (.v u::rest) (K:=⟨K⟩) (KB:=⟨KB⟩) (KX:=⟨KX⟩)) (sd/\AV.nownL rest=true/\pre/\K res (ic os b (some (pr++(lR [.pin u x] x'++post))))) :=
 ⟨λhh=>by
  have e1:iW [AV.pin u x]=[x]:=by simp[iW,AV.unp]
  have h':sj L P f false (iW [AV.pin u x]) rest res x' pre:=by rw[e1];exact h
  exact CallN.inO (h:=h') b pr [.pin u x] post rfl (hp.e hh.1) rfl hh.2.1 hh.2.2.1 hh.2.2.2⟩
instance{L:gaa}{P:Program}{os rs:Sto}{la:List AV}{bo:Option (Nat×Nat×List AV)}{rest:List AV}{f:FuncId}{K:AV->Sto->Prop}{KB:Nat->Nat->List AV->AV->Prop}{KX:tu}{b:Nat}{pr px ux post hd:List AV}{res:AV}{x':List AV}{pre sd:Prop}[hp:su hd os b pr px ux post sd][h:sj L P f true ux rest res x' pre] :
  Rl (CallN L P os rs la bo rest f (.agg hd::rest) (K:=⟨K⟩) (KB:=⟨KB⟩) (KX:=⟨KX⟩)) (sd/\AV.nownL rest=true/\o6 hd=true/\pre/\K res (ic os b (some (pr++(lR px x'++post))))) :=
 ⟨λhh=>by
  have h':sj L P f true (iW px) rest res x' pre:=by rw[hp.uu];exact h
  exact CallN.inO (h:=h') b pr px post (by rw[hp.hh];rfl) (hp.e hh.1) (by rw[hp.hh];exact hh.2.2.1) hh.2.1 hh.2.2.2.1 hh.2.2.2.2⟩
class AB(os:Sto)(args:List AV)(la:outParam (List AV))(sd:outParam Prop):Prop where
 h:sd->ou os args la
instance{os:Sto}:AB os [] [] True:=⟨λ_=>.nil⟩
instance{os:Sto}{x:AV}{xs ys:List AV}{sd:Prop}[h:AB os xs ys sd]:AB os (x::xs) ((bif x.du then x else x.frz)::ys) sd:=⟨λs=>(h.h s).low⟩
instance{os:Sto}{hd:List AV}{b:Nat}{pr px ux post:List AV}{s1 s2:Prop}{xs ys:List AV}[hp:su hd os b pr px ux post s1][h:AB os xs ys s2]:AB os (.agg hd::xs) (.agg (AV.cl px)::ys) ((s1/\o6 hd=true)/\s2) :=
 ⟨λs=>ou.pin true b pr px post (hp.e s.1.1) (by rw[hp.hh];exact s.1.2) (λe=>by cases e) (by rw[hp.hh];rfl) (h.h s.2)⟩
class Rq(G:Prop)(R:outParam Prop):Prop where
 r:R->G
instance{G R:Prop}[h:Rq G R]:Rl G R:=⟨h.r⟩
def CallQ(L:gaa)(P:Program)(os:Sto)(la:List AV)(f:FuncId)[K:Hd (AV->Sto->Prop)]:Prop:=enters P f=true/\∃res,res.closed=true/\gj L P f la res/\K.v res os
def CallR(L:gaa)(P:Program)(la:List AV)(G:Bool)(f:FuncId)[K:Hd (AV->Prop)]:Prop:=∃res,(G=true->enters P f=true/\res.closed=true/\gj L P f la res)/\K.v res
instance{L:gaa}{P:Program}{os rs:Sto}{la la':List AV}{bo:Option (Nat×Nat×List AV)}{rest args:List AV}{f:FuncId}{K:AV->Sto->Prop}{KB:Nat->Nat->List AV->AV->Prop}{KX:tu}{sd:Prop}[h:AB os args la' sd] :
  Rq (CallN L P os rs la bo rest f args (K:=⟨K⟩) (KB:=⟨KB⟩) (KX:=⟨KX⟩)) (sd/\CallQ L P os la' f (K:=⟨K⟩)) :=
 ⟨λhh=>by
  obtain⟨hs,he,res,hc,hp,hk⟩:=hh
  exact⟨he,.inr (.inr (.inl ⟨la',res,h.h hs,hc,hp,hk⟩))⟩⟩
instance{L:gaa}{P:Program}{os:Sto}{la:List AV}{f:FuncId}{K:AV->Sto->Prop}{res:AV}{cs:List (Option (List AV))}{pre:Prop}[h:Ctr L P f [] la res cs pre]:Rl (CallQ L P os la f (K:=⟨K⟩)) (res.closed=true/\pre/\K res os) :=
 ⟨λhh=>⟨h.en,res,hh.1,h.pure hh.2.1,hh.2.2⟩⟩
instance{L:gaa}{P:Program}{os:Sto}{la la':List AV}{G:Bool}{f:FuncId}{args:List AV}{K:AV->Prop}{sd:Prop}[h:AB os args la' sd]:Rq (CallP L P os la G f args (K:=⟨K⟩)) (sd/\CallR L P la' G f (K:=⟨K⟩)) :=
 ⟨λhh=>by
  obtain⟨hs,res,hp,hk⟩:=hh
  exact⟨res,λhg=>⟨(hp hg).1,.inr ⟨la',h.h hs,(hp hg).2.1,(hp hg).2.2⟩⟩,hk⟩⟩
instance{L:gaa}{P:Program}{la:List AV}{G:Bool}{f:FuncId}{K:AV->Prop}{res:AV}{cs:List (Option (List AV))}{pre:Prop}[h:Ctr L P f [] la res cs pre]:Rl (CallR L P la G f (K:=⟨K⟩)) (res.closed=true/\(G=true->pre)/\K res) :=
 ⟨λhh=>⟨res,λhg=>⟨h.en,hh.1,h.pure (hh.2.1 hg)⟩,hh.2.2⟩⟩
section
def UU(a:Operand):(#[a]++(none:Option Operand).toArray++(none:Option Operand).toArray++(none:Option Operand).toArray).toList=[a]:=rfl
def UT(a b:Operand):(#[a]++(none:Option Operand).toArray++(some b).toArray++(none:Option Operand).toArray).toList=[a,b]:=rfl
def US(a b:Operand):(#[a]++(some b).toArray++(none:Option Operand).toArray++(none:Option Operand).toArray).toList=[a,b]:=rfl
def UR(a b c:Operand):(#[a]++(some b).toArray++(some c).toArray++(none:Option Operand).toArray).toList=[a,b,c]:=rfl
attribute [go_sem] UU UT US UR
end
class Rx(G:Prop)(R:outParam Prop):Prop where
 r:R->G
theorem X{G R:Prop}[h:Rx G R](p:R):G:=h.r p
class Ly(hs:Nat->Value)(j:Nat)(l:List AV)(l':outParam (List AV)):Prop where
 e:jO hs j l=l'
class Lx(hs:Nat->Value)(j:Nat)(l:List AV)(l':outParam (List AV)):Prop where
 e:jO hs j l=l'
section
variable {hs : Nat -> Value} {j sz : Nat} {l l' m : List AV} {u : Value} {s : List UInt8} {x : AV}
instance:Ly hs j [] []:=⟨rfl⟩
instance paO [h:Ly hs (j+1) l l']:Ly hs j (.sl true sz m::l) (.pin (hs j) (.sl true sz m)::l'):=⟨by simp only[jO,AV.vg,h.e]⟩
instance poV [h:Lx hs (j+1) l l']:Lx hs j (.v u::l) (.v u::l'):=⟨by simp only[jO,AV.vg,h.e]⟩
instance poO [h:Ly hs (j+1) l l']:Lx hs j (.sl true sz m::l) (.pin (hs j) (.sl true sz m)::l'):=⟨by simp only[jO,AV.vg,h.e]⟩
end
instance{L:gaa}{P:Program}{c:Code}{n b:Nat}{t:faa}{cells:List AV}{o:Sto}{Q:Exit->AS->Prop}{out:(Nat->Value)->List AV}[h:∀hs:Nat->Value,Lx hs 0 cells (out hs)] :
  Rx (AW L P c ⟨n,t,(b,some cells)::o⟩ Q) (∀hs:Nat->Value,AW L P c ⟨n,t,(b,some (out hs))::o⟩ Q) :=
 ⟨λhh=>AW.imp (Imp.rI (b:=b) [] cells [] (by rw[eM];simp) λhs=>by
  rw[IA,(h hs).e,nil_append,append_nil];exact hh hs)⟩
section
section
variable {L : Nat -> Nat} {n : Nat} {t : List (Nat × AV)} {o : Sto} {Q : AS -> Prop}
def Imp.BQ{b0 k b sz:Nat}{cells0 l:List AV}(x:AV)(hO0:O o b0=some cells0)(hk:cells0[k]? = some (.arr b 0 (l.length+1) sz))(hO:O o b=some (l.flatMap AV.cells++x.cells))(hne:b≠b0)(hel:∀y,y∈l->y.elem sz=true)(hx:x.elem sz=true)
  (h:Q ⟨n,t,(b,none)::(b0,some (cells0.set k (.sl true sz (l++[x]))))::o⟩):Imp L ⟨n,t,o⟩ Q:=by
 have lG:∀y,y∈l++[x]->y.elem sz=true:=by
  intro y hy;rcases List.mem_append.1 hy with hy|hy
  ·exact hel y hy
  ·rw[List.mem_singleton.1 hy];exact hx
 refine Imp.ER (b0:=b0) (k:=k) (b:=b) (len:=l.length+1) (sz:=sz) (l:=l++[x]) hO0 hk hO hne Xp ?_ lG h;have h1:=dw lG;rw[length_append,length_singleton,flatMap_append,flatMap_cons,flatMap_nil,append_nil]at h1;rw[flatMap_append,flatMap_cons,flatMap_nil,append_nil,take_of_length_le (Nat.le_of_eq h1)]
