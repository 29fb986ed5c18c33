/- Part of a proof. -/
import Derived.Test.YtpelkkfkecfmbaaGreatDoorH19
set_option linter.all false
set_option maxRecDepth 20000
set_option maxHeartbeats 4000000
open Go.Proofs.Tryz
namespace Go.Ab
section
class acO(u:Value)(l:List AV)(pr:outParam (List AV))(x:outParam AV)(post:outParam (List AV)):Prop where
 e:l=pr++([.pin u x]++post)
end
section
attribute [go_sem] mo AV.qC
section
variable {L : Nat -> Nat} {P : Program} {n : Nat} {t : List (Nat × AV)} {o : Sto} {Q : Exit -> AS -> Prop}
def AW.post{c:Code}{s:AS}(h:AW L P c s (fun e s'=>Imp L s' (Q e))):AW L P c s Q:=by intro B F0 w0 a w hd;refine wp_mono (h B F0 w0 a w hd) ?_;rintro e a' w' ⟨s',h1,h2⟩;exact h1 B F0 w0 a' w' h2
def AW.rF{c:Code}(ks live:List Nat)(I:Nat->List AV->Sto->Prop)(m:Nat)(o0:Sto)(ho:jk o0 o)(h0:I m (ks.map (T t)) o0)
  (round:∀ m xs o',I m xs o'->AW L P c ⟨n,ks.zip xs++dP t live,o'⟩ (thenQ (fun s'=>Imp L s' fun s'=>s'.n=n/\∃ m' xs' o'',m'<m/\I m' xs' o''/\dP s'.t (ks++live)=ks.zip xs'++dP t live/\jk o'' s'.o) Q)):AW L P (.loop c) ⟨n,t,o⟩ Q:=by
 refine AW.aw ks live I m o0 ho h0 fun m xs o' hI=>AW.post ?_;refine (round m xs o' hI).mono ?_;intro e s' h
 cases e with
 | normal=>exact h
 | _=>exact fun B F0 w0 a w hd=>⟨s',h,hd⟩
end
end
section
class o7(hd l:List AV)(px ux post:outParam (List AV)):Prop where
 e:l=px++post
 hh:fJ px=hd
 uu:mi px=ux
instance adP{l:List AV}:o7 [] l [] [] l:=⟨rfl,rfl,rfl⟩
instance adO{u:Value}{x:AV}{hd l px ux post:List AV}[h:o7 hd l px ux post]:o7 (.v u::hd) (.pin u x::l) (.pin u x::px) (x::ux) post :=
 ⟨by rw [h.e];rfl,by simp only [fJ,AV.hdr,h.hh],by simp only [mi,AV.unp,h.uu]⟩
instance sgV{u:Value}{hd l px ux post:List AV}[h:o7 hd l px ux post]:o7 (.v u::hd) (.v u::l) (.v u::px) (.v u::ux) post :=
 ⟨by rw [h.e];rfl,by simp only [fJ,AV.hdr,h.hh],by simp only [mi,AV.unp,h.uu]⟩
instance adN{u:List UInt8}{hd l px ux post:List AV}[h:o7 hd l px ux post]:o7 (.str u::hd) (.str u::l) (.str u::px) (.str u::ux) post :=
 ⟨by rw [h.e];rfl,by simp only [fJ,AV.hdr,h.hh],by simp only [mi,AV.unp,h.uu]⟩
class Kc(hd l:List AV)(pr px ux post:outParam (List AV)):Prop where
 e:l=pr++(px++post)
 hh:fJ px=hd
 uu:mi px=ux
instance adA{hd l px ux post:List AV}[h:o7 hd l px ux post]:Kc hd l [] px ux post:=⟨h.e,h.hh,h.uu⟩
class HX(hd:List AV)(os:Sto)(b:outParam Nat)(pr px ux post:outParam (List AV))(sd:outParam Prop):Prop where
 e:sd->O os b=some (pr++(px++post))
 hh:fJ px=hd
 uu:mi px=ux
instance adB{hd:List AV}{os:Sto}{b:Nat}{cells pr px ux post:List AV}[h:Kc hd cells pr px ux post]:HX hd ((b,some cells)::os) b pr px ux post True:=⟨fun _=>by rw [fq,h.e],h.hh,h.uu⟩
class abU(u:Value)(os:Sto)(b:outParam Nat)(pr:outParam (List AV))(x:outParam AV)(post:outParam (List AV))(sd:outParam Prop):Prop where
 e:sd->O os b=some (pr++([.pin u x]++post))
class vB(os:Sto)(args:List AV)(la:outParam (List AV))(sd:outParam Prop):Prop where
 h:sd->mY os args la
instance ad5{os:Sto}:vB os [] [] True:=⟨fun _=>.nil⟩
instance aco{os:Sto}{x:AV}{xs ys:List AV}{sd:Prop}[h:vB os xs ys sd]:vB os (x::xs) ((bif x.cW then x else x.frz)::ys) sd:=⟨fun s=>(h.h s).low⟩
instance ad4{os:Sto}{hd:List AV}{b:Nat}{pr px ux post:List AV}{s1 s2:Prop}{xs ys:List AV}[hp:HX hd os b pr px ux post s1][h:vB os xs ys s2]:vB os (.agg hd::xs) (.agg (AV.bg px)::ys) ((s1/\q8 hd=true)/\s2) :=
 ⟨fun s=>mY.pin true b pr px post (hp.e s.1.1) (by rw [hp.hh];exact s.1.2) (fun e=>by cases e) (by rw [hp.hh];rfl) (h.h s.2)⟩
class Rq(G:Prop)(R:outParam Prop):Prop where
 r:R->G
instance ad0{G R:Prop}[h:Rq G R]:Rl G R:=⟨h.r⟩
def CallQ(L:eaa)(P:Program)(os:Sto)(la:List AV)(f:FuncId)[K:Hd (AV->Sto->Prop)]:Prop:=enters P f=true/\∃ res,res.closed=true/\eY L P f la res/\K.v res os
def CallR(L:eaa)(P:Program)(la:List AV)(G:Bool)(f:FuncId)[K:Hd (AV->Prop)]:Prop:=∃ res,(G=true->enters P f=true/\res.closed=true/\eY L P f la res)/\K.v res
instance cQ{L:eaa}{P:Program}{os rs:Sto}{la la':List AV}{bo:Option (Nat×Nat×List AV)}{rest args:List AV}{f:FuncId}{K:AV->Sto->Prop}{KB:Nat->Nat->List AV->AV->Prop}{KX:yp}{sd:Prop}[h:vB os args la' sd] :
  Rq (CallN L P os rs la bo rest f args (K:=⟨K⟩) (KB:=⟨KB⟩) (KX:=⟨KX⟩)) (sd/\CallQ L P os la' f (K:=⟨K⟩)) :=
 ⟨fun hh=>by
  obtain ⟨hs,he,res,hc,hp,hk⟩:=hh
  exact ⟨he,.inr (.inr (.inl ⟨la',res,h.h hs,hc,hp,hk⟩))⟩⟩
instance cQc{L:eaa}{P:Program}{os:Sto}{la:List AV}{f:FuncId}{K:AV->Sto->Prop}{res:AV}{cs:List (Option (List AV))}{pre:Prop}[h:Ctr L P f [] la res cs pre]:Rl (CallQ L P os la f (K:=⟨K⟩)) (res.closed=true/\pre/\K res os) :=
 ⟨fun hh=>⟨h.en,res,hh.1,h.pure hh.2.1,hh.2.2⟩⟩
instance cR{L:eaa}{P:Program}{os:Sto}{la la':List AV}{G:Bool}{f:FuncId}{args:List AV}{K:AV->Prop}{sd:Prop}[h:vB os args la' sd]:Rq (CallP L P os la G f args (K:=⟨K⟩)) (sd/\CallR L P la' G f (K:=⟨K⟩)) :=
 ⟨fun hh=>by
  obtain ⟨hs,res,hp,hk⟩:=hh
  exact ⟨res,fun hg=>⟨(hp hg).1,.inr ⟨la',h.h hs,(hp hg).2.1,(hp hg).2.2⟩⟩,hk⟩⟩
instance cRc{L:eaa}{P:Program}{la:List AV}{G:Bool}{f:FuncId}{K:AV->Prop}{res:AV}{cs:List (Option (List AV))}{pre:Prop}[h:Ctr L P f [] la res cs pre]:Rl (CallR L P la G f (K:=⟨K⟩)) (res.closed=true/\(G=true->pre)/\K res) :=
 ⟨fun hh=>⟨res,fun hg=>⟨h.en,hh.1,h.pure (hh.2.1 hg)⟩,hh.2.2⟩⟩
end
section
def UN(a:Operand):(#[a]++(none:Option Operand).toArray++(none:Option Operand).toArray++(none:Option Operand).toArray).toList=[a]:=rfl
def UM(a b:Operand):(#[a]++(none:Option Operand).toArray++(some b).toArray++(none:Option Operand).toArray).toList=[a,b]:=rfl
def UL(a b:Operand):(#[a]++(some b).toArray++(none:Option Operand).toArray++(none:Option Operand).toArray).toList=[a,b]:=rfl
def UK(a b c:Operand):(#[a]++(some b).toArray++(some c).toArray++(none:Option Operand).toArray).toList=[a,b,c]:=rfl
attribute [go_sem] UN UM UL UK
end
section
class Rx(G:Prop)(R:outParam Prop):Prop where
 r:R->G
theorem X{G R:Prop}[h:Rx G R](p:R):G:=h.r p
class xo(hs:Nat->Value)(j:Nat)(l:List AV)(l':outParam (List AV)):Prop where
 e:mo hs j l=l'
class LM(hs:Nat->Value)(j:Nat)(l:List AV)(l':outParam (List AV)):Prop where
 e:mo hs j l=l'
section
variable {hs : Nat -> Value} {j sz : Nat} {l l' m : List AV} {u : Value} {s : List UInt8} {x : AV}
instance ad2:xo hs j [] []:=⟨rfl⟩
instance paV [h:xo hs (j+1) l l']:xo hs j (.v u::l) (.v u::l'):=⟨by simp only [mo,AV.qC,h.e]⟩
instance paS [h:xo hs (j+1) l l']:xo hs j (.str s::l) (.str s::l'):=⟨by simp only [mo,AV.qC,h.e]⟩
instance paO [h:xo hs (j+1) l l']:xo hs j (.sl true sz m::l) (.pin (hs j) (.sl true sz m)::l'):=⟨by simp only [mo,AV.qC,h.e]⟩
instance poS [h:LM hs (j+1) l l']:LM hs j (.str s::l) (.str s::l'):=⟨by simp only [mo,AV.qC,h.e]⟩
instance poO [h:xo hs (j+1) l l']:LM hs j (.sl true sz m::l) (.pin (hs j) (.sl true sz m)::l'):=⟨by simp only [mo,AV.qC,h.e]⟩
end
instance aet{L:eaa}{P:Program}{c:Code}{n b:Nat}{t:daa}{cells:List AV}{o:Sto}{Q:Exit->AS->Prop}{out:(Nat->Value)->List AV}[h:∀ hs:Nat->Value,LM hs 0 cells (out hs)] :
  Rx (AW L P c ⟨n,t,(b,some cells)::o⟩ Q) (∀ hs:Nat->Value,AW L P c ⟨n,t,(b,some (out hs))::o⟩ Q) :=
 ⟨fun hh=>AW.imp (Imp.aaA (b:=b) [] cells [] (by rw [fq];simp) fun hs=>by
  rw [Iw,(h hs).e,List.nil_append,List.append_nil];exact hh hs)⟩
end
end Go.Ab
namespace Go.Proofs
open Go.Ab Go.Dt
section
end
section
instance acH(L:eaa)(x:ah)(n:Str):Ctr L prog 285 [] [.agg (cNo x),.vp [.str n]] (.ac (x.ag == n)) [] True:=by
 refine Ctr.bd func285 ntmps285 fun hp=>?_
 all_goals exact uU
instance aaT(L:eaa)[hL:Lok L](l:List ah)(n:Str):Ctr L prog 284 [] [.sl false 3 (l.map (ak false)),.fn 285 [.vp [.str n]]] (.aa (idx (ndP n) l)) [] True:=by
 refine Ctr.bd func284 ntmps284 fun hp=>?_;refine AW.f1 0 fun hf=>?_;have hf:=Nat.le_trans hf (hL.le 3);refine vU1 ?_;refine AW.aw [8] [0,1,7] (fun m xs o=>∃ k:Nat,xs=[.aa k]/\o=[]/\m=l.length - k/\k<=l.length/\∀ x∈l.take k,ndP n x=false) l.length [] trivial ⟨0,?_,rfl,rfl,?_,?_⟩ ?_
 ·rfl
 ·omega
 ·simp
 rintro m xs o ⟨k,rfl,rfl,rfl,hk,hR⟩
 (refine vU3 ?_ ?_ ?_<;>with_reducible repeat intro h)
 ·rw [gV (p:=ndP n) yG hR (by simpa [ndP] using h)]
 ·exact ⟨_,[_],[],Ir,⟨k+1,rfl,rfl,rfl,Ir,aL (p:=ndP n) yG hR (by simpa [ndP] using h)⟩,rfl,trivial⟩
 ·rw [jo (p:=ndP n) h hR]
instance aa7(L:eaa)[hL:Lok L](l:List ah)(n:Str):Ctr L prog 242 [] [.sl false 3 (l.map (ak false)),.str n] (.aa (idx (ndP n) l)) [] True:=by
 refine Ctr.bd func242 ntmps242 fun hp=>?_
 all_goals exact uU
instance aah(L:eaa)[hL:Lok L](l:List ah)(n:Str):Ctr L prog 141 [] [.sl false 3 (l.map (ak false)),.str n] (.aa (idx (ndP n) l)) [] True:=by
 refine Ctr.bd func141 ntmps141 fun hp=>?_;refine AW.f1 0 fun hf=>?_;have hf:=Nat.le_trans hf (hL.le 3);refine vU1 ?_;refine AW.aw [5] [0,1] (fun m xs o=>∃ k:Nat,xs=[.aa k]/\o=[]/\m=l.length - k/\k<=l.length/\∀ x∈l.take k,ndP n x=false) l.length [] trivial ⟨0,?_,rfl,rfl,?_,?_⟩ ?_
 ·rfl
 ·omega
 ·simp
 rintro m xs o ⟨k,rfl,rfl,rfl,hk,hR⟩
 (refine vU3 ?_ ?_ ?_<;>with_reducible repeat intro h)
 ·rw [gV (p:=ndP n) yG hR (by simpa [ndP] using h)]
 ·exact ⟨_,[_],[],Ir,⟨k+1,rfl,rfl,rfl,Ir,aL (p:=ndP n) yG hR (by simpa [ndP] using h)⟩,rfl,trivial⟩
 ·rw [jo (p:=ndP n) h hR]
instance acZ(L:eaa)(k:Int):Ctr L prog 143 [] [.aa k] (.ac (fG k)) [] True:=by refine Ctr.bd func143 ntmps143 fun hp=>?_;have gOn:=aD.on;refine vU1 ?_;refine congrArg (fun b=>AV.ac b) ?_;unfold fG;grind
end
end Go.Proofs
