/-
  Part of a proof: AbZ.
-/
import Derived.Test.YtmcjbaafmjlblaaGreatDoorG2
import Derived.Test.YtmcjbaafmjlblaaGreatDoorG10
set_option linter.unusedSimpArgs false
set_option linter.unusedVariables false
namespace Go.Ab
class FindPin(u:Value)(l:List AV)(pr:outParam (List AV))(x:outParam AV)(post:outParam (List AV)):Prop where
 e:l=pr++([.pin u x]++post)
instance fpApp{u:Value}{p l pr:List AV}{x:AV}{post:List AV}[h:FindPin u l pr x post]:FindPin u (p++l) (p++pr) x post:=⟨by rw [h.e];simp⟩
instance fpSkip{u:Value}{y:AV}{l pr:List AV}{x:AV}{post:List AV}[h:FindPin u l pr x post]:FindPin u (y::l) (y::pr) x post:=⟨by rw [h.e];rfl⟩
instance fpHead{u:Value}{x:AV}{post:List AV}:FindPin u (.pin u x::post) [] x post:=⟨rfl⟩
end Go.Ab
namespace Go.Ab
attribute [go_sem] pinW AV.pinI
section
variable {L : Nat → Nat} {P : Program} {n : Nat} {t : List (Nat × AV)} {o : Sto} {Q : Exit → AS → Prop}
theorem AW.post{c:Code}{s:AS}(h:AW L P c s (fun e s'=>Imp L s' (Q e))):AW L P c s Q:=by
 intro B F0 w0 a w hd
 refine wp_mono (h B F0 w0 a w hd) ?_
 rintro e a' w' ⟨s',h1,h2⟩
 exact h1 B F0 w0 a' w' h2
theorem AW.loopW{c:Code}(ks live:List Nat)(I:Nat→List AV→Sto→Prop)(m:Nat)(o0:Sto)(ho:subO o0 o)(h0:I m (ks.map (T t)) o0)
  (round:∀ m xs o',I m xs o'→AW L P c ⟨n,ks.zip xs++keepT t live,o'⟩ (thenQ (fun s'=>Imp L s' fun s'=>s'.n=n∧∃ m' xs' o'',m'<m∧I m' xs' o''∧keepT s'.t (ks++live)=ks.zip xs'++keepT t live∧subO o'' s'.o) Q)):AW L P (.loop c) ⟨n,t,o⟩ Q:=by
 refine AW.loopV ks live I m o0 ho h0 fun m xs o' hI=>AW.post ?_
 refine (round m xs o' hI).mono ?_
 intro e s' h
 cases e with
 | normal=>exact h
 | _=>exact fun B F0 w0 a w hd=>⟨s',h,hd⟩
end
end Go.Ab
namespace Go.Ab
class SegPre(hd l:List AV)(px ux post:outParam (List AV)):Prop where
 e:l=px++post
 hh:hdrL px=hd
 uu:unpL px=ux
instance sgNil{l:List AV}:SegPre [] l [] [] l:=⟨rfl,rfl,rfl⟩
instance sgPin{u:Value}{x:AV}{hd l px ux post:List AV}[h:SegPre hd l px ux post]:SegPre (.v u::hd) (.pin u x::l) (.pin u x::px) (x::ux) post :=
 ⟨by rw [h.e];rfl,by simp only [hdrL,AV.hdr,h.hh],by simp only [unpL,AV.unp,h.uu]⟩
instance sgV{u:Value}{hd l px ux post:List AV}[h:SegPre hd l px ux post]:SegPre (.v u::hd) (.v u::l) (.v u::px) (.v u::ux) post :=
 ⟨by rw [h.e];rfl,by simp only [hdrL,AV.hdr,h.hh],by simp only [unpL,AV.unp,h.uu]⟩
instance sgStr{u:List UInt8}{hd l px ux post:List AV}[h:SegPre hd l px ux post]:SegPre (.str u::hd) (.str u::l) (.str u::px) (.str u::ux) post :=
 ⟨by rw [h.e];rfl,by simp only [hdrL,AV.hdr,h.hh],by simp only [unpL,AV.unp,h.uu]⟩
class FindSeg(hd l:List AV)(pr px ux post:outParam (List AV)):Prop where
 e:l=pr++(px++post)
 hh:hdrL px=hd
 uu:unpL px=ux
instance fsSkip{hd l pr px ux post:List AV}{y:AV}[h:FindSeg hd l pr px ux post]:FindSeg hd (y::l) (y::pr) px ux post:=⟨by rw [h.e];rfl,h.hh,h.uu⟩
instance fsHere{hd l px ux post:List AV}[h:SegPre hd l px ux post]:FindSeg hd l [] px ux post:=⟨h.e,h.hh,h.uu⟩
class FindSegO(hd:List AV)(os:Sto)(b:outParam Nat)(pr px ux post:outParam (List AV))(sd:outParam Prop):Prop where
 e:sd→O os b=some (pr++(px++post))
 hh:hdrL px=hd
 uu:unpL px=ux
instance foHere{hd:List AV}{os:Sto}{b:Nat}{cells pr px ux post:List AV}[h:FindSeg hd cells pr px ux post]:FindSegO hd ((b,some cells)::os) b pr px ux post True:=⟨fun _=>by rw [O_eq,h.e],h.hh,h.uu⟩
class FindPinO(u:Value)(os:Sto)(b:outParam Nat)(pr:outParam (List AV))(x:outParam AV)(post:outParam (List AV))(sd:outParam Prop):Prop where
 e:sd→O os b=some (pr++([.pin u x]++post))
instance fpoHere{u:Value}{os:Sto}{b:Nat}{cells pr post:List AV}{x:AV}[h:FindPin u cells pr x post]:FindPinO u ((b,some cells)::os) b pr x post True:=⟨fun _=>by rw [O_eq,h.e]⟩
instance cI{L:Nat→Nat}{P:Program}{os rs:Sto}{la:List AV}{bo:Option (Nat×Nat×List AV)}{rest:List AV}{f:FuncId}{K:AV→Sto→Prop}{KB:Nat→Nat→List AV→AV→Prop}{KX:CallX}{b:Nat}{pr post:List AV}{u:Value}{x res:AV}{x':List AV}{pre sd:Prop}[hp:FindPinO u os b pr x post sd][h:ICtr L P f false [x] rest res x' pre] :
  Rl (CallN L P os rs la bo rest f (.v u::rest) (K:=⟨K⟩) (KB:=⟨KB⟩) (KX:=⟨KX⟩)) (sd∧AV.nownL rest=true∧pre∧K res (updO os b (some (pr++(repinL [.pin u x] x'++post))))) :=
 ⟨fun hh=>by
  have e1:unpL [AV.pin u x]=[x]:=by simp [unpL,AV.unp]
  have h':ICtr L P f false (unpL [AV.pin u x]) rest res x' pre:=by rw [e1];exact h
  exact CallN.inO (h:=h') b pr [.pin u x] post rfl (hp.e hh.1) rfl hh.2.1 hh.2.2.1 hh.2.2.2⟩
instance cJ{L:Nat→Nat}{P:Program}{os rs:Sto}{la:List AV}{bo:Option (Nat×Nat×List AV)}{rest:List AV}{f:FuncId}{K:AV→Sto→Prop}{KB:Nat→Nat→List AV→AV→Prop}{KX:CallX}{b:Nat}{pr px ux post hd:List AV}{res:AV}{x':List AV}{pre sd:Prop}[hp:FindSegO hd os b pr px ux post sd][h:ICtr L P f true ux rest res x' pre] :
  Rl (CallN L P os rs la bo rest f (.agg hd::rest) (K:=⟨K⟩) (KB:=⟨KB⟩) (KX:=⟨KX⟩)) (sd∧AV.nownL rest=true∧detL hd=true∧pre∧K res (updO os b (some (pr++(repinL px x'++post))))) :=
 ⟨fun hh=>by
  have h':ICtr L P f true (unpL px) rest res x' pre:=by rw [hp.uu];exact h
  exact CallN.inO (h:=h') b pr px post (by rw [hp.hh];rfl) (hp.e hh.1) (by rw [hp.hh];exact hh.2.2.1) hh.2.1 hh.2.2.2.1 hh.2.2.2.2⟩
class LowS(os:Sto)(args:List AV)(la:outParam (List AV))(sd:outParam Prop):Prop where
 h:sd→LowL os args la
instance lsNil{os:Sto}:LowS os [] [] True:=⟨fun _=>.nil⟩
instance lsOther{os:Sto}{x:AV}{xs ys:List AV}{sd:Prop}[h:LowS os xs ys sd]:LowS os (x::xs) ((bif x.nown then x else x.frz)::ys) sd:=⟨fun s=>(h.h s).low⟩
instance lsSeg{os:Sto}{hd:List AV}{b:Nat}{pr px ux post:List AV}{s1 s2:Prop}{xs ys:List AV}[hp:FindSegO hd os b pr px ux post s1][h:LowS os xs ys s2]:LowS os (.agg hd::xs) (.agg (AV.frzL px)::ys) ((s1∧detL hd=true)∧s2) :=
 ⟨fun s=>LowL.pin true b pr px post (hp.e s.1.1) (by rw [hp.hh];exact s.1.2) (fun e=>by cases e) (by rw [hp.hh];rfl) (h.h s.2)⟩
class Rq(G:Prop)(R:outParam Prop):Prop where
 r:R→G
instance rFall{G R:Prop}[h:Rq G R]:Rl G R:=⟨h.r⟩
def CallQ(L:Nat→Nat)(P:Program)(os:Sto)(la:List AV)(f:FuncId)[K:Hd (AV→Sto→Prop)]:Prop:=enters P f=true∧∃ res,res.closed=true∧PureC L P f la res∧K.v res os
def CallR(L:Nat→Nat)(P:Program)(la:List AV)(G:Bool)(f:FuncId)[K:Hd (AV→Prop)]:Prop:=∃ res,(G=true→enters P f=true∧res.closed=true∧PureC L P f la res)∧K.v res
instance cQ{L:Nat→Nat}{P:Program}{os rs:Sto}{la la':List AV}{bo:Option (Nat×Nat×List AV)}{rest args:List AV}{f:FuncId}{K:AV→Sto→Prop}{KB:Nat→Nat→List AV→AV→Prop}{KX:CallX}{sd:Prop}[h:LowS os args la' sd] :
  Rq (CallN L P os rs la bo rest f args (K:=⟨K⟩) (KB:=⟨KB⟩) (KX:=⟨KX⟩)) (sd∧CallQ L P os la' f (K:=⟨K⟩)) :=
 ⟨fun hh=>by
  obtain ⟨hs,he,res,hc,hp,hk⟩:=hh
  exact ⟨he,.inr (.inr (.inl ⟨la',res,h.h hs,hc,hp,hk⟩))⟩⟩
instance cQc{L:Nat→Nat}{P:Program}{os:Sto}{la:List AV}{f:FuncId}{K:AV→Sto→Prop}{res:AV}{cs:List (Option (List AV))}{pre:Prop}[h:Ctr L P f [] la res cs pre]:Rl (CallQ L P os la f (K:=⟨K⟩)) (res.closed=true∧pre∧K res os) :=
 ⟨fun hh=>⟨h.en,res,hh.1,h.pure hh.2.1,hh.2.2⟩⟩
instance cR{L:Nat→Nat}{P:Program}{os:Sto}{la la':List AV}{G:Bool}{f:FuncId}{args:List AV}{K:AV→Prop}{sd:Prop}[h:LowS os args la' sd]:Rq (CallP L P os la G f args (K:=⟨K⟩)) (sd∧CallR L P la' G f (K:=⟨K⟩)) :=
 ⟨fun hh=>by
  obtain ⟨hs,res,hp,hk⟩:=hh
  exact ⟨res,fun hg=>⟨(hp hg).1,.inr ⟨la',h.h hs,(hp hg).2.1,(hp hg).2.2⟩⟩,hk⟩⟩
instance cRc{L:Nat→Nat}{P:Program}{la:List AV}{G:Bool}{f:FuncId}{K:AV→Prop}{res:AV}{cs:List (Option (List AV))}{pre:Prop}[h:Ctr L P f [] la res cs pre]:Rl (CallR L P la G f (K:=⟨K⟩)) (res.closed=true∧(G=true→pre)∧K res) :=
 ⟨fun hh=>⟨res,fun hg=>⟨h.en,hh.1,h.pure (hh.2.1 hg)⟩,hh.2.2⟩⟩
end Go.Ab
namespace Go.Ab
theorem so_nnn(a:Operand):(#[a]++(none:Option Operand).toArray++(none:Option Operand).toArray++(none:Option Operand).toArray).toList=[a]:=rfl
theorem so_nsn(a b:Operand):(#[a]++(none:Option Operand).toArray++(some b).toArray++(none:Option Operand).toArray).toList=[a,b]:=rfl
theorem so_snn(a b:Operand):(#[a]++(some b).toArray++(none:Option Operand).toArray++(none:Option Operand).toArray).toList=[a,b]:=rfl
theorem so_ssn(a b c:Operand):(#[a]++(some b).toArray++(some c).toArray++(none:Option Operand).toArray).toList=[a,b,c]:=rfl
attribute [go_sem] so_nnn so_nsn so_snn so_ssn
end Go.Ab
namespace Go.Ab
class Rx(G:Prop)(R:outParam Prop):Prop where
 r:R→G
theorem X{G R:Prop}[h:Rx G R](p:R):G:=h.r p
class PinA(hs:Nat→Value)(j:Nat)(l:List AV)(l':outParam (List AV)):Prop where
 e:pinW hs j l=l'
class PinO(hs:Nat→Value)(j:Nat)(l:List AV)(l':outParam (List AV)):Prop where
 e:pinW hs j l=l'
section
variable {hs : Nat → Value} {j sz : Nat} {l l' m : List AV} {u : Value} {s : List UInt8} {x : AV}
instance paNil:PinA hs j [] []:=⟨rfl⟩
instance paV [h:PinA hs (j+1) l l']:PinA hs j (.v u::l) (.v u::l'):=⟨by simp only [pinW,AV.pinI,h.e]⟩
instance paS [h:PinA hs (j+1) l l']:PinA hs j (.str s::l) (.str s::l'):=⟨by simp only [pinW,AV.pinI,h.e]⟩
instance paO [h:PinA hs (j+1) l l']:PinA hs j (.sl true sz m::l) (.pin (hs j) (.sl true sz m)::l'):=⟨by simp only [pinW,AV.pinI,h.e]⟩
instance poS [h:PinO hs (j+1) l l']:PinO hs j (.str s::l) (.str s::l'):=⟨by simp only [pinW,AV.pinI,h.e]⟩
instance poO [h:PinA hs (j+1) l l']:PinO hs j (.sl true sz m::l) (.pin (hs j) (.sl true sz m)::l'):=⟨by simp only [pinW,AV.pinI,h.e]⟩
end
instance xPin{L:Nat→Nat}{P:Program}{c:Code}{n b:Nat}{t:List (Nat×AV)}{cells:List AV}{o:Sto}{Q:Exit→AS→Prop}{out:(Nat→Value)→List AV}[h:∀ hs:Nat→Value,PinO hs 0 cells (out hs)] :
  Rx (AW L P c ⟨n,t,(b,some cells)::o⟩ Q) (∀ hs:Nat→Value,AW L P c ⟨n,t,(b,some (out hs))::o⟩ Q) :=
 ⟨fun hh=>AW.imp (Imp.pinE (b:=b) [] cells [] (by rw [O_eq];simp) fun hs=>by
  rw [updO_eq,(h hs).e,List.nil_append,List.append_nil];exact hh hs)⟩
end Go.Ab
