/- A part. -/
import Derived.Test.YtmcjbaafmjlblaaGreatDoorJ11
set_option linter.all false
namespace Go.Ab
section
class pT(u:Value)(l:List AV)(pr:outParam (List AV))(x:outParam AV)(post:outParam (List AV)):Prop where
 e:l=pr++([.pin u x]++post)
instance Zt{u:Value}{p l pr:List AV}{x:AV}{post:List AV}[h:pT u l pr x post]:pT u (p++l) (p++pr) x post:=⟨by rw [h.e];simp⟩
instance YZ{u:Value}{y:AV}{l pr:List AV}{x:AV}{post:List AV}[h:pT u l pr x post]:pT u (y::l) (y::pr) x post:=⟨by rw [h.e];rfl⟩
instance Y0{u:Value}{x:AV}{post:List AV}:pT u (.pin u x::post) [] x post:=⟨rfl⟩
end
section
attribute [go_sem] iM AV.sN
section
variable {L : Nat -> Nat} {P : Program} {n : Nat} {t : List (Nat × AV)} {o : Sto} {Q : Exit -> AS -> Prop}
theorem AW.post{c:Code}{s:AS}(h:AW L P c s (fun e s'=>Imp L s' (Q e))):AW L P c s Q:=by
 intro B F0 w0 a w hd
 refine wp_mono (h B F0 w0 a w hd) ?_
 rintro e a' w' ⟨s',h1,h2⟩
 exact h1 B F0 w0 a' w' h2
theorem AW.iA{c:Code}(ks live:List Nat)(I:Nat->List AV->Sto->Prop)(m:Nat)(o0:Sto)(ho:jS o0 o)(h0:I m (ks.map (T t)) o0)
  (round:∀ m xs o',I m xs o'->AW L P c ⟨n,ks.zip xs++eN t live,o'⟩ (iy (fun s'=>Imp L s' fun s'=>s'.n=n/\∃ m' xs' o'',m'<m/\I m' xs' o''/\eN s'.t (ks++live)=ks.zip xs'++eN t live/\jS o'' s'.o) Q)):AW L P (.loop c) ⟨n,t,o⟩ Q:=by
 refine AW.aA ks live I m o0 ho h0 fun m xs o' hI=>AW.post ?_
 refine (round m xs o' hI).mono ?_
 intro e s' h
 cases e with
 | normal=>exact h
 | _=>exact fun B F0 w0 a w hd=>⟨s',h,hd⟩
end
end
section
class zZ(hd l:List AV)(px ux post:outParam (List AV)):Prop where
 e:l=px++post
 hh:fC px=hd
 uu:jl px=ux
instance Ze{l:List AV}:zZ [] l [] [] l:=⟨rfl,rfl,rfl⟩
instance Zd{u:Value}{x:AV}{hd l px ux post:List AV}[h:zZ hd l px ux post]:zZ (.v u::hd) (.pin u x::l) (.pin u x::px) (x::ux) post :=
 ⟨by rw [h.e];rfl,by simp only [fC,AV.hdr,h.hh],by simp only [jl,AV.unp,h.uu]⟩
class HM(hd l:List AV)(pr px ux post:outParam (List AV)):Prop where
 e:l=pr++(px++post)
 hh:fC px=hd
 uu:jl px=ux
instance YY{hd l px ux post:List AV}[h:zZ hd l px ux post]:HM hd l [] px ux post:=⟨h.e,h.hh,h.uu⟩
class qn(hd:List AV)(os:Sto)(b:outParam Nat)(pr px ux post:outParam (List AV))(sd:outParam Prop):Prop where
 e:sd->O os b=some (pr++(px++post))
 hh:fC px=hd
 uu:jl px=ux
instance Y1{hd:List AV}{os:Sto}{b b':Nat}{c:Option (List AV)}{pr px ux post:List AV}{sd:Prop}[h:qn hd os b pr px ux post sd]:qn hd ((b',c)::os) b pr px ux post (b'≠b/\sd):=⟨fun s=>by rw [vQ s.1];exact h.e s.2,h.hh,h.uu⟩
instance Y2{hd:List AV}{os:Sto}{b:Nat}{cells pr px ux post:List AV}[h:HM hd cells pr px ux post]:qn hd ((b,some cells)::os) b pr px ux post True:=⟨fun _=>by rw [eQ,h.e],h.hh,h.uu⟩
class Fz(u:Value)(os:Sto)(b:outParam Nat)(pr:outParam (List AV))(x:outParam AV)(post:outParam (List AV))(sd:outParam Prop):Prop where
 e:sd->O os b=some (pr++([.pin u x]++post))
instance Yl{u:Value}{os:Sto}{b:Nat}{cells pr post:List AV}{x:AV}[h:pT u cells pr x post]:Fz u ((b,some cells)::os) b pr x post True:=⟨fun _=>by rw [eQ,h.e]⟩
instance cI{L:Nat->Nat}{P:Program}{os rs:Sto}{la:List AV}{bo:Option (Nat×Nat×List AV)}{rest:List AV}{f:FuncId}{K:AV->Sto->Prop}{KB:Nat->Nat->List AV->AV->Prop}{KX:tU}{b:Nat}{pr post:List AV}{u:Value}{x res:AV}{x':List AV}{pre sd:Prop}[hp:Fz u os b pr x post sd][h:nF L P f false [x] rest res x' pre] :
  Rl (eP L P os rs la bo rest f (.v u::rest) (K:=⟨K⟩) (KB:=⟨KB⟩) (KX:=⟨KX⟩)) (sd/\AV.bL rest=true/\pre/\K res (fY os b (some (pr++(jT [.pin u x] x'++post))))) :=
 ⟨fun hh=>by
  have e1:jl [AV.pin u x]=[x]:=by simp [jl,AV.unp]
  have h':nF L P f false (jl [AV.pin u x]) rest res x' pre:=by rw [e1];exact h
  exact eP.inO (h:=h') b pr [.pin u x] post rfl (hp.e hh.1) rfl hh.2.1 hh.2.2.1 hh.2.2.2⟩
instance cJ{L:Nat->Nat}{P:Program}{os rs:Sto}{la:List AV}{bo:Option (Nat×Nat×List AV)}{rest:List AV}{f:FuncId}{K:AV->Sto->Prop}{KB:Nat->Nat->List AV->AV->Prop}{KX:tU}{b:Nat}{pr px ux post hd:List AV}{res:AV}{x':List AV}{pre sd:Prop}[hp:qn hd os b pr px ux post sd][h:nF L P f true ux rest res x' pre] :
  Rl (eP L P os rs la bo rest f (.agg hd::rest) (K:=⟨K⟩) (KB:=⟨KB⟩) (KX:=⟨KX⟩)) (sd/\AV.bL rest=true/\ny hd=true/\pre/\K res (fY os b (some (pr++(jT px x'++post))))) :=
 ⟨fun hh=>by
  have h':nF L P f true (jl px) rest res x' pre:=by rw [hp.uu];exact h
  exact eP.inO (h:=h') b pr px post (by rw [hp.hh];rfl) (hp.e hh.1) (by rw [hp.hh];exact hh.2.2.1) hh.2.1 hh.2.2.2.1 hh.2.2.2.2⟩
class yN(os:Sto)(args:List AV)(la:outParam (List AV))(sd:outParam Prop):Prop where
 h:sd->mD os args la
instance Zn{os:Sto}:yN os [] [] True:=⟨fun _=>.nil⟩
instance X3{os:Sto}{x:AV}{xs ys:List AV}{sd:Prop}[h:yN os xs ys sd]:yN os (x::xs) ((bif x.df then x else x.frz)::ys) sd:=⟨fun s=>(h.h s).low⟩
instance Zm{os:Sto}{hd:List AV}{b:Nat}{pr px ux post:List AV}{s1 s2:Prop}{xs ys:List AV}[hp:qn hd os b pr px ux post s1][h:yN os xs ys s2]:yN os (.agg hd::xs) (.agg (AV.bZ px)::ys) ((s1/\ny hd=true)/\s2) :=
 ⟨fun s=>mD.pin true b pr px post (hp.e s.1.1) (by rw [hp.hh];exact s.1.2) (fun e=>by cases e) (by rw [hp.hh];rfl) (h.h s.2)⟩
class Rq(G:Prop)(R:outParam Prop):Prop where
 r:R->G
instance Zj{G R:Prop}[h:Rq G R]:Rl G R:=⟨h.r⟩
def Ou(L:Nat->Nat)(P:Program)(os:Sto)(la:List AV)(f:FuncId)[K:Hd (AV->Sto->Prop)]:Prop:=enters P f=true/\∃ res,res.closed=true/\fM L P f la res/\K.v res os
def Ot(L:Nat->Nat)(P:Program)(la:List AV)(G:Bool)(f:FuncId)[K:Hd (AV->Prop)]:Prop:=∃ res,(G=true->enters P f=true/\res.closed=true/\fM L P f la res)/\K.v res
instance cQ{L:Nat->Nat}{P:Program}{os rs:Sto}{la la':List AV}{bo:Option (Nat×Nat×List AV)}{rest args:List AV}{f:FuncId}{K:AV->Sto->Prop}{KB:Nat->Nat->List AV->AV->Prop}{KX:tU}{sd:Prop}[h:yN os args la' sd] :
  Rq (eP L P os rs la bo rest f args (K:=⟨K⟩) (KB:=⟨KB⟩) (KX:=⟨KX⟩)) (sd/\Ou L P os la' f (K:=⟨K⟩)) :=
 ⟨fun hh=>by
  obtain ⟨hs,he,res,hc,hp,hk⟩:=hh
  exact ⟨he,.inr (.inr (.inl ⟨la',res,h.h hs,hc,hp,hk⟩))⟩⟩
instance cQc{L:Nat->Nat}{P:Program}{os:Sto}{la:List AV}{f:FuncId}{K:AV->Sto->Prop}{res:AV}{cs:List (Option (List AV))}{pre:Prop}[h:Ctr L P f [] la res cs pre]:Rl (Ou L P os la f (K:=⟨K⟩)) (res.closed=true/\pre/\K res os) :=
 ⟨fun hh=>⟨h.en,res,hh.1,h.pure hh.2.1,hh.2.2⟩⟩
instance cR{L:Nat->Nat}{P:Program}{os:Sto}{la la':List AV}{G:Bool}{f:FuncId}{args:List AV}{K:AV->Prop}{sd:Prop}[h:yN os args la' sd]:Rq (qT L P os la G f args (K:=⟨K⟩)) (sd/\Ot L P la' G f (K:=⟨K⟩)) :=
 ⟨fun hh=>by
  obtain ⟨hs,res,hp,hk⟩:=hh
  exact ⟨res,fun hg=>⟨(hp hg).1,.inr ⟨la',h.h hs,(hp hg).2.1,(hp hg).2.2⟩⟩,hk⟩⟩
instance cRc{L:Nat->Nat}{P:Program}{la:List AV}{G:Bool}{f:FuncId}{K:AV->Prop}{res:AV}{cs:List (Option (List AV))}{pre:Prop}[h:Ctr L P f [] la res cs pre]:Rl (Ot L P la G f (K:=⟨K⟩)) (res.closed=true/\(G=true->pre)/\K res) :=
 ⟨fun hh=>⟨res,fun hg=>⟨h.en,hh.1,h.pure (hh.2.1 hg)⟩,hh.2.2⟩⟩
end
section
theorem Qt(a:Operand):(#[a]++(none:Option Operand).toArray++(none:Option Operand).toArray++(none:Option Operand).toArray).toList=[a]:=rfl
theorem Qs(a b:Operand):(#[a]++(none:Option Operand).toArray++(some b).toArray++(none:Option Operand).toArray).toList=[a,b]:=rfl
theorem Qr(a b:Operand):(#[a]++(some b).toArray++(none:Option Operand).toArray++(none:Option Operand).toArray).toList=[a,b]:=rfl
theorem Qq(a b c:Operand):(#[a]++(some b).toArray++(some c).toArray++(none:Option Operand).toArray).toList=[a,b,c]:=rfl
attribute [go_sem] Qt Qs Qr Qq
end
section
class Rx(G:Prop)(R:outParam Prop):Prop where
 r:R->G
theorem X{G R:Prop}[h:Rx G R](p:R):G:=h.r p
class Bu(hs:Nat->Value)(j:Nat)(l:List AV)(l':outParam (List AV)):Prop where
 e:iM hs j l=l'
class Sm(hs:Nat->Value)(j:Nat)(l:List AV)(l':outParam (List AV)):Prop where
 e:iM hs j l=l'
section
variable {hs : Nat -> Value} {j sz : Nat} {l l' m : List AV} {u : Value} {s : List UInt8} {x : AV}
instance Zl:Bu hs j [] []:=⟨rfl⟩
instance paO [h:Bu hs (j+1) l l']:Bu hs j (.sl true sz m::l) (.pin (hs j) (.sl true sz m)::l'):=⟨by simp only [iM,AV.sN,h.e]⟩
instance paQ [h:Bu hs (j+1) l l']:Bu hs j (.slo sz m::l) (.pin (hs j) (.slo sz m)::l'):=⟨by simp only [iM,AV.sN,h.e]⟩
instance poO [h:Bu hs (j+1) l l']:Sm hs j (.sl true sz m::l) (.pin (hs j) (.sl true sz m)::l'):=⟨by simp only [iM,AV.sN,h.e]⟩
end
instance Zx{L:Nat->Nat}{P:Program}{c:Code}{n b:Nat}{t:List (Nat×AV)}{cells:List AV}{o:Sto}{Q:Exit->AS->Prop}{out:(Nat->Value)->List AV}[h:∀ hs:Nat->Value,Sm hs 0 cells (out hs)] :
  Rx (AW L P c ⟨n,t,(b,some cells)::o⟩ Q) (∀ hs:Nat->Value,AW L P c ⟨n,t,(b,some (out hs))::o⟩ Q) :=
 ⟨fun hh=>AW.imp (Imp.sO (b:=b) [] cells [] (by rw [eQ];simp) fun hs=>by
  rw [v7,(h hs).e,List.nil_append,List.append_nil];exact hh hs)⟩
end
section
section
variable {L : Nat -> Nat} {n : Nat} {t : List (Nat × AV)} {o : Sto} {Q : AS -> Prop}
theorem Imp.tq{b0 k b sz:Nat}{cells0 l:List AV}(x:AV)(hO0:O o b0=some cells0)(hk:cells0[k]? = some (.arr b 0 (l.length+1) sz))(hO:O o b=some (l.flatMap AV.cells++x.cells))(hne:b≠b0)(hel:∀ y,y∈l->y.elem sz=true)(hx:x.elem sz=true)
  (h:Q ⟨n,t,(b,none)::(b0,some (cells0.set k (.sl true sz (l++[x]))))::o⟩):Imp L ⟨n,t,o⟩ Q:=by
 have jc:∀ y,y∈l++[x]->y.elem sz=true:=by
  intro y hy
  rcases List.mem_append.1 hy with hy|hy
  ·exact hel y hy
  ·rw [List.mem_singleton.1 hy];exact hx
 refine Imp.zF (b0:=b0) (k:=k) (b:=b) (len:=l.length+1) (sz:=sz) (l:=l++[x]) hO0 hk hO hne (by simp) ?_ jc h
 have h1:=bH jc
 rw [List.length_append,List.length_singleton,List.flatMap_append,List.flatMap_cons,List.flatMap_nil,List.append_nil] at h1
 rw [List.flatMap_append,List.flatMap_cons,List.flatMap_nil,List.append_nil,List.take_of_length_le (Nat.le_of_eq h1)]
end
end
end Go.Ab
