/- Part of a proof. -/
import Derived.Test.YtbiikafnjialjaaGreatDoorG18
set_option linter.all false
set_option maxRecDepth 20000
set_option maxHeartbeats 4000000
namespace Go.Ab
section
class o3(u:Value)(l:List AV)(pr:outParam (List AV))(x:outParam AV)(post:outParam (List AV)):Prop where
 e:l=pr++([.pin u x]++post)
instance WR{u:Value}{p l pr:List AV}{x:AV}{post:List AV}[h:o3 u l pr x post]:o3 u (p++l) (p++pr) x post:=⟨by rw [h.e];simp⟩
instance Wc{u:Value}{y:AV}{l pr:List AV}{x:AV}{post:List AV}[h:o3 u l pr x post]:o3 u (y::l) (y::pr) x post:=⟨by rw [h.e];rfl⟩
instance Wd{u:Value}{x:AV}{post:List AV}:o3 u (.pin u x::post) [] x post:=⟨rfl⟩
end
section
attribute [go_sem] iB AV.rY
section
variable {L : Nat -> Nat} {P : Program} {n : Nat} {t : List (Nat × AV)} {o : Sto} {Q : Exit -> AS -> Prop}
theorem AW.post{c:Code}{s:AS}(h:AW L P c s (fun e s'=>Imp L s' (Q e))):AW L P c s Q:=by
 intro B F0 w0 a w hd
 refine wp_mono (h B F0 w0 a w hd) ?_
 rintro e a' w' ⟨s',h1,h2⟩
 exact h1 B F0 w0 a' w' h2
theorem AW.mI{c:Code}(ks live:List Nat)(I:Nat->List AV->Sto->Prop)(m:Nat)(o0:Sto)(ho:iz o0 o)(h0:I m (ks.map (T t)) o0)
  (round:∀ m xs o',I m xs o'->AW L P c ⟨n,ks.zip xs++dX t live,o'⟩ (iS (fun s'=>Imp L s' fun s'=>s'.n=n/\∃ m' xs' o'',m'<m/\I m' xs' o''/\dX s'.t (ks++live)=ks.zip xs'++dX t live/\iz o'' s'.o) Q)):AW L P (.loop c) ⟨n,t,o⟩ Q:=by
 refine AW.aw ks live I m o0 ho h0 fun m xs o' hI=>AW.post ?_
 refine (round m xs o' hI).mono ?_
 intro e s' h
 cases e with
 | normal=>exact h
 | _=>exact fun B F0 w0 a w hd=>⟨s',h,hd⟩
end
end
section
class rG(hd l:List AV)(px ux post:outParam (List AV)):Prop where
 e:l=px++post
 hh:fg px=hd
 uu:gL px=ux
instance Wx{l:List AV}:rG [] l [] [] l:=⟨rfl,rfl,rfl⟩
instance Ww{u:Value}{x:AV}{hd l px ux post:List AV}[h:rG hd l px ux post]:rG (.v u::hd) (.pin u x::l) (.pin u x::px) (x::ux) post :=
 ⟨by rw [h.e];rfl,by simp only [fg,AV.hdr,h.hh],by simp only [gL,AV.unp,h.uu]⟩
instance Wv{u:List UInt8}{hd l px ux post:List AV}[h:rG hd l px ux post]:rG (.str u::hd) (.str u::l) (.str u::px) (.str u::ux) post :=
 ⟨by rw [h.e];rfl,by simp only [fg,AV.hdr,h.hh],by simp only [gL,AV.unp,h.uu]⟩
class FF(hd l:List AV)(pr px ux post:outParam (List AV)):Prop where
 e:l=pr++(px++post)
 hh:fg px=hd
 uu:gL px=ux
instance Wb{hd l px ux post:List AV}[h:rG hd l px ux post]:FF hd l [] px ux post:=⟨h.e,h.hh,h.uu⟩
class pV(hd:List AV)(os:Sto)(b:outParam Nat)(pr px ux post:outParam (List AV))(sd:outParam Prop):Prop where
 e:sd->O os b=some (pr++(px++post))
 hh:fg px=hd
 uu:gL px=ux
instance We{hd:List AV}{os:Sto}{b b':Nat}{c:Option (List AV)}{pr px ux post:List AV}{sd:Prop}[h:pV hd os b pr px ux post sd]:pV hd ((b',c)::os) b pr px ux post (b'≠b/\sd):=⟨fun s=>by rw [uG s.1];exact h.e s.2,h.hh,h.uu⟩
instance Wf{hd:List AV}{os:Sto}{b:Nat}{cells pr px ux post:List AV}[h:FF hd cells pr px ux post]:pV hd ((b,some cells)::os) b pr px ux post True:=⟨fun _=>by rw [eI,h.e],h.hh,h.uu⟩
class D2(u:Value)(os:Sto)(b:outParam Nat)(pr:outParam (List AV))(x:outParam AV)(post:outParam (List AV))(sd:outParam Prop):Prop where
 e:sd->O os b=some (pr++([.pin u x]++post))
instance VF{u:Value}{os:Sto}{b:Nat}{cells pr post:List AV}{x:AV}[h:o3 u cells pr x post]:D2 u ((b,some cells)::os) b pr x post True:=⟨fun _=>by rw [eI,h.e]⟩
instance cI{L:Nat->Nat}{P:Program}{os rs:Sto}{la:List AV}{bo:Option (Nat×Nat×List AV)}{rest:List AV}{f:FuncId}{K:AV->Sto->Prop}{KB:Nat->Nat->List AV->AV->Prop}{KX:qz}{b:Nat}{pr post:List AV}{u:Value}{x res:AV}{x':List AV}{pre sd:Prop}[hp:D2 u os b pr x post sd][h:pT L P f false [x] rest res x' pre] :
  Rl (dH L P os rs la bo rest f (.v u::rest) (K:=⟨K⟩) (KB:=⟨KB⟩) (KX:=⟨KX⟩)) (sd/\AV.bA rest=true/\pre/\K res (fZ os b (some (pr++(jG [.pin u x] x'++post))))) :=
 ⟨fun hh=>by
  have e1:gL [AV.pin u x]=[x]:=by simp [gL,AV.unp]
  have h':pT L P f false (gL [AV.pin u x]) rest res x' pre:=by rw [e1];exact h
  exact dH.inO (h:=h') b pr [.pin u x] post rfl (hp.e hh.1) rfl hh.2.1 hh.2.2.1 hh.2.2.2⟩
instance cJ{L:Nat->Nat}{P:Program}{os rs:Sto}{la:List AV}{bo:Option (Nat×Nat×List AV)}{rest:List AV}{f:FuncId}{K:AV->Sto->Prop}{KB:Nat->Nat->List AV->AV->Prop}{KX:qz}{b:Nat}{pr px ux post hd:List AV}{res:AV}{x':List AV}{pre sd:Prop}[hp:pV hd os b pr px ux post sd][h:pT L P f true ux rest res x' pre] :
  Rl (dH L P os rs la bo rest f (.agg hd::rest) (K:=⟨K⟩) (KB:=⟨KB⟩) (KX:=⟨KX⟩)) (sd/\AV.bA rest=true/\mN hd=true/\pre/\K res (fZ os b (some (pr++(jG px x'++post))))) :=
 ⟨fun hh=>by
  have h':pT L P f true (gL px) rest res x' pre:=by rw [hp.uu];exact h
  exact dH.inO (h:=h') b pr px post (by rw [hp.hh];rfl) (hp.e hh.1) (by rw [hp.hh];exact hh.2.2.1) hh.2.1 hh.2.2.2.1 hh.2.2.2.2⟩
class xj(os:Sto)(args:List AV)(la:outParam (List AV))(sd:outParam Prop):Prop where
 h:sd->mb os args la
instance WH{os:Sto}:xj os [] [] True:=⟨fun _=>.nil⟩
instance Vr{os:Sto}{x:AV}{xs ys:List AV}{sd:Prop}[h:xj os xs ys sd]:xj os (x::xs) ((bif x.cS then x else x.frz)::ys) sd:=⟨fun s=>(h.h s).low⟩
instance WG{os:Sto}{hd:List AV}{b:Nat}{pr px ux post:List AV}{s1 s2:Prop}{xs ys:List AV}[hp:pV hd os b pr px ux post s1][h:xj os xs ys s2]:xj os (.agg hd::xs) (.agg (AV.bS px)::ys) ((s1/\mN hd=true)/\s2) :=
 ⟨fun s=>mb.pin true b pr px post (hp.e s.1.1) (by rw [hp.hh];exact s.1.2) (fun e=>by cases e) (by rw [hp.hh];rfl) (h.h s.2)⟩
class Rq(G:Prop)(R:outParam Prop):Prop where
 r:R->G
instance WC{G R:Prop}[h:Rq G R]:Rl G R:=⟨h.r⟩
def Lc(L:Nat->Nat)(P:Program)(os:Sto)(la:List AV)(f:FuncId)[K:Hd (AV->Sto->Prop)]:Prop:=enters P f=true/\∃ res,res.closed=true/\eS L P f la res/\K.v res os
def Lb(L:Nat->Nat)(P:Program)(la:List AV)(G:Bool)(f:FuncId)[K:Hd (AV->Prop)]:Prop:=∃ res,(G=true->enters P f=true/\res.closed=true/\eS L P f la res)/\K.v res
instance cQ{L:Nat->Nat}{P:Program}{os rs:Sto}{la la':List AV}{bo:Option (Nat×Nat×List AV)}{rest args:List AV}{f:FuncId}{K:AV->Sto->Prop}{KB:Nat->Nat->List AV->AV->Prop}{KX:qz}{sd:Prop}[h:xj os args la' sd] :
  Rq (dH L P os rs la bo rest f args (K:=⟨K⟩) (KB:=⟨KB⟩) (KX:=⟨KX⟩)) (sd/\Lc L P os la' f (K:=⟨K⟩)) :=
 ⟨fun hh=>by
  obtain ⟨hs,he,res,hc,hp,hk⟩:=hh
  exact ⟨he,.inr (.inr (.inl ⟨la',res,h.h hs,hc,hp,hk⟩))⟩⟩
instance cQc{L:Nat->Nat}{P:Program}{os:Sto}{la:List AV}{f:FuncId}{K:AV->Sto->Prop}{res:AV}{cs:List (Option (List AV))}{pre:Prop}[h:Ctr L P f [] la res cs pre]:Rl (Lc L P os la f (K:=⟨K⟩)) (res.closed=true/\pre/\K res os) :=
 ⟨fun hh=>⟨h.en,res,hh.1,h.pure hh.2.1,hh.2.2⟩⟩
instance cR{L:Nat->Nat}{P:Program}{os:Sto}{la la':List AV}{G:Bool}{f:FuncId}{args:List AV}{K:AV->Prop}{sd:Prop}[h:xj os args la' sd]:Rq (qA L P os la G f args (K:=⟨K⟩)) (sd/\Lb L P la' G f (K:=⟨K⟩)) :=
 ⟨fun hh=>by
  obtain ⟨hs,res,hp,hk⟩:=hh
  exact ⟨res,fun hg=>⟨(hp hg).1,.inr ⟨la',h.h hs,(hp hg).2.1,(hp hg).2.2⟩⟩,hk⟩⟩
instance cRc{L:Nat->Nat}{P:Program}{la:List AV}{G:Bool}{f:FuncId}{K:AV->Prop}{res:AV}{cs:List (Option (List AV))}{pre:Prop}[h:Ctr L P f [] la res cs pre]:Rl (Lb L P la G f (K:=⟨K⟩)) (res.closed=true/\(G=true->pre)/\K res) :=
 ⟨fun hh=>⟨res,fun hg=>⟨h.en,hh.1,h.pure (hh.2.1 hg)⟩,hh.2.2⟩⟩
end
section
theorem NF(a:Operand):(#[a]++(none:Option Operand).toArray++(none:Option Operand).toArray++(none:Option Operand).toArray).toList=[a]:=rfl
theorem ND(a b:Operand):(#[a]++(none:Option Operand).toArray++(some b).toArray++(none:Option Operand).toArray).toList=[a,b]:=rfl
theorem NC(a b:Operand):(#[a]++(some b).toArray++(none:Option Operand).toArray++(none:Option Operand).toArray).toList=[a,b]:=rfl
theorem NB(a b c:Operand):(#[a]++(some b).toArray++(some c).toArray++(none:Option Operand).toArray).toList=[a,b,c]:=rfl
attribute [go_sem] NF ND NC NB
end
section
class Rx(G:Prop)(R:outParam Prop):Prop where
 r:R->G
theorem X{G R:Prop}[h:Rx G R](p:R):G:=h.r p
class GZ(hs:Nat->Value)(j:Nat)(l:List AV)(l':outParam (List AV)):Prop where
 e:iB hs j l=l'
class GY(hs:Nat->Value)(j:Nat)(l:List AV)(l':outParam (List AV)):Prop where
 e:iB hs j l=l'
section
variable {hs : Nat -> Value} {j sz : Nat} {l l' m : List AV} {u : Value} {s : List UInt8} {x : AV}
instance WE:GZ hs j [] []:=⟨rfl⟩
instance paO [h:GZ hs (j+1) l l']:GZ hs j (.sl true sz m::l) (.pin (hs j) (.sl true sz m)::l'):=⟨by simp only [iB,AV.rY,h.e]⟩
instance poS [h:GY hs (j+1) l l']:GY hs j (.str s::l) (.str s::l'):=⟨by simp only [iB,AV.rY,h.e]⟩
instance poO [h:GZ hs (j+1) l l']:GY hs j (.sl true sz m::l) (.pin (hs j) (.sl true sz m)::l'):=⟨by simp only [iB,AV.rY,h.e]⟩
end
instance WZ{L:Nat->Nat}{P:Program}{c:Code}{n b:Nat}{t:List (Nat×AV)}{cells:List AV}{o:Sto}{Q:Exit->AS->Prop}{out:(Nat->Value)->List AV}[h:∀ hs:Nat->Value,GY hs 0 cells (out hs)] :
  Rx (AW L P c ⟨n,t,(b,some cells)::o⟩ Q) (∀ hs:Nat->Value,AW L P c ⟨n,t,(b,some (out hs))::o⟩ Q) :=
 ⟨fun hh=>AW.imp (Imp.tQ (b:=b) [] cells [] (by rw [eI];simp) fun hs=>by
  rw [Ey,(h hs).e,List.nil_append,List.append_nil];exact hh hs)⟩
end
end Go.Ab
namespace Go.Proofs
open Go.Ab Go.Dt
section
instance U4(L:Nat->Nat)(x:aL)(n:Str):Ctr L Tryz.prog 122 [] [.agg [.str x.af,.sl false 6 (x.aC.map (aV false)),.sl false 3 (x.cD.map (ak false))],.vp [.str n]] (.v (.bool (x.af == n))) [] True:=by
 refine Ctr.bd Tryz.func122 Tryz.ntmps122 rfl rfl fun hp=>?_
 all_goals exact uU
instance OG(L:Nat->Nat)[hL:Lok L](l:List aL)(n:Str):Ctr L Tryz.prog 121 [] [.sl false 3 (l.map (aQ false)),.fn 122 [.vp [.str n]]] (.v (.int .i64 (tmI l n))) [] True:=by
 refine Ctr.bd Tryz.func121 Tryz.ntmps121 rfl rfl fun hp=>?_
 refine AW.fact 0 fun hf=>?_
 simp (disch:=omega) only [go_sem] at hf
 have hf:=Nat.le_trans hf (hL.le 3)
 (refine vU ?_;with_reducible repeat' first|exact Le.l|apply Sw|intro h)
 refine AW.aw [8] [0,1,7] (fun m xs o=>∃ k:Nat,xs=[.v (.int .i64 k)]/\o=[]/\m=l.length - k/\k<=l.length/\∀ x∈l.take k,(x.af == n)=false) l.length [] trivial ⟨0,?_,rfl,rfl,?_,?_⟩ ?_
 ·rfl
 ·omega
 ·simp
 rintro m xs o ⟨k,rfl,rfl,rfl,hk,hR⟩
 (refine vU ?_;with_reducible repeat' first|exact Le.l|apply Sw|intro h)
 ·rw [tmI,gB (p:=fun x:aL=>x.af == n) (by assumption) hR (by simpa using h)]
 ·exact ⟨_,[_],[],by omega,⟨k+1,rfl,rfl,rfl,by omega,bD (p:=fun x:aL=>x.af == n) (by assumption) hR (by simpa using h)⟩,rfl,trivial⟩
 ·rw [tmI,jb (p:=fun x:aL=>x.af == n) h hR]
instance KJ(L:Nat->Nat)[hL:Lok L](T:List aL)(S:List bt)(n:Str):Ctr L Tryz.prog 65 [] [.agg [.sl false 3 (T.map (aQ false)),.sl false 4 (S.map (aT false))],.str n] (.v (.int .i64 (tmI T n))) [] True:=by
 refine Ctr.bd Tryz.func65 Tryz.ntmps65 rfl rfl fun hp=>?_
 all_goals exact uU
instance Ng(L:Nat->Nat)[hL:Lok L](l:List aL)(S:List bt)(n:Str):Ctr L Tryz.prog 57 [] [.agg [.sl false 3 (l.map (aQ false)),.sl false 4 (S.map (aT false))],.str n] (.v (.int .i64 (tmI l n))) [] True:=by
 refine Ctr.bd Tryz.func57 Tryz.ntmps57 rfl rfl fun hp=>?_
 refine AW.fact 0 fun hf=>?_
 simp (disch:=omega) only [go_sem] at hf
 have hf:=Nat.le_trans hf.1 (hL.le 3)
 (refine vU ?_;with_reducible repeat' first|exact Le.l|apply Sw|intro h)
 refine AW.aw [5] [1,2] (fun m xs o=>∃ k:Nat,xs=[.v (.int .i64 k)]/\o=[]/\m=l.length - k/\k<=l.length/\∀ x∈l.take k,(x.af == n)=false) l.length [] trivial ⟨0,?_,rfl,rfl,?_,?_⟩ ?_
 ·rfl
 ·omega
 ·simp
 rintro m xs o ⟨k,rfl,rfl,rfl,hk,hR⟩
 (refine vU ?_;with_reducible repeat' first|exact Le.l|apply Sw|intro h)
 ·rw [tmI,gB (p:=fun x:aL=>x.af == n) (by assumption) hR (by simpa using h)]
 ·exact ⟨_,[_],[],by omega,⟨k+1,rfl,rfl,rfl,by omega,bD (p:=fun x:aL=>x.af == n) (by assumption) hR (by simpa using h)⟩,rfl,trivial⟩
 ·rw [tmI,jb (p:=fun x:aL=>x.af == n) h hR]
end
section
instance VG(L:Nat->Nat)(x:ah)(n:Str):Ctr L Tryz.prog 293 [] [.agg (cNo x),.vp [.str n]] (.v (.bool (x.af == n))) [] True:=by
 refine Ctr.bd Tryz.func293 Tryz.ntmps293 rfl rfl fun hp=>?_
 all_goals exact uU
instance TG(L:Nat->Nat)[hL:Lok L](l:List ah)(n:Str):Ctr L Tryz.prog 292 [] [.sl false 3 (l.map (ak false)),.fn 293 [.vp [.str n]]] (.v (.int .i64 (idx (ndP n) l))) [] True:=by
 refine Ctr.bd Tryz.func292 Tryz.ntmps292 rfl rfl fun hp=>?_
 refine AW.fact 0 fun hf=>?_
 simp (disch:=omega) only [go_sem] at hf
 have hf:=Nat.le_trans hf (hL.le 3)
 (refine vU ?_;with_reducible repeat' first|exact Le.l|apply Sw|intro h)
 refine AW.aw [8] [0,1,7] (fun m xs o=>∃ k:Nat,xs=[.v (.int .i64 k)]/\o=[]/\m=l.length - k/\k<=l.length/\∀ x∈l.take k,ndP n x=false) l.length [] trivial ⟨0,?_,rfl,rfl,?_,?_⟩ ?_
 ·rfl
 ·omega
 ·simp
 rintro m xs o ⟨k,rfl,rfl,rfl,hk,hR⟩
 (refine vU ?_;with_reducible repeat' first|exact Le.l|apply Sw|intro h)
 ·rw [gB (p:=ndP n) (by assumption) hR (by simpa [ndP] using h)]
 ·exact ⟨_,[_],[],by omega,⟨k+1,rfl,rfl,rfl,by omega,bD (p:=ndP n) (by assumption) hR (by simpa [ndP] using h)⟩,rfl,trivial⟩
 ·rw [jb (p:=ndP n) h hR]
instance TN(L:Nat->Nat)[hL:Lok L](l:List ah)(n:Str):Ctr L Tryz.prog 256 [] [.sl false 3 (l.map (ak false)),.str n] (.v (.int .i64 (idx (ndP n) l))) [] True:=by
 refine Ctr.bd Tryz.func256 Tryz.ntmps256 rfl rfl fun hp=>?_
 all_goals exact uU
instance Te(L:Nat->Nat)[hL:Lok L](l:List ah)(n:Str):Ctr L Tryz.prog 233 [] [.sl false 3 (l.map (ak false)),.str n] (.v (.int .i64 (idx (ndP n) l))) [] True:=by
 refine Ctr.bd Tryz.func233 Tryz.ntmps233 rfl rfl fun hp=>?_
 refine AW.fact 0 fun hf=>?_
 simp (disch:=omega) only [go_sem] at hf
 have hf:=Nat.le_trans hf (hL.le 3)
 (refine vU ?_;with_reducible repeat' first|exact Le.l|apply Sw|intro h)
 refine AW.aw [5] [0,1] (fun m xs o=>∃ k:Nat,xs=[.v (.int .i64 k)]/\o=[]/\m=l.length - k/\k<=l.length/\∀ x∈l.take k,ndP n x=false) l.length [] trivial ⟨0,?_,rfl,rfl,?_,?_⟩ ?_
 ·rfl
 ·omega
 ·simp
 rintro m xs o ⟨k,rfl,rfl,rfl,hk,hR⟩
 (refine vU ?_;with_reducible repeat' first|exact Le.l|apply Sw|intro h)
 ·rw [gB (p:=ndP n) (by assumption) hR (by simpa [ndP] using h)]
 ·exact ⟨_,[_],[],by omega,⟨k+1,rfl,rfl,rfl,by omega,bD (p:=ndP n) (by assumption) hR (by simpa [ndP] using h)⟩,rfl,trivial⟩
 ·rw [jb (p:=ndP n) h hR]
instance VV(L:Nat->Nat)(k:Int):Ctr L Tryz.prog 263 [] [.v (.int .i64 k)] (.v (.bool (kH k))) [] True:=by
 refine Ctr.bd Tryz.func263 Tryz.ntmps263 rfl rfl fun hp=>?_
 have gOn:=cY.on
 (refine vU ?_;with_reducible repeat' first|exact Le.l|apply Sw|intro h)
 refine congrArg (fun b=>AV.v (.bool b)) ?_
 unfold kH;grind
end
end Go.Proofs
