/-
  Part of a proof: Pq0, Pt4, Pt5, Pr0, Pr1, Pt6, Pt7, Pa1, Pt8, Pt9, Ps1, Ps2.
-/
import Derived.Test.YtmcjbaafmjlblaaGreatDoorG2
import Derived.Test.YtmcjbaafmjlblaaGreatDoorG16
import Derived.Test.YtmcjbaafmjlblaaGreatDoorG17
set_option linter.unusedSimpArgs false
set_option linter.unusedVariables false
namespace Go.Dt
open Go.Ab
@[go_sem] theorem fOp_mk(a:Int)(b:Str)(c:List GPat):(GPat.mk a b c).fOp=a:=rfl
@[go_sem] theorem fText_mk(a:Int)(b:Str)(c:List GPat):(GPat.mk a b c).fText=b:=rfl
@[go_sem] theorem fKids_mk(a:Int)(b:Str)(c:List GPat):(GPat.mk a b c).fKids=c:=rfl
def rdC(s:Str)(i:Nat)(bad:Bool):List AV:=[.str s,.v (.int .i64 i),.v (.bool bad)]
def RdQ(b:Nat)(s:Str)(i:Nat)(r:Option (GPat×Nat))(res:AV)(os:Sto):Prop :=
 ∃ p j bad,(bad=false∧r=some (p,j)∨bad=true∧r=none)∧(i≤j∧j≤s.length)∧res=encPat p∧os=[(b,some (rdC s j bad))]
theorem RdQ.yes{b:Nat}{s:Str}{i:Nat}{r:Option (GPat×Nat)}{p:GPat}{j:Nat}(h:r=some (p,j))(hj:i≤j∧j≤s.length):RdQ b s i r (encPat p) [(b,some (rdC s j false))]:=⟨p,j,false,.inl ⟨rfl,h⟩,hj,rfl,rfl⟩
theorem RdQ.no{b:Nat}{s:Str}{i:Nat}{r:Option (GPat×Nat)}(p:GPat){j:Nat}(h:r=none)(hj:i≤j∧j≤s.length):RdQ b s i r (encPat p) [(b,some (rdC s j true))]:=⟨p,j,true,.inr ⟨rfl,h⟩,hj,rfl,rfl⟩
theorem GK.rdB{os:Sto}{b:Nat}{c:Option (List AV)}{s:Str}{i:Nat}{r:Option (GPat×Nat)}{K:AV→Sto→Prop}(h:∀ p j bad,(bad=false∧r=some (p,j)∨bad=true∧r=none)→i≤j∧j≤s.length→K (encPat p) (mergeO os [(b,some (rdC s j bad))])):GK os [(b,c)] (RdQ b s i r) (K:=⟨K⟩):=by
 refine GK.intro ?_
 rintro res os' ⟨p,j,bad,hr,hj,rfl,rfl⟩
 exact ⟨rfl,h p j bad hr hj⟩
theorem GK.rd{os:Sto}{b:Nat}{c:Option (List AV)}{s:Str}{i:Nat}{r:Option (GPat×Nat)}{K:AV→Sto→Prop}(h1:∀ p j,r=some (p,j)→i≤j∧j≤s.length→K (encPat p) (mergeO os [(b,some (rdC s j false))]))(h2:∀ p j,r=none→i≤j∧j≤s.length→K (encPat p) (mergeO os [(b,some (rdC s j true))])):GK os [(b,c)] (RdQ b s i r) (K:=⟨K⟩):=by
 refine GK.rdB ?_
 rintro p j bad (⟨rfl,h⟩|⟨rfl,h⟩) hj
 ·exact h1 p j h hj
 ·exact h2 p j h hj
theorem EndsG.finQ{L:Nat→Nat}{P:Program}{n:Nat}{fn:Func}{t:List (Nat×AV)}{o o':Sto}{rs:List ResultVar}{res:AV}{Q:AV→Sto→Prop}(hr:fn.results=rs.toArray)(hQ:Q res o')(h:resW P n rs t o [] (fun xs os=>oneA xs=res∧subO o' os)):EndsG L P fn ⟨n,t,o⟩ Q:=by
 have:=EndsG.fin (L:=L) hr h
 intro B F0 w0 a w hd
 obtain ⟨v,res',os',F',own',fs',fp,h3,⟨rfl,rfl⟩,h5⟩:=this B F0 w0 a w hd
 exact ⟨v,res',os',F',own',fs',fp,h3,hQ,h5⟩
attribute [go_sem] rdC Int.toNat_zero
end Go.Dt
namespace Go.Proofs.YtmcjbaafmjlblaaGreatDoor
open Go.Ab Go.Dt
set_option maxRecDepth 20000
set_option maxHeartbeats 4000000
theorem item_n(n:Nat)(hatom:∀ (b:Nat) (s:Str) (i:Nat),GCtr lim Tryz.prog 315 [(b,some [.str s,.v (.int .i64 i),.v (.bool false)])] [.ptr b 0] (RdQ b s i (pAtom s i)) (i<s.length∧s.length≤30∧s.length - i<n))(b:Nat)(s:Str)(i:Nat) :
  GCtr lim Tryz.prog 304 [(b,some [.str s,.v (.int .i64 i),.v (.bool false)])] [.ptr b 0] (RdQ b s i (pItem s i)) (i<s.length∧s.length≤30∧s.length - i<n):=by
 refine GCtr.of_body en304 Tryz.func304 rfl rfl fun hp=>(?_);rw [Tryz.ntmps304]
 (refine vK ?_;with_reducible repeat' first|exact Le.l|refine Sw ?_ ?_|intro (K:_→_→Prop) hK|intro h)
 rename_i b2
 have hpi0:∀ p j,pAtom s i=some (p,j)→pItem s i=some (post s p j):=fun p j h=>by rw [pItem,h]
 refine GK.rd (fun p j hq hj=>?_) (fun p j hq hj=>?_)
 ·have hb:=pAtom_bd hq
  have hpi:=hpi0 p j hq
  (refine vK ?_;with_reducible repeat' first|exact Le.l|refine Sw ?_ ?_|intro (K:_→_→Prop) hK|intro h)
  rename_i b3
  (refine AW.i rfl (fun h=>?_) (fun h=>?_)<;>try simp only [hC,reduceCtorEq] at h)
  ·simp only [h,cond_true]
   have hlt:=isAt_iff.1 h
   (refine vK ?_;with_reducible repeat' first|exact Le.l|refine Sw ?_ ?_|intro (K:_→_→Prop) hK|intro h)
   (refine AW.ret (EndsG.imp (Imp.frzO (b:=b2) (by simp (maxSteps:=2000000) (disch:=omega) only [go_sem];rfl) ?_));simp (maxSteps:=2000000) (disch:=omega) only [go_sem];refine EndsG.finQ rfl (RdQ.yes (p:=.mk 4 [] [p]) (j:=j+1) (by rw [hpi,post];simp [*]) (by omega)) ?_;simp (maxSteps:=2000000) (disch:=omega) only [go_sem])
  ·simp only [h,cond_false]
   (refine vK ?_;with_reducible repeat' first|exact Le.l|refine Sw ?_ ?_|intro (K:_→_→Prop) hK|intro h)
   (refine AW.i rfl (fun h=>?_) (fun h=>?_)<;>try simp only [hC,reduceCtorEq] at h)
   ·simp only [h,cond_true]
    have hlt:=isAt_iff.1 h
    (refine vK ?_;with_reducible repeat' first|exact Le.l|refine Sw ?_ ?_|intro (K:_→_→Prop) hK|intro h)
    (refine AW.ret (EndsG.imp (Imp.frzO (b:=b2) (by simp (maxSteps:=2000000) (disch:=omega) only [go_sem];rfl) ?_));simp (maxSteps:=2000000) (disch:=omega) only [go_sem];refine EndsG.finQ rfl (RdQ.yes (p:=.mk 2 [] [p,.mk 4 [] [p]]) (j:=j+1) (by rw [hpi,post];simp [*]) (by omega)) ?_;simp (maxSteps:=2000000) (disch:=omega) only [go_sem])
   ·simp only [h,cond_false]
    (refine vK ?_;with_reducible repeat' first|exact Le.l|refine Sw ?_ ?_|intro (K:_→_→Prop) hK|intro h)
    (refine AW.i rfl (fun h=>?_) (fun h=>?_)<;>try simp only [hC,reduceCtorEq] at h)
    ·simp only [h,cond_true]
     have hlt:=isAt_iff.1 h
     (refine vK ?_;with_reducible repeat' first|exact Le.l|refine Sw ?_ ?_|intro (K:_→_→Prop) hK|intro h)
     (refine AW.ret (EndsG.imp (Imp.frzO (b:=b2) (by simp (maxSteps:=2000000) (disch:=omega) only [go_sem];rfl) ?_));simp (maxSteps:=2000000) (disch:=omega) only [go_sem];refine EndsG.finQ rfl (RdQ.yes (p:=.mk 5 [] [p]) (j:=j+1) (by rw [hpi,post];simp [*]) (by omega)) ?_;simp (maxSteps:=2000000) (disch:=omega) only [go_sem])
    ·simp only [h,cond_false]
     (refine vK ?_;with_reducible repeat' first|exact Le.l|refine Sw ?_ ?_|intro (K:_→_→Prop) hK|intro h)
     (refine AW.ret (EndsG.imp (Imp.frzO (b:=b2) (by simp (maxSteps:=2000000) (disch:=omega) only [go_sem];rfl) ?_));simp (maxSteps:=2000000) (disch:=omega) only [go_sem];refine EndsG.finQ rfl (RdQ.yes (p:=p) (j:=j) (by rw [hpi,post];simp [*]) (by omega)) ?_;simp (maxSteps:=2000000) (disch:=omega) only [go_sem])
 ·have hpi:pItem s i=none:=by rw [pItem,hq]
  (refine vK ?_;with_reducible repeat' first|exact Le.l|refine Sw ?_ ?_|intro (K:_→_→Prop) hK|intro h)
  rename_i b3
  (refine AW.i rfl (fun h=>?_) (fun h=>?_)<;>try simp only [hC,reduceCtorEq] at h)
  ·simp only [h,cond_true]
   have hlt:=isAt_iff.1 h
   (refine vK ?_;with_reducible repeat' first|exact Le.l|refine Sw ?_ ?_|intro (K:_→_→Prop) hK|intro h)
   (refine AW.ret (EndsG.imp (Imp.frzO (b:=b2) (by simp (maxSteps:=2000000) (disch:=omega) only [go_sem];rfl) ?_));simp (maxSteps:=2000000) (disch:=omega) only [go_sem];refine EndsG.finQ rfl (RdQ.no (.mk 4 [] [p]) (j:=j+1) hpi (by omega)) ?_;simp (maxSteps:=2000000) (disch:=omega) only [go_sem])
  ·simp only [h,cond_false]
   (refine vK ?_;with_reducible repeat' first|exact Le.l|refine Sw ?_ ?_|intro (K:_→_→Prop) hK|intro h)
   (refine AW.i rfl (fun h=>?_) (fun h=>?_)<;>try simp only [hC,reduceCtorEq] at h)
   ·simp only [h,cond_true]
    have hlt:=isAt_iff.1 h
    (refine vK ?_;with_reducible repeat' first|exact Le.l|refine Sw ?_ ?_|intro (K:_→_→Prop) hK|intro h)
    (refine AW.ret (EndsG.imp (Imp.frzO (b:=b2) (by simp (maxSteps:=2000000) (disch:=omega) only [go_sem];rfl) ?_));simp (maxSteps:=2000000) (disch:=omega) only [go_sem];refine EndsG.finQ rfl (RdQ.no (.mk 2 [] [p,.mk 4 [] [p]]) (j:=j+1) hpi (by omega)) ?_;simp (maxSteps:=2000000) (disch:=omega) only [go_sem])
   ·simp only [h,cond_false]
    (refine vK ?_;with_reducible repeat' first|exact Le.l|refine Sw ?_ ?_|intro (K:_→_→Prop) hK|intro h)
    (refine AW.i rfl (fun h=>?_) (fun h=>?_)<;>try simp only [hC,reduceCtorEq] at h)
    ·simp only [h,cond_true]
     have hlt:=isAt_iff.1 h
     (refine vK ?_;with_reducible repeat' first|exact Le.l|refine Sw ?_ ?_|intro (K:_→_→Prop) hK|intro h)
     (refine AW.ret (EndsG.imp (Imp.frzO (b:=b2) (by simp (maxSteps:=2000000) (disch:=omega) only [go_sem];rfl) ?_));simp (maxSteps:=2000000) (disch:=omega) only [go_sem];refine EndsG.finQ rfl (RdQ.no (.mk 5 [] [p]) (j:=j+1) hpi (by omega)) ?_;simp (maxSteps:=2000000) (disch:=omega) only [go_sem])
    ·simp only [h,cond_false]
     (refine vK ?_;with_reducible repeat' first|exact Le.l|refine Sw ?_ ?_|intro (K:_→_→Prop) hK|intro h)
     (refine AW.ret (EndsG.imp (Imp.frzO (b:=b2) (by simp (maxSteps:=2000000) (disch:=omega) only [go_sem];rfl) ?_));simp (maxSteps:=2000000) (disch:=omega) only [go_sem];refine EndsG.finQ rfl (RdQ.no p (j:=j) hpi (by omega)) ?_;simp (maxSteps:=2000000) (disch:=omega) only [go_sem])
end Go.Proofs.YtmcjbaafmjlblaaGreatDoor
namespace Go.Proofs.YtmcjbaafmjlblaaGreatDoor
open Go.Ab Go.Dt
set_option maxRecDepth 20000
set_option maxHeartbeats 4000000
theorem seq_n(n:Nat)(hitem:∀ (b:Nat) (s:Str) (i:Nat),GCtr lim Tryz.prog 304 [(b,some [.str s,.v (.int .i64 i),.v (.bool false)])] [.ptr b 0] (RdQ b s i (pItem s i)) (i<s.length∧s.length≤30∧s.length - i<n))(b:Nat)(s:Str)(i:Nat) :
  GCtr lim Tryz.prog 292 [(b,some [.str s,.v (.int .i64 i),.v (.bool false)])] [.ptr b 0] (RdQ b s i (pSeq s i [])) (i≤s.length∧s.length≤30∧s.length - i<n):=by
 refine GCtr.of_body en292 Tryz.func292 rfl rfl fun hp=>(?_);rw [Tryz.ntmps292]
 (refine vK ?_;with_reducible repeat' first|exact Le.l|refine Sw ?_ ?_|intro (K:_→_→Prop) hK|intro h)
 rename_i b2
 refine AW.loopV [3] [0,2] (fun m xs o=>∃ (l:List GPat) (j:Nat) (bad:Bool),xs=[.sl true 3 (l.map encPat)]∧o=[(b2,some [.v (.int .i64 0),.str [],.v (.slice none 0 0)]),(b,some [.str s,.v (.int .i64 j),.v (.bool bad)])]∧m=(if bad then 0 else s.length - j+1)∧j≤s.length∧l.length≤31∧i≤j∧(bad=false→i≤j∧l.length≤j∧pSeq s j l=pSeq s i [])∧(bad=true→pSeq s i []=none)) _ [(b2,some [.v (.int .i64 0),.str [],.v (.slice none 0 0)]),(b,some [.str s,.v (.int .i64 i),.v (.bool false)])] (subO_two (Ne.symm h) rfl rfl) ⟨[],i,false,?_,rfl,rfl,?_,?_,?_,?_,?_⟩ ?_
 ·rfl
 ·omega
 ·simp
 ·omega
 ·simp
 ·simp
 rintro m xs o ⟨l,j,bad,rfl,rfl,rfl,hj,hl0,hij,hR,hN⟩
 cases bad with
 | true =>
  have hN:=hN rfl
  (refine vK ?_;with_reducible repeat' first|exact Le.l|refine Sw ?_ ?_|intro (K:_→_→Prop) hK|intro h)
  (refine AW.i rfl (fun h=>?_) (fun h=>?_)<;>try simp only [hC,reduceCtorEq] at h)
  refine AW.imp (Imp.frz 3 ?_)
  simp (maxSteps:=2000000) (disch:=omega) only [go_sem]
  (refine vK ?_;with_reducible repeat' first|exact Le.l|refine Sw ?_ ?_|intro (K:_→_→Prop) hK|intro h)
  (refine AW.i rfl (fun h=>?_) (fun h=>?_)<;>try simp only [hC,reduceCtorEq] at h)
  ·(refine vK ?_;with_reducible repeat' first|exact Le.l|refine Sw ?_ ?_|intro (K:_→_→Prop) hK|intro h)
   (refine AW.ret (EndsG.imp (Imp.frzO (b:=b2) (by simp (maxSteps:=2000000) (disch:=omega) only [go_sem];rfl) ?_));simp (maxSteps:=2000000) (disch:=omega) only [go_sem];refine EndsG.finQ rfl (RdQ.no (at_ l 0) (j:=j) hN (by omega)) ?_;simp (maxSteps:=2000000) (disch:=omega) only [go_sem])
  ·(refine vK ?_;with_reducible repeat' first|exact Le.l|refine Sw ?_ ?_|intro (K:_→_→Prop) hK|intro h)
   (refine AW.ret (EndsG.imp (Imp.frzO (b:=b2) (by simp (maxSteps:=2000000) (disch:=omega) only [go_sem];rfl) ?_));simp (maxSteps:=2000000) (disch:=omega) only [go_sem];refine EndsG.finQ rfl (RdQ.no (.mk 2 [] l) (j:=j) hN (by omega)) ?_;simp (maxSteps:=2000000) (disch:=omega) only [go_sem])
 | false =>
  have hR:=hR rfl
  (refine vK ?_;with_reducible repeat' first|exact Le.l|refine Sw ?_ ?_|intro (K:_→_→Prop) hK|intro h)
  (refine AW.i rfl (fun h=>?_) (fun h=>?_)<;>try simp only [hC,reduceCtorEq] at h)
  ·rename_i hc
   (refine vK ?_;with_reducible repeat' first|exact Le.l|refine Sw ?_ ?_|intro (K:_→_→Prop) hK|intro h)
   refine GK.rd (fun p k hq hk=>?_) (fun p k hq hk=>?_)
   ·have hb:=pItem_bd hq
    (refine vK ?_;with_reducible repeat' first|exact Le.l|refine Sw ?_ ?_|intro (K:_→_→Prop) hK|intro h)
    exact ⟨_,[_],[(b2,some [.v (.int .i64 0),.str [],.v (.slice none 0 0)]),(b,some [.str s,.v (.int .i64 k),.v (.bool false)])],by simp;omega,⟨l++[p],k,false,rfl,rfl,rfl,by omega,by simp;omega,by omega,fun _=>⟨by omega,by simp;omega,by rw [← hR.2.2,pSeq_go l h.1.1 h.1.2 h.2 hq]⟩,by simp⟩,by simp [encPat_eq],by simp (maxSteps:=2000000) (disch:=omega) only [go_sem]⟩
   ·(refine vK ?_;with_reducible repeat' first|exact Le.l|refine Sw ?_ ?_|intro (K:_→_→Prop) hK|intro h)
    exact ⟨_,[_],[(b2,some [.v (.int .i64 0),.str [],.v (.slice none 0 0)]),(b,some [.str s,.v (.int .i64 k),.v (.bool true)])],by simp,⟨l++[p],k,true,rfl,rfl,rfl,by omega,by simp;omega,by omega,by simp,fun _=>by rw [← hR.2.2,pSeq_none l h.1.1 h.1.2 h.2 hq]⟩,by simp [encPat_eq],by simp (maxSteps:=2000000) (disch:=omega) only [go_sem]⟩
  ·refine AW.imp (Imp.frz 3 ?_)
   simp (maxSteps:=2000000) (disch:=omega) only [go_sem]
   (refine vK ?_;with_reducible repeat' first|exact Le.l|refine Sw ?_ ?_|intro (K:_→_→Prop) hK|intro h)
   (refine AW.i rfl (fun h=>?_) (fun h=>?_)<;>try simp only [hC,reduceCtorEq] at h)
   ·(refine vK ?_;with_reducible repeat' first|exact Le.l|refine Sw ?_ ?_|intro (K:_→_→Prop) hK|intro h)
    (refine AW.ret (EndsG.imp (Imp.frzO (b:=b2) (by simp (maxSteps:=2000000) (disch:=omega) only [go_sem];rfl) ?_));simp (maxSteps:=2000000) (disch:=omega) only [go_sem];refine EndsG.finQ rfl (RdQ.yes (p:=at_ l 0) (j:=j) (by rw [← hR.2.2,pSeq_stop l (by omega),mkSeq,if_pos (by omega)]) (by omega)) ?_;simp (maxSteps:=2000000) (disch:=omega) only [go_sem])
   ·(refine vK ?_;with_reducible repeat' first|exact Le.l|refine Sw ?_ ?_|intro (K:_→_→Prop) hK|intro h)
    (refine AW.ret (EndsG.imp (Imp.frzO (b:=b2) (by simp (maxSteps:=2000000) (disch:=omega) only [go_sem];rfl) ?_));simp (maxSteps:=2000000) (disch:=omega) only [go_sem];refine EndsG.finQ rfl (RdQ.yes (p:=.mk 2 [] l) (j:=j) (by rw [← hR.2.2,pSeq_stop l (by omega),mkSeq,if_neg (by omega)]) (by omega)) ?_;simp (maxSteps:=2000000) (disch:=omega) only [go_sem])
instance seq_bad(b:Nat)(s:Str)(i:Nat):Ctr lim Tryz.prog 292 [(b,some [.str s,.v (.int .i64 i),.v (.bool true)])] [.ptr b 0] (.agg [.v (.int .i64 2),.str [],.sl false 3 []]) [some [.str s,.v (.int .i64 i),.v (.bool true)]] True:=by
 refine Ctr.of_body en292 Tryz.func292 rfl rfl fun hp=>(?_);rw [Tryz.ntmps292]
 (refine vK ?_;with_reducible repeat' first|exact Le.l|refine Sw ?_ ?_|intro (K:_→_→Prop) hK|intro h)
 rename_i b2
 refine AW.loopV [3] [0,2] (fun m xs o=>xs=[.sl true 3 []]∧o=[(b2,some [.v (.int .i64 0),.str [],.v (.slice none 0 0)]),(b,some [.str s,.v (.int .i64 i),.v (.bool true)])]) 0 [(b2,some [.v (.int .i64 0),.str [],.v (.slice none 0 0)]),(b,some [.str s,.v (.int .i64 i),.v (.bool true)])] (subO_two (Ne.symm h) rfl rfl) ⟨rfl,rfl⟩ ?_
 rintro m xs o ⟨rfl,rfl⟩
 (refine vK ?_;with_reducible repeat' first|exact Le.l|refine Sw ?_ ?_|intro (K:_→_→Prop) hK|intro h)
 (refine AW.i rfl (fun h=>?_) (fun h=>?_)<;>try simp only [hC,reduceCtorEq] at h)
 refine AW.imp (Imp.frz 3 ?_)
 simp (maxSteps:=2000000) (disch:=omega) only [go_sem]
 (refine vK ?_;with_reducible repeat' first|exact Le.l|refine Sw ?_ ?_|intro (K:_→_→Prop) hK|intro h)
 (refine AW.i rfl (fun h=>?_) (fun h=>?_)<;>try simp only [hC,reduceCtorEq] at h)
 ·simp at h
 ·all_goals exact uU
theorem alt_n(n:Nat)(hseq:∀ (b:Nat) (s:Str) (i:Nat),GCtr lim Tryz.prog 292 [(b,some [.str s,.v (.int .i64 i),.v (.bool false)])] [.ptr b 0] (RdQ b s i (pSeq s i [])) (i≤s.length∧s.length≤30∧s.length - i<n))(b:Nat)(s:Str)(i:Nat) :
  GCtr lim Tryz.prog 283 [(b,some [.str s,.v (.int .i64 i),.v (.bool false)])] [.ptr b 0] (RdQ b s i (pAlt s i)) (i≤s.length∧s.length≤30∧s.length - i<n):=by
 refine GCtr.of_body en283 Tryz.func283 rfl rfl fun hp=>(?_);rw [Tryz.ntmps283]
 (refine vK ?_;with_reducible repeat' first|exact Le.l|refine Sw ?_ ?_|intro (K:_→_→Prop) hK|intro h)
 rename_i b2
 refine GK.rdB fun p j bad hq hj=>?_
 (refine vK ?_;with_reducible repeat' first|exact Le.l|refine Sw ?_ ?_|intro (K:_→_→Prop) hK|intro h)
 refine AW.loopV [3] [0,2] (fun m xs o=>∃ (l:List GPat) (j:Nat) (bad:Bool),xs=[.sl true 3 (l.map encPat)]∧o=[(b2,some [.v (.int .i64 0),.str [],.v (.slice none 0 0)]),(b,some [.str s,.v (.int .i64 j),.v (.bool bad)])]∧m=s.length - j∧j≤s.length∧l.length≤j+1∧i≤j∧(bad=false→pAltL s j l=pAlt s i)∧(bad=true→pAlt s i=none)) _ [(b2,some [.v (.int .i64 0),.str [],.v (.slice none 0 0)]),(b,some [.str s,.v (.int .i64 j),.v (.bool bad)])] (subO_two (Ne.symm h) rfl rfl) ⟨[p],j,bad,?_,rfl,rfl,?_,?_,?_,?_,?_⟩ ?_
 ·simp [T,encPat_eq]
 ·omega
 ·simp
 ·omega
 ·rintro rfl
  rcases hq with ⟨_,hq⟩|⟨h,_⟩
  ·exact (pAlt_go hp.1 hq).symm
  ·cases h
 ·rintro rfl
  rcases hq with ⟨h,_⟩|⟨_,hq⟩
  ·cases h
  ·exact pAlt_none hq
 clear hq hj bad
 rintro m xs o ⟨l,j,bad,rfl,rfl,rfl,hj,hl,hij,hR,hN⟩
 (refine vK ?_;with_reducible repeat' first|exact Le.l|refine Sw ?_ ?_|intro (K:_→_→Prop) hK|intro h)
 (refine AW.i rfl (fun h=>?_) (fun h=>?_)<;>try simp only [hC,reduceCtorEq] at h)
 ·simp only [h,cond_true]
  have hlt:=isAt_iff.1 h
  cases bad with
  | true =>
   have hN:=hN rfl
   (refine vK ?_;with_reducible repeat' first|exact Le.l|refine Sw ?_ ?_|intro (K:_→_→Prop) hK|intro h)
   exact ⟨_,[_],[(b2,some [.v (.int .i64 0),.str [],.v (.slice none 0 0)]),(b,some [.str s,.v (.int .i64 (j+1:Nat)),.v (.bool true)])],by omega,⟨l++[.mk 2 [] []],j+1,true,rfl,rfl,rfl,by omega,by simp;omega,by omega,by simp,fun _=>hN⟩,by simp [encPat_eq,fOp_mk,fText_mk,fKids_mk],by simp (maxSteps:=2000000) (disch:=omega) only [go_sem]⟩
  | false =>
   have hR:=hR rfl
   (refine vK ?_;with_reducible repeat' first|exact Le.l|refine Sw ?_ ?_|intro (K:_→_→Prop) hK|intro h)
   refine GK.rd (fun p k hq hk=>?_) (fun p k hq hk=>?_)
   ·(refine vK ?_;with_reducible repeat' first|exact Le.l|refine Sw ?_ ?_|intro (K:_→_→Prop) hK|intro h)
    exact ⟨_,[_],[(b2,some [.v (.int .i64 0),.str [],.v (.slice none 0 0)]),(b,some [.str s,.v (.int .i64 k),.v (.bool false)])],by omega,⟨l++[p],k,false,rfl,rfl,rfl,by omega,by simp;omega,by omega,fun _=>by rw [← hR,pAltL_go l h hq],by simp⟩,by simp [encPat_eq],by simp (maxSteps:=2000000) (disch:=omega) only [go_sem]⟩
   ·(refine vK ?_;with_reducible repeat' first|exact Le.l|refine Sw ?_ ?_|intro (K:_→_→Prop) hK|intro h)
    exact ⟨_,[_],[(b2,some [.v (.int .i64 0),.str [],.v (.slice none 0 0)]),(b,some [.str s,.v (.int .i64 k),.v (.bool true)])],by omega,⟨l++[p],k,true,rfl,rfl,rfl,by omega,by simp;omega,by omega,by simp,fun _=>by rw [← hR,pAltL_none l h hq]⟩,by simp [encPat_eq],by simp (maxSteps:=2000000) (disch:=omega) only [go_sem]⟩
 ·rename_i hstop
  simp only [h,cond_false]
  refine AW.imp (Imp.frz 3 ?_)
  simp (maxSteps:=2000000) (disch:=omega) only [go_sem]
  (refine vK ?_;with_reducible repeat' first|exact Le.l|refine Sw ?_ ?_|intro (K:_→_→Prop) hK|intro h)
  cases bad with
  | true =>
   have hN:=hN rfl
   (refine AW.i rfl (fun h=>?_) (fun h=>?_)<;>try simp only [hC,reduceCtorEq] at h)
   ·(refine vK ?_;with_reducible repeat' first|exact Le.l|refine Sw ?_ ?_|intro (K:_→_→Prop) hK|intro h)
    (refine AW.ret (EndsG.imp (Imp.frzO (b:=b2) (by simp (maxSteps:=2000000) (disch:=omega) only [go_sem];rfl) ?_));simp (maxSteps:=2000000) (disch:=omega) only [go_sem];refine EndsG.finQ rfl (RdQ.no (at_ l 0) (j:=j) hN (by omega)) ?_;simp (maxSteps:=2000000) (disch:=omega) only [go_sem])
   ·(refine vK ?_;with_reducible repeat' first|exact Le.l|refine Sw ?_ ?_|intro (K:_→_→Prop) hK|intro h)
    (refine AW.ret (EndsG.imp (Imp.frzO (b:=b2) (by simp (maxSteps:=2000000) (disch:=omega) only [go_sem];rfl) ?_));simp (maxSteps:=2000000) (disch:=omega) only [go_sem];refine EndsG.finQ rfl (RdQ.no (.mk 3 [] l) (j:=j) hN (by omega)) ?_;simp (maxSteps:=2000000) (disch:=omega) only [go_sem])
  | false =>
   have hR:=hR rfl
   have hst:=pAltL_stop l h
   (refine AW.i rfl (fun h=>?_) (fun h=>?_)<;>try simp only [hC,reduceCtorEq] at h)
   ·(refine vK ?_;with_reducible repeat' first|exact Le.l|refine Sw ?_ ?_|intro (K:_→_→Prop) hK|intro h)
    (refine AW.ret (EndsG.imp (Imp.frzO (b:=b2) (by simp (maxSteps:=2000000) (disch:=omega) only [go_sem];rfl) ?_));simp (maxSteps:=2000000) (disch:=omega) only [go_sem];refine EndsG.finQ rfl (RdQ.yes (p:=at_ l 0) (j:=j) (by rw [← hR,hst,mkAlt,if_pos (by omega)]) (by omega)) ?_;simp (maxSteps:=2000000) (disch:=omega) only [go_sem])
   ·(refine vK ?_;with_reducible repeat' first|exact Le.l|refine Sw ?_ ?_|intro (K:_→_→Prop) hK|intro h)
    (refine AW.ret (EndsG.imp (Imp.frzO (b:=b2) (by simp (maxSteps:=2000000) (disch:=omega) only [go_sem];rfl) ?_));simp (maxSteps:=2000000) (disch:=omega) only [go_sem];refine EndsG.finQ rfl (RdQ.yes (p:=.mk 3 [] l) (j:=j) (by rw [← hR,hst,mkAlt,if_neg (by omega)]) (by omega)) ?_;simp (maxSteps:=2000000) (disch:=omega) only [go_sem])
end Go.Proofs.YtmcjbaafmjlblaaGreatDoor
namespace Go.Dt
open Go.Ab
def clsS(s:Str)(j:Nat)(h:Nat→Bool):Option ((Nat→Bool)×Nat) :=
 match clsE s j with
 | none=>none
 | some (a,z,k)=>clsL s k (fun c=>h c || (decide (a≤(c:Int)) && decide ((c:Int)≤z)))
theorem clsL_end{s:Str}{j:Nat}(h:Nat→Bool)(e:isAt s j 93=true):clsL s j h=some (h,j+1):=by rw [clsL,if_pos e]
theorem clsL_go{s:Str}{j:Nat}(h:Nat→Bool)(e:isAt s j 93=false):clsL s j h=clsS s j h:=by
 rw [clsL,if_neg (by rw [e];simp),clsS]
 split
 ·rename_i he;rw [he]
 ·rename_i a z k he;rw [he]
theorem clsS_none{s:Str}{j:Nat}(h:Nat→Bool)(e:clsE s j=none):clsS s j h=none:=by rw [clsS,e]
theorem clsS_some{s:Str}{j:Nat}(h:Nat→Bool){a z:Int}{k:Nat}(e:clsE s j=some (a,z,k)):clsS s j h=clsL s k (fun c=>h c || (decide (a≤(c:Int)) && decide ((c:Int)≤z))):=by rw [clsS,e]
theorem chAt_def(s:Str)(i:Nat):chAt s i=(decide (i<s.length) && isCh (at8 s i)):=rfl
theorem chAt_lt{s:Str}{i:Nat}(h:chAt s i=true):i<s.length:=by
 rw [chAt_def,Bool.and_eq_true,decide_eq_true_eq] at h;exact h.1
theorem clsE_no{s:Str}{j:Nat}(h:chAt s j=false):clsE s j=none:=by
 rw [chAt_def] at h;rw [clsE,h];rfl
theorem clsE_one{s:Str}{j:Nat}(h:chAt s j=true)(e:isAt s (j+1) 126=false):clsE s j=some (at8 s j,at8 s j,j+1):=by
 rw [chAt_def] at h;rw [clsE,h,if_pos rfl,e];simp
theorem clsE_two{s:Str}{j:Nat}(h:chAt s j=true)(e:isAt s (j+1) 126=true)(h2:chAt s (j+2)=true)(h3:at8 s j≤at8 s (j+2:Nat)):clsE s j=some (at8 s j,at8 s (j+2:Nat),j+3):=by
 rw [chAt_def] at h h2;rw [clsE,h,if_pos rfl,e,if_pos rfl,h2,decide_eq_true h3];rfl
theorem clsE_bad{s:Str}{j:Nat}(e:isAt s (j+1) 126=true)(h2:chAt s (j+2)=false∨at8 s (j+2:Nat)<at8 s j):clsE s j=none:=by
 rw [clsE]
 split
 ·rw [if_neg]
  rcases h2 with h2|h2
  ·rw [chAt_def] at h2;rw [h2];simp
  ·simp only [Bool.and_eq_true,decide_eq_true_eq,not_and]
   intro _;omega
 ·rfl
theorem atomS_cls{s:Str}{i:Nat}(h1:isAt s i 46=false)(h2:isAt s i 91=true):atomS s i=(match clsS s (i+1) (fun _=>false) with|none=>none|some (has,k)=>some (patC (clsT has),k)):=by
 rw [atomS,if_neg (by rw [h1];simp),if_pos h2,clsS]
 cases e:clsE s (i+1) with
 | none=>rfl
 | some p =>
  obtain ⟨a,z,j⟩:=p
  simp only [Bool.false_or]
  rfl
theorem atomS_dot{s:Str}{i:Nat}(h1:isAt s i 46=true):atomS s i=some (patC anyT,i+1):=by rw [atomS,if_pos h1]
theorem atomS_chr{s:Str}{i:Nat}(h1:isAt s i 46=false)(h2:isAt s i 91=false)(hi:i<s.length)(h3:chAt s i=true)(h4:¬ at8 s i=95):atomS s i=some (patC ((s.take (i+1)).drop i),i+1):=by
 have h5:¬ at8 s i=46:=fun e=>by rw [isAt_yes ⟨hi,e⟩] at h1;cases h1
 rw [atomS,if_neg (by rw [h1];simp),if_neg (by rw [h2];simp),if_pos]
 rw [chAt_def,isCh] at h3
 have e1:(at8 s i == 95)=false:=by simpa using h4
 have e2:(at8 s i == 46)=false:=by simpa using h5
 rw [e1,e2,Bool.or_false,Bool.or_false] at h3
 exact h3
theorem atomS_no{s:Str}{i:Nat}(h1:isAt s i 46=false)(h2:isAt s i 91=false)(hi:i<s.length)(h3:chAt s i=true→at8 s i=95):atomS s i=none:=by
 rw [atomS,if_neg (by rw [h1];simp),if_neg (by rw [h2];simp),if_neg]
 intro h
 have hc:chAt s i=true:=by
  rw [chAt_def,isCh]
  simp only [Bool.and_eq_true,Bool.or_eq_true] at h ⊢
  exact ⟨h.1,by rcases h.2 with (e|e)|e<;>simp [e]⟩
 have:=h3 hc
 rw [this] at h
 simp [ltI,digI] at h
end Go.Dt
namespace Go.Dt
open Go.Ab
theorem hasC_any0:hasC (fun c=>decide (32≤c) && decide (c<32))=hasC (fun _=>false):=by
 congr 1;funext c;simp
theorem hasC_any1{k:Nat}(h:32≤k):hasC (fun c=>if c=k then true else decide (32≤c) && decide (c<k))=hasC (fun c=>decide (32≤c) && decide (c<k+1)):=by
 congr 1;funext c
 by_cases e:c=k
 ·subst e;simp [h]
 ·rw [if_neg e]
  congr 1
  exact decide_eq_decide.2 (by omega)
theorem hasC_same(ha:Nat→Bool)(a:Int):hasC (fun c=>ha c || (decide (a≤(c:Int)) && decide ((c:Int)<a)))=hasC ha:=by
 congr 1;funext c
 have:(decide (a≤(c:Int)) && decide ((c:Int)<a))=false:=by simp
 rw [this,Bool.or_false]
theorem hasC_grow(ha:Nat→Bool){a:Int}{y:Nat}(h:a≤(y:Int)):hasC (fun c=>if c=y then true else ha c || (decide (a≤(c:Int)) && decide ((c:Int)<(y:Int))))=hasC (fun c=>ha c || (decide (a≤(c:Int)) && decide ((c:Int)<((y+1:Nat):Int)))):=by
 congr 1;funext c
 by_cases e:c=y
 ·subst e;simp [h];right;omega
 ·rw [if_neg e]
  congr 2
  exact decide_eq_decide.2 (by omega)
@[go_sem] theorem unb_at8(s:Str)(n:Int):unb [.v (.int .u8 (at8 s n))]=some [UInt8.ofNat (at8 s n).toNat]:=by
 have h1:=at8_le s n
 have h2:=at8_ge s n
 simp only [unb,if_pos (And.intro h2 h1),Option.map_some]
theorem take_drop1{s:Str}{i:Nat}(h:i<s.length):(s.take (i+1)).drop i=[UInt8.ofNat (at8 s i).toNat]:=by
 have e:UInt8.ofNat (at8 s i).toNat=s[i]:=by simp [at8,List.getElem?_eq_getElem h]
 rw [List.drop_take,show i+1 - i=1 by omega,List.drop_eq_getElem_cons h,e]
 rfl
theorem fill_done(ha:Nat→Bool){a z:Int}{y:Int}(h:y=z+1):(fun c:Nat=>ha c || (decide (a≤(c:Int)) && decide ((c:Int)<y)))=(fun c:Nat=>ha c || (decide (a≤(c:Int)) && decide ((c:Int)≤z))):=by
 funext c
 congr 2
 exact decide_eq_decide.2 (by omega)
theorem any_eq:clsT (fun c=>decide (32≤c) && decide (c<127))=anyT:=by
 unfold anyT
 congr 1;funext c
 congr 1
 exact decide_eq_decide.2 (by omega)
end Go.Dt
namespace Go.Proofs.YtmcjbaafmjlblaaGreatDoor
open Go.Ab Go.Dt
set_option maxRecDepth 20000
set_option maxHeartbeats 4000000
theorem atom_n(n:Nat)(halt:∀ (b:Nat) (s:Str) (i:Nat),GCtr lim Tryz.prog 283 [(b,some [.str s,.v (.int .i64 i),.v (.bool false)])] [.ptr b 0] (RdQ b s i (pAlt s i)) (i≤s.length∧s.length≤30∧s.length - i<n))(b:Nat)(s:Str)(i:Nat) :
  GCtr lim Tryz.prog 315 [(b,some [.str s,.v (.int .i64 i),.v (.bool false)])] [.ptr b 0] (RdQ b s i (pAtom s i)) (i<s.length∧s.length≤30∧s.length - i<n+1):=by
 refine GCtr.of_body en315 Tryz.func315 rfl rfl fun hp=>(?_);rw [Tryz.ntmps315]
 (refine vK ?_;with_reducible repeat' first|exact Le.l|refine Sw ?_ ?_|intro (K:_→_→Prop) hK|intro h)
 rename_i b2 hg1 b3
 (refine AW.i rfl (fun h=>?_) (fun h=>?_)<;>try simp only [hC,reduceCtorEq] at h)
 ·simp only [h,cond_true]
  have hlt:=isAt_iff.1 h
  have hop0:=pAtom_open0 h
  have hop1:=fun p j=>pAtom_open1 (p:=p) (j:=j) h
  have hop2:=fun p j=>pAtom_open2 (p:=p) (j:=j) h
  (refine vK ?_;with_reducible repeat' first|exact Le.l|refine Sw ?_ ?_|intro (K:_→_→Prop) hK|intro h)
  refine GK.rd (fun p j hq hj=>?_) (fun p j hq hj=>?_)
  ·(refine vK ?_;with_reducible repeat' first|exact Le.l|refine Sw ?_ ?_|intro (K:_→_→Prop) hK|intro h)
   (refine AW.i rfl (fun h=>?_) (fun h=>?_)<;>try simp only [hC,reduceCtorEq] at h)
   ·simp only [h,cond_false]
    (refine vK ?_;with_reducible repeat' first|exact Le.l|refine Sw ?_ ?_|intro (K:_→_→Prop) hK|intro h)
    (refine AW.ret (EndsG.imp (Imp.frzO (b:=b2) (by simp (maxSteps:=2000000) (disch:=omega) only [go_sem];rfl) ?_));simp (maxSteps:=2000000) (disch:=omega) only [go_sem];refine EndsG.finQ rfl (RdQ.no p (j:=j) (hop2 p j hq h) (by omega)) ?_;simp (maxSteps:=2000000) (disch:=omega) only [go_sem])
   ·simp only [h,cond_true]
    have hl2:=isAt_iff.1 h
    (refine vK ?_;with_reducible repeat' first|exact Le.l|refine Sw ?_ ?_|intro (K:_→_→Prop) hK|intro h)
    (refine AW.ret (EndsG.imp (Imp.frzO (b:=b2) (by simp (maxSteps:=2000000) (disch:=omega) only [go_sem];rfl) ?_));simp (maxSteps:=2000000) (disch:=omega) only [go_sem];refine EndsG.finQ rfl (RdQ.yes (p:=p) (j:=j+1) (hop1 p j hq h) (by omega)) ?_;simp (maxSteps:=2000000) (disch:=omega) only [go_sem])
  ·(refine vK ?_;with_reducible repeat' first|exact Le.l|refine Sw ?_ ?_|intro (K:_→_→Prop) hK|intro h)
   (refine AW.i rfl (fun h=>?_) (fun h=>?_)<;>try simp only [hC,reduceCtorEq] at h)
   ·simp only [h,cond_false]
    (refine vK ?_;with_reducible repeat' first|exact Le.l|refine Sw ?_ ?_|intro (K:_→_→Prop) hK|intro h)
    (refine AW.ret (EndsG.imp (Imp.frzO (b:=b2) (by simp (maxSteps:=2000000) (disch:=omega) only [go_sem];rfl) ?_));simp (maxSteps:=2000000) (disch:=omega) only [go_sem];refine EndsG.finQ rfl (RdQ.no p (j:=j) (hop0 hq) (by omega)) ?_;simp (maxSteps:=2000000) (disch:=omega) only [go_sem])
   ·simp only [h,cond_true]
    have hl2:=isAt_iff.1 h
    (refine vK ?_;with_reducible repeat' first|exact Le.l|refine Sw ?_ ?_|intro (K:_→_→Prop) hK|intro h)
    (refine AW.ret (EndsG.imp (Imp.frzO (b:=b2) (by simp (maxSteps:=2000000) (disch:=omega) only [go_sem];rfl) ?_));simp (maxSteps:=2000000) (disch:=omega) only [go_sem];refine EndsG.finQ rfl (RdQ.no p (j:=j+1) (hop0 hq) (by omega)) ?_;simp (maxSteps:=2000000) (disch:=omega) only [go_sem])
 simp only [h,cond_false]
 have hels:=pAtom_else hp.1 h
 (refine vK ?_;with_reducible repeat' first|exact Le.l|refine Sw ?_ ?_|intro (K:_→_→Prop) hK|intro h)
 (refine AW.i rfl (fun h=>?_) (fun h=>?_)<;>try simp only [hC,reduceCtorEq] at h)
 ·have hdot:=atomS_dot h
  simp only [h,cond_true]
  (refine vK ?_;with_reducible repeat' first|exact Le.l|refine Sw ?_ ?_|intro (K:_→_→Prop) hK|intro h)
  refine AW.loopV [5] [0,2,3] (fun m xs o=>∃ k:Nat,xs=[.v (.int .i64 k)]∧o=[(b3,some (hasC (fun c=>decide (32≤c) && decide (c<k)))),(b2,some [.v (.int .i64 0),.str [],.v (.slice none 0 0)]),(b,some [.str s,.v (.int .i64 (i+1:Nat)),.v (.bool false)])]∧m=127 - k∧32≤k∧k≤127) 95 [(b3,some (hasC (fun _=>false))),(b2,some [.v (.int .i64 0),.str [],.v (.slice none 0 0)]),(b,some [.str s,.v (.int .i64 (i+1:Nat)),.v (.bool false)])] gO ⟨32,rfl,?_,rfl,by omega,by omega⟩ ?_
  ·rw [hasC_any0]
  rintro m xs o ⟨k,rfl,rfl,rfl,hk1,hk2⟩
  (refine vK ?_;with_reducible repeat' first|exact Le.l|refine Sw ?_ ?_|intro (K:_→_→Prop) hK|intro h)
  (refine AW.i rfl (fun h=>?_) (fun h=>?_)<;>try simp only [hC,reduceCtorEq] at h)
  ·(refine vK ?_;with_reducible repeat' first|exact Le.l|refine Sw ?_ ?_|intro (K:_→_→Prop) hK|intro h)
   exact ⟨_,[_],[(b3,some (hasC (fun c=>decide (32≤c) && decide (c<k+1)))),(b2,some [.v (.int .i64 0),.str [],.v (.slice none 0 0)]),(b,some [.str s,.v (.int .i64 (i+1:Nat)),.v (.bool false)])],by omega,⟨k+1,rfl,rfl,rfl,by omega,by omega⟩,rfl,by rw [← hasC_any1 hk1];simp (maxSteps:=2000000) (disch:=omega) only [go_sem]⟩
  ·have:k=127:=by omega
   subst this
   (refine vK ?_;with_reducible repeat' first|exact Le.l|refine Sw ?_ ?_|intro (K:_→_→Prop) hK|intro h)
   (refine AW.ret (EndsG.imp (Imp.frzO (b:=b2) (by simp (maxSteps:=2000000) (disch:=omega) only [go_sem];rfl) ?_));simp (maxSteps:=2000000) (disch:=omega) only [go_sem];refine EndsG.finQ rfl (RdQ.yes (p:=.mk 1 (clsT (fun c=>decide (32≤c) && decide (c<127))) []) (j:=i+1) (by rw [hels,hdot,any_eq,patC]) (by omega)) ?_;simp (maxSteps:=2000000) (disch:=omega) only [go_sem])
 simp only [h,cond_false]
 have hnd:=h
 (refine vK ?_;with_reducible repeat' first|exact Le.l|refine Sw ?_ ?_|intro (K:_→_→Prop) hK|intro h)
 (refine AW.i rfl (fun h=>?_) (fun h=>?_)<;>try simp only [hC,reduceCtorEq] at h)
 ·have hcls:=atomS_cls hnd h
  simp only [h,cond_true]
  generalize hRR:clsS s (i+1) (fun _=>false)=R at hcls
  (refine vK ?_;with_reducible repeat' first|exact Le.l|refine Sw ?_ ?_|intro (K:_→_→Prop) hK|intro h)
  refine AW.loopV [6] [0,2,3] (fun m xs o=>∃ (k j:Nat) (ha:Nat→Bool) (bad:Bool),xs=[.v (.int .i64 k)]∧o=[(b3,some (hasC ha)),(b2,some [.v (.int .i64 0),.str [],.v (.slice none 0 0)]),(b,some [.str s,.v (.int .i64 j),.v (.bool bad)])]∧m=(if bad then 0 else s.length - j+1)∧j≤s.length∧i≤j∧k≤31∧(bad=false→k≤j∧(if k=0 then clsS s j ha else clsL s j ha)=R)∧(bad=true→R=none)) _ [(b3,some (hasC (fun _=>false))),(b2,some [.v (.int .i64 0),.str [],.v (.slice none 0 0)]),(b,some [.str s,.v (.int .i64 (i+1:Nat)),.v (.bool false)])] gO ⟨0,i+1,fun _=>false,false,rfl,rfl,rfl,by omega,by omega,by omega,fun _=>⟨by omega,by rw [if_pos rfl];exact hRR⟩,by simp⟩ ?_
  rintro m xs o ⟨k,j,ha,bad,rfl,rfl,rfl,hj,hij,hk,hR,hN⟩
  cases bad with
  | true =>
   have hN:=hN rfl
   (refine vK ?_;with_reducible repeat' first|exact Le.l|refine Sw ?_ ?_|intro (K:_→_→Prop) hK|intro h)
   (refine AW.i rfl (fun h=>?_) (fun h=>?_)<;>try simp only [hC,reduceCtorEq] at h)
   (refine vK ?_;with_reducible repeat' first|exact Le.l|refine Sw ?_ ?_|intro (K:_→_→Prop) hK|intro h)
   (refine AW.ret (EndsG.imp (Imp.frzO (b:=b2) (by simp (maxSteps:=2000000) (disch:=omega) only [go_sem];rfl) ?_));simp (maxSteps:=2000000) (disch:=omega) only [go_sem];refine EndsG.finQ rfl (RdQ.no (.mk 1 (clsT ha) []) (j:=j) (by rw [hels,hcls,hN]) (by omega)) ?_;simp (maxSteps:=2000000) (disch:=omega) only [go_sem])
  | false =>
   have hR:=hR rfl
   by_cases hk0:k=0
   ·subst hk0
    have hS:clsS s j ha=R:=by simpa using hR.2
    rw [show ((0:Nat):Int)=0 from rfl]
    (refine vK ?_;with_reducible repeat' first|exact Le.l|refine Sw ?_ ?_|intro (K:_→_→Prop) hK|intro h)
    (refine AW.i rfl (fun h=>?_) (fun h=>?_)<;>try simp only [hC,reduceCtorEq] at h)
    have hge:=at8_ge s (j:Int)
    have hle:=at8_le s (j:Int)
    have hge1:=at8_ge s ((j+1:Nat):Int)
    have hle1:=at8_le s ((j+1:Nat):Int)
    have hge2:=at8_ge s ((j+1+1:Nat):Int)
    have hle2:=at8_le s ((j+1+1:Nat):Int)
    cases hch:chAt s j with
    | false =>
     have hN':R=none:=by rw [← hS,clsS_none ha (clsE_no hch)]
     (repeat' first|(with_reducible first|refine Z ?_|refine Y ?_|(refine hK _ _ ?_;clear hK K)|refine And.intro ?_ ?_|exact Ct|intro (K:_→_→Prop) hK|(refine gI fun hg=>?_;try simp only [hC,reduceCtorEq] at hg;try simp only [hg]))|((with_reducible refine E ?_;repeat refine Y ?_);refine eF rfl ?_)|simp (disch:=omega) only [go_sem,hch]|(with_reducible intro hg;try simp only [hC,reduceCtorEq] at hg)|exact Cl|fail)
     (refine AW.i rfl (fun h=>?_) (fun h=>?_)<;>try simp only [hC,reduceCtorEq] at h)
     ·simp only [h,cond_true]
      have hl2:=isAt_iff.1 h
      cases hc2:chAt s (j+1) with
      | true =>
       have hl3:=chAt_lt hc2
       (repeat' first|(with_reducible first|refine Z ?_|refine Y ?_|(refine hK _ _ ?_;clear hK K)|refine And.intro ?_ ?_|exact Ct|intro (K:_→_→Prop) hK|(refine gI fun hg=>?_;try simp only [hC,reduceCtorEq] at hg;try simp only [hg]))|((with_reducible refine E ?_;repeat refine Y ?_);refine eF rfl ?_)|simp (disch:=omega) only [go_sem,hc2]|(with_reducible intro hg;try simp only [hC,reduceCtorEq] at hg)|exact Cl|fail)
       (refine AW.i rfl (fun h=>?_) (fun h=>?_)<;>try simp only [hC,reduceCtorEq] at h)
       ·omega
       ·(refine vK ?_;with_reducible repeat' first|exact Le.l|refine Sw ?_ ?_|intro (K:_→_→Prop) hK|intro h)
        refine AW.loopV [9] [0,2,3,6,7,8] (fun m xs o=>∃ x:Int,xs=[.v (.int .i64 x)]∧o=[(b3,some (hasC (fun c=>ha c || (decide (0≤(c:Int)) && decide ((c:Int)<x))))),(b2,some [.v (.int .i64 0),.str [],.v (.slice none 0 0)]),(b,some [.str s,.v (.int .i64 (j+1+1:Nat)),.v (.bool true)])]∧m=(256 - x).toNat∧0≤x∧x≤256∧(0≤at8 s ((j+1:Nat):Int)→x≤at8 s ((j+1:Nat):Int)+1)∧(at8 s ((j+1:Nat):Int)<0→x=0)) _ [(b3,some (hasC ha)),(b2,some [.v (.int .i64 0),.str [],.v (.slice none 0 0)]),(b,some [.str s,.v (.int .i64 (j+1+1:Nat)),.v (.bool true)])] gO ⟨0,rfl,by rw [hasC_same],rfl,by omega,by omega,by omega,by omega⟩ ?_
        rintro m xs o ⟨x,rfl,rfl,rfl,hx1,hx2,hx3,hx4⟩
        obtain ⟨y,rfl⟩:∃ y:Nat,x=y:=⟨x.toNat,by omega⟩
        (refine vK ?_;with_reducible repeat' first|exact Le.l|refine Sw ?_ ?_|intro (K:_→_→Prop) hK|intro h)
        (refine AW.i rfl (fun h=>?_) (fun h=>?_)<;>try simp only [hC,reduceCtorEq] at h)
        ·(refine vK ?_;with_reducible repeat' first|exact Le.l|refine Sw ?_ ?_|intro (K:_→_→Prop) hK|intro h)
         try exact ⟨_,[_],[(b3,some (hasC (fun c=>ha c || (decide (0≤(c:Int)) && decide ((c:Int)<((y+1:Nat):Int)))))),(b2,some [.v (.int .i64 0),.str [],.v (.slice none 0 0)]),(b,some [.str s,.v (.int .i64 (j+1+1:Nat)),.v (.bool true)])],by omega,⟨((y+1:Nat):Int),rfl,rfl,rfl,by omega,by omega,by omega,by omega⟩,by simp,by rw [← hasC_grow ha (by omega)];simp (maxSteps:=2000000) (disch:=omega) only [go_sem]⟩
        ·(refine vK ?_;with_reducible repeat' first|exact Le.l|refine Sw ?_ ?_|intro (K:_→_→Prop) hK|intro h)
         exact ⟨0,[_],[(b3,some (hasC (fun c=>ha c || (decide (0≤(c:Int)) && decide ((c:Int)<(y:Int)))))),(b2,some [.v (.int .i64 0),.str [],.v (.slice none 0 0)]),(b,some [.str s,.v (.int .i64 (j+1+1:Nat)),.v (.bool true)])],by simp,⟨0+1,j+1+1,_,true,rfl,rfl,rfl,by omega,by omega,by omega,by simp,fun _=>hN'⟩,rfl,by simp (maxSteps:=2000000) (disch:=omega) only [go_sem]⟩
      | false =>
       (repeat' first|(with_reducible first|refine Z ?_|refine Y ?_|(refine hK _ _ ?_;clear hK K)|refine And.intro ?_ ?_|exact Ct|intro (K:_→_→Prop) hK|(refine gI fun hg=>?_;try simp only [hC,reduceCtorEq] at hg;try simp only [hg]))|((with_reducible refine E ?_;repeat refine Y ?_);refine eF rfl ?_)|simp (disch:=omega) only [go_sem,hc2]|(with_reducible intro hg;try simp only [hC,reduceCtorEq] at hg)|exact Cl|fail)
       (refine AW.i rfl (fun h=>?_) (fun h=>?_)<;>try simp only [hC,reduceCtorEq] at h)
       ·omega
       ·(refine vK ?_;with_reducible repeat' first|exact Le.l|refine Sw ?_ ?_|intro (K:_→_→Prop) hK|intro h)
        refine AW.loopV [9] [0,2,3,6,7,8] (fun m xs o=>∃ x:Int,xs=[.v (.int .i64 x)]∧o=[(b3,some (hasC (fun c=>ha c || (decide (0≤(c:Int)) && decide ((c:Int)<x))))),(b2,some [.v (.int .i64 0),.str [],.v (.slice none 0 0)]),(b,some [.str s,.v (.int .i64 (j+1:Nat)),.v (.bool true)])]∧m=(256 - x).toNat∧0≤x∧x≤256∧(0≤0→x≤0+1)∧(0<0→x=0)) _ [(b3,some (hasC ha)),(b2,some [.v (.int .i64 0),.str [],.v (.slice none 0 0)]),(b,some [.str s,.v (.int .i64 (j+1:Nat)),.v (.bool true)])] gO ⟨0,rfl,by rw [hasC_same],rfl,by omega,by omega,by omega,by omega⟩ ?_
        rintro m xs o ⟨x,rfl,rfl,rfl,hx1,hx2,hx3,hx4⟩
        obtain ⟨y,rfl⟩:∃ y:Nat,x=y:=⟨x.toNat,by omega⟩
        (refine vK ?_;with_reducible repeat' first|exact Le.l|refine Sw ?_ ?_|intro (K:_→_→Prop) hK|intro h)
        (refine AW.i rfl (fun h=>?_) (fun h=>?_)<;>try simp only [hC,reduceCtorEq] at h)
        ·(refine vK ?_;with_reducible repeat' first|exact Le.l|refine Sw ?_ ?_|intro (K:_→_→Prop) hK|intro h)
         try exact ⟨_,[_],[(b3,some (hasC (fun c=>ha c || (decide (0≤(c:Int)) && decide ((c:Int)<((y+1:Nat):Int)))))),(b2,some [.v (.int .i64 0),.str [],.v (.slice none 0 0)]),(b,some [.str s,.v (.int .i64 (j+1:Nat)),.v (.bool true)])],by omega,⟨((y+1:Nat):Int),rfl,rfl,rfl,by omega,by omega,by omega,by omega⟩,by simp,by rw [← hasC_grow ha (by omega)];simp (maxSteps:=2000000) (disch:=omega) only [go_sem]⟩
        ·(refine vK ?_;with_reducible repeat' first|exact Le.l|refine Sw ?_ ?_|intro (K:_→_→Prop) hK|intro h)
         exact ⟨0,[_],[(b3,some (hasC (fun c=>ha c || (decide (0≤(c:Int)) && decide ((c:Int)<(y:Int)))))),(b2,some [.v (.int .i64 0),.str [],.v (.slice none 0 0)]),(b,some [.str s,.v (.int .i64 (j+1:Nat)),.v (.bool true)])],by simp,⟨0+1,j+1,_,true,rfl,rfl,rfl,by omega,by omega,by omega,by simp,fun _=>hN'⟩,rfl,by simp (maxSteps:=2000000) (disch:=omega) only [go_sem]⟩
     ·simp only [h,cond_false]
      (refine vK ?_;with_reducible repeat' first|exact Le.l|refine Sw ?_ ?_|intro (K:_→_→Prop) hK|intro h)
      (refine AW.i rfl (fun h=>?_) (fun h=>?_)<;>try simp only [hC,reduceCtorEq] at h)
      ·omega
      ·(refine vK ?_;with_reducible repeat' first|exact Le.l|refine Sw ?_ ?_|intro (K:_→_→Prop) hK|intro h)
       refine AW.loopV [9] [0,2,3,6,7,8] (fun m xs o=>∃ x:Int,xs=[.v (.int .i64 x)]∧o=[(b3,some (hasC (fun c=>ha c || (decide (0≤(c:Int)) && decide ((c:Int)<x))))),(b2,some [.v (.int .i64 0),.str [],.v (.slice none 0 0)]),(b,some [.str s,.v (.int .i64 (j:Nat)),.v (.bool true)])]∧m=(256 - x).toNat∧0≤x∧x≤256∧(0≤0→x≤0+1)∧(0<0→x=0)) _ [(b3,some (hasC ha)),(b2,some [.v (.int .i64 0),.str [],.v (.slice none 0 0)]),(b,some [.str s,.v (.int .i64 (j:Nat)),.v (.bool true)])] gO ⟨0,rfl,by rw [hasC_same],rfl,by omega,by omega,by omega,by omega⟩ ?_
       rintro m xs o ⟨x,rfl,rfl,rfl,hx1,hx2,hx3,hx4⟩
       obtain ⟨y,rfl⟩:∃ y:Nat,x=y:=⟨x.toNat,by omega⟩
       (refine vK ?_;with_reducible repeat' first|exact Le.l|refine Sw ?_ ?_|intro (K:_→_→Prop) hK|intro h)
       (refine AW.i rfl (fun h=>?_) (fun h=>?_)<;>try simp only [hC,reduceCtorEq] at h)
       ·(refine vK ?_;with_reducible repeat' first|exact Le.l|refine Sw ?_ ?_|intro (K:_→_→Prop) hK|intro h)
        try exact ⟨_,[_],[(b3,some (hasC (fun c=>ha c || (decide (0≤(c:Int)) && decide ((c:Int)<((y+1:Nat):Int)))))),(b2,some [.v (.int .i64 0),.str [],.v (.slice none 0 0)]),(b,some [.str s,.v (.int .i64 (j:Nat)),.v (.bool true)])],by omega,⟨((y+1:Nat):Int),rfl,rfl,rfl,by omega,by omega,by omega,by omega⟩,by simp,by rw [← hasC_grow ha (by omega)];simp (maxSteps:=2000000) (disch:=omega) only [go_sem]⟩
       ·(refine vK ?_;with_reducible repeat' first|exact Le.l|refine Sw ?_ ?_|intro (K:_→_→Prop) hK|intro h)
        exact ⟨0,[_],[(b3,some (hasC (fun c=>ha c || (decide (0≤(c:Int)) && decide ((c:Int)<(y:Int)))))),(b2,some [.v (.int .i64 0),.str [],.v (.slice none 0 0)]),(b,some [.str s,.v (.int .i64 (j:Nat)),.v (.bool true)])],by simp,⟨0+1,j,_,true,rfl,rfl,rfl,by omega,by omega,by omega,by simp,fun _=>hN'⟩,rfl,by simp (maxSteps:=2000000) (disch:=omega) only [go_sem]⟩
    | true =>
     have hl1:=chAt_lt hch
     (repeat' first|(with_reducible first|refine Z ?_|refine Y ?_|(refine hK _ _ ?_;clear hK K)|refine And.intro ?_ ?_|exact Ct|intro (K:_→_→Prop) hK|(refine gI fun hg=>?_;try simp only [hC,reduceCtorEq] at hg;try simp only [hg]))|((with_reducible refine E ?_;repeat refine Y ?_);refine eF rfl ?_)|simp (disch:=omega) only [go_sem,hch]|(with_reducible intro hg;try simp only [hC,reduceCtorEq] at hg)|exact Cl|fail)
     (refine AW.i rfl (fun h=>?_) (fun h=>?_)<;>try simp only [hC,reduceCtorEq] at h)
     ·simp only [h,cond_true]
      have htil:=h
      have hl2:=isAt_iff.1 h
      cases hc2:chAt s (j+1+1) with
      | true =>
       have hl3:=chAt_lt hc2
       (repeat' first|(with_reducible first|refine Z ?_|refine Y ?_|(refine hK _ _ ?_;clear hK K)|refine And.intro ?_ ?_|exact Ct|intro (K:_→_→Prop) hK|(refine gI fun hg=>?_;try simp only [hC,reduceCtorEq] at hg;try simp only [hg]))|((with_reducible refine E ?_;repeat refine Y ?_);refine eF rfl ?_)|simp (disch:=omega) only [go_sem,hc2]|(with_reducible intro hg;try simp only [hC,reduceCtorEq] at hg)|exact Cl|fail)
       (refine AW.i rfl (fun h=>?_) (fun h=>?_)<;>try simp only [hC,reduceCtorEq] at h)
       ·have hN':R=none:=by rw [← hS,clsS_none ha (clsE_bad htil (.inr h))]
        (refine vK ?_;with_reducible repeat' first|exact Le.l|refine Sw ?_ ?_|intro (K:_→_→Prop) hK|intro h)
        refine AW.loopV [9] [0,2,3,6,7,8] (fun m xs o=>∃ x:Int,xs=[.v (.int .i64 x)]∧o=[(b3,some (hasC (fun c=>ha c || (decide (at8 s (j:Int)≤(c:Int)) && decide ((c:Int)<x))))),(b2,some [.v (.int .i64 0),.str [],.v (.slice none 0 0)]),(b,some [.str s,.v (.int .i64 (j+1+1+1:Nat)),.v (.bool true)])]∧m=(256 - x).toNat∧at8 s (j:Int)≤x∧x≤256∧(at8 s (j:Int)≤at8 s ((j+1+1:Nat):Int)→x≤at8 s ((j+1+1:Nat):Int)+1)∧(at8 s ((j+1+1:Nat):Int)<at8 s (j:Int)→x=at8 s (j:Int))) _ [(b3,some (hasC ha)),(b2,some [.v (.int .i64 0),.str [],.v (.slice none 0 0)]),(b,some [.str s,.v (.int .i64 (j+1+1+1:Nat)),.v (.bool true)])] gO ⟨at8 s (j:Int),rfl,by rw [hasC_same],rfl,by omega,by omega,by omega,by omega⟩ ?_
        rintro m xs o ⟨x,rfl,rfl,rfl,hx1,hx2,hx3,hx4⟩
        obtain ⟨y,rfl⟩:∃ y:Nat,x=y:=⟨x.toNat,by omega⟩
        (refine vK ?_;with_reducible repeat' first|exact Le.l|refine Sw ?_ ?_|intro (K:_→_→Prop) hK|intro h)
        (refine AW.i rfl (fun h=>?_) (fun h=>?_)<;>try simp only [hC,reduceCtorEq] at h)
        ·(refine vK ?_;with_reducible repeat' first|exact Le.l|refine Sw ?_ ?_|intro (K:_→_→Prop) hK|intro h)
         try exact ⟨_,[_],[(b3,some (hasC (fun c=>ha c || (decide (at8 s (j:Int)≤(c:Int)) && decide ((c:Int)<((y+1:Nat):Int)))))),(b2,some [.v (.int .i64 0),.str [],.v (.slice none 0 0)]),(b,some [.str s,.v (.int .i64 (j+1+1+1:Nat)),.v (.bool true)])],by omega,⟨((y+1:Nat):Int),rfl,rfl,rfl,by omega,by omega,by omega,by omega⟩,by simp,by rw [← hasC_grow ha (by omega)];simp (maxSteps:=2000000) (disch:=omega) only [go_sem]⟩
        ·(refine vK ?_;with_reducible repeat' first|exact Le.l|refine Sw ?_ ?_|intro (K:_→_→Prop) hK|intro h)
         exact ⟨0,[_],[(b3,some (hasC (fun c=>ha c || (decide (at8 s (j:Int)≤(c:Int)) && decide ((c:Int)<(y:Int)))))),(b2,some [.v (.int .i64 0),.str [],.v (.slice none 0 0)]),(b,some [.str s,.v (.int .i64 (j+1+1+1:Nat)),.v (.bool true)])],by simp,⟨0+1,j+1+1+1,_,true,rfl,rfl,rfl,by omega,by omega,by omega,by simp,fun _=>hN'⟩,rfl,by simp (maxSteps:=2000000) (disch:=omega) only [go_sem]⟩
       ·have hS2:=clsS_some ha (clsE_two hch htil hc2 h)
        (refine vK ?_;with_reducible repeat' first|exact Le.l|refine Sw ?_ ?_|intro (K:_→_→Prop) hK|intro h)
        refine AW.loopV [9] [0,2,3,6,7,8] (fun m xs o=>∃ x:Int,xs=[.v (.int .i64 x)]∧o=[(b3,some (hasC (fun c=>ha c || (decide (at8 s (j:Int)≤(c:Int)) && decide ((c:Int)<x))))),(b2,some [.v (.int .i64 0),.str [],.v (.slice none 0 0)]),(b,some [.str s,.v (.int .i64 (j+1+1+1:Nat)),.v (.bool false)])]∧m=(256 - x).toNat∧at8 s (j:Int)≤x∧x≤256∧(at8 s (j:Int)≤at8 s ((j+1+1:Nat):Int)→x≤at8 s ((j+1+1:Nat):Int)+1)∧(at8 s ((j+1+1:Nat):Int)<at8 s (j:Int)→x=at8 s (j:Int))) _ [(b3,some (hasC ha)),(b2,some [.v (.int .i64 0),.str [],.v (.slice none 0 0)]),(b,some [.str s,.v (.int .i64 (j+1+1+1:Nat)),.v (.bool false)])] gO ⟨at8 s (j:Int),rfl,by rw [hasC_same],rfl,by omega,by omega,by omega,by omega⟩ ?_
        rintro m xs o ⟨x,rfl,rfl,rfl,hx1,hx2,hx3,hx4⟩
        obtain ⟨y,rfl⟩:∃ y:Nat,x=y:=⟨x.toNat,by omega⟩
        (refine vK ?_;with_reducible repeat' first|exact Le.l|refine Sw ?_ ?_|intro (K:_→_→Prop) hK|intro h)
        (refine AW.i rfl (fun h=>?_) (fun h=>?_)<;>try simp only [hC,reduceCtorEq] at h)
        ·(refine vK ?_;with_reducible repeat' first|exact Le.l|refine Sw ?_ ?_|intro (K:_→_→Prop) hK|intro h)
         try exact ⟨_,[_],[(b3,some (hasC (fun c=>ha c || (decide (at8 s (j:Int)≤(c:Int)) && decide ((c:Int)<((y+1:Nat):Int)))))),(b2,some [.v (.int .i64 0),.str [],.v (.slice none 0 0)]),(b,some [.str s,.v (.int .i64 (j+1+1+1:Nat)),.v (.bool false)])],by omega,⟨((y+1:Nat):Int),rfl,rfl,rfl,by omega,by omega,by omega,by omega⟩,by simp,by rw [← hasC_grow ha (by omega)];simp (maxSteps:=2000000) (disch:=omega) only [go_sem]⟩
        ·(refine vK ?_;with_reducible repeat' first|exact Le.l|refine Sw ?_ ?_|intro (K:_→_→Prop) hK|intro h)
         exact ⟨_,[_],[(b3,some (hasC (fun c=>ha c || (decide (at8 s (j:Int)≤(c:Int)) && decide ((c:Int)<(y:Int)))))),(b2,some [.v (.int .i64 0),.str [],.v (.slice none 0 0)]),(b,some [.str s,.v (.int .i64 (j+1+1+1:Nat)),.v (.bool false)])],by simp;omega,⟨0+1,j+1+1+1,_,false,rfl,rfl,rfl,by omega,by omega,by omega,fun _=>⟨by omega,by rw [if_neg (by omega),fill_done ha (a:=at8 s (j:Int)) (z:=at8 s ((j+1+1:Nat):Int)) (y:=(y:Int)) (by omega),← hS2,hS]⟩,by simp⟩,rfl,by simp (maxSteps:=2000000) (disch:=omega) only [go_sem]⟩
      | false =>
       have hN':R=none:=by rw [← hS,clsS_none ha (clsE_bad htil (.inl hc2))]
       (repeat' first|(with_reducible first|refine Z ?_|refine Y ?_|(refine hK _ _ ?_;clear hK K)|refine And.intro ?_ ?_|exact Ct|intro (K:_→_→Prop) hK|(refine gI fun hg=>?_;try simp only [hC,reduceCtorEq] at hg;try simp only [hg]))|((with_reducible refine E ?_;repeat refine Y ?_);refine eF rfl ?_)|simp (disch:=omega) only [go_sem,hc2]|(with_reducible intro hg;try simp only [hC,reduceCtorEq] at hg)|exact Cl|fail)
       (refine AW.i rfl (fun h=>?_) (fun h=>?_)<;>try simp only [hC,reduceCtorEq] at h)
       ·(refine vK ?_;with_reducible repeat' first|exact Le.l|refine Sw ?_ ?_|intro (K:_→_→Prop) hK|intro h)
        refine AW.loopV [9] [0,2,3,6,7,8] (fun m xs o=>∃ x:Int,xs=[.v (.int .i64 x)]∧o=[(b3,some (hasC (fun c=>ha c || (decide (at8 s (j:Int)≤(c:Int)) && decide ((c:Int)<x))))),(b2,some [.v (.int .i64 0),.str [],.v (.slice none 0 0)]),(b,some [.str s,.v (.int .i64 (j+1+1:Nat)),.v (.bool true)])]∧m=(256 - x).toNat∧at8 s (j:Int)≤x∧x≤256∧(at8 s (j:Int)≤0→x≤0+1)∧(0<at8 s (j:Int)→x=at8 s (j:Int))) _ [(b3,some (hasC ha)),(b2,some [.v (.int .i64 0),.str [],.v (.slice none 0 0)]),(b,some [.str s,.v (.int .i64 (j+1+1:Nat)),.v (.bool true)])] gO ⟨at8 s (j:Int),rfl,by rw [hasC_same],rfl,by omega,by omega,by omega,by omega⟩ ?_
        rintro m xs o ⟨x,rfl,rfl,rfl,hx1,hx2,hx3,hx4⟩
        obtain ⟨y,rfl⟩:∃ y:Nat,x=y:=⟨x.toNat,by omega⟩
        (refine vK ?_;with_reducible repeat' first|exact Le.l|refine Sw ?_ ?_|intro (K:_→_→Prop) hK|intro h)
        (refine AW.i rfl (fun h=>?_) (fun h=>?_)<;>try simp only [hC,reduceCtorEq] at h)
        ·(refine vK ?_;with_reducible repeat' first|exact Le.l|refine Sw ?_ ?_|intro (K:_→_→Prop) hK|intro h)
         try exact ⟨_,[_],[(b3,some (hasC (fun c=>ha c || (decide (at8 s (j:Int)≤(c:Int)) && decide ((c:Int)<((y+1:Nat):Int)))))),(b2,some [.v (.int .i64 0),.str [],.v (.slice none 0 0)]),(b,some [.str s,.v (.int .i64 (j+1+1:Nat)),.v (.bool true)])],by omega,⟨((y+1:Nat):Int),rfl,rfl,rfl,by omega,by omega,by omega,by omega⟩,by simp,by rw [← hasC_grow ha (by omega)];simp (maxSteps:=2000000) (disch:=omega) only [go_sem]⟩
        ·(refine vK ?_;with_reducible repeat' first|exact Le.l|refine Sw ?_ ?_|intro (K:_→_→Prop) hK|intro h)
         exact ⟨0,[_],[(b3,some (hasC (fun c=>ha c || (decide (at8 s (j:Int)≤(c:Int)) && decide ((c:Int)<(y:Int)))))),(b2,some [.v (.int .i64 0),.str [],.v (.slice none 0 0)]),(b,some [.str s,.v (.int .i64 (j+1+1:Nat)),.v (.bool true)])],by simp,⟨0+1,j+1+1,_,true,rfl,rfl,rfl,by omega,by omega,by omega,by simp,fun _=>hN'⟩,rfl,by simp (maxSteps:=2000000) (disch:=omega) only [go_sem]⟩
       ·(refine vK ?_;with_reducible repeat' first|exact Le.l|refine Sw ?_ ?_|intro (K:_→_→Prop) hK|intro h)
        refine AW.loopV [9] [0,2,3,6,7,8] (fun m xs o=>∃ x:Int,xs=[.v (.int .i64 x)]∧o=[(b3,some (hasC (fun c=>ha c || (decide (at8 s (j:Int)≤(c:Int)) && decide ((c:Int)<x))))),(b2,some [.v (.int .i64 0),.str [],.v (.slice none 0 0)]),(b,some [.str s,.v (.int .i64 (j+1+1:Nat)),.v (.bool true)])]∧m=(256 - x).toNat∧at8 s (j:Int)≤x∧x≤256∧(at8 s (j:Int)≤0→x≤0+1)∧(0<at8 s (j:Int)→x=at8 s (j:Int))) _ [(b3,some (hasC ha)),(b2,some [.v (.int .i64 0),.str [],.v (.slice none 0 0)]),(b,some [.str s,.v (.int .i64 (j+1+1:Nat)),.v (.bool true)])] gO ⟨at8 s (j:Int),rfl,by rw [hasC_same],rfl,by omega,by omega,by omega,by omega⟩ ?_
        rintro m xs o ⟨x,rfl,rfl,rfl,hx1,hx2,hx3,hx4⟩
        obtain ⟨y,rfl⟩:∃ y:Nat,x=y:=⟨x.toNat,by omega⟩
        (refine vK ?_;with_reducible repeat' first|exact Le.l|refine Sw ?_ ?_|intro (K:_→_→Prop) hK|intro h)
        (refine AW.i rfl (fun h=>?_) (fun h=>?_)<;>try simp only [hC,reduceCtorEq] at h)
        ·(refine vK ?_;with_reducible repeat' first|exact Le.l|refine Sw ?_ ?_|intro (K:_→_→Prop) hK|intro h)
         try exact ⟨_,[_],[(b3,some (hasC (fun c=>ha c || (decide (at8 s (j:Int)≤(c:Int)) && decide ((c:Int)<((y+1:Nat):Int)))))),(b2,some [.v (.int .i64 0),.str [],.v (.slice none 0 0)]),(b,some [.str s,.v (.int .i64 (j+1+1:Nat)),.v (.bool true)])],by omega,⟨((y+1:Nat):Int),rfl,rfl,rfl,by omega,by omega,by omega,by omega⟩,by simp,by rw [← hasC_grow ha (by omega)];simp (maxSteps:=2000000) (disch:=omega) only [go_sem]⟩
        ·(refine vK ?_;with_reducible repeat' first|exact Le.l|refine Sw ?_ ?_|intro (K:_→_→Prop) hK|intro h)
         exact ⟨0,[_],[(b3,some (hasC (fun c=>ha c || (decide (at8 s (j:Int)≤(c:Int)) && decide ((c:Int)<(y:Int)))))),(b2,some [.v (.int .i64 0),.str [],.v (.slice none 0 0)]),(b,some [.str s,.v (.int .i64 (j+1+1:Nat)),.v (.bool true)])],by simp,⟨0+1,j+1+1,_,true,rfl,rfl,rfl,by omega,by omega,by omega,by simp,fun _=>hN'⟩,rfl,by simp (maxSteps:=2000000) (disch:=omega) only [go_sem]⟩
     ·simp only [h,cond_false]
      have hS2:=clsS_some ha (clsE_one hch h)
      (refine vK ?_;with_reducible repeat' first|exact Le.l|refine Sw ?_ ?_|intro (K:_→_→Prop) hK|intro h)
      (refine AW.i rfl (fun h=>?_) (fun h=>?_)<;>try simp only [hC,reduceCtorEq] at h)
      ·omega
      ·(refine vK ?_;with_reducible repeat' first|exact Le.l|refine Sw ?_ ?_|intro (K:_→_→Prop) hK|intro h)
       refine AW.loopV [9] [0,2,3,6,7,8] (fun m xs o=>∃ x:Int,xs=[.v (.int .i64 x)]∧o=[(b3,some (hasC (fun c=>ha c || (decide (at8 s (j:Int)≤(c:Int)) && decide ((c:Int)<x))))),(b2,some [.v (.int .i64 0),.str [],.v (.slice none 0 0)]),(b,some [.str s,.v (.int .i64 (j+1:Nat)),.v (.bool false)])]∧m=(256 - x).toNat∧at8 s (j:Int)≤x∧x≤256∧(at8 s (j:Int)≤at8 s (j:Int)→x≤at8 s (j:Int)+1)∧(at8 s (j:Int)<at8 s (j:Int)→x=at8 s (j:Int))) _ [(b3,some (hasC ha)),(b2,some [.v (.int .i64 0),.str [],.v (.slice none 0 0)]),(b,some [.str s,.v (.int .i64 (j+1:Nat)),.v (.bool false)])] gO ⟨at8 s (j:Int),rfl,by rw [hasC_same],rfl,by omega,by omega,by omega,by omega⟩ ?_
       rintro m xs o ⟨x,rfl,rfl,rfl,hx1,hx2,hx3,hx4⟩
       obtain ⟨y,rfl⟩:∃ y:Nat,x=y:=⟨x.toNat,by omega⟩
       (refine vK ?_;with_reducible repeat' first|exact Le.l|refine Sw ?_ ?_|intro (K:_→_→Prop) hK|intro h)
       (refine AW.i rfl (fun h=>?_) (fun h=>?_)<;>try simp only [hC,reduceCtorEq] at h)
       ·(refine vK ?_;with_reducible repeat' first|exact Le.l|refine Sw ?_ ?_|intro (K:_→_→Prop) hK|intro h)
        try exact ⟨_,[_],[(b3,some (hasC (fun c=>ha c || (decide (at8 s (j:Int)≤(c:Int)) && decide ((c:Int)<((y+1:Nat):Int)))))),(b2,some [.v (.int .i64 0),.str [],.v (.slice none 0 0)]),(b,some [.str s,.v (.int .i64 (j+1:Nat)),.v (.bool false)])],by omega,⟨((y+1:Nat):Int),rfl,rfl,rfl,by omega,by omega,by omega,by omega⟩,by simp,by rw [← hasC_grow ha (by omega)];simp (maxSteps:=2000000) (disch:=omega) only [go_sem]⟩
       ·(refine vK ?_;with_reducible repeat' first|exact Le.l|refine Sw ?_ ?_|intro (K:_→_→Prop) hK|intro h)
        exact ⟨_,[_],[(b3,some (hasC (fun c=>ha c || (decide (at8 s (j:Int)≤(c:Int)) && decide ((c:Int)<(y:Int)))))),(b2,some [.v (.int .i64 0),.str [],.v (.slice none 0 0)]),(b,some [.str s,.v (.int .i64 (j+1:Nat)),.v (.bool false)])],by simp;omega,⟨0+1,j+1,_,false,rfl,rfl,rfl,by omega,by omega,by omega,fun _=>⟨by omega,by rw [if_neg (by omega),fill_done ha (a:=at8 s (j:Int)) (z:=at8 s (j:Int)) (y:=(y:Int)) (by omega),← hS2,hS]⟩,by simp⟩,rfl,by simp (maxSteps:=2000000) (disch:=omega) only [go_sem]⟩
   ·have hS:clsL s j ha=R:=by simpa [hk0] using hR.2
    have hk1:((k:Int) == 0)=false:=by simp;omega
    (repeat' first|(with_reducible first|refine Z ?_|refine Y ?_|(refine hK _ _ ?_;clear hK K)|refine And.intro ?_ ?_|exact Ct|intro (K:_→_→Prop) hK|(refine gI fun hg=>?_;try simp only [hC,reduceCtorEq] at hg;try simp only [hg]))|((with_reducible refine E ?_;repeat refine Y ?_);refine eF rfl ?_)|simp (disch:=omega) only [go_sem,hk1]|(with_reducible intro hg;try simp only [hC,reduceCtorEq] at hg)|exact Cl|fail)
    (refine AW.i rfl (fun h=>?_) (fun h=>?_)<;>try simp only [hC,reduceCtorEq] at h)
    ·simp only [h,cond_false]
     have hS:=(clsL_go ha h).symm.trans hS
     have hge:=at8_ge s (j:Int)
     have hle:=at8_le s (j:Int)
     have hge1:=at8_ge s ((j+1:Nat):Int)
     have hle1:=at8_le s ((j+1:Nat):Int)
     have hge2:=at8_ge s ((j+1+1:Nat):Int)
     have hle2:=at8_le s ((j+1+1:Nat):Int)
     cases hch:chAt s j with
     | false =>
      have hN':R=none:=by rw [← hS,clsS_none ha (clsE_no hch)]
      (repeat' first|(with_reducible first|refine Z ?_|refine Y ?_|(refine hK _ _ ?_;clear hK K)|refine And.intro ?_ ?_|exact Ct|intro (K:_→_→Prop) hK|(refine gI fun hg=>?_;try simp only [hC,reduceCtorEq] at hg;try simp only [hg]))|((with_reducible refine E ?_;repeat refine Y ?_);refine eF rfl ?_)|simp (disch:=omega) only [go_sem,hch]|(with_reducible intro hg;try simp only [hC,reduceCtorEq] at hg)|exact Cl|fail)
      (refine AW.i rfl (fun h=>?_) (fun h=>?_)<;>try simp only [hC,reduceCtorEq] at h)
      ·simp only [h,cond_true]
       have hl2:=isAt_iff.1 h
       cases hc2:chAt s (j+1) with
       | true =>
        have hl3:=chAt_lt hc2
        (repeat' first|(with_reducible first|refine Z ?_|refine Y ?_|(refine hK _ _ ?_;clear hK K)|refine And.intro ?_ ?_|exact Ct|intro (K:_→_→Prop) hK|(refine gI fun hg=>?_;try simp only [hC,reduceCtorEq] at hg;try simp only [hg]))|((with_reducible refine E ?_;repeat refine Y ?_);refine eF rfl ?_)|simp (disch:=omega) only [go_sem,hc2]|(with_reducible intro hg;try simp only [hC,reduceCtorEq] at hg)|exact Cl|fail)
        (refine AW.i rfl (fun h=>?_) (fun h=>?_)<;>try simp only [hC,reduceCtorEq] at h)
        ·omega
        ·(refine vK ?_;with_reducible repeat' first|exact Le.l|refine Sw ?_ ?_|intro (K:_→_→Prop) hK|intro h)
         refine AW.loopV [9] [0,2,3,6,7,8] (fun m xs o=>∃ x:Int,xs=[.v (.int .i64 x)]∧o=[(b3,some (hasC (fun c=>ha c || (decide (0≤(c:Int)) && decide ((c:Int)<x))))),(b2,some [.v (.int .i64 0),.str [],.v (.slice none 0 0)]),(b,some [.str s,.v (.int .i64 (j+1+1:Nat)),.v (.bool true)])]∧m=(256 - x).toNat∧0≤x∧x≤256∧(0≤at8 s ((j+1:Nat):Int)→x≤at8 s ((j+1:Nat):Int)+1)∧(at8 s ((j+1:Nat):Int)<0→x=0)) _ [(b3,some (hasC ha)),(b2,some [.v (.int .i64 0),.str [],.v (.slice none 0 0)]),(b,some [.str s,.v (.int .i64 (j+1+1:Nat)),.v (.bool true)])] gO ⟨0,rfl,by rw [hasC_same],rfl,by omega,by omega,by omega,by omega⟩ ?_
         rintro m xs o ⟨x,rfl,rfl,rfl,hx1,hx2,hx3,hx4⟩
         obtain ⟨y,rfl⟩:∃ y:Nat,x=y:=⟨x.toNat,by omega⟩
         (refine vK ?_;with_reducible repeat' first|exact Le.l|refine Sw ?_ ?_|intro (K:_→_→Prop) hK|intro h)
         (refine AW.i rfl (fun h=>?_) (fun h=>?_)<;>try simp only [hC,reduceCtorEq] at h)
         ·(refine vK ?_;with_reducible repeat' first|exact Le.l|refine Sw ?_ ?_|intro (K:_→_→Prop) hK|intro h)
          try exact ⟨_,[_],[(b3,some (hasC (fun c=>ha c || (decide (0≤(c:Int)) && decide ((c:Int)<((y+1:Nat):Int)))))),(b2,some [.v (.int .i64 0),.str [],.v (.slice none 0 0)]),(b,some [.str s,.v (.int .i64 (j+1+1:Nat)),.v (.bool true)])],by omega,⟨((y+1:Nat):Int),rfl,rfl,rfl,by omega,by omega,by omega,by omega⟩,by simp,by rw [← hasC_grow ha (by omega)];simp (maxSteps:=2000000) (disch:=omega) only [go_sem]⟩
         ·(refine vK ?_;with_reducible repeat' first|exact Le.l|refine Sw ?_ ?_|intro (K:_→_→Prop) hK|intro h)
          exact ⟨0,[_],[(b3,some (hasC (fun c=>ha c || (decide (0≤(c:Int)) && decide ((c:Int)<(y:Int)))))),(b2,some [.v (.int .i64 0),.str [],.v (.slice none 0 0)]),(b,some [.str s,.v (.int .i64 (j+1+1:Nat)),.v (.bool true)])],by simp,⟨k+1,j+1+1,_,true,rfl,rfl,rfl,by omega,by omega,by omega,by simp,fun _=>hN'⟩,rfl,by simp (maxSteps:=2000000) (disch:=omega) only [go_sem]⟩
       | false =>
        (repeat' first|(with_reducible first|refine Z ?_|refine Y ?_|(refine hK _ _ ?_;clear hK K)|refine And.intro ?_ ?_|exact Ct|intro (K:_→_→Prop) hK|(refine gI fun hg=>?_;try simp only [hC,reduceCtorEq] at hg;try simp only [hg]))|((with_reducible refine E ?_;repeat refine Y ?_);refine eF rfl ?_)|simp (disch:=omega) only [go_sem,hc2]|(with_reducible intro hg;try simp only [hC,reduceCtorEq] at hg)|exact Cl|fail)
        (refine AW.i rfl (fun h=>?_) (fun h=>?_)<;>try simp only [hC,reduceCtorEq] at h)
        ·omega
        ·(refine vK ?_;with_reducible repeat' first|exact Le.l|refine Sw ?_ ?_|intro (K:_→_→Prop) hK|intro h)
         refine AW.loopV [9] [0,2,3,6,7,8] (fun m xs o=>∃ x:Int,xs=[.v (.int .i64 x)]∧o=[(b3,some (hasC (fun c=>ha c || (decide (0≤(c:Int)) && decide ((c:Int)<x))))),(b2,some [.v (.int .i64 0),.str [],.v (.slice none 0 0)]),(b,some [.str s,.v (.int .i64 (j+1:Nat)),.v (.bool true)])]∧m=(256 - x).toNat∧0≤x∧x≤256∧(0≤0→x≤0+1)∧(0<0→x=0)) _ [(b3,some (hasC ha)),(b2,some [.v (.int .i64 0),.str [],.v (.slice none 0 0)]),(b,some [.str s,.v (.int .i64 (j+1:Nat)),.v (.bool true)])] gO ⟨0,rfl,by rw [hasC_same],rfl,by omega,by omega,by omega,by omega⟩ ?_
         rintro m xs o ⟨x,rfl,rfl,rfl,hx1,hx2,hx3,hx4⟩
         obtain ⟨y,rfl⟩:∃ y:Nat,x=y:=⟨x.toNat,by omega⟩
         (refine vK ?_;with_reducible repeat' first|exact Le.l|refine Sw ?_ ?_|intro (K:_→_→Prop) hK|intro h)
         (refine AW.i rfl (fun h=>?_) (fun h=>?_)<;>try simp only [hC,reduceCtorEq] at h)
         ·(refine vK ?_;with_reducible repeat' first|exact Le.l|refine Sw ?_ ?_|intro (K:_→_→Prop) hK|intro h)
          try exact ⟨_,[_],[(b3,some (hasC (fun c=>ha c || (decide (0≤(c:Int)) && decide ((c:Int)<((y+1:Nat):Int)))))),(b2,some [.v (.int .i64 0),.str [],.v (.slice none 0 0)]),(b,some [.str s,.v (.int .i64 (j+1:Nat)),.v (.bool true)])],by omega,⟨((y+1:Nat):Int),rfl,rfl,rfl,by omega,by omega,by omega,by omega⟩,by simp,by rw [← hasC_grow ha (by omega)];simp (maxSteps:=2000000) (disch:=omega) only [go_sem]⟩
         ·(refine vK ?_;with_reducible repeat' first|exact Le.l|refine Sw ?_ ?_|intro (K:_→_→Prop) hK|intro h)
          exact ⟨0,[_],[(b3,some (hasC (fun c=>ha c || (decide (0≤(c:Int)) && decide ((c:Int)<(y:Int)))))),(b2,some [.v (.int .i64 0),.str [],.v (.slice none 0 0)]),(b,some [.str s,.v (.int .i64 (j+1:Nat)),.v (.bool true)])],by simp,⟨k+1,j+1,_,true,rfl,rfl,rfl,by omega,by omega,by omega,by simp,fun _=>hN'⟩,rfl,by simp (maxSteps:=2000000) (disch:=omega) only [go_sem]⟩
      ·simp only [h,cond_false]
       (refine vK ?_;with_reducible repeat' first|exact Le.l|refine Sw ?_ ?_|intro (K:_→_→Prop) hK|intro h)
       (refine AW.i rfl (fun h=>?_) (fun h=>?_)<;>try simp only [hC,reduceCtorEq] at h)
       ·omega
       ·(refine vK ?_;with_reducible repeat' first|exact Le.l|refine Sw ?_ ?_|intro (K:_→_→Prop) hK|intro h)
        refine AW.loopV [9] [0,2,3,6,7,8] (fun m xs o=>∃ x:Int,xs=[.v (.int .i64 x)]∧o=[(b3,some (hasC (fun c=>ha c || (decide (0≤(c:Int)) && decide ((c:Int)<x))))),(b2,some [.v (.int .i64 0),.str [],.v (.slice none 0 0)]),(b,some [.str s,.v (.int .i64 (j:Nat)),.v (.bool true)])]∧m=(256 - x).toNat∧0≤x∧x≤256∧(0≤0→x≤0+1)∧(0<0→x=0)) _ [(b3,some (hasC ha)),(b2,some [.v (.int .i64 0),.str [],.v (.slice none 0 0)]),(b,some [.str s,.v (.int .i64 (j:Nat)),.v (.bool true)])] gO ⟨0,rfl,by rw [hasC_same],rfl,by omega,by omega,by omega,by omega⟩ ?_
        rintro m xs o ⟨x,rfl,rfl,rfl,hx1,hx2,hx3,hx4⟩
        obtain ⟨y,rfl⟩:∃ y:Nat,x=y:=⟨x.toNat,by omega⟩
        (refine vK ?_;with_reducible repeat' first|exact Le.l|refine Sw ?_ ?_|intro (K:_→_→Prop) hK|intro h)
        (refine AW.i rfl (fun h=>?_) (fun h=>?_)<;>try simp only [hC,reduceCtorEq] at h)
        ·(refine vK ?_;with_reducible repeat' first|exact Le.l|refine Sw ?_ ?_|intro (K:_→_→Prop) hK|intro h)
         try exact ⟨_,[_],[(b3,some (hasC (fun c=>ha c || (decide (0≤(c:Int)) && decide ((c:Int)<((y+1:Nat):Int)))))),(b2,some [.v (.int .i64 0),.str [],.v (.slice none 0 0)]),(b,some [.str s,.v (.int .i64 (j:Nat)),.v (.bool true)])],by omega,⟨((y+1:Nat):Int),rfl,rfl,rfl,by omega,by omega,by omega,by omega⟩,by simp,by rw [← hasC_grow ha (by omega)];simp (maxSteps:=2000000) (disch:=omega) only [go_sem]⟩
        ·(refine vK ?_;with_reducible repeat' first|exact Le.l|refine Sw ?_ ?_|intro (K:_→_→Prop) hK|intro h)
         exact ⟨0,[_],[(b3,some (hasC (fun c=>ha c || (decide (0≤(c:Int)) && decide ((c:Int)<(y:Int)))))),(b2,some [.v (.int .i64 0),.str [],.v (.slice none 0 0)]),(b,some [.str s,.v (.int .i64 (j:Nat)),.v (.bool true)])],by simp,⟨k+1,j,_,true,rfl,rfl,rfl,by omega,by omega,by omega,by simp,fun _=>hN'⟩,rfl,by simp (maxSteps:=2000000) (disch:=omega) only [go_sem]⟩
     | true =>
      have hl1:=chAt_lt hch
      (repeat' first|(with_reducible first|refine Z ?_|refine Y ?_|(refine hK _ _ ?_;clear hK K)|refine And.intro ?_ ?_|exact Ct|intro (K:_→_→Prop) hK|(refine gI fun hg=>?_;try simp only [hC,reduceCtorEq] at hg;try simp only [hg]))|((with_reducible refine E ?_;repeat refine Y ?_);refine eF rfl ?_)|simp (disch:=omega) only [go_sem,hch]|(with_reducible intro hg;try simp only [hC,reduceCtorEq] at hg)|exact Cl|fail)
      (refine AW.i rfl (fun h=>?_) (fun h=>?_)<;>try simp only [hC,reduceCtorEq] at h)
      ·simp only [h,cond_true]
       have htil:=h
       have hl2:=isAt_iff.1 h
       cases hc2:chAt s (j+1+1) with
       | true =>
        have hl3:=chAt_lt hc2
        (repeat' first|(with_reducible first|refine Z ?_|refine Y ?_|(refine hK _ _ ?_;clear hK K)|refine And.intro ?_ ?_|exact Ct|intro (K:_→_→Prop) hK|(refine gI fun hg=>?_;try simp only [hC,reduceCtorEq] at hg;try simp only [hg]))|((with_reducible refine E ?_;repeat refine Y ?_);refine eF rfl ?_)|simp (disch:=omega) only [go_sem,hc2]|(with_reducible intro hg;try simp only [hC,reduceCtorEq] at hg)|exact Cl|fail)
        (refine AW.i rfl (fun h=>?_) (fun h=>?_)<;>try simp only [hC,reduceCtorEq] at h)
        ·have hN':R=none:=by rw [← hS,clsS_none ha (clsE_bad htil (.inr h))]
         (refine vK ?_;with_reducible repeat' first|exact Le.l|refine Sw ?_ ?_|intro (K:_→_→Prop) hK|intro h)
         refine AW.loopV [9] [0,2,3,6,7,8] (fun m xs o=>∃ x:Int,xs=[.v (.int .i64 x)]∧o=[(b3,some (hasC (fun c=>ha c || (decide (at8 s (j:Int)≤(c:Int)) && decide ((c:Int)<x))))),(b2,some [.v (.int .i64 0),.str [],.v (.slice none 0 0)]),(b,some [.str s,.v (.int .i64 (j+1+1+1:Nat)),.v (.bool true)])]∧m=(256 - x).toNat∧at8 s (j:Int)≤x∧x≤256∧(at8 s (j:Int)≤at8 s ((j+1+1:Nat):Int)→x≤at8 s ((j+1+1:Nat):Int)+1)∧(at8 s ((j+1+1:Nat):Int)<at8 s (j:Int)→x=at8 s (j:Int))) _ [(b3,some (hasC ha)),(b2,some [.v (.int .i64 0),.str [],.v (.slice none 0 0)]),(b,some [.str s,.v (.int .i64 (j+1+1+1:Nat)),.v (.bool true)])] gO ⟨at8 s (j:Int),rfl,by rw [hasC_same],rfl,by omega,by omega,by omega,by omega⟩ ?_
         rintro m xs o ⟨x,rfl,rfl,rfl,hx1,hx2,hx3,hx4⟩
         obtain ⟨y,rfl⟩:∃ y:Nat,x=y:=⟨x.toNat,by omega⟩
         (refine vK ?_;with_reducible repeat' first|exact Le.l|refine Sw ?_ ?_|intro (K:_→_→Prop) hK|intro h)
         (refine AW.i rfl (fun h=>?_) (fun h=>?_)<;>try simp only [hC,reduceCtorEq] at h)
         ·(refine vK ?_;with_reducible repeat' first|exact Le.l|refine Sw ?_ ?_|intro (K:_→_→Prop) hK|intro h)
          try exact ⟨_,[_],[(b3,some (hasC (fun c=>ha c || (decide (at8 s (j:Int)≤(c:Int)) && decide ((c:Int)<((y+1:Nat):Int)))))),(b2,some [.v (.int .i64 0),.str [],.v (.slice none 0 0)]),(b,some [.str s,.v (.int .i64 (j+1+1+1:Nat)),.v (.bool true)])],by omega,⟨((y+1:Nat):Int),rfl,rfl,rfl,by omega,by omega,by omega,by omega⟩,by simp,by rw [← hasC_grow ha (by omega)];simp (maxSteps:=2000000) (disch:=omega) only [go_sem]⟩
         ·(refine vK ?_;with_reducible repeat' first|exact Le.l|refine Sw ?_ ?_|intro (K:_→_→Prop) hK|intro h)
          exact ⟨0,[_],[(b3,some (hasC (fun c=>ha c || (decide (at8 s (j:Int)≤(c:Int)) && decide ((c:Int)<(y:Int)))))),(b2,some [.v (.int .i64 0),.str [],.v (.slice none 0 0)]),(b,some [.str s,.v (.int .i64 (j+1+1+1:Nat)),.v (.bool true)])],by simp,⟨k+1,j+1+1+1,_,true,rfl,rfl,rfl,by omega,by omega,by omega,by simp,fun _=>hN'⟩,rfl,by simp (maxSteps:=2000000) (disch:=omega) only [go_sem]⟩
        ·have hS2:=clsS_some ha (clsE_two hch htil hc2 h)
         (refine vK ?_;with_reducible repeat' first|exact Le.l|refine Sw ?_ ?_|intro (K:_→_→Prop) hK|intro h)
         refine AW.loopV [9] [0,2,3,6,7,8] (fun m xs o=>∃ x:Int,xs=[.v (.int .i64 x)]∧o=[(b3,some (hasC (fun c=>ha c || (decide (at8 s (j:Int)≤(c:Int)) && decide ((c:Int)<x))))),(b2,some [.v (.int .i64 0),.str [],.v (.slice none 0 0)]),(b,some [.str s,.v (.int .i64 (j+1+1+1:Nat)),.v (.bool false)])]∧m=(256 - x).toNat∧at8 s (j:Int)≤x∧x≤256∧(at8 s (j:Int)≤at8 s ((j+1+1:Nat):Int)→x≤at8 s ((j+1+1:Nat):Int)+1)∧(at8 s ((j+1+1:Nat):Int)<at8 s (j:Int)→x=at8 s (j:Int))) _ [(b3,some (hasC ha)),(b2,some [.v (.int .i64 0),.str [],.v (.slice none 0 0)]),(b,some [.str s,.v (.int .i64 (j+1+1+1:Nat)),.v (.bool false)])] gO ⟨at8 s (j:Int),rfl,by rw [hasC_same],rfl,by omega,by omega,by omega,by omega⟩ ?_
         rintro m xs o ⟨x,rfl,rfl,rfl,hx1,hx2,hx3,hx4⟩
         obtain ⟨y,rfl⟩:∃ y:Nat,x=y:=⟨x.toNat,by omega⟩
         (refine vK ?_;with_reducible repeat' first|exact Le.l|refine Sw ?_ ?_|intro (K:_→_→Prop) hK|intro h)
         (refine AW.i rfl (fun h=>?_) (fun h=>?_)<;>try simp only [hC,reduceCtorEq] at h)
         ·(refine vK ?_;with_reducible repeat' first|exact Le.l|refine Sw ?_ ?_|intro (K:_→_→Prop) hK|intro h)
          try exact ⟨_,[_],[(b3,some (hasC (fun c=>ha c || (decide (at8 s (j:Int)≤(c:Int)) && decide ((c:Int)<((y+1:Nat):Int)))))),(b2,some [.v (.int .i64 0),.str [],.v (.slice none 0 0)]),(b,some [.str s,.v (.int .i64 (j+1+1+1:Nat)),.v (.bool false)])],by omega,⟨((y+1:Nat):Int),rfl,rfl,rfl,by omega,by omega,by omega,by omega⟩,by simp,by rw [← hasC_grow ha (by omega)];simp (maxSteps:=2000000) (disch:=omega) only [go_sem]⟩
         ·(refine vK ?_;with_reducible repeat' first|exact Le.l|refine Sw ?_ ?_|intro (K:_→_→Prop) hK|intro h)
          exact ⟨_,[_],[(b3,some (hasC (fun c=>ha c || (decide (at8 s (j:Int)≤(c:Int)) && decide ((c:Int)<(y:Int)))))),(b2,some [.v (.int .i64 0),.str [],.v (.slice none 0 0)]),(b,some [.str s,.v (.int .i64 (j+1+1+1:Nat)),.v (.bool false)])],by simp;omega,⟨k+1,j+1+1+1,_,false,rfl,rfl,rfl,by omega,by omega,by omega,fun _=>⟨by omega,by rw [if_neg (by omega),fill_done ha (a:=at8 s (j:Int)) (z:=at8 s ((j+1+1:Nat):Int)) (y:=(y:Int)) (by omega),← hS2,hS]⟩,by simp⟩,rfl,by simp (maxSteps:=2000000) (disch:=omega) only [go_sem]⟩
       | false =>
        have hN':R=none:=by rw [← hS,clsS_none ha (clsE_bad htil (.inl hc2))]
        (repeat' first|(with_reducible first|refine Z ?_|refine Y ?_|(refine hK _ _ ?_;clear hK K)|refine And.intro ?_ ?_|exact Ct|intro (K:_→_→Prop) hK|(refine gI fun hg=>?_;try simp only [hC,reduceCtorEq] at hg;try simp only [hg]))|((with_reducible refine E ?_;repeat refine Y ?_);refine eF rfl ?_)|simp (disch:=omega) only [go_sem,hc2]|(with_reducible intro hg;try simp only [hC,reduceCtorEq] at hg)|exact Cl|fail)
        (refine AW.i rfl (fun h=>?_) (fun h=>?_)<;>try simp only [hC,reduceCtorEq] at h)
        ·(refine vK ?_;with_reducible repeat' first|exact Le.l|refine Sw ?_ ?_|intro (K:_→_→Prop) hK|intro h)
         refine AW.loopV [9] [0,2,3,6,7,8] (fun m xs o=>∃ x:Int,xs=[.v (.int .i64 x)]∧o=[(b3,some (hasC (fun c=>ha c || (decide (at8 s (j:Int)≤(c:Int)) && decide ((c:Int)<x))))),(b2,some [.v (.int .i64 0),.str [],.v (.slice none 0 0)]),(b,some [.str s,.v (.int .i64 (j+1+1:Nat)),.v (.bool true)])]∧m=(256 - x).toNat∧at8 s (j:Int)≤x∧x≤256∧(at8 s (j:Int)≤0→x≤0+1)∧(0<at8 s (j:Int)→x=at8 s (j:Int))) _ [(b3,some (hasC ha)),(b2,some [.v (.int .i64 0),.str [],.v (.slice none 0 0)]),(b,some [.str s,.v (.int .i64 (j+1+1:Nat)),.v (.bool true)])] gO ⟨at8 s (j:Int),rfl,by rw [hasC_same],rfl,by omega,by omega,by omega,by omega⟩ ?_
         rintro m xs o ⟨x,rfl,rfl,rfl,hx1,hx2,hx3,hx4⟩
         obtain ⟨y,rfl⟩:∃ y:Nat,x=y:=⟨x.toNat,by omega⟩
         (refine vK ?_;with_reducible repeat' first|exact Le.l|refine Sw ?_ ?_|intro (K:_→_→Prop) hK|intro h)
         (refine AW.i rfl (fun h=>?_) (fun h=>?_)<;>try simp only [hC,reduceCtorEq] at h)
         ·(refine vK ?_;with_reducible repeat' first|exact Le.l|refine Sw ?_ ?_|intro (K:_→_→Prop) hK|intro h)
          try exact ⟨_,[_],[(b3,some (hasC (fun c=>ha c || (decide (at8 s (j:Int)≤(c:Int)) && decide ((c:Int)<((y+1:Nat):Int)))))),(b2,some [.v (.int .i64 0),.str [],.v (.slice none 0 0)]),(b,some [.str s,.v (.int .i64 (j+1+1:Nat)),.v (.bool true)])],by omega,⟨((y+1:Nat):Int),rfl,rfl,rfl,by omega,by omega,by omega,by omega⟩,by simp,by rw [← hasC_grow ha (by omega)];simp (maxSteps:=2000000) (disch:=omega) only [go_sem]⟩
         ·(refine vK ?_;with_reducible repeat' first|exact Le.l|refine Sw ?_ ?_|intro (K:_→_→Prop) hK|intro h)
          exact ⟨0,[_],[(b3,some (hasC (fun c=>ha c || (decide (at8 s (j:Int)≤(c:Int)) && decide ((c:Int)<(y:Int)))))),(b2,some [.v (.int .i64 0),.str [],.v (.slice none 0 0)]),(b,some [.str s,.v (.int .i64 (j+1+1:Nat)),.v (.bool true)])],by simp,⟨k+1,j+1+1,_,true,rfl,rfl,rfl,by omega,by omega,by omega,by simp,fun _=>hN'⟩,rfl,by simp (maxSteps:=2000000) (disch:=omega) only [go_sem]⟩
        ·(refine vK ?_;with_reducible repeat' first|exact Le.l|refine Sw ?_ ?_|intro (K:_→_→Prop) hK|intro h)
         refine AW.loopV [9] [0,2,3,6,7,8] (fun m xs o=>∃ x:Int,xs=[.v (.int .i64 x)]∧o=[(b3,some (hasC (fun c=>ha c || (decide (at8 s (j:Int)≤(c:Int)) && decide ((c:Int)<x))))),(b2,some [.v (.int .i64 0),.str [],.v (.slice none 0 0)]),(b,some [.str s,.v (.int .i64 (j+1+1:Nat)),.v (.bool true)])]∧m=(256 - x).toNat∧at8 s (j:Int)≤x∧x≤256∧(at8 s (j:Int)≤0→x≤0+1)∧(0<at8 s (j:Int)→x=at8 s (j:Int))) _ [(b3,some (hasC ha)),(b2,some [.v (.int .i64 0),.str [],.v (.slice none 0 0)]),(b,some [.str s,.v (.int .i64 (j+1+1:Nat)),.v (.bool true)])] gO ⟨at8 s (j:Int),rfl,by rw [hasC_same],rfl,by omega,by omega,by omega,by omega⟩ ?_
         rintro m xs o ⟨x,rfl,rfl,rfl,hx1,hx2,hx3,hx4⟩
         obtain ⟨y,rfl⟩:∃ y:Nat,x=y:=⟨x.toNat,by omega⟩
         (refine vK ?_;with_reducible repeat' first|exact Le.l|refine Sw ?_ ?_|intro (K:_→_→Prop) hK|intro h)
         (refine AW.i rfl (fun h=>?_) (fun h=>?_)<;>try simp only [hC,reduceCtorEq] at h)
         ·(refine vK ?_;with_reducible repeat' first|exact Le.l|refine Sw ?_ ?_|intro (K:_→_→Prop) hK|intro h)
          try exact ⟨_,[_],[(b3,some (hasC (fun c=>ha c || (decide (at8 s (j:Int)≤(c:Int)) && decide ((c:Int)<((y+1:Nat):Int)))))),(b2,some [.v (.int .i64 0),.str [],.v (.slice none 0 0)]),(b,some [.str s,.v (.int .i64 (j+1+1:Nat)),.v (.bool true)])],by omega,⟨((y+1:Nat):Int),rfl,rfl,rfl,by omega,by omega,by omega,by omega⟩,by simp,by rw [← hasC_grow ha (by omega)];simp (maxSteps:=2000000) (disch:=omega) only [go_sem]⟩
         ·(refine vK ?_;with_reducible repeat' first|exact Le.l|refine Sw ?_ ?_|intro (K:_→_→Prop) hK|intro h)
          exact ⟨0,[_],[(b3,some (hasC (fun c=>ha c || (decide (at8 s (j:Int)≤(c:Int)) && decide ((c:Int)<(y:Int)))))),(b2,some [.v (.int .i64 0),.str [],.v (.slice none 0 0)]),(b,some [.str s,.v (.int .i64 (j+1+1:Nat)),.v (.bool true)])],by simp,⟨k+1,j+1+1,_,true,rfl,rfl,rfl,by omega,by omega,by omega,by simp,fun _=>hN'⟩,rfl,by simp (maxSteps:=2000000) (disch:=omega) only [go_sem]⟩
      ·simp only [h,cond_false]
       have hS2:=clsS_some ha (clsE_one hch h)
       (refine vK ?_;with_reducible repeat' first|exact Le.l|refine Sw ?_ ?_|intro (K:_→_→Prop) hK|intro h)
       (refine AW.i rfl (fun h=>?_) (fun h=>?_)<;>try simp only [hC,reduceCtorEq] at h)
       ·omega
       ·(refine vK ?_;with_reducible repeat' first|exact Le.l|refine Sw ?_ ?_|intro (K:_→_→Prop) hK|intro h)
        refine AW.loopV [9] [0,2,3,6,7,8] (fun m xs o=>∃ x:Int,xs=[.v (.int .i64 x)]∧o=[(b3,some (hasC (fun c=>ha c || (decide (at8 s (j:Int)≤(c:Int)) && decide ((c:Int)<x))))),(b2,some [.v (.int .i64 0),.str [],.v (.slice none 0 0)]),(b,some [.str s,.v (.int .i64 (j+1:Nat)),.v (.bool false)])]∧m=(256 - x).toNat∧at8 s (j:Int)≤x∧x≤256∧(at8 s (j:Int)≤at8 s (j:Int)→x≤at8 s (j:Int)+1)∧(at8 s (j:Int)<at8 s (j:Int)→x=at8 s (j:Int))) _ [(b3,some (hasC ha)),(b2,some [.v (.int .i64 0),.str [],.v (.slice none 0 0)]),(b,some [.str s,.v (.int .i64 (j+1:Nat)),.v (.bool false)])] gO ⟨at8 s (j:Int),rfl,by rw [hasC_same],rfl,by omega,by omega,by omega,by omega⟩ ?_
        rintro m xs o ⟨x,rfl,rfl,rfl,hx1,hx2,hx3,hx4⟩
        obtain ⟨y,rfl⟩:∃ y:Nat,x=y:=⟨x.toNat,by omega⟩
        (refine vK ?_;with_reducible repeat' first|exact Le.l|refine Sw ?_ ?_|intro (K:_→_→Prop) hK|intro h)
        (refine AW.i rfl (fun h=>?_) (fun h=>?_)<;>try simp only [hC,reduceCtorEq] at h)
        ·(refine vK ?_;with_reducible repeat' first|exact Le.l|refine Sw ?_ ?_|intro (K:_→_→Prop) hK|intro h)
         try exact ⟨_,[_],[(b3,some (hasC (fun c=>ha c || (decide (at8 s (j:Int)≤(c:Int)) && decide ((c:Int)<((y+1:Nat):Int)))))),(b2,some [.v (.int .i64 0),.str [],.v (.slice none 0 0)]),(b,some [.str s,.v (.int .i64 (j+1:Nat)),.v (.bool false)])],by omega,⟨((y+1:Nat):Int),rfl,rfl,rfl,by omega,by omega,by omega,by omega⟩,by simp,by rw [← hasC_grow ha (by omega)];simp (maxSteps:=2000000) (disch:=omega) only [go_sem]⟩
        ·(refine vK ?_;with_reducible repeat' first|exact Le.l|refine Sw ?_ ?_|intro (K:_→_→Prop) hK|intro h)
         exact ⟨_,[_],[(b3,some (hasC (fun c=>ha c || (decide (at8 s (j:Int)≤(c:Int)) && decide ((c:Int)<(y:Int)))))),(b2,some [.v (.int .i64 0),.str [],.v (.slice none 0 0)]),(b,some [.str s,.v (.int .i64 (j+1:Nat)),.v (.bool false)])],by simp;omega,⟨k+1,j+1,_,false,rfl,rfl,rfl,by omega,by omega,by omega,fun _=>⟨by omega,by rw [if_neg (by omega),fill_done ha (a:=at8 s (j:Int)) (z:=at8 s (j:Int)) (y:=(y:Int)) (by omega),← hS2,hS]⟩,by simp⟩,rfl,by simp (maxSteps:=2000000) (disch:=omega) only [go_sem]⟩
    ·simp only [h,cond_true]
     have hl2:=isAt_iff.1 h
     (refine vK ?_;with_reducible repeat' first|exact Le.l|refine Sw ?_ ?_|intro (K:_→_→Prop) hK|intro h)
     (refine AW.ret (EndsG.imp (Imp.frzO (b:=b2) (by simp (maxSteps:=2000000) (disch:=omega) only [go_sem];rfl) ?_));simp (maxSteps:=2000000) (disch:=omega) only [go_sem];refine EndsG.finQ rfl (RdQ.yes (p:=.mk 1 (clsT ha) []) (j:=j+1) (by rw [hels,hcls,← hS,clsL_end ha h];rfl) (by omega)) ?_;simp (maxSteps:=2000000) (disch:=omega) only [go_sem])
 ·simp only [h,cond_false]
  have hnc:=h
  cases hch:chAt s i with
  | true =>
   (repeat' first|(with_reducible first|refine Z ?_|refine Y ?_|(refine hK _ _ ?_;clear hK K)|refine And.intro ?_ ?_|exact Ct|intro (K:_→_→Prop) hK|(refine gI fun hg=>?_;try simp only [hC,reduceCtorEq] at hg;try simp only [hg]))|((with_reducible refine E ?_;repeat refine Y ?_);refine eF rfl ?_)|simp (disch:=omega) only [go_sem,hch]|(with_reducible intro hg;try simp only [hC,reduceCtorEq] at hg)|exact Cl|fail)
   (refine AW.i rfl (fun h=>?_) (fun h=>?_)<;>try simp only [hC,reduceCtorEq] at h)
   ·(refine vK ?_;with_reducible repeat' first|exact Le.l|refine Sw ?_ ?_|intro (K:_→_→Prop) hK|intro h)
    (refine AW.ret (EndsG.imp (Imp.nilO (b:=b2) 3 [.v (.int .i64 1),.str [UInt8.ofNat (at8 s i).toNat]] [] (by simp (maxSteps:=2000000) (disch:=omega) only [go_sem]) ?_));simp (maxSteps:=2000000) (disch:=omega) only [go_sem];refine EndsG.finQ rfl (RdQ.no (.mk 1 [UInt8.ofNat (at8 s i).toNat] []) (j:=i+1) (by rw [hels,atomS_no hnd hnc hp.1];intro _;rcases h with h|h;exact h;rw [isAt_yes ⟨hp.1,h⟩] at hnd;cases hnd) (by omega)) ?_;simp (maxSteps:=2000000) (disch:=omega) only [go_sem])
   ·(refine vK ?_;with_reducible repeat' first|exact Le.l|refine Sw ?_ ?_|intro (K:_→_→Prop) hK|intro h)
    (refine AW.ret (EndsG.imp (Imp.nilO (b:=b2) 3 [.v (.int .i64 1),.str [UInt8.ofNat (at8 s i).toNat]] [] (by simp (maxSteps:=2000000) (disch:=omega) only [go_sem]) ?_));simp (maxSteps:=2000000) (disch:=omega) only [go_sem];refine EndsG.finQ rfl (RdQ.yes (p:=.mk 1 [UInt8.ofNat (at8 s i).toNat] []) (j:=i+1) (by rw [hels,atomS_chr hnd hnc hp.1 hch h.1,take_drop1 hp.1,patC]) (by omega)) ?_;simp (maxSteps:=2000000) (disch:=omega) only [go_sem])
  | false =>
   (repeat' first|(with_reducible first|refine Z ?_|refine Y ?_|(refine hK _ _ ?_;clear hK K)|refine And.intro ?_ ?_|exact Ct|intro (K:_→_→Prop) hK|(refine gI fun hg=>?_;try simp only [hC,reduceCtorEq] at hg;try simp only [hg]))|((with_reducible refine E ?_;repeat refine Y ?_);refine eF rfl ?_)|simp (disch:=omega) only [go_sem,hch]|(with_reducible intro hg;try simp only [hC,reduceCtorEq] at hg)|exact Cl|fail)
   (refine AW.i rfl (fun h=>?_) (fun h=>?_)<;>try simp only [hC,reduceCtorEq] at h)
   all_goals (refine vK ?_;with_reducible repeat' first|exact Le.l|refine Sw ?_ ?_|intro (K:_→_→Prop) hK|intro h)
   (refine AW.ret (EndsG.imp (Imp.nilO (b:=b2) 3 [.v (.int .i64 1),.str [UInt8.ofNat 0]] [] (by simp (maxSteps:=2000000) (disch:=omega) only [go_sem]) ?_));simp (maxSteps:=2000000) (disch:=omega) only [go_sem];refine EndsG.finQ rfl (RdQ.no (.mk 1 [UInt8.ofNat 0] []) (j:=i) (by rw [hels,atomS_no hnd hnc hp.1];intro e;rw [hch] at e;cases e) (by omega)) ?_;simp (maxSteps:=2000000) (disch:=omega) only [go_sem])
end Go.Proofs.YtmcjbaafmjlblaaGreatDoor
namespace Go.Dt
open Go.Ab
def pat0:GPat:=.mk 0 [] []
def parsePat(s:Str):GPat×Bool :=
 if s.length≤30 then match pAlt s 0 with
  | some (p,j)=>if j=s.length then (p,true) else (pat0,false)
  | none=>(pat0,false)
 else (pat0,false)
theorem parsePat_isPat(s:Str):(parsePat s).2=isPat s:=by
 unfold parsePat isPat
 by_cases h:s.length≤30
 ·simp only [h,if_true,decide_true,Bool.true_and]
  cases e:pAlt s 0 with
  | none=>rfl
  | some r =>
   obtain ⟨p,j⟩:=r
   by_cases h2:j=s.length
   ·simp [h2]
   ·simp [h2]
 ·simp [h]
theorem parse_long{s:Str}(h:30<s.length):parsePat s=(pat0,false):=by rw [parsePat,if_neg (by omega)]
theorem parse_none{s:Str}(h:pAlt s 0=none):parsePat s=(pat0,false):=by rw [parsePat,h];simp
theorem parse_part{s:Str}{p:GPat}{j:Nat}(h:pAlt s 0=some (p,j))(h2:¬ j=s.length):parsePat s=(pat0,false):=by rw [parsePat,h];simp [h2]
theorem parse_yes{s:Str}{p:GPat}{j:Nat}(h0:s.length≤30)(h:pAlt s 0=some (p,j))(h2:j=s.length):parsePat s=(p,true):=by rw [parsePat,h];simp [h2,h0]
end Go.Dt
namespace Go.Proofs.YtmcjbaafmjlblaaGreatDoor
open Go.Ab Go.Dt
set_option maxRecDepth 20000
set_option maxHeartbeats 4000000
theorem alt_all:∀ (n:Nat) (b:Nat) (s:Str) (i:Nat),GCtr lim Tryz.prog 283 [(b,some [.str s,.v (.int .i64 i),.v (.bool false)])] [.ptr b 0] (RdQ b s i (pAlt s i)) (i≤s.length∧s.length≤30∧s.length - i<n)
 | 0,_,_,_=>⟨en283,fun h=>absurd h.2.2 (Nat.not_lt_zero _)⟩
 | n+1,b,s,i=>alt_n (n+1) (seq_n (n+1) (item_n (n+1) (atom_n n (alt_all n)))) b s i
instance alt_i(b:Nat)(s:Str):GCtr lim Tryz.prog 283 [(b,some [.str s,.v (.int .i64 0),.v (.bool false)])] [.ptr b 0] (RdQ b s 0 (pAlt s 0)) (s.length≤30):=⟨en283,fun h=>(alt_all 31 b s 0).out ⟨by omega,h,by omega⟩⟩
instance iParsePattern_i(s:Str):Ctr lim Tryz.prog 266 [] [.str s] (.tup [.agg [.v (.int .i64 (parsePat s).1.fOp),.str (parsePat s).1.fText,.sl false 3 ((parsePat s).1.fKids.map encPat)],.v (.bool (parsePat s).2)]) [] True:=by
 refine Ctr.of_body en266 Tryz.func266 rfl rfl fun hp=>(?_);rw [Tryz.ntmps266]
 refine AW.fact 0 fun hf=>?_
 simp (disch:=omega) only [go_sem,Nat.reduceBEq] at hf
 (refine vK ?_;with_reducible repeat' first|exact Le.l|refine Sw ?_ ?_|intro (K:_→_→Prop) hK|intro h)
 (refine AW.i rfl (fun h=>?_) (fun h=>?_)<;>try simp only [hC,reduceCtorEq] at h)
 ·have e:=parse_long (s:=s) (by omega)
  (refine vX ?_;with_reducible repeat' first|exact Le.l|refine Sw ?_ ?_|intro (K:_→_→Prop) hK|intro h)
  rename_i b2
  (refine AW.ret (EndsG.imp (Imp.nilO (b:=b2) 3 [.v (.int .i64 0),.str []] [] (by simp (maxSteps:=2000000) (disch:=omega) only [go_sem]) ?_));simp (maxSteps:=2000000) (disch:=omega) only [go_sem];refine EndsG.fin rfl ?_;simp (maxSteps:=2000000) (disch:=omega) only [go_sem,e,pat0,fOp_mk,fText_mk,fKids_mk])
 ·(refine vK ?_;with_reducible repeat' first|exact Le.l|refine Sw ?_ ?_|intro (K:_→_→Prop) hK|intro h)
  rename_i b2 h2 b3
  refine GK.rd (fun p j hq hj=>?_) (fun p j hq hj=>?_)
  ·(refine vK ?_;with_reducible repeat' first|exact Le.l|refine Sw ?_ ?_|intro (K:_→_→Prop) hK|intro h)
   (refine AW.i rfl (fun h=>?_) (fun h=>?_)<;>try simp only [hC,reduceCtorEq] at h)
   ·have e:=parse_part hq (by omega)
    (refine vX ?_;with_reducible repeat' first|exact Le.l|refine Sw ?_ ?_|intro (K:_→_→Prop) hK|intro h)
    (refine AW.ret (EndsG.imp (Imp.nilO (b:=b2) 3 [.v (.int .i64 0),.str []] [] (by simp (maxSteps:=2000000) (disch:=omega) only [go_sem]) ?_));simp (maxSteps:=2000000) (disch:=omega) only [go_sem];refine EndsG.fin rfl ?_;simp (maxSteps:=2000000) (disch:=omega) only [go_sem,e,pat0,fOp_mk,fText_mk,fKids_mk])
   ·have e:=parse_yes (by omega) hq (by omega)
    (repeat' first|(with_reducible first|refine Z ?_|refine Y ?_|(refine hK _ _ ?_;clear hK K)|refine And.intro ?_ ?_|exact Ct|intro (K:_→_→Prop) hK|(refine gI fun hg=>?_;try simp only [hC,reduceCtorEq] at hg;try simp only [hg]))|(refine AW.i rfl (fun h=>?_) (fun h=>?_)<;>try simp only [hC,reduceCtorEq] at h)|((with_reducible refine E ?_;repeat refine Y ?_);refine eF rfl ?_)|simp (disch:=omega) only [go_sem,e]|(with_reducible intro hg;try simp only [hC,reduceCtorEq] at hg)|exact Cl|fail)
  ·have e:=parse_none hq
   (refine vK ?_;with_reducible repeat' first|exact Le.l|refine Sw ?_ ?_|intro (K:_→_→Prop) hK|intro h)
   (refine AW.i rfl (fun h=>?_) (fun h=>?_)<;>try simp only [hC,reduceCtorEq] at h)
   (refine vX ?_;with_reducible repeat' first|exact Le.l|refine Sw ?_ ?_|intro (K:_→_→Prop) hK|intro h)
   (refine AW.ret (EndsG.imp (Imp.nilO (b:=b2) 3 [.v (.int .i64 0),.str []] [] (by simp (maxSteps:=2000000) (disch:=omega) only [go_sem]) ?_));simp (maxSteps:=2000000) (disch:=omega) only [go_sem];refine EndsG.fin rfl ?_;simp (maxSteps:=2000000) (disch:=omega) only [go_sem,e,pat0,fOp_mk,fText_mk,fKids_mk])
instance iIsPattern_i(s:Str):Ctr lim Tryz.prog 256 [] [.str s] (.v (.bool (isPat s))) [] True:=by
 refine Ctr.of_body en256 Tryz.func256 rfl rfl fun hp=>(?_);rw [Tryz.ntmps256]
 have e:=parsePat_isPat s
 (repeat' first|(with_reducible first|refine Z ?_|refine Y ?_|(refine hK _ _ ?_;clear hK K)|refine And.intro ?_ ?_|exact Ct|intro (K:_→_→Prop) hK|(refine gI fun hg=>?_;try simp only [hC,reduceCtorEq] at hg;try simp only [hg]))|(refine AW.i rfl (fun h=>?_) (fun h=>?_)<;>try simp only [hC,reduceCtorEq] at h)|((with_reducible refine E ?_;repeat refine Y ?_);refine eF rfl ?_)|simp (disch:=omega) only [go_sem,e]|(with_reducible intro hg;try simp only [hC,reduceCtorEq] at hg)|exact Cl|fail)
end Go.Proofs.YtmcjbaafmjlblaaGreatDoor
namespace Go.Dt
open Go.Ab
@[go_sem] theorem toNat256:Int.toNat 256=256:=rfl
def rep256:List (List Value):=List.replicate 256 [.bool false]
@[go_sem high] theorem rep256_eq:List.replicate 256 [Value.bool false]=rep256:=rfl
@[go_sem] theorem rep256_has:rep256.flatten.map avz=hasC (fun _=>false):=by
 have e:rep256.flatten=arr0:=by
  unfold rep256 arr0
  rw [List.flatten_replicate_singleton]
 rw [e,hasC_zero]
theorem pats_fl(l:List GPat):((l.map encPat).flatMap AV.cells).length=l.length * 3:=by
 induction l with
 | nil=>rfl
 | cons x xs ih =>
  have e:(encPat x).cells.length=3:=by rw [encPat_eq];rfl
  simp only [List.map_cons,List.flatMap_cons,List.length_append,ih,e,List.length_cons];omega
theorem pats_el(l:List GPat):∀ x,x∈l.map encPat→x.elem 3=true:=by
 have:=pats_elem l
 rw [List.all_eq_true] at this;exact this
end Go.Dt
namespace Go.Proofs.YtmcjbaafmjlblaaGreatDoor
open Go.Ab Go.Dt
set_option maxRecDepth 20000
set_option maxHeartbeats 4000000
instance l5Any_i:Ctr lim Tryz.prog 307 [] [] (.str (clsT (fun c=>decide (32≤c) && decide (c<127)))) [] True:=by
 refine Ctr.of_body en307 Tryz.func307 rfl rfl fun hp=>(?_);rw [Tryz.ntmps307]
 (refine vU ?_;with_reducible repeat' first|exact Le.l|refine Sw ?_ ?_|intro (K:_→_→Prop) hK|intro h)
 have hlow:clsU (fun c=>decide (32≤c) && decide (c<127)) 32=[]:=by
  unfold clsU
  have:(List.range 32).filter (fun c=>decide (32≤c) && decide (c<127))=[]:=by
   rw [List.filter_eq_nil_iff];intro a ha;simp at ha ⊢;omega
  rw [this];rfl
 refine AW.loopV [1,2] [] (fun m xs o=>∃ k:Nat,xs=[.sl true 1 (bytesA (clsU (fun c=>decide (32≤c) && decide (c<127)) k)),.v (.int .i64 k)]∧o=[]∧m=127 - k∧32≤k∧k≤127) 95 [] trivial ⟨32,?_,rfl,rfl,?_,?_⟩ ?_
 ·rw [hlow];rfl
 ·omega
 ·omega
 rintro m xs o ⟨k,rfl,rfl,rfl,hk0,hk⟩
 have hl:=clsU_le (fun c=>decide (32≤c) && decide (c<127)) k
 have hs:=clsU_step (fun c=>decide (32≤c) && decide (c<127)) k
 (refine vU ?_;with_reducible repeat' first|exact Le.l|refine Sw ?_ ?_|intro (K:_→_→Prop) hK|intro h)
 ·rw [if_pos (by simp;omega)] at hs
  exact ⟨_,[_,_],[],by omega,⟨k+1,by rw [hs,← byte_end _ (by omega)],rfl,rfl,by omega,by omega⟩,rfl,trivial⟩
 ·have:k=127:=by omega
  subst this
  congr 1
theorem l5Twin_n:∀ (n:Nat) (op:Int) (t:Str) (ks:List GPat),Ctr lim Tryz.prog 299 [] [.agg [.v (.int .i64 op),.str t,.sl false 3 (ks.map encPat)]] (.agg [.v (.int .i64 op),.str t,.sl false 3 (ks.map encPat)]) [] (pszL ks<n)
 | 0,op,t,ks=>⟨en299,fun h=>absurd h (Nat.not_lt_zero _)⟩
 | n+1,op,t,ks=>by
  have ih:=l5Twin_n n
  refine Ctr.of_body en299 Tryz.func299 rfl rfl fun hp=>(?_);rw [Tryz.ntmps299]
  refine AW.fact 0 fun hf=>?_
  simp (disch:=omega) only [go_sem,Nat.reduceBEq] at hf
  (refine bU ?_;with_reducible repeat' first|exact Le.l|refine Sw ?_ ?_|intro (K:_→_→Prop) hK|intro h)
  rename_i b1 b2 hn b3
  refine AW.imp (Imp.nilOT (b:=b3) 3 [.v (.int .i64 op),.str t] [] gO ?_)
  simp (maxSteps:=2000000) (disch:=omega) only [go_sem]
  refine AW.loopV [4] [1,2,3] (fun m xs o=>∃ k:Nat,xs=[.v (.int .i64 k)]∧o=[(b3,some [.v (.int .i64 op),.str t,.sl true 3 ((ks.take k).map encPat)]),(b2,some [.v (.int .i64 0),.str [],.v (.slice none 0 0)]),(b1,some [.v (.int .i64 op),.str t,.sl false 3 (ks.map encPat)])]∧m=ks.length - k∧k≤ks.length) ks.length [(b3,some [.v (.int .i64 op),.str t,.sl true 3 []]),(b2,some [.v (.int .i64 0),.str [],.v (.slice none 0 0)]),(b1,some [.v (.int .i64 op),.str t,.sl false 3 (ks.map encPat)])] gO ⟨0,?_,rfl,rfl,?_⟩ ?_
  ·rfl
  ·omega
  rintro m xs o ⟨k,rfl,rfl,rfl,hk⟩
  have hq:k<ks.length→_:=psz_at (l:=ks) (k:=k)
  have hq2:=psz_eq (at_ ks k)
  have hlt:(ks.take k).length=k:=by rw [List.length_take];omega
  (refine bK ?_;with_reducible repeat' first|exact Le.l|refine Sw ?_ ?_|intro (K:_→_→Prop) hK|intro h)
  (refine AW.i rfl (fun h=>?_) (fun h=>?_)<;>try simp only [hC,reduceCtorEq] at h)
  ·(refine bN ?_;with_reducible repeat' first|exact Le.l|refine Sw ?_ ?_|intro (K:_→_→Prop) hK|intro h)
   have hfl:=pats_fl (ks.take k)
   have hst:=take_at (f:=encPat) h
   refine AW.imp (Imp.unfoldO2 (b0:=b3) (k:=2) (cells0:=[.v (.int .i64 op),.str t,.sl true 3 ((ks.take k).map encPat)]) (sz:=3) (l:=(ks.take k).map encPat) gO rfl (pats_el _) (fun b hb=>?_) (fun hnil=>?_))
   ·have hb1:=hb.nf
    simp only [go_sem] at hb1
    simp only [List.set_cons_zero,List.set_cons_succ]
    refine AW.drwn fun K hK=>?_
    simp (maxSteps:=2000000) (disch:=omega) only [go_sem]
    (refine bN ?_;with_reducible repeat' first|exact Le.l|refine Sw ?_ ?_|intro (K:_→_→Prop) hK|intro h)
    rename_i b9
    refine AW.imp (Imp.foldO (b0:=b3) (k:=2) (b:=b9) (len:=(ks.take k).length+1) (sz:=3) (cells0:=[.v (.int .i64 op),.str t,.arr b9 0 ((ks.take k).length+1) 3]) (cells:=((ks.take k).map encPat).flatMap AV.cells++[.v (.int .i64 (at_ ks k).fOp),.str (at_ ks k).fText,.sl false 3 ((at_ ks k).fKids.map encPat)]) (l:=(ks.take (k+1)).map encPat) gO rfl gO (by omega) (by simp;omega) ?_ (pats_el _) ?_)
    ·refine Eq.trans ?_ (List.take_of_length_le (by rw [List.length_append,hfl];simp only [List.length_cons,List.length_nil];omega)).symm
     rw [hst,List.flatMap_append,encPat_eq]
     rfl
    simp only [List.set_cons_zero,List.set_cons_succ]
    (refine bK ?_;with_reducible repeat' first|exact Le.l|refine Sw ?_ ?_|intro (K:_→_→Prop) hK|intro h)
    exact ⟨_,[_],[(b3,some [.v (.int .i64 op),.str t,.sl true 3 ((ks.take (k+1)).map encPat)]),(b2,some [.v (.int .i64 0),.str [],.v (.slice none 0 0)]),(b1,some [.v (.int .i64 op),.str t,.sl false 3 (ks.map encPat)])],by omega,⟨k+1,rfl,rfl,rfl,by omega⟩,rfl,by rw [hst,encPat_eq];simp (maxSteps:=2000000) (disch:=omega) only [go_sem]⟩
   ·simp only [List.set_cons_zero,List.set_cons_succ]
    refine AW.drwn fun K hK=>?_
    simp (maxSteps:=2000000) (disch:=omega) only [go_sem]
    (refine bK ?_;with_reducible repeat' first|exact Le.l|refine Sw ?_ ?_|intro (K:_→_→Prop) hK|intro h)
    rw [hnil] at hst
    exact ⟨_,[_],[(b3,some [.v (.int .i64 op),.str t,.sl true 3 ((ks.take (k+1)).map encPat)]),(b2,some [.v (.int .i64 0),.str [],.v (.slice none 0 0)]),(b1,some [.v (.int .i64 op),.str t,.sl false 3 (ks.map encPat)])],by omega,⟨k+1,rfl,rfl,rfl,by omega⟩,rfl,by rw [hst,encPat_eq];simp (maxSteps:=2000000) (disch:=omega) only [go_sem,List.nil_append]⟩
  ·rw [show k=ks.length by omega,List.take_length]
   (refine bX ?_;with_reducible repeat' first|exact Le.l|refine Sw ?_ ?_|intro (K:_→_→Prop) hK|intro h)
   refine AW.ret (EndsG.imp (Imp.frzO (b:=b2) (by simp (maxSteps:=2000000) (disch:=omega) only [go_sem];rfl) ?_))
   simp (maxSteps:=2000000) (disch:=omega) only [go_sem]
   refine EndsG.fin rfl ?_
   simp (maxSteps:=2000000) (disch:=omega) only [go_sem]
instance l5Twin_i(op:Int)(t:Str)(ks:List GPat):Ctr lim Tryz.prog 299 [] [.agg [.v (.int .i64 op),.str t,.sl false 3 (ks.map encPat)]] (.agg [.v (.int .i64 op),.str t,.sl false 3 (ks.map encPat)]) [] True:=⟨en299,fun _=>(l5Twin_n (pszL ks+1) op t ks).out (by omega)⟩
end Go.Proofs.YtmcjbaafmjlblaaGreatDoor
namespace Go.Dt
open Go.Ab
def resC(r:Option ((Nat→Bool)×Nat)):Option (GPat×Nat):=match r with|none=>none|some (has,k)=>some (patC (clsT has),k)
def clsRes(s:Str)(i:Nat):Option (GPat×Nat):=resC (clsS s i (fun _=>false))
theorem isAt_cls{s:Str}{j:Nat}(h:isAt s j 93=true):chAt s j=false:=by
 have:=isAt_iff.1 h
 rw [chAt_def,this.2]
 simp [isCh,ltI,digI]
end Go.Dt
namespace Go.Proofs.YtmcjbaafmjlblaaGreatDoor
open Go.Ab Go.Dt
set_option maxRecDepth 20000
set_option maxHeartbeats 4000000
instance l5Class_i(b:Nat)(s:Str)(i:Nat):GCtr lim Tryz.prog 306 [(b,some [.str s,.v (.int .i64 i),.v (.bool false)])] [.ptr b 0] (RdQ b s i (clsRes s i)) (i≤s.length∧s.length≤30):=by
 refine GCtr.of_body en306 Tryz.func306 rfl rfl fun hp=>(?_);rw [Tryz.ntmps306]
 generalize hRR:clsS s i (fun _=>false)=R
 have hres:clsRes s i=resC R:=by rw [clsRes,hRR]
 (refine vK ?_;with_reducible repeat' first|exact Le.l|refine Sw ?_ ?_|intro (K:_→_→Prop) hK|intro h)
 rename_i b2 hn b3
 refine AW.loopV [] [0,2,3,4] (fun m xs o=>∃ (j:Nat) (ha:Nat→Bool),xs=[]∧o=[(b3,some (hasC ha)),(b2,some [.v (.int .i64 0),.str [],.v (.slice none 0 0)]),(b,some [.str s,.v (.int .i64 j),.v (.bool false)])]∧m=s.length - j∧j≤s.length∧i≤j∧((j=i∧clsS s j ha=R)∨(i<j∧clsL s j ha=R))) _ [(b3,some (hasC (fun _=>false))),(b2,some [.v (.int .i64 0),.str [],.v (.slice none 0 0)]),(b,some [.str s,.v (.int .i64 i),.v (.bool false)])] gO ⟨i,fun _=>false,rfl,rfl,rfl,by omega,by omega,.inl ⟨rfl,hRR⟩⟩ ?_
 rintro m xs o ⟨j,ha,rfl,rfl,rfl,hj,hij,hR⟩
 have hge:=at8_ge s (j:Int)
 have hle:=at8_le s (j:Int)
 have hge2:=at8_ge s ((j+1+1:Nat):Int)
 have hle2:=at8_le s ((j+1+1:Nat):Int)
 (refine vK ?_;with_reducible repeat' first|exact Le.l|refine Sw ?_ ?_|intro (K:_→_→Prop) hK|intro h)
 (refine AW.i rfl (fun h=>?_) (fun h=>?_)<;>try simp only [hC,reduceCtorEq] at h)
 ·simp only [h,cond_false]
  have hS:clsS s j ha=R:=by
   rcases hR with hR|hR
   ·exact hR.2
   ·rw [← hR.2,clsL_go ha h]
  clear hR
  (refine vK ?_;with_reducible repeat' first|exact Le.l|refine Sw ?_ ?_|intro (K:_→_→Prop) hK|intro h)
  (refine AW.i rfl (fun h=>?_) (fun h=>?_)<;>try simp only [hC,reduceCtorEq] at h)
  ·have hch:=chAt_no (s:=s) (i:=j) (by rcases h with h|h;exact .inl (by omega);exact .inr h)
   (refine vK ?_;with_reducible repeat' first|exact Le.l|refine Sw ?_ ?_|intro (K:_→_→Prop) hK|intro h)
   (refine AW.ret (EndsG.imp (Imp.nilO (b:=b2) 3 [.v (.int .i64 0),.str []] [] (by simp (maxSteps:=2000000) (disch:=omega) only [go_sem]) ?_));simp (maxSteps:=2000000) (disch:=omega) only [go_sem];refine EndsG.finQ rfl (RdQ.no (.mk 0 [] []) (j:=j) (by rw [hres,← hS,clsS_none ha (clsE_no hch)];rfl) (by omega)) ?_;simp (maxSteps:=2000000) (disch:=omega) only [go_sem])
  have hch:=chAt_yes (s:=s) (i:=j) ⟨by omega,h.2⟩
  have hl1:=chAt_lt hch
  (refine vK ?_;with_reducible repeat' first|exact Le.l|refine Sw ?_ ?_|intro (K:_→_→Prop) hK|intro h)
  (refine AW.i rfl (fun h=>?_) (fun h=>?_)<;>try simp only [hC,reduceCtorEq] at h)
  ·simp only [h,cond_true]
   have htil:=h
   have hl2:=isAt_iff.1 h
   (refine vK ?_;with_reducible repeat' first|exact Le.l|refine Sw ?_ ?_|intro (K:_→_→Prop) hK|intro h)
   (refine AW.i rfl (fun h=>?_) (fun h=>?_)<;>try simp only [hC,reduceCtorEq] at h)
   ·(refine vK ?_;with_reducible repeat' first|exact Le.l|refine Sw ?_ ?_|intro (K:_→_→Prop) hK|intro h)
    (refine AW.ret (EndsG.imp (Imp.nilO (b:=b2) 3 [.v (.int .i64 0),.str []] [] (by simp (maxSteps:=2000000) (disch:=omega) only [go_sem]) ?_));simp (maxSteps:=2000000) (disch:=omega) only [go_sem];refine EndsG.finQ rfl (RdQ.no (.mk 0 [] []) (j:=j+1+1) (by rw [hres,← hS,clsS_none ha (clsE_bad htil ?_)];rfl;rcases h with (h|h)|h;exact .inl (chAt_no (.inl (by omega)));exact .inl (chAt_no (.inr h));exact .inr h) (by omega)) ?_;simp (maxSteps:=2000000) (disch:=omega) only [go_sem])
   ·have hc2:=chAt_yes (s:=s) (i:=j+1+1) ⟨by omega,h.1.2⟩
    have hl3:=chAt_lt hc2
    have hS2:=clsS_some ha (clsE_two hch htil hc2 h.2)
    (refine vK ?_;with_reducible repeat' first|exact Le.l|refine Sw ?_ ?_|intro (K:_→_→Prop) hK|intro h)
    refine AW.loopV [7] [0,2,3,4,5,6] (fun m xs o=>∃ x:Int,xs=[.v (.int .i64 x)]∧o=[(b3,some (hasC (fun c=>ha c || (decide (at8 s (j:Int)≤(c:Int)) && decide ((c:Int)<x))))),(b2,some [.v (.int .i64 0),.str [],.v (.slice none 0 0)]),(b,some [.str s,.v (.int .i64 (j+1+1+1:Nat)),.v (.bool false)])]∧m=(256 - x).toNat∧at8 s (j:Int)≤x∧x≤256∧x≤at8 s ((j+1+1:Nat):Int)+1) _ [(b3,some (hasC ha)),(b2,some [.v (.int .i64 0),.str [],.v (.slice none 0 0)]),(b,some [.str s,.v (.int .i64 (j+1+1+1:Nat)),.v (.bool false)])] gO ⟨at8 s (j:Int),rfl,by rw [hasC_same],rfl,by omega,by omega,by omega⟩ ?_
    rintro m xs o ⟨x,rfl,rfl,rfl,hx1,hx2,hx3⟩
    obtain ⟨y,rfl⟩:∃ y:Nat,x=y:=⟨x.toNat,by omega⟩
    (refine vK ?_;with_reducible repeat' first|exact Le.l|refine Sw ?_ ?_|intro (K:_→_→Prop) hK|intro h)
    (refine AW.i rfl (fun h=>?_) (fun h=>?_)<;>try simp only [hC,reduceCtorEq] at h)
    ·(refine vK ?_;with_reducible repeat' first|exact Le.l|refine Sw ?_ ?_|intro (K:_→_→Prop) hK|intro h)
     exact ⟨_,[_],[(b3,some (hasC (fun c=>ha c || (decide (at8 s (j:Int)≤(c:Int)) && decide ((c:Int)<((y+1:Nat):Int)))))),(b2,some [.v (.int .i64 0),.str [],.v (.slice none 0 0)]),(b,some [.str s,.v (.int .i64 (j+1+1+1:Nat)),.v (.bool false)])],by omega,⟨((y+1:Nat):Int),rfl,rfl,rfl,by omega,by omega,by omega⟩,by simp,by rw [← hasC_grow ha (by omega)];simp (maxSteps:=2000000) (disch:=omega) only [go_sem]⟩
    ·(refine vK ?_;with_reducible repeat' first|exact Le.l|refine Sw ?_ ?_|intro (K:_→_→Prop) hK|intro h)
     exact ⟨_,[],[(b3,some (hasC (fun c=>ha c || (decide (at8 s (j:Int)≤(c:Int)) && decide ((c:Int)<(y:Int)))))),(b2,some [.v (.int .i64 0),.str [],.v (.slice none 0 0)]),(b,some [.str s,.v (.int .i64 (j+1+1+1:Nat)),.v (.bool false)])],by omega,⟨j+1+1+1,_,rfl,rfl,rfl,by omega,by omega,.inr ⟨by omega,by rw [fill_done ha (a:=at8 s (j:Int)) (z:=at8 s ((j+1+1:Nat):Int)) (y:=(y:Int)) (by omega),← hS2,hS]⟩⟩,by simp (maxSteps:=2000000) (disch:=omega) only [go_sem]⟩
  ·simp only [h,cond_false]
   have hS2:=clsS_some ha (clsE_one hch h)
   (refine vK ?_;with_reducible repeat' first|exact Le.l|refine Sw ?_ ?_|intro (K:_→_→Prop) hK|intro h)
   refine AW.loopV [7] [0,2,3,4,5,6] (fun m xs o=>∃ x:Int,xs=[.v (.int .i64 x)]∧o=[(b3,some (hasC (fun c=>ha c || (decide (at8 s (j:Int)≤(c:Int)) && decide ((c:Int)<x))))),(b2,some [.v (.int .i64 0),.str [],.v (.slice none 0 0)]),(b,some [.str s,.v (.int .i64 (j+1:Nat)),.v (.bool false)])]∧m=(256 - x).toNat∧at8 s (j:Int)≤x∧x≤256∧x≤at8 s (j:Int)+1) _ [(b3,some (hasC ha)),(b2,some [.v (.int .i64 0),.str [],.v (.slice none 0 0)]),(b,some [.str s,.v (.int .i64 (j+1:Nat)),.v (.bool false)])] gO ⟨at8 s (j:Int),rfl,by rw [hasC_same],rfl,by omega,by omega,by omega⟩ ?_
   rintro m xs o ⟨x,rfl,rfl,rfl,hx1,hx2,hx3⟩
   obtain ⟨y,rfl⟩:∃ y:Nat,x=y:=⟨x.toNat,by omega⟩
   (refine vK ?_;with_reducible repeat' first|exact Le.l|refine Sw ?_ ?_|intro (K:_→_→Prop) hK|intro h)
   (refine AW.i rfl (fun h=>?_) (fun h=>?_)<;>try simp only [hC,reduceCtorEq] at h)
   ·(refine vK ?_;with_reducible repeat' first|exact Le.l|refine Sw ?_ ?_|intro (K:_→_→Prop) hK|intro h)
    exact ⟨_,[_],[(b3,some (hasC (fun c=>ha c || (decide (at8 s (j:Int)≤(c:Int)) && decide ((c:Int)<((y+1:Nat):Int)))))),(b2,some [.v (.int .i64 0),.str [],.v (.slice none 0 0)]),(b,some [.str s,.v (.int .i64 (j+1:Nat)),.v (.bool false)])],by omega,⟨((y+1:Nat):Int),rfl,rfl,rfl,by omega,by omega,by omega⟩,by simp,by rw [← hasC_grow ha (by omega)];simp (maxSteps:=2000000) (disch:=omega) only [go_sem]⟩
   ·(refine vK ?_;with_reducible repeat' first|exact Le.l|refine Sw ?_ ?_|intro (K:_→_→Prop) hK|intro h)
    exact ⟨_,[],[(b3,some (hasC (fun c=>ha c || (decide (at8 s (j:Int)≤(c:Int)) && decide ((c:Int)<(y:Int)))))),(b2,some [.v (.int .i64 0),.str [],.v (.slice none 0 0)]),(b,some [.str s,.v (.int .i64 (j+1:Nat)),.v (.bool false)])],by omega,⟨j+1,_,rfl,rfl,rfl,by omega,by omega,.inr ⟨by omega,by rw [fill_done ha (a:=at8 s (j:Int)) (z:=at8 s (j:Int)) (y:=(y:Int)) (by omega),← hS2,hS]⟩⟩,by simp (maxSteps:=2000000) (disch:=omega) only [go_sem]⟩
 ·simp only [h,cond_true]
  have hend:=h
  have hl2:=isAt_iff.1 h
  (refine vK ?_;with_reducible repeat' first|exact Le.l|refine Sw ?_ ?_|intro (K:_→_→Prop) hK|intro h)
  (refine AW.i rfl (fun h=>?_) (fun h=>?_)<;>try simp only [hC,reduceCtorEq] at h)
  ·have hN:R=none:=by
    rcases hR with hR|hR
    ·rw [← hR.2,clsS_none ha (clsE_no (isAt_cls hend))]
    ·omega
   (refine vK ?_;with_reducible repeat' first|exact Le.l|refine Sw ?_ ?_|intro (K:_→_→Prop) hK|intro h)
   refine AW.loopV [8,9] [2,3] (fun m xs o=>∃ k:Nat,xs=[.sl true 1 (bytesA (clsU ha k)),.v (.int .i64 k)]∧o=[(b3,some (hasC ha)),(b2,some [.v (.int .i64 0),.str [],.v (.slice none 0 0)]),(b,some [.str s,.v (.int .i64 (j+1:Nat)),.v (.bool true)])]∧m=256 - k∧k≤256) 256 [(b3,some (hasC ha)),(b2,some [.v (.int .i64 0),.str [],.v (.slice none 0 0)]),(b,some [.str s,.v (.int .i64 (j+1:Nat)),.v (.bool true)])] gO ⟨0,?_,rfl,rfl,?_⟩ ?_
   ·rfl
   ·omega
   rintro m xs o ⟨k,rfl,rfl,rfl,hk⟩
   have hl:=clsU_le ha k
   have hs:=clsU_step ha k
   (refine vK ?_;with_reducible repeat' first|exact Le.l|refine Sw ?_ ?_|intro (K:_→_→Prop) hK|intro h)
   (refine AW.i rfl (fun h=>?_) (fun h=>?_)<;>try simp only [hC,reduceCtorEq] at h)
   ·(refine vK ?_;with_reducible repeat' first|exact Le.l|refine Sw ?_ ?_|intro (K:_→_→Prop) hK|intro h)
    (refine AW.i rfl (fun h=>?_) (fun h=>?_)<;>try simp only [hC,reduceCtorEq] at h)
    ·rw [h] at hs
     (refine vK ?_;with_reducible repeat' first|exact Le.l|refine Sw ?_ ?_|intro (K:_→_→Prop) hK|intro h)
     exact ⟨_,[_,_],[(b3,some (hasC ha)),(b2,some [.v (.int .i64 0),.str [],.v (.slice none 0 0)]),(b,some [.str s,.v (.int .i64 (j+1:Nat)),.v (.bool true)])],by omega,⟨k+1,by rw [hs,if_pos rfl,← byte_end _ (by omega)],rfl,rfl,by omega⟩,rfl,by simp (maxSteps:=2000000) (disch:=omega) only [go_sem]⟩
    ·rw [h] at hs
     (refine vK ?_;with_reducible repeat' first|exact Le.l|refine Sw ?_ ?_|intro (K:_→_→Prop) hK|intro h)
     exact ⟨_,[_,_],[(b3,some (hasC ha)),(b2,some [.v (.int .i64 0),.str [],.v (.slice none 0 0)]),(b,some [.str s,.v (.int .i64 (j+1:Nat)),.v (.bool true)])],by omega,⟨k+1,by rw [hs];simp,rfl,rfl,by omega⟩,rfl,by simp (maxSteps:=2000000) (disch:=omega) only [go_sem]⟩
   ·(refine vK ?_;with_reducible repeat' first|exact Le.l|refine Sw ?_ ?_|intro (K:_→_→Prop) hK|intro h)
    have hk2:k=256:=by omega
    subst hk2
    (refine AW.ret (EndsG.imp (Imp.nilO (b:=b2) 3 [.v (.int .i64 1),.str (clsU ha 256)] [] (by simp (maxSteps:=2000000) (disch:=omega) only [go_sem]) ?_));simp (maxSteps:=2000000) (disch:=omega) only [go_sem];refine EndsG.finQ rfl (RdQ.no (.mk 1 (clsU ha 256) []) (j:=j+1) (by rw [hres,hN];rfl) (by omega)) ?_;simp (maxSteps:=2000000) (disch:=omega) only [go_sem])
  ·have hY:R=some (ha,j+1):=by
    rcases hR with hR|hR
    ·omega
    ·rw [← hR.2,clsL_end ha hend]
   (refine vK ?_;with_reducible repeat' first|exact Le.l|refine Sw ?_ ?_|intro (K:_→_→Prop) hK|intro h)
   refine AW.loopV [8,9] [2,3] (fun m xs o=>∃ k:Nat,xs=[.sl true 1 (bytesA (clsU ha k)),.v (.int .i64 k)]∧o=[(b3,some (hasC ha)),(b2,some [.v (.int .i64 0),.str [],.v (.slice none 0 0)]),(b,some [.str s,.v (.int .i64 (j+1:Nat)),.v (.bool false)])]∧m=256 - k∧k≤256) 256 [(b3,some (hasC ha)),(b2,some [.v (.int .i64 0),.str [],.v (.slice none 0 0)]),(b,some [.str s,.v (.int .i64 (j+1:Nat)),.v (.bool false)])] gO ⟨0,?_,rfl,rfl,?_⟩ ?_
   ·rfl
   ·omega
   rintro m xs o ⟨k,rfl,rfl,rfl,hk⟩
   have hl:=clsU_le ha k
   have hs:=clsU_step ha k
   (refine vK ?_;with_reducible repeat' first|exact Le.l|refine Sw ?_ ?_|intro (K:_→_→Prop) hK|intro h)
   (refine AW.i rfl (fun h=>?_) (fun h=>?_)<;>try simp only [hC,reduceCtorEq] at h)
   ·(refine vK ?_;with_reducible repeat' first|exact Le.l|refine Sw ?_ ?_|intro (K:_→_→Prop) hK|intro h)
    (refine AW.i rfl (fun h=>?_) (fun h=>?_)<;>try simp only [hC,reduceCtorEq] at h)
    ·rw [h] at hs
     (refine vK ?_;with_reducible repeat' first|exact Le.l|refine Sw ?_ ?_|intro (K:_→_→Prop) hK|intro h)
     exact ⟨_,[_,_],[(b3,some (hasC ha)),(b2,some [.v (.int .i64 0),.str [],.v (.slice none 0 0)]),(b,some [.str s,.v (.int .i64 (j+1:Nat)),.v (.bool false)])],by omega,⟨k+1,by rw [hs,if_pos rfl,← byte_end _ (by omega)],rfl,rfl,by omega⟩,rfl,by simp (maxSteps:=2000000) (disch:=omega) only [go_sem]⟩
    ·rw [h] at hs
     (refine vK ?_;with_reducible repeat' first|exact Le.l|refine Sw ?_ ?_|intro (K:_→_→Prop) hK|intro h)
     exact ⟨_,[_,_],[(b3,some (hasC ha)),(b2,some [.v (.int .i64 0),.str [],.v (.slice none 0 0)]),(b,some [.str s,.v (.int .i64 (j+1:Nat)),.v (.bool false)])],by omega,⟨k+1,by rw [hs];simp,rfl,rfl,by omega⟩,rfl,by simp (maxSteps:=2000000) (disch:=omega) only [go_sem]⟩
   ·(refine vK ?_;with_reducible repeat' first|exact Le.l|refine Sw ?_ ?_|intro (K:_→_→Prop) hK|intro h)
    have hk2:k=256:=by omega
    subst hk2
    (refine AW.ret (EndsG.imp (Imp.nilO (b:=b2) 3 [.v (.int .i64 1),.str (clsU ha 256)] [] (by simp (maxSteps:=2000000) (disch:=omega) only [go_sem]) ?_));simp (maxSteps:=2000000) (disch:=omega) only [go_sem];refine EndsG.finQ rfl (RdQ.yes (p:=.mk 1 (clsU ha 256) []) (j:=j+1) (by rw [hres,hY];rfl) (by omega)) ?_;simp (maxSteps:=2000000) (disch:=omega) only [go_sem])
end Go.Proofs.YtmcjbaafmjlblaaGreatDoor
namespace Go.Dt
open Go.Ab
theorem atomS_cls2{s:Str}{i:Nat}(h1:isAt s i 46=false)(h2:isAt s i 91=true):atomS s i=clsRes s (i+1):=by
 rw [atomS_cls h1 h2,clsRes];rfl
theorem atomS_let{s:Str}{i:Nat}(h1:isAt s i 46=false)(h2:isAt s i 91=false)(h:i<s.length∧((ltI (at8 s i)=true∨digI (at8 s i)=true)∨at8 s i=45)):atomS s i=some (patC ((s.take (i+1)).drop i),i+1):=by
 rw [atomS,if_neg (by rw [h1];simp),if_neg (by rw [h2];simp),if_pos]
 simp only [Bool.and_eq_true,Bool.or_eq_true,decide_eq_true_eq,beq_iff_eq];exact h
theorem atomS_nolet{s:Str}{i:Nat}(h1:isAt s i 46=false)(h2:isAt s i 91=false)(hi:i<s.length)(h:(ltI (at8 s i)=false∧digI (at8 s i)=false)∧¬ at8 s i=45):atomS s i=none:=by
 rw [atomS,if_neg (by rw [h1];simp),if_neg (by rw [h2];simp),if_neg]
 simp [h]
theorem isAt_ne{s:Str}{i:Nat}{c d:Int}(h:isAt s i c=true)(hne:¬ c=d):isAt s i d=false:=by
 have:=isAt_iff.1 h
 exact isAt_no fun _ e=>hne (this.2.symm.trans e)
end Go.Dt
namespace Go.Proofs.YtmcjbaafmjlblaaGreatDoor
open Go.Ab Go.Dt
set_option maxRecDepth 20000
set_option maxHeartbeats 4000000
theorem l5Atom_n(n:Nat)(halt:∀ (b:Nat) (s:Str) (i:Nat),GCtr lim Tryz.prog 277 [(b,some [.str s,.v (.int .i64 i),.v (.bool false)])] [.ptr b 0] (RdQ b s i (pAlt s i)) (i≤s.length∧s.length≤30∧s.length - i<n))(b:Nat)(s:Str)(i:Nat) :
  GCtr lim Tryz.prog 298 [(b,some [.str s,.v (.int .i64 i),.v (.bool false)])] [.ptr b 0] (RdQ b s i (pAtom s i)) (i<s.length∧s.length≤30∧s.length - i<n+1):=by
 refine GCtr.of_body en298 Tryz.func298 rfl rfl fun hp=>(?_);rw [Tryz.ntmps298]
 (refine vK ?_;with_reducible repeat' first|exact Le.l|refine Sw ?_ ?_|intro (K:_→_→Prop) hK|intro h)
 rename_i b2
 (refine AW.i rfl (fun h=>?_) (fun h=>?_)<;>try simp only [hC,reduceCtorEq] at h)
 ·simp only [h,cond_true]
  have hlt:=isAt_iff.1 h
  have hop0:=pAtom_open0 h
  have hop1:=fun p j=>pAtom_open1 (p:=p) (j:=j) h
  have hop2:=fun p j=>pAtom_open2 (p:=p) (j:=j) h
  (refine vK ?_;with_reducible repeat' first|exact Le.l|refine Sw ?_ ?_|intro (K:_→_→Prop) hK|intro h)
  refine GK.rd (fun p j hq hj=>?_) (fun p j hq hj=>?_)
  ·(refine vK ?_;with_reducible repeat' first|exact Le.l|refine Sw ?_ ?_|intro (K:_→_→Prop) hK|intro h)
   (refine AW.i rfl (fun h=>?_) (fun h=>?_)<;>try simp only [hC,reduceCtorEq] at h)
   ·simp only [h,cond_false]
    (refine vK ?_;with_reducible repeat' first|exact Le.l|refine Sw ?_ ?_|intro (K:_→_→Prop) hK|intro h)
    (refine AW.ret (EndsG.imp (Imp.frzO (b:=b2) (by simp (maxSteps:=2000000) (disch:=omega) only [go_sem];rfl) ?_));simp (maxSteps:=2000000) (disch:=omega) only [go_sem];refine EndsG.finQ rfl (RdQ.no p (j:=j) (hop2 p j hq h) (by omega)) ?_;simp (maxSteps:=2000000) (disch:=omega) only [go_sem])
   ·simp only [h,cond_true]
    have hl2:=isAt_iff.1 h
    (refine vK ?_;with_reducible repeat' first|exact Le.l|refine Sw ?_ ?_|intro (K:_→_→Prop) hK|intro h)
    (refine AW.ret (EndsG.imp (Imp.frzO (b:=b2) (by simp (maxSteps:=2000000) (disch:=omega) only [go_sem];rfl) ?_));simp (maxSteps:=2000000) (disch:=omega) only [go_sem];refine EndsG.finQ rfl (RdQ.yes (p:=p) (j:=j+1) (hop1 p j hq h) (by omega)) ?_;simp (maxSteps:=2000000) (disch:=omega) only [go_sem])
  ·(refine vK ?_;with_reducible repeat' first|exact Le.l|refine Sw ?_ ?_|intro (K:_→_→Prop) hK|intro h)
   (refine AW.i rfl (fun h=>?_) (fun h=>?_)<;>try simp only [hC,reduceCtorEq] at h)
   (refine vK ?_;with_reducible repeat' first|exact Le.l|refine Sw ?_ ?_|intro (K:_→_→Prop) hK|intro h)
   (refine AW.ret (EndsG.imp (Imp.frzO (b:=b2) (by simp (maxSteps:=2000000) (disch:=omega) only [go_sem];rfl) ?_));simp (maxSteps:=2000000) (disch:=omega) only [go_sem];refine EndsG.finQ rfl (RdQ.no p (j:=j) (hop0 hq) (by omega)) ?_;simp (maxSteps:=2000000) (disch:=omega) only [go_sem])
 simp only [h,cond_false]
 have hels:=pAtom_else hp.1 h
 (refine vK ?_;with_reducible repeat' first|exact Le.l|refine Sw ?_ ?_|intro (K:_→_→Prop) hK|intro h)
 (refine AW.i rfl (fun h=>?_) (fun h=>?_)<;>try simp only [hC,reduceCtorEq] at h)
 ·have hcls:=atomS_cls2 (isAt_ne h (by decide)) h
  have hlt:=isAt_iff.1 h
  simp only [h,cond_true]
  (refine vK ?_;with_reducible repeat' first|exact Le.l|refine Sw ?_ ?_|intro (K:_→_→Prop) hK|intro h)
  refine GK.rdB fun p j bad hq hj=>?_
  (refine vK ?_;with_reducible repeat' first|exact Le.l|refine Sw ?_ ?_|intro (K:_→_→Prop) hK|intro h)
  rcases hq with ⟨rfl,hq⟩|⟨rfl,hq⟩
  ·(refine AW.ret (EndsG.imp (Imp.frzO (b:=b2) (by simp (maxSteps:=2000000) (disch:=omega) only [go_sem];rfl) ?_));simp (maxSteps:=2000000) (disch:=omega) only [go_sem];refine EndsG.finQ rfl (RdQ.yes (p:=p) (j:=j) (by rw [hels,hcls,hq]) (by omega)) ?_;simp (maxSteps:=2000000) (disch:=omega) only [go_sem])
  ·(refine AW.ret (EndsG.imp (Imp.frzO (b:=b2) (by simp (maxSteps:=2000000) (disch:=omega) only [go_sem];rfl) ?_));simp (maxSteps:=2000000) (disch:=omega) only [go_sem];refine EndsG.finQ rfl (RdQ.no p (j:=j) (by rw [hels,hcls,hq]) (by omega)) ?_;simp (maxSteps:=2000000) (disch:=omega) only [go_sem])
 simp only [h,cond_false]
 have hnc:=h
 (refine vK ?_;with_reducible repeat' first|exact Le.l|refine Sw ?_ ?_|intro (K:_→_→Prop) hK|intro h)
 (refine AW.i rfl (fun h=>?_) (fun h=>?_)<;>try simp only [hC,reduceCtorEq] at h)
 ·have hdot:=atomS_dot h
  have hlt:=isAt_iff.1 h
  simp only [h,cond_true]
  (refine vK ?_;with_reducible repeat' first|exact Le.l|refine Sw ?_ ?_|intro (K:_→_→Prop) hK|intro h)
  (refine AW.ret (EndsG.imp (Imp.nilO (b:=b2) 3 [.v (.int .i64 1),.str (clsT (fun c=>decide (32≤c) && decide (c<127)))] [] (by simp (maxSteps:=2000000) (disch:=omega) only [go_sem]) ?_));simp (maxSteps:=2000000) (disch:=omega) only [go_sem];refine EndsG.finQ rfl (RdQ.yes (p:=.mk 1 (clsT (fun c=>decide (32≤c) && decide (c<127))) []) (j:=i+1) (by rw [hels,hdot,any_eq,patC]) (by omega)) ?_;simp (maxSteps:=2000000) (disch:=omega) only [go_sem])
 simp only [h,cond_false]
 have hnd:=h
 (refine vK ?_;with_reducible repeat' first|exact Le.l|refine Sw ?_ ?_|intro (K:_→_→Prop) hK|intro h)
 (refine AW.i rfl (fun h=>?_) (fun h=>?_)<;>try simp only [hC,reduceCtorEq] at h)
 ·(refine vK ?_;with_reducible repeat' first|exact Le.l|refine Sw ?_ ?_|intro (K:_→_→Prop) hK|intro h)
  (refine AW.ret (EndsG.imp (Imp.nilO (b:=b2) 3 [.v (.int .i64 1),.str ((s.take (i+1)).drop i)] [] (by simp (maxSteps:=2000000) (disch:=omega) only [go_sem]) ?_));simp (maxSteps:=2000000) (disch:=omega) only [go_sem];refine EndsG.finQ rfl (RdQ.yes (p:=.mk 1 ((s.take (i+1)).drop i) []) (j:=i+1) (by rw [hels,atomS_let hnd hnc h,patC]) (by omega)) ?_;simp (maxSteps:=2000000) (disch:=omega) only [go_sem])
 ·(refine vK ?_;with_reducible repeat' first|exact Le.l|refine Sw ?_ ?_|intro (K:_→_→Prop) hK|intro h)
  (refine AW.ret (EndsG.imp (Imp.nilO (b:=b2) 3 [.v (.int .i64 0),.str []] [] (by simp (maxSteps:=2000000) (disch:=omega) only [go_sem]) ?_));simp (maxSteps:=2000000) (disch:=omega) only [go_sem];refine EndsG.finQ rfl (RdQ.no (.mk 0 [] []) (j:=i) (by rw [hels,atomS_nolet hnd hnc hp.1 (h hp.1)]) (by omega)) ?_;simp (maxSteps:=2000000) (disch:=omega) only [go_sem])
theorem l5Seq_n(n:Nat)(hatom:∀ (b:Nat) (s:Str) (i:Nat),GCtr lim Tryz.prog 298 [(b,some [.str s,.v (.int .i64 i),.v (.bool false)])] [.ptr b 0] (RdQ b s i (pAtom s i)) (i<s.length∧s.length≤30∧s.length - i<n))(b:Nat)(s:Str)(i:Nat) :
  GCtr lim Tryz.prog 288 [(b,some [.str s,.v (.int .i64 i),.v (.bool false)])] [.ptr b 0] (RdQ b s i (pSeq s i [])) (i≤s.length∧s.length≤30∧s.length - i<n):=by
 refine GCtr.of_body en288 Tryz.func288 rfl rfl fun hp=>(?_);rw [Tryz.ntmps288]
 (refine vK ?_;with_reducible repeat' first|exact Le.l|refine Sw ?_ ?_|intro (K:_→_→Prop) hK|intro h)
 rename_i b2
 refine AW.loopV [3] [0,2] (fun m xs o=>∃ (l:List GPat) (j:Nat) (bad:Bool),xs=[.sl true 3 (l.map encPat)]∧o=[(b2,some [.v (.int .i64 0),.str [],.v (.slice none 0 0)]),(b,some [.str s,.v (.int .i64 j),.v (.bool bad)])]∧m=(if bad then 0 else s.length - j+1)∧j≤s.length∧l.length≤31∧i≤j∧(bad=false→l.length≤j∧pSeq s j l=pSeq s i [])∧(bad=true→pSeq s i []=none)) _ [(b2,some [.v (.int .i64 0),.str [],.v (.slice none 0 0)]),(b,some [.str s,.v (.int .i64 i),.v (.bool false)])] (subO_two (Ne.symm h) rfl rfl) ⟨[],i,false,?_,rfl,rfl,?_,?_,?_,?_,?_⟩ ?_
 ·rfl
 ·omega
 ·simp
 ·omega
 ·simp
 ·simp
 rintro m xs o ⟨l,j,bad,rfl,rfl,rfl,hj,hl0,hij,hR,hN⟩
 cases bad with
 | true =>
  have hN:=hN rfl
  (refine vK ?_;with_reducible repeat' first|exact Le.l|refine Sw ?_ ?_|intro (K:_→_→Prop) hK|intro h)
  (refine AW.i rfl (fun h=>?_) (fun h=>?_)<;>try simp only [hC,reduceCtorEq] at h)
  refine AW.imp (Imp.frz 3 ?_)
  simp (maxSteps:=2000000) (disch:=omega) only [go_sem]
  (refine vK ?_;with_reducible repeat' first|exact Le.l|refine Sw ?_ ?_|intro (K:_→_→Prop) hK|intro h)
  (refine AW.i rfl (fun h=>?_) (fun h=>?_)<;>try simp only [hC,reduceCtorEq] at h)
  ·(refine vK ?_;with_reducible repeat' first|exact Le.l|refine Sw ?_ ?_|intro (K:_→_→Prop) hK|intro h)
   (refine AW.ret (EndsG.imp (Imp.frzO (b:=b2) (by simp (maxSteps:=2000000) (disch:=omega) only [go_sem];rfl) ?_));simp (maxSteps:=2000000) (disch:=omega) only [go_sem];refine EndsG.finQ rfl (RdQ.no (at_ l 0) (j:=j) hN (by omega)) ?_;simp (maxSteps:=2000000) (disch:=omega) only [go_sem])
  ·(refine vK ?_;with_reducible repeat' first|exact Le.l|refine Sw ?_ ?_|intro (K:_→_→Prop) hK|intro h)
   (refine AW.ret (EndsG.imp (Imp.frzO (b:=b2) (by simp (maxSteps:=2000000) (disch:=omega) only [go_sem];rfl) ?_));simp (maxSteps:=2000000) (disch:=omega) only [go_sem];refine EndsG.finQ rfl (RdQ.no (.mk 2 [] l) (j:=j) hN (by omega)) ?_;simp (maxSteps:=2000000) (disch:=omega) only [go_sem])
 | false =>
  have hR:=hR rfl
  (refine vK ?_;with_reducible repeat' first|exact Le.l|refine Sw ?_ ?_|intro (K:_→_→Prop) hK|intro h)
  (refine AW.i rfl (fun h=>?_) (fun h=>?_)<;>try simp only [hC,reduceCtorEq] at h)
  ·have hc:=h
   (refine vK ?_;with_reducible repeat' first|exact Le.l|refine Sw ?_ ?_|intro (K:_→_→Prop) hK|intro h)
   refine GK.rd (fun p k hq hk=>?_) (fun p k hq hk=>?_)
   ·have hb:=pAtom_bd hq
    have hgo:∀ pp jj,post s p k=(pp,jj)→pSeq s jj (l++[pp])=pSeq s i []:=fun pp jj e=>by
     rw [← hR.2,← pSeq_go l hc.1.1 hc.1.2 hc.2 (by rw [pItem,hq];simp only [e])]
    (refine vK ?_;with_reducible repeat' first|exact Le.l|refine Sw ?_ ?_|intro (K:_→_→Prop) hK|intro h)
    rename_i b4
    (refine AW.i rfl (fun h=>?_) (fun h=>?_)<;>try simp only [hC,reduceCtorEq] at h)
    ·simp only [h,cond_true]
     have hl2:=isAt_iff.1 h
     have hpo:=hgo (.mk 4 [] [p]) (k+1) (by rw [post];simp [*])
     (refine vN ?_;with_reducible repeat' first|exact Le.l|refine Sw ?_ ?_|intro (K:_→_→Prop) hK|intro h)
     refine AW.regn fun K hK=>?_
     simp (maxSteps:=2000000) (disch:=omega) only [go_sem]
     (refine vN ?_;with_reducible repeat' first|exact Le.l|refine Sw ?_ ?_|intro (K:_→_→Prop) hK|intro h)
     refine AW.imp (Imp.frzO (b:=b4) (by simp (maxSteps:=2000000) (disch:=omega) only [go_sem];rfl) ?_)
     simp (maxSteps:=2000000) (disch:=omega) only [go_sem]
     (refine vK ?_;with_reducible repeat' first|exact Le.l|refine Sw ?_ ?_|intro (K:_→_→Prop) hK|intro h)
     exact ⟨_,[_],[(b2,some [.v (.int .i64 0),.str [],.v (.slice none 0 0)]),(b,some [.str s,.v (.int .i64 (k+1:Nat)),.v (.bool false)])],by simp;omega,⟨l++[.mk 4 [] [p]],k+1,false,rfl,rfl,rfl,by omega,by simp;omega,by omega,fun _=>⟨by simp;omega,hpo⟩,by simp⟩,by simp [encPat_eq,fOp_mk,fText_mk,fKids_mk],by simp (maxSteps:=2000000) (disch:=omega) only [go_sem]⟩
    simp only [h,cond_false]
    (refine vK ?_;with_reducible repeat' first|exact Le.l|refine Sw ?_ ?_|intro (K:_→_→Prop) hK|intro h)
    (refine AW.i rfl (fun h=>?_) (fun h=>?_)<;>try simp only [hC,reduceCtorEq] at h)
    ·simp only [h,cond_true]
     have hl2:=isAt_iff.1 h
     have hpo:=hgo (.mk 2 [] [p,.mk 4 [] [p]]) (k+1) (by rw [post];simp [*])
     (refine vN ?_;with_reducible repeat' first|exact Le.l|refine Sw ?_ ?_|intro (K:_→_→Prop) hK|intro h)
     refine AW.drwn fun K hK=>?_
     simp (maxSteps:=2000000) (disch:=omega) only [go_sem]
     (refine vN ?_;with_reducible repeat' first|exact Le.l|refine Sw ?_ ?_|intro (K:_→_→Prop) hK|intro h)
     refine AW.imp (Imp.frzO (b:=b4) (by simp (maxSteps:=2000000) (disch:=omega) only [go_sem];rfl) ?_)
     simp (maxSteps:=2000000) (disch:=omega) only [go_sem]
     (refine vK ?_;with_reducible repeat' first|exact Le.l|refine Sw ?_ ?_|intro (K:_→_→Prop) hK|intro h)
     exact ⟨_,[_],[(b2,some [.v (.int .i64 0),.str [],.v (.slice none 0 0)]),(b,some [.str s,.v (.int .i64 (k+1:Nat)),.v (.bool false)])],by simp;omega,⟨l++[.mk 2 [] [p,.mk 4 [] [p]]],k+1,false,rfl,rfl,rfl,by omega,by simp;omega,by omega,fun _=>⟨by simp;omega,hpo⟩,by simp⟩,by simp [encPat_eq,fOp_mk,fText_mk,fKids_mk],by simp (maxSteps:=2000000) (disch:=omega) only [go_sem]⟩
    simp only [h,cond_false]
    (refine vK ?_;with_reducible repeat' first|exact Le.l|refine Sw ?_ ?_|intro (K:_→_→Prop) hK|intro h)
    (refine AW.i rfl (fun h=>?_) (fun h=>?_)<;>try simp only [hC,reduceCtorEq] at h)
    ·simp only [h,cond_true]
     have hl2:=isAt_iff.1 h
     have hpo:=hgo (.mk 5 [] [p]) (k+1) (by rw [post];simp [*])
     (refine vN ?_;with_reducible repeat' first|exact Le.l|refine Sw ?_ ?_|intro (K:_→_→Prop) hK|intro h)
     refine AW.regn fun K hK=>?_
     simp (maxSteps:=2000000) (disch:=omega) only [go_sem]
     (refine vN ?_;with_reducible repeat' first|exact Le.l|refine Sw ?_ ?_|intro (K:_→_→Prop) hK|intro h)
     refine AW.imp (Imp.frzO (b:=b4) (by simp (maxSteps:=2000000) (disch:=omega) only [go_sem];rfl) ?_)
     simp (maxSteps:=2000000) (disch:=omega) only [go_sem]
     (refine vK ?_;with_reducible repeat' first|exact Le.l|refine Sw ?_ ?_|intro (K:_→_→Prop) hK|intro h)
     exact ⟨_,[_],[(b2,some [.v (.int .i64 0),.str [],.v (.slice none 0 0)]),(b,some [.str s,.v (.int .i64 (k+1:Nat)),.v (.bool false)])],by simp;omega,⟨l++[.mk 5 [] [p]],k+1,false,rfl,rfl,rfl,by omega,by simp;omega,by omega,fun _=>⟨by simp;omega,hpo⟩,by simp⟩,by simp [encPat_eq,fOp_mk,fText_mk,fKids_mk],by simp (maxSteps:=2000000) (disch:=omega) only [go_sem]⟩
    ·simp only [h,cond_false]
     have hpo:=hgo p k (by rw [post];simp [*])
     (refine vK ?_;with_reducible repeat' first|exact Le.l|refine Sw ?_ ?_|intro (K:_→_→Prop) hK|intro h)
     exact ⟨_,[_],[(b2,some [.v (.int .i64 0),.str [],.v (.slice none 0 0)]),(b,some [.str s,.v (.int .i64 (k:Nat)),.v (.bool false)])],by simp;omega,⟨l++[p],k,false,rfl,rfl,rfl,by omega,by simp;omega,by omega,fun _=>⟨by simp;omega,hpo⟩,by simp⟩,by simp [encPat_eq,fOp_mk,fText_mk,fKids_mk],by simp (maxSteps:=2000000) (disch:=omega) only [go_sem]⟩
   ·have hN':pSeq s i []=none:=by rw [← hR.2,pSeq_none l hc.1.1 hc.1.2 hc.2 (by rw [pItem,hq])]
    (refine vK ?_;with_reducible repeat' first|exact Le.l|refine Sw ?_ ?_|intro (K:_→_→Prop) hK|intro h)
    (refine AW.i rfl (fun h=>?_) (fun h=>?_)<;>try simp only [hC,reduceCtorEq] at h)
    (refine vK ?_;with_reducible repeat' first|exact Le.l|refine Sw ?_ ?_|intro (K:_→_→Prop) hK|intro h)
    (refine AW.i rfl (fun h=>?_) (fun h=>?_)<;>try simp only [hC,reduceCtorEq] at h)
    (refine vK ?_;with_reducible repeat' first|exact Le.l|refine Sw ?_ ?_|intro (K:_→_→Prop) hK|intro h)
    (refine AW.i rfl (fun h=>?_) (fun h=>?_)<;>try simp only [hC,reduceCtorEq] at h)
    (refine vK ?_;with_reducible repeat' first|exact Le.l|refine Sw ?_ ?_|intro (K:_→_→Prop) hK|intro h)
    exact ⟨_,[_],[(b2,some [.v (.int .i64 0),.str [],.v (.slice none 0 0)]),(b,some [.str s,.v (.int .i64 k),.v (.bool true)])],by simp,⟨l++[p],k,true,rfl,rfl,rfl,by omega,by simp;omega,by omega,by simp,fun _=>hN'⟩,by simp [encPat_eq],by simp (maxSteps:=2000000) (disch:=omega) only [go_sem]⟩
  ·refine AW.imp (Imp.frz 3 ?_)
   simp (maxSteps:=2000000) (disch:=omega) only [go_sem]
   (refine vK ?_;with_reducible repeat' first|exact Le.l|refine Sw ?_ ?_|intro (K:_→_→Prop) hK|intro h)
   (refine AW.i rfl (fun h=>?_) (fun h=>?_)<;>try simp only [hC,reduceCtorEq] at h)
   ·(refine vK ?_;with_reducible repeat' first|exact Le.l|refine Sw ?_ ?_|intro (K:_→_→Prop) hK|intro h)
    (refine AW.ret (EndsG.imp (Imp.frzO (b:=b2) (by simp (maxSteps:=2000000) (disch:=omega) only [go_sem];rfl) ?_));simp (maxSteps:=2000000) (disch:=omega) only [go_sem];refine EndsG.finQ rfl (RdQ.yes (p:=at_ l 0) (j:=j) (by rw [← hR.2,pSeq_stop l (by omega),mkSeq,if_pos (by omega)]) (by omega)) ?_;simp (maxSteps:=2000000) (disch:=omega) only [go_sem])
   ·(refine vK ?_;with_reducible repeat' first|exact Le.l|refine Sw ?_ ?_|intro (K:_→_→Prop) hK|intro h)
    (refine AW.ret (EndsG.imp (Imp.frzO (b:=b2) (by simp (maxSteps:=2000000) (disch:=omega) only [go_sem];rfl) ?_));simp (maxSteps:=2000000) (disch:=omega) only [go_sem];refine EndsG.finQ rfl (RdQ.yes (p:=.mk 2 [] l) (j:=j) (by rw [← hR.2,pSeq_stop l (by omega),mkSeq,if_neg (by omega)]) (by omega)) ?_;simp (maxSteps:=2000000) (disch:=omega) only [go_sem])
end Go.Proofs.YtmcjbaafmjlblaaGreatDoor
namespace Go.Proofs.YtmcjbaafmjlblaaGreatDoor
open Go.Ab Go.Dt
set_option maxRecDepth 20000
set_option maxHeartbeats 4000000
theorem l5Alt_n(n:Nat)(hseq:∀ (b:Nat) (s:Str) (i:Nat),GCtr lim Tryz.prog 288 [(b,some [.str s,.v (.int .i64 i),.v (.bool false)])] [.ptr b 0] (RdQ b s i (pSeq s i [])) (i≤s.length∧s.length≤30∧s.length - i<n))(b:Nat)(s:Str)(i:Nat) :
  GCtr lim Tryz.prog 277 [(b,some [.str s,.v (.int .i64 i),.v (.bool false)])] [.ptr b 0] (RdQ b s i (pAlt s i)) (i≤s.length∧s.length≤30∧s.length - i<n):=by
 refine GCtr.of_body en277 Tryz.func277 rfl rfl fun hp=>(?_);rw [Tryz.ntmps277]
 (refine vK ?_;with_reducible repeat' first|exact Le.l|refine Sw ?_ ?_|intro (K:_→_→Prop) hK|intro h)
 rename_i b2
 refine GK.rdB fun p j bad hq hj=>?_
 (refine vK ?_;with_reducible repeat' first|exact Le.l|refine Sw ?_ ?_|intro (K:_→_→Prop) hK|intro h)
 refine AW.loopV [3] [0,2] (fun m xs o=>∃ (l:List GPat) (j:Nat) (bad:Bool),xs=[.sl true 3 (l.map encPat)]∧o=[(b2,some [.v (.int .i64 0),.str [],.v (.slice none 0 0)]),(b,some [.str s,.v (.int .i64 j),.v (.bool bad)])]∧m=s.length - j∧j≤s.length∧l.length≤j+1∧i≤j∧(bad=false→pAltL s j l=pAlt s i)∧(bad=true→pAlt s i=none)) _ [(b2,some [.v (.int .i64 0),.str [],.v (.slice none 0 0)]),(b,some [.str s,.v (.int .i64 j),.v (.bool bad)])] (subO_two (Ne.symm h) rfl rfl) ⟨[p],j,bad,?_,rfl,rfl,?_,?_,?_,?_,?_⟩ ?_
 ·simp [T,encPat_eq]
 ·omega
 ·simp
 ·omega
 ·rintro rfl
  rcases hq with ⟨_,hq⟩|⟨h,_⟩
  ·exact (pAlt_go hp.1 hq).symm
  ·cases h
 ·rintro rfl
  rcases hq with ⟨h,_⟩|⟨_,hq⟩
  ·cases h
  ·exact pAlt_none hq
 clear hq hj bad
 rintro m xs o ⟨l,j,bad,rfl,rfl,rfl,hj,hl,hij,hR,hN⟩
 cases bad with
 | true =>
  have hN:=hN rfl
  (refine vK ?_;with_reducible repeat' first|exact Le.l|refine Sw ?_ ?_|intro (K:_→_→Prop) hK|intro h)
  (refine AW.i rfl (fun h=>?_) (fun h=>?_)<;>try simp only [hC,reduceCtorEq] at h)
  refine AW.imp (Imp.frz 3 ?_)
  simp (maxSteps:=2000000) (disch:=omega) only [go_sem]
  (refine vK ?_;with_reducible repeat' first|exact Le.l|refine Sw ?_ ?_|intro (K:_→_→Prop) hK|intro h)
  (refine AW.i rfl (fun h=>?_) (fun h=>?_)<;>try simp only [hC,reduceCtorEq] at h)
  ·(refine vK ?_;with_reducible repeat' first|exact Le.l|refine Sw ?_ ?_|intro (K:_→_→Prop) hK|intro h)
   (refine AW.ret (EndsG.imp (Imp.frzO (b:=b2) (by simp (maxSteps:=2000000) (disch:=omega) only [go_sem];rfl) ?_));simp (maxSteps:=2000000) (disch:=omega) only [go_sem];refine EndsG.finQ rfl (RdQ.no (at_ l 0) (j:=j) hN (by omega)) ?_;simp (maxSteps:=2000000) (disch:=omega) only [go_sem])
  ·(refine vK ?_;with_reducible repeat' first|exact Le.l|refine Sw ?_ ?_|intro (K:_→_→Prop) hK|intro h)
   (refine AW.ret (EndsG.imp (Imp.frzO (b:=b2) (by simp (maxSteps:=2000000) (disch:=omega) only [go_sem];rfl) ?_));simp (maxSteps:=2000000) (disch:=omega) only [go_sem];refine EndsG.finQ rfl (RdQ.no (.mk 3 [] l) (j:=j) hN (by omega)) ?_;simp (maxSteps:=2000000) (disch:=omega) only [go_sem])
 | false =>
  have hR:=hR rfl
  (refine vK ?_;with_reducible repeat' first|exact Le.l|refine Sw ?_ ?_|intro (K:_→_→Prop) hK|intro h)
  (refine AW.i rfl (fun h=>?_) (fun h=>?_)<;>try simp only [hC,reduceCtorEq] at h)
  ·simp only [h,cond_true]
   have hlt:=isAt_iff.1 h
   (refine vK ?_;with_reducible repeat' first|exact Le.l|refine Sw ?_ ?_|intro (K:_→_→Prop) hK|intro h)
   refine GK.rd (fun p k hq hk=>?_) (fun p k hq hk=>?_)
   ·(refine vK ?_;with_reducible repeat' first|exact Le.l|refine Sw ?_ ?_|intro (K:_→_→Prop) hK|intro h)
    exact ⟨_,[_],[(b2,some [.v (.int .i64 0),.str [],.v (.slice none 0 0)]),(b,some [.str s,.v (.int .i64 k),.v (.bool false)])],by omega,⟨l++[p],k,false,rfl,rfl,rfl,by omega,by simp;omega,by omega,fun _=>by rw [← hR,pAltL_go l h hq],by simp⟩,by simp [encPat_eq],by simp (maxSteps:=2000000) (disch:=omega) only [go_sem]⟩
   ·(refine vK ?_;with_reducible repeat' first|exact Le.l|refine Sw ?_ ?_|intro (K:_→_→Prop) hK|intro h)
    exact ⟨_,[_],[(b2,some [.v (.int .i64 0),.str [],.v (.slice none 0 0)]),(b,some [.str s,.v (.int .i64 k),.v (.bool true)])],by omega,⟨l++[p],k,true,rfl,rfl,rfl,by omega,by simp;omega,by omega,by simp,fun _=>by rw [← hR,pAltL_none l h hq]⟩,by simp [encPat_eq],by simp (maxSteps:=2000000) (disch:=omega) only [go_sem]⟩
  ·simp only [h,cond_false]
   have hst:=pAltL_stop l h
   refine AW.imp (Imp.frz 3 ?_)
   simp (maxSteps:=2000000) (disch:=omega) only [go_sem]
   (refine vK ?_;with_reducible repeat' first|exact Le.l|refine Sw ?_ ?_|intro (K:_→_→Prop) hK|intro h)
   (refine AW.i rfl (fun h=>?_) (fun h=>?_)<;>try simp only [hC,reduceCtorEq] at h)
   ·(refine vK ?_;with_reducible repeat' first|exact Le.l|refine Sw ?_ ?_|intro (K:_→_→Prop) hK|intro h)
    (refine AW.ret (EndsG.imp (Imp.frzO (b:=b2) (by simp (maxSteps:=2000000) (disch:=omega) only [go_sem];rfl) ?_));simp (maxSteps:=2000000) (disch:=omega) only [go_sem];refine EndsG.finQ rfl (RdQ.yes (p:=at_ l 0) (j:=j) (by rw [← hR,hst,mkAlt,if_pos (by omega)]) (by omega)) ?_;simp (maxSteps:=2000000) (disch:=omega) only [go_sem])
   ·(refine vK ?_;with_reducible repeat' first|exact Le.l|refine Sw ?_ ?_|intro (K:_→_→Prop) hK|intro h)
    (refine AW.ret (EndsG.imp (Imp.frzO (b:=b2) (by simp (maxSteps:=2000000) (disch:=omega) only [go_sem];rfl) ?_));simp (maxSteps:=2000000) (disch:=omega) only [go_sem];refine EndsG.finQ rfl (RdQ.yes (p:=.mk 3 [] l) (j:=j) (by rw [← hR,hst,mkAlt,if_neg (by omega)]) (by omega)) ?_;simp (maxSteps:=2000000) (disch:=omega) only [go_sem])
theorem l5Alt_all:∀ (n:Nat) (b:Nat) (s:Str) (i:Nat),GCtr lim Tryz.prog 277 [(b,some [.str s,.v (.int .i64 i),.v (.bool false)])] [.ptr b 0] (RdQ b s i (pAlt s i)) (i≤s.length∧s.length≤30∧s.length - i<n)
 | 0,_,_,_=>⟨en277,fun h=>absurd h.2.2 (Nat.not_lt_zero _)⟩
 | n+1,b,s,i=>l5Alt_n (n+1) (l5Seq_n (n+1) (l5Atom_n n (l5Alt_all n))) b s i
instance l5Alt_i(b:Nat)(s:Str):GCtr lim Tryz.prog 277 [(b,some [.str s,.v (.int .i64 0),.v (.bool false)])] [.ptr b 0] (RdQ b s 0 (pAlt s 0)) (s.length≤30):=⟨en277,fun h=>(l5Alt_all 31 b s 0).out ⟨by omega,h,by omega⟩⟩
instance sParsePattern_i(s:Str):Ctr lim Tryz.prog 261 [] [.str s] (.tup [.agg [.v (.int .i64 (parsePat s).1.fOp),.str (parsePat s).1.fText,.sl false 3 ((parsePat s).1.fKids.map encPat)],.v (.bool (parsePat s).2)]) [] True:=by
 refine Ctr.of_body en261 Tryz.func261 rfl rfl fun hp=>(?_);rw [Tryz.ntmps261]
 refine AW.fact 0 fun hf=>?_
 simp (disch:=omega) only [go_sem,Nat.reduceBEq] at hf
 by_cases hlen:30<s.length
 ·have hd:decide (30<(s.length:Int))=true:=by simp;omega
  have e:=parse_long (s:=s) (by omega)
  (repeat' first|(with_reducible first|refine Z ?_|refine Y ?_|(refine hK _ _ ?_;clear hK K)|refine And.intro ?_ ?_|exact Ct|intro (K:_→_→Prop) hK|(refine gI fun hg=>?_;try simp only [hC,reduceCtorEq] at hg;try simp only [hg]))|((with_reducible refine E ?_;repeat refine Y ?_);refine eF rfl ?_)|simp (disch:=omega) only [go_sem,hd]|(with_reducible intro hg;try simp only [hC,reduceCtorEq] at hg)|exact Cl|fail)
  rename_i b2 b3
  (refine AW.i rfl (fun h=>?_) (fun h=>?_)<;>try simp only [hC,reduceCtorEq] at h)
  (refine vX ?_;with_reducible repeat' first|exact Le.l|refine Sw ?_ ?_|intro (K:_→_→Prop) hK|intro h)
  (refine AW.ret (EndsG.imp (Imp.nilO (b:=b2) 3 [.v (.int .i64 0),.str []] [] (by simp (maxSteps:=2000000) (disch:=omega) only [go_sem]) ?_));simp (maxSteps:=2000000) (disch:=omega) only [go_sem];refine EndsG.fin rfl ?_;simp (maxSteps:=2000000) (disch:=omega) only [go_sem,e,pat0,fOp_mk,fText_mk,fKids_mk])
 ·have hd:decide (30<(s.length:Int))=false:=by simp;omega
  (repeat' first|(with_reducible first|refine Z ?_|refine Y ?_|(refine hK _ _ ?_;clear hK K)|refine And.intro ?_ ?_|exact Ct|intro (K:_→_→Prop) hK|(refine gI fun hg=>?_;try simp only [hC,reduceCtorEq] at hg;try simp only [hg]))|((with_reducible refine E ?_;repeat refine Y ?_);refine eF rfl ?_)|simp (disch:=omega) only [go_sem,hd]|(with_reducible intro hg;try simp only [hC,reduceCtorEq] at hg)|exact Cl|fail)
  rename_i b2 b3
  (refine AW.i rfl (fun h=>?_) (fun h=>?_)<;>try simp only [hC,reduceCtorEq] at h)
  (refine vK ?_;with_reducible repeat' first|exact Le.l|refine Sw ?_ ?_|intro (K:_→_→Prop) hK|intro h)
  refine GK.rd (fun p j hq hj=>?_) (fun p j hq hj=>?_)
  ·(refine vK ?_;with_reducible repeat' first|exact Le.l|refine Sw ?_ ?_|intro (K:_→_→Prop) hK|intro h)
   (refine AW.i rfl (fun h=>?_) (fun h=>?_)<;>try simp only [hC,reduceCtorEq] at h)
   ·have e:=parse_part hq (by omega)
    (refine vX ?_;with_reducible repeat' first|exact Le.l|refine Sw ?_ ?_|intro (K:_→_→Prop) hK|intro h)
    (refine AW.ret (EndsG.imp (Imp.nilO (b:=b2) 3 [.v (.int .i64 0),.str []] [] (by simp (maxSteps:=2000000) (disch:=omega) only [go_sem]) ?_));simp (maxSteps:=2000000) (disch:=omega) only [go_sem];refine EndsG.fin rfl ?_;simp (maxSteps:=2000000) (disch:=omega) only [go_sem,e,pat0,fOp_mk,fText_mk,fKids_mk])
   ·have e:=parse_yes (by omega) hq (by omega)
    (repeat' first|(with_reducible first|refine Z ?_|refine Y ?_|(refine hK _ _ ?_;clear hK K)|refine And.intro ?_ ?_|exact Ct|intro (K:_→_→Prop) hK|(refine gI fun hg=>?_;try simp only [hC,reduceCtorEq] at hg;try simp only [hg]))|(refine AW.i rfl (fun h=>?_) (fun h=>?_)<;>try simp only [hC,reduceCtorEq] at h)|((with_reducible refine E ?_;repeat refine Y ?_);refine eF rfl ?_)|simp (disch:=omega) only [go_sem,e]|(with_reducible intro hg;try simp only [hC,reduceCtorEq] at hg)|exact Cl|fail)
  ·have e:=parse_none hq
   (refine vK ?_;with_reducible repeat' first|exact Le.l|refine Sw ?_ ?_|intro (K:_→_→Prop) hK|intro h)
   (refine AW.i rfl (fun h=>?_) (fun h=>?_)<;>try simp only [hC,reduceCtorEq] at h)
   (refine vX ?_;with_reducible repeat' first|exact Le.l|refine Sw ?_ ?_|intro (K:_→_→Prop) hK|intro h)
   (refine AW.ret (EndsG.imp (Imp.nilO (b:=b2) 3 [.v (.int .i64 0),.str []] [] (by simp (maxSteps:=2000000) (disch:=omega) only [go_sem]) ?_));simp (maxSteps:=2000000) (disch:=omega) only [go_sem];refine EndsG.fin rfl ?_;simp (maxSteps:=2000000) (disch:=omega) only [go_sem,e,pat0,fOp_mk,fText_mk,fKids_mk])
instance sIsPattern_i(s:Str):Ctr lim Tryz.prog 245 [] [.str s] (.v (.bool (isPat s))) [] True:=by
 refine Ctr.of_body en245 Tryz.func245 rfl rfl fun hp=>(?_);rw [Tryz.ntmps245]
 have e:=parsePat_isPat s
 (repeat' first|(with_reducible first|refine Z ?_|refine Y ?_|(refine hK _ _ ?_;clear hK K)|refine And.intro ?_ ?_|exact Ct|intro (K:_→_→Prop) hK|(refine gI fun hg=>?_;try simp only [hC,reduceCtorEq] at hg;try simp only [hg]))|(refine AW.i rfl (fun h=>?_) (fun h=>?_)<;>try simp only [hC,reduceCtorEq] at h)|((with_reducible refine E ?_;repeat refine Y ?_);refine eF rfl ?_)|simp (disch:=omega) only [go_sem,e]|(with_reducible intro hg;try simp only [hC,reduceCtorEq] at hg)|exact Cl|fail)
end Go.Proofs.YtmcjbaafmjlblaaGreatDoor
