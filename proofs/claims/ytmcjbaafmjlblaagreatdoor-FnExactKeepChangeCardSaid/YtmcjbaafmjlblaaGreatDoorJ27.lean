/- A part. -/
import Derived.Test.YtmcjbaafmjlblaaGreatDoorJ26
set_option linter.all false
set_option maxRecDepth 20000
set_option maxHeartbeats 4000000
namespace Go.Dt
open Go.Ab
theorem dz{α:Type}{f:α->AV}:∀ (l:List α),(∀ x∈l,(f x).closed=true)->AV.ck (l.map f)=true
 | [],_=>rfl
 | x::xs,h=>by simp only [List.map_cons,AV.ck,h x (by simp),dz xs fun y hy=>h y (by simp [hy]),Bool.true_and]
theorem kY(l:List Str):AV.ck (l.map AV.str)=true:=dz l fun _ _=>rfl
theorem FX(o:Bool)(l:List du):(l.map (aR o)).all (AV.elem 2)=true:=cX (fun _=>rfl) l
theorem FW(o:Bool)(l:List du):((l.map (aR o)).flatMap AV.cells).all AV.one=true:=dw (fun _=>rfl) l
theorem KW(x:du):(aR true x).closed=true:=by simp only [aR,AV.closed,AV.ck,kY,Bool.true_and,Bool.and_true]
theorem ik(l:List du):AV.ck (l.map (aR true))=true:=dz l fun x _=>KW x
theorem IY(o:Bool)(l:List eC):(l.map (cj o)).all (AV.elem 2)=true:=cX (fun _=>rfl) l
theorem IX(o:Bool)(l:List eC):((l.map (cj o)).flatMap AV.cells).all AV.one=true:=dw (fun _=>rfl) l
theorem M8(x:eC):(cj true x).closed=true:=by simp only [cj,AV.closed,AV.ck,kY,ik,Bool.true_and,Bool.and_true]
theorem jy(l:List eC):AV.ck (l.map (cj true))=true:=dz l fun x _=>M8 x
theorem K1(o:Bool)(l:List mE):(l.map (rY o)).all (AV.elem 2)=true:=cX (fun _=>rfl) l
theorem KZ(o:Bool)(l:List mE):((l.map (rY o)).flatMap AV.cells).all AV.one=true:=dw (fun _=>rfl) l
theorem PU(x:mE):(rY true x).closed=true:=by simp only [rY,AV.closed,AV.ck,kY,ik,jy,Bool.true_and,Bool.and_true]
theorem lv(l:List mE):AV.ck (l.map (rY true))=true:=dz l fun x _=>PU x
theorem I0(o:Bool)(l:List GStep):(l.map (aU o)).all (AV.elem 2)=true:=cX (fun _=>rfl) l
theorem IZ(o:Bool)(l:List GStep):((l.map (aU o)).flatMap AV.cells).all AV.one=true:=dw (fun _=>rfl) l
theorem M9(x:GStep):(aU true x).closed=true:=by simp only [aU,AV.closed,AV.ck,kY,ik,jy,lv,Bool.true_and,Bool.and_true]
theorem lu(l:List GStep):AV.ck (l.map (aU true))=true:=dz l fun x _=>M9 x
theorem FZ(o:Bool)(l:List jE):(l.map (jg o)).all (AV.elem 6)=true:=cX (fun _=>rfl) l
theorem FY(o:Bool)(l:List jE):((l.map (jg o)).flatMap AV.cells).all AV.one=true:=dw (fun _=>rfl) l
theorem KY(x:jE):(jg true x).closed=true:=by simp only [jg,AV.closed,AV.ck,kY,ik,jy,lv,lu,Bool.true_and,Bool.and_true]
theorem lR(l:List jE):AV.ck (l.map (jg true))=true:=dz l fun x _=>KY x
theorem I2(o:Bool)(l:List ah):(l.map (aj o)).all (AV.elem 3)=true:=cX (fun x=>by rw [bR];rfl) l
theorem I1(o:Bool)(l:List ah):((l.map (aj o)).flatMap AV.cells).all AV.one=true:=dw (fun x=>by rw [bR];rfl) l
theorem EY(x:ah):(aj true x).closed=true:=by
 rw [bR]
 simp only [AV.closed,AV.ck,kY,ik,jy,lv,lu,lR,dz x.af (fun y hy=>EY y),Bool.true_and,Bool.and_true]
termination_by SizeOf.sizeOf x
decreasing_by have:=List.sizeOf_lt_of_mem hy;cases x;simp [ah.af] at *;omega
theorem oy(l:List ah):AV.ck (l.map (aj true))=true:=dz l fun x _=>EY x
theorem I4(o:Bool)(l:List aO):(l.map (aK o)).all (AV.elem 7)=true:=cX (fun x=>by rw [cM];rfl) l
theorem I3(o:Bool)(l:List aO):((l.map (aK o)).flatMap AV.cells).all AV.one=true:=dw (fun x=>by rw [cM];rfl) l
theorem EZ(x:aO):(aK true x).closed=true:=by
 rw [cM]
 simp only [AV.closed,AV.ck,kY,ik,jy,lv,lu,lR,oy,dz x.af (fun y hy=>EZ y),Bool.true_and,Bool.and_true]
termination_by SizeOf.sizeOf x
decreasing_by have:=List.sizeOf_lt_of_mem hy;cases x;simp [aO.af] at *;omega
theorem qM(l:List aO):AV.ck (l.map (aK true))=true:=dz l fun x _=>EZ x
theorem EX(o:Bool)(l:List ag):(l.map (ak o)).all (AV.elem 19)=true:=cX (fun x=>by rw [cK];rfl) l
theorem EW(o:Bool)(l:List ag):((l.map (ak o)).flatMap AV.cells).all AV.one=true:=dw (fun x=>by rw [cK];rfl) l
theorem zM(x:ag):(ak true x).closed=true:=by
 rw [cK]
 simp only [AV.closed,AV.ck,kY,ik,jy,lv,lu,lR,oy,qM,dz x.af (fun y hy=>zM y),Bool.true_and,Bool.and_true]
termination_by SizeOf.sizeOf x
decreasing_by have:=List.sizeOf_lt_of_mem hy;cases x;simp [ag.af] at *;omega
theorem rr(l:List ag):AV.ck (l.map (ak true))=true:=dz l fun x _=>zM x
theorem Bh(o:Bool)(l:List fH):(l.map (kJ o)).all (AV.elem 3)=true:=cX (fun _=>rfl) l
theorem Bg(o:Bool)(l:List fH):((l.map (kJ o)).flatMap AV.cells).all AV.one=true:=dw (fun _=>rfl) l
theorem EU(x:fH):(kJ true x).closed=true:=by simp only [kJ,AV.closed,AV.ck,kY,ik,jy,lv,lu,lR,oy,qM,rr,Bool.true_and,Bool.and_true]
theorem uc(l:List fH):AV.ck (l.map (kJ true))=true:=dz l fun x _=>EU x
theorem CK(o:Bool)(l:List jh):(l.map (lO o)).all (AV.elem 4)=true:=cX (fun _=>rfl) l
theorem CJ(o:Bool)(l:List jh):((l.map (lO o)).flatMap AV.cells).all AV.one=true:=dw (fun _=>rfl) l
theorem FV(x:jh):(lO true x).closed=true:=by simp only [lO,AV.closed,AV.ck,kY,ik,jy,lv,lu,lR,oy,qM,rr,uc,Bool.true_and,Bool.and_true]
theorem EV(l:List jh):AV.ck (l.map (lO true))=true:=dz l fun x _=>FV x
theorem LF(l:List Str):(l.map AV.str).all AV.one=true:=by have:=Gf l;rwa [EL] at this
attribute [go_sem] FX FW ik IY IX jy K1 KZ lv I0 IZ lu FZ FY lR I2 I1 oy I4 I3 qM EX EW rr Bh Bg uc CK CJ EV LF kY
end Go.Dt
namespace Go.Proofs
open Go.Ab Go.Dt
section
attribute [local go_sem] ba aI cU cT fZ
theorem G4:∀ (n:Nat) (l:List ag) (kind:Int) (bd:Bool),Ctr lim Tryz.prog 171 [] [.sl false 19 (l.map (ak false)),.v (.int .i64 kind),.v (.bool bd)] (.v (.bool (kR l kind bd))) [] (SizeOf.sizeOf l<n/\wtS l<=1048576)
 | 0,l,_,_=>⟨(aM 171),fun h=>absurd h.1 (Nat.not_lt_zero _)⟩
 | n+1,l,kind,bd=>by
  have ih:=G4 n
  refine Ctr.bd Tryz.func171 Tryz.ntmps171 rfl rfl fun hp=>?_
  have gOn:=bA.on
  obtain ⟨hs,hb⟩:=hp
  have hc:=gM l
  refine AW.fact 0 fun hf=>?_
  simp (disch:=omega) only [go_sem] at hf
  refine vO ?_;intros;refine AW.c (fun h=>?_) fun h=>?_
  ·(refine vU ?_;with_reducible repeat' first|exact Le.l|apply Sw|intro h)
   refine congrArg (fun b=>AV.v (.bool b)) ?_
   rw [kR,kg];grind
  (refine vK ?_;with_reducible repeat' first|exact Le.l|apply Sw|intro h)
  have hd:kg l kind=true:=by rw [kg];grind
  clear h
  refine AW.aA [38] [0,1,2,36,37] (fun m xs o=>∃ k:Nat,xs=[.v (.int .i64 k)]/\o=[]/\m=l.length - k/\k<=l.length/\kA (l.drop k) kind bd=kA l kind bd) l.length [] trivial ⟨0,?_,rfl,rfl,?_,rfl⟩ ?_
  ·rfl
  ·omega
  rintro m xs o ⟨k,rfl,rfl,rfl,hk,hR⟩
  refine vO ?_;intros;refine AW.c (fun h=>?_) fun h=>?_
  ·have hw:=Ac (at_mem h)
   have hsz:=ag.cd (at_mem h)
   have hlk:=h
   clear h
   refine vO ?_;intros;refine AW.c (fun h=>?_) fun h=>?_
   ·(refine vU ?_;with_reducible repeat' first|exact Le.l|apply Sw|intro h)
    rw [CQ hlk hR (QY (by grind))]
   have ho:(j0 (at_ l k) && !decide ((at_ l k).ai=7) && (decide ((at_ l k).ai=6) == decide (kind=5)) && !((at_ l k).cm && bd))=true:=by grind
   clear h
   (refine vK ?_;with_reducible repeat' first|exact Le.l|apply Sw|intro h)
   rename Nat=>b
   refine AW.fact 66 fun W4=>?_
   simp (disch:=omega) only [go_sem] at W4
   refine AW.aA [68] [0,1,2,8,36,37,38,66,67] (fun m xs o=>∃ j:Nat,xs=[.v (.int .i64 j)]/\o=[(b,some (cSc (at_ l k)))]/\m=(at_ l k).aw.length - j/\j<=(at_ l k).aw.length/\∀ y∈(at_ l k).aw.take j,(!nJ (at_ l k).af y)=false) (at_ l k).aw.length [(b,some (cSc (at_ l k)))] gO ⟨0,rfl,rfl,rfl,by omega,by simp⟩ ?_
   rintro m xs o ⟨j,rfl,rfl,rfl,hj,hS⟩
   refine vO ?_;intros;refine AW.c (fun h=>?_) fun h=>?_
   ·by_cases hq:0<=idx (ed (at_ (at_ l k).aw j)) (at_ l k).af
    ·haveI:=u4 (at_ l k).af (at_ (at_ l k).aw j)
     (refine vU ?_;with_reducible repeat' first|exact Le.l|apply Sw|intro h)
     ·rw [CQ hlk hR (GD (by assumption) (by rw [nJ,lX,jo];grind))]
     ·exact ⟨_,[_],_,by omega,⟨j+1,rfl,rfl,rfl,by omega,bJ (by assumption) hS (by rw [nJ,lX,jo];grind)⟩,rfl,by simp (maxSteps:=2000000) (disch:=omega) only [go_sem]⟩
    ·haveI:=Ex (at_ l k).af (at_ (at_ l k).aw j)
     (refine vU ?_;with_reducible repeat' first|exact Le.l|apply Sw|intro h)
     rw [CQ hlk hR (GD (by assumption) (by rw [nJ];grind))]
   have hj2:=h
   clear h
   (refine vK ?_;with_reducible repeat' first|exact Le.l|apply Sw|intro h)
   refine AW.fact 99 fun Ua=>?_
   simp (disch:=omega) only [go_sem] at Ua
   refine AW.aA [101] [0,1,2,8,36,37,38,99,100] (fun m xs o=>∃ i:Nat,xs=[.v (.int .i64 i)]/\o=[(b,some (cSc (at_ l k)))]/\m=(at_ l k).aD.length - i/\i<=(at_ l k).aD.length/\∀ y∈(at_ l k).aD.take i,(!qU (at_ l k).af y)=false) (at_ l k).aD.length [(b,some (cSc (at_ l k)))] gO ⟨0,rfl,rfl,rfl,by omega,by simp⟩ ?_
   rintro m xs o ⟨i,rfl,rfl,rfl,hi,hT⟩
   refine vO ?_;intros;refine AW.c (fun h=>?_) fun h=>?_
   ·by_cases hq:0<=idx (ed (at_ (at_ l k).aD i)) (at_ l k).af
    ·haveI:=u4 (at_ l k).af (at_ (at_ l k).aD i)
     (refine vU ?_;with_reducible repeat' first|exact Le.l|apply Sw|intro h)
     exact ⟨_,[_],_,by omega,⟨i+1,rfl,rfl,rfl,by omega,bJ (by assumption) hT (by rw [qU];grind)⟩,rfl,by simp (maxSteps:=2000000) (disch:=omega) only [go_sem]⟩
    ·haveI:=Ex (at_ l k).af (at_ (at_ l k).aD i)
     (refine vU ?_;with_reducible repeat' first|exact Le.l|apply Sw|intro h)
     rw [CQ hlk hR (O4 (by assumption) (by rw [qU];grind))]
   have hi2:=h
   clear h
   (refine vU ?_;with_reducible repeat' first|exact Le.l|apply Sw|intro h)
   ·rw [Rk hlk hR (by rw [qi,py,iX] at h;exact h)]
   ·exact ⟨_,[_],_,by omega,⟨k+1,rfl,rfl,rfl,by omega,PA hlk hR (O3 ho hj2 hS hi2 hT) (by rw [qi,py,iX] at h;exact h)⟩,rfl,by simp (maxSteps:=2000000) (disch:=omega) only [go_sem]⟩
  ·(refine vU ?_;with_reducible repeat' first|exact Le.l|apply Sw|intro h)
   rw [Rm hd h hR]
end
section
attribute [local go_sem] ba aI cU cT
theorem Mf{x:ag}{k:Nat}(h:k<x.aw.length)(e:p9 x.af (at_ x.aw k)=false):n8 x=false:=by
 rw [n8,iL h e];try rfl
theorem Me{x:ag}{k:Nat}(h:k<x.aD.length)(e:pX x.af (at_ x.aD k)=false):n8 x=false:=by
 rw [n8,iL h e];simp
theorem Mg{x:ag}(h1:x.aw.all (p9 x.af)=true)(h2:x.aD.all (pX x.af)=true):n8 x=(lW x.fType && !x.aw.isEmpty && (cn x.aw && decide (x.aw.length<=3)) && (cn x.aD && decide (x.aD.length<=3)) && mX x && !x.cm && !x.cC && !x.bF && !x.dF && x.bh.isEmpty):=by
 rw [n8,h1,h2];try rfl
instance XL(x:ag):Ctr lim Tryz.prog 220 [] [.agg (cSc x)] (.v (.bool (n8 x))) [] True:=by
 refine Ctr.bd Tryz.func220 Tryz.ntmps220 rfl rfl fun hp=>?_
 have gOn:=bA.on
 refine AW.fact 0 fun hf=>?_
 simp (disch:=omega) only [go_sem] at hf
 (refine vU ?_;with_reducible repeat' first|exact Le.l|apply Sw|intro h)
 refine AW.aA [3] [1] (fun m xs o=>∃ k:Nat,xs=[.v (.int .i64 k)]/\o=[]/\m=x.aw.length - k/\k<=x.aw.length/\∀ y∈x.aw.take k,(!p9 x.af y)=false) x.aw.length [] trivial ⟨0,?_,rfl,rfl,?_,?_⟩ ?_
 ·rfl
 ·omega
 ·simp
 rintro m xs o ⟨k,rfl,rfl,rfl,hk,hR⟩
 have hi:=ou (nmP (at_ x.aw k)) x.af
 have hj:=gJ (p:=nmP (at_ x.aw k)) x.af
 refine vO ?_;intros;refine AW.c (fun h=>?_) fun h=>?_
 ·(refine vU ?_;with_reducible repeat' first|exact Le.l|apply Sw|intro h)
  ·rw [Mf (by assumption) (by rw [p9,lX,jo];grind)]
  ·exact ⟨_,[_],[],by omega,⟨k+1,rfl,rfl,rfl,by omega,bJ (by assumption) hR (by rw [p9,lX,jo];grind)⟩,rfl,trivial⟩
 ·(refine vK ?_;with_reducible repeat' first|exact Le.l|apply Sw|intro h)
  refine AW.aA [5] [1] (fun m xs o=>∃ k:Nat,xs=[.v (.int .i64 k)]/\o=[]/\m=x.aD.length - k/\k<=x.aD.length/\∀ y∈x.aD.take k,(!pX x.af y)=false) x.aD.length [] trivial ⟨0,?_,rfl,rfl,?_,?_⟩ ?_
  ·rfl
  ·omega
  ·simp
  rintro m xs o ⟨j,rfl,rfl,rfl,hj,hS⟩
  have hi:=ou (nmP (at_ x.aD j)) x.af
  have hj:=gJ (p:=nmP (at_ x.aD j)) x.af
  (refine vU ?_;with_reducible repeat' first|exact Le.l|apply Sw|intro h)
  ·rw [Me (by assumption) (by rw [pX];grind)]
  ·exact ⟨_,[_],[],by omega,⟨j+1,rfl,rfl,rfl,by omega,bJ (by assumption) hS (by rw [pX];grind)⟩,rfl,trivial⟩
  ·rw [Mg (eA (by assumption) hR) (eA (by assumption) hS),qi,py,kK]
end
section
attribute [local go_sem] ba aI cU cT
instance XI(x:ag)(fr:Bool):Ctr lim Tryz.prog 188 [] [.agg (cSc x),.v (.bool fr)] (.v (.bool (pq x fr))) [] (dH x.bz<=1048576/\dH x.bY<=1048576/\x.bh.length<=1048576):=by
 refine Ctr.bd Tryz.func188 Tryz.ntmps188 rfl rfl fun hp=>?_
 have gOn:=bA.on
 obtain ⟨hw,hm,hd⟩:=hp
 (refine vU ?_;with_reducible repeat' first|exact Le.l|apply Sw|intro h)
 all_goals refine congrArg (fun b=>AV.v (.bool b)) ?_
 ·rw [pq,ml];grind
 all_goals have hb:ml x=true:=by rw [ml];grind
 all_goals rw [pq,hb,Ih,Bool.true_and]
 all_goals try simp only [jv]
 all_goals try simp only [kK,iX]
 all_goals repeat' split
 all_goals first|rfl|(exfalso;omega)|(exfalso;simp_all;done)
end
section
end
end Go.Proofs
