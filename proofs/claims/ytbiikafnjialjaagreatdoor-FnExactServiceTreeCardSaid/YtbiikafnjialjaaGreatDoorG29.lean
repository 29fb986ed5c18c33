/- Part of a proof. -/
import Derived.Test.YtbiikafnjialjaaGreatDoorG41
set_option linter.all false
set_option maxRecDepth 20000
set_option maxHeartbeats 4000000
namespace Go.Proofs
open Go.Ab Go.Dt
section
attribute [local go_sem] yD yC yE xu xq xw
theorem TJ(d:List ae)(b:Nat)(l:List da)(n:Nat)(a e:Int):dS lim Tryz.prog 294 [(b,some (rws l))] [.arr b 0 n 4,.v (.int .i64 a),.v (.int .i64 e),.fn 200 [.vp [.sl false 19 (d.map (aq false))]]] (SrQ b (Part (ltV d) a.toNat e.toNat l)) (n=l.length/\0<=a/\a<=e/\e<=n/\n<=1048576/\∀ r∈l,ij d r):=by
 refine dS.eO (aW 294) Tryz.func294 rfl rfl fun hp=>(?_);rw [Tryz.ntmps294]
 have gOn:=cY.on
 obtain ⟨rfl,ha,hae,hen,hb,hrb⟩:=hp
 obtain ⟨la,lx,lc,rfl,hA,hX⟩:=Pp (l:=l) (a:=a.toNat) (b:=e.toNat) (by omega) (by omega)
 have ho:=uM d
 simp only [List.length_append] at hen hb
 (refine vK ?_;with_reducible repeat' first|exact Le.l|apply Sw|intro h)
 refine AW.aw [8] [0,1,2,3] (fun m xs o=>∃ (ls lr:List da) (i:Int),xs=[.v (.int .i64 i)]/\o=[(b,some (rws (la++(ls++(lr++lc)))))]/\m=lr.length/\(ls++lr).Perm lx/\Srt (ltV d) ls/\(i=la.length+ls.length\/(lr=[]/\la.length+ls.length<=i))) (lx.length - 1) [(b,some (rws (la++(lx++lc))))] (aE rfl) ?_ ?_
 ·have hA':a=la.length:=by omega
  rcases lx with _|⟨x,xs⟩
  ·exact ⟨[],[],a+1,rfl,rfl,rfl,.refl _,Srt.nil,.inr ⟨rfl,by simp only [List.length_nil];omega⟩⟩
  ·exact ⟨[x],xs,a+1,rfl,rfl,by simp,.refl _,Srt.one _,.inl (by rw [hA'];rfl)⟩
 rintro m xs o ⟨ls,lr,i,rfl,rfl,rfl,hp,hs,hi⟩
 have hpl:=hp.length_eq
 simp only [List.length_append] at hpl
 (refine vK ?_;with_reducible repeat' first|exact Le.l|apply Sw|intro h)
 (refine AW.i rfl (fun h=>?_) (fun h=>?_)<;>try simp only [hC,reduceCtorEq] at h)
 ·obtain ⟨x,lr,rfl⟩:∃ x lr',lr=x::lr':=by
   rcases lr with _|⟨x,lr'⟩
   ·simp only [List.length_nil] at hpl;rcases hi with hi|hi<;>omega
   ·exact ⟨x,lr',rfl⟩
  have hi:i=la.length+ls.length:=by
   rcases hi with hi|hi
   ·exact hi
   ·exact absurd hi.1 (by simp)
  simp only [List.length_cons] at hpl
  (refine vK ?_;with_reducible repeat' first|exact Le.l|apply Sw|intro h)
  refine AW.aw [9] [0,1,2,3,8] (fun m xs o=>∃ (s1 s2:List da) (j:Int),xs=[.v (.int .i64 j)]/\o=[(b,some (rws (la++(s1++(x::(s2++(lr++lc)))))))]/\m=s1.length/\s1++s2=ls/\(∀ y∈s2,ltV d x y=true)/\j=la.length+s1.length) ls.length [(b,some (rws (la++(ls++(x::lr++lc)))))] (aE rfl) ⟨ls,[],i,rfl,rfl,rfl,by simp,by simp,hi⟩ ?_
  rintro m xs o ⟨s1,s2,j,rfl,rfl,rfl,hss,hlt,hj⟩
  rcases xI s1 with rfl|⟨s1,z,rfl⟩
  ·have hj:j=la.length:=by simpa using hj
   have hg:decide (a<j)=false:=by simp;omega
   have hL:(la++x::(s2++(lr++lc))).length=la.length+1+s2.length+lr.length+lc.length:=by simp;omega
   rw [List.nil_append] at hss
   subst hss
   (repeat' first|(with_reducible first|refine Z ?_|refine Y ?_|(refine hK _ _ ?_;clear hK K)|refine And.intro ?_ ?_|exact Ct|intro (K:_->_->Prop) hK|(refine gI fun hg=>?_;try simp only [hC,reduceCtorEq] at hg;try simp only [hg]))|((with_reducible refine E ?_;repeat refine Y ?_);refine eF rfl ?_)|simp (disch:=omega) only [go_sem,hg,xM]|(with_reducible intro hg;try simp only [hC,reduceCtorEq] at hg)|exact Cl|fail)
   (refine AW.i rfl (fun h=>?_) (fun h=>?_)<;>try simp only [hC,reduceCtorEq] at h)
   (refine vK ?_;with_reducible repeat' first|exact Le.l|apply Sw|intro h)
   exact ⟨_,[_],_,by (try simp only [List.length_cons]);omega,⟨x::s2,lr,i+1,rfl,rfl,rfl,(List.perm_middle.symm.trans hp),CW (S1:=[]) ho hs hlt (by simp),.inl (by (try simp only [List.length_cons]);omega)⟩,rfl,aE rfl⟩
  ·have hg:decide (a<j)=true:=by simp at hj;simp;omega
   obtain ⟨p,q,e1,e2,hp1⟩:=xA (la++s1) (s2++(lr++lc)) z x
   have e3:la++((s1++[z])++(x::(s2++(lr++lc))))=la++s1++(z::x::(s2++(lr++lc))):=by simp
   have e4:la++(s1++(x::(z::s2++(lr++lc))))=la++s1++(x::z::(s2++(lr++lc))):=by simp
   rw [e3,e1]
   simp only [rkC] at e1 e2 ⊢
   simp only [List.length_append,List.length_cons,List.length_nil] at hj hp1
   have hsl:s1.length+1+s2.length=ls.length:=by rw [<- hss];simp;omega
   have hrx:ij d x:=hrb x (by rw [List.mem_append,List.mem_append];exact .inr (.inl (hp.mem_iff.1 (by simp))))
   have hrz:ij d z:=hrb z (by rw [List.mem_append,List.mem_append];exact .inr (.inl (hp.mem_iff.1 (by rw [<- hss];simp))))
   (repeat' first|(with_reducible first|refine Z ?_|refine Y ?_|(refine hK _ _ ?_;clear hK K)|refine And.intro ?_ ?_|exact Ct|intro (K:_->_->Prop) hK|(refine gI fun hg=>?_;try simp only [hC,reduceCtorEq] at hg;try simp only [hg]))|((with_reducible refine E ?_;repeat refine Y ?_);refine eF rfl ?_)|simp (disch:=omega) only [go_sem,hg]|(with_reducible intro hg;try simp only [hC,reduceCtorEq] at hg)|exact Cl|fail)
   (refine AW.i rfl (fun h=>?_) (fun h=>?_)<;>try simp only [hC,reduceCtorEq] at h)
   ·repeat refine Y ?_
    refine AW.oB [(0,.arr b 0 (la.length+(lx.length+lc.length)) 4),(1,.v (.int .i64 a)),(2,.v (.int .i64 e)),(3,.fn 200 [.vp [.sl false 19 (d.map (aq false))]]),(8,.v (.int .i64 i)),(9,.v (.int .i64 j))] [(b,some (rws (la++(s1++(x::(z::s2++(lr++lc)))))))] (gH.h (P:=Tryz.prog)) (fun K hK=>?_) ?_
    ·refine aH.fxs (fuel:=6) (by kernel_rfl) [0,1,2,3,4,5,6,7,8,10,11,12] (by kernel_rfl) ?_
     simp (maxSteps:=2000000) (disch:=omega) only [go_sem]
     refine ⟨by omega,by omega,?_⟩
     clear e1
     refine aH.step (fuel:=5) [9,13] (by kernel_rfl) (by simp) ?_
     simp (maxSteps:=2000000) (disch:=omega) only [go_sem,bk]
     refine And.intro ?_ ?_
     ·refine aH.step (fuel:=4) [13] (by kernel_rfl) (by simp) ?_
      simp (maxSteps:=2000000) (disch:=omega) only [go_sem,bk]
      refine aH.step (fuel:=3) [14] (by kernel_rfl) (by simp) ?_
      simp (maxSteps:=2000000) (disch:=omega) only [go_sem,bk]
      (refine vN ?_;with_reducible repeat' first|exact Le.l|apply Sw|intro h)
      refine aH.step (fuel:=2) [15] (by kernel_rfl) (by simp) ?_
      simp (maxSteps:=2000000) (disch:=omega) only [go_sem,bk]
      (refine vN ?_;with_reducible repeat' first|exact Le.l|apply Sw|intro h)
      refine aH.step (fuel:=1) [16] (by kernel_rfl) (by simp) ?_
      simp (maxSteps:=2000000) (disch:=omega) only [go_sem,bk]
      (refine vN ?_;with_reducible repeat' first|exact Le.l|apply Sw|intro h)
      refine aH.step (fuel:=0) [17] (by kernel_rfl) (by simp) ?_
      simp (maxSteps:=2000000) (disch:=omega) only [go_sem,bk]
      (refine vN ?_;with_reducible repeat' first|exact Le.l|apply Sw|intro h)
      refine aH.jD [0,1,2,3,8,9] [(b,some (rws (la++(s1++(x::(z::s2++(lr++lc)))))))] (by kernel_rfl) (aE ?_) ?_
      ·rw [e4,e2]
       simp only [List.append_assoc,List.cons_append,List.nil_append]
       all_goals simp (maxSteps:=2000000) (disch:=omega) only [go_sem]
       try simp only [List.append_assoc,List.cons_append,List.nil_append]
      ·simp (maxSteps:=2000000) (disch:=omega) only [go_sem]
       exact hK
     ·refine aH.step (fuel:=4) [9] (by kernel_rfl) (by simp) ?_
      simp (maxSteps:=2000000) (disch:=omega) only [go_sem,bk]
      refine aH.step (fuel:=3) [14] (by kernel_rfl) (by simp) ?_
      simp (maxSteps:=2000000) (disch:=omega) only [go_sem,bk]
      (refine vN ?_;with_reducible repeat' first|exact Le.l|apply Sw|intro h)
      refine aH.step (fuel:=2) [15] (by kernel_rfl) (by simp) ?_
      simp (maxSteps:=2000000) (disch:=omega) only [go_sem,bk]
      (refine vN ?_;with_reducible repeat' first|exact Le.l|apply Sw|intro h)
      refine aH.step (fuel:=1) [16] (by kernel_rfl) (by simp) ?_
      simp (maxSteps:=2000000) (disch:=omega) only [go_sem,bk]
      (refine vN ?_;with_reducible repeat' first|exact Le.l|apply Sw|intro h)
      refine aH.step (fuel:=0) [17] (by kernel_rfl) (by simp) ?_
      simp (maxSteps:=2000000) (disch:=omega) only [go_sem,bk]
      (refine vN ?_;with_reducible repeat' first|exact Le.l|apply Sw|intro h)
      refine aH.jD [0,1,2,3,8,9] [(b,some (rws (la++(s1++(x::(z::s2++(lr++lc)))))))] (by kernel_rfl) (aE ?_) ?_
      ·rw [e4,e2]
       simp only [List.append_assoc,List.cons_append,List.nil_append]
       all_goals simp (maxSteps:=2000000) (disch:=omega) only [go_sem]
       try simp only [List.append_assoc,List.cons_append,List.nil_append]
      ·simp (maxSteps:=2000000) (disch:=omega) only [go_sem]
       exact hK
    ·(refine vK ?_;with_reducible repeat' first|exact Le.l|apply Sw|intro h)
     exact ⟨_,[_],_,by (try simp only [List.length_append,List.length_cons,List.length_nil]);omega,⟨s1,z::s2,j - 1,rfl,rfl,rfl,by rw [<- hss];simp,fun y hy=>by
      rcases List.mem_cons.1 hy with rfl|hy
      ·rw [ml];simpa using h
      ·exact hlt y hy,by omega⟩,rfl,aE (by simp)⟩
   ·(refine vK ?_;with_reducible repeat' first|exact Le.l|apply Sw|intro h)
    have hp':((s1++[z])++(x::s2)++lr).Perm lx:=by
     refine List.Perm.trans ?_ hp
     rw [<- hss]
     simp only [List.append_assoc,List.cons_append,List.nil_append]
     exact ((List.perm_middle.symm).cons z).append_left s1
    exact ⟨_,[_],_,by (try simp only [List.length_cons]);omega,⟨(s1++[z])++(x::s2),lr,i+1,rfl,rfl,rfl,hp',CW ho (by rw [hss];exact hs) hlt (by
     intro y hy
     have:y=z:=by simpa using hy.symm
     rw [this,ml];simpa using h),.inl (by (try simp only [List.length_append,List.length_cons,List.length_nil]);omega)⟩,rfl,aE (by rw [show la++(s1++[z]++x::s2++(lr++lc))=la++s1++(z::x::(s2++(lr++lc))) by simp];exact e1)⟩
 ·(refine vK ?_;with_reducible repeat' first|exact Le.l|apply Sw|intro h)
  obtain rfl:lr=[]:=by
   rcases hi with hi|hi
   ·exact List.length_eq_zero_iff.1 (by omega)
   ·exact hi.1
  rw [List.append_nil] at hp
  exact lI.n (aF.sr _ rfl ⟨la,lx,ls,lc,rfl,rfl,hA,hX,hp,hs⟩ (aE rfl))
end
section
attribute [local go_sem] yD yC yE xu xq xw
theorem Qs(d:List ae)(b:Nat)(l:List da)(n:Nat)(a m e:Int)(hma:m - a=1)(hp:n=l.length/\0<=a/\a<m/\m<e/\e<=n/\n<=1048576/\(∀ r∈l,ij d r)/\fB (ltV d) a.toNat m.toNat l/\fB (ltV d) m.toNat e.toNat l) :
  dS lim Tryz.prog 295 [(b,some (rws l))] [.arr b 0 n 4,.v (.int .i64 a),.v (.int .i64 m),.v (.int .i64 e),.fn 200 [.vp [.sl false 19 (d.map (aq false))]]] (SrQ b (Part (ltV d) a.toNat e.toNat l)) True:=by
 obtain ⟨hn,ha,ham,hme,hen,hb,hrb,hsX,hsY⟩:=hp
 refine dS.eO (aW 295) Tryz.func295 rfl rfl fun hp=>(?_);rw [Tryz.ntmps295]
 have gOn:=cY.on
 have ho:=uM d
 obtain ⟨la,lx,ly,lc,rfl,hA,hX,hY⟩:=Kx (l:=l) (a:=a.toNat) (m:=m.toNat) (b:=e.toNat) (by omega) (by omega) (by omega)
 rw [iF hA hX] at hsX
 rw [<- List.append_assoc,iF (by rw [List.length_append];exact hX) (by rw [List.length_append];exact hY)] at hsY
 have hrY:∀ r∈ly,ij d r:=fun r hr=>hrb r (by simp [hr])
 obtain ⟨x,rfl⟩:∃ x,lx=[x]:=List.length_eq_one_iff.1 (by omega)
 have hrx:ij d x:=hrb x (by simp)
 have hL:(la++([x]++(ly++lc))).length=la.length+(1+(ly.length+lc.length)):=by simp;omega
 have hL':(la++x::(ly++lc)).length=la.length+(1+(ly.length+lc.length)):=by simp;omega
 simp only [List.length_cons,List.length_nil] at hX hY
 have ex:at_ (la++x::(ly++lc)) a.toNat=x:=by rw [mz (by omega),show a.toNat - la.length=0 by omega];rfl
 have ey:∀ t:Int,m<=t->t<e->at_ (la++x::(ly++lc)) t.toNat=at_ ly (t - m).toNat:=fun t h1 h2=>by
  rw [show la++x::(ly++lc)=(la++[x])++(ly++lc) by simp,mz (by simp;omega),vm (by simp;omega)]
  congr 1;simp;omega
 rw [hL] at hn
 clear hL
 (repeat' first|(with_reducible first|refine Z ?_|refine Y ?_|(refine hK _ _ ?_;clear hK K)|refine And.intro ?_ ?_|exact Ct|intro (K:_->_->Prop) hK|(refine gI fun hg=>?_;try simp only [hC,reduceCtorEq] at hg;try simp only [hg]))|((with_reducible refine E ?_;repeat refine Y ?_);refine eF rfl ?_)|simp (disch:=omega) only [go_sem,hma]|(with_reducible intro hg;try simp only [hC,reduceCtorEq] at hg)|exact Cl|fail)
 (refine AW.i rfl (fun h=>?_) (fun h=>?_)<;>try simp only [hC,reduceCtorEq] at h)
 ·(refine vK ?_;with_reducible repeat' first|exact Le.l|apply Sw|intro h)
  refine AW.aw [10,11] [0,1,4] (fun k xs o=>∃ i j:Int,xs=[.v (.int .i64 i),.v (.int .i64 j)]/\o=[(b,some (rws (la++x::(ly++lc))))]/\k=(j - i).toNat/\m<=i/\i<=j/\j<=e/\(∀ t:Nat,t<i - m->ltV d (at_ ly t) x=true)/\∀ t:Nat,j - m<=t->t<ly.length->ltV d (at_ ly t) x=false) (e - m).toNat [(b,some (rws (la++x::(ly++lc))))] (aE rfl) ⟨m,e,rfl,rfl,rfl,by omega,by omega,by omega,fun t ht=>by omega,fun t ht1 ht2=>by omega⟩ ?_
  rintro k xs o ⟨i,j,rfl,rfl,rfl,hi,hij,hj,hLo,hHi⟩
  (refine vK ?_;with_reducible repeat' first|exact Le.l|apply Sw|intro h)
  (refine AW.i rfl (fun h=>?_) (fun h=>?_)<;>try simp only [hC,reduceCtorEq] at h)
  ·have hh:=zu (i:=i) (j:=j) (by omega) h
   have ew:=ey ((i+j) / 2) (by omega) (by omega)
   have hrw:ij d (at_ ly ((i+j) / 2 - m).toNat):=hrY _ (at_mem (by omega))
   (repeat' first|(with_reducible first|refine Z ?_|refine Y ?_|(refine hK _ _ ?_;clear hK K)|refine And.intro ?_ ?_|exact Ct|intro (K:_->_->Prop) hK|(refine gI fun hg=>?_;try simp only [hC,reduceCtorEq] at hg;try simp only [hg]))|((with_reducible refine E ?_;repeat refine Y ?_);refine eF rfl ?_)|simp (disch:=omega) only [go_sem,xM,ex,ew]|(with_reducible intro hg;try simp only [hC,reduceCtorEq] at hg)|exact Cl|fail)
   (refine AW.i rfl (fun h=>?_) (fun h=>?_)<;>try simp only [hC,reduceCtorEq] at h)
   ·(refine vK ?_;with_reducible repeat' first|exact Le.l|apply Sw|intro h)
    have hlt:ltV d (at_ ly ((i+j) / 2 - m).toNat) x=true:=by rw [ml];simpa using h
    exact ⟨_,[_,_],_,by omega,⟨(i+j) / 2+1,j,rfl,rfl,rfl,by omega,by omega,hj,fun t ht=>US ho hsY (by omega) hlt (by omega),hHi⟩,rfl,aE rfl⟩
   ·(refine vK ?_;with_reducible repeat' first|exact Le.l|apply Sw|intro h)
    have hge:ltV d (at_ ly ((i+j) / 2 - m).toNat) x=false:=by rw [ml];simpa using h
    exact ⟨_,[_,_],_,by omega,⟨i,(i+j) / 2,rfl,rfl,rfl,hi,by omega,by omega,hLo,fun t h1 h2=>UR ho hsY h2 hge (by omega)⟩,rfl,aE rfl⟩
  ·obtain rfl:i=j:=by omega
   (refine vK ?_;with_reducible repeat' first|exact Le.l|apply Sw|intro h)
   refine AW.aw [13] [0,10] (fun q xs o=>∃ k:Int,xs=[.v (.int .i64 k)]/\o=[(b,some (rws (la++(ly.take (k - a).toNat++(x::(ly.drop (k - a).toNat++lc))))))]/\q=(i - 1 - k).toNat/\a<=k/\k<=i - 1) (i - 1 - a).toNat [(b,some (rws (la++x::(ly++lc))))] (aE rfl) ⟨a,rfl,by rw [Int.sub_self];rfl,rfl,by omega,by omega⟩ ?_
   rintro q xs o ⟨k,rfl,rfl,rfl,hak,hki⟩
   (refine vK ?_;with_reducible repeat' first|exact Le.l|apply Sw|intro h)
   (refine AW.i rfl (fun h=>?_) (fun h=>?_)<;>try simp only [hC,reduceCtorEq] at h)
   ·have hkl:(k - a).toNat<ly.length:=by omega
    obtain ⟨p,q,e1,e2,hp1⟩:=xA (la++ly.take (k - a).toNat) (ly.drop ((k - a).toNat+1)++lc) x (at_ ly (k - a).toNat)
    have e3:la++(ly.take (k - a).toNat++(x::(ly.drop (k - a).toNat++lc)))=la++ly.take (k - a).toNat++(x::at_ ly (k - a).toNat::(ly.drop ((k - a).toNat+1)++lc)):=by rw [oT hkl];simp
    have e4:la++(ly.take (k+1 - a).toNat++(x::(ly.drop (k+1 - a).toNat++lc)))=la++ly.take (k - a).toNat++(at_ ly (k - a).toNat::x::(ly.drop ((k - a).toNat+1)++lc)):=by rw [show (k+1 - a).toNat=(k - a).toNat+1 by omega,rN hkl];simp
    rw [e3,e1]
    simp only [rkC] at e1 e2 ⊢
    rw [List.length_append,List.length_take] at hp1
    repeat refine Y ?_
    refine AW.oB [(0,.arr b 0 n 4),(10,.v (.int .i64 i)),(13,.v (.int .i64 k))] [(b,some (rws (la++(ly.take (k+1 - a).toNat++(x::(ly.drop (k+1 - a).toNat++lc))))))] (gH.h (P:=Tryz.prog)) (fun K hK=>?_) ?_
    ·refine aH.fxs (fuel:=6) (by kernel_rfl) [0,1,2,3,4,5,6,7,8,10,11,12] (by kernel_rfl) ?_
     simp (maxSteps:=2000000) (disch:=omega) only [go_sem]
     refine ⟨by omega,by omega,?_⟩
     clear e1
     refine aH.step (fuel:=5) [9,13] (by kernel_rfl) (by simp) ?_
     simp (maxSteps:=2000000) (disch:=omega) only [go_sem,bk]
     refine And.intro ?_ ?_
     ·refine aH.step (fuel:=4) [13] (by kernel_rfl) (by simp) ?_
      simp (maxSteps:=2000000) (disch:=omega) only [go_sem,bk]
      refine aH.step (fuel:=3) [14] (by kernel_rfl) (by simp) ?_
      simp (maxSteps:=2000000) (disch:=omega) only [go_sem,bk]
      (refine vN ?_;with_reducible repeat' first|exact Le.l|apply Sw|intro h)
      refine aH.step (fuel:=2) [15] (by kernel_rfl) (by simp) ?_
      simp (maxSteps:=2000000) (disch:=omega) only [go_sem,bk]
      (refine vN ?_;with_reducible repeat' first|exact Le.l|apply Sw|intro h)
      refine aH.step (fuel:=1) [16] (by kernel_rfl) (by simp) ?_
      simp (maxSteps:=2000000) (disch:=omega) only [go_sem,bk]
      (refine vN ?_;with_reducible repeat' first|exact Le.l|apply Sw|intro h)
      refine aH.step (fuel:=0) [17] (by kernel_rfl) (by simp) ?_
      simp (maxSteps:=2000000) (disch:=omega) only [go_sem,bk]
      (refine vN ?_;with_reducible repeat' first|exact Le.l|apply Sw|intro h)
      refine aH.jD [0,10,13] [(b,some (rws (la++(ly.take (k+1 - a).toNat++(x::(ly.drop (k+1 - a).toNat++lc))))))] (by kernel_rfl) (aE ?_) ?_
      ·rw [e4,e2]
       simp only [List.append_assoc,List.cons_append,List.nil_append]
       all_goals simp (maxSteps:=2000000) (disch:=omega) only [go_sem]
       try simp only [List.append_assoc,List.cons_append,List.nil_append]
      ·simp (maxSteps:=2000000) (disch:=omega) only [go_sem]
       exact hK
     ·refine aH.step (fuel:=4) [9] (by kernel_rfl) (by simp) ?_
      simp (maxSteps:=2000000) (disch:=omega) only [go_sem,bk]
      refine aH.step (fuel:=3) [14] (by kernel_rfl) (by simp) ?_
      simp (maxSteps:=2000000) (disch:=omega) only [go_sem,bk]
      (refine vN ?_;with_reducible repeat' first|exact Le.l|apply Sw|intro h)
      refine aH.step (fuel:=2) [15] (by kernel_rfl) (by simp) ?_
      simp (maxSteps:=2000000) (disch:=omega) only [go_sem,bk]
      (refine vN ?_;with_reducible repeat' first|exact Le.l|apply Sw|intro h)
      refine aH.step (fuel:=1) [16] (by kernel_rfl) (by simp) ?_
      simp (maxSteps:=2000000) (disch:=omega) only [go_sem,bk]
      (refine vN ?_;with_reducible repeat' first|exact Le.l|apply Sw|intro h)
      refine aH.step (fuel:=0) [17] (by kernel_rfl) (by simp) ?_
      simp (maxSteps:=2000000) (disch:=omega) only [go_sem,bk]
      (refine vN ?_;with_reducible repeat' first|exact Le.l|apply Sw|intro h)
      refine aH.jD [0,10,13] [(b,some (rws (la++(ly.take (k+1 - a).toNat++(x::(ly.drop (k+1 - a).toNat++lc))))))] (by kernel_rfl) (aE ?_) ?_
      ·rw [e4,e2]
       simp only [List.append_assoc,List.cons_append,List.nil_append]
       all_goals simp (maxSteps:=2000000) (disch:=omega) only [go_sem]
       try simp only [List.append_assoc,List.cons_append,List.nil_append]
      ·simp (maxSteps:=2000000) (disch:=omega) only [go_sem]
       exact hK
    ·(refine vK ?_;with_reducible repeat' first|exact Le.l|apply Sw|intro h)
     exact ⟨_,[_],_,by omega,⟨k+1,rfl,rfl,rfl,by omega,by omega⟩,rfl,aE rfl⟩
   ·obtain rfl:k=i - 1:=by omega
    (refine vK ?_;with_reducible repeat' first|exact Le.l|apply Sw|intro h)
    refine AW.ret ?_
    repeat refine Y ?_
    refine aF.sr _ rfl ⟨la,[x]++ly,ly.take (i - 1 - a).toNat++x::ly.drop (i - 1 - a).toNat,lc,by simp,rfl,hA,by simp;omega,?_,?_⟩ (aE (by simp))
    ·refine List.perm_middle.trans ?_
     rw [List.take_append_drop];exact .refl _
    ·refine LI ho (by rw [List.take_append_drop];exact hsY) (fun y hy=>?_) (fun y hy=>?_)
     ·obtain ⟨t,h1,h2,rfl⟩:=vT hy
      exact hLo t (by omega)
     ·obtain ⟨t,h1,h2,rfl⟩:=vV hy
      exact hHi t (by omega) h2
end
section
attribute [local go_sem] yD yC yE xu xq xw
theorem Qr(d:List ae)(b:Nat)(l:List da)(n:Nat)(a m e:Int)(hma:¬ m - a=1)(hem:e - m=1)(hp:n=l.length/\0<=a/\a<m/\m<e/\e<=n/\n<=1048576/\(∀ r∈l,ij d r)/\fB (ltV d) a.toNat m.toNat l/\fB (ltV d) m.toNat e.toNat l) :
  dS lim Tryz.prog 295 [(b,some (rws l))] [.arr b 0 n 4,.v (.int .i64 a),.v (.int .i64 m),.v (.int .i64 e),.fn 200 [.vp [.sl false 19 (d.map (aq false))]]] (SrQ b (Part (ltV d) a.toNat e.toNat l)) True:=by
 obtain ⟨hn,ha,ham,hme,hen,hb,hrb,hsX,hsY⟩:=hp
 refine dS.eO (aW 295) Tryz.func295 rfl rfl fun hp=>(?_);rw [Tryz.ntmps295]
 have gOn:=cY.on
 have ho:=uM d
 have zo:decide (m - a=1)=false:=decide_eq_false hma
 obtain ⟨la,lx,ly,lc,rfl,hA,hX,hY⟩:=Kx (l:=l) (a:=a.toNat) (m:=m.toNat) (b:=e.toNat) (by omega) (by omega) (by omega)
 rw [iF hA hX] at hsX
 have hrX:∀ r∈lx,ij d r:=fun r hr=>hrb r (by simp [hr])
 obtain ⟨y,rfl⟩:∃ y,ly=[y]:=List.length_eq_one_iff.1 (by omega)
 have hry:ij d y:=hrb y (by simp)
 have hL:(la++(lx++([y]++lc))).length=la.length+(lx.length+(lc.length+1)):=by simp
 have hL':(la++(lx++y::lc)).length=la.length+(lx.length+(lc.length+1)):=by simp
 simp only [List.length_cons,List.length_nil] at hX hY
 have ey:at_ (la++(lx++y::lc)) m.toNat=y:=by rw [mz (by omega),mz (by omega),show m.toNat - la.length - lx.length=0 by omega];rfl
 have ex:∀ t:Int,a<=t->t<m->at_ (la++(lx++y::lc)) t.toNat=at_ lx (t - a).toNat:=fun t h1 h2=>by
  rw [mz (by omega),vm (by omega)]
  congr 1;omega
 rw [hL] at hn
 clear hL
 (repeat' first|(with_reducible first|refine Z ?_|refine Y ?_|(refine hK _ _ ?_;clear hK K)|refine And.intro ?_ ?_|exact Ct|intro (K:_->_->Prop) hK|(refine gI fun hg=>?_;try simp only [hC,reduceCtorEq] at hg;try simp only [hg]))|((with_reducible refine E ?_;repeat refine Y ?_);refine eF rfl ?_)|simp (disch:=omega) only [go_sem,zo,hem]|(with_reducible intro hg;try simp only [hC,reduceCtorEq] at hg)|exact Cl|fail)
 (refine AW.i rfl (fun h=>?_) (fun h=>?_)<;>try simp only [hC,reduceCtorEq] at h)
 (repeat' first|(with_reducible first|refine Z ?_|refine Y ?_|(refine hK _ _ ?_;clear hK K)|refine And.intro ?_ ?_|exact Ct|intro (K:_->_->Prop) hK|(refine gI fun hg=>?_;try simp only [hC,reduceCtorEq] at hg;try simp only [hg]))|((with_reducible refine E ?_;repeat refine Y ?_);refine eF rfl ?_)|simp (disch:=omega) only [go_sem,zo,hem]|(with_reducible intro hg;try simp only [hC,reduceCtorEq] at hg)|exact Cl|fail)
 (refine AW.i rfl (fun h=>?_) (fun h=>?_)<;>try simp only [hC,reduceCtorEq] at h)
 (refine vK ?_;with_reducible repeat' first|exact Le.l|apply Sw|intro h)
 refine AW.aw [14,15] [0,2,4] (fun k xs o=>∃ i j:Int,xs=[.v (.int .i64 i),.v (.int .i64 j)]/\o=[(b,some (rws (la++(lx++y::lc))))]/\k=(j - i).toNat/\a<=i/\i<=j/\j<=m/\(∀ t:Nat,t<i - a->ltV d y (at_ lx t)=false)/\∀ t:Nat,j - a<=t->t<lx.length->ltV d y (at_ lx t)=true) (m - a).toNat [(b,some (rws (la++(lx++y::lc))))] (aE rfl) ⟨a,m,rfl,rfl,rfl,by omega,by omega,by omega,fun t ht=>by omega,fun t ht1 ht2=>by omega⟩ ?_
 rintro k xs o ⟨i,j,rfl,rfl,rfl,hi,hij,hj,hLo,hHi⟩
 (refine vK ?_;with_reducible repeat' first|exact Le.l|apply Sw|intro h)
 (refine AW.i rfl (fun h=>?_) (fun h=>?_)<;>try simp only [hC,reduceCtorEq] at h)
 ·have hh:=zu (i:=i) (j:=j) (by omega) h
  have ew:=ex ((i+j) / 2) (by omega) (by omega)
  have hrw:ij d (at_ lx ((i+j) / 2 - a).toNat):=hrX _ (at_mem (by omega))
  (repeat' first|(with_reducible first|refine Z ?_|refine Y ?_|(refine hK _ _ ?_;clear hK K)|refine And.intro ?_ ?_|exact Ct|intro (K:_->_->Prop) hK|(refine gI fun hg=>?_;try simp only [hC,reduceCtorEq] at hg;try simp only [hg]))|((with_reducible refine E ?_;repeat refine Y ?_);refine eF rfl ?_)|simp (disch:=omega) only [go_sem,xM,ey,ew]|(with_reducible intro hg;try simp only [hC,reduceCtorEq] at hg)|exact Cl|fail)
  (refine AW.i rfl (fun h=>?_) (fun h=>?_)<;>try simp only [hC,reduceCtorEq] at h)
  ·(refine vK ?_;with_reducible repeat' first|exact Le.l|apply Sw|intro h)
   have hge:ltV d y (at_ lx ((i+j) / 2 - a).toNat)=false:=by rw [ml];simpa using h
   exact ⟨_,[_,_],_,by omega,⟨(i+j) / 2+1,j,rfl,rfl,rfl,by omega,by omega,hj,fun t ht=>UQ ho hsX (by omega) hge (by omega),hHi⟩,rfl,aE rfl⟩
  ·(refine vK ?_;with_reducible repeat' first|exact Le.l|apply Sw|intro h)
   have hlt:ltV d y (at_ lx ((i+j) / 2 - a).toNat)=true:=by rw [ml];simpa using h
   exact ⟨_,[_,_],_,by omega,⟨i,(i+j) / 2,rfl,rfl,rfl,hi,by omega,by omega,hLo,fun t h1 h2=>UO ho hsX h2 hlt (by omega)⟩,rfl,aE rfl⟩
 ·obtain rfl:i=j:=by omega
  (refine vK ?_;with_reducible repeat' first|exact Le.l|apply Sw|intro h)
  have hxl:(m - a).toNat=lx.length:=by omega
  refine AW.aw [17] [0,14] (fun q xs o=>∃ k:Int,xs=[.v (.int .i64 k)]/\o=[(b,some (rws (la++(lx.take (k - a).toNat++(y::(lx.drop (k - a).toNat++lc))))))]/\q=(k - i).toNat/\i<=k/\k<=m) (m - i).toNat [(b,some (rws (la++(lx++y::lc))))] (aE rfl) ⟨m,rfl,by rw [hxl,List.take_length,List.drop_length,List.nil_append],rfl,by omega,by omega⟩ ?_
  rintro q xs o ⟨k,rfl,rfl,rfl,hak,hki⟩
  (refine vK ?_;with_reducible repeat' first|exact Le.l|apply Sw|intro h)
  (refine AW.i rfl (fun h=>?_) (fun h=>?_)<;>try simp only [hC,reduceCtorEq] at h)
  ·have hkl:(k - 1 - a).toNat<lx.length:=by omega
   have hk1:(k - a).toNat=(k - 1 - a).toNat+1:=by omega
   obtain ⟨p,q,e1,e2,hp1⟩:=xA (la++lx.take (k - 1 - a).toNat) (lx.drop ((k - 1 - a).toNat+1)++lc) (at_ lx (k - 1 - a).toNat) y
   have e3:la++(lx.take (k - a).toNat++(y::(lx.drop (k - a).toNat++lc)))=la++lx.take (k - 1 - a).toNat++(at_ lx (k - 1 - a).toNat::y::(lx.drop ((k - 1 - a).toNat+1)++lc)):=by rw [hk1,rN hkl];simp
   have e4:la++(lx.take (k - 1 - a).toNat++(y::(lx.drop (k - 1 - a).toNat++lc)))=la++lx.take (k - 1 - a).toNat++(y::at_ lx (k - 1 - a).toNat::(lx.drop ((k - 1 - a).toNat+1)++lc)):=by rw [oT hkl];simp
   rw [e3,e1]
   simp only [rkC] at e1 e2 ⊢
   rw [List.length_append,List.length_take] at hp1
   repeat refine Y ?_
   refine AW.oB [(0,.arr b 0 n 4),(14,.v (.int .i64 i)),(17,.v (.int .i64 k))] [(b,some (rws (la++(lx.take (k - 1 - a).toNat++(y::(lx.drop (k - 1 - a).toNat++lc))))))] (gH.h (P:=Tryz.prog)) (fun K hK=>?_) ?_
   ·refine aH.fxs (fuel:=6) (by kernel_rfl) [0,1,2,3,4,5,6,7,8,10,11,12] (by kernel_rfl) ?_
    simp (maxSteps:=2000000) (disch:=omega) only [go_sem]
    refine ⟨by omega,by omega,?_⟩
    clear e1
    refine aH.step (fuel:=5) [9,13] (by kernel_rfl) (by simp) ?_
    simp (maxSteps:=2000000) (disch:=omega) only [go_sem,bk]
    refine And.intro ?_ ?_
    ·refine aH.step (fuel:=4) [13] (by kernel_rfl) (by simp) ?_
     simp (maxSteps:=2000000) (disch:=omega) only [go_sem,bk]
     refine aH.step (fuel:=3) [14] (by kernel_rfl) (by simp) ?_
     simp (maxSteps:=2000000) (disch:=omega) only [go_sem,bk]
     (refine vN ?_;with_reducible repeat' first|exact Le.l|apply Sw|intro h)
     refine aH.step (fuel:=2) [15] (by kernel_rfl) (by simp) ?_
     simp (maxSteps:=2000000) (disch:=omega) only [go_sem,bk]
     (refine vN ?_;with_reducible repeat' first|exact Le.l|apply Sw|intro h)
     refine aH.step (fuel:=1) [16] (by kernel_rfl) (by simp) ?_
     simp (maxSteps:=2000000) (disch:=omega) only [go_sem,bk]
     (refine vN ?_;with_reducible repeat' first|exact Le.l|apply Sw|intro h)
     refine aH.step (fuel:=0) [17] (by kernel_rfl) (by simp) ?_
     simp (maxSteps:=2000000) (disch:=omega) only [go_sem,bk]
     (refine vN ?_;with_reducible repeat' first|exact Le.l|apply Sw|intro h)
     refine aH.jD [0,14,17] [(b,some (rws (la++(lx.take (k - 1 - a).toNat++(y::(lx.drop (k - 1 - a).toNat++lc))))))] (by kernel_rfl) (aE ?_) ?_
     ·rw [e4,e2]
      simp only [List.append_assoc,List.cons_append,List.nil_append]
      all_goals simp (maxSteps:=2000000) (disch:=omega) only [go_sem]
      try simp only [List.append_assoc,List.cons_append,List.nil_append]
     ·simp (maxSteps:=2000000) (disch:=omega) only [go_sem]
      exact hK
    ·refine aH.step (fuel:=4) [9] (by kernel_rfl) (by simp) ?_
     simp (maxSteps:=2000000) (disch:=omega) only [go_sem,bk]
     refine aH.step (fuel:=3) [14] (by kernel_rfl) (by simp) ?_
     simp (maxSteps:=2000000) (disch:=omega) only [go_sem,bk]
     (refine vN ?_;with_reducible repeat' first|exact Le.l|apply Sw|intro h)
     refine aH.step (fuel:=2) [15] (by kernel_rfl) (by simp) ?_
     simp (maxSteps:=2000000) (disch:=omega) only [go_sem,bk]
     (refine vN ?_;with_reducible repeat' first|exact Le.l|apply Sw|intro h)
     refine aH.step (fuel:=1) [16] (by kernel_rfl) (by simp) ?_
     simp (maxSteps:=2000000) (disch:=omega) only [go_sem,bk]
     (refine vN ?_;with_reducible repeat' first|exact Le.l|apply Sw|intro h)
     refine aH.step (fuel:=0) [17] (by kernel_rfl) (by simp) ?_
     simp (maxSteps:=2000000) (disch:=omega) only [go_sem,bk]
     (refine vN ?_;with_reducible repeat' first|exact Le.l|apply Sw|intro h)
     refine aH.jD [0,14,17] [(b,some (rws (la++(lx.take (k - 1 - a).toNat++(y::(lx.drop (k - 1 - a).toNat++lc))))))] (by kernel_rfl) (aE ?_) ?_
     ·rw [e4,e2]
      simp only [List.append_assoc,List.cons_append,List.nil_append]
      all_goals simp (maxSteps:=2000000) (disch:=omega) only [go_sem]
      try simp only [List.append_assoc,List.cons_append,List.nil_append]
     ·simp (maxSteps:=2000000) (disch:=omega) only [go_sem]
      exact hK
   ·(refine vK ?_;with_reducible repeat' first|exact Le.l|apply Sw|intro h)
    exact ⟨_,[_],_,by omega,⟨k - 1,rfl,rfl,rfl,by omega,by omega⟩,rfl,aE rfl⟩
  ·obtain rfl:k=i:=by omega
   (refine vK ?_;with_reducible repeat' first|exact Le.l|apply Sw|intro h)
   refine AW.ret ?_
   repeat refine Y ?_
   refine aF.sr _ rfl ⟨la,lx++[y],lx.take (k - a).toNat++y::lx.drop (k - a).toNat,lc,by simp,rfl,hA,by simp;omega,?_,?_⟩ (aE (by simp))
   ·refine List.perm_middle.trans ?_
    rw [List.take_append_drop];exact (List.perm_append_comm (l₁:=[y]) (l₂:=lx))
   ·refine LH ho (by rw [List.take_append_drop];exact hsX) (fun x hx=>?_) (fun x hx=>?_)
    ·obtain ⟨t,h1,h2,rfl⟩:=vT hx
     exact hLo t (by omega)
    ·obtain ⟨t,h1,h2,rfl⟩:=vV hx
     exact hHi t (by omega) h2
end
section
theorem Qq(d:List ae)(nn:Nat)(ih:∀ (b:Nat) (l:List da) (n:Nat) (a m e:Int),dS lim Tryz.prog 295 [(b,some (rws l))] [.arr b 0 n 4,.v (.int .i64 a),.v (.int .i64 m),.v (.int .i64 e),.fn 200 [.vp [.sl false 19 (d.map (aq false))]]] (SrQ b (Part (ltV d) a.toNat e.toNat l)) (n=l.length/\0<=a/\a<m/\m<e/\e<=n/\n<=1048576/\(e - a).toNat<nn/\(∀ r∈l,ij d r)/\fB (ltV d) a.toNat m.toNat l/\fB (ltV d) m.toNat e.toNat l))
  (b:Nat) (l:List da) (n:Nat) (a m e:Int) (hma:¬ m - a=1) (hem:¬ e - m=1) (hp:n=l.length/\0<=a/\a<m/\m<e/\e<=n/\n<=1048576/\(e - a).toNat<nn+1/\(∀ r∈l,ij d r)/\fB (ltV d) a.toNat m.toNat l/\fB (ltV d) m.toNat e.toNat l) :
  dS lim Tryz.prog 295 [(b,some (rws l))] [.arr b 0 n 4,.v (.int .i64 a),.v (.int .i64 m),.v (.int .i64 e),.fn 200 [.vp [.sl false 19 (d.map (aq false))]]] (SrQ b (Part (ltV d) a.toNat e.toNat l)) True:=by
 obtain ⟨hn,ha,ham,hme,hen,hb,hN,hrb,hsX,hsY⟩:=hp
 refine dS.eO (aW 295) Tryz.func295 rfl rfl fun hp=>(?_);rw [Tryz.ntmps295]
 have gOn:=cY.on
 have ho:=uM d
 have zo:decide (m - a=1)=false:=decide_eq_false hma
 have J8:decide (e - m=1)=false:=decide_eq_false hem
 obtain ⟨la,lx,ly,lc,rfl,hA,hX,hY⟩:=Kx (l:=l) (a:=a.toNat) (m:=m.toNat) (b:=e.toNat) (by omega) (by omega) (by omega)
 rw [iF hA hX] at hsX
 rw [<- List.append_assoc,iF (by rw [List.length_append];exact hX) (by rw [List.length_append];exact hY)] at hsY
 have hrX:∀ r∈lx,ij d r:=fun r hr=>hrb r (by simp [hr])
 have hrY:∀ r∈ly,ij d r:=fun r hr=>hrb r (by simp [hr])
 have hL:(la++(lx++(ly++lc))).length=la.length+(lx.length+(ly.length+lc.length)):=by simp
 have ex:∀ t:Int,a<=t->t<m->at_ (la++(lx++(ly++lc))) t.toNat=at_ lx (t - a).toNat:=fun t h1 h2=>by
  rw [mz (by omega),vm (by omega)]
  congr 1;omega
 have ey:∀ t:Int,m<=t->t<e->at_ (la++(lx++(ly++lc))) t.toNat=at_ ly (t - m).toNat:=fun t h1 h2=>by
  rw [mz (by omega),mz (by omega),vm (by omega)]
  congr 1;omega
 (repeat' first|(with_reducible first|refine Z ?_|refine Y ?_|(refine hK _ _ ?_;clear hK K)|refine And.intro ?_ ?_|exact Ct|intro (K:_->_->Prop) hK|(refine gI fun hg=>?_;try simp only [hC,reduceCtorEq] at hg;try simp only [hg]))|((with_reducible refine E ?_;repeat refine Y ?_);refine eF rfl ?_)|simp (disch:=omega) only [go_sem,zo,J8]|(with_reducible intro hg;try simp only [hC,reduceCtorEq] at hg)|exact Cl|fail)
 (refine AW.i rfl (fun h=>?_) (fun h=>?_)<;>try simp only [hC,reduceCtorEq] at h)
 ·exact absurd h hma
 (repeat' first|(with_reducible first|refine Z ?_|refine Y ?_|(refine hK _ _ ?_;clear hK K)|refine And.intro ?_ ?_|exact Ct|intro (K:_->_->Prop) hK|(refine gI fun hg=>?_;try simp only [hC,reduceCtorEq] at hg;try simp only [hg]))|((with_reducible refine E ?_;repeat refine Y ?_);refine eF rfl ?_)|simp (disch:=omega) only [go_sem,zo,J8]|(with_reducible intro hg;try simp only [hC,reduceCtorEq] at hg)|exact Cl|fail)
 (refine AW.i rfl (fun h=>?_) (fun h=>?_)<;>try simp only [hC,reduceCtorEq] at h)
 ·exact absurd h hem
 (refine vK ?_;with_reducible repeat' first|exact Le.l|apply Sw|intro h)
 generalize Dc:(a+e) / 2=mid
 obtain ⟨s0,r0,hF⟩:∃ s0 r0:Int,(mid<m->s0=mid+m - e/\r0=mid)/\(m<=mid->s0=a/\r0=m):=by
  by_cases h:mid<m
  ·exact ⟨_,_,fun _=>⟨rfl,rfl⟩,fun h'=>absurd h (by omega)⟩
  ·exact ⟨_,_,fun h'=>absurd h' h,fun _=>⟨rfl,rfl⟩⟩
 have TW:s0<=r0/\a<=s0/\r0<=m/\r0<=mid/\mid - s0<=e - m:=by
  rcases Int.lt_or_le mid m with h|h
  ·have:=hF.1 h;omega
  ·have:=hF.2 h;omega
 refine AW.cut [0,1,2,3,4,18,19,20,21] [(0,.arr b 0 n 4),(1,.v (.int .i64 a)),(2,.v (.int .i64 m)),(3,.v (.int .i64 e)),(4,.fn 200 [.vp [.sl false 19 (d.map (aq false))]]),(18,.v (.int .i64 mid)),(19,.v (.int .i64 (mid+m))),(20,.v (.int .i64 s0)),(21,.v (.int .i64 r0))] [(b,some (rws (la++(lx++(ly++lc)))))] ?_ ?_
 ·(refine AW.i rfl (fun h=>?_) (fun h=>?_)<;>try simp only [hC,reduceCtorEq] at h)
  ·have:=hF.1 h
   (refine vK ?_;with_reducible repeat' first|exact Le.l|apply Sw|intro h)
   rw [this.1,this.2]
  ·have:=hF.2 h
   (refine vK ?_;with_reducible repeat' first|exact Le.l|apply Sw|intro h)
   rw [this.1,this.2]
 (refine vK ?_;with_reducible repeat' first|exact Le.l|apply Sw|intro h)
 refine AW.aw [20,21] [0,1,2,3,4,18,19,22] (fun k xs o=>∃ s r:Int,xs=[.v (.int .i64 s),.v (.int .i64 r)]/\o=[(b,some (rws (la++(lx++(ly++lc)))))]/\k=(r - s).toNat/\s0<=s/\s<=r/\r<=r0/\(s0<s->ltV d (at_ ly (mid - s).toNat) (at_ lx (s - 1 - a).toNat)=false)/\(r<r0->ltV d (at_ ly (mid - 1 - r).toNat) (at_ lx (r - a).toNat)=true)) (r0 - s0).toNat [(b,some (rws (la++(lx++(ly++lc)))))] (aE rfl) ⟨s0,r0,rfl,rfl,rfl,by omega,by omega,by omega,fun h=>by omega,fun h=>by omega⟩ ?_
 rintro k xs o ⟨s,r,rfl,rfl,rfl,hs0,hsr,hr0,hLo,hHi⟩
 (refine vK ?_;with_reducible repeat' first|exact Le.l|apply Sw|intro h)
 (refine AW.i rfl (fun h=>?_) (fun h=>?_)<;>try simp only [hC,reduceCtorEq] at h)
 ·have hh:=zu (i:=s) (j:=r) (by omega) h
  have ew1:=ex ((s+r) / 2) (by omega) (by omega)
  have ew2:=ey (mid+m - 1 - (s+r) / 2) (by omega) (by omega)
  have hi1:(mid+m - 1 - (s+r) / 2 - m).toNat=(mid - 1 - (s+r) / 2).toNat:=by congr 1;omega
  rw [hi1] at ew2
  have hr1:ij d (at_ lx ((s+r) / 2 - a).toNat):=hrX _ (at_mem (by omega))
  have hr2:ij d (at_ ly (mid - 1 - (s+r) / 2).toNat):=hrY _ (at_mem (by omega))
  (repeat' first|(with_reducible first|refine Z ?_|refine Y ?_|(refine hK _ _ ?_;clear hK K)|refine And.intro ?_ ?_|exact Ct|intro (K:_->_->Prop) hK|(refine gI fun hg=>?_;try simp only [hC,reduceCtorEq] at hg;try simp only [hg]))|((with_reducible refine E ?_;repeat refine Y ?_);refine eF rfl ?_)|simp (disch:=omega) only [go_sem,xM,ew1,ew2]|(with_reducible intro hg;try simp only [hC,reduceCtorEq] at hg)|exact Cl|fail)
  (refine AW.i rfl (fun h=>?_) (fun h=>?_)<;>try simp only [hC,reduceCtorEq] at h)
  ·(refine vK ?_;with_reducible repeat' first|exact Le.l|apply Sw|intro h)
   have hge:ltV d (at_ ly (mid - 1 - (s+r) / 2).toNat) (at_ lx ((s+r) / 2 - a).toNat)=false:=by rw [ml];simpa using h
   exact ⟨_,[_,_],_,by omega,⟨(s+r) / 2+1,r,rfl,rfl,rfl,by omega,by omega,hr0,fun _=>by
    rw [show mid - ((s+r) / 2+1)=mid - 1 - (s+r) / 2 by omega,show (s+r) / 2+1 - 1=(s+r) / 2 by omega];exact hge,hHi⟩,rfl,aE rfl⟩
  ·(refine vK ?_;with_reducible repeat' first|exact Le.l|apply Sw|intro h)
   have hlt:ltV d (at_ ly (mid - 1 - (s+r) / 2).toNat) (at_ lx ((s+r) / 2 - a).toNat)=true:=by rw [ml];simpa using h
   exact ⟨_,[_,_],_,by omega,⟨s,(s+r) / 2,rfl,rfl,rfl,hs0,by omega,by omega,hLo,fun _=>hlt⟩,rfl,aE rfl⟩
 obtain rfl:s=r:=by omega
 have hd1:(s - 1 - a).toNat=(s - a).toNat - 1:=by omega
 have hd2:(mid - 1 - s).toNat=(mid - s).toNat - 1:=by omega
 rw [hd1] at hLo
 rw [hd2] at hHi
 have hap:∀ u∈lx.take (s - a).toNat++ly.take (mid - s).toNat,∀ v∈lx.drop (s - a).toNat++ly.drop (mid - s).toNat,ltV d v u=false:=by
  refine Hg ho (by rw [List.take_append_drop];exact hsX) (by rw [List.take_append_drop];exact hsY) (fun x hx y hy=>?_) (fun y hy x hx=>?_)
  ·obtain ⟨h1,rfl⟩:=Av hx (by omega)
   obtain ⟨h2,rfl⟩:=head_drop hy
   refine hLo ?_
   rcases Int.lt_or_le mid m with h|h
   ·have:=hF.1 h;omega
   ·have:=hF.2 h;omega
  ·obtain ⟨h1,rfl⟩:=Av hy (by omega)
   obtain ⟨h2,rfl⟩:=head_drop hx
   refine hHi ?_
   rcases Int.lt_or_le mid m with h|h
   ·have:=hF.1 h;omega
   ·have:=hF.2 h;omega
 obtain ⟨x1,x2,C6,hx1⟩:∃ x1 x2,lx=x1++x2/\x1.length=(s - a).toNat:=⟨lx.take (s - a).toNat,lx.drop (s - a).toNat,(List.take_append_drop _ _).symm,by rw [List.length_take];omega⟩
 obtain ⟨y1,y2,C5,hy1⟩:∃ y1 y2,ly=y1++y2/\y1.length=(mid - s).toNat:=⟨ly.take (mid - s).toNat,ly.drop (mid - s).toNat,(List.take_append_drop _ _).symm,by rw [List.length_take];omega⟩
 rw [C6,C5,<- hx1,<- hy1,List.take_left,List.take_left,List.drop_left,List.drop_left] at hap
 rw [C6] at hsX
 rw [C5] at hsY
 have hlx:x1.length+x2.length=lx.length:=by rw [C6,List.length_append]
 have hly:y1.length+y2.length=ly.length:=by rw [C5,List.length_append]
 have hpm:(la++(x1++(y1++(x2++(y2++lc))))).Perm (la++(lx++(ly++lc))):=by
  rw [C6,C5]
  refine List.Perm.append_left la ?_
  simp only [List.append_assoc]
  refine List.Perm.append_left x1 ?_
  exact List.perm_append_comm_assoc _ _ _
 rw [show la++(lx++(ly++lc))=la++x1++(x2++(y1++(y2++lc))) by rw [C6,C5];simp only [List.append_assoc]]
 have has:a<=s/\s<=m/\s<=mid/\mid - s<=e - m:=by omega
 rw [hL] at hn
 clear hLo hHi ex ey hr0 hs0 hF TW hL hrX hrY hd1 hd2 hma hem zo J8
 (refine vK ?_;with_reducible repeat' first|exact Le.l|apply Sw|intro h)
 refine AW.cut [0,1,3,4,18,20,24] [(0,.arr b 0 n 4),(1,.v (.int .i64 a)),(3,.v (.int .i64 e)),(4,.fn 200 [.vp [.sl false 19 (d.map (aq false))]]),(18,.v (.int .i64 mid)),(20,.v (.int .i64 s)),(24,.v (.int .i64 (mid+m - s)))] [(b,some (rws (la++(x1++(y1++(x2++(y2++lc)))))))] ?_ ?_
 ·have hro:=Th d b (la++x1) x2 y1 (y2++lc) n
  (refine AW.i rfl (fun h=>?_) (fun h=>?_)<;>try simp only [hC,reduceCtorEq] at h)
  ·(refine vK ?_;with_reducible repeat' first|exact Le.l|apply Sw|intro h)
   simp only [List.append_assoc]
  ·(refine vK ?_;with_reducible repeat' first|exact Le.l|apply Sw|intro h)
   have hz:x2=[]\/y1=[]:=by
    rcases Int.lt_or_le s m with q|q
    ·exact .inr (List.length_eq_zero_iff.1 (by have:=h q;omega))
    ·exact .inl (List.length_eq_zero_iff.1 (by omega))
   rcases hz with rfl|rfl<;>simp
 refine Y ?_
 refine Y ?_
 refine AW.UJ [0,3,4,18,24] [(0,.arr b 0 n 4),(3,.v (.int .i64 e)),(4,.fn 200 [.vp [.sl false 19 (d.map (aq false))]]),(18,.v (.int .i64 mid)),(24,.v (.int .i64 (mid+m - s)))] (fun z1=>[(b,some (rws (la++(z1++(x2++(y2++lc))))))]) (fun z1=>z1.Perm (x1++y1)/\Srt (ltV d) z1) ?_ ?_
 ·(refine vK ?_;with_reducible repeat' first|exact Le.l|apply Sw|intro h)
  (refine AW.i rfl (fun h=>?_) (fun h=>?_)<;>try simp only [hC,reduceCtorEq] at h)
  ·(refine vK ?_;with_reducible repeat' first|exact Le.l|apply Sw|intro h)
   ·exact hrb _ (hpm.mem_iff.1 (by assumption))
   ·exact (iF hA (by omega)).2 hsX.l
   ·rw [<- List.append_assoc]
    exact (iF (by rw [List.length_append];omega) (by rw [List.length_append];omega)).2 hsY.l
   ·have hP:=h
    rw [<- List.append_assoc x1] at hP
    obtain ⟨z,rfl,h1,h2⟩:=hP.mid hA (by rw [List.length_append];omega)
    exact ⟨z,⟨h1,h2⟩,rfl⟩
  ·(refine vK ?_;with_reducible repeat' first|exact Le.l|apply Sw|intro h)
   refine ⟨x1++y1,⟨.refl _,?_⟩,by simp only [List.append_assoc]⟩
   have hz:x1=[]\/y1=[]:=by
    rcases Int.lt_or_le a s with q|q
    ·exact .inr (List.length_eq_zero_iff.1 (by have:=h q;omega))
    ·exact .inl (List.length_eq_zero_iff.1 (by omega))
   rcases hz with rfl|rfl
   ·exact hsY.l
   ·rw [List.append_nil];exact hsX.l
 ·rintro z1 ⟨hz1,TS⟩
  have hzl:=hz1.length_eq
  rw [List.length_append] at hzl
  have TZ:(la++(z1++(x2++(y2++lc)))).Perm (la++(lx++(ly++lc))):=by
   refine List.Perm.trans ((hz1.append_right _).append_left la) ?_
   rw [List.append_assoc];exact hpm
  have hfin:∀ z2:List da,z2.Perm (x2++y2)->Srt (ltV d) z2->Part (ltV d) a.toNat e.toNat (la++x1++(x2++(y1++(y2++lc)))) (la++z1++(z2++lc)):=fun z2 hz2 TR=>by
   refine ⟨la,x1++(x2++(y1++y2)),z1++z2,lc,by simp only [List.append_assoc],by simp only [List.append_assoc],hA,by simp only [List.length_append];omega,?_,Srt.app TS TR fun u hu v hv=>hap u (hz1.mem_iff.1 hu) v (hz2.mem_iff.1 hv)⟩
   refine (hz1.append hz2).trans ?_
   rw [List.append_assoc]
   exact (List.perm_append_comm_assoc _ _ _).append_left x1
  (refine vK ?_;with_reducible repeat' first|exact Le.l|apply Sw|intro h)
  (refine AW.i rfl (fun h=>?_) (fun h=>?_)<;>try simp only [hC,reduceCtorEq] at h)
  ·(refine vK ?_;with_reducible repeat' first|exact Le.l|apply Sw|intro h)
   ·exact hrb _ (TZ.mem_iff.1 (by assumption))
   ·rw [<- List.append_assoc]
    exact (iF (by rw [List.length_append];omega) (by rw [List.length_append];omega)).2 hsX.r
   ·rw [<- List.append_assoc,<- List.append_assoc]
    exact (iF (by simp only [List.length_append];omega) (by simp only [List.length_append];omega)).2 hsY.r
   ·have hP:=h
    rw [<- List.append_assoc,<- List.append_assoc x2] at hP
    obtain ⟨z,rfl,h1,h2⟩:=hP.mid (by rw [List.length_append];omega) (by simp only [List.length_append];omega)
    exact lI.n (aF.sr _ rfl (hfin z h1 h2) (aE rfl))
  ·(refine vK ?_;with_reducible repeat' first|exact Le.l|apply Sw|intro h)
   refine lI.n (aF.sr _ rfl (hfin (x2++y2) (.refl _) ?_) (aE (by simp only [List.append_assoc])))
   have hz:x2=[]\/y2=[]:=by
    rcases Int.lt_or_le mid (mid+m - s) with q|q
    ·exact .inr (List.length_eq_zero_iff.1 (by have:=h q;omega))
    ·exact .inl (List.length_eq_zero_iff.1 (by omega))
   rcases hz with rfl|rfl
   ·exact hsY.r
   ·rw [List.append_nil];exact hsX.r
theorem Ny(d:List ae):∀ (nn:Nat) (b:Nat) (l:List da) (n:Nat) (a m e:Int),dS lim Tryz.prog 295 [(b,some (rws l))] [.arr b 0 n 4,.v (.int .i64 a),.v (.int .i64 m),.v (.int .i64 e),.fn 200 [.vp [.sl false 19 (d.map (aq false))]]] (SrQ b (Part (ltV d) a.toNat e.toNat l)) (n=l.length/\0<=a/\a<m/\m<e/\e<=n/\n<=1048576/\(e - a).toNat<nn/\(∀ r∈l,ij d r)/\fB (ltV d) a.toNat m.toNat l/\fB (ltV d) m.toNat e.toNat l)
 | 0,b,l,n,a,m,e=>⟨(aW 295),fun h=>absurd h.2.2.2.2.2.2.1 (Nat.not_lt_zero _)⟩
 | nn+1,b,l,n,a,m,e=>by
  have ih:=Ny d nn
  refine ⟨(aW 295),fun hp=>?_⟩
  by_cases h1:m - a=1
  ·exact (Qs d b l n a m e h1 ⟨hp.1,hp.2.1,hp.2.2.1,hp.2.2.2.1,hp.2.2.2.2.1,hp.2.2.2.2.2.1,hp.2.2.2.2.2.2.2⟩).out trivial
  by_cases h2:e - m=1
  ·exact (Qr d b l n a m e h1 h2 ⟨hp.1,hp.2.1,hp.2.2.1,hp.2.2.2.1,hp.2.2.2.2.1,hp.2.2.2.2.2.1,hp.2.2.2.2.2.2.2⟩).out trivial
  exact (Qq d nn ih b l n a m e h1 h2 hp).out trivial
end
end Go.Proofs
namespace Go.Dt
section
variable {α : Type} {lt : α -> α -> Bool} {l l' : List α} {a b p q : Nat}
theorem Part.before(h:Part lt a b l l')(hq:q<=a)(hs:fB lt p q l):fB lt p q l':=by
 obtain ⟨A,X,Z,C,rfl,rfl,h1,h2,hp,_⟩:=h
 unfold fB at *
 rw [List.take_append_of_le_length (by omega)] at hs ⊢
 exact hs
theorem Part.after(h:Part lt a b l l')(hb:b<=p)(hs:fB lt p q l):fB lt p q l':=by
 obtain ⟨A,X,Z,C,rfl,rfl,h1,h2,hp,_⟩:=h
 have hl:=hp.length_eq
 unfold fB at *
 rw [List.drop_take] at hs ⊢
 have e:∀ W:List α,W.length=X.length->(A++(W++C)).drop p=C.drop (p - (A.length+X.length)):=fun W hW=>by
  rw [<- List.append_assoc,List.drop_append,List.drop_eq_nil_of_le (by rw [List.length_append];omega),List.nil_append,List.length_append,hW]
 rw [e X rfl] at hs
 rw [e Z hl]
 exact hs
theorem Hm(h:l.length<=p):fB lt p q l:=by
 unfold fB
 rw [List.drop_eq_nil_of_le (by rw [List.length_take];omega)]
 exact List.Pairwise.nil
theorem Hn(h:l.length<=q):fB lt 0 q l↔Srt lt l:=by
 unfold fB
 rw [List.drop_zero,List.take_of_length_le h]
theorem sJ{d x y:Nat}(h1:d ∣ x)(h2:d ∣ y)(h:x<y):x+d<=y:=by
 obtain ⟨i,rfl⟩:=h1
 obtain ⟨j,rfl⟩:=h2
 have:i<j:=Nat.lt_of_mul_lt_mul_left h
 calc d * i+d=d * (i+1):=by rw [Nat.mul_add,Nat.mul_one]
  _<=d * j:=Nat.mul_le_mul_left d this
def xl(lt:α->α->Bool)(w:Nat)(l:List α):Prop:=∀ p,w ∣ p->fB lt p (min (p+w) l.length) l
def nr(lt:α->α->Bool)(d a:Nat)(l:List α):Prop:=∀ p,d ∣ p->p+d<=a->fB lt p (p+d) l
theorem nr.step{d:Nat}(h:nr lt d a l)(hd:d ∣ a)(hp:Part lt a (a+d) l l'):nr lt d (a+d) l':=fun p h1 h2=>by
 rcases Nat.lt_or_ge p a with q|q
 ·exact hp.before (sJ h1 hd q) (h p h1 (sJ h1 hd q))
 ·obtain rfl:p=a:=by omega
  exact hp.srt
theorem nr.all{d:Nat}(h:nr lt d a l)(hd:d ∣ a)(h0:0<d)(hl:l.length<a+d)(hs:fB lt a l.length l):xl lt d l:=fun p h1=>by
 rcases Nat.lt_trichotomy p a with q|q|q
 ·have:=sJ h1 hd q
  rcases Nat.lt_or_ge l.length (p+d) with r|r
  ·rw [Nat.min_eq_right (by omega)]
   have:=h p h1 this
   unfold fB at this ⊢
   rw [List.take_of_length_le (by omega)] at this ⊢
   exact this
  ·rw [Nat.min_eq_left r]
   exact h p h1 this
 ·subst q
  rw [Nat.min_eq_right (by omega)];exact hs
 ·have:=sJ hd h1 q
  exact Hm (by omega)
theorem xl.one{w:Nat}(h:xl lt w l)(hw:l.length<=w):Srt lt l:=by
 have:=h 0 (Nat.dvd_zero _)
 rw [Nat.zero_add,Nat.min_eq_right hw] at this
 exact (Hn (Nat.le_refl _)).1 this
def yM(lt:α->α->Bool)(w a:Nat)(l:List α):Prop:=∀ p,w ∣ p->a<=p->fB lt p (min (p+w) l.length) l
theorem xl.post{w:Nat}(h:xl lt w l):yM lt w 0 l:=fun p h1 _=>h p h1
theorem nr.zero{d:Nat}(h0:0<d):nr lt d 0 l:=fun p _ h=>by omega
theorem yM.step{w:Nat}(h:yM lt w a l)(hp:Part lt a (a+2 * w) l l'):yM lt w (a+2 * w) l':=fun p h1 h2=>by
 rw [hp.len]
 exact hp.after h2 (h p h1 (by omega))
end
end Go.Dt
namespace Go.Proofs
open Go.Ab Go.Dt
section
theorem TK(d:List ae):Ctr lim Tryz.prog 294 [] [.v (.slice none 0 0),.v (.int .i64 0),.v (.int .i64 0),.fn 200 [.vp [.sl false 19 (d.map (aq false))]]] (.tup []) [] True:=by
 refine Ctr.bd Tryz.func294 Tryz.ntmps294 rfl rfl fun hp=>?_
 (refine vK ?_;with_reducible repeat' first|exact Le.l|apply Sw|intro h)
 refine AW.aw [] [2,8] (fun m xs o=>xs=[]/\o=[]) 0 [] trivial ⟨rfl,rfl⟩ ?_
 rintro m xs o ⟨rfl,rfl⟩
 all_goals exact uU
theorem Qv(d:List ae):Ctr lim Tryz.prog 257 [] [.v (.slice none 0 0),.v (.int .i64 0),.fn 200 [.vp [.sl false 19 (d.map (aq false))]]] (.tup []) [] True:=by
 refine Ctr.bd Tryz.func257 Tryz.ntmps257 rfl rfl fun hp=>?_
 have hi:=TK d
 (refine vK ?_;with_reducible repeat' first|exact Le.l|apply Sw|intro h)
 refine AW.aw [7,8] [0,1,2,6] (fun m xs o=>xs=[.v (.int .i64 0),.v (.int .i64 20)]/\o=[]) 0 [] trivial ⟨rfl,rfl⟩ ?_
 rintro m xs o ⟨rfl,rfl⟩
 (refine vK ?_;with_reducible repeat' first|exact Le.l|apply Sw|intro h)
 (refine AW.i rfl (fun h=>?_) (fun h=>?_)<;>try simp only [hC,reduceCtorEq] at h)
 ·exact absurd h (by decide)
 (refine vK ?_;with_reducible repeat' first|exact Le.l|apply Sw|intro h)
 refine AW.aw [6] [0,1,2] (fun m xs o=>xs=[.v (.int .i64 20)]/\o=[]) 0 [] trivial ⟨?_,rfl⟩ ?_
 ·rfl
 rintro m xs o ⟨rfl,rfl⟩
 (refine vK ?_;with_reducible repeat' first|exact Le.l|apply Sw|intro h)
 (refine AW.i rfl (fun h=>?_) (fun h=>?_)<;>try simp only [hC,reduceCtorEq] at h)
 ·exact absurd h (by decide)
 ·all_goals exact uU
theorem Qu(d:List ae)(b:Nat)(l:List da)(n:Nat)(m:Int):dS lim Tryz.prog 257 [(b,some (rws l))] [.arr b 0 n 4,.v (.int .i64 m),.fn 200 [.vp [.sl false 19 (d.map (aq false))]]] (SrQ b (fun l'=>l'.Perm l/\Srt (ltV d) l')) (n=l.length/\m=n/\n<=1048576/\∀ r∈l,ij d r):=by
 refine dS.eO (aW 257) Tryz.func257 rfl rfl fun hp=>(?_);rw [Tryz.ntmps257]
 have gOn:=cY.on
 obtain ⟨hn,rfl,hb,hrb⟩:=hp
 have Xg:=fun b l n a e=>TJ d b l n a e
 have Xb:=fun b l n a m e=>Ny d 1048577 b l n a m e
 (refine vK ?_;with_reducible repeat' first|exact Le.l|apply Sw|intro h)
 refine AW.aw [7,8] [0,1,2,6] (fun k xs o=>∃ (a:Nat) (l1:List da) (i j:Int),xs=[.v (.int .i64 i),.v (.int .i64 j)]/\o=[(b,some (rws l1))]/\k=n - a/\i=a/\j=a+20/\a<=n/\20 ∣ a/\l1.Perm l/\nr (ltV d) 20 a l1) n [(b,some (rws l))] (aE rfl) ⟨0,l,0,20,rfl,rfl,rfl,rfl,rfl,by omega,Nat.dvd_zero _,.refl _,nr.zero (by omega)⟩ ?_
 rintro k xs o ⟨a,l1,i,j,rfl,rfl,rfl,hi,hj,han,hda,hp1,hpre⟩
 have hl1:=hp1.length_eq
 (refine vK ?_;with_reducible repeat' first|exact Le.l|apply Sw|intro h)
 (refine AW.i rfl (fun h=>?_) (fun h=>?_)<;>try simp only [hC,reduceCtorEq] at h)
 ·(refine vK ?_;with_reducible repeat' first|exact Le.l|apply Sw|intro h)
  ·exact hrb _ (hp1.mem_iff.1 (by assumption))
  ·rename List da=>l2
   rw [show i.toNat=a by omega,show j.toNat=a+20 by omega] at h
   exact ⟨_,[_,_],_,by omega,⟨a+20,l2,j,j+20,rfl,rfl,rfl,by omega,by omega,by omega,Nat.dvd_add hda (Nat.dvd_refl _),h.perm.trans hp1,hpre.step hda h⟩,rfl,aE rfl⟩
 (refine vK ?_;with_reducible repeat' first|exact Le.l|apply Sw|intro h)
 ·exact hrb _ (hp1.mem_iff.1 (by assumption))
 rename List da=>l2
 rw [show i.toNat=a by omega] at h
 have hp2:=h.perm.trans hp1
 have hall:xl (ltV d) 20 l2:=nr.all (fun p h1 h2=>h.before h2 (hpre p h1 h2)) hda (by omega) (by rw [hp2.length_eq];omega) (by rw [hp2.length_eq,<- hn];exact h.srt)
 clear h hpre hp1 hl1
 refine AW.aw [6] [0,1,2] (fun k xs o=>∃ (w:Nat) (l1:List da) (i:Int),xs=[.v (.int .i64 i)]/\o=[(b,some (rws l1))]/\k=n - w/\i=w/\0<w/\w<=2097172/\l1.Perm l/\xl (ltV d) w l1) (n - 20) [(b,some (rws l2))] (aE rfl) ⟨20,l2,20,rfl,rfl,rfl,rfl,by omega,by omega,hp2,hall⟩ ?_
 rintro k xs o ⟨w,l1,v,rfl,rfl,rfl,rfl,hw0,hwb,hp1,hall⟩
 have hl1:=hp1.length_eq
 (refine vK ?_;with_reducible repeat' first|exact Le.l|apply Sw|intro h)
 (refine AW.i rfl (fun h=>?_) (fun h=>?_)<;>try simp only [hC,reduceCtorEq] at h)
 ·(refine vK ?_;with_reducible repeat' first|exact Le.l|apply Sw|intro h)
  refine AW.aw [7,8] [0,1,2,6] (fun k xs o=>∃ (a:Nat) (l2:List da) (i j:Int),xs=[.v (.int .i64 i),.v (.int .i64 j)]/\o=[(b,some (rws l2))]/\k=n - a/\i=a/\j=a+2 * w/\a<=n/\2 * w ∣ a/\l2.Perm l/\nr (ltV d) (2 * w) a l2/\yM (ltV d) w a l2) n [(b,some (rws l1))] (aE rfl) ⟨0,l1,0,2 * w,?_,rfl,rfl,rfl,by omega,by omega,Nat.dvd_zero _,hp1,nr.zero (by omega),hall.post⟩ ?_
  ·rfl
  rintro k xs o ⟨a,l2,i,j,rfl,rfl,rfl,hi,hj,han,hda,hp2,hpre,hpost⟩
  have hl2:=hp2.length_eq
  have hdw:w ∣ a:=Nat.dvd_trans (Nat.dvd_mul_left w 2) hda
  have Um:w ∣ a+w:=Nat.dvd_add hdw (Nat.dvd_refl _)
  have hs1:=hpost a hdw (Nat.le_refl _)
  have hs2:=hpost (a+w) Um (by omega)
  (refine vK ?_;with_reducible repeat' first|exact Le.l|apply Sw|intro h)
  (refine AW.i rfl (fun h=>?_) (fun h=>?_)<;>try simp only [hC,reduceCtorEq] at h)
  ·rw [Nat.min_eq_left (by omega)] at hs1 hs2
   (refine vK ?_;with_reducible repeat' first|exact Le.l|apply Sw|intro h)
   ·exact hrb _ (hp2.mem_iff.1 (by assumption))
   ·rw [show i.toNat=a by omega,show (i+(w:Int)).toNat=a+w by omega];exact hs1
   ·rw [show (i+(w:Int)).toNat=a+w by omega,show j.toNat=a+w+w by omega];exact hs2
   ·rename List da=>l3
    rw [show i.toNat=a by omega,show j.toNat=a+2 * w by omega] at h
    exact ⟨_,[_,_],_,by omega,⟨a+2 * w,l3,j,j+2 * w,rfl,rfl,rfl,by omega,by omega,by omega,Nat.dvd_add hda (Nat.dvd_refl _),h.perm.trans hp2,hpre.step hda h,hpost.step h⟩,rfl,aE rfl⟩
  (refine vK ?_;with_reducible repeat' first|exact Le.l|apply Sw|intro h)
  (refine AW.i rfl (fun h=>?_) (fun h=>?_)<;>try simp only [hC,reduceCtorEq] at h)
  ·rw [Nat.min_eq_left (by omega)] at hs1
   rw [Nat.min_eq_right (by omega)] at hs2
   (refine vK ?_;with_reducible repeat' first|exact Le.l|apply Sw|intro h)
   ·exact hrb _ (hp2.mem_iff.1 (by assumption))
   ·rw [show i.toNat=a by omega,show (i+(w:Int)).toNat=a+w by omega];exact hs1
   ·rw [show (i+(w:Int)).toNat=a+w by omega,hn,<- hl2];exact hs2
   ·rename List da=>l3
    rw [show i.toNat=a by omega] at h
    have hp3:=h.perm.trans hp2
    exact ⟨_,[_],_,by omega,⟨2 * w,l3,_,rfl,rfl,rfl,by omega,by omega,by omega,hp3,nr.all (fun p h1 h2=>h.before h2 (hpre p h1 h2)) hda (by omega) (by rw [hp3.length_eq];omega) (by rw [hp3.length_eq,<- hn];exact h.srt)⟩,rfl,aE rfl⟩
  ·(refine vK ?_;with_reducible repeat' first|exact Le.l|apply Sw|intro h)
   rw [Nat.min_eq_right (by omega)] at hs1
   exact ⟨_,[_],_,by omega,⟨2 * w,l2,_,rfl,rfl,rfl,by omega,by omega,by omega,hp2,hpre.all hda (by omega) (by omega) hs1⟩,rfl,aE rfl⟩
 ·(refine vK ?_;with_reducible repeat' first|exact Le.l|apply Sw|intro h)
  exact lI.n (aF.sr _ rfl ⟨hp1,hall.one (by omega)⟩ (aE rfl))
instance U8(d:List ae)(b:Nat)(l:List da)(n:Nat):dS lim Tryz.prog 199 [(b,some (rws l))] [.arr b 0 n 4,.fn 200 [.vp [.sl false 19 (d.map (aq false))]]] (SrQ b (fun l'=>l'.Perm l/\Srt (ltV d) l')) (n=l.length/\n<=1048576/\∀ r∈l,ij d r):=by
 refine dS.eO (aW 199) Tryz.func199 rfl rfl fun hp=>(?_);rw [Tryz.ntmps199]
 obtain ⟨hn,hb,hrb⟩:=hp
 have hst:=fun b l n m=>Qu d b l n m
 (refine vK ?_;with_reducible repeat' first|exact Le.l|apply Sw|intro h)
 ·exact hrb _ (by assumption)
 ·exact lI.n (aF.sr _ rfl h (aE rfl))
instance U9(d:List ae):Ctr lim Tryz.prog 199 [] [.v (.slice none 0 0),.fn 200 [.vp [.sl false 19 (d.map (aq false))]]] (.tup []) [] True:=by
 refine Ctr.bd Tryz.func199 Tryz.ntmps199 rfl rfl fun hp=>?_
 have hst:=Qv d
 all_goals exact uU
end
end Go.Proofs
namespace Go.Ab
open Go.RowKit (Below)
attribute [go_sem] Array.empty_append
section
variable {L : Nat -> Nat} {n : Nat} {t : List (Nat × AV)} {o : Sto} {Q : AS -> Prop}
theorem Imp.vpO(i:Nat){b off:Nat}{cells:List AV}(hT:T t i=.ptr b off)(hO:O o b=some cells)(hn:AV.bA cells=true)(h:Q ⟨n,(i,.vp (cells.drop off))::t,(b,none)::o⟩):Imp L ⟨n,t,o⟩ Q:=by
 intro B F0 w0 a w hd
 refine ⟨_,h,?_⟩
 obtain ⟨F,own,fp,fs,hd⟩:=hd
 obtain ⟨hkey,_,_,c0,Ty0,lR,NV,hc0,um,hl0⟩:=hd.obj b _ hO
 rw [aj.dL hn hl0] at hl0
 classical
 let F':Nat->Prop:=fun k=>F k\/k=b
 let own':Nat->Own:=fun k=>if k=b then .none else own k
 have hid:Ext (fun _=>True) w w:=⟨Nat.le_refl _,fun _ _=>rfl,fun b c T z hc=>⟨c,hc,rfl⟩⟩
 have hb:=hd.ol b (by rw [hkey];simp)
 have hnot:∀ k,k≠b->own' k=own k:=fun k hk=>by simp only [own',if_neg hk]
 have hrow:fO w b 0 lR:=by
  refine ⟨c0,Ty0,(0,0),hc0,fun j hj=>?_⟩
  have:c0.toList[j]? = lR[j]?:=by rw [um,List.getElem?_append_left hj]
  rw [Nat.zero_add,<- this,Array.getElem?_toList]
 refine ⟨F',own',fp,fs,{ below:=hd.below,hB:=hd.hB,tb:=hd.tb,f0:=fun b hb=>.inl (hd.f0 b hb),fl:=?_,ol:=?_,defers:=hd.defers,size:=hd.size,slots:=?_,sn:=hd.sn,so:=?_,obj:=?_ }⟩
 ·rintro k (hk|rfl)
  ·have:=hd.fl k hk
   exact ⟨by simp only [own'];split<;>simp [this.1],this.2⟩
  ·exact ⟨by simp only [own',if_true],hb.2,.inr hb.1⟩
 ·intro k hk
  simp only [own'] at hk
  split at hk
  ·exact absurd rfl hk
  ·exact hd.ol k hk
 ·intro j
  rw [eX]
  by_cases e:i=j
  ·subst e
   simp only [if_true]
   have hr:=hd.slots i
   rw [hT] at hr
   simp only [Rep] at hr ⊢
   refine ⟨hr.2,b,off,lR.drop off,hr.1,.inr rfl,?_,?_⟩
   ·have:=hrow.cut off lR.length
    rw [List.take_of_length_le (by simp),Nat.zero_add] at this
    exact this
   ·obtain ⟨f',h1,h2⟩:=(aj.ext (F':=F') hid (fun b hb=>⟨.inl hb,trivial⟩) (fun _ _=>trivial) hl0).cut off (cells.length+lR.length)
    rw [List.take_of_length_le (by simp;omega),List.take_of_length_le (by simp;omega)] at h1
    have:f'=[]:=List.eq_nil_iff_forall_not_mem.2 fun b hb=>by simpa using h2 b hb
    rw [this] at h1;exact h1
  ·simp only [if_neg e]
   exact Rep.ext hid (fun b hb=>⟨.inl hb,trivial⟩) (fun _ _=>trivial) (hd.slots j)
 ·intro j k hk
  have:=hd.so j k hk
  rw [hnot k (fun e=>by rw [e,hkey] at this;cases this)];exact this
 ·intro q cs hq
  simp only [O] at hq
  split at hq
  ·cases hq
  ·rename_i hne
   have J5:q≠b:=fun e=>hne e.symm
   obtain ⟨g1,g2,g3,c,Ty,vals,rst,g4,g5,g6⟩:=hd.obj q cs hq
   refine ⟨by rw [hnot q J5];exact g1,g2,fun k hk=>by rw [hnot k (fun e=>by have:=g3 k hk;rw [e,hkey] at this;cases this)];exact g3 k hk,c,Ty,vals,rst,g4,g5,?_⟩
   exact aj.ext hid (fun b hb=>⟨.inl hb,trivial⟩) (fun _ _=>trivial) g6
end
end Go.Ab
