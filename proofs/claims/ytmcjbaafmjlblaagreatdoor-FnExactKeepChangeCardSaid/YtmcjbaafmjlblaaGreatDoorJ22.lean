/- A part. -/
import Derived.Lib.ItoaLen
import Derived.Test.YtmcjbaafmjlblaaGreatDoorJ21
set_option linter.all false
namespace Go.Dt
open Go.Ab
section
theorem FD(x:du)(k r:Int)(h0:0<=r)(h:0<=fj x r):(bg x k).2<=k+32+32 * (r - fj x r):=by
 simp only [bg]
 unfold fj;omega
def Es(x:dx)(k:Int):Int:=(mkL ay x.ax ((mkL bg x.aB (k+1)).2)).2+1+1
theorem Ip(x:dx)(k r:Int)(h0:0<=r)(h:0<=dB x r):Es x k<=k+3+32 * (r - dB x r):=by
 unfold Es
 unfold dB at h ⊢
 obtain ⟨a0,h⟩:=aX h
 rw [cE a0]
 have q0:=fJ mU FD x.aB (k+1) r h0 a0
 obtain ⟨a1,h⟩:=aX h
 rw [cE a1]
 have q1:=fJ aY mV x.ax ((mkL bg x.aB (k+1)).2) (aG fj x.aB r) a0 a1
 obtain ⟨a2,h⟩:=aX h
 rw [cE a2]
 have q2:=aY x.aW (aG aC x.ax (aG fj x.aB r)) a1
 obtain ⟨a3,h⟩:=aX h
 rw [cE a3]
 have q3:=aY x.aE (aC x.aW (aG aC x.ax (aG fj x.aB r))) a2
 simp only [id]
 omega
def Yx(x:dx)(k:Int):Unit×Int:=((),(mkL ay x.ax ((mkL bg x.aB k).2)).2)
theorem H0(x:eC)(k r:Int)(h0:0<=r)(h:0<=iH x r):(iJ x k).2<=k+32+32 * (r - iH x r):=by
 simp only [iJ]
 unfold iH at h ⊢
 obtain ⟨a0,h⟩:=aX h
 rw [cE a0]
 have q0:=aY x.ae r h0
 obtain ⟨a1,h⟩:=aX h
 rw [cE a1]
 have q1:=aY x.av (aC x.ae r) a0
 simp only [id]
 omega
theorem H2(x:GStep)(k r:Int)(h0:0<=r)(h:0<=iI x r):(eZ x k).2<=k+32+32 * (r - iI x r):=by
 simp only [eZ]
 unfold iI at h ⊢
 obtain ⟨a0,h⟩:=aX h
 rw [cE a0]
 have q0:=aY x.ae r h0
 obtain ⟨a1,h⟩:=aX h
 rw [cE a1]
 have q1:=fJ mF H0 x.b8 (k+1) (aC x.ae r) a0 a1
 simp only [id]
 omega
def Et(x:eO)(k:Int):Int:=(mkL eZ x.aN (k+1+1)).2
theorem Iq(x:eO)(k r:Int)(h0:0<=r)(h:0<=jr x r):Et x k<=k+2+32 * (r - jr x r):=by
 unfold Et
 unfold jr at h ⊢
 obtain ⟨a0,h⟩:=aX h
 rw [cE a0]
 have q0:=fJ mG H2 x.aN (k+1+1) r h0 a0
 simp only [id]
 omega
def Yy(x:eO)(k:Int):Unit×Int:=((),(mkL eZ x.aN k).2)
theorem sG(x:aO)(k r:Int)(h0:0<=r)(h:0<=cq x r):(cu x k).2<=k+32+32 * (r - cq x r):=by
 rw [qv];simp only
 rw [uq] at h ⊢
 obtain ⟨a0,h⟩:=aX h
 rw [cE a0]
 have q0:=aY x.cg r h0
 obtain ⟨a1,h⟩:=aX h
 rw [cE a1]
 have q1:=Iq x.aE (k+1+1+1) (aC x.cg r) a0 a1
 simp only [Et] at q1
 obtain ⟨a2,h⟩:=aX h
 rw [cE a2]
 have q2:=p8 eS x.af (fun y hy=>sG y) ((mkL eZ x.aE.aN (k+1+1+1+1+1)).2) (jr x.aE (aC x.cg r)) a1 a2
 simp only [id]
 omega
termination_by SizeOf.sizeOf x
decreasing_by have:=List.sizeOf_lt_of_mem hy;cases x;simp [aO.af] at *;omega
theorem mW(x:ag)(k r:Int)(h0:0<=r)(h:0<=aL x r):(ct x k).2<=k+32+32 * (r - aL x r):=by
 rw [nV];simp only
 rw [qW] at h ⊢
 obtain ⟨a0,h⟩:=aX h
 rw [cE a0]
 have q0:=aY x.ae r h0
 obtain ⟨a1,h⟩:=aX h
 rw [cE a1]
 have q1:=Ip x.fType (k+1+1) (aC x.ae r) a0 a1
 simp only [Es] at q1
 obtain ⟨a2,h⟩:=aX h
 rw [cE a2]
 have q2:=fJ aY mV x.aw ((mkL ay x.fType.ax ((mkL bg x.fType.aB (k+1+1+1)).2)).2+1+1) (dB x.fType (aC x.ae r)) a1 a2
 obtain ⟨a3,h⟩:=aX h
 rw [cE a3]
 have q3:=fJ aY mV x.aD ((mkL ay x.aw ((mkL ay x.fType.ax ((mkL bg x.fType.aB (k+1+1+1)).2)).2+1+1)).2) (aG aC x.aw (dB x.fType (aC x.ae r))) a2 a3
 obtain ⟨a4,h⟩:=aX h
 rw [cE a4]
 have q4:=aY x.bh (aG aC x.aD (aG aC x.aw (dB x.fType (aC x.ae r)))) a3
 obtain ⟨a5,h⟩:=aX h
 rw [cE a5]
 have q5:=fJ eS sG x.bz ((mkL ay x.aD ((mkL ay x.aw ((mkL ay x.fType.ax ((mkL bg x.fType.aB (k+1+1+1)).2)).2+1+1)).2)).2+1+1+1+1+1+1+1) (aC x.bh (aG aC x.aD (aG aC x.aw (dB x.fType (aC x.ae r))))) a4 a5
 obtain ⟨a6,h⟩:=aX h
 rw [cE a6]
 have q6:=fJ eS sG x.bY ((mkL cu x.bz ((mkL ay x.aD ((mkL ay x.aw ((mkL ay x.fType.ax ((mkL bg x.fType.aB (k+1+1+1)).2)).2+1+1)).2)).2+1+1+1+1+1+1+1)).2) (aG cq x.bz (aC x.bh (aG aC x.aD (aG aC x.aw (dB x.fType (aC x.ae r)))))) a5 a6
 obtain ⟨a7,h⟩:=aX h
 rw [cE a7]
 have q7:=p8 cV x.af (fun y hy=>mW y) ((mkL cu x.bY ((mkL cu x.bz ((mkL ay x.aD ((mkL ay x.aw ((mkL ay x.fType.ax ((mkL bg x.fType.aB (k+1+1+1)).2)).2+1+1)).2)).2+1+1+1+1+1+1+1)).2)).2) (aG cq x.bY (aG cq x.bz (aC x.bh (aG aC x.aD (aG aC x.aw (dB x.fType (aC x.ae r))))))) a6 a7
 simp only [id]
 omega
termination_by SizeOf.sizeOf x
decreasing_by have:=List.sizeOf_lt_of_mem hy;cases x;simp [ag.af] at *;omega
theorem pj(x:ah)(k r:Int)(h0:0<=r)(h:0<=bM x r):(aT x k).2<=k+32+32 * (r - bM x r):=by
 rw [mJ];simp only
 rw [uo] at h ⊢
 obtain ⟨a0,h⟩:=aX h
 rw [cE a0]
 have q0:=aY x.ae r h0
 obtain ⟨a1,h⟩:=aX h
 rw [cE a1]
 have q1:=aY x.av (aC x.ae r) a0
 obtain ⟨a2,h⟩:=aX h
 rw [cE a2]
 have q2:=p8 dC x.af (fun y hy=>pj y) (k+1+1) (aC x.av (aC x.ae r)) a1 a2
 simp only [id]
 omega
termination_by SizeOf.sizeOf x
decreasing_by have:=List.sizeOf_lt_of_mem hy;cases x;simp [ah.af] at *;omega
end
section
theorem sI(x:au)(k r:Int)(h0:0<=r)(h:0<=dM x r):(cf x k).2<=k+32+32 * (r - dM x r):=by
 rw [mK];simp only
 rw [ur] at h ⊢
 obtain ⟨a0,h⟩:=aX h
 rw [cE a0]
 have q0:=aY x.ae r h0
 obtain ⟨a1,h⟩:=aX h
 rw [cE a1]
 have q1:=aY x.av (aC x.ae r) a0
 obtain ⟨a2,h⟩:=aX h
 rw [cE a2]
 have q2:=p8 fT x.af (fun y hy=>sI y) (k+1+1+1) (aC x.av (aC x.ae r)) a1 a2
 simp only [id]
 omega
termination_by SizeOf.sizeOf x
decreasing_by have:=List.sizeOf_lt_of_mem hy;cases x;simp [au.af] at *;omega
end
section
def eJ(x:List au)(k:Int):List au×Int:=mkL cf x k
theorem kD(x:List au)(k:Int):k<=(eJ x k).2:=by have:=bG eT x k;unfold eJ;omega
theorem FE(x:List au)(k r:Int)(h0:0<=r)(h:0<=gW x r):(eJ x k).2<=k+32+32 * (r - gW x r):=by
 have:=fJ fT sI x k r h0 h
 unfold eJ
 have e:gW x r=aG dM x r:=rfl
 omega
end
end Go.Dt
namespace Go.Dt
open Go Go.Ab
section
theorem F5(x:ah)(l:List ah):wt (x::l)=1+x.ae.length+x.av.length+wt x.af+wt l:=by
 cases x;simp only [wt,wtg,List.length_cons,ah.ae,ah.av,ah.af];omega
theorem C5:wt []=0:=by simp [wt,wtg]
def VH(s:List ag)(w:dm)(a b:List ah):Bool:=bp s a && bp s b && !smT (I9 s a w.ax) (I9 s b w.ax) && decide (w.bt.length<20)
def ZB(s:List ag)(w:dm)(a b:List ah):List (List au):=if VH s w a b=true then w.bt++[ko s (I9 s a w.ax) (I9 s b w.ax)] else w.bt
end
section
theorem wK(a b:List ah)(x:ah):cnt (a++x::b)=1+cnt x.af+cnt (a++b):=by rw [si,gY,si];omega
theorem Hy(l:List ah)(i:Nat):cnt (l.eraseIdx i)<=cnt l:=by
 rw [rX,si]
 have h1:cnt l=cnt (l.take i)+cnt (l.drop i):=by rw [<- si,List.take_append_drop]
 have h2:cnt (l.drop (i+1))<=cnt (l.drop i):=by
  by_cases h:i<l.length
  ·rw [da h,gY];omega
  ·rw [dh h,List.drop_eq_nil_of_le (by omega)];omega
 omega
theorem R5(l:List ah)(i:Int):cnt (dl l i)<=cnt l:=by
 unfold dl;split
 ·exact Hy l _
 ·omega
theorem zP(p:ah->Bool):∀ l:List ah,cnt (l.filter p)<=cnt l
 | []=>by simp
 | x::xs=>by
  have:=zP p xs
  rw [List.filter_cons];split
  ·rw [gY,gY];omega
  ·rw [gY];omega
theorem Hx(s:List ag)(l:List ah)(x:ah):cnt (ins s l x)=1+cnt x.af+cnt l:=by rw [ins,wK,List.take_append_drop]
theorem Hw{l:List ah}{i:Nat}{y:ah}(h:i<l.length):cnt (l.set i y)+cnt (at_ l i).af=cnt l+cnt y.af:=by
 rw [rA h,wK]
 have:cnt l=1+cnt (at_ l i).af+cnt (l.take i++l.drop (i+1)):=by
  conv=>lhs;rw [nz h]
  rw [wK]
 omega
theorem Gi{l:List ah}{i:Nat}{y:ah}(h:¬ i<l.length):l.set i y=l:=by rw [List.set_eq_of_length_le (by omega)]
theorem Sh{l:List ah}{i:Nat}(h:¬ i<l.length):at_ l i=default:=by unfold at_;rw [List.getElem?_eq_none (by omega)];rfl
theorem Ap{R:Rec}{c:Nat}(hR:∀ s l,cnt (R s l).1<=cnt l+c)(s:List ag)(l:List ah)(e:au):cnt (one R s l e).1<=cnt l+(1+c):=by
 have hc:∀ l',cnt l'<=cnt l->∀ n,cnt (crt R s l' n e).1<=cnt l+(1+c):=fun l' h n=>by
  have h1:=hR n.af []
  have h2:cnt (wo s n.ae l')<=cnt l':=zP _ _
  rw [lT] at h1
  unfold crt;repeat' split
  ·rw [Hx];simp only [ah.af,lT];omega
  ·rw [lT];omega
  ·simp only;omega
  ·rw [Hx];simp only [ah.af];omega
 have hm:∀ i n,cnt (mrg R l i n e).1<=cnt l+(1+c):=fun i n=>by
  have h1:=hR n.af (at_ l i).af
  unfold mrg;repeat' split
  ·by_cases h:i<l.length
   ·have:=Hw (y:=.mk (at_ l i).ae (cvS n.fType e.av) (at_ l i).af) h
    simp only [ah.af] at this ⊢;omega
   ·simp only [Gi h];omega
  ·rw [lT];omega
  ·have:=Hy l i;simp only;omega
  ·by_cases h:i<l.length
   ·have:=Hw (y:=.mk (at_ l i).ae (at_ l i).av (R n.af (at_ l i).af).1) h
    simp only [ah.af] at this h1 ⊢;omega
   ·simp only [Gi h];omega
  ·simp only;omega
 have hd:=R5 l (fnd (nd s e.ae) l (bQ (nd s e.ae) e))
 unfold one;repeat' split
 all_goals first|(rw [lT];omega)|(simp only;omega)|exact hm _ _|exact hc _ hd _
theorem rJ:∀ (es:List au) (s:List ag) (l:List ah),cnt (mdE es s l).1<=cnt l+cY es
 | [],s,l=>by rw [mdE];simp only [fR];omega
 | .mk op nm v ks::es,s,l=>by
  rw [sS]
  split
  ·rw [lT];omega
  ·have h1:=Ap (R:=mdE ks) (c:=cY ks) (fun s l=>rJ ks s l) s l (.mk op nm v ks)
   have h2:=rJ es s (one (mdE ks) s l (.mk op nm v ks)).1
   rw [gN]
   simp only [au.af] at *
   omega
def sv:List ah->Prop
 | []=>True
 | .mk nm v ks::xs=>nm.length<=16/\v.length<=40/\sv ks/\sv xs
def svX(x:ah):Prop:=x.ae.length<=16/\x.av.length<=40/\sv x.af
theorem uy:∀ {l:List ah},sv l↔∀ x∈l,svX x
 | []=>by simp [sv]
 | .mk nm v ks::xs=>by
  rw [sv,uy (l:=xs)]
  constructor
  ·rintro ⟨a,b,c,d⟩ x hx
   rcases List.mem_cons.1 hx with rfl|hx
   ·exact ⟨a,b,c⟩
   ·exact d x hx
  ·intro h
   have:=h (.mk nm v ks) (by simp)
   exact ⟨this.1,this.2.1,this.2.2,fun x hx=>h x (by simp [hx])⟩
theorem HZ:∀ {l:List ah},sv l->wt l<=57 * cnt l
 | [],_=>by rw [C5];omega
 | .mk nm v ks::xs,h=>by
  rw [sv] at h
  have h1:=HZ h.2.2.1
  have h2:=HZ h.2.2.2
  rw [F5,gY]
  simp only [ah.ae,ah.av,ah.af]
  omega
theorem DU{s:Str}(h:isName s=true):s.length<=16:=by
 simp only [isName,Bool.and_eq_true,decide_eq_true_eq] at h;exact h.2.1.2
theorem Dj{s:Str}(h:isText s=true):s.length<=40:=by
 simp only [isText,Bool.and_eq_true,decide_eq_true_eq] at h;exact h.2
theorem vM{p:Nat->Bool}:∀ {n j:Nat},cO p n=true->j<n->p j=true
 | n+1,j,h,hj=>by
  rw [cO,Bool.and_eq_true] at h
  by_cases e:j=n
  ·subst e;first|exact h.2|exact h.1
  ·first|exact vM h.1 (by omega)|exact vM h.2 (by omega)
theorem J4{l:List Str}(h:names l=true){s:Str}(hs:s∈l):isName s=true:=by
 obtain ⟨i,hi,rfl⟩:=List.getElem_of_mem hs
 have:=vM h hi
 rw [show at_ l i=l[i] by unfold at_;rw [List.getElem?_eq_getElem hi];rfl] at this
 exact this
theorem Bj(t:dx)(s:Str):(cvS t s).length<=40:=by
 unfold cvS
 cases h:cvB t s with
 | false=>simp
 | true =>
  rw [cond_true,cvT]
  simp only [cvB,Bool.and_eq_true] at h
  obtain ⟨hT,hO⟩:=h
  unfold cvO at hO
  split
  ·have:=Al s
   have:=Lib.itoa_length_le (ic s) (by omega) (by omega);omega
  ·rename_i h1
   rw [if_neg h1] at hO
   split
   ·rename_i h3
    rw [if_neg (by omega),if_pos h3,Bool.or_eq_true,beq_iff_eq,beq_iff_eq] at hO
    rcases hO with e|e<;>rw [e]<;>decide
   ·rename_i h3
    split at hO
    ·simp only [Bool.and_eq_true] at hO;exact Dj hO.1.1
    ·skip
     split at hO
     ·rename_i h4
      rw [qF h4] at hT
      simp only [Bool.and_eq_true] at hT
      have:=DU (J4 hT.1.1.1.1.2 ((lA _ _).1 hO));omega
     ·split at hO
      ·simp only [Bool.and_eq_true] at hO;exact Dj hO.2
      ·split at hO
       ·rw [of_decide_eq_true hO];simp
       ·cases hO
theorem Ox{t:dx}{s:Str}(h:isVal t s=true):s.length<=40:=by
 simp only [isVal,Bool.and_eq_true,beq_iff_eq] at h
 rw [<- h.2];exact Bj t s
theorem Hm{s:List ag}(h:gdS s){n:ag}(hn:n∈dk s):n.ae.length<=16:=by
 obtain ⟨_,kind,bd,hA⟩:=h
 obtain ⟨⟨kd,b,ho⟩,_⟩:=wu s kind bd hA n hn
 simp only [iE,j0,ml,Bool.and_eq_true] at ho
 refine DU ?_
 first|exact ho.1.1.1.1.1.1.1.1|exact ho.1.1.1.1.1.1.1|exact ho.1.1.1.1.1.1.1.1.1|exact ho.1.1.1.1.1.1
theorem Js{s:List ag}{l:List ah}{x:ah}(h:sv l)(hx:svX x):sv (ins s l x):=by
 rw [uy] at h ⊢
 intro y hy
 rw [ins,List.mem_append,List.mem_cons] at hy
 rcases hy with hy|rfl|hy
 ·exact h y (List.mem_of_mem_take hy)
 ·exact hx
 ·exact h y (List.mem_of_mem_drop hy)
theorem Dm{l l':List ah}(h:l'.Sublist l)(hl:sv l):sv l':=by
 rw [uy] at hl ⊢;exact fun x hx=>hl x (h.subset hx)
theorem Jr{l:List ah}{i:Nat}{y:ah}(h:sv l)(hy:svX y):sv (l.set i y):=by
 rw [uy] at h ⊢
 intro x hx
 rcases List.mem_or_eq_of_mem_set hx with hx|rfl
 ·exact h x hx
 ·exact hy
theorem Tj{l:List ah}(h:sv l)(i:Nat):svX (at_ l i):=by
 by_cases hi:i<l.length
 ·exact uy.1 h _ (at_mem hi)
 ·rw [Sh hi];exact ⟨by decide,by decide,by show sv [];rw [sv];trivial⟩
theorem QX{R:Rec}{s:List ag}{l:List ah}{e:au}(hg:gdS s)(hl:sv l)(hR:∀ n∈dk s,∀ l,sv l->sv (R n.af l).1):sv (one R s l e).1:=by
 have hnil:sv []:=by rw [sv];trivial
 unfold one
 by_cases c:idx (nmP e.ae) (dk s)<0
 ·rw [if_pos c];exact hnil
 rw [if_neg c]
 have hn:=(fI (s:=s) (k:=e.ae) (by omega)).2
 have hd:=Dm (zN l (fnd (nd s e.ae) l (bQ (nd s e.ae) e))) hl
 have hnm:=Hm hg hn
 have hc:∀ l',sv l'->sv (crt R s l' (nd s e.ae) e).1:=fun l' h=>by
  have hw:=Dm (pW s (nd s e.ae).ae l') h
  have hr:=hR _ hn [] hnil
  unfold crt;repeat' split
  ·exact Js hw ⟨hnm,Bj _ _,hnil⟩
  ·exact hnil
  ·exact h
  ·exact Js hw ⟨hnm,by simp [ah.av],hr⟩
 have hm:∀ i,sv (mrg R l i (nd s e.ae) e).1:=fun i=>by
  have ha:=Tj hl i
  have hr:=hR _ hn _ ha.2.2
  unfold mrg;repeat' split
  ·exact Jr hl ⟨ha.1,Bj _ _,ha.2.2⟩
  ·exact hnil
  ·exact Dm (List.eraseIdx_sublist ..) hl
  ·exact Jr hl ⟨ha.1,ha.2.1,hr⟩
  ·exact hl
 repeat' split
 all_goals first|exact hnil|exact hl|exact hd|exact hm _|exact hc _ hd
theorem D1:∀ (es:List au) (s:List ag) (l:List ah),gdS s->sv l->sv (mdE es s l).1
 | [],s,l,_,h=>by rw [mdE];exact h
 | .mk op nm v ks::es,s,l,hg,h=>by
  rw [sS]
  split
  ·rw [sv];trivial
  ·exact D1 es s _ hg (QX (R:=mdE ks) hg h fun n hn l hl=>D1 ks n.af l (kz hg hn).1 hl)
theorem Ag:∀ (l:List ah) (s:List ag),gdS s->(∀ x∈l,okX (dk s) x)->sv l
 | [],s,_,_=>by rw [sv];trivial
 | .mk nm v ks::xs,s,hg,h=>by
  have hx:=h (.mk nm v ks) (by simp)
  have hm:=iv hx
  have h1:=Hm hg hm.2
  rw [hm.1] at h1
  have h2:=Ag xs s hg fun y hy=>h y (by simp [hy])
  rw [sv]
  by_cases c:(at_ (dk s) (idx (nmP (ah.mk nm v ks).ae) (dk s)).toNat).ai=3\/(at_ (dk s) (idx (nmP (ah.mk nm v ks).ae) (dk s)).toNat).ai=4
  ·have h3:=L0 hx.2 c
   have h4:=hx.2
   rw [okN,if_pos c,Bool.and_eq_true] at h4
   have h3':ks=[]:=h3
   subst h3'
   exact ⟨h1,Ox h4.2,by rw [sv];trivial,h2⟩
  ·have h3:=xP hx.2 c
   have h4:v=[]:=h3.1
   subst h4
   exact ⟨h1,by simp,Ag ks _ (kz hg hm.2).1 (lI h3.2.1),h2⟩
theorem qG{s:List ag}{l:List ah}(h:bp s l=true):sv l/\cnt l<=120:=by
 simp only [bp,Bool.and_eq_true,decide_eq_true_eq] at h
 exact ⟨Ag l s (pK h.1.1) (lI h.2),h.1.2⟩
theorem Ay{s:List ag}{l:List ah}(es:List au)(h:bp s l=true):cnt (mdE es s l).1<=120+cY es/\(cnt (mdE es s l).1<=120->wt (mdE es s l).1<=6840):=by
 have h1:=qG h
 have h2:=rJ es s l
 refine ⟨by omega,fun c=>?_⟩
 have h3:=h
 simp only [bp,Bool.and_eq_true] at h3
 have:=HZ (D1 es s l (pK h3.1.1) h1.1)
 omega
theorem uK(s:List ag)(l:List ah)(es:List au):wt (mdT s l es).1<=wt l+6840/\((mdT s l es).2=0->bp s (mdT s l es).1=true/\wt (mdT s l es).1<=6840):=by
 unfold mdT
 by_cases c1:bp s l=false
 ·rw [if_pos c1];exact ⟨by simp only;omega,fun h=>by simp at h⟩
 rw [if_neg c1]
 by_cases c2:¬ (mdE es s l).2=0
 ·rw [if_pos c2];exact ⟨by simp only;omega,fun h=>absurd h c2⟩
 rw [if_neg c2]
 by_cases c3:bp s (mdE es s l).1=false
 ·rw [if_pos c3];exact ⟨by simp only;omega,fun h=>by simp at h⟩
 rw [if_neg c3]
 have h3:bp s (mdE es s l).1=true:=by simpa using c3
 have h4:=(Ay es (by simpa using c1:bp s l=true)).2 (qG h3).2
 exact ⟨by simp only;omega,fun _=>⟨h3,h4⟩⟩
def mxE:List au->Nat
 | []=>0
 | .mk _ n v ks::xs=>max (max n.length v.length) (max (mxE ks) (mxE xs))
theorem iz:mxE []=0:=by rw [mxE]
theorem j7(x:au)(l:List au):mxE (x::l)=max (max x.ae.length x.av.length) (max (mxE x.af) (mxE l)):=by cases x;rw [mxE];rfl
def wtE(l:List au):Nat:=max (cY l) (mxE l)
theorem tG(l:List au):cY l<=wtE l:=Nat.le_max_left _ _
theorem vY{l:List au}{x:au}(h:x∈l):x.ae.length<=wtE l/\x.av.length<=wtE l/\wtE x.af<=wtE l:=by
 induction l with
 | nil=>simp at h
 | cons y l ih =>
  simp only [wtE,j7,gN] at *
  rcases List.mem_cons.1 h with rfl|h
  ·omega
  ·have:=ih h;omega
end
section
theorem wz{l:List ag}{x:ag}(h:x∈l):SizeOf.sizeOf x.af<SizeOf.sizeOf l:=by
 have:=List.sizeOf_lt_of_mem h
 cases x;simp [ag.af] at *;omega
theorem lB(x:ag)(xs:List ag):bE (x::xs)=1+bE x.af+bE xs:=by cases x;rw [bE];rfl
theorem pS{l:List ag}{x:ag}(h:x∈l):1+bE x.af<=bE l:=by
 induction l with
 | nil=>simp at h
 | cons y l ih =>
  rw [lB]
  rcases List.mem_cons.1 h with rfl|h
  ·omega
  ·have:=ih h;omega
theorem vB:∀ (l:List ag),(dk l).length<=bE l
 | []=>by simp [dk]
 | .mk k a b c d e f g h i j l m n ks::xs=>by
  have h1:=vB ks
  have h2:=vB xs
  rw [dk,bE,List.length_append]
  split
  ·rw [List.length_singleton];omega
  ·split
   ·omega
   ·simp only [List.length_nil];omega
theorem uI(all:List ag)(i j:Nat):j6 all i (j+1)=j6 all i j++(if j=i then [] else nmS (dk (at_ all j).af)):=by
 rw [j6,List.range_succ,List.flatMap_append];simp [j6]
theorem Hz:∀ (all:List ag) (j:Nat),j<all.length->bE (all.take j)+1+bE (at_ all j).af=bE (all.take (j+1))
 | x::xs,0,_=>by rw [List.take_zero,List.take_succ_cons,List.take_zero,lB];simp [bE,at_]
 | x::xs,j+1,h=>by
  have:=Hz xs j (by simpa using h)
  rw [List.take_succ_cons,List.take_succ_cons,lB,lB,Bq];omega
theorem yF:∀ (all:List ag) (j:Nat),bE (all.take j)<=bE all
 | [],j=>by simp
 | x::xs,0=>by simp [bE]
 | x::xs,j+1=>by rw [List.take_succ_cons,lB,lB];have:=yF xs j;omega
theorem wi(all:List ag)(i:Nat):∀ (j:Nat),j<=all.length->(j6 all i j).length+(if i<j then bE (at_ all i).af else 0)<=bE (all.take j)
 | 0,_=>by simp [j6]
 | j+1,h=>by
  have h1:=wi all i j (by omega)
  have h2:=Hz all j (by omega)
  have h3:=vB (at_ all j).af
  rw [uI,List.length_append]
  by_cases e:j=i
  ·subst e
   rw [if_neg (by omega)] at h1
   rw [if_pos rfl,if_pos (by omega)]
   simp only [List.length_nil];omega
  ·rw [if_neg e,nmS,List.length_map]
   by_cases c:i<j
   ·rw [if_pos c] at h1;rw [if_pos (by omega)];omega
   ·rw [if_neg c] at h1;rw [if_neg (by omega)];omega
theorem PV{α:Type}[Inhabited α]{l xs:List α}{i:Nat}{x:α}(h:l.drop i=x::xs):i<l.length/\at_ l i=x/\l.drop (i+1)=xs:=by
 have hi:i<l.length:=by
  rcases Nat.lt_or_ge i l.length with c|c
  ·exact c
  ·rw [List.drop_eq_nil_of_le c] at h;cases h
 rw [da hi] at h
 injection h with a b
 exact ⟨hi,a,b⟩
mutual
theorem pL:∀ (s:List ag) (nm:Str) (o:List Str),oth s nm=some o->o.length<=bE s
 | [],_,_,h=>by simp [oth] at h
 | .mk kd a b c d e f g h i j l m n ks::xs,nm,o,ho=>by
  rw [oth] at ho
  rw [bE]
  split at ho
  ·injection ho with ho;subst ho;simp
  ·split at ho
   ·cases hC:jK ks 0 ks nm with
    | some o2 =>
     rw [hC] at ho
     injection ho with ho;subst ho
     have:=DM ks 0 ks nm o2 rfl hC
     omega
    | none=>rw [hC] at ho;have:=pL xs nm o ho;omega
   ·have:=pL xs nm o ho;omega
theorem DM:∀ (all:List ag) (i:Nat) (xs:List ag) (nm:Str) (o:List Str),all.drop i=xs->jK all i xs nm=some o->o.length<=bE all
 | _,_,[],_,_,_,h=>by simp [jK] at h
 | all,i,.mk kd a b c d e f g h i' j l m n ks::xs,nm,o,hx,ho=>by
  obtain ⟨h1,h2,h3⟩:=PV hx
  rw [jK] at ho
  cases hC:oth ks nm with
  | some o2 =>
   rw [hC] at ho
   injection ho with ho;subst ho
   have h4:=pL ks nm o2 hC
   have h5:=wi all i all.length (Nat.le_refl _)
   rw [List.take_length,if_pos h1,h2] at h5
   rw [List.length_append]
   simp only [ag.af] at h5
   omega
  | none =>
   rw [hC] at ho
   exact DM all (i+1) xs nm o h3 ho
end
theorem DL(s:List ag)(nm:Str):(iq s nm).length<=bE s:=by
 unfold iq
 cases h:oth s nm with
 | none=>simp
 | some o=>exact pL s nm o h
end
end Go.Dt
