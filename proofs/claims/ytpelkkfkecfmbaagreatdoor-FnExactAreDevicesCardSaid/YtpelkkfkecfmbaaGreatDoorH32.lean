/- Part of a proof. -/
import Derived.Test.YtpelkkfkecfmbaaGreatDoorH30
import Derived.Test.YtpelkkfkecfmbaaGreatDoorH31
set_option linter.all false
set_option maxRecDepth 20000
set_option maxHeartbeats 4000000
open Go.Proofs.Tryz
namespace Go.Dt
open Go Go.Ab
def flF(f:Nat)(s:List ae)(l:List ah)(i:Nat):List ah:=(List.range i).flatMap fun j=>chk f s l (at_ (dk s) j) j
def jJ(f:Nat)(s:List ae)(l:List ah)(i:Nat):flF f s l (i+1)=flF f s l i++chk f s l (at_ (dk s) i) i:=y7 _ i
def GZ(f:Nat)(s:List ae)(l:List ah):flF f s l 0=[]:=rfl
def TJ(f:Nat)(s:List ae)(l:List ah):ez (f+1) s l=flF f s l (dk s).length:=rfl
def TR(f:Nat)(s:List ae)(l:List ah)(n:ae)(i:Nat):(chk f s l n i).length<=l.length+1:=by
 have:=List.length_filter_le (ndP n.ag) l;unfold chk;repeat' split
 all_goals simp
 all_goals omega
def JN(f:Nat)(s:List ae)(l:List ah):∀ i:Nat,(flF f s l i).length<=i * (l.length+1)
 | 0=>by rw [GZ];simp
 | i+1=>by
  rw [jJ,List.length_append,Nat.succ_mul];have:=JN f s l i;have:=TR f s l (at_ (dk s) i) i;omega
attribute [irreducible] flF
end Go.Dt
namespace Go.Proofs
open Go.Ab Go.Dt
def Tu(l:List Bool):AV.bg (l.map fun b=>AV.ac b)=l.map fun b=>AV.ac b:=fK _ _ (fun _=>rfl) l
attribute [local go_sem] aM aC aR iB oq Jk Cc Tu jU
def Ba(l:List ah):∀ x,x∈l.map (ak false)->x.elem 3=true:=fI (fun x=>by rw [dD];try rfl) _
def Bk:∀ l:List ah,AV.jN ((l.map (ak false)).flatMap AV.cells)=[]
 | []=>rfl
 | x::l=>by
  have:=Bk l;rw [List.map_cons,List.flatMap_cons,dD];exact this
def GJ:∀ l:List ah,AV.bg ((l.map (ak false)).flatMap AV.cells)=(l.map (ak false)).flatMap AV.cells
 | []=>rfl
 | x::l=>by
  have:=GJ l;rw [List.map_cons,List.flatMap_cons,dD];show AV.str x.ag::AV.str x.ax::AV.frz (.sl false 3 (x.af.map (ak false)))::AV.bg ((l.map (ak false)).flatMap AV.cells)=_;rw [this,AV.frz,oq];rfl
def CH:∀ a b:List AV,AV.bg (a++b)=AV.bg a++AV.bg b
 | [],b=>rfl
 | x::a,b=>congrArg (AV.frz x::·) (CH a b)
def CL(l:List ah):((l.map (ak false)).flatMap AV.cells).length=l.length * 3:=by rw [db (sz:=3) (Ba _),List.length_map]
def WN{l:List ah}{i:Nat}(hi:i<l.length):(l.map (ak false)).flatMap AV.cells=((l.take i).map (ak false)).flatMap AV.cells++((cNo (at_ l i))++((l.drop (i+1)).map (ak false)).flatMap AV.cells):=by
 conv=>lhs;rw [N9 hi,List.map_append,List.map_cons,List.flatMap_append,List.flatMap_cons,dD]
 rfl
def QT{l:List ah}{i:Nat}{y:ah}(hi:i<l.length):((l.set i y).map (ak false)).flatMap AV.cells=((l.take i).map (ak false)).flatMap AV.cells++((cNo y)++((l.drop (i+1)).map (ak false)).flatMap AV.cells):=by rw [Mg hi,List.map_append,List.map_cons,List.flatMap_append,List.flatMap_cons,dD];rfl
theorem Nz:∀ (f:Nat) (s:List ae) (l:List ah),Ctr lim prog 161 [] [.sl false 19 (s.map (aq false)),.sl false 3 (l.map (ak false))] (.sl true 3 ((ez f s l).map (ak false))) [] (aW s<f/\cnt l<=1000/\aH s<=1000)
 | 0,s,l=>⟨(aU 161),fun h=>absurd h.1 (Nat.not_lt_zero _)⟩
 | f+1,s,l=>by
  have ih:=Nz f
  have iN:=PL l;refine Ctr.bd func161 ntmps161 fun hp=>?_;have gOn:=aD.on;obtain ⟨hd,hc,hs⟩:=hp;have hl:=Nat.le_trans (xP l) hc
  have hdl:=Nat.le_trans (tQ s) hs
  have aeH:=tT s false;refine vN1 ?_;refine Z ?_;refine vN1 ?_;refine Z ?_;refine vN1 ?_;refine AW.imp (Imp.frz 5 ?_);refine gS ?_;refine AW.imp (Imp.frz 6 ?_);refine gS ?_;refine vK1 ?_;refine AW.aw [7,21] [0,1,6,19,20] (fun m xs o=>∃ i:Nat,xs=[.sl true 3 ((flF f s l i).map (ak false)),.aa i]/\o=[]/\m=(dk s).length - i/\i<=(dk s).length) (dk s).length [] trivial ⟨0,by rw [GZ];rfl,rfl,rfl,Nat.zero_le _⟩ ?_;rintro m xs o ⟨i,rfl,rfl,rfl,hi⟩;have hrl:=JN f s l i
  have hil:i * (l.length+1)<=1000 * 1001:=Nat.mul_le_mul Ir Ir;refine vK1 ?_;refine AW.c (fun h=>?_) fun h=>?_
  ·have hi1:=h
   have hm:=at_mem hi1
   have hkc:=Nat.le_trans (Nat.le_trans (Nat.le_add_left _ _) (tP s _ hm)) hs
   have hkd:=Bz s _ hm;refine vN1 ?_;refine Z ?_
   (refine vN1 ?_;intro h)
   rename Nat=>b9
   refine AW.imp (Imp.vpO 9 (b:=b9) (off:=0) (cells:=jU (at_ (dk s) i)) gO gO rfl ?_)
   obtain ⟨fd,hfd⟩:∃ fd,l.filter (ndP (at_ (dk s) i).ag)=fd:=⟨_,rfl⟩
   have iN2:=iN (at_ (dk s) i).ag;rw [hfd] at iN2;clear iN;have aeI:fd.length<=l.length:=by rw [<- hfd];exact List.length_filter_le _ _
   refine vK1 ?_;refine AW.c (fun h=>?_) fun h=>?_
   ·have h3:=h;refine vK1 ?_;refine AW.c (fun h=>?_) fun h=>?_
    ·have hf0:fd=[]:=List.eq_nil_of_length_eq_zero Ir
     have GG:chk f s l (at_ (dk s) i) i=fd++[.mk (at_ (dk s) i).ag (at_ (dk s) i).aV []]:=by
      rw [chk,hfd,if_pos h3,hf0];simp only [List.isEmpty_nil,Bool.true_and,List.nil_append];rw [if_pos h.2]
     refine vN1 ?_;refine Z ?_;refine vN1 ?_;refine AW.imp (Imp.F2 10 (own:=true) (sz:=3) (l:=fd.map (ak false)) [.str (at_ (dk s) i).ag,.str (at_ (dk s) i).aV] [] false 3 gO ?_)
     (refine vU2 ?_ ?_<;>with_reducible repeat intro h)
     all_goals first|exact ⟨_,[_,_],_,Ir,⟨i+1,by rw [jJ,GG,List.map_append,List.map_append];rfl,rfl,rfl,Ir⟩,rfl,gO⟩|(rw [List.flatMap_append,List.all_append,Cc];rfl)
    ·have GG:chk f s l (at_ (dk s) i) i=fd:=by
      rw [chk,hfd,if_pos h3,if_neg];intro e;simp only [Bool.and_eq_true,List.isEmpty_iff] at e;have:=h (by rw [e.1];rfl);rw [this] at e;exact absurd e.2 QC
     refine vU1 ?_;exact ⟨_,[_,_],_,Ir,⟨i+1,by rw [jJ,GG,List.map_append],rfl,rfl,Ir⟩,rfl,gO⟩
   ·have hn3:=h;by_cases h12:(at_ (dk s) i).aj=1\/(at_ (dk s) i).aj=2
    ·rcases h12 with k1|k2
     ·have h12:(at_ (dk s) i).aj=1\/(at_ (dk s) i).aj=2:=.inl k1
      (refine vU1 ?_;intro h h)
      refine AW.aw [10,54] [0,1,6,7,8,9,19,20,21,53] (fun m xs o=>∃ k:Nat,xs=[.sl true 3 ((rwF f (at_ (dk s) i) fd k).map (ak false)),.aa k]/\o=[]/\m=fd.length - k/\k<=fd.length) fd.length [] trivial ⟨0,by rw [Fv];rfl,rfl,rfl,Nat.zero_le _⟩ ?_;rintro m xs o ⟨k,rfl,rfl,rfl,hk⟩;have hrw:=qe (f:=f) (n:=at_ (dk s) i) hk;refine vK1 ?_;refine AW.c (fun h=>?_) fun h=>?_
      ·have hk1:=h
       have hkk:cnt (at_ fd k).af<=1000:=Nat.le_trans (CW (List.mem_filter.1 (by rw [hfd];exact at_mem hk1)).1) hc
       have hL:k<(rwF f (at_ (dk s) i) fd k).length:=by omega
       have hat:=WN hL;rw [Ms hk1] at hat;have hset:=QT (y:=dnF f (at_ (dk s) i) (at_ fd k)) hL;rw [IX hk1] at hset;have hpl:((((rwF f (at_ (dk s) i) fd k).take k).map (ak false)).flatMap AV.cells).length=k * 3:=by rw [CL,List.length_take];congr 1;omega
       have hql:=CL ((rwF f (at_ (dk s) i) fd k).drop (k+1))
       have hkp:=Bk ((rwF f (at_ (dk s) i) fd k).take k)
       have hkq:=Bk ((rwF f (at_ (dk s) i) fd k).drop (k+1))
       have hfp:=GJ ((rwF f (at_ (dk s) i) fd k).take k)
       have hfq:=GJ ((rwF f (at_ (dk s) i) fd k).drop (k+1))
       have htot:=CL (rwF f (at_ (dk s) i) fd k);refine AW.imp (Imp.kM 10 (sz:=3) (l:=(rwF f (at_ (dk s) i) fd k).map (ak false)) gO (Ba _) (fun b hb=>?_) (fun hnil=>?_))
       rotate_left
       ·rw [List.map_eq_nil_iff] at hnil;rw [hnil] at hL;exact absurd hL (Nat.not_lt_zero _)
       have hb1:=hb.nf;simp only [go_sem] at hb1;rw [List.length_map,hrw];rw [hat] at htot ⊢;generalize hpre:(((rwF f (at_ (dk s) i) fd k).take k).map (ak false)).flatMap AV.cells=pre at *;generalize hpost:(((rwF f (at_ (dk s) i) fd k).drop (k+1)).map (ak false)).flatMap AV.cells=post at *;refine gS ?_;refine vN1 ?_;refine Z ?_;refine vN1 ?_;refine Z ?_;refine vN1 ?_;refine AW.imp (Imp.dB (b:=b) caa ?_);refine gS ?_
       have hfz:AV.bg (pre++.str (at_ fd k).ag::.str (at_ fd k).ax::.sl true 3 ((ez f (at_ (dk s) i).af (at_ fd k).af).map (ak false))::post)=pre++.str (at_ fd k).ag::.str (at_ fd k).ax::.sl false 3 ((ez f (at_ (dk s) i).af (at_ fd k).af).map (ak false))::post:=by
        rw [CH,hfp];show pre++AV.str (at_ fd k).ag::AV.str (at_ fd k).ax::AV.frz (.sl true 3 ((ez f (at_ (dk s) i).af (at_ fd k).af).map (ak false)))::AV.bg post=_;rw [hfq,AV.frz,oq];rfl
       rw [hfz];refine AW.imp (Imp.fold 10 (b:=b) (len:=fd.length) (sz:=3) (cells:=pre++.str (at_ fd k).ag::.str (at_ fd k).ax::.sl false 3 ((ez f (at_ (dk s) i).af (at_ fd k).af).map (ak false))::post) (l:=(rwF f (at_ (dk s) i) fd (k+1)).map (ak false)) gO gO (by rw [List.length_map,qe Ir]) (by rw [List.take_of_length_le (by simp only [List.length_append,List.length_cons,List.length_nil] at htot ⊢;omega)];exact hset) (Ba _) ?_);refine vU1 ?_;exact ⟨_,[_,_],_,Ir,⟨k+1,rfl,rfl,rfl,Ir⟩,rfl,gO⟩
      ·have hke:k=fd.length:=by omega
       rw [hke,IY]
       cases he:fd.isEmpty with
       | false =>
        have hch:=DX (f:=f) (s:=s) (i:=i) hn3 h12 hfd he
        have hne:¬ (fd.length:Int)=0:=by
         intro e;have:fd=[]:=List.eq_nil_of_length_eq_zero Ir;rw [this] at he;cases he
        (refine vU1 ?_;intro h h)
        all_goals first|exact ⟨_,[_,_],_,Ir,⟨i+1,by rw [jJ,hch,List.map_append],rfl,rfl,Ir⟩,rfl,gO⟩
       | true =>
        have hf0:fd=[]:=List.isEmpty_iff.1 he
        have hch:=DY (f:=f) (s:=s) (i:=i) hn3 h12 (by rw [hfd,hf0])
        have ihZ:∀ s:List ae,Ctr lim prog 161 [] [.sl false 19 (s.map (aq false)),.v (.slice none 0 0)] (.sl true 3 ((ez f s []).map (ak false))) [] (aW s<f/\cnt []<=1000/\aH s<=1000):=fun s=>(ih s []).view fun F w=>au.ep (fun _ _ h=>h) (au.ep Rep.jf fun _ _ h=>h)
        have hz:cnt []<=1000:=by simp [cnt,kc]
        rw [hf0]
        (refine vK1 ?_;intro h)
        refine AW.c (fun h=>?_) fun h=>?_
        ·rw [if_pos ⟨k1,h.1.1.2,List.isEmpty_iff.2 (List.eq_nil_of_length_eq_zero (by have:=h.1.2;omega)),h.2⟩] at hch;refine vN1 ?_;refine Z ?_;refine vN1 ?_;refine AW.imp (Imp.frz 12 ?_);refine gS ?_;refine vK1 ?_;refine AW.c (fun h=>?_) fun h=>?_
         ·have he2:(ez f (at_ (dk s) i).af []).isEmpty=false:=by
           cases e:ez f (at_ (dk s) i).af [] with
           | nil=>rw [e] at h;simp at h
           | cons=>rfl
          rw [if_neg (by rw [he2];simp)] at hch;refine vU1 ?_
          all_goals first|exact ⟨_,[_,_],_,Ir,⟨i+1,by rw [jJ,hch,List.map_append,List.map_cons,List.map_nil,dD];rfl,rfl,rfl,Ir⟩,rfl,gO⟩
         ·have he2:(ez f (at_ (dk s) i).af []).isEmpty=true:=by
           cases e:ez f (at_ (dk s) i).af [] with
           | nil=>rfl
           | cons=>rw [e] at h;simp at h;omega
          rw [if_pos he2] at hch;refine vU1 ?_
          all_goals first|exact ⟨_,[_,_],_,Ir,⟨i+1,by rw [jJ,hch,List.append_nil],rfl,rfl,Ir⟩,rfl,gO⟩
        ·rw [if_neg (by rintro ⟨_,e2,e3,e4⟩;simp [e2,e4,List.isEmpty_iff.1 e3] at h)] at hch;refine vU1 ?_
         all_goals first|exact ⟨_,[_,_],_,Ir,⟨i+1,by rw [jJ,hch,List.append_nil],rfl,rfl,Ir⟩,rfl,gO⟩
     ·have h12:(at_ (dk s) i).aj=1\/(at_ (dk s) i).aj=2:=.inr k2
      have k1:¬ (at_ (dk s) i).aj=1:=by omega
      (refine vU1 ?_;intro h h)
      refine AW.aw [10,54] [0,1,6,7,8,9,19,20,21,53] (fun m xs o=>∃ k:Nat,xs=[.sl true 3 ((rwF f (at_ (dk s) i) fd k).map (ak false)),.aa k]/\o=[]/\m=fd.length - k/\k<=fd.length) fd.length [] trivial ⟨0,by rw [Fv];rfl,rfl,rfl,Nat.zero_le _⟩ ?_;rintro m xs o ⟨k,rfl,rfl,rfl,hk⟩;have hrw:=qe (f:=f) (n:=at_ (dk s) i) hk;refine vK1 ?_;refine AW.c (fun h=>?_) fun h=>?_
      ·have hk1:=h
       have hkk:cnt (at_ fd k).af<=1000:=Nat.le_trans (CW (List.mem_filter.1 (by rw [hfd];exact at_mem hk1)).1) hc
       have hL:k<(rwF f (at_ (dk s) i) fd k).length:=by omega
       have hat:=WN hL;rw [Ms hk1] at hat;have hset:=QT (y:=dnF f (at_ (dk s) i) (at_ fd k)) hL;rw [IX hk1] at hset;have hpl:((((rwF f (at_ (dk s) i) fd k).take k).map (ak false)).flatMap AV.cells).length=k * 3:=by rw [CL,List.length_take];congr 1;omega
       have hql:=CL ((rwF f (at_ (dk s) i) fd k).drop (k+1))
       have hkp:=Bk ((rwF f (at_ (dk s) i) fd k).take k)
       have hkq:=Bk ((rwF f (at_ (dk s) i) fd k).drop (k+1))
       have hfp:=GJ ((rwF f (at_ (dk s) i) fd k).take k)
       have hfq:=GJ ((rwF f (at_ (dk s) i) fd k).drop (k+1))
       have htot:=CL (rwF f (at_ (dk s) i) fd k);refine AW.imp (Imp.kM 10 (sz:=3) (l:=(rwF f (at_ (dk s) i) fd k).map (ak false)) gO (Ba _) (fun b hb=>?_) (fun hnil=>?_))
       rotate_left
       ·rw [List.map_eq_nil_iff] at hnil;rw [hnil] at hL;exact absurd hL (Nat.not_lt_zero _)
       have hb1:=hb.nf;simp only [go_sem] at hb1;rw [List.length_map,hrw];rw [hat] at htot ⊢;generalize hpre:(((rwF f (at_ (dk s) i) fd k).take k).map (ak false)).flatMap AV.cells=pre at *;generalize hpost:(((rwF f (at_ (dk s) i) fd k).drop (k+1)).map (ak false)).flatMap AV.cells=post at *;refine gS ?_;refine vN1 ?_;refine Z ?_;refine vN1 ?_;refine Z ?_;refine vN1 ?_;refine AW.imp (Imp.dB (b:=b) caa ?_);refine gS ?_
       have hfz:AV.bg (pre++.str (at_ fd k).ag::.str (at_ fd k).ax::.sl true 3 ((ez f (at_ (dk s) i).af (at_ fd k).af).map (ak false))::post)=pre++.str (at_ fd k).ag::.str (at_ fd k).ax::.sl false 3 ((ez f (at_ (dk s) i).af (at_ fd k).af).map (ak false))::post:=by
        rw [CH,hfp];show pre++AV.str (at_ fd k).ag::AV.str (at_ fd k).ax::AV.frz (.sl true 3 ((ez f (at_ (dk s) i).af (at_ fd k).af).map (ak false)))::AV.bg post=_;rw [hfq,AV.frz,oq];rfl
       rw [hfz];refine AW.imp (Imp.fold 10 (b:=b) (len:=fd.length) (sz:=3) (cells:=pre++.str (at_ fd k).ag::.str (at_ fd k).ax::.sl false 3 ((ez f (at_ (dk s) i).af (at_ fd k).af).map (ak false))::post) (l:=(rwF f (at_ (dk s) i) fd (k+1)).map (ak false)) gO gO (by rw [List.length_map,qe Ir]) (by rw [List.take_of_length_le (by simp only [List.length_append,List.length_cons,List.length_nil] at htot ⊢;omega)];exact hset) (Ba _) ?_);refine vU1 ?_;exact ⟨_,[_,_],_,Ir,⟨k+1,rfl,rfl,rfl,Ir⟩,rfl,gO⟩
      ·have hke:k=fd.length:=by omega
       rw [hke,IY]
       cases he:fd.isEmpty with
       | false =>
        have hch:=DX (f:=f) (s:=s) (i:=i) hn3 h12 hfd he
        have hne:¬ (fd.length:Int)=0:=by
         intro e;have:fd=[]:=List.eq_nil_of_length_eq_zero Ir;rw [this] at he;cases he
        (refine vU1 ?_;intro h h)
        all_goals first|exact ⟨_,[_,_],_,Ir,⟨i+1,by rw [jJ,hch,List.map_append],rfl,rfl,Ir⟩,rfl,gO⟩
       | true =>
        have hf0:fd=[]:=List.isEmpty_iff.1 he
        have hch:=DY (f:=f) (s:=s) (i:=i) hn3 h12 (by rw [hfd,hf0])
        have ihZ:∀ s:List ae,Ctr lim prog 161 [] [.sl false 19 (s.map (aq false)),.v (.slice none 0 0)] (.sl true 3 ((ez f s []).map (ak false))) [] (aW s<f/\cnt []<=1000/\aH s<=1000):=fun s=>(ih s []).view fun F w=>au.ep (fun _ _ h=>h) (au.ep Rep.jf fun _ _ h=>h)
        have hz:cnt []<=1000:=by simp [cnt,kc]
        rw [if_neg (fun e=>k1 e.1)] at hch;rw [hf0]
        (refine vU1 ?_;intro h h)
        all_goals first|exact ⟨_,[_,_],_,Ir,⟨i+1,by rw [jJ,hch,List.append_nil],rfl,rfl,Ir⟩,rfl,gO⟩
    ·have GG:chk f s l (at_ (dk s) i) i=fd:=by rw [chk,hfd,if_neg hn3,if_neg h12]
     have ha1:¬ (at_ (dk s) i).aj=1:=fun e=>h12 (.inl e)
     have ha2:¬ (at_ (dk s) i).aj=2:=fun e=>h12 (.inr e)
     (refine vU1 ?_;intro h h)
     exact ⟨_,[_,_],_,Ir,⟨i+1,by rw [jJ,GG,List.map_append],rfl,rfl,Ir⟩,rfl,gO⟩
  ·refine vU1 ?_;rw [TJ,show i=(dk s).length by omega]
end Go.Proofs
namespace Go.Dt
open Go Go.Ab
def CF(s:List ae)(l:List ah):List ah:=if bV s l=true then lJ s l else []
end Go.Dt
namespace Go.Proofs
open Go.Ab Go.Dt
attribute [local go_sem] aM aC aR
attribute [-instance] wN
theorem Tf(s:List ae)(l:List ah):Ctr lim prog 114 [] [.sl false 19 (s.map (aq false)),.sl false 3 (l.map (ak false))] (.tup [.sl false 3 ((CF s l).map (ak false)),.ac (bV s l)]) [] (aH s<=1000/\wtS s<=1048576/\wt l<=1048576):=by
 refine Ctr.bd func114 ntmps114 fun hp=>?_;have gOn:=aD.on;obtain ⟨h1,h2,h3⟩:=hp
 cases ht:bV s l with
 | false =>
  rw [CF,if_neg (by rw [ht];simp)]
  (refine vQ1 ht ?_;with_reducible repeat first|intro (K:_->_->Prop) hK|intro h)
  refine AW.e fun h=>?_;refine vX1 ?_;refine AW.ret (EndsG.imp (Imp.frz 4 ?_));refine gS ?_;refine EndsG.fin rfl ?_;exact gO
 | true =>
  have hc:=E5 ht
  have k1:iM lim prog 53 [.sl false 3 (l.map (ak false))] (.sl false 3 (l.map (ak false))) True :=
   ⟨(aU 53),fun c=>by
    have:=((wN l).pure c).frz
    simpa only [AV.frz,AV.bg,oq,aR,cond_true] using this⟩
  have k0:Ctr lim prog 161 [] [.sl false 19 (s.map (aq false)),.sl false 3 (l.map (ak false))] (.sl false 3 ((ez (aW s+1) s l).map (ak false))) [] (aW s<aW s+1/\cnt l<=1000/\aH s<=1000) :=
   Ctr.kQ (aU 161) fun c=>by
    have:=((Nz (aW s+1) s l).pure c).frz;simpa only [AV.frz,AV.bg,oq,aR,cond_true] using this
  rw [CF,if_pos ht,lJ];exact vP0 ht
instance VX(s:List ae)(l:List ah):iM lim prog 114 [.sl false 19 (s.map (aq false)),.sl false 3 (l.map (ak false))] (.tup [.sl false 3 ((CF s l).map (ak false)),.ac (bV s l)]) (aH s<=1000/\wtS s<=1048576/\wt l<=1048576) :=
 ⟨(aU 114),fun c=>by
  have:=((Tf s l).pure c).frz
  simpa only [AV.frz,AV.bg,oq,aR,cond_true,cond_false] using this⟩
end Go.Proofs
namespace Go.Dt
open Go Go.Ab
def naP(ns:List Str)(x:ah):Bool:=cont ns x.ag
end Go.Dt
namespace Go.Proofs
open Go.Ab Go.Dt
attribute [local go_sem] aM aC aR
instance acA(x:ah)(ns:List Str):Ctr lim prog 246 [] [.agg (cNo x),.vp [.sl false 1 (ns.map AV.str)]] (.ac (naP ns x)) [] True:=by
 refine Ctr.bd func246 ntmps246 fun hp=>?_;have gOn:=aD.on;refine vU1 ?_
 try rfl
instance Zo(l:List ah)(ns:List Str):Ctr lim prog 284 [] [.sl false 3 (l.map (ak false)),.fn 246 [.vp [.sl false 1 (ns.map AV.str)]]] (.aa (idx (naP ns) l)) [] True:=by
 refine Ctr.bd func284 ntmps284 fun hp=>?_;have gOn:=aD.on;refine AW.f1 0 fun hf=>?_;refine vU1 ?_;refine AW.aw [8] [0,1,7] (fun m xs o=>∃ k:Nat,xs=[.aa k]/\o=[]/\m=l.length - k/\k<=l.length/\∀ x∈l.take k,naP ns x=false) l.length [] trivial ⟨0,?_,rfl,rfl,?_,?_⟩ ?_
 ·rfl
 ·omega
 ·simp
 rintro m xs o ⟨k,rfl,rfl,rfl,hk,hR⟩
 (refine vU3 ?_ ?_ ?_<;>with_reducible repeat intro h)
 ·rw [gV (p:=naP ns) yG hR h]
 ·exact ⟨_,[_],[],Ir,⟨k+1,rfl,rfl,rfl,Ir,aL (p:=naP ns) yG hR h⟩,rfl,trivial⟩
 ·rw [jo (p:=naP ns) h hR]
instance ZS(l:List ah)(ns:List Str):Ctr lim prog 245 [] [.sl false 3 (l.map (ak false)),.fn 246 [.vp [.sl false 1 (ns.map AV.str)]]] (.ac (decide (0<=idx (naP ns) l))) [] True:=by
 refine Ctr.bd func245 ntmps245 fun hp=>?_
 all_goals exact uU
end Go.Proofs
namespace Go.Dt
open Go Go.Ab
section
def fR(t:List ah):List (List Int)->Nat
 | []=>0
 | p::ps=>cnt (cL t p)+fR t ps
def yZ(t:List ah):∀ a b:List (List Int),fR t (a++b)=fR t a+fR t b
 | [],b=>by simp [fR]
 | x::a,b=>by rw [List.cons_append,fR,fR,yZ t a b];omega
def zC:∀ (p:List Int) (t:List ah) (i:Int),cL t (p++[i])=if 0<=i/\i<(cL t p).length then (at_ (cL t p) i.toNat).af else []
 | [],t,i=>by
  by_cases h:0<=i/\i<t.length
  ·simp [cL,h]
  ·rw [List.nil_append,cL,if_neg h,cL,if_neg h]
 | j::r,t,i=>by
  simp only [List.cons_append,cL];split
  ·exact zC r _ i
  ·rw [if_neg QC]
def Fp(s:GStep)(t:List ah)(p:List Int):∀ (l pre:List ah),cL t p=pre++l->(iU s p pre.length l).length+fR t (iU s p pre.length l)<=cnt l
 | [],pre,h=>by simp [iU,fR]
 | x::r,pre,h=>by
  rw [iU,gH];have ih:=Fp s t p r (pre++[x]) (by rw [h];simp);rw [List.length_append,List.length_singleton] at ih;have e:((pre.length:Int)+1)=((pre.length+1:Nat):Int):=by omega
  rw [e,List.length_append,yZ];split
  ·have hk:cL t (p++[(pre.length:Int)])=x.af:=by
    rw [zC,h,if_pos ⟨Ir,by simp;omega⟩];rw [Int.toNat_natCast,qq (Nat.lt_irrefl _),Nat.sub_self];rfl
   simp only [List.length_singleton,fR,hk];omega
  ·simp only [List.length_nil,fR];omega
def y5(s:GStep)(t:List ah):∀ ps:List (List Int),(ps.flatMap fun p=>iU s p 0 (cL t p)).length+fR t (ps.flatMap fun p=>iU s p 0 (cL t p))<=fR t ps
 | []=>by simp [fR]
 | p::ps=>by
  rw [List.flatMap_cons,List.length_append,yZ,fR];have h1:=Fp s t p (cL t p) [] QC
  have h2:=y5 s t ps;simp only [List.length_nil,Int.ofNat_zero,Int.natCast_zero] at h1;have h1':(iU s p 0 (cL t p)).length+fR t (iU s p 0 (cL t p))<=cnt (cL t p):=h1;omega
def qd(t:List ah)(N:Nat):∀ (ss:List GStep) (ps:List (List Int)),ps.length<=N->fR t ps<=N->(nE t ss ps).length<=N
 | [],ps,h,_=>h
 | s::r,ps,h,hs=>by
  have:=y5 s t ps;exact qd t N r _ Ir Ir
def lE:∀ (p:List Int) (t:List ah),cnt (cL t p)<=cnt t
 | [],t=>Nat.le_refl _
 | i::r,t=>by
  rw [cL];split
  ·rename_i h;have h1:i.toNat<t.length:=by omega
   have h2:cnt (at_ t i.toNat).af<=cnt t:=by
    have hm:at_ t i.toNat∈t:=at_mem h1;obtain ⟨a,b,e⟩:=List.append_of_mem hm;generalize at_ t i.toNat=x at *;subst e;clear hm h1 h
    induction a with
    | nil=>rw [List.nil_append,gH];omega
    | cons y a ih=>rw [List.cons_append,gH];omega
   exact Nat.le_trans (lE r _) h2
  ·simp [cnt,kc]
def Q8{α β:Type}{f:α->List β}(h:∀ x,(f x).length<=1):∀ L:List α,(L.flatMap f).length<=L.length
 | []=>by simp
 | x::L=>by rw [List.flatMap_cons,List.length_append,List.length_cons];have:=h x;have:=Q8 h L;omega
def qc(t:List ah)(at0:List Int)(p:bP):(eZ t at0 p).length<=max 1 (cnt t):=by
 rw [eZ];split
 ·refine qd t _ _ _ (by simp;omega) ?_;simp only [fR];have:=lE (if p.bR=true then [] else at0.take (at0.length - p.bG.toNat)) t;omega
 ·simp
def qa(t:List ah)(at0:List Int)(p:bP):(gm t at0 p).length<=max 1 (cnt t):=by refine Nat.le_trans ?_ (qc t at0 p);rw [gm];exact Q8 (fun q=>by split<;>simp) _
end
section
def eB(f:eaa):Nat->Nat
 | 0=>0
 | n+1=>eB f n+f n
def tg{f g:eaa}:∀ n,(∀ i,i<n->f i<=g i)->eB f n<=eB g n
 | 0,_=>Nat.le_refl _
 | n+1,h=>by
  rw [eB,eB];have:=tg n (fun i hi=>h i Ir);have:=h n Ir;omega
def y4(f g:eaa):∀ n,eB (fun i=>f i+g i) n=eB f n+eB g n
 | 0=>rfl
 | n+1=>by rw [eB,eB,eB,y4 f g n];omega
def Fl(f:eaa)(c:Nat):∀ n,eB (fun i=>f i * c) n=eB f n * c
 | 0=>by simp [eB]
 | n+1=>by rw [eB,eB,Fl f c n,Nat.add_mul]
def v7:∀ n,eB (fun _=>0) n=0
 | 0=>rfl
 | n+1=>by rw [eB,v7 n]
def Fk{p:Nat->Bool}{c:Nat}:∀ n,(∀ i j,i<n->j<n->p i=true->p j=true->i=j)->eB (fun i=>if p i=true then c else 0) n<=c
 | 0,_=>by simp [eB]
 | n+1,h=>by
  rw [eB];have ih:=Fk (p:=p) (c:=c) n (fun i j hi hj=>h i j Ir Ir);by_cases hp:p n=true
  ·have:eB (fun i=>if p i=true then c else 0) n<=eB (fun _=>0) n:=tg n fun i hi=>by
    have:¬ p i=true:=fun c=>by have:=h i n Ir Ir c hp;omega
    simp [this]
   rw [v7] at this;simp only [if_pos hp];omega
  ·simp only [if_neg hp];omega
def Hu:∀ a b:List ah,cnt (a++b)=cnt a+cnt b
 | [],b=>by simp [cnt,kc]
 | x::a,b=>by rw [List.cons_append,gH,gH,Hu a b];omega
def DV(c:Nat->List ah):∀ n,cnt ((List.range n).flatMap c)=eB (fun i=>cnt (c i)) n
 | 0=>by simp [cnt,kc,eB]
 | n+1=>by rw [List.range_succ,List.flatMap_append,Hu,DV c n,eB];simp
def Vq{s:List ae}(hdd:bT (nmS (dk s))=true){i j:Nat}(hi:i<(dk s).length)(hj:j<(dk s).length)(e:(at_ (dk s) i).ag=(at_ (dk s) j).ag):i=j:=by
 rw [kr,nmS] at hdd;have hp:=List.pairwise_iff_getElem.1 hdd
 have ai:∀ j (hj:j<(dk s).length),((dk s).map ae.ag)[j]'(by rw [List.length_map];exact hj)=(at_ (dk s) j).ag:=fun j hj=>by
  rw [List.getElem_map];congr 1;rw [at_,List.getElem?_eq_getElem hj];rfl
 rcases Nat.lt_trichotomy i j with l|l|l
 ·exact absurd (by rw [ai i hi,ai j hj,e]) (hp i j (by rw [List.length_map];exact hi) (by rw [List.length_map];exact hj) l)
 ·exact l
 ·exact absurd (by rw [ai i hi,ai j hj,e]) (hp j i (by rw [List.length_map];exact hj) (by rw [List.length_map];exact hi) l)
def JI{s:List ae}(hdd:bT (nmS (dk s))=true):∀ l:List ah,eB (fun i=>cnt (l.filter (ndP (at_ (dk s) i).ag))) (dk s).length<=cnt l
 | []=>by simp only [List.filter_nil];rw [show (fun _=>cnt ([]:List ah))=fun (_:Nat)=>0 from by funext;simp [cnt,kc],v7];exact Nat.zero_le _
 | x::l=>by
  have ih:=JI hdd l
  have h1:=Fk (p:=fun i=>ndP (at_ (dk s) i).ag x) (c:=1+cnt x.af) (dk s).length (fun i j hi hj a b=>Vq hdd hi hj (by
   have a':x.ag=(at_ (dk s) i).ag:=by simpa [ndP] using a
   have b':x.ag=(at_ (dk s) j).ag:=by simpa [ndP] using b
   rw [<- a',b']))
  rw [gH];refine Nat.le_trans (tg (g:=fun i=>(if ndP (at_ (dk s) i).ag x=true then 1+cnt x.af else 0)+cnt (l.filter (ndP (at_ (dk s) i).ag))) _ fun i _=>?_) ?_
  ·rw [List.filter_cons];split
   ·rw [gH];omega
   ·omega
  ·rw [y4];omega
end
section
def Au(f:eaa):∀ n,eB f (n+1)=f 0+eB (fun i=>f (i+1)) n
 | 0=>by simp [eB]
 | n+1=>by rw [eB,Au f n,eB];omega
def wS:List ae->Nat
 | []=>0
 | x::xs=>1+aH x.af+wS xs
def LU:∀ a b:List ae,wS (a++b)=wS a+wS b
 | [],b=>by simp [wS]
 | x::a,b=>by rw [List.cons_append,wS,wS,LU a b];omega
def LR:∀ L:List ae,eB (fun i=>1+aH (at_ L i).af) L.length=wS L
 | []=>rfl
 | x::L=>by
  rw [List.length_cons,Au,wS,<- LR L];rfl
def Ej:∀ s:List ae,wS (dk s)<=aH s
 | []=>by simp [dk,wS]
 | .mk k a b c d e f g h i j l m n ks::xs=>by
  rw [dk,LU,aH];have h1:=Ej xs
  have h2:=Ej ks;split
  ·simp only [wS,ae.af];omega
  ·split
   ·omega
   ·simp only [wS];omega
def LS:∀ {L:List ae} {n:ae},n∈L->1+aH n.af<=wS L
 | x::L,n,h=>by
  rw [wS];rcases List.mem_cons.1 h with e|h
  ·rw [e];omega
  ·have:=LS h;omega
def Jp{f:Nat}{n:ae}{c:Nat}(h:∀ l,(∃ x:ah,x.af=l)->cnt (ez f n.af l)<=cnt l+(cnt l+1) * c):∀ fd:List ah,cnt (fd.map fun x=>ah.mk x.ag x.ax (ez f n.af x.af))<=cnt fd * (1+c)
 | []=>by simp [cnt,kc]
 | x::fd=>by
  rw [List.map_cons,gH,gH];have h1:=h x.af ⟨x,rfl⟩
  have h2:=Jp h fd
  have e:(1+cnt x.af+cnt fd) * (1+c)=(1+cnt x.af) * (1+c)+cnt fd * (1+c):=Nat.add_mul _ _ _
  have e2:(1+cnt x.af) * (1+c)=1+cnt x.af+(cnt x.af+1) * c:=by rw [Nat.mul_add,Nat.mul_one,Nat.add_comm 1 (cnt x.af)]
  have e3:(ah.mk x.ag x.ax (ez f n.af x.af)).af=ez f n.af x.af:=rfl;rw [e3,e,e2];omega
def CM:∀ (f:Nat) (s:List ae) (l:List ah),gdF s->cnt (ez f s l)<=cnt l+(cnt l+1) * aH s
 | 0,s,l,_=>by simp [ez,cnt,kc]
 | f+1,s,l,hg=>by
  rw [JQ,DV];have hdd:=hg.2.1;obtain ⟨_,_,kind,bd,hk,hA⟩:=hg
  have hc:∀ i,i<(dk s).length->cnt (chk f s l (at_ (dk s) i) i)<=cnt (l.filter (ndP (at_ (dk s) i).ag)) * (1+aH s)+(1+aH (at_ (dk s) i).af):=fun i hi=>by
   have hm:at_ (dk s) i∈dk s:=at_mem hi
   have hgk:=(oX s kind bd hA _ hm).1
   have hw:=Nat.le_trans (LS hm) (Ej s);generalize at_ (dk s) i=n at *
   have hfd:∀ fd:List ah,cnt fd<=cnt fd * (1+aH s)+(1+aH n.af):=fun fd=>by
    have:cnt fd * 1<=cnt fd * (1+aH s):=Nat.mul_le_mul_left _ Ir;omega
   have hmap:=Jp (f:=f) (n:=n) (c:=aH n.af) (fun l' _=>CM f n.af l' hgk)
   have hnil:=CM f n.af [] hgk
   have h0:cnt ([]:List ah)=0:=by simp [cnt,kc]
   rw [h0] at hnil;unfold chk;generalize l.filter (ndP n.ag)=fd;have hmul:cnt fd * (1+aH n.af)<=cnt fd * (1+aH s):=Nat.mul_le_mul_left _ Ir;split
   ·split
    ·rw [gH,h0];show 1+cnt ([]:List ah)+0<=_;rw [h0];omega
    ·exact hfd fd
   ·split
    ·split
     ·split
      ·split
       ·rw [h0];omega
       ·rw [gH,h0];show 1+cnt (ez f n.af [])+0<=_;omega
      ·rw [h0];omega
     ·have:=hmap fd;omega
    ·exact hfd fd
  refine Nat.le_trans (tg _ hc) ?_;rw [y4,Fl,LR];have h1:=Nat.mul_le_mul_right (1+aH s) (JI hdd l)
  have h2:=Ej s
  have e:cnt l * (1+aH s)+aH s=cnt l+(cnt l+1) * aH s:=by rw [Nat.mul_add,Nat.mul_one,Nat.add_mul,Nat.one_mul];omega
  omega
def zN{s:List ae}{l:List ah}(h:bV s l=true):cnt (lJ s l)<=7380:=by
 simp only [bV,Bool.and_eq_true,decide_eq_true_eq] at h;have h1:=CM (aW s+1) s l (th h.1.1)
 have h2:=h.1.1;simp only [fX,Bool.and_eq_true,decide_eq_true_eq] at h2;have h3:(cnt l+1) * aH s<=121 * 60:=Nat.mul_le_mul Ir h2.1.1;rw [lJ];omega
end
section
def iV(i:Int):AV:=.v (.int .i64 i)
@[go_sem] def Ez(i:Int):iV i=.aa i:=rfl
def dS(l:List Int):AV.bg (l.map iV)=l.map iV:=fK _ _ (fun _=>rfl) l
def Nr(l:List Int):(l.map iV).flatMap AV.cells=l.map iV:=by
 induction l with
 | nil=>rfl
 | cons x l ih=>rw [List.map_cons,List.flatMap_cons,ih];rfl
def E7(l:List Int)(k:Nat):(l.map iV).take k=(l.take k).map iV:=List.map_take.symm
def rV(q:List Int):AV:=.sl false 1 (q.map iV)
@[go_sem] def adW(q:List Int):rV q=.sl false 1 (q.map iV):=rfl
def zK(l:List (List Int)):AV.bg (l.map rV)=l.map rV:=fK _ _ (fun q=>by rw [rV,AV.frz,dS];rfl) l
def BS(l:List (List Int)):(l.map rV).all (AV.elem 1)=true:=bL (fun _=>rfl) l
def row_one(l:List (List Int)):((l.map rV).flatMap AV.cells).all AV.one=true:=cf (fun _=>rfl) l
def xS(l:List Int):(l.map iV).all (AV.elem 1)=true:=bL (fun _=>rfl) l
def xR(l:List Int):((l.map iV).flatMap AV.cells).all AV.one=true:=cf (fun _=>rfl) l
def mO:List ah->List Int->Option ah->Option ah
 | _,[],last=>last
 | l,i::r,_=>if 0<=i/\i<l.length then mO (at_ l i.toNat).af r (some (at_ l i.toNat)) else none
def Cd:∀ (q:List Int) (l:List ah),iJ l q=mO l q none
 | [],l=>by rw [iJ,mO]
 | [n],l=>by rw [iJ,mO];split<;>simp [mO]
 | n::m::r,l=>by
  rw [iJ,mO];split
  ·rw [Cd (m::r)];rfl
  ·rfl
def Dv{l:List ah}{q:List Int}{k:Nat}{last:Option ah}(hk:k<q.length)(h:0<=at_ q k/\at_ q k<l.length):mO l (q.drop k) last=mO (at_ l (at_ q k).toNat).af (q.drop (k+1)) (some (at_ l (at_ q k).toNat)):=by rw [bq hk,mO,if_pos h]
def FY{l:List ah}{q:List Int}{k:Nat}{last:Option ah}(hk:k<q.length)(h:at_ q k<0\/(l.length:Int)<=at_ q k):mO l (q.drop k) last=none:=by rw [bq hk,mO,if_neg Ir]
def FX{l:List ah}{q:List Int}{k:Nat}{last:Option ah}(hk:¬ k<q.length):mO l (q.drop k) last=last:=by rw [List.drop_eq_nil_of_le Ir,mO]
def M6{l:List ah}{q:List Int}{k:Nat}(hk:k<q.length)(h:0<=at_ q k/\at_ q k<l.length):cL l (q.drop k)=cL (at_ l (at_ q k).toNat).af (q.drop (k+1)):=by rw [bq hk,cL,if_pos h]
def PD{l:List ah}{q:List Int}{k:Nat}(hk:k<q.length)(h:¬ (0<=at_ q k/\at_ q k<l.length)):cL l (q.drop k)=[]:=by rw [bq hk,cL,if_neg h]
def PB{l:List ah}{q:List Int}{k:Nat}(hk:¬ k<q.length):cL l (q.drop k)=l:=by rw [List.drop_eq_nil_of_le Ir,cL]
def zg:∀ (q:List Int) (l:List ah) (i:Int),iJ l (q++[i])=if 0<=i/\i<(cL l q).length then some (at_ (cL l q) i.toNat) else none
 | [],l,i=>by rw [List.nil_append,iJ,cL]
 | [a],l,i=>by
  rw [List.singleton_append,iJ,cL];split
  ·rw [iJ,cL]
  ·rw [if_neg QC]
 | a::b::r,l,i=>by
  rw [List.cons_append,List.cons_append,iJ,cL];split
  ·rw [<- List.cons_append,zg (b::r)]
  ·rw [if_neg QC]
def Dw{q:List Int}{l:List ah}(h:0<q.length):iJ l q=if 0<=at_ q (q.length - 1)/\at_ q (q.length - 1)<(cL l (q.take (q.length - 1))).length then some (at_ (cL l (q.take (q.length - 1))) (at_ q (q.length - 1)).toNat) else none:=by
 have e:q=q.take (q.length - 1)++[at_ q (q.length - 1)]:=by
  have:=tk1 (l:=q) (k:=q.length - 1) Ir;rw [show q.length - 1+1=q.length by omega,List.take_length] at this;exact this
 have:=zg (q.take (q.length - 1)) l (at_ q (q.length - 1));rw [<- e] at this;exact this
def Gl{q:List Int}{l:List ah}(h:0<q.length):cL l q=match iJ l q with
  | some x=>x.af
  | none=>[]:=by
 have e:q=q.take (q.length - 1)++[at_ q (q.length - 1)]:=by
  have:=tk1 (l:=q) (k:=q.length - 1) Ir;rw [show q.length - 1+1=q.length by omega,List.take_length] at this;exact this
 have h1:=zg (q.take (q.length - 1)) l (at_ q (q.length - 1))
 have h2:=zC (q.take (q.length - 1)) l (at_ q (q.length - 1));rw [<- e] at h1 h2;rw [h1,h2];split<;>rfl
def FW(x:ah):List AV:=(cNo x)
def qu:List AV:=[.str [],.str [],.v (.slice none 0 0)]
def KL:Option ah->List AV
 | none=>qu
 | some x=>FW x
end
end Go.Dt
