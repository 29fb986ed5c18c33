/- Part of a proof. -/
import Derived.Test.YtpelkkfkecfmbaaGreatDoorH39
set_option linter.all false
set_option maxRecDepth 20000
set_option maxHeartbeats 4000000
open Go.Proofs.Tryz
namespace Go.Proofs
open Go.Ab Go.Dt
attribute [local go_sem] aM dS aR FA Fz rO zK List.length_take E7 xS xR BS row_one
attribute [-instance] cK dh
theorem UU(l:List ah)(at0:List Int)(x:bP):Ctr lim prog 226 [] [.sl false 3 (l.map (ak false)),.sl false 1 (at0.map iV),.agg [.ac x.bR,.aa x.bG,.sl false 2 (x.av.map (aA false))]] (.sl true 1 ((eZ l at0 x).map rW)) [] (cnt l<=1048576/\at0.length<=1000):=by
 refine Ctr.bd func226 ntmps226 fun hp=>?_;have gOn:=aD.on;obtain ⟨hc,ha⟩:=hp;refine vK1 ?_;refine AW.c (fun h=>?_) fun h=>?_
 ·have:eZ l at0 x=[]:=by rw [eZ,if_neg];rintro ⟨h1,h2⟩;rcases h with h|h<;>first|omega|(rw [h1] at h;cases h)
  rw [this]
  all_goals exact uU
 obtain ⟨hip,hup⟩:=h;have hiv:=l8 hip
 have hst:=nM hip
 have hR0:eZ l at0 x=nE l x.av [if x.bR=true then [] else at0.take (at0.length - x.bG.toNat)]:=by rw [eZ,if_pos ⟨hip,hup⟩]
 refine vK1 ?_;rw [show (at0.length:Int) - x.bG=((at0.length - x.bG.toNat:Nat):Int) by omega];refine AW.c (fun h=>?_) fun h=>?_
 ·rw [h,if_pos rfl] at hR0;refine vK1 ?_;have hN:=qd;refine AW.aw [7,8] [0,5] (fun m xs o=>∃ (k:Nat) (ps:List (List Int)),xs=[.sl true 1 (ps.map rW),.aa k]/\o=[]/\m=x.av.length - k/\k<=x.av.length/\nE l (x.av.drop k) ps=eZ l at0 x/\ps.length<=1048576/\fR l ps<=1048576/\∀ q∈ps,q.length<=at0.length+k) x.av.length [] trivial ⟨0,[([]:List Int)],rfl,rfl,rfl,Nat.zero_le _,hR0.symm,QC,by rw [fR,fR];have:=lE (([]:List Int)) l;omega,by simp;try omega⟩ ?_;clear hR0;rintro m xs o ⟨k,ps,rfl,rfl,rfl,hk,hR,hp1,hp2,hp3⟩;refine vK1 ?_;refine AW.c (fun h=>?_) fun h=>?_
  ·have hk1:=h
   have hgs:=uo l (at_ x.av k) ps;refine AW.imp (Imp.frz 7 ?_);refine gS ?_;refine vK1 ?_;refine AW.aw [9,10] [0,5,7,8] (fun m xs o=>∃ (j:Nat) (nx:List (List Int)),xs=[.sl true 1 (nx.map rW),.aa j]/\o=[]/\m=ps.length - j/\j<=ps.length/\nx++(ps.drop j).flatMap (mN l (at_ x.av k))=ps.flatMap (mN l (at_ x.av k))/\∀ q∈nx,q.length<=at0.length+k+1) ps.length [] trivial ⟨0,[],rfl,rfl,rfl,Nat.zero_le _,QC,QC⟩ ?_;rintro m xs o ⟨j,nx,rfl,rfl,rfl,hj,hT,hnx⟩;refine vK1 ?_;refine AW.c (fun h=>?_) fun h=>?_
   ·have hj1:=h
    have hpl:=hp3 _ (at_mem hj1)
    have hT1:=hT;rw [nj hj1,<- List.append_assoc] at hT1;have hlen:=congrArg List.length hT1;simp only [List.length_append] at hlen;refine vK1 ?_;refine AW.fact 11 fun hf2=>?_;simp (disch:=omega) only [go_sem] at hf2;refine AW.aw [9,12] [0,5,7,8,10,11] (fun m xs o=>∃ (i:Nat) (n2:List (List Int)),xs=[.sl true 1 (n2.map rW),.aa i]/\o=[]/\m=(cL l (at_ ps j)).length - i/\i<=(cL l (at_ ps j)).length/\n2++iU (at_ x.av k) (at_ ps j) i ((cL l (at_ ps j)).drop i)=nx++mN l (at_ x.av k) (at_ ps j)/\∀ q∈n2,q.length<=at0.length+k+1) (cL l (at_ ps j)).length [] trivial ⟨0,nx,rfl,rfl,rfl,Nat.zero_le _,rfl,hnx⟩ ?_;rintro m xs o ⟨i,n2,rfl,rfl,rfl,hi,hU,hn2⟩;have p7:=congrArg List.length hU;simp only [List.length_append] at p7;refine vK1 ?_;refine AW.c (fun h=>?_) fun h=>?_
    ·have hi1:=h
     have hs:=fun a b=>uk (s:=at_ x.av k) (p:=at_ ps j) hi1 a b
     have hs2:=fun a=>rv (s:=at_ x.av k) (p:=at_ ps j) hi1 a
     have hs3:=fun a b=>congrArg List.length (hs a b);simp only [List.length_append,List.length_singleton] at hs3
     (refine vU2 ?_ ?_<;>with_reducible repeat intro h)
     ·rw [hs h.1 h.2,<- List.append_assoc] at hU
      exact ⟨_,[_,_],[],Ir,⟨i+1,n2++[at_ ps j++[(i:Int)]],rfl,rfl,rfl,Ir,hU,fun q hq=>by
       rcases List.mem_append.1 hq with hq|hq
       ·exact hn2 q hq
       ·rw [List.mem_singleton.1 hq,List.length_append,List.length_singleton];omega⟩,by simp only [List.map_append,List.map_cons,List.map_nil,Et,Ez];rfl,trivial⟩
     ·rw [hs2 h] at hU;exact ⟨_,[_,_],[],Ir,⟨i+1,n2,rfl,rfl,rfl,Ir,hU,hn2⟩,rfl,trivial⟩
    ·rw [um h,List.append_nil] at hU;subst hU;refine vU1 ?_;exact ⟨_,[_,_],[],Ir,⟨j+1,_,rfl,rfl,rfl,Ir,hT1,hn2⟩,rfl,trivial⟩
   ·rw [tJ h,List.append_nil] at hT;subst hT;refine vU1 ?_;exact ⟨_,[_,_],[],Ir,⟨k+1,_,rfl,rfl,rfl,Ir,by rw [<- hR,ry hk1],Ir,Ir,fun q hq=>by have:=hnx q hq;omega⟩,rfl,trivial⟩
  ·rw [uq h] at hR;rw [<- hR]
   all_goals exact uU
 ·rw [h,if_neg QC] at hR0;refine vK1 ?_;have hN:=qd;refine AW.aw [7,8] [0,5] (fun m xs o=>∃ (k:Nat) (ps:List (List Int)),xs=[.sl true 1 (ps.map rW),.aa k]/\o=[]/\m=x.av.length - k/\k<=x.av.length/\nE l (x.av.drop k) ps=eZ l at0 x/\ps.length<=1048576/\fR l ps<=1048576/\∀ q∈ps,q.length<=at0.length+k) x.av.length [] trivial ⟨0,[(at0.take (at0.length - x.bG.toNat))],rfl,rfl,rfl,Nat.zero_le _,hR0.symm,QC,by rw [fR,fR];have:=lE ((at0.take (at0.length - x.bG.toNat))) l;omega,by simp;try omega⟩ ?_;clear hR0;rintro m xs o ⟨k,ps,rfl,rfl,rfl,hk,hR,hp1,hp2,hp3⟩;refine vK1 ?_;refine AW.c (fun h=>?_) fun h=>?_
  ·have hk1:=h
   have hgs:=uo l (at_ x.av k) ps;refine AW.imp (Imp.frz 7 ?_);refine gS ?_;refine vK1 ?_;refine AW.aw [9,10] [0,5,7,8] (fun m xs o=>∃ (j:Nat) (nx:List (List Int)),xs=[.sl true 1 (nx.map rW),.aa j]/\o=[]/\m=ps.length - j/\j<=ps.length/\nx++(ps.drop j).flatMap (mN l (at_ x.av k))=ps.flatMap (mN l (at_ x.av k))/\∀ q∈nx,q.length<=at0.length+k+1) ps.length [] trivial ⟨0,[],rfl,rfl,rfl,Nat.zero_le _,QC,QC⟩ ?_;rintro m xs o ⟨j,nx,rfl,rfl,rfl,hj,hT,hnx⟩;refine vK1 ?_;refine AW.c (fun h=>?_) fun h=>?_
   ·have hj1:=h
    have hpl:=hp3 _ (at_mem hj1)
    have hT1:=hT;rw [nj hj1,<- List.append_assoc] at hT1;have hlen:=congrArg List.length hT1;simp only [List.length_append] at hlen;refine vK1 ?_;refine AW.fact 11 fun hf2=>?_;simp (disch:=omega) only [go_sem] at hf2;refine AW.aw [9,12] [0,5,7,8,10,11] (fun m xs o=>∃ (i:Nat) (n2:List (List Int)),xs=[.sl true 1 (n2.map rW),.aa i]/\o=[]/\m=(cL l (at_ ps j)).length - i/\i<=(cL l (at_ ps j)).length/\n2++iU (at_ x.av k) (at_ ps j) i ((cL l (at_ ps j)).drop i)=nx++mN l (at_ x.av k) (at_ ps j)/\∀ q∈n2,q.length<=at0.length+k+1) (cL l (at_ ps j)).length [] trivial ⟨0,nx,rfl,rfl,rfl,Nat.zero_le _,rfl,hnx⟩ ?_;rintro m xs o ⟨i,n2,rfl,rfl,rfl,hi,hU,hn2⟩;have p7:=congrArg List.length hU;simp only [List.length_append] at p7;refine vK1 ?_;refine AW.c (fun h=>?_) fun h=>?_
    ·have hi1:=h
     have hs:=fun a b=>uk (s:=at_ x.av k) (p:=at_ ps j) hi1 a b
     have hs2:=fun a=>rv (s:=at_ x.av k) (p:=at_ ps j) hi1 a
     have hs3:=fun a b=>congrArg List.length (hs a b);simp only [List.length_append,List.length_singleton] at hs3
     (refine vU2 ?_ ?_<;>with_reducible repeat intro h)
     ·rw [hs h.1 h.2,<- List.append_assoc] at hU
      exact ⟨_,[_,_],[],Ir,⟨i+1,n2++[at_ ps j++[(i:Int)]],rfl,rfl,rfl,Ir,hU,fun q hq=>by
       rcases List.mem_append.1 hq with hq|hq
       ·exact hn2 q hq
       ·rw [List.mem_singleton.1 hq,List.length_append,List.length_singleton];omega⟩,by simp only [List.map_append,List.map_cons,List.map_nil,Et,Ez];rfl,trivial⟩
     ·rw [hs2 h] at hU;exact ⟨_,[_,_],[],Ir,⟨i+1,n2,rfl,rfl,rfl,Ir,hU,hn2⟩,rfl,trivial⟩
    ·rw [um h,List.append_nil] at hU;subst hU;refine vU1 ?_;exact ⟨_,[_,_],[],Ir,⟨j+1,_,rfl,rfl,rfl,Ir,hT1,hn2⟩,rfl,trivial⟩
   ·rw [tJ h,List.append_nil] at hT;subst hT;refine vU1 ?_;exact ⟨_,[_,_],[],Ir,⟨k+1,_,rfl,rfl,rfl,Ir,by rw [<- hR,ry hk1],Ir,Ir,fun q hq=>by have:=hnx q hq;omega⟩,rfl,trivial⟩
  ·rw [uq h] at hR;rw [<- hR]
   all_goals exact uU
instance adS(l:List ah)(at0:List Int)(x:bP):iM lim prog 226 [.sl false 3 (l.map (ak false)),.sl false 1 (at0.map iV),.agg [.ac x.bR,.aa x.bG,.sl false 2 (x.av.map (aA false))]] (.sl false 1 ((eZ l at0 x).map rV)) (cnt l<=1048576/\at0.length<=1000) :=
 ⟨(aU 226),fun c=>by
  have:=((UU l at0 x).pure c).frz
  simpa only [AV.frz,rO,cond_true] using this⟩
end Go.Proofs
namespace Go.Dt
open Go Go.Ab
section
variable {d : List ae} {x : ah} {cs ks : List Str}
end
theorem Fm{α:Type}[Inhabited α]{f:α->AV}{l:List α}{k:Nat}(h:k<l.length):List.drop k (List.take (k+1) (l.map f))=[f (at_ l k)]:=by rw [<- List.map_take,gB h,List.map_append,List.drop_append_of_le_length (by rw [List.length_map,List.length_take];omega),List.drop_of_length_le (by rw [List.length_map,List.length_take];omega)];rfl
end Go.Dt
namespace Go.Proofs
open Go.Ab Go.Dt
attribute [-instance] cK dh cPf
def OL(cs:List Str):List.drop (Int.toNat 1) (List.take cs.length (cs.map AV.str))=(cs.drop 1).map AV.str:=by rw [List.take_of_length_le QC,List.map_drop];rfl
attribute [local go_sem] aM aC aR dr dq jY iB oq OL Fm
instance Xi(x:ah):Ctr lim prog 50 [] [.sl false 3 [.agg (cNo x)]] (.sl true 3 [ak true x]) [] True:=by have:=Ft [x];rw [show List.map (ak false) [x]=[.agg (cNo x)] by rw [List.map_cons,List.map_nil,dD],show List.map (ak true) [x]=[ak true x] from rfl] at this;exact this
end Go.Proofs
namespace Go.Dt
open Go Go.Ab
def BL(l:List ah)(q:List Int):List Str:=match iJ l q with
 | some x=>[x.ax]
 | none=>[]
def uf{l:List ah}{q:List Int}{x:ah}(h:iJ l q=some x):BL l q=[x.ax]:=by rw [BL,h]
def Iv{l:List ah}{q:List Int}(h:iJ l q=none):BL l q=[]:=by rw [BL,h]
end Go.Dt
namespace Go.Proofs
open Go.Ab Go.Dt
attribute [local go_sem] aM dS aR zK List.length_take E7 xS xR BS row_one qu FW
attribute [-instance] cK dh
theorem Nu(l:List ah)(at0:List Int)(x:bP):Ctr lim prog 247 [] [.sl false 3 (l.map (ak false)),.sl false 1 (at0.map iV),.agg [.ac x.bR,.aa x.bG,.sl false 2 (x.av.map (aA false))]] (.sl true 1 ((gm l at0 x).map AV.str)) [] (cnt l<=1048576/\at0.length<=1000):=by
 refine Ctr.bd func247 ntmps247 fun hp=>?_;have gOn:=aD.on
 have h1:=qc l at0 x
 have h2:=qa l at0 x;refine vK1 ?_;refine AW.aw [7,18] [0,16,17] (fun m xs o=>∃ (j:Nat) (out:List Str),xs=[.sl true 1 (out.map AV.str),.aa j]/\o=[]/\m=(eZ l at0 x).length - j/\j<=(eZ l at0 x).length/\out++((eZ l at0 x).drop j).flatMap (BL l)=gm l at0 x) (eZ l at0 x).length [] trivial ⟨0,[],rfl,rfl,rfl,Nat.zero_le _,rfl⟩ ?_;rintro m xs o ⟨j,out,rfl,rfl,rfl,hj,hT⟩;have hlen:=congrArg List.length hT;simp only [List.length_append] at hlen;refine vK1 ?_;refine AW.c (fun h=>?_) fun h=>?_
 ·have hj1:=h;rw [nj hj1] at hT
  cases hn:iJ l (at_ (eZ l at0 x) j) with
  | some y =>
   have hI:=DI l (at_ (eZ l at0 x) j) y
   have hl2:=hlen;rw [nj hj1,uf hn,List.length_append,List.length_singleton] at hl2;rw [uf hn,<- List.append_assoc] at hT
   (refine vU1 ?_;intro h h)
   exact ⟨_,[_,_],[],Ir,⟨j+1,out++[y.ax],rfl,rfl,rfl,Ir,hT⟩,by rw [List.map_append];rfl,trivial⟩
  | none =>
   have hI:=Gt l (at_ (eZ l at0 x) j);rw [Iv hn,List.nil_append] at hT
   (refine vU1 ?_;intro h h)
   exact ⟨_,[_,_],[],Ir,⟨j+1,out,rfl,rfl,rfl,Ir,hT⟩,rfl,trivial⟩
 ·rw [tJ h,List.append_nil] at hT;subst hT
  all_goals exact uU
instance ad6(l:List ah)(at0:List Int)(x:bP):iM lim prog 247 [.sl false 3 (l.map (ak false)),.sl false 1 (at0.map iV),.agg [.ac x.bR,.aa x.bG,.sl false 2 (x.av.map (aA false))]] (.sl false 1 ((gm l at0 x).map AV.str)) (cnt l<=1048576/\at0.length<=1000) :=
 ⟨(aU 247),fun c=>by
  have:=((Nu l at0 x).pure c).frz
  simpa only [AV.frz,aM,cond_true] using this⟩
theorem Mj(l:List ah)(q:List Int)(x:ah):Ctr lim prog 227 [] [.sl false 3 (l.map (ak false)),.sl false 1 (q.map iV)] (.tup [.agg (FW x),.ac true]) [] (iJ l q=some x/\cnt l<=1048576):=by
 refine Ctr.bd func227 ntmps227 fun hp=>?_;have gOn:=aD.on
 have hq:0<q.length:=by
  cases q with
  | nil=>simp [iJ] at hp
  | cons=>simp
 obtain ⟨hp,hc⟩:=hp;have hkl:=Nat.le_trans (xP _) (lE (q.take (q.length - 1)) l);rw [Dw hq] at hp;split at hp
 ·rename_i hi;obtain ⟨i,ei⟩:=Int.eq_ofNat_of_zero_le hi.1;rw [ei] at hi hp;rw [Int.toNat_natCast] at hp;cases hp;have hi2:i<(cL l (q.take (q.length - 1))).length:=by omega
  have hso:=Fm (f:=ak false) hi2;refine AW.f1 1 fun hf=>?_
  (refine vK1 ?_;intro h)
  refine AW.c (fun h=>?_) fun h=>?_
  ·omega
  have e1:(q.length:Int) - 1=((q.length - 1:Nat):Int):=by omega
  (refine vQ1 (And.intro e1 ei) ?_;with_reducible repeat first|intro (K:_->_->Prop) hK|intro h)
  refine AW.c (fun h=>?_) fun h=>?_
  ·exact absurd (show i<=(cL l (q.take (q.length - 1))).length - 1 by omega) (h trivial)
  (refine vP1 (And.intro e1 (And.intro ei hso)) ?_;with_reducible repeat first|intro (K:_->_->Prop) hK|intro h)
  refine ⟨_,fun _=>⟨Ir,rfl,rfl⟩,?_⟩
  all_goals exact uU
 ·cases hp
theorem OX(l:List ah)(q:List Int):Ctr lim prog 227 [] [.sl false 3 (l.map (ak false)),.sl false 1 (q.map iV)] (.tup [.agg qu,.ac false]) [] (iJ l q=none/\cnt l<=1048576):=by
 refine Ctr.bd func227 ntmps227 fun hp=>?_;have gOn:=aD.on;obtain ⟨hp,hc⟩:=hp;have hkl:=Nat.le_trans (xP _) (lE (q.take (q.length - 1)) l);refine AW.f1 1 fun hf=>?_
 (refine vK1 ?_;intro h)
 refine AW.c (fun h=>?_) fun h=>?_
 ·all_goals exact uU
 have hq:0<q.length:=by omega
 rw [Dw hq] at hp;split at hp
 ·cases hp
 rename_i hi;have e1:(q.length:Int) - 1=((q.length - 1:Nat):Int):=by omega
 exact vP0 e1
theorem Mi(l:List ah)(at0:List Int)(x:bP):Ctr lim prog 186 [] [.sl false 3 (l.map (ak false)),.sl false 1 (at0.map iV),.agg [.ac x.bR,.aa x.bG,.sl false 2 (x.av.map (aA false))]] (.sl true 1 ((gm l at0 x).map AV.str)) [] (cnt l<=1048576/\at0.length<=1000):=by
 refine Ctr.bd func186 ntmps186 fun hp=>?_;have gOn:=aD.on
 have h1:=qc l at0 x
 have h2:=qa l at0 x;refine vK1 ?_;refine AW.aw [7,9] [0,8] (fun m xs o=>∃ (j:Nat) (out:List Str),xs=[.sl true 1 (out.map AV.str),.aa j]/\o=[]/\m=(eZ l at0 x).length - j/\j<=(eZ l at0 x).length/\out++((eZ l at0 x).drop j).flatMap (BL l)=gm l at0 x) (eZ l at0 x).length [] trivial ⟨0,[],rfl,rfl,rfl,Nat.zero_le _,rfl⟩ ?_;rintro m xs o ⟨j,out,rfl,rfl,rfl,hj,hT⟩;have hlen:=congrArg List.length hT;simp only [List.length_append] at hlen;refine vK1 ?_;refine AW.c (fun h=>?_) fun h=>?_
 ·have hj1:=h;rw [nj hj1] at hT
  cases hn:iJ l (at_ (eZ l at0 x) j) with
  | some y =>
   have hI:=Mj l (at_ (eZ l at0 x) j) y
   have hl2:=hlen;rw [nj hj1,uf hn,List.length_append,List.length_singleton] at hl2;rw [uf hn,<- List.append_assoc] at hT
   (refine vU1 ?_;intro h h)
   exact ⟨_,[_,_],[],Ir,⟨j+1,out++[y.ax],rfl,rfl,rfl,Ir,hT⟩,by rw [List.map_append];rfl,trivial⟩
  | none =>
   have hI:=OX l (at_ (eZ l at0 x) j);rw [Iv hn,List.nil_append] at hT
   (refine vU1 ?_;intro h h)
   exact ⟨_,[_,_],[],Ir,⟨j+1,out,rfl,rfl,rfl,Ir,hT⟩,rfl,trivial⟩
 ·rw [tJ h,List.append_nil] at hT;subst hT
  all_goals exact uU
instance adQ(l:List ah)(at0:List Int)(x:bP):iM lim prog 186 [.sl false 3 (l.map (ak false)),.sl false 1 (at0.map iV),.agg [.ac x.bR,.aa x.bG,.sl false 2 (x.av.map (aA false))]] (.sl false 1 ((gm l at0 x).map AV.str)) (cnt l<=1048576/\at0.length<=1000) :=
 ⟨(aU 186),fun c=>by
  have:=((Mi l at0 x).pure c).frz
  simpa only [AV.frz,aM,cond_true] using this⟩
end Go.Proofs
namespace Go.Dt
open Go Go.Ab
def TP(u:Nat):∀ c∈dg u,¬ c=43:=by
 induction u using Nat.strongRecOn with
 | _ u ih =>
  by_cases h:u=0
  ·subst h;simp [dg]
  ·rw [CU h];intro c hc;rcases List.mem_append.1 hc with hc|hc
   ·exact ih (u / 10) Ir c hc
   ·rw [List.mem_singleton] at hc;intro e;have h1:(UInt8.ofNat (48+u % 10)).toNat=48+u % 10:=by rw [UInt8.toNat_ofNat'];omega
    rw [<- hc,e] at h1;have h2:(43:UInt8).toNat=43:=rfl;omega
def Na(n:Int):¬ at8 (Lib.itoa n) 0=43:=by
 by_cases h:n=0
 ·rw [h,DD];decide
 ·rw [Cx h];split
  ·intro e;exact absurd (show (45:Int)=43 from e) baa
  ·have:=TP n.natAbs;intro e
   cases hd:dg n.natAbs with
   | nil=>rw [hd] at e;exact absurd (show (0:Int)=43 from e) baa
   | cons c l =>
    rw [hd] at e;have e:((c.toNat:Nat):Int)=43:=e;exact this c (by rw [hd];exact List.mem_cons_self) (UInt8.toNat_inj.1 (show c.toNat=(43:UInt8).toNat by have:(43:UInt8).toNat=43:=rfl;omega))
def KC{s:Str}(h:gD s=false\/¬ Lib.itoa (eH s)=s):prB s=false/\prV s=0:=by
 have:prB s=false:=by
  unfold prB;rcases h with h|h
  ·rw [h]<;>rfl
  ·rw [beq_eq_false_iff_ne.2 h,Bool.and_false]
 exact ⟨this,by rw [prV,this];rfl⟩
def FG{s:Str}(h1:gD s=true)(h2:Lib.itoa (eH s)=s):prB s=true/\prV s=eH s:=by
 have:prB s=true:=by rw [prB,h1,h2];simp
 exact ⟨this,by rw [prV,this];rfl⟩
def Mw{s:Str}(h:rdB s=false):rdN s=0:=by rw [rdN,h];rfl
def MA{s:Str}(h:0<s.length)(e:at8 s 0=45):gD s=rdB (s.drop 1)/\eH s = -rdN (s.drop 1):=by
 have ht:tlS s=s.drop 1:=by
  have:sgn s=true:=by rw [sgn,e,decide_eq_true h];rfl
  rw [tlS,this];rfl
 refine ⟨by rw [gD,ht],?_⟩;rw [eH,ht,if_pos e]
 cases h1:rdB (s.drop 1) with
 | true=>rfl
 | false=>rw [Mw h1];rfl
def Mz{s:Str}(e:0<s.length->¬ at8 s 0=45):(gD s=rdB s/\eH s=rdN s)\/(rdB s=false/\prB s=false):=by
 by_cases hp:0<s.length/\at8 s 0=43
 ·refine .inr ⟨Es hp.1 (by rw [show ((0:Nat):Int)=0 from rfl,hp.2];omega),?_⟩;unfold prB;by_cases h2:Lib.itoa (eH s)=s
  ·have:=Na (eH s);rw [h2] at this;exact absurd hp.2 this
  ·rw [beq_eq_false_iff_ne.2 h2,Bool.and_false]
 ·have hs:sgn s=false:=by
   unfold sgn;by_cases h0:0<s.length
   ·have h1:=e h0
    have h2:¬ at8 s 0=43:=fun hh=>hp ⟨h0,hh⟩;rw [beq_eq_false_iff_ne.2 h1,beq_eq_false_iff_ne.2 h2];simp
   ·rw [decide_eq_false h0]<;>rfl
  have ht:tlS s=s:=by rw [tlS,hs];rfl
  refine .inl ⟨by rw [gD,ht],?_⟩;rw [eH,ht]
  cases h1:rdB s with
  | false=>rw [Mw h1];rfl
  | true =>
   rw [cond_true];by_cases h0:0<s.length
   ·rw [if_neg (e h0)]
   ·exfalso;rw [rdB,decide_eq_false h0] at h1;simp at h1
def Vf{s:Str}(e:0<s.length->¬ at8 s 0=45)(h:rdB s=false\/¬ Lib.itoa (rdN s)=s):prB s=false/\prV s=0:=by
 rcases Mz e with ⟨h1,h2⟩|⟨_,h2⟩
 ·exact KC (by rw [h1,h2];exact h)
 ·exact ⟨h2,by rw [prV,h2];rfl⟩
def R7{s:Str}(e:0<s.length->¬ at8 s 0=45)(h1:rdB s=true)(h2:Lib.itoa (rdN s)=s):prB s=true/\prV s=rdN s:=by
 rcases Mz e with ⟨a,b⟩|⟨a,_⟩
 ·rw [<- b];exact FG (by rw [a];exact h1) (by rw [b];exact h2)
 ·rw [a] at h1;cases h1
def KD(s:Str):-1000000000<=prV s/\prV s<=1000000000:=by
 have:=xH s
 unfold prV;cases prB s with
 | false=>simp
 | true=>exact this
end Go.Dt
namespace Go.Proofs
open Go.Ab Go.Dt
attribute [-instance] cK dh cPf
instance Xq(s:Str):Ctr lim prog 353 [] [.str s] (.tup [.aa (prV s),.ac (prB s)]) [] True:=by
 refine Ctr.bd func353 ntmps353 fun hp=>?_;have hl:=xH s
 (refine vU2 ?_ ?_<;>with_reducible repeat intro h)
 ·obtain ⟨a,b⟩:=KC h;rw [a,b]
 ·obtain ⟨a,b⟩:=FG h.1 h.2;rw [a,b]
instance Xd(s:Str):Ctr lim prog 331 [] [.str s] (.tup [.aa (prV s),.ac (prB s)]) [] True:=by
 refine Ctr.bd func331 ntmps331 fun hp=>?_;have hl:=AA s
 have hl2:=AA (s.drop (Int.toNat 1))
 have e1:Int.toNat 1=1:=rfl
 (repeat' first|(with_reducible first|refine Z ?_|refine Y ?_|(refine hK _ _ ?_;clear hK K)|refine And.intro ?_ ?_|exact Ct|intro (K:_->_->Prop) hK|(refine gI fun hg=>?_;try simp only [hC,reduceCtorEq] at hg;try simp only [hg]))|(refine AW.i rfl (fun h=>?_) (fun h=>?_)<;>try simp only [hC,reduceCtorEq] at h)|((with_reducible refine E ?_;repeat refine Y ?_);refine eF rfl ?_)|simp (disch:=omega) only [go_sem,List.take_length]|(with_reducible intro hg;try simp only [hC,reduceCtorEq] at hg)|exact Cl|fail)
 ·have hm:0<(s.length:Int)/\at8 s 0=45:=by assumption
  obtain ⟨a,b⟩:=MA Ir hm.2;obtain ⟨a,b⟩:=KC (s:=s) (by rw [a,b,<- Int.zero_sub];exact h);rw [a,b]
 ·have hm:0<(s.length:Int)/\at8 s 0=45:=by assumption
  obtain ⟨a,b⟩:=MA Ir hm.2;obtain ⟨c,d⟩:=FG (s:=s) (by rw [a];exact h.1) (by rw [b,<- Int.zero_sub];exact h.2);rw [c,d,b,Int.zero_sub];rfl
 ·have hm:0<s.length->¬ at8 s 0=45:=by clear hl hl2 h;grind
  obtain ⟨a,b⟩:=Vf hm h;rw [a,b]
 ·have hm:0<s.length->¬ at8 s 0=45:=by clear hl hl2 h;grind
  obtain ⟨a,b⟩:=R7 hm h.1 h.2;rw [a,b]
end Go.Proofs
namespace Go.Ab
def eY.Em{L:eaa}{P:Program}{f:FuncId}{args:List AV}{res sI:AV}(h:eY L P f args res)(hv:∀ F w y fp,Rep L F w res y fp->Rep L F w sI y fp):eY L P f args sI:=by intro w F vs hF ht hr;refine (h w F vs hF ht hr).mono ?_;rintro e w' ⟨v,F',fp,h1,h2,h3,h4,h5,h6,h7⟩;exact ⟨v,F',fp,h1,h2,h3,h4,hv _ _ _ _ h5,h6,h7⟩
theorem Ctr.Em{L:eaa}{P:Program}{f:FuncId}{args:List AV}{res sI:AV}{pre:Prop}(h:Ctr L P f [] args res [] pre)(hv:∀ F w y fp,Rep L F w res y fp->Rep L F w sI y fp):Ctr L P f [] args sI [] pre :=
 Ctr.kQ h.en fun c=>(h.pure c).Em hv
end Go.Ab
namespace Go.Dt
open Go Go.Ab
def wC(w:eA):AV:=.agg [.v (.int .i64 w.aj),.v (.int .i64 w.dn),.str w.bI,.v (.bool w.iL),.sl false 1 (w.fA.map AV.str)]
def wV(w:eA):AV:=.agg [.v (.int .i64 w.aj),.v (.int .i64 w.dn),.str w.bI,.v (.bool w.iL),if w.aj=4 then .sl false 1 (w.fA.map AV.str) else .v (.slice none 0 0)]
def wOk(w:eA):Prop:=(¬ w.aj=4->w.fA=[])/\-1000000000<=w.dn/\w.dn<=1000000000/\w.fA.length<=1048576
def Uo{L:eaa}{w:eA}(h:wOk w):∀ F wd y fp,Rep L F wd (wV w) y fp->Rep L F wd (wC w) y fp:=by
 intro F wd y fp hr;rw [wV] at hr;rw [wC];split at hr
 ·exact hr
 ·rename_i hk;rw [h.1 hk];exact Rep.Rj (l:=[.aa w.aj,.aa w.dn,.str w.bI,.ac w.iL]) (l2:=[]) Rep.jf _ _ hr
end Go.Dt
namespace Go.Proofs
open Go.Ab Go.Dt
attribute [local go_sem] aM gC
attribute [-instance] cK dh
instance adr(w:eA):Ctr lim prog 287 [] [.agg [.aa w.aj,.aa w.dn,.str w.bI,.ac w.iL,.sl false 1 (w.fA.map AV.str)]] (.ac (ji w)) [] True:=by
 refine Ctr.bd func287 ntmps287 fun hp=>?_;have gOn:=aD.on
 (refine vU5 ?_ ?_ ?_ ?_ ?_<;>with_reducible repeat intro h)
 all_goals (refine congrArg (fun b=>AV.ac b) ?_;unfold ji;cases w.fA<;>grind)
instance acY(w:eA):Ctr lim prog 228 [] [.agg [.aa w.aj,.aa w.dn,.str w.bI,.ac w.iL,.sl false 1 (w.fA.map AV.str)]] (.ac (ji w)) [] True:=by
 refine Ctr.bd func228 ntmps228 fun hp=>?_;have gOn:=aD.on
 (refine vU4 ?_ ?_ ?_ ?_<;>with_reducible repeat intro h)
 all_goals (refine congrArg (fun b=>AV.ac b) ?_;unfold ji;cases w.fA<;>grind)
theorem V0(w:eA):Ctr lim prog 341 [] [.agg [.aa w.aj,.aa w.dn,.str w.bI,.ac w.iL,.sl false 1 (w.fA.map AV.str)]] (.sl true 1 ((di Lib.itoa w).map AV.str)) [] (wOk w):=by
 refine Ctr.bd func341 ntmps341 fun hp=>?_;have gOn:=aD.on;obtain ⟨w1,w2,w3,w4⟩:=hp
 (refine vU6 ?_ ?_ ?_ ?_ ?_ ?_<;>with_reducible repeat intro h)
 all_goals (refine congrArg (AV.sl true 1) ?_;unfold di;simp_all)
theorem Fu(w:eA):Ctr lim prog 308 [] [.agg [.aa w.aj,.aa w.dn,.str w.bI,.ac w.iL,.sl false 1 (w.fA.map AV.str)]] (.sl true 1 ((di Lib.itoa w).map AV.str)) [] (wOk w):=by
 refine Ctr.bd func308 ntmps308 fun hp=>?_;have gOn:=aD.on;obtain ⟨w1,w2,w3,w4⟩:=hp
 (refine vU6 ?_ ?_ ?_ ?_ ?_ ?_<;>with_reducible repeat intro h)
 all_goals (refine congrArg (AV.sl true 1) ?_;unfold di;simp_all)
instance ady(op:Int)(a b:Str):Ctr lim prog 342 [] [.aa op,.str a,.str b] (.ac (jM op a b)) [] True:=by
 refine Ctr.bd func342 ntmps342 fun hp=>?_;have gOn:=aD.on
 (refine vU ?_;with_reducible repeat' first|exact Le.l|apply Sw|intro h)
 all_goals (refine congrArg (fun b=>AV.ac b) ?_;unfold jM;grind)
instance ac5(op:Int)(a b:Str):Ctr lim prog 309 [] [.aa op,.str a,.str b] (.ac (jM op a b)) [] True:=by
 refine Ctr.bd func309 ntmps309 fun hp=>?_;have gOn:=aD.on
 (refine vU ?_;with_reducible repeat' first|exact Le.l|apply Sw|intro h)
 all_goals (refine congrArg (fun b=>AV.ac b) ?_;unfold jM;grind)
instance adp(b:Bool):Ctr lim prog 339 [] [.ac b] (.agg [.aa 3,.aa 0,.str [],.ac b,.v (.slice none 0 0)]) [] True:=by
 refine Ctr.bd func339 ntmps339 fun hp=>?_
 all_goals exact uU
instance acX(b:Bool):Ctr lim prog 306 [] [.ac b] (.agg [.aa 3,.aa 0,.str [],.ac b,.v (.slice none 0 0)]) [] True:=by
 refine Ctr.bd func306 ntmps306 fun hp=>?_
 all_goals exact uU
end Go.Proofs
namespace Go.Dt
open Go Go.Ab
def jI(w:eA):Bool:=match di Lib.itoa w with
 | []=>false
 | x::_=>prB x
def kW(w:eA):Int:=match di Lib.itoa w with
 | []=>0
 | x::_=>prV x
def nZ(op:Int)(a b:eA):Int:=if op=15 then kW a - kW b else kW a+kW b
def NH(w:eA):-1000000000<=kW w/\kW w<=1000000000:=by
 unfold kW;split
 ·omega
 ·exact KD _
def sY{op:Int}{a b:eA}(h:(jI a=true/\jI b=true)/\-1000000000<=nZ op a b/\nZ op a b<=1000000000):sF Lib.itoa op a b=⟨1,nZ op a b,[],false,[]⟩:=by
 obtain ⟨⟨h1,h2⟩,h3,h4⟩:=h;unfold jI at h1 h2;unfold nZ kW at h3 h4 ⊢;unfold sF
 cases ha:di Lib.itoa a with
 | nil=>rw [ha] at h1;cases h1
 | cons x l =>
  cases hb:di Lib.itoa b with
  | nil=>rw [hb] at h2;cases h2
  | cons y m =>
   rw [ha] at h1 h3 h4;rw [hb] at h2 h3 h4;simp only at h1 h2 h3 h4 ⊢;rw [h1,h2,decide_eq_true h3,decide_eq_true h4];rfl
def sZ{op:Int}{a b:eA}(h:jI a=true->jI b=true->-1000000000<=nZ op a b->nZ op a b<=1000000000->False):sF Lib.itoa op a b=⟨2,0,[],false,[]⟩:=by
 unfold jI at h;unfold nZ kW at h;unfold sF
 cases ha:di Lib.itoa a with
 | nil=>rfl
 | cons x l =>
  cases hb:di Lib.itoa b with
  | nil=>rfl
  | cons y m =>
   rw [ha,hb] at h;simp only at h ⊢;rw [if_neg];simp only [Bool.and_eq_true,decide_eq_true_eq];rintro ⟨⟨⟨h1,h2⟩,h3⟩,h4⟩;exact h h1 h2 h3 h4
def G7(fmt:Int->Str)(t:List ah)(at0:List Int):∀ l:List aB,zO fmt t at0 l=l.map (bf fmt t at0)
 | []=>by rw [zO];rfl
 | x::l=>by rw [zO,G7 fmt t at0 l];rfl
theorem Ue{α β:Type}[Inhabited α][Inhabited β]{f:α->β}{l:List α}{k:Nat}(h:k<l.length):at_ (l.map f) k=f (at_ l k):=by simp only [at_,List.getElem?_map,List.getElem?_eq_getElem h,Option.map_some,Option.getD_some]
section
variable {t : List ah} {at0 : List Int} {e : aB}
def ew(t:List ah)(at0:List Int)(e:aB)(k:Nat):eA:=bf Lib.itoa t at0 (at_ e.af k)
def nP(e:aB):bf Lib.itoa t at0 e=(let w:=zO Lib.itoa t at0 e.af
  if e.fOp=1 then ⟨1,e.dn,[],false,[]⟩ else if e.fOp=2 then ⟨2,0,e.bI,false,[]⟩
  else if e.fOp=3 then ⟨4,0,[],false,gm t at0 e.az⟩ else if e.fOp=4 then ⟨1,(eZ t at0 e.az).length,[],false,[]⟩
  else if e.fOp=5 then mh (!ji (at_ w 0))
  else if e.fOp=6 then mh (ji (at_ w 0) || ji (at_ w 1)) else if e.fOp=7 then mh (ji (at_ w 0) && ji (at_ w 1))
  else if e.fOp=14\/e.fOp=15 then sF Lib.itoa e.fOp (at_ w 0) (at_ w 1)
  else mh ((di Lib.itoa (at_ w 0)).any fun x=>(di Lib.itoa (at_ w 1)).any fun y=>jM e.fOp x y)):=by
 cases e;rw [bf];rfl
def p8{k:Nat}(h:k<e.af.length):at_ (zO Lib.itoa t at0 e.af) k=ew t at0 e k:=by rw [G7,Ue h];rfl
def Ls(h:e.fOp=1):bf Lib.itoa t at0 e=⟨1,e.dn,[],false,[]⟩:=by rw [nP];simp [h]
def Lr(h:e.fOp=2):bf Lib.itoa t at0 e=⟨2,0,e.bI,false,[]⟩:=by rw [nP];simp [h]
def Lq(h:e.fOp=3):bf Lib.itoa t at0 e=⟨4,0,[],false,gm t at0 e.az⟩:=by rw [nP];simp [h]
def Lp(h:e.fOp=4):bf Lib.itoa t at0 e=⟨1,(eZ t at0 e.az).length,[],false,[]⟩:=by rw [nP];simp [h]
def Ln(h:e.fOp=5)(h0:0<e.af.length):bf Lib.itoa t at0 e=mh (!ji (ew t at0 e 0)):=by rw [nP,<- p8 h0];simp [h]
def Lm(h:e.fOp=6)(h0:1<e.af.length):bf Lib.itoa t at0 e=mh (ji (ew t at0 e 0) || ji (ew t at0 e 1)):=by rw [nP,<- p8 Ir,<- p8 h0];simp [h]
def Ll(h:e.fOp=7)(h0:1<e.af.length):bf Lib.itoa t at0 e=mh (ji (ew t at0 e 0) && ji (ew t at0 e 1)):=by rw [nP,<- p8 Ir,<- p8 h0];simp [h]
def Li(h:e.fOp=14\/e.fOp=15)(h0:1<e.af.length):bf Lib.itoa t at0 e=sF Lib.itoa e.fOp (ew t at0 e 0) (ew t at0 e 1):=by rw [nP,<- p8 Ir,<- p8 h0];simp only [if_pos h,if_neg (show ¬ e.fOp=1 by omega),if_neg (show ¬ e.fOp=2 by omega),if_neg (show ¬ e.fOp=3 by omega),if_neg (show ¬ e.fOp=4 by omega),if_neg (show ¬ e.fOp=5 by omega),if_neg (show ¬ e.fOp=6 by omega),if_neg (show ¬ e.fOp=7 by omega)]
def Lj(h:8<=e.fOp/\e.fOp<=13)(h0:1<e.af.length):bf Lib.itoa t at0 e=mh ((di Lib.itoa (ew t at0 e 0)).any fun x=>(di Lib.itoa (ew t at0 e 1)).any fun y=>jM e.fOp x y):=by rw [nP,<- p8 Ir,<- p8 h0];simp only [if_neg (show ¬ (e.fOp=14\/e.fOp=15) by omega),if_neg (show ¬ e.fOp=1 by omega),if_neg (show ¬ e.fOp=2 by omega),if_neg (show ¬ e.fOp=3 by omega),if_neg (show ¬ e.fOp=4 by omega),if_neg (show ¬ e.fOp=5 by omega),if_neg (show ¬ e.fOp=6 by omega),if_neg (show ¬ e.fOp=7 by omega)]
def Eo(h:vE e=true):1<=e.fOp/\e.fOp<=15/\(e.fOp=1->0<=e.dn/\e.dn<=1000000000):=by
 obtain ⟨op,num,tx,p,ks⟩:=e;rw [vE,Bool.and_eq_true] at h;have h1:=h.1;simp only [exN,Bool.and_eq_true,decide_eq_true_eq] at h1;refine ⟨h1.1.1.1.1.1.1,h1.1.1.1.1.1.2,fun e=>?_⟩;have e:op=1:=e
 have h2:=h1.2;rw [if_pos e] at h2;have h3:0<=num/\num<=1000000000:=by simpa only [Bool.and_eq_true,decide_eq_true_eq] using h2
 exact h3
def Aa(b:Bool):wOk (mh b):=⟨fun _=>rfl,by simp [mh],by simp [mh],by simp [mh]⟩
def zB(h:vE e=true):(e.fOp=5->e.af.length=1)/\(6<=e.fOp->e.af.length=2):=by
 have:=(zA h).1
 have:=Eo h;rw [ek] at *;constructor<;>try intro h5<;>(repeat' split at *)<;>omega
def tN(h:vE e=true)(hc:cnt t<=1048576):wOk (bf Lib.itoa t at0 e):=by
 have h1:=Eo h
 have h2:=zB h
 have h3:=qc t at0 e.az
 have h4:=qa t at0 e.az;by_cases e1:e.fOp=1
 ·rw [Ls e1];exact ⟨fun _=>rfl,by have:=h1.2.2 e1;simp only;omega,by have:=h1.2.2 e1;simp only;omega,QC⟩
 by_cases e2:e.fOp=2
 ·rw [Lr e2];exact ⟨fun _=>rfl,QC,QC,QC⟩
 by_cases e3:e.fOp=3
 ·rw [Lq e3];exact ⟨fun h=>absurd rfl h,QC,QC,by simp only;omega⟩
 by_cases e4:e.fOp=4
 ·rw [Lp e4];exact ⟨fun _=>rfl,by simp only;omega,by simp only;omega,QC⟩
 by_cases e5:e.fOp=5
 ·rw [Ln e5 (by have:=h2.1 e5;omega)];exact Aa _
 have h0:1<e.af.length:=by have:=h2.2 Ir;omega
 by_cases e6:e.fOp=6
 ·rw [Lm e6 h0];exact Aa _
 by_cases e7:e.fOp=7
 ·rw [Ll e7 h0];exact Aa _
 by_cases es:e.fOp=14\/e.fOp=15
 ·rw [Li es h0];by_cases hs:(jI (ew t at0 e 0)=true/\jI (ew t at0 e 1)=true)/\-1000000000<=nZ e.fOp (ew t at0 e 0) (ew t at0 e 1)/\nZ e.fOp (ew t at0 e 0) (ew t at0 e 1)<=1000000000
  ·rw [sY hs];exact ⟨fun _=>rfl,hs.2.1,hs.2.2,QC⟩
  ·rw [sZ (fun a b c d=>hs ⟨⟨a,b⟩,c,d⟩)];exact ⟨fun _=>rfl,QC,QC,QC⟩
 ·rw [Lj Ir h0];exact Aa _
end
end Go.Dt
namespace Go.Proofs
open Go.Ab Go.Dt
section
attribute [local go_sem] aM gC
attribute [-instance] cK dh
instance aeb(w:eA):iM lim prog 341 [.agg [.aa w.aj,.aa w.dn,.str w.bI,.ac w.iL,.sl false 1 (w.fA.map AV.str)]] (.sl false 1 ((di Lib.itoa w).map AV.str)) (wOk w) :=
 ⟨(aU 341),fun c=>by
  have:=((V0 w).pure c).frz
  simpa only [AV.frz,aM,cond_true] using this⟩
instance adV(w:eA):iM lim prog 308 [.agg [.aa w.aj,.aa w.dn,.str w.bI,.ac w.iL,.sl false 1 (w.fA.map AV.str)]] (.sl false 1 ((di Lib.itoa w).map AV.str)) (wOk w) :=
 ⟨(aU 308),fun c=>by
  have:=((Fu w).pure c).frz
  simpa only [AV.frz,aM,cond_true] using this⟩
instance ac2(w:eA):Ctr lim prog 307 [] [.agg [.aa w.aj,.aa w.dn,.str w.bI,.ac w.iL,.sl false 1 (w.fA.map AV.str)]] (.tup [.aa (kW w),.ac (jI w)]) [] (wOk w):=by
 refine Ctr.bd func307 ntmps307 fun hp=>?_;have gOn:=aD.on
 cases ha:di Lib.itoa w with
 | nil =>
  have e1:kW w=0:=by rw [kW,ha]
  have e2:jI w=false:=by rw [jI,ha]
  rw [e1,e2]
  (repeat' first|(with_reducible first|refine Z ?_|refine Y ?_|(refine hK _ _ ?_;clear hK K)|refine And.intro ?_ ?_|exact Ct|intro (K:_->_->Prop) hK|(refine gI fun hg=>?_;try simp only [hC,reduceCtorEq] at hg;try simp only [hg]))|(refine AW.i rfl (fun h=>?_) (fun h=>?_)<;>try simp only [hC,reduceCtorEq] at h)|((with_reducible refine E ?_;repeat refine Y ?_);refine eF rfl ?_)|simp (disch:=omega) only [go_sem,ha,List.map_nil]|(with_reducible intro hg;try simp only [hC,reduceCtorEq] at hg)|exact Cl|fail)
 | cons x l =>
  have e1:kW w=prV x:=by rw [kW,ha]
  have e2:jI w=prB x:=by rw [jI,ha]
  rw [e1,e2]
  (repeat' first|(with_reducible first|refine Z ?_|refine Y ?_|(refine hK _ _ ?_;clear hK K)|refine And.intro ?_ ?_|exact Ct|intro (K:_->_->Prop) hK|(refine gI fun hg=>?_;try simp only [hC,reduceCtorEq] at hg;try simp only [hg]))|(refine AW.i rfl (fun h=>?_) (fun h=>?_)<;>try simp only [hC,reduceCtorEq] at h)|((with_reducible refine E ?_;repeat refine Y ?_);refine eF rfl ?_)|simp (disch:=omega) only [go_sem,ha,List.map_cons]|(with_reducible intro hg;try simp only [hC,reduceCtorEq] at hg)|exact Cl|fail)
  refine ⟨_,fun _=>⟨Ir,rfl,rfl⟩,?_⟩
  all_goals exact uU
instance Gr(op:Int)(a b:eA):Ctr lim prog 340 [] [.aa op,.agg [.aa a.aj,.aa a.dn,.str a.bI,.ac a.iL,.sl false 1 (a.fA.map AV.str)],.agg [.aa b.aj,.aa b.dn,.str b.bI,.ac b.iL,.sl false 1 (b.fA.map AV.str)]] (wV (sF Lib.itoa op a b)) [] (wOk a/\wOk b):=by
 refine Ctr.bd func340 ntmps340 fun hp=>?_;have gOn:=aD.on;obtain ⟨wa,wb⟩:=hp
 cases ha:di Lib.itoa a with
 | nil =>
  have e1:sF Lib.itoa op a b=⟨2,0,[],false,[]⟩:=sZ (fun h _ _ _=>by rw [jI,ha] at h;cases h);rw [e1]
  (repeat' first|(with_reducible first|refine Z ?_|refine Y ?_|(refine hK _ _ ?_;clear hK K)|refine And.intro ?_ ?_|exact Ct|intro (K:_->_->Prop) hK|(refine gI fun hg=>?_;try simp only [hC,reduceCtorEq] at hg;try simp only [hg]))|(refine AW.i rfl (fun h=>?_) (fun h=>?_)<;>try simp only [hC,reduceCtorEq] at h)|((with_reducible refine E ?_;repeat refine Y ?_);refine eF rfl ?_)|simp (disch:=omega) only [go_sem,ha,List.map_nil]|(with_reducible intro hg;try simp only [hC,reduceCtorEq] at hg)|exact Cl|fail)
  all_goals rfl
 | cons x l =>
  cases hb:di Lib.itoa b with
  | nil =>
   have e1:sF Lib.itoa op a b=⟨2,0,[],false,[]⟩:=sZ (fun _ h _ _=>by rw [jI,hb] at h;cases h);rw [e1]
   (repeat' first|(with_reducible first|refine Z ?_|refine Y ?_|(refine hK _ _ ?_;clear hK K)|refine And.intro ?_ ?_|exact Ct|intro (K:_->_->Prop) hK|(refine gI fun hg=>?_;try simp only [hC,reduceCtorEq] at hg;try simp only [hg]))|(refine AW.i rfl (fun h=>?_) (fun h=>?_)<;>try simp only [hC,reduceCtorEq] at h)|((with_reducible refine E ?_;repeat refine Y ?_);refine eF rfl ?_)|simp (disch:=omega) only [go_sem,ha,hb,List.map_cons,List.map_nil]|(with_reducible intro hg;try simp only [hC,reduceCtorEq] at hg)|exact Cl|fail)
   all_goals rfl
  | cons y m =>
   have hx:=KD x
   have hy:=KD y
   have e1:jI a=prB x:=by rw [jI,ha]
   have e2:jI b=prB y:=by rw [jI,hb]
   have e3:kW a=prV x:=by rw [kW,ha]
   have e4:kW b=prV y:=by rw [kW,hb]
   have hY:=fun h=>sY (op:=op) (a:=a) (b:=b) h
   have hN:=fun h=>sZ (op:=op) (a:=a) (b:=b) h;rw [e1,e2] at hY hN;unfold nZ at hY hN;rw [e3,e4] at hY hN
   (repeat' first|(with_reducible first|refine Z ?_|refine Y ?_|(refine hK _ _ ?_;clear hK K)|refine And.intro ?_ ?_|exact Ct|intro (K:_->_->Prop) hK|(refine gI fun hg=>?_;try simp only [hC,reduceCtorEq] at hg;try simp only [hg]))|(refine AW.i rfl (fun h=>?_) (fun h=>?_)<;>try simp only [hC,reduceCtorEq] at h)|((with_reducible refine E ?_;repeat refine Y ?_);refine eF rfl ?_)|simp (disch:=omega) only [go_sem,ha,hb,List.map_cons]|(with_reducible intro hg;try simp only [hC,reduceCtorEq] at hg)|exact Cl|fail)
   refine ⟨_,fun _=>⟨Ir,rfl,rfl⟩,?_⟩
   (repeat' first|(with_reducible first|refine Z ?_|refine Y ?_|(refine hK _ _ ?_;clear hK K)|refine And.intro ?_ ?_|exact Ct|intro (K:_->_->Prop) hK|(refine gI fun hg=>?_;try simp only [hC,reduceCtorEq] at hg;try simp only [hg]))|(refine AW.i rfl (fun h=>?_) (fun h=>?_)<;>try simp only [hC,reduceCtorEq] at h)|((with_reducible refine E ?_;repeat refine Y ?_);refine eF rfl ?_)|simp (disch:=omega) only [go_sem,ha,hb,List.map_cons]|(with_reducible intro hg;try simp only [hC,reduceCtorEq] at hg)|exact Cl|fail)
   refine ⟨_,fun _=>⟨Ir,rfl,rfl⟩,?_⟩;(refine vU ?_;with_reducible repeat' first|exact Le.l|apply Sw|intro h)
   ·have e:op=15:=by assumption
    simp only [if_pos e] at hY hN;rw [hN (fun a b c d=>h.elim (fun h=>h.elim (fun h=>by rw [a] at h;cases h) (fun h=>by rw [b] at h;cases h)) (fun h=>by have:=h Ir;omega))];rfl
   ·have e:op=15:=by assumption
    simp only [if_pos e] at hY hN;rw [hY ⟨h.1,Ir,Ir⟩,show prV x+(0 - prV y)=prV x - prV y by omega];rfl
   ·have e:¬ op=15:=by assumption
    simp only [if_neg e] at hY hN;rw [hN (fun a b c d=>h.elim (fun h=>h.elim (fun h=>by rw [a] at h;cases h) (fun h=>by rw [b] at h;cases h)) (fun h=>by have:=h Ir;omega))];rfl
   ·have e:¬ op=15:=by assumption
    simp only [if_neg e] at hY hN;rw [hY ⟨h.1,Ir,Ir⟩];rfl
end
section
def UD:Int.toNat 1=1:=rfl
attribute [local go_sem] aM gC UD
attribute [-instance] cK dh Gr
def ZV(n:Int):wV ⟨1,n,[],false,[]⟩=.agg [.aa 1,.aa n,.str [],.ac false,.v (.slice none 0 0)]:=rfl
def ZU:wV ⟨2,0,[],false,[]⟩=.agg [.aa 2,.aa 0,.str [],.ac false,.v (.slice none 0 0)]:=rfl
theorem Tg(t:List ah)(at0:List Int)(n:Nat)(ih:∀ e,Ctr lim prog 320 [] [.sl false 3 (t.map (ak false)),.sl false 1 (at0.map iV),.agg (cEx e)] (.agg [.aa (bf Lib.itoa t at0 e).aj,.aa (bf Lib.itoa t at0 e).dn,.str (bf Lib.itoa t at0 e).bI,.ac (bf Lib.itoa t at0 e).iL,.sl false 1 ((bf Lib.itoa t at0 e).fA.map AV.str)]) [] (vE e=true/\dG e<=n/\cnt t<=1048576/\at0.length<=1000))(e:aB):Ctr lim prog 320 [] [.sl false 3 (t.map (ak false)),.sl false 1 (at0.map iV),.agg (cEx e)] (wV (bf Lib.itoa t at0 e)) [] (vE e=true/\dG e<=n+1/\cnt t<=1048576/\at0.length<=1000):=by
 refine Ctr.bd func320 ntmps320 fun hp=>?_;have gOn:=aD.on;obtain ⟨hv,hd,hc,ha⟩:=hp;have hop:=Eo hv
 have hkn:=zB hv
 have hS:=qc t at0 e.az
 have hV:=qa t at0 e.az
 have hkk:=fun k (h:k<e.af.length)=>qh hv hd h;rcases (show e.fOp=1\/e.fOp=2\/e.fOp=3\/e.fOp=4\/e.fOp=5\/6<=e.fOp by omega) with q|q|q|q|q|q
 ·rw [Ls q]
  (repeat' first|(with_reducible first|refine Z ?_|refine Y ?_|(refine hK _ _ ?_;clear hK K)|refine And.intro ?_ ?_|exact Ct|intro (K:_->_->Prop) hK|(refine gI fun hg=>?_;try simp only [hC,reduceCtorEq] at hg;try simp only [hg]))|(refine AW.i rfl (fun h=>?_) (fun h=>?_)<;>try simp only [hC,reduceCtorEq] at h)|((with_reducible refine E ?_;repeat refine Y ?_);refine eF rfl ?_)|simp (disch:=omega) only [go_sem,q]|(with_reducible intro hg;try simp only [hC,reduceCtorEq] at hg)|exact Cl|fail)
  all_goals rfl
 ·rw [Lr q]
  (repeat' first|(with_reducible first|refine Z ?_|refine Y ?_|(refine hK _ _ ?_;clear hK K)|refine And.intro ?_ ?_|exact Ct|intro (K:_->_->Prop) hK|(refine gI fun hg=>?_;try simp only [hC,reduceCtorEq] at hg;try simp only [hg]))|(refine AW.i rfl (fun h=>?_) (fun h=>?_)<;>try simp only [hC,reduceCtorEq] at h)|((with_reducible refine E ?_;repeat refine Y ?_);refine eF rfl ?_)|simp (disch:=omega) only [go_sem,q]|(with_reducible intro hg;try simp only [hC,reduceCtorEq] at hg)|exact Cl|fail)
  all_goals rfl
 ·rw [Lq q]
  (repeat' first|(with_reducible first|refine Z ?_|refine Y ?_|(refine hK _ _ ?_;clear hK K)|refine And.intro ?_ ?_|exact Ct|intro (K:_->_->Prop) hK|(refine gI fun hg=>?_;try simp only [hC,reduceCtorEq] at hg;try simp only [hg]))|(refine AW.i rfl (fun h=>?_) (fun h=>?_)<;>try simp only [hC,reduceCtorEq] at h)|((with_reducible refine E ?_;repeat refine Y ?_);refine eF rfl ?_)|simp (disch:=omega) only [go_sem,q]|(with_reducible intro hg;try simp only [hC,reduceCtorEq] at hg)|exact Cl|fail)
  all_goals rfl
 ·rw [Lp q]
  (repeat' first|(with_reducible first|refine Z ?_|refine Y ?_|(refine hK _ _ ?_;clear hK K)|refine And.intro ?_ ?_|exact Ct|intro (K:_->_->Prop) hK|(refine gI fun hg=>?_;try simp only [hC,reduceCtorEq] at hg;try simp only [hg]))|(refine AW.i rfl (fun h=>?_) (fun h=>?_)<;>try simp only [hC,reduceCtorEq] at h)|((with_reducible refine E ?_;repeat refine Y ?_);refine eF rfl ?_)|simp (disch:=omega) only [go_sem,q]|(with_reducible intro hg;try simp only [hC,reduceCtorEq] at hg)|exact Cl|fail)
  all_goals rfl
 ·have h0:0<e.af.length:=by have:=hkn.1 q;omega
  obtain ⟨v0,d0⟩:=hkk 0 h0;have k0:=ih (at_ e.af 0);rw [Ln q h0,ew]
  (repeat' first|(with_reducible first|refine Z ?_|refine Y ?_|(refine hK _ _ ?_;clear hK K)|refine And.intro ?_ ?_|exact Ct|intro (K:_->_->Prop) hK|(refine gI fun hg=>?_;try simp only [hC,reduceCtorEq] at hg;try simp only [hg]))|(refine AW.i rfl (fun h=>?_) (fun h=>?_)<;>try simp only [hC,reduceCtorEq] at h)|((with_reducible refine E ?_;repeat refine Y ?_);refine eF rfl ?_)|simp (disch:=omega) only [go_sem,q]|(with_reducible intro hg;try simp only [hC,reduceCtorEq] at hg)|exact Cl|fail)
  all_goals rfl
 ·have h1:1<e.af.length:=by have:=hkn.2 q;omega
  have h0:0<e.af.length:=by omega
  obtain ⟨v0,d0⟩:=hkk 0 h0;obtain ⟨v1,d1⟩:=hkk 1 h1;have k0:=ih (at_ e.af 0)
  have k1:=ih (at_ e.af 1)
  have o0:=tN (t:=t) (at0:=at0) v0 hc
  have o1:=tN (t:=t) (at0:=at0) v1 hc;rcases (show e.fOp=6\/e.fOp=7\/(e.fOp=14\/e.fOp=15)\/(8<=e.fOp/\e.fOp<=13) by omega) with q|q|q|q
  ·rw [Lm q h1,ew,ew]
   (repeat' first|(with_reducible first|refine Z ?_|refine Y ?_|(refine hK _ _ ?_;clear hK K)|refine And.intro ?_ ?_|exact Ct|intro (K:_->_->Prop) hK|(refine gI fun hg=>?_;try simp only [hC,reduceCtorEq] at hg;try simp only [hg]))|(refine AW.i rfl (fun h=>?_) (fun h=>?_)<;>try simp only [hC,reduceCtorEq] at h)|((with_reducible refine E ?_;repeat refine Y ?_);refine eF rfl ?_)|simp (disch:=omega) only [go_sem,q]|(with_reducible intro hg;try simp only [hC,reduceCtorEq] at hg)|exact Cl|fail)
   all_goals rfl
  ·rw [Ll q h1,ew,ew]
   (repeat' first|(with_reducible first|refine Z ?_|refine Y ?_|(refine hK _ _ ?_;clear hK K)|refine And.intro ?_ ?_|exact Ct|intro (K:_->_->Prop) hK|(refine gI fun hg=>?_;try simp only [hC,reduceCtorEq] at hg;try simp only [hg]))|(refine AW.i rfl (fun h=>?_) (fun h=>?_)<;>try simp only [hC,reduceCtorEq] at h)|((with_reducible refine E ?_;repeat refine Y ?_);refine eF rfl ?_)|simp (disch:=omega) only [go_sem,q]|(with_reducible intro hg;try simp only [hC,reduceCtorEq] at hg)|exact Cl|fail)
   all_goals rfl
  ·rw [Li q h1,ew,ew];have k2:=Gr e.fOp (bf Lib.itoa t at0 (at_ e.af 0)) (bf Lib.itoa t at0 (at_ e.af 1));by_cases hs:(jI (bf Lib.itoa t at0 (at_ e.af 0))=true/\jI (bf Lib.itoa t at0 (at_ e.af 1))=true)/\-1000000000<=nZ e.fOp (bf Lib.itoa t at0 (at_ e.af 0)) (bf Lib.itoa t at0 (at_ e.af 1))/\nZ e.fOp (bf Lib.itoa t at0 (at_ e.af 0)) (bf Lib.itoa t at0 (at_ e.af 1))<=1000000000
   ·rw [sY hs,ZV] at k2;rw [sY hs]
    (refine vU2 ?_ ?_<;>with_reducible repeat intro h)
    all_goals rfl
   ·have hs2:=sZ (fun a b c d=>hs ⟨⟨a,b⟩,c,d⟩);rw [hs2,ZU] at k2;rw [hs2]
    (refine vU2 ?_ ?_<;>with_reducible repeat intro h)
    all_goals rfl
  ·rw [Lj q h1,ew,ew]
   (refine vU1 ?_;intro h h h h h h h h h h h h h h)
   rename_i b6 _ _ _ _ _ b7 n67 b8 n8 _ _ _;obtain ⟨n78,n68⟩:=n8;refine AW.fact 97 fun hfa=>?_;simp (disch:=omega) only [go_sem] at hfa;refine AW.aw [99] [5,6,8,97,98] (fun m xs o=>∃ i:Nat,xs=[.aa i]/\o=[(b8,some [.aa (bf Lib.itoa t at0 (at_ e.af 1)).aj,.aa (bf Lib.itoa t at0 (at_ e.af 1)).dn,.str (bf Lib.itoa t at0 (at_ e.af 1)).bI,.ac (bf Lib.itoa t at0 (at_ e.af 1)).iL,.sl false 1 ((bf Lib.itoa t at0 (at_ e.af 1)).fA.map AV.str)]),(b6,some [.aa 0,.aa 0,.str [],.ac false,.v (.slice none 0 0)])]/\m=(di Lib.itoa (bf Lib.itoa t at0 (at_ e.af 0))).length - i/\i<=(di Lib.itoa (bf Lib.itoa t at0 (at_ e.af 0))).length/\∀ x∈(di Lib.itoa (bf Lib.itoa t at0 (at_ e.af 0))).take i,((di Lib.itoa (bf Lib.itoa t at0 (at_ e.af 1))).any fun y=>jM e.fOp x y)=false) (di Lib.itoa (bf Lib.itoa t at0 (at_ e.af 0))).length [(b8,some [.aa (bf Lib.itoa t at0 (at_ e.af 1)).aj,.aa (bf Lib.itoa t at0 (at_ e.af 1)).dn,.str (bf Lib.itoa t at0 (at_ e.af 1)).bI,.ac (bf Lib.itoa t at0 (at_ e.af 1)).iL,.sl false 1 ((bf Lib.itoa t at0 (at_ e.af 1)).fA.map AV.str)]),(b6,some [.aa 0,.aa 0,.str [],.ac false,.v (.slice none 0 0)])] gO ⟨0,rfl,rfl,rfl,Nat.zero_le _,QC⟩ ?_;rintro m xs o ⟨i,rfl,rfl,rfl,hi,hR⟩;refine vK1 ?_;refine AW.c (fun h=>?_) fun h=>?_
   ·have hi1:=h;refine vK1 ?_;refine AW.fact 104 fun hfb=>?_;simp (disch:=omega) only [go_sem] at hfb;refine AW.aw [106] [5,6,8,10,97,98,99,104,105] (fun m xs o=>∃ j:Nat,xs=[.aa j]/\o=[(b8,some [.aa (bf Lib.itoa t at0 (at_ e.af 1)).aj,.aa (bf Lib.itoa t at0 (at_ e.af 1)).dn,.str (bf Lib.itoa t at0 (at_ e.af 1)).bI,.ac (bf Lib.itoa t at0 (at_ e.af 1)).iL,.sl false 1 ((bf Lib.itoa t at0 (at_ e.af 1)).fA.map AV.str)]),(b6,some [.aa 0,.aa 0,.str [],.ac false,.v (.slice none 0 0)])]/\m=(di Lib.itoa (bf Lib.itoa t at0 (at_ e.af 1))).length - j/\j<=(di Lib.itoa (bf Lib.itoa t at0 (at_ e.af 1))).length/\∀ y∈(di Lib.itoa (bf Lib.itoa t at0 (at_ e.af 1))).take j,jM e.fOp (at_ (di Lib.itoa (bf Lib.itoa t at0 (at_ e.af 0))) i) y=false) (di Lib.itoa (bf Lib.itoa t at0 (at_ e.af 1))).length [(b8,some [.aa (bf Lib.itoa t at0 (at_ e.af 1)).aj,.aa (bf Lib.itoa t at0 (at_ e.af 1)).dn,.str (bf Lib.itoa t at0 (at_ e.af 1)).bI,.ac (bf Lib.itoa t at0 (at_ e.af 1)).iL,.sl false 1 ((bf Lib.itoa t at0 (at_ e.af 1)).fA.map AV.str)]),(b6,some [.aa 0,.aa 0,.str [],.ac false,.v (.slice none 0 0)])] gO ⟨0,rfl,rfl,rfl,Nat.zero_le _,QC⟩ ?_;rintro m xs o ⟨j,rfl,rfl,rfl,hj,hT⟩
    (refine vU3 ?_ ?_ ?_<;>with_reducible repeat intro h)
    ·rw [tY (p:=fun x=>(di Lib.itoa (bf Lib.itoa t at0 (at_ e.af 1))).any fun y=>jM e.fOp x y) hi1 (tY (p:=fun y=>jM e.fOp (at_ (di Lib.itoa (bf Lib.itoa t at0 (at_ e.af 0))) i) y) yG h)]<;>rfl
    ·exact ⟨_,[_],_,Ir,⟨j+1,rfl,rfl,rfl,Ir,aL (p:=fun y=>jM e.fOp (at_ (di Lib.itoa (bf Lib.itoa t at0 (at_ e.af 0))) i) y) yG hT h⟩,rfl,gO⟩
    ·exact ⟨_,[_],_,Ir,⟨i+1,rfl,rfl,rfl,Ir,aL (p:=fun x=>(di Lib.itoa (bf Lib.itoa t at0 (at_ e.af 1))).any fun y=>jM e.fOp x y) hi1 hR (qt (p:=fun y=>jM e.fOp (at_ (di Lib.itoa (bf Lib.itoa t at0 (at_ e.af 0))) i) y) h hT)⟩,rfl,gO⟩
   ·rw [qt h hR];refine vU1 ?_;rfl
theorem Jz(t:List ah)(at0:List Int):∀ (n:Nat) (e:aB),Ctr lim prog 320 [] [.sl false 3 (t.map (ak false)),.sl false 1 (at0.map iV),.agg (cEx e)] (.agg [.aa (bf Lib.itoa t at0 e).aj,.aa (bf Lib.itoa t at0 e).dn,.str (bf Lib.itoa t at0 e).bI,.ac (bf Lib.itoa t at0 e).iL,.sl false 1 ((bf Lib.itoa t at0 e).fA.map AV.str)]) [] (vE e=true/\dG e<=n/\cnt t<=1048576/\at0.length<=1000)
 | 0,e=>⟨(aU 320),fun h=>absurd h.2.1 (by cases e;simp [dG])⟩
 | n+1,e=>⟨(aU 320),fun hp=>((Tg t at0 n (Jz t at0 n) e).Em (Uo (tN hp.1 hp.2.2.1))).out hp⟩
end
section
attribute [local go_sem] aM gC UD
attribute [-instance] cK dh Gr
theorem RS(t:List ah)(at0:List Int)(n:Nat)(ih:∀ e,Ctr lim prog 268 [] [.sl false 3 (t.map (ak false)),.sl false 1 (at0.map iV),.agg (cEx e)] (.agg [.aa (bf Lib.itoa t at0 e).aj,.aa (bf Lib.itoa t at0 e).dn,.str (bf Lib.itoa t at0 e).bI,.ac (bf Lib.itoa t at0 e).iL,.sl false 1 ((bf Lib.itoa t at0 e).fA.map AV.str)]) [] (vE e=true/\dG e<=n/\cnt t<=1048576/\at0.length<=1000))(e:aB):Ctr lim prog 268 [] [.sl false 3 (t.map (ak false)),.sl false 1 (at0.map iV),.agg (cEx e)] (wV (bf Lib.itoa t at0 e)) [] (vE e=true/\dG e<=n+1/\cnt t<=1048576/\at0.length<=1000):=by
 refine Ctr.bd func268 ntmps268 fun hp=>?_;have gOn:=aD.on;obtain ⟨hv,hd,hc,ha⟩:=hp;have hop:=Eo hv
 have hkn:=zB hv
 have hS:=qc t at0 e.az
 have hV:=qa t at0 e.az
 have hkk:=fun k (h:k<e.af.length)=>qh hv hd h;rcases (show e.fOp=1\/e.fOp=2\/e.fOp=3\/e.fOp=4\/e.fOp=5\/6<=e.fOp by omega) with q|q|q|q|q|q
 ·rw [Ls q]
  (repeat' first|(with_reducible first|refine Z ?_|refine Y ?_|(refine hK _ _ ?_;clear hK K)|refine And.intro ?_ ?_|exact Ct|intro (K:_->_->Prop) hK|(refine gI fun hg=>?_;try simp only [hC,reduceCtorEq] at hg;try simp only [hg]))|(refine AW.i rfl (fun h=>?_) (fun h=>?_)<;>try simp only [hC,reduceCtorEq] at h)|((with_reducible refine E ?_;repeat refine Y ?_);refine eF rfl ?_)|simp (disch:=omega) only [go_sem,q]|(with_reducible intro hg;try simp only [hC,reduceCtorEq] at hg)|exact Cl|fail)
  all_goals rfl
 ·rw [Lr q]
  (repeat' first|(with_reducible first|refine Z ?_|refine Y ?_|(refine hK _ _ ?_;clear hK K)|refine And.intro ?_ ?_|exact Ct|intro (K:_->_->Prop) hK|(refine gI fun hg=>?_;try simp only [hC,reduceCtorEq] at hg;try simp only [hg]))|(refine AW.i rfl (fun h=>?_) (fun h=>?_)<;>try simp only [hC,reduceCtorEq] at h)|((with_reducible refine E ?_;repeat refine Y ?_);refine eF rfl ?_)|simp (disch:=omega) only [go_sem,q]|(with_reducible intro hg;try simp only [hC,reduceCtorEq] at hg)|exact Cl|fail)
  all_goals rfl
 ·rw [Lq q]
  (repeat' first|(with_reducible first|refine Z ?_|refine Y ?_|(refine hK _ _ ?_;clear hK K)|refine And.intro ?_ ?_|exact Ct|intro (K:_->_->Prop) hK|(refine gI fun hg=>?_;try simp only [hC,reduceCtorEq] at hg;try simp only [hg]))|(refine AW.i rfl (fun h=>?_) (fun h=>?_)<;>try simp only [hC,reduceCtorEq] at h)|((with_reducible refine E ?_;repeat refine Y ?_);refine eF rfl ?_)|simp (disch:=omega) only [go_sem,q]|(with_reducible intro hg;try simp only [hC,reduceCtorEq] at hg)|exact Cl|fail)
  all_goals rfl
 ·rw [Lp q]
  (repeat' first|(with_reducible first|refine Z ?_|refine Y ?_|(refine hK _ _ ?_;clear hK K)|refine And.intro ?_ ?_|exact Ct|intro (K:_->_->Prop) hK|(refine gI fun hg=>?_;try simp only [hC,reduceCtorEq] at hg;try simp only [hg]))|(refine AW.i rfl (fun h=>?_) (fun h=>?_)<;>try simp only [hC,reduceCtorEq] at h)|((with_reducible refine E ?_;repeat refine Y ?_);refine eF rfl ?_)|simp (disch:=omega) only [go_sem,q]|(with_reducible intro hg;try simp only [hC,reduceCtorEq] at hg)|exact Cl|fail)
  all_goals rfl
 ·have h0:0<e.af.length:=by have:=hkn.1 q;omega
  obtain ⟨v0,d0⟩:=hkk 0 h0;have k0:=ih (at_ e.af 0);rw [Ln q h0,ew]
  (repeat' first|(with_reducible first|refine Z ?_|refine Y ?_|(refine hK _ _ ?_;clear hK K)|refine And.intro ?_ ?_|exact Ct|intro (K:_->_->Prop) hK|(refine gI fun hg=>?_;try simp only [hC,reduceCtorEq] at hg;try simp only [hg]))|(refine AW.i rfl (fun h=>?_) (fun h=>?_)<;>try simp only [hC,reduceCtorEq] at h)|((with_reducible refine E ?_;repeat refine Y ?_);refine eF rfl ?_)|simp (disch:=omega) only [go_sem,q]|(with_reducible intro hg;try simp only [hC,reduceCtorEq] at hg)|exact Cl|fail)
  all_goals rfl
 ·have h1:1<e.af.length:=by have:=hkn.2 q;omega
  have h0:0<e.af.length:=by omega
  obtain ⟨v0,d0⟩:=hkk 0 h0;obtain ⟨v1,d1⟩:=hkk 1 h1;have k0:=ih (at_ e.af 0)
  have k1:=ih (at_ e.af 1)
  have o0:=tN (t:=t) (at0:=at0) v0 hc
  have o1:=tN (t:=t) (at0:=at0) v1 hc;rcases (show e.fOp=6\/e.fOp=7\/(e.fOp=14\/e.fOp=15)\/(8<=e.fOp/\e.fOp<=13) by omega) with q|q|q|q
  ·rw [Lm q h1,ew,ew]
   (repeat' first|(with_reducible first|refine Z ?_|refine Y ?_|(refine hK _ _ ?_;clear hK K)|refine And.intro ?_ ?_|exact Ct|intro (K:_->_->Prop) hK|(refine gI fun hg=>?_;try simp only [hC,reduceCtorEq] at hg;try simp only [hg]))|(refine AW.i rfl (fun h=>?_) (fun h=>?_)<;>try simp only [hC,reduceCtorEq] at h)|((with_reducible refine E ?_;repeat refine Y ?_);refine eF rfl ?_)|simp (disch:=omega) only [go_sem,q]|(with_reducible intro hg;try simp only [hC,reduceCtorEq] at hg)|exact Cl|fail)
   all_goals rfl
  ·rw [Ll q h1,ew,ew]
   (repeat' first|(with_reducible first|refine Z ?_|refine Y ?_|(refine hK _ _ ?_;clear hK K)|refine And.intro ?_ ?_|exact Ct|intro (K:_->_->Prop) hK|(refine gI fun hg=>?_;try simp only [hC,reduceCtorEq] at hg;try simp only [hg]))|(refine AW.i rfl (fun h=>?_) (fun h=>?_)<;>try simp only [hC,reduceCtorEq] at h)|((with_reducible refine E ?_;repeat refine Y ?_);refine eF rfl ?_)|simp (disch:=omega) only [go_sem,q]|(with_reducible intro hg;try simp only [hC,reduceCtorEq] at hg)|exact Cl|fail)
   all_goals rfl
  ·rw [Li q h1,ew,ew];have f0:=NH (bf Lib.itoa t at0 (at_ e.af 0))
   have f1:=NH (bf Lib.itoa t at0 (at_ e.af 1))
   have hY:=fun h=>sY (op:=e.fOp) (a:=bf Lib.itoa t at0 (at_ e.af 0)) (b:=bf Lib.itoa t at0 (at_ e.af 1)) h
   have hN:=fun h=>sZ (op:=e.fOp) (a:=bf Lib.itoa t at0 (at_ e.af 0)) (b:=bf Lib.itoa t at0 (at_ e.af 1)) h;unfold nZ at hY hN;rcases q with q|q
   ·simp only [q,if_neg (show ¬ (14:Int)=15 by decide)] at hY hN;rw [q]
    (repeat' first|(with_reducible first|refine Z ?_|refine Y ?_|(refine hK _ _ ?_;clear hK K)|refine And.intro ?_ ?_|exact Ct|intro (K:_->_->Prop) hK|(refine gI fun hg=>?_;try simp only [hC,reduceCtorEq] at hg;try simp only [hg]))|(refine AW.i rfl (fun h=>?_) (fun h=>?_)<;>try simp only [hC,reduceCtorEq] at h)|((with_reducible refine E ?_;repeat refine Y ?_);refine eF rfl ?_)|simp (disch:=omega) only [go_sem,q]|(with_reducible intro hg;try simp only [hC,reduceCtorEq] at hg)|exact Cl|fail)
    ·rw [hN (fun a b c d=>h.elim (fun h=>h.elim (fun h=>by rw [a] at h;cases h) (fun h=>by rw [b] at h;cases h)) (fun h=>by have:=h Ir;omega))]<;>rfl
    ·rw [hY ⟨h.1,Ir,Ir⟩]<;>rfl
   ·simp only [q,if_true] at hY hN;rw [q]
    (repeat' first|(with_reducible first|refine Z ?_|refine Y ?_|(refine hK _ _ ?_;clear hK K)|refine And.intro ?_ ?_|exact Ct|intro (K:_->_->Prop) hK|(refine gI fun hg=>?_;try simp only [hC,reduceCtorEq] at hg;try simp only [hg]))|(refine AW.i rfl (fun h=>?_) (fun h=>?_)<;>try simp only [hC,reduceCtorEq] at h)|((with_reducible refine E ?_;repeat refine Y ?_);refine eF rfl ?_)|simp (disch:=omega) only [go_sem,q]|(with_reducible intro hg;try simp only [hC,reduceCtorEq] at hg)|exact Cl|fail)
    ·rw [hN (fun a b c d=>h.elim (fun h=>h.elim (fun h=>by rw [a] at h;cases h) (fun h=>by rw [b] at h;cases h)) (fun h=>by have:=h Ir;omega))]<;>rfl
    ·rw [hY ⟨h.1,Ir,Ir⟩]<;>rfl
  ·rw [Lj q h1,ew,ew];have sA0:=Fu (bf Lib.itoa t at0 (at_ e.af 0))
   have sA1:=Fu (bf Lib.itoa t at0 (at_ e.af 1))
   (refine vU1 ?_;intro h h h h h h h h h h h h h h)
   rename_i b6 _ _ _ _ _ b7 n67 b8 n8 _ _ _;obtain ⟨n78,n68⟩:=n8;refine AW.fact 14 fun hfa=>?_;simp (disch:=omega) only [go_sem] at hfa;refine AW.aw [16] [5,6,14,15] (fun m xs o=>∃ i:Nat,xs=[.aa i]/\o=[(b6,some [.aa 0,.aa 0,.str [],.ac false,.v (.slice none 0 0)])]/\m=(di Lib.itoa (bf Lib.itoa t at0 (at_ e.af 0))).length - i/\i<=(di Lib.itoa (bf Lib.itoa t at0 (at_ e.af 0))).length/\∀ x∈(di Lib.itoa (bf Lib.itoa t at0 (at_ e.af 0))).take i,((di Lib.itoa (bf Lib.itoa t at0 (at_ e.af 1))).any fun y=>jM e.fOp x y)=false) (di Lib.itoa (bf Lib.itoa t at0 (at_ e.af 0))).length [(b6,some [.aa 0,.aa 0,.str [],.ac false,.v (.slice none 0 0)])] gO ⟨0,rfl,rfl,rfl,Nat.zero_le _,QC⟩ ?_;rintro m xs o ⟨i,rfl,rfl,rfl,hi,hR⟩;refine vK1 ?_;refine AW.c (fun h=>?_) fun h=>?_
   ·have hi1:=h;refine vK1 ?_;refine AW.fact 15 fun hfb=>?_;simp (disch:=omega) only [go_sem] at hfb;refine AW.aw [17] [5,6,14,15,16] (fun m xs o=>∃ j:Nat,xs=[.aa j]/\o=[(b6,some [.aa 0,.aa 0,.str [],.ac false,.v (.slice none 0 0)])]/\m=(di Lib.itoa (bf Lib.itoa t at0 (at_ e.af 1))).length - j/\j<=(di Lib.itoa (bf Lib.itoa t at0 (at_ e.af 1))).length/\∀ y∈(di Lib.itoa (bf Lib.itoa t at0 (at_ e.af 1))).take j,jM e.fOp (at_ (di Lib.itoa (bf Lib.itoa t at0 (at_ e.af 0))) i) y=false) (di Lib.itoa (bf Lib.itoa t at0 (at_ e.af 1))).length [(b6,some [.aa 0,.aa 0,.str [],.ac false,.v (.slice none 0 0)])] gO ⟨0,rfl,rfl,rfl,Nat.zero_le _,QC⟩ ?_;rintro m xs o ⟨j,rfl,rfl,rfl,hj,hT⟩
    (refine vU3 ?_ ?_ ?_<;>with_reducible repeat intro h)
    ·rw [tY (p:=fun x=>(di Lib.itoa (bf Lib.itoa t at0 (at_ e.af 1))).any fun y=>jM e.fOp x y) hi1 (tY (p:=fun y=>jM e.fOp (at_ (di Lib.itoa (bf Lib.itoa t at0 (at_ e.af 0))) i) y) yG h)]<;>rfl
    ·exact ⟨_,[_],_,Ir,⟨j+1,rfl,rfl,rfl,Ir,aL (p:=fun y=>jM e.fOp (at_ (di Lib.itoa (bf Lib.itoa t at0 (at_ e.af 0))) i) y) yG hT h⟩,rfl,gO⟩
    ·exact ⟨_,[_],_,Ir,⟨i+1,rfl,rfl,rfl,Ir,aL (p:=fun x=>(di Lib.itoa (bf Lib.itoa t at0 (at_ e.af 1))).any fun y=>jM e.fOp x y) hi1 hR (qt (p:=fun y=>jM e.fOp (at_ (di Lib.itoa (bf Lib.itoa t at0 (at_ e.af 0))) i) y) h hT)⟩,rfl,gO⟩
   ·rw [qt h hR];refine vU1 ?_;rfl
theorem IV(t:List ah)(at0:List Int):∀ (n:Nat) (e:aB),Ctr lim prog 268 [] [.sl false 3 (t.map (ak false)),.sl false 1 (at0.map iV),.agg (cEx e)] (.agg [.aa (bf Lib.itoa t at0 e).aj,.aa (bf Lib.itoa t at0 e).dn,.str (bf Lib.itoa t at0 e).bI,.ac (bf Lib.itoa t at0 e).iL,.sl false 1 ((bf Lib.itoa t at0 e).fA.map AV.str)]) [] (vE e=true/\dG e<=n/\cnt t<=1048576/\at0.length<=1000)
 | 0,e=>⟨(aU 268),fun h=>absurd h.2.1 (by cases e;simp [dG])⟩
 | n+1,e=>⟨(aU 268),fun hp=>((RS t at0 n (IV t at0 n) e).Em (Uo (tN hp.1 hp.2.2.1))).out hp⟩
end
section
attribute [local go_sem] aM gC
attribute [-instance] cK dh
instance adw(t:List ah)(at0:List Int)(e:aB):Ctr lim prog 288 [] [.sl false 3 (t.map (ak false)),.sl false 1 (at0.map iV),.agg (cEx e)] (.agg [.aa (bf Lib.itoa t at0 e).aj,.aa (bf Lib.itoa t at0 e).dn,.str (bf Lib.itoa t at0 e).bI,.ac (bf Lib.itoa t at0 e).iL,.sl false 1 ((bf Lib.itoa t at0 e).fA.map AV.str)]) [] (fj e=true/\cnt t<=1048576/\at0.length<=1000):=by refine Ctr.bd func288 ntmps288 fun hp=>?_;have gOn:=aD.on;obtain ⟨hx,hc,ha⟩:=hp;obtain ⟨hv,hd⟩:=lM hx;have k0:=Jz t at0 8 e;exact vP0 hx
instance adt(t:List ah)(at0:List Int)(e:aB):Ctr lim prog 244 [] [.sl false 3 (t.map (ak false)),.sl false 1 (at0.map iV),.agg (cEx e)] (.ac (pK Lib.itoa t at0 e)) [] (fj e=true/\cnt t<=1048576/\at0.length<=1000):=by
 refine Ctr.bd func244 ntmps244 fun hp=>?_;have gOn:=aD.on
 have e1:pK Lib.itoa t at0 e=ji (bf Lib.itoa t at0 e):=by rw [pK,hp.1];rfl
 rw [e1]
 all_goals exact uU
instance ac3(t:List ah)(at0:List Int)(e:aB):Ctr lim prog 229 [] [.sl false 3 (t.map (ak false)),.sl false 1 (at0.map iV),.agg (cEx e)] (.agg [.aa (bf Lib.itoa t at0 e).aj,.aa (bf Lib.itoa t at0 e).dn,.str (bf Lib.itoa t at0 e).bI,.ac (bf Lib.itoa t at0 e).iL,.sl false 1 ((bf Lib.itoa t at0 e).fA.map AV.str)]) [] (fj e=true/\cnt t<=1048576/\at0.length<=1000):=by refine Ctr.bd func229 ntmps229 fun hp=>?_;have gOn:=aD.on;obtain ⟨hx,hc,ha⟩:=hp;obtain ⟨hv,hd⟩:=lM hx;have k0:=IV t at0 8 e;exact vP0 hx
instance ac1(t:List ah)(at0:List Int)(e:aB):Ctr lim prog 187 [] [.sl false 3 (t.map (ak false)),.sl false 1 (at0.map iV),.agg (cEx e)] (.ac (pK Lib.itoa t at0 e)) [] (fj e=true/\cnt t<=1048576/\at0.length<=1000):=by
 refine Ctr.bd func187 ntmps187 fun hp=>?_;have gOn:=aD.on
 have e1:pK Lib.itoa t at0 e=ji (bf Lib.itoa t at0 e):=by rw [pK,hp.1];rfl
 rw [e1]
 all_goals exact uU
end
end Go.Proofs
namespace Go.Dt
open Go Go.Ab
def wQ{fmt:Int->Str}{t:List ah}{at0:List Int}{es:List aB}{i:Nat}(hi:i<es.length)(hR:ck fmt t at0 (es.drop i)=ck fmt t at0 es)(h:pK fmt t at0 (at_ es i)=true):ck fmt t at0 (es.drop (i+1))=ck fmt t at0 es:=by rw [<- hR,bq hi,ck,ck,List.all_cons,h,Bool.true_and]
def CA{fmt:Int->Str}{t:List ah}{at0:List Int}{es:List aB}{i:Nat}(hi:i<es.length)(hR:ck fmt t at0 (es.drop i)=ck fmt t at0 es)(h:pK fmt t at0 (at_ es i)=false):ck fmt t at0 es=false:=by rw [<- hR,bq hi,ck,List.all_cons,h,Bool.false_and]
def zH{fmt:Int->Str}{t:List ah}{at0:List Int}{es:List aB}{i:Nat}(hi:¬ i<es.length)(hR:ck fmt t at0 (es.drop i)=ck fmt t at0 es):ck fmt t at0 es=true:=by rw [<- hR,List.drop_eq_nil_of_le Ir];rfl
theorem HT{α:Type}[Inhabited α]{p:α->Bool}{l:List α}(h:l.all p=true){i:Nat}(hi:i<l.length):p (at_ l i)=true:=List.all_eq_true.1 h _ (at_mem hi)
end Go.Dt
namespace Go.Proofs
open Go.Ab Go.Dt
set_option maxHeartbeats 600000
attribute [local go_sem] aM dS gC Nr aC aR
attribute [-instance] cK dh
instance aa6(b:Nat)(t:List ah)(fs:List bB)(es:List aB)(at0:List Int):Ctr lim prog 200 [(b,some [.sl false 3 (t.map (ak false)),.sl true 3 (fs.map fW)])] [.ptr b 0,.sl false 7 (es.map (aO false)),.sl false 1 (at0.map iV)] (.ac (ck Lib.itoa t at0 es)) [some [.sl false 3 (t.map (ak false)),.sl true 3 (fs.map fW)]] (es.all fj=true/\cnt t<=1048576/\at0.length<=1000):=by
 refine Ctr.bd func200 ntmps200 fun hp=>?_;have gOn:=aD.on;obtain ⟨hx,hc,ha⟩:=hp;refine AW.f1 1 fun hf=>?_;refine vU1 ?_;refine AW.aw [11] [0,2,9,10] (fun m xs o=>∃ i:Nat,xs=[.aa i]/\o=[(b,some [.sl false 3 (t.map (ak false)),.sl true 3 (fs.map fW)])]/\m=es.length - i/\i<=es.length/\ck Lib.itoa t at0 (es.drop i)=ck Lib.itoa t at0 es) es.length [(b,some [.sl false 3 (t.map (ak false)),.sl true 3 (fs.map fW)])] gO ⟨0,rfl,rfl,rfl,Nat.zero_le _,rfl⟩ ?_;rintro m xs o ⟨i,rfl,rfl,rfl,hi,hR⟩;refine vK1 ?_
 (refine AW.i rfl (fun h=>?_) (fun h=>?_)<;>try simp only [hC,reduceCtorEq] at h)
 ·have hi1:=h
  have hx1:=HT hx hi1
  cases e:pK Lib.itoa t at0 (at_ es i) with
  | true =>
   (refine vP1 e ?_;with_reducible repeat first|intro (K:_->_->Prop) hK|intro h)
   all_goals first|exact ⟨_,[_],_,Ir,⟨i+1,rfl,rfl,rfl,Ir,wQ hi1 hR e⟩,rfl,gO⟩
  | false =>
   rw [CA hi1 hR e];exact vP0 e
 ·rw [zH h hR]
  all_goals exact uU
instance ac6(b:Nat)(t:List ah)(fs:List bB)(es:List aB)(at0:List Int):Ctr lim prog 147 [(b,some [.sl false 3 (t.map (ak false)),.sl true 3 (fs.map fW)])] [.ptr b 0,.sl false 7 (es.map (aO false)),.sl false 1 (at0.map iV)] (.ac (ck Lib.itoa t at0 es)) [some [.sl false 3 (t.map (ak false)),.sl true 3 (fs.map fW)]] (es.all fj=true/\cnt t<=1048576/\at0.length<=1000):=by
 refine Ctr.bd func147 ntmps147 fun hp=>?_;have gOn:=aD.on;obtain ⟨hx,hc,ha⟩:=hp;refine AW.f1 1 fun hf=>?_;refine vU1 ?_;refine AW.aw [7] [0,1,2] (fun m xs o=>∃ i:Nat,xs=[.aa i]/\o=[(b,some [.sl false 3 (t.map (ak false)),.sl true 3 (fs.map fW)])]/\m=es.length - i/\i<=es.length/\ck Lib.itoa t at0 (es.drop i)=ck Lib.itoa t at0 es) es.length [(b,some [.sl false 3 (t.map (ak false)),.sl true 3 (fs.map fW)])] gO ⟨0,rfl,rfl,rfl,Nat.zero_le _,rfl⟩ ?_;rintro m xs o ⟨i,rfl,rfl,rfl,hi,hR⟩;refine vK1 ?_
 (refine AW.i rfl (fun h=>?_) (fun h=>?_)<;>try simp only [hC,reduceCtorEq] at h)
 ·have hi1:=h
  have hx1:=HT hx hi1
  cases e:pK Lib.itoa t at0 (at_ es i) with
  | true =>
   (refine vP1 e ?_;with_reducible repeat first|intro (K:_->_->Prop) hK|intro h)
   all_goals first|exact ⟨_,[_],_,Ir,⟨i+1,rfl,rfl,rfl,Ir,wQ hi1 hR e⟩,rfl,gO⟩
  | false =>
   rw [CA hi1 hR e];exact vP0 e
 ·rw [zH h hR]
  all_goals exact uU
end Go.Proofs
namespace Go.Dt
open Go Go.Ab
def dA(t:List ah)(at0:List Int)(n:ae)(x:ah):Bool:=cont (gm t at0 (fV n.fType.az)) x.ax
def IE{fmt:Int->Str}{t:List ah}{n:ae}{names:List Str}{at0:List Int}{x:ah}:ij fmt t n names at0 x=flt (!ck fmt t at0 n.aG) 6 names at0++flt (!ck fmt t at0 n.bO) 7 names at0++flt (decide (n.fType.aj=5) && !dA t at0 n x) 8 names at0:=by rw [ij,dA,Ht,fV];cases kV n.fType.az<;>rfl
def anyS(l:List Str)(v:Str)(k:Nat):Bool:=(l.take k).any fun x=>x == v
def sr{l:List Str}{v:Str}{k:Nat}(h:k<l.length):anyS l v (k+1)=(anyS l v k || at_ l k == v):=by rw [anyS,tk1 h,List.any_append];simp [anyS]
def vw{l:List Str}{v:Str}{k:Nat}(h:¬ k<l.length):anyS l v k=cont l v:=by rw [anyS,List.take_of_length_le Ir,cont,ym]
end Go.Dt
namespace Go.Proofs
open Go.Ab Go.Dt
set_option maxHeartbeats 1000000
attribute [local go_sem] aM dS gC Nr aC aR
attribute [-instance] cK dh
instance aaY(b:Nat)(t:List ah)(fs:List bB)(n:ae)(names:List Str)(at0:List Int)(x:ah):Ctr lim prog 204 [(b,some [.sl false 3 (t.map (ak false)),.sl true 3 (fs.map fW)])] [.ptr b 0,.agg (cSc n),.sl false 1 (names.map AV.str),.sl false 1 (at0.map iV),.agg (cNo x)] (.tup []) [some [.sl false 3 (t.map (ak false)),.sl true 3 ((fs++ij Lib.itoa t n names at0 x).map fW)]] (fs.length<=1073741820/\names.length<=1000/\at0.length<=1000/\n.aG.all fj=true/\n.bO.all fj=true/\n.fType.az.length<=40/\cnt t<=1048576):=by
 refine Ctr.bd func204 ntmps204 fun hp=>?_;have gOn:=aD.on;obtain ⟨hf,hn,ha,hw,hm,hp,hc⟩:=hp;rw [IE];have sA:=Nu t at0 (fV n.fType.az)
 cases e1:ck Lib.itoa t at0 n.aG with
 | true =>
  rw [bw (b:=!true) rfl]
  cases e2:ck Lib.itoa t at0 n.bO with
  | true =>
   rw [bw (b:=!true) rfl]
   (refine vP3 (And.intro e1 e2) ?_ ?_ ?_<;>with_reducible repeat first|intro (K:_->_->Prop) hK|intro h)
   all_goals first|(rw [bw];rotate_left;simp [dA, *];simp;done)|(rw [aY];rotate_left;simp [dA, *];simp;done)|(rw [bw];rotate_left;simp [dA, *];done)|(rw [aY];rotate_left;simp [dA, *];done)
  | false =>
   rw [aY (b:=!false) rfl]
   (refine vP3 (And.intro e1 e2) ?_ ?_ ?_<;>with_reducible repeat first|intro (K:_->_->Prop) hK|intro h)
   all_goals first|(rw [bw];rotate_left;simp [dA, *];simp;done)|(rw [aY];rotate_left;simp [dA, *];simp;done)|(rw [bw];rotate_left;simp [dA, *];done)|(rw [aY];rotate_left;simp [dA, *];done)
 | false =>
  rw [aY (b:=!false) rfl]
  cases e2:ck Lib.itoa t at0 n.bO with
  | true =>
   rw [bw (b:=!true) rfl]
   (refine vP3 (And.intro e1 e2) ?_ ?_ ?_<;>with_reducible repeat first|intro (K:_->_->Prop) hK|intro h)
   all_goals first|(rw [bw];rotate_left;simp [dA, *];simp;done)|(rw [aY];rotate_left;simp [dA, *];simp;done)|(rw [bw];rotate_left;simp [dA, *];done)|(rw [aY];rotate_left;simp [dA, *];done)
  | false =>
   rw [aY (b:=!false) rfl]
   (refine vP3 (And.intro e1 e2) ?_ ?_ ?_<;>with_reducible repeat first|intro (K:_->_->Prop) hK|intro h)
   all_goals first|(rw [bw];rotate_left;simp [dA, *];simp;done)|(rw [aY];rotate_left;simp [dA, *];simp;done)|(rw [bw];rotate_left;simp [dA, *];done)|(rw [aY];rotate_left;simp [dA, *];done)
instance aab(b:Nat)(t:List ah)(fs:List bB)(n:ae)(names:List Str)(at0:List Int)(x:ah):Ctr lim prog 145 [(b,some [.sl false 3 (t.map (ak false)),.sl true 3 (fs.map fW)])] [.ptr b 0,.agg (cSc n),.agg (cNo x),.sl false 1 (names.map AV.str),.sl false 1 (at0.map iV)] (.tup []) [some [.sl false 3 (t.map (ak false)),.sl true 3 ((fs++ij Lib.itoa t n names at0 x).map fW)]] (fs.length<=1073741820/\names.length<=1000/\at0.length<=1000/\n.aG.all fj=true/\n.bO.all fj=true/\n.fType.az.length<=40/\cnt t<=1048576):=by
 refine Ctr.bd func145 ntmps145 fun hp=>?_;have gOn:=aD.on;obtain ⟨hf,hn,ha,hw,hm,hp,hc⟩:=hp;rw [IE];have sA:=Mi t at0 (fV n.fType.az)
 have hvl:=qa t at0 (fV n.fType.az)
 cases e1:ck Lib.itoa t at0 n.aG with
 | true =>
  rw [bw (b:=!true) rfl]
  cases e2:ck Lib.itoa t at0 n.bO with
  | true =>
   rw [bw (b:=!true) rfl]
   (refine vP2 (And.intro e1 e2) ?_ ?_<;>with_reducible repeat first|intro (K:_->_->Prop) hK|intro h)
   ·refine AW.aw [13,14] [0,3,4,7,12] (fun m xs o=>∃ k:Nat,xs=[.ac (anyS (gm t at0 (fV n.fType.az)) x.ax k),.aa k]/\o=[(b,some [.sl false 3 (t.map (ak false)),.sl true 3 (fs.map fW)])]/\m=(gm t at0 (fV n.fType.az)).length - k/\k<=(gm t at0 (fV n.fType.az)).length) (gm t at0 (fV n.fType.az)).length [(b,some [.sl false 3 (t.map (ak false)),.sl true 3 (fs.map fW)])] gO ⟨0,rfl,rfl,rfl,Nat.zero_le _⟩ ?_;rintro m xs o ⟨k,rfl,rfl,rfl,hk⟩
    (refine vU3 ?_ ?_ ?_<;>with_reducible repeat intro h)
    ·exact ⟨_,[_,_],_,Ir,⟨k+1,by rw [sr h],rfl,rfl,Ir⟩,rfl,gO⟩
    all_goals (rename ¬ k<_=>hne;rw [vw hne] at h;first|(rw [bw];rotate_left;simp [dA, *];simp;done)|(rw [aY];rotate_left;simp [dA, *];simp;done)|(rw [bw];rotate_left;simp [dA, *];done)|(rw [aY];rotate_left;simp [dA, *];done))
   all_goals first|(rw [bw];rotate_left;simp [dA, *];simp;done)|(rw [aY];rotate_left;simp [dA, *];simp;done)|(rw [bw];rotate_left;simp [dA, *];done)|(rw [aY];rotate_left;simp [dA, *];done)
  | false =>
   rw [aY (b:=!false) rfl]
   (refine vP2 (And.intro e1 e2) ?_ ?_<;>with_reducible repeat first|intro (K:_->_->Prop) hK|intro h)
   ·refine AW.aw [13,14] [0,3,4,7,12] (fun m xs o=>∃ k:Nat,xs=[.ac (anyS (gm t at0 (fV n.fType.az)) x.ax k),.aa k]/\o=[(b,some [.sl false 3 (t.map (ak false)),.sl true 3 ((fs++[bB.mk 7 names at0]).map fW)])]/\m=(gm t at0 (fV n.fType.az)).length - k/\k<=(gm t at0 (fV n.fType.az)).length) (gm t at0 (fV n.fType.az)).length [(b,some [.sl false 3 (t.map (ak false)),.sl true 3 ((fs++[bB.mk 7 names at0]).map fW)])] gO ⟨0,rfl,rfl,rfl,Nat.zero_le _⟩ ?_;rintro m xs o ⟨k,rfl,rfl,rfl,hk⟩
    (refine vU3 ?_ ?_ ?_<;>with_reducible repeat intro h)
    ·exact ⟨_,[_,_],_,Ir,⟨k+1,by rw [sr h],rfl,rfl,Ir⟩,rfl,gO⟩
    all_goals (rename ¬ k<_=>hne;rw [vw hne] at h;first|(rw [bw];rotate_left;simp [dA, *];simp;done)|(rw [aY];rotate_left;simp [dA, *];simp;done)|(rw [bw];rotate_left;simp [dA, *];done)|(rw [aY];rotate_left;simp [dA, *];done))
   all_goals first|(rw [bw];rotate_left;simp [dA, *];simp;done)|(rw [aY];rotate_left;simp [dA, *];simp;done)|(rw [bw];rotate_left;simp [dA, *];done)|(rw [aY];rotate_left;simp [dA, *];done)
 | false =>
  rw [aY (b:=!false) rfl]
  cases e2:ck Lib.itoa t at0 n.bO with
  | true =>
   rw [bw (b:=!true) rfl]
   (refine vP2 (And.intro e1 e2) ?_ ?_<;>with_reducible repeat first|intro (K:_->_->Prop) hK|intro h)
   ·refine AW.aw [13,14] [0,3,4,7,12] (fun m xs o=>∃ k:Nat,xs=[.ac (anyS (gm t at0 (fV n.fType.az)) x.ax k),.aa k]/\o=[(b,some [.sl false 3 (t.map (ak false)),.sl true 3 ((fs++[bB.mk 6 names at0]).map fW)])]/\m=(gm t at0 (fV n.fType.az)).length - k/\k<=(gm t at0 (fV n.fType.az)).length) (gm t at0 (fV n.fType.az)).length [(b,some [.sl false 3 (t.map (ak false)),.sl true 3 ((fs++[bB.mk 6 names at0]).map fW)])] gO ⟨0,rfl,rfl,rfl,Nat.zero_le _⟩ ?_;rintro m xs o ⟨k,rfl,rfl,rfl,hk⟩
    (refine vU3 ?_ ?_ ?_<;>with_reducible repeat intro h)
    ·exact ⟨_,[_,_],_,Ir,⟨k+1,by rw [sr h],rfl,rfl,Ir⟩,rfl,gO⟩
    all_goals (rename ¬ k<_=>hne;rw [vw hne] at h;first|(rw [bw];rotate_left;simp [dA, *];simp;done)|(rw [aY];rotate_left;simp [dA, *];simp;done)|(rw [bw];rotate_left;simp [dA, *];done)|(rw [aY];rotate_left;simp [dA, *];done))
   all_goals first|(rw [bw];rotate_left;simp [dA, *];simp;done)|(rw [aY];rotate_left;simp [dA, *];simp;done)|(rw [bw];rotate_left;simp [dA, *];done)|(rw [aY];rotate_left;simp [dA, *];done)
  | false =>
   rw [aY (b:=!false) rfl]
   (refine vP2 (And.intro e1 e2) ?_ ?_<;>with_reducible repeat first|intro (K:_->_->Prop) hK|intro h)
   ·refine AW.aw [13,14] [0,3,4,7,12] (fun m xs o=>∃ k:Nat,xs=[.ac (anyS (gm t at0 (fV n.fType.az)) x.ax k),.aa k]/\o=[(b,some [.sl false 3 (t.map (ak false)),.sl true 3 ((fs++[bB.mk 6 names at0]++[bB.mk 7 names at0]).map fW)])]/\m=(gm t at0 (fV n.fType.az)).length - k/\k<=(gm t at0 (fV n.fType.az)).length) (gm t at0 (fV n.fType.az)).length [(b,some [.sl false 3 (t.map (ak false)),.sl true 3 ((fs++[bB.mk 6 names at0]++[bB.mk 7 names at0]).map fW)])] gO ⟨0,rfl,rfl,rfl,Nat.zero_le _⟩ ?_;rintro m xs o ⟨k,rfl,rfl,rfl,hk⟩
    (refine vU3 ?_ ?_ ?_<;>with_reducible repeat intro h)
    ·exact ⟨_,[_,_],_,Ir,⟨k+1,by rw [sr h],rfl,rfl,Ir⟩,rfl,gO⟩
    all_goals (rename ¬ k<_=>hne;rw [vw hne] at h;first|(rw [bw];rotate_left;simp [dA, *];simp;done)|(rw [aY];rotate_left;simp [dA, *];simp;done)|(rw [bw];rotate_left;simp [dA, *];done)|(rw [aY];rotate_left;simp [dA, *];done))
   all_goals first|(rw [bw];rotate_left;simp [dA, *];simp;done)|(rw [aY];rotate_left;simp [dA, *];simp;done)|(rw [bw];rotate_left;simp [dA, *];done)|(rw [aY];rotate_left;simp [dA, *];done)
end Go.Proofs
namespace Go.Dt
open Go Go.Ab
def unQ(a b:ah)(u:Str):Bool:=decide (0<=idx (ndP u) a.af) && decide (0<=idx (ndP u) b.af) && (at_ a.af (idx (ndP u) a.af).toNat).ax == (at_ b.af (idx (ndP u) b.af).toNat).ax
def IM(n:ae)(a b:ah):iC n a b=(n.ay.all (unQ a b) && !n.ay.isEmpty):=rfl
def IL{n:ae}{a b:ah}{k:Nat}(hk:k<n.ay.length)(h:unQ a b (at_ n.ay k)=false):iC n a b=false:=by rw [IM,eQ hk h];rfl
def Fq{n:ae}{a b:ah}{k:Nat}(hk:¬ k<n.ay.length)(h:∀ y∈n.ay.take k,(!unQ a b y)=false):iC n a b=decide (0<n.ay.length):=by rw [IM,cM hk h];cases n.ay<;>simp
def casT(n:ae)(l:List ah)(i:Nat):Nat:=((n.af.take i).filter fun k=>mR k.af l).length
def D0{n:ae}{l:List ah}{i:Nat}(h:i<n.af.length):casT n l (i+1)=casT n l i+if mR (at_ n.af i).af l=true then 1 else 0:=by rw [casT,tk1 h,List.filter_append,List.length_append];congr 1;rw [List.filter_cons];split<;>rfl
def Qt{n:ae}{l:List ah}{i:Nat}(h:¬ i<n.af.length):casT n l i=pT n l:=by rw [casT,List.take_of_length_le Ir];rfl
def TV(n:ae)(l:List ah)(i:Nat):casT n l i<=n.af.length:=by rw [casT];exact Nat.le_trans (List.length_filter_le _ _) (by rw [List.length_take];omega)
def TW(n:ae)(l:List ah):pT n l<=n.af.length:=List.length_filter_le _ _
end Go.Dt
namespace Go.Proofs
open Go.Ab Go.Dt
set_option maxHeartbeats 1000000
attribute [local go_sem] aM dS aC aR dr dq
attribute [-instance] cK dh
instance aaX(n:ae)(a b:ah):Ctr lim prog 207 [] [.agg (cSc n),.agg (cNo a),.agg (cNo b)] (.ac (iC n a b)) [] True:=by
 refine Ctr.bd func207 ntmps207 fun hp=>?_;have gOn:=aD.on;refine AW.vz 0 rfl (xs:=n.ay.map AV.str) (own:=false) (sz:=1) QC fun hf=>?_;simp (disch:=omega) only [go_sem] at hf;refine vK1 ?_;refine AW.aw [14] [3,4,5,12,13] (fun m xs o=>∃ k:Nat,xs=[.aa k]/\o=[]/\m=n.ay.length - k/\k<=n.ay.length/\∀ y∈n.ay.take k,(!unQ a b y)=false) n.ay.length [] trivial ⟨0,rfl,rfl,rfl,Nat.zero_le _,QC⟩ ?_;rintro m xs o ⟨k,rfl,rfl,rfl,hk,hR⟩;have hla:=eO (p:=ndP (at_ n.ay k)) a.af
 have hlb:=eO (p:=ndP (at_ n.ay k)) b.af
 (refine vU3 ?_ ?_ ?_<;>with_reducible repeat intro h)
 ·rw [IL yG (by rw [unQ];grind)]
 ·exact ⟨_,[_],_,Ir,⟨k+1,rfl,rfl,rfl,Ir,aL (p:=fun y=>!unQ a b y) yG hR (by show (!unQ a b (at_ n.ay k))=false;rw [unQ];grind)⟩,rfl,gO⟩
 ·rw [Fq h hR];simp
instance Z7(n:ae)(a b:ah):Ctr lim prog 185 [] [.agg (cSc n),.agg (cNo a),.agg (cNo b)] (.ac (iC n a b)) [] True:=by
 refine Ctr.bd func185 ntmps185 fun hp=>?_;have gOn:=aD.on;refine AW.vz 0 rfl (xs:=n.ay.map AV.str) (own:=false) (sz:=1) QC fun hf=>?_;simp (disch:=omega) only [go_sem] at hf;refine vK1 ?_;refine AW.aw [7] [3,4,5] (fun m xs o=>∃ k:Nat,xs=[.aa k]/\o=[]/\m=n.ay.length - k/\k<=n.ay.length/\∀ y∈n.ay.take k,(!unQ a b y)=false) n.ay.length [] trivial ⟨0,rfl,rfl,rfl,Nat.zero_le _,QC⟩ ?_;rintro m xs o ⟨k,rfl,rfl,rfl,hk,hR⟩;have hla:=eO (p:=ndP (at_ n.ay k)) a.af
 have hlb:=eO (p:=ndP (at_ n.ay k)) b.af
 (refine vU3 ?_ ?_ ?_<;>with_reducible repeat intro h)
 ·rw [IL yG (by rw [unQ];grind)]
 ·exact ⟨_,[_],_,Ir,⟨k+1,rfl,rfl,rfl,Ir,aL (p:=fun y=>!unQ a b y) yG hR (by show (!unQ a b (at_ n.ay k))=false;rw [unQ];grind)⟩,rfl,gO⟩
 ·rw [Fq h hR];simp
instance abb(n:ae)(l:List ah):Ctr lim prog 199 [] [.agg (cSc n),.sl false 3 (l.map (ak false))] (.aa (pT n l)) [] (aH n.af<=1048576):=by
 refine Ctr.bd func199 ntmps199 fun hp=>?_;have gOn:=aD.on;refine AW.vz 0 rfl (xs:=n.af.map (aq false)) (own:=false) (sz:=19) QC fun hf=>?_;simp (disch:=omega) only [go_sem] at hf;refine vK1 ?_;refine AW.aw [5,11] [1,9,10] (fun m xs o=>∃ i:Nat,xs=[.aa (casT n l i),.aa i]/\o=[]/\m=n.af.length - i/\i<=n.af.length) n.af.length [] trivial ⟨0,rfl,rfl,rfl,Nat.zero_le _⟩ ?_;rintro m xs o ⟨i,rfl,rfl,rfl,hi⟩;have hcl:=TV n l i;refine vK1 ?_;refine AW.c (fun h=>?_) fun h=>?_
 ·have hi1:=h
  have hcs:=jc (at_mem hi1)
  cases e:mR (at_ n.af i).af l with
  | true =>
   (refine vP1 e ?_;with_reducible repeat first|intro (K:_->_->Prop) hK|intro h)
   exact ⟨_,[_,_],[],Ir,⟨i+1,by rw [D0 hi1,if_pos e],rfl,rfl,Ir⟩,rfl,trivial⟩
  | false =>
   (refine vP1 e ?_;with_reducible repeat first|intro (K:_->_->Prop) hK|intro h)
   exact ⟨_,[_,_],[],Ir,⟨i+1,by rw [D0 hi1,if_neg (by rw [e];simp)];rfl,rfl,rfl,Ir⟩,rfl,trivial⟩
 ·refine vU1 ?_;rw [Qt h]
end Go.Proofs
namespace Go.Dt
open Go Go.Ab
def IZ{l:List ae}{at0:List Str}{es:List aB}{k j:Nat}(hk:k<es.length)(hj:j<(fH (at_ es k)).length)(h:(eM l at0 (at_ (fH (at_ es k)) j)).isSome=false):ml l at0 es=false :=
 eQ hk (eQ hj h)
end Go.Dt
namespace Go.Proofs
open Go.Ab Go.Dt
def R6(l:List bP):(l.map (cH false)).all (AV.elem 3)=true:=bL (fun _=>rfl) l
def R4(l:List bP):((l.map (cH false)).flatMap AV.cells).all AV.one=true:=cf (fun _=>rfl) l
attribute [local go_sem] aM aC dr dq iB gC sX List.length_take R6 R4
attribute [-instance] cK dh
instance acF(at0:List Str)(nm:Str):iM lim prog 153 [.sl false 1 (at0.map AV.str),.str nm] (.sl false 1 ((at0++[nm]).map AV.str)) (at0.length<=1000):=by
 refine ⟨(aU 153),fun hp=>?_⟩
 have h:Ctr lim prog 153 [] [.sl false 1 (at0.map AV.str),.str nm] (.sl true 1 ((at0++[nm]).map AV.str)) [] (at0.length<=1000):=by
  refine Ctr.bd func153 ntmps153 fun hp=>?_;refine vU1 ?_;rw [List.map_append];rfl
 have:=(h.pure hp).frz;simpa only [AV.frz,aM,cond_true] using this
instance Zs(l:List ae)(at0:List Str)(es:List aB):Ctr lim prog 154 [] [.sl false 19 (l.map (aq false)),.sl false 1 (at0.map AV.str),.sl false 7 (es.map (aO false))] (.ac (ml l at0 es)) [] (aH l<=1048576/\at0.length<=1000/\es.all fj=true):=by
 refine Ctr.bd func154 ntmps154 fun hp=>?_;have gOn:=aD.on;obtain ⟨hc,ha,he⟩:=hp;refine AW.f1 2 fun hf=>?_;refine vU1 ?_;refine AW.aw [15] [0,1,13,14] (fun m xs o=>∃ k:Nat,xs=[.aa k]/\o=[]/\m=es.length - k/\k<=es.length/\∀ y∈es.take k,(!((fH y).all fun p=>(eM l at0 p).isSome))=false) es.length [] trivial ⟨0,rfl,rfl,rfl,Nat.zero_le _,QC⟩ ?_;rintro m xs o ⟨k,rfl,rfl,rfl,hk,hR⟩;refine vK1 ?_;refine AW.c (fun h=>?_) fun h=>?_
 ·have hk1:=h
  have hex:=List.all_eq_true.1 he _ (at_mem hk1)
  have hpl:=uC (lM hex).1 (lM hex).2 (Nat.le_refl _)
  (refine vK1 ?_;intro h)
  refine AW.aw [22] [0,1,13,14,15,20,21] (fun m xs o=>∃ j:Nat,xs=[.aa j]/\o=[]/\m=(fH (at_ es k)).length - j/\j<=(fH (at_ es k)).length/\∀ y∈(fH (at_ es k)).take j,(!(eM l at0 y).isSome)=false) (fH (at_ es k)).length [] trivial ⟨0,rfl,rfl,rfl,Nat.zero_le _,QC⟩ ?_;rintro m xs o ⟨j,rfl,rfl,rfl,hj,hT⟩
  (refine vU3 ?_ ?_ ?_<;>with_reducible repeat intro h)
  ·rw [IZ hk1 yG h]
  ·exact ⟨_,[_],[],Ir,⟨j+1,rfl,rfl,rfl,Ir,aL yG hT (by rw [h];rfl)⟩,rfl,trivial⟩
  ·exact ⟨_,[_],[],Ir,⟨k+1,rfl,rfl,rfl,Ir,aL hk1 hR (by rw [cM h hT];rfl)⟩,rfl,trivial⟩
 ·rw [ml,cM h hR]
  all_goals exact uU
instance Y3(l:List ae)(at0:List Str)(es:List aB):Ctr lim prog 136 [] [.sl false 19 (l.map (aq false)),.sl false 1 (at0.map AV.str),.sl false 7 (es.map (aO false))] (.ac (ml l at0 es)) [] (aH l<=1048576/\at0.length<=1000/\es.all fj=true/\gdF l):=by
 refine Ctr.bd func136 ntmps136 fun hp=>?_;have gOn:=aD.on;obtain ⟨hc,ha,he,hg⟩:=hp;refine AW.f1 2 fun hf=>?_;refine vU1 ?_;refine AW.aw [7] [0,1,2] (fun m xs o=>∃ k:Nat,xs=[.aa k]/\o=[]/\m=es.length - k/\k<=es.length/\∀ y∈es.take k,(!((fH y).all fun p=>(eM l at0 p).isSome))=false) es.length [] trivial ⟨0,rfl,rfl,rfl,Nat.zero_le _,QC⟩ ?_;rintro m xs o ⟨k,rfl,rfl,rfl,hk,hR⟩;refine vK1 ?_;refine AW.c (fun h=>?_) fun h=>?_
 ·have hk1:=h
  have hex:=List.all_eq_true.1 he _ (at_mem hk1)
  have hpl:=uC (lM hex).1 (lM hex).2 (Nat.le_refl _);refine vK1 ?_;refine AW.aw [9] [0,1,2,7,8] (fun m xs o=>∃ j:Nat,xs=[.aa j]/\o=[]/\m=(fH (at_ es k)).length - j/\j<=(fH (at_ es k)).length/\∀ y∈(fH (at_ es k)).take j,(!(eM l at0 y).isSome)=false) (fH (at_ es k)).length [] trivial ⟨0,rfl,rfl,rfl,Nat.zero_le _,QC⟩ ?_;rintro m xs o ⟨j,rfl,rfl,rfl,hj,hT⟩
  (refine vU3 ?_ ?_ ?_<;>with_reducible repeat intro h)
  ·rw [IZ hk1 yG h]
  ·exact ⟨_,[_],[],Ir,⟨j+1,rfl,rfl,rfl,Ir,aL yG hT (by rw [h];rfl)⟩,rfl,trivial⟩
  ·exact ⟨_,[_],[],Ir,⟨k+1,rfl,rfl,rfl,Ir,aL hk1 hR (by rw [cM h hT];rfl)⟩,rfl,trivial⟩
 ·rw [ml,cM h hR]
  all_goals exact uU
end Go.Proofs
