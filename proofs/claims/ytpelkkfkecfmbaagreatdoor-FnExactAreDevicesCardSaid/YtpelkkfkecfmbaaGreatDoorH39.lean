/- Part of a proof. -/
import Derived.Test.YtpelkkfkecfmbaaGreatDoorH38
set_option linter.all false
set_option maxRecDepth 20000
set_option maxHeartbeats 4000000
open Go.Proofs.Tryz
namespace Go.Dt
open Go Go.Ab
def rW(q:List Int):AV:=.sl true 1 (q.map iV)
@[go_sem] def Et(q:List Int):rW q=.sl true 1 (q.map iV):=rfl
def rO(l:List (List Int)):AV.bg (l.map rW)=l.map rV:=by
 induction l with
 | nil=>rfl
 | cons q l ih=>rw [List.map_cons,List.map_cons,AV.bg,ih,rW,AV.frz,dS];rfl
def FA(l:List (List Int)):(l.map rW).all (AV.elem 1)=true:=bL (fun _=>rfl) l
def Fz(l:List (List Int)):((l.map rW).flatMap AV.cells).all AV.one=true:=cf (fun _=>rfl) l
def uk{s:GStep}{p:List Int}{ks:List ah}{i:Nat}(hi:i<ks.length)(h1:(at_ ks i).ag=s.ag)(h2:uE (at_ ks i) s.aT=true):iU s p i (ks.drop i)=[p++[(i:Int)]]++iU s p ((i+1:Nat):Int) (ks.drop (i+1)):=by rw [bq hi,iU,h1,h2,beq_self_eq_true];rfl
def rv{s:GStep}{p:List Int}{ks:List ah}{i:Nat}(hi:i<ks.length)(h:(at_ ks i).ag=s.ag->uE (at_ ks i) s.aT=false):iU s p i (ks.drop i)=iU s p ((i+1:Nat):Int) (ks.drop (i+1)):=by rw [bq hi,iU,if_neg];rfl;intro e;simp only [Bool.and_eq_true,beq_iff_eq] at e;rw [h e.1] at e;exact absurd e.2 QC
def um{s:GStep}{p:List Int}{ks:List ah}{i:Nat}(hi:¬ i<ks.length):iU s p i (ks.drop i)=[]:=by rw [List.drop_eq_nil_of_le Ir,iU]
def mN(l:List ah)(s:GStep)(p:List Int):List (List Int):=iU s p 0 (cL l p)
def ry{l:List ah}{ss:List GStep}{ps:List (List Int)}{k:Nat}(hk:k<ss.length):nE l (ss.drop k) ps=nE l (ss.drop (k+1)) (ps.flatMap (mN l (at_ ss k))):=by rw [bq hk,nE];rfl
def uq{l:List ah}{ss:List GStep}{ps:List (List Int)}{k:Nat}(hk:¬ k<ss.length):nE l (ss.drop k) ps=ps:=by rw [List.drop_eq_nil_of_le Ir,nE]
theorem nj{α β:Type}[Inhabited α]{f:α->List β}{l:List α}{j:Nat}(h:j<l.length):(l.drop j).flatMap f=f (at_ l j)++(l.drop (j+1)).flatMap f:=by rw [bq h,List.flatMap_cons]
def tJ{α β:Type}{f:α->List β}{l:List α}{j:Nat}(h:¬ j<l.length):(l.drop j).flatMap f=[]:=by rw [List.drop_eq_nil_of_le Ir];rfl
def uo(l:List ah)(s:GStep)(ps:List (List Int)):(ps.flatMap (mN l s)).length+fR l (ps.flatMap (mN l s))<=fR l ps:=y5 s l ps
end Go.Dt
namespace Go.Proofs
open Go.Ab Go.Dt
attribute [local go_sem] aM dS aR FA Fz rO zK List.length_take E7 xS xR BS row_one
attribute [-instance] cK dh
instance aa2(q:List Int)(i:Int):Ctr lim prog 203 [] [.sl false 1 (q.map iV),.aa i] (.sl true 1 ((q++[i]).map iV)) [] (q.length<=1048576):=by refine Ctr.bd func203 ntmps203 fun hp=>?_;refine vU1 ?_;rw [List.map_append];rfl
theorem VQ(l:List ah)(at0:List Int)(x:bP):Ctr lim prog 289 [] [.sl false 3 (l.map (ak false)),.sl false 1 (at0.map iV),.agg [.ac x.bR,.aa x.bG,.sl false 2 (x.av.map (aA false))]] (.sl true 1 ((eZ l at0 x).map rW)) [] (cnt l<=1048576/\at0.length<=1000):=by
 refine Ctr.bd func289 ntmps289 fun hp=>?_;have gOn:=aD.on;obtain ⟨hc,ha⟩:=hp;refine vK1 ?_;refine AW.c (fun h=>?_) fun h=>?_
 ·have:eZ l at0 x=[]:=by rw [eZ,if_neg];rintro ⟨h1,h2⟩;rcases h with h|h<;>first|omega|(rw [h1] at h;cases h)
  rw [this]
  all_goals exact uU
 obtain ⟨hip,hup⟩:=h;have hiv:=l8 hip
 have hst:=nM hip
 have hR0:eZ l at0 x=nE l x.av [if x.bR=true then [] else at0.take (at0.length - x.bG.toNat)]:=by rw [eZ,if_pos ⟨hip,hup⟩]
 refine vK1 ?_;refine AW.c (fun h=>?_) fun h=>?_
 ·rw [h,if_neg QC] at hR0;refine vK1 ?_;rw [show (at0.length:Int) - x.bG=((at0.length - x.bG.toNat:Nat):Int) by omega];have hN:=qd;refine AW.aw [8,45] [0,5,43,44] (fun m xs o=>∃ (k:Nat) (ps:List (List Int)),xs=[.sl true 1 (ps.map rW),.aa k]/\o=[]/\m=x.av.length - k/\k<=x.av.length/\nE l (x.av.drop k) ps=eZ l at0 x/\ps.length<=1048576/\fR l ps<=1048576/\∀ q∈ps,q.length<=at0.length+k) x.av.length [] trivial ⟨0,[(at0.take (at0.length - x.bG.toNat))],rfl,rfl,rfl,Nat.zero_le _,hR0.symm,QC,by rw [fR,fR];have:=lE ((at0.take (at0.length - x.bG.toNat))) l;omega,by simp;try omega⟩ ?_;clear hR0;rintro m xs o ⟨k,ps,rfl,rfl,rfl,hk,hR,hp1,hp2,hp3⟩;refine vK1 ?_;refine AW.c (fun h=>?_) fun h=>?_
  ·have hk1:=h
   have hgs:=uo l (at_ x.av k) ps;refine AW.imp (Imp.frz 8 ?_);refine gS ?_;refine vN1 ?_;refine Z ?_
   (refine vN1 ?_;intro h)
   refine AW.imp (Imp.vpO 10 (b:=h) (off:=0) (cells:=[.str (at_ x.av k).ag,.sl false 2 ((at_ x.av k).aT.map (ct false))]) gO gO rfl ?_);refine vK1 ?_;refine AW.aw [11,52] [0,5,10,43,44,45,50,51] (fun m xs o=>∃ (j:Nat) (nx:List (List Int)),xs=[.sl true 1 (nx.map rW),.aa j]/\o=[]/\m=ps.length - j/\j<=ps.length/\nx++(ps.drop j).flatMap (mN l (at_ x.av k))=ps.flatMap (mN l (at_ x.av k))/\∀ q∈nx,q.length<=at0.length+k+1) ps.length [] trivial ⟨0,[],rfl,rfl,rfl,Nat.zero_le _,QC,QC⟩ ?_;rintro m xs o ⟨j,nx,rfl,rfl,rfl,hj,hT,hnx⟩;refine vK1 ?_;refine AW.c (fun h=>?_) fun h=>?_
   ·have hj1:=h
    have hpl:=hp3 _ (at_mem hj1)
    have hT1:=hT;rw [nj hj1,<- List.append_assoc] at hT1;have hlen:=congrArg List.length hT1;simp only [List.length_append] at hlen;refine vK1 ?_;refine AW.fact 58 fun hf2=>?_;simp (disch:=omega) only [go_sem] at hf2;refine AW.aw [11,60] [0,5,10,13,43,44,45,50,51,52,58,59] (fun m xs o=>∃ (i:Nat) (n2:List (List Int)),xs=[.sl true 1 (n2.map rW),.aa i]/\o=[]/\m=(cL l (at_ ps j)).length - i/\i<=(cL l (at_ ps j)).length/\n2++iU (at_ x.av k) (at_ ps j) i ((cL l (at_ ps j)).drop i)=nx++mN l (at_ x.av k) (at_ ps j)/\∀ q∈n2,q.length<=at0.length+k+1) (cL l (at_ ps j)).length [] trivial ⟨0,nx,rfl,rfl,rfl,Nat.zero_le _,rfl,hnx⟩ ?_;rintro m xs o ⟨i,n2,rfl,rfl,rfl,hi,hU,hn2⟩;have p7:=congrArg List.length hU;simp only [List.length_append] at p7;refine vK1 ?_;refine AW.c (fun h=>?_) fun h=>?_
    ·have hi1:=h
     have hs:=fun a b=>uk (s:=at_ x.av k) (p:=at_ ps j) hi1 a b
     have hs2:=fun a=>rv (s:=at_ x.av k) (p:=at_ ps j) hi1 a
     have hs3:=fun a b=>congrArg List.length (hs a b);simp only [List.length_append,List.length_singleton] at hs3
     (refine vU2 ?_ ?_<;>with_reducible repeat intro h)
     ·rw [hs h.1 h.2,<- List.append_assoc] at hU
      exact ⟨_,[_,_],[],Ir,⟨i+1,n2++[at_ ps j++[(i:Int)]],rfl,rfl,rfl,Ir,hU,fun q hq=>by
       rcases List.mem_append.1 hq with hq|hq
       ·exact hn2 q hq
       ·rw [List.mem_singleton.1 hq,List.length_append,List.length_singleton];omega⟩,by simp only [List.map_append,List.map_cons,List.map_nil,Et,Ez];rfl,trivial⟩
     ·rw [hs2 h] at hU;exact ⟨_,[_,_],[],Ir,⟨i+1,n2,rfl,rfl,rfl,Ir,hU,hn2⟩,rfl,trivial⟩
    ·rw [um h,List.append_nil] at hU;subst hU;refine vU1 ?_;exact ⟨_,[_,_],[],Ir,⟨j+1,_,rfl,rfl,rfl,Ir,hT1,hn2⟩,rfl,trivial⟩
   ·rw [tJ h,List.append_nil] at hT;subst hT;refine vU1 ?_;exact ⟨_,[_,_],[],Ir,⟨k+1,_,rfl,rfl,rfl,Ir,by rw [<- hR,ry hk1],Ir,Ir,fun q hq=>by have:=hnx q hq;omega⟩,rfl,trivial⟩
  ·rw [uq h] at hR;rw [<- hR]
   all_goals exact uU
 ·rw [h,if_pos rfl] at hR0;refine vK1 ?_;have hN:=qd;refine AW.aw [8,45] [0,5,43,44] (fun m xs o=>∃ (k:Nat) (ps:List (List Int)),xs=[.sl true 1 (ps.map rW),.aa k]/\o=[]/\m=x.av.length - k/\k<=x.av.length/\nE l (x.av.drop k) ps=eZ l at0 x/\ps.length<=1048576/\fR l ps<=1048576/\∀ q∈ps,q.length<=at0.length+k) x.av.length [] trivial ⟨0,[([]:List Int)],rfl,rfl,rfl,Nat.zero_le _,hR0.symm,QC,by rw [fR,fR];have:=lE (([]:List Int)) l;omega,by simp;try omega⟩ ?_;clear hR0;rintro m xs o ⟨k,ps,rfl,rfl,rfl,hk,hR,hp1,hp2,hp3⟩;refine vK1 ?_;refine AW.c (fun h=>?_) fun h=>?_
  ·have hk1:=h
   have hgs:=uo l (at_ x.av k) ps;refine AW.imp (Imp.frz 8 ?_);refine gS ?_;refine vN1 ?_;refine Z ?_
   (refine vN1 ?_;intro h)
   refine AW.imp (Imp.vpO 10 (b:=h) (off:=0) (cells:=[.str (at_ x.av k).ag,.sl false 2 ((at_ x.av k).aT.map (ct false))]) gO gO rfl ?_);refine vK1 ?_;refine AW.aw [11,52] [0,5,10,43,44,45,50,51] (fun m xs o=>∃ (j:Nat) (nx:List (List Int)),xs=[.sl true 1 (nx.map rW),.aa j]/\o=[]/\m=ps.length - j/\j<=ps.length/\nx++(ps.drop j).flatMap (mN l (at_ x.av k))=ps.flatMap (mN l (at_ x.av k))/\∀ q∈nx,q.length<=at0.length+k+1) ps.length [] trivial ⟨0,[],rfl,rfl,rfl,Nat.zero_le _,QC,QC⟩ ?_;rintro m xs o ⟨j,nx,rfl,rfl,rfl,hj,hT,hnx⟩;refine vK1 ?_;refine AW.c (fun h=>?_) fun h=>?_
   ·have hj1:=h
    have hpl:=hp3 _ (at_mem hj1)
    have hT1:=hT;rw [nj hj1,<- List.append_assoc] at hT1;have hlen:=congrArg List.length hT1;simp only [List.length_append] at hlen;refine vK1 ?_;refine AW.fact 58 fun hf2=>?_;simp (disch:=omega) only [go_sem] at hf2;refine AW.aw [11,60] [0,5,10,13,43,44,45,50,51,52,58,59] (fun m xs o=>∃ (i:Nat) (n2:List (List Int)),xs=[.sl true 1 (n2.map rW),.aa i]/\o=[]/\m=(cL l (at_ ps j)).length - i/\i<=(cL l (at_ ps j)).length/\n2++iU (at_ x.av k) (at_ ps j) i ((cL l (at_ ps j)).drop i)=nx++mN l (at_ x.av k) (at_ ps j)/\∀ q∈n2,q.length<=at0.length+k+1) (cL l (at_ ps j)).length [] trivial ⟨0,nx,rfl,rfl,rfl,Nat.zero_le _,rfl,hnx⟩ ?_;rintro m xs o ⟨i,n2,rfl,rfl,rfl,hi,hU,hn2⟩;have p7:=congrArg List.length hU;simp only [List.length_append] at p7;refine vK1 ?_;refine AW.c (fun h=>?_) fun h=>?_
    ·have hi1:=h
     have hs:=fun a b=>uk (s:=at_ x.av k) (p:=at_ ps j) hi1 a b
     have hs2:=fun a=>rv (s:=at_ x.av k) (p:=at_ ps j) hi1 a
     have hs3:=fun a b=>congrArg List.length (hs a b);simp only [List.length_append,List.length_singleton] at hs3
     (refine vU2 ?_ ?_<;>with_reducible repeat intro h)
     ·rw [hs h.1 h.2,<- List.append_assoc] at hU
      exact ⟨_,[_,_],[],Ir,⟨i+1,n2++[at_ ps j++[(i:Int)]],rfl,rfl,rfl,Ir,hU,fun q hq=>by
       rcases List.mem_append.1 hq with hq|hq
       ·exact hn2 q hq
       ·rw [List.mem_singleton.1 hq,List.length_append,List.length_singleton];omega⟩,by simp only [List.map_append,List.map_cons,List.map_nil,Et,Ez];rfl,trivial⟩
     ·rw [hs2 h] at hU;exact ⟨_,[_,_],[],Ir,⟨i+1,n2,rfl,rfl,rfl,Ir,hU,hn2⟩,rfl,trivial⟩
    ·rw [um h,List.append_nil] at hU;subst hU;refine vU1 ?_;exact ⟨_,[_,_],[],Ir,⟨j+1,_,rfl,rfl,rfl,Ir,hT1,hn2⟩,rfl,trivial⟩
   ·rw [tJ h,List.append_nil] at hT;subst hT;refine vU1 ?_;exact ⟨_,[_,_],[],Ir,⟨k+1,_,rfl,rfl,rfl,Ir,by rw [<- hR,ry hk1],Ir,Ir,fun q hq=>by have:=hnx q hq;omega⟩,rfl,trivial⟩
  ·rw [uq h] at hR;rw [<- hR]
   all_goals exact uU
instance ad8(l:List ah)(at0:List Int)(x:bP):iM lim prog 289 [.sl false 3 (l.map (ak false)),.sl false 1 (at0.map iV),.agg [.ac x.bR,.aa x.bG,.sl false 2 (x.av.map (aA false))]] (.sl false 1 ((eZ l at0 x).map rV)) (cnt l<=1048576/\at0.length<=1000) :=
 ⟨(aU 289),fun c=>by
  have:=((VQ l at0 x).pure c).frz
  simpa only [AV.frz,rO,cond_true] using this⟩
end Go.Proofs
namespace Go.Ab
section
def bmA(N m:Nat):Array Bool:=((List.range N).map fun i=>m.testBit i).toArray
def pcA(N m:Nat):Nat:=((List.range N).filter fun i=>m.testBit i).length
def pQ(T:List (Nat×Nat×Nat×AV))(m:Nat):daa :=
 T.filterMap fun e=>bif ((m &&& e.2.1) == e.2.1) && ((m &&& e.2.2.1) == 0) then some (e.1,e.2.2.2) else none
def uG(N n:Nat)(ms:List (Nat×List Nat))(side:faa)(t0:daa)(T:Nat->List (Nat×Nat×Nat×AV))(os:Nat->Nat->Sto)(f:Nat)(l:Array Bool)(st:AS):Prop :=
 ∃ m rs b,(m,rs)∈ms/\(m % 2 ^ N=m)/\side b/\f=N - pcA N m/\l=bmA N m/\st=⟨n,t0++pQ (T b) m,os b m⟩
def uG.last{N n:Nat}{ms:List (Nat×List Nat)}{side:faa}{t0:daa}{T:Nat->List (Nat×Nat×Nat×AV)}{os:Nat->Nat->Sto}{l:Array Bool}{st:AS}(h:uG N n ms side t0 T os 0 l st)(q:Nat)(hq:(ms.all fun p=>!(Nat.beq (N - pcA N p.1) 0) || Nat.beq p.1 q)=true) :
  l=bmA N q/\∃ b,side b/\st=⟨n,t0++pQ (T b) q,os b q⟩:=by
 obtain ⟨m,rs,b,hm,h2,hs,hf,rfl,rfl⟩:=h;have:=List.all_eq_true.1 hq _ hm;simp only [<- hf,Nat.beq_refl,Bool.not_true,Bool.false_or] at this;have e:=Nat.eq_of_beq_eq_true this;subst e;exact ⟨rfl,b,hs,rfl⟩
def uG.next{N n:Nat}{ms:List (Nat×List Nat)}{side:faa}{t0:daa}{T:Nat->List (Nat×Nat×Nat×AV)}{os:Nat->Nat->Sto}{m i b:Nat}{t:daa}{o:Sto}(hm:(m ||| 2 ^ i,(ms.lookup (m ||| 2 ^ i)).getD [])∈ms)(h2:(m ||| 2 ^ i) % 2 ^ N=m ||| 2 ^ i)(hf:N - pcA N m - 1=N - pcA N (m ||| 2 ^ i))(hl:(bmA N m).setIfInBounds i true=bmA N (m ||| 2 ^ i))
  (ht:dP t ((t0++pQ (T b) (m ||| 2 ^ i)).map Prod.fst)=t0++pQ (T b) (m ||| 2 ^ i)) (hs:side b) (ho:jk (os b (m ||| 2 ^ i)) o) :
  OV n (N - pcA N m - 1) ((bmA N m).setIfInBounds i true) (uG N n ms side t0 T os) t o :=
 ⟨_,_,ho,m ||| 2 ^ i,_,b,hm,h2,hs,hf,hl,by rw [ht]⟩
end
section
def aK.VN{L:eaa}{P:Program}{ops:Array Oper}{n:Nat}{K:AS->Prop}{t:daa}{os:Sto}{f:Nat}{l:Array Bool}(Inv:Nat->Array Bool->AS->Prop)(live:List Nat)(o0:Sto)(ho:jk o0 os)(h:Inv f l ⟨n,dP t live,o0⟩)(h0:∀ l s,Inv 0 l s->Region.ready .any ops l=[]/\K s)
  (hs:∀ f l s,Inv (f+1) l s->∃ rs,Region.ready .any ops l=rs/\rs≠[]/\allI L P ops s.n f l s.t s.o Inv rs):aK L P ops f l ⟨n,t,os⟩ K :=
 fun B F0 w0 a w R hd hR=>aK.inv Inv h0 hs _ _ _ h B F0 w0 a w R (hd.weaken rfl (tZ t live) fun _ _ hb=>nB ho hb) hR
theorem Ctr.En{L:eaa}{P:Program}{f:FuncId}{os:Sto}{args args':List AV}{res:AV}{cs:List (Option (List AV))}{pre:Prop}(h:Ctr L P f os args res cs pre)(ha:∀ F w vs fp,au L F w args' vs fp->au L F w args vs fp):Ctr L P f os args' res cs pre :=
 ⟨h.en,fun hp B F own fs w vs h1 h2=>h.out hp B F own fs w vs h1 (ha _ _ _ _ h2)⟩
end
end Go.Ab
namespace Go.Proofs
open Go.Ab Go.Dt
attribute [local go_sem] aM dS xS xR Wv Wu
attribute [-instance] cK dh
def teR:List (Nat×List Nat):=[(1187,[2,6,9]),(1191,[3,6,9]),(1199,[4,6,9]),(1215,[6,9]),(1251,[2,8,9]),(1255,[3,8,9]),(1263,[4,8,9]),(1279,[8,9]),(1507,[2,9]),(1511,[3,9]),(1519,[4,9]),(1535,[9]),(1699,[2,6]),(1703,[3,6]),(1711,[4,6]),(1727,[6]),(1763,[2,8]),(1767,[3,8]),(1775,[4,8]),(1791,[8]),(2019,[2,11]),(2023,[3,11]),(2031,[4,11]),(2047,[11]),(4067,[2,12]),(4071,[3,12]),(4079,[4,12]),(4095,[12]),(8163,[2,13]),(8167,[3,13]),(8175,[4,13]),(8191,[13]),(16355,[2]),(16359,[3]),(16367,[4]),(16383,[14]),(32767,[15]),(65535,[16]),(131071,[17]),(262143,[])]
def teC(b:Nat)(t:List ah)(fs:List bB)(code:Int)(names:List Str)(at0:List Int)(m:Nat):Sto:=[(b,some [.sl false 3 (t.map (ak false)),bif m &&& 16 == 0 then .sl true 3 (fs.map fW) else bif m &&& 131072 == 0 then .dead else .sl true 3 (fs.map fW++[(.agg [.v (.int .i64 code),.sl true 1 (names.map AV.str),.sl true 1 (at0.map iV)])])])]
abbrev teI(b:Nat)(t:List ah)(fs:List bB)(code:Int)(names:List Str)(at0:List Int):=uG 18 25 teR (fun _=>True) [(8,.ptr b 0),(9,.ptr b 0),(13,.v (.int .i64 code)),(15,.sl false 1 (names.map AV.str)),(18,.sl false 1 (at0.map iV))] (fun _=>[(10,4,0,.ptr b 0),(11,8,0,.ptr b 1),(12,16,16384,.sl true 3 (fs.map fW)),(14,64,256,.sl true 1 []),(16,256,4096,.sl true 1 (names.map AV.str)),(17,512,2048,.sl true 1 []),(19,2048,4096,.sl true 1 (at0.map iV)),(20,4096,8192,(.agg [.v (.int .i64 code),.sl true 1 (names.map AV.str),.sl true 1 (at0.map iV)])),(21,8192,16384,.sl true 3 [(.agg [.v (.int .i64 code),.sl true 1 (names.map AV.str),.sl true 1 (at0.map iV)])]),(22,16384,131072,.sl true 3 (fs.map fW++[(.agg [.v (.int .i64 code),.sl true 1 (names.map AV.str),.sl true 1 (at0.map iV)])])),(23,32768,0,.ptr b 0),(24,65536,0,.ptr b 1)]) (fun _ m=>teC b t fs code names at0 m)
instance aaZ(b:Nat)(t:List ah)(fs:List bB)(code:Int)(names:List Str)(at0:List Int):Ctr lim prog 201 [(b,some [.sl false 3 (t.map (ak false)),.sl true 3 (fs.map fW)])] [.ptr b 0,.aa code,.sl false 1 (names.map AV.str),.sl false 1 (at0.map iV)] (.tup []) [some [.sl false 3 (t.map (ak false)),.sl true 3 ((fs++[bB.mk code names at0]).map fW)]] (fs.length<=1073741824/\names.length<=1000/\at0.length<=1000):=by
 refine Ctr.bd func201 ntmps201 fun hp=>?_;have gOn:=aD.on;obtain ⟨h1,h2,h3⟩:=hp;refine vN1 ?_;refine AW.nT [(8,.ptr b 0),(9,.ptr b 0),(13,.aa code),(15,.sl false 1 (names.map AV.str)),(18,.sl false 1 (at0.map iV)),(10,.ptr b 0),(11,.ptr b 1),(23,.ptr b 0),(24,.ptr b 1)] (teC b t fs code names at0 262143) (fQ.h (P:=prog)) (fun K hK=>?_) ?_
 rotate_left
 ·unfold teC;simp only [pQ,List.filterMap_cons,List.filterMap_nil,Nat.reduceAnd,Nat.reduceBEq,beq_self_eq_true,Bool.and_self,Bool.true_and,Bool.and_true,Bool.and_false,Bool.false_and,cond_true,cond_false,List.append_nil,List.cons_append,List.nil_append];rw [List.map_append];refine eF rfl ?_;exact gO
 refine aK.fxs (fuel:=13) LQ [0,1,5,7,10] LQ ?_;refine gS ?_;refine aK.VN (teI b t fs code names at0) [8,9,13,15,18] (teC b t fs code names at0 1187) (by unfold teC;simp only [pQ,List.filterMap_cons,List.filterMap_nil,Nat.reduceAnd,Nat.reduceBEq,beq_self_eq_true,Bool.and_self,Bool.true_and,Bool.and_true,Bool.and_false,Bool.false_and,cond_true,cond_false,List.append_nil,List.cons_append,List.nil_append];exact gO) ?_ ?_ ?_
 ·exact ⟨1187,[2,6,9],0,baa,baa,trivial,LQ,LQ,LQ⟩
 ·intro l s' h;obtain ⟨rfl,_,_,rfl⟩:=uG.last h 262143 LQ;refine ⟨LQ,?_⟩;simp only [pQ,List.filterMap_cons,List.filterMap_nil,Nat.reduceAnd,Nat.reduceBEq,beq_self_eq_true,Bool.and_self,Bool.true_and,Bool.and_true,Bool.and_false,Bool.false_and,cond_true,cond_false,List.append_nil,List.cons_append,List.nil_append];exact hK
 ·intro f l s' h;obtain ⟨m,rs,bb,hm,h2,hs,hf,rfl,rfl⟩:=h;obtain rfl:f=18 - pcA 18 m - 1:=by omega
  refine ⟨rs,?_⟩;simp only [teR,List.mem_cons,List.not_mem_nil,or_false,Prod.mk.injEq] at hm;rcases hm with ⟨rfl,rfl⟩|⟨rfl,rfl⟩|⟨rfl,rfl⟩|⟨rfl,rfl⟩|⟨rfl,rfl⟩|⟨rfl,rfl⟩|⟨rfl,rfl⟩|⟨rfl,rfl⟩|⟨rfl,rfl⟩|⟨rfl,rfl⟩|⟨rfl,rfl⟩|⟨rfl,rfl⟩|⟨rfl,rfl⟩|⟨rfl,rfl⟩|⟨rfl,rfl⟩|⟨rfl,rfl⟩|⟨rfl,rfl⟩|⟨rfl,rfl⟩|⟨rfl,rfl⟩|⟨rfl,rfl⟩|⟨rfl,rfl⟩|⟨rfl,rfl⟩|⟨rfl,rfl⟩|⟨rfl,rfl⟩|⟨rfl,rfl⟩|⟨rfl,rfl⟩|⟨rfl,rfl⟩|⟨rfl,rfl⟩|⟨rfl,rfl⟩|⟨rfl,rfl⟩|⟨rfl,rfl⟩|⟨rfl,rfl⟩|⟨rfl,rfl⟩|⟨rfl,rfl⟩|⟨rfl,rfl⟩|⟨rfl,rfl⟩|⟨rfl,rfl⟩|⟨rfl,rfl⟩|⟨rfl,rfl⟩|⟨rfl,rfl⟩
  all_goals first|(exfalso;revert hf;decide)|refine ⟨LQ,QC,?_⟩
  all_goals clear hf h2
  all_goals simp only [allI,teC,pQ,List.filterMap_cons,List.filterMap_nil,Nat.reduceAnd,Nat.reduceBEq,beq_self_eq_true,Bool.and_self,Bool.true_and,Bool.and_true,Bool.and_false,Bool.false_and,cond_true,cond_false,List.append_nil,List.cons_append,List.nil_append]
  all_goals (refine vN ?_;with_reducible repeat' first|exact Le.l|apply Sw|intro h)
  all_goals exact uG.next (b:=bb) baa baa LQ LQ LQ hs (by simp (disch:=omega) only [go_sem,Nat.reducePow,Nat.reduceOr,Nat.reduceAnd,Nat.reduceBEq,teC])
instance aal(b:Nat)(t:List ah)(fs:List bB)(code:Int)(names:List Str)(at0:List Int):Ctr lim prog 148 [(b,some [.sl false 3 (t.map (ak false)),.sl true 3 (fs.map fW)])] [.ptr b 0,.aa code,.sl false 1 (names.map AV.str),.sl false 1 (at0.map iV)] (.tup []) [some [.sl false 3 (t.map (ak false)),.sl true 3 ((fs++[bB.mk code names at0]).map fW)]] (fs.length<=1073741824/\names.length<=1000/\at0.length<=1000):=by
 refine Ctr.bd func148 ntmps148 fun hp=>?_;have gOn:=aD.on;obtain ⟨h1,h2,h3⟩:=hp;refine vN1 ?_;refine AW.nT [(8,.ptr b 0),(9,.ptr b 0),(13,.aa code),(15,.sl false 1 (names.map AV.str)),(18,.sl false 1 (at0.map iV)),(10,.ptr b 0),(11,.ptr b 1),(23,.ptr b 0),(24,.ptr b 1)] (teC b t fs code names at0 262143) (fQ.h (P:=prog)) (fun K hK=>?_) ?_
 rotate_left
 ·unfold teC;simp only [pQ,List.filterMap_cons,List.filterMap_nil,Nat.reduceAnd,Nat.reduceBEq,beq_self_eq_true,Bool.and_self,Bool.true_and,Bool.and_true,Bool.and_false,Bool.false_and,cond_true,cond_false,List.append_nil,List.cons_append,List.nil_append];rw [List.map_append];refine eF rfl ?_;exact gO
 refine aK.fxs (fuel:=13) LQ [0,1,5,7,10] LQ ?_;refine gS ?_;refine aK.VN (teI b t fs code names at0) [8,9,13,15,18] (teC b t fs code names at0 1187) (by unfold teC;simp only [pQ,List.filterMap_cons,List.filterMap_nil,Nat.reduceAnd,Nat.reduceBEq,beq_self_eq_true,Bool.and_self,Bool.true_and,Bool.and_true,Bool.and_false,Bool.false_and,cond_true,cond_false,List.append_nil,List.cons_append,List.nil_append];exact gO) ?_ ?_ ?_
 ·exact ⟨1187,[2,6,9],0,baa,baa,trivial,LQ,LQ,LQ⟩
 ·intro l s' h;obtain ⟨rfl,_,_,rfl⟩:=uG.last h 262143 LQ;refine ⟨LQ,?_⟩;simp only [pQ,List.filterMap_cons,List.filterMap_nil,Nat.reduceAnd,Nat.reduceBEq,beq_self_eq_true,Bool.and_self,Bool.true_and,Bool.and_true,Bool.and_false,Bool.false_and,cond_true,cond_false,List.append_nil,List.cons_append,List.nil_append];exact hK
 ·intro f l s' h;obtain ⟨m,rs,bb,hm,h2,hs,hf,rfl,rfl⟩:=h;obtain rfl:f=18 - pcA 18 m - 1:=by omega
  refine ⟨rs,?_⟩;simp only [teR,List.mem_cons,List.not_mem_nil,or_false,Prod.mk.injEq] at hm;rcases hm with ⟨rfl,rfl⟩|⟨rfl,rfl⟩|⟨rfl,rfl⟩|⟨rfl,rfl⟩|⟨rfl,rfl⟩|⟨rfl,rfl⟩|⟨rfl,rfl⟩|⟨rfl,rfl⟩|⟨rfl,rfl⟩|⟨rfl,rfl⟩|⟨rfl,rfl⟩|⟨rfl,rfl⟩|⟨rfl,rfl⟩|⟨rfl,rfl⟩|⟨rfl,rfl⟩|⟨rfl,rfl⟩|⟨rfl,rfl⟩|⟨rfl,rfl⟩|⟨rfl,rfl⟩|⟨rfl,rfl⟩|⟨rfl,rfl⟩|⟨rfl,rfl⟩|⟨rfl,rfl⟩|⟨rfl,rfl⟩|⟨rfl,rfl⟩|⟨rfl,rfl⟩|⟨rfl,rfl⟩|⟨rfl,rfl⟩|⟨rfl,rfl⟩|⟨rfl,rfl⟩|⟨rfl,rfl⟩|⟨rfl,rfl⟩|⟨rfl,rfl⟩|⟨rfl,rfl⟩|⟨rfl,rfl⟩|⟨rfl,rfl⟩|⟨rfl,rfl⟩|⟨rfl,rfl⟩|⟨rfl,rfl⟩|⟨rfl,rfl⟩
  all_goals first|(exfalso;revert hf;decide)|refine ⟨LQ,QC,?_⟩
  all_goals clear hf h2
  all_goals simp only [allI,teC,pQ,List.filterMap_cons,List.filterMap_nil,Nat.reduceAnd,Nat.reduceBEq,beq_self_eq_true,Bool.and_self,Bool.true_and,Bool.and_true,Bool.and_false,Bool.false_and,cond_true,cond_false,List.append_nil,List.cons_append,List.nil_append]
  all_goals (refine vN ?_;with_reducible repeat' first|exact Le.l|apply Sw|intro h)
  all_goals exact uG.next (b:=bb) baa baa LQ LQ LQ hs (by simp (disch:=omega) only [go_sem,Nat.reducePow,Nat.reduceOr,Nat.reduceAnd,Nat.reduceBEq,teC])
instance ab9(q:List Int)(i:Int):Ctr lim prog 146 [] [.sl false 1 (q.map iV),.aa i] (.sl true 1 ((q++[i]).map iV)) [] (q.length<=1048576):=by refine Ctr.bd func146 ntmps146 fun hp=>?_;have gOn:=aD.on;refine vU1 ?_;rw [List.map_append];rfl
end Go.Proofs
