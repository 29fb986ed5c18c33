/- A part. -/
import Derived.Test.YtmcjbaafmjlblaaGreatDoorJ35
import Derived.Test.YtmcjbaafmjlblaaGreatDoorJ37
set_option linter.all false
set_option maxRecDepth 20000
set_option maxHeartbeats 4000000
namespace Go.Proofs
open Go.Ab Go.Dt
section
attribute [-instance] cz
attribute [local go_sem] ba aI aS cU cT dy fZ gH
def Eo(n:ag)(e:au):Int:=if n.ai=2/\dE n e.af=false then 4 else 0
def lX(n:ag)(e:au):ah:=if n.ai=2/\dE n e.af=false then .mk [] [] [] else bQ n e
theorem nI{n:ag}{e:au}(h:n.ai=2/\dE n e.af=false):Eo n e=4/\lX n e=.mk [] [] []:=⟨if_pos h,if_pos h⟩
theorem mM{n:ag}{e:au}(h:¬ (n.ai=2/\dE n e.af=false)):Eo n e=0/\lX n e=bQ n e:=⟨if_neg h,if_neg h⟩
theorem Mq{n:ag}{q:Str}{es:List au}{j:Nat}(h:j<es.length)(hn:(at_ es j).ae=q):kvV n q (es.take (j+1))=kvV n q (es.take j)++[.mk q (cvS (kt n q) (at_ es j).av) []]/\kvF q (es.take (j+1))=kvF q (es.take j)++[at_ es j]:=by
 have e1:kvF q (es.take (j+1))=kvF q (es.take j)++[at_ es j]:=by
  rw [db h,kvF,List.filter_append]
  have:edP q (at_ es j)=true:=by simpa [edP] using hn
  simp [kvF,this]
 exact ⟨by rw [kvV,e1,List.map_append];rfl,e1⟩
theorem Mr{n:ag}{q:Str}{es:List au}{j:Nat}(h:j<es.length)(hn:¬ (at_ es j).ae=q):kvV n q (es.take (j+1))=kvV n q (es.take j)/\kvF q (es.take (j+1))=kvF q (es.take j):=by
 have e1:kvF q (es.take (j+1))=kvF q (es.take j):=by
  rw [db h,kvF,List.filter_append]
  have:edP q (at_ es j)=false:=by simpa [edP] using hn
  simp [kvF,this]
 exact ⟨by rw [kvV,e1];rfl,e1⟩
theorem Rf(q:Str)(es:List au)(j:Nat):(kvF q (es.take j)).length<=j:=by
 have:=List.length_filter_le (edP q) (es.take j)
 rw [List.length_take] at this
 unfold kvF;omega
theorem Em{n:ag}{es:List au}{k:Nat}(hk:k<n.aw.length)(h:(decide ((kvF (at_ n.aw k) es).length=1) && (kvF (at_ n.aw k) es).all (kvG n (at_ n.aw k)))=false):dE n es=false:=iL hk h
theorem Rc{n:ag}{q:Str}{es:List au}{j:Nat}(h:j<es.length)(hn:(at_ es j).ae=q)(hg:kvG n q (at_ es j)=false):(kvF q es).all (kvG n q)=false:=by
 rw [Bool.eq_false_iff]
 intro c
 have:at_ es j∈kvF q es:=List.mem_filter.2 ⟨at_mem h,by simpa [edP] using hn⟩
 rw [List.all_eq_true.1 c _ this] at hg;cases hg
theorem Ke(n:ag)(es:List au):∀ (Ks:List Str) (k:Nat),((Ks.take k).flatMap (fun q=>kvV n q es)).length<=k * es.length
 | [],k=>by simp
 | q::Ks,0=>by simp
 | q::Ks,k+1=>by
  rw [List.take_succ_cons,List.flatMap_cons,List.length_append,Nat.add_mul]
  have h1:=Ke n es Ks k
  have h2:(kvV n q es).length<=es.length:=by rw [kvV,List.length_map];exact List.length_filter_le _ _
  omega
theorem Rv(n:ag)(e:au):Ctr lim Tryz.prog 197 [] [.agg (cSc n),.agg (cEd e)] (.tup [.agg [.str (lX n e).ae,.str (lX n e).av,.sl true 3 ((lX n e).af.map (aj false))],.v (.int .i64 (Eo n e))]) [] ((n.ai=2->∀ q∈n.aw,0<=idx (ed q) n.af)/\n.aw.length<=3/\e.av.length<=1048576/\e.af.length<=1048576/\∀ x∈e.af,x.av.length<=1048576):=by
 refine Ctr.bd Tryz.func197 Tryz.ntmps197 rfl rfl fun hp=>?_
 have gOn:=bA.on
 obtain ⟨hp1,hp2,hp3,hp5,hp4⟩:=hp
 refine AW.kU 1 rfl (xs:=e.af.map (aH false)) (own:=false) (sz:=4) (by simp) fun hf=>?_
 simp (disch:=omega) only [go_sem] at hf
 (refine vK ?_;with_reducible repeat' first|exact Le.l|apply Sw|intro h)
 rename_i b1 b2
 refine AW.imp (Imp.nZ (b:=b2) 3 [.str n.ae,.str []] [] gO ?_)
 simp (maxSteps:=2000000) (disch:=omega) only [go_sem]
 refine AW.c (fun h=>?_) fun h=>?_
 ·(refine vU ?_;with_reducible repeat' first|exact Le.l|apply Sw|intro h)
  rw [(mM (n:=n) (e:=e) (by omega)).1,(mM (n:=n) (e:=e) (by omega)).2,bQ,if_pos h,if_neg (by omega)];try rfl
 have h4:=h
 clear h
 refine vO ?_;intros;refine AW.c (fun h=>?_) fun h=>?_
 ·(refine vU ?_;with_reducible repeat' first|exact Le.l|apply Sw|intro h)
  rw [(mM (n:=n) (e:=e) (by omega)).1,(mM (n:=n) (e:=e) (by omega)).2,bQ,if_neg h4,if_neg h];try rfl
 have h2:n.ai=2:=by omega
 clear h
 (refine vK ?_;with_reducible repeat' first|exact Le.l|apply Sw|intro h)
 refine AW.iA [39] [2,3,4,6,37,38] (fun m xs o=>∃ k:Nat,xs=[.v (.int .i64 k)]/\o=[(b2,some [.str n.ae,.str [],.sl true 3 (((n.aw.take k).flatMap (fun q=>kvV n q e.af)).map (aj false))]),(b1,some [.str [],.str [],.v (.slice none 0 0)])]/\m=n.aw.length - k/\k<=n.aw.length/\∀ q∈n.aw.take k,(!(decide ((kvF q e.af).length=1) && (kvF q e.af).all (kvG n q)))=false) n.aw.length [(b2,some [.str n.ae,.str [],.sl true 3 ((([]:List ah)).map (aj false))]),(b1,some [.str [],.str [],.v (.slice none 0 0)])] gO ⟨0,rfl,rfl,rfl,by omega,by simp⟩ ?_
 rintro m xs o ⟨k,rfl,rfl,rfl,hk,hR⟩
 refine vO ?_;intros;refine AW.c (fun h=>?_) fun h=>?_
 ·have hlk:=h
  have hlf:=hp1 h2 _ (at_mem h)
  clear h
  (refine vK ?_;with_reducible repeat' first|exact Le.l|apply Sw|intro h)
  refine AW.iA [9,46] [2,3,4,6,8,37,38,39,44,45] (fun m xs o=>∃ j:Nat,xs=[.v (.int .i64 (kvF (at_ n.aw k) (e.af.take j)).length),.v (.int .i64 j)]/\o=[(b2,some [.str n.ae,.str [],.sl true 3 (((n.aw.take k).flatMap (fun q=>kvV n q e.af)++kvV n (at_ n.aw k) (e.af.take j)).map (aj false))]),(b1,some [.str [],.str [],.v (.slice none 0 0)])]/\m=e.af.length - j/\j<=e.af.length/\(kvF (at_ n.aw k) (e.af.take j)).all (kvG n (at_ n.aw k))=true) e.af.length [(b2,some [.str n.ae,.str [],.sl true 3 (((n.aw.take k).flatMap (fun q=>kvV n q e.af)).map (aj false))]),(b1,some [.str [],.str [],.v (.slice none 0 0)])] gO ⟨0,rfl,by simp [kvV,kvF],rfl,by omega,by simp [kvF]⟩ ?_
  rintro m xs o ⟨j,rfl,rfl,rfl,hj,hG⟩
  have hle:=Rf (at_ n.aw k) e.af j
  refine vO ?_;intros;refine AW.c (fun h=>?_) fun h=>?_
  ·have hlj:=h
   have hv:=hp4 _ (at_mem h)
   clear h
   refine vO ?_;intros;refine AW.c (fun h=>?_) fun h=>?_
   ·have hs:=Mr (n:=n) hlj h
    (refine vU ?_;with_reducible repeat' first|exact Le.l|apply Sw|intro h)
    refine Imp.id ?_
    simp (maxSteps:=2000000) (disch:=omega) only [go_sem]
    exact ⟨_,[_,_],_,by omega,⟨j+1,by rw [hs.2],rfl,rfl,by omega,by rw [hs.2];exact hG⟩,rfl,by rw [hs.1];simp (maxSteps:=2000000) (disch:=omega) only [go_sem]⟩
   have hnm:(at_ e.af j).ae=(at_ n.aw k):=by grind
   clear h
   haveI:=u4 n.af (at_ n.aw k)
   refine vO ?_;intros;refine AW.c (fun h=>?_) fun h=>?_
   ·(refine vX ?_;with_reducible repeat' first|exact Le.l|apply Sw|intro h)
    refine AW.imp (Imp.nZ (b:=b1) 3 [.str [],.str []] [] gO ?_)
    (refine vU ?_;with_reducible repeat' first|exact Le.l|apply Sw|intro h)
    have hb:n.ai=2/\dE n e.af=false:=⟨h2,Em hlk (by rw [Rc hlj hnm (by unfold kvG kt;grind),Bool.and_false])⟩
    rw [(nI hb).1,(nI hb).2];try rfl
   have hs:=Mq (n:=n) hlj hnm
   have hz:=h
   have hLl:((n.aw.take k).flatMap (fun q=>kvV n q e.af)++kvV n (at_ n.aw k) (e.af.take j)).length<=4194304:=by
    have h1:=Ke n e.af n.aw k
    have h2:(kvV n (at_ n.aw k) (e.af.take j)).length<=e.af.length:=by rw [kvV,List.length_map];omega
    have h3:k * e.af.length<=3 * e.af.length:=Nat.mul_le_mul_right _ (by omega)
    rw [List.length_append];omega
   obtain ⟨L,hL⟩:∃ L:List ah,L=(n.aw.take k).flatMap (fun q=>kvV n q e.af)++kvV n (at_ n.aw k) (e.af.take j):=⟨_,rfl⟩
   simp only [<- hL] at hLl ⊢
   simp only [kt] at hs
   clear h
   refine AW.imp (Imp.iZ (b0:=b2) (k:=2) (sz:=3) (cells0:=[.str n.ae,.str [],.sl true 3 (L.map (aj false))]) (l:=L.map (aj false)) gO rfl (eU _) (fun g hg'=>?_) (fun hnil=>?_))
   ·have hb1:=hg'.nf
    simp only [go_sem] at hb1
    simp only [List.set_cons_zero,List.set_cons_succ,List.length_map]
    (refine vU ?_;with_reducible repeat' first|exact Le.l|apply Sw|intro h)
    ·rw [bH (sz:=3) (eU _),List.length_map]
    rename Nat=>g2
    refine Imp.bind (Q:=fun s'=>s'=_) (Imp.jU (b:=g2) 3 ((L.map (aj false)).flatMap AV.cells++[.str (at_ n.aw k),.str (cvS (at_ n.af (idx (ed (at_ n.aw k)) n.af).toNat).fType (at_ e.af j).av)]) [] (by simp (maxSteps:=2000000) (disch:=omega) only [go_sem];try simp) rfl) ?_
    rintro _ rfl
    simp (maxSteps:=2000000) (disch:=omega) only [go_sem]
    refine Imp.tq (b0:=b2) (k:=2) (b:=g2) (sz:=3) (cells0:=[.str n.ae,.str [],.arr g2 0 (L.length+1) 3]) (l:=L.map (aj false)) (.agg [.str (at_ n.aw k),.str (cvS (at_ n.af (idx (ed (at_ n.aw k)) n.af).toNat).fType (at_ e.af j).av),.sl false 3 []]) gO (by rw [List.length_map];rfl) (by simp (maxSteps:=2000000) (disch:=omega) only [go_sem];try simp) (by omega) (eU _) rfl ?_
    simp only [List.set_cons_zero,List.set_cons_succ]
    exact ⟨trivial,_,[_,_],_,by omega,⟨j+1,by rw [hs.2,List.length_append];rfl,rfl,rfl,by omega,by rw [hs.2,List.all_append,hG];unfold kvG kt;grind⟩,rfl,by rw [hs.1,<- List.append_assoc,<- hL,List.map_append,List.map_cons,List.map_nil,bR];simp (maxSteps:=2000000) (disch:=omega) only [go_sem];try rfl⟩
   ·have hL0:L=[]:=List.map_eq_nil_iff.1 hnil
    subst hL0
    simp only [List.set_cons_zero,List.set_cons_succ]
    (refine vU ?_;with_reducible repeat' first|exact Le.l|apply Sw|intro h)
    refine Imp.Pa (b:=b2) (l:=[]) (own:=true) (sz:=3) [.str n.ae,.str []] [] [.str (at_ n.aw k),.str (cvS (at_ n.af (idx (ed (at_ n.aw k)) n.af).toNat).fType (at_ e.af j).av)] [] false 3 gO ?_
    simp (maxSteps:=2000000) (disch:=omega) only [go_sem]
    exact ⟨_,[_,_],_,by omega,⟨j+1,by rw [hs.2,List.length_append];rfl,rfl,rfl,by omega,by rw [hs.2,List.all_append,hG];unfold kvG kt;grind⟩,rfl,by rw [hs.1,<- List.append_assoc,<- hL,List.map_append,List.map_cons,List.map_nil,bR];simp (maxSteps:=2000000) (disch:=omega) only [go_sem];try rfl⟩
  ·have ej:j=e.af.length:=by omega
   subst ej
   clear h
   rw [List.take_length] at *
   refine vO ?_;intros;refine AW.c (fun h=>?_) fun h=>?_
   ·(refine vX ?_;with_reducible repeat' first|exact Le.l|apply Sw|intro h)
    refine AW.imp (Imp.nZ (b:=b1) 3 [.str [],.str []] [] gO ?_)
    (refine vU ?_;with_reducible repeat' first|exact Le.l|apply Sw|intro h)
    have hb:n.ai=2/\dE n e.af=false:=⟨h2,Em hlk (by rw [show decide ((kvF (at_ n.aw k) e.af).length=1)=false by simp;omega,Bool.false_and])⟩
    rw [(nI hb).1,(nI hb).2];try rfl
   (refine vU ?_;with_reducible repeat' first|exact Le.l|apply Sw|intro h)
   refine Imp.id ?_
   simp (maxSteps:=2000000) (disch:=omega) only [go_sem]
   exact ⟨_,[_],_,by omega,⟨k+1,rfl,rfl,rfl,by omega,bJ hlk hR (by rw [hG,show decide ((kvF (at_ n.aw k) e.af).length=1)=true by simp;omega];rfl)⟩,rfl,by rw [show n.aw.take (k+1)=n.aw.take k++[(at_ n.aw k)] from db hlk,List.flatMap_append,List.flatMap_cons,List.flatMap_nil,List.append_nil];simp (maxSteps:=2000000) (disch:=omega) only [go_sem]⟩
 ·(refine vU ?_;with_reducible repeat' first|exact Le.l|apply Sw|intro h)
  have hk0:dE n e.af=true:=eA (by assumption) hR
  have hb:¬ (n.ai=2/\dE n e.af=false):=by rw [hk0];simp
  rw [(mM hb).1,(mM hb).2,bQ,if_neg h4,if_pos h2,List.take_of_length_le (by omega)];try rfl
end
section
attribute [-instance] cz
attribute [local go_sem] ba aI aS cU cT dy fZ gH
instance TS(s:List ag)(l:List ah)(nm v:Str)(ks:List ah):Ctr lim Tryz.prog 226 [] [.sl false 19 (s.map (ak false)),.sl false 3 ((l).map (aj false)),.agg [.str nm,.str v,.sl false 3 ((ks).map (aj false))]] (.sl false 3 ((ins s l (.mk nm v ks)).map (aj false))) [] (0<=idx (nmP nm) (dk s)/\bE s<=1048576/\l.length<=4194304):=G5 s l (.mk nm v ks)
instance TR(s:List ag)(l:List ah)(nm v:Str):Ctr lim Tryz.prog 226 [] [.sl false 19 (s.map (ak false)),.sl false 3 ((l).map (aj false)),.agg [.str nm,.str v,.sl false 3 []]] (.sl false 3 ((ins s l (.mk nm v [])).map (aj false))) [] (0<=idx (nmP nm) (dk s)/\bE s<=1048576/\l.length<=4194304):=G5 s l (.mk nm v [])
theorem M3{p:ah->Bool}{l:List ah}{k:Nat}(h:k<l.length):(l.take (k+1)).filter p=(l.take k).filter p++(if p (at_ l k)=true then [at_ l k] else []):=by
 rw [db h,List.filter_append,List.filter_cons];rfl
theorem RZ(p:ah->Bool)(l:List ah)(k:Nat):((l.take k).filter p).length<=k:=by
 have:=List.length_filter_le p (l.take k)
 rw [List.length_take] at this;omega
theorem Ee(l:List ah):l.length<=cnt l:=by unfold cnt;omega
theorem KL(N:Nat)(ih:∀ (s:List ag) (l:List ah) (es:List au),Ctr lim Tryz.prog 130 [] [.sl false 19 (s.map (ak false)),.sl false 3 ((l).map (aj false)),.sl false 4 ((es).map (aH false))] (.tup [.sl false 3 (((mdE es s l).1).map (aj false)),.v (.int .i64 (mdE es s l).2)]) [] (SizeOf.sizeOf es<N/\gdS s/\wtS s<=1048576/\cnt l+cY es<=4194304/\wtE es<=1048576))(s:List ag)(l:List ah)(n:ag)(e:au):Ctr lim Tryz.prog 200 [] [.sl false 19 (s.map (ak false)),.sl false 3 ((l).map (aj false)),.agg (cSc n),.agg (cEd e)] (.tup [.sl false 3 (((crt (mdE e.af) s l n e).1).map (aj false)),.v (.int .i64 (crt (mdE e.af) s l n e).2)]) [] (SizeOf.sizeOf e.af<N/\gdS n.af/\n.ae=(nd s n.ae).ae/\0<=idx (nmP n.ae) (dk s)/\wtS s<=1048576/\wtS n.af<=1048576/\l.length<=4194304/\cY e.af<=4194304/\e.av.length<=1048576/\wtE e.af<=1048576):=by
 haveI ihN:∀ (s:List ag) (es:List au),Ctr lim Tryz.prog 130 [] [.sl false 19 (s.map (ak false)),.v (.slice none 0 0),.sl false 4 ((es).map (aH false))] (.tup [.sl false 3 (((mdE es s []).1).map (aj false)),.v (.int .i64 (mdE es s []).2)]) [] (SizeOf.sizeOf es<N/\gdS s/\wtS s<=1048576/\cnt []+cY es<=4194304/\wtE es<=1048576):=fun s es=>(ih s [] es).view fun F w vs fp r=>aq.at (l:=[.sl false 19 (s.map (ak false))]) (x:=.v (.slice none 0 0)) (x':=.sl false 3 []) (l2:=[.sl false 4 ((es).map (aH false))]) Rep.dY _ _ r
 refine Ctr.bd Tryz.func200 Tryz.ntmps200 rfl rfl fun hp=>?_
 have gOn:=bA.on
 obtain ⟨hN,hg,hn0,hi,hs,hs2,hl,hce,hv,hwe⟩:=hp
 have hc:=gM s
 have hol:=DL s n.ae
 have hc0:cnt ([]:List ah)=0:=lT
 refine AW.fact 1 fun hf=>?_
 simp (disch:=omega) only [go_sem] at hf
 (refine vK ?_;with_reducible repeat' first|exact Le.l|apply Sw|intro h)
 refine AW.aA [12,28] [0,1,6,7,10,26,27] (fun m xs o=>∃ k:Nat,xs=[.sl true 3 (((l.take k).filter (fun y:ah=>!cont (iq s n.ae) y.ae)).map (aj false)),.v (.int .i64 k)]/\o=[]/\m=l.length - k/\k<=l.length) l.length [] trivial ⟨0,?_,rfl,rfl,?_⟩ ?_
 ·rfl
 ·omega
 rintro m xs o ⟨k,rfl,rfl,rfl,hk⟩
 have hfl:=RZ (fun y:ah=>!cont (iq s n.ae) y.ae) l k
 refine vO ?_;intros;refine AW.c (fun h=>?_) fun h=>?_
 ·have hlk:=h
  have hst:=M3 (p:=fun y:ah=>!cont (iq s n.ae) y.ae) h
  clear h
  refine vO ?_;intros;refine AW.c (fun h=>?_) fun h=>?_
  ·(refine vU ?_;with_reducible repeat' first|exact Le.l|apply Sw|intro h)
   exact ⟨_,[_,_],_,by omega,⟨k+1,by rw [hst,if_pos (by rw [h];rfl),List.map_append,List.map_cons,List.map_nil,bR],rfl,rfl,by omega⟩,rfl,by simp (maxSteps:=2000000) (disch:=omega) only [go_sem]⟩
  ·(refine vU ?_;with_reducible repeat' first|exact Le.l|apply Sw|intro h)
   exact ⟨_,[_,_],_,by omega,⟨k+1,by rw [hst,if_neg (by rw [h];simp),List.append_nil],rfl,rfl,by omega⟩,rfl,by simp (maxSteps:=2000000) (disch:=omega) only [go_sem]⟩
 have ew:(l.take k).filter (fun y:ah=>!cont (iq s n.ae) y.ae)=wo s n.ae l:=by rw [List.take_of_length_le (by omega)];rfl
 rw [ew] at hfl ⊢
 clear h
 refine AW.imp (Imp.frz 12 ?_)
 simp (maxSteps:=2000000) (disch:=omega) only [go_sem]
 (refine vK ?_;with_reducible repeat' first|exact Le.l|apply Sw|intro h)
 rename Nat=>b2
 refine AW.imp (Imp.jU (b:=b2) 3 [.str n.ae,.str []] [] gO ?_)
 simp (maxSteps:=2000000) (disch:=omega) only [go_sem]
 refine AW.c (fun h=>?_) fun h=>?_
 ·(refine vU ?_;with_reducible repeat' first|exact Le.l|apply Sw|intro h)
  rw [crt,if_pos h];try rfl
 have h34:=h
 clear h
 refine vO ?_;intros;refine AW.c (fun h=>?_) fun h=>?_
 ·(refine vX ?_;with_reducible repeat' first|exact Le.l|apply Sw|intro h)
  refine AW.imp (Imp.fU 8 (x:=.v (.slice none 0 0)) (x':=.sl false 3 []) gO (fun _ _ _ _ r=>Rep.dY _ _ r) ?_)
  (refine vU ?_;with_reducible repeat' first|exact Le.l|apply Sw|intro h)
  rw [crt,if_neg (by omega),if_pos h];try rfl
 have ZY:=h
 clear h
 have hz:(mdE e.af n.af []).1=[]↔((mdE e.af n.af []).1.length:Int)=0:=by
  rw [<- List.length_eq_zero_iff];omega
 refine vO ?_;intros;refine AW.c (fun h=>?_) fun h=>?_
 ·(refine vU ?_;with_reducible repeat' first|exact Le.l|apply Sw|intro h)
  rw [crt,if_neg (by omega),if_neg (by omega),if_pos (by grind)];try rfl
 ·(refine vU ?_;with_reducible repeat' first|exact Le.l|apply Sw|intro h)
  rw [crt,if_neg (by omega),if_neg (by omega),if_neg (by grind)];try rfl
end
section
attribute [-instance] cz
attribute [local go_sem] ba aI aS cU cT dy fZ gH
theorem mL:∀ l:List ah,AV.jw ((l.map (aj false)).flatMap AV.cells)=[]
 | []=>rfl
 | x::l=>by
  have:=mL l
  rw [List.map_cons,List.flatMap_cons,bR]
  simp only [AV.cells,List.cons_append,List.nil_append,AV.jw,AV.keys,this]
attribute [local go_sem] mL
theorem rT(l:List ah):((l.map (aj false)).flatMap AV.cells).length=l.length * 3:=by rw [bH (sz:=3) (eU _),List.length_map]
theorem tP{l:List ah}{i:Nat}(hi:i<l.length):(l.map (aj false)).flatMap AV.cells=((l.take i).map (aj false)).flatMap AV.cells++((cNo (at_ l i))++((l.drop (i+1)).map (aj false)).flatMap AV.cells):=by
 conv=>lhs;rw [nz hi,List.map_append,List.map_cons,List.flatMap_append,List.flatMap_cons,bR]
 rfl
theorem uC{l:List ah}{i:Nat}{y:ah}(hi:i<l.length):((l.set i y).map (aj false)).flatMap AV.cells=((l.take i).map (aj false)).flatMap AV.cells++((cNo y)++((l.drop (i+1)).map (aj false)).flatMap AV.cells):=by
 rw [rA hi,List.map_append,List.map_cons,List.flatMap_append,List.flatMap_cons,bR];rfl
theorem LK{l:List ah}{i:Nat}{y:ah}:(l.set i y).take i=l.take i:=by rw [List.take_set_of_le (Nat.le_refl _)]
theorem set_drop{l:List ah}{i:Nat}{y:ah}:(l.set i y).drop (i+1)=l.drop (i+1):=by rw [List.drop_set_of_lt (Nat.lt_succ_self _)]
instance R3(b k:Nat)(l:List ah):Ctr lim Tryz.prog 199 [(b,some ((l.map (aj false)).flatMap AV.cells))] [.arr b 0 l.length 3,.v (.int .i64 (k:Nat)),.v (.int .i64 ((k+1:Nat):Int))] (.sl true 3 ((l.take k++l.drop (k+1)).map (aj false))) [none] (k<l.length):=by
 have h:=C2.ctr (L:=lim) (b:=b) (i:=k) (j:=k+1) (aM 199) K8 (by decide) (eU l) (xQ l)
 rw [<- List.map_take,<- List.map_drop,<- List.map_append,List.length_map] at h
 exact ⟨h.en,fun hp=>h.out ⟨Nat.lt_succ_self _,hp⟩⟩
theorem MD(N:Nat)(ih:∀ (s:List ag) (l:List ah) (es:List au),Ctr lim Tryz.prog 130 [] [.sl false 19 (s.map (ak false)),.sl false 3 ((l).map (aj false)),.sl false 4 ((es).map (aH false))] (.tup [.sl false 3 (((mdE es s l).1).map (aj false)),.v (.int .i64 (mdE es s l).2)]) [] (SizeOf.sizeOf es<N/\gdS s/\wtS s<=1048576/\cnt l+cY es<=4194304/\wtE es<=1048576))(l:List ah)(i:Nat)(n:ag)(e:au):Ctr lim Tryz.prog 198 [] [.sl false 3 ((l).map (aj false)),.v (.int .i64 i),.agg (cSc n),.agg (cEd e)] (.tup [.sl false 3 (((mrg (mdE e.af) l i n e).1).map (aj false)),.v (.int .i64 (mrg (mdE e.af) l i n e).2)]) [] (SizeOf.sizeOf e.af<N/\gdS n.af/\wtS n.af<=1048576/\i<l.length/\l.length<=4194304/\cnt (at_ l i).af+cY e.af<=4194304/\e.av.length<=1048576/\wtE e.af<=1048576):=by
 refine Ctr.bd Tryz.func198 Tryz.ntmps198 rfl rfl fun hp=>?_
 have gOn:=bA.on
 obtain ⟨hN,hg,hs,hi,hl,hc,hv,hw⟩:=hp
 have hpl:(((l.take i).map (aj false)).flatMap AV.cells).length=i * 3:=by rw [rT,List.length_take];congr 1;omega
 have hql:=rT (l.drop (i+1))
 (refine vK ?_;with_reducible repeat' first|exact Le.l|apply Sw|intro h)
 refine AW.imp (Imp.pJ 10 (sz:=3) (l:=l.map (aj false)) gO (eU _) (fun b hb=>?_) (fun hnil=>?_))
 rotate_left
 ·rw [List.map_eq_nil_iff] at hnil;rw [hnil] at hi;exact absurd hi (Nat.not_lt_zero _)
 have hb1:=hb.nf
 simp only [go_sem] at hb1
 rw [List.length_map,tP hi]
 generalize hpre:((l.take i).map (aj false)).flatMap AV.cells=pre at *
 generalize hpost:((l.drop (i+1)).map (aj false)).flatMap AV.cells=post at *
 simp (maxSteps:=2000000) (disch:=omega) only [go_sem]
 have hset:∀ y:ah,((l.set i y).map (aj false)).flatMap AV.cells=pre++.str y.ae::.str y.av::.sl false 3 (y.af.map (aj false))::post:=fun y=>by rw [uC hi,hpre,hpost];rfl
 have hat:(l.map (aj false)).flatMap AV.cells=pre++.str (at_ l i).ae::.str (at_ l i).av::.sl false 3 ((at_ l i).af.map (aj false))::post:=by rw [tP hi,hpre,hpost];rfl
 have hlen:∀ a b c:AV,(pre++a::b::c::post).length=l.length * 3:=fun a b c=>by
  simp only [List.length_append,List.length_cons,hpl,hql,List.length_drop];omega
 have hkp:AV.jw pre=[]:=by rw [<- hpre];exact mL _
 have hkq:AV.jw post=[]:=by rw [<- hpost];exact mL _
 refine AW.c (fun h=>?_) fun h=>?_
 ·(refine vX ?_;with_reducible repeat' first|exact Le.l|apply Sw|intro h)
  refine AW.imp (Imp.fold 8 (b:=b) (len:=l.length) (sz:=3) (cells:=(pre++.str (at_ l i).ae::.str (cvS n.fType e.av)::.sl false 3 ((at_ l i).af.map (aj false))::post)) (l:=(l.set i (.mk (at_ l i).ae (cvS n.fType e.av) (at_ l i).af)).map (aj false)) gO gO (by simp) (by rw [List.take_of_length_le (by rw [hlen];exact Nat.le_refl _)];exact hset _) (eU _) ?_)
  refine AW.imp (Imp.frz 8 ?_)
  simp (maxSteps:=2000000) (disch:=omega) only [go_sem]
  (refine vU ?_;with_reducible repeat' first|exact Le.l|apply Sw|intro h)
  rw [mrg,if_pos h];try rfl
 have h3:=h
 clear h
 refine vO ?_;intros;refine AW.c (fun h=>?_) fun h=>?_
 ·have h12:n.ai=1\/n.ai=2:=.inl (by omega)
  have hk1:=h
  clear h
  (refine vK ?_;with_reducible repeat' first|exact Le.l|apply Sw|intro h)
  (refine AW.i rfl (fun h=>?_) (fun h=>?_)<;>try simp only [hC,reduceCtorEq] at h)
  rotate_left
  ·exact absurd hk1 h
  clear h
  refine vO ?_;intros;refine AW.c (fun h=>?_) fun h=>?_
  ·(refine vX ?_;with_reducible repeat' first|exact Le.l|apply Sw|intro h)
   refine AW.imp (Imp.fU 8 (x:=.v (.slice none 0 0)) (x':=.sl false 3 []) gO (fun _ _ _ _ r=>Rep.dY _ _ r) ?_)
   (refine vU ?_;with_reducible repeat' first|exact Le.l|apply Sw|intro h)
   rw [mrg,if_neg h3,if_pos h12,if_pos h];try rfl
  have hc0:=h
  clear h
  have hz:(mdE e.af n.af (at_ l i).af).1=[]↔(((mdE e.af n.af (at_ l i).af).1).length:Int)=0:=by
   rw [<- List.length_eq_zero_iff];omega
  refine vO ?_;intros;refine AW.c (fun h=>?_) fun h=>?_
  ·haveI hd:Ctr lim Tryz.prog 199 [(b,some (((l.set i (.mk (at_ l i).ae (at_ l i).av (mdE e.af n.af (at_ l i).af).1)).map (aj false)).flatMap AV.cells))] [.arr b 0 l.length 3,.v (.int .i64 (i:Nat)),.v (.int .i64 ((i+1:Nat):Int))] (.sl true 3 ((l.eraseIdx i).map (aj false))) [none] True:=by
    have:=R3 b i (l.set i (.mk (at_ l i).ae (at_ l i).av (mdE e.af n.af (at_ l i).af).1))
    rw [List.length_set] at this
    rw [show (l.set i (.mk (at_ l i).ae (at_ l i).av (mdE e.af n.af (at_ l i).af).1)).take i++(l.set i (.mk (at_ l i).ae (at_ l i).av (mdE e.af n.af (at_ l i).af).1)).drop (i+1)=l.eraseIdx i by rw [rX,LK,set_drop]] at this
    exact ⟨this.en,fun _=>this.out hi⟩
   have hs2:(pre++.str (at_ l i).ae::.str (at_ l i).av::.sl false 3 ((mdE e.af n.af (at_ l i).af).1.map (aj false))::post)=(((l.set i (.mk (at_ l i).ae (at_ l i).av (mdE e.af n.af (at_ l i).af).1)).map (aj false)).flatMap AV.cells):=(hset (.mk (at_ l i).ae (at_ l i).av (mdE e.af n.af (at_ l i).af).1)).symm
   rw [hs2]
   clear hs2
   (refine Z ?_;refine fun (K:_->_->Prop) hK=>?_;simp (maxSteps:=2000000) (disch:=omega) only [go_sem])
   (repeat' first|(with_reducible first|refine Y ?_|(refine hK _ _ ?_;clear hK K)|refine And.intro ?_ ?_|exact Ct|intro (K:_->_->Prop) hK|(refine gI fun hg=>?_;try simp only [hC,reduceCtorEq] at hg;try simp only [hg]))|((with_reducible refine E ?_;repeat refine Y ?_);refine eF rfl ?_)|simp (disch:=omega) only [go_sem,mL]|(with_reducible intro hg;try simp only [hC,reduceCtorEq] at hg)|exact Cl|fail)
   (refine vX ?_;with_reducible repeat' first|exact Le.l|apply Sw|intro h)
   refine AW.imp (Imp.frz 8 ?_)
   simp (maxSteps:=2000000) (disch:=omega) only [go_sem]
   (refine vU ?_;with_reducible repeat' first|exact Le.l|apply Sw|intro h)
   rw [mrg,if_neg h3,if_pos h12,if_neg (fun c=>c hc0),if_pos (by grind)];try rfl
  ·(refine vX ?_;with_reducible repeat' first|exact Le.l|apply Sw|intro h)
   refine AW.imp (Imp.fold 8 (b:=b) (len:=l.length) (sz:=3) (cells:=(pre++.str (at_ l i).ae::.str (at_ l i).av::.sl false 3 ((mdE e.af n.af (at_ l i).af).1.map (aj false))::post)) (l:=(l.set i (.mk (at_ l i).ae (at_ l i).av (mdE e.af n.af (at_ l i).af).1)).map (aj false)) gO gO (by simp) (by rw [List.take_of_length_le (by rw [hlen];exact Nat.le_refl _)];exact hset _) (eU _) ?_)
   refine AW.imp (Imp.frz 8 ?_)
   simp (maxSteps:=2000000) (disch:=omega) only [go_sem]
   (refine vU ?_;with_reducible repeat' first|exact Le.l|apply Sw|intro h)
   rw [mrg,if_neg h3,if_pos h12,if_neg (fun c=>c hc0),if_neg (by grind)];try rfl
 ·have h1:=h
  clear h
  refine vO ?_;intros;refine AW.c (fun h=>?_) fun h=>?_
  ·have h12:n.ai=1\/n.ai=2:=.inr (by omega)
   have hk1:=h
   clear h
   refine vO ?_;intros;refine AW.c (fun h=>?_) fun h=>?_
   ·(refine vX ?_;with_reducible repeat' first|exact Le.l|apply Sw|intro h)
    refine AW.imp (Imp.fU 8 (x:=.v (.slice none 0 0)) (x':=.sl false 3 []) gO (fun _ _ _ _ r=>Rep.dY _ _ r) ?_)
    (refine vU ?_;with_reducible repeat' first|exact Le.l|apply Sw|intro h)
    rw [mrg,if_neg h3,if_pos h12,if_pos h];try rfl
   have hc0:=h
   clear h
   have hz:(mdE e.af n.af (at_ l i).af).1=[]↔(((mdE e.af n.af (at_ l i).af).1).length:Int)=0:=by
    rw [<- List.length_eq_zero_iff];omega
   refine vO ?_;intros;refine AW.c (fun h=>?_) fun h=>?_
   ·exfalso;omega
   ·(refine vX ?_;with_reducible repeat' first|exact Le.l|apply Sw|intro h)
    refine AW.imp (Imp.fold 8 (b:=b) (len:=l.length) (sz:=3) (cells:=(pre++.str (at_ l i).ae::.str (at_ l i).av::.sl false 3 ((mdE e.af n.af (at_ l i).af).1.map (aj false))::post)) (l:=(l.set i (.mk (at_ l i).ae (at_ l i).av (mdE e.af n.af (at_ l i).af).1)).map (aj false)) gO gO (by simp) (by rw [List.take_of_length_le (by rw [hlen];exact Nat.le_refl _)];exact hset _) (eU _) ?_)
    refine AW.imp (Imp.frz 8 ?_)
    simp (maxSteps:=2000000) (disch:=omega) only [go_sem]
    (refine vU ?_;with_reducible repeat' first|exact Le.l|apply Sw|intro h)
    rw [mrg,if_neg h3,if_pos h12,if_neg (fun c=>c hc0),if_neg (by grind)];try rfl
  ·(refine vX ?_;with_reducible repeat' first|exact Le.l|apply Sw|intro h)
   refine AW.imp (Imp.fold 8 (b:=b) (len:=l.length) (sz:=3) (cells:=(pre++.str (at_ l i).ae::.str (at_ l i).av::.sl false 3 ((at_ l i).af.map (aj false))::post)) (l:=l.map (aj false)) gO gO (by simp) (by rw [List.take_of_length_le (by rw [hlen];exact Nat.le_refl _)];exact hat) (eU _) ?_)
   refine AW.imp (Imp.frz 8 ?_)
   simp (maxSteps:=2000000) (disch:=omega) only [go_sem]
   (refine vU ?_;with_reducible repeat' first|exact Le.l|apply Sw|intro h)
   rw [mrg,if_neg h3,if_neg (by omega)];try rfl
end
end Go.Proofs
