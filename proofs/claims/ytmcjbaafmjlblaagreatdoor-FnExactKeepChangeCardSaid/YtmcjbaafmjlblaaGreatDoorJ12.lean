/- A part. -/
import Derived.Test.YtmcjbaafmjlblaaGreatDoorJ10
import Derived.Test.YtmcjbaafmjlblaaGreatDoorJ11
set_option linter.all false
set_option maxRecDepth 20000
set_option maxHeartbeats 4000000
namespace Go.Ab
def Fq:List Value:=List.replicate 256 (.bool false)
end Go.Ab
namespace Go.Proofs
open Go.Ab
@[go_sem] theorem Yw:ty Tryz.prog 345=some (true,256)/\zer Tryz.prog 345=some Fq/\elm Tryz.prog 345=none/\ael Tryz.prog 345=some (256,1)/\plc Tryz.prog 345=none:=by and_intros<;>kernel_rfl
end Go.Proofs
namespace Go.Dt
open Go.Ab
section
def bf(h:Nat->Bool):List AV:=(List.range 256).map fun c=>.v (.bool (h c))
@[go_sem] theorem jd(h:Nat->Bool):(bf h).length=256:=by simp only [bf,List.length_map,List.length_range]
theorem rR(h:Nat->Bool){k:Nat}(hk:k<256):(bf h)[k]? = some (.v (.bool (h k))):=by
 simp only [bf,List.getElem?_map,List.getElem?_range hk,Option.map_some]
theorem KP(h:Nat->Bool){k:Nat}(hk:k<256):(bf h).drop k=.v (.bool (h k))::(bf h).drop (k+1):=by
 have hl:k<(bf h).length:=by rw [jd];exact hk
 rw [List.drop_eq_getElem_cons hl]
 have:=rR h hk
 rw [List.getElem?_eq_getElem hl] at this
 rw [Option.some.inj this]
@[go_sem] theorem Vo(h:Nat->Bool){k:Nat}(hk:k<256):((bf h).drop k).head? = some (.v (.bool (h k))):=by rw [KP h hk];rfl
@[go_sem] theorem Xd(h:Nat->Bool){k:Nat}(hk:k<256)(b:Bool):(bf h).take k++[.v (.bool b)]++(bf h).drop (k+1)=bf (fun c=>if c=k then b else h c):=by
 apply List.ext_getElem?
 intro i
 by_cases hi:i<256
 ·rw [rR _ hi]
  by_cases e1:i<k
  ·rw [List.append_assoc,List.getElem?_append_left (by simp [jd];omega),List.getElem?_take,if_pos e1,rR _ hi]
   rw [if_neg (by omega)]
  ·by_cases e2:i=k
   ·subst e2
    rw [List.append_assoc,List.getElem?_append_right (by simp [jd];omega)]
    simp [jd,Nat.min_eq_left (Nat.le_of_lt hi)]
   ·rw [List.getElem?_append_right (by simp [jd];omega),List.getElem?_drop]
    simp only [List.length_append,List.length_take,jd,List.length_cons,List.length_nil]
    rw [show k+1+(i - (min k 256+(0+1)))=i by omega,rR _ hi,if_neg e2]
 ·rw [List.getElem?_eq_none (by simp [jd];omega),List.getElem?_eq_none (by rw [jd];omega)]
@[go_sem] theorem Xg(h:Nat->Bool):(bf h).drop 256=[]:=List.drop_of_length_le (by rw [jd];exact Nat.le_refl _)
@[go_sem] theorem Vl(h:Nat->Bool):(bf h).take 256=bf h:=List.take_of_length_le (by rw [jd];exact Nat.le_refl _)
@[go_sem] theorem KO:Fq.map avz=bf (fun _=>false):=by
 simp only [Fq,List.map_replicate,avz]
 apply List.ext_getElem?
 intro i
 by_cases hi:i<256
 ·rw [rR _ hi,List.getElem?_replicate,if_pos hi]
 ·rw [List.getElem?_eq_none (by rw [List.length_replicate];omega),List.getElem?_eq_none (by rw [jd];omega)]
theorem uJ{α:Type}{f:α->AV}(h:∀ x,(f x).df=true):∀ l:List α,AV.bL (l.map f)=true
 | []=>rfl
 | x::xs=>by simp only [List.map_cons,AV.bL,h x,uJ h xs,Bool.and_self]
theorem qK{α:Type}{f:α->AV}(h:∀ x,(f x).frz=f x):∀ l:List α,AV.bZ (l.map f)=l.map f
 | []=>rfl
 | x::xs=>by simp only [List.map_cons,AV.bZ,h x,qK h xs]
theorem xz{α:Type}{f:α->AV}(h:∀ x,(f x).closed=true):∀ l:List α,AV.ck (l.map f)=true
 | []=>rfl
 | x::xs=>by simp only [List.map_cons,AV.ck,h x,xz h xs,Bool.and_self]
@[go_sem] theorem Vm(h:Nat->Bool):AV.bL (bf h)=true:=uJ (fun _=>rfl) _
@[go_sem] theorem Xf(h:Nat->Bool):AV.bZ (bf h)=bf h:=qK (fun _=>rfl) _
@[go_sem] theorem Xe(h:Nat->Bool):(bf h).all AV.one=true:=by
 simp only [bf,List.all_map,List.all_eq_true];intro x _;rfl
theorem uP{α:Type}{f:α->AV}(h:∀ x,(f x).keys=[]):∀ l:List α,AV.jw (l.map f)=[]
 | []=>rfl
 | x::xs=>by simp only [List.map_cons,AV.jw,h x,uP h xs,List.append_nil]
@[go_sem] theorem Vn(h:Nat->Bool):AV.jw (bf h)=[]:=uP (fun _=>rfl) _
@[go_sem] theorem Xj(l:List bq):AV.bZ (l.map bO)=l.map bO:=qK (fun x=>by rw [dL];rfl) _
@[go_sem] theorem JI(l:List bq):(l.map bO).all (AV.elem 3)=true:=cX (fun x=>by rw [dL];rfl) l
@[go_sem] theorem V5(l:List bq):((l.map bO).flatMap AV.cells).all AV.one=true:=dw (fun x=>by rw [dL];rfl) l
end
section
mutual
def psz:bq->Nat
 | .mk _ _ ks=>1+mY ks
def mY:List bq->Nat
 | []=>0
 | x::xs=>psz x+mY xs
end
theorem y7(p:bq):psz p=1+mY p.af:=by cases p;simp [psz,bq.af]
theorem Gc{α β:Type}[Inhabited α]{f:α->β}{l:List α}{k:Nat}(h:k<l.length):(l.take (k+1)).map f=(l.take k).map f++[f (at_ l k)]:=by
 rw [List.take_add_one,List.map_append,su h];rfl
theorem uG:∀ {l:List bq} {k:Nat},k<l.length->psz (at_ l k)<=mY l
 | [],_,h=>by simp at h
 | x::xs,0,_=>by simp [at_,mY]
 | x::xs,k+1,h=>by
  have:=uG (l:=xs) (k:=k) (by simpa using h)
  simp only [mY]
  have e:at_ (x::xs) (k+1)=at_ xs k:=by simp [at_]
  rw [e];omega
end
end Go.Dt
namespace Go.Proofs
open Go.Ab Go.Dt
theorem Cf:∀ (n:Nat) (op:Int) (t:Str) (ks:List bq),Ctr lim Tryz.prog 316 [] [.agg [.v (.int .i64 op),.str t,.sl false 3 (ks.map bO)]] (.agg [.v (.int .i64 op),.str t,.sl false 3 (ks.map bO)]) [] (mY ks<n)
 | 0,op,t,ks=>⟨(aM 316),fun h=>absurd h (Nat.not_lt_zero _)⟩
 | n+1,op,t,ks=>by
  have ih:=Cf n
  refine Ctr.bd Tryz.func316 Tryz.ntmps316 rfl rfl fun hp=>?_
  refine AW.fact 0 fun hf=>?_
  simp (disch:=omega) only [go_sem,Nat.reduceBEq] at hf
  (refine bU ?_;with_reducible repeat' first|exact Le.l|apply Sw|intro (K:_->_->Prop) hK|intro h)
  rename_i b1 b2
  refine AW.aA [3,10] [1,2,8,9] (fun m xs o=>∃ k:Nat,xs=[.sl true 3 ((ks.take k).map bO),.v (.int .i64 k)]/\o=[(b2,some [.v (.int .i64 0),.str [],.v (.slice none 0 0)]),(b1,some [.v (.int .i64 op),.str t,.sl false 3 (ks.map bO)])]/\m=ks.length - k/\k<=ks.length) ks.length [(b2,some [.v (.int .i64 0),.str [],.v (.slice none 0 0)]),(b1,some [.v (.int .i64 op),.str t,.sl false 3 (ks.map bO)])] (ja (Ne.symm h) rfl rfl) ⟨0,?_,rfl,rfl,?_⟩ ?_
  ·rfl
  ·omega
  rintro m xs o ⟨k,rfl,rfl,rfl,hk⟩
  have hq:k<ks.length->_:=uG (l:=ks) (k:=k)
  have hq2:=y7 (at_ ks k)
  have hlt:(ks.take k).length=k:=by rw [List.length_take];omega
  (refine bK ?_;with_reducible repeat' first|exact Le.l|apply Sw|intro (K:_->_->Prop) hK|intro h)
  refine AW.c (fun h=>?_) fun h=>?_
  ·(refine bU ?_;with_reducible repeat' first|exact Le.l|apply Sw|intro (K:_->_->Prop) hK|intro h)
   ·refine ⟨_,[_,_],[(b2,some [.v (.int .i64 0),.str [],.v (.slice none 0 0)]),(b1,some [.v (.int .i64 op),.str t,.sl false 3 (ks.map bO)])],by omega,⟨k+1,?_,rfl,rfl,by omega⟩,rfl,by simp (maxSteps:=2000000) (disch:=omega) only [go_sem]⟩
    rw [Gc (by assumption),dL]
  ·refine AW.imp (Imp.frz 3 ?_)
   simp (maxSteps:=2000000) (disch:=omega) only [go_sem]
   rw [show k=ks.length by omega,List.take_length]
   (refine bU ?_;with_reducible repeat' first|exact Le.l|apply Sw|intro (K:_->_->Prop) hK|intro h)
instance Vx(op:Int)(t:Str)(ks:List bq):Ctr lim Tryz.prog 316 [] [.agg [.v (.int .i64 op),.str t,.sl false 3 (ks.map bO)]] (.agg [.v (.int .i64 op),.str t,.sl false 3 (ks.map bO)]) [] True:=⟨(aM 316),fun _=>(Cf (mY ks+1) op t ks).out (by omega)⟩
def lY(h:Nat->Bool)(i:Nat):Str:=((List.range i).filter h).map UInt8.ofNat
theorem qO(h:Nat->Bool)(i:Nat):lY h (i+1)=lY h i++(if h i then [UInt8.ofNat i] else []):=by
 unfold lY
 rw [List.range_succ,List.filter_append,List.map_append]
 congr 1
 cases e:h i<;>simp [e]
theorem wL(h:Nat->Bool)(i:Nat):(lY h i).length<=i:=by
 unfold lY
 rw [List.length_map]
 have:=List.length_filter_le h (List.range i)
 simpa using this
theorem tL(l:List UInt8){n:Nat}(h:n<=255):dQ l++[.v (.int .u8 (n:Int))]=dQ (l++[UInt8.ofNat n]):=by
 have:((UInt8.ofNat n).toNat:Int)=n:=by rw [UInt8.toNat_ofNat'];omega
 simp only [dQ,List.map_append,List.map_cons,List.map_nil,this]
instance Yo(ha:Nat->Bool):Ctr lim Tryz.prog 321 [] [.agg (bf ha)] (.agg [.v (.int .i64 1),.str (o7 ha),.sl false 3 []]) [] True:=by
 refine Ctr.bd Tryz.func321 Tryz.ntmps321 rfl rfl fun hp=>?_
 (refine bU ?_;with_reducible repeat' first|exact Le.l|apply Sw|intro (K:_->_->Prop) hK|intro h)
 rename_i b1 b2
 refine AW.aA [3,6] [1,2] (fun m xs o=>∃ k:Nat,xs=[.sl true 1 (dQ (lY ha k)),.v (.int .i64 k)]/\o=[(b2,some [.v (.int .i64 0),.str [],.v (.slice none 0 0)]),(b1,some (bf ha))]/\m=256 - k/\k<=256) 256 [(b2,some [.v (.int .i64 0),.str [],.v (.slice none 0 0)]),(b1,some (bf ha))] (ja (Ne.symm h) rfl rfl) ⟨0,?_,rfl,rfl,?_⟩ ?_
 ·rfl
 ·omega
 rintro m xs o ⟨k,rfl,rfl,rfl,hk⟩
 have hl:=wL ha k
 have hs:=qO ha k
 (refine bK ?_;with_reducible repeat' first|exact Le.l|apply Sw|intro (K:_->_->Prop) hK|intro h)
 refine AW.c (fun h=>?_) fun h=>?_
 ·(refine bK ?_;with_reducible repeat' first|exact Le.l|apply Sw|intro (K:_->_->Prop) hK|intro h)
  refine AW.c (fun h=>?_) fun h=>?_
  ·rename_i hh
   rw [h] at hs
   (refine bU ?_;with_reducible repeat' first|exact Le.l|apply Sw|intro (K:_->_->Prop) hK|intro h)
   exact ⟨_,[_,_],[(b2,some [.v (.int .i64 0),.str [],.v (.slice none 0 0)]),(b1,some (bf ha))],by omega,⟨k+1,by rw [hs,if_pos rfl,<- tL _ (by omega)],rfl,rfl,by omega⟩,rfl,by simp (maxSteps:=2000000) (disch:=omega) only [go_sem]⟩
  ·rename_i hh
   rw [h] at hs
   (refine bU ?_;with_reducible repeat' first|exact Le.l|apply Sw|intro (K:_->_->Prop) hK|intro h)
   exact ⟨_,[_,_],[(b2,some [.v (.int .i64 0),.str [],.v (.slice none 0 0)]),(b1,some (bf ha))],by omega,⟨k+1,by rw [hs];simp,rfl,rfl,by omega⟩,rfl,by simp (maxSteps:=2000000) (disch:=omega) only [go_sem]⟩
 ·(refine bX ?_;with_reducible repeat' first|exact Le.l|apply Sw|intro (K:_->_->Prop) hK|intro h)
  refine AW.ret (aJ.imp (Imp.jU (b:=b2) 3 [.v (.int .i64 1),.str (lY ha k)] [] gO ?_))
  refine aJ.fin rfl ?_
  simp (maxSteps:=2000000) (disch:=omega) only [go_sem]
  rw [show k=256 by omega]
  rfl
end Go.Proofs
