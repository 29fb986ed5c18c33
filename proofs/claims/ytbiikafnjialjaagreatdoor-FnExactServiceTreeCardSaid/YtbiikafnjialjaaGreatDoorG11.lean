/- Part of a proof. -/
import Derived.Test.YtbiikafnjialjaaGreatDoorG9
import Derived.Test.YtbiikafnjialjaaGreatDoorG10
set_option linter.all false
set_option maxRecDepth 20000
set_option maxHeartbeats 4000000
namespace Go.Ab
def DS:List Value:=List.replicate 256 (.bool false)
end Go.Ab
namespace Go.Proofs
open Go.Ab
@[go_sem] theorem VR:ty Tryz.prog 408=some (true,256)/\zer Tryz.prog 408=some DS/\elm Tryz.prog 408=none/\ael Tryz.prog 408=some (256,1)/\plc Tryz.prog 408=none:=by and_intros<;>kernel_rfl
end Go.Proofs
namespace Go.Dt
open Go.Ab
section
def aY(h:Nat->Bool):List AV:=(List.range 256).map fun c=>.v (.bool (h c))
@[go_sem] theorem iO(h:Nat->Bool):(aY h).length=256:=by simp only [aY,List.length_map,List.length_range]
theorem ru(h:Nat->Bool){k:Nat}(hk:k<256):(aY h)[k]? = some (.v (.bool (h k))):=by
 simp only [aY,List.getElem?_map,List.getElem?_range hk,Option.map_some]
theorem Ip(h:Nat->Bool){k:Nat}(hk:k<256):(aY h).drop k=.v (.bool (h k))::(aY h).drop (k+1):=by
 have hl:k<(aY h).length:=by rw [iO];exact hk
 rw [List.drop_eq_getElem_cons hl]
 have:=ru h hk
 rw [List.getElem?_eq_getElem hl] at this
 rw [Option.some.inj this]
@[go_sem] theorem SA(h:Nat->Bool){k:Nat}(hk:k<256):((aY h).drop k).head? = some (.v (.bool (h k))):=by rw [Ip h hk];rfl
@[go_sem] theorem Us(h:Nat->Bool){k:Nat}(hk:k<256)(b:Bool):(aY h).take k++[.v (.bool b)]++(aY h).drop (k+1)=aY (fun c=>if c=k then b else h c):=by
 apply List.ext_getElem?
 intro i
 by_cases hi:i<256
 ·rw [ru _ hi]
  by_cases e1:i<k
  ·rw [List.append_assoc,List.getElem?_append_left (by simp [iO];omega),List.getElem?_take,if_pos e1,ru _ hi]
   rw [if_neg (by omega)]
  ·by_cases e2:i=k
   ·subst e2
    rw [List.append_assoc,List.getElem?_append_right (by simp [iO];omega)]
    simp [iO,Nat.min_eq_left (Nat.le_of_lt hi)]
   ·rw [List.getElem?_append_right (by simp [iO];omega),List.getElem?_drop]
    simp only [List.length_append,List.length_take,iO,List.length_cons,List.length_nil]
    rw [show k+1+(i - (min k 256+(0+1)))=i by omega,ru _ hi,if_neg e2]
 ·rw [List.getElem?_eq_none (by simp [iO];omega),List.getElem?_eq_none (by rw [iO];omega)]
@[go_sem] theorem Uv(h:Nat->Bool):(aY h).drop 256=[]:=List.drop_of_length_le (by rw [iO];exact Nat.le_refl _)
@[go_sem] theorem Sx(h:Nat->Bool):(aY h).take 256=aY h:=List.take_of_length_le (by rw [iO];exact Nat.le_refl _)
@[go_sem] theorem Io:DS.map avz=aY (fun _=>false):=by
 simp only [DS,List.map_replicate,avz]
 apply List.ext_getElem?
 intro i
 by_cases hi:i<256
 ·rw [ru _ hi,List.getElem?_replicate,if_pos hi]
 ·rw [List.getElem?_eq_none (by rw [List.length_replicate];omega),List.getElem?_eq_none (by rw [iO];omega)]
theorem tU{α:Type}{f:α->AV}(h:∀ x,(f x).cS=true):∀ l:List α,AV.bA (l.map f)=true
 | []=>rfl
 | x::xs=>by simp only [List.map_cons,AV.bA,h x,tU h xs,Bool.and_self]
theorem qo{α:Type}{f:α->AV}(h:∀ x,(f x).frz=f x):∀ l:List α,AV.bS (l.map f)=l.map f
 | []=>rfl
 | x::xs=>by simp only [List.map_cons,AV.bS,h x,qo h xs]
theorem wk{α:Type}{f:α->AV}(h:∀ x,(f x).closed=true):∀ l:List α,AV.cq (l.map f)=true
 | []=>rfl
 | x::xs=>by simp only [List.map_cons,AV.cq,h x,wk h xs,Bool.and_self]
@[go_sem] theorem Sy(h:Nat->Bool):AV.bA (aY h)=true:=tU (fun _=>rfl) _
@[go_sem] theorem Uu(h:Nat->Bool):AV.bS (aY h)=aY h:=qo (fun _=>rfl) _
@[go_sem] theorem Ut(h:Nat->Bool):(aY h).all AV.one=true:=by
 simp only [aY,List.all_map,List.all_eq_true];intro x _;rfl
theorem tY{α:Type}{f:α->AV}(h:∀ x,(f x).keys=[]):∀ l:List α,AV.iC (l.map f)=[]
 | []=>rfl
 | x::xs=>by simp only [List.map_cons,AV.iC,h x,tY h xs,List.append_nil]
@[go_sem] theorem Sz(h:Nat->Bool):AV.iC (aY h)=[]:=tY (fun _=>rfl) _
@[go_sem] theorem Uy(l:List bg):AV.bS (l.map bF)=l.map bF:=qo (fun x=>by rw [dG];rfl) _
@[go_sem] theorem HB(l:List bg):(l.map bF).all (AV.elem 3)=true:=dx (fun x=>by rw [dG];rfl) l
@[go_sem] theorem Tl(l:List bg):((l.map bF).flatMap AV.cells).all AV.one=true:=dQ (fun x=>by rw [dG];rfl) l
end
section
mutual
def psz:bg->Nat
 | .mk _ _ ks=>1+mG ks
def mG:List bg->Nat
 | []=>0
 | x::xs=>psz x+mG xs
end
theorem xQ(p:bg):psz p=1+mG p.ag:=by cases p;simp [psz,bg.ag]
theorem EA{α β:Type}[Inhabited α]{f:α->β}{l:List α}{k:Nat}(h:k<l.length):(l.take (k+1)).map f=(l.take k).map f++[f (at_ l k)]:=by
 rw [List.take_add_one,List.map_append,rD h];rfl
theorem tO:∀ {l:List bg} {k:Nat},k<l.length->psz (at_ l k)<=mG l
 | [],_,h=>by simp at h
 | x::xs,0,_=>by simp [at_,mG]
 | x::xs,k+1,h=>by
  have:=tO (l:=xs) (k:=k) (by simpa using h)
  simp only [mG]
  have e:at_ (x::xs) (k+1)=at_ xs k:=by simp [at_]
  rw [e];omega
end
end Go.Dt
namespace Go.Proofs
open Go.Ab Go.Dt
theorem AU:∀ (n:Nat) (op:Int) (t:Str) (ks:List bg),Ctr lim Tryz.prog 359 [] [.agg [.v (.int .i64 op),.str t,.sl false 3 (ks.map bF)]] (.agg [.v (.int .i64 op),.str t,.sl false 3 (ks.map bF)]) [] (mG ks<n)
 | 0,op,t,ks=>⟨(aW 359),fun h=>absurd h (Nat.not_lt_zero _)⟩
 | n+1,op,t,ks=>by
  have ih:=AU n
  refine Ctr.bd Tryz.func359 Tryz.ntmps359 rfl rfl fun hp=>?_
  refine AW.fact 0 fun hf=>?_
  simp (disch:=omega) only [go_sem,Nat.reduceBEq] at hf
  (refine bU ?_;with_reducible repeat' first|exact Le.l|apply Sw|intro (K:_->_->Prop) hK|intro h)
  rename_i b1 b2
  refine AW.aw [3,10] [1,2,8,9] (fun m xs o=>∃ k:Nat,xs=[.sl true 3 ((ks.take k).map bF),.v (.int .i64 k)]/\o=[(b2,some [.v (.int .i64 0),.str [],.v (.slice none 0 0)]),(b1,some [.v (.int .i64 op),.str t,.sl false 3 (ks.map bF)])]/\m=ks.length - k/\k<=ks.length) ks.length [(b2,some [.v (.int .i64 0),.str [],.v (.slice none 0 0)]),(b1,some [.v (.int .i64 op),.str t,.sl false 3 (ks.map bF)])] (fJ (Ne.symm h) rfl rfl) ⟨0,?_,rfl,rfl,?_⟩ ?_
  ·rfl
  ·omega
  rintro m xs o ⟨k,rfl,rfl,rfl,hk⟩
  have hq:k<ks.length->_:=tO (l:=ks) (k:=k)
  have hq2:=xQ (at_ ks k)
  have hlt:(ks.take k).length=k:=by rw [List.length_take];omega
  (refine bK ?_;with_reducible repeat' first|exact Le.l|apply Sw|intro (K:_->_->Prop) hK|intro h)
  refine AW.c (fun h=>?_) fun h=>?_
  ·(refine bU ?_;with_reducible repeat' first|exact Le.l|apply Sw|intro (K:_->_->Prop) hK|intro h)
   ·refine ⟨_,[_,_],[(b2,some [.v (.int .i64 0),.str [],.v (.slice none 0 0)]),(b1,some [.v (.int .i64 op),.str t,.sl false 3 (ks.map bF)])],by omega,⟨k+1,?_,rfl,rfl,by omega⟩,rfl,by simp (maxSteps:=2000000) (disch:=omega) only [go_sem]⟩
    rw [EA (by assumption),dG]
  ·refine AW.imp (Imp.frz 3 ?_)
   simp (maxSteps:=2000000) (disch:=omega) only [go_sem]
   rw [show k=ks.length by omega,List.take_length]
   (refine bU ?_;with_reducible repeat' first|exact Le.l|apply Sw|intro (K:_->_->Prop) hK|intro h)
instance SJ(op:Int)(t:Str)(ks:List bg):Ctr lim Tryz.prog 359 [] [.agg [.v (.int .i64 op),.str t,.sl false 3 (ks.map bF)]] (.agg [.v (.int .i64 op),.str t,.sl false 3 (ks.map bF)]) [] True:=⟨(aW 359),fun _=>(AU (mG ks+1) op t ks).out (by omega)⟩
def lJ(h:Nat->Bool)(i:Nat):Str:=((List.range i).filter h).map UInt8.ofNat
theorem qv(h:Nat->Bool)(i:Nat):lJ h (i+1)=lJ h i++(if h i then [UInt8.ofNat i] else []):=by
 unfold lJ
 rw [List.range_succ,List.filter_append,List.map_append]
 congr 1
 cases e:h i<;>simp [e]
theorem u6(h:Nat->Bool)(i:Nat):(lJ h i).length<=i:=by
 unfold lJ
 rw [List.length_map]
 have:=List.length_filter_le h (List.range i)
 simpa using this
theorem sV(l:List UInt8){n:Nat}(h:n<=255):bG l++[.v (.int .u8 (n:Int))]=bG (l++[UInt8.ofNat n]):=by
 have:((UInt8.ofNat n).toNat:Int)=n:=by rw [UInt8.toNat_ofNat'];omega
 simp only [bG,List.map_append,List.map_cons,List.map_nil,this]
instance VI(ha:Nat->Bool):Ctr lim Tryz.prog 369 [] [.agg (aY ha)] (.agg [.v (.int .i64 1),.str (oA ha),.sl false 3 []]) [] True:=by
 refine Ctr.bd Tryz.func369 Tryz.ntmps369 rfl rfl fun hp=>?_
 (refine bU ?_;with_reducible repeat' first|exact Le.l|apply Sw|intro (K:_->_->Prop) hK|intro h)
 rename_i b1 b2
 refine AW.aw [3,6] [1,2] (fun m xs o=>∃ k:Nat,xs=[.sl true 1 (bG (lJ ha k)),.v (.int .i64 k)]/\o=[(b2,some [.v (.int .i64 0),.str [],.v (.slice none 0 0)]),(b1,some (aY ha))]/\m=256 - k/\k<=256) 256 [(b2,some [.v (.int .i64 0),.str [],.v (.slice none 0 0)]),(b1,some (aY ha))] (fJ (Ne.symm h) rfl rfl) ⟨0,?_,rfl,rfl,?_⟩ ?_
 ·rfl
 ·omega
 rintro m xs o ⟨k,rfl,rfl,rfl,hk⟩
 have hl:=u6 ha k
 have hs:=qv ha k
 (refine bK ?_;with_reducible repeat' first|exact Le.l|apply Sw|intro (K:_->_->Prop) hK|intro h)
 refine AW.c (fun h=>?_) fun h=>?_
 ·(refine bK ?_;with_reducible repeat' first|exact Le.l|apply Sw|intro (K:_->_->Prop) hK|intro h)
  refine AW.c (fun h=>?_) fun h=>?_
  ·rename_i hh
   rw [h] at hs
   (refine bU ?_;with_reducible repeat' first|exact Le.l|apply Sw|intro (K:_->_->Prop) hK|intro h)
   exact ⟨_,[_,_],[(b2,some [.v (.int .i64 0),.str [],.v (.slice none 0 0)]),(b1,some (aY ha))],by omega,⟨k+1,by rw [hs,if_pos rfl,<- sV _ (by omega)],rfl,rfl,by omega⟩,rfl,by simp (maxSteps:=2000000) (disch:=omega) only [go_sem]⟩
  ·rename_i hh
   rw [h] at hs
   (refine bU ?_;with_reducible repeat' first|exact Le.l|apply Sw|intro (K:_->_->Prop) hK|intro h)
   exact ⟨_,[_,_],[(b2,some [.v (.int .i64 0),.str [],.v (.slice none 0 0)]),(b1,some (aY ha))],by omega,⟨k+1,by rw [hs];simp,rfl,rfl,by omega⟩,rfl,by simp (maxSteps:=2000000) (disch:=omega) only [go_sem]⟩
 ·(refine bX ?_;with_reducible repeat' first|exact Le.l|apply Sw|intro (K:_->_->Prop) hK|intro h)
  refine AW.ret (aF.imp (Imp.jR (b:=b2) 3 [.v (.int .i64 1),.str (lJ ha k)] [] gO ?_))
  refine aF.fin rfl ?_
  simp (maxSteps:=2000000) (disch:=omega) only [go_sem]
  rw [show k=256 by omega]
  rfl
end Go.Proofs
