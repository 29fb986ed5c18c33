/- Part of a proof. -/
import Derived.Test.YtpelkkfkecfmbaaGreatDoorH32
set_option linter.all false
namespace Go.Dt
open Go Go.Ab
def fW(x:bB):AV:=.agg [.v (.int .i64 x.EF),.sl true 1 (x.aF.map AV.str),.sl true 1 (x.Bu.map iV)]
@[go_sem] def aeg(x:bB):fW x=.agg [.aa x.EF,.sl true 1 (x.aF.map AV.str),.sl true 1 (x.Bu.map iV)]:=rfl
def fF(x:bB):AV:=.agg [.v (.int .i64 x.EF),.sl false 1 (x.aF.map AV.str),.sl false 1 (x.Bu.map iV)]
@[go_sem] def aeh(x:bB):fF x=.agg [.aa x.EF,.sl false 1 (x.aF.map AV.str),.sl false 1 (x.Bu.map iV)]:=rfl
def CG(l:List bB):AV.bg (l.map fW)=l.map fF:=fK _ _ (fun x=>by
 simp only [fW,fF,AV.frz,AV.bg]
 rw [dS,show AV.bg (x.aF.map AV.str)=x.aF.map AV.str from fK _ _ (fun _=>rfl) _];rfl) l
def JG(l:List bB):AV.bg (l.map fF)=l.map fF:=fK _ _ (fun x=>by
 simp only [fF,AV.frz,AV.bg]
 rw [dS,show AV.bg (x.aF.map AV.str)=x.aF.map AV.str from fK _ _ (fun _=>rfl) _];rfl) l
def Wv(l:List bB):(l.map fW).all (AV.elem 3)=true:=bL (fun _=>rfl) l
def Wu(l:List bB):((l.map fW).flatMap AV.cells).all AV.one=true:=cf (fun _=>rfl) l
def NS(l:List bB):(l.map fF).all (AV.elem 3)=true:=bL (fun _=>rfl) l
def NR(l:List bB):((l.map fF).flatMap AV.cells).all AV.one=true:=cf (fun _=>rfl) l
def fmT{α β:Type}(g:α->List β)(s:List α)(i:Nat):List β:=(s.take i).flatMap g
def uQ{α β:Type}(g:α->List β)(s:List α):fmT g s 0=[]:=rfl
theorem qP{α β:Type}[Inhabited α]{g:α->List β}{s:List α}{i:Nat}(h:i<s.length):fmT g s (i+1)=fmT g s i++g (at_ s i):=by rw [fmT,tk1 h,List.flatMap_append,List.flatMap_cons,List.flatMap_nil,List.append_nil];rfl
def xX{α β:Type}{g:α->List β}{s:List α}{i:Nat}(h:¬ i<s.length):fmT g s i=s.flatMap g:=by rw [fmT,List.take_of_length_le Ir]
theorem Bt{α β:Type}[Inhabited α]{g:α->List β}{s:List α}{i:Nat}(h:i<s.length):(fmT g s i).length+(g (at_ s i)).length<=(s.flatMap g).length:=by
 have e:s.flatMap g=fmT g s (i+1)++(s.drop (i+1)).flatMap g:=by
  conv=>lhs;rw [<- List.take_append_drop (i+1) s,List.flatMap_append]
  rfl
 rw [e,qP h,List.length_append,List.length_append];omega
def fmR{β:Type}(g:Nat->List β)(i:Nat):List β:=(List.range i).flatMap g
def GV{β:Type}(g:Nat->List β):fmR g 0=[]:=rfl
def uR{β:Type}{g:Nat->List β}{i:Nat}:fmR g (i+1)=fmR g i++g i:=by rw [fmR,List.range_succ,List.flatMap_append,List.flatMap_cons,List.flatMap_nil,List.append_nil];rfl
def NJ{β:Type}{g:Nat->List β}{i n:Nat}(h:i<n):(fmR g i).length+(g i).length<=(fmR g n).length:=by
 rw [<- List.length_append,<- uR]
 have key:∀ d,(fmR g (i+1)).length<=(fmR g (i+1+d)).length:=fun d=>by
  induction d with
  | zero=>exact Nat.le_refl _
  | succ d ih =>
   have h3:fmR g (i+1+(d+1))=fmR g (i+1+d)++g (i+1+d):=uR
   have h4:=congrArg List.length h3;rw [List.length_append] at h4;omega
 have h2:=key (n - (i+1));rw [show i+1+(n - (i+1))=n by omega] at h2;exact h2
def aY{b:Bool}{c:Int}{nm:List Str}{p:List Int}(h:b=true):flt b c nm p=[⟨c,nm,p⟩]:=by rw [flt,if_pos h]
def bw{b:Bool}{c:Int}{nm:List Str}{p:List Int}(h:b=false):flt b c nm p=[]:=by rw [flt,if_neg (by rw [h];simp)]
def ju(b:Bool)(c:Int)(nm:List Str)(p:List Int):(flt b c nm p).length<=1:=by unfold flt;split<;>simp
section
variable (fmt : Int -> Str) (t : List ah)
def pT(n:ae)(l:List ah):Nat:=(n.af.filter fun k=>mR k.af l).length
def pO(f:Nat)(names:List Str)(at0:List Int)(l:List ah)(k:ae):List bB :=
 if mR k.af l=true then flt (!ck fmt t at0 k.aG) 6 names at0++gu fmt t f k.af names at0 l else []
def Ld(n:ae)(names:List Str)(at0:List Int)(l:List ah):List bB :=
 flt (decide (0<pT n l) && !ck fmt t at0 n.aG) 6 names at0++flt (decide (1<pT n l)) 3 names at0++flt (decide (pT n l=0) && n.bD && ck fmt t at0 n.aG) 2 names at0
def uW(f:Nat)(n:ae)(names:List Str)(at0:List Int)(l:List ah):List bB :=
 Ld fmt t n names at0 l++n.af.flatMap (pO fmt t f names at0 l)
def mS(f:Nat)(n:ae)(nm:List Str)(at0:List Int)(l:List ah):List bB :=
 if n.aj=3 then flt (decide ((cJ n.ag l).length=0) && n.bD && ck fmt t (at0++[-1]) n.aG) 2 nm at0
 else if n.aj=2\/n.aj=4 then flt (decide (((cJ n.ag l).length:Int)<n.eJ) && ck fmt t (at0++[-1]) n.aG || !decide (n.dU=0) && decide (n.dU<((cJ n.ag l).length:Int))) 4 nm at0
 else if n.aj=1 then (if (decide ((cJ n.ag l).length=0) && !n.aZ && ck fmt t (at0++[-1]) n.aG)=true then gu fmt t f n.af nm (at0++[-1]) [] else [])
 else []
def qQ(f:Nat)(n:ae)(nm:List Str)(at0:List Int)(l:List ah)(k:Nat):List bB :=
 ij fmt t n nm (at0++[((at_ (cJ n.ag l) k:Nat):Int)]) (at_ l (at_ (cJ n.ag l) k)) ++
 flt (decide (n.aj=2) && ((cJ n.ag l).take k).any fun j=>iC n (at_ l j) (at_ l (at_ (cJ n.ag l) k))) 5 nm (at0++[((at_ (cJ n.ag l) k:Nat):Int)]) ++
 (if n.aj=1\/n.aj=2 then gu fmt t f n.af nm (at0++[((at_ (cJ n.ag l) k:Nat):Int)]) (at_ l (at_ (cJ n.ag l) k)).af else [])
def uT(f:Nat)(n:ae)(nm:List Str)(at0:List Int)(l:List ah):List bB :=
 mS fmt t f n nm at0 l++fmR (qQ fmt t f n nm at0 l) (cJ n.ag l).length
def pN(f:Nat)(names:List Str)(at0:List Int)(l:List ah)(n:ae):List bB :=
 if n.aj=5 then uW fmt t f n names at0 l else uT fmt t f n (names++[n.ag]) at0 l
theorem CK(f:Nat)(s:List ae)(names:List Str)(at0:List Int)(l:List ah):gu fmt t (f+1) s names at0 l=s.flatMap (pN fmt t f names at0 l):=rfl
theorem RM{α:Type}[Inhabited α](c:α->Nat):∀ l:List α,eB (fun i=>c (at_ l i)) l.length=(l.map c).sum:=by
 intro l
 have key:∀ k,k<=l.length->eB (fun i=>c (at_ l i)) k=((l.take k).map c).sum:=fun k=>by
  induction k with
  | zero=>intro _;rfl
  | succ k ih=>intro h;rw [eB,ih Ir,tk1 Ir,List.map_append,List.sum_append];simp
 have:=key l.length (Nat.le_refl _)
 rwa [List.take_length] at this
theorem DB{β:Type}(c:Nat->List β):∀ n,((List.range n).flatMap c).length=eB (fun i=>(c i).length) n
 | 0=>by simp [eB]
 | n+1=>by rw [List.range_succ,List.flatMap_append,List.length_append,DB c n,eB];simp
theorem JZ:∀ l:List ah,(l.map fun x=>1+cnt x.af).sum=cnt l
 | []=>by simp [cnt,kc]
 | x::l=>by rw [List.map_cons,List.sum_cons,JZ l,gH]
theorem xC{α:Type}(c:α->Nat)(a b:Nat):∀ l:List α,(l.map fun x=>a+b * c x).sum=a * l.length+b * (l.map c).sum
 | []=>by simp
 | x::l=>by rw [List.map_cons,List.sum_cons,xC c a b l,List.map_cons,List.sum_cons,List.length_cons,Nat.mul_add,Nat.mul_add];omega
theorem xB(n:ae)(nm:List Str)(p:List Int)(x:ah):(ij fmt t n nm p x).length<=3:=by rw [ij,List.length_append,List.length_append];exact Nat.add_le_add (Nat.add_le_add (ju _ _ _ _) (ju _ _ _ _)) (ju _ _ _ _)
theorem GU{α β:Type}{g:α->List β}{c:α->Nat}:∀ {l:List α},(∀ x∈l,(g x).length<=c x)->(l.flatMap g).length<=(l.map c).sum
 | [],_=>Nat.le_refl _
 | x::l,h=>by
  rw [List.flatMap_cons,List.length_append,List.map_cons,List.sum_cons];have:=h x QC
  have:=GU (l:=l) fun y hy=>h y (List.mem_cons_of_mem _ hy);omega
theorem zV:∀ s:List ae,(s.map fun n=>1+aH n.af).sum=aH s
 | []=>by simp [aH]
 | x::s=>by rw [List.map_cons,List.sum_cons,zV s,rX]
theorem GX:∀ (f:Nat) (s:List ae) (names:List Str) (at0:List Int) (l:List ah),(gu fmt t f s names at0 l).length<=5 * (1+cnt l) * aH s
 | 0,s,_,_,_=>Nat.zero_le _
 | f+1,s,names,at0,l=>by
  have ih:=GX f;rw [CK];refine Nat.le_trans (GU (c:=fun n=>0+5 * (1+cnt l) * (1+aH n.af)) fun n hn=>?_) (by rw [xC,zV];omega);rw [Nat.zero_add,Nat.mul_add,Nat.mul_one];rw [pN];split
  ·rw [uW,List.length_append]
   have h1:(Ld fmt t n names at0 l).length<=3:=by
    rw [Ld,List.length_append,List.length_append];exact Nat.add_le_add (Nat.add_le_add (ju _ _ _ _) (ju _ _ _ _)) (ju _ _ _ _)
   have h2:(n.af.flatMap (pO fmt t f names at0 l)).length<=(n.af.map fun k=>0+5 * (1+cnt l) * (1+aH k.af)).sum:=GU fun k hk=>by
    rw [pO,Nat.zero_add];split
    ·rw [List.length_append,Nat.mul_add,Nat.mul_one];have:=ih k.af names at0 l
     have:=ju (!ck fmt t at0 k.aG) 6 names at0
     have:=Nat.mul_le_mul (Nat.le_refl 5) (Nat.le_add_right 1 (cnt l));omega
    ·exact Nat.zero_le _
   rw [xC,zV] at h2;omega
  ·rw [uT,List.length_append]
   have h1:(mS fmt t f n (names++[n.ag]) at0 l).length<=5+5 * aH n.af:=by
    rw [mS];have h0:=ih n.af (names++[n.ag]) (at0++[-1]) [];rw [show cnt []=0 by simp [cnt,kc]] at h0;split
    ·exact Nat.le_trans (ju _ _ _ _) Ir
    ·split
     ·exact Nat.le_trans (ju _ _ _ _) Ir
     ·split
      ·split
       ·omega
       ·exact Nat.zero_le _
      ·exact Nat.zero_le _
   have e:fmR (qQ fmt t f n (names++[n.ag]) at0 l) (cJ n.ag l).length=(List.range l.length).flatMap fun i=>if ndP n.ag (at_ l i)=true then
     ij fmt t n (names++[n.ag]) (at0++[(i:Int)]) (at_ l i)++flt (decide (n.aj=2) && (plF (fun i=>ndP n.ag (at_ l i)) i).any fun j=>iC n (at_ l j) (at_ l i)) 5 (names++[n.ag]) (at0++[(i:Int)]) ++
     (if n.aj=1\/n.aj=2 then gu fmt t f n.af (names++[n.ag]) (at0++[(i:Int)]) (at_ l i).af else []) else [] :=
    BX (fun i=>ndP n.ag (at_ l i)) (fun i pre=>ij fmt t n (names++[n.ag]) (at0++[(i:Int)]) (at_ l i)++flt (decide (n.aj=2) && pre.any fun j=>iC n (at_ l j) (at_ l i)) 5 (names++[n.ag]) (at0++[(i:Int)])++(if n.aj=1\/n.aj=2 then gu fmt t f n.af (names++[n.ag]) (at0++[(i:Int)]) (at_ l i).af else [])) l.length
   have h2:(fmR (qQ fmt t f n (names++[n.ag]) at0 l) (cJ n.ag l).length).length<=eB (fun i=>(4+5 * aH n.af * (1+cnt (at_ l i).af))) l.length:=by
    rw [e,DB];refine tg _ fun i hi=>?_;split
    ·rw [List.length_append,List.length_append];have:=xB fmt t n (names++[n.ag]) (at0++[(i:Int)]) (at_ l i)
     have:=ju (decide (n.aj=2) && (plF (fun i=>ndP n.ag (at_ l i)) i).any fun j=>iC n (at_ l j) (at_ l i)) 5 (names++[n.ag]) (at0++[(i:Int)])
     have h3:(if n.aj=1\/n.aj=2 then gu fmt t f n.af (names++[n.ag]) (at0++[(i:Int)]) (at_ l i).af else []).length<=5 * aH n.af * (1+cnt (at_ l i).af):=by
      split
      ·exact Nat.le_trans (ih _ _ _ _) (by rw [Nat.mul_assoc,Nat.mul_assoc,Nat.mul_comm (aH n.af)];exact Nat.le_refl _)
      ·exact Nat.zero_le _
     omega
    ·exact Nat.zero_le _
   rw [RM (fun x:ah=>4+5 * aH n.af * (1+cnt x.af)),xC (fun x:ah=>1+cnt x.af),JZ] at h2;have h4:l.length<=cnt l:=by rw [cnt];omega
   have h5:5 * (1+cnt l) * aH n.af=5 * aH n.af+5 * aH n.af * cnt l:=by
    rw [Nat.mul_assoc,Nat.mul_comm (1+cnt l),Nat.mul_add,Nat.mul_one,Nat.mul_add,Nat.mul_assoc]
   omega
end
def CJ{fmt:Int->Str}{s:List ae}{l:List ah}(h:bV s l=true):(gu fmt (lJ s l) (aW s+1) s [] [] (lJ s l)).length<=2214300:=by
 have h1:=GX fmt (lJ s l) (aW s+1) s [] [] (lJ s l)
 have h2:=zN h
 have h3:aH s<=60:=by
  simp only [bV,fX,Bool.and_eq_true,decide_eq_true_eq] at h;omega
 have h4:5 * (1+cnt (lJ s l)) * aH s<=36905 * 60:=Nat.mul_le_mul Ir h3;omega
end Go.Dt
