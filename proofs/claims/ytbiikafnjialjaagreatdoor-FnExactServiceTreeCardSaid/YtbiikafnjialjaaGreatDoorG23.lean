/- Part of a proof. -/
import Derived.Test.YtbiikafnjialjaaGreatDoorG20
import Derived.Test.YtbiikafnjialjaaGreatDoorG22
set_option linter.all false
set_option maxRecDepth 20000
set_option maxHeartbeats 4000000
namespace Go.Dt
open Go.Ab
theorem dZ{α:Type}{f:α->AV}:∀ (l:List α),(∀ x∈l,(f x).closed=true)->AV.cq (l.map f)=true
 | [],_=>rfl
 | x::xs,h=>by simp only [List.map_cons,AV.cq,h x (by simp),dZ xs fun y hy=>h y (by simp [hy]),Bool.true_and]
theorem kC(l:List Str):AV.cq (l.map AV.str)=true:=dZ l fun _ _=>rfl
theorem Ep(o:Bool)(l:List df):(l.map (aI o)).all (AV.elem 2)=true:=dx (fun _=>rfl) l
theorem Eo(o:Bool)(l:List df):((l.map (aI o)).flatMap AV.cells).all AV.one=true:=dQ (fun _=>rfl) l
theorem Iy(x:df):(aI true x).closed=true:=by simp only [aI,AV.closed,AV.cq,kC,Bool.true_and,Bool.and_true]
theorem gU(l:List df):AV.cq (l.map (aI true))=true:=dZ l fun x _=>Iy x
theorem GI(o:Bool)(l:List ed):(l.map (bZ o)).all (AV.elem 2)=true:=dx (fun _=>rfl) l
theorem GH(o:Bool)(l:List ed):((l.map (bZ o)).flatMap AV.cells).all AV.one=true:=dQ (fun _=>rfl) l
theorem Kq(x:ed):(bZ true x).closed=true:=by simp only [bZ,AV.closed,AV.cq,kC,gU,Bool.true_and,Bool.and_true]
theorem ji(l:List ed):AV.cq (l.map (bZ true))=true:=dZ l fun x _=>Kq x
theorem IB(o:Bool)(l:List bI):(l.map (bp o)).all (AV.elem 2)=true:=dx (fun _=>rfl) l
theorem IA(o:Bool)(l:List bI):((l.map (bp o)).flatMap AV.cells).all AV.one=true:=dQ (fun _=>rfl) l
theorem MN(x:bI):(bp true x).closed=true:=by simp only [bp,AV.closed,AV.cq,kC,gU,ji,Bool.true_and,Bool.and_true]
theorem kY(l:List bI):AV.cq (l.map (bp true))=true:=dZ l fun x _=>MN x
theorem GL(o:Bool)(l:List GStep):(l.map (aS o)).all (AV.elem 2)=true:=dx (fun _=>rfl) l
theorem GJ(o:Bool)(l:List GStep):((l.map (aS o)).flatMap AV.cells).all AV.one=true:=dQ (fun _=>rfl) l
theorem Kr(x:GStep):(aS true x).closed=true:=by simp only [aS,AV.closed,AV.cq,kC,gU,ji,kY,Bool.true_and,Bool.and_true]
theorem kX(l:List GStep):AV.cq (l.map (aS true))=true:=dZ l fun x _=>Kr x
theorem Es(o:Bool)(l:List bh):(l.map (aV o)).all (AV.elem 6)=true:=dx (fun _=>rfl) l
theorem Er(o:Bool)(l:List bh):((l.map (aV o)).flatMap AV.cells).all AV.one=true:=dQ (fun _=>rfl) l
theorem Iz(x:bh):(aV true x).closed=true:=by simp only [aV,AV.closed,AV.cq,kC,gU,ji,kY,kX,Bool.true_and,Bool.and_true]
theorem lB(l:List bh):AV.cq (l.map (aV true))=true:=dZ l fun x _=>Iz x
theorem GN(o:Bool)(l:List ah):(l.map (ak o)).all (AV.elem 3)=true:=dx (fun x=>by rw [cH];rfl) l
theorem GM(o:Bool)(l:List ah):((l.map (ak o)).flatMap AV.cells).all AV.one=true:=dQ (fun x=>by rw [cH];rfl) l
theorem Dz(x:ah):(ak true x).closed=true:=by
 rw [cH]
 simp only [AV.closed,AV.cq,kC,gU,ji,kY,kX,lB,dZ x.ag (fun y hy=>Dz y),Bool.true_and,Bool.and_true]
termination_by SizeOf.sizeOf x
decreasing_by have:=List.sizeOf_lt_of_mem hy;cases x;simp [ah.ag] at *;omega
theorem nQ(l:List ah):AV.cq (l.map (ak true))=true:=dZ l fun x _=>Dz x
theorem GQ(o:Bool)(l:List aO):(l.map (aG o)).all (AV.elem 7)=true:=dx (fun x=>by rw [cV];rfl) l
theorem GP(o:Bool)(l:List aO):((l.map (aG o)).flatMap AV.cells).all AV.one=true:=dQ (fun x=>by rw [cV];rfl) l
theorem DA(x:aO):(aG true x).closed=true:=by
 rw [cV]
 simp only [AV.closed,AV.cq,kC,gU,ji,kY,kX,lB,nQ,dZ x.ag (fun y hy=>DA y),Bool.true_and,Bool.and_true]
termination_by SizeOf.sizeOf x
decreasing_by have:=List.sizeOf_lt_of_mem hy;cases x;simp [aO.ag] at *;omega
theorem qp(l:List aO):AV.cq (l.map (aG true))=true:=dZ l fun x _=>DA x
theorem Dy(o:Bool)(l:List ae):(l.map (aq o)).all (AV.elem 19)=true:=dx (fun x=>by rw [cT];rfl) l
theorem Dx(o:Bool)(l:List ae):((l.map (aq o)).flatMap AV.cells).all AV.one=true:=dQ (fun x=>by rw [cT];rfl) l
theorem yB(x:ae):(aq true x).closed=true:=by
 rw [cT]
 simp only [AV.closed,AV.cq,kC,gU,ji,kY,kX,lB,nQ,qp,dZ x.ag (fun y hy=>yB y),Bool.true_and,Bool.and_true]
termination_by SizeOf.sizeOf x
decreasing_by have:=List.sizeOf_lt_of_mem hy;cases x;simp [ae.ag] at *;omega
theorem qP(l:List ae):AV.cq (l.map (aq true))=true:=dZ l fun x _=>yB x
theorem zD(o:Bool)(l:List aL):(l.map (aQ o)).all (AV.elem 3)=true:=dx (fun _=>rfl) l
theorem zC(o:Bool)(l:List aL):((l.map (aQ o)).flatMap AV.cells).all AV.one=true:=dQ (fun _=>rfl) l
theorem Dv(x:aL):(aQ true x).closed=true:=by simp only [aQ,AV.closed,AV.cq,kC,gU,ji,kY,kX,lB,nQ,qp,qP,Bool.true_and,Bool.and_true]
theorem tq(l:List aL):AV.cq (l.map (aQ true))=true:=dZ l fun x _=>Dv x
theorem Br(o:Bool)(l:List bt):(l.map (aT o)).all (AV.elem 4)=true:=dx (fun _=>rfl) l
theorem Bq(o:Bool)(l:List bt):((l.map (aT o)).flatMap AV.cells).all AV.one=true:=dQ (fun _=>rfl) l
theorem En(x:bt):(aT true x).closed=true:=by simp only [aT,AV.closed,AV.cq,kC,gU,ji,kY,kX,lB,nQ,qp,qP,tq,Bool.true_and,Bool.and_true]
theorem Dw(l:List bt):AV.cq (l.map (aT true))=true:=dZ l fun x _=>En x
theorem Jl(l:List Str):(l.map AV.str).all AV.one=true:=by have:=EC l;rwa [Dl] at this
attribute [go_sem] Ep Eo gU GI GH ji IB IA kY GL GJ kX Es Er lB GN GM nQ GQ GP qp Dy Dx qP zD zC tq Br Bq Dw Jl kC
end Go.Dt
namespace Go.Proofs
open Go.Ab Go.Dt
instance PS(x:cL):Ctr lim Tryz.prog 234 [] [.agg [.v (.int .i64 x.ai),.sl false 2 (x.av.map (aI false)),.sl false 1 (x.ay.map AV.str),.str x.aN,.str x.aA]] (.agg [.v (.int .i64 x.ai),.sl true 2 (x.av.map (aI true)),.sl true 1 (x.ay.map AV.str),.str x.aN,.str x.aA]) [] True:=by
 refine Ctr.bd Tryz.func234 Tryz.ntmps234 rfl rfl fun hp=>?_
 refine AW.fact 0 fun hf=>?_
 simp (disch:=omega) only [go_sem] at hf
 (refine bU ?_;with_reducible repeat' first|exact Le.l|apply Sw|intro h)
 rfl
end Go.Proofs
namespace Go.Ab
section
variable {L : Nat -> Nat} {n : Nat} {t : List (Nat × AV)} {o : Sto} {Q : AS -> Prop}
theorem Imp.BG{b0 k b sz:Nat}{cells0 l:List AV}(x:AV)(hO0:O o b0=some cells0)(hk:cells0[k]? = some (.arr b 0 (l.length+1) sz))(hO:O o b=some (l.flatMap AV.cells++x.cells))(hne:b≠b0)(hel:∀ y,y∈l->y.elem sz=true)(hx:x.elem sz=true)
  (h:Q ⟨n,t,(b,none)::(b0,some (cells0.set k (.sl true sz (l++[x]))))::o⟩):Imp L ⟨n,t,o⟩ Q:=by
 have jz:∀ y,y∈l++[x]->y.elem sz=true:=by
  intro y hy
  rcases List.mem_append.1 hy with hy|hy
  ·exact hel y hy
  ·rw [List.mem_singleton.1 hy];exact hx
 refine Imp.BF (b0:=b0) (k:=k) (b:=b) (len:=l.length+1) (sz:=sz) (l:=l++[x]) hO0 hk hO hne (by simp) ?_ jz h
 have h1:=dU jz
 rw [List.length_append,List.length_singleton,List.flatMap_append,List.flatMap_cons,List.flatMap_nil,List.append_nil] at h1
 rw [List.flatMap_append,List.flatMap_cons,List.flatMap_nil,List.append_nil,List.take_of_length_le (Nat.le_of_eq h1)]
end
end Go.Ab
