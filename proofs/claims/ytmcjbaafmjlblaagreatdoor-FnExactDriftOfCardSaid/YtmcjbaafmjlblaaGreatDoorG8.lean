/-
  Part of a proof: Tx1, Tp0.
-/
import Derived.Test.YtmcjbaafmjlblaaGreatDoorG6
import Derived.Test.YtmcjbaafmjlblaaGreatDoorG7
set_option linter.unusedSimpArgs false
set_option linter.unusedVariables false
namespace Go.Proofs.YtmcjbaafmjlblaaGreatDoor
open Go.Ab Go.Dt
set_option maxRecDepth 20000
set_option maxHeartbeats 1000000
instance sIsText_i(L:Nat→Nat)(s:Str):Ctr L Tryz.prog 240 [] [.str s] (.v (.bool (isText s))) [] True:=by
 refine Ctr.of_body en240 Tryz.func240 rfl rfl fun hp=>(?_);rw [Tryz.ntmps240]
 refine AW.fact 0 fun hf=>?_
 simp (disch:=omega) only [go_sem,Nat.reduceBEq] at hf
 (refine vU ?_;with_reducible repeat' first|exact Le.l|refine Sw ?_ ?_|intro h)
 refine AW.loopV [3] [0] (fun m xs o=>∃ k:Nat,xs=[.v (.int .i64 k)]∧o=[]∧m=s.length - k∧k≤s.length∧allTo (chT s) k=true) s.length [] trivial ⟨0,?_,rfl,rfl,?_,rfl⟩ ?_
 ·rfl
 ·omega
 rintro m xs o ⟨k,rfl,rfl,rfl,hk,hR⟩
 (refine vU ?_;with_reducible repeat' first|exact Le.l|refine Sw ?_ ?_|intro h)
 ·rw [isText,allTo_false (by assumption) (by simp [chT];omega)];rfl
 ·exact ⟨_,[_],[],by omega,⟨k+1,rfl,rfl,rfl,by omega,allTo_step hR (by simp [chT];omega)⟩,rfl,trivial⟩
 ·rw [show k=s.length by omega] at hR
  rw [isText,hR];simp;omega
instance iIsText_i(L:Nat→Nat)(s:Str):Ctr L Tryz.prog 249 [] [.str s] (.v (.bool (isText s))) [] True:=by
 refine Ctr.of_body en249 Tryz.func249 rfl rfl fun hp=>(?_);rw [Tryz.ntmps249]
 refine AW.fact 0 fun hf=>?_
 simp (disch:=omega) only [go_sem,Nat.reduceBEq] at hf
 (refine vU ?_;with_reducible repeat' first|exact Le.l|refine Sw ?_ ?_|intro h)
 refine AW.loopV [3] [0] (fun m xs o=>∃ k:Nat,xs=[.v (.int .i64 k)]∧o=[]∧m=s.length - k∧k≤s.length∧allTo (chT s) k=true) s.length [] trivial ⟨0,?_,rfl,rfl,?_,rfl⟩ ?_
 ·rfl
 ·omega
 rintro m xs o ⟨k,rfl,rfl,rfl,hk,hR⟩
 (refine vU ?_;with_reducible repeat' first|exact Le.l|refine Sw ?_ ?_|intro h)
 ·rw [isText,allTo_false (by assumption) (by simp [chT];omega)];rfl
 ·exact ⟨_,[_],[],by omega,⟨k+1,rfl,rfl,rfl,by omega,allTo_step hR (by simp [chT];omega)⟩,rfl,trivial⟩
 ·rw [show k=s.length by omega] at hR
  rw [isText,hR];simp;omega
instance sIsName_i(L:Nat→Nat)(s:Str):Ctr L Tryz.prog 217 [] [.str s] (.v (.bool (isName s))) [] True:=by
 refine Ctr.of_body en217 Tryz.func217 rfl rfl fun hp=>(?_);rw [Tryz.ntmps217]
 refine AW.fact 0 fun hf=>?_
 simp (disch:=omega) only [go_sem,Nat.reduceBEq] at hf
 (refine vU ?_;with_reducible repeat' first|exact Le.l|refine Sw ?_ ?_|intro h)
 refine AW.loopV [3] [0] (fun m xs o=>∃ k:Nat,xs=[.v (.int .i64 k)]∧o=[]∧m=s.length - k∧k≤s.length∧allTo (chN s) k=true) s.length [] trivial ⟨0,?_,rfl,rfl,?_,rfl⟩ ?_
 ·rfl
 ·omega
 rintro m xs o ⟨k,rfl,rfl,rfl,hk,hR⟩
 (refine vU ?_;with_reducible repeat' first|exact Le.l|refine Sw ?_ ?_|intro h)
 ·rw [isName,allTo_false (by assumption) ?_];rfl
  simp only [chN,nmI,ltI,digI]
  obtain ⟨h1,h2⟩:=h
  have e1:(decide (97≤at8 s k) && decide (at8 s k≤122))=false:=by simp;omega
  rw [e1]
  rcases h2 with h2|h2
  ·have:k=0:=by omega
   simp [this]
  ·have e2:(decide (48≤at8 s k) && decide (at8 s k≤57))=false:=by simp;omega
   rw [e2];simp [h2.2]
 ·refine ⟨_,[_],[],by omega,⟨k+1,rfl,rfl,rfl,by omega,allTo_step hR ?_⟩,rfl,trivial⟩
  simp only [chN,nmI,ltI,digI]
  cases e1:(decide (97≤at8 s k) && decide (at8 s k≤122)) with
  | true=>rfl
  | false =>
   simp only [Bool.and_eq_false_imp,decide_eq_true_eq,decide_eq_false_iff_not,Int.not_le] at e1
   obtain ⟨h1,h2⟩:=h e1
   have h3:(k == 0)=false:=by simp;omega
   rw [h3]
   cases e2:(decide (48≤at8 s k) && decide (at8 s k≤57)) with
   | true=>rfl
   | false =>
    simp only [Bool.and_eq_false_imp,decide_eq_true_eq,decide_eq_false_iff_not,Int.not_le] at e2
    simp [h2 e2]
 ·rw [show k=s.length by omega] at hR
  rw [isName,hR]
  by_cases h0:s.length=0
  ·simp [h0]
  ·rw [castS (by omega)]
   rw [show decide ((1:Int)≤(s.length:Int))=decide (1≤s.length) from decide_eq_decide.2 (by omega),show decide ((s.length:Int)≤16)=decide (s.length≤16) from decide_eq_decide.2 (by omega)]
   simp only [Bool.true_and,bne]
instance iIsName_i(L:Nat→Nat)(s:Str):Ctr L Tryz.prog 227 [] [.str s] (.v (.bool (isName s))) [] True:=by
 refine Ctr.of_body en227 Tryz.func227 rfl rfl fun hp=>(?_);rw [Tryz.ntmps227]
 refine AW.fact 0 fun hf=>?_
 simp (disch:=omega) only [go_sem,Nat.reduceBEq] at hf
 (refine vU ?_;with_reducible repeat' first|exact Le.l|refine Sw ?_ ?_|intro h)
 ·have:isName s=false:=by
   rcases h with (h|h)|h
   ·simp [isName];intro _ _;omega
   ·simp [isName];intro _ _ _;omega
   ·by_cases h0:s.length=0
    ·simp [isName,h0]
    ·rw [isName,allTo_false (j:=0) (by omega) (by simp [chN,h])];rfl
  rw [this]
 refine AW.loopV [3] [0] (fun m xs o=>∃ k:Nat,xs=[.v (.int .i64 k)]∧o=[]∧m=s.length - k∧1≤k∧k≤s.length∧allTo (chN s) k=true) (s.length - 1) [] trivial ⟨1,?_,rfl,rfl,?_,?_,?_⟩ ?_
 ·rfl
 ·omega
 ·omega
 ·simp [allTo,chN,h.2]
 rintro m xs o ⟨k,rfl,rfl,rfl,hk0,hk,hR⟩
 (refine vU ?_;with_reducible repeat' first|exact Le.l|refine Sw ?_ ?_|intro h)
 ·have h2:ltI (at8 s k)=false:=by
   simp only [nmI,Bool.or_eq_false_iff] at h;exact h.1.1
  rw [isName,allTo_false (by assumption) (by simp [chN,h,h2])];rfl
 ·exact ⟨_,[_],[],by omega,⟨k+1,rfl,rfl,rfl,by omega,by omega,allTo_step hR (by simp [chN,h];omega)⟩,rfl,trivial⟩
 ·rw [show k=s.length by omega] at hR
  rw [isName,hR]
  rename_i hh
  have e1:decide (1≤s.length)=true:=by simp;omega
  have e2:decide (s.length≤16)=true:=by simp;omega
  rw [e1,e2];simp [bne]
end Go.Proofs.YtmcjbaafmjlblaaGreatDoor
namespace Go.Dt
open Go.Ab
def rgOk(l:List GRange):Nat→Bool
 | 0=>decide ((at_ l 0).fLo≤(at_ l 0).fHi) && decide (-1000000000≤(at_ l 0).fLo) && decide ((at_ l 0).fHi≤1000000000)
 | j+1=>decide ((at_ l (j+1)).fLo≤(at_ l (j+1)).fHi) && decide (-1000000000≤(at_ l (j+1)).fLo) && decide ((at_ l (j+1)).fHi≤1000000000) && decide ((at_ l j).fHi+2≤(at_ l (j+1)).fLo)
theorem rgOk_hi{l:List GRange}{j:Nat}(h:rgOk l j=true):(at_ l j).fLo≤(at_ l j).fHi∧-1000000000≤(at_ l j).fLo∧(at_ l j).fHi≤1000000000:=by
 cases j<;>simp [rgOk] at h<;>omega
theorem rg0(l:List GRange):rgOk l 0=true↔(at_ l 0).fLo≤(at_ l 0).fHi∧-1000000000≤(at_ l 0).fLo∧(at_ l 0).fHi≤1000000000:=by simp [rgOk,and_assoc]
theorem rgS(l:List GRange)(j:Nat):rgOk l (j+1)=true↔(at_ l (j+1)).fLo≤(at_ l (j+1)).fHi∧-1000000000≤(at_ l (j+1)).fLo∧(at_ l (j+1)).fHi≤1000000000∧(at_ l j).fHi+2≤(at_ l (j+1)).fLo:=by simp [rgOk,and_assoc]
def areRanges(l:List GRange):Bool:=allTo (rgOk l) l.length && decide (l.length≤6)
theorem areRanges_no{l:List GRange}{j:Nat}(hj:j<l.length)(h:rgOk l j=false):areRanges l=false:=by
 rw [areRanges,allTo_false hj h];rfl
theorem areRanges_end{l:List GRange}{k:Nat}(h:allTo (rgOk l) k=true)(e:k=l.length):areRanges l=decide ((l.length:Int)≤6):=by
 subst e;rw [areRanges,h,Bool.true_and];exact decide_eq_decide.2 (by omega)
def cont(l:List Str)(s:Str):Bool:=decide (0≤idx (fun x=>x == s) l)
def diffs(l:List Str):Bool:=allTo (fun j=>!cont (l.take j) (at_ l j)) l.length
def prmI(l:List GParam)(n:Str):Int:=idx (fun x=>x.fName == n) l
def names(l:List Str):Bool:=allTo (fun j=>isName (at_ l j)) l.length
end Go.Dt
