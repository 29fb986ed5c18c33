/-
  Part of a proof: Pt1, TyArr, Pa0.
-/
import Derived.Test.YtmcjbaafmjlblaaGreatDoorG2
import Derived.Test.YtmcjbaafmjlblaaGreatDoorG5
import Derived.Test.YtmcjbaafmjlblaaGreatDoorG10
import Derived.Test.YtmcjbaafmjlblaaGreatDoorG14
import Derived.Test.YtmcjbaafmjlblaaGreatDoorG15
set_option linter.unusedSimpArgs false
set_option linter.unusedVariables false
namespace Go.Proofs.YtmcjbaafmjlblaaGreatDoor
open Go.Ab Go.Dt
set_option maxRecDepth 20000
set_option maxHeartbeats 4000000
instance take_i(L:Nat→Nat)(b:Nat)(s:Str)(i:Nat)(bad:Bool)(c:Int):Ctr L Tryz.prog 293 [(b,some [.str s,.v (.int .i64 i),.v (.bool bad)])] [.ptr b 0,.v (.int .u8 c)] (.v (.bool (isAt s i c))) [some [.str s,.v (.int .i64 (bif isAt s i c then i+1 else i:Nat)),.v (.bool bad)]] (i≤s.length∧s.length≤30):=by
 refine Ctr.of_body en293 Tryz.func293 rfl rfl fun hp=>(?_);rw [Tryz.ntmps293]
 (refine vU ?_;with_reducible repeat' first|exact Le.l|refine Sw ?_ ?_|intro (K:_→_→Prop) hK|intro h)
 ·rw [isAt_yes h]
 ·rw [isAt_yes h];rfl
 ·rw [isAt_no h]
 ·rw [isAt_no h];rfl
instance l5Next_i(L:Nat→Nat)(b:Nat)(s:Str)(i:Nat)(bad:Bool)(c:Int):Ctr L Tryz.prog 289 [(b,some [.str s,.v (.int .i64 i),.v (.bool bad)])] [.ptr b 0,.v (.int .u8 c)] (.v (.bool (!bad && isAt s i c))) [some [.str s,.v (.int .i64 (bif !bad && isAt s i c then i+1 else i:Nat)),.v (.bool bad)]] (i≤s.length∧s.length≤30):=by
 refine Ctr.of_body en289 Tryz.func289 rfl rfl fun hp=>(?_);rw [Tryz.ntmps289]
 (refine vU ?_;with_reducible repeat' first|exact Le.l|refine Sw ?_ ?_|intro (K:_→_→Prop) hK|intro h)
 ·rw [isAt_yes ⟨h.1.2,h.2⟩,h.1.1];rfl
 ·rw [isAt_yes ⟨h.1.2,h.2⟩,h.1.1];rfl
 ·cases bad with
  | true=>rfl
  | false=>rw [isAt_no fun e=>h ⟨rfl,e⟩];rfl
 ·cases bad with
  | true=>rfl
  | false=>rw [isAt_no fun e=>h ⟨rfl,e⟩];rfl
instance isChar_i(L:Nat→Nat)(n:Int):Ctr L Tryz.prog 323 [] [.v (.int .u8 n)] (.v (.bool (isCh n))) [] True:=by
 refine Ctr.of_body en323 Tryz.func323 rfl rfl fun hp=>(?_);rw [Tryz.ntmps323]
 (repeat' first|(with_reducible first|refine Z ?_|refine Y ?_|(refine hK _ _ ?_;clear hK K)|refine And.intro ?_ ?_|exact Ct|intro (K:_→_→Prop) hK|(refine gI fun hg=>?_;try simp only [hC,reduceCtorEq] at hg;try simp only [hg]))|(refine AW.i rfl (fun h=>?_) (fun h=>?_)<;>try simp only [hC,reduceCtorEq] at h)|((with_reducible refine E ?_;repeat refine Y ?_);refine eF rfl ?_)|simp (disch:=omega) only [go_sem,isCh]|(with_reducible intro hg;try simp only [hC,reduceCtorEq] at hg)|exact Cl|fail)
instance l5Char_i(L:Nat→Nat)(n:Int):Ctr L Tryz.prog 318 [] [.v (.int .u8 n)] (.v (.bool (isCh n))) [] (0≤n∧n≤255):=by
 refine Ctr.of_body en318 Tryz.func318 rfl rfl fun hp=>(?_);rw [Tryz.ntmps318]
 (repeat' first|(with_reducible first|refine Z ?_|refine Y ?_|(refine hK _ _ ?_;clear hK K)|refine And.intro ?_ ?_|exact Ct|intro (K:_→_→Prop) hK|(refine gI fun hg=>?_;try simp only [hC,reduceCtorEq] at hg;try simp only [hg]))|(refine AW.i rfl (fun h=>?_) (fun h=>?_)<;>try simp only [hC,reduceCtorEq] at h)|((with_reducible refine E ?_;repeat refine Y ?_);refine eF rfl ?_)|simp (disch:=omega) only [go_sem,isCh]|(with_reducible intro hg;try simp only [hC,reduceCtorEq] at hg)|exact Cl|fail)
instance char_i(L:Nat→Nat)(b:Nat)(s:Str)(i:Nat)(bad:Bool):Ctr L Tryz.prog 322 [(b,some [.str s,.v (.int .i64 i),.v (.bool bad)])] [.ptr b 0] (.v (.int .u8 (bif chAt s i then at8 s i else 0))) [some [.str s,.v (.int .i64 (bif chAt s i then i+1 else i:Nat)),.v (.bool (bad || !chAt s i))]] (i≤s.length∧s.length≤30):=by
 refine Ctr.of_body en322 Tryz.func322 rfl rfl fun hp=>(?_);rw [Tryz.ntmps322]
 (refine vU ?_;with_reducible repeat' first|exact Le.l|refine Sw ?_ ?_|intro (K:_→_→Prop) hK|intro h)
 ·rw [chAt_no h];rfl
 ·rw [chAt_no h];simp
 ·rw [chAt_yes h];rfl
 ·rw [chAt_yes h];simp
end Go.Proofs.YtmcjbaafmjlblaaGreatDoor
namespace Go.Ab
def arr0:List Value:=List.replicate 256 (.bool false)
end Go.Ab
namespace Go.Proofs.YtmcjbaafmjlblaaGreatDoor
open Go.Ab
@[go_sem] theorem ty_345:ty Tryz.prog 345=some (true,256):=by kernel_rfl
@[go_sem] theorem zer_345:zer Tryz.prog 345=some arr0:=by kernel_rfl
@[go_sem] theorem elm_345:elm Tryz.prog 345=none:=by kernel_rfl
@[go_sem] theorem ael_345:ael Tryz.prog 345=some (256,1):=by kernel_rfl
@[go_sem] theorem plc_345:plc Tryz.prog 345=none:=by kernel_rfl
end Go.Proofs.YtmcjbaafmjlblaaGreatDoor
namespace Go.Dt
open Go.Ab
def hasC(h:Nat→Bool):List AV:=(List.range 256).map fun c=>.v (.bool (h c))
@[go_sem] theorem hasC_len(h:Nat→Bool):(hasC h).length=256:=by simp only [hasC,List.length_map,List.length_range]
theorem hasC_at(h:Nat→Bool){k:Nat}(hk:k<256):(hasC h)[k]? = some (.v (.bool (h k))):=by
 simp only [hasC,List.getElem?_map,List.getElem?_range hk,Option.map_some]
theorem hasC_drop(h:Nat→Bool){k:Nat}(hk:k<256):(hasC h).drop k=.v (.bool (h k))::(hasC h).drop (k+1):=by
 have hl:k<(hasC h).length:=by rw [hasC_len];exact hk
 rw [List.drop_eq_getElem_cons hl]
 have:=hasC_at h hk
 rw [List.getElem?_eq_getElem hl] at this
 rw [Option.some.inj this]
@[go_sem] theorem hasC_head(h:Nat→Bool){k:Nat}(hk:k<256):((hasC h).drop k).head? = some (.v (.bool (h k))):=by rw [hasC_drop h hk];rfl
@[go_sem] theorem hasC_set(h:Nat→Bool){k:Nat}(hk:k<256)(b:Bool):(hasC h).take k++[.v (.bool b)]++(hasC h).drop (k+1)=hasC (fun c=>if c=k then b else h c):=by
 apply List.ext_getElem?
 intro i
 by_cases hi:i<256
 ·rw [hasC_at _ hi]
  by_cases e1:i<k
  ·rw [List.append_assoc,List.getElem?_append_left (by simp [hasC_len];omega),List.getElem?_take,if_pos e1,hasC_at _ hi]
   rw [if_neg (by omega)]
  ·by_cases e2:i=k
   ·subst e2
    rw [List.append_assoc,List.getElem?_append_right (by simp [hasC_len];omega)]
    simp [hasC_len,Nat.min_eq_left (Nat.le_of_lt hi)]
   ·rw [List.getElem?_append_right (by simp [hasC_len];omega),List.getElem?_drop]
    simp only [List.length_append,List.length_take,hasC_len,List.length_cons,List.length_nil]
    rw [show k+1+(i - (min k 256+(0+1)))=i by omega,hasC_at _ hi,if_neg e2]
 ·rw [List.getElem?_eq_none (by simp [hasC_len];omega),List.getElem?_eq_none (by rw [hasC_len];omega)]
@[go_sem] theorem hasC_end(h:Nat→Bool):(hasC h).drop 256=[]:=List.drop_of_length_le (by rw [hasC_len];exact Nat.le_refl _)
@[go_sem] theorem hasC_take(h:Nat→Bool):(hasC h).take 256=hasC h:=List.take_of_length_le (by rw [hasC_len];exact Nat.le_refl _)
@[go_sem] theorem hasC_zero:arr0.map avz=hasC (fun _=>false):=by
 simp only [arr0,List.map_replicate,avz]
 apply List.ext_getElem?
 intro i
 by_cases hi:i<256
 ·rw [hasC_at _ hi,List.getElem?_replicate,if_pos hi]
 ·rw [List.getElem?_eq_none (by rw [List.length_replicate];omega),List.getElem?_eq_none (by rw [hasC_len];omega)]
theorem nownL_map{α:Type}{f:α→AV}(h:∀ x,(f x).nown=true):∀ l:List α,AV.nownL (l.map f)=true
 | []=>rfl
 | x::xs=>by simp only [List.map_cons,AV.nownL,h x,nownL_map h xs,Bool.and_self]
theorem frzL_mapI{α:Type}{f:α→AV}(h:∀ x,(f x).frz=f x):∀ l:List α,AV.frzL (l.map f)=l.map f
 | []=>rfl
 | x::xs=>by simp only [List.map_cons,AV.frzL,h x,frzL_mapI h xs]
theorem closedL_map{α:Type}{f:α→AV}(h:∀ x,(f x).closed=true):∀ l:List α,AV.closedL (l.map f)=true
 | []=>rfl
 | x::xs=>by simp only [List.map_cons,AV.closedL,h x,closedL_map h xs,Bool.and_self]
@[go_sem] theorem hasC_nown(h:Nat→Bool):AV.nownL (hasC h)=true:=nownL_map (fun _=>rfl) _
@[go_sem] theorem hasC_frz(h:Nat→Bool):AV.frzL (hasC h)=hasC h:=frzL_mapI (fun _=>rfl) _
@[go_sem] theorem hasC_one(h:Nat→Bool):(hasC h).all AV.one=true:=by
 simp only [hasC,List.all_map,List.all_eq_true];intro x _;rfl
theorem keysL_map{α:Type}{f:α→AV}(h:∀ x,(f x).keys=[]):∀ l:List α,AV.keysL (l.map f)=[]
 | []=>rfl
 | x::xs=>by simp only [List.map_cons,AV.keysL,h x,keysL_map h xs,List.append_nil]
@[go_sem] theorem hasC_keys(h:Nat→Bool):AV.keysL (hasC h)=[]:=keysL_map (fun _=>rfl) _
@[go_sem] theorem frz_pats(l:List GPat):AV.frzL (l.map encPat)=l.map encPat:=frzL_mapI (fun x=>by rw [encPat_eq];rfl) _
@[go_sem] theorem pats_elem(l:List GPat):(l.map encPat).all (AV.elem 3)=true:=map_all_elem (fun x=>by rw [encPat_eq];rfl) l
@[go_sem] theorem pats_one(l:List GPat):((l.map encPat).flatMap AV.cells).all AV.one=true:=map_all_one (fun x=>by rw [encPat_eq];rfl) l
end Go.Dt
