/-
  Part of a proof: Ms0, Ms1, La14.
-/
import Derived.Test.YtkdchlggdcmkbaaGreatG13
import Derived.Test.YtkdchlggdcmkbaaGreatG14
import Derived.Test.YtkdchlggdcmkbaaGreatG19
import Derived.Test.YtkdchlggdcmkbaaGreatG20
import Derived.Test.YtkdchlggdcmkbaaGreatG23
import Derived.Test.YtkdchlggdcmkbaaGreatG34
import Derived.Test.YtkdchlggdcmkbaaGreatG35
import Derived.Test.YtkdchlggdcmkbaaGreatG36
set_option linter.unusedSimpArgs false
set_option linter.unusedVariables false
namespace Go.Dt
open Go.Ab
def tpService (x : GService) (k : Int) : GService × Int := (⟨x.fName, x.fTemplate, (mkL stArg x.fArgs k).1, (mkL stString x.fTargets ((mkL stArg x.fArgs k).2)).1⟩, (mkL stString x.fTargets ((mkL stArg x.fArgs k).2)).2)
theorem tpService_ge (x : GService) (k : Int) : k ≤ (tpService x k).2 := by
  have g0 := mkL_up stArg_ge x.fArgs k
  have g1 := mkL_up stString_ge x.fTargets ((mkL stArg x.fArgs k).2)
  unfold tpService; simp only; omega
theorem tpService_cap (x : GService) (k r : Int) (h0 : 0 ≤ r) (h : 0 ≤ szService x r) : (tpService x k).2 ≤ k + 32 * (r - szService x r) := by
  simp only [tpService]
  unfold szService at h ⊢
  obtain ⟨a0, h⟩ := thn_get h
  rw [thn_posK a0]
  have q0 := szStr_le x.fName r h0
  obtain ⟨a1, h⟩ := thn_get h
  rw [thn_posK a1]
  have q1 := szStr_le x.fTemplate (szStr x.fName r) a0
  obtain ⟨a2, h⟩ := thn_get h
  rw [thn_posK a2]
  have q2 := mkL_cap szArg_le stArg_cap x.fArgs k (szStr x.fTemplate (szStr x.fName r)) a1 a2
  obtain ⟨a3, h⟩ := thn_get h
  rw [thn_posK a3]
  have q3 := mkL_cap szStr_le stString_cap x.fTargets ((mkL stArg x.fArgs k).2) (szSl szArg x.fArgs (szStr x.fTemplate (szStr x.fName r))) a2 a3
  simp only [id]
  omega
end Go.Dt
namespace Go.Proofs.YtkdchlggdcmkbaaGreat
open Go.Ab Go.Dt
set_option maxRecDepth 20000
set_option maxHeartbeats 4000000
instance markService_i (x : GService) (k : Int) : ICtr lim Tryz.prog 34 true [.str x.fName, .str x.fTemplate, .sl true 2 (x.fArgs.map (encArg true)), .sl true 1 (x.fTargets.map AV.str)] [.v (.int .i64 k)] (.v (.int .i64 (mkL stString x.fTargets ((mkL stArg x.fArgs k).2)).2)) [.str x.fName, .str x.fTemplate, .sl true 2 ((mkL stArg x.fArgs k).1.map (encArg true)), .sl true 1 ((mkL stString x.fTargets ((mkL stArg x.fArgs k).2)).1.map AV.str)] (0 ≤ k ∧ (mkL stString x.fTargets ((mkL stArg x.fArgs k).2)).2 ≤ 1099511627776) := by
  refine ⟨en34, fun hp => InC.of_body Tryz.func34 rfl rfl rfl (fun hs => rfl) (fun hs => rfl) (fun hs => rfl) rfl fun hs => ?_⟩
  rw [Tryz.ntmps34]
  have g0 := mkL_up stArg_ge x.fArgs k
  have g1 := mkL_up stString_ge x.fTargets ((mkL stArg x.fArgs k).2)
  (repeat' first | (with_reducible first | refine Z ?_ | refine xO ?_ | refine Y ?_ | (refine hK _ _ ?_; clear hK K) | refine And.intro ?_ ?_ | exact Ct | intro (K : _ → _ → Prop) hK | (refine gI fun hg => ?_; try simp only [hC, reduceCtorEq] at hg; try simp only [hg])) | (refine AW.i rfl (fun h => ?_) (fun h => ?_) <;> try simp only [hC, reduceCtorEq] at h) | simp (disch := omega) only [go_sem] | (with_reducible intro hg; try simp only [hC, reduceCtorEq] at hg) | exact Cl | fail)
  refine AW.ret (EndsG.inp hg rfl ?_)
  simp (maxSteps := 2000000) (disch := omega) only [go_sem]
end Go.Proofs.YtkdchlggdcmkbaaGreat
namespace Go.Proofs.YtkdchlggdcmkbaaGreat
open Go.Ab Go.Dt
set_option maxRecDepth 20000
set_option maxHeartbeats 4000000
attribute [go_sem] encTemplateM_frz encServiceM_frz encArgM_frz
@[go_sem] def cF (x : GPlan) (y : GService) : List AV := [.sl false 3 ((addP isPat x y).fTemplates.map (encTemplate false)), .sl false 4 ((addP isPat x y).fServices.map (encService false))]
@[go_sem] def bsI (x0 : GPlan) (x1 : GService) (l : List (Nat × AV)) : List (Nat × AV) := (2, .vp [.sl false 3 (x0.fTemplates.map (encTemplate false)), .sl false 4 (x0.fServices.map (encService false))]) :: (3, .vp [.str x1.fName, .str x1.fTemplate, .sl false 2 (x1.fArgs.map (encArg false)), .sl false 1 (x1.fTargets.map AV.str)]) :: (4, .v (.bool false)) :: l
@[go_sem] def pF (x : GPlan) : AV := .agg [.sl false 3 (x.fTemplates.map (encTemplate false)), .sl false 4 (x.fServices.map (encService false))]
@[go_sem] def sF (x : GService) : AV := .agg [.str x.fName, .str x.fTemplate, .sl false 2 (x.fArgs.map (encArg false)), .sl false 1 (x.fTargets.map AV.str)]
@[go_sem] def tF (x : GPlan) (y : GService) : AV := .tup [.agg (cF x y), .v (.bool (addB isPat x y))]
def AdI (x0 : GPlan) (x1 : GService) (f : Nat) (l : Array Bool) (s : AS) : Prop :=
  (f = 11 ∧ l = #[false, false, false, false, false, false, false, false, false, false, false] ∧ s = ⟨119, (bsI x0 x1 []), []⟩) ∨
  (f = 10 ∧ l = #[true, false, false, false, false, false, false, false, false, false, false] ∧ s = ⟨119, (bsI x0 x1 [(28, pF x0)]), []⟩) ∨
  (f = 10 ∧ l = #[false, false, true, false, false, false, false, false, false, false, false] ∧ s = ⟨119, (bsI x0 x1 [(30, sF x1)]), []⟩) ∨
  (f = 10 ∧ l = #[false, false, false, false, false, false, false, false, true, false, false] ∧ ∃ b, s = ⟨119, (bsI x0 x1 [(6, .ptr b 0)]), [(b, some [.v (.slice none 0 0), .v (.slice none 0 0)])]⟩) ∨
  (f = 9 ∧ l = #[true, true, false, false, false, false, false, false, false, false, false] ∧ s = ⟨119, (bsI x0 x1 [(28, pF x0), (29, pF x0)]), []⟩) ∨
  (f = 9 ∧ l = #[true, false, true, false, false, false, false, false, false, false, false] ∧ s = ⟨119, (bsI x0 x1 [(28, pF x0), (30, sF x1)]), []⟩) ∨
  (f = 9 ∧ l = #[true, false, false, false, false, false, false, false, true, false, false] ∧ ∃ b, s = ⟨119, (bsI x0 x1 [(28, pF x0), (6, .ptr b 0)]), [(b, some [.v (.slice none 0 0), .v (.slice none 0 0)])]⟩) ∨
  (f = 9 ∧ l = #[false, false, true, false, false, false, false, false, true, false, false] ∧ ∃ b, s = ⟨119, (bsI x0 x1 [(30, sF x1), (6, .ptr b 0)]), [(b, some [.v (.slice none 0 0), .v (.slice none 0 0)])]⟩) ∨
  (f = 8 ∧ l = #[true, true, true, false, false, false, false, false, false, false, false] ∧ s = ⟨119, (bsI x0 x1 [(28, pF x0), (29, pF x0), (30, sF x1)]), []⟩) ∨
  (f = 8 ∧ l = #[true, true, false, false, false, false, false, false, true, false, false] ∧ ∃ b, s = ⟨119, (bsI x0 x1 [(28, pF x0), (29, pF x0), (6, .ptr b 0)]), [(b, some [.v (.slice none 0 0), .v (.slice none 0 0)])]⟩) ∨
  (f = 8 ∧ l = #[true, false, true, false, false, false, false, false, true, false, false] ∧ ∃ b, s = ⟨119, (bsI x0 x1 [(28, pF x0), (30, sF x1), (6, .ptr b 0)]), [(b, some [.v (.slice none 0 0), .v (.slice none 0 0)])]⟩) ∨
  (f = 7 ∧ l = #[true, true, true, true, false, false, false, false, false, false, false] ∧ s = ⟨119, (bsI x0 x1 [(28, pF x0), (29, pF x0), (30, sF x1), (31, sF x1)]), []⟩) ∨
  (f = 7 ∧ l = #[true, true, true, false, false, false, false, false, true, false, false] ∧ ∃ b, s = ⟨119, (bsI x0 x1 [(28, pF x0), (29, pF x0), (30, sF x1), (6, .ptr b 0)]), [(b, some [.v (.slice none 0 0), .v (.slice none 0 0)])]⟩) ∨
  (f = 6 ∧ l = #[true, true, true, true, true, false, false, false, false, false, false] ∧ s = ⟨119, (bsI x0 x1 [(28, pF x0), (29, pF x0), (30, sF x1), (31, sF x1), (32, tF x0 x1)]), []⟩) ∨
  (f = 6 ∧ l = #[true, true, true, true, false, false, false, false, true, false, false] ∧ ∃ b, s = ⟨119, (bsI x0 x1 [(28, pF x0), (29, pF x0), (30, sF x1), (31, sF x1), (6, .ptr b 0)]), [(b, some [.v (.slice none 0 0), .v (.slice none 0 0)])]⟩) ∨
  (f = 5 ∧ l = #[true, true, true, true, true, true, false, false, false, false, false] ∧ s = ⟨119, (bsI x0 x1 [(28, pF x0), (29, pF x0), (30, sF x1), (31, sF x1), (32, tF x0 x1), (27, tF x0 x1)]), []⟩) ∨
  (f = 5 ∧ l = #[true, true, true, true, true, false, false, false, true, false, false] ∧ ∃ b, s = ⟨119, (bsI x0 x1 [(28, pF x0), (29, pF x0), (30, sF x1), (31, sF x1), (32, tF x0 x1), (6, .ptr b 0)]), [(b, some [.v (.slice none 0 0), .v (.slice none 0 0)])]⟩) ∨
  (f = 4 ∧ l = #[true, true, true, true, true, true, true, false, false, false, false] ∧ s = ⟨119, (bsI x0 x1 [(28, pF x0), (29, pF x0), (30, sF x1), (31, sF x1), (32, tF x0 x1), (27, tF x0 x1), (33, .agg (cF x0 x1))]), []⟩) ∨
  (f = 4 ∧ l = #[true, true, true, true, true, true, false, true, false, false, false] ∧ s = ⟨119, (bsI x0 x1 [(28, pF x0), (29, pF x0), (30, sF x1), (31, sF x1), (32, tF x0 x1), (27, tF x0 x1), (34, .v (.bool (addB isPat x0 x1)))]), []⟩) ∨
  (f = 4 ∧ l = #[true, true, true, true, true, true, false, false, true, false, false] ∧ ∃ b, s = ⟨119, (bsI x0 x1 [(28, pF x0), (29, pF x0), (30, sF x1), (31, sF x1), (32, tF x0 x1), (27, tF x0 x1), (6, .ptr b 0)]), [(b, some [.v (.slice none 0 0), .v (.slice none 0 0)])]⟩) ∨
  (f = 3 ∧ l = #[true, true, true, true, true, true, true, true, false, false, false] ∧ s = ⟨119, (bsI x0 x1 [(28, pF x0), (29, pF x0), (30, sF x1), (31, sF x1), (32, tF x0 x1), (27, tF x0 x1), (33, .agg (cF x0 x1)), (34, .v (.bool (addB isPat x0 x1)))]), []⟩) ∨
  (f = 3 ∧ l = #[true, true, true, true, true, true, true, false, true, false, false] ∧ ∃ b, s = ⟨119, (bsI x0 x1 [(28, pF x0), (29, pF x0), (30, sF x1), (31, sF x1), (32, tF x0 x1), (27, tF x0 x1), (33, .agg (cF x0 x1)), (6, .ptr b 0)]), [(b, some [.v (.slice none 0 0), .v (.slice none 0 0)])]⟩) ∨
  (f = 3 ∧ l = #[true, true, true, true, true, true, false, true, true, false, false] ∧ ∃ b, s = ⟨119, (bsI x0 x1 [(28, pF x0), (29, pF x0), (30, sF x1), (31, sF x1), (32, tF x0 x1), (27, tF x0 x1), (34, .v (.bool (addB isPat x0 x1))), (6, .ptr b 0)]), [(b, some [.v (.slice none 0 0), .v (.slice none 0 0)])]⟩) ∨
  (f = 2 ∧ l = #[true, true, true, true, true, true, true, true, true, false, false] ∧ ∃ b, s = ⟨119, (bsI x0 x1 [(28, pF x0), (29, pF x0), (30, sF x1), (31, sF x1), (32, tF x0 x1), (27, tF x0 x1), (33, .agg (cF x0 x1)), (34, .v (.bool (addB isPat x0 x1))), (6, .ptr b 0)]), [(b, some [.v (.slice none 0 0), .v (.slice none 0 0)])]⟩) ∨
  (f = 2 ∧ l = #[true, true, true, true, true, true, true, false, true, true, false] ∧ ∃ b, s = ⟨119, (bsI x0 x1 [(28, pF x0), (29, pF x0), (30, sF x1), (31, sF x1), (32, tF x0 x1), (27, tF x0 x1), (33, .agg (cF x0 x1)), (6, .ptr b 0)]), [(b, some (cF x0 x1))]⟩) ∨
  (f = 1 ∧ l = #[true, true, true, true, true, true, true, true, true, true, false] ∧ ∃ b, s = ⟨119, (bsI x0 x1 [(28, pF x0), (29, pF x0), (30, sF x1), (31, sF x1), (32, tF x0 x1), (27, tF x0 x1), (33, .agg (cF x0 x1)), (34, .v (.bool (addB isPat x0 x1))), (6, .ptr b 0)]), [(b, some (cF x0 x1))]⟩) ∨
  (f = 0 ∧ l = #[true, true, true, true, true, true, true, true, true, true, true] ∧ ∃ b, s = ⟨119, (bsI x0 x1 [(28, pF x0), (29, pF x0), (30, sF x1), (31, sF x1), (32, tF x0 x1), (27, tF x0 x1), (33, .agg (cF x0 x1)), (34, .v (.bool (addB isPat x0 x1))), (6, .ptr b 0), (7, .v (.bool (addB isPat x0 x1)))]), [(b, some (cF x0 x1))]⟩)
@[go_sem] def bsJ (x0 : GPlan) (x1 : GService) (b c : Nat) (l : List (Nat × AV)) : List (Nat × AV) := bsI x0 x1 ((6, .ptr b 0) :: (7, .v (.bool (addB isPat x0 x1))) :: (10, .ptr c 0) :: (13, .v (.int .i64 (mkL stService (addP isPat x0 x1).fServices (mkL stTemplate (addP isPat x0 x1).fTemplates 1).2).2)) :: l)
@[go_sem] def obJ (x0 : GPlan) (x1 : GService) (b c : Nat) (hs : Nat → Value) : Sto := [(b, some (cF x0 x1)), (c, some [.pin (hs 0) (.sl true 3 ((mkL stTemplate (addP isPat x0 x1).fTemplates 1).1.map (encTemplate true))), .pin (hs 1) (.sl true 4 ((mkL stService (addP isPat x0 x1).fServices (mkL stTemplate (addP isPat x0 x1).fTemplates 1).2).1.map (encService true)))])]
def AdJ (x0 : GPlan) (x1 : GService) (b c : Nat) (hs : Nat → Value) (f : Nat) (l : Array Bool) (s : AS) : Prop :=
  (f = 11 ∧ l = #[false, false, false, false, false, false, false, false, false, false, false] ∧ s = ⟨119, (bsJ x0 x1 b c []), (obJ x0 x1 b c hs)⟩) ∨
  (f = 10 ∧ l = #[true, false, false, false, false, false, false, false, false, false, false] ∧ s = ⟨119, (bsJ x0 x1 b c [(95, pF x0)]), (obJ x0 x1 b c hs)⟩) ∨
  (f = 10 ∧ l = #[false, false, true, false, false, false, false, false, false, false, false] ∧ s = ⟨119, (bsJ x0 x1 b c [(97, sF x1)]), (obJ x0 x1 b c hs)⟩) ∨
  (f = 10 ∧ l = #[false, false, false, false, false, false, false, false, true, false, false] ∧ ∃ d, (¬ b = d ∧ ¬ c = d) ∧ s = ⟨119, (bsJ x0 x1 b c [(15, .ptr d 0)]), ((d, some [.v (.slice none 0 0), .v (.slice none 0 0)]) :: obJ x0 x1 b c hs)⟩) ∨
  (f = 9 ∧ l = #[true, true, false, false, false, false, false, false, false, false, false] ∧ s = ⟨119, (bsJ x0 x1 b c [(95, pF x0), (96, pF x0)]), (obJ x0 x1 b c hs)⟩) ∨
  (f = 9 ∧ l = #[true, false, true, false, false, false, false, false, false, false, false] ∧ s = ⟨119, (bsJ x0 x1 b c [(95, pF x0), (97, sF x1)]), (obJ x0 x1 b c hs)⟩) ∨
  (f = 9 ∧ l = #[true, false, false, false, false, false, false, false, true, false, false] ∧ ∃ d, (¬ b = d ∧ ¬ c = d) ∧ s = ⟨119, (bsJ x0 x1 b c [(95, pF x0), (15, .ptr d 0)]), ((d, some [.v (.slice none 0 0), .v (.slice none 0 0)]) :: obJ x0 x1 b c hs)⟩) ∨
  (f = 9 ∧ l = #[false, false, true, false, false, false, false, false, true, false, false] ∧ ∃ d, (¬ b = d ∧ ¬ c = d) ∧ s = ⟨119, (bsJ x0 x1 b c [(97, sF x1), (15, .ptr d 0)]), ((d, some [.v (.slice none 0 0), .v (.slice none 0 0)]) :: obJ x0 x1 b c hs)⟩) ∨
  (f = 8 ∧ l = #[true, true, true, false, false, false, false, false, false, false, false] ∧ s = ⟨119, (bsJ x0 x1 b c [(95, pF x0), (96, pF x0), (97, sF x1)]), (obJ x0 x1 b c hs)⟩) ∨
  (f = 8 ∧ l = #[true, true, false, false, false, false, false, false, true, false, false] ∧ ∃ d, (¬ b = d ∧ ¬ c = d) ∧ s = ⟨119, (bsJ x0 x1 b c [(95, pF x0), (96, pF x0), (15, .ptr d 0)]), ((d, some [.v (.slice none 0 0), .v (.slice none 0 0)]) :: obJ x0 x1 b c hs)⟩) ∨
  (f = 8 ∧ l = #[true, false, true, false, false, false, false, false, true, false, false] ∧ ∃ d, (¬ b = d ∧ ¬ c = d) ∧ s = ⟨119, (bsJ x0 x1 b c [(95, pF x0), (97, sF x1), (15, .ptr d 0)]), ((d, some [.v (.slice none 0 0), .v (.slice none 0 0)]) :: obJ x0 x1 b c hs)⟩) ∨
  (f = 7 ∧ l = #[true, true, true, true, false, false, false, false, false, false, false] ∧ s = ⟨119, (bsJ x0 x1 b c [(95, pF x0), (96, pF x0), (97, sF x1), (98, sF x1)]), (obJ x0 x1 b c hs)⟩) ∨
  (f = 7 ∧ l = #[true, true, true, false, false, false, false, false, true, false, false] ∧ ∃ d, (¬ b = d ∧ ¬ c = d) ∧ s = ⟨119, (bsJ x0 x1 b c [(95, pF x0), (96, pF x0), (97, sF x1), (15, .ptr d 0)]), ((d, some [.v (.slice none 0 0), .v (.slice none 0 0)]) :: obJ x0 x1 b c hs)⟩) ∨
  (f = 6 ∧ l = #[true, true, true, true, true, false, false, false, false, false, false] ∧ s = ⟨119, (bsJ x0 x1 b c [(95, pF x0), (96, pF x0), (97, sF x1), (98, sF x1), (99, tF x0 x1)]), (obJ x0 x1 b c hs)⟩) ∨
  (f = 6 ∧ l = #[true, true, true, true, false, false, false, false, true, false, false] ∧ ∃ d, (¬ b = d ∧ ¬ c = d) ∧ s = ⟨119, (bsJ x0 x1 b c [(95, pF x0), (96, pF x0), (97, sF x1), (98, sF x1), (15, .ptr d 0)]), ((d, some [.v (.slice none 0 0), .v (.slice none 0 0)]) :: obJ x0 x1 b c hs)⟩) ∨
  (f = 5 ∧ l = #[true, true, true, true, true, true, false, false, false, false, false] ∧ s = ⟨119, (bsJ x0 x1 b c [(95, pF x0), (96, pF x0), (97, sF x1), (98, sF x1), (99, tF x0 x1), (94, tF x0 x1)]), (obJ x0 x1 b c hs)⟩) ∨
  (f = 5 ∧ l = #[true, true, true, true, true, false, false, false, true, false, false] ∧ ∃ d, (¬ b = d ∧ ¬ c = d) ∧ s = ⟨119, (bsJ x0 x1 b c [(95, pF x0), (96, pF x0), (97, sF x1), (98, sF x1), (99, tF x0 x1), (15, .ptr d 0)]), ((d, some [.v (.slice none 0 0), .v (.slice none 0 0)]) :: obJ x0 x1 b c hs)⟩) ∨
  (f = 4 ∧ l = #[true, true, true, true, true, true, true, false, false, false, false] ∧ s = ⟨119, (bsJ x0 x1 b c [(95, pF x0), (96, pF x0), (97, sF x1), (98, sF x1), (99, tF x0 x1), (94, tF x0 x1), (100, .agg (cF x0 x1))]), (obJ x0 x1 b c hs)⟩) ∨
  (f = 4 ∧ l = #[true, true, true, true, true, true, false, true, false, false, false] ∧ s = ⟨119, (bsJ x0 x1 b c [(95, pF x0), (96, pF x0), (97, sF x1), (98, sF x1), (99, tF x0 x1), (94, tF x0 x1), (101, .v (.bool (addB isPat x0 x1)))]), (obJ x0 x1 b c hs)⟩) ∨
  (f = 4 ∧ l = #[true, true, true, true, true, true, false, false, true, false, false] ∧ ∃ d, (¬ b = d ∧ ¬ c = d) ∧ s = ⟨119, (bsJ x0 x1 b c [(95, pF x0), (96, pF x0), (97, sF x1), (98, sF x1), (99, tF x0 x1), (94, tF x0 x1), (15, .ptr d 0)]), ((d, some [.v (.slice none 0 0), .v (.slice none 0 0)]) :: obJ x0 x1 b c hs)⟩) ∨
  (f = 3 ∧ l = #[true, true, true, true, true, true, true, true, false, false, false] ∧ s = ⟨119, (bsJ x0 x1 b c [(95, pF x0), (96, pF x0), (97, sF x1), (98, sF x1), (99, tF x0 x1), (94, tF x0 x1), (100, .agg (cF x0 x1)), (101, .v (.bool (addB isPat x0 x1)))]), (obJ x0 x1 b c hs)⟩) ∨
  (f = 3 ∧ l = #[true, true, true, true, true, true, true, false, true, false, false] ∧ ∃ d, (¬ b = d ∧ ¬ c = d) ∧ s = ⟨119, (bsJ x0 x1 b c [(95, pF x0), (96, pF x0), (97, sF x1), (98, sF x1), (99, tF x0 x1), (94, tF x0 x1), (100, .agg (cF x0 x1)), (15, .ptr d 0)]), ((d, some [.v (.slice none 0 0), .v (.slice none 0 0)]) :: obJ x0 x1 b c hs)⟩) ∨
  (f = 3 ∧ l = #[true, true, true, true, true, true, false, true, true, false, false] ∧ ∃ d, (¬ b = d ∧ ¬ c = d) ∧ s = ⟨119, (bsJ x0 x1 b c [(95, pF x0), (96, pF x0), (97, sF x1), (98, sF x1), (99, tF x0 x1), (94, tF x0 x1), (101, .v (.bool (addB isPat x0 x1))), (15, .ptr d 0)]), ((d, some [.v (.slice none 0 0), .v (.slice none 0 0)]) :: obJ x0 x1 b c hs)⟩) ∨
  (f = 2 ∧ l = #[true, true, true, true, true, true, true, true, true, false, false] ∧ ∃ d, (¬ b = d ∧ ¬ c = d) ∧ s = ⟨119, (bsJ x0 x1 b c [(95, pF x0), (96, pF x0), (97, sF x1), (98, sF x1), (99, tF x0 x1), (94, tF x0 x1), (100, .agg (cF x0 x1)), (101, .v (.bool (addB isPat x0 x1))), (15, .ptr d 0)]), ((d, some [.v (.slice none 0 0), .v (.slice none 0 0)]) :: obJ x0 x1 b c hs)⟩) ∨
  (f = 2 ∧ l = #[true, true, true, true, true, true, true, false, true, true, false] ∧ ∃ d, (¬ b = d ∧ ¬ c = d) ∧ s = ⟨119, (bsJ x0 x1 b c [(95, pF x0), (96, pF x0), (97, sF x1), (98, sF x1), (99, tF x0 x1), (94, tF x0 x1), (100, .agg (cF x0 x1)), (15, .ptr d 0)]), ((d, some (cF x0 x1)) :: obJ x0 x1 b c hs)⟩) ∨
  (f = 1 ∧ l = #[true, true, true, true, true, true, true, true, true, true, false] ∧ ∃ d, (¬ b = d ∧ ¬ c = d) ∧ s = ⟨119, (bsJ x0 x1 b c [(95, pF x0), (96, pF x0), (97, sF x1), (98, sF x1), (99, tF x0 x1), (94, tF x0 x1), (100, .agg (cF x0 x1)), (101, .v (.bool (addB isPat x0 x1))), (15, .ptr d 0)]), ((d, some (cF x0 x1)) :: obJ x0 x1 b c hs)⟩) ∨
  (f = 0 ∧ l = #[true, true, true, true, true, true, true, true, true, true, true] ∧ ∃ d, (¬ b = d ∧ ¬ c = d) ∧ s = ⟨119, (bsJ x0 x1 b c [(95, pF x0), (96, pF x0), (97, sF x1), (98, sF x1), (99, tF x0 x1), (94, tF x0 x1), (100, .agg (cF x0 x1)), (101, .v (.bool (addB isPat x0 x1))), (15, .ptr d 0), (16, .v (.bool (addB isPat x0 x1)))]), ((d, some (cF x0 x1)) :: obJ x0 x1 b c hs)⟩)
theorem svcStr_frz (l : List Str) : AV.frzL (l.map AV.str) = l.map AV.str := frzL_map _ _ (fun _ => rfl) l
theorem lawAddService_A0 (x0 : Dt.GPlan) (x1 : Dt.GService) (h0 : szPlan x0 1048576 < 0) : Ctr rawL Tryz.prog 6 [] [.agg [.sl false 3 (x0.fTemplates.map (encTemplate false)), .sl false 4 (x0.fServices.map (encService false))], .agg [.str x1.fName, .str x1.fTemplate, .sl false 2 (x1.fArgs.map (encArg false)), .sl false 1 (x1.fTargets.map AV.str)]] (.v (.bool true)) [] True := by
  refine Ctr.of_body en6 Tryz.func6 rfl rfl fun hp => (?_); rw [Tryz.ntmps6]
  all_goals exact uU
theorem lawAddService_A1 (x0 : Dt.GPlan) (x1 : Dt.GService) (h0 : ¬ szPlan x0 1048576 < 0) (h1 : szService x1 (szPlan x0 1048576) < 0) : Ctr rawL Tryz.prog 6 [] [.agg [.sl false 3 (x0.fTemplates.map (encTemplate false)), .sl false 4 (x0.fServices.map (encService false))], .agg [.str x1.fName, .str x1.fTemplate, .sl false 2 (x1.fArgs.map (encArg false)), .sl false 1 (x1.fTargets.map AV.str)]] (.v (.bool true)) [] True := by
  have le0 := szPlan_le x0 1048576 (by omega)
  refine Ctr.of_body en6 Tryz.func6 rfl rfl fun hp => (?_); rw [Tryz.ntmps6]
  all_goals exact uU
theorem lawAddService_B (x0 : Dt.GPlan) (x1 : Dt.GService) (h0 : ¬ szPlan x0 1048576 < 0) (h1 : ¬ szService x1 (szPlan x0 1048576) < 0) : Ctr lim Tryz.prog 6 [] [.agg [.sl false 3 (x0.fTemplates.map (encTemplate false)), .sl false 4 (x0.fServices.map (encService false))], .agg [.str x1.fName, .str x1.fTemplate, .sl false 2 (x1.fArgs.map (encArg false)), .sl false 1 (x1.fTargets.map AV.str)]] (.v (.bool true)) [] True := by
  have le0 := szPlan_le x0 1048576 (by omega)
  have le1 := szService_le x1 (szPlan x0 1048576) (by omega)
  have c0 := tpPlan_cap x0 1 1048576 (by omega) (by omega)
  have d0 := tpPlan_ge x0 1
  simp only [tpPlan] at c0 d0
  have c1 := tpService_cap x1 ((mkL stService x0.fServices ((mkL stTemplate x0.fTemplates 1).2)).2) (szPlan x0 1048576) (by omega) (by omega)
  have d1 := tpService_ge x1 ((mkL stService x0.fServices ((mkL stTemplate x0.fTemplates 1).2)).2)
  simp only [tpService] at c1 d1
  have hft := fitPl h0
  have hsl := plan_len h0
  have cr := add_cap (ip := isPat) (x := x0) (y := x1) (r := 1048576) (r' := szPlan x0 1048576) (k := 1) (by omega) (by omega) (by omega) (by omega)
  have g0 := mkL_up stTemplate_ge (addP isPat x0 x1).fTemplates 1
  have dr := mkL_up stService_ge (addP isPat x0 x1).fServices (mkL stTemplate (addP isPat x0 x1).fTemplates 1).2
  have hneg2 : decide ((mkL stService (addP isPat x0 x1).fServices ((mkL stTemplate (addP isPat x0 x1).fTemplates 1).2)).2 < 0) = false := decide_eq_false (by omega)
  have hneg : decide ((mkL stString x1.fTargets ((mkL stArg x1.fArgs ((mkL stService x0.fServices ((mkL stTemplate x0.fTemplates 1).2)).2)).2)).2 < 0) = false := decide_eq_false (by omega)
  refine Ctr.of_body en6 Tryz.func6 rfl rfl fun hp => (?_); rw [Tryz.ntmps6]
  (repeat' first | (with_reducible first | refine Z ?_ | refine Y ?_ | (refine hK _ _ ?_; clear hK K) | refine And.intro ?_ ?_ | exact Ct | intro (K : _ → _ → Prop) hK | (refine gI fun hg => ?_; try simp only [hC, reduceCtorEq] at hg; try simp only [hg])) | ((with_reducible refine E ?_; repeat refine Y ?_); refine eF rfl ?_) | simp (maxSteps := 2000000) (disch := omega) only [go_sem] | (with_reducible intro hg; try simp only [hC, reduceCtorEq] at hg) | exact Cl | fail)
  (refine AW.i rfl (fun h => ?_) (fun h => ?_) <;> try simp only [hC, reduceCtorEq] at h)
  · omega
  (repeat' first | (with_reducible first | refine Z ?_ | refine Y ?_ | (refine hK _ _ ?_; clear hK K) | refine And.intro ?_ ?_ | exact Ct | intro (K : _ → _ → Prop) hK | (refine gI fun hg => ?_; try simp only [hC, reduceCtorEq] at hg; try simp only [hg])) | ((with_reducible refine E ?_; repeat refine Y ?_); refine eF rfl ?_) | simp (maxSteps := 2000000) (disch := omega) only [go_sem] | (with_reducible intro hg; try simp only [hC, reduceCtorEq] at hg) | exact Cl | fail)
  (refine AW.i rfl (fun h => ?_) (fun h => ?_) <;> try simp only [hC, reduceCtorEq] at h)
  · omega
  (repeat' first | (with_reducible first | refine Y ?_ | (refine hK _ _ ?_; clear hK K) | refine And.intro ?_ ?_ | exact Ct | intro (K : _ → _ → Prop) hK | (refine gI fun hg => ?_; try simp only [hC, reduceCtorEq] at hg; try simp only [hg])) | ((with_reducible refine E ?_; repeat refine Y ?_); refine eF rfl ?_) | simp (maxSteps := 2000000) (disch := omega) only [go_sem] | (with_reducible intro hg; try simp only [hC, reduceCtorEq] at hg) | exact Cl | fail)
  refine AW.anyI (AdI x0 x1) [2, 3, 4] [] trivial (by kernel_rfl) ?_ ?_ ?_
  · simp (maxSteps := 2000000) (disch := omega) only [go_sem]
    unfold AdI
    exact .inl ⟨rfl, by kernel_rfl, rfl⟩
  · intro l s h
    unfold AdI at h
    rcases h with ⟨hf, rfl, rfl⟩ | ⟨hf, rfl, rfl⟩ | ⟨hf, rfl, rfl⟩ | ⟨hf, rfl, b, rfl⟩ | ⟨hf, rfl, rfl⟩ | ⟨hf, rfl, rfl⟩ | ⟨hf, rfl, b, rfl⟩ | ⟨hf, rfl, b, rfl⟩ | ⟨hf, rfl, rfl⟩ | ⟨hf, rfl, b, rfl⟩ | ⟨hf, rfl, b, rfl⟩ | ⟨hf, rfl, rfl⟩ | ⟨hf, rfl, b, rfl⟩ | ⟨hf, rfl, rfl⟩ | ⟨hf, rfl, b, rfl⟩ | ⟨hf, rfl, rfl⟩ | ⟨hf, rfl, b, rfl⟩ | ⟨hf, rfl, rfl⟩ | ⟨hf, rfl, rfl⟩ | ⟨hf, rfl, b, rfl⟩ | ⟨hf, rfl, rfl⟩ | ⟨hf, rfl, b, rfl⟩ | ⟨hf, rfl, b, rfl⟩ | ⟨hf, rfl, b, rfl⟩ | ⟨hf, rfl, b, rfl⟩ | ⟨hf, rfl, b, rfl⟩ | ⟨hf, rfl, b, rfl⟩ <;> first | (exfalso; revert hf; decide) | skip
    refine ⟨by kernel_rfl, ?_⟩
    haveI stop : ∀ (ops : Array Oper) (c : Code) (t : List (Nat × AV)) (o : Sto) (Q : Exit → AS → Prop), Rz (AW lim Tryz.prog (.seq (.region 31 ops true) c) ⟨119, t, o⟩ Q) (MV 0 (p := ⟨AW lim Tryz.prog (.seq (.region 31 ops true) c) ⟨119, t, o⟩ Q⟩)) := fun _ _ _ _ _ => ⟨fun h => h⟩
    (repeat' first | (with_reducible first | (refine X fun hs => ?_) | refine Z ?_ | refine Y ?_ | (refine hK _ _ ?_; clear hK K) | refine And.intro ?_ ?_ | exact Ct | intro (K : _ → _ → Prop) hK | (refine gI fun hg => ?_; try simp only [hC, reduceCtorEq] at hg; try simp only [hg])) | (refine AW.i rfl (fun h => ?_) (fun h => ?_) <;> try simp only [hC, reduceCtorEq] at h) | ((with_reducible refine E ?_; repeat refine Y ?_); refine eF rfl ?_) | simp (maxSteps := 2000000) (disch := omega) only [go_sem, hneg, hneg2] | (with_reducible intro hg; try simp only [hC, reduceCtorEq] at hg) | exact Cl | fail)
    refine uV 0 ?_
    refine AW.seq ?_
    clear stop
    rename_i c0 e0 hs0 c1 e1 hs1 c2 q0 q1 q2 q3 q4
    have hb2 : ¬ b = c2 := hg.2.2
    clear q0 q1 q2 q3 q4
    refine AW.anyI (AdJ x0 x1 b c2 hs) [2, 3, 4, 6, 7, 10, 13] [(b, some (cF x0 x1)), (c2, some [.pin (hs 0) (.sl true 3 ((mkL stTemplate (addP isPat x0 x1).fTemplates 1).1.map (encTemplate true))), .pin (hs 1) (.sl true 4 ((mkL stService (addP isPat x0 x1).fServices (mkL stTemplate (addP isPat x0 x1).fTemplates 1).2).1.map (encService true)))])] gO (by kernel_rfl) ?_ ?_ ?_
    · simp (maxSteps := 2000000) (disch := omega) only [go_sem]
      unfold AdJ
      exact .inl ⟨rfl, by kernel_rfl, rfl⟩
    · intro l s h
      unfold AdJ at h
      rcases h with ⟨hf, rfl, rfl⟩ | ⟨hf, rfl, rfl⟩ | ⟨hf, rfl, rfl⟩ | ⟨hf, rfl, d, hd, rfl⟩ | ⟨hf, rfl, rfl⟩ | ⟨hf, rfl, rfl⟩ | ⟨hf, rfl, d, hd, rfl⟩ | ⟨hf, rfl, d, hd, rfl⟩ | ⟨hf, rfl, rfl⟩ | ⟨hf, rfl, d, hd, rfl⟩ | ⟨hf, rfl, d, hd, rfl⟩ | ⟨hf, rfl, rfl⟩ | ⟨hf, rfl, d, hd, rfl⟩ | ⟨hf, rfl, rfl⟩ | ⟨hf, rfl, d, hd, rfl⟩ | ⟨hf, rfl, rfl⟩ | ⟨hf, rfl, d, hd, rfl⟩ | ⟨hf, rfl, rfl⟩ | ⟨hf, rfl, rfl⟩ | ⟨hf, rfl, d, hd, rfl⟩ | ⟨hf, rfl, rfl⟩ | ⟨hf, rfl, d, hd, rfl⟩ | ⟨hf, rfl, d, hd, rfl⟩ | ⟨hf, rfl, d, hd, rfl⟩ | ⟨hf, rfl, d, hd, rfl⟩ | ⟨hf, rfl, d, hd, rfl⟩ | ⟨hf, rfl, d, hd, rfl⟩ <;> first | (exfalso; revert hf; decide) | skip
      refine ⟨by kernel_rfl, ?_⟩
      have hg := hd
      (repeat' first | (with_reducible first | (refine X fun hs => ?_) | refine Z ?_ | refine Y ?_ | (refine hK _ _ ?_; clear hK K) | refine And.intro ?_ ?_ | exact Ct | intro (K : _ → _ → Prop) hK | (refine gI fun hg => ?_; try simp only [hC, reduceCtorEq] at hg; try simp only [hg])) | (refine AW.i rfl (fun h => ?_) (fun h => ?_) <;> try simp only [hC, reduceCtorEq] at h) | ((with_reducible refine E ?_; repeat refine Y ?_); refine eF rfl ?_) | simp (maxSteps := 2000000) (disch := omega) only [go_sem, hneg, hneg2] | (with_reducible intro hg; try simp only [hC, reduceCtorEq] at hg) | exact Cl | fail)
    haveI i1 : Ctr lim Tryz.prog 9 [] [.agg [.sl false 3 (x0.fTemplates.map (encTemplate false)), .sl false 4 (x0.fServices.map (encService false))]] (.agg [.sl false 3 (x0.fTemplates.map (encTemplate false)), .sl false 4 (x0.fServices.map (encService false))]) [] True := by
      have := (toPlan_i x0).frz
      simpa only [AV.frz, AV.frzL, cond_true, encTemplateM_frz, encServiceM_frz] using this
    haveI i2 : Ctr lim Tryz.prog 30 [] [.agg [.str x1.fName, .str x1.fTemplate, .sl false 2 (x1.fArgs.map (encArg false)), .sl false 1 (x1.fTargets.map AV.str)]] (.agg [.str x1.fName, .str x1.fTemplate, .sl false 2 (x1.fArgs.map (encArg false)), .sl false 1 (x1.fTargets.map AV.str)]) [] True := by
      have := (toService_i x1).frz
      simpa only [AV.frz, AV.frzL, cond_true, encArgM_frz, svcStr_frz] using this
    haveI i3 : Ctr lim Tryz.prog 31 [] [.agg [.sl false 3 (x0.fTemplates.map (encTemplate false)), .sl false 4 (x0.fServices.map (encService false))], .agg [.str x1.fName, .str x1.fTemplate, .sl false 2 (x1.fArgs.map (encArg false)), .sl false 1 (x1.fTargets.map AV.str)]] (.tup [.agg (cF x0 x1), .v (.bool (addB isPat x0 x1))]) [] (tmsOk x0.fTemplates ∧ x0.fServices.length ≤ 1048576) := by
      have := (iAddService_i x0 x1).frz
      simpa only [cF, AV.frz, AV.frzL, cond_true, encTemplateM_frz, encServiceM_frz] using this
    intro f l s h
    unfold AdJ at h
    rcases h with ⟨hf, rfl, rfl⟩ | ⟨hf, rfl, rfl⟩ | ⟨hf, rfl, rfl⟩ | ⟨hf, rfl, d, hd, rfl⟩ | ⟨hf, rfl, rfl⟩ | ⟨hf, rfl, rfl⟩ | ⟨hf, rfl, d, hd, rfl⟩ | ⟨hf, rfl, d, hd, rfl⟩ | ⟨hf, rfl, rfl⟩ | ⟨hf, rfl, d, hd, rfl⟩ | ⟨hf, rfl, d, hd, rfl⟩ | ⟨hf, rfl, rfl⟩ | ⟨hf, rfl, d, hd, rfl⟩ | ⟨hf, rfl, rfl⟩ | ⟨hf, rfl, d, hd, rfl⟩ | ⟨hf, rfl, rfl⟩ | ⟨hf, rfl, d, hd, rfl⟩ | ⟨hf, rfl, rfl⟩ | ⟨hf, rfl, rfl⟩ | ⟨hf, rfl, d, hd, rfl⟩ | ⟨hf, rfl, rfl⟩ | ⟨hf, rfl, d, hd, rfl⟩ | ⟨hf, rfl, d, hd, rfl⟩ | ⟨hf, rfl, d, hd, rfl⟩ | ⟨hf, rfl, d, hd, rfl⟩ | ⟨hf, rfl, d, hd, rfl⟩ | ⟨hf, rfl, d, hd, rfl⟩
    (obtain rfl : f = 10 := (by omega)); refine ⟨[0, 2, 8], by kernel_rfl, by simp, ?_⟩; rotate_left
    (obtain rfl : f = 9 := (by omega)); refine ⟨[1, 2, 8], by kernel_rfl, by simp, ?_⟩; rotate_left
    (obtain rfl : f = 9 := (by omega)); refine ⟨[0, 8], by kernel_rfl, by simp, ?_⟩; rotate_left
    (obtain rfl : f = 9 := (by omega)); refine ⟨[0, 2], by kernel_rfl, by simp, ?_⟩; rotate_left
    (obtain rfl : f = 8 := (by omega)); refine ⟨[2, 8], by kernel_rfl, by simp, ?_⟩; rotate_left
    (obtain rfl : f = 8 := (by omega)); refine ⟨[1, 8], by kernel_rfl, by simp, ?_⟩; rotate_left
    (obtain rfl : f = 8 := (by omega)); refine ⟨[1, 2], by kernel_rfl, by simp, ?_⟩; rotate_left
    (obtain rfl : f = 8 := (by omega)); refine ⟨[0], by kernel_rfl, by simp, ?_⟩; rotate_left
    (obtain rfl : f = 7 := (by omega)); refine ⟨[3, 8], by kernel_rfl, by simp, ?_⟩; rotate_left
    (obtain rfl : f = 7 := (by omega)); refine ⟨[2], by kernel_rfl, by simp, ?_⟩; rotate_left
    (obtain rfl : f = 7 := (by omega)); refine ⟨[1], by kernel_rfl, by simp, ?_⟩; rotate_left
    (obtain rfl : f = 6 := (by omega)); refine ⟨[4, 8], by kernel_rfl, by simp, ?_⟩; rotate_left
    (obtain rfl : f = 6 := (by omega)); refine ⟨[3], by kernel_rfl, by simp, ?_⟩; rotate_left
    (obtain rfl : f = 5 := (by omega)); refine ⟨[5, 8], by kernel_rfl, by simp, ?_⟩; rotate_left
    (obtain rfl : f = 5 := (by omega)); refine ⟨[4], by kernel_rfl, by simp, ?_⟩; rotate_left
    (obtain rfl : f = 4 := (by omega)); refine ⟨[6, 7, 8], by kernel_rfl, by simp, ?_⟩; rotate_left
    (obtain rfl : f = 4 := (by omega)); refine ⟨[5], by kernel_rfl, by simp, ?_⟩; rotate_left
    (obtain rfl : f = 3 := (by omega)); refine ⟨[7, 8], by kernel_rfl, by simp, ?_⟩; rotate_left
    (obtain rfl : f = 3 := (by omega)); refine ⟨[6, 8], by kernel_rfl, by simp, ?_⟩; rotate_left
    (obtain rfl : f = 3 := (by omega)); refine ⟨[6, 7], by kernel_rfl, by simp, ?_⟩; rotate_left
    (obtain rfl : f = 2 := (by omega)); refine ⟨[8], by kernel_rfl, by simp, ?_⟩; rotate_left
    (obtain rfl : f = 2 := (by omega)); refine ⟨[7, 9], by kernel_rfl, by simp, ?_⟩; rotate_left
    (obtain rfl : f = 2 := (by omega)); refine ⟨[6], by kernel_rfl, by simp, ?_⟩; rotate_left
    (obtain rfl : f = 1 := (by omega)); refine ⟨[9], by kernel_rfl, by simp, ?_⟩; rotate_left
    (obtain rfl : f = 1 := (by omega)); refine ⟨[7], by kernel_rfl, by simp, ?_⟩; rotate_left
    (obtain rfl : f = 0 := (by omega)); refine ⟨[10], by kernel_rfl, by simp, ?_⟩; rotate_left
    omega
    all_goals simp only [allI]
    all_goals (repeat' first | (with_reducible first | refine Y ?_ | (refine hK _ _ ?_; clear hK K) | refine And.intro ?_ ?_ | exact Ct | intro (K : _ → _ → Prop) hK | (refine gI fun hg => ?_; try simp only [hC, reduceCtorEq] at hg; try simp only [hg])) | ((with_reducible refine E ?_; repeat refine Y ?_); refine eF rfl ?_) | simp (maxSteps := 2000000) (disch := omega) only [go_sem] | (with_reducible intro hg; try simp only [hC, reduceCtorEq] at hg) | exact Cl | fail)
    · refine seeI.mk [2, 3, 4, 6, 7, 10, 13, 95] (obJ x0 x1 b c2 hs) gO ?_; simp (maxSteps := 2000000) (disch := omega) only [go_sem]; unfold AdJ; exact .inr (.inl ⟨rfl, by kernel_rfl, rfl⟩)
    · refine seeI.mk [2, 3, 4, 6, 7, 10, 13, 97] (obJ x0 x1 b c2 hs) gO ?_; simp (maxSteps := 2000000) (disch := omega) only [go_sem]; unfold AdJ; exact .inr (.inr (.inl ⟨rfl, by kernel_rfl, rfl⟩))
    · rename_i d; refine seeI.mk [2, 3, 4, 6, 7, 10, 13, 15] ((d, some [.v (.slice none 0 0), .v (.slice none 0 0)]) :: obJ x0 x1 b c2 hs) gO ?_; simp (maxSteps := 2000000) (disch := omega) only [go_sem]; unfold AdJ; exact .inr (.inr (.inr (.inl ⟨rfl, by kernel_rfl, _, ⟨by omega, by omega⟩, rfl⟩)))
    · refine seeI.mk [2, 3, 4, 6, 7, 10, 13, 95, 96] (obJ x0 x1 b c2 hs) gO ?_; simp (maxSteps := 2000000) (disch := omega) only [go_sem]; unfold AdJ; exact .inr (.inr (.inr (.inr (.inl ⟨rfl, by kernel_rfl, rfl⟩))))
    · refine seeI.mk [2, 3, 4, 6, 7, 10, 13, 95, 97] (obJ x0 x1 b c2 hs) gO ?_; simp (maxSteps := 2000000) (disch := omega) only [go_sem]; unfold AdJ; exact .inr (.inr (.inr (.inr (.inr (.inl ⟨rfl, by kernel_rfl, rfl⟩)))))
    · rename_i d; refine seeI.mk [2, 3, 4, 6, 7, 10, 13, 95, 15] ((d, some [.v (.slice none 0 0), .v (.slice none 0 0)]) :: obJ x0 x1 b c2 hs) gO ?_; simp (maxSteps := 2000000) (disch := omega) only [go_sem]; unfold AdJ; exact .inr (.inr (.inr (.inr (.inr (.inr (.inl ⟨rfl, by kernel_rfl, _, ⟨by omega, by omega⟩, rfl⟩))))))
    · refine seeI.mk [2, 3, 4, 6, 7, 10, 13, 95, 97] (obJ x0 x1 b c2 hs) gO ?_; simp (maxSteps := 2000000) (disch := omega) only [go_sem]; unfold AdJ; exact .inr (.inr (.inr (.inr (.inr (.inl ⟨rfl, by kernel_rfl, rfl⟩)))))
    · rename_i d; refine seeI.mk [2, 3, 4, 6, 7, 10, 13, 97, 15] ((d, some [.v (.slice none 0 0), .v (.slice none 0 0)]) :: obJ x0 x1 b c2 hs) gO ?_; simp (maxSteps := 2000000) (disch := omega) only [go_sem]; unfold AdJ; exact .inr (.inr (.inr (.inr (.inr (.inr (.inr (.inl ⟨rfl, by kernel_rfl, _, ⟨by omega, by omega⟩, rfl⟩)))))))
    · refine seeI.mk [2, 3, 4, 6, 7, 10, 13, 95, 15] ((d, some [.v (.slice none 0 0), .v (.slice none 0 0)]) :: obJ x0 x1 b c2 hs) gO ?_; simp (maxSteps := 2000000) (disch := omega) only [go_sem]; unfold AdJ; exact .inr (.inr (.inr (.inr (.inr (.inr (.inl ⟨rfl, by kernel_rfl, _, ⟨by omega, by omega⟩, rfl⟩))))))
    · refine seeI.mk [2, 3, 4, 6, 7, 10, 13, 97, 15] ((d, some [.v (.slice none 0 0), .v (.slice none 0 0)]) :: obJ x0 x1 b c2 hs) gO ?_; simp (maxSteps := 2000000) (disch := omega) only [go_sem]; unfold AdJ; exact .inr (.inr (.inr (.inr (.inr (.inr (.inr (.inl ⟨rfl, by kernel_rfl, _, ⟨by omega, by omega⟩, rfl⟩)))))))
    · refine seeI.mk [2, 3, 4, 6, 7, 10, 13, 95, 96, 97] (obJ x0 x1 b c2 hs) gO ?_; simp (maxSteps := 2000000) (disch := omega) only [go_sem]; unfold AdJ; exact .inr (.inr (.inr (.inr (.inr (.inr (.inr (.inr (.inl ⟨rfl, by kernel_rfl, rfl⟩))))))))
    · rename_i d; refine seeI.mk [2, 3, 4, 6, 7, 10, 13, 95, 96, 15] ((d, some [.v (.slice none 0 0), .v (.slice none 0 0)]) :: obJ x0 x1 b c2 hs) gO ?_; simp (maxSteps := 2000000) (disch := omega) only [go_sem]; unfold AdJ; exact .inr (.inr (.inr (.inr (.inr (.inr (.inr (.inr (.inr (.inl ⟨rfl, by kernel_rfl, _, ⟨by omega, by omega⟩, rfl⟩)))))))))
    · refine seeI.mk [2, 3, 4, 6, 7, 10, 13, 95, 96, 97] (obJ x0 x1 b c2 hs) gO ?_; simp (maxSteps := 2000000) (disch := omega) only [go_sem]; unfold AdJ; exact .inr (.inr (.inr (.inr (.inr (.inr (.inr (.inr (.inl ⟨rfl, by kernel_rfl, rfl⟩))))))))
    · rename_i d; refine seeI.mk [2, 3, 4, 6, 7, 10, 13, 95, 97, 15] ((d, some [.v (.slice none 0 0), .v (.slice none 0 0)]) :: obJ x0 x1 b c2 hs) gO ?_; simp (maxSteps := 2000000) (disch := omega) only [go_sem]; unfold AdJ; exact .inr (.inr (.inr (.inr (.inr (.inr (.inr (.inr (.inr (.inr (.inl ⟨rfl, by kernel_rfl, _, ⟨by omega, by omega⟩, rfl⟩))))))))))
    · refine seeI.mk [2, 3, 4, 6, 7, 10, 13, 95, 96, 15] ((d, some [.v (.slice none 0 0), .v (.slice none 0 0)]) :: obJ x0 x1 b c2 hs) gO ?_; simp (maxSteps := 2000000) (disch := omega) only [go_sem]; unfold AdJ; exact .inr (.inr (.inr (.inr (.inr (.inr (.inr (.inr (.inr (.inl ⟨rfl, by kernel_rfl, _, ⟨by omega, by omega⟩, rfl⟩)))))))))
    · refine seeI.mk [2, 3, 4, 6, 7, 10, 13, 95, 97, 15] ((d, some [.v (.slice none 0 0), .v (.slice none 0 0)]) :: obJ x0 x1 b c2 hs) gO ?_; simp (maxSteps := 2000000) (disch := omega) only [go_sem]; unfold AdJ; exact .inr (.inr (.inr (.inr (.inr (.inr (.inr (.inr (.inr (.inr (.inl ⟨rfl, by kernel_rfl, _, ⟨by omega, by omega⟩, rfl⟩))))))))))
    · refine seeI.mk [2, 3, 4, 6, 7, 10, 13, 95, 97, 15] ((d, some [.v (.slice none 0 0), .v (.slice none 0 0)]) :: obJ x0 x1 b c2 hs) gO ?_; simp (maxSteps := 2000000) (disch := omega) only [go_sem]; unfold AdJ; exact .inr (.inr (.inr (.inr (.inr (.inr (.inr (.inr (.inr (.inr (.inl ⟨rfl, by kernel_rfl, _, ⟨by omega, by omega⟩, rfl⟩))))))))))
    · refine seeI.mk [2, 3, 4, 6, 7, 10, 13, 95, 96, 97, 98] (obJ x0 x1 b c2 hs) gO ?_; simp (maxSteps := 2000000) (disch := omega) only [go_sem]; unfold AdJ; exact .inr (.inr (.inr (.inr (.inr (.inr (.inr (.inr (.inr (.inr (.inr (.inl ⟨rfl, by kernel_rfl, rfl⟩)))))))))))
    · rename_i d; refine seeI.mk [2, 3, 4, 6, 7, 10, 13, 95, 96, 97, 15] ((d, some [.v (.slice none 0 0), .v (.slice none 0 0)]) :: obJ x0 x1 b c2 hs) gO ?_; simp (maxSteps := 2000000) (disch := omega) only [go_sem]; unfold AdJ; exact .inr (.inr (.inr (.inr (.inr (.inr (.inr (.inr (.inr (.inr (.inr (.inr (.inl ⟨rfl, by kernel_rfl, _, ⟨by omega, by omega⟩, rfl⟩))))))))))))
    · refine seeI.mk [2, 3, 4, 6, 7, 10, 13, 95, 96, 97, 15] ((d, some [.v (.slice none 0 0), .v (.slice none 0 0)]) :: obJ x0 x1 b c2 hs) gO ?_; simp (maxSteps := 2000000) (disch := omega) only [go_sem]; unfold AdJ; exact .inr (.inr (.inr (.inr (.inr (.inr (.inr (.inr (.inr (.inr (.inr (.inr (.inl ⟨rfl, by kernel_rfl, _, ⟨by omega, by omega⟩, rfl⟩))))))))))))
    · refine seeI.mk [2, 3, 4, 6, 7, 10, 13, 95, 96, 97, 15] ((d, some [.v (.slice none 0 0), .v (.slice none 0 0)]) :: obJ x0 x1 b c2 hs) gO ?_; simp (maxSteps := 2000000) (disch := omega) only [go_sem]; unfold AdJ; exact .inr (.inr (.inr (.inr (.inr (.inr (.inr (.inr (.inr (.inr (.inr (.inr (.inl ⟨rfl, by kernel_rfl, _, ⟨by omega, by omega⟩, rfl⟩))))))))))))
    · refine seeI.mk [2, 3, 4, 6, 7, 10, 13, 95, 96, 97, 98, 99] (obJ x0 x1 b c2 hs) gO ?_; simp (maxSteps := 2000000) (disch := omega) only [go_sem]; unfold AdJ; exact .inr (.inr (.inr (.inr (.inr (.inr (.inr (.inr (.inr (.inr (.inr (.inr (.inr (.inl ⟨rfl, by kernel_rfl, rfl⟩)))))))))))))
    · rename_i d; refine seeI.mk [2, 3, 4, 6, 7, 10, 13, 95, 96, 97, 98, 15] ((d, some [.v (.slice none 0 0), .v (.slice none 0 0)]) :: obJ x0 x1 b c2 hs) gO ?_; simp (maxSteps := 2000000) (disch := omega) only [go_sem]; unfold AdJ; exact .inr (.inr (.inr (.inr (.inr (.inr (.inr (.inr (.inr (.inr (.inr (.inr (.inr (.inr (.inl ⟨rfl, by kernel_rfl, _, ⟨by omega, by omega⟩, rfl⟩))))))))))))))
    · refine seeI.mk [2, 3, 4, 6, 7, 10, 13, 95, 96, 97, 98, 15] ((d, some [.v (.slice none 0 0), .v (.slice none 0 0)]) :: obJ x0 x1 b c2 hs) gO ?_; simp (maxSteps := 2000000) (disch := omega) only [go_sem]; unfold AdJ; exact .inr (.inr (.inr (.inr (.inr (.inr (.inr (.inr (.inr (.inr (.inr (.inr (.inr (.inr (.inl ⟨rfl, by kernel_rfl, _, ⟨by omega, by omega⟩, rfl⟩))))))))))))))
    · refine seeI.mk [2, 3, 4, 6, 7, 10, 13, 95, 96, 97, 98, 99, 94] (obJ x0 x1 b c2 hs) gO ?_; simp (maxSteps := 2000000) (disch := omega) only [go_sem]; unfold AdJ; exact .inr (.inr (.inr (.inr (.inr (.inr (.inr (.inr (.inr (.inr (.inr (.inr (.inr (.inr (.inr (.inl ⟨rfl, by kernel_rfl, rfl⟩)))))))))))))))
    · rename_i d; refine seeI.mk [2, 3, 4, 6, 7, 10, 13, 95, 96, 97, 98, 99, 15] ((d, some [.v (.slice none 0 0), .v (.slice none 0 0)]) :: obJ x0 x1 b c2 hs) gO ?_; simp (maxSteps := 2000000) (disch := omega) only [go_sem]; unfold AdJ; exact .inr (.inr (.inr (.inr (.inr (.inr (.inr (.inr (.inr (.inr (.inr (.inr (.inr (.inr (.inr (.inr (.inl ⟨rfl, by kernel_rfl, _, ⟨by omega, by omega⟩, rfl⟩))))))))))))))))
    · refine seeI.mk [2, 3, 4, 6, 7, 10, 13, 95, 96, 97, 98, 99, 15] ((d, some [.v (.slice none 0 0), .v (.slice none 0 0)]) :: obJ x0 x1 b c2 hs) gO ?_; simp (maxSteps := 2000000) (disch := omega) only [go_sem]; unfold AdJ; exact .inr (.inr (.inr (.inr (.inr (.inr (.inr (.inr (.inr (.inr (.inr (.inr (.inr (.inr (.inr (.inr (.inl ⟨rfl, by kernel_rfl, _, ⟨by omega, by omega⟩, rfl⟩))))))))))))))))
    · refine seeI.mk [2, 3, 4, 6, 7, 10, 13, 95, 96, 97, 98, 99, 94, 100] (obJ x0 x1 b c2 hs) gO ?_; simp (maxSteps := 2000000) (disch := omega) only [go_sem]; unfold AdJ; exact .inr (.inr (.inr (.inr (.inr (.inr (.inr (.inr (.inr (.inr (.inr (.inr (.inr (.inr (.inr (.inr (.inr (.inl ⟨rfl, by kernel_rfl, rfl⟩)))))))))))))))))
    · refine seeI.mk [2, 3, 4, 6, 7, 10, 13, 95, 96, 97, 98, 99, 94, 101] (obJ x0 x1 b c2 hs) gO ?_; simp (maxSteps := 2000000) (disch := omega) only [go_sem]; unfold AdJ; exact .inr (.inr (.inr (.inr (.inr (.inr (.inr (.inr (.inr (.inr (.inr (.inr (.inr (.inr (.inr (.inr (.inr (.inr (.inl ⟨rfl, by kernel_rfl, rfl⟩))))))))))))))))))
    · rename_i d; refine seeI.mk [2, 3, 4, 6, 7, 10, 13, 95, 96, 97, 98, 99, 94, 15] ((d, some [.v (.slice none 0 0), .v (.slice none 0 0)]) :: obJ x0 x1 b c2 hs) gO ?_; simp (maxSteps := 2000000) (disch := omega) only [go_sem]; unfold AdJ; exact .inr (.inr (.inr (.inr (.inr (.inr (.inr (.inr (.inr (.inr (.inr (.inr (.inr (.inr (.inr (.inr (.inr (.inr (.inr (.inl ⟨rfl, by kernel_rfl, _, ⟨by omega, by omega⟩, rfl⟩)))))))))))))))))))
    · refine seeI.mk [2, 3, 4, 6, 7, 10, 13, 95, 96, 97, 98, 99, 94, 15] ((d, some [.v (.slice none 0 0), .v (.slice none 0 0)]) :: obJ x0 x1 b c2 hs) gO ?_; simp (maxSteps := 2000000) (disch := omega) only [go_sem]; unfold AdJ; exact .inr (.inr (.inr (.inr (.inr (.inr (.inr (.inr (.inr (.inr (.inr (.inr (.inr (.inr (.inr (.inr (.inr (.inr (.inr (.inl ⟨rfl, by kernel_rfl, _, ⟨by omega, by omega⟩, rfl⟩)))))))))))))))))))
    · refine seeI.mk [2, 3, 4, 6, 7, 10, 13, 95, 96, 97, 98, 99, 94, 100, 101] (obJ x0 x1 b c2 hs) gO ?_; simp (maxSteps := 2000000) (disch := omega) only [go_sem]; unfold AdJ; exact .inr (.inr (.inr (.inr (.inr (.inr (.inr (.inr (.inr (.inr (.inr (.inr (.inr (.inr (.inr (.inr (.inr (.inr (.inr (.inr (.inl ⟨rfl, by kernel_rfl, rfl⟩))))))))))))))))))))
    · rename_i d; refine seeI.mk [2, 3, 4, 6, 7, 10, 13, 95, 96, 97, 98, 99, 94, 100, 15] ((d, some [.v (.slice none 0 0), .v (.slice none 0 0)]) :: obJ x0 x1 b c2 hs) gO ?_; simp (maxSteps := 2000000) (disch := omega) only [go_sem]; unfold AdJ; exact .inr (.inr (.inr (.inr (.inr (.inr (.inr (.inr (.inr (.inr (.inr (.inr (.inr (.inr (.inr (.inr (.inr (.inr (.inr (.inr (.inr (.inl ⟨rfl, by kernel_rfl, _, ⟨by omega, by omega⟩, rfl⟩)))))))))))))))))))))
    · refine seeI.mk [2, 3, 4, 6, 7, 10, 13, 95, 96, 97, 98, 99, 94, 100, 101] (obJ x0 x1 b c2 hs) gO ?_; simp (maxSteps := 2000000) (disch := omega) only [go_sem]; unfold AdJ; exact .inr (.inr (.inr (.inr (.inr (.inr (.inr (.inr (.inr (.inr (.inr (.inr (.inr (.inr (.inr (.inr (.inr (.inr (.inr (.inr (.inl ⟨rfl, by kernel_rfl, rfl⟩))))))))))))))))))))
    · rename_i d; refine seeI.mk [2, 3, 4, 6, 7, 10, 13, 95, 96, 97, 98, 99, 94, 101, 15] ((d, some [.v (.slice none 0 0), .v (.slice none 0 0)]) :: obJ x0 x1 b c2 hs) gO ?_; simp (maxSteps := 2000000) (disch := omega) only [go_sem]; unfold AdJ; exact .inr (.inr (.inr (.inr (.inr (.inr (.inr (.inr (.inr (.inr (.inr (.inr (.inr (.inr (.inr (.inr (.inr (.inr (.inr (.inr (.inr (.inr (.inl ⟨rfl, by kernel_rfl, _, ⟨by omega, by omega⟩, rfl⟩))))))))))))))))))))))
    · refine seeI.mk [2, 3, 4, 6, 7, 10, 13, 95, 96, 97, 98, 99, 94, 100, 15] ((d, some [.v (.slice none 0 0), .v (.slice none 0 0)]) :: obJ x0 x1 b c2 hs) gO ?_; simp (maxSteps := 2000000) (disch := omega) only [go_sem]; unfold AdJ; exact .inr (.inr (.inr (.inr (.inr (.inr (.inr (.inr (.inr (.inr (.inr (.inr (.inr (.inr (.inr (.inr (.inr (.inr (.inr (.inr (.inr (.inl ⟨rfl, by kernel_rfl, _, ⟨by omega, by omega⟩, rfl⟩)))))))))))))))))))))
    · refine seeI.mk [2, 3, 4, 6, 7, 10, 13, 95, 96, 97, 98, 99, 94, 101, 15] ((d, some [.v (.slice none 0 0), .v (.slice none 0 0)]) :: obJ x0 x1 b c2 hs) gO ?_; simp (maxSteps := 2000000) (disch := omega) only [go_sem]; unfold AdJ; exact .inr (.inr (.inr (.inr (.inr (.inr (.inr (.inr (.inr (.inr (.inr (.inr (.inr (.inr (.inr (.inr (.inr (.inr (.inr (.inr (.inr (.inr (.inl ⟨rfl, by kernel_rfl, _, ⟨by omega, by omega⟩, rfl⟩))))))))))))))))))))))
    · rename_i d; refine seeI.mk [2, 3, 4, 6, 7, 10, 13, 95, 96, 97, 98, 99, 94, 100, 101, 15] ((d, some [.v (.slice none 0 0), .v (.slice none 0 0)]) :: obJ x0 x1 b c2 hs) gO ?_; simp (maxSteps := 2000000) (disch := omega) only [go_sem]; unfold AdJ; exact .inr (.inr (.inr (.inr (.inr (.inr (.inr (.inr (.inr (.inr (.inr (.inr (.inr (.inr (.inr (.inr (.inr (.inr (.inr (.inr (.inr (.inr (.inr (.inl ⟨rfl, by kernel_rfl, _, ⟨by omega, by omega⟩, rfl⟩)))))))))))))))))))))))
    · refine seeI.mk [2, 3, 4, 6, 7, 10, 13, 95, 96, 97, 98, 99, 94, 100, 101, 15] ((d, some [.v (.slice none 0 0), .v (.slice none 0 0)]) :: obJ x0 x1 b c2 hs) gO ?_; simp (maxSteps := 2000000) (disch := omega) only [go_sem]; unfold AdJ; exact .inr (.inr (.inr (.inr (.inr (.inr (.inr (.inr (.inr (.inr (.inr (.inr (.inr (.inr (.inr (.inr (.inr (.inr (.inr (.inr (.inr (.inr (.inr (.inl ⟨rfl, by kernel_rfl, _, ⟨by omega, by omega⟩, rfl⟩)))))))))))))))))))))))
    · refine seeI.mk [2, 3, 4, 6, 7, 10, 13, 95, 96, 97, 98, 99, 94, 100, 15] ((d, some (cF x0 x1)) :: obJ x0 x1 b c2 hs) gO ?_; simp (maxSteps := 2000000) (disch := omega) only [go_sem]; unfold AdJ; exact .inr (.inr (.inr (.inr (.inr (.inr (.inr (.inr (.inr (.inr (.inr (.inr (.inr (.inr (.inr (.inr (.inr (.inr (.inr (.inr (.inr (.inr (.inr (.inr (.inl ⟨rfl, by kernel_rfl, _, ⟨by omega, by omega⟩, rfl⟩))))))))))))))))))))))))
    · refine seeI.mk [2, 3, 4, 6, 7, 10, 13, 95, 96, 97, 98, 99, 94, 100, 101, 15] ((d, some [.v (.slice none 0 0), .v (.slice none 0 0)]) :: obJ x0 x1 b c2 hs) gO ?_; simp (maxSteps := 2000000) (disch := omega) only [go_sem]; unfold AdJ; exact .inr (.inr (.inr (.inr (.inr (.inr (.inr (.inr (.inr (.inr (.inr (.inr (.inr (.inr (.inr (.inr (.inr (.inr (.inr (.inr (.inr (.inr (.inr (.inl ⟨rfl, by kernel_rfl, _, ⟨by omega, by omega⟩, rfl⟩)))))))))))))))))))))))
    · refine seeI.mk [2, 3, 4, 6, 7, 10, 13, 95, 96, 97, 98, 99, 94, 100, 101, 15] ((d, some (cF x0 x1)) :: obJ x0 x1 b c2 hs) gO ?_; simp (maxSteps := 2000000) (disch := omega) only [go_sem]; unfold AdJ; exact .inr (.inr (.inr (.inr (.inr (.inr (.inr (.inr (.inr (.inr (.inr (.inr (.inr (.inr (.inr (.inr (.inr (.inr (.inr (.inr (.inr (.inr (.inr (.inr (.inr (.inl ⟨rfl, by kernel_rfl, _, ⟨by omega, by omega⟩, rfl⟩)))))))))))))))))))))))))
    · refine seeI.mk [2, 3, 4, 6, 7, 10, 13, 95, 96, 97, 98, 99, 94, 100, 101, 15] ((d, some (cF x0 x1)) :: obJ x0 x1 b c2 hs) gO ?_; simp (maxSteps := 2000000) (disch := omega) only [go_sem]; unfold AdJ; exact .inr (.inr (.inr (.inr (.inr (.inr (.inr (.inr (.inr (.inr (.inr (.inr (.inr (.inr (.inr (.inr (.inr (.inr (.inr (.inr (.inr (.inr (.inr (.inr (.inr (.inl ⟨rfl, by kernel_rfl, _, ⟨by omega, by omega⟩, rfl⟩)))))))))))))))))))))))))
    · refine seeI.mk [2, 3, 4, 6, 7, 10, 13, 95, 96, 97, 98, 99, 94, 100, 101, 15, 16] ((d, some (cF x0 x1)) :: obJ x0 x1 b c2 hs) gO ?_; simp (maxSteps := 2000000) (disch := omega) only [go_sem]; unfold AdJ; exact .inr (.inr (.inr (.inr (.inr (.inr (.inr (.inr (.inr (.inr (.inr (.inr (.inr (.inr (.inr (.inr (.inr (.inr (.inr (.inr (.inr (.inr (.inr (.inr (.inr (.inr (⟨rfl, by kernel_rfl, _, ⟨by omega, by omega⟩, rfl⟩))))))))))))))))))))))))))
  haveI i1 : Ctr lim Tryz.prog 9 [] [.agg [.sl false 3 (x0.fTemplates.map (encTemplate false)), .sl false 4 (x0.fServices.map (encService false))]] (.agg [.sl false 3 (x0.fTemplates.map (encTemplate false)), .sl false 4 (x0.fServices.map (encService false))]) [] True := by
    have := (toPlan_i x0).frz
    simpa only [AV.frz, AV.frzL, cond_true, encTemplateM_frz, encServiceM_frz] using this
  haveI i2 : Ctr lim Tryz.prog 30 [] [.agg [.str x1.fName, .str x1.fTemplate, .sl false 2 (x1.fArgs.map (encArg false)), .sl false 1 (x1.fTargets.map AV.str)]] (.agg [.str x1.fName, .str x1.fTemplate, .sl false 2 (x1.fArgs.map (encArg false)), .sl false 1 (x1.fTargets.map AV.str)]) [] True := by
    have := (toService_i x1).frz
    simpa only [AV.frz, AV.frzL, cond_true, encArgM_frz, svcStr_frz] using this
  haveI i3 := sAddService x0 x1
  intro f l s h
  unfold AdI at h
  rcases h with ⟨hf, rfl, rfl⟩ | ⟨hf, rfl, rfl⟩ | ⟨hf, rfl, rfl⟩ | ⟨hf, rfl, b, rfl⟩ | ⟨hf, rfl, rfl⟩ | ⟨hf, rfl, rfl⟩ | ⟨hf, rfl, b, rfl⟩ | ⟨hf, rfl, b, rfl⟩ | ⟨hf, rfl, rfl⟩ | ⟨hf, rfl, b, rfl⟩ | ⟨hf, rfl, b, rfl⟩ | ⟨hf, rfl, rfl⟩ | ⟨hf, rfl, b, rfl⟩ | ⟨hf, rfl, rfl⟩ | ⟨hf, rfl, b, rfl⟩ | ⟨hf, rfl, rfl⟩ | ⟨hf, rfl, b, rfl⟩ | ⟨hf, rfl, rfl⟩ | ⟨hf, rfl, rfl⟩ | ⟨hf, rfl, b, rfl⟩ | ⟨hf, rfl, rfl⟩ | ⟨hf, rfl, b, rfl⟩ | ⟨hf, rfl, b, rfl⟩ | ⟨hf, rfl, b, rfl⟩ | ⟨hf, rfl, b, rfl⟩ | ⟨hf, rfl, b, rfl⟩ | ⟨hf, rfl, b, rfl⟩
  (obtain rfl : f = 10 := (by omega)); refine ⟨[0, 2, 8], by kernel_rfl, by simp, ?_⟩; rotate_left
  (obtain rfl : f = 9 := (by omega)); refine ⟨[1, 2, 8], by kernel_rfl, by simp, ?_⟩; rotate_left
  (obtain rfl : f = 9 := (by omega)); refine ⟨[0, 8], by kernel_rfl, by simp, ?_⟩; rotate_left
  (obtain rfl : f = 9 := (by omega)); refine ⟨[0, 2], by kernel_rfl, by simp, ?_⟩; rotate_left
  (obtain rfl : f = 8 := (by omega)); refine ⟨[2, 8], by kernel_rfl, by simp, ?_⟩; rotate_left
  (obtain rfl : f = 8 := (by omega)); refine ⟨[1, 8], by kernel_rfl, by simp, ?_⟩; rotate_left
  (obtain rfl : f = 8 := (by omega)); refine ⟨[1, 2], by kernel_rfl, by simp, ?_⟩; rotate_left
  (obtain rfl : f = 8 := (by omega)); refine ⟨[0], by kernel_rfl, by simp, ?_⟩; rotate_left
  (obtain rfl : f = 7 := (by omega)); refine ⟨[3, 8], by kernel_rfl, by simp, ?_⟩; rotate_left
  (obtain rfl : f = 7 := (by omega)); refine ⟨[2], by kernel_rfl, by simp, ?_⟩; rotate_left
  (obtain rfl : f = 7 := (by omega)); refine ⟨[1], by kernel_rfl, by simp, ?_⟩; rotate_left
  (obtain rfl : f = 6 := (by omega)); refine ⟨[4, 8], by kernel_rfl, by simp, ?_⟩; rotate_left
  (obtain rfl : f = 6 := (by omega)); refine ⟨[3], by kernel_rfl, by simp, ?_⟩; rotate_left
  (obtain rfl : f = 5 := (by omega)); refine ⟨[5, 8], by kernel_rfl, by simp, ?_⟩; rotate_left
  (obtain rfl : f = 5 := (by omega)); refine ⟨[4], by kernel_rfl, by simp, ?_⟩; rotate_left
  (obtain rfl : f = 4 := (by omega)); refine ⟨[6, 7, 8], by kernel_rfl, by simp, ?_⟩; rotate_left
  (obtain rfl : f = 4 := (by omega)); refine ⟨[5], by kernel_rfl, by simp, ?_⟩; rotate_left
  (obtain rfl : f = 3 := (by omega)); refine ⟨[7, 8], by kernel_rfl, by simp, ?_⟩; rotate_left
  (obtain rfl : f = 3 := (by omega)); refine ⟨[6, 8], by kernel_rfl, by simp, ?_⟩; rotate_left
  (obtain rfl : f = 3 := (by omega)); refine ⟨[6, 7], by kernel_rfl, by simp, ?_⟩; rotate_left
  (obtain rfl : f = 2 := (by omega)); refine ⟨[8], by kernel_rfl, by simp, ?_⟩; rotate_left
  (obtain rfl : f = 2 := (by omega)); refine ⟨[7, 9], by kernel_rfl, by simp, ?_⟩; rotate_left
  (obtain rfl : f = 2 := (by omega)); refine ⟨[6], by kernel_rfl, by simp, ?_⟩; rotate_left
  (obtain rfl : f = 1 := (by omega)); refine ⟨[9], by kernel_rfl, by simp, ?_⟩; rotate_left
  (obtain rfl : f = 1 := (by omega)); refine ⟨[7], by kernel_rfl, by simp, ?_⟩; rotate_left
  (obtain rfl : f = 0 := (by omega)); refine ⟨[10], by kernel_rfl, by simp, ?_⟩; rotate_left
  omega
  all_goals simp only [allI]
  all_goals (repeat' first | (with_reducible first | refine Y ?_ | (refine hK _ _ ?_; clear hK K) | refine And.intro ?_ ?_ | exact Ct | intro (K : _ → _ → Prop) hK | (refine gI fun hg => ?_; try simp only [hC, reduceCtorEq] at hg; try simp only [hg])) | ((with_reducible refine E ?_; repeat refine Y ?_); refine eF rfl ?_) | simp (maxSteps := 2000000) (disch := omega) only [go_sem] | (with_reducible intro hg; try simp only [hC, reduceCtorEq] at hg) | exact Cl | fail)
  · refine seeI.mk [2, 3, 4, 28] [] trivial ?_; simp (maxSteps := 2000000) (disch := omega) only [go_sem]; unfold AdI; exact .inr (.inl ⟨rfl, by kernel_rfl, rfl⟩)
  · refine seeI.mk [2, 3, 4, 30] [] trivial ?_; simp (maxSteps := 2000000) (disch := omega) only [go_sem]; unfold AdI; exact .inr (.inr (.inl ⟨rfl, by kernel_rfl, rfl⟩))
  · refine seeI.mk [2, 3, 4, 6] [(_, some _)] (subO_one rfl) ?_; simp (maxSteps := 2000000) (disch := omega) only [go_sem]; unfold AdI; exact .inr (.inr (.inr (.inl ⟨rfl, by kernel_rfl, _, rfl⟩)))
  · refine seeI.mk [2, 3, 4, 28, 29] [] trivial ?_; simp (maxSteps := 2000000) (disch := omega) only [go_sem]; unfold AdI; exact .inr (.inr (.inr (.inr (.inl ⟨rfl, by kernel_rfl, rfl⟩))))
  · refine seeI.mk [2, 3, 4, 28, 30] [] trivial ?_; simp (maxSteps := 2000000) (disch := omega) only [go_sem]; unfold AdI; exact .inr (.inr (.inr (.inr (.inr (.inl ⟨rfl, by kernel_rfl, rfl⟩)))))
  · refine seeI.mk [2, 3, 4, 28, 6] [(_, some _)] (subO_one rfl) ?_; simp (maxSteps := 2000000) (disch := omega) only [go_sem]; unfold AdI; exact .inr (.inr (.inr (.inr (.inr (.inr (.inl ⟨rfl, by kernel_rfl, _, rfl⟩))))))
  · refine seeI.mk [2, 3, 4, 28, 30] [] trivial ?_; simp (maxSteps := 2000000) (disch := omega) only [go_sem]; unfold AdI; exact .inr (.inr (.inr (.inr (.inr (.inl ⟨rfl, by kernel_rfl, rfl⟩)))))
  · refine seeI.mk [2, 3, 4, 30, 6] [(_, some _)] (subO_one rfl) ?_; simp (maxSteps := 2000000) (disch := omega) only [go_sem]; unfold AdI; exact .inr (.inr (.inr (.inr (.inr (.inr (.inr (.inl ⟨rfl, by kernel_rfl, _, rfl⟩)))))))
  · refine seeI.mk [2, 3, 4, 28, 6] [(_, some _)] (subO_one rfl) ?_; simp (maxSteps := 2000000) (disch := omega) only [go_sem]; unfold AdI; exact .inr (.inr (.inr (.inr (.inr (.inr (.inl ⟨rfl, by kernel_rfl, _, rfl⟩))))))
  · refine seeI.mk [2, 3, 4, 30, 6] [(_, some _)] (subO_one rfl) ?_; simp (maxSteps := 2000000) (disch := omega) only [go_sem]; unfold AdI; exact .inr (.inr (.inr (.inr (.inr (.inr (.inr (.inl ⟨rfl, by kernel_rfl, _, rfl⟩)))))))
  · refine seeI.mk [2, 3, 4, 28, 29, 30] [] trivial ?_; simp (maxSteps := 2000000) (disch := omega) only [go_sem]; unfold AdI; exact .inr (.inr (.inr (.inr (.inr (.inr (.inr (.inr (.inl ⟨rfl, by kernel_rfl, rfl⟩))))))))
  · refine seeI.mk [2, 3, 4, 28, 29, 6] [(_, some _)] (subO_one rfl) ?_; simp (maxSteps := 2000000) (disch := omega) only [go_sem]; unfold AdI; exact .inr (.inr (.inr (.inr (.inr (.inr (.inr (.inr (.inr (.inl ⟨rfl, by kernel_rfl, _, rfl⟩)))))))))
  · refine seeI.mk [2, 3, 4, 28, 29, 30] [] trivial ?_; simp (maxSteps := 2000000) (disch := omega) only [go_sem]; unfold AdI; exact .inr (.inr (.inr (.inr (.inr (.inr (.inr (.inr (.inl ⟨rfl, by kernel_rfl, rfl⟩))))))))
  · refine seeI.mk [2, 3, 4, 28, 30, 6] [(_, some _)] (subO_one rfl) ?_; simp (maxSteps := 2000000) (disch := omega) only [go_sem]; unfold AdI; exact .inr (.inr (.inr (.inr (.inr (.inr (.inr (.inr (.inr (.inr (.inl ⟨rfl, by kernel_rfl, _, rfl⟩))))))))))
  · refine seeI.mk [2, 3, 4, 28, 29, 6] [(_, some _)] (subO_one rfl) ?_; simp (maxSteps := 2000000) (disch := omega) only [go_sem]; unfold AdI; exact .inr (.inr (.inr (.inr (.inr (.inr (.inr (.inr (.inr (.inl ⟨rfl, by kernel_rfl, _, rfl⟩)))))))))
  · refine seeI.mk [2, 3, 4, 28, 30, 6] [(_, some _)] (subO_one rfl) ?_; simp (maxSteps := 2000000) (disch := omega) only [go_sem]; unfold AdI; exact .inr (.inr (.inr (.inr (.inr (.inr (.inr (.inr (.inr (.inr (.inl ⟨rfl, by kernel_rfl, _, rfl⟩))))))))))
  · refine seeI.mk [2, 3, 4, 28, 30, 6] [(_, some _)] (subO_one rfl) ?_; simp (maxSteps := 2000000) (disch := omega) only [go_sem]; unfold AdI; exact .inr (.inr (.inr (.inr (.inr (.inr (.inr (.inr (.inr (.inr (.inl ⟨rfl, by kernel_rfl, _, rfl⟩))))))))))
  · refine seeI.mk [2, 3, 4, 28, 29, 30, 31] [] trivial ?_; simp (maxSteps := 2000000) (disch := omega) only [go_sem]; unfold AdI; exact .inr (.inr (.inr (.inr (.inr (.inr (.inr (.inr (.inr (.inr (.inr (.inl ⟨rfl, by kernel_rfl, rfl⟩)))))))))))
  · refine seeI.mk [2, 3, 4, 28, 29, 30, 6] [(_, some _)] (subO_one rfl) ?_; simp (maxSteps := 2000000) (disch := omega) only [go_sem]; unfold AdI; exact .inr (.inr (.inr (.inr (.inr (.inr (.inr (.inr (.inr (.inr (.inr (.inr (.inl ⟨rfl, by kernel_rfl, _, rfl⟩))))))))))))
  · refine seeI.mk [2, 3, 4, 28, 29, 30, 6] [(_, some _)] (subO_one rfl) ?_; simp (maxSteps := 2000000) (disch := omega) only [go_sem]; unfold AdI; exact .inr (.inr (.inr (.inr (.inr (.inr (.inr (.inr (.inr (.inr (.inr (.inr (.inl ⟨rfl, by kernel_rfl, _, rfl⟩))))))))))))
  · refine seeI.mk [2, 3, 4, 28, 29, 30, 6] [(_, some _)] (subO_one rfl) ?_; simp (maxSteps := 2000000) (disch := omega) only [go_sem]; unfold AdI; exact .inr (.inr (.inr (.inr (.inr (.inr (.inr (.inr (.inr (.inr (.inr (.inr (.inl ⟨rfl, by kernel_rfl, _, rfl⟩))))))))))))
  · refine seeI.mk [2, 3, 4, 28, 29, 30, 31, 32] [] trivial ?_; simp (maxSteps := 2000000) (disch := omega) only [go_sem]; unfold AdI; exact .inr (.inr (.inr (.inr (.inr (.inr (.inr (.inr (.inr (.inr (.inr (.inr (.inr (.inl ⟨rfl, by kernel_rfl, rfl⟩)))))))))))))
  · refine seeI.mk [2, 3, 4, 28, 29, 30, 31, 6] [(_, some _)] (subO_one rfl) ?_; simp (maxSteps := 2000000) (disch := omega) only [go_sem]; unfold AdI; exact .inr (.inr (.inr (.inr (.inr (.inr (.inr (.inr (.inr (.inr (.inr (.inr (.inr (.inr (.inl ⟨rfl, by kernel_rfl, _, rfl⟩))))))))))))))
  · refine seeI.mk [2, 3, 4, 28, 29, 30, 31, 6] [(_, some _)] (subO_one rfl) ?_; simp (maxSteps := 2000000) (disch := omega) only [go_sem]; unfold AdI; exact .inr (.inr (.inr (.inr (.inr (.inr (.inr (.inr (.inr (.inr (.inr (.inr (.inr (.inr (.inl ⟨rfl, by kernel_rfl, _, rfl⟩))))))))))))))
  · refine seeI.mk [2, 3, 4, 28, 29, 30, 31, 32, 27] [] trivial ?_; simp (maxSteps := 2000000) (disch := omega) only [go_sem]; unfold AdI; exact .inr (.inr (.inr (.inr (.inr (.inr (.inr (.inr (.inr (.inr (.inr (.inr (.inr (.inr (.inr (.inl ⟨rfl, by kernel_rfl, rfl⟩)))))))))))))))
  · refine seeI.mk [2, 3, 4, 28, 29, 30, 31, 32, 6] [(_, some _)] (subO_one rfl) ?_; simp (maxSteps := 2000000) (disch := omega) only [go_sem]; unfold AdI; exact .inr (.inr (.inr (.inr (.inr (.inr (.inr (.inr (.inr (.inr (.inr (.inr (.inr (.inr (.inr (.inr (.inl ⟨rfl, by kernel_rfl, _, rfl⟩))))))))))))))))
  · refine seeI.mk [2, 3, 4, 28, 29, 30, 31, 32, 6] [(_, some _)] (subO_one rfl) ?_; simp (maxSteps := 2000000) (disch := omega) only [go_sem]; unfold AdI; exact .inr (.inr (.inr (.inr (.inr (.inr (.inr (.inr (.inr (.inr (.inr (.inr (.inr (.inr (.inr (.inr (.inl ⟨rfl, by kernel_rfl, _, rfl⟩))))))))))))))))
  · refine seeI.mk [2, 3, 4, 28, 29, 30, 31, 32, 27, 33] [] trivial ?_; simp (maxSteps := 2000000) (disch := omega) only [go_sem]; unfold AdI; exact .inr (.inr (.inr (.inr (.inr (.inr (.inr (.inr (.inr (.inr (.inr (.inr (.inr (.inr (.inr (.inr (.inr (.inl ⟨rfl, by kernel_rfl, rfl⟩)))))))))))))))))
  · refine seeI.mk [2, 3, 4, 28, 29, 30, 31, 32, 27, 34] [] trivial ?_; simp (maxSteps := 2000000) (disch := omega) only [go_sem]; unfold AdI; exact .inr (.inr (.inr (.inr (.inr (.inr (.inr (.inr (.inr (.inr (.inr (.inr (.inr (.inr (.inr (.inr (.inr (.inr (.inl ⟨rfl, by kernel_rfl, rfl⟩))))))))))))))))))
  · refine seeI.mk [2, 3, 4, 28, 29, 30, 31, 32, 27, 6] [(_, some _)] (subO_one rfl) ?_; simp (maxSteps := 2000000) (disch := omega) only [go_sem]; unfold AdI; exact .inr (.inr (.inr (.inr (.inr (.inr (.inr (.inr (.inr (.inr (.inr (.inr (.inr (.inr (.inr (.inr (.inr (.inr (.inr (.inl ⟨rfl, by kernel_rfl, _, rfl⟩)))))))))))))))))))
  · refine seeI.mk [2, 3, 4, 28, 29, 30, 31, 32, 27, 6] [(_, some _)] (subO_one rfl) ?_; simp (maxSteps := 2000000) (disch := omega) only [go_sem]; unfold AdI; exact .inr (.inr (.inr (.inr (.inr (.inr (.inr (.inr (.inr (.inr (.inr (.inr (.inr (.inr (.inr (.inr (.inr (.inr (.inr (.inl ⟨rfl, by kernel_rfl, _, rfl⟩)))))))))))))))))))
  · refine seeI.mk [2, 3, 4, 28, 29, 30, 31, 32, 27, 33, 34] [] trivial ?_; simp (maxSteps := 2000000) (disch := omega) only [go_sem]; unfold AdI; exact .inr (.inr (.inr (.inr (.inr (.inr (.inr (.inr (.inr (.inr (.inr (.inr (.inr (.inr (.inr (.inr (.inr (.inr (.inr (.inr (.inl ⟨rfl, by kernel_rfl, rfl⟩))))))))))))))))))))
  · refine seeI.mk [2, 3, 4, 28, 29, 30, 31, 32, 27, 33, 6] [(_, some _)] (subO_one rfl) ?_; simp (maxSteps := 2000000) (disch := omega) only [go_sem]; unfold AdI; exact .inr (.inr (.inr (.inr (.inr (.inr (.inr (.inr (.inr (.inr (.inr (.inr (.inr (.inr (.inr (.inr (.inr (.inr (.inr (.inr (.inr (.inl ⟨rfl, by kernel_rfl, _, rfl⟩)))))))))))))))))))))
  · refine seeI.mk [2, 3, 4, 28, 29, 30, 31, 32, 27, 33, 34] [] trivial ?_; simp (maxSteps := 2000000) (disch := omega) only [go_sem]; unfold AdI; exact .inr (.inr (.inr (.inr (.inr (.inr (.inr (.inr (.inr (.inr (.inr (.inr (.inr (.inr (.inr (.inr (.inr (.inr (.inr (.inr (.inl ⟨rfl, by kernel_rfl, rfl⟩))))))))))))))))))))
  · refine seeI.mk [2, 3, 4, 28, 29, 30, 31, 32, 27, 34, 6] [(_, some _)] (subO_one rfl) ?_; simp (maxSteps := 2000000) (disch := omega) only [go_sem]; unfold AdI; exact .inr (.inr (.inr (.inr (.inr (.inr (.inr (.inr (.inr (.inr (.inr (.inr (.inr (.inr (.inr (.inr (.inr (.inr (.inr (.inr (.inr (.inr (.inl ⟨rfl, by kernel_rfl, _, rfl⟩))))))))))))))))))))))
  · refine seeI.mk [2, 3, 4, 28, 29, 30, 31, 32, 27, 33, 6] [(_, some _)] (subO_one rfl) ?_; simp (maxSteps := 2000000) (disch := omega) only [go_sem]; unfold AdI; exact .inr (.inr (.inr (.inr (.inr (.inr (.inr (.inr (.inr (.inr (.inr (.inr (.inr (.inr (.inr (.inr (.inr (.inr (.inr (.inr (.inr (.inl ⟨rfl, by kernel_rfl, _, rfl⟩)))))))))))))))))))))
  · refine seeI.mk [2, 3, 4, 28, 29, 30, 31, 32, 27, 34, 6] [(_, some _)] (subO_one rfl) ?_; simp (maxSteps := 2000000) (disch := omega) only [go_sem]; unfold AdI; exact .inr (.inr (.inr (.inr (.inr (.inr (.inr (.inr (.inr (.inr (.inr (.inr (.inr (.inr (.inr (.inr (.inr (.inr (.inr (.inr (.inr (.inr (.inl ⟨rfl, by kernel_rfl, _, rfl⟩))))))))))))))))))))))
  · refine seeI.mk [2, 3, 4, 28, 29, 30, 31, 32, 27, 33, 34, 6] [(_, some _)] (subO_one rfl) ?_; simp (maxSteps := 2000000) (disch := omega) only [go_sem]; unfold AdI; exact .inr (.inr (.inr (.inr (.inr (.inr (.inr (.inr (.inr (.inr (.inr (.inr (.inr (.inr (.inr (.inr (.inr (.inr (.inr (.inr (.inr (.inr (.inr (.inl ⟨rfl, by kernel_rfl, _, rfl⟩)))))))))))))))))))))))
  · refine seeI.mk [2, 3, 4, 28, 29, 30, 31, 32, 27, 33, 34, 6] [(_, some _)] (subO_one rfl) ?_; simp (maxSteps := 2000000) (disch := omega) only [go_sem]; unfold AdI; exact .inr (.inr (.inr (.inr (.inr (.inr (.inr (.inr (.inr (.inr (.inr (.inr (.inr (.inr (.inr (.inr (.inr (.inr (.inr (.inr (.inr (.inr (.inr (.inl ⟨rfl, by kernel_rfl, _, rfl⟩)))))))))))))))))))))))
  · refine seeI.mk [2, 3, 4, 28, 29, 30, 31, 32, 27, 33, 6] [(_, some _)] (subO_one rfl) ?_; simp (maxSteps := 2000000) (disch := omega) only [go_sem]; unfold AdI; exact .inr (.inr (.inr (.inr (.inr (.inr (.inr (.inr (.inr (.inr (.inr (.inr (.inr (.inr (.inr (.inr (.inr (.inr (.inr (.inr (.inr (.inr (.inr (.inr (.inl ⟨rfl, by kernel_rfl, _, rfl⟩))))))))))))))))))))))))
  · refine seeI.mk [2, 3, 4, 28, 29, 30, 31, 32, 27, 33, 34, 6] [(_, some _)] (subO_one rfl) ?_; simp (maxSteps := 2000000) (disch := omega) only [go_sem]; unfold AdI; exact .inr (.inr (.inr (.inr (.inr (.inr (.inr (.inr (.inr (.inr (.inr (.inr (.inr (.inr (.inr (.inr (.inr (.inr (.inr (.inr (.inr (.inr (.inr (.inl ⟨rfl, by kernel_rfl, _, rfl⟩)))))))))))))))))))))))
  · refine seeI.mk [2, 3, 4, 28, 29, 30, 31, 32, 27, 33, 34, 6] [(_, some _)] (subO_one rfl) ?_; simp (maxSteps := 2000000) (disch := omega) only [go_sem]; unfold AdI; exact .inr (.inr (.inr (.inr (.inr (.inr (.inr (.inr (.inr (.inr (.inr (.inr (.inr (.inr (.inr (.inr (.inr (.inr (.inr (.inr (.inr (.inr (.inr (.inr (.inr (.inl ⟨rfl, by kernel_rfl, _, rfl⟩)))))))))))))))))))))))))
  · refine seeI.mk [2, 3, 4, 28, 29, 30, 31, 32, 27, 33, 34, 6] [(_, some _)] (subO_one rfl) ?_; simp (maxSteps := 2000000) (disch := omega) only [go_sem]; unfold AdI; exact .inr (.inr (.inr (.inr (.inr (.inr (.inr (.inr (.inr (.inr (.inr (.inr (.inr (.inr (.inr (.inr (.inr (.inr (.inr (.inr (.inr (.inr (.inr (.inr (.inr (.inl ⟨rfl, by kernel_rfl, _, rfl⟩)))))))))))))))))))))))))
  · refine seeI.mk [2, 3, 4, 28, 29, 30, 31, 32, 27, 33, 34, 6, 7] [(_, some _)] (subO_one rfl) ?_; simp (maxSteps := 2000000) (disch := omega) only [go_sem]; unfold AdI; exact .inr (.inr (.inr (.inr (.inr (.inr (.inr (.inr (.inr (.inr (.inr (.inr (.inr (.inr (.inr (.inr (.inr (.inr (.inr (.inr (.inr (.inr (.inr (.inr (.inr (.inr (⟨rfl, by kernel_rfl, _, rfl⟩))))))))))))))))))))))))))
theorem lawAddService_c (x0 : Dt.GPlan) (x1 : Dt.GService) : LawC Tryz.prog 6 [encPlan false x0, encService false x1] := by
  by_cases h0 : szPlan x0 1048576 < 0
  · exact .raw (lawAddService_A0 x0 x1 h0) trivial
  have le0 := szPlan_le x0 1048576 (by omega)
  by_cases h1 : szService x1 (szPlan x0 1048576) < 0
  · exact .raw (lawAddService_A1 x0 x1 h0 h1) trivial
  have le1 := szService_le x1 (szPlan x0 1048576) (by omega)
  exact .fit ⟨fitPlan x0 1048576 (by omega) (by omega) (by omega), fitService x1 (szPlan x0 1048576) (by omega) (by omega) (by omega), trivial⟩ (lawAddService_B x0 x1 h0 h1) trivial
end Go.Proofs.YtkdchlggdcmkbaaGreat
