/- By a program of this session (wip/tool/pp.py): plain Lean functions of the Go functions that this family of laws uses, the walks that the Go code comes to their answers, and the row of the law. No condition beside those that the row itself gives. -/
import Derived.Test.YtdbfclfglpbpmaaPF32Ox0
import Derived.Test.YtdbfclfglpbpmaaPF32Ox1
import Derived.Test.YtdbfclfglpbpmaaPF32Ox2
import Derived.Test.YtdbfclfglpbpmaaPF32Ox3
namespace Go.Proofs.Ytdbfclfglpbpmaa.PF32O
open Go.RowKit Go.Proofs.YtdbfclfglpbpmaaW.Hand Go.Proofs.YtdbfclfglpbpmaaW.PrintWords Go.Proofs.YtdbfclfglpbpmaaW.PrintLast Go.Proofs.YtdbfclfglpbpmaaW.PrintMore
attribute [local go_sem] max2_int min2_int max_two min_two max_three min_three max_four min_four   -- for this text's walks alone
set_option linter.unusedVariables false
set_option linter.unusedSimpArgs false

/-! ### batonlaw32_InboxOnce: function 8 -/
mutual
def batonlaw32_InboxOnce.j0 : Nat → List Int → List (S71) → Bool → Option (Bool)
  | 0, _, _, _ => none
  | k + 1, x0, x1, x26 => if x26 = true then (some true) else (if 300 ≤ 281474976710656 then (batonlaw32_InboxOnce.l0 k x0 x1 ([] : List Int) (List.replicate 300 false) 0 0 ([] : List (S142))) else (none))
def batonlaw32_InboxOnce.l0 : Nat → List Int → List (S71) → List Int → List Bool → Int → Int → List (S142) → Option (Bool)
  | 0, _, _, _, _, _, _, _ => none
  | k + 1, x0, x1, x6, x7, x8, x156000, x156001 => if x8 < (x1.length : Int) then (if 0 ≤ x8 then (if 0 ≤ (mn (wrap64 ((rd_T71 x1 x8).f0)) (x0.length : Int)) then (if (mn (wrap64 ((rd_T71 x1 x8).f0)) (x0.length : Int)) ≤ (mn (wrap64 ((mn (wrap64 ((rd_T71 x1 x8).f0)) (x0.length : Int)) + (wrap64 ((rd_T71 x1 x8).f1)))) (x0.length : Int)) then (if (mn (wrap64 ((mn (wrap64 ((rd_T71 x1 x8).f0)) (x0.length : Int)) + (wrap64 ((rd_T71 x1 x8).f1)))) (x0.length : Int)) ≤ (x0.length : Int) then ((inbox_Take.f k x156000 x156001 (mn (wrap64 ((rd_T71 x1 x8).f0)) (x0.length : Int)) ((x0.take ((mn (wrap64 ((mn (wrap64 ((rd_T71 x1 x8).f0)) (x0.length : Int)) + (wrap64 ((rd_T71 x1 x8).f1)))) (x0.length : Int)) : Int).toNat).drop ((mn (wrap64 ((rd_T71 x1 x8).f0)) (x0.length : Int)) : Int).toNat) 300).bind fun bt162 => (if (mn (wrap64 ((mn (wrap64 ((rd_T71 x1 x8).f0)) (x0.length : Int)) + (wrap64 ((rd_T71 x1 x8).f1)))) (x0.length : Int)) > (mn (wrap64 ((rd_T71 x1 x8).f0)) (x0.length : Int)) then (batonlaw32_InboxOnce.j2 k x0 x1 x6 x7 x8 (mn (wrap64 ((rd_T71 x1 x8).f0)) (x0.length : Int)) (mn (wrap64 ((mn (wrap64 ((rd_T71 x1 x8).f0)) (x0.length : Int)) + (wrap64 ((rd_T71 x1 x8).f1)))) (x0.length : Int)) bt162.2.2.1 bt162.2.2.2 (decide ((wrap64 ((mn (wrap64 ((mn (wrap64 ((rd_T71 x1 x8).f0)) (x0.length : Int)) + (wrap64 ((rd_T71 x1 x8).f1)))) (x0.length : Int)) - 1)) ≥ (wrap64 (x156000 + 64)))) bt162.1 bt162.2.1) else (batonlaw32_InboxOnce.j2 k x0 x1 x6 x7 x8 (mn (wrap64 ((rd_T71 x1 x8).f0)) (x0.length : Int)) (mn (wrap64 ((mn (wrap64 ((rd_T71 x1 x8).f0)) (x0.length : Int)) + (wrap64 ((rd_T71 x1 x8).f1)))) (x0.length : Int)) bt162.2.2.1 bt162.2.2.2 false bt162.1 bt162.2.1))) else (none)) else (none)) else (none)) else (none)) else (some true)
def batonlaw32_InboxOnce.j2 : Nat → List Int → List (S71) → List Int → List Bool → Int → Int → Int → List Int → Int → Bool → Int → List (S142) → Option (Bool)
  | 0, _, _, _, _, _, _, _, _, _, _, _, _ => none
  | k + 1, x0, x1, x6, x7, x8, x9, x10, x12, x13, x14, x171000, x171001 => if ((x13 == 2) != x14) = true then (batonlaw32_InboxOnce.j3 k x0 x1 x6 x7 x8 x9 x10 x12 x14 true x171000 x171001) else (if x14 = true then (batonlaw32_InboxOnce.j3 k x0 x1 x6 x7 x8 x9 x10 x12 x14 false x171000 x171001) else (batonlaw32_InboxOnce.j3 k x0 x1 x6 x7 x8 x9 x10 x12 x14 (x13 != 0) x171000 x171001))
def batonlaw32_InboxOnce.j3 : Nat → List Int → List (S71) → List Int → List Bool → Int → Int → Int → List Int → Bool → Bool → Int → List (S142) → Option (Bool)
  | 0, _, _, _, _, _, _, _, _, _, _, _, _ => none
  | k + 1, x0, x1, x6, x7, x8, x9, x10, x12, x14, x87, x171000, x171001 => if x87 = true then (some false) else (batonlaw32_InboxOnce.l1 k x0 x1 x6 x7 x8 x10 x12 x14 x9 x171000 x171001)
def batonlaw32_InboxOnce.j5 : Nat → List Int → List (S71) → List Int → List Bool → Int → List Int → Int → List (S142) → Option (Bool)
  | 0, _, _, _, _, _, _, _, _ => none
  | k + 1, x0, x1, x6, x7, x8, x12, x171000, x171001 => if x6.length + x12.length < 140737488355328 then (batonlaw32_InboxOnce.l2 k x0 x1 (x6 ++ x12) x7 x8 0 x171000 x171001) else (none)
def batonlaw32_InboxOnce.l2 : Nat → List Int → List (S71) → List Int → List Bool → Int → Int → Int → List (S142) → Option (Bool)
  | 0, _, _, _, _, _, _, _, _ => none
  | k + 1, x0, x1, x6, x7, x8, x16, x156000, x156001 => if x16 < (x0.length : Int) then (if 0 ≤ x16 then (if x16 < (x7.length : Int) then (if rdOf false x7 x16 = true then (batonlaw32_InboxOnce.l2 k x0 x1 x6 x7 x8 (wrap64 (x16 + 1)) x156000 x156001) else (if x156000 = x16 then (if (x6.length : Int) = x16 then (if x16 ≤ (x0.length : Int) then ((batonref01_Same.f k x6 (x0.take (x16 : Int).toNat)).bind fun t177 => (if t177 = true then (batonlaw32_InboxOnce.l0 k x0 x1 x6 x7 (wrap64 (x8 + 1)) x156000 x156001) else (some false))) else (none)) else (some false)) else (some false))) else (none)) else (none)) else (if x156000 = x16 then (if (x6.length : Int) = x16 then (if 0 ≤ x16 then (if x16 ≤ (x0.length : Int) then ((batonref01_Same.f k x6 (x0.take (x16 : Int).toNat)).bind fun t179 => (if t179 = true then (batonlaw32_InboxOnce.l0 k x0 x1 x6 x7 (wrap64 (x8 + 1)) x156000 x156001) else (some false))) else (none)) else (none)) else (some false)) else (some false))
def batonlaw32_InboxOnce.l1 : Nat → List Int → List (S71) → List Int → List Bool → Int → Int → List Int → Bool → Int → Int → List (S142) → Option (Bool)
  | 0, _, _, _, _, _, _, _, _, _, _, _ => none
  | k + 1, x0, x1, x6, x7, x8, x10, x12, x14, x15, x171000, x171001 => if x15 < x10 then (if x14 = true then (batonlaw32_InboxOnce.j5 k x0 x1 x6 x7 x8 x12 x171000 x171001) else (if 0 ≤ x15 then (if x15 < (x7.length : Int) then (batonlaw32_InboxOnce.l1 k x0 x1 x6 (x7.set (x15 : Int).toNat true) x8 x10 x12 x14 (wrap64 (x15 + 1)) x171000 x171001) else (none)) else (none))) else (batonlaw32_InboxOnce.j5 k x0 x1 x6 x7 x8 x12 x171000 x171001)
end
def batonlaw32_InboxOnce.f (k : Nat) (l0 : List Int) (l1 : List (S71)) : Option (Bool) := (batonlaw32_awake.f k).bind fun t154 => (if t154 = true then (if (l0.length : Int) > 200 then (batonlaw32_InboxOnce.j0 k l0 l1 true) else (batonlaw32_InboxOnce.j0 k l0 l1 (decide ((l1.length : Int) > 60)))) else (some false))
theorem batonlaw32_InboxOnce.mono_l : ∀ k, (∀ y0 y1 y2, LeO (batonlaw32_InboxOnce.j0 k y0 y1 y2) (batonlaw32_InboxOnce.j0 (k + 1) y0 y1 y2)) ∧ (∀ y0 y1 y2 y3 y4 y5 y6, LeO (batonlaw32_InboxOnce.l0 k y0 y1 y2 y3 y4 y5 y6) (batonlaw32_InboxOnce.l0 (k + 1) y0 y1 y2 y3 y4 y5 y6)) ∧ (∀ y0 y1 y2 y3 y4 y5 y6 y7 y8 y9 y10 y11, LeO (batonlaw32_InboxOnce.j2 k y0 y1 y2 y3 y4 y5 y6 y7 y8 y9 y10 y11) (batonlaw32_InboxOnce.j2 (k + 1) y0 y1 y2 y3 y4 y5 y6 y7 y8 y9 y10 y11)) ∧ (∀ y0 y1 y2 y3 y4 y5 y6 y7 y8 y9 y10 y11, LeO (batonlaw32_InboxOnce.j3 k y0 y1 y2 y3 y4 y5 y6 y7 y8 y9 y10 y11) (batonlaw32_InboxOnce.j3 (k + 1) y0 y1 y2 y3 y4 y5 y6 y7 y8 y9 y10 y11)) ∧ (∀ y0 y1 y2 y3 y4 y5 y6 y7, LeO (batonlaw32_InboxOnce.j5 k y0 y1 y2 y3 y4 y5 y6 y7) (batonlaw32_InboxOnce.j5 (k + 1) y0 y1 y2 y3 y4 y5 y6 y7)) ∧ (∀ y0 y1 y2 y3 y4 y5 y6 y7, LeO (batonlaw32_InboxOnce.l2 k y0 y1 y2 y3 y4 y5 y6 y7) (batonlaw32_InboxOnce.l2 (k + 1) y0 y1 y2 y3 y4 y5 y6 y7)) ∧ (∀ y0 y1 y2 y3 y4 y5 y6 y7 y8 y9 y10, LeO (batonlaw32_InboxOnce.l1 k y0 y1 y2 y3 y4 y5 y6 y7 y8 y9 y10) (batonlaw32_InboxOnce.l1 (k + 1) y0 y1 y2 y3 y4 y5 y6 y7 y8 y9 y10))
  | 0 => ⟨fun _ _ _ r h => by simp [batonlaw32_InboxOnce.j0] at h, fun _ _ _ _ _ _ _ r h => by simp [batonlaw32_InboxOnce.l0] at h, fun _ _ _ _ _ _ _ _ _ _ _ _ r h => by simp [batonlaw32_InboxOnce.j2] at h, fun _ _ _ _ _ _ _ _ _ _ _ _ r h => by simp [batonlaw32_InboxOnce.j3] at h, fun _ _ _ _ _ _ _ _ r h => by simp [batonlaw32_InboxOnce.j5] at h, fun _ _ _ _ _ _ _ _ r h => by simp [batonlaw32_InboxOnce.l2] at h, fun _ _ _ _ _ _ _ _ _ _ _ r h => by simp [batonlaw32_InboxOnce.l1] at h⟩
  | k + 1 => by
    obtain ⟨ih0, ih1, ih2, ih3, ih4, ih5, ih6⟩ := batonlaw32_InboxOnce.mono_l k
    refine ⟨?_, ?_, ?_, ?_, ?_, ?_, ?_⟩
    · intro y0 y1 y2
      unfold batonlaw32_InboxOnce.j0
      repeat' first
      | (with_reducible exact ih0 _ _ _)
      | (with_reducible exact ih1 _ _ _ _ _ _ _)
      | (with_reducible exact ih2 _ _ _ _ _ _ _ _ _ _ _ _)
      | (with_reducible exact ih3 _ _ _ _ _ _ _ _ _ _ _ _)
      | (with_reducible exact ih4 _ _ _ _ _ _ _ _)
      | (with_reducible exact ih5 _ _ _ _ _ _ _ _)
      | (with_reducible exact ih6 _ _ _ _ _ _ _ _ _ _ _)
      | (with_reducible exact batonlaw32_awake.mono _)
      | (with_reducible exact batonref01_Same.mono _ _ _)
      | (with_reducible exact inbox_Take.mono _ _ _ _ _ _)
      | (with_reducible exact LeO.refl _)
      | (with_reducible exact LeO.none _)
      | (with_reducible refine LeO.ite ?_ ?_)
      | (with_reducible refine LeO.bind ?_ (fun _ => ?_))
      | exact ih0 _ _ _
      | exact ih1 _ _ _ _ _ _ _
      | exact ih2 _ _ _ _ _ _ _ _ _ _ _ _
      | exact ih3 _ _ _ _ _ _ _ _ _ _ _ _
      | exact ih4 _ _ _ _ _ _ _ _
      | exact ih5 _ _ _ _ _ _ _ _
      | exact ih6 _ _ _ _ _ _ _ _ _ _ _
      | exact batonlaw32_awake.mono _
      | exact batonref01_Same.mono _ _ _
      | exact inbox_Take.mono _ _ _ _ _ _
      | exact LeO.none _
      | refine LeO.ite ?_ ?_
      | refine LeO.bind ?_ (fun _ => ?_)
    · intro y0 y1 y2 y3 y4 y5 y6
      unfold batonlaw32_InboxOnce.l0
      repeat' first
      | (with_reducible exact ih0 _ _ _)
      | (with_reducible exact ih1 _ _ _ _ _ _ _)
      | (with_reducible exact ih2 _ _ _ _ _ _ _ _ _ _ _ _)
      | (with_reducible exact ih3 _ _ _ _ _ _ _ _ _ _ _ _)
      | (with_reducible exact ih4 _ _ _ _ _ _ _ _)
      | (with_reducible exact ih5 _ _ _ _ _ _ _ _)
      | (with_reducible exact ih6 _ _ _ _ _ _ _ _ _ _ _)
      | (with_reducible exact batonlaw32_awake.mono _)
      | (with_reducible exact batonref01_Same.mono _ _ _)
      | (with_reducible exact inbox_Take.mono _ _ _ _ _ _)
      | (with_reducible exact LeO.refl _)
      | (with_reducible exact LeO.none _)
      | (with_reducible refine LeO.ite ?_ ?_)
      | (with_reducible refine LeO.bind ?_ (fun _ => ?_))
      | exact ih0 _ _ _
      | exact ih1 _ _ _ _ _ _ _
      | exact ih2 _ _ _ _ _ _ _ _ _ _ _ _
      | exact ih3 _ _ _ _ _ _ _ _ _ _ _ _
      | exact ih4 _ _ _ _ _ _ _ _
      | exact ih5 _ _ _ _ _ _ _ _
      | exact ih6 _ _ _ _ _ _ _ _ _ _ _
      | exact batonlaw32_awake.mono _
      | exact batonref01_Same.mono _ _ _
      | exact inbox_Take.mono _ _ _ _ _ _
      | exact LeO.none _
      | refine LeO.ite ?_ ?_
      | refine LeO.bind ?_ (fun _ => ?_)
    · intro y0 y1 y2 y3 y4 y5 y6 y7 y8 y9 y10 y11
      unfold batonlaw32_InboxOnce.j2
      repeat' first
      | (with_reducible exact ih0 _ _ _)
      | (with_reducible exact ih1 _ _ _ _ _ _ _)
      | (with_reducible exact ih2 _ _ _ _ _ _ _ _ _ _ _ _)
      | (with_reducible exact ih3 _ _ _ _ _ _ _ _ _ _ _ _)
      | (with_reducible exact ih4 _ _ _ _ _ _ _ _)
      | (with_reducible exact ih5 _ _ _ _ _ _ _ _)
      | (with_reducible exact ih6 _ _ _ _ _ _ _ _ _ _ _)
      | (with_reducible exact batonlaw32_awake.mono _)
      | (with_reducible exact batonref01_Same.mono _ _ _)
      | (with_reducible exact inbox_Take.mono _ _ _ _ _ _)
      | (with_reducible exact LeO.refl _)
      | (with_reducible exact LeO.none _)
      | (with_reducible refine LeO.ite ?_ ?_)
      | (with_reducible refine LeO.bind ?_ (fun _ => ?_))
      | exact ih0 _ _ _
      | exact ih1 _ _ _ _ _ _ _
      | exact ih2 _ _ _ _ _ _ _ _ _ _ _ _
      | exact ih3 _ _ _ _ _ _ _ _ _ _ _ _
      | exact ih4 _ _ _ _ _ _ _ _
      | exact ih5 _ _ _ _ _ _ _ _
      | exact ih6 _ _ _ _ _ _ _ _ _ _ _
      | exact batonlaw32_awake.mono _
      | exact batonref01_Same.mono _ _ _
      | exact inbox_Take.mono _ _ _ _ _ _
      | exact LeO.none _
      | refine LeO.ite ?_ ?_
      | refine LeO.bind ?_ (fun _ => ?_)
    · intro y0 y1 y2 y3 y4 y5 y6 y7 y8 y9 y10 y11
      unfold batonlaw32_InboxOnce.j3
      repeat' first
      | (with_reducible exact ih0 _ _ _)
      | (with_reducible exact ih1 _ _ _ _ _ _ _)
      | (with_reducible exact ih2 _ _ _ _ _ _ _ _ _ _ _ _)
      | (with_reducible exact ih3 _ _ _ _ _ _ _ _ _ _ _ _)
      | (with_reducible exact ih4 _ _ _ _ _ _ _ _)
      | (with_reducible exact ih5 _ _ _ _ _ _ _ _)
      | (with_reducible exact ih6 _ _ _ _ _ _ _ _ _ _ _)
      | (with_reducible exact batonlaw32_awake.mono _)
      | (with_reducible exact batonref01_Same.mono _ _ _)
      | (with_reducible exact inbox_Take.mono _ _ _ _ _ _)
      | (with_reducible exact LeO.refl _)
      | (with_reducible exact LeO.none _)
      | (with_reducible refine LeO.ite ?_ ?_)
      | (with_reducible refine LeO.bind ?_ (fun _ => ?_))
      | exact ih0 _ _ _
      | exact ih1 _ _ _ _ _ _ _
      | exact ih2 _ _ _ _ _ _ _ _ _ _ _ _
      | exact ih3 _ _ _ _ _ _ _ _ _ _ _ _
      | exact ih4 _ _ _ _ _ _ _ _
      | exact ih5 _ _ _ _ _ _ _ _
      | exact ih6 _ _ _ _ _ _ _ _ _ _ _
      | exact batonlaw32_awake.mono _
      | exact batonref01_Same.mono _ _ _
      | exact inbox_Take.mono _ _ _ _ _ _
      | exact LeO.none _
      | refine LeO.ite ?_ ?_
      | refine LeO.bind ?_ (fun _ => ?_)
    · intro y0 y1 y2 y3 y4 y5 y6 y7
      unfold batonlaw32_InboxOnce.j5
      repeat' first
      | (with_reducible exact ih0 _ _ _)
      | (with_reducible exact ih1 _ _ _ _ _ _ _)
      | (with_reducible exact ih2 _ _ _ _ _ _ _ _ _ _ _ _)
      | (with_reducible exact ih3 _ _ _ _ _ _ _ _ _ _ _ _)
      | (with_reducible exact ih4 _ _ _ _ _ _ _ _)
      | (with_reducible exact ih5 _ _ _ _ _ _ _ _)
      | (with_reducible exact ih6 _ _ _ _ _ _ _ _ _ _ _)
      | (with_reducible exact batonlaw32_awake.mono _)
      | (with_reducible exact batonref01_Same.mono _ _ _)
      | (with_reducible exact inbox_Take.mono _ _ _ _ _ _)
      | (with_reducible exact LeO.refl _)
      | (with_reducible exact LeO.none _)
      | (with_reducible refine LeO.ite ?_ ?_)
      | (with_reducible refine LeO.bind ?_ (fun _ => ?_))
      | exact ih0 _ _ _
      | exact ih1 _ _ _ _ _ _ _
      | exact ih2 _ _ _ _ _ _ _ _ _ _ _ _
      | exact ih3 _ _ _ _ _ _ _ _ _ _ _ _
      | exact ih4 _ _ _ _ _ _ _ _
      | exact ih5 _ _ _ _ _ _ _ _
      | exact ih6 _ _ _ _ _ _ _ _ _ _ _
      | exact batonlaw32_awake.mono _
      | exact batonref01_Same.mono _ _ _
      | exact inbox_Take.mono _ _ _ _ _ _
      | exact LeO.none _
      | refine LeO.ite ?_ ?_
      | refine LeO.bind ?_ (fun _ => ?_)
    · intro y0 y1 y2 y3 y4 y5 y6 y7
      unfold batonlaw32_InboxOnce.l2
      repeat' first
      | (with_reducible exact ih0 _ _ _)
      | (with_reducible exact ih1 _ _ _ _ _ _ _)
      | (with_reducible exact ih2 _ _ _ _ _ _ _ _ _ _ _ _)
      | (with_reducible exact ih3 _ _ _ _ _ _ _ _ _ _ _ _)
      | (with_reducible exact ih4 _ _ _ _ _ _ _ _)
      | (with_reducible exact ih5 _ _ _ _ _ _ _ _)
      | (with_reducible exact ih6 _ _ _ _ _ _ _ _ _ _ _)
      | (with_reducible exact batonlaw32_awake.mono _)
      | (with_reducible exact batonref01_Same.mono _ _ _)
      | (with_reducible exact inbox_Take.mono _ _ _ _ _ _)
      | (with_reducible exact LeO.refl _)
      | (with_reducible exact LeO.none _)
      | (with_reducible refine LeO.ite ?_ ?_)
      | (with_reducible refine LeO.bind ?_ (fun _ => ?_))
      | exact ih0 _ _ _
      | exact ih1 _ _ _ _ _ _ _
      | exact ih2 _ _ _ _ _ _ _ _ _ _ _ _
      | exact ih3 _ _ _ _ _ _ _ _ _ _ _ _
      | exact ih4 _ _ _ _ _ _ _ _
      | exact ih5 _ _ _ _ _ _ _ _
      | exact ih6 _ _ _ _ _ _ _ _ _ _ _
      | exact batonlaw32_awake.mono _
      | exact batonref01_Same.mono _ _ _
      | exact inbox_Take.mono _ _ _ _ _ _
      | exact LeO.none _
      | refine LeO.ite ?_ ?_
      | refine LeO.bind ?_ (fun _ => ?_)
    · intro y0 y1 y2 y3 y4 y5 y6 y7 y8 y9 y10
      unfold batonlaw32_InboxOnce.l1
      repeat' first
      | (with_reducible exact ih0 _ _ _)
      | (with_reducible exact ih1 _ _ _ _ _ _ _)
      | (with_reducible exact ih2 _ _ _ _ _ _ _ _ _ _ _ _)
      | (with_reducible exact ih3 _ _ _ _ _ _ _ _ _ _ _ _)
      | (with_reducible exact ih4 _ _ _ _ _ _ _ _)
      | (with_reducible exact ih5 _ _ _ _ _ _ _ _)
      | (with_reducible exact ih6 _ _ _ _ _ _ _ _ _ _ _)
      | (with_reducible exact batonlaw32_awake.mono _)
      | (with_reducible exact batonref01_Same.mono _ _ _)
      | (with_reducible exact inbox_Take.mono _ _ _ _ _ _)
      | (with_reducible exact LeO.refl _)
      | (with_reducible exact LeO.none _)
      | (with_reducible refine LeO.ite ?_ ?_)
      | (with_reducible refine LeO.bind ?_ (fun _ => ?_))
      | exact ih0 _ _ _
      | exact ih1 _ _ _ _ _ _ _
      | exact ih2 _ _ _ _ _ _ _ _ _ _ _ _
      | exact ih3 _ _ _ _ _ _ _ _ _ _ _ _
      | exact ih4 _ _ _ _ _ _ _ _
      | exact ih5 _ _ _ _ _ _ _ _
      | exact ih6 _ _ _ _ _ _ _ _ _ _ _
      | exact batonlaw32_awake.mono _
      | exact batonref01_Same.mono _ _ _
      | exact inbox_Take.mono _ _ _ _ _ _
      | exact LeO.none _
      | refine LeO.ite ?_ ?_
      | refine LeO.bind ?_ (fun _ => ?_)
theorem batonlaw32_InboxOnce.mono : ∀ a0 a1 k, LeO (batonlaw32_InboxOnce.f k a0 a1) (batonlaw32_InboxOnce.f (k + 1) a0 a1) := by
  intro a0 a1 k
  obtain ⟨ih0, ih1, ih2, ih3, ih4, ih5, ih6⟩ := batonlaw32_InboxOnce.mono_l k
  unfold batonlaw32_InboxOnce.f
  repeat' first
      | (with_reducible exact ih0 _ _ _)
      | (with_reducible exact ih1 _ _ _ _ _ _ _)
      | (with_reducible exact ih2 _ _ _ _ _ _ _ _ _ _ _ _)
      | (with_reducible exact ih3 _ _ _ _ _ _ _ _ _ _ _ _)
      | (with_reducible exact ih4 _ _ _ _ _ _ _ _)
      | (with_reducible exact ih5 _ _ _ _ _ _ _ _)
      | (with_reducible exact ih6 _ _ _ _ _ _ _ _ _ _ _)
      | (with_reducible exact batonlaw32_awake.mono _)
      | (with_reducible exact batonref01_Same.mono _ _ _)
      | (with_reducible exact inbox_Take.mono _ _ _ _ _ _)
      | (with_reducible exact LeO.refl _)
      | (with_reducible exact LeO.none _)
      | (with_reducible refine LeO.ite ?_ ?_)
      | (with_reducible refine LeO.bind ?_ (fun _ => ?_))
      | exact ih0 _ _ _
      | exact ih1 _ _ _ _ _ _ _
      | exact ih2 _ _ _ _ _ _ _ _ _ _ _ _
      | exact ih3 _ _ _ _ _ _ _ _ _ _ _ _
      | exact ih4 _ _ _ _ _ _ _ _
      | exact ih5 _ _ _ _ _ _ _ _
      | exact ih6 _ _ _ _ _ _ _ _ _ _ _
      | exact batonlaw32_awake.mono _
      | exact batonref01_Same.mono _ _ _
      | exact inbox_Take.mono _ _ _ _ _ _
      | exact LeO.none _
      | refine LeO.ite ?_ ?_
      | refine LeO.bind ?_ (fun _ => ?_)
def batonlaw32_InboxOnce.T13 : Bool × List (List Nat × List Nat) := (true, [([], []), ([], []), ([], []), ([], []), ([], []), ([2, 3, 4], [2, 3, 4]), ([0, 1, 5], [0, 1, 5]), ([6], [6]), ([7], [7]), ([7], [7]), ([7], [7]), ([], []), ([11, 8, 6, 0, 1, 2, 3, 4, 5, 6, 7, 8, 11], [8, 11]), ([9, 12, 0, 1, 2, 3, 4, 5, 6, 7, 8, 9, 11, 12], [9]), ([10, 13, 0, 1, 2, 3, 4, 5, 6, 7, 8, 9, 10, 11, 12, 13], [10])])
def batonlaw32_InboxOnce.B13 : List Nat := [0, 0, 0, 0, 0, 28, 63, 127, 255, 255, 255, 0, 2559, 7167, 16383]
theorem batonlaw32_InboxOnce.tab13 : rtab .any (opsOf Try.f8 13) = batonlaw32_InboxOnce.T13 := by kernel_rfl
theorem batonlaw32_InboxOnce.bits13 : waitsOk batonlaw32_InboxOnce.T13.2 batonlaw32_InboxOnce.B13 = true := by kernel_rfl
set_option maxHeartbeats 8000000 in
set_option maxRecDepth 100000 in
theorem batonlaw32_InboxOnce.calls (k : Nat) (A0 : Option Addr) (c0 : Nat) (l0 : List Int) (A1 : Option Addr) (c1 : Nat) (l1 : List (S71)) (r : Bool) (w : World) (hr0 : Kd.C (Kd.int .u8) w A0 l0.length l0) (hc0 : l0.length ≤ c0) (hr1 : Kd.C k71 w A1 l1.length l1) (hc1 : l1.length ≤ c1) (h : batonlaw32_InboxOnce.f k l0 l1 = some r) :
    Calls Try.prog 8 #[.slice A0 l0.length c0, .slice A1 l1.length c1] w fun e w' => e = .returned (.bool r) ∧ Below w.heap.size w w' := by
  have hu68 := Try.underlying68
  have HR0 := Aside0.mk hr0
  have HC0 := Aside0.mk hc0
  clear hr0 hc0
  have HR1 := Aside0.mk hr1
  have HC1 := Aside0.mk hc1
  clear hr1 hc1
  have HB := Aside0.mk (Below.refl w.heap.size w)
  have H : ((batonlaw32_awake.f k).bind fun t154 => (if t154 = true then (if (l0.length : Int) > 200 then (batonlaw32_InboxOnce.j0 k l0 l1 true) else (batonlaw32_InboxOnce.j0 k l0 l1 (decide ((l1.length : Int) > 60)))) else (some false))) = some r := h
  clear h
  replace H := Option.bind_eq_some_iff.mp H
  obtain ⟨t154, A30, H⟩ := H
  replace H : (if t154 = true then (if (l0.length : Int) > 200 then (batonlaw32_InboxOnce.j0 k l0 l1 true) else (batonlaw32_InboxOnce.j0 k l0 l1 (decide ((l1.length : Int) > 60)))) else (some false)) = some r := H
  have A3 := Aside0.mk A30
  clear A30
  by_cases c4 : t154 = true
  · subst c4
    have H1 : (if (l0.length : Int) > 200 then (batonlaw32_InboxOnce.j0 k l0 l1 true) else (batonlaw32_InboxOnce.j0 k l0 l1 (decide ((l1.length : Int) > 60)))) = some r := by rw [if_pos rfl] at H; exact H
    clear H
    have H := H1
    clear H1
    have HC5 := Aside0.mk H
    clear H
    go_enter Try.func8, Try.ntmps8
    go_upto_region 3 with (first | ((with_reducible refine gate_callee (f := 36) rfl ?_); refine goesL_ (some 17) rfl rfl Try.func36 (by kernel_rfl) rfl #[] rfl (by (try simp only [List.map_toArray, List.map_cons, List.map_nil]); first | done | rfl | (simp only [List.length_drop, List.length_take]; rfl)) ?_; (with_reducible refine (batonlaw32_awake.calls k  true _ A3.out).mono ?_); rintro e w6 ⟨rfl, hb⟩; refine ⟨_, rfl, ?_⟩; have n0_ := Aside0.mk (below_step (by repeat (first | (with_reducible first | exact HB.out | apply below_alloc | apply pw_below_drewN | apply below_drew1) | exact HB.out)) hb); clear HB; have HB := n0_; clear n0_; (try clear hb); (try clear hb2); (try clear hk); (try clear hi)))
    (try simp only [Act.put, List.setIfInBounds_toArray, List.set_cons_zero, List.set_cons_succ])
    go_cut [26] (fun v26 wc => ∃ (kq : Nat) (x26_4 : Bool), v26 = .bool x26_4 ∧ Aside0 (batonlaw32_InboxOnce.j0 kq l0 l1 x26_4 = some r) ∧ Aside0 (kq ≤ k) ∧ Aside0 (Below w.heap.size w wc))
    case first =>
      have H := HC5.out
      clear HC5
      by_cases c7 : (l0.length : Int) > 200
      · rw [if_pos c7] at H
        have c7b0 : decide (200 < (l0.length : Int)) = true := decide_eq_true c7
        have c7b1 : decide (200 < l0.length) = true := decide_eq_true (by omega)
        clear c7
        (first | rw [c7b0] | (simp only [i64_w, i32_w]; rw [c7b0]) | rw [c7b1] | rw [c7b2] | skip)
        have H' := Aside0.mk H
        clear H
        go_wp2
        go_meet
        case rel => exact ⟨_, (true), (by first | rfl | (simp; done) | (simp [*]; done)), H', ⟨by first | omega | exact Nat.le_refl _⟩, ⟨by repeat (first | (with_reducible first | exact HB.out | apply below_alloc | apply pw_below_drewN | apply below_drew1) | exact HB.out)⟩⟩
      · rw [if_neg c7] at H
        have c7b0 : decide (200 < (l0.length : Int)) = false := decide_eq_false c7
        have c7b1 : decide (200 < l0.length) = false := decide_eq_false (by omega)
        clear c7
        (first | rw [c7b0] | (simp only [i64_w, i32_w]; rw [c7b0]) | rw [c7b1] | rw [c7b2] | skip)
        have H' := Aside0.mk H
        clear H
        go_wp2
        go_meet
        case rel => exact ⟨_, (decide ((l1.length : Int) > 60)), (by first | rfl | (simp; done) | (simp [*]; done)), H', ⟨by first | omega | exact Nat.le_refl _⟩, ⟨by repeat (first | (with_reducible first | exact HB.out | apply below_alloc | apply pw_below_drewN | apply below_drew1) | exact HB.out)⟩⟩
    case rest =>
      clear HC5
      try clear c1
      try clear p2
      try clear c3
      try clear c4
      try clear c7
      try clear c7b0
      try clear c7b1
      try clear c7b2
      obtain ⟨kq, x26_4, rfl, HA, HJ4, HB⟩ := hcut
      cases kq with
      | zero => exact absurd HA.out (by simp [batonlaw32_InboxOnce.j0])
      | succ kj4 =>
        have H := HA.out
        clear HA
        simp only [batonlaw32_InboxOnce.j0] at H
        by_cases c8 : x26_4 = true
        · subst c8
          have H1 : (some true) = some r := by rw [if_pos rfl] at H; exact H
          clear H
          have H := H1
          clear H1
          obtain rfl := Option.some.inj H
          go_wp2
          go_ret
          exact ⟨by first | rfl | (simp [errW_none, errW_some] <;> rfl) | (simp [*, errW_none, errW_some] <;> rfl), by repeat (first | (with_reducible first | exact HB.out | apply below_alloc | apply pw_below_drewN | apply below_drew1) | exact HB.out)⟩
        · replace c8 := Bool.eq_false_iff.mpr c8
          subst c8
          have H1 : (if 300 ≤ 281474976710656 then (batonlaw32_InboxOnce.l0 kj4 l0 l1 ([] : List Int) (List.replicate 300 false) 0 0 ([] : List (S142))) else (none)) = some r := by rw [if_neg (show ¬ (false = true) by decide)] at H; exact H
          clear H
          have H := H1
          clear H1
          by_cases c9 : 300 ≤ 281474976710656
          · rw [if_pos c9] at H
            have c9b0 := eq_true c9
            have c9b1 : decide (300 ≤ 281474976710656) = true := decide_eq_true c9
            clear c9
            obtain ⟨y156, hy156⟩ : ∃ y_ : List Bool, y_ = (List.replicate 300 false) := ⟨_, rfl⟩
            replace H : (batonlaw32_InboxOnce.l0 kj4 l0 l1 ([] : List Int) y156 0 0 ([] : List (S142))) = some r := by first | (rw [hy156]; with_reducible exact H) | (have H2_ := (Option.bind_some _ _).symm.trans H; rw [hy156]; with_reducible exact H2_) | (have H2_ := (Option.bind_some _ _).symm.trans H; with_reducible exact H2_) | with_reducible exact H | (rw [hy156]; exact H) | exact H
            have Ny156 := Aside0.mk hy156
            clear hy156
            have H' := Aside0.mk H
            clear H
            go_wp2_with (first | ((with_reducible refine gate_dst (N := 5) rfl ?_); (try (refine gate_guard (by rfl) ?_; dsimp only)); refine box_event ?hg (N := 5) ?hd (cs := #[.int .i64 0, .slice none 0 0]) (t := 68) ?hr ?_; (case hd => rfl); (case hg => rfl); (case hr => first | (go_simp; done) | (go_simp; rfl)); intro gb155 hg w10 hbox hb; have n0_ := Aside0.mk (below_step (by repeat (first | (with_reducible first | exact HB.out | apply below_alloc | apply pw_below_drewN | apply below_drew1) | exact HB.out)) hb); have n1_ := Aside0.mk (hbox); have n2_ := Aside0.mk ((by rw [hg]; exact (below_size (by repeat (first | (with_reducible first | exact HB.out | apply below_alloc | apply pw_below_drewN | apply below_drew1) | exact HB.out))) : w.heap.size ≤ gb155)); have n3_ := Aside0.mk ((by rw [hg]; exact (below_size (by repeat (first | (with_reducible first | exact HB.out | apply below_alloc | apply pw_below_drewN | apply below_drew1) | exact HB.out))) : w.heap.size ≤ gb155)); clear HB; have HB := n0_; have BK155 := n1_; have GW155 := n2_; have GE155 := n3_; clear n0_ n1_ n2_ n3_; clear hb hbox hg) | ((with_reducible refine gate_dst (N := 27) rfl ?_); (try (refine gate_guard (by rfl) ?_; dsimp only)); refine Kd.R_make Kd.bool _ 4 rfl (N := 27) rfl 69 _ _ rfl 300 rfl rfl Try.underlying69 (.bool false) 1 info4 rfl (by decide) (by omega) false (ok := fun _ => True) (okp := fun _ => True) rfl (fun _ hk => hk) trivial (by omega) (by omega) (Below.refl _ _) (Nat.le_refl _) ?_; intro v157 w11 ho12 hb hg_ hnew_; clear hg_ hnew_; (first | rw [← Ny156.out] at ho12 | (simp only [Int.reduceToNat] at ho12; rw [← Ny156.out] at ho12)); have n0_ := Aside0.mk (Kd.R_lower ho12 (below_size (by repeat (first | (with_reducible first | exact HB.out | apply below_alloc | apply pw_below_drewN | apply below_drew1 | refine below_set ?_ GE155.out) | exact HB.out)))); have n1_ := Aside0.mk (blk_below (g := gb155) (o := .cells #[.int .i64 0, .slice none 0 0] 68 (0, 0)) (by (with_reducible repeat (first | refine blk_drewN ?_ _ | refine blk_drew ?_ | refine blk_alloc ?_ _)); exact BK155.out) hb); have n2_ := Aside0.mk (below_step (by repeat (first | (with_reducible first | exact HB.out | apply below_alloc | apply pw_below_drewN | apply below_drew1 | refine below_set ?_ GE155.out) | exact HB.out)) hb); clear BK155; clear HB; have HO158 := n0_; have BK155 := n1_; have HB := n2_; clear n0_ n1_ n2_; clear hb ho12))
            go_loopg [6, 8] kj4 (fun kq v6 v8 w' => ∃ (x6_2 : List Int) (x7_2 : List Bool) (x8_2 : Int) (x156000_2 : Int) (x156001_2 : List (S142)) (u156001 : Value), v8 = .int .i64 x8_2 ∧ Aside0 (batonlaw32_InboxOnce.l0 kq l0 l1 x6_2 x7_2 x8_2 x156000_2 x156001_2 = some r) ∧ Aside0 (kq ≤ kj4) ∧ Aside0 (Kd.R (Kd.int .u8) 5 w' w.heap.size (fun _ => True) v6 x6_2) ∧ Aside0 (Kd.R Kd.bool 4 w' w.heap.size (fun _ => True) v157 x7_2) ∧ Aside0 (Kd.V k142 142 w' w.heap.size (fun k_ => some k_ ≠ (v6 : Value).ownBlock ∧ some k_ ≠ (v157 : Value).ownBlock ∧ k_ ≠ gb155) u156001 x156001_2) ∧ Aside0 (w'.heap[gb155]? = some (.cells #[.int .i64 x156000_2, u156001] 68 (0, 0))) ∧ Aside0 (Below w.heap.size w w'))
            case atStart => exact ⟨(([] : List Int)), (y156), (0), (0), (([] : List (S142))), (.slice none 0 0), (by first | rfl | (simp; done) | (simp [*]; done)), H', ⟨Nat.le_refl _⟩, ⟨by first | exact Kd.R_nil _ _ _ _ _ | exact Kd.N_nil _ _ _ _ _ | exact Kd.V_nil _ _ _ _ _ | exact Kd.Q_nil _ _ _ _ _ | exact Kd.S_nil _ _ _ _ _⟩, ⟨by (with_reducible repeat (first | apply Kd.R_alloc | apply Kd.R_drewN | apply Kd.R_drew)); exact HO158.out⟩, ⟨(Kd.V_nil _ _ _ _ _)⟩, ⟨by (with_reducible repeat (first | refine blk_drewN ?_ _ | refine blk_drew ?_ | refine blk_alloc ?_ _)); exact BK155.out⟩, ⟨by repeat (first | (with_reducible first | exact HB.out | apply below_alloc | apply pw_below_drewN | apply below_drew1 | refine below_set ?_ GE155.out) | exact HB.out)⟩⟩
            case round =>
              clear H'
              try clear c1
              try clear p2
              try clear c3
              try clear c4
              try clear c7
              try clear c7b0
              try clear c7b1
              try clear c7b2
              try clear c8
              try clear c9
              try clear c9b0
              try clear c9b1
              try clear p2
              obtain ⟨x6_2, x7_2, x8_2, x156000_2, x156001_2, u156001, rfl, HA, HK2, HO_6, HO_7, HO_156001, BK155, HB⟩ := hrel
              cases gk with
              | zero => exact absurd HA.out (by simp [batonlaw32_InboxOnce.l0])
              | succ k2 =>
                have H := HA.out
                clear HA
                simp only [batonlaw32_InboxOnce.l0] at H
                by_cases c13 : x8_2 < (l1.length : Int)
                · rw [if_pos c13] at H
                  have c13b0 : decide (x8_2 < (l1.length : Int)) = true := decide_eq_true c13
                  clear c13
                  by_cases c14 : 0 ≤ x8_2
                  · rw [if_pos c14] at H
                    have c14b0 : decide (0 ≤ x8_2) = true := decide_eq_true c14
                    clear c14
                    obtain ⟨ji15, hji15⟩ : ∃ j_ : Int, (mn (wrap64 ((rd_T71 l1 x8_2).f0)) (l0.length : Int)) = j_ := ⟨_, rfl⟩
                    replace H : (if 0 ≤ (ji15) then (if (ji15) ≤ (mn (wrap64 ((ji15) + (wrap64 ((rd_T71 l1 x8_2).f1)))) (l0.length : Int)) then (if (mn (wrap64 ((ji15) + (wrap64 ((rd_T71 l1 x8_2).f1)))) (l0.length : Int)) ≤ (l0.length : Int) then ((inbox_Take.f k2 x156000_2 x156001_2 (ji15) ((l0.take ((mn (wrap64 ((ji15) + (wrap64 ((rd_T71 l1 x8_2).f1)))) (l0.length : Int)) : Int).toNat).drop ((ji15) : Int).toNat) 300).bind fun bt162 => (if (mn (wrap64 ((ji15) + (wrap64 ((rd_T71 l1 x8_2).f1)))) (l0.length : Int)) > (ji15) then (batonlaw32_InboxOnce.j2 k2 l0 l1 x6_2 x7_2 x8_2 ji15 (mn (wrap64 ((ji15) + (wrap64 ((rd_T71 l1 x8_2).f1)))) (l0.length : Int)) bt162.2.2.1 bt162.2.2.2 (decide ((wrap64 ((mn (wrap64 ((ji15) + (wrap64 ((rd_T71 l1 x8_2).f1)))) (l0.length : Int)) - 1)) ≥ (wrap64 (x156000_2 + 64)))) bt162.1 bt162.2.1) else (batonlaw32_InboxOnce.j2 k2 l0 l1 x6_2 x7_2 x8_2 ji15 (mn (wrap64 ((ji15) + (wrap64 ((rd_T71 l1 x8_2).f1)))) (l0.length : Int)) bt162.2.2.1 bt162.2.2.2 false bt162.1 bt162.2.1))) else (none)) else (none)) else (none)) = some r := by first | (rw [hji15] at H; exact H) | (simp only [hji15] at H ⊢; exact H)
                    have hji15_ : (if (l0.length : Int) < (wrap64 ((rd_T71 l1 x8_2).f0)) then (l0.length : Int) else (wrap64 ((rd_T71 l1 x8_2).f0))) = ji15 := hji15
                    obtain ⟨ji16, hji16⟩ : ∃ j_ : Int, (mn (wrap64 ((ji15) + (wrap64 ((rd_T71 l1 x8_2).f1)))) (l0.length : Int)) = j_ := ⟨_, rfl⟩
                    replace H : (if 0 ≤ (ji15) then (if (ji15) ≤ (ji16) then (if (ji16) ≤ (l0.length : Int) then ((inbox_Take.f k2 x156000_2 x156001_2 (ji15) ((l0.take ((ji16) : Int).toNat).drop ((ji15) : Int).toNat) 300).bind fun bt162 => (if (ji16) > (ji15) then (batonlaw32_InboxOnce.j2 k2 l0 l1 x6_2 x7_2 x8_2 ji15 ji16 bt162.2.2.1 bt162.2.2.2 (decide ((wrap64 ((ji16) - 1)) ≥ (wrap64 (x156000_2 + 64)))) bt162.1 bt162.2.1) else (batonlaw32_InboxOnce.j2 k2 l0 l1 x6_2 x7_2 x8_2 ji15 ji16 bt162.2.2.1 bt162.2.2.2 false bt162.1 bt162.2.1))) else (none)) else (none)) else (none)) = some r := by first | (rw [hji16] at H; exact H) | (simp only [hji16] at H ⊢; exact H)
                    have hji16_ : (if (l0.length : Int) < (wrap64 ((ji15) + (wrap64 ((rd_T71 l1 x8_2).f1)))) then (l0.length : Int) else (wrap64 ((ji15) + (wrap64 ((rd_T71 l1 x8_2).f1))))) = ji16 := hji16
                    by_cases c17 : 0 ≤ (ji15)
                    · rw [if_pos c17] at H
                      have c17b0 := eq_true c17
                      have c17b1 : decide (0 ≤ (ji15)) = true := decide_eq_true c17
                      clear c17
                      by_cases c18 : (ji15) ≤ (ji16)
                      · rw [if_pos c18] at H
                        have c18b0 := eq_true c18
                        have c18b1 : decide ((ji15) ≤ (ji16)) = true := decide_eq_true c18
                        clear c18
                        by_cases c19 : (ji16) ≤ (l0.length : Int)
                        · rw [if_pos c19] at H
                          have c19b0 := eq_true c19
                          have c19b1 : decide ((ji16) ≤ (l0.length : Int)) = true := decide_eq_true c19
                          clear c19
                          replace H := Option.bind_eq_some_iff.mp H
                          obtain ⟨⟨t162, t163, t166, t169⟩, A200, H⟩ := H
                          replace H : (if (ji16) > (ji15) then (batonlaw32_InboxOnce.j2 k2 l0 l1 x6_2 x7_2 x8_2 ji15 ji16 t166 t169 (decide ((wrap64 ((ji16) - 1)) ≥ (wrap64 (x156000_2 + 64)))) t162 t163) else (batonlaw32_InboxOnce.j2 k2 l0 l1 x6_2 x7_2 x8_2 ji15 ji16 t166 t169 false t162 t163)) = some r := H
                          have A20 := Aside0.mk A200
                          clear A200
                          have HC21 := Aside0.mk H
                          clear H
                          have p159 : 0 ≤ (x8_2 : Int) := of_decide_eq_true (by first | (with_reducible assumption) | assumption)
                          have q159 : x8_2 < (l1.length : Int) := of_decide_eq_true (by first | (with_reducible assumption) | assumption)
                          obtain ⟨ad159, e159, hx159_0, hx159_1⟩ := at_T71 HR1.out x8_2 p159 q159
                          cases e159
                          replace hx159_0 := (HB.out.cell (World.block_lt_of_cell? w _ hx159_0)).trans hx159_0
                          replace hx159_1 := (HB.out.cell (World.block_lt_of_cell? w _ hx159_1)).trans hx159_1
                          replace p159 := eq_true p159
                          replace q159 := eq_true q159
                          have p160 : 0 ≤ (x8_2 : Int) := of_decide_eq_true (by first | (with_reducible assumption) | assumption)
                          have q160 : x8_2 < (l1.length : Int) := of_decide_eq_true (by first | (with_reducible assumption) | assumption)
                          obtain ⟨ad160, e160, hx160_0, hx160_1⟩ := at_T71 HR1.out x8_2 p160 q160
                          obtain rfl : ad159 = ad160 := (by injection e160)
                          replace hx160_0 := (HB.out.cell (World.block_lt_of_cell? w _ hx160_0)).trans hx160_0
                          replace hx160_1 := (HB.out.cell (World.block_lt_of_cell? w _ hx160_1)).trans hx160_1
                          replace p160 := eq_true p160
                          replace q160 := eq_true q160
                          obtain ⟨Ao22, co22, eo22⟩ := Kd.V_slice HO_156001.out
                          subst eo22
                          try go_wp2
                          have n0_ := Aside0.mk (Kd.R_drew HO_6.out)
                          have n1_ := Aside0.mk (Kd.R_drew HO_7.out)
                          have n2_ := Aside0.mk (Kd.V_drew HO_156001.out)
                          have n3_ := Aside0.mk (blk_drew BK155.out)
                          have n4_ := Aside0.mk (below_drew1 HB.out)
                          clear HO_6
                          clear HO_7
                          clear HO_156001
                          clear BK155
                          clear HB
                          have HO_6 := n0_
                          have HO_7 := n1_
                          have HO_156001 := n2_
                          have BK155 := n3_
                          have HB := n4_
                          clear n0_ n1_ n2_ n3_ n4_
                          obtain ⟨i024, hi024, _, hsz24, _⟩ := info_parts info5
                          obtain ⟨A24, hcut24, hA24, hC24⟩ := print_mid_of (P := Try.prog) (Value.int .u8) 0 22 5 .i64 .i64 Try.underlying22 hi024 hsz24 A0 c0 l0 (ji15) (ji16) (of_decide_eq_true (by first | (with_reducible assumption) | assumption)) (by first | omega | exact of_decide_eq_true (by first | (with_reducible assumption) | assumption)) (of_decide_eq_true (by first | (with_reducible assumption) | assumption)) HC0.out
                          have HR161 := Aside0.mk (Kd.C_of_reads (h1 := fun _ => rfl) (hA24 _ (Kd.reads_of_C HR0.out)))
                          have HC161 := Aside0.mk hC24
                          clear hA24 hC24 hi024 hsz24
                          refine start_ (n := 15) (S := fun w' => w'.cell? ⟨gb155, 0, none⟩ = some (.int .i64 x156000_2) ∧ w'.cell? ⟨gb155, 1, none⟩ = some (.slice Ao22 x156001_2.length co22)) (ds := []) #[false, false, false, false, false, false, false, false, false, false, false, false, false, false, false] (by kernel_rfl) rfl rfl ⟨(blk_cell BK155.out 0).trans rfl, (blk_cell BK155.out 1).trans rfl⟩ (fun hHeld => ?_); refine with_tabW batonlaw32_InboxOnce.tab13 batonlaw32_InboxOnce.bits13 (fun HT_ HW_ => ?_)
                          generalize wr.drew = w23 at HO_6 HO_7 HO_156001 BK155 HB HR161 hHeld ⊢
                          refine pure_ (i := 1) (N := some 56) (v := ?_) (a' := ?_) #[false, true, false, false, false, false, false, false, false, false, false, false, false, false, false] rfl rfl (any_of HT_.out (by kernel_rfl)) (fun _ _ _ h => h) (Or.inl ⟨by rfl, ?_⟩) ?_ ?_
                          rotate_left
                          · intro w'
                            go_simp
                            with_reducible rfl
                          rotate_left
                          · simp only [Act.put, List.setIfInBounds_toArray, List.set_cons_zero, List.set_cons_succ, i64_w, i32_w]
                            rfl
                          refine pure_ (i := 2) (N := some 57) (v := ?_) (a' := ?_) #[false, true, true, false, false, false, false, false, false, false, false, false, false, false, false] rfl rfl (any_of HT_.out (by kernel_rfl)) (fun _ _ _ h => h) (Or.inl ⟨by rfl, ?_⟩) ?_ ?_
                          rotate_left
                          · intro w'
                            go_simp
                            with_reducible rfl
                          rotate_left
                          · simp only [Act.put, List.setIfInBounds_toArray, List.set_cons_zero, List.set_cons_succ, i64_w, i32_w]
                            rfl
                          refine pure_ (i := 3) (N := some 58) (v := ?_) (a' := ?_) #[false, true, true, true, false, false, false, false, false, false, false, false, false, false, false] rfl rfl (any_of HT_.out (by kernel_rfl)) (fun _ _ _ h => h) (Or.inl ⟨by rfl, ?_⟩) ?_ ?_
                          rotate_left
                          · intro w'
                            go_simp
                            with_reducible rfl
                          rotate_left
                          · simp only [Act.put, List.setIfInBounds_toArray, List.set_cons_zero, List.set_cons_succ, i64_w, i32_w]
                            rfl
                          refine pure_ (i := 4) (N := some 59) (v := ?_) (a' := ?_) #[false, true, true, true, true, false, false, false, false, false, false, false, false, false, false] rfl rfl (any_of HT_.out (by kernel_rfl)) (fun _ _ _ h => h) (Or.inl ⟨by rfl, ?_⟩) ?_ ?_
                          rotate_left
                          · intro w'
                            go_simp
                            with_reducible rfl
                          rotate_left
                          · simp only [Act.put, List.setIfInBounds_toArray, List.set_cons_zero, List.set_cons_succ, i64_w, i32_w]
                            rfl
                          refine pure_ (i := 5) (N := some 60) (v := ?_) (a' := ?_) #[false, true, true, true, true, true, false, false, false, false, false, false, false, false, false] rfl rfl (any_of HT_.out (by kernel_rfl)) (fun _ _ _ h => h) (Or.inl ⟨by rfl, ?_⟩) ?_ ?_
                          rotate_left
                          · intro w'
                            go_simp
                            with_reducible rfl
                          rotate_left
                          · simp only [Act.put, List.setIfInBounds_toArray, List.set_cons_zero, List.set_cons_succ, i64_w, i32_w]
                            rfl
                          refine take_ (i := 0) (N := some 55) (v := ?_) (a' := ?_) #[true, true, true, true, true, true, false, false, false, false, false, false, false, false, false] rfl rfl (take_ofW HT_.out HW_.out (by kernel_rfl)) (fun _ _ _ h => h) (Or.inl ⟨by rfl, ?_⟩) hHeld ?_ ?_
                          rotate_left
                          · rintro w' ⟨s0, s1⟩
                            go_simp
                            with_reducible rfl
                          rotate_left
                          · simp only [Act.put, List.setIfInBounds_toArray, List.set_cons_zero, List.set_cons_succ, i64_w, i32_w]
                            rfl
                          refine join_ (σ := Value × Value × Nat) 3 #[true, true, true, true, true, true, true, true, true, true, true, true, false, false, false] (fun s_ => [(61, .tuple #[.agg #[.int .i64 t162, s_.1], s_.2.1, .int .i64 t169]), (11, .pointer (some ⟨s_.2.2, 0, none⟩)), (54, .tuple #[.agg #[.int .i64 t162, s_.1], s_.2.1, .int .i64 t169]), (62, .agg #[.int .i64 t162, s_.1]), (63, s_.2.1), (64, .int .i64 t169)]) (fun s_ w' => (w'.cell? ⟨gb155, 0, none⟩ = some (.int .i64 x156000_2) ∧ w'.cell? ⟨gb155, 1, none⟩ = some (.slice Ao22 x156001_2.length co22)) ∧ (Kd.V k142 142 w' w.heap.size (fun k_ => some k_ ≠ (s_.2.1 : Value).ownBlock ∧ some k_ ≠ (u6 : Value).ownBlock ∧ some k_ ≠ (v157 : Value).ownBlock ∧ k_ ≠ gb155 ∧ k_ ≠ s_.2.2) s_.1 t163) ∧ (Kd.R (Kd.int .u8) 5 w' w.heap.size (fun k_ => some k_ ≠ (u6 : Value).ownBlock) s_.2.1 t166) ∧ (Kd.V k142 142 w' w.heap.size (fun k_ => some k_ ≠ (s_.2.1 : Value).ownBlock ∧ some k_ ≠ (u6 : Value).ownBlock ∧ some k_ ≠ (v157 : Value).ownBlock ∧ k_ ≠ gb155 ∧ k_ ≠ s_.2.2) (.slice Ao22 x156001_2.length co22) x156001_2) ∧ (Kd.R (Kd.int .u8) 5 w' w.heap.size (fun k_ => some k_ ≠ (s_.2.1 : Value).ownBlock) u6 x6_2) ∧ (Kd.R Kd.bool 4 w' w.heap.size (fun _ => True) v157 x7_2) ∧ (w'.heap[gb155]? = some (.cells #[.int .i64 x156000_2, .slice Ao22 x156001_2.length co22] 68 (0, 0))) ∧ (w'.heap[s_.2.2]? = some (.cells #[.int .i64 0, .slice none 0 0] 68 (0, 0))) ∧ (w.heap.size ≤ s_.2.2) ∧ (w.heap.size ≤ s_.2.2) ∧ (gb155 ≠ s_.2.2) ∧ (s_.2.2 ≠ gb155) ∧ (Below w.heap.size w w')) ?_ ?_
                          rotate_left
                          · intro hCont
                            refine two_ (i := 6) (j := 11) (Ni := some 61) (Nj := some 11) #[true, true, true, true, true, true, true, false, false, false, false, false, false, false, false] #[true, true, true, true, true, true, false, false, false, false, false, true, false, false, false] rfl rfl rfl rfl (two_of HT_.out (by kernel_rfl)) (by decide) (by decide) (fun K hK => ?_) (fun K hK => ?_)
                            · skip
                              refine goes_ Try.func37 (by kernel_rfl) rfl #[.agg #[.int .i64 x156000_2, .slice Ao22 x156001_2.length co22], .int .i64 ji15, .slice A24 ((l0.take ((ji16) : Int).toNat).drop ((ji15) : Int).toNat).length (c0 - (ji15).toNat), .int .i64 300] (by rfl) rfl rfl (by (try simp only [List.map_toArray, List.map_cons, List.map_nil]); first | done | (rw [show ((l0.take ((ji16) : Int).toNat).drop ((ji15) : Int).toNat).length = ((ji16).toNat - (ji15).toNat) from (by rw [List.length_drop, List.length_take]; have h_ : ((ji16) : Int) ≤ (l0.length : Int) := of_decide_eq_true (by first | (with_reducible assumption) | assumption); omega)] <;> rfl) | (simp only [hji15, hji16]; rfl) | rfl | (simp only [List.length_drop, List.length_take]; rfl)) ?_
                              with_reducible refine (inbox_Take.calls k2 x156000_2 (fun k_ => (some k_ ≠ (u6 : Value).ownBlock ∧ (some k_ ≠ (v157 : Value).ownBlock ∧ k_ ≠ gb155))) _ _ x156001_2 ji15 _ _ ((l0.take ((ji16) : Int).toNat).drop ((ji15) : Int).toNat) 300 t162 t163 t166 t169 _ ?side1 ?side2 ?side3 A20.out).mono ?_
                              (case side1 => exact HO_156001.out)
                              (case side2 => repeat (first | exact (Kd.C_below HR161.out HB.out) | (with_reducible refine Kd.C_alloc ?_ _) | (with_reducible refine Kd.C_drewN ?_ _) | (with_reducible refine Kd.C_drew ?_)))
                              (case side3 => exact HC161.out)
                              rintro e w25 ⟨v164, v167, rfl, ho0, ho1, hb⟩
                              refine ⟨_, rfl, ?_⟩
                              have n0_ := Aside0.mk (Kd.R_elder' (by (with_reducible repeat (first | apply Kd.R_alloc | apply Kd.R_drewN | apply Kd.R_drew)); exact HO_6.out) (Kd.R_base ho1) hb)
                              have n1_ := Aside0.mk (Kd.R_below (by (with_reducible repeat (first | apply Kd.R_alloc | apply Kd.R_drewN | apply Kd.R_drew)); exact HO_7.out) hb)
                              have n2_ := Aside0.mk (Kd.V_elder' (by (with_reducible repeat (first | apply Kd.V_alloc | apply Kd.V_drewN | apply Kd.V_drew)); exact HO_156001.out) (Kd.R_base ho1) hb)
                              have n3_ := Aside0.mk (Kd.V_lower (Kd.V_mono (ok' := fun k_ => some k_ ≠ (v167 : Value).ownBlock ∧ some k_ ≠ (u6 : Value).ownBlock ∧ some k_ ≠ (v157 : Value).ownBlock ∧ k_ ≠ gb155) ho0 (fun k_ hk_ => ⟨hk_.2, Or.elim hk_.1 (fun hs_ => hs_.1) (fun hn_ => (Kd.fresh' (Kd.R_lt (by (with_reducible repeat (first | apply Kd.R_alloc | apply Kd.R_drewN | apply Kd.R_drew)); exact HO_6.out)) k_ hn_)), Or.elim hk_.1 (fun hs_ => hs_.2.1) (fun hn_ => (Kd.fresh' (Kd.R_lt (by (with_reducible repeat (first | apply Kd.R_alloc | apply Kd.R_drewN | apply Kd.R_drew)); exact HO_7.out)) k_ hn_)), Or.elim hk_.1 (fun hs_ => hs_.2.2) (fun hn_ => (Kd.freshB (g := gb155) (o := .cells #[.int .i64 x156000_2, .slice Ao22 x156001_2.length co22] 68 (0, 0)) (by (with_reducible repeat (first | refine blk_drewN ?_ _ | refine blk_drew ?_ | refine blk_alloc ?_ _)); exact BK155.out) k_ hn_))⟩)) (below_size (by repeat (first | (with_reducible first | exact HB.out | apply below_alloc | apply pw_below_drewN | apply below_drew1 | refine below_set ?_ GE155.out) | exact HB.out))))
                              have n4_ := Aside0.mk (Kd.R_lower (Kd.R_new' (Kd.R_mono (ok' := fun k_ => True) ho1 (fun _ hk_ => trivial)) (Kd.R_lt (by (with_reducible repeat (first | apply Kd.R_alloc | apply Kd.R_drewN | apply Kd.R_drew)); exact HO_6.out))) (below_size (by repeat (first | (with_reducible first | exact HB.out | apply below_alloc | apply pw_below_drewN | apply below_drew1 | refine below_set ?_ GE155.out) | exact HB.out))))
                              have n5_ := Aside0.mk (blk_below (g := gb155) (o := .cells #[.int .i64 x156000_2, .slice Ao22 x156001_2.length co22] 68 (0, 0)) (by (with_reducible repeat (first | refine blk_drewN ?_ _ | refine blk_drew ?_ | refine blk_alloc ?_ _)); exact BK155.out) hb)
                              have n6_ := Aside0.mk (below_step (by repeat (first | (with_reducible first | exact HB.out | apply below_alloc | apply pw_below_drewN | apply below_drew1 | refine below_set ?_ GE155.out) | exact HB.out)) hb)
                              clear HO_6
                              clear HO_7
                              clear HO_156001
                              clear BK155
                              clear HB
                              have HO_6 := n0_
                              have HO_7 := n1_
                              have HO_156001 := n2_
                              have HO165 := n3_
                              have HO168 := n4_
                              have BK155 := n5_
                              have HB := n6_
                              clear n0_ n1_ n2_ n3_ n4_ n5_ n6_
                              (try clear hb)
                              (try clear hb2)
                              (try clear hk)
                              (try clear hi)
                              (try clear ho0)
                              (try clear ho1)
                              refine hK.out _ _ ⟨(blk_cell BK155.out 0).trans rfl, (blk_cell BK155.out 1).trans rfl⟩ (fun hHeld => ?_)
                              clear hK K
                              refine norm_ (a' := ?_) ?_ ?_
                              rotate_left
                              · show Act.put _ (some 61) _ = _
                                simp only [Act.put, List.setIfInBounds_toArray, List.set_cons_zero, List.set_cons_succ, i64_w, i32_w]
                                rfl
                              refine pure_ (i := 7) (N := some 54) (v := ?_) (a' := ?_) #[true, true, true, true, true, true, true, true, false, false, false, false, false, false, false] rfl rfl (any_of HT_.out (by kernel_rfl)) (fun _ _ _ h => h) (Or.inl ⟨by rfl, ?_⟩) ?_ ?_
                              rotate_left
                              · intro w'
                                go_simp
                                with_reducible rfl
                              rotate_left
                              · simp only [Act.put, List.setIfInBounds_toArray, List.set_cons_zero, List.set_cons_succ, i64_w, i32_w]
                                rfl
                              refine pure_ (i := 8) (N := some 62) (v := ?_) (a' := ?_) #[true, true, true, true, true, true, true, true, true, false, false, false, false, false, false] rfl rfl (any_of HT_.out (by kernel_rfl)) (fun _ _ _ h => h) (Or.inl ⟨by rfl, ?_⟩) ?_ ?_
                              rotate_left
                              · intro w'
                                go_simp
                                with_reducible rfl
                              rotate_left
                              · simp only [Act.put, List.setIfInBounds_toArray, List.set_cons_zero, List.set_cons_succ, i64_w, i32_w]
                                rfl
                              refine pure_ (i := 9) (N := some 63) (v := ?_) (a' := ?_) #[true, true, true, true, true, true, true, true, true, true, false, false, false, false, false] rfl rfl (any_of HT_.out (by kernel_rfl)) (fun _ _ _ h => h) (Or.inl ⟨by rfl, ?_⟩) ?_ ?_
                              rotate_left
                              · intro w'
                                go_simp
                                with_reducible rfl
                              rotate_left
                              · simp only [Act.put, List.setIfInBounds_toArray, List.set_cons_zero, List.set_cons_succ, i64_w, i32_w]
                                rfl
                              refine pure_ (i := 10) (N := some 64) (v := ?_) (a' := ?_) #[true, true, true, true, true, true, true, true, true, true, true, false, false, false, false] rfl rfl (any_of HT_.out (by kernel_rfl)) (fun _ _ _ h => h) (Or.inl ⟨by rfl, ?_⟩) ?_ ?_
                              rotate_left
                              · intro w'
                                go_simp
                                with_reducible rfl
                              rotate_left
                              · simp only [Act.put, List.setIfInBounds_toArray, List.set_cons_zero, List.set_cons_succ, i64_w, i32_w]
                                rfl
                              refine one_ (i := 11) (N := some 11) #[true, true, true, true, true, true, true, true, true, true, true, true, false, false, false] rfl rfl (one_of HT_.out (by kernel_rfl)) (by decide) (fun K hK => ?_)
                              refine box_step ?hg (N := 11) ?hd (cs := #[.int .i64 0, .slice none 0 0]) (t := 68) ?hr ?_; (case hd => rfl); (case hg => rfl); (case hr => first | (go_simp; done) | (go_simp; rfl))
                              intro gb170 hg w26 hbox hb
                              have n0_ := Aside0.mk (Kd.R_below (by (with_reducible repeat (first | apply Kd.R_alloc | apply Kd.R_drewN | apply Kd.R_drew)); exact HO_6.out) hb)
                              have n1_ := Aside0.mk (Kd.R_below (by (with_reducible repeat (first | apply Kd.R_alloc | apply Kd.R_drewN | apply Kd.R_drew)); exact HO_7.out) hb)
                              have n2_ := Aside0.mk (Kd.V_below (Kd.V_elderB (by (with_reducible repeat (first | apply Kd.V_alloc | apply Kd.V_drewN | apply Kd.V_drew)); exact HO_156001.out) gb170 (Nat.le_of_eq hg.symm)) hb)
                              have n3_ := Aside0.mk (Kd.V_below (Kd.V_elderB (by (with_reducible repeat (first | apply Kd.V_alloc | apply Kd.V_drewN | apply Kd.V_drew)); exact HO165.out) gb170 (Nat.le_of_eq hg.symm)) hb)
                              have n4_ := Aside0.mk (Kd.R_below (by (with_reducible repeat (first | apply Kd.R_alloc | apply Kd.R_drewN | apply Kd.R_drew)); exact HO168.out) hb)
                              have n5_ := Aside0.mk (blk_below (g := gb155) (o := .cells #[.int .i64 x156000_2, .slice Ao22 x156001_2.length co22] 68 (0, 0)) (by (with_reducible repeat (first | refine blk_drewN ?_ _ | refine blk_drew ?_ | refine blk_alloc ?_ _)); exact BK155.out) hb)
                              have n6_ := Aside0.mk (below_step (by repeat (first | (with_reducible first | exact HB.out | apply below_alloc | apply pw_below_drewN | apply below_drew1 | refine below_set ?_ GE155.out) | exact HB.out)) hb)
                              have n7_ := Aside0.mk (hbox)
                              have n8_ := Aside0.mk ((by rw [hg]; exact (below_size (by repeat (first | (with_reducible first | exact HB.out | apply below_alloc | apply pw_below_drewN | apply below_drew1 | refine below_set ?_ GE155.out) | exact HB.out))) : w.heap.size ≤ gb170))
                              have n9_ := Aside0.mk ((by rw [hg]; exact (below_size (by repeat (first | (with_reducible first | exact HB.out | apply below_alloc | apply pw_below_drewN | apply below_drew1 | refine below_set ?_ GE155.out) | exact HB.out))) : w.heap.size ≤ gb170))
                              have n10_ := Aside0.mk ((by rw [hg]; exact Nat.ne_of_lt (blk_lt (g := gb155) (o := .cells #[.int .i64 x156000_2, .slice Ao22 x156001_2.length co22] 68 (0, 0)) (by (with_reducible repeat (first | refine blk_drewN ?_ _ | refine blk_drew ?_ | refine blk_alloc ?_ _)); exact BK155.out)) : gb155 ≠ gb170))
                              have n11_ := Aside0.mk ((by rw [hg]; exact Nat.ne_of_gt (blk_lt (g := gb155) (o := .cells #[.int .i64 x156000_2, .slice Ao22 x156001_2.length co22] 68 (0, 0)) (by (with_reducible repeat (first | refine blk_drewN ?_ _ | refine blk_drew ?_ | refine blk_alloc ?_ _)); exact BK155.out)) : gb170 ≠ gb155))
                              clear HO_6
                              clear HO_7
                              clear HO_156001
                              clear HO165
                              clear HO168
                              clear BK155
                              clear HB
                              have HO_6 := n0_
                              have HO_7 := n1_
                              have HO_156001 := n2_
                              have HO165 := n3_
                              have HO168 := n4_
                              have BK155 := n5_
                              have HB := n6_
                              have BK170 := n7_
                              have GW170 := n8_
                              have GE170 := n9_
                              have NB155_170 := n10_
                              have NB170_155 := n11_
                              clear n0_ n1_ n2_ n3_ n4_ n5_ n6_ n7_ n8_ n9_ n10_ n11_
                              clear hb hbox hg
                              refine hK.out _ _ ⟨(blk_cell BK155.out 0).trans rfl, (blk_cell BK155.out 1).trans rfl⟩ (fun hHeld => ?_)
                              clear hK K
                              refine norm_ (a' := ?_) ?_ ?_
                              rotate_left
                              · show Act.put _ (some 11) _ = _
                                simp only [Act.put, List.setIfInBounds_toArray, List.set_cons_zero, List.set_cons_succ, i64_w, i32_w]
                                rfl
                              exact norm_ (by simp only [putAll, Act.put, List.setIfInBounds_toArray, List.set_cons_zero, List.set_cons_succ]) (hCont (v164, v167, gb170) _ ⟨hHeld, (by (with_reducible repeat (first | apply Kd.V_alloc | apply Kd.V_drewN | apply Kd.V_drew)); exact Kd.V_mono HO165.out (fun _ hk => ⟨hk.1.1, ⟨hk.1.2.1, ⟨hk.1.2.2.1, ⟨hk.1.2.2.2, hk.2⟩⟩⟩⟩)), (by (with_reducible repeat (first | apply Kd.R_alloc | apply Kd.R_drewN | apply Kd.R_drew)); exact Kd.R_mono HO168.out (fun _ hk => hk.2)), (by (with_reducible repeat (first | apply Kd.V_alloc | apply Kd.V_drewN | apply Kd.V_drew)); exact Kd.V_mono HO_156001.out (fun _ hk => ⟨hk.1.2, ⟨hk.1.1.1, ⟨hk.1.1.2.1, ⟨hk.1.1.2.2, hk.2⟩⟩⟩⟩)), (by (with_reducible repeat (first | apply Kd.R_alloc | apply Kd.R_drewN | apply Kd.R_drew)); exact Kd.R_mono HO_6.out (fun _ hk => hk.2)), (by (with_reducible repeat (first | apply Kd.R_alloc | apply Kd.R_drewN | apply Kd.R_drew)); exact HO_7.out), (by (with_reducible repeat (first | refine blk_drewN ?_ _ | refine blk_drew ?_ | refine blk_alloc ?_ _)); exact BK155.out), (by (with_reducible repeat (first | refine blk_drewN ?_ _ | refine blk_drew ?_ | refine blk_alloc ?_ _)); exact BK170.out), GW170.out, GE170.out, NB155_170.out, NB170_155.out, (by repeat (first | (with_reducible first | exact HB.out | apply below_alloc | apply pw_below_drewN | apply below_drew1 | refine below_set ?_ GE155.out | refine below_set ?_ GE170.out) | exact HB.out))⟩)
                            · skip
                              refine box_step ?hg (N := 11) ?hd (cs := #[.int .i64 0, .slice none 0 0]) (t := 68) ?hr ?_; (case hd => rfl); (case hg => rfl); (case hr => first | (go_simp; done) | (go_simp; rfl))
                              intro gb170 hg w25 hbox hb
                              have n0_ := Aside0.mk (Kd.R_below (by (with_reducible repeat (first | apply Kd.R_alloc | apply Kd.R_drewN | apply Kd.R_drew)); exact HO_6.out) hb)
                              have n1_ := Aside0.mk (Kd.R_below (by (with_reducible repeat (first | apply Kd.R_alloc | apply Kd.R_drewN | apply Kd.R_drew)); exact HO_7.out) hb)
                              have n2_ := Aside0.mk (Kd.V_below (Kd.V_elderB (by (with_reducible repeat (first | apply Kd.V_alloc | apply Kd.V_drewN | apply Kd.V_drew)); exact HO_156001.out) gb170 (Nat.le_of_eq hg.symm)) hb)
                              have n3_ := Aside0.mk (blk_below (g := gb155) (o := .cells #[.int .i64 x156000_2, .slice Ao22 x156001_2.length co22] 68 (0, 0)) (by (with_reducible repeat (first | refine blk_drewN ?_ _ | refine blk_drew ?_ | refine blk_alloc ?_ _)); exact BK155.out) hb)
                              have n4_ := Aside0.mk (below_step (by repeat (first | (with_reducible first | exact HB.out | apply below_alloc | apply pw_below_drewN | apply below_drew1 | refine below_set ?_ GE155.out) | exact HB.out)) hb)
                              have n5_ := Aside0.mk (hbox)
                              have n6_ := Aside0.mk ((by rw [hg]; exact (below_size (by repeat (first | (with_reducible first | exact HB.out | apply below_alloc | apply pw_below_drewN | apply below_drew1 | refine below_set ?_ GE155.out) | exact HB.out))) : w.heap.size ≤ gb170))
                              have n7_ := Aside0.mk ((by rw [hg]; exact (below_size (by repeat (first | (with_reducible first | exact HB.out | apply below_alloc | apply pw_below_drewN | apply below_drew1 | refine below_set ?_ GE155.out) | exact HB.out))) : w.heap.size ≤ gb170))
                              have n8_ := Aside0.mk ((by rw [hg]; exact Nat.ne_of_lt (blk_lt (g := gb155) (o := .cells #[.int .i64 x156000_2, .slice Ao22 x156001_2.length co22] 68 (0, 0)) (by (with_reducible repeat (first | refine blk_drewN ?_ _ | refine blk_drew ?_ | refine blk_alloc ?_ _)); exact BK155.out)) : gb155 ≠ gb170))
                              have n9_ := Aside0.mk ((by rw [hg]; exact Nat.ne_of_gt (blk_lt (g := gb155) (o := .cells #[.int .i64 x156000_2, .slice Ao22 x156001_2.length co22] 68 (0, 0)) (by (with_reducible repeat (first | refine blk_drewN ?_ _ | refine blk_drew ?_ | refine blk_alloc ?_ _)); exact BK155.out)) : gb170 ≠ gb155))
                              clear HO_6
                              clear HO_7
                              clear HO_156001
                              clear BK155
                              clear HB
                              have HO_6 := n0_
                              have HO_7 := n1_
                              have HO_156001 := n2_
                              have BK155 := n3_
                              have HB := n4_
                              have BK170 := n5_
                              have GW170 := n6_
                              have GE170 := n7_
                              have NB155_170 := n8_
                              have NB170_155 := n9_
                              clear n0_ n1_ n2_ n3_ n4_ n5_ n6_ n7_ n8_ n9_
                              clear hb hbox hg
                              refine hK.out _ _ ⟨(blk_cell BK155.out 0).trans rfl, (blk_cell BK155.out 1).trans rfl⟩ (fun hHeld => ?_)
                              clear hK K
                              refine norm_ (a' := ?_) ?_ ?_
                              rotate_left
                              · show Act.put _ (some 11) _ = _
                                simp only [Act.put, List.setIfInBounds_toArray, List.set_cons_zero, List.set_cons_succ, i64_w, i32_w]
                                rfl
                              refine one_ (i := 6) (N := some 61) #[true, true, true, true, true, true, true, false, false, false, false, true, false, false, false] rfl rfl (one_of HT_.out (by kernel_rfl)) (by decide) (fun K hK => ?_)
                              refine goes_ Try.func37 (by kernel_rfl) rfl #[.agg #[.int .i64 x156000_2, .slice Ao22 x156001_2.length co22], .int .i64 ji15, .slice A24 ((l0.take ((ji16) : Int).toNat).drop ((ji15) : Int).toNat).length (c0 - (ji15).toNat), .int .i64 300] (by rfl) rfl rfl (by (try simp only [List.map_toArray, List.map_cons, List.map_nil]); first | done | (rw [show ((l0.take ((ji16) : Int).toNat).drop ((ji15) : Int).toNat).length = ((ji16).toNat - (ji15).toNat) from (by rw [List.length_drop, List.length_take]; have h_ : ((ji16) : Int) ≤ (l0.length : Int) := of_decide_eq_true (by first | (with_reducible assumption) | assumption); omega)] <;> rfl) | (simp only [hji15, hji16]; rfl) | rfl | (simp only [List.length_drop, List.length_take]; rfl)) ?_
                              with_reducible refine (inbox_Take.calls k2 x156000_2 (fun k_ => ((some k_ ≠ (u6 : Value).ownBlock ∧ (some k_ ≠ (v157 : Value).ownBlock ∧ k_ ≠ gb155)) ∧ k_ ≠ gb170)) _ _ x156001_2 ji15 _ _ ((l0.take ((ji16) : Int).toNat).drop ((ji15) : Int).toNat) 300 t162 t163 t166 t169 _ ?side1 ?side2 ?side3 A20.out).mono ?_
                              (case side1 => exact HO_156001.out)
                              (case side2 => repeat (first | exact (Kd.C_below HR161.out HB.out) | (with_reducible refine Kd.C_alloc ?_ _) | (with_reducible refine Kd.C_drewN ?_ _) | (with_reducible refine Kd.C_drew ?_)))
                              (case side3 => exact HC161.out)
                              rintro e w26 ⟨v164, v167, rfl, ho0, ho1, hb⟩
                              refine ⟨_, rfl, ?_⟩
                              have n0_ := Aside0.mk (Kd.R_elder' (by (with_reducible repeat (first | apply Kd.R_alloc | apply Kd.R_drewN | apply Kd.R_drew)); exact HO_6.out) (Kd.R_base ho1) hb)
                              have n1_ := Aside0.mk (Kd.R_below (by (with_reducible repeat (first | apply Kd.R_alloc | apply Kd.R_drewN | apply Kd.R_drew)); exact HO_7.out) hb)
                              have n2_ := Aside0.mk (Kd.V_elder' (by (with_reducible repeat (first | apply Kd.V_alloc | apply Kd.V_drewN | apply Kd.V_drew)); exact HO_156001.out) (Kd.R_base ho1) hb)
                              have n3_ := Aside0.mk (Kd.V_lower (Kd.V_mono (ok' := fun k_ => some k_ ≠ (v167 : Value).ownBlock ∧ some k_ ≠ (u6 : Value).ownBlock ∧ some k_ ≠ (v157 : Value).ownBlock ∧ k_ ≠ gb155 ∧ k_ ≠ gb170) ho0 (fun k_ hk_ => ⟨hk_.2, Or.elim hk_.1 (fun hs_ => hs_.1.1) (fun hn_ => (Kd.fresh' (Kd.R_lt (by (with_reducible repeat (first | apply Kd.R_alloc | apply Kd.R_drewN | apply Kd.R_drew)); exact HO_6.out)) k_ hn_)), Or.elim hk_.1 (fun hs_ => hs_.1.2.1) (fun hn_ => (Kd.fresh' (Kd.R_lt (by (with_reducible repeat (first | apply Kd.R_alloc | apply Kd.R_drewN | apply Kd.R_drew)); exact HO_7.out)) k_ hn_)), Or.elim hk_.1 (fun hs_ => hs_.1.2.2) (fun hn_ => (Kd.freshB (g := gb155) (o := .cells #[.int .i64 x156000_2, .slice Ao22 x156001_2.length co22] 68 (0, 0)) (by (with_reducible repeat (first | refine blk_drewN ?_ _ | refine blk_drew ?_ | refine blk_alloc ?_ _)); exact BK155.out) k_ hn_)), Or.elim hk_.1 (fun hs_ => hs_.2) (fun hn_ => (Kd.freshB (g := gb170) (o := .cells #[.int .i64 0, .slice none 0 0] 68 (0, 0)) (by (with_reducible repeat (first | refine blk_drewN ?_ _ | refine blk_drew ?_ | refine blk_alloc ?_ _)); exact BK170.out) k_ hn_))⟩)) (below_size (by repeat (first | (with_reducible first | exact HB.out | apply below_alloc | apply pw_below_drewN | apply below_drew1 | refine below_set ?_ GE155.out | refine below_set ?_ GE170.out) | exact HB.out))))
                              have n4_ := Aside0.mk (Kd.R_lower (Kd.R_new' (Kd.R_mono (ok' := fun k_ => True) ho1 (fun _ hk_ => trivial)) (Kd.R_lt (by (with_reducible repeat (first | apply Kd.R_alloc | apply Kd.R_drewN | apply Kd.R_drew)); exact HO_6.out))) (below_size (by repeat (first | (with_reducible first | exact HB.out | apply below_alloc | apply pw_below_drewN | apply below_drew1 | refine below_set ?_ GE155.out | refine below_set ?_ GE170.out) | exact HB.out))))
                              have n5_ := Aside0.mk (blk_below (g := gb155) (o := .cells #[.int .i64 x156000_2, .slice Ao22 x156001_2.length co22] 68 (0, 0)) (by (with_reducible repeat (first | refine blk_drewN ?_ _ | refine blk_drew ?_ | refine blk_alloc ?_ _)); exact BK155.out) hb)
                              have n6_ := Aside0.mk (blk_below (g := gb170) (o := .cells #[.int .i64 0, .slice none 0 0] 68 (0, 0)) (by (with_reducible repeat (first | refine blk_drewN ?_ _ | refine blk_drew ?_ | refine blk_alloc ?_ _)); exact BK170.out) hb)
                              have n7_ := Aside0.mk (below_step (by repeat (first | (with_reducible first | exact HB.out | apply below_alloc | apply pw_below_drewN | apply below_drew1 | refine below_set ?_ GE155.out | refine below_set ?_ GE170.out) | exact HB.out)) hb)
                              clear HO_6
                              clear HO_7
                              clear HO_156001
                              clear BK155
                              clear BK170
                              clear HB
                              have HO_6 := n0_
                              have HO_7 := n1_
                              have HO_156001 := n2_
                              have HO165 := n3_
                              have HO168 := n4_
                              have BK155 := n5_
                              have BK170 := n6_
                              have HB := n7_
                              clear n0_ n1_ n2_ n3_ n4_ n5_ n6_ n7_
                              (try clear hb)
                              (try clear hb2)
                              (try clear hk)
                              (try clear hi)
                              (try clear ho0)
                              (try clear ho1)
                              refine hK.out _ _ ⟨(blk_cell BK155.out 0).trans rfl, (blk_cell BK155.out 1).trans rfl⟩ (fun hHeld => ?_)
                              clear hK K
                              refine norm_ (a' := ?_) ?_ ?_
                              rotate_left
                              · show Act.put _ (some 61) _ = _
                                simp only [Act.put, List.setIfInBounds_toArray, List.set_cons_zero, List.set_cons_succ, i64_w, i32_w]
                                rfl
                              refine pure_ (i := 7) (N := some 54) (v := ?_) (a' := ?_) #[true, true, true, true, true, true, true, true, false, false, false, true, false, false, false] rfl rfl (any_of HT_.out (by kernel_rfl)) (fun _ _ _ h => h) (Or.inl ⟨by rfl, ?_⟩) ?_ ?_
                              rotate_left
                              · intro w'
                                go_simp
                                with_reducible rfl
                              rotate_left
                              · simp only [Act.put, List.setIfInBounds_toArray, List.set_cons_zero, List.set_cons_succ, i64_w, i32_w]
                                rfl
                              refine pure_ (i := 8) (N := some 62) (v := ?_) (a' := ?_) #[true, true, true, true, true, true, true, true, true, false, false, true, false, false, false] rfl rfl (any_of HT_.out (by kernel_rfl)) (fun _ _ _ h => h) (Or.inl ⟨by rfl, ?_⟩) ?_ ?_
                              rotate_left
                              · intro w'
                                go_simp
                                with_reducible rfl
                              rotate_left
                              · simp only [Act.put, List.setIfInBounds_toArray, List.set_cons_zero, List.set_cons_succ, i64_w, i32_w]
                                rfl
                              refine pure_ (i := 9) (N := some 63) (v := ?_) (a' := ?_) #[true, true, true, true, true, true, true, true, true, true, false, true, false, false, false] rfl rfl (any_of HT_.out (by kernel_rfl)) (fun _ _ _ h => h) (Or.inl ⟨by rfl, ?_⟩) ?_ ?_
                              rotate_left
                              · intro w'
                                go_simp
                                with_reducible rfl
                              rotate_left
                              · simp only [Act.put, List.setIfInBounds_toArray, List.set_cons_zero, List.set_cons_succ, i64_w, i32_w]
                                rfl
                              refine pure_ (i := 10) (N := some 64) (v := ?_) (a' := ?_) #[true, true, true, true, true, true, true, true, true, true, true, true, false, false, false] rfl rfl (any_of HT_.out (by kernel_rfl)) (fun _ _ _ h => h) (Or.inl ⟨by rfl, ?_⟩) ?_ ?_
                              rotate_left
                              · intro w'
                                go_simp
                                with_reducible rfl
                              rotate_left
                              · simp only [Act.put, List.setIfInBounds_toArray, List.set_cons_zero, List.set_cons_succ, i64_w, i32_w]
                                rfl
                              exact norm_ (by simp only [putAll, Act.put, List.setIfInBounds_toArray, List.set_cons_zero, List.set_cons_succ]) (hCont (v164, v167, gb170) _ ⟨hHeld, (by (with_reducible repeat (first | apply Kd.V_alloc | apply Kd.V_drewN | apply Kd.V_drew)); exact HO165.out), (by (with_reducible repeat (first | apply Kd.R_alloc | apply Kd.R_drewN | apply Kd.R_drew)); exact Kd.R_mono HO168.out (fun _ hk => hk.2)), (by (with_reducible repeat (first | apply Kd.V_alloc | apply Kd.V_drewN | apply Kd.V_drew)); exact Kd.V_mono HO_156001.out (fun _ hk => ⟨hk.2, ⟨hk.1.1.1, ⟨hk.1.1.2.1, ⟨hk.1.1.2.2, hk.1.2⟩⟩⟩⟩)), (by (with_reducible repeat (first | apply Kd.R_alloc | apply Kd.R_drewN | apply Kd.R_drew)); exact Kd.R_mono HO_6.out (fun _ hk => hk.2)), (by (with_reducible repeat (first | apply Kd.R_alloc | apply Kd.R_drewN | apply Kd.R_drew)); exact HO_7.out), (by (with_reducible repeat (first | refine blk_drewN ?_ _ | refine blk_drew ?_ | refine blk_alloc ?_ _)); exact BK155.out), (by (with_reducible repeat (first | refine blk_drewN ?_ _ | refine blk_drew ?_ | refine blk_alloc ?_ _)); exact BK170.out), GW170.out, GE170.out, NB155_170.out, NB170_155.out, (by repeat (first | (with_reducible first | exact HB.out | apply below_alloc | apply pw_below_drewN | apply below_drew1 | refine below_set ?_ GE155.out | refine below_set ?_ GE170.out) | exact HB.out))⟩)
                          rintro ⟨v164, v167, gb170⟩ w27 ⟨hS_, h0_, h1_, h2_, h3_, h4_, h5_, h6_, h7_, h8_, h9_, h10_, h11_⟩
                          have n0_ : Aside0 (Kd.V k142 142 w27 w.heap.size (fun k_ => some k_ ≠ (v167 : Value).ownBlock ∧ some k_ ≠ (u6 : Value).ownBlock ∧ some k_ ≠ (v157 : Value).ownBlock ∧ k_ ≠ gb155 ∧ k_ ≠ gb170) v164 t163) := ⟨h0_⟩
                          have n1_ : Aside0 (Kd.R (Kd.int .u8) 5 w27 w.heap.size (fun k_ => some k_ ≠ (u6 : Value).ownBlock) v167 t166) := ⟨h1_⟩
                          have n2_ : Aside0 (Kd.V k142 142 w27 w.heap.size (fun k_ => some k_ ≠ (v167 : Value).ownBlock ∧ some k_ ≠ (u6 : Value).ownBlock ∧ some k_ ≠ (v157 : Value).ownBlock ∧ k_ ≠ gb155 ∧ k_ ≠ gb170) (.slice Ao22 x156001_2.length co22) x156001_2) := ⟨h2_⟩
                          have n3_ : Aside0 (Kd.R (Kd.int .u8) 5 w27 w.heap.size (fun k_ => some k_ ≠ (v167 : Value).ownBlock) u6 x6_2) := ⟨h3_⟩
                          have n4_ : Aside0 (Kd.R Kd.bool 4 w27 w.heap.size (fun _ => True) v157 x7_2) := ⟨h4_⟩
                          have n5_ : Aside0 (w27.heap[gb155]? = some (.cells #[.int .i64 x156000_2, .slice Ao22 x156001_2.length co22] 68 (0, 0))) := ⟨h5_⟩
                          have n6_ : Aside0 (w27.heap[gb170]? = some (.cells #[.int .i64 0, .slice none 0 0] 68 (0, 0))) := ⟨h6_⟩
                          have n7_ : Aside0 (w.heap.size ≤ gb170) := ⟨h7_⟩
                          have n8_ : Aside0 (w.heap.size ≤ gb170) := ⟨h8_⟩
                          have n9_ : Aside0 (gb155 ≠ gb170) := ⟨h9_⟩
                          have n10_ : Aside0 (gb170 ≠ gb155) := ⟨h10_⟩
                          have n11_ : Aside0 (Below w.heap.size w w27) := ⟨h11_⟩
                          clear HO_6
                          clear HO_7
                          clear HO_156001
                          clear BK155
                          clear HB
                          clear h0_ h1_ h2_ h3_ h4_ h5_ h6_ h7_ h8_ h9_ h10_ h11_
                          have HO165 := n0_
                          have HO168 := n1_
                          have HO_156001 := n2_
                          have HO_6 := n3_
                          have HO_7 := n4_
                          have BK155 := n5_
                          have BK170 := n6_
                          have GW170 := n7_
                          have GE170 := n8_
                          have NB155_170 := n9_
                          have NB170_155 := n10_
                          have HB := n11_
                          clear n0_ n1_ n2_ n3_ n4_ n5_ n6_ n7_ n8_ n9_ n10_ n11_
                          have hHeld : w27.cell? ⟨gb155, 0, none⟩ = some (.int .i64 x156000_2) ∧ w27.cell? ⟨gb155, 1, none⟩ = some (.slice Ao22 x156001_2.length co22) := hS_
                          obtain ⟨Ao29, co29, eo29⟩ := Kd.V_slice HO165.out
                          (first | subst eo29 | (injection eo29 with f1_ f2_ f3_; have f4_ := f1_.symm; have f5_ := f3_.symm; clear f1_ f2_ f3_; subst f4_; subst f5_))
                          refine norm_ (a' := ?_) ?_ ?_
                          rotate_left
                          · simp only [putAll, Act.put, List.setIfInBounds_toArray, List.set_cons_zero, List.set_cons_succ]
                            rfl
                          refine one_ (i := 12) (N := none) #[true, true, true, true, true, true, true, true, true, true, true, true, true, false, false] rfl rfl (one_of HT_.out (by kernel_rfl)) (by decide) (fun K hK => ?_)
                          have hs28 : w27.cell? ⟨gb170, 0, none⟩ = some (.int .i64 0) := (blk_cell BK170.out 0).trans rfl
                          have hfs28 := blk_frozen BK170.out 0
                          have hns28_0 := NB155_170.out
                          have hms28_0 := NB170_155.out
                          have hs30 : w27.cell? ⟨gb170, 1, none⟩ = some (.slice none 0 0) := (blk_cell BK170.out 1).trans rfl
                          have hfs30 := blk_frozen BK170.out 1
                          have hns30_0 := NB155_170.out
                          have hms30_0 := NB170_155.out
                          refine skip_ (w1 := ?_) (by rfl) rfl ?_ ?_
                          rotate_left
                          · go_simp
                            rfl
                          refine hK.out _ _ ⟨((cell_far (p := ⟨gb170, _, none⟩) NB155_170.out _).trans (((cell_far (p := ⟨gb170, _, none⟩) NB155_170.out _).trans (hHeld.1)))), ((cell_far (p := ⟨gb170, _, none⟩) NB155_170.out _).trans (((cell_far (p := ⟨gb170, _, none⟩) NB155_170.out _).trans (hHeld.2))))⟩ (fun hHeld => ?_)
                          clear hK K
                          refine pure_ (i := 13) (N := some 12) (v := ?_) (a' := ?_) #[true, true, true, true, true, true, true, true, true, true, true, true, true, true, false] rfl rfl (any_of HT_.out (by kernel_rfl)) (fun _ _ _ h => h) (Or.inl ⟨by rfl, ?_⟩) ?_ ?_
                          rotate_left
                          · intro w'
                            go_simp
                            with_reducible rfl
                          rotate_left
                          · simp only [Act.put, List.setIfInBounds_toArray, List.set_cons_zero, List.set_cons_succ, i64_w, i32_w]
                            rfl
                          refine pure_ (i := 14) (N := some 13) (v := ?_) (a' := ?_) #[true, true, true, true, true, true, true, true, true, true, true, true, true, true, true] rfl rfl (any_of HT_.out (by kernel_rfl)) (fun _ _ _ h => h) (Or.inl ⟨by rfl, ?_⟩) ?_ ?_
                          rotate_left
                          · intro w'
                            go_simp
                            with_reducible rfl
                          rotate_left
                          · simp only [Act.put, List.setIfInBounds_toArray, List.set_cons_zero, List.set_cons_succ, i64_w, i32_w]
                            rfl
                          refine done_ (done_of HT_.out (by kernel_rfl)) ?_
                          go_upto_region 14 with (fail)
                          go_cut [14] (fun v14 wc => ∃ (kq : Nat) (x14_20 : Bool), v14 = .bool x14_20 ∧ Aside0 (batonlaw32_InboxOnce.j2 kq l0 l1 x6_2 x7_2 x8_2 ji15 ji16 t166 t169 x14_20 t162 t163 = some r) ∧ Aside0 (kq ≤ k2) ∧ Aside0 (Kd.R (Kd.int .u8) 5 wc w.heap.size (fun k_ => some k_ ≠ (v167 : Value).ownBlock) u6 x6_2) ∧ Aside0 (Kd.R Kd.bool 4 wc w.heap.size (fun _ => True) v157 x7_2) ∧ Aside0 (Kd.R (Kd.int .u8) 5 wc w.heap.size (fun k_ => some k_ ≠ (u6 : Value).ownBlock) v167 t166) ∧ Aside0 (Kd.V k142 142 wc w.heap.size (fun k_ => some k_ ≠ (u6 : Value).ownBlock ∧ some k_ ≠ (v157 : Value).ownBlock ∧ some k_ ≠ (v167 : Value).ownBlock ∧ k_ ≠ gb155 ∧ k_ ≠ gb170) (.slice Ao22 x156001_2.length co22) x156001_2) ∧ Aside0 (Kd.V k142 142 wc w.heap.size (fun k_ => some k_ ≠ (u6 : Value).ownBlock ∧ some k_ ≠ (v157 : Value).ownBlock ∧ some k_ ≠ (v167 : Value).ownBlock ∧ k_ ≠ gb155 ∧ k_ ≠ gb170) (.slice Ao29 t163.length co29) t163) ∧ Aside0 (wc.heap[gb155]? = some (.cells #[.int .i64 x156000_2, (.slice Ao22 x156001_2.length co22)] 68 (0, 0))) ∧ Aside0 (wc.heap[gb170]? = some (.cells #[.int .i64 t162, (.slice Ao29 t163.length co29)] 68 (0, 0))) ∧ Aside0 (Below w.heap.size w wc))
                          case first =>
                            have H := HC21.out
                            clear HC21
                            by_cases c31 : (ji16) > (ji15)
                            · rw [if_pos c31] at H
                              have c31b0 : decide ((ji15) < (ji16)) = true := decide_eq_true c31
                              clear c31
                              (first | rw [c31b0] | (simp only [i64_w, i32_w]; rw [c31b0]) | rw [c31b1] | rw [c31b2] | skip)
                              have H' := Aside0.mk H
                              clear H
                              have hnb32 := NB155_170.out
                              have hnc32 := NB170_155.out
                              have hcz33_0 : w27.cell? ⟨gb155, 0, none⟩ = some (.int .i64 x156000_2) := (blk_cell BK155.out 0).trans rfl
                              have hcz33_1 : w27.cell? ⟨gb155, 1, none⟩ = some (.slice Ao22 x156001_2.length co22) := (blk_cell BK155.out 1).trans rfl
                              have hfz33_0 := blk_frozen BK155.out 0
                              have hfz33_1 := blk_frozen BK155.out 1
                              go_wp2
                              go_meet
                              case rel => exact ⟨_, (decide ((wrap64 ((ji16) - 1)) ≥ (wrap64 (x156000_2 + 64)))), (by first | rfl | (simp; done) | (simp only [← hji16] <;> (first | rfl | simp)) | (simp [*]; done)), H', ⟨by have := HJ4.out; have := HK2.out; first | omega | exact Nat.le_refl _⟩, ⟨by (with_reducible repeat (first | apply Kd.R_alloc | apply Kd.R_drewN | apply Kd.R_drew)); exact Kd.R_mono (Kd.R_far (p := ⟨gb170, 1, none⟩) (Kd.R_far (p := ⟨gb170, 0, none⟩) (Kd.R_types HO_6.out BK170.out (by decide)) (fun _ hk => hk.2) (.int .i64 t162)) (fun _ hk => hk.2) (.slice Ao29 t163.length co29)) (fun _ hk => hk.1)⟩, ⟨by (with_reducible repeat (first | apply Kd.R_alloc | apply Kd.R_drewN | apply Kd.R_drew)); exact Kd.R_mono (Kd.R_far (p := ⟨gb170, 1, none⟩) (Kd.R_far (p := ⟨gb170, 0, none⟩) (Kd.R_types HO_7.out BK170.out (by decide)) (fun _ hk => hk.2) (.int .i64 t162)) (fun _ hk => hk.2) (.slice Ao29 t163.length co29)) (fun _ hk => trivial)⟩, ⟨by (with_reducible repeat (first | apply Kd.R_alloc | apply Kd.R_drewN | apply Kd.R_drew)); exact Kd.R_mono (Kd.R_far (p := ⟨gb170, 1, none⟩) (Kd.R_far (p := ⟨gb170, 0, none⟩) (Kd.R_types HO168.out BK170.out (by decide)) (fun _ hk => hk.2) (.int .i64 t162)) (fun _ hk => hk.2) (.slice Ao29 t163.length co29)) (fun _ hk => hk.1)⟩, ⟨by (with_reducible repeat (first | apply Kd.V_alloc | apply Kd.V_drewN | apply Kd.V_drew)); exact Kd.V_mono (Kd.V_far (p := ⟨gb170, 1, none⟩) (Kd.V_far (p := ⟨gb170, 0, none⟩) (Kd.V_mono HO_156001.out (fun k_ hk => (⟨hk, hk.2.2.2.2⟩ : _ ∧ k_ ≠ gb170))) (fun _ hk => hk.2) (.int .i64 t162)) (fun _ hk => hk.2) (.slice Ao29 t163.length co29)) (fun _ hk => ⟨hk.1.2.1, ⟨hk.1.2.2.1, ⟨hk.1.1, ⟨hk.1.2.2.2.1, hk.1.2.2.2.2⟩⟩⟩⟩)⟩, ⟨by (with_reducible repeat (first | apply Kd.V_alloc | apply Kd.V_drewN | apply Kd.V_drew)); exact Kd.V_mono (Kd.V_far (p := ⟨gb170, 1, none⟩) (Kd.V_far (p := ⟨gb170, 0, none⟩) (Kd.V_mono HO165.out (fun k_ hk => (⟨hk, hk.2.2.2.2⟩ : _ ∧ k_ ≠ gb170))) (fun _ hk => hk.2) (.int .i64 t162)) (fun _ hk => hk.2) (.slice Ao29 t163.length co29)) (fun _ hk => ⟨hk.1.2.1, ⟨hk.1.2.2.1, ⟨hk.1.1, ⟨hk.1.2.2.2.1, hk.1.2.2.2.2⟩⟩⟩⟩)⟩, ⟨by (with_reducible repeat (first | refine blk_drewN ?_ _ | refine blk_drew ?_ | refine blk_alloc ?_ _)); refine blk_far ?_ NB155_170.out _; (with_reducible repeat (first | refine blk_drewN ?_ _ | refine blk_drew ?_ | refine blk_alloc ?_ _)); refine blk_far ?_ NB155_170.out _; (with_reducible repeat (first | refine blk_drewN ?_ _ | refine blk_drew ?_ | refine blk_alloc ?_ _)); exact BK155.out⟩, ⟨by (with_reducible repeat (first | refine blk_drewN ?_ _ | refine blk_drew ?_ | refine blk_alloc ?_ _)); refine blk_put (cs := #[.int .i64 t162, .slice none 0 0]) ?_ 1 _ rfl; (with_reducible repeat (first | refine blk_drewN ?_ _ | refine blk_drew ?_ | refine blk_alloc ?_ _)); refine blk_put (cs := #[.int .i64 0, .slice none 0 0]) ?_ 0 _ rfl; (with_reducible repeat (first | refine blk_drewN ?_ _ | refine blk_drew ?_ | refine blk_alloc ?_ _)); exact BK170.out⟩, ⟨by repeat (first | (with_reducible first | exact HB.out | apply below_alloc | apply pw_below_drewN | apply below_drew1 | refine below_set ?_ GE155.out | refine below_set ?_ GE170.out) | exact HB.out)⟩⟩
                            · rw [if_neg c31] at H
                              have c31b0 : decide ((ji15) < (ji16)) = false := decide_eq_false c31
                              clear c31
                              (first | rw [c31b0] | (simp only [i64_w, i32_w]; rw [c31b0]) | rw [c31b1] | rw [c31b2] | skip)
                              have H' := Aside0.mk H
                              clear H
                              go_wp2
                              go_meet
                              case rel => exact ⟨_, (false), (by first | rfl | (simp; done) | (simp [*]; done)), H', ⟨by have := HJ4.out; have := HK2.out; first | omega | exact Nat.le_refl _⟩, ⟨by (with_reducible repeat (first | apply Kd.R_alloc | apply Kd.R_drewN | apply Kd.R_drew)); exact Kd.R_mono (Kd.R_far (p := ⟨gb170, 1, none⟩) (Kd.R_far (p := ⟨gb170, 0, none⟩) (Kd.R_types HO_6.out BK170.out (by decide)) (fun _ hk => hk.2) (.int .i64 t162)) (fun _ hk => hk.2) (.slice Ao29 t163.length co29)) (fun _ hk => hk.1)⟩, ⟨by (with_reducible repeat (first | apply Kd.R_alloc | apply Kd.R_drewN | apply Kd.R_drew)); exact Kd.R_mono (Kd.R_far (p := ⟨gb170, 1, none⟩) (Kd.R_far (p := ⟨gb170, 0, none⟩) (Kd.R_types HO_7.out BK170.out (by decide)) (fun _ hk => hk.2) (.int .i64 t162)) (fun _ hk => hk.2) (.slice Ao29 t163.length co29)) (fun _ hk => trivial)⟩, ⟨by (with_reducible repeat (first | apply Kd.R_alloc | apply Kd.R_drewN | apply Kd.R_drew)); exact Kd.R_mono (Kd.R_far (p := ⟨gb170, 1, none⟩) (Kd.R_far (p := ⟨gb170, 0, none⟩) (Kd.R_types HO168.out BK170.out (by decide)) (fun _ hk => hk.2) (.int .i64 t162)) (fun _ hk => hk.2) (.slice Ao29 t163.length co29)) (fun _ hk => hk.1)⟩, ⟨by (with_reducible repeat (first | apply Kd.V_alloc | apply Kd.V_drewN | apply Kd.V_drew)); exact Kd.V_mono (Kd.V_far (p := ⟨gb170, 1, none⟩) (Kd.V_far (p := ⟨gb170, 0, none⟩) (Kd.V_mono HO_156001.out (fun k_ hk => (⟨hk, hk.2.2.2.2⟩ : _ ∧ k_ ≠ gb170))) (fun _ hk => hk.2) (.int .i64 t162)) (fun _ hk => hk.2) (.slice Ao29 t163.length co29)) (fun _ hk => ⟨hk.1.2.1, ⟨hk.1.2.2.1, ⟨hk.1.1, ⟨hk.1.2.2.2.1, hk.1.2.2.2.2⟩⟩⟩⟩)⟩, ⟨by (with_reducible repeat (first | apply Kd.V_alloc | apply Kd.V_drewN | apply Kd.V_drew)); exact Kd.V_mono (Kd.V_far (p := ⟨gb170, 1, none⟩) (Kd.V_far (p := ⟨gb170, 0, none⟩) (Kd.V_mono HO165.out (fun k_ hk => (⟨hk, hk.2.2.2.2⟩ : _ ∧ k_ ≠ gb170))) (fun _ hk => hk.2) (.int .i64 t162)) (fun _ hk => hk.2) (.slice Ao29 t163.length co29)) (fun _ hk => ⟨hk.1.2.1, ⟨hk.1.2.2.1, ⟨hk.1.1, ⟨hk.1.2.2.2.1, hk.1.2.2.2.2⟩⟩⟩⟩)⟩, ⟨by (with_reducible repeat (first | refine blk_drewN ?_ _ | refine blk_drew ?_ | refine blk_alloc ?_ _)); refine blk_far ?_ NB155_170.out _; (with_reducible repeat (first | refine blk_drewN ?_ _ | refine blk_drew ?_ | refine blk_alloc ?_ _)); refine blk_far ?_ NB155_170.out _; (with_reducible repeat (first | refine blk_drewN ?_ _ | refine blk_drew ?_ | refine blk_alloc ?_ _)); exact BK155.out⟩, ⟨by (with_reducible repeat (first | refine blk_drewN ?_ _ | refine blk_drew ?_ | refine blk_alloc ?_ _)); refine blk_put (cs := #[.int .i64 t162, .slice none 0 0]) ?_ 1 _ rfl; (with_reducible repeat (first | refine blk_drewN ?_ _ | refine blk_drew ?_ | refine blk_alloc ?_ _)); refine blk_put (cs := #[.int .i64 0, .slice none 0 0]) ?_ 0 _ rfl; (with_reducible repeat (first | refine blk_drewN ?_ _ | refine blk_drew ?_ | refine blk_alloc ?_ _)); exact BK170.out⟩, ⟨by repeat (first | (with_reducible first | exact HB.out | apply below_alloc | apply pw_below_drewN | apply below_drew1 | refine below_set ?_ GE155.out | refine below_set ?_ GE170.out) | exact HB.out)⟩⟩
                          case rest =>
                            clear HC21
                            try clear c1
                            try clear p1
                            try clear q1
                            try clear hx1
                            try clear p2
                            try clear c3
                            try clear c4
                            try clear p6
                            try clear c7
                            try clear c7b0
                            try clear c7b1
                            try clear c7b2
                            try clear c8
                            try clear c9
                            try clear c9b0
                            try clear c9b1
                            try clear c13
                            try clear c13b0
                            try clear c14
                            try clear c14b0
                            try clear p15
                            try clear q15
                            try clear hx15
                            try clear p16
                            try clear q16
                            try clear hx16
                            try clear c17
                            try clear c17b0
                            try clear c17b1
                            try clear c18
                            try clear c18b0
                            try clear c18b1
                            try clear c19
                            try clear c19b0
                            try clear c19b1
                            try clear c31
                            try clear c31b0
                            try clear c31b1
                            try clear c31b2
                            try clear c32
                            try clear hcz33_0
                            try clear hcz33_1
                            try clear hfz33_0
                            try clear hfz33_1
                            try clear hx159_0
                            try clear hx159_1
                            try clear hx160_0
                            try clear hx160_1
                            try clear p159
                            try clear p160
                            try clear p2
                            try clear q159
                            try clear q160
                            obtain ⟨kq, x14_20, rfl, HA, HJ20, HO_6, HO_7, HO_12, HO_156001, HO_171001, BK155, BK170, HB⟩ := hcut
                            cases kq with
                            | zero => exact absurd HA.out (by simp [batonlaw32_InboxOnce.j2])
                            | succ kj20 =>
                              have H := HA.out
                              clear HA
                              simp only [batonlaw32_InboxOnce.j2] at H
                              have HC34 := Aside0.mk H
                              clear H
                              go_upto_region 15 with (fail)
                              go_cut [87] (fun v87 wc => ∃ (kq : Nat) (x87_33 : Bool), v87 = .bool x87_33 ∧ Aside0 (batonlaw32_InboxOnce.j3 kq l0 l1 x6_2 x7_2 x8_2 ji15 ji16 t166 x14_20 x87_33 t162 t163 = some r) ∧ Aside0 (kq ≤ kj20) ∧ Aside0 (Kd.R (Kd.int .u8) 5 wc w.heap.size (fun k_ => some k_ ≠ (v167 : Value).ownBlock) u6 x6_2) ∧ Aside0 (Kd.R Kd.bool 4 wc w.heap.size (fun _ => True) v157 x7_2) ∧ Aside0 (Kd.R (Kd.int .u8) 5 wc w.heap.size (fun k_ => some k_ ≠ (u6 : Value).ownBlock) v167 t166) ∧ Aside0 (Kd.V k142 142 wc w.heap.size (fun k_ => some k_ ≠ (u6 : Value).ownBlock ∧ some k_ ≠ (v157 : Value).ownBlock ∧ some k_ ≠ (v167 : Value).ownBlock ∧ k_ ≠ gb155 ∧ k_ ≠ gb170) (.slice Ao22 x156001_2.length co22) x156001_2) ∧ Aside0 (Kd.V k142 142 wc w.heap.size (fun k_ => some k_ ≠ (u6 : Value).ownBlock ∧ some k_ ≠ (v157 : Value).ownBlock ∧ some k_ ≠ (v167 : Value).ownBlock ∧ k_ ≠ gb155 ∧ k_ ≠ gb170) (.slice Ao29 t163.length co29) t163) ∧ Aside0 (wc.heap[gb155]? = some (.cells #[.int .i64 x156000_2, (.slice Ao22 x156001_2.length co22)] 68 (0, 0))) ∧ Aside0 (wc.heap[gb170]? = some (.cells #[.int .i64 t162, (.slice Ao29 t163.length co29)] 68 (0, 0))) ∧ Aside0 (Below w.heap.size w wc))
                              case first =>
                                have H := HC34.out
                                clear HC34
                                by_cases c35 : ((t169 == 2) != x14_20) = true
                                · rw [if_pos c35] at H
                                  have c35b0 : ((t169 == 2) != x14_20) = true := c35
                                  (try (have c35b1 : decide ((t169 == 2) = x14_20) = false := by simpa using c35))
                                  (try (have c35b2 : ((t169 == 2) == x14_20) = false := by simpa using c35))
                                  (try (have c35b3 : ¬ ((t169 == 2) = x14_20) := by simpa using c35))
                                  clear c35
                                  (first | rw [c35b0] | (simp only [i64_w, i32_w]; rw [c35b0]) | rw [c35b1] | rw [c35b2] | skip)
                                  have H' := Aside0.mk H
                                  clear H
                                  go_wp2
                                  go_meet
                                  case rel => exact ⟨_, (true), (by first | rfl | (simp; done) | (simp [*]; done)), H', ⟨by have := HJ4.out; have := HK2.out; have := HJ20.out; first | omega | exact Nat.le_refl _⟩, ⟨by (with_reducible repeat (first | apply Kd.R_alloc | apply Kd.R_drewN | apply Kd.R_drew)); exact HO_6.out⟩, ⟨by (with_reducible repeat (first | apply Kd.R_alloc | apply Kd.R_drewN | apply Kd.R_drew)); exact HO_7.out⟩, ⟨by (with_reducible repeat (first | apply Kd.R_alloc | apply Kd.R_drewN | apply Kd.R_drew)); exact HO_12.out⟩, ⟨by (with_reducible repeat (first | apply Kd.V_alloc | apply Kd.V_drewN | apply Kd.V_drew)); exact HO_156001.out⟩, ⟨by (with_reducible repeat (first | apply Kd.V_alloc | apply Kd.V_drewN | apply Kd.V_drew)); exact HO_171001.out⟩, ⟨by (with_reducible repeat (first | refine blk_drewN ?_ _ | refine blk_drew ?_ | refine blk_alloc ?_ _)); exact BK155.out⟩, ⟨by (with_reducible repeat (first | refine blk_drewN ?_ _ | refine blk_drew ?_ | refine blk_alloc ?_ _)); exact BK170.out⟩, ⟨by repeat (first | (with_reducible first | exact HB.out | apply below_alloc | apply pw_below_drewN | apply below_drew1 | refine below_set ?_ GE155.out | refine below_set ?_ GE170.out) | exact HB.out)⟩⟩
                                · rw [if_neg c35] at H
                                  have c35b0 : ((t169 == 2) != x14_20) = false := by simpa using c35
                                  (try (have c35b1 : decide ((t169 == 2) = x14_20) = true := by simpa using c35))
                                  (try (have c35b2 : ((t169 == 2) == x14_20) = true := by simpa using c35))
                                  clear c35
                                  (first | rw [c35b0] | (simp only [i64_w, i32_w]; rw [c35b0]) | rw [c35b1] | rw [c35b2] | skip)
                                  by_cases c36 : x14_20 = true
                                  · subst c36
                                    have H1 : (batonlaw32_InboxOnce.j3 kj20 l0 l1 x6_2 x7_2 x8_2 ji15 ji16 t166 true false t162 t163) = some r := by rw [if_pos rfl] at H; exact H
                                    clear H
                                    have H := H1
                                    clear H1
                                    have H' := Aside0.mk H
                                    clear H
                                    go_wp2
                                    go_meet
                                    case rel => exact ⟨_, (false), (by first | rfl | (simp; done) | (simp [*]; done)), H', ⟨by have := HJ4.out; have := HK2.out; have := HJ20.out; first | omega | exact Nat.le_refl _⟩, ⟨by (with_reducible repeat (first | apply Kd.R_alloc | apply Kd.R_drewN | apply Kd.R_drew)); exact HO_6.out⟩, ⟨by (with_reducible repeat (first | apply Kd.R_alloc | apply Kd.R_drewN | apply Kd.R_drew)); exact HO_7.out⟩, ⟨by (with_reducible repeat (first | apply Kd.R_alloc | apply Kd.R_drewN | apply Kd.R_drew)); exact HO_12.out⟩, ⟨by (with_reducible repeat (first | apply Kd.V_alloc | apply Kd.V_drewN | apply Kd.V_drew)); exact HO_156001.out⟩, ⟨by (with_reducible repeat (first | apply Kd.V_alloc | apply Kd.V_drewN | apply Kd.V_drew)); exact HO_171001.out⟩, ⟨by (with_reducible repeat (first | refine blk_drewN ?_ _ | refine blk_drew ?_ | refine blk_alloc ?_ _)); exact BK155.out⟩, ⟨by (with_reducible repeat (first | refine blk_drewN ?_ _ | refine blk_drew ?_ | refine blk_alloc ?_ _)); exact BK170.out⟩, ⟨by repeat (first | (with_reducible first | exact HB.out | apply below_alloc | apply pw_below_drewN | apply below_drew1 | refine below_set ?_ GE155.out | refine below_set ?_ GE170.out) | exact HB.out)⟩⟩
                                  · replace c36 := Bool.eq_false_iff.mpr c36
                                    subst c36
                                    have H1 : (batonlaw32_InboxOnce.j3 kj20 l0 l1 x6_2 x7_2 x8_2 ji15 ji16 t166 false (t169 != 0) t162 t163) = some r := by rw [if_neg (show ¬ (false = true) by decide)] at H; exact H
                                    clear H
                                    have H := H1
                                    clear H1
                                    have H' := Aside0.mk H
                                    clear H
                                    go_wp2
                                    go_meet
                                    case rel => exact ⟨_, ((t169 != 0)), (by first | rfl | (simp; done) | (simp [*]; done)), H', ⟨by have := HJ4.out; have := HK2.out; have := HJ20.out; first | omega | exact Nat.le_refl _⟩, ⟨by (with_reducible repeat (first | apply Kd.R_alloc | apply Kd.R_drewN | apply Kd.R_drew)); exact HO_6.out⟩, ⟨by (with_reducible repeat (first | apply Kd.R_alloc | apply Kd.R_drewN | apply Kd.R_drew)); exact HO_7.out⟩, ⟨by (with_reducible repeat (first | apply Kd.R_alloc | apply Kd.R_drewN | apply Kd.R_drew)); exact HO_12.out⟩, ⟨by (with_reducible repeat (first | apply Kd.V_alloc | apply Kd.V_drewN | apply Kd.V_drew)); exact HO_156001.out⟩, ⟨by (with_reducible repeat (first | apply Kd.V_alloc | apply Kd.V_drewN | apply Kd.V_drew)); exact HO_171001.out⟩, ⟨by (with_reducible repeat (first | refine blk_drewN ?_ _ | refine blk_drew ?_ | refine blk_alloc ?_ _)); exact BK155.out⟩, ⟨by (with_reducible repeat (first | refine blk_drewN ?_ _ | refine blk_drew ?_ | refine blk_alloc ?_ _)); exact BK170.out⟩, ⟨by repeat (first | (with_reducible first | exact HB.out | apply below_alloc | apply pw_below_drewN | apply below_drew1 | refine below_set ?_ GE155.out | refine below_set ?_ GE170.out) | exact HB.out)⟩⟩
                              case rest =>
                                clear HC34
                                try clear c1
                                try clear p1
                                try clear q1
                                try clear hx1
                                try clear p2
                                try clear c3
                                try clear c4
                                try clear p6
                                try clear c7
                                try clear c7b0
                                try clear c7b1
                                try clear c7b2
                                try clear c8
                                try clear c9
                                try clear c9b0
                                try clear c9b1
                                try clear c13
                                try clear c13b0
                                try clear c14
                                try clear c14b0
                                try clear p15
                                try clear q15
                                try clear hx15
                                try clear p16
                                try clear q16
                                try clear hx16
                                try clear c17
                                try clear c17b0
                                try clear c17b1
                                try clear c18
                                try clear c18b0
                                try clear c18b1
                                try clear c19
                                try clear c19b0
                                try clear c19b1
                                try clear c31
                                try clear c31b0
                                try clear c31b1
                                try clear c31b2
                                try clear c32
                                try clear c35
                                try clear c35b0
                                try clear c35b1
                                try clear c35b2
                                try clear c36
                                try clear hcz33_0
                                try clear hcz33_1
                                try clear hfz33_0
                                try clear hfz33_1
                                try clear hx159_0
                                try clear hx159_1
                                try clear hx160_0
                                try clear hx160_1
                                try clear p1
                                try clear p15
                                try clear p159
                                try clear p16
                                try clear p160
                                try clear p2
                                try clear p6
                                try clear q1
                                try clear q15
                                try clear q159
                                try clear q16
                                try clear q160
                                obtain ⟨kq, x87_33, rfl, HA, HJ33, HO_6, HO_7, HO_12, HO_156001, HO_171001, BK155, BK170, HB⟩ := hcut
                                cases kq with
                                | zero => exact absurd HA.out (by simp [batonlaw32_InboxOnce.j3])
                                | succ kj33 =>
                                  have H := HA.out
                                  clear HA
                                  simp only [batonlaw32_InboxOnce.j3] at H
                                  by_cases c37 : x87_33 = true
                                  · subst c37
                                    have H1 : (some false) = some r := by rw [if_pos rfl] at H; exact H
                                    clear H
                                    have H := H1
                                    clear H1
                                    obtain rfl := Option.some.inj H
                                    go_wp2
                                    go_ret
                                    exact ⟨by first | rfl | (simp [errW_none, errW_some] <;> rfl) | (simp only [← hji15, ← hji16]; first | rfl | (simp [errW_none, errW_some] <;> rfl)) | (simp [*, errW_none, errW_some] <;> rfl), by repeat (first | (with_reducible first | exact HB.out | apply below_alloc | apply pw_below_drewN | apply below_drew1 | refine below_set ?_ GE155.out | refine below_set ?_ GE170.out) | exact HB.out)⟩
                                  · replace c37 := Bool.eq_false_iff.mpr c37
                                    subst c37
                                    have H1 : (batonlaw32_InboxOnce.l1 kj33 l0 l1 x6_2 x7_2 x8_2 ji16 t166 x14_20 ji15 t162 t163) = some r := by rw [if_neg (show ¬ (false = true) by decide)] at H; exact H
                                    clear H
                                    have H := H1
                                    clear H1
                                    have HC38 := Aside0.mk H
                                    clear H
                                    go_upto_block 2 with (fail)
                                    go_cut [] (fun wc => ∃ (kq : Nat) (x7_37 : List Bool), Aside0 (batonlaw32_InboxOnce.j5 kq l0 l1 x6_2 x7_37 x8_2 t166 t162 t163 = some r) ∧ Aside0 (kq ≤ kj33) ∧ Aside0 (Kd.R (Kd.int .u8) 5 wc w.heap.size (fun k_ => some k_ ≠ (v167 : Value).ownBlock) u6 x6_2) ∧ Aside0 (Kd.R Kd.bool 4 wc w.heap.size (fun _ => True) v157 x7_37) ∧ Aside0 (Kd.R (Kd.int .u8) 5 wc w.heap.size (fun k_ => some k_ ≠ (u6 : Value).ownBlock) v167 t166) ∧ Aside0 (Kd.V k142 142 wc w.heap.size (fun k_ => some k_ ≠ (u6 : Value).ownBlock ∧ some k_ ≠ (v157 : Value).ownBlock ∧ some k_ ≠ (v167 : Value).ownBlock ∧ k_ ≠ gb155 ∧ k_ ≠ gb170) (.slice Ao22 x156001_2.length co22) x156001_2) ∧ Aside0 (Kd.V k142 142 wc w.heap.size (fun k_ => some k_ ≠ (u6 : Value).ownBlock ∧ some k_ ≠ (v157 : Value).ownBlock ∧ some k_ ≠ (v167 : Value).ownBlock ∧ k_ ≠ gb155 ∧ k_ ≠ gb170) (.slice Ao29 t163.length co29) t163) ∧ Aside0 (wc.heap[gb155]? = some (.cells #[.int .i64 x156000_2, (.slice Ao22 x156001_2.length co22)] 68 (0, 0))) ∧ Aside0 (wc.heap[gb170]? = some (.cells #[.int .i64 t162, (.slice Ao29 t163.length co29)] 68 (0, 0))) ∧ Aside0 (Below w.heap.size w wc))
                                    case first =>
                                      have H := HC38.out
                                      clear HC38
                                      have H' := Aside0.mk H
                                      clear H
                                      go_wp2
                                      go_loopg [15] kj33 (fun kq v15 w' => ∃ (x7_5 : List Bool) (x15_5 : Int), v15 = .int .i64 x15_5 ∧ Aside0 (batonlaw32_InboxOnce.l1 kq l0 l1 x6_2 x7_5 x8_2 ji16 t166 x14_20 x15_5 t162 t163 = some r) ∧ Aside0 (kq ≤ kj33) ∧ Aside0 (Kd.R (Kd.int .u8) 5 w' w.heap.size (fun k_ => some k_ ≠ (v167 : Value).ownBlock) u6 x6_2) ∧ Aside0 (Kd.R Kd.bool 4 w' w.heap.size (fun _ => True) v157 x7_5) ∧ Aside0 (Kd.R (Kd.int .u8) 5 w' w.heap.size (fun k_ => some k_ ≠ (u6 : Value).ownBlock) v167 t166) ∧ Aside0 (Kd.V k142 142 w' w.heap.size (fun k_ => some k_ ≠ (u6 : Value).ownBlock ∧ some k_ ≠ (v157 : Value).ownBlock ∧ some k_ ≠ (v167 : Value).ownBlock ∧ k_ ≠ gb155 ∧ k_ ≠ gb170) (.slice Ao22 x156001_2.length co22) x156001_2) ∧ Aside0 (Kd.V k142 142 w' w.heap.size (fun k_ => some k_ ≠ (u6 : Value).ownBlock ∧ some k_ ≠ (v157 : Value).ownBlock ∧ some k_ ≠ (v167 : Value).ownBlock ∧ k_ ≠ gb155 ∧ k_ ≠ gb170) (.slice Ao29 t163.length co29) t163) ∧ Aside0 (w'.heap[gb155]? = some (.cells #[.int .i64 x156000_2, (.slice Ao22 x156001_2.length co22)] 68 (0, 0))) ∧ Aside0 (w'.heap[gb170]? = some (.cells #[.int .i64 t162, (.slice Ao29 t163.length co29)] 68 (0, 0))) ∧ Aside0 (Below w.heap.size w w'))
                                      case atStart => exact ⟨(x7_2), (ji15), (by first | rfl | (simp; done) | (simp only [← hji15] <;> (first | rfl | simp)) | (simp [*]; done)), H', ⟨Nat.le_refl _⟩, ⟨by (with_reducible repeat (first | apply Kd.R_alloc | apply Kd.R_drewN | apply Kd.R_drew)); exact HO_6.out⟩, ⟨by (with_reducible repeat (first | apply Kd.R_alloc | apply Kd.R_drewN | apply Kd.R_drew)); exact HO_7.out⟩, ⟨by (with_reducible repeat (first | apply Kd.R_alloc | apply Kd.R_drewN | apply Kd.R_drew)); exact HO_12.out⟩, ⟨by (with_reducible repeat (first | apply Kd.V_alloc | apply Kd.V_drewN | apply Kd.V_drew)); exact HO_156001.out⟩, ⟨by (with_reducible repeat (first | apply Kd.V_alloc | apply Kd.V_drewN | apply Kd.V_drew)); exact HO_171001.out⟩, ⟨by (with_reducible repeat (first | refine blk_drewN ?_ _ | refine blk_drew ?_ | refine blk_alloc ?_ _)); exact BK155.out⟩, ⟨by (with_reducible repeat (first | refine blk_drewN ?_ _ | refine blk_drew ?_ | refine blk_alloc ?_ _)); exact BK170.out⟩, ⟨by repeat (first | (with_reducible first | exact HB.out | apply below_alloc | apply pw_below_drewN | apply below_drew1 | refine below_set ?_ GE155.out | refine below_set ?_ GE170.out) | exact HB.out)⟩⟩
                                      case round =>
                                        clear H'
                                        try clear c1
                                        try clear p1
                                        try clear q1
                                        try clear hx1
                                        try clear p2
                                        try clear c3
                                        try clear c4
                                        try clear p6
                                        try clear c7
                                        try clear c7b0
                                        try clear c7b1
                                        try clear c7b2
                                        try clear c8
                                        try clear c9
                                        try clear c9b0
                                        try clear c9b1
                                        try clear c13
                                        try clear c13b0
                                        try clear c14
                                        try clear c14b0
                                        try clear p15
                                        try clear q15
                                        try clear hx15
                                        try clear p16
                                        try clear q16
                                        try clear hx16
                                        try clear c17
                                        try clear c17b0
                                        try clear c17b1
                                        try clear c18
                                        try clear c18b0
                                        try clear c18b1
                                        try clear c19
                                        try clear c19b0
                                        try clear c19b1
                                        try clear c31
                                        try clear c31b0
                                        try clear c31b1
                                        try clear c31b2
                                        try clear c32
                                        try clear c35
                                        try clear c35b0
                                        try clear c35b1
                                        try clear c35b2
                                        try clear c36
                                        try clear c37
                                        try clear hcz33_0
                                        try clear hcz33_1
                                        try clear hfz33_0
                                        try clear hfz33_1
                                        try clear hx159_0
                                        try clear hx159_1
                                        try clear hx160_0
                                        try clear hx160_1
                                        try clear p1
                                        try clear p15
                                        try clear p159
                                        try clear p16
                                        try clear p160
                                        try clear p2
                                        try clear p6
                                        try clear q1
                                        try clear q15
                                        try clear q159
                                        try clear q16
                                        try clear q160
                                        obtain ⟨x7_5, x15_5, rfl, HA, HK5, HO_6, HO_7, HO_12, HO_156001, HO_171001, BK155, BK170, HB⟩ := hrel
                                        cases gk with
                                        | zero => exact absurd HA.out (by simp [batonlaw32_InboxOnce.l1])
                                        | succ k5 =>
                                          have H := HA.out
                                          clear HA
                                          simp only [batonlaw32_InboxOnce.l1] at H
                                          by_cases c39 : x15_5 < ji16
                                          · rw [if_pos c39] at H
                                            have c39b0 : decide (x15_5 < ji16) = true := decide_eq_true c39
                                            clear c39
                                            (first | rw [c39b0] | (simp only [i64_w, i32_w]; rw [c39b0]) | rw [c39b1] | rw [c39b2] | skip)
                                            by_cases c40 : x14_20 = true
                                            · subst c40
                                              have H1 : (batonlaw32_InboxOnce.j5 k5 l0 l1 x6_2 x7_5 x8_2 t166 t162 t163) = some r := by rw [if_pos rfl] at H; exact H
                                              clear H
                                              have H := H1
                                              clear H1
                                              have H' := Aside0.mk H
                                              clear H
                                              go_wp2
                                              go_meet
                                              case rel => exact ⟨_, (x7_5), H', ⟨by have := HJ4.out; have := HK2.out; have := HJ20.out; have := HJ33.out; have := HK5.out; first | omega | exact Nat.le_refl _⟩, ⟨by (with_reducible repeat (first | apply Kd.R_alloc | apply Kd.R_drewN | apply Kd.R_drew)); exact HO_6.out⟩, ⟨by (with_reducible repeat (first | apply Kd.R_alloc | apply Kd.R_drewN | apply Kd.R_drew)); exact HO_7.out⟩, ⟨by (with_reducible repeat (first | apply Kd.R_alloc | apply Kd.R_drewN | apply Kd.R_drew)); exact HO_12.out⟩, ⟨by (with_reducible repeat (first | apply Kd.V_alloc | apply Kd.V_drewN | apply Kd.V_drew)); exact HO_156001.out⟩, ⟨by (with_reducible repeat (first | apply Kd.V_alloc | apply Kd.V_drewN | apply Kd.V_drew)); exact HO_171001.out⟩, ⟨by (with_reducible repeat (first | refine blk_drewN ?_ _ | refine blk_drew ?_ | refine blk_alloc ?_ _)); exact BK155.out⟩, ⟨by (with_reducible repeat (first | refine blk_drewN ?_ _ | refine blk_drew ?_ | refine blk_alloc ?_ _)); exact BK170.out⟩, ⟨by repeat (first | (with_reducible first | exact HB.out | apply below_alloc | apply pw_below_drewN | apply below_drew1 | refine below_set ?_ GE155.out | refine below_set ?_ GE170.out) | exact HB.out)⟩⟩
                                            · replace c40 := Bool.eq_false_iff.mpr c40
                                              subst c40
                                              have H1 : (if 0 ≤ x15_5 then (if x15_5 < (x7_5.length : Int) then (batonlaw32_InboxOnce.l1 k5 l0 l1 x6_2 (x7_5.set (x15_5 : Int).toNat true) x8_2 ji16 t166 false (wrap64 (x15_5 + 1)) t162 t163) else (none)) else (none)) = some r := by rw [if_neg (show ¬ (false = true) by decide)] at H; exact H
                                              clear H
                                              have H := H1
                                              clear H1
                                              by_cases c41 : 0 ≤ x15_5
                                              · rw [if_pos c41] at H
                                                have c41b0 : decide (0 ≤ x15_5) = true := decide_eq_true c41
                                                clear c41
                                                by_cases c42 : x15_5 < (x7_5.length : Int)
                                                · rw [if_pos c42] at H
                                                  have c42b0 : decide (x15_5 < (x7_5.length : Int)) = true := decide_eq_true c42
                                                  clear c42
                                                  obtain ⟨y171, hy171⟩ : ∃ y_ : List Bool, y_ = (x7_5.set (x15_5 : Int).toNat true) := ⟨_, rfl⟩
                                                  replace H : (batonlaw32_InboxOnce.l1 k5 l0 l1 x6_2 y171 x8_2 ji16 t166 false (wrap64 (x15_5 + 1)) t162 t163) = some r := by first | (rw [hy171]; with_reducible exact H) | (have H2_ := (Option.bind_some _ _).symm.trans H; rw [hy171]; with_reducible exact H2_) | (have H2_ := (Option.bind_some _ _).symm.trans H; with_reducible exact H2_) | with_reducible exact H | (rw [hy171]; exact H) | exact H
                                                  have Ny171 := Aside0.mk hy171
                                                  clear hy171
                                                  have H' := Aside0.mk H
                                                  clear H
                                                  have p43 : 0 ≤ (x15_5 : Int) := of_decide_eq_true (by first | (with_reducible assumption) | assumption)
                                                  have q43 : (x15_5 : Int) < ((x7_5.length : Int) : Int) := of_decide_eq_true (by first | (with_reducible assumption) | assumption)
                                                  obtain ⟨go43, co43, eo43, gb43, gl43, cl43, HG43⟩ := Kd.R_form HO_7.out (by omega)
                                                  (first | cases eo43 | (injection eo43 with ea_ en_ ec_; (first | subst ea_ | (injection ea_ with ea_; subst ea_)); subst ec_; clear en_))
                                                  have GB43 := Aside0.mk gb43
                                                  have GG43 := Aside0.mk HG43
                                                  clear gb43 gl43 HG43
                                                  obtain ⟨hx43_0, hf43_0⟩ := Kd.R_celln false HO_7.out (x15_5 : Int) p43 q43
                                                  replace p43 := eq_true p43
                                                  replace q43 := eq_true q43
                                                  have HP44 := Kd.R_putg HO_7.out (x15_5 : Int) true
                                                  go_wp2_with (first | ((with_reducible refine gate_store (t := 4) (p := 100) rfl ?_); refine store_event (t := 4) (p := 100) (v := ?vo_w45) (w1 := (wr.setCell ⟨go43, (x15_5 : Int).toNat, none⟩ (.bool true))) ?hg ?ho ?hn ?hr ?_; (case ho => rfl); (case hg => rfl); (case hn => rfl); (case hr => first | (go_simp; done) | (go_simp; rfl)); intro w45 hw; have hg : wr.grownBy w45 (some go43) := (by rw [hw]; exact HP44.2); have hp_ : Kd.R Kd.bool 4 w45 w.heap.size (fun _ => True) (.slice (some ⟨go43, 0, none⟩) x7_5.length co43) y171 := (by rw [hw, Ny171.out]; exact HP44.1); clear HP44; have n0_ := Aside0.mk (Kd.R_over' (v := (.slice (some ⟨go43, 0, none⟩) x7_5.length co43)) (by (with_reducible repeat (first | apply Kd.R_alloc | apply Kd.R_drewN | apply Kd.R_drew)); exact HO_6.out) (Kd.R_typed HO_7.out) (by decide) hg); have n1_ := Aside0.mk (hp_); have n2_ := Aside0.mk (Kd.R_over' (v := (.slice (some ⟨go43, 0, none⟩) x7_5.length co43)) (by (with_reducible repeat (first | apply Kd.R_alloc | apply Kd.R_drewN | apply Kd.R_drew)); exact HO_12.out) (Kd.R_typed HO_7.out) (by decide) hg); have n3_ := Aside0.mk (Kd.V_afterv (v := (.slice (some ⟨go43, 0, none⟩) x7_5.length co43)) (v1 := (.slice (some ⟨go43, 0, none⟩) x7_5.length co43)) (ok := (fun k_ => some k_ ≠ (u6 : Value).ownBlock ∧ some k_ ≠ (v167 : Value).ownBlock ∧ k_ ≠ gb155 ∧ k_ ≠ gb170)) (by (with_reducible repeat (first | apply Kd.V_alloc | apply Kd.V_drewN | apply Kd.V_drew)); exact Kd.V_mono HO_156001.out (fun _ hk => ⟨⟨hk.1, ⟨hk.2.2.1, ⟨hk.2.2.2.1, hk.2.2.2.2⟩⟩⟩, hk.2.1⟩)) hg (.inl rfl)); have n4_ := Aside0.mk (Kd.V_afterv (v := (.slice (some ⟨go43, 0, none⟩) x7_5.length co43)) (v1 := (.slice (some ⟨go43, 0, none⟩) x7_5.length co43)) (ok := (fun k_ => some k_ ≠ (u6 : Value).ownBlock ∧ some k_ ≠ (v167 : Value).ownBlock ∧ k_ ≠ gb155 ∧ k_ ≠ gb170)) (by (with_reducible repeat (first | apply Kd.V_alloc | apply Kd.V_drewN | apply Kd.V_drew)); exact Kd.V_mono HO_171001.out (fun _ hk => ⟨⟨hk.1, ⟨hk.2.2.1, ⟨hk.2.2.2.1, hk.2.2.2.2⟩⟩⟩, hk.2.1⟩)) hg (.inl rfl)); have n5_ := Aside0.mk (blk_grown (g := gb155) (o := .cells #[.int .i64 x156000_2, .slice Ao22 x156001_2.length co22] 68 (0, 0)) (by (with_reducible repeat (first | refine blk_drewN ?_ _ | refine blk_drew ?_ | refine blk_alloc ?_ _)); exact BK155.out) hg (Kd.R_ne HO_7.out BK155.out (by decide))); have n6_ := Aside0.mk (blk_grown (g := gb170) (o := .cells #[.int .i64 t162, .slice Ao29 t163.length co29] 68 (0, 0)) (by (with_reducible repeat (first | refine blk_drewN ?_ _ | refine blk_drew ?_ | refine blk_alloc ?_ _)); exact BK170.out) hg (Kd.R_ne HO_7.out BK170.out (by decide))); have n7_ := Aside0.mk ((by rw [hw]; exact below_set (HB.out) GB43.out : Below w.heap.size w w45)); clear HO_6; clear HO_7; clear HO_12; clear HO_156001; clear HO_171001; clear BK155; clear BK170; clear HB; have HO_6 := n0_; have HO_7 := n1_; have HO_12 := n2_; have HO_156001 := n3_; have HO_171001 := n4_; have BK155 := n5_; have BK170 := n6_; have HB := n7_; clear n0_ n1_ n2_ n3_ n4_ n5_ n6_ n7_; clear hg hw hp_))
                                                  go_roundg k5
                                                  case measure => have := HJ4.out; have := HK2.out; have := HJ20.out; have := HJ33.out; have := HK5.out; omega
                                                  case rel => exact ⟨(y171), (wrap64 (x15_5 + 1)), (by first | rfl | (simp; done) | (simp [*]; done)), H', ⟨by have := HJ4.out; have := HK2.out; have := HJ20.out; have := HJ33.out; have := HK5.out; omega⟩, ⟨by (with_reducible repeat (first | apply Kd.R_alloc | apply Kd.R_drewN | apply Kd.R_drew)); exact HO_6.out⟩, ⟨by (with_reducible repeat (first | apply Kd.R_alloc | apply Kd.R_drewN | apply Kd.R_drew)); exact HO_7.out⟩, ⟨by (with_reducible repeat (first | apply Kd.R_alloc | apply Kd.R_drewN | apply Kd.R_drew)); exact HO_12.out⟩, ⟨by (with_reducible repeat (first | apply Kd.V_alloc | apply Kd.V_drewN | apply Kd.V_drew)); exact Kd.V_mono HO_156001.out (fun _ hk => ⟨hk.1.1, ⟨hk.2, ⟨hk.1.2.1, ⟨hk.1.2.2.1, hk.1.2.2.2⟩⟩⟩⟩)⟩, ⟨by (with_reducible repeat (first | apply Kd.V_alloc | apply Kd.V_drewN | apply Kd.V_drew)); exact Kd.V_mono HO_171001.out (fun _ hk => ⟨hk.1.1, ⟨hk.2, ⟨hk.1.2.1, ⟨hk.1.2.2.1, hk.1.2.2.2⟩⟩⟩⟩)⟩, ⟨by (with_reducible repeat (first | refine blk_drewN ?_ _ | refine blk_drew ?_ | refine blk_alloc ?_ _)); exact BK155.out⟩, ⟨by (with_reducible repeat (first | refine blk_drewN ?_ _ | refine blk_drew ?_ | refine blk_alloc ?_ _)); exact BK170.out⟩, ⟨by repeat (first | (with_reducible first | exact HB.out | apply below_alloc | apply pw_below_drewN | apply below_drew1 | refine below_set ?_ GE155.out | refine below_set ?_ GE170.out) | exact HB.out)⟩⟩
                                                · rw [if_neg c42] at H
                                                  exact absurd H (by simp)
                                              · rw [if_neg c41] at H
                                                exact absurd H (by simp)
                                          · rw [if_neg c39] at H
                                            have c39b0 : decide (x15_5 < ji16) = false := decide_eq_false c39
                                            clear c39
                                            (first | rw [c39b0] | (simp only [i64_w, i32_w]; rw [c39b0]) | rw [c39b1] | rw [c39b2] | skip)
                                            have H' := Aside0.mk H
                                            clear H
                                            go_wp2
                                            go_meet
                                            case rel => exact ⟨_, (x7_5), H', ⟨by have := HJ4.out; have := HK2.out; have := HJ20.out; have := HJ33.out; have := HK5.out; first | omega | exact Nat.le_refl _⟩, ⟨by (with_reducible repeat (first | apply Kd.R_alloc | apply Kd.R_drewN | apply Kd.R_drew)); exact HO_6.out⟩, ⟨by (with_reducible repeat (first | apply Kd.R_alloc | apply Kd.R_drewN | apply Kd.R_drew)); exact HO_7.out⟩, ⟨by (with_reducible repeat (first | apply Kd.R_alloc | apply Kd.R_drewN | apply Kd.R_drew)); exact HO_12.out⟩, ⟨by (with_reducible repeat (first | apply Kd.V_alloc | apply Kd.V_drewN | apply Kd.V_drew)); exact HO_156001.out⟩, ⟨by (with_reducible repeat (first | apply Kd.V_alloc | apply Kd.V_drewN | apply Kd.V_drew)); exact HO_171001.out⟩, ⟨by (with_reducible repeat (first | refine blk_drewN ?_ _ | refine blk_drew ?_ | refine blk_alloc ?_ _)); exact BK155.out⟩, ⟨by (with_reducible repeat (first | refine blk_drewN ?_ _ | refine blk_drew ?_ | refine blk_alloc ?_ _)); exact BK170.out⟩, ⟨by repeat (first | (with_reducible first | exact HB.out | apply below_alloc | apply pw_below_drewN | apply below_drew1 | refine below_set ?_ GE155.out | refine below_set ?_ GE170.out) | exact HB.out)⟩⟩
                                    case rest =>
                                      clear HC38
                                      try clear c1
                                      try clear p1
                                      try clear q1
                                      try clear hx1
                                      try clear p2
                                      try clear c3
                                      try clear c4
                                      try clear p4
                                      try clear q4
                                      try clear hx4
                                      try clear hf4
                                      try clear p6
                                      try clear c7
                                      try clear c7b0
                                      try clear c7b1
                                      try clear c7b2
                                      try clear c8
                                      try clear c9
                                      try clear c9b0
                                      try clear c9b1
                                      try clear c13
                                      try clear c13b0
                                      try clear c14
                                      try clear c14b0
                                      try clear p15
                                      try clear q15
                                      try clear hx15
                                      try clear p16
                                      try clear q16
                                      try clear hx16
                                      try clear c17
                                      try clear c17b0
                                      try clear c17b1
                                      try clear c18
                                      try clear c18b0
                                      try clear c18b1
                                      try clear c19
                                      try clear c19b0
                                      try clear c19b1
                                      try clear c31
                                      try clear c31b0
                                      try clear c31b1
                                      try clear c31b2
                                      try clear c32
                                      try clear c35
                                      try clear c35b0
                                      try clear c35b1
                                      try clear c35b2
                                      try clear c36
                                      try clear c37
                                      try clear c39
                                      try clear c39b0
                                      try clear c39b1
                                      try clear c39b2
                                      try clear c40
                                      try clear c41
                                      try clear c41b0
                                      try clear c42
                                      try clear c42b0
                                      try clear p43
                                      try clear q43
                                      try clear hx43
                                      try clear hf43
                                      try clear hcz33_0
                                      try clear hcz33_1
                                      try clear hfz33_0
                                      try clear hfz33_1
                                      try clear hx159_0
                                      try clear hx159_1
                                      try clear hx160_0
                                      try clear hx160_1
                                      try clear hx43_0
                                      try clear p1
                                      try clear p15
                                      try clear p159
                                      try clear p16
                                      try clear p160
                                      try clear p2
                                      try clear p43
                                      try clear p6
                                      try clear q1
                                      try clear q15
                                      try clear q159
                                      try clear q16
                                      try clear q160
                                      try clear q43
                                      obtain ⟨kq, x7_37, HA, HJ37, HO_6, HO_7, HO_12, HO_156001, HO_171001, BK155, BK170, HB⟩ := hcut
                                      cases kq with
                                      | zero => exact absurd HA.out (by simp [batonlaw32_InboxOnce.j5])
                                      | succ kj37 =>
                                        have H := HA.out
                                        clear HA
                                        simp only [batonlaw32_InboxOnce.j5] at H
                                        by_cases c46 : x6_2.length + t166.length < 140737488355328
                                        · rw [if_pos c46] at H
                                          have LMc46 := Aside0.mk c46
                                          clear c46
                                          obtain ⟨y172, hy172⟩ : ∃ y_ : List Int, y_ = (x6_2 ++ t166) := ⟨_, rfl⟩
                                          replace H : (batonlaw32_InboxOnce.l2 kj37 l0 l1 y172 x7_37 x8_2 0 t162 t163) = some r := by first | (rw [hy172]; with_reducible exact H) | (have H2_ := (Option.bind_some _ _).symm.trans H; rw [hy172]; with_reducible exact H2_) | (have H2_ := (Option.bind_some _ _).symm.trans H; with_reducible exact H2_) | with_reducible exact H | (rw [hy172]; exact H) | exact H
                                          have Ny172 := Aside0.mk hy172
                                          clear hy172
                                          have H' := Aside0.mk H
                                          clear H
                                          obtain ⟨Ao48, co48, eo48⟩ := Kd.R_slice HO_12.out
                                          subst eo48
                                          go_wp2_with (first | ((with_reducible refine gate_builtin (b := .append) (xs := #[.tmp 101, .tmp 102]) rfl ?_); (try (refine gate_guard (by rfl) ?_; dsimp only)); at_builtin; refine Kd.R_append_rows (Kd.int .u8) (w0 := w) w.heap.size rfl (.tmp 101) (.tmp 102) 22 5 (.int .u8 0) 1 rfl Try.underlying22 info5 rfl (by decide) (by omega) u6 x6_2 t166 _ _ _ (fun k_ => some k_ ≠ (.slice Ao48 t166.length co48 : Value).ownBlock) (fun _ => False) rfl rfl ?aO ?aR (fun _ _ h => h) (fun _ h => h.elim) ?aF ?aB ?aS ?aL ?_; (case aR => repeat (first | exact (Kd.R_reads' HO_12.out).2.2 | (with_reducible refine Kd.C_alloc ?_ _) | (with_reducible refine Kd.C_drewN ?_ _) | (with_reducible refine Kd.C_drew ?_))); (case aB => exact (by repeat (first | (with_reducible first | exact HB.out | apply below_alloc | apply pw_below_drewN | apply below_drew1 | refine below_set ?_ GE155.out | refine below_set ?_ GE170.out) | exact HB.out))); (case aF => exact (fun k_ hk => Kd.fresh' (Kd.R_lt (by (with_reducible repeat (first | apply Kd.R_alloc | apply Kd.R_drewN | apply Kd.R_drew)); exact HO_12.out)) k_ hk)); (case aO => exact (by (with_reducible repeat (first | apply Kd.R_alloc | apply Kd.R_drewN | apply Kd.R_drew)); exact HO_6.out)); (case aS => exact (below_size (by repeat (first | (with_reducible first | exact HB.out | apply below_alloc | apply pw_below_drewN | apply below_drew1 | refine below_set ?_ GE155.out | refine below_set ?_ GE170.out) | exact HB.out)))); (case aL => have := LMc46.out; omega); intro v173 w47 ho hb hg hat; rw [← Ny172.out] at ho; have n0_ := Aside0.mk (Kd.R_over' (by (with_reducible repeat (first | apply Kd.R_alloc | apply Kd.R_drewN | apply Kd.R_drew)); exact HO_7.out) (Kd.R_typed (by (with_reducible repeat (first | apply Kd.R_alloc | apply Kd.R_drewN | apply Kd.R_drew)); exact HO_6.out)) (by decide) hg); have n1_ := Aside0.mk (Kd.R_after (ok := (fun _ => True)) (by (with_reducible repeat (first | apply Kd.R_alloc | apply Kd.R_drewN | apply Kd.R_drew)); exact Kd.R_mono HO_12.out (fun _ hk => ⟨trivial, hk⟩)) hg hat); have n2_ := Aside0.mk (Kd.V_afterv (ok := (fun k_ => some k_ ≠ (v157 : Value).ownBlock ∧ some k_ ≠ (.slice Ao48 t166.length co48 : Value).ownBlock ∧ k_ ≠ gb155 ∧ k_ ≠ gb170)) (by (with_reducible repeat (first | apply Kd.V_alloc | apply Kd.V_drewN | apply Kd.V_drew)); exact Kd.V_mono HO_156001.out (fun _ hk => ⟨⟨hk.2.1, ⟨hk.2.2.1, ⟨hk.2.2.2.1, hk.2.2.2.2⟩⟩⟩, hk.1⟩)) hg hat); have n3_ := Aside0.mk (Kd.V_afterv (ok := (fun k_ => some k_ ≠ (v157 : Value).ownBlock ∧ some k_ ≠ (.slice Ao48 t166.length co48 : Value).ownBlock ∧ k_ ≠ gb155 ∧ k_ ≠ gb170)) (by (with_reducible repeat (first | apply Kd.V_alloc | apply Kd.V_drewN | apply Kd.V_drew)); exact Kd.V_mono HO_171001.out (fun _ hk => ⟨⟨hk.2.1, ⟨hk.2.2.1, ⟨hk.2.2.2.1, hk.2.2.2.2⟩⟩⟩, hk.1⟩)) hg hat); have n4_ := Aside0.mk (blk_grown (g := gb155) (o := .cells #[.int .i64 x156000_2, .slice Ao22 x156001_2.length co22] 68 (0, 0)) (by (with_reducible repeat (first | refine blk_drewN ?_ _ | refine blk_drew ?_ | refine blk_alloc ?_ _)); exact BK155.out) hg (Kd.R_ne HO_6.out BK155.out (by decide))); have n5_ := Aside0.mk (blk_grown (g := gb170) (o := .cells #[.int .i64 t162, .slice Ao29 t163.length co29] 68 (0, 0)) (by (with_reducible repeat (first | refine blk_drewN ?_ _ | refine blk_drew ?_ | refine blk_alloc ?_ _)); exact BK170.out) hg (Kd.R_ne HO_6.out BK170.out (by decide))); have n6_ := Aside0.mk (hb); have n7_ := Aside0.mk (ho); clear HO_7; clear HO_12; clear HO_156001; clear HO_171001; clear BK155; clear BK170; clear HB; clear HO_6; have HO_7 := n0_; have HO_12 := n1_; have HO_156001 := n2_; have HO_171001 := n3_; have BK155 := n4_; have BK170 := n5_; have HB := n6_; have HO174 := n7_; clear n0_ n1_ n2_ n3_ n4_ n5_ n6_ n7_; clear ho hb hg hat; have hnb49 := NB170_155.out; have hnc49 := NB155_170.out; have hcz50_0 : w47.cell? ⟨gb170, 0, none⟩ = some (.int .i64 t162) := (blk_cell BK170.out 0).trans rfl; have hcz50_1 : w47.cell? ⟨gb170, 1, none⟩ = some (.slice Ao29 t163.length co29) := (blk_cell BK170.out 1).trans rfl; have hfz50_0 := blk_frozen BK170.out 0; have hfz50_1 := blk_frozen BK170.out 1; have hcz51_0 : w47.cell? ⟨gb155, 0, none⟩ = some (.int .i64 x156000_2) := (blk_cell BK155.out 0).trans rfl; have hcz51_1 : w47.cell? ⟨gb155, 1, none⟩ = some (.slice Ao22 x156001_2.length co22) := (blk_cell BK155.out 1).trans rfl; have hfz51_0 := blk_frozen BK155.out 0; have hfz51_1 := blk_frozen BK155.out 1) | ((with_reducible refine gate_store (t := 68) (p := 5) rfl ?_); refine store_event (t := 68) (p := 5) (v := ?vo_w52) (w1 := ((w47.setCell ⟨gb155, 0, none⟩ (.int .i64 t162)).setCell ⟨gb155, 1, none⟩ (.slice Ao29 t163.length co29))) ?hg ?ho ?hn ?hr ?_; (case ho => rfl); (case hg => rfl); (case hn => rfl); (case hr => first | (go_simp; done) | (go_simp; rfl)); intro w52 hw; have n0_ : Aside0 (Kd.R Kd.bool 4 w52 w.heap.size (fun _ => True) v157 x7_37) := ⟨(by rw [hw]; exact (by (with_reducible repeat (first | apply Kd.R_alloc | apply Kd.R_drewN | apply Kd.R_drew)); exact Kd.R_mono (Kd.R_far (p := ⟨gb155, 1, none⟩) (Kd.R_far (p := ⟨gb155, 0, none⟩) (Kd.R_types HO_7.out BK155.out (by decide)) (fun _ hk => hk.2) (.int .i64 t162)) (fun _ hk => hk.2) (.slice Ao29 t163.length co29)) (fun _ hk => trivial)))⟩; have n1_ : Aside0 (Kd.R (Kd.int .u8) 5 w52 w.heap.size (fun k_ => some k_ ≠ (v173 : Value).ownBlock) (.slice Ao48 t166.length co48) t166) := ⟨(by rw [hw]; exact (by (with_reducible repeat (first | apply Kd.R_alloc | apply Kd.R_drewN | apply Kd.R_drew)); exact Kd.R_mono (Kd.R_far (p := ⟨gb155, 1, none⟩) (Kd.R_far (p := ⟨gb155, 0, none⟩) (Kd.R_types HO_12.out BK155.out (by decide)) (fun _ hk => hk.2) (.int .i64 t162)) (fun _ hk => hk.2) (.slice Ao29 t163.length co29)) (fun _ hk => hk.1.2)))⟩; have n2_ : Aside0 (Kd.V k142 142 w52 w.heap.size (fun k_ => some k_ ≠ (v157 : Value).ownBlock ∧ some k_ ≠ (.slice Ao48 t166.length co48 : Value).ownBlock ∧ some k_ ≠ (v173 : Value).ownBlock ∧ k_ ≠ gb155 ∧ k_ ≠ gb170) (.slice Ao22 x156001_2.length co22) x156001_2) := ⟨(by rw [hw]; exact (by (with_reducible repeat (first | apply Kd.V_alloc | apply Kd.V_drewN | apply Kd.V_drew)); exact Kd.V_mono (Kd.V_far (p := ⟨gb155, 1, none⟩) (Kd.V_far (p := ⟨gb155, 0, none⟩) (Kd.V_mono HO_156001.out (fun k_ hk => (⟨hk, hk.1.2.2.1⟩ : _ ∧ k_ ≠ gb155))) (fun _ hk => hk.2) (.int .i64 t162)) (fun _ hk => hk.2) (.slice Ao29 t163.length co29)) (fun _ hk => ⟨hk.1.1.1, ⟨hk.1.1.2.1, ⟨hk.1.2, ⟨hk.1.1.2.2.1, hk.1.1.2.2.2⟩⟩⟩⟩)))⟩; have n3_ : Aside0 (Kd.V k142 142 w52 w.heap.size (fun k_ => some k_ ≠ (v157 : Value).ownBlock ∧ some k_ ≠ (.slice Ao48 t166.length co48 : Value).ownBlock ∧ some k_ ≠ (v173 : Value).ownBlock ∧ k_ ≠ gb155 ∧ k_ ≠ gb170) (.slice Ao29 t163.length co29) t163) := ⟨(by rw [hw]; exact (by (with_reducible repeat (first | apply Kd.V_alloc | apply Kd.V_drewN | apply Kd.V_drew)); exact Kd.V_mono (Kd.V_far (p := ⟨gb155, 1, none⟩) (Kd.V_far (p := ⟨gb155, 0, none⟩) (Kd.V_mono HO_171001.out (fun k_ hk => (⟨hk, hk.1.2.2.1⟩ : _ ∧ k_ ≠ gb155))) (fun _ hk => hk.2) (.int .i64 t162)) (fun _ hk => hk.2) (.slice Ao29 t163.length co29)) (fun _ hk => ⟨hk.1.1.1, ⟨hk.1.1.2.1, ⟨hk.1.2, ⟨hk.1.1.2.2.1, hk.1.1.2.2.2⟩⟩⟩⟩)))⟩; have n4_ : Aside0 (Kd.R (Kd.int .u8) 5 w52 w.heap.size (fun k_ => some k_ ≠ (.slice Ao48 t166.length co48 : Value).ownBlock) v173 y172) := ⟨(by rw [hw]; exact (by (with_reducible repeat (first | apply Kd.R_alloc | apply Kd.R_drewN | apply Kd.R_drew)); exact Kd.R_mono (Kd.R_far (p := ⟨gb155, 1, none⟩) (Kd.R_far (p := ⟨gb155, 0, none⟩) (Kd.R_types HO174.out BK155.out (by decide)) (fun _ hk => hk.2) (.int .i64 t162)) (fun _ hk => hk.2) (.slice Ao29 t163.length co29)) (fun _ hk => hk.1)))⟩; have n5_ : Aside0 (w52.heap[gb155]? = some (.cells #[.int .i64 t162, .slice Ao29 t163.length co29] 68 (0, 0))) := ⟨(by rw [hw]; exact (by (with_reducible repeat (first | refine blk_drewN ?_ _ | refine blk_drew ?_ | refine blk_alloc ?_ _)); refine blk_put (cs := #[.int .i64 t162, .slice Ao22 x156001_2.length co22]) ?_ 1 _ rfl; (with_reducible repeat (first | refine blk_drewN ?_ _ | refine blk_drew ?_ | refine blk_alloc ?_ _)); refine blk_put (cs := #[.int .i64 x156000_2, .slice Ao22 x156001_2.length co22]) ?_ 0 _ rfl; (with_reducible repeat (first | refine blk_drewN ?_ _ | refine blk_drew ?_ | refine blk_alloc ?_ _)); exact BK155.out))⟩; have n6_ : Aside0 (w52.heap[gb170]? = some (.cells #[.int .i64 t162, .slice Ao29 t163.length co29] 68 (0, 0))) := ⟨(by rw [hw]; exact (by (with_reducible repeat (first | refine blk_drewN ?_ _ | refine blk_drew ?_ | refine blk_alloc ?_ _)); refine blk_far ?_ NB170_155.out _; (with_reducible repeat (first | refine blk_drewN ?_ _ | refine blk_drew ?_ | refine blk_alloc ?_ _)); refine blk_far ?_ NB170_155.out _; (with_reducible repeat (first | refine blk_drewN ?_ _ | refine blk_drew ?_ | refine blk_alloc ?_ _)); exact BK170.out))⟩; have n7_ : Aside0 (Below w.heap.size w w52) := ⟨(by rw [hw]; exact (by repeat (first | (with_reducible first | exact HB.out | apply below_alloc | apply pw_below_drewN | apply below_drew1 | refine below_set ?_ GE155.out | refine below_set ?_ GE170.out) | exact HB.out)))⟩; clear hw; clear HO_7; clear HO_12; clear HO_156001; clear HO_171001; clear HO174; clear BK155; clear BK170; clear HB; have HO_7 := n0_; have HO_12 := n1_; have HO_156001 := n2_; have HO_171001 := n3_; have HO174 := n4_; have BK155 := n5_; have BK170 := n6_; have HB := n7_; clear n0_ n1_ n2_ n3_ n4_ n5_ n6_ n7_))
                                          go_loopg [16] kj37 (fun kq v16 w' => ∃ (x16_6 : Int), v16 = .int .i64 x16_6 ∧ Aside0 (batonlaw32_InboxOnce.l2 kq l0 l1 y172 x7_37 x8_2 x16_6 t162 t163 = some r) ∧ Aside0 (kq ≤ kj37) ∧ Aside0 (Kd.R (Kd.int .u8) 5 w' w.heap.size (fun _ => True) v173 y172) ∧ Aside0 (Kd.R Kd.bool 4 w' w.heap.size (fun _ => True) v157 x7_37) ∧ Aside0 (Kd.V k142 142 w' w.heap.size (fun k_ => some k_ ≠ (v173 : Value).ownBlock ∧ some k_ ≠ (v157 : Value).ownBlock ∧ k_ ≠ gb155 ∧ k_ ≠ gb170) (.slice Ao29 t163.length co29) t163) ∧ Aside0 (Kd.V k142 142 w' w.heap.size (fun k_ => some k_ ≠ (v173 : Value).ownBlock ∧ some k_ ≠ (v157 : Value).ownBlock ∧ k_ ≠ gb155 ∧ k_ ≠ gb170) (.slice Ao29 t163.length co29) t163) ∧ Aside0 (w'.heap[gb155]? = some (.cells #[.int .i64 t162, (.slice Ao29 t163.length co29)] 68 (0, 0))) ∧ Aside0 (w'.heap[gb170]? = some (.cells #[.int .i64 t162, (.slice Ao29 t163.length co29)] 68 (0, 0))) ∧ Aside0 (Below w.heap.size w w'))
                                          case atStart => exact ⟨(0), (by first | rfl | (simp; done) | (simp [*]; done)), H', ⟨Nat.le_refl _⟩, ⟨by (with_reducible repeat (first | apply Kd.R_alloc | apply Kd.R_drewN | apply Kd.R_drew)); exact Kd.R_mono HO174.out (fun _ hk => trivial)⟩, ⟨by (with_reducible repeat (first | apply Kd.R_alloc | apply Kd.R_drewN | apply Kd.R_drew)); exact HO_7.out⟩, ⟨by (with_reducible repeat (first | apply Kd.V_alloc | apply Kd.V_drewN | apply Kd.V_drew)); exact Kd.V_mono HO_171001.out (fun _ hk => ⟨hk.2.2.1, ⟨hk.1, ⟨hk.2.2.2.1, hk.2.2.2.2⟩⟩⟩)⟩, ⟨by (with_reducible repeat (first | apply Kd.V_alloc | apply Kd.V_drewN | apply Kd.V_drew)); exact Kd.V_mono HO_171001.out (fun _ hk => ⟨hk.2.2.1, ⟨hk.1, ⟨hk.2.2.2.1, hk.2.2.2.2⟩⟩⟩)⟩, ⟨by (with_reducible repeat (first | refine blk_drewN ?_ _ | refine blk_drew ?_ | refine blk_alloc ?_ _)); exact BK155.out⟩, ⟨by (with_reducible repeat (first | refine blk_drewN ?_ _ | refine blk_drew ?_ | refine blk_alloc ?_ _)); exact BK170.out⟩, ⟨by repeat (first | (with_reducible first | exact HB.out | apply below_alloc | apply pw_below_drewN | apply below_drew1 | refine below_set ?_ GE155.out | refine below_set ?_ GE170.out) | exact HB.out)⟩⟩
                                          case round =>
                                            clear H'
                                            try clear c1
                                            try clear p1
                                            try clear q1
                                            try clear hx1
                                            try clear p2
                                            try clear c3
                                            try clear c4
                                            try clear p4
                                            try clear q4
                                            try clear hx4
                                            try clear hf4
                                            try clear p6
                                            try clear c7
                                            try clear c7b0
                                            try clear c7b1
                                            try clear c7b2
                                            try clear c8
                                            try clear c9
                                            try clear c9b0
                                            try clear c9b1
                                            try clear c13
                                            try clear c13b0
                                            try clear c14
                                            try clear c14b0
                                            try clear p15
                                            try clear q15
                                            try clear hx15
                                            try clear p16
                                            try clear q16
                                            try clear hx16
                                            try clear c17
                                            try clear c17b0
                                            try clear c17b1
                                            try clear c18
                                            try clear c18b0
                                            try clear c18b1
                                            try clear c19
                                            try clear c19b0
                                            try clear c19b1
                                            try clear c31
                                            try clear c31b0
                                            try clear c31b1
                                            try clear c31b2
                                            try clear c32
                                            try clear c35
                                            try clear c35b0
                                            try clear c35b1
                                            try clear c35b2
                                            try clear c36
                                            try clear c37
                                            try clear c39
                                            try clear c39b0
                                            try clear c39b1
                                            try clear c39b2
                                            try clear c40
                                            try clear c41
                                            try clear c41b0
                                            try clear c42
                                            try clear c42b0
                                            try clear p43
                                            try clear q43
                                            try clear hx43
                                            try clear hf43
                                            try clear c46
                                            try clear c49
                                            try clear hcz33_0
                                            try clear hcz33_1
                                            try clear hcz50_0
                                            try clear hcz50_1
                                            try clear hcz51_0
                                            try clear hcz51_1
                                            try clear hfz33_0
                                            try clear hfz33_1
                                            try clear hfz50_0
                                            try clear hfz50_1
                                            try clear hfz51_0
                                            try clear hfz51_1
                                            try clear hx159_0
                                            try clear hx159_1
                                            try clear hx160_0
                                            try clear hx160_1
                                            try clear hx43_0
                                            try clear p1
                                            try clear p15
                                            try clear p159
                                            try clear p16
                                            try clear p160
                                            try clear p2
                                            try clear p4
                                            try clear p43
                                            try clear p6
                                            try clear q1
                                            try clear q15
                                            try clear q159
                                            try clear q16
                                            try clear q160
                                            try clear q4
                                            try clear q43
                                            obtain ⟨x16_6, rfl, HA, HK6, HO_6, HO_7, HO_156001, HO_171001, BK155, BK170, HB⟩ := hrel
                                            cases gk with
                                            | zero => exact absurd HA.out (by simp [batonlaw32_InboxOnce.l2])
                                            | succ k6 =>
                                              have H := HA.out
                                              clear HA
                                              simp only [batonlaw32_InboxOnce.l2] at H
                                              by_cases c53 : x16_6 < (l0.length : Int)
                                              · rw [if_pos c53] at H
                                                have c53b0 : decide (x16_6 < (l0.length : Int)) = true := decide_eq_true c53
                                                clear c53
                                                by_cases c54 : 0 ≤ x16_6
                                                · rw [if_pos c54] at H
                                                  have c54b0 : decide (0 ≤ x16_6) = true := decide_eq_true c54
                                                  clear c54
                                                  by_cases c55 : x16_6 < (x7_37.length : Int)
                                                  · rw [if_pos c55] at H
                                                    have c55b0 : decide (x16_6 < (x7_37.length : Int)) = true := decide_eq_true c55
                                                    clear c55
                                                    obtain ⟨bq56, hbq56⟩ : ∃ b_ : Bool, b_ = (rdOf false x7_37 x16_6) := ⟨_, rfl⟩
                                                    replace H : (if bq56 = true then (batonlaw32_InboxOnce.l2 k6 l0 l1 y172 x7_37 x8_2 (wrap64 (x16_6 + 1)) t162 t163) else (if t162 = x16_6 then (if (y172.length : Int) = x16_6 then (if x16_6 ≤ (l0.length : Int) then ((batonref01_Same.f k6 y172 (l0.take (x16_6 : Int).toNat)).bind fun t177 => (if t177 = true then (batonlaw32_InboxOnce.l0 k6 l0 l1 y172 x7_37 (wrap64 (x8_2 + 1)) t162 t163) else (some false))) else (none)) else (some false)) else (some false))) = some r := by rw [← hbq56] at H; exact H
                                                    have Nbq56 := Aside0.mk hbq56
                                                    clear hbq56
                                                    by_cases c57 : bq56 = true
                                                    · subst c57
                                                      have H1 : (batonlaw32_InboxOnce.l2 k6 l0 l1 y172 x7_37 x8_2 (wrap64 (x16_6 + 1)) t162 t163) = some r := by rw [if_pos rfl] at H; exact H
                                                      clear H
                                                      have H := H1
                                                      clear H1
                                                      have H' := Aside0.mk H
                                                      clear H
                                                      obtain ⟨Ao58, co58, eo58⟩ := Kd.R_slice HO_7.out
                                                      subst eo58
                                                      have p175 : 0 ≤ (x16_6 : Int) := of_decide_eq_true (by first | (with_reducible assumption) | assumption)
                                                      have q175 : x16_6 < (x7_37.length : Int) := of_decide_eq_true (by first | (with_reducible assumption) | assumption)
                                                      obtain ⟨ad175, e175, hx175_0⟩ := Kd.at_bool (Kd.R_reads' HO_7.out).2.2 x16_6 p175 q175
                                                      (try rw [← Nbq56.out] at hx175_0)
                                                      cases e175
                                                      replace p175 := eq_true p175
                                                      replace q175 := eq_true q175
                                                      go_wp2
                                                      go_roundg k6
                                                      case measure => have := HJ4.out; have := HK2.out; have := HJ20.out; have := HJ33.out; have := HJ37.out; have := HK6.out; omega
                                                      case rel => exact ⟨(wrap64 (x16_6 + 1)), (by first | rfl | (simp; done) | (simp [*]; done)), H', ⟨by have := HJ4.out; have := HK2.out; have := HJ20.out; have := HJ33.out; have := HJ37.out; have := HK6.out; omega⟩, ⟨by (with_reducible repeat (first | apply Kd.R_alloc | apply Kd.R_drewN | apply Kd.R_drew)); exact HO_6.out⟩, ⟨by (with_reducible repeat (first | apply Kd.R_alloc | apply Kd.R_drewN | apply Kd.R_drew)); exact HO_7.out⟩, ⟨by (with_reducible repeat (first | apply Kd.V_alloc | apply Kd.V_drewN | apply Kd.V_drew)); exact HO_156001.out⟩, ⟨by (with_reducible repeat (first | apply Kd.V_alloc | apply Kd.V_drewN | apply Kd.V_drew)); exact HO_171001.out⟩, ⟨by (with_reducible repeat (first | refine blk_drewN ?_ _ | refine blk_drew ?_ | refine blk_alloc ?_ _)); exact BK155.out⟩, ⟨by (with_reducible repeat (first | refine blk_drewN ?_ _ | refine blk_drew ?_ | refine blk_alloc ?_ _)); exact BK170.out⟩, ⟨by repeat (first | (with_reducible first | exact HB.out | apply below_alloc | apply pw_below_drewN | apply below_drew1 | refine below_set ?_ GE155.out | refine below_set ?_ GE170.out) | exact HB.out)⟩⟩
                                                    · replace c57 := Bool.eq_false_iff.mpr c57
                                                      subst c57
                                                      have H1 : (if t162 = x16_6 then (if (y172.length : Int) = x16_6 then (if x16_6 ≤ (l0.length : Int) then ((batonref01_Same.f k6 y172 (l0.take (x16_6 : Int).toNat)).bind fun t177 => (if t177 = true then (batonlaw32_InboxOnce.l0 k6 l0 l1 y172 x7_37 (wrap64 (x8_2 + 1)) t162 t163) else (some false))) else (none)) else (some false)) else (some false)) = some r := by rw [if_neg (show ¬ (false = true) by decide)] at H; exact H
                                                      clear H
                                                      have H := H1
                                                      clear H1
                                                      by_cases c59 : t162 = x16_6
                                                      · rw [if_pos c59] at H
                                                        have c59b0 : (t162 == x16_6) = true := beq_iff_eq.mpr c59
                                                        have c59b1 : (t162 != x16_6) = false := bne_eq_false_iff_eq.mpr c59
                                                        clear c59
                                                        by_cases c60 : (y172.length : Int) = x16_6
                                                        · rw [if_pos c60] at H
                                                          have c60b0 : ((y172.length : Int) == x16_6) = true := beq_iff_eq.mpr c60
                                                          have c60b1 : ((y172.length : Int) != x16_6) = false := bne_eq_false_iff_eq.mpr c60
                                                          clear c60
                                                          have c61b0 := eq_true (of_decide_eq_true (by first | (with_reducible assumption) | assumption) : 0 ≤ x16_6)
                                                          by_cases c62 : x16_6 ≤ (l0.length : Int)
                                                          · rw [if_pos c62] at H
                                                            have c62b0 := eq_true c62
                                                            have c62b1 : decide (x16_6 ≤ (l0.length : Int)) = true := decide_eq_true c62
                                                            clear c62
                                                            replace H := Option.bind_eq_some_iff.mp H
                                                            obtain ⟨t177, A630, H⟩ := H
                                                            replace H : (if t177 = true then (batonlaw32_InboxOnce.l0 k6 l0 l1 y172 x7_37 (wrap64 (x8_2 + 1)) t162 t163) else (some false)) = some r := H
                                                            have A63 := Aside0.mk A630
                                                            clear A630
                                                            by_cases c64 : t177 = true
                                                            · subst c64
                                                              have H1 : (batonlaw32_InboxOnce.l0 k6 l0 l1 y172 x7_37 (wrap64 (x8_2 + 1)) t162 t163) = some r := by rw [if_pos rfl] at H; exact H
                                                              clear H
                                                              have H := H1
                                                              clear H1
                                                              have H' := Aside0.mk H
                                                              clear H
                                                              obtain ⟨Ao65, co65, eo65⟩ := Kd.R_slice HO_7.out
                                                              subst eo65
                                                              have p175 : 0 ≤ (x16_6 : Int) := of_decide_eq_true (by first | (with_reducible assumption) | assumption)
                                                              have q175 : x16_6 < (x7_37.length : Int) := of_decide_eq_true (by first | (with_reducible assumption) | assumption)
                                                              obtain ⟨ad175, e175, hx175_0⟩ := Kd.at_bool (Kd.R_reads' HO_7.out).2.2 x16_6 p175 q175
                                                              (try rw [← Nbq56.out] at hx175_0)
                                                              cases e175
                                                              replace p175 := eq_true p175
                                                              replace q175 := eq_true q175
                                                              have hnb66 := NB155_170.out
                                                              have hnc66 := NB170_155.out
                                                              have hcz67_0 : wr.cell? ⟨gb155, 0, none⟩ = some (.int .i64 t162) := (blk_cell BK155.out 0).trans rfl
                                                              have hcz67_1 : wr.cell? ⟨gb155, 1, none⟩ = some (.slice Ao29 t163.length co29) := (blk_cell BK155.out 1).trans rfl
                                                              have hfz67_0 := blk_frozen BK155.out 0
                                                              have hfz67_1 := blk_frozen BK155.out 1
                                                              obtain ⟨Ao68, co68, eo68⟩ := Kd.R_slice HO_6.out
                                                              subst eo68
                                                              obtain ⟨i069, hi069, _, hsz69, _⟩ := info_parts info5
                                                              obtain ⟨hcut69, hA69, hC69⟩ := print_take_of (P := Try.prog) (Value.int .u8) 0 22 5 .i64 Try.underlying22 hi069 hsz69 A0 c0 l0 x16_6 (of_decide_eq_true (by first | (with_reducible assumption) | assumption)) (of_decide_eq_true (by first | (with_reducible assumption) | assumption)) HC0.out
                                                              have HR176 := Aside0.mk (Kd.C_of_reads (h1 := fun _ => rfl) (hA69 _ (Kd.reads_of_C HR0.out)))
                                                              have HC176 := Aside0.mk hC69
                                                              clear hA69 hC69 hi069 hsz69
                                                              go_wp2_with (first | (go_at_call 19; refine calls_of_args (args' := #[.slice Ao68 y172.length co68, .slice A0 (l0.take (x16_6 : Int).toNat).length c0]) (by first | rfl | (simp only [List.length_take, List.length_drop, Int.toNat_natCast]; done) | (rw [show (l0.take (x16_6 : Int).toNat).length = x16_6.toNat from (by rw [List.length_take]; have h_ : (x16_6 : Int) ≤ (l0.length : Int) := of_decide_eq_true (by first | (with_reducible assumption) | assumption); omega)] <;> rfl) | (simp; done)) ?_; (with_reducible refine (batonref01_Same.calls k6 _ _ y172 _ _ (l0.take (x16_6 : Int).toNat) true _ ?side1 ?side2 ?side3 ?side4 A63.out).mono ?_); (case side1 => repeat (first | exact (Kd.R_reads' HO_6.out).2.2 | (with_reducible refine Kd.C_alloc ?_ _) | (with_reducible refine Kd.C_drewN ?_ _) | (with_reducible refine Kd.C_drew ?_))); (case side2 => exact (Kd.R_reads' HO_6.out).2.1); (case side3 => repeat (first | exact (Kd.C_below HR176.out HB.out) | (with_reducible refine Kd.C_alloc ?_ _) | (with_reducible refine Kd.C_drewN ?_ _) | (with_reducible refine Kd.C_drew ?_))); (case side4 => exact HC176.out); rintro e w' ⟨rfl, ⟨nd, rfl⟩⟩))
                                                              go_roundg k6
                                                              case measure => have := HJ4.out; have := HK2.out; have := HJ20.out; have := HJ33.out; have := HJ37.out; have := HK6.out; omega
                                                              case rel => exact ⟨(y172), (x7_37), (wrap64 (x8_2 + 1)), (t162), (t163), (.slice Ao29 t163.length co29), (by first | rfl | (simp; done) | (simp [*]; done)), H', ⟨by have := HJ4.out; have := HK2.out; have := HJ20.out; have := HJ33.out; have := HJ37.out; have := HK6.out; omega⟩, ⟨by (with_reducible repeat (first | apply Kd.R_alloc | apply Kd.R_drewN | apply Kd.R_drew)); exact HO_6.out⟩, ⟨by (with_reducible repeat (first | apply Kd.R_alloc | apply Kd.R_drewN | apply Kd.R_drew)); exact HO_7.out⟩, ⟨by (with_reducible repeat (first | apply Kd.V_alloc | apply Kd.V_drewN | apply Kd.V_drew)); exact Kd.V_mono HO_156001.out (fun _ hk => ⟨hk.1, ⟨hk.2.1, hk.2.2.1⟩⟩)⟩, ⟨by (with_reducible repeat (first | refine blk_drewN ?_ _ | refine blk_drew ?_ | refine blk_alloc ?_ _)); exact BK155.out⟩, ⟨by repeat (first | (with_reducible first | exact HB.out | apply below_alloc | apply pw_below_drewN | apply below_drew1 | refine below_set ?_ GE155.out | refine below_set ?_ GE170.out) | exact HB.out)⟩⟩
                                                            · replace c64 := Bool.eq_false_iff.mpr c64
                                                              subst c64
                                                              have H1 : (some false) = some r := by rw [if_neg (show ¬ (false = true) by decide)] at H; exact H
                                                              clear H
                                                              have H := H1
                                                              clear H1
                                                              obtain rfl := Option.some.inj H
                                                              obtain ⟨Ao70, co70, eo70⟩ := Kd.R_slice HO_7.out
                                                              subst eo70
                                                              have p175 : 0 ≤ (x16_6 : Int) := of_decide_eq_true (by first | (with_reducible assumption) | assumption)
                                                              have q175 : x16_6 < (x7_37.length : Int) := of_decide_eq_true (by first | (with_reducible assumption) | assumption)
                                                              obtain ⟨ad175, e175, hx175_0⟩ := Kd.at_bool (Kd.R_reads' HO_7.out).2.2 x16_6 p175 q175
                                                              (try rw [← Nbq56.out] at hx175_0)
                                                              cases e175
                                                              replace p175 := eq_true p175
                                                              replace q175 := eq_true q175
                                                              have hnb71 := NB155_170.out
                                                              have hnc71 := NB170_155.out
                                                              have hcz72_0 : wr.cell? ⟨gb155, 0, none⟩ = some (.int .i64 t162) := (blk_cell BK155.out 0).trans rfl
                                                              have hcz72_1 : wr.cell? ⟨gb155, 1, none⟩ = some (.slice Ao29 t163.length co29) := (blk_cell BK155.out 1).trans rfl
                                                              have hfz72_0 := blk_frozen BK155.out 0
                                                              have hfz72_1 := blk_frozen BK155.out 1
                                                              obtain ⟨Ao73, co73, eo73⟩ := Kd.R_slice HO_6.out
                                                              subst eo73
                                                              obtain ⟨i074, hi074, _, hsz74, _⟩ := info_parts info5
                                                              obtain ⟨hcut74, hA74, hC74⟩ := print_take_of (P := Try.prog) (Value.int .u8) 0 22 5 .i64 Try.underlying22 hi074 hsz74 A0 c0 l0 x16_6 (of_decide_eq_true (by first | (with_reducible assumption) | assumption)) (of_decide_eq_true (by first | (with_reducible assumption) | assumption)) HC0.out
                                                              have HR176 := Aside0.mk (Kd.C_of_reads (h1 := fun _ => rfl) (hA74 _ (Kd.reads_of_C HR0.out)))
                                                              have HC176 := Aside0.mk hC74
                                                              clear hA74 hC74 hi074 hsz74
                                                              go_wp2_with (first | (go_at_call 19; refine calls_of_args (args' := #[.slice Ao73 y172.length co73, .slice A0 (l0.take (x16_6 : Int).toNat).length c0]) (by first | rfl | (simp only [List.length_take, List.length_drop, Int.toNat_natCast]; done) | (rw [show (l0.take (x16_6 : Int).toNat).length = x16_6.toNat from (by rw [List.length_take]; have h_ : (x16_6 : Int) ≤ (l0.length : Int) := of_decide_eq_true (by first | (with_reducible assumption) | assumption); omega)] <;> rfl) | (simp; done)) ?_; (with_reducible refine (batonref01_Same.calls k6 _ _ y172 _ _ (l0.take (x16_6 : Int).toNat) false _ ?side1 ?side2 ?side3 ?side4 A63.out).mono ?_); (case side1 => repeat (first | exact (Kd.R_reads' HO_6.out).2.2 | (with_reducible refine Kd.C_alloc ?_ _) | (with_reducible refine Kd.C_drewN ?_ _) | (with_reducible refine Kd.C_drew ?_))); (case side2 => exact (Kd.R_reads' HO_6.out).2.1); (case side3 => repeat (first | exact (Kd.C_below HR176.out HB.out) | (with_reducible refine Kd.C_alloc ?_ _) | (with_reducible refine Kd.C_drewN ?_ _) | (with_reducible refine Kd.C_drew ?_))); (case side4 => exact HC176.out); rintro e w' ⟨rfl, ⟨nd, rfl⟩⟩))
                                                              go_ret
                                                              exact ⟨by first | rfl | (simp [errW_none, errW_some] <;> rfl) | (simp only [← hji15, ← hji16]; first | rfl | (simp [errW_none, errW_some] <;> rfl)) | (simp [*, errW_none, errW_some] <;> rfl), by repeat (first | (with_reducible first | exact HB.out | apply below_alloc | apply pw_below_drewN | apply below_drew1 | refine below_set ?_ GE155.out | refine below_set ?_ GE170.out) | exact HB.out)⟩
                                                          · rw [if_neg c62] at H
                                                            exact absurd H (by simp)
                                                        · rw [if_neg c60] at H
                                                          have c60b0 : ((y172.length : Int) == x16_6) = false := beq_eq_false_iff_ne.mpr c60
                                                          have c60b1 : ((y172.length : Int) != x16_6) = true := bne_iff_ne.mpr c60
                                                          obtain rfl := Option.some.inj H
                                                          obtain ⟨Ao75, co75, eo75⟩ := Kd.R_slice HO_7.out
                                                          subst eo75
                                                          have p175 : 0 ≤ (x16_6 : Int) := of_decide_eq_true (by first | (with_reducible assumption) | assumption)
                                                          have q175 : x16_6 < (x7_37.length : Int) := of_decide_eq_true (by first | (with_reducible assumption) | assumption)
                                                          obtain ⟨ad175, e175, hx175_0⟩ := Kd.at_bool (Kd.R_reads' HO_7.out).2.2 x16_6 p175 q175
                                                          (try rw [← Nbq56.out] at hx175_0)
                                                          cases e175
                                                          replace p175 := eq_true p175
                                                          replace q175 := eq_true q175
                                                          have hnb76 := NB155_170.out
                                                          have hnc76 := NB170_155.out
                                                          have hcz77_0 : wr.cell? ⟨gb155, 0, none⟩ = some (.int .i64 t162) := (blk_cell BK155.out 0).trans rfl
                                                          have hcz77_1 : wr.cell? ⟨gb155, 1, none⟩ = some (.slice Ao29 t163.length co29) := (blk_cell BK155.out 1).trans rfl
                                                          have hfz77_0 := blk_frozen BK155.out 0
                                                          have hfz77_1 := blk_frozen BK155.out 1
                                                          obtain ⟨Ao78, co78, eo78⟩ := Kd.R_slice HO_6.out
                                                          subst eo78
                                                          go_wp2
                                                          go_ret
                                                          exact ⟨by first | rfl | (simp [errW_none, errW_some] <;> rfl) | (simp only [← hji15, ← hji16]; first | rfl | (simp [errW_none, errW_some] <;> rfl)) | (simp [*, errW_none, errW_some] <;> rfl), by repeat (first | (with_reducible first | exact HB.out | apply below_alloc | apply pw_below_drewN | apply below_drew1 | refine below_set ?_ GE155.out | refine below_set ?_ GE170.out) | exact HB.out)⟩
                                                      · rw [if_neg c59] at H
                                                        have c59b0 : (t162 == x16_6) = false := beq_eq_false_iff_ne.mpr c59
                                                        have c59b1 : (t162 != x16_6) = true := bne_iff_ne.mpr c59
                                                        obtain rfl := Option.some.inj H
                                                        obtain ⟨Ao79, co79, eo79⟩ := Kd.R_slice HO_7.out
                                                        subst eo79
                                                        have p175 : 0 ≤ (x16_6 : Int) := of_decide_eq_true (by first | (with_reducible assumption) | assumption)
                                                        have q175 : x16_6 < (x7_37.length : Int) := of_decide_eq_true (by first | (with_reducible assumption) | assumption)
                                                        obtain ⟨ad175, e175, hx175_0⟩ := Kd.at_bool (Kd.R_reads' HO_7.out).2.2 x16_6 p175 q175
                                                        (try rw [← Nbq56.out] at hx175_0)
                                                        cases e175
                                                        replace p175 := eq_true p175
                                                        replace q175 := eq_true q175
                                                        have hnb80 := NB155_170.out
                                                        have hnc80 := NB170_155.out
                                                        have hcz81_0 : wr.cell? ⟨gb155, 0, none⟩ = some (.int .i64 t162) := (blk_cell BK155.out 0).trans rfl
                                                        have hcz81_1 : wr.cell? ⟨gb155, 1, none⟩ = some (.slice Ao29 t163.length co29) := (blk_cell BK155.out 1).trans rfl
                                                        have hfz81_0 := blk_frozen BK155.out 0
                                                        have hfz81_1 := blk_frozen BK155.out 1
                                                        go_wp2
                                                        go_ret
                                                        exact ⟨by first | rfl | (simp [errW_none, errW_some] <;> rfl) | (simp only [← hji15, ← hji16]; first | rfl | (simp [errW_none, errW_some] <;> rfl)) | (simp [*, errW_none, errW_some] <;> rfl), by repeat (first | (with_reducible first | exact HB.out | apply below_alloc | apply pw_below_drewN | apply below_drew1 | refine below_set ?_ GE155.out | refine below_set ?_ GE170.out) | exact HB.out)⟩
                                                  · rw [if_neg c55] at H
                                                    exact absurd H (by simp)
                                                · rw [if_neg c54] at H
                                                  exact absurd H (by simp)
                                              · rw [if_neg c53] at H
                                                have c53b0 : decide (x16_6 < (l0.length : Int)) = false := decide_eq_false c53
                                                clear c53
                                                by_cases c82 : t162 = x16_6
                                                · rw [if_pos c82] at H
                                                  have c82b0 : (t162 == x16_6) = true := beq_iff_eq.mpr c82
                                                  have c82b1 : (t162 != x16_6) = false := bne_eq_false_iff_eq.mpr c82
                                                  clear c82
                                                  by_cases c83 : (y172.length : Int) = x16_6
                                                  · rw [if_pos c83] at H
                                                    have c83b0 : ((y172.length : Int) == x16_6) = true := beq_iff_eq.mpr c83
                                                    have c83b1 : ((y172.length : Int) != x16_6) = false := bne_eq_false_iff_eq.mpr c83
                                                    clear c83
                                                    by_cases c84 : 0 ≤ x16_6
                                                    · rw [if_pos c84] at H
                                                      have c84b0 := eq_true c84
                                                      have c84b1 : decide (0 ≤ x16_6) = true := decide_eq_true c84
                                                      clear c84
                                                      by_cases c85 : x16_6 ≤ (l0.length : Int)
                                                      · rw [if_pos c85] at H
                                                        have c85b0 := eq_true c85
                                                        have c85b1 : decide (x16_6 ≤ (l0.length : Int)) = true := decide_eq_true c85
                                                        clear c85
                                                        replace H := Option.bind_eq_some_iff.mp H
                                                        obtain ⟨t179, A860, H⟩ := H
                                                        replace H : (if t179 = true then (batonlaw32_InboxOnce.l0 k6 l0 l1 y172 x7_37 (wrap64 (x8_2 + 1)) t162 t163) else (some false)) = some r := H
                                                        have A86 := Aside0.mk A860
                                                        clear A860
                                                        by_cases c87 : t179 = true
                                                        · subst c87
                                                          have H1 : (batonlaw32_InboxOnce.l0 k6 l0 l1 y172 x7_37 (wrap64 (x8_2 + 1)) t162 t163) = some r := by rw [if_pos rfl] at H; exact H
                                                          clear H
                                                          have H := H1
                                                          clear H1
                                                          have H' := Aside0.mk H
                                                          clear H
                                                          have hnb88 := NB155_170.out
                                                          have hnc88 := NB170_155.out
                                                          have hcz89_0 : wr.cell? ⟨gb155, 0, none⟩ = some (.int .i64 t162) := (blk_cell BK155.out 0).trans rfl
                                                          have hcz89_1 : wr.cell? ⟨gb155, 1, none⟩ = some (.slice Ao29 t163.length co29) := (blk_cell BK155.out 1).trans rfl
                                                          have hfz89_0 := blk_frozen BK155.out 0
                                                          have hfz89_1 := blk_frozen BK155.out 1
                                                          obtain ⟨Ao90, co90, eo90⟩ := Kd.R_slice HO_6.out
                                                          subst eo90
                                                          obtain ⟨i091, hi091, _, hsz91, _⟩ := info_parts info5
                                                          obtain ⟨hcut91, hA91, hC91⟩ := print_take_of (P := Try.prog) (Value.int .u8) 0 22 5 .i64 Try.underlying22 hi091 hsz91 A0 c0 l0 x16_6 (of_decide_eq_true (by first | (with_reducible assumption) | assumption)) (of_decide_eq_true (by first | (with_reducible assumption) | assumption)) HC0.out
                                                          have HR178 := Aside0.mk (Kd.C_of_reads (h1 := fun _ => rfl) (hA91 _ (Kd.reads_of_C HR0.out)))
                                                          have HC178 := Aside0.mk hC91
                                                          clear hA91 hC91 hi091 hsz91
                                                          go_wp2_with (first | (go_at_call 19; refine calls_of_args (args' := #[.slice Ao90 y172.length co90, .slice A0 (l0.take (x16_6 : Int).toNat).length c0]) (by first | rfl | (simp only [List.length_take, List.length_drop, Int.toNat_natCast]; done) | (rw [show (l0.take (x16_6 : Int).toNat).length = x16_6.toNat from (by rw [List.length_take]; have h_ : (x16_6 : Int) ≤ (l0.length : Int) := of_decide_eq_true (by first | (with_reducible assumption) | assumption); omega)] <;> rfl) | (simp; done)) ?_; (with_reducible refine (batonref01_Same.calls k6 _ _ y172 _ _ (l0.take (x16_6 : Int).toNat) true _ ?side1 ?side2 ?side3 ?side4 A86.out).mono ?_); (case side1 => repeat (first | exact (Kd.R_reads' HO_6.out).2.2 | (with_reducible refine Kd.C_alloc ?_ _) | (with_reducible refine Kd.C_drewN ?_ _) | (with_reducible refine Kd.C_drew ?_))); (case side2 => exact (Kd.R_reads' HO_6.out).2.1); (case side3 => repeat (first | exact (Kd.C_below HR178.out HB.out) | (with_reducible refine Kd.C_alloc ?_ _) | (with_reducible refine Kd.C_drewN ?_ _) | (with_reducible refine Kd.C_drew ?_))); (case side4 => exact HC178.out); rintro e w' ⟨rfl, ⟨nd, rfl⟩⟩))
                                                          go_roundg k6
                                                          case measure => have := HJ4.out; have := HK2.out; have := HJ20.out; have := HJ33.out; have := HJ37.out; have := HK6.out; omega
                                                          case rel => exact ⟨(y172), (x7_37), (wrap64 (x8_2 + 1)), (t162), (t163), (.slice Ao29 t163.length co29), (by first | rfl | (simp; done) | (simp [*]; done)), H', ⟨by have := HJ4.out; have := HK2.out; have := HJ20.out; have := HJ33.out; have := HJ37.out; have := HK6.out; omega⟩, ⟨by (with_reducible repeat (first | apply Kd.R_alloc | apply Kd.R_drewN | apply Kd.R_drew)); exact HO_6.out⟩, ⟨by (with_reducible repeat (first | apply Kd.R_alloc | apply Kd.R_drewN | apply Kd.R_drew)); exact HO_7.out⟩, ⟨by (with_reducible repeat (first | apply Kd.V_alloc | apply Kd.V_drewN | apply Kd.V_drew)); exact Kd.V_mono HO_156001.out (fun _ hk => ⟨hk.1, ⟨hk.2.1, hk.2.2.1⟩⟩)⟩, ⟨by (with_reducible repeat (first | refine blk_drewN ?_ _ | refine blk_drew ?_ | refine blk_alloc ?_ _)); exact BK155.out⟩, ⟨by repeat (first | (with_reducible first | exact HB.out | apply below_alloc | apply pw_below_drewN | apply below_drew1 | refine below_set ?_ GE155.out | refine below_set ?_ GE170.out) | exact HB.out)⟩⟩
                                                        · replace c87 := Bool.eq_false_iff.mpr c87
                                                          subst c87
                                                          have H1 : (some false) = some r := by rw [if_neg (show ¬ (false = true) by decide)] at H; exact H
                                                          clear H
                                                          have H := H1
                                                          clear H1
                                                          obtain rfl := Option.some.inj H
                                                          have hnb92 := NB155_170.out
                                                          have hnc92 := NB170_155.out
                                                          have hcz93_0 : wr.cell? ⟨gb155, 0, none⟩ = some (.int .i64 t162) := (blk_cell BK155.out 0).trans rfl
                                                          have hcz93_1 : wr.cell? ⟨gb155, 1, none⟩ = some (.slice Ao29 t163.length co29) := (blk_cell BK155.out 1).trans rfl
                                                          have hfz93_0 := blk_frozen BK155.out 0
                                                          have hfz93_1 := blk_frozen BK155.out 1
                                                          obtain ⟨Ao94, co94, eo94⟩ := Kd.R_slice HO_6.out
                                                          subst eo94
                                                          obtain ⟨i095, hi095, _, hsz95, _⟩ := info_parts info5
                                                          obtain ⟨hcut95, hA95, hC95⟩ := print_take_of (P := Try.prog) (Value.int .u8) 0 22 5 .i64 Try.underlying22 hi095 hsz95 A0 c0 l0 x16_6 (of_decide_eq_true (by first | (with_reducible assumption) | assumption)) (of_decide_eq_true (by first | (with_reducible assumption) | assumption)) HC0.out
                                                          have HR178 := Aside0.mk (Kd.C_of_reads (h1 := fun _ => rfl) (hA95 _ (Kd.reads_of_C HR0.out)))
                                                          have HC178 := Aside0.mk hC95
                                                          clear hA95 hC95 hi095 hsz95
                                                          go_wp2_with (first | (go_at_call 19; refine calls_of_args (args' := #[.slice Ao94 y172.length co94, .slice A0 (l0.take (x16_6 : Int).toNat).length c0]) (by first | rfl | (simp only [List.length_take, List.length_drop, Int.toNat_natCast]; done) | (rw [show (l0.take (x16_6 : Int).toNat).length = x16_6.toNat from (by rw [List.length_take]; have h_ : (x16_6 : Int) ≤ (l0.length : Int) := of_decide_eq_true (by first | (with_reducible assumption) | assumption); omega)] <;> rfl) | (simp; done)) ?_; (with_reducible refine (batonref01_Same.calls k6 _ _ y172 _ _ (l0.take (x16_6 : Int).toNat) false _ ?side1 ?side2 ?side3 ?side4 A86.out).mono ?_); (case side1 => repeat (first | exact (Kd.R_reads' HO_6.out).2.2 | (with_reducible refine Kd.C_alloc ?_ _) | (with_reducible refine Kd.C_drewN ?_ _) | (with_reducible refine Kd.C_drew ?_))); (case side2 => exact (Kd.R_reads' HO_6.out).2.1); (case side3 => repeat (first | exact (Kd.C_below HR178.out HB.out) | (with_reducible refine Kd.C_alloc ?_ _) | (with_reducible refine Kd.C_drewN ?_ _) | (with_reducible refine Kd.C_drew ?_))); (case side4 => exact HC178.out); rintro e w' ⟨rfl, ⟨nd, rfl⟩⟩))
                                                          go_ret
                                                          exact ⟨by first | rfl | (simp [errW_none, errW_some] <;> rfl) | (simp only [← hji15, ← hji16]; first | rfl | (simp [errW_none, errW_some] <;> rfl)) | (simp [*, errW_none, errW_some] <;> rfl), by repeat (first | (with_reducible first | exact HB.out | apply below_alloc | apply pw_below_drewN | apply below_drew1 | refine below_set ?_ GE155.out | refine below_set ?_ GE170.out) | exact HB.out)⟩
                                                      · rw [if_neg c85] at H
                                                        exact absurd H (by simp)
                                                    · rw [if_neg c84] at H
                                                      exact absurd H (by simp)
                                                  · rw [if_neg c83] at H
                                                    have c83b0 : ((y172.length : Int) == x16_6) = false := beq_eq_false_iff_ne.mpr c83
                                                    have c83b1 : ((y172.length : Int) != x16_6) = true := bne_iff_ne.mpr c83
                                                    obtain rfl := Option.some.inj H
                                                    have hnb96 := NB155_170.out
                                                    have hnc96 := NB170_155.out
                                                    have hcz97_0 : wr.cell? ⟨gb155, 0, none⟩ = some (.int .i64 t162) := (blk_cell BK155.out 0).trans rfl
                                                    have hcz97_1 : wr.cell? ⟨gb155, 1, none⟩ = some (.slice Ao29 t163.length co29) := (blk_cell BK155.out 1).trans rfl
                                                    have hfz97_0 := blk_frozen BK155.out 0
                                                    have hfz97_1 := blk_frozen BK155.out 1
                                                    obtain ⟨Ao98, co98, eo98⟩ := Kd.R_slice HO_6.out
                                                    subst eo98
                                                    go_wp2
                                                    go_ret
                                                    exact ⟨by first | rfl | (simp [errW_none, errW_some] <;> rfl) | (simp only [← hji15, ← hji16]; first | rfl | (simp [errW_none, errW_some] <;> rfl)) | (simp [*, errW_none, errW_some] <;> rfl), by repeat (first | (with_reducible first | exact HB.out | apply below_alloc | apply pw_below_drewN | apply below_drew1 | refine below_set ?_ GE155.out | refine below_set ?_ GE170.out) | exact HB.out)⟩
                                                · rw [if_neg c82] at H
                                                  have c82b0 : (t162 == x16_6) = false := beq_eq_false_iff_ne.mpr c82
                                                  have c82b1 : (t162 != x16_6) = true := bne_iff_ne.mpr c82
                                                  obtain rfl := Option.some.inj H
                                                  have hnb99 := NB155_170.out
                                                  have hnc99 := NB170_155.out
                                                  have hcz100_0 : wr.cell? ⟨gb155, 0, none⟩ = some (.int .i64 t162) := (blk_cell BK155.out 0).trans rfl
                                                  have hcz100_1 : wr.cell? ⟨gb155, 1, none⟩ = some (.slice Ao29 t163.length co29) := (blk_cell BK155.out 1).trans rfl
                                                  have hfz100_0 := blk_frozen BK155.out 0
                                                  have hfz100_1 := blk_frozen BK155.out 1
                                                  go_wp2
                                                  go_ret
                                                  exact ⟨by first | rfl | (simp [errW_none, errW_some] <;> rfl) | (simp only [← hji15, ← hji16]; first | rfl | (simp [errW_none, errW_some] <;> rfl)) | (simp [*, errW_none, errW_some] <;> rfl), by repeat (first | (with_reducible first | exact HB.out | apply below_alloc | apply pw_below_drewN | apply below_drew1 | refine below_set ?_ GE155.out | refine below_set ?_ GE170.out) | exact HB.out)⟩
                                        · rw [if_neg c46] at H
                                          exact absurd H (by simp)
                        · rw [if_neg c19] at H
                          exact absurd H (by simp)
                      · rw [if_neg c18] at H
                        exact absurd H (by simp)
                    · rw [if_neg c17] at H
                      exact absurd H (by simp)
                  · rw [if_neg c14] at H
                    exact absurd H (by simp)
                · rw [if_neg c13] at H
                  have c13b0 : decide (x8_2 < (l1.length : Int)) = false := decide_eq_false c13
                  clear c13
                  obtain rfl := Option.some.inj H
                  go_wp2
                  go_ret
                  exact ⟨by first | rfl | (simp [errW_none, errW_some] <;> rfl) | (simp [*, errW_none, errW_some] <;> rfl), by repeat (first | (with_reducible first | exact HB.out | apply below_alloc | apply pw_below_drewN | apply below_drew1 | refine below_set ?_ GE155.out) | exact HB.out)⟩
          · rw [if_neg c9] at H
            exact absurd H (by simp)
  · replace c4 := Bool.eq_false_iff.mpr c4
    subst c4
    have H1 : (some false) = some r := by rw [if_neg (show ¬ (false = true) by decide)] at H; exact H
    clear H
    have H := H1
    clear H1
    obtain rfl := Option.some.inj H
    go_enter Try.func8, Try.ntmps8
    go_wp2_with (first | ((with_reducible refine gate_callee (f := 36) rfl ?_); refine goesL_ (some 17) rfl rfl Try.func36 (by kernel_rfl) rfl #[] rfl (by (try simp only [List.map_toArray, List.map_cons, List.map_nil]); first | done | rfl | (simp only [List.length_drop, List.length_take]; rfl)) ?_; (with_reducible refine (batonlaw32_awake.calls k  false _ A3.out).mono ?_); rintro e w101 ⟨rfl, hb⟩; refine ⟨_, rfl, ?_⟩; have n0_ := Aside0.mk (below_step (by repeat (first | (with_reducible first | exact HB.out | apply below_alloc | apply pw_below_drewN | apply below_drew1) | exact HB.out)) hb); clear HB; have HB := n0_; clear n0_; (try clear hb); (try clear hb2); (try clear hk); (try clear hi)))
    go_ret
    exact ⟨by first | rfl | (simp [errW_none, errW_some] <;> rfl) | (simp [*, errW_none, errW_some] <;> rfl), by repeat (first | (with_reducible first | exact HB.out | apply below_alloc | apply pw_below_drewN | apply below_drew1) | exact HB.out)⟩

/-- THE ONE PURE STATEMENT of batonlaw32_InboxOnce. -/
def WF71 (x : S71) : Prop := (Lit.int .u8 x.f0).wf = true ∧ (Lit.int .u8 x.f1).wf = true
def batonlaw32_InboxOnce.Pure : Prop := ∀ (l0 : List Int) (l1 : List (S71)), (l0.length ≤ maxLen ∧ ∀ x_ ∈ l0, (Lit.int .u8 x_).wf = true) → (l1.length ≤ maxLen ∧ ∀ x_ ∈ l1, WF71 x_) → ∃ k, batonlaw32_InboxOnce.f k l0 l1 = some true

end Go.Proofs.Ytdbfclfglpbpmaa.PF32O
