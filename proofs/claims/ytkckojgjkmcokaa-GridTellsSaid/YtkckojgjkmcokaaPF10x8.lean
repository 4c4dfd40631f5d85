/- By a program of this session (wip/tool/pp.py): plain Lean functions of the Go functions that this family of laws uses, the walks that the Go code comes to their answers, and the row of the law. No condition beside those that the row itself gives. -/
import Derived.Test.YtkckojgjkmcokaaPF10x0
import Derived.Test.YtkckojgjkmcokaaPF10x1
import Derived.Test.YtkckojgjkmcokaaPF10x2
import Derived.Test.YtkckojgjkmcokaaPF10x5
import Derived.Test.YtkckojgjkmcokaaPF10x6
import Derived.Test.YtkckojgjkmcokaaPF10x7
namespace Go.Proofs.Ytkckojgjkmcokaa.PF10
open Go.RowKit Go.Proofs.YtkckojgjkmcokaaW.Hand Go.Proofs.YtkckojgjkmcokaaW.PrintWords Go.Proofs.YtkckojgjkmcokaaW.PrintLast Go.Proofs.YtkckojgjkmcokaaW.PrintMore
attribute [local go_sem] max2_int min2_int max_two min_two max_three min_three max_four min_four   -- for this text's walks alone
open List (setIfInBounds_toArray set_cons_zero set_cons_succ)
set_option linter.unusedVariables false
set_option linter.unusedSimpArgs false

attribute [local go_sem high] eqA53
/-! ### batonlaw10_GridTells: function 11 -/
mutual
def batonlaw10_GridTells.j0 : Nat -> Bool -> Int -> Int -> List (S53) -> Int -> Int -> List (S53) -> Int -> Int -> Option (Bool)
 | 0, _, _, _, _, _, _, _, _, _ => none
 | k + 1, x22, x249000, x249001, x249002, x250000, x250001, x250002, x251000, x251001 => if x22 = true then (some true) else ((batonref10_Right.f k x249000 x249001 x249002).bind fun t252 => ((grid_Of.f k x249000 x249001 x249002).bind fun bt253 => (if bt253.1 = true then ((grid_Right.f k x249000 x249001 x249002).bind fun t261 => (if (t261 != t252) = true then (batonlaw10_GridTells.j1 k t252 bt253.2.2.2.2 true x249000 x249001 x249002 x251000 x251001 bt253.2.1 bt253.2.2.1 bt253.2.2.2.1) else ((grid_Same.f k x249000 x249001 x249002 x250000 x250001 x250002).bind fun t262 => ((batonref10_Same.f k x249000 x249001 x249002 x250000 x250001 x250002).bind fun t263 => (batonlaw10_GridTells.j1 k t252 bt253.2.2.2.2 (t262 != t263) x249000 x249001 x249002 x251000 x251001 bt253.2.1 bt253.2.2.1 bt253.2.2.2.1))))) else ((grid_Right.f k x249000 x249001 x249002).bind fun t322 => (if (t322 != t252) = true then (some false) else ((grid_Same.f k x249000 x249001 x249002 x250000 x250001 x250002).bind fun t323 => ((batonref10_Same.f k x249000 x249001 x249002 x250000 x250001 x250002).bind fun t324 => (if (t323 != t324) = true then (some false) else (if t252 = true then (if bt253.2.2.2.2 = 0 then (some false) else (some false)) else (some (bt253.2.2.2.2 == 22)))))))))))
def batonlaw10_GridTells.j1 : Nat -> Bool -> Int -> Bool -> Int -> Int -> List (S53) -> Int -> Int -> Int -> Int -> List (S53) -> Option (Bool)
 | 0, _, _, _, _, _, _, _, _, _, _, _ => none
 | k + 1, x7, x9, x42, x249000, x249001, x249002, x251000, x251001, x260000, x260001, x260002 => if x42 = true then (some false) else (if x7 = true then (if x9 = 0 then ((grid_Board_Grid.f x260000 x260001 x260002).bind fun bt264 => ((grid_Same.f k bt264.1 bt264.2.1 bt264.2.2.1 x249000 x249001 x249002).bind fun t274 => (if t274 = true then ((grid_Board_Rows.f bt264.2.2.2.1 bt264.2.2.2.2.1 bt264.2.2.2.2.2).bind fun bt275 => (if bt275.1 = x249000 then ((grid_Board_Cols.f bt275.2.1 bt275.2.2.1 bt275.2.2.2).bind fun bt281 => (batonlaw10_GridTells.j2 k (bt281.1 != x249001) x249000 x249001 x249002 x251000 x251001 bt281.2.1 bt281.2.2.1 bt281.2.2.2)) else (batonlaw10_GridTells.j2 k true x249000 x249001 x249002 x251000 x251001 bt275.2.1 bt275.2.2.1 bt275.2.2.2))) else (batonlaw10_GridTells.j2 k true x249000 x249001 x249002 x251000 x251001 bt264.2.2.2.1 bt264.2.2.2.2.1 bt264.2.2.2.2.2)))) else (batonlaw10_GridTells.j2 k true x249000 x249001 x249002 x251000 x251001 x260000 x260001 x260002)) else (some false))
def batonlaw10_GridTells.j2 : Nat -> Bool -> Int -> Int -> List (S53) -> Int -> Int -> Int -> Int -> List (S53) -> Option (Bool)
 | 0, _, _, _, _, _, _, _, _, _ => none
 | k + 1, x77, x249000, x249001, x249002, x251000, x251001, x260000, x260001, x260002 => if x77 = true then (some false) else ((grid_Board_Row.f x260000 x260001 x260002 x251000).bind fun bt287 => (if x251000 < 0 then (batonlaw10_GridTells.j3 k bt287.1 true x249000 x249001 x249002 x251000 x251001 bt287.2.1 bt287.2.2.1 bt287.2.2.2) else (batonlaw10_GridTells.j3 k bt287.1 (decide (x251000 ≥ x249000)) x249000 x249001 x249002 x251000 x251001 bt287.2.1 bt287.2.2.1 bt287.2.2.2)))
def batonlaw10_GridTells.j3 : Nat -> List (S53) -> Bool -> Int -> Int -> List (S53) -> Int -> Int -> Int -> Int -> List (S53) -> Option (Bool)
 | 0, _, _, _, _, _, _, _, _, _, _ => none
 | k + 1, x10, x91, x249000, x249001, x249002, x251000, x251001, x260000, x260001, x260002 => if x91 = true then (if (x10.length : Int) = 0 then ((grid_Board_At.f x260000 x260001 x260002 x251000 x251001).bind fun bt295 => (some (bt295.1 == 0 && ((bt295.2.1 == 0 && (bt295.2.2.1 == 0 && (bt295.2.2.2.1 == 0))))))) else (some false)) else (if 0 <= (wrap64 (x251000 * x249001)) then (if (wrap64 (x251000 * x249001)) <= (wrap64 ((wrap64 (x251000 * x249001)) + x249001)) then (if (wrap64 ((wrap64 (x251000 * x249001)) + x249001)) <= (x249002.length : Int) then ((batonref09_Same.f k x10 ((x249002.take ((wrap64 ((wrap64 (x251000 * x249001)) + x249001)) : Int).toNat).drop ((wrap64 (x251000 * x249001)) : Int).toNat)).bind fun t308 => (if t308 = true then ((grid_Board_At.f x260000 x260001 x260002 x251000 x251001).bind fun bt309 => ((batonref10_At.f x249000 x249001 x249002 x251000 x251001 0 0 0 0).bind fun bt318 => (some (bt309.1 == bt318.1 && ((bt309.2.1 == bt318.2.1 && (bt309.2.2.1 == bt318.2.2.1 && (bt309.2.2.2.1 == bt318.2.2.2)))))))) else (some false))) else (none)) else (none)) else (none))
end
def batonlaw10_GridTells.f (k : Nat) (a0_0 : Int) (a0_1 : Int) (l0_2 : List (S53)) (a1_0 : Int) (a1_1 : Int) (l1_2 : List (S53)) (a2_0 : Int) (a2_1 : Int) : Option (Bool) := (batonlaw10_awake.f k).bind fun t251 => (if t251 = true then (if (l0_2.length : Int) > 400 then (batonlaw10_GridTells.j0 k true a0_0 a0_1 l0_2 a1_0 a1_1 l1_2 a2_0 a2_1) else (batonlaw10_GridTells.j0 k (decide ((l1_2.length : Int) > 400)) a0_0 a0_1 l0_2 a1_0 a1_1 l1_2 a2_0 a2_1)) else (some false))
theorem batonlaw10_GridTells.mono_l : ∀ k, (∀ y0 y1 y2 y3 y4 y5 y6 y7 y8, LeO (batonlaw10_GridTells.j0 k y0 y1 y2 y3 y4 y5 y6 y7 y8) (batonlaw10_GridTells.j0 (k + 1) y0 y1 y2 y3 y4 y5 y6 y7 y8)) /\ (∀ y0 y1 y2 y3 y4 y5 y6 y7 y8 y9 y10, LeO (batonlaw10_GridTells.j1 k y0 y1 y2 y3 y4 y5 y6 y7 y8 y9 y10) (batonlaw10_GridTells.j1 (k + 1) y0 y1 y2 y3 y4 y5 y6 y7 y8 y9 y10)) /\ (∀ y0 y1 y2 y3 y4 y5 y6 y7 y8, LeO (batonlaw10_GridTells.j2 k y0 y1 y2 y3 y4 y5 y6 y7 y8) (batonlaw10_GridTells.j2 (k + 1) y0 y1 y2 y3 y4 y5 y6 y7 y8)) /\ (∀ y0 y1 y2 y3 y4 y5 y6 y7 y8 y9, LeO (batonlaw10_GridTells.j3 k y0 y1 y2 y3 y4 y5 y6 y7 y8 y9) (batonlaw10_GridTells.j3 (k + 1) y0 y1 y2 y3 y4 y5 y6 y7 y8 y9))
 | 0 => ⟨fun _ _ _ _ _ _ _ _ _ r h => by simp [batonlaw10_GridTells.j0] at h, fun _ _ _ _ _ _ _ _ _ _ _ r h => by simp [batonlaw10_GridTells.j1] at h, fun _ _ _ _ _ _ _ _ _ r h => by simp [batonlaw10_GridTells.j2] at h, fun _ _ _ _ _ _ _ _ _ _ r h => by simp [batonlaw10_GridTells.j3] at h⟩
 | k + 1 => by
  obtain ⟨ih0, ih1, ih2, ih3⟩ := batonlaw10_GridTells.mono_l k
  refine ⟨?_, ?_, ?_, ?_⟩
  ·intro y0 y1 y2 y3 y4 y5 y6 y7 y8
   unfold batonlaw10_GridTells.j0
   repeat' first
   | (with_reducible exact ih0 _ _ _ _ _ _ _ _ _)
   | (with_reducible exact ih1 _ _ _ _ _ _ _ _ _ _ _)
   | (with_reducible exact ih2 _ _ _ _ _ _ _ _ _)
   | (with_reducible exact ih3 _ _ _ _ _ _ _ _ _ _)
   | (with_reducible exact batonlaw10_awake.mono _)
   | (with_reducible exact batonref09_Same.mono _ _ _)
   | (with_reducible exact batonref10_Right.mono _ _ _ _)
   | (with_reducible exact batonref10_Same.mono _ _ _ _ _ _ _)
   | (with_reducible exact grid_Of.mono _ _ _ _)
   | (with_reducible exact grid_Right.mono _ _ _ _)
   | (with_reducible exact grid_Same.mono _ _ _ _ _ _ _)
   | (with_reducible exact LeO.refl _)
   | (with_reducible exact LeO.none _)
   | (with_reducible refine LeO.ite ?_ ?_)
   | (with_reducible refine LeO.bind ?_ (fun _ => ?_))
   | exact ih0 _ _ _ _ _ _ _ _ _
   | exact ih1 _ _ _ _ _ _ _ _ _ _ _
   | exact ih2 _ _ _ _ _ _ _ _ _
   | exact ih3 _ _ _ _ _ _ _ _ _ _
   | exact batonlaw10_awake.mono _
   | exact batonref09_Same.mono _ _ _
   | exact batonref10_Right.mono _ _ _ _
   | exact batonref10_Same.mono _ _ _ _ _ _ _
   | exact grid_Of.mono _ _ _ _
   | exact grid_Right.mono _ _ _ _
   | exact grid_Same.mono _ _ _ _ _ _ _
   | exact LeO.none _
   | refine LeO.ite ?_ ?_
   | refine LeO.bind ?_ (fun _ => ?_)
  ·intro y0 y1 y2 y3 y4 y5 y6 y7 y8 y9 y10
   unfold batonlaw10_GridTells.j1
   repeat' first
   | (with_reducible exact ih0 _ _ _ _ _ _ _ _ _)
   | (with_reducible exact ih1 _ _ _ _ _ _ _ _ _ _ _)
   | (with_reducible exact ih2 _ _ _ _ _ _ _ _ _)
   | (with_reducible exact ih3 _ _ _ _ _ _ _ _ _ _)
   | (with_reducible exact batonlaw10_awake.mono _)
   | (with_reducible exact batonref09_Same.mono _ _ _)
   | (with_reducible exact batonref10_Right.mono _ _ _ _)
   | (with_reducible exact batonref10_Same.mono _ _ _ _ _ _ _)
   | (with_reducible exact grid_Of.mono _ _ _ _)
   | (with_reducible exact grid_Right.mono _ _ _ _)
   | (with_reducible exact grid_Same.mono _ _ _ _ _ _ _)
   | (with_reducible exact LeO.refl _)
   | (with_reducible exact LeO.none _)
   | (with_reducible refine LeO.ite ?_ ?_)
   | (with_reducible refine LeO.bind ?_ (fun _ => ?_))
   | exact ih0 _ _ _ _ _ _ _ _ _
   | exact ih1 _ _ _ _ _ _ _ _ _ _ _
   | exact ih2 _ _ _ _ _ _ _ _ _
   | exact ih3 _ _ _ _ _ _ _ _ _ _
   | exact batonlaw10_awake.mono _
   | exact batonref09_Same.mono _ _ _
   | exact batonref10_Right.mono _ _ _ _
   | exact batonref10_Same.mono _ _ _ _ _ _ _
   | exact grid_Of.mono _ _ _ _
   | exact grid_Right.mono _ _ _ _
   | exact grid_Same.mono _ _ _ _ _ _ _
   | exact LeO.none _
   | refine LeO.ite ?_ ?_
   | refine LeO.bind ?_ (fun _ => ?_)
  ·intro y0 y1 y2 y3 y4 y5 y6 y7 y8
   unfold batonlaw10_GridTells.j2
   repeat' first
   | (with_reducible exact ih0 _ _ _ _ _ _ _ _ _)
   | (with_reducible exact ih1 _ _ _ _ _ _ _ _ _ _ _)
   | (with_reducible exact ih2 _ _ _ _ _ _ _ _ _)
   | (with_reducible exact ih3 _ _ _ _ _ _ _ _ _ _)
   | (with_reducible exact batonlaw10_awake.mono _)
   | (with_reducible exact batonref09_Same.mono _ _ _)
   | (with_reducible exact batonref10_Right.mono _ _ _ _)
   | (with_reducible exact batonref10_Same.mono _ _ _ _ _ _ _)
   | (with_reducible exact grid_Of.mono _ _ _ _)
   | (with_reducible exact grid_Right.mono _ _ _ _)
   | (with_reducible exact grid_Same.mono _ _ _ _ _ _ _)
   | (with_reducible exact LeO.refl _)
   | (with_reducible exact LeO.none _)
   | (with_reducible refine LeO.ite ?_ ?_)
   | (with_reducible refine LeO.bind ?_ (fun _ => ?_))
   | exact ih0 _ _ _ _ _ _ _ _ _
   | exact ih1 _ _ _ _ _ _ _ _ _ _ _
   | exact ih2 _ _ _ _ _ _ _ _ _
   | exact ih3 _ _ _ _ _ _ _ _ _ _
   | exact batonlaw10_awake.mono _
   | exact batonref09_Same.mono _ _ _
   | exact batonref10_Right.mono _ _ _ _
   | exact batonref10_Same.mono _ _ _ _ _ _ _
   | exact grid_Of.mono _ _ _ _
   | exact grid_Right.mono _ _ _ _
   | exact grid_Same.mono _ _ _ _ _ _ _
   | exact LeO.none _
   | refine LeO.ite ?_ ?_
   | refine LeO.bind ?_ (fun _ => ?_)
  ·intro y0 y1 y2 y3 y4 y5 y6 y7 y8 y9
   unfold batonlaw10_GridTells.j3
   repeat' first
   | (with_reducible exact ih0 _ _ _ _ _ _ _ _ _)
   | (with_reducible exact ih1 _ _ _ _ _ _ _ _ _ _ _)
   | (with_reducible exact ih2 _ _ _ _ _ _ _ _ _)
   | (with_reducible exact ih3 _ _ _ _ _ _ _ _ _ _)
   | (with_reducible exact batonlaw10_awake.mono _)
   | (with_reducible exact batonref09_Same.mono _ _ _)
   | (with_reducible exact batonref10_Right.mono _ _ _ _)
   | (with_reducible exact batonref10_Same.mono _ _ _ _ _ _ _)
   | (with_reducible exact grid_Of.mono _ _ _ _)
   | (with_reducible exact grid_Right.mono _ _ _ _)
   | (with_reducible exact grid_Same.mono _ _ _ _ _ _ _)
   | (with_reducible exact LeO.refl _)
   | (with_reducible exact LeO.none _)
   | (with_reducible refine LeO.ite ?_ ?_)
   | (with_reducible refine LeO.bind ?_ (fun _ => ?_))
   | exact ih0 _ _ _ _ _ _ _ _ _
   | exact ih1 _ _ _ _ _ _ _ _ _ _ _
   | exact ih2 _ _ _ _ _ _ _ _ _
   | exact ih3 _ _ _ _ _ _ _ _ _ _
   | exact batonlaw10_awake.mono _
   | exact batonref09_Same.mono _ _ _
   | exact batonref10_Right.mono _ _ _ _
   | exact batonref10_Same.mono _ _ _ _ _ _ _
   | exact grid_Of.mono _ _ _ _
   | exact grid_Right.mono _ _ _ _
   | exact grid_Same.mono _ _ _ _ _ _ _
   | exact LeO.none _
   | refine LeO.ite ?_ ?_
   | refine LeO.bind ?_ (fun _ => ?_)
theorem batonlaw10_GridTells.mono : ∀ a0 a1 a2 a3 a4 a5 a6 a7 k, LeO (batonlaw10_GridTells.f k a0 a1 a2 a3 a4 a5 a6 a7) (batonlaw10_GridTells.f (k + 1) a0 a1 a2 a3 a4 a5 a6 a7) := by
 intro a0 a1 a2 a3 a4 a5 a6 a7 k
 obtain ⟨ih0, ih1, ih2, ih3⟩ := batonlaw10_GridTells.mono_l k
 unfold batonlaw10_GridTells.f
 repeat' first
   | (with_reducible exact ih0 _ _ _ _ _ _ _ _ _)
   | (with_reducible exact ih1 _ _ _ _ _ _ _ _ _ _ _)
   | (with_reducible exact ih2 _ _ _ _ _ _ _ _ _)
   | (with_reducible exact ih3 _ _ _ _ _ _ _ _ _ _)
   | (with_reducible exact batonlaw10_awake.mono _)
   | (with_reducible exact batonref09_Same.mono _ _ _)
   | (with_reducible exact batonref10_Right.mono _ _ _ _)
   | (with_reducible exact batonref10_Same.mono _ _ _ _ _ _ _)
   | (with_reducible exact grid_Of.mono _ _ _ _)
   | (with_reducible exact grid_Right.mono _ _ _ _)
   | (with_reducible exact grid_Same.mono _ _ _ _ _ _ _)
   | (with_reducible exact LeO.refl _)
   | (with_reducible exact LeO.none _)
   | (with_reducible refine LeO.ite ?_ ?_)
   | (with_reducible refine LeO.bind ?_ (fun _ => ?_))
   | exact ih0 _ _ _ _ _ _ _ _ _
   | exact ih1 _ _ _ _ _ _ _ _ _ _ _
   | exact ih2 _ _ _ _ _ _ _ _ _
   | exact ih3 _ _ _ _ _ _ _ _ _ _
   | exact batonlaw10_awake.mono _
   | exact batonref09_Same.mono _ _ _
   | exact batonref10_Right.mono _ _ _ _
   | exact batonref10_Same.mono _ _ _ _ _ _ _
   | exact grid_Of.mono _ _ _ _
   | exact grid_Right.mono _ _ _ _
   | exact grid_Same.mono _ _ _ _ _ _ _
   | exact LeO.none _
   | refine LeO.ite ?_ ?_
   | refine LeO.bind ?_ (fun _ => ?_)
def batonlaw10_GridTells.T7 : Bool × List (List Nat × List Nat) := (true, [([], []), ([0], [0]), ([], []), ([1, 2], [1, 2]), ([3, 1], [3]), ([4], [4]), ([4], [4]), ([5, 6, 4, 4], [4, 5, 6]), ([4], [4]), ([4], [4]), ([8, 9, 7, 4], [4, 8, 9]), ([7, 10, 4], [4, 7, 10]), ([4, 11], [4, 11])])
def batonlaw10_GridTells.B7 : List Nat := [0, 1, 0, 7, 15, 31, 31, 127, 31, 31, 1023, 2047, 4095]
theorem batonlaw10_GridTells.tab7 : rtab .any (opsOf Try.f11 7) = batonlaw10_GridTells.T7 := by kernel_rfl
theorem batonlaw10_GridTells.bits7 : waitsOk batonlaw10_GridTells.T7.2 batonlaw10_GridTells.B7 = true := by kernel_rfl
def batonlaw10_GridTells.T11 : Bool × List (List Nat × List Nat) := (true, [([], []), ([0], [0]), ([1], [1]), ([2], [2]), ([3, 2], [2, 3]), ([2, 4], [2, 4]), ([5, 2], [5]), ([6], [6]), ([7, 6, 6], [6, 7]), ([6], [6]), ([8, 9, 8, 6], [6, 8, 9]), ([10, 6], [6, 10]), ([6, 11], [6, 11]), ([12, 10], [12]), ([13], [13]), ([14, 13, 13], [13, 14]), ([13], [13]), ([16, 13], [13, 16]), ([15, 17, 13], [13, 15, 17]), ([13, 18], [13, 18]), ([19, 15], [19]), ([20], [20]), ([21, 20, 20], [20, 21]), ([20], [20]), ([23, 20], [20, 23]), ([22, 24, 20], [20, 22, 24]), ([20, 25], [20, 25])])
def batonlaw10_GridTells.B11 : List Nat := [0, 1, 3, 7, 15, 31, 63, 127, 255, 127, 1023, 2047, 4095, 8191, 16383, 32767, 16383, 81919, 262143, 524287, 1048575, 2097151, 4194303, 2097151, 10485759, 33554431, 67108863]
theorem batonlaw10_GridTells.tab11 : rtab .any (opsOf Try.f11 11) = batonlaw10_GridTells.T11 := by kernel_rfl
theorem batonlaw10_GridTells.bits11 : waitsOk batonlaw10_GridTells.T11.2 batonlaw10_GridTells.B11 = true := by kernel_rfl
def batonlaw10_GridTells.T16 : Bool × List (List Nat × List Nat) := (true, [([], []), ([], []), ([1], [1]), ([], []), ([3], [3]), ([], []), ([5], [5]), ([4, 6], [4, 6]), ([], []), ([8], [8]), ([], []), ([10], [10]), ([9, 11], [9, 11]), ([], []), ([13], [13]), ([12, 14], [12, 14]), ([2, 7, 15], [2, 7, 15]), ([0, 16], [0, 16]), ([17, 17], [17]), ([18], [18]), ([18], [18]), ([20, 18], [18, 20]), ([18], [18]), ([22, 18], [18, 22]), ([19, 21, 23, 18, 18], [18, 19, 21, 23]), ([18], [18]), ([18], [18]), ([26, 18], [18, 26]), ([18], [18]), ([28, 18], [18, 28]), ([18], [18]), ([25, 27, 29, 30, 24, 18], [18, 25, 27, 29, 30]), ([24, 31, 18], [18, 24, 31]), ([18, 32], [18, 32]), ([33, 31, 0, 1, 2, 3, 4, 5, 6, 7, 8, 9, 10, 11, 12, 13, 14, 15, 16, 17, 18, 19, 20, 21, 22, 23, 24, 25, 26, 27, 28, 29, 30, 31, 32, 33], [33])])
def batonlaw10_GridTells.B16 : List Nat := [0, 0, 2, 0, 8, 0, 32, 120, 0, 256, 0, 1024, 3840, 0, 8192, 32512, 65534, 131071, 262143, 524287, 524287, 1572863, 524287, 4718591, 16777215, 524287, 524287, 67633151, 524287, 268959743, 524287, 2147483647, 4294967295, 8589934591, 17179869183]
theorem batonlaw10_GridTells.tab16 : rtab .any (opsOf Try.f11 16) = batonlaw10_GridTells.T16 := by kernel_rfl
theorem batonlaw10_GridTells.bits16 : waitsOk batonlaw10_GridTells.T16.2 batonlaw10_GridTells.B16 = true := by kernel_rfl
theorem bc8_ {W : World} {g : Nat} {cs : Array Value} {t : TypeId} (h : Aside0 (W.heap[g]? = some (.cells cs t (0, 0)))) (j : Nat) {v : Value} (hv : cs[j]? = some v := by rfl) : W.cell? ⟨g, j, none⟩ = some v := (blk_cell h.out j).trans hv
theorem A8_ {p : Prop} (h : p) : Aside0 p := ⟨h⟩
abbrev m8_0 : Array Bool := #[false, false, false, false, false, false, false, false, false, false, false, false, false, false, false, false, false, false, false, false, false, false, false, false, false, false, false, false, false, false, false, false, false, false, false]
abbrev m8_1 : Array Bool := #[false, false, false, false, false, false, false, false, false, false, false, false, false, false, false, false, false, false, false, false, false, false, false, false, false, false, false]
abbrev m8_2 : Array Bool := #[false, false, false, false, false, false, false, false, false, false, false, false, false]
abbrev m8_3 : Array Bool := #[false, false, true, false, false, false, false, false, false, false, false, false, false]
abbrev m8_4 : Array Bool := #[true, false, false, false, false, false, false, false, false, false, false, false, false, false, false, false, false, false, false, false, false, false, false, false, false, false, false, false, false, false, false, false, false, false, false]
abbrev m8_5 : Array Bool := #[true, false, false, false, false, false, false, false, false, false, false, false, false, false, false, false, false, false, false, false, false, false, false, false, false, false, false]
abbrev m8_6 : Array Bool := #[true, false, true, false, false, false, false, false, false, false, false, false, false]
abbrev m8_7 : Array Bool := #[true, true, false, false, false, false, false, false, false, false, false, false, false, false, false, false, false, false, false, false, false, false, false, false, false, false, false, false, false, false, false, false, false, false, false]
abbrev m8_8 : Array Bool := #[true, true, false, false, false, false, false, false, false, false, false, false, false, false, false, false, false, false, false, false, false, false, false, false, false, false, false]
abbrev m8_9 : Array Bool := #[true, true, false, true, false, false, false, false, false, false, false, false, false, false, false, false, false, false, false, false, false, false, false, false, false, false, false, false, false, false, false, false, false, false, false]
abbrev m8_10 : Array Bool := #[true, true, false, true, false, true, false, false, false, false, false, false, false, false, false, false, false, false, false, false, false, false, false, false, false, false, false, false, false, false, false, false, false, false, false]
abbrev m8_11 : Array Bool := #[true, true, false, true, false, true, false, false, true, false, false, false, false, false, false, false, false, false, false, false, false, false, false, false, false, false, false, false, false, false, false, false, false, false, false]
abbrev m8_12 : Array Bool := #[true, true, false, true, false, true, false, false, true, false, true, false, false, false, false, false, false, false, false, false, false, false, false, false, false, false, false, false, false, false, false, false, false, false, false]
abbrev m8_13 : Array Bool := #[true, true, false, true, false, true, false, false, true, false, true, false, false, true, false, false, false, false, false, false, false, false, false, false, false, false, false, false, false, false, false, false, false, false, false]
abbrev m8_14 : Array Bool := #[true, true, true, false, false, false, false, false, false, false, false, false, false, false, false, false, false, false, false, false, false, false, false, false, false, false, false]
abbrev m8_15 : Array Bool := #[true, true, true, false, false, false, false, false, false, false, false, false, false]
abbrev m8_16 : Array Bool := #[true, true, true, true, false, false, false, false, false, false, false, false, false, false, false, false, false, false, false, false, false, false, false, false, false, false, false]
abbrev m8_17 : Array Bool := #[true, true, true, true, false, false, false, false, false, false, false, false, false]
abbrev m8_18 : Array Bool := #[true, true, true, true, false, true, false, false, true, false, true, false, false, true, false, false, false, false, false, false, false, false, false, false, false, false, false, false, false, false, false, false, false, false, false]
abbrev m8_19 : Array Bool := #[true, true, true, true, true, false, false, false, false, false, false, false, false, false, false, false, false, false, false, false, false, false, false, false, false, false, false]
abbrev m8_20 : Array Bool := #[true, true, true, true, true, false, false, false, false, false, false, false, false]
abbrev m8_21 : Array Bool := #[true, true, true, true, true, true, false, false, false, false, false, false, false, false, false, false, false, false, false, false, false, false, false, false, false, false, false]
abbrev m8_22 : Array Bool := #[true, true, true, true, true, true, false, false, false, false, false, false, false]
abbrev m8_23 : Array Bool := #[true, true, true, true, true, true, false, false, true, false, true, false, false, true, false, false, false, false, false, false, false, false, false, false, false, false, false, false, false, false, false, false, false, false, false]
abbrev m8_24 : Array Bool := #[true, true, true, true, true, true, true, false, false, false, false, false, false, false, false, false, false, false, false, false, false, false, false, false, false, false, false]
abbrev m8_25 : Array Bool := #[true, true, true, true, true, true, true, false, false, false, false, false, false]
abbrev m8_26 : Array Bool := #[true, true, true, true, true, true, true, false, true, false, false, false, false]
abbrev m8_27 : Array Bool := #[true, true, true, true, true, true, true, false, true, false, true, false, false, true, false, false, false, false, false, false, false, false, false, false, false, false, false, false, false, false, false, false, false, false, false]
abbrev m8_28 : Array Bool := #[true, true, true, true, true, true, true, false, true, true, false, false, false]
abbrev m8_29 : Array Bool := #[true, true, true, true, true, true, true, true, false, false, false, false, false, false, false, false, false, false, false, false, false, false, false, false, false, false, false]
abbrev m8_30 : Array Bool := #[true, true, true, true, true, true, true, true, false, false, false, false, false]
abbrev m8_31 : Array Bool := #[true, true, true, true, true, true, true, true, false, true, false, false, false, false, false, false, false, false, false, false, false, false, false, false, false, false, false]
abbrev m8_32 : Array Bool := #[true, true, true, true, true, true, true, true, true, false, false, false, false, false, false, false, false, false, false, false, false, false, false, false, false, false, false]
abbrev m8_33 : Array Bool := #[true, true, true, true, true, true, true, true, true, false, false, false, false]
abbrev m8_34 : Array Bool := #[true, true, true, true, true, true, true, true, true, false, true, false, false, true, false, false, false, false, false, false, false, false, false, false, false, false, false, false, false, false, false, false, false, false, false]
abbrev m8_35 : Array Bool := #[true, true, true, true, true, true, true, true, true, true, false, false, false, false, false, false, false, false, false, false, false, false, false, false, false, false, false]
abbrev m8_36 : Array Bool := #[true, true, true, true, true, true, true, true, true, true, false, false, false]
abbrev m8_37 : Array Bool := #[true, true, true, true, true, true, true, true, true, true, true, false, false, false, false, false, false, false, false, false, false, false, false, false, false, false, false]
abbrev m8_38 : Array Bool := #[true, true, true, true, true, true, true, true, true, true, true, false, false, true, false, false, false, false, false, false, false, false, false, false, false, false, false, false, false, false, false, false, false, false, false]
abbrev m8_39 : Array Bool := #[true, true, true, true, true, true, true, true, true, true, true, false, false]
abbrev m8_40 : Array Bool := #[true, true, true, true, true, true, true, true, true, true, true, true, false, false, false, false, false, false, false, false, false, false, false, false, false, false, false]
abbrev m8_41 : Array Bool := #[true, true, true, true, true, true, true, true, true, true, true, true, false, true, false, false, false, false, false, false, false, false, false, false, false, false, false, false, false, false, false, false, false, false, false]
abbrev m8_42 : Array Bool := #[true, true, true, true, true, true, true, true, true, true, true, true, false]
abbrev m8_43 : Array Bool := #[true, true, true, true, true, true, true, true, true, true, true, true, true, false, false, false, false, false, false, false, false, false, false, false, false, false, false]
abbrev m8_44 : Array Bool := #[true, true, true, true, true, true, true, true, true, true, true, true, true, true, false, false, false, false, false, false, false, false, false, false, false, false, false, false, false, false, false, false, false, false, false]
abbrev m8_45 : Array Bool := #[true, true, true, true, true, true, true, true, true, true, true, true, true, true, false, false, false, false, false, false, false, false, false, false, false, false, false]
abbrev m8_46 : Array Bool := #[true, true, true, true, true, true, true, true, true, true, true, true, true, true, true, false, false, false, false, false, false, false, false, false, false, false, false, false, false, false, false, false, false, false, false]
abbrev m8_47 : Array Bool := #[true, true, true, true, true, true, true, true, true, true, true, true, true, true, true, false, false, false, false, false, false, false, false, false, false, false, false]
abbrev m8_48 : Array Bool := #[true, true, true, true, true, true, true, true, true, true, true, true, true, true, true, false, true, false, false, false, false, false, false, false, false, false, false]
abbrev m8_49 : Array Bool := #[true, true, true, true, true, true, true, true, true, true, true, true, true, true, true, false, true, true, false, false, false, false, false, false, false, false, false]
abbrev m8_50 : Array Bool := #[true, true, true, true, true, true, true, true, true, true, true, true, true, true, true, true, false, false, false, false, false, false, false, false, false, false, false, false, false, false, false, false, false, false, false]
abbrev m8_51 : Array Bool := #[true, true, true, true, true, true, true, true, true, true, true, true, true, true, true, true, false, false, false, false, false, false, false, false, false, false, false]
abbrev m8_52 : Array Bool := #[true, true, true, true, true, true, true, true, true, true, true, true, true, true, true, true, true, false, false, false, false, false, false, false, false, false, false, false, false, false, false, false, false, false, false]
abbrev m8_53 : Array Bool := #[true, true, true, true, true, true, true, true, true, true, true, true, true, true, true, true, true, false, false, false, false, false, false, false, false, false, false]
abbrev m8_54 : Array Bool := #[true, true, true, true, true, true, true, true, true, true, true, true, true, true, true, true, true, true, false, false, false, false, false, false, false, false, false, false, false, false, false, false, false, false, false]
abbrev m8_55 : Array Bool := #[true, true, true, true, true, true, true, true, true, true, true, true, true, true, true, true, true, true, false, false, false, false, false, false, false, false, false]
abbrev m8_56 : Array Bool := #[true, true, true, true, true, true, true, true, true, true, true, true, true, true, true, true, true, true, true, false, false, false, false, false, false, false, false, false, false, false, false, false, false, false, false]
abbrev m8_57 : Array Bool := #[true, true, true, true, true, true, true, true, true, true, true, true, true, true, true, true, true, true, true, false, false, false, false, false, false, false, false]
abbrev m8_58 : Array Bool := #[true, true, true, true, true, true, true, true, true, true, true, true, true, true, true, true, true, true, true, true, false, false, false, false, false, false, false, false, false, false, false, false, false, false, false]
abbrev m8_59 : Array Bool := #[true, true, true, true, true, true, true, true, true, true, true, true, true, true, true, true, true, true, true, true, false, false, false, false, false, false, false]
abbrev m8_60 : Array Bool := #[true, true, true, true, true, true, true, true, true, true, true, true, true, true, true, true, true, true, true, true, true, false, false, false, false, false, false, false, false, false, false, false, false, false, false]
abbrev m8_61 : Array Bool := #[true, true, true, true, true, true, true, true, true, true, true, true, true, true, true, true, true, true, true, true, true, false, false, false, false, false, false]
abbrev m8_67 : Array Bool := #[true, true, true, true, true, true, true, true, true, true, true, true, true, true, true, true, true, true, true, true, true, true, false, false, false, false, false]
abbrev m8_71 : Array Bool := #[true, true, true, true, true, true, true, true, true, true, true, true, true, true, true, true, true, true, true, true, true, true, true, false, false, false, false]
abbrev m8_74 : Array Bool := #[true, true, true, true, true, true, true, true, true, true, true, true, true, true, true, true, true, true, true, true, true, true, true, true, false, false, false]
abbrev m8_80 : Array Bool := #[true, true, true, true, true, true, true, true, true, true, true, true, true, true, true, true, true, true, true, true, true, true, true, true, true, false, false]
abbrev m8_82 : Array Bool := #[true, true, true, true, true, true, true, true, true, true, true, true, true, true, true, true, true, true, true, true, true, true, true, true, true, true, false]
abbrev m8_87 : Array Bool := #[true, true, true, true, true, true, true, true, true, true, true, true, true, true, true, true, true, true, true, true, true, true, true, true, true, true, true, true, true, true, true, false, false, false, false]
abbrev m8_88 : Array Bool := #[true, true, true, true, true, true, true, true, true, true, true, true, true, true, true, true, true, true, true, true, true, true, true, true, true, true, true, true, true, true, true, true, false, false, false]
abbrev m8_89 : Array Bool := #[true, true, true, true, true, true, true, true, true, true, true, true, true, true, true, true, true, true, true, true, true, true, true, true, true, true, true, true, true, true, true, true, true, false, false]
abbrev m8_90 : Array Bool := #[true, true, true, true, true, true, true, true, true, true, true, true, true, true, true, true, true, true, true, true, true, true, true, true, true, true, true, true, true, true, true, true, true, true, false]
abbrev m8_91 : Array Bool := #[true, true, true, true, true, true, true, true, true, true, true, true, true, true, true, true, true, true, true, true, true, true, true, true, true, true, true, true, true, true, true, true, true, true, true]
abbrev m8_92 : Array Bool := #[true, true, true, true, true, true, true, true, true, true, true, true, true, true, true, true, true, true, true, true, true, true, true, true, true, true, true]
abbrev m8_93 : Array Bool := #[true, true, true, true, true, true, true, true, true, true, true, true, true]
theorem q8_77 {p : Prop} (h : p := by repeat (first | (with_reducible first | exact HB.out | apply below_alloc | apply pw_below_drewN | apply below_drew1 | refine below_set ?_ GE248.out | refine below_set ?_ GE249.out | refine below_set ?_ GE250.out) | exact HB.out)) : p := h
theorem q8_78 {p : Prop} (h : p := by (with_reducible repeat (first | refine blk_drewN ?_ _ | refine blk_drew ?_ | refine blk_alloc ?_ _)); exact BK248.out) : p := h
theorem q8_79 {p : Prop} (h : p := by (try simp only [List.map_toArray, List.map_cons, List.map_nil]); first | done | rfl | (simp only [List.length_drop, List.length_take]; rfl)) : p := h
theorem q8_80 {p : Prop} (h : p := by (with_reducible repeat (first | refine blk_drewN ?_ _ | refine blk_drew ?_ | refine blk_alloc ?_ _)); exact BK249.out) : p := h
theorem q8_81 {p : Prop} (h : p := by (with_reducible repeat (first | refine blk_drewN ?_ _ | refine blk_drew ?_ | refine blk_alloc ?_ _)); exact BK250.out) : p := h
theorem q8_82 {p : Prop} (h : p := by kernel_rfl) : p := h
theorem q8_83 {p : Prop} (h : p := by repeat (first | (with_reducible first | exact HB.out | apply below_alloc | apply pw_below_drewN | apply below_drew1 | refine below_set ?_ GE248.out | refine below_set ?_ GE249.out | refine below_set ?_ GE250.out | refine below_set ?_ GE259.out) | exact HB.out)) : p := h
theorem q8_84 {p : Prop} (h : p := by (with_reducible repeat (first | apply Kd.R_alloc | apply Kd.R_drewN | apply Kd.R_drew)); exact HO258.out) : p := h
theorem q8_85 {p : Prop} (h : p := by repeat (first | (with_reducible first | exact HB.out | apply below_alloc | apply pw_below_drewN | apply below_drew1 | refine below_set ?_ GE248.out | refine below_set ?_ GE249.out) | exact HB.out)) : p := h
theorem q8_86 {p : Prop} (h : p := by (with_reducible repeat (first | refine blk_drewN ?_ _ | refine blk_drew ?_ | refine blk_alloc ?_ _)); exact BK259.out) : p := h
theorem q8_87 {p : Prop} (h : p := by repeat (first | (with_reducible first | exact HB.out | apply below_alloc | apply pw_below_drewN | apply below_drew1 | refine below_set ?_ GE248.out) | exact HB.out)) : p := h
theorem q8_88 {p : Prop} (h : p := by repeat (first | (with_reducible first | exact HB.out | apply below_alloc | apply pw_below_drewN | apply below_drew1) | exact HB.out)) : p := h
theorem q8_89 {p : Prop} (h : p := by (with_reducible repeat (first | apply Kd.R_alloc | apply Kd.R_drewN | apply Kd.R_drew)); exact HO268.out) : p := h
theorem q8_90 {p : Prop} (h : p := by decide) : p := h
theorem q8_91 {p : Prop} (h : p := by first | rfl | (simp; done) | (simp [*]; done)) : p := h
theorem q8_92 {p : Prop} (h : p := by first | (with_reducible assumption) | assumption) : p := h
theorem q8_93 {p : Prop} (h : p := by (with_reducible repeat (first | apply Kd.R_alloc | apply Kd.R_drewN | apply Kd.R_drew)); exact HO_10.out) : p := h
theorem q8_94 {p : Prop} (h : p := by (with_reducible repeat (first | apply Kd.R_alloc | apply Kd.R_drewN | apply Kd.R_drew)); exact HO273.out) : p := h


end Go.Proofs.Ytkckojgjkmcokaa.PF10
