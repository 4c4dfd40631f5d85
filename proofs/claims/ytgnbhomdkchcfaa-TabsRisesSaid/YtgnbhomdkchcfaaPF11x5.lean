/- By a program of this session (wip/tool/pp.py): plain Lean functions of the Go functions that this family of laws uses, the walks that the Go code comes to their answers, and the row of the law. No condition beside those that the row itself gives. -/
import Derived.Test.YtgnbhomdkchcfaaPF11x0
import Derived.Test.YtgnbhomdkchcfaaPF11x2
import Derived.Test.YtgnbhomdkchcfaaPF11x3
import Derived.Test.YtgnbhomdkchcfaaPF11x4
namespace Go.Proofs.Ytgnbhomdkchcfaa.PF11
open Go.RowKit Go.Proofs.YtgnbhomdkchcfaaW.Hand Go.Proofs.YtgnbhomdkchcfaaW.PrintWords Go.Proofs.YtgnbhomdkchcfaaW.PrintLast Go.Proofs.YtgnbhomdkchcfaaW.PrintMore
attribute [local go_sem] max2_int min2_int max_two min_two max_three min_three max_four min_four   -- for this text's walks alone
set_option linter.unusedVariables false
set_option linter.unusedSimpArgs false

/-! ### batonlaw11_TabsRises: function 3 -/
mutual
def batonlaw11_TabsRises.j0 : Nat → Int → List Int → Int → Bool → Option (Bool)
  | 0, _, _, _, _ => none
  | k + 1, x0, x1, x2, x37 => if x37 = true then (some true) else ((tabs_New.f k x0).bind fun bt174 => (if bt174.1 = true then (if bt174.2.2.2 = 0 then (batonlaw11_TabsRises.j1 k x0 x1 x2 false bt174.2.1 bt174.2.2.1) else (batonlaw11_TabsRises.j1 k x0 x1 x2 true bt174.2.1 bt174.2.2.1)) else (if bt174.2.2.2 = 0 then (some false) else (some false))))
def batonlaw11_TabsRises.j1 : Nat → Int → List Int → Int → Bool → Int → List Int → Option (Bool)
  | 0, _, _, _, _, _, _ => none
  | k + 1, x0, x1, x2, x48, x180000, x180001 => if x48 = true then (some false) else (batonlaw11_TabsRises.l0 k x0 x1 x2 0 x180000 x180001)
def batonlaw11_TabsRises.l0 : Nat → Int → List Int → Int → Int → Int → List Int → Option (Bool)
  | 0, _, _, _, _, _, _ => none
  | k + 1, x0, x1, x2, x9, x180000, x180001 => if x9 < (x1.length : Int) then (if 0 ≤ x9 then ((tabs_Stops_Set.f k x180000 x180001 (rd x1 x9)).bind fun bt182 => (batonlaw11_TabsRises.l0 k x0 x1 x2 (wrap64 (x9 + 1)) bt182.1 bt182.2)) else (none)) else ((tabs_Stops_Next.f k x180000 x180001 x2 1).bind fun bt186 => ((tabs_Stops_Back.f k bt186.2.1 bt186.2.2 x2 1).bind fun bt191 => ((tabs_Stops_List.f bt191.2.1 bt191.2.2).bind fun bt196 => (batonlaw11_TabsRises.j3 k x0 x2 bt186.1 bt191.1 bt196.1))))
def batonlaw11_TabsRises.j3 : Nat → Int → Int → Int → Int → List Int → Option (Bool)
  | 0, _, _, _, _, _ => none
  | k + 1, x0, x2, x10, x11, x12 => if x10 < x2 then (batonlaw11_TabsRises.j4 k x0 x2 x10 x11 x12 true) else (if x10 ≥ x0 then (batonlaw11_TabsRises.j4 k x0 x2 x10 x11 x12 true) else (if x10 = x2 then (if x2 = (wrap64 (x0 - 1)) then (if x11 > x2 then (batonlaw11_TabsRises.j4 k x0 x2 x10 x11 x12 true) else (if x11 < 0 then (batonlaw11_TabsRises.j4 k x0 x2 x10 x11 x12 true) else (if x11 = x2 then (batonlaw11_TabsRises.j4 k x0 x2 x10 x11 x12 (x2 != 0)) else (batonlaw11_TabsRises.j4 k x0 x2 x10 x11 x12 false)))) else (batonlaw11_TabsRises.j4 k x0 x2 x10 x11 x12 true)) else (if x11 > x2 then (batonlaw11_TabsRises.j4 k x0 x2 x10 x11 x12 true) else (if x11 < 0 then (batonlaw11_TabsRises.j4 k x0 x2 x10 x11 x12 true) else (if x11 = x2 then (batonlaw11_TabsRises.j4 k x0 x2 x10 x11 x12 (x2 != 0)) else (batonlaw11_TabsRises.j4 k x0 x2 x10 x11 x12 false))))))
def batonlaw11_TabsRises.j4 : Nat → Int → Int → Int → Int → List Int → Bool → Option (Bool)
  | 0, _, _, _, _, _, _ => none
  | k + 1, x0, x2, x10, x11, x12, x105 => if x105 = true then (some false) else (batonlaw11_TabsRises.l1 k x2 x10 x11 x12 (x10 == (wrap64 (x0 - 1))) (x11 == 0) 0)
def batonlaw11_TabsRises.l1 : Nat → Int → Int → Int → List Int → Bool → Bool → Int → Option (Bool)
  | 0, _, _, _, _, _, _, _ => none
  | k + 1, x2, x10, x11, x12, x13, x14, x15 => if x15 < (x12.length : Int) then (if 0 ≤ x15 then (if (rd x12 x15) > x2 then (if (rd x12 x15) < x10 then (batonlaw11_TabsRises.j6 k x2 x10 x11 x12 x13 x14 x15 true) else (if (rd x12 x15) < x2 then (batonlaw11_TabsRises.j6 k x2 x10 x11 x12 x13 x14 x15 (decide ((rd x12 x15) > x11))) else (batonlaw11_TabsRises.j6 k x2 x10 x11 x12 x13 x14 x15 false))) else (if (rd x12 x15) < x2 then (batonlaw11_TabsRises.j6 k x2 x10 x11 x12 x13 x14 x15 (decide ((rd x12 x15) > x11))) else (batonlaw11_TabsRises.j6 k x2 x10 x11 x12 x13 x14 x15 false))) else (none)) else (if x13 = true then (some x14) else (some false))
def batonlaw11_TabsRises.j6 : Nat → Int → Int → Int → List Int → Bool → Bool → Int → Bool → Option (Bool)
  | 0, _, _, _, _, _, _, _, _ => none
  | k + 1, x2, x10, x11, x12, x13, x14, x15, x147 => if x147 = true then (some false) else (if x13 = true then (if x14 = true then (batonlaw11_TabsRises.l1 k x2 x10 x11 x12 true true (wrap64 (x15 + 1))) else (if 0 ≤ x15 then (if x15 < (x12.length : Int) then (batonlaw11_TabsRises.l1 k x2 x10 x11 x12 true ((rd x12 x15) == x11) (wrap64 (x15 + 1))) else (none)) else (none))) else (if 0 ≤ x15 then (if x15 < (x12.length : Int) then (if x14 = true then (batonlaw11_TabsRises.l1 k x2 x10 x11 x12 ((rd x12 x15) == x10) true (wrap64 (x15 + 1))) else (batonlaw11_TabsRises.l1 k x2 x10 x11 x12 ((rd x12 x15) == x10) ((rd x12 x15) == x11) (wrap64 (x15 + 1)))) else (none)) else (none)))
end
def batonlaw11_TabsRises.f (k : Nat) (a0 : Int) (l1 : List Int) (a2 : Int) : Option (Bool) := (batonlaw11_awake.f k).bind fun t173 => (if t173 = true then (if a0 < 1 then (batonlaw11_TabsRises.j0 k a0 l1 a2 true) else (if a0 > 132 then (batonlaw11_TabsRises.j0 k a0 l1 a2 true) else (if (l1.length : Int) > 30 then (batonlaw11_TabsRises.j0 k a0 l1 a2 true) else (if a2 < 0 then (batonlaw11_TabsRises.j0 k a0 l1 a2 true) else (batonlaw11_TabsRises.j0 k a0 l1 a2 (decide (a2 ≥ a0))))))) else (some false))
theorem batonlaw11_TabsRises.mono_l : ∀ k, (∀ y0 y1 y2 y3, LeO (batonlaw11_TabsRises.j0 k y0 y1 y2 y3) (batonlaw11_TabsRises.j0 (k + 1) y0 y1 y2 y3)) ∧ (∀ y0 y1 y2 y3 y4 y5, LeO (batonlaw11_TabsRises.j1 k y0 y1 y2 y3 y4 y5) (batonlaw11_TabsRises.j1 (k + 1) y0 y1 y2 y3 y4 y5)) ∧ (∀ y0 y1 y2 y3 y4 y5, LeO (batonlaw11_TabsRises.l0 k y0 y1 y2 y3 y4 y5) (batonlaw11_TabsRises.l0 (k + 1) y0 y1 y2 y3 y4 y5)) ∧ (∀ y0 y1 y2 y3 y4, LeO (batonlaw11_TabsRises.j3 k y0 y1 y2 y3 y4) (batonlaw11_TabsRises.j3 (k + 1) y0 y1 y2 y3 y4)) ∧ (∀ y0 y1 y2 y3 y4 y5, LeO (batonlaw11_TabsRises.j4 k y0 y1 y2 y3 y4 y5) (batonlaw11_TabsRises.j4 (k + 1) y0 y1 y2 y3 y4 y5)) ∧ (∀ y0 y1 y2 y3 y4 y5 y6, LeO (batonlaw11_TabsRises.l1 k y0 y1 y2 y3 y4 y5 y6) (batonlaw11_TabsRises.l1 (k + 1) y0 y1 y2 y3 y4 y5 y6)) ∧ (∀ y0 y1 y2 y3 y4 y5 y6 y7, LeO (batonlaw11_TabsRises.j6 k y0 y1 y2 y3 y4 y5 y6 y7) (batonlaw11_TabsRises.j6 (k + 1) y0 y1 y2 y3 y4 y5 y6 y7))
  | 0 => ⟨fun _ _ _ _ r h => by simp [batonlaw11_TabsRises.j0] at h, fun _ _ _ _ _ _ r h => by simp [batonlaw11_TabsRises.j1] at h, fun _ _ _ _ _ _ r h => by simp [batonlaw11_TabsRises.l0] at h, fun _ _ _ _ _ r h => by simp [batonlaw11_TabsRises.j3] at h, fun _ _ _ _ _ _ r h => by simp [batonlaw11_TabsRises.j4] at h, fun _ _ _ _ _ _ _ r h => by simp [batonlaw11_TabsRises.l1] at h, fun _ _ _ _ _ _ _ _ r h => by simp [batonlaw11_TabsRises.j6] at h⟩
  | k + 1 => by
    obtain ⟨ih0, ih1, ih2, ih3, ih4, ih5, ih6⟩ := batonlaw11_TabsRises.mono_l k
    refine ⟨?_, ?_, ?_, ?_, ?_, ?_, ?_⟩
    · intro y0 y1 y2 y3
      unfold batonlaw11_TabsRises.j0
      repeat' first
      | (with_reducible exact ih0 _ _ _ _)
      | (with_reducible exact ih1 _ _ _ _ _ _)
      | (with_reducible exact ih2 _ _ _ _ _ _)
      | (with_reducible exact ih3 _ _ _ _ _)
      | (with_reducible exact ih4 _ _ _ _ _ _)
      | (with_reducible exact ih5 _ _ _ _ _ _ _)
      | (with_reducible exact ih6 _ _ _ _ _ _ _ _)
      | (with_reducible exact batonlaw11_awake.mono _)
      | (with_reducible exact tabs_New.mono _ _)
      | (with_reducible exact tabs_Stops_Back.mono _ _ _ _ _)
      | (with_reducible exact tabs_Stops_Next.mono _ _ _ _ _)
      | (with_reducible exact tabs_Stops_Set.mono _ _ _ _)
      | (with_reducible exact LeO.refl _)
      | (with_reducible exact LeO.none _)
      | (with_reducible refine LeO.ite ?_ ?_)
      | (with_reducible refine LeO.bind ?_ (fun _ => ?_))
      | exact ih0 _ _ _ _
      | exact ih1 _ _ _ _ _ _
      | exact ih2 _ _ _ _ _ _
      | exact ih3 _ _ _ _ _
      | exact ih4 _ _ _ _ _ _
      | exact ih5 _ _ _ _ _ _ _
      | exact ih6 _ _ _ _ _ _ _ _
      | exact batonlaw11_awake.mono _
      | exact tabs_New.mono _ _
      | exact tabs_Stops_Back.mono _ _ _ _ _
      | exact tabs_Stops_Next.mono _ _ _ _ _
      | exact tabs_Stops_Set.mono _ _ _ _
      | exact LeO.none _
      | refine LeO.ite ?_ ?_
      | refine LeO.bind ?_ (fun _ => ?_)
    · intro y0 y1 y2 y3 y4 y5
      unfold batonlaw11_TabsRises.j1
      repeat' first
      | (with_reducible exact ih0 _ _ _ _)
      | (with_reducible exact ih1 _ _ _ _ _ _)
      | (with_reducible exact ih2 _ _ _ _ _ _)
      | (with_reducible exact ih3 _ _ _ _ _)
      | (with_reducible exact ih4 _ _ _ _ _ _)
      | (with_reducible exact ih5 _ _ _ _ _ _ _)
      | (with_reducible exact ih6 _ _ _ _ _ _ _ _)
      | (with_reducible exact batonlaw11_awake.mono _)
      | (with_reducible exact tabs_New.mono _ _)
      | (with_reducible exact tabs_Stops_Back.mono _ _ _ _ _)
      | (with_reducible exact tabs_Stops_Next.mono _ _ _ _ _)
      | (with_reducible exact tabs_Stops_Set.mono _ _ _ _)
      | (with_reducible exact LeO.refl _)
      | (with_reducible exact LeO.none _)
      | (with_reducible refine LeO.ite ?_ ?_)
      | (with_reducible refine LeO.bind ?_ (fun _ => ?_))
      | exact ih0 _ _ _ _
      | exact ih1 _ _ _ _ _ _
      | exact ih2 _ _ _ _ _ _
      | exact ih3 _ _ _ _ _
      | exact ih4 _ _ _ _ _ _
      | exact ih5 _ _ _ _ _ _ _
      | exact ih6 _ _ _ _ _ _ _ _
      | exact batonlaw11_awake.mono _
      | exact tabs_New.mono _ _
      | exact tabs_Stops_Back.mono _ _ _ _ _
      | exact tabs_Stops_Next.mono _ _ _ _ _
      | exact tabs_Stops_Set.mono _ _ _ _
      | exact LeO.none _
      | refine LeO.ite ?_ ?_
      | refine LeO.bind ?_ (fun _ => ?_)
    · intro y0 y1 y2 y3 y4 y5
      unfold batonlaw11_TabsRises.l0
      repeat' first
      | (with_reducible exact ih0 _ _ _ _)
      | (with_reducible exact ih1 _ _ _ _ _ _)
      | (with_reducible exact ih2 _ _ _ _ _ _)
      | (with_reducible exact ih3 _ _ _ _ _)
      | (with_reducible exact ih4 _ _ _ _ _ _)
      | (with_reducible exact ih5 _ _ _ _ _ _ _)
      | (with_reducible exact ih6 _ _ _ _ _ _ _ _)
      | (with_reducible exact batonlaw11_awake.mono _)
      | (with_reducible exact tabs_New.mono _ _)
      | (with_reducible exact tabs_Stops_Back.mono _ _ _ _ _)
      | (with_reducible exact tabs_Stops_Next.mono _ _ _ _ _)
      | (with_reducible exact tabs_Stops_Set.mono _ _ _ _)
      | (with_reducible exact LeO.refl _)
      | (with_reducible exact LeO.none _)
      | (with_reducible refine LeO.ite ?_ ?_)
      | (with_reducible refine LeO.bind ?_ (fun _ => ?_))
      | exact ih0 _ _ _ _
      | exact ih1 _ _ _ _ _ _
      | exact ih2 _ _ _ _ _ _
      | exact ih3 _ _ _ _ _
      | exact ih4 _ _ _ _ _ _
      | exact ih5 _ _ _ _ _ _ _
      | exact ih6 _ _ _ _ _ _ _ _
      | exact batonlaw11_awake.mono _
      | exact tabs_New.mono _ _
      | exact tabs_Stops_Back.mono _ _ _ _ _
      | exact tabs_Stops_Next.mono _ _ _ _ _
      | exact tabs_Stops_Set.mono _ _ _ _
      | exact LeO.none _
      | refine LeO.ite ?_ ?_
      | refine LeO.bind ?_ (fun _ => ?_)
    · intro y0 y1 y2 y3 y4
      unfold batonlaw11_TabsRises.j3
      repeat' first
      | (with_reducible exact ih0 _ _ _ _)
      | (with_reducible exact ih1 _ _ _ _ _ _)
      | (with_reducible exact ih2 _ _ _ _ _ _)
      | (with_reducible exact ih3 _ _ _ _ _)
      | (with_reducible exact ih4 _ _ _ _ _ _)
      | (with_reducible exact ih5 _ _ _ _ _ _ _)
      | (with_reducible exact ih6 _ _ _ _ _ _ _ _)
      | (with_reducible exact batonlaw11_awake.mono _)
      | (with_reducible exact tabs_New.mono _ _)
      | (with_reducible exact tabs_Stops_Back.mono _ _ _ _ _)
      | (with_reducible exact tabs_Stops_Next.mono _ _ _ _ _)
      | (with_reducible exact tabs_Stops_Set.mono _ _ _ _)
      | (with_reducible exact LeO.refl _)
      | (with_reducible exact LeO.none _)
      | (with_reducible refine LeO.ite ?_ ?_)
      | (with_reducible refine LeO.bind ?_ (fun _ => ?_))
      | exact ih0 _ _ _ _
      | exact ih1 _ _ _ _ _ _
      | exact ih2 _ _ _ _ _ _
      | exact ih3 _ _ _ _ _
      | exact ih4 _ _ _ _ _ _
      | exact ih5 _ _ _ _ _ _ _
      | exact ih6 _ _ _ _ _ _ _ _
      | exact batonlaw11_awake.mono _
      | exact tabs_New.mono _ _
      | exact tabs_Stops_Back.mono _ _ _ _ _
      | exact tabs_Stops_Next.mono _ _ _ _ _
      | exact tabs_Stops_Set.mono _ _ _ _
      | exact LeO.none _
      | refine LeO.ite ?_ ?_
      | refine LeO.bind ?_ (fun _ => ?_)
    · intro y0 y1 y2 y3 y4 y5
      unfold batonlaw11_TabsRises.j4
      repeat' first
      | (with_reducible exact ih0 _ _ _ _)
      | (with_reducible exact ih1 _ _ _ _ _ _)
      | (with_reducible exact ih2 _ _ _ _ _ _)
      | (with_reducible exact ih3 _ _ _ _ _)
      | (with_reducible exact ih4 _ _ _ _ _ _)
      | (with_reducible exact ih5 _ _ _ _ _ _ _)
      | (with_reducible exact ih6 _ _ _ _ _ _ _ _)
      | (with_reducible exact batonlaw11_awake.mono _)
      | (with_reducible exact tabs_New.mono _ _)
      | (with_reducible exact tabs_Stops_Back.mono _ _ _ _ _)
      | (with_reducible exact tabs_Stops_Next.mono _ _ _ _ _)
      | (with_reducible exact tabs_Stops_Set.mono _ _ _ _)
      | (with_reducible exact LeO.refl _)
      | (with_reducible exact LeO.none _)
      | (with_reducible refine LeO.ite ?_ ?_)
      | (with_reducible refine LeO.bind ?_ (fun _ => ?_))
      | exact ih0 _ _ _ _
      | exact ih1 _ _ _ _ _ _
      | exact ih2 _ _ _ _ _ _
      | exact ih3 _ _ _ _ _
      | exact ih4 _ _ _ _ _ _
      | exact ih5 _ _ _ _ _ _ _
      | exact ih6 _ _ _ _ _ _ _ _
      | exact batonlaw11_awake.mono _
      | exact tabs_New.mono _ _
      | exact tabs_Stops_Back.mono _ _ _ _ _
      | exact tabs_Stops_Next.mono _ _ _ _ _
      | exact tabs_Stops_Set.mono _ _ _ _
      | exact LeO.none _
      | refine LeO.ite ?_ ?_
      | refine LeO.bind ?_ (fun _ => ?_)
    · intro y0 y1 y2 y3 y4 y5 y6
      unfold batonlaw11_TabsRises.l1
      repeat' first
      | (with_reducible exact ih0 _ _ _ _)
      | (with_reducible exact ih1 _ _ _ _ _ _)
      | (with_reducible exact ih2 _ _ _ _ _ _)
      | (with_reducible exact ih3 _ _ _ _ _)
      | (with_reducible exact ih4 _ _ _ _ _ _)
      | (with_reducible exact ih5 _ _ _ _ _ _ _)
      | (with_reducible exact ih6 _ _ _ _ _ _ _ _)
      | (with_reducible exact batonlaw11_awake.mono _)
      | (with_reducible exact tabs_New.mono _ _)
      | (with_reducible exact tabs_Stops_Back.mono _ _ _ _ _)
      | (with_reducible exact tabs_Stops_Next.mono _ _ _ _ _)
      | (with_reducible exact tabs_Stops_Set.mono _ _ _ _)
      | (with_reducible exact LeO.refl _)
      | (with_reducible exact LeO.none _)
      | (with_reducible refine LeO.ite ?_ ?_)
      | (with_reducible refine LeO.bind ?_ (fun _ => ?_))
      | exact ih0 _ _ _ _
      | exact ih1 _ _ _ _ _ _
      | exact ih2 _ _ _ _ _ _
      | exact ih3 _ _ _ _ _
      | exact ih4 _ _ _ _ _ _
      | exact ih5 _ _ _ _ _ _ _
      | exact ih6 _ _ _ _ _ _ _ _
      | exact batonlaw11_awake.mono _
      | exact tabs_New.mono _ _
      | exact tabs_Stops_Back.mono _ _ _ _ _
      | exact tabs_Stops_Next.mono _ _ _ _ _
      | exact tabs_Stops_Set.mono _ _ _ _
      | exact LeO.none _
      | refine LeO.ite ?_ ?_
      | refine LeO.bind ?_ (fun _ => ?_)
    · intro y0 y1 y2 y3 y4 y5 y6 y7
      unfold batonlaw11_TabsRises.j6
      repeat' first
      | (with_reducible exact ih0 _ _ _ _)
      | (with_reducible exact ih1 _ _ _ _ _ _)
      | (with_reducible exact ih2 _ _ _ _ _ _)
      | (with_reducible exact ih3 _ _ _ _ _)
      | (with_reducible exact ih4 _ _ _ _ _ _)
      | (with_reducible exact ih5 _ _ _ _ _ _ _)
      | (with_reducible exact ih6 _ _ _ _ _ _ _ _)
      | (with_reducible exact batonlaw11_awake.mono _)
      | (with_reducible exact tabs_New.mono _ _)
      | (with_reducible exact tabs_Stops_Back.mono _ _ _ _ _)
      | (with_reducible exact tabs_Stops_Next.mono _ _ _ _ _)
      | (with_reducible exact tabs_Stops_Set.mono _ _ _ _)
      | (with_reducible exact LeO.refl _)
      | (with_reducible exact LeO.none _)
      | (with_reducible refine LeO.ite ?_ ?_)
      | (with_reducible refine LeO.bind ?_ (fun _ => ?_))
      | exact ih0 _ _ _ _
      | exact ih1 _ _ _ _ _ _
      | exact ih2 _ _ _ _ _ _
      | exact ih3 _ _ _ _ _
      | exact ih4 _ _ _ _ _ _
      | exact ih5 _ _ _ _ _ _ _
      | exact ih6 _ _ _ _ _ _ _ _
      | exact batonlaw11_awake.mono _
      | exact tabs_New.mono _ _
      | exact tabs_Stops_Back.mono _ _ _ _ _
      | exact tabs_Stops_Next.mono _ _ _ _ _
      | exact tabs_Stops_Set.mono _ _ _ _
      | exact LeO.none _
      | refine LeO.ite ?_ ?_
      | refine LeO.bind ?_ (fun _ => ?_)
theorem batonlaw11_TabsRises.mono : ∀ a0 a1 a2 k, LeO (batonlaw11_TabsRises.f k a0 a1 a2) (batonlaw11_TabsRises.f (k + 1) a0 a1 a2) := by
  intro a0 a1 a2 k
  obtain ⟨ih0, ih1, ih2, ih3, ih4, ih5, ih6⟩ := batonlaw11_TabsRises.mono_l k
  unfold batonlaw11_TabsRises.f
  repeat' first
      | (with_reducible exact ih0 _ _ _ _)
      | (with_reducible exact ih1 _ _ _ _ _ _)
      | (with_reducible exact ih2 _ _ _ _ _ _)
      | (with_reducible exact ih3 _ _ _ _ _)
      | (with_reducible exact ih4 _ _ _ _ _ _)
      | (with_reducible exact ih5 _ _ _ _ _ _ _)
      | (with_reducible exact ih6 _ _ _ _ _ _ _ _)
      | (with_reducible exact batonlaw11_awake.mono _)
      | (with_reducible exact tabs_New.mono _ _)
      | (with_reducible exact tabs_Stops_Back.mono _ _ _ _ _)
      | (with_reducible exact tabs_Stops_Next.mono _ _ _ _ _)
      | (with_reducible exact tabs_Stops_Set.mono _ _ _ _)
      | (with_reducible exact LeO.refl _)
      | (with_reducible exact LeO.none _)
      | (with_reducible refine LeO.ite ?_ ?_)
      | (with_reducible refine LeO.bind ?_ (fun _ => ?_))
      | exact ih0 _ _ _ _
      | exact ih1 _ _ _ _ _ _
      | exact ih2 _ _ _ _ _ _
      | exact ih3 _ _ _ _ _
      | exact ih4 _ _ _ _ _ _
      | exact ih5 _ _ _ _ _ _ _
      | exact ih6 _ _ _ _ _ _ _ _
      | exact batonlaw11_awake.mono _
      | exact tabs_New.mono _ _
      | exact tabs_Stops_Back.mono _ _ _ _ _
      | exact tabs_Stops_Next.mono _ _ _ _ _
      | exact tabs_Stops_Set.mono _ _ _ _
      | exact LeO.none _
      | refine LeO.ite ?_ ?_
      | refine LeO.bind ?_ (fun _ => ?_)
set_option maxHeartbeats 8000000 in
set_option maxRecDepth 100000 in
theorem batonlaw11_TabsRises.calls (k : Nat) (a0 : Int) (A1 : Option Addr) (c1 : Nat) (l1 : List Int) (a2 : Int) (r : Bool) (w : World) (hr1 : Kd.C (Kd.int .i64) w A1 l1.length l1) (hc1 : l1.length ≤ c1) (h : batonlaw11_TabsRises.f k a0 l1 a2 = some r) :
    Calls Try.prog 3 #[.int .i64 a0, .slice A1 l1.length c1, .int .i64 a2] w fun e w' => e = .returned (.bool r) ∧ Below w.heap.size w w' := by
  have HR1 := Aside0.mk hr1
  have HC1 := Aside0.mk hc1
  clear hr1 hc1
  have HB := Aside0.mk (Below.refl w.heap.size w)
  have H : ((batonlaw11_awake.f k).bind fun t173 => (if t173 = true then (if a0 < 1 then (batonlaw11_TabsRises.j0 k a0 l1 a2 true) else (if a0 > 132 then (batonlaw11_TabsRises.j0 k a0 l1 a2 true) else (if (l1.length : Int) > 30 then (batonlaw11_TabsRises.j0 k a0 l1 a2 true) else (if a2 < 0 then (batonlaw11_TabsRises.j0 k a0 l1 a2 true) else (batonlaw11_TabsRises.j0 k a0 l1 a2 (decide (a2 ≥ a0))))))) else (some false))) = some r := h
  clear h
  replace H := Option.bind_eq_some_iff.mp H
  obtain ⟨t173, A40, H⟩ := H
  replace H : (if t173 = true then (if a0 < 1 then (batonlaw11_TabsRises.j0 k a0 l1 a2 true) else (if a0 > 132 then (batonlaw11_TabsRises.j0 k a0 l1 a2 true) else (if (l1.length : Int) > 30 then (batonlaw11_TabsRises.j0 k a0 l1 a2 true) else (if a2 < 0 then (batonlaw11_TabsRises.j0 k a0 l1 a2 true) else (batonlaw11_TabsRises.j0 k a0 l1 a2 (decide (a2 ≥ a0))))))) else (some false)) = some r := H
  have A4 := Aside0.mk A40
  clear A40
  by_cases c5 : t173 = true
  · subst c5
    have H1 : (if a0 < 1 then (batonlaw11_TabsRises.j0 k a0 l1 a2 true) else (if a0 > 132 then (batonlaw11_TabsRises.j0 k a0 l1 a2 true) else (if (l1.length : Int) > 30 then (batonlaw11_TabsRises.j0 k a0 l1 a2 true) else (if a2 < 0 then (batonlaw11_TabsRises.j0 k a0 l1 a2 true) else (batonlaw11_TabsRises.j0 k a0 l1 a2 (decide (a2 ≥ a0))))))) = some r := by rw [if_pos rfl] at H; exact H
    clear H
    have H := H1
    clear H1
    have HC6 := Aside0.mk H
    clear H
    go_enter Try.func3, Try.ntmps3
    go_upto_region 3 with (first | (first | (go_at_call 8; (with_reducible refine (batonlaw11_awake.calls k  true _ A4.out).mono ?_); rintro e w7 ⟨rfl, hb⟩; have n0_ := Aside0.mk (below_step (by repeat (first | (with_reducible first | exact HB.out | apply below_alloc | apply pw_below_drewN | apply below_drew1) | exact HB.out)) hb); clear HB; have HB := n0_; clear n0_; (try clear hb); (try clear hb2); (try clear hk); (try clear hi))) | go_quiet (first | (go_at_call 8; (with_reducible refine (batonlaw11_awake.calls k  true _ A4.out).mono ?_); rintro e w7 ⟨rfl, hb⟩; have n0_ := Aside0.mk (below_step (by repeat (first | (with_reducible first | exact HB.out | apply below_alloc | apply pw_below_drewN | apply below_drew1) | exact HB.out)) hb); clear HB; have HB := n0_; clear n0_; (try clear hb); (try clear hb2); (try clear hk); (try clear hi))))
    (try simp only [Act.put, List.setIfInBounds_toArray, List.set_cons_zero, List.set_cons_succ])
    go_cut [37] (fun v37 wc => ∃ (kq : Nat) (x37_5 : Bool), v37 = .bool x37_5 ∧ Aside0 (batonlaw11_TabsRises.j0 kq a0 l1 a2 x37_5 = some r) ∧ Aside0 (kq ≤ k) ∧ Aside0 (Below w.heap.size w wc))
    case first => as_aux_lemma =>
      have H := HC6.out
      clear HC6
      by_cases c8 : a0 < 1
      · rw [if_pos c8] at H
        have c8b0 : decide (a0 < 1) = true := decide_eq_true c8
        clear c8
        (first | rw [c8b0] | (simp only [i64_w, i32_w]; rw [c8b0]) | rw [c8b1] | rw [c8b2] | skip)
        have H' := Aside0.mk H
        clear H
        go_wp2
        repeat (go_quiet (fail); try go_wp2)
        go_meet
        case rel => exact ⟨_, (true), (by first | rfl | (simp; done) | (simp [*]; done)), H', ⟨by first | omega | exact Nat.le_refl _⟩, ⟨by repeat (first | (with_reducible first | exact HB.out | apply below_alloc | apply pw_below_drewN | apply below_drew1) | exact HB.out)⟩⟩
      · rw [if_neg c8] at H
        have c8b0 : decide (a0 < 1) = false := decide_eq_false c8
        clear c8
        (first | rw [c8b0] | (simp only [i64_w, i32_w]; rw [c8b0]) | rw [c8b1] | rw [c8b2] | skip)
        by_cases c9 : a0 > 132
        · rw [if_pos c9] at H
          have c9b0 : decide (132 < a0) = true := decide_eq_true c9
          clear c9
          have H' := Aside0.mk H
          clear H
          go_wp2
          repeat (go_quiet (fail); try go_wp2)
          go_meet
          case rel => exact ⟨_, (true), (by first | rfl | (simp; done) | (simp [*]; done)), H', ⟨by first | omega | exact Nat.le_refl _⟩, ⟨by repeat (first | (with_reducible first | exact HB.out | apply below_alloc | apply pw_below_drewN | apply below_drew1) | exact HB.out)⟩⟩
        · rw [if_neg c9] at H
          have c9b0 : decide (132 < a0) = false := decide_eq_false c9
          clear c9
          by_cases c10 : (l1.length : Int) > 30
          · rw [if_pos c10] at H
            have c10b0 : decide (30 < (l1.length : Int)) = true := decide_eq_true c10
            have c10b1 : decide (30 < l1.length) = true := decide_eq_true (by omega)
            clear c10
            have H' := Aside0.mk H
            clear H
            go_wp2
            repeat (go_quiet (fail); try go_wp2)
            go_meet
            case rel => exact ⟨_, (true), (by first | rfl | (simp; done) | (simp [*]; done)), H', ⟨by first | omega | exact Nat.le_refl _⟩, ⟨by repeat (first | (with_reducible first | exact HB.out | apply below_alloc | apply pw_below_drewN | apply below_drew1) | exact HB.out)⟩⟩
          · rw [if_neg c10] at H
            have c10b0 : decide (30 < (l1.length : Int)) = false := decide_eq_false c10
            have c10b1 : decide (30 < l1.length) = false := decide_eq_false (by omega)
            clear c10
            by_cases c11 : a2 < 0
            · rw [if_pos c11] at H
              have c11b0 : decide (a2 < 0) = true := decide_eq_true c11
              clear c11
              have H' := Aside0.mk H
              clear H
              go_wp2
              repeat (go_quiet (fail); try go_wp2)
              go_meet
              case rel => exact ⟨_, (true), (by first | rfl | (simp; done) | (simp [*]; done)), H', ⟨by first | omega | exact Nat.le_refl _⟩, ⟨by repeat (first | (with_reducible first | exact HB.out | apply below_alloc | apply pw_below_drewN | apply below_drew1) | exact HB.out)⟩⟩
            · rw [if_neg c11] at H
              have c11b0 : decide (a2 < 0) = false := decide_eq_false c11
              clear c11
              have H' := Aside0.mk H
              clear H
              go_wp2
              repeat (go_quiet (fail); try go_wp2)
              go_meet
              case rel => exact ⟨_, (decide (a2 ≥ a0)), (by first | rfl | (simp; done) | (simp [*]; done)), H', ⟨by first | omega | exact Nat.le_refl _⟩, ⟨by repeat (first | (with_reducible first | exact HB.out | apply below_alloc | apply pw_below_drewN | apply below_drew1) | exact HB.out)⟩⟩
    case rest => as_aux_lemma =>
      clear HC6
      try clear c1
      try clear p2
      try clear c3
      try clear c5
      try clear c8
      try clear c8b0
      try clear c8b1
      try clear c8b2
      try clear c9
      try clear c9b0
      try clear c10
      try clear c10b0
      try clear c10b1
      try clear c11
      try clear c11b0
      obtain ⟨kq, x37_5, rfl, HA, HJ5, HB⟩ := hcut
      cases kq with
      | zero => exact absurd HA.out (by simp [batonlaw11_TabsRises.j0])
      | succ kj5 =>
        have H := HA.out
        clear HA
        simp only [batonlaw11_TabsRises.j0] at H
        by_cases c12 : x37_5 = true
        · subst c12
          have H1 : (some true) = some r := by rw [if_pos rfl] at H; exact H
          clear H
          have H := H1
          clear H1
          obtain rfl := Option.some.inj H
          go_wp2
          repeat (go_quiet (fail); try go_wp2)
          go_ret
          exact ⟨by first | rfl | (simp [errW_none, errW_some] <;> rfl) | (simp [*, errW_none, errW_some] <;> rfl), by repeat (first | (with_reducible first | exact HB.out | apply below_alloc | apply pw_below_drewN | apply below_drew1) | exact HB.out)⟩
        · replace c12 := Bool.eq_false_iff.mpr c12
          subst c12
          have H1 : ((tabs_New.f kj5 a0).bind fun bt174 => (if bt174.1 = true then (if bt174.2.2.2 = 0 then (batonlaw11_TabsRises.j1 kj5 a0 l1 a2 false bt174.2.1 bt174.2.2.1) else (batonlaw11_TabsRises.j1 kj5 a0 l1 a2 true bt174.2.1 bt174.2.2.1)) else (if bt174.2.2.2 = 0 then (some false) else (some false)))) = some r := by rw [if_neg (show ¬ (false = true) by decide)] at H; exact H
          clear H
          have H := H1
          clear H1
          replace H := Option.bind_eq_some_iff.mp H
          obtain ⟨⟨t174, t175, t176, t180⟩, A130, H⟩ := H
          replace H : (if t174 = true then (if t180 = 0 then (batonlaw11_TabsRises.j1 kj5 a0 l1 a2 false t175 t176) else (batonlaw11_TabsRises.j1 kj5 a0 l1 a2 true t175 t176)) else (if t180 = 0 then (some false) else (some false))) = some r := H
          have A13 := Aside0.mk A130
          clear A130
          by_cases c14 : t174 = true
          · subst c14
            have H1 : (if t180 = 0 then (batonlaw11_TabsRises.j1 kj5 a0 l1 a2 false t175 t176) else (batonlaw11_TabsRises.j1 kj5 a0 l1 a2 true t175 t176)) = some r := by rw [if_pos rfl] at H; exact H
            clear H
            have H := H1
            clear H1
            have HC15 := Aside0.mk H
            clear H
            go_upto_region 6 with (first | (first | (go_at_call 9; (with_reducible refine (tabs_New.calls kj5 a0 true t175 t176 t180 _ A13.out).mono ?_); rintro e w16 ⟨v177, gb179, rfl, ho0, hbn, hgn, hb⟩; have n0_ := Aside0.mk (Kd.R_lower ho0 (below_size (by repeat (first | (with_reducible first | exact HB.out | apply below_alloc | apply pw_below_drewN | apply below_drew1) | exact HB.out)))); have n1_ := Aside0.mk (hbn rfl); have n2_ := Aside0.mk ((Nat.le_trans (below_size (by repeat (first | (with_reducible first | exact HB.out | apply below_alloc | apply pw_below_drewN | apply below_drew1) | exact HB.out))) hgn : w.heap.size ≤ gb179)); have n3_ := Aside0.mk ((Nat.le_trans (below_size (by repeat (first | (with_reducible first | exact HB.out | apply below_alloc | apply pw_below_drewN | apply below_drew1) | exact HB.out))) hgn : w.heap.size ≤ gb179)); have n4_ := Aside0.mk (below_step (by repeat (first | (with_reducible first | exact HB.out | apply below_alloc | apply pw_below_drewN | apply below_drew1) | exact HB.out)) hb); clear HB; have HO178 := n0_; have BK179 := n1_; have GW179 := n2_; have GE179 := n3_; have HB := n4_; clear n0_ n1_ n2_ n3_ n4_; (try simp only [ptrW_true, ptrW_false]); (try clear hbn); (try clear hgn); (try clear hb); (try clear hb2); (try clear hk); (try clear hi); (try clear ho0))) | go_quiet (first | (go_at_call 9; (with_reducible refine (tabs_New.calls kj5 a0 true t175 t176 t180 _ A13.out).mono ?_); rintro e w16 ⟨v177, gb179, rfl, ho0, hbn, hgn, hb⟩; have n0_ := Aside0.mk (Kd.R_lower ho0 (below_size (by repeat (first | (with_reducible first | exact HB.out | apply below_alloc | apply pw_below_drewN | apply below_drew1) | exact HB.out)))); have n1_ := Aside0.mk (hbn rfl); have n2_ := Aside0.mk ((Nat.le_trans (below_size (by repeat (first | (with_reducible first | exact HB.out | apply below_alloc | apply pw_below_drewN | apply below_drew1) | exact HB.out))) hgn : w.heap.size ≤ gb179)); have n3_ := Aside0.mk ((Nat.le_trans (below_size (by repeat (first | (with_reducible first | exact HB.out | apply below_alloc | apply pw_below_drewN | apply below_drew1) | exact HB.out))) hgn : w.heap.size ≤ gb179)); have n4_ := Aside0.mk (below_step (by repeat (first | (with_reducible first | exact HB.out | apply below_alloc | apply pw_below_drewN | apply below_drew1) | exact HB.out)) hb); clear HB; have HO178 := n0_; have BK179 := n1_; have GW179 := n2_; have GE179 := n3_; have HB := n4_; clear n0_ n1_ n2_ n3_ n4_; (try simp only [ptrW_true, ptrW_false]); (try clear hbn); (try clear hgn); (try clear hb); (try clear hb2); (try clear hk); (try clear hi); (try clear ho0))))
            (try simp only [Act.put, List.setIfInBounds_toArray, List.set_cons_zero, List.set_cons_succ])
            go_cut [48] (fun v48 wc => ∃ (kq : Nat) (x48_14 : Bool), v48 = .bool x48_14 ∧ Aside0 (batonlaw11_TabsRises.j1 kq a0 l1 a2 x48_14 t175 t176 = some r) ∧ Aside0 (kq ≤ kj5) ∧ Aside0 (Kd.R (Kd.int .i64) 3 wc w.heap.size (fun _ => True) v177 t176) ∧ Aside0 (wc.heap[gb179]? = some (.cells #[.int .i64 t175, v177] 66 (0, 0))) ∧ Aside0 (Below w.heap.size w wc))
            case first => as_aux_lemma =>
              have H := HC15.out
              clear HC15
              by_cases c17 : t180 = 0
              · rw [if_pos c17] at H
                have c17b0 : (t180 == 0) = true := beq_iff_eq.mpr c17
                have c17b1 : (t180 != 0) = false := bne_eq_false_iff_eq.mpr c17
                clear c17
                (first | rw [c17b0] | (simp only [i64_w, i32_w]; rw [c17b0]) | rw [c17b1] | rw [c17b2] | skip)
                have H' := Aside0.mk H
                clear H
                go_wp2
                repeat (go_quiet (fail); try go_wp2)
                go_meet
                case rel => exact ⟨_, (false), (by first | rfl | (simp; done) | (simp [*]; done)), H', ⟨by have := HJ5.out; first | omega | exact Nat.le_refl _⟩, ⟨by (with_reducible repeat (first | apply Kd.R_alloc | apply Kd.R_drewN | apply Kd.R_drew)); exact HO178.out⟩, ⟨by (with_reducible repeat (first | refine blk_drewN ?_ _ | refine blk_drew ?_ | refine blk_alloc ?_ _)); exact BK179.out⟩, ⟨by repeat (first | (with_reducible first | exact HB.out | apply below_alloc | apply pw_below_drewN | apply below_drew1 | refine below_set ?_ GE179.out) | exact HB.out)⟩⟩
              · rw [if_neg c17] at H
                have c17b0 : (t180 == 0) = false := beq_eq_false_iff_ne.mpr c17
                have c17b1 : (t180 != 0) = true := bne_iff_ne.mpr c17
                (first | rw [c17b0] | (simp only [i64_w, i32_w]; rw [c17b0]) | rw [c17b1] | rw [c17b2] | skip)
                have H' := Aside0.mk H
                clear H
                go_wp2
                repeat (go_quiet (fail); try go_wp2)
                go_meet
                case rel => exact ⟨_, (true), (by first | rfl | (simp; done) | (simp [*]; done)), H', ⟨by have := HJ5.out; first | omega | exact Nat.le_refl _⟩, ⟨by (with_reducible repeat (first | apply Kd.R_alloc | apply Kd.R_drewN | apply Kd.R_drew)); exact HO178.out⟩, ⟨by (with_reducible repeat (first | refine blk_drewN ?_ _ | refine blk_drew ?_ | refine blk_alloc ?_ _)); exact BK179.out⟩, ⟨by repeat (first | (with_reducible first | exact HB.out | apply below_alloc | apply pw_below_drewN | apply below_drew1 | refine below_set ?_ GE179.out) | exact HB.out)⟩⟩
            case rest => as_aux_lemma =>
              clear HC15
              try clear c1
              try clear p2
              try clear c3
              try clear c5
              try clear c8
              try clear c8b0
              try clear c8b1
              try clear c8b2
              try clear c9
              try clear c9b0
              try clear c10
              try clear c10b0
              try clear c10b1
              try clear c11
              try clear c11b0
              try clear c12
              try clear c14
              try clear c17
              try clear c17b0
              try clear c17b1
              try clear c17b2
              try clear p2
              obtain ⟨kq, x48_14, rfl, HA, HJ14, HO_180001, BK179, HB⟩ := hcut
              cases kq with
              | zero => exact absurd HA.out (by simp [batonlaw11_TabsRises.j1])
              | succ kj14 =>
                have H := HA.out
                clear HA
                simp only [batonlaw11_TabsRises.j1] at H
                by_cases c18 : x48_14 = true
                · subst c18
                  have H1 : (some false) = some r := by rw [if_pos rfl] at H; exact H
                  clear H
                  have H := H1
                  clear H1
                  obtain rfl := Option.some.inj H
                  go_wp2
                  repeat (go_quiet (fail); try go_wp2)
                  go_ret
                  exact ⟨by first | rfl | (simp [errW_none, errW_some] <;> rfl) | (simp [*, errW_none, errW_some] <;> rfl), by repeat (first | (with_reducible first | exact HB.out | apply below_alloc | apply pw_below_drewN | apply below_drew1 | refine below_set ?_ GE179.out) | exact HB.out)⟩
                · replace c18 := Bool.eq_false_iff.mpr c18
                  subst c18
                  have H1 : (batonlaw11_TabsRises.l0 kj14 a0 l1 a2 0 t175 t176) = some r := by rw [if_neg (show ¬ (false = true) by decide)] at H; exact H
                  clear H
                  have H := H1
                  clear H1
                  have H' := Aside0.mk H
                  clear H
                  go_wp2
                  repeat (go_quiet (fail); try go_wp2)
                  go_loopg [9] kj14 (fun kq v9 w' => ∃ (x9_3 : Int) (x180000_3 : Int) (x180001_3 : List Int) (u180001 : Value), v9 = .int .i64 x9_3 ∧ Aside0 (batonlaw11_TabsRises.l0 kq a0 l1 a2 x9_3 x180000_3 x180001_3 = some r) ∧ Aside0 (kq ≤ kj14) ∧ Aside0 (Kd.R (Kd.int .i64) 3 w' w.heap.size (fun _ => True) u180001 x180001_3) ∧ Aside0 (w'.heap[gb179]? = some (.cells #[.int .i64 x180000_3, u180001] 66 (0, 0))) ∧ Aside0 (Below w.heap.size w w'))
                  case atStart => exact ⟨(0), (t175), (t176), (v177), (by first | rfl | (simp; done) | (simp [*]; done)), H', ⟨Nat.le_refl _⟩, ⟨by (with_reducible repeat (first | apply Kd.R_alloc | apply Kd.R_drewN | apply Kd.R_drew)); exact HO_180001.out⟩, ⟨by (with_reducible repeat (first | refine blk_drewN ?_ _ | refine blk_drew ?_ | refine blk_alloc ?_ _)); exact BK179.out⟩, ⟨by repeat (first | (with_reducible first | exact HB.out | apply below_alloc | apply pw_below_drewN | apply below_drew1 | refine below_set ?_ GE179.out) | exact HB.out)⟩⟩
                  case round => as_aux_lemma =>
                    clear H'
                    try clear c1
                    try clear p2
                    try clear c3
                    try clear c5
                    try clear c8
                    try clear c8b0
                    try clear c8b1
                    try clear c8b2
                    try clear c9
                    try clear c9b0
                    try clear c10
                    try clear c10b0
                    try clear c10b1
                    try clear c11
                    try clear c11b0
                    try clear c12
                    try clear c14
                    try clear c17
                    try clear c17b0
                    try clear c17b1
                    try clear c17b2
                    try clear c18
                    try clear p2
                    obtain ⟨x9_3, x180000_3, x180001_3, u180001, rfl, HA, HK3, HO_180001, BK179, HB⟩ := hrel
                    cases gk with
                    | zero => exact absurd HA.out (by simp [batonlaw11_TabsRises.l0])
                    | succ k3 =>
                      have H := HA.out
                      clear HA
                      simp only [batonlaw11_TabsRises.l0] at H
                      by_cases c19 : x9_3 < (l1.length : Int)
                      · rw [if_pos c19] at H
                        have c19b0 : decide (x9_3 < (l1.length : Int)) = true := decide_eq_true c19
                        clear c19
                        by_cases c20 : 0 ≤ x9_3
                        · rw [if_pos c20] at H
                          have c20b0 : decide (0 ≤ x9_3) = true := decide_eq_true c20
                          clear c20
                          replace H := Option.bind_eq_some_iff.mp H
                          obtain ⟨⟨t182, t183⟩, A210, H⟩ := H
                          replace H : (batonlaw11_TabsRises.l0 k3 a0 l1 a2 (wrap64 (x9_3 + 1)) t182 t183) = some r := H
                          have A21 := Aside0.mk A210
                          clear A210
                          have H' := Aside0.mk H
                          clear H
                          have p181 : 0 ≤ (x9_3 : Int) := of_decide_eq_true (by first | (with_reducible assumption) | assumption)
                          have q181 : x9_3 < (l1.length : Int) := of_decide_eq_true (by first | (with_reducible assumption) | assumption)
                          obtain ⟨ad181, e181, hx181_0⟩ := Kd.at_int HR1.out x9_3 p181 q181
                          cases e181
                          replace hx181_0 := (HB.out.cell (World.block_lt_of_cell? w _ hx181_0)).trans hx181_0
                          replace p181 := eq_true p181
                          replace q181 := eq_true q181
                          obtain ⟨Ao22, co22, eo22⟩ := Kd.R_slice HO_180001.out
                          subst eo22
                          go_wp2_with (first | (first | (go_at_call 10; (with_reducible refine (tabs_Stops_Set.calls k3 gb179 x180000_3 (fun k_ => some k_ = (.slice Ao22 x180001_3.length co22 : Value).ownBlock) (.slice Ao22 x180001_3.length co22) x180001_3 (rd l1 x9_3) t182 t183 w _ ?side2 ?side3 ?side1 ?side4 A21.out).mono ?_); (case side1 => repeat (first | (with_reducible first | exact HB.out | apply below_alloc | apply pw_below_drewN | apply below_drew1 | refine below_set ?_ GE179.out) | exact HB.out)); (case side2 => (with_reducible repeat (first | refine blk_drewN ?_ _ | refine blk_drew ?_ | refine blk_alloc ?_ _)); exact BK179.out); (case side3 => exact GE179.out); (case side4 => exact Kd.R_tight rfl HO_180001.out); rintro e w23 ⟨v184, rfl, ho0, hbx, hb, hkp⟩; have n0_ := Aside0.mk (hbx); have n1_ := Aside0.mk (Kd.R_mono (ok' := fun k_ => True) ho0 (fun k_ hk_ => trivial)); have n2_ := Aside0.mk (hb); clear BK179; clear HB; clear HO_180001; have BK179 := n0_; have HO185 := n1_; have HB := n2_; clear n0_ n1_ n2_; (try clear hbx); (try clear hbn); (try clear hgn); (try clear hb); (try clear hkp); (try clear ho0))) | go_quiet (first | (go_at_call 10; (with_reducible refine (tabs_Stops_Set.calls k3 gb179 x180000_3 (fun k_ => some k_ = (.slice Ao22 x180001_3.length co22 : Value).ownBlock) (.slice Ao22 x180001_3.length co22) x180001_3 (rd l1 x9_3) t182 t183 w _ ?side2 ?side3 ?side1 ?side4 A21.out).mono ?_); (case side1 => repeat (first | (with_reducible first | exact HB.out | apply below_alloc | apply pw_below_drewN | apply below_drew1 | refine below_set ?_ GE179.out) | exact HB.out)); (case side2 => (with_reducible repeat (first | refine blk_drewN ?_ _ | refine blk_drew ?_ | refine blk_alloc ?_ _)); exact BK179.out); (case side3 => exact GE179.out); (case side4 => exact Kd.R_tight rfl HO_180001.out); rintro e w23 ⟨v184, rfl, ho0, hbx, hb, hkp⟩; have n0_ := Aside0.mk (hbx); have n1_ := Aside0.mk (Kd.R_mono (ok' := fun k_ => True) ho0 (fun k_ hk_ => trivial)); have n2_ := Aside0.mk (hb); clear BK179; clear HB; clear HO_180001; have BK179 := n0_; have HO185 := n1_; have HB := n2_; clear n0_ n1_ n2_; (try clear hbx); (try clear hbn); (try clear hgn); (try clear hb); (try clear hkp); (try clear ho0))))
                          go_roundg k3
                          case measure => have := HJ5.out; have := HJ14.out; have := HK3.out; omega
                          case rel => exact ⟨(wrap64 (x9_3 + 1)), (t182), (t183), (v184), (by first | rfl | (simp; done) | (simp [*]; done)), H', ⟨by have := HJ5.out; have := HJ14.out; have := HK3.out; omega⟩, ⟨by (with_reducible repeat (first | apply Kd.R_alloc | apply Kd.R_drewN | apply Kd.R_drew)); exact HO185.out⟩, ⟨by (with_reducible repeat (first | refine blk_drewN ?_ _ | refine blk_drew ?_ | refine blk_alloc ?_ _)); exact BK179.out⟩, ⟨by repeat (first | (with_reducible first | exact HB.out | apply below_alloc | apply pw_below_drewN | apply below_drew1 | refine below_set ?_ GE179.out) | exact HB.out)⟩⟩
                        · rw [if_neg c20] at H
                          exact absurd H (by simp)
                      · rw [if_neg c19] at H
                        have c19b0 : decide (x9_3 < (l1.length : Int)) = false := decide_eq_false c19
                        clear c19
                        have HC24 := Aside0.mk H
                        clear H
                        go_upto_region 12 with (first | (fail) | go_quiet (fail))
                        go_cut [10, 11, 12] (fun v10 v11 v12 wc => ∃ (kq : Nat) (x10_23 : Int) (x11_23 : Int) (x12_23 : List Int), v10 = .int .i64 x10_23 ∧ v11 = .int .i64 x11_23 ∧ Aside0 (batonlaw11_TabsRises.j3 kq a0 a2 x10_23 x11_23 x12_23 = some r) ∧ Aside0 (kq ≤ k3) ∧ Aside0 (Kd.R (Kd.int .i64) 3 wc w.heap.size (fun _ => True) v12 x12_23) ∧ Aside0 (Below w.heap.size w wc))
                        case first => as_aux_lemma =>
                          have H := HC24.out
                          clear HC24
                          replace H := Option.bind_eq_some_iff.mp H
                          obtain ⟨⟨t186, t187, t188⟩, A250, H⟩ := H
                          replace H : ((tabs_Stops_Back.f k3 t187 t188 a2 1).bind fun bt191 => ((tabs_Stops_List.f bt191.2.1 bt191.2.2).bind fun bt196 => (batonlaw11_TabsRises.j3 k3 a0 a2 t186 bt191.1 bt196.1))) = some r := H
                          have A25 := Aside0.mk A250
                          clear A250
                          replace H := Option.bind_eq_some_iff.mp H
                          obtain ⟨⟨t191, t192, t193⟩, A260, H⟩ := H
                          replace H : ((tabs_Stops_List.f t192 t193).bind fun bt196 => (batonlaw11_TabsRises.j3 k3 a0 a2 t186 t191 bt196.1)) = some r := H
                          have A26 := Aside0.mk A260
                          clear A260
                          replace H := Option.bind_eq_some_iff.mp H
                          obtain ⟨⟨t196, t199, t200⟩, A270, H⟩ := H
                          replace H : (batonlaw11_TabsRises.j3 k3 a0 a2 t186 t191 t196) = some r := H
                          have A27 := Aside0.mk A270
                          clear A270
                          have H' := Aside0.mk H
                          clear H
                          obtain ⟨Ao28, co28, eo28⟩ := Kd.R_slice HO_180001.out
                          subst eo28
                          go_wp2_with (first | (first | (go_at_call 11; (with_reducible refine (tabs_Stops_Next.calls k3 gb179 x180000_3 (fun k_ => some k_ = (.slice Ao28 x180001_3.length co28 : Value).ownBlock) (.slice Ao28 x180001_3.length co28) x180001_3 a2 1 t186 t187 t188 w _ ?side2 ?side3 ?side1 ?side4 A25.out).mono ?_); (case side1 => repeat (first | (with_reducible first | exact HB.out | apply below_alloc | apply pw_below_drewN | apply below_drew1 | refine below_set ?_ GE179.out) | exact HB.out)); (case side2 => (with_reducible repeat (first | refine blk_drewN ?_ _ | refine blk_drew ?_ | refine blk_alloc ?_ _)); exact BK179.out); (case side3 => exact GE179.out); (case side4 => exact Kd.R_tight rfl HO_180001.out); rintro e w29 ⟨v189, rfl, ho0, hbx, hb, hkp⟩; have n0_ := Aside0.mk (hbx); have n1_ := Aside0.mk (Kd.R_mono (ok' := fun k_ => True) ho0 (fun k_ hk_ => trivial)); have n2_ := Aside0.mk (hb); clear BK179; clear HB; clear HO_180001; have BK179 := n0_; have HO190 := n1_; have HB := n2_; clear n0_ n1_ n2_; (try clear hbx); (try clear hbn); (try clear hgn); (try clear hb); (try clear hkp); (try clear ho0); obtain ⟨Ao30, co30, eo30⟩ := Kd.R_slice HO190.out; subst eo30) | (go_at_call 12; (with_reducible refine (tabs_Stops_Back.calls k3 gb179 t187 (fun k_ => some k_ = (.slice Ao30 t188.length co30 : Value).ownBlock) (.slice Ao30 t188.length co30) t188 a2 1 t191 t192 t193 w _ ?side2 ?side3 ?side1 ?side4 A26.out).mono ?_); (case side1 => repeat (first | (with_reducible first | exact HB.out | apply below_alloc | apply pw_below_drewN | apply below_drew1 | refine below_set ?_ GE179.out) | exact HB.out)); (case side2 => (with_reducible repeat (first | refine blk_drewN ?_ _ | refine blk_drew ?_ | refine blk_alloc ?_ _)); exact BK179.out); (case side3 => exact GE179.out); (case side4 => exact Kd.R_tight rfl HO190.out); rintro e w31 ⟨v194, rfl, ho0, hbx, hb, hkp⟩; have n0_ := Aside0.mk (hbx); have n1_ := Aside0.mk (Kd.R_mono (ok' := fun k_ => True) ho0 (fun k_ hk_ => trivial)); have n2_ := Aside0.mk (hb); clear BK179; clear HB; clear HO190; have BK179 := n0_; have HO195 := n1_; have HB := n2_; clear n0_ n1_ n2_; (try clear hbx); (try clear hbn); (try clear hgn); (try clear hb); (try clear hkp); (try clear ho0); obtain ⟨Ao32, co32, eo32⟩ := Kd.R_slice HO195.out; subst eo32) | (go_at_call 13; (with_reducible refine (tabs_Stops_List.calls gb179 t192 (fun k_ => some k_ = (.slice Ao32 t193.length co32 : Value).ownBlock) (.slice Ao32 t193.length co32) t193 t196 t199 t200 w _ ?side2 ?side3 ?side1 ?side4 A27.out).mono ?_); (case side1 => repeat (first | (with_reducible first | exact HB.out | apply below_alloc | apply pw_below_drewN | apply below_drew1 | refine below_set ?_ GE179.out) | exact HB.out)); (case side2 => (with_reducible repeat (first | refine blk_drewN ?_ _ | refine blk_drew ?_ | refine blk_alloc ?_ _)); exact BK179.out); (case side3 => exact GE179.out); (case side4 => exact Kd.R_tight rfl HO195.out); rintro e w33 ⟨v197, v201, rfl, ho0, ho1, hbx, hb, hkp⟩; have n0_ := Aside0.mk (hbx); have n1_ := Aside0.mk (Kd.R_mono (ok' := fun k_ => some k_ ≠ (v201 : Value).ownBlock) ho0 (fun k_ hk_ => hk_.2)); have n2_ := Aside0.mk (Kd.R_mono (ok' := fun k_ => some k_ ≠ (v197 : Value).ownBlock) ho1 (fun k_ hk_ => hk_.2)); have n3_ := Aside0.mk (hb); clear BK179; clear HB; clear HO195; have BK179 := n0_; have HO198 := n1_; have HO202 := n2_; have HB := n3_; clear n0_ n1_ n2_ n3_; (try clear hbx); (try clear hbn); (try clear hgn); (try clear hb); (try clear hkp); (try clear ho0); (try clear ho1))) | go_quiet (first | (go_at_call 11; (with_reducible refine (tabs_Stops_Next.calls k3 gb179 x180000_3 (fun k_ => some k_ = (.slice Ao28 x180001_3.length co28 : Value).ownBlock) (.slice Ao28 x180001_3.length co28) x180001_3 a2 1 t186 t187 t188 w _ ?side2 ?side3 ?side1 ?side4 A25.out).mono ?_); (case side1 => repeat (first | (with_reducible first | exact HB.out | apply below_alloc | apply pw_below_drewN | apply below_drew1 | refine below_set ?_ GE179.out) | exact HB.out)); (case side2 => (with_reducible repeat (first | refine blk_drewN ?_ _ | refine blk_drew ?_ | refine blk_alloc ?_ _)); exact BK179.out); (case side3 => exact GE179.out); (case side4 => exact Kd.R_tight rfl HO_180001.out); rintro e w29 ⟨v189, rfl, ho0, hbx, hb, hkp⟩; have n0_ := Aside0.mk (hbx); have n1_ := Aside0.mk (Kd.R_mono (ok' := fun k_ => True) ho0 (fun k_ hk_ => trivial)); have n2_ := Aside0.mk (hb); clear BK179; clear HB; clear HO_180001; have BK179 := n0_; have HO190 := n1_; have HB := n2_; clear n0_ n1_ n2_; (try clear hbx); (try clear hbn); (try clear hgn); (try clear hb); (try clear hkp); (try clear ho0); obtain ⟨Ao30, co30, eo30⟩ := Kd.R_slice HO190.out; subst eo30) | (go_at_call 12; (with_reducible refine (tabs_Stops_Back.calls k3 gb179 t187 (fun k_ => some k_ = (.slice Ao30 t188.length co30 : Value).ownBlock) (.slice Ao30 t188.length co30) t188 a2 1 t191 t192 t193 w _ ?side2 ?side3 ?side1 ?side4 A26.out).mono ?_); (case side1 => repeat (first | (with_reducible first | exact HB.out | apply below_alloc | apply pw_below_drewN | apply below_drew1 | refine below_set ?_ GE179.out) | exact HB.out)); (case side2 => (with_reducible repeat (first | refine blk_drewN ?_ _ | refine blk_drew ?_ | refine blk_alloc ?_ _)); exact BK179.out); (case side3 => exact GE179.out); (case side4 => exact Kd.R_tight rfl HO190.out); rintro e w31 ⟨v194, rfl, ho0, hbx, hb, hkp⟩; have n0_ := Aside0.mk (hbx); have n1_ := Aside0.mk (Kd.R_mono (ok' := fun k_ => True) ho0 (fun k_ hk_ => trivial)); have n2_ := Aside0.mk (hb); clear BK179; clear HB; clear HO190; have BK179 := n0_; have HO195 := n1_; have HB := n2_; clear n0_ n1_ n2_; (try clear hbx); (try clear hbn); (try clear hgn); (try clear hb); (try clear hkp); (try clear ho0); obtain ⟨Ao32, co32, eo32⟩ := Kd.R_slice HO195.out; subst eo32) | (go_at_call 13; (with_reducible refine (tabs_Stops_List.calls gb179 t192 (fun k_ => some k_ = (.slice Ao32 t193.length co32 : Value).ownBlock) (.slice Ao32 t193.length co32) t193 t196 t199 t200 w _ ?side2 ?side3 ?side1 ?side4 A27.out).mono ?_); (case side1 => repeat (first | (with_reducible first | exact HB.out | apply below_alloc | apply pw_below_drewN | apply below_drew1 | refine below_set ?_ GE179.out) | exact HB.out)); (case side2 => (with_reducible repeat (first | refine blk_drewN ?_ _ | refine blk_drew ?_ | refine blk_alloc ?_ _)); exact BK179.out); (case side3 => exact GE179.out); (case side4 => exact Kd.R_tight rfl HO195.out); rintro e w33 ⟨v197, v201, rfl, ho0, ho1, hbx, hb, hkp⟩; have n0_ := Aside0.mk (hbx); have n1_ := Aside0.mk (Kd.R_mono (ok' := fun k_ => some k_ ≠ (v201 : Value).ownBlock) ho0 (fun k_ hk_ => hk_.2)); have n2_ := Aside0.mk (Kd.R_mono (ok' := fun k_ => some k_ ≠ (v197 : Value).ownBlock) ho1 (fun k_ hk_ => hk_.2)); have n3_ := Aside0.mk (hb); clear BK179; clear HB; clear HO195; have BK179 := n0_; have HO198 := n1_; have HO202 := n2_; have HB := n3_; clear n0_ n1_ n2_ n3_; (try clear hbx); (try clear hbn); (try clear hgn); (try clear hb); (try clear hkp); (try clear ho0); (try clear ho1))))
                          go_meet
                          case rel => exact ⟨_, (t186), (t191), (t196), (by first | rfl | (simp; done) | (simp [*]; done)), (by first | rfl | (simp; done) | (simp [*]; done)), H', ⟨by have := HJ5.out; have := HJ14.out; have := HK3.out; first | omega | exact Nat.le_refl _⟩, ⟨by (with_reducible repeat (first | apply Kd.R_alloc | apply Kd.R_drewN | apply Kd.R_drew)); exact Kd.R_mono HO198.out (fun _ hk => trivial)⟩, ⟨by repeat (first | (with_reducible first | exact HB.out | apply below_alloc | apply pw_below_drewN | apply below_drew1 | refine below_set ?_ GE179.out) | exact HB.out)⟩⟩
                        case rest => as_aux_lemma =>
                          clear HC24
                          try clear c1
                          try clear p1
                          try clear q1
                          try clear hx1
                          try clear c2
                          try clear p2
                          try clear c3
                          try clear c5
                          try clear p6
                          try clear c8
                          try clear c8b0
                          try clear c8b1
                          try clear c8b2
                          try clear c9
                          try clear c9b0
                          try clear c10
                          try clear c10b0
                          try clear c10b1
                          try clear c11
                          try clear c11b0
                          try clear c12
                          try clear c14
                          try clear c17
                          try clear c17b0
                          try clear c17b1
                          try clear c17b2
                          try clear c18
                          try clear p18
                          try clear q18
                          try clear hx18
                          try clear c19
                          try clear c19b0
                          try clear c20
                          try clear c20b0
                          try clear hx181_0
                          try clear p181
                          try clear p2
                          try clear q181
                          obtain ⟨kq, x10_23, x11_23, x12_23, rfl, rfl, HA, HJ23, HO_12, HB⟩ := hcut
                          cases kq with
                          | zero => exact absurd HA.out (by simp [batonlaw11_TabsRises.j3])
                          | succ kj23 =>
                            have H := HA.out
                            clear HA
                            simp only [batonlaw11_TabsRises.j3] at H
                            have HC34 := Aside0.mk H
                            clear H
                            go_upto_region 13 with (first | (fail) | go_quiet (fail))
                            go_cut [105] (fun v105 wc => ∃ (kq : Nat) (x105_33 : Bool), v105 = .bool x105_33 ∧ Aside0 (batonlaw11_TabsRises.j4 kq a0 a2 x10_23 x11_23 x12_23 x105_33 = some r) ∧ Aside0 (kq ≤ kj23) ∧ Aside0 (Kd.R (Kd.int .i64) 3 wc w.heap.size (fun _ => True) u12 x12_23) ∧ Aside0 (Below w.heap.size w wc))
                            case first => as_aux_lemma =>
                              have H := HC34.out
                              clear HC34
                              by_cases c35 : x10_23 < a2
                              · rw [if_pos c35] at H
                                have c35b0 : decide (x10_23 < a2) = true := decide_eq_true c35
                                clear c35
                                (first | rw [c35b0] | (simp only [i64_w, i32_w]; rw [c35b0]) | rw [c35b1] | rw [c35b2] | skip)
                                have H' := Aside0.mk H
                                clear H
                                go_wp2
                                repeat (go_quiet (fail); try go_wp2)
                                go_meet
                                case rel => exact ⟨_, (true), (by first | rfl | (simp; done) | (simp [*]; done)), H', ⟨by have := HJ5.out; have := HJ14.out; have := HK3.out; have := HJ23.out; first | omega | exact Nat.le_refl _⟩, ⟨by (with_reducible repeat (first | apply Kd.R_alloc | apply Kd.R_drewN | apply Kd.R_drew)); exact HO_12.out⟩, ⟨by repeat (first | (with_reducible first | exact HB.out | apply below_alloc | apply pw_below_drewN | apply below_drew1) | exact HB.out)⟩⟩
                              · rw [if_neg c35] at H
                                have c35b0 : decide (x10_23 < a2) = false := decide_eq_false c35
                                clear c35
                                (first | rw [c35b0] | (simp only [i64_w, i32_w]; rw [c35b0]) | rw [c35b1] | rw [c35b2] | skip)
                                by_cases c36 : x10_23 ≥ a0
                                · rw [if_pos c36] at H
                                  have c36b0 : decide (a0 ≤ x10_23) = true := decide_eq_true c36
                                  clear c36
                                  have H' := Aside0.mk H
                                  clear H
                                  go_wp2
                                  repeat (go_quiet (fail); try go_wp2)
                                  go_meet
                                  case rel => exact ⟨_, (true), (by first | rfl | (simp; done) | (simp [*]; done)), H', ⟨by have := HJ5.out; have := HJ14.out; have := HK3.out; have := HJ23.out; first | omega | exact Nat.le_refl _⟩, ⟨by (with_reducible repeat (first | apply Kd.R_alloc | apply Kd.R_drewN | apply Kd.R_drew)); exact HO_12.out⟩, ⟨by repeat (first | (with_reducible first | exact HB.out | apply below_alloc | apply pw_below_drewN | apply below_drew1) | exact HB.out)⟩⟩
                                · rw [if_neg c36] at H
                                  have c36b0 : decide (a0 ≤ x10_23) = false := decide_eq_false c36
                                  clear c36
                                  by_cases c37 : x10_23 = a2
                                  · rw [if_pos c37] at H
                                    have c37b0 : (x10_23 == a2) = true := beq_iff_eq.mpr c37
                                    have c37b1 : (x10_23 != a2) = false := bne_eq_false_iff_eq.mpr c37
                                    clear c37
                                    by_cases c38 : a2 = (wrap64 (a0 - 1))
                                    · rw [if_pos c38] at H
                                      have c38b0 : (a2 == (wrap64 (a0 - 1))) = true := beq_iff_eq.mpr c38
                                      have c38b1 : (a2 != (wrap64 (a0 - 1))) = false := bne_eq_false_iff_eq.mpr c38
                                      clear c38
                                      by_cases c39 : x11_23 > a2
                                      · rw [if_pos c39] at H
                                        have c39b0 : decide (a2 < x11_23) = true := decide_eq_true c39
                                        clear c39
                                        have H' := Aside0.mk H
                                        clear H
                                        go_wp2
                                        repeat (go_quiet (fail); try go_wp2)
                                        go_meet
                                        case rel => exact ⟨_, (true), (by first | rfl | (simp; done) | (simp [*]; done)), H', ⟨by have := HJ5.out; have := HJ14.out; have := HK3.out; have := HJ23.out; first | omega | exact Nat.le_refl _⟩, ⟨by (with_reducible repeat (first | apply Kd.R_alloc | apply Kd.R_drewN | apply Kd.R_drew)); exact HO_12.out⟩, ⟨by repeat (first | (with_reducible first | exact HB.out | apply below_alloc | apply pw_below_drewN | apply below_drew1) | exact HB.out)⟩⟩
                                      · rw [if_neg c39] at H
                                        have c39b0 : decide (a2 < x11_23) = false := decide_eq_false c39
                                        clear c39
                                        by_cases c40 : x11_23 < 0
                                        · rw [if_pos c40] at H
                                          have c40b0 : decide (x11_23 < 0) = true := decide_eq_true c40
                                          clear c40
                                          have H' := Aside0.mk H
                                          clear H
                                          go_wp2
                                          repeat (go_quiet (fail); try go_wp2)
                                          go_meet
                                          case rel => exact ⟨_, (true), (by first | rfl | (simp; done) | (simp [*]; done)), H', ⟨by have := HJ5.out; have := HJ14.out; have := HK3.out; have := HJ23.out; first | omega | exact Nat.le_refl _⟩, ⟨by (with_reducible repeat (first | apply Kd.R_alloc | apply Kd.R_drewN | apply Kd.R_drew)); exact HO_12.out⟩, ⟨by repeat (first | (with_reducible first | exact HB.out | apply below_alloc | apply pw_below_drewN | apply below_drew1) | exact HB.out)⟩⟩
                                        · rw [if_neg c40] at H
                                          have c40b0 : decide (x11_23 < 0) = false := decide_eq_false c40
                                          clear c40
                                          by_cases c41 : x11_23 = a2
                                          · rw [if_pos c41] at H
                                            have c41b0 : (x11_23 == a2) = true := beq_iff_eq.mpr c41
                                            have c41b1 : (x11_23 != a2) = false := bne_eq_false_iff_eq.mpr c41
                                            clear c41
                                            have H' := Aside0.mk H
                                            clear H
                                            go_wp2
                                            repeat (go_quiet (fail); try go_wp2)
                                            go_meet
                                            case rel => exact ⟨_, ((a2 != 0)), (by first | rfl | (simp; done) | (simp [*]; done)), H', ⟨by have := HJ5.out; have := HJ14.out; have := HK3.out; have := HJ23.out; first | omega | exact Nat.le_refl _⟩, ⟨by (with_reducible repeat (first | apply Kd.R_alloc | apply Kd.R_drewN | apply Kd.R_drew)); exact HO_12.out⟩, ⟨by repeat (first | (with_reducible first | exact HB.out | apply below_alloc | apply pw_below_drewN | apply below_drew1) | exact HB.out)⟩⟩
                                          · rw [if_neg c41] at H
                                            have c41b0 : (x11_23 == a2) = false := beq_eq_false_iff_ne.mpr c41
                                            have c41b1 : (x11_23 != a2) = true := bne_iff_ne.mpr c41
                                            have H' := Aside0.mk H
                                            clear H
                                            go_wp2
                                            repeat (go_quiet (fail); try go_wp2)
                                            go_meet
                                            case rel => exact ⟨_, (false), (by first | rfl | (simp; done) | (simp [*]; done)), H', ⟨by have := HJ5.out; have := HJ14.out; have := HK3.out; have := HJ23.out; first | omega | exact Nat.le_refl _⟩, ⟨by (with_reducible repeat (first | apply Kd.R_alloc | apply Kd.R_drewN | apply Kd.R_drew)); exact HO_12.out⟩, ⟨by repeat (first | (with_reducible first | exact HB.out | apply below_alloc | apply pw_below_drewN | apply below_drew1) | exact HB.out)⟩⟩
                                    · rw [if_neg c38] at H
                                      have c38b0 : (a2 == (wrap64 (a0 - 1))) = false := beq_eq_false_iff_ne.mpr c38
                                      have c38b1 : (a2 != (wrap64 (a0 - 1))) = true := bne_iff_ne.mpr c38
                                      have H' := Aside0.mk H
                                      clear H
                                      go_wp2
                                      repeat (go_quiet (fail); try go_wp2)
                                      go_meet
                                      case rel => exact ⟨_, (true), (by first | rfl | (simp; done) | (simp [*]; done)), H', ⟨by have := HJ5.out; have := HJ14.out; have := HK3.out; have := HJ23.out; first | omega | exact Nat.le_refl _⟩, ⟨by (with_reducible repeat (first | apply Kd.R_alloc | apply Kd.R_drewN | apply Kd.R_drew)); exact HO_12.out⟩, ⟨by repeat (first | (with_reducible first | exact HB.out | apply below_alloc | apply pw_below_drewN | apply below_drew1) | exact HB.out)⟩⟩
                                  · rw [if_neg c37] at H
                                    have c37b0 : (x10_23 == a2) = false := beq_eq_false_iff_ne.mpr c37
                                    have c37b1 : (x10_23 != a2) = true := bne_iff_ne.mpr c37
                                    by_cases c42 : x11_23 > a2
                                    · rw [if_pos c42] at H
                                      have c42b0 : decide (a2 < x11_23) = true := decide_eq_true c42
                                      clear c42
                                      have H' := Aside0.mk H
                                      clear H
                                      go_wp2
                                      repeat (go_quiet (fail); try go_wp2)
                                      go_meet
                                      case rel => exact ⟨_, (true), (by first | rfl | (simp; done) | (simp [*]; done)), H', ⟨by have := HJ5.out; have := HJ14.out; have := HK3.out; have := HJ23.out; first | omega | exact Nat.le_refl _⟩, ⟨by (with_reducible repeat (first | apply Kd.R_alloc | apply Kd.R_drewN | apply Kd.R_drew)); exact HO_12.out⟩, ⟨by repeat (first | (with_reducible first | exact HB.out | apply below_alloc | apply pw_below_drewN | apply below_drew1) | exact HB.out)⟩⟩
                                    · rw [if_neg c42] at H
                                      have c42b0 : decide (a2 < x11_23) = false := decide_eq_false c42
                                      clear c42
                                      by_cases c43 : x11_23 < 0
                                      · rw [if_pos c43] at H
                                        have c43b0 : decide (x11_23 < 0) = true := decide_eq_true c43
                                        clear c43
                                        have H' := Aside0.mk H
                                        clear H
                                        go_wp2
                                        repeat (go_quiet (fail); try go_wp2)
                                        go_meet
                                        case rel => exact ⟨_, (true), (by first | rfl | (simp; done) | (simp [*]; done)), H', ⟨by have := HJ5.out; have := HJ14.out; have := HK3.out; have := HJ23.out; first | omega | exact Nat.le_refl _⟩, ⟨by (with_reducible repeat (first | apply Kd.R_alloc | apply Kd.R_drewN | apply Kd.R_drew)); exact HO_12.out⟩, ⟨by repeat (first | (with_reducible first | exact HB.out | apply below_alloc | apply pw_below_drewN | apply below_drew1) | exact HB.out)⟩⟩
                                      · rw [if_neg c43] at H
                                        have c43b0 : decide (x11_23 < 0) = false := decide_eq_false c43
                                        clear c43
                                        by_cases c44 : x11_23 = a2
                                        · rw [if_pos c44] at H
                                          have c44b0 : (x11_23 == a2) = true := beq_iff_eq.mpr c44
                                          have c44b1 : (x11_23 != a2) = false := bne_eq_false_iff_eq.mpr c44
                                          clear c44
                                          have H' := Aside0.mk H
                                          clear H
                                          go_wp2
                                          repeat (go_quiet (fail); try go_wp2)
                                          go_meet
                                          case rel => exact ⟨_, ((a2 != 0)), (by first | rfl | (simp; done) | (simp [*]; done)), H', ⟨by have := HJ5.out; have := HJ14.out; have := HK3.out; have := HJ23.out; first | omega | exact Nat.le_refl _⟩, ⟨by (with_reducible repeat (first | apply Kd.R_alloc | apply Kd.R_drewN | apply Kd.R_drew)); exact HO_12.out⟩, ⟨by repeat (first | (with_reducible first | exact HB.out | apply below_alloc | apply pw_below_drewN | apply below_drew1) | exact HB.out)⟩⟩
                                        · rw [if_neg c44] at H
                                          have c44b0 : (x11_23 == a2) = false := beq_eq_false_iff_ne.mpr c44
                                          have c44b1 : (x11_23 != a2) = true := bne_iff_ne.mpr c44
                                          have H' := Aside0.mk H
                                          clear H
                                          go_wp2
                                          repeat (go_quiet (fail); try go_wp2)
                                          go_meet
                                          case rel => exact ⟨_, (false), (by first | rfl | (simp; done) | (simp [*]; done)), H', ⟨by have := HJ5.out; have := HJ14.out; have := HK3.out; have := HJ23.out; first | omega | exact Nat.le_refl _⟩, ⟨by (with_reducible repeat (first | apply Kd.R_alloc | apply Kd.R_drewN | apply Kd.R_drew)); exact HO_12.out⟩, ⟨by repeat (first | (with_reducible first | exact HB.out | apply below_alloc | apply pw_below_drewN | apply below_drew1) | exact HB.out)⟩⟩
                            case rest => as_aux_lemma =>
                              clear HC34
                              try clear c1
                              try clear p1
                              try clear q1
                              try clear hx1
                              try clear c2
                              try clear p2
                              try clear c3
                              try clear c4
                              try clear c5
                              try clear p6
                              try clear c8
                              try clear c8b0
                              try clear c8b1
                              try clear c8b2
                              try clear c9
                              try clear c9b0
                              try clear c10
                              try clear c10b0
                              try clear c10b1
                              try clear c11
                              try clear c11b0
                              try clear c12
                              try clear c14
                              try clear c17
                              try clear c17b0
                              try clear c17b1
                              try clear c17b2
                              try clear c18
                              try clear p18
                              try clear q18
                              try clear hx18
                              try clear c19
                              try clear c19b0
                              try clear c20
                              try clear c20b0
                              try clear c35
                              try clear c35b0
                              try clear c35b1
                              try clear c35b2
                              try clear c36
                              try clear c36b0
                              try clear c37
                              try clear c37b0
                              try clear c37b1
                              try clear c38
                              try clear c38b0
                              try clear c38b1
                              try clear c39
                              try clear c39b0
                              try clear c40
                              try clear c40b0
                              try clear c41
                              try clear c41b0
                              try clear c41b1
                              try clear c42
                              try clear c42b0
                              try clear c43
                              try clear c43b0
                              try clear c44
                              try clear c44b0
                              try clear c44b1
                              try clear hx181_0
                              try clear p1
                              try clear p18
                              try clear p181
                              try clear p2
                              try clear p6
                              try clear q1
                              try clear q18
                              try clear q181
                              obtain ⟨kq, x105_33, rfl, HA, HJ33, HO_12, HB⟩ := hcut
                              cases kq with
                              | zero => exact absurd HA.out (by simp [batonlaw11_TabsRises.j4])
                              | succ kj33 =>
                                have H := HA.out
                                clear HA
                                simp only [batonlaw11_TabsRises.j4] at H
                                by_cases c45 : x105_33 = true
                                · subst c45
                                  have H1 : (some false) = some r := by rw [if_pos rfl] at H; exact H
                                  clear H
                                  have H := H1
                                  clear H1
                                  obtain rfl := Option.some.inj H
                                  go_wp2
                                  repeat (go_quiet (fail); try go_wp2)
                                  go_ret
                                  exact ⟨by first | rfl | (simp [errW_none, errW_some] <;> rfl) | (simp [*, errW_none, errW_some] <;> rfl), by repeat (first | (with_reducible first | exact HB.out | apply below_alloc | apply pw_below_drewN | apply below_drew1) | exact HB.out)⟩
                                · replace c45 := Bool.eq_false_iff.mpr c45
                                  subst c45
                                  have H1 : (batonlaw11_TabsRises.l1 kj33 a2 x10_23 x11_23 x12_23 (x10_23 == (wrap64 (a0 - 1))) (x11_23 == 0) 0) = some r := by rw [if_neg (show ¬ (false = true) by decide)] at H; exact H
                                  clear H
                                  have H := H1
                                  clear H1
                                  have H' := Aside0.mk H
                                  clear H
                                  go_wp2
                                  repeat (go_quiet (fail); try go_wp2)
                                  go_loopg [13, 14, 15] kj33 (fun kq v13 v14 v15 w' => ∃ (x13_6 : Bool) (x14_6 : Bool) (x15_6 : Int), v13 = .bool x13_6 ∧ v14 = .bool x14_6 ∧ v15 = .int .i64 x15_6 ∧ Aside0 (batonlaw11_TabsRises.l1 kq a2 x10_23 x11_23 x12_23 x13_6 x14_6 x15_6 = some r) ∧ Aside0 (kq ≤ kj33) ∧ Aside0 (Kd.R (Kd.int .i64) 3 w' w.heap.size (fun _ => True) u12 x12_23) ∧ Aside0 (Below w.heap.size w w'))
                                  case atStart => exact ⟨((x10_23 == (wrap64 (a0 - 1)))), ((x11_23 == 0)), (0), (by first | rfl | (simp; done) | (simp [*]; done)), (by first | rfl | (simp; done) | (simp [*]; done)), (by first | rfl | (simp; done) | (simp [*]; done)), H', ⟨Nat.le_refl _⟩, ⟨by (with_reducible repeat (first | apply Kd.R_alloc | apply Kd.R_drewN | apply Kd.R_drew)); exact HO_12.out⟩, ⟨by repeat (first | (with_reducible first | exact HB.out | apply below_alloc | apply pw_below_drewN | apply below_drew1) | exact HB.out)⟩⟩
                                  case round => as_aux_lemma =>
                                    clear H'
                                    try clear c1
                                    try clear p1
                                    try clear q1
                                    try clear hx1
                                    try clear c2
                                    try clear p2
                                    try clear c3
                                    try clear c4
                                    try clear c5
                                    try clear p6
                                    try clear c8
                                    try clear c8b0
                                    try clear c8b1
                                    try clear c8b2
                                    try clear c9
                                    try clear c9b0
                                    try clear c10
                                    try clear c10b0
                                    try clear c10b1
                                    try clear c11
                                    try clear c11b0
                                    try clear c12
                                    try clear c14
                                    try clear c17
                                    try clear c17b0
                                    try clear c17b1
                                    try clear c17b2
                                    try clear c18
                                    try clear p18
                                    try clear q18
                                    try clear hx18
                                    try clear c19
                                    try clear c19b0
                                    try clear c20
                                    try clear c20b0
                                    try clear c35
                                    try clear c35b0
                                    try clear c35b1
                                    try clear c35b2
                                    try clear c36
                                    try clear c36b0
                                    try clear c37
                                    try clear c37b0
                                    try clear c37b1
                                    try clear c38
                                    try clear c38b0
                                    try clear c38b1
                                    try clear c39
                                    try clear c39b0
                                    try clear c40
                                    try clear c40b0
                                    try clear c41
                                    try clear c41b0
                                    try clear c41b1
                                    try clear c42
                                    try clear c42b0
                                    try clear c43
                                    try clear c43b0
                                    try clear c44
                                    try clear c44b0
                                    try clear c44b1
                                    try clear c45
                                    try clear hx181_0
                                    try clear p1
                                    try clear p18
                                    try clear p181
                                    try clear p2
                                    try clear p6
                                    try clear q1
                                    try clear q18
                                    try clear q181
                                    obtain ⟨x13_6, x14_6, x15_6, rfl, rfl, rfl, HA, HK6, HO_12, HB⟩ := hrel
                                    cases gk with
                                    | zero => exact absurd HA.out (by simp [batonlaw11_TabsRises.l1])
                                    | succ k6 =>
                                      have H := HA.out
                                      clear HA
                                      simp only [batonlaw11_TabsRises.l1] at H
                                      by_cases c46 : x15_6 < (x12_23.length : Int)
                                      · rw [if_pos c46] at H
                                        have c46b0 : decide (x15_6 < (x12_23.length : Int)) = true := decide_eq_true c46
                                        clear c46
                                        have HC47 := Aside0.mk H
                                        clear H
                                        obtain ⟨Ao48, co48, eo48⟩ := Kd.R_slice HO_12.out
                                        subst eo48
                                        go_upto_region 19 with (first | (fail) | go_quiet (fail))
                                        go_cut [147] (fun v147 wc => ∃ (kq : Nat) (x147_46 : Bool), v147 = .bool x147_46 ∧ Aside0 (batonlaw11_TabsRises.j6 kq a2 x10_23 x11_23 x12_23 x13_6 x14_6 x15_6 x147_46 = some r) ∧ Aside0 (kq ≤ k6) ∧ Aside0 (Kd.R (Kd.int .i64) 3 wc w.heap.size (fun _ => True) (.slice Ao48 x12_23.length co48) x12_23) ∧ Aside0 (Below w.heap.size w wc))
                                        case first => as_aux_lemma =>
                                          have H := HC47.out
                                          clear HC47
                                          by_cases c49 : 0 ≤ x15_6
                                          · rw [if_pos c49] at H
                                            have c49b0 : decide (0 ≤ x15_6) = true := decide_eq_true c49
                                            clear c49
                                            (first | rw [c49b0] | (simp only [i64_w, i32_w]; rw [c49b0]) | rw [c49b1] | rw [c49b2] | skip)
                                            by_cases c50 : (rd x12_23 x15_6) > a2
                                            · rw [if_pos c50] at H
                                              have c50b0 : decide (a2 < (rd x12_23 x15_6)) = true := decide_eq_true c50
                                              clear c50
                                              by_cases c51 : (rd x12_23 x15_6) < x10_23
                                              · rw [if_pos c51] at H
                                                have c51b0 : decide ((rd x12_23 x15_6) < x10_23) = true := decide_eq_true c51
                                                clear c51
                                                have H' := Aside0.mk H
                                                clear H
                                                have p203 : 0 ≤ (x15_6 : Int) := of_decide_eq_true (by first | (with_reducible assumption) | assumption)
                                                have q203 : x15_6 < (x12_23.length : Int) := of_decide_eq_true (by first | (with_reducible assumption) | assumption)
                                                obtain ⟨ad203, e203, hx203_0⟩ := Kd.at_int (Kd.R_reads' HO_12.out).2.2 x15_6 p203 q203
                                                cases e203
                                                replace p203 := eq_true p203
                                                replace q203 := eq_true q203
                                                have p204 : 0 ≤ (x15_6 : Int) := of_decide_eq_true (by first | (with_reducible assumption) | assumption)
                                                have q204 : x15_6 < (x12_23.length : Int) := of_decide_eq_true (by first | (with_reducible assumption) | assumption)
                                                obtain ⟨ad204, e204, hx204_0⟩ := Kd.at_int (Kd.R_reads' HO_12.out).2.2 x15_6 p204 q204
                                                obtain rfl : ad203 = ad204 := (by injection e204)
                                                replace p204 := eq_true p204
                                                replace q204 := eq_true q204
                                                go_wp2
                                                repeat (go_quiet (fail); try go_wp2)
                                                go_meet
                                                case rel => exact ⟨_, (true), (by first | rfl | (simp; done) | (simp [*]; done)), H', ⟨by have := HJ5.out; have := HJ14.out; have := HK3.out; have := HJ23.out; have := HJ33.out; have := HK6.out; first | omega | exact Nat.le_refl _⟩, ⟨by (with_reducible repeat (first | apply Kd.R_alloc | apply Kd.R_drewN | apply Kd.R_drew)); exact HO_12.out⟩, ⟨by repeat (first | (with_reducible first | exact HB.out | apply below_alloc | apply pw_below_drewN | apply below_drew1) | exact HB.out)⟩⟩
                                              · rw [if_neg c51] at H
                                                have c51b0 : decide ((rd x12_23 x15_6) < x10_23) = false := decide_eq_false c51
                                                clear c51
                                                by_cases c52 : (rd x12_23 x15_6) < a2
                                                · rw [if_pos c52] at H
                                                  have c52b0 : decide ((rd x12_23 x15_6) < a2) = true := decide_eq_true c52
                                                  clear c52
                                                  have H' := Aside0.mk H
                                                  clear H
                                                  have p203 : 0 ≤ (x15_6 : Int) := of_decide_eq_true (by first | (with_reducible assumption) | assumption)
                                                  have q203 : x15_6 < (x12_23.length : Int) := of_decide_eq_true (by first | (with_reducible assumption) | assumption)
                                                  obtain ⟨ad203, e203, hx203_0⟩ := Kd.at_int (Kd.R_reads' HO_12.out).2.2 x15_6 p203 q203
                                                  cases e203
                                                  replace p203 := eq_true p203
                                                  replace q203 := eq_true q203
                                                  have p204 : 0 ≤ (x15_6 : Int) := of_decide_eq_true (by first | (with_reducible assumption) | assumption)
                                                  have q204 : x15_6 < (x12_23.length : Int) := of_decide_eq_true (by first | (with_reducible assumption) | assumption)
                                                  obtain ⟨ad204, e204, hx204_0⟩ := Kd.at_int (Kd.R_reads' HO_12.out).2.2 x15_6 p204 q204
                                                  obtain rfl : ad203 = ad204 := (by injection e204)
                                                  replace p204 := eq_true p204
                                                  replace q204 := eq_true q204
                                                  have p205 : 0 ≤ (x15_6 : Int) := of_decide_eq_true (by first | (with_reducible assumption) | assumption)
                                                  have q205 : x15_6 < (x12_23.length : Int) := of_decide_eq_true (by first | (with_reducible assumption) | assumption)
                                                  obtain ⟨ad205, e205, hx205_0⟩ := Kd.at_int (Kd.R_reads' HO_12.out).2.2 x15_6 p205 q205
                                                  obtain rfl : ad203 = ad205 := (by injection e205)
                                                  replace p205 := eq_true p205
                                                  replace q205 := eq_true q205
                                                  have p206 : 0 ≤ (x15_6 : Int) := of_decide_eq_true (by first | (with_reducible assumption) | assumption)
                                                  have q206 : x15_6 < (x12_23.length : Int) := of_decide_eq_true (by first | (with_reducible assumption) | assumption)
                                                  obtain ⟨ad206, e206, hx206_0⟩ := Kd.at_int (Kd.R_reads' HO_12.out).2.2 x15_6 p206 q206
                                                  obtain rfl : ad203 = ad206 := (by injection e206)
                                                  replace p206 := eq_true p206
                                                  replace q206 := eq_true q206
                                                  go_wp2
                                                  repeat (go_quiet (fail); try go_wp2)
                                                  go_meet
                                                  case rel => exact ⟨_, (decide ((rd x12_23 x15_6) > x11_23)), (by first | rfl | (simp; done) | (simp [*]; done)), H', ⟨by have := HJ5.out; have := HJ14.out; have := HK3.out; have := HJ23.out; have := HJ33.out; have := HK6.out; first | omega | exact Nat.le_refl _⟩, ⟨by (with_reducible repeat (first | apply Kd.R_alloc | apply Kd.R_drewN | apply Kd.R_drew)); exact HO_12.out⟩, ⟨by repeat (first | (with_reducible first | exact HB.out | apply below_alloc | apply pw_below_drewN | apply below_drew1) | exact HB.out)⟩⟩
                                                · rw [if_neg c52] at H
                                                  have c52b0 : decide ((rd x12_23 x15_6) < a2) = false := decide_eq_false c52
                                                  clear c52
                                                  have H' := Aside0.mk H
                                                  clear H
                                                  have p203 : 0 ≤ (x15_6 : Int) := of_decide_eq_true (by first | (with_reducible assumption) | assumption)
                                                  have q203 : x15_6 < (x12_23.length : Int) := of_decide_eq_true (by first | (with_reducible assumption) | assumption)
                                                  obtain ⟨ad203, e203, hx203_0⟩ := Kd.at_int (Kd.R_reads' HO_12.out).2.2 x15_6 p203 q203
                                                  cases e203
                                                  replace p203 := eq_true p203
                                                  replace q203 := eq_true q203
                                                  have p204 : 0 ≤ (x15_6 : Int) := of_decide_eq_true (by first | (with_reducible assumption) | assumption)
                                                  have q204 : x15_6 < (x12_23.length : Int) := of_decide_eq_true (by first | (with_reducible assumption) | assumption)
                                                  obtain ⟨ad204, e204, hx204_0⟩ := Kd.at_int (Kd.R_reads' HO_12.out).2.2 x15_6 p204 q204
                                                  obtain rfl : ad203 = ad204 := (by injection e204)
                                                  replace p204 := eq_true p204
                                                  replace q204 := eq_true q204
                                                  have p205 : 0 ≤ (x15_6 : Int) := of_decide_eq_true (by first | (with_reducible assumption) | assumption)
                                                  have q205 : x15_6 < (x12_23.length : Int) := of_decide_eq_true (by first | (with_reducible assumption) | assumption)
                                                  obtain ⟨ad205, e205, hx205_0⟩ := Kd.at_int (Kd.R_reads' HO_12.out).2.2 x15_6 p205 q205
                                                  obtain rfl : ad203 = ad205 := (by injection e205)
                                                  replace p205 := eq_true p205
                                                  replace q205 := eq_true q205
                                                  go_wp2
                                                  repeat (go_quiet (fail); try go_wp2)
                                                  go_meet
                                                  case rel => exact ⟨_, (false), (by first | rfl | (simp; done) | (simp [*]; done)), H', ⟨by have := HJ5.out; have := HJ14.out; have := HK3.out; have := HJ23.out; have := HJ33.out; have := HK6.out; first | omega | exact Nat.le_refl _⟩, ⟨by (with_reducible repeat (first | apply Kd.R_alloc | apply Kd.R_drewN | apply Kd.R_drew)); exact HO_12.out⟩, ⟨by repeat (first | (with_reducible first | exact HB.out | apply below_alloc | apply pw_below_drewN | apply below_drew1) | exact HB.out)⟩⟩
                                            · rw [if_neg c50] at H
                                              have c50b0 : decide (a2 < (rd x12_23 x15_6)) = false := decide_eq_false c50
                                              clear c50
                                              by_cases c53 : (rd x12_23 x15_6) < a2
                                              · rw [if_pos c53] at H
                                                have c53b0 : decide ((rd x12_23 x15_6) < a2) = true := decide_eq_true c53
                                                clear c53
                                                have H' := Aside0.mk H
                                                clear H
                                                have p203 : 0 ≤ (x15_6 : Int) := of_decide_eq_true (by first | (with_reducible assumption) | assumption)
                                                have q203 : x15_6 < (x12_23.length : Int) := of_decide_eq_true (by first | (with_reducible assumption) | assumption)
                                                obtain ⟨ad203, e203, hx203_0⟩ := Kd.at_int (Kd.R_reads' HO_12.out).2.2 x15_6 p203 q203
                                                cases e203
                                                replace p203 := eq_true p203
                                                replace q203 := eq_true q203
                                                have p207 : 0 ≤ (x15_6 : Int) := of_decide_eq_true (by first | (with_reducible assumption) | assumption)
                                                have q207 : x15_6 < (x12_23.length : Int) := of_decide_eq_true (by first | (with_reducible assumption) | assumption)
                                                obtain ⟨ad207, e207, hx207_0⟩ := Kd.at_int (Kd.R_reads' HO_12.out).2.2 x15_6 p207 q207
                                                obtain rfl : ad203 = ad207 := (by injection e207)
                                                replace p207 := eq_true p207
                                                replace q207 := eq_true q207
                                                have p208 : 0 ≤ (x15_6 : Int) := of_decide_eq_true (by first | (with_reducible assumption) | assumption)
                                                have q208 : x15_6 < (x12_23.length : Int) := of_decide_eq_true (by first | (with_reducible assumption) | assumption)
                                                obtain ⟨ad208, e208, hx208_0⟩ := Kd.at_int (Kd.R_reads' HO_12.out).2.2 x15_6 p208 q208
                                                obtain rfl : ad203 = ad208 := (by injection e208)
                                                replace p208 := eq_true p208
                                                replace q208 := eq_true q208
                                                go_wp2
                                                repeat (go_quiet (fail); try go_wp2)
                                                go_meet
                                                case rel => exact ⟨_, (decide ((rd x12_23 x15_6) > x11_23)), (by first | rfl | (simp; done) | (simp [*]; done)), H', ⟨by have := HJ5.out; have := HJ14.out; have := HK3.out; have := HJ23.out; have := HJ33.out; have := HK6.out; first | omega | exact Nat.le_refl _⟩, ⟨by (with_reducible repeat (first | apply Kd.R_alloc | apply Kd.R_drewN | apply Kd.R_drew)); exact HO_12.out⟩, ⟨by repeat (first | (with_reducible first | exact HB.out | apply below_alloc | apply pw_below_drewN | apply below_drew1) | exact HB.out)⟩⟩
                                              · rw [if_neg c53] at H
                                                have c53b0 : decide ((rd x12_23 x15_6) < a2) = false := decide_eq_false c53
                                                clear c53
                                                have H' := Aside0.mk H
                                                clear H
                                                have p203 : 0 ≤ (x15_6 : Int) := of_decide_eq_true (by first | (with_reducible assumption) | assumption)
                                                have q203 : x15_6 < (x12_23.length : Int) := of_decide_eq_true (by first | (with_reducible assumption) | assumption)
                                                obtain ⟨ad203, e203, hx203_0⟩ := Kd.at_int (Kd.R_reads' HO_12.out).2.2 x15_6 p203 q203
                                                cases e203
                                                replace p203 := eq_true p203
                                                replace q203 := eq_true q203
                                                have p207 : 0 ≤ (x15_6 : Int) := of_decide_eq_true (by first | (with_reducible assumption) | assumption)
                                                have q207 : x15_6 < (x12_23.length : Int) := of_decide_eq_true (by first | (with_reducible assumption) | assumption)
                                                obtain ⟨ad207, e207, hx207_0⟩ := Kd.at_int (Kd.R_reads' HO_12.out).2.2 x15_6 p207 q207
                                                obtain rfl : ad203 = ad207 := (by injection e207)
                                                replace p207 := eq_true p207
                                                replace q207 := eq_true q207
                                                go_wp2
                                                repeat (go_quiet (fail); try go_wp2)
                                                go_meet
                                                case rel => exact ⟨_, (false), (by first | rfl | (simp; done) | (simp [*]; done)), H', ⟨by have := HJ5.out; have := HJ14.out; have := HK3.out; have := HJ23.out; have := HJ33.out; have := HK6.out; first | omega | exact Nat.le_refl _⟩, ⟨by (with_reducible repeat (first | apply Kd.R_alloc | apply Kd.R_drewN | apply Kd.R_drew)); exact HO_12.out⟩, ⟨by repeat (first | (with_reducible first | exact HB.out | apply below_alloc | apply pw_below_drewN | apply below_drew1) | exact HB.out)⟩⟩
                                          · rw [if_neg c49] at H
                                            exact absurd H (by simp)
                                        case rest => as_aux_lemma =>
                                          clear HC47
                                          try clear c1
                                          try clear p1
                                          try clear q1
                                          try clear hx1
                                          try clear c2
                                          try clear p2
                                          try clear q2
                                          try clear hx2
                                          try clear c3
                                          try clear c4
                                          try clear c5
                                          try clear p6
                                          try clear c8
                                          try clear c8b0
                                          try clear c8b1
                                          try clear c8b2
                                          try clear c9
                                          try clear c9b0
                                          try clear c10
                                          try clear c10b0
                                          try clear c10b1
                                          try clear c11
                                          try clear c11b0
                                          try clear c12
                                          try clear c14
                                          try clear c17
                                          try clear c17b0
                                          try clear c17b1
                                          try clear c17b2
                                          try clear c18
                                          try clear p18
                                          try clear q18
                                          try clear hx18
                                          try clear c19
                                          try clear c19b0
                                          try clear c20
                                          try clear c20b0
                                          try clear p20
                                          try clear q20
                                          try clear hx20
                                          try clear c35
                                          try clear c35b0
                                          try clear c35b1
                                          try clear c35b2
                                          try clear c36
                                          try clear c36b0
                                          try clear c37
                                          try clear c37b0
                                          try clear c37b1
                                          try clear c38
                                          try clear c38b0
                                          try clear c38b1
                                          try clear c39
                                          try clear c39b0
                                          try clear c40
                                          try clear c40b0
                                          try clear c41
                                          try clear c41b0
                                          try clear c41b1
                                          try clear c42
                                          try clear c42b0
                                          try clear c43
                                          try clear c43b0
                                          try clear c44
                                          try clear c44b0
                                          try clear c44b1
                                          try clear c45
                                          try clear c46
                                          try clear c46b0
                                          try clear c49
                                          try clear c49b0
                                          try clear c49b1
                                          try clear c49b2
                                          try clear c50
                                          try clear c50b0
                                          try clear c51
                                          try clear c51b0
                                          try clear c52
                                          try clear c52b0
                                          try clear c53
                                          try clear c53b0
                                          try clear hx181_0
                                          try clear hx203_0
                                          try clear hx204_0
                                          try clear hx205_0
                                          try clear hx206_0
                                          try clear hx207_0
                                          try clear hx208_0
                                          try clear p1
                                          try clear p18
                                          try clear p181
                                          try clear p2
                                          try clear p203
                                          try clear p204
                                          try clear p205
                                          try clear p206
                                          try clear p207
                                          try clear p208
                                          try clear p6
                                          try clear q1
                                          try clear q18
                                          try clear q181
                                          try clear q203
                                          try clear q204
                                          try clear q205
                                          try clear q206
                                          try clear q207
                                          try clear q208
                                          obtain ⟨kq, x147_46, rfl, HA, HJ46, HO_12, HB⟩ := hcut
                                          cases kq with
                                          | zero => exact absurd HA.out (by simp [batonlaw11_TabsRises.j6])
                                          | succ kj46 =>
                                            have H := HA.out
                                            clear HA
                                            simp only [batonlaw11_TabsRises.j6] at H
                                            by_cases c54 : x147_46 = true
                                            · subst c54
                                              have H1 : (some false) = some r := by rw [if_pos rfl] at H; exact H
                                              clear H
                                              have H := H1
                                              clear H1
                                              obtain rfl := Option.some.inj H
                                              go_wp2
                                              repeat (go_quiet (fail); try go_wp2)
                                              go_ret
                                              exact ⟨by first | rfl | (simp [errW_none, errW_some] <;> rfl) | (simp [*, errW_none, errW_some] <;> rfl), by repeat (first | (with_reducible first | exact HB.out | apply below_alloc | apply pw_below_drewN | apply below_drew1) | exact HB.out)⟩
                                            · replace c54 := Bool.eq_false_iff.mpr c54
                                              subst c54
                                              have H1 : (if x13_6 = true then (if x14_6 = true then (batonlaw11_TabsRises.l1 kj46 a2 x10_23 x11_23 x12_23 true true (wrap64 (x15_6 + 1))) else (if 0 ≤ x15_6 then (if x15_6 < (x12_23.length : Int) then (batonlaw11_TabsRises.l1 kj46 a2 x10_23 x11_23 x12_23 true ((rd x12_23 x15_6) == x11_23) (wrap64 (x15_6 + 1))) else (none)) else (none))) else (if 0 ≤ x15_6 then (if x15_6 < (x12_23.length : Int) then (if x14_6 = true then (batonlaw11_TabsRises.l1 kj46 a2 x10_23 x11_23 x12_23 ((rd x12_23 x15_6) == x10_23) true (wrap64 (x15_6 + 1))) else (batonlaw11_TabsRises.l1 kj46 a2 x10_23 x11_23 x12_23 ((rd x12_23 x15_6) == x10_23) ((rd x12_23 x15_6) == x11_23) (wrap64 (x15_6 + 1)))) else (none)) else (none))) = some r := by rw [if_neg (show ¬ (false = true) by decide)] at H; exact H
                                              clear H
                                              have H := H1
                                              clear H1
                                              by_cases c55 : x13_6 = true
                                              · subst c55
                                                have H1 : (if x14_6 = true then (batonlaw11_TabsRises.l1 kj46 a2 x10_23 x11_23 x12_23 true true (wrap64 (x15_6 + 1))) else (if 0 ≤ x15_6 then (if x15_6 < (x12_23.length : Int) then (batonlaw11_TabsRises.l1 kj46 a2 x10_23 x11_23 x12_23 true ((rd x12_23 x15_6) == x11_23) (wrap64 (x15_6 + 1))) else (none)) else (none))) = some r := by rw [if_pos rfl] at H; exact H
                                                clear H
                                                have H := H1
                                                clear H1
                                                by_cases c56 : x14_6 = true
                                                · subst c56
                                                  have H1 : (batonlaw11_TabsRises.l1 kj46 a2 x10_23 x11_23 x12_23 true true (wrap64 (x15_6 + 1))) = some r := by rw [if_pos rfl] at H; exact H
                                                  clear H
                                                  have H := H1
                                                  clear H1
                                                  have H' := Aside0.mk H
                                                  clear H
                                                  go_wp2
                                                  repeat (go_quiet (fail); try go_wp2)
                                                  go_roundg kj46
                                                  case measure => have := HJ5.out; have := HJ14.out; have := HK3.out; have := HJ23.out; have := HJ33.out; have := HK6.out; have := HJ46.out; omega
                                                  case rel => exact ⟨(true), (true), (wrap64 (x15_6 + 1)), (by first | rfl | (simp; done) | (simp [*]; done)), (by first | rfl | (simp; done) | (simp [*]; done)), (by first | rfl | (simp; done) | (simp [*]; done)), H', ⟨by have := HJ5.out; have := HJ14.out; have := HK3.out; have := HJ23.out; have := HJ33.out; have := HK6.out; have := HJ46.out; omega⟩, ⟨by (with_reducible repeat (first | apply Kd.R_alloc | apply Kd.R_drewN | apply Kd.R_drew)); exact HO_12.out⟩, ⟨by repeat (first | (with_reducible first | exact HB.out | apply below_alloc | apply pw_below_drewN | apply below_drew1) | exact HB.out)⟩⟩
                                                · replace c56 := Bool.eq_false_iff.mpr c56
                                                  subst c56
                                                  have H1 : (if 0 ≤ x15_6 then (if x15_6 < (x12_23.length : Int) then (batonlaw11_TabsRises.l1 kj46 a2 x10_23 x11_23 x12_23 true ((rd x12_23 x15_6) == x11_23) (wrap64 (x15_6 + 1))) else (none)) else (none)) = some r := by rw [if_neg (show ¬ (false = true) by decide)] at H; exact H
                                                  clear H
                                                  have H := H1
                                                  clear H1
                                                  by_cases c57 : 0 ≤ x15_6
                                                  · rw [if_pos c57] at H
                                                    have c57b0 : decide (0 ≤ x15_6) = true := decide_eq_true c57
                                                    clear c57
                                                    by_cases c58 : x15_6 < (x12_23.length : Int)
                                                    · rw [if_pos c58] at H
                                                      have c58b0 : decide (x15_6 < (x12_23.length : Int)) = true := decide_eq_true c58
                                                      clear c58
                                                      have H' := Aside0.mk H
                                                      clear H
                                                      have p209 : 0 ≤ (x15_6 : Int) := of_decide_eq_true (by first | (with_reducible assumption) | assumption)
                                                      have q209 : x15_6 < (x12_23.length : Int) := of_decide_eq_true (by first | (with_reducible assumption) | assumption)
                                                      obtain ⟨ad209, e209, hx209_0⟩ := Kd.at_int (Kd.R_reads' HO_12.out).2.2 x15_6 p209 q209
                                                      cases e209
                                                      replace p209 := eq_true p209
                                                      replace q209 := eq_true q209
                                                      go_wp2
                                                      repeat (go_quiet (fail); try go_wp2)
                                                      go_roundg kj46
                                                      case measure => have := HJ5.out; have := HJ14.out; have := HK3.out; have := HJ23.out; have := HJ33.out; have := HK6.out; have := HJ46.out; omega
                                                      case rel => exact ⟨(true), (((rd x12_23 x15_6) == x11_23)), (wrap64 (x15_6 + 1)), (by first | rfl | (simp; done) | (simp [*]; done)), (by first | rfl | (simp; done) | (simp [*]; done)), (by first | rfl | (simp; done) | (simp [*]; done)), H', ⟨by have := HJ5.out; have := HJ14.out; have := HK3.out; have := HJ23.out; have := HJ33.out; have := HK6.out; have := HJ46.out; omega⟩, ⟨by (with_reducible repeat (first | apply Kd.R_alloc | apply Kd.R_drewN | apply Kd.R_drew)); exact HO_12.out⟩, ⟨by repeat (first | (with_reducible first | exact HB.out | apply below_alloc | apply pw_below_drewN | apply below_drew1) | exact HB.out)⟩⟩
                                                    · rw [if_neg c58] at H
                                                      exact absurd H (by simp)
                                                  · rw [if_neg c57] at H
                                                    exact absurd H (by simp)
                                              · replace c55 := Bool.eq_false_iff.mpr c55
                                                subst c55
                                                have H1 : (if 0 ≤ x15_6 then (if x15_6 < (x12_23.length : Int) then (if x14_6 = true then (batonlaw11_TabsRises.l1 kj46 a2 x10_23 x11_23 x12_23 ((rd x12_23 x15_6) == x10_23) true (wrap64 (x15_6 + 1))) else (batonlaw11_TabsRises.l1 kj46 a2 x10_23 x11_23 x12_23 ((rd x12_23 x15_6) == x10_23) ((rd x12_23 x15_6) == x11_23) (wrap64 (x15_6 + 1)))) else (none)) else (none)) = some r := by rw [if_neg (show ¬ (false = true) by decide)] at H; exact H
                                                clear H
                                                have H := H1
                                                clear H1
                                                by_cases c59 : 0 ≤ x15_6
                                                · rw [if_pos c59] at H
                                                  have c59b0 : decide (0 ≤ x15_6) = true := decide_eq_true c59
                                                  clear c59
                                                  by_cases c60 : x15_6 < (x12_23.length : Int)
                                                  · rw [if_pos c60] at H
                                                    have c60b0 : decide (x15_6 < (x12_23.length : Int)) = true := decide_eq_true c60
                                                    clear c60
                                                    by_cases c61 : x14_6 = true
                                                    · subst c61
                                                      have H1 : (batonlaw11_TabsRises.l1 kj46 a2 x10_23 x11_23 x12_23 ((rd x12_23 x15_6) == x10_23) true (wrap64 (x15_6 + 1))) = some r := by rw [if_pos rfl] at H; exact H
                                                      clear H
                                                      have H := H1
                                                      clear H1
                                                      have H' := Aside0.mk H
                                                      clear H
                                                      have p210 : 0 ≤ (x15_6 : Int) := of_decide_eq_true (by first | (with_reducible assumption) | assumption)
                                                      have q210 : x15_6 < (x12_23.length : Int) := of_decide_eq_true (by first | (with_reducible assumption) | assumption)
                                                      obtain ⟨ad210, e210, hx210_0⟩ := Kd.at_int (Kd.R_reads' HO_12.out).2.2 x15_6 p210 q210
                                                      cases e210
                                                      replace p210 := eq_true p210
                                                      replace q210 := eq_true q210
                                                      go_wp2
                                                      repeat (go_quiet (fail); try go_wp2)
                                                      go_roundg kj46
                                                      case measure => have := HJ5.out; have := HJ14.out; have := HK3.out; have := HJ23.out; have := HJ33.out; have := HK6.out; have := HJ46.out; omega
                                                      case rel => exact ⟨(((rd x12_23 x15_6) == x10_23)), (true), (wrap64 (x15_6 + 1)), (by first | rfl | (simp; done) | (simp [*]; done)), (by first | rfl | (simp; done) | (simp [*]; done)), (by first | rfl | (simp; done) | (simp [*]; done)), H', ⟨by have := HJ5.out; have := HJ14.out; have := HK3.out; have := HJ23.out; have := HJ33.out; have := HK6.out; have := HJ46.out; omega⟩, ⟨by (with_reducible repeat (first | apply Kd.R_alloc | apply Kd.R_drewN | apply Kd.R_drew)); exact HO_12.out⟩, ⟨by repeat (first | (with_reducible first | exact HB.out | apply below_alloc | apply pw_below_drewN | apply below_drew1) | exact HB.out)⟩⟩
                                                    · replace c61 := Bool.eq_false_iff.mpr c61
                                                      subst c61
                                                      have H1 : (batonlaw11_TabsRises.l1 kj46 a2 x10_23 x11_23 x12_23 ((rd x12_23 x15_6) == x10_23) ((rd x12_23 x15_6) == x11_23) (wrap64 (x15_6 + 1))) = some r := by rw [if_neg (show ¬ (false = true) by decide)] at H; exact H
                                                      clear H
                                                      have H := H1
                                                      clear H1
                                                      have H' := Aside0.mk H
                                                      clear H
                                                      have p210 : 0 ≤ (x15_6 : Int) := of_decide_eq_true (by first | (with_reducible assumption) | assumption)
                                                      have q210 : x15_6 < (x12_23.length : Int) := of_decide_eq_true (by first | (with_reducible assumption) | assumption)
                                                      obtain ⟨ad210, e210, hx210_0⟩ := Kd.at_int (Kd.R_reads' HO_12.out).2.2 x15_6 p210 q210
                                                      cases e210
                                                      replace p210 := eq_true p210
                                                      replace q210 := eq_true q210
                                                      have p211 : 0 ≤ (x15_6 : Int) := of_decide_eq_true (by first | (with_reducible assumption) | assumption)
                                                      have q211 : x15_6 < (x12_23.length : Int) := of_decide_eq_true (by first | (with_reducible assumption) | assumption)
                                                      obtain ⟨ad211, e211, hx211_0⟩ := Kd.at_int (Kd.R_reads' HO_12.out).2.2 x15_6 p211 q211
                                                      obtain rfl : ad210 = ad211 := (by injection e211)
                                                      replace p211 := eq_true p211
                                                      replace q211 := eq_true q211
                                                      go_wp2
                                                      repeat (go_quiet (fail); try go_wp2)
                                                      go_roundg kj46
                                                      case measure => have := HJ5.out; have := HJ14.out; have := HK3.out; have := HJ23.out; have := HJ33.out; have := HK6.out; have := HJ46.out; omega
                                                      case rel => exact ⟨(((rd x12_23 x15_6) == x10_23)), (((rd x12_23 x15_6) == x11_23)), (wrap64 (x15_6 + 1)), (by first | rfl | (simp; done) | (simp [*]; done)), (by first | rfl | (simp; done) | (simp [*]; done)), (by first | rfl | (simp; done) | (simp [*]; done)), H', ⟨by have := HJ5.out; have := HJ14.out; have := HK3.out; have := HJ23.out; have := HJ33.out; have := HK6.out; have := HJ46.out; omega⟩, ⟨by (with_reducible repeat (first | apply Kd.R_alloc | apply Kd.R_drewN | apply Kd.R_drew)); exact HO_12.out⟩, ⟨by repeat (first | (with_reducible first | exact HB.out | apply below_alloc | apply pw_below_drewN | apply below_drew1) | exact HB.out)⟩⟩
                                                  · rw [if_neg c60] at H
                                                    exact absurd H (by simp)
                                                · rw [if_neg c59] at H
                                                  exact absurd H (by simp)
                                      · rw [if_neg c46] at H
                                        have c46b0 : decide (x15_6 < (x12_23.length : Int)) = false := decide_eq_false c46
                                        clear c46
                                        by_cases c62 : x13_6 = true
                                        · subst c62
                                          have H1 : (some x14_6) = some r := by rw [if_pos rfl] at H; exact H
                                          clear H
                                          have H := H1
                                          clear H1
                                          obtain rfl := Option.some.inj H
                                          obtain ⟨Ao63, co63, eo63⟩ := Kd.R_slice HO_12.out
                                          subst eo63
                                          go_wp2
                                          repeat (go_quiet (fail); try go_wp2)
                                          go_ret
                                          exact ⟨by first | rfl | (simp [errW_none, errW_some] <;> rfl) | (simp [*, errW_none, errW_some] <;> rfl), by repeat (first | (with_reducible first | exact HB.out | apply below_alloc | apply pw_below_drewN | apply below_drew1) | exact HB.out)⟩
                                        · replace c62 := Bool.eq_false_iff.mpr c62
                                          subst c62
                                          have H1 : (some false) = some r := by rw [if_neg (show ¬ (false = true) by decide)] at H; exact H
                                          clear H
                                          have H := H1
                                          clear H1
                                          obtain rfl := Option.some.inj H
                                          obtain ⟨Ao64, co64, eo64⟩ := Kd.R_slice HO_12.out
                                          subst eo64
                                          go_wp2
                                          repeat (go_quiet (fail); try go_wp2)
                                          go_ret
                                          exact ⟨by first | rfl | (simp [errW_none, errW_some] <;> rfl) | (simp [*, errW_none, errW_some] <;> rfl), by repeat (first | (with_reducible first | exact HB.out | apply below_alloc | apply pw_below_drewN | apply below_drew1) | exact HB.out)⟩
          · replace c14 := Bool.eq_false_iff.mpr c14
            subst c14
            have H1 : (if t180 = 0 then (some false) else (some false)) = some r := by rw [if_neg (show ¬ (false = true) by decide)] at H; exact H
            clear H
            have H := H1
            clear H1
            by_cases c65 : t180 = 0
            · rw [if_pos c65] at H
              have c65b0 : (t180 == 0) = true := beq_iff_eq.mpr c65
              have c65b1 : (t180 != 0) = false := bne_eq_false_iff_eq.mpr c65
              clear c65
              obtain rfl := Option.some.inj H
              go_wp2_with (first | (first | (go_at_call 9; (with_reducible refine (tabs_New.calls kj5 a0 false t175 t176 t180 _ A13.out).mono ?_); rintro e w66 ⟨v177, gb179, rfl, ho0, hbn, hgn, hb⟩; have n0_ := Aside0.mk (Kd.R_lower ho0 (below_size (by repeat (first | (with_reducible first | exact HB.out | apply below_alloc | apply pw_below_drewN | apply below_drew1) | exact HB.out)))); have n1_ := Aside0.mk (below_step (by repeat (first | (with_reducible first | exact HB.out | apply below_alloc | apply pw_below_drewN | apply below_drew1) | exact HB.out)) hb); clear HB; have HO178 := n0_; have HB := n1_; clear n0_ n1_; (try simp only [ptrW_true, ptrW_false]); (try clear hbn); (try clear hgn); (try clear hb); (try clear hb2); (try clear hk); (try clear hi); (try clear ho0))) | go_quiet (first | (go_at_call 9; (with_reducible refine (tabs_New.calls kj5 a0 false t175 t176 t180 _ A13.out).mono ?_); rintro e w66 ⟨v177, gb179, rfl, ho0, hbn, hgn, hb⟩; have n0_ := Aside0.mk (Kd.R_lower ho0 (below_size (by repeat (first | (with_reducible first | exact HB.out | apply below_alloc | apply pw_below_drewN | apply below_drew1) | exact HB.out)))); have n1_ := Aside0.mk (below_step (by repeat (first | (with_reducible first | exact HB.out | apply below_alloc | apply pw_below_drewN | apply below_drew1) | exact HB.out)) hb); clear HB; have HO178 := n0_; have HB := n1_; clear n0_ n1_; (try simp only [ptrW_true, ptrW_false]); (try clear hbn); (try clear hgn); (try clear hb); (try clear hb2); (try clear hk); (try clear hi); (try clear ho0))))
              go_ret
              exact ⟨by first | rfl | (simp [errW_none, errW_some] <;> rfl) | (simp [*, errW_none, errW_some] <;> rfl), by repeat (first | (with_reducible first | exact HB.out | apply below_alloc | apply pw_below_drewN | apply below_drew1) | exact HB.out)⟩
            · rw [if_neg c65] at H
              have c65b0 : (t180 == 0) = false := beq_eq_false_iff_ne.mpr c65
              have c65b1 : (t180 != 0) = true := bne_iff_ne.mpr c65
              obtain rfl := Option.some.inj H
              go_wp2_with (first | (first | (go_at_call 9; (with_reducible refine (tabs_New.calls kj5 a0 false t175 t176 t180 _ A13.out).mono ?_); rintro e w67 ⟨v177, gb179, rfl, ho0, hbn, hgn, hb⟩; have n0_ := Aside0.mk (Kd.R_lower ho0 (below_size (by repeat (first | (with_reducible first | exact HB.out | apply below_alloc | apply pw_below_drewN | apply below_drew1) | exact HB.out)))); have n1_ := Aside0.mk (below_step (by repeat (first | (with_reducible first | exact HB.out | apply below_alloc | apply pw_below_drewN | apply below_drew1) | exact HB.out)) hb); clear HB; have HO178 := n0_; have HB := n1_; clear n0_ n1_; (try simp only [ptrW_true, ptrW_false]); (try clear hbn); (try clear hgn); (try clear hb); (try clear hb2); (try clear hk); (try clear hi); (try clear ho0))) | go_quiet (first | (go_at_call 9; (with_reducible refine (tabs_New.calls kj5 a0 false t175 t176 t180 _ A13.out).mono ?_); rintro e w67 ⟨v177, gb179, rfl, ho0, hbn, hgn, hb⟩; have n0_ := Aside0.mk (Kd.R_lower ho0 (below_size (by repeat (first | (with_reducible first | exact HB.out | apply below_alloc | apply pw_below_drewN | apply below_drew1) | exact HB.out)))); have n1_ := Aside0.mk (below_step (by repeat (first | (with_reducible first | exact HB.out | apply below_alloc | apply pw_below_drewN | apply below_drew1) | exact HB.out)) hb); clear HB; have HO178 := n0_; have HB := n1_; clear n0_ n1_; (try simp only [ptrW_true, ptrW_false]); (try clear hbn); (try clear hgn); (try clear hb); (try clear hb2); (try clear hk); (try clear hi); (try clear ho0))))
              go_ret
              exact ⟨by first | rfl | (simp [errW_none, errW_some] <;> rfl) | (simp [*, errW_none, errW_some] <;> rfl), by repeat (first | (with_reducible first | exact HB.out | apply below_alloc | apply pw_below_drewN | apply below_drew1) | exact HB.out)⟩
  · replace c5 := Bool.eq_false_iff.mpr c5
    subst c5
    have H1 : (some false) = some r := by rw [if_neg (show ¬ (false = true) by decide)] at H; exact H
    clear H
    have H := H1
    clear H1
    obtain rfl := Option.some.inj H
    go_enter Try.func3, Try.ntmps3
    go_wp2_with (first | (first | (go_at_call 8; (with_reducible refine (batonlaw11_awake.calls k  false _ A4.out).mono ?_); rintro e w68 ⟨rfl, hb⟩; have n0_ := Aside0.mk (below_step (by repeat (first | (with_reducible first | exact HB.out | apply below_alloc | apply pw_below_drewN | apply below_drew1) | exact HB.out)) hb); clear HB; have HB := n0_; clear n0_; (try clear hb); (try clear hb2); (try clear hk); (try clear hi))) | go_quiet (first | (go_at_call 8; (with_reducible refine (batonlaw11_awake.calls k  false _ A4.out).mono ?_); rintro e w68 ⟨rfl, hb⟩; have n0_ := Aside0.mk (below_step (by repeat (first | (with_reducible first | exact HB.out | apply below_alloc | apply pw_below_drewN | apply below_drew1) | exact HB.out)) hb); clear HB; have HB := n0_; clear n0_; (try clear hb); (try clear hb2); (try clear hk); (try clear hi))))
    go_ret
    exact ⟨by first | rfl | (simp [errW_none, errW_some] <;> rfl) | (simp [*, errW_none, errW_some] <;> rfl), by repeat (first | (with_reducible first | exact HB.out | apply below_alloc | apply pw_below_drewN | apply below_drew1) | exact HB.out)⟩

/-- THE ONE PURE STATEMENT of batonlaw11_TabsRises: yours. -/
def batonlaw11_TabsRises.Pure : Prop := ∀ (a0 : Int) (l1 : List Int) (a2 : Int), (Lit.int .i64 a0).wf = true → l1.length ≤ maxLen → l1.length * 8 ≤ 140737488351232 → (∀ x ∈ l1, (Lit.int .i64 x).wf = true) → (Lit.int .i64 a2).wf = true → ∃ k, batonlaw11_TabsRises.f k a0 l1 a2 = some true
theorem batonlaw11_TabsRises.walk (P : batonlaw11_TabsRises.Pure) (a0 : Int) (a1 : Option Addr) (len1 cap1 : Nat) (z1 : List Int) (a2 : Int) (w : World) (w0 : (Lit.int .i64 a0).wf = true) (w1 : (a1 = none ∧ len1 = 0 ∧ cap1 = 0 ∧ z1 = []) ∨ ∃ x, a1 = some x ∧ len1 ≤ cap1 ∧ cap1 ≤ maxLen ∧ z1.length = cap1 ∧ (∀ i, i < z1.length → w.cell? (x.add i) = some (.int .i64 (z1.getD i 0))) ∧ ∀ n ∈ z1, (Lit.int .i64 n).wf = true) (y1 : len1 * 8 ≤ 140737488351232) (w2 : (Lit.int .i64 a2).wf = true) :
    Calls Try.prog 3 #[.int .i64 a0, .slice a1 len1 cap1, .int .i64 a2] w fun e w' => e = .returned (.bool true) ∧ Below w.heap.size w w' := by
  obtain ⟨l1, rfl, hr1, hm1, hw1, hc1⟩ := ReadsInt.ofRowC w1
  obtain ⟨k, h⟩ := P a0 l1 a2 w0 hm1 y1 hw1 w2
  refine (batonlaw11_TabsRises.calls k a0 _ _ l1 a2 true w (Kd.C_of_reads (d := (0 : Int)) (h1 := fun _ => rfl) hr1) hc1 h).mono ?_
  rintro e w' ⟨rfl, hd⟩
  exact ⟨rfl, hd⟩

end Go.Proofs.Ytgnbhomdkchcfaa.PF11
