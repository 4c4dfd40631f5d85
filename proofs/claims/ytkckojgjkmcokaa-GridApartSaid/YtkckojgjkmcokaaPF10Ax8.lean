/- By a program of this session (wip/tool/pp.py): plain Lean functions of the Go functions that this family of laws uses, the walks that the Go code comes to their answers, and the row of the law. No condition beside those that the row itself gives. -/
import Derived.Test.YtkckojgjkmcokaaPF10Ax0
import Derived.Test.YtkckojgjkmcokaaPF10Ax2
import Derived.Test.YtkckojgjkmcokaaPF10Ax5
import Derived.Test.YtkckojgjkmcokaaPF10Ax6
import Derived.Test.YtkckojgjkmcokaaPF10Ax7
namespace Go.Proofs.Ytkckojgjkmcokaa.PF10A
open Go.RowKit Go.Proofs.YtkckojgjkmcokaaW.Hand Go.Proofs.YtkckojgjkmcokaaW.PrintWords Go.Proofs.YtkckojgjkmcokaaW.PrintLast Go.Proofs.YtkckojgjkmcokaaW.PrintMore
attribute [local go_sem] max2_int min2_int max_two min_two max_three min_three max_four min_four   -- for this text's walks alone
open List (setIfInBounds_toArray set_cons_zero set_cons_succ)
set_option linter.unusedVariables false
set_option linter.unusedSimpArgs false

/-! ### batonlaw10_GridApart: function 10 -/
mutual
def batonlaw10_GridApart.j0 : Nat -> Bool -> Int -> Int -> List (S53) -> Option (Bool)
 | 0, _, _, _, _ => none
 | k + 1, x25, x230000, x230001, x230002 => if x25 = true then (some true) else ((some (([] : List (S53)) : List (S53))).bind fun y234 => (if y234.length + x230002.length < 4398046511104 then ((some (y234 ++ x230002 : List (S53))).bind fun y237 => ((grid_Of.f k x230000 x230001 y237).bind fun bt241 => (if bt241.1 = true then (if bt241.2.2.2.2 = 0 then (batonlaw10_GridApart.j1 k false x230000 x230001 x230002 x230000 x230001 y237 bt241.2.1 bt241.2.2.1 bt241.2.2.2.1) else (batonlaw10_GridApart.j1 k true x230000 x230001 x230002 x230000 x230001 y237 bt241.2.1 bt241.2.2.1 bt241.2.2.2.1)) else (if bt241.2.2.2.2 = 0 then (some false) else (some false))))) else (none)))
def batonlaw10_GridApart.j1 : Nat -> Bool -> Int -> Int -> List (S53) -> Int -> Int -> List (S53) -> Int -> Int -> List (S53) -> Option (Bool)
 | 0, _, _, _, _, _, _, _, _, _, _ => none
 | k + 1, x45, x230000, x230001, x230002, x241000, x241001, x241002, x248000, x248001, x248002 => if x45 = true then (some false) else (if 0 < (x241002.length : Int) then ((grid_Board_Grid.f x248000 x248001 x248002).bind fun bt250 => ((grid_Board_Row.f bt250.2.2.2.1 bt250.2.2.2.2.1 bt250.2.2.2.2.2 0).bind fun bt260 => (if (bt250.2.2.1.length : Int) = 0 then (batonlaw10_GridApart.j2 k bt260.1 true x230000 x230001 x230002 bt260.2.1 bt260.2.2.1 bt260.2.2.2 bt250.1 bt250.2.1 bt250.2.2.1) else (batonlaw10_GridApart.j2 k bt260.1 ((bt260.1.length : Int) == 0) x230000 x230001 x230002 bt260.2.1 bt260.2.2.1 bt260.2.2.2 bt250.1 bt250.2.1 bt250.2.2.1)))) else (none))
def batonlaw10_GridApart.j2 : Nat -> List (S53) -> Bool -> Int -> Int -> List (S53) -> Int -> Int -> List (S53) -> Int -> Int -> List (S53) -> Option (Bool)
 | 0, _, _, _, _, _, _, _, _, _, _, _ => none
 | k + 1, x9, x62, x230000, x230001, x230002, x248000, x248001, x248002, x269000, x269001, x269002 => if x62 = true then (some false) else (if 0 < (x269002.length : Int) then (if 0 < (x9.length : Int) then ((grid_Board_Grid.f x248000 x248001 x248002).bind fun bt271 => ((batonref10_Same.f k bt271.1 bt271.2.1 bt271.2.2.1 x230000 x230001 x230002).bind fun t281 => (some t281))) else (none)) else (none))
end
def batonlaw10_GridApart.f (k : Nat) (a0_0 : Int) (a0_1 : Int) (l0_2 : List (S53)) (a1_0 : Int) (a1_1 : Int) (a1_2 : Int) (a1_3 : Int) : Option (Bool) := (batonlaw10_awake.f k).bind fun t231 => (if t231 = true then (if (l0_2.length : Int) > 400 then (batonlaw10_GridApart.j0 k true a0_0 a0_1 l0_2) else ((batonref10_Right.f k a0_0 a0_1 l0_2).bind fun t232 => (if t232 = true then ((batonref09_Right.f a1_0 a1_1 a1_2 a1_3).bind fun t233 => (batonlaw10_GridApart.j0 k (!t233) a0_0 a0_1 l0_2)) else (batonlaw10_GridApart.j0 k true a0_0 a0_1 l0_2)))) else (some false))
theorem batonlaw10_GridApart.mono_l : ∀ k, (∀ y0 y1 y2 y3, LeO (batonlaw10_GridApart.j0 k y0 y1 y2 y3) (batonlaw10_GridApart.j0 (k + 1) y0 y1 y2 y3)) /\ (∀ y0 y1 y2 y3 y4 y5 y6 y7 y8 y9, LeO (batonlaw10_GridApart.j1 k y0 y1 y2 y3 y4 y5 y6 y7 y8 y9) (batonlaw10_GridApart.j1 (k + 1) y0 y1 y2 y3 y4 y5 y6 y7 y8 y9)) /\ (∀ y0 y1 y2 y3 y4 y5 y6 y7 y8 y9 y10, LeO (batonlaw10_GridApart.j2 k y0 y1 y2 y3 y4 y5 y6 y7 y8 y9 y10) (batonlaw10_GridApart.j2 (k + 1) y0 y1 y2 y3 y4 y5 y6 y7 y8 y9 y10))
 | 0 => ⟨fun _ _ _ _ r h => by simp [batonlaw10_GridApart.j0] at h, fun _ _ _ _ _ _ _ _ _ _ r h => by simp [batonlaw10_GridApart.j1] at h, fun _ _ _ _ _ _ _ _ _ _ _ r h => by simp [batonlaw10_GridApart.j2] at h⟩
 | k + 1 => by
  obtain ⟨ih0, ih1, ih2⟩ := batonlaw10_GridApart.mono_l k
  refine ⟨?_, ?_, ?_⟩
  ·intro y0 y1 y2 y3
   unfold batonlaw10_GridApart.j0
   repeat' first
   | (with_reducible exact ih0 _ _ _ _)
   | (with_reducible exact ih1 _ _ _ _ _ _ _ _ _ _)
   | (with_reducible exact ih2 _ _ _ _ _ _ _ _ _ _ _)
   | (with_reducible exact batonlaw10_awake.mono _)
   | (with_reducible exact batonref10_Right.mono _ _ _ _)
   | (with_reducible exact batonref10_Same.mono _ _ _ _ _ _ _)
   | (with_reducible exact grid_Of.mono _ _ _ _)
   | (with_reducible exact LeO.refl _)
   | (with_reducible exact LeO.none _)
   | (with_reducible refine LeO.ite ?_ ?_)
   | (with_reducible refine LeO.bind ?_ (fun _ => ?_))
   | exact ih0 _ _ _ _
   | exact ih1 _ _ _ _ _ _ _ _ _ _
   | exact ih2 _ _ _ _ _ _ _ _ _ _ _
   | exact batonlaw10_awake.mono _
   | exact batonref10_Right.mono _ _ _ _
   | exact batonref10_Same.mono _ _ _ _ _ _ _
   | exact grid_Of.mono _ _ _ _
   | exact LeO.none _
   | refine LeO.ite ?_ ?_
   | refine LeO.bind ?_ (fun _ => ?_)
  ·intro y0 y1 y2 y3 y4 y5 y6 y7 y8 y9
   unfold batonlaw10_GridApart.j1
   repeat' first
   | (with_reducible exact ih0 _ _ _ _)
   | (with_reducible exact ih1 _ _ _ _ _ _ _ _ _ _)
   | (with_reducible exact ih2 _ _ _ _ _ _ _ _ _ _ _)
   | (with_reducible exact batonlaw10_awake.mono _)
   | (with_reducible exact batonref10_Right.mono _ _ _ _)
   | (with_reducible exact batonref10_Same.mono _ _ _ _ _ _ _)
   | (with_reducible exact grid_Of.mono _ _ _ _)
   | (with_reducible exact LeO.refl _)
   | (with_reducible exact LeO.none _)
   | (with_reducible refine LeO.ite ?_ ?_)
   | (with_reducible refine LeO.bind ?_ (fun _ => ?_))
   | exact ih0 _ _ _ _
   | exact ih1 _ _ _ _ _ _ _ _ _ _
   | exact ih2 _ _ _ _ _ _ _ _ _ _ _
   | exact batonlaw10_awake.mono _
   | exact batonref10_Right.mono _ _ _ _
   | exact batonref10_Same.mono _ _ _ _ _ _ _
   | exact grid_Of.mono _ _ _ _
   | exact LeO.none _
   | refine LeO.ite ?_ ?_
   | refine LeO.bind ?_ (fun _ => ?_)
  ·intro y0 y1 y2 y3 y4 y5 y6 y7 y8 y9 y10
   unfold batonlaw10_GridApart.j2
   repeat' first
   | (with_reducible exact ih0 _ _ _ _)
   | (with_reducible exact ih1 _ _ _ _ _ _ _ _ _ _)
   | (with_reducible exact ih2 _ _ _ _ _ _ _ _ _ _ _)
   | (with_reducible exact batonlaw10_awake.mono _)
   | (with_reducible exact batonref10_Right.mono _ _ _ _)
   | (with_reducible exact batonref10_Same.mono _ _ _ _ _ _ _)
   | (with_reducible exact grid_Of.mono _ _ _ _)
   | (with_reducible exact LeO.refl _)
   | (with_reducible exact LeO.none _)
   | (with_reducible refine LeO.ite ?_ ?_)
   | (with_reducible refine LeO.bind ?_ (fun _ => ?_))
   | exact ih0 _ _ _ _
   | exact ih1 _ _ _ _ _ _ _ _ _ _
   | exact ih2 _ _ _ _ _ _ _ _ _ _ _
   | exact batonlaw10_awake.mono _
   | exact batonref10_Right.mono _ _ _ _
   | exact batonref10_Same.mono _ _ _ _ _ _ _
   | exact grid_Of.mono _ _ _ _
   | exact LeO.none _
   | refine LeO.ite ?_ ?_
   | refine LeO.bind ?_ (fun _ => ?_)
theorem batonlaw10_GridApart.mono : ∀ a0 a1 a2 a3 a4 a5 a6 k, LeO (batonlaw10_GridApart.f k a0 a1 a2 a3 a4 a5 a6) (batonlaw10_GridApart.f (k + 1) a0 a1 a2 a3 a4 a5 a6) := by
 intro a0 a1 a2 a3 a4 a5 a6 k
 obtain ⟨ih0, ih1, ih2⟩ := batonlaw10_GridApart.mono_l k
 unfold batonlaw10_GridApart.f
 repeat' first
   | (with_reducible exact ih0 _ _ _ _)
   | (with_reducible exact ih1 _ _ _ _ _ _ _ _ _ _)
   | (with_reducible exact ih2 _ _ _ _ _ _ _ _ _ _ _)
   | (with_reducible exact batonlaw10_awake.mono _)
   | (with_reducible exact batonref10_Right.mono _ _ _ _)
   | (with_reducible exact batonref10_Same.mono _ _ _ _ _ _ _)
   | (with_reducible exact grid_Of.mono _ _ _ _)
   | (with_reducible exact LeO.refl _)
   | (with_reducible exact LeO.none _)
   | (with_reducible refine LeO.ite ?_ ?_)
   | (with_reducible refine LeO.bind ?_ (fun _ => ?_))
   | exact ih0 _ _ _ _
   | exact ih1 _ _ _ _ _ _ _ _ _ _
   | exact ih2 _ _ _ _ _ _ _ _ _ _ _
   | exact batonlaw10_awake.mono _
   | exact batonref10_Right.mono _ _ _ _
   | exact batonref10_Same.mono _ _ _ _ _ _ _
   | exact grid_Of.mono _ _ _ _
   | exact LeO.none _
   | refine LeO.ite ?_ ?_
   | refine LeO.bind ?_ (fun _ => ?_)
def batonlaw10_GridApart.T5 : Bool × List (List Nat × List Nat) := (true, [([], []), ([0], [0]), ([], []), ([2], [2]), ([], []), ([], []), ([5], [5]), ([4, 6], [4, 6]), ([1, 3, 7], [1, 3, 7]), ([], []), ([9, 8, 7, 0, 1, 2, 3, 4, 5, 6, 7, 8, 9], [8, 9])])
def batonlaw10_GridApart.B5 : List Nat := [0, 1, 0, 4, 0, 0, 32, 112, 255, 0, 1023]
theorem batonlaw10_GridApart.tab5 : rtab .any (opsOf Try.f10 5) = batonlaw10_GridApart.T5 := by kernel_rfl
theorem batonlaw10_GridApart.bits5 : waitsOk batonlaw10_GridApart.T5.2 batonlaw10_GridApart.B5 = true := by kernel_rfl
theorem bc8_ {W : World} {g : Nat} {cs : Array Value} {t : TypeId} (h : Aside0 (W.heap[g]? = some (.cells cs t (0, 0)))) (j : Nat) {v : Value} (hv : cs[j]? = some v := by rfl) : W.cell? ⟨g, j, none⟩ = some v := (blk_cell h.out j).trans hv
abbrev m8_0 : Array Bool := #[false, false, false, false, false, false, false, false, false, false, false]
abbrev m8_2 : Array Bool := #[true, false, false, false, false, false, false, false, false, false, false]
abbrev m8_4 : Array Bool := #[true, false, true, false, false, false, false, false, false, false, false]
abbrev m8_5 : Array Bool := #[true, false, true, false, false, true, false, false, false, false, false]
abbrev m8_7 : Array Bool := #[true, true, true, false, false, true, false, false, false, false, false]
abbrev m8_9 : Array Bool := #[true, true, true, true, false, true, false, false, false, false, false]
abbrev m8_10 : Array Bool := #[true, true, true, true, false, true, true, false, false, false, false]
abbrev m8_11 : Array Bool := #[true, true, true, true, false, true, true, false, false, true, false]
abbrev m8_13 : Array Bool := #[true, true, true, true, true, true, true, false, false, false, false]
abbrev m8_14 : Array Bool := #[true, true, true, true, true, true, true, false, false, true, false]
abbrev m8_15 : Array Bool := #[true, true, true, true, true, true, true, true, false, false, false]
abbrev m8_16 : Array Bool := #[true, true, true, true, true, true, true, true, false, true, false]
abbrev m8_17 : Array Bool := #[true, true, true, true, true, true, true, true, true, false, false]
abbrev m8_18 : Array Bool := #[true, true, true, true, true, true, true, true, true, true, false]
abbrev m8_19 : Array Bool := #[true, true, true, true, true, true, true, true, true, true, true]
theorem A8_ {p : Prop} (h : p) : Aside0 p := ⟨h⟩
theorem q8_2 {p : Prop} (h : p := by (with_reducible repeat (first | refine blk_drewN ?_ _ | refine blk_drew ?_ | refine blk_alloc ?_ _)); exact BK230.out) : p := h
theorem q8_3 {p : Prop} (h : p := by repeat (first | (with_reducible first | exact HB.out | apply below_alloc | apply pw_below_drewN | apply below_drew1 | refine below_set ?_ GE229.out | refine below_set ?_ GE230.out) | exact HB.out)) : p := h
theorem q8_4 {p : Prop} (h : p := by (with_reducible repeat (first | refine blk_drewN ?_ _ | refine blk_drew ?_ | refine blk_alloc ?_ _)); exact BK229.out) : p := h
theorem q8_5 {p : Prop} (h : p := by repeat (first | (with_reducible first | exact HB.out | apply below_alloc | apply pw_below_drewN | apply below_drew1 | refine below_set ?_ GE229.out | refine below_set ?_ GE230.out | refine below_set ?_ GE240.out) | exact HB.out)) : p := h
theorem q8_6 {p : Prop} (h : p := by (with_reducible repeat (first | refine blk_drewN ?_ _ | refine blk_drew ?_ | refine blk_alloc ?_ _)); refine blk_far ?_ NB230_240.out _; (with_reducible repeat (first | refine blk_drewN ?_ _ | refine blk_drew ?_ | refine blk_alloc ?_ _)); refine blk_far ?_ NB230_240.out _; (with_reducible repeat (first | refine blk_drewN ?_ _ | refine blk_drew ?_ | refine blk_alloc ?_ _)); refine blk_far ?_ NB230_240.out _; (with_reducible repeat (first | refine blk_drewN ?_ _ | refine blk_drew ?_ | refine blk_alloc ?_ _)); exact BK230.out) : p := h
theorem q8_7 {p : Prop} (h : p := by (with_reducible repeat (first | refine blk_drewN ?_ _ | refine blk_drew ?_ | refine blk_alloc ?_ _)); exact BK240.out) : p := h
theorem q8_8 {p : Prop} (h : p := by (with_reducible repeat (first | refine blk_drewN ?_ _ | refine blk_drew ?_ | refine blk_alloc ?_ _)); refine blk_put (cs := #[.int .i64 a0_0, .int .i64 a0_1, .slice none 0 0]) ?_ 2 _ rfl; (with_reducible repeat (first | refine blk_drewN ?_ _ | refine blk_drew ?_ | refine blk_alloc ?_ _)); refine blk_put (cs := #[.int .i64 a0_0, .int .i64 0, .slice none 0 0]) ?_ 1 _ rfl; (with_reducible repeat (first | refine blk_drewN ?_ _ | refine blk_drew ?_ | refine blk_alloc ?_ _)); refine blk_put (cs := #[.int .i64 0, .int .i64 0, .slice none 0 0]) ?_ 0 _ rfl; (with_reducible repeat (first | refine blk_drewN ?_ _ | refine blk_drew ?_ | refine blk_alloc ?_ _)); exact BK240.out) : p := h
theorem q8_9 {p : Prop} (h : p := by (with_reducible repeat (first | refine blk_drewN ?_ _ | refine blk_drew ?_ | refine blk_alloc ?_ _)); refine blk_far ?_ NB229_240.out _; (with_reducible repeat (first | refine blk_drewN ?_ _ | refine blk_drew ?_ | refine blk_alloc ?_ _)); refine blk_far ?_ NB229_240.out _; (with_reducible repeat (first | refine blk_drewN ?_ _ | refine blk_drew ?_ | refine blk_alloc ?_ _)); refine blk_far ?_ NB229_240.out _; (with_reducible repeat (first | refine blk_drewN ?_ _ | refine blk_drew ?_ | refine blk_alloc ?_ _)); exact BK229.out) : p := h
theorem q8_10 {p : Prop} (h : p := by (with_reducible repeat (first | apply Kd.R_alloc | apply Kd.R_drewN | apply Kd.R_drew)); exact HO239.out) : p := h
theorem q8_11 {p : Prop} (h : p := by (try simp only [List.map_toArray, List.map_cons, List.map_nil]); first | done | rfl | (simp only [List.length_drop, List.length_take]; rfl)) : p := h
theorem q8_12 {p : Prop} (h : p := by (with_reducible repeat (first | apply Kd.R_alloc | apply Kd.R_drewN | apply Kd.R_drew)); exact Kd.R_mono HO236.out (fun _ hk => hk.2)) : p := h
theorem q8_13 {p : Prop} (h : p := by (with_reducible repeat (first | apply Kd.R_alloc | apply Kd.R_drewN | apply Kd.R_drew)); exact HO_241002.out) : p := h
theorem q8_14 {p : Prop} (h : p := by repeat (first | (with_reducible first | exact HB.out | apply below_alloc | apply pw_below_drewN | apply below_drew1 | refine below_set ?_ GE229.out) | exact HB.out)) : p := h
theorem q8_15 {p : Prop} (h : p := by (with_reducible repeat (first | apply Kd.R_alloc | apply Kd.R_drewN | apply Kd.R_drew)); exact (Kd.R_mono (Kd.R_far (p := ⟨gb240, 2, none⟩) (Kd.R_far (p := ⟨gb240, 1, none⟩) (Kd.R_far (p := ⟨gb240, 0, none⟩) (Kd.R_types HO239.out BK240.out (by decide)) (fun _ hk => hk.2) (.int .i64 a0_0)) (fun _ hk => hk.2) (.int .i64 a0_1)) (fun _ hk => hk.2) (.slice Ao131 y237.length co131)) (fun _ h_ => h_.1))) : p := h
theorem q8_16 {p : Prop} (h : p := by (with_reducible repeat (first | apply Kd.R_alloc | apply Kd.R_drewN | apply Kd.R_drew)); exact (Kd.R_mono (Kd.R_far (p := ⟨gb240, 2, none⟩) (Kd.R_far (p := ⟨gb240, 1, none⟩) (Kd.R_far (p := ⟨gb240, 0, none⟩) (Kd.R_types HO239.out BK240.out (by decide)) (fun _ hk => hk.2) (.int .i64 a0_0)) (fun _ hk => hk.2) (.int .i64 a0_1)) (fun _ hk => hk.2) (.slice Ao116 y237.length co116)) (fun _ h_ => h_.1))) : p := h
theorem q8_17 {p : Prop} (h : p := by (with_reducible repeat (first | apply Kd.R_alloc | apply Kd.R_drewN | apply Kd.R_drew)); exact (Kd.R_mono (Kd.R_far (p := ⟨gb240, 2, none⟩) (Kd.R_far (p := ⟨gb240, 1, none⟩) (Kd.R_far (p := ⟨gb240, 0, none⟩) (Kd.R_types HO239.out BK240.out (by decide)) (fun _ hk => hk.2) (.int .i64 a0_0)) (fun _ hk => hk.2) (.int .i64 a0_1)) (fun _ hk => hk.2) (.slice Ao35 y237.length co35)) (fun _ h_ => h_.1))) : p := h
theorem q8_18 {p : Prop} (h : p := by simp only [putAll, Act.put, setIfInBounds_toArray, set_cons_zero, set_cons_succ]) : p := h
theorem q8_19 {p : Prop} (h : p := by kernel_rfl) : p := h
theorem q8_20 {p : Prop} (h : p := by (with_reducible repeat (first | refine blk_drewN ?_ _ | refine blk_drew ?_ | refine blk_alloc ?_ _)); exact BK247.out) : p := h
theorem q8_21 {p : Prop} (h : p := by decide) : p := h
theorem q8_22 {p : Prop} (h : p := by repeat (first | (with_reducible first | exact HB.out | apply below_alloc | apply pw_below_drewN | apply below_drew1) | exact HB.out)) : p := h
theorem q8_23 {p : Prop} (h : p := by repeat (first | (with_reducible first | exact HB.out | apply below_alloc | apply pw_below_drewN | apply below_drew1 | refine below_set ?_ GE229.out | refine below_set ?_ GE230.out | refine below_set ?_ GE240.out | refine below_set ?_ GE247.out) | exact HB.out)) : p := h
theorem q8_24 {p : Prop} (h : p := by first | (with_reducible assumption) | assumption) : p := h
theorem q8_25 {p : Prop} (h : p := by (with_reducible repeat (first | refine blk_drewN ?_ _ | refine blk_drew ?_ | refine blk_alloc ?_ _)); exact BK268.out) : p := h
theorem q8_26 {p : Prop} (h : p := by (with_reducible repeat (first | apply Kd.R_alloc | apply Kd.R_drewN | apply Kd.R_drew)); exact HO_269002.out) : p := h
theorem q8_27 {p : Prop} (h : p := by (with_reducible repeat (first | apply Kd.R_alloc | apply Kd.R_drewN | apply Kd.R_drew)); exact HO_9.out) : p := h
theorem q8_28 {p : Prop} (h : p := by first | rfl | (simp; done) | (simp [*]; done)) : p := h
theorem q8_29 {p : Prop} (h : p := by (with_reducible repeat (first | apply Kd.R_alloc | apply Kd.R_drewN | apply Kd.R_drew)); exact HO254.out) : p := h
theorem q8_30 {p : Prop} (h : p := by (with_reducible repeat (first | apply Kd.R_alloc | apply Kd.R_drewN | apply Kd.R_drew)); exact HO236.out) : p := h
theorem q8_31 {p : Prop} (h : p := by omega) : p := h
set_option maxHeartbeats 8000000 in
set_option maxRecDepth 100000 in
theorem batonlaw10_GridApart.calls (k : Nat) (a0_0 : Int) (a0_1 : Int) (A0_2 : Option Addr) (c0_2 : Nat) (l0_2 : List (S53)) (a1_0 : Int) (a1_1 : Int) (a1_2 : Int) (a1_3 : Int) (r : Bool) (w : World) (hr0_2 : Kd.C k53 w A0_2 l0_2.length l0_2) (hc0_2 : l0_2.length <= c0_2) (h : batonlaw10_GridApart.f k a0_0 a0_1 l0_2 a1_0 a1_1 a1_2 a1_3 = some r) :
  Calls Try.prog 10 #[.agg #[.int .i64 a0_0, .int .i64 a0_1, .slice A0_2 l0_2.length c0_2], .agg #[.int .i32 a1_0, .int .i64 a1_1, .int .i64 a1_2, .int .i64 a1_3]] w fun e w' => e = .returned (.bool r) /\ Below w.heap.size w w' := by
 have hu75 := Try.underlying75
 have hu53 := Try.underlying53
 have HR0_2 := A8_ hr0_2
 have HC0_2 := A8_ hc0_2
 clear hr0_2 hc0_2
 have HB := A8_ (Below.refl w.heap.size w)
 have H : ((batonlaw10_awake.f k).bind fun t231 => (if t231 = true then (if (l0_2.length : Int) > 400 then (batonlaw10_GridApart.j0 k true a0_0 a0_1 l0_2) else ((batonref10_Right.f k a0_0 a0_1 l0_2).bind fun t232 => (if t232 = true then ((batonref09_Right.f a1_0 a1_1 a1_2 a1_3).bind fun t233 => (batonlaw10_GridApart.j0 k (!t233) a0_0 a0_1 l0_2)) else (batonlaw10_GridApart.j0 k true a0_0 a0_1 l0_2)))) else (some false))) = some r := h
 clear h
 replace H := Option.bind_eq_some_iff.mp H
 obtain ⟨t231, A30, H⟩ := H
 replace H : (if t231 = true then (if (l0_2.length : Int) > 400 then (batonlaw10_GridApart.j0 k true a0_0 a0_1 l0_2) else ((batonref10_Right.f k a0_0 a0_1 l0_2).bind fun t232 => (if t232 = true then ((batonref09_Right.f a1_0 a1_1 a1_2 a1_3).bind fun t233 => (batonlaw10_GridApart.j0 k (!t233) a0_0 a0_1 l0_2)) else (batonlaw10_GridApart.j0 k true a0_0 a0_1 l0_2)))) else (some false)) = some r := H
 have A3 := A8_ A30
 clear A30
 by_cases c4 : t231 = true
 ·subst c4
  have H1 : (if (l0_2.length : Int) > 400 then (batonlaw10_GridApart.j0 k true a0_0 a0_1 l0_2) else ((batonref10_Right.f k a0_0 a0_1 l0_2).bind fun t232 => (if t232 = true then ((batonref09_Right.f a1_0 a1_1 a1_2 a1_3).bind fun t233 => (batonlaw10_GridApart.j0 k (!t233) a0_0 a0_1 l0_2)) else (batonlaw10_GridApart.j0 k true a0_0 a0_1 l0_2)))) = some r := by rw [if_pos rfl] at H; exact H
  clear H; have H := H1; clear H1
  have HC5 := A8_ H
  clear H
  go_enter Try.func10, Try.ntmps10
  go_upto_region 3 with (first | ((with_reducible refine gate_dst (N := 2) rfl ?_); (try (refine gate_guard (by rfl) ?_; dsimp only)); refine box_event ?hg (N := 2) ?hd (cs := #[.int .i64 a0_0, .int .i64 a0_1, .slice A0_2 l0_2.length c0_2]) (t := 75) ?hr ?_; (case hd => rfl); (case hg => rfl); (case hr => first | (go_simp; done) | (go_simp; rfl)); intro gb229 hg w6 hbox hb; have n0_ := A8_ (below_step q8_22 hb); have n1_ := A8_ (hbox); have n2_ := A8_ ((by rw [hg]; exact (below_size q8_22) : w.heap.size <= gb229)); have n3_ := A8_ ((by rw [hg]; exact (below_size q8_22) : w.heap.size <= gb229)); clear HB; have HB := n0_; have BK229 := n1_; have GW229 := n2_; have GE229 := n3_; clear n0_ n1_ n2_ n3_; clear hb hbox hg) | ((with_reducible refine gate_dst (N := 3) rfl ?_); (try (refine gate_guard (by rfl) ?_; dsimp only)); refine box_event ?hg (N := 3) ?hd (cs := #[.int .i32 a1_0, .int .i64 a1_1, .int .i64 a1_2, .int .i64 a1_3]) (t := 53) ?hr ?_; (case hd => rfl); (case hg => rfl); (case hr => first | (go_simp; done) | (go_simp; rfl)); intro gb230 hg w7 hbox hb; have n0_ := A8_ (blk_below (g := gb229) (o := .cells #[.int .i64 a0_0, .int .i64 a0_1, .slice A0_2 l0_2.length c0_2] 75 (0, 0)) q8_4 hb); have n1_ := A8_ (below_step q8_14 hb); have n2_ := A8_ (hbox); have n3_ := A8_ ((by rw [hg]; exact (below_size q8_14) : w.heap.size <= gb230)); have n4_ := A8_ ((by rw [hg]; exact (below_size q8_14) : w.heap.size <= gb230)); have n5_ := A8_ ((by rw [hg]; exact Nat.ne_of_lt (blk_lt (g := gb229) (o := .cells #[.int .i64 a0_0, .int .i64 a0_1, .slice A0_2 l0_2.length c0_2] 75 (0, 0)) q8_4) : gb229 ≠ gb230)); have n6_ := A8_ ((by rw [hg]; exact Nat.ne_of_gt (blk_lt (g := gb229) (o := .cells #[.int .i64 a0_0, .int .i64 a0_1, .slice A0_2 l0_2.length c0_2] 75 (0, 0)) q8_4) : gb230 ≠ gb229)); clear BK229 HB; have BK229 := n0_; have HB := n1_; have BK230 := n2_; have GW230 := n3_; have GE230 := n4_; have NB229_230 := n5_; have NB230_229 := n6_; clear n0_ n1_ n2_ n3_ n4_ n5_ n6_; clear hb hbox hg) | ((with_reducible refine gate_callee (f := 46) rfl ?_); refine goesL_ (some 10) rfl rfl Try.func46 q8_19 rfl #[] rfl q8_11 ?_; (with_reducible refine (batonlaw10_awake.calls k  true _ A3.out).mono ?_); rintro e w8 ⟨rfl, hb⟩; refine ⟨_, rfl, ?_⟩; have n0_ := A8_ (blk_below (g := gb229) (o := .cells #[.int .i64 a0_0, .int .i64 a0_1, .slice A0_2 l0_2.length c0_2] 75 (0, 0)) q8_4 hb); have n1_ := A8_ (blk_below (g := gb230) (o := .cells #[.int .i32 a1_0, .int .i64 a1_1, .int .i64 a1_2, .int .i64 a1_3] 53 (0, 0)) q8_2 hb); have n2_ := A8_ (below_step q8_3 hb); clear BK229 BK230 HB; have BK229 := n0_; have BK230 := n1_; have HB := n2_; clear n0_ n1_ n2_; (try clear hb); (try clear hb2); (try clear hk); (try clear hi)))
  (try simp only [Act.put, setIfInBounds_toArray, set_cons_zero, set_cons_succ])
  go_cut [25] (fun v25 wc => ∃ (kq : Nat) (x25_4 : Bool), v25 = .bool x25_4 /\ Aside0 (batonlaw10_GridApart.j0 kq x25_4 a0_0 a0_1 l0_2 = some r) /\ Aside0 (kq <= k) /\ Aside0 (wc.heap[gb229]? = some (.cells #[.int .i64 a0_0, .int .i64 a0_1, (.slice A0_2 l0_2.length c0_2)] 75 (0, 0))) /\ Aside0 (wc.heap[gb230]? = some (.cells #[.int .i32 a1_0, .int .i64 a1_1, .int .i64 a1_2, .int .i64 a1_3] 53 (0, 0))) /\ Aside0 (Below w.heap.size w wc))
  case first =>
   have H := HC5.out
   clear HC5
   by_cases c9 : (l0_2.length : Int) > 400
   ·rw [if_pos c9] at H
    have c9b0 : decide (400 < (l0_2.length : Int)) = true := decide_eq_true c9
    have c9b1 : decide (400 < l0_2.length) = true := decide_eq_true q8_31
    clear c9
    (first | rw [c9b0] | (simp only [i64_w, i32_w]; rw [c9b0]) | rw [c9b1] | rw [c9b2] | skip)
    have H' := A8_ H
    clear H
    have hnb10 := NB229_230.out
    have hnc10 := NB230_229.out
    have hcz11_0 : w8.cell? ⟨gb229, 0, none⟩ = some (.int .i64 a0_0) := bc8_ BK229 0
    have hcz11_1 : w8.cell? ⟨gb229, 1, none⟩ = some (.int .i64 a0_1) := bc8_ BK229 1
    have hcz11_2 : w8.cell? ⟨gb229, 2, none⟩ = some (.slice A0_2 l0_2.length c0_2) := bc8_ BK229 2
    have hfz11_0 := blk_frozen BK229.out 0
    have hfz11_1 := blk_frozen BK229.out 1
    have hfz11_2 := blk_frozen BK229.out 2
    go_wp2
    go_meet
    case rel => exact ⟨_, (true), q8_28, H', ⟨by first | omega | exact Nat.le_refl _⟩, ⟨by (with_reducible repeat (first | refine blk_drewN ?_ _ | refine blk_drew ?_ | refine blk_alloc ?_ _)); exact BK229.out⟩, ⟨by (with_reducible repeat (first | refine blk_drewN ?_ _ | refine blk_drew ?_ | refine blk_alloc ?_ _)); exact BK230.out⟩, ⟨by repeat (first | (with_reducible first | exact HB.out | apply below_alloc | apply pw_below_drewN | apply below_drew1 | refine below_set ?_ GE229.out | refine below_set ?_ GE230.out) | exact HB.out)⟩⟩
   ·rw [if_neg c9] at H
    have c9b0 : decide (400 < (l0_2.length : Int)) = false := decide_eq_false c9
    have c9b1 : decide (400 < l0_2.length) = false := decide_eq_false q8_31
    clear c9
    (first | rw [c9b0] | (simp only [i64_w, i32_w]; rw [c9b0]) | rw [c9b1] | rw [c9b2] | skip)
    replace H := Option.bind_eq_some_iff.mp H
    obtain ⟨t232, A120, H⟩ := H
    replace H : (if t232 = true then ((batonref09_Right.f a1_0 a1_1 a1_2 a1_3).bind fun t233 => (batonlaw10_GridApart.j0 k (!t233) a0_0 a0_1 l0_2)) else (batonlaw10_GridApart.j0 k true a0_0 a0_1 l0_2)) = some r := H
    have A12 := A8_ A120
    clear A120
    by_cases c13 : t232 = true
    ·subst c13
     have H1 : ((batonref09_Right.f a1_0 a1_1 a1_2 a1_3).bind fun t233 => (batonlaw10_GridApart.j0 k (!t233) a0_0 a0_1 l0_2)) = some r := by rw [if_pos rfl] at H; exact H
     clear H; have H := H1; clear H1
     replace H := Option.bind_eq_some_iff.mp H
     obtain ⟨t233, A140, H⟩ := H
     replace H : (batonlaw10_GridApart.j0 k (!t233) a0_0 a0_1 l0_2) = some r := H
     have A14 := A8_ A140
     clear A140
     have H' := A8_ H
     clear H
     have hnb15 := NB229_230.out
     have hnc15 := NB230_229.out
     have hcz16_0 : w8.cell? ⟨gb229, 0, none⟩ = some (.int .i64 a0_0) := bc8_ BK229 0
     have hcz16_1 : w8.cell? ⟨gb229, 1, none⟩ = some (.int .i64 a0_1) := bc8_ BK229 1
     have hcz16_2 : w8.cell? ⟨gb229, 2, none⟩ = some (.slice A0_2 l0_2.length c0_2) := bc8_ BK229 2
     have hfz16_0 := blk_frozen BK229.out 0
     have hfz16_1 := blk_frozen BK229.out 1
     have hfz16_2 := blk_frozen BK229.out 2
     go_wp2_with (first | (go_at_call 47; (with_reducible refine (batonref10_Right.calls k a0_0 a0_1 _ _ l0_2 true _ ?side1 ?side2 A12.out).mono ?_); (case side1 => repeat (first | exact (Kd.C_below HR0_2.out HB.out) | (with_reducible refine Kd.C_alloc ?_ _) | (with_reducible refine Kd.C_drewN ?_ _) | (with_reducible refine Kd.C_drew ?_))); (case side2 => exact HC0_2.out); rintro e w17 ⟨rfl, hb⟩; have n0_ := A8_ (blk_below (g := gb229) (o := .cells #[.int .i64 a0_0, .int .i64 a0_1, .slice A0_2 l0_2.length c0_2] 75 (0, 0)) q8_4 hb); have n1_ := A8_ (blk_below (g := gb230) (o := .cells #[.int .i32 a1_0, .int .i64 a1_1, .int .i64 a1_2, .int .i64 a1_3] 53 (0, 0)) q8_2 hb); have n2_ := A8_ (below_step q8_3 hb); clear BK229 BK230 HB; have BK229 := n0_; have BK230 := n1_; have HB := n2_; clear n0_ n1_ n2_; (try clear hb); (try clear hb2); (try clear hk); (try clear hi); have hcz18_0 : w17.cell? ⟨gb230, 0, none⟩ = some (.int .i32 a1_0) := bc8_ BK230 0; have hcz18_1 : w17.cell? ⟨gb230, 1, none⟩ = some (.int .i64 a1_1) := bc8_ BK230 1; have hcz18_2 : w17.cell? ⟨gb230, 2, none⟩ = some (.int .i64 a1_2) := bc8_ BK230 2; have hcz18_3 : w17.cell? ⟨gb230, 3, none⟩ = some (.int .i64 a1_3) := bc8_ BK230 3; have hfz18_0 := blk_frozen BK230.out 0; have hfz18_1 := blk_frozen BK230.out 1; have hfz18_2 := blk_frozen BK230.out 2; have hfz18_3 := blk_frozen BK230.out 3) | (go_at_call 36; (with_reducible refine (batonref09_Right.calls a1_0 a1_1 a1_2 a1_3 t233 _ A14.out).mono ?_); rintro e w19 ⟨rfl, hb⟩; have n0_ := A8_ (blk_below (g := gb229) (o := .cells #[.int .i64 a0_0, .int .i64 a0_1, .slice A0_2 l0_2.length c0_2] 75 (0, 0)) q8_4 hb); have n1_ := A8_ (blk_below (g := gb230) (o := .cells #[.int .i32 a1_0, .int .i64 a1_1, .int .i64 a1_2, .int .i64 a1_3] 53 (0, 0)) q8_2 hb); have n2_ := A8_ (below_step q8_3 hb); clear BK229 BK230 HB; have BK229 := n0_; have BK230 := n1_; have HB := n2_; clear n0_ n1_ n2_; (try clear hb); (try clear hb2); (try clear hk); (try clear hi)))
     go_meet
     case rel => exact ⟨_, (!t233), q8_28, H', ⟨by first | omega | exact Nat.le_refl _⟩, ⟨by (with_reducible repeat (first | refine blk_drewN ?_ _ | refine blk_drew ?_ | refine blk_alloc ?_ _)); exact BK229.out⟩, ⟨by (with_reducible repeat (first | refine blk_drewN ?_ _ | refine blk_drew ?_ | refine blk_alloc ?_ _)); exact BK230.out⟩, ⟨by repeat (first | (with_reducible first | exact HB.out | apply below_alloc | apply pw_below_drewN | apply below_drew1 | refine below_set ?_ GE229.out | refine below_set ?_ GE230.out) | exact HB.out)⟩⟩
    ·replace c13 := Bool.eq_false_iff.mpr c13
     subst c13
     have H1 : (batonlaw10_GridApart.j0 k true a0_0 a0_1 l0_2) = some r := by rw [if_neg (show ¬ (false = true) by decide)] at H; exact H
     clear H; have H := H1; clear H1
     have H' := A8_ H
     clear H
     have hnb20 := NB229_230.out
     have hnc20 := NB230_229.out
     have hcz21_0 : w8.cell? ⟨gb229, 0, none⟩ = some (.int .i64 a0_0) := bc8_ BK229 0
     have hcz21_1 : w8.cell? ⟨gb229, 1, none⟩ = some (.int .i64 a0_1) := bc8_ BK229 1
     have hcz21_2 : w8.cell? ⟨gb229, 2, none⟩ = some (.slice A0_2 l0_2.length c0_2) := bc8_ BK229 2
     have hfz21_0 := blk_frozen BK229.out 0
     have hfz21_1 := blk_frozen BK229.out 1
     have hfz21_2 := blk_frozen BK229.out 2
     go_wp2_with (first | (go_at_call 47; (with_reducible refine (batonref10_Right.calls k a0_0 a0_1 _ _ l0_2 false _ ?side1 ?side2 A12.out).mono ?_); (case side1 => repeat (first | exact (Kd.C_below HR0_2.out HB.out) | (with_reducible refine Kd.C_alloc ?_ _) | (with_reducible refine Kd.C_drewN ?_ _) | (with_reducible refine Kd.C_drew ?_))); (case side2 => exact HC0_2.out); rintro e w22 ⟨rfl, hb⟩; have n0_ := A8_ (blk_below (g := gb229) (o := .cells #[.int .i64 a0_0, .int .i64 a0_1, .slice A0_2 l0_2.length c0_2] 75 (0, 0)) q8_4 hb); have n1_ := A8_ (blk_below (g := gb230) (o := .cells #[.int .i32 a1_0, .int .i64 a1_1, .int .i64 a1_2, .int .i64 a1_3] 53 (0, 0)) q8_2 hb); have n2_ := A8_ (below_step q8_3 hb); clear BK229 BK230 HB; have BK229 := n0_; have BK230 := n1_; have HB := n2_; clear n0_ n1_ n2_; (try clear hb); (try clear hb2); (try clear hk); (try clear hi)))
     go_meet
     case rel => exact ⟨_, (true), q8_28, H', ⟨by first | omega | exact Nat.le_refl _⟩, ⟨by (with_reducible repeat (first | refine blk_drewN ?_ _ | refine blk_drew ?_ | refine blk_alloc ?_ _)); exact BK229.out⟩, ⟨by (with_reducible repeat (first | refine blk_drewN ?_ _ | refine blk_drew ?_ | refine blk_alloc ?_ _)); exact BK230.out⟩, ⟨by repeat (first | (with_reducible first | exact HB.out | apply below_alloc | apply pw_below_drewN | apply below_drew1 | refine below_set ?_ GE229.out | refine below_set ?_ GE230.out) | exact HB.out)⟩⟩
  case rest =>
   clear HC5
   try clear c1
   try clear c2
   try clear p2
   try clear c4
   try clear c9
   try clear c9b0
   try clear c9b1
   try clear c9b2
   try clear c10
   try clear c13
   try clear c15
   try clear c20
   try clear hcz11_0
   try clear hcz11_1
   try clear hcz11_2
   try clear hcz16_0
   try clear hcz16_1
   try clear hcz16_2
   try clear hcz18_0
   try clear hcz18_1
   try clear hcz18_2
   try clear hcz18_3
   try clear hcz21_0
   try clear hcz21_1
   try clear hcz21_2
   try clear hfz11_0
   try clear hfz11_1
   try clear hfz11_2
   try clear hfz16_0
   try clear hfz16_1
   try clear hfz16_2
   try clear hfz18_0
   try clear hfz18_1
   try clear hfz18_2
   try clear hfz18_3
   try clear hfz21_0
   try clear hfz21_1
   try clear hfz21_2
   obtain ⟨kq, x25_4, rfl, HA, HJ4, BK229, BK230, HB⟩ := hcut
   cases kq with
   | zero => exact absurd HA.out (by simp [batonlaw10_GridApart.j0])
   | succ kj4 =>
    have H := HA.out
    clear HA
    simp only [batonlaw10_GridApart.j0] at H
    by_cases c23 : x25_4 = true
    ·subst c23
     have H1 : (some true) = some r := by rw [if_pos rfl] at H; exact H
     clear H; have H := H1; clear H1
     obtain rfl := Option.some.inj H
     go_wp2
     go_ret
     exact ⟨by first | rfl | (simp [errW_none, errW_some] <;> rfl) | (simp [*, errW_none, errW_some] <;> rfl), by repeat (first | (with_reducible first | exact HB.out | apply below_alloc | apply pw_below_drewN | apply below_drew1 | refine below_set ?_ GE229.out | refine below_set ?_ GE230.out) | exact HB.out)⟩
    ·replace c23 := Bool.eq_false_iff.mpr c23
     subst c23
     have H1 : ((some (([] : List (S53)) : List (S53))).bind fun y234 => (if y234.length + l0_2.length < 4398046511104 then ((some (y234 ++ l0_2 : List (S53))).bind fun y237 => ((grid_Of.f kj4 a0_0 a0_1 y237).bind fun bt241 => (if bt241.1 = true then (if bt241.2.2.2.2 = 0 then (batonlaw10_GridApart.j1 kj4 false a0_0 a0_1 l0_2 a0_0 a0_1 y237 bt241.2.1 bt241.2.2.1 bt241.2.2.2.1) else (batonlaw10_GridApart.j1 kj4 true a0_0 a0_1 l0_2 a0_0 a0_1 y237 bt241.2.1 bt241.2.2.1 bt241.2.2.2.1)) else (if bt241.2.2.2.2 = 0 then (some false) else (some false))))) else (none))) = some r := by rw [if_neg (show ¬ (false = true) by decide)] at H; exact H
     clear H; have H := H1; clear H1
     obtain ⟨y234, hy234⟩ : ∃ y_ : List (S53), y_ = (([] : List (S53))) := ⟨_, rfl⟩
     replace H : (if y234.length + l0_2.length < 4398046511104 then ((some (y234 ++ l0_2 : List (S53))).bind fun y237 => ((grid_Of.f kj4 a0_0 a0_1 y237).bind fun bt241 => (if bt241.1 = true then (if bt241.2.2.2.2 = 0 then (batonlaw10_GridApart.j1 kj4 false a0_0 a0_1 l0_2 a0_0 a0_1 y237 bt241.2.1 bt241.2.2.1 bt241.2.2.2.1) else (batonlaw10_GridApart.j1 kj4 true a0_0 a0_1 l0_2 a0_0 a0_1 y237 bt241.2.1 bt241.2.2.1 bt241.2.2.2.1)) else (if bt241.2.2.2.2 = 0 then (some false) else (some false))))) else (none)) = some r := by first | (rw [hy234]; with_reducible exact H) | (have H2_ := (Option.bind_some _ _).symm.trans H; rw [hy234]; with_reducible exact H2_) | (have H2_ := (Option.bind_some _ _).symm.trans H; with_reducible exact H2_) | with_reducible exact H | (rw [hy234]; exact H) | exact H
     have Ny234 := A8_ hy234
     clear hy234
     by_cases c24 : y234.length + l0_2.length < 4398046511104
     ·rw [if_pos c24] at H
      have LMc24 := A8_ c24
      clear c24
      obtain ⟨y237, hy237⟩ : ∃ y_ : List (S53), y_ = (y234 ++ l0_2) := ⟨_, rfl⟩
      replace H : ((grid_Of.f kj4 a0_0 a0_1 y237).bind fun bt241 => (if bt241.1 = true then (if bt241.2.2.2.2 = 0 then (batonlaw10_GridApart.j1 kj4 false a0_0 a0_1 l0_2 a0_0 a0_1 y237 bt241.2.1 bt241.2.2.1 bt241.2.2.2.1) else (batonlaw10_GridApart.j1 kj4 true a0_0 a0_1 l0_2 a0_0 a0_1 y237 bt241.2.1 bt241.2.2.1 bt241.2.2.2.1)) else (if bt241.2.2.2.2 = 0 then (some false) else (some false)))) = some r := by first | (rw [hy237]; with_reducible exact H) | (have H2_ := (Option.bind_some _ _).symm.trans H; rw [hy237]; with_reducible exact H2_) | (have H2_ := (Option.bind_some _ _).symm.trans H; with_reducible exact H2_) | with_reducible exact H | (rw [hy237]; exact H) | exact H
      have Ny237 := A8_ hy237
      clear hy237
      replace H := Option.bind_eq_some_iff.mp H
      obtain ⟨⟨t241, t242, t243, t244, t248⟩, A250, H⟩ := H
      replace H : (if t241 = true then (if t248 = 0 then (batonlaw10_GridApart.j1 kj4 false a0_0 a0_1 l0_2 a0_0 a0_1 y237 t242 t243 t244) else (batonlaw10_GridApart.j1 kj4 true a0_0 a0_1 l0_2 a0_0 a0_1 y237 t242 t243 t244)) else (if t248 = 0 then (some false) else (some false))) = some r := H
      have A25 := A8_ A250
      clear A250
      by_cases c26 : t241 = true
      ·subst c26
       have H1 : (if t248 = 0 then (batonlaw10_GridApart.j1 kj4 false a0_0 a0_1 l0_2 a0_0 a0_1 y237 t242 t243 t244) else (batonlaw10_GridApart.j1 kj4 true a0_0 a0_1 l0_2 a0_0 a0_1 y237 t242 t243 t244)) = some r := by rw [if_pos rfl] at H; exact H
       clear H; have H := H1; clear H1
       have HC27 := A8_ H
       clear H
       try go_wp2
       have n0_ := A8_ (blk_drew BK229.out)
       have n1_ := A8_ (blk_drew BK230.out)
       have n2_ := A8_ (below_drew1 HB.out)
       clear BK229; clear BK230; clear HB; have BK229 := n0_; have BK230 := n1_; have HB := n2_; clear n0_ n1_ n2_
       refine start_ (n := 11) (S := fun w' => w'.cell? ⟨gb229, 0, none⟩ = some (.int .i64 a0_0) /\ w'.cell? ⟨gb229, 1, none⟩ = some (.int .i64 a0_1) /\ w'.cell? ⟨gb229, 2, none⟩ = some (.slice A0_2 l0_2.length c0_2)) (ds := []) m8_0 q8_19 rfl rfl ⟨bc8_ BK229 0, bc8_ BK229 1, bc8_ BK229 2⟩ (fun hHeld => ?_); refine with_tabW batonlaw10_GridApart.tab5 batonlaw10_GridApart.bits5 (fun HT_ HW_ => ?_)
       generalize wc.drew = w28 at BK229 BK230 HB hHeld ⊢
       refine pure_ (i := 0) (N := some 26) (v := ?_) (a' := ?_) m8_2 rfl rfl (any_of HT_.out q8_19) (fun _ _ _ h => h) (Or.inl ⟨by rfl, ?_⟩) ?_ ?_
       rotate_left; · intro w'; go_simp; with_reducible rfl
       rotate_left; · simp only [Act.put, setIfInBounds_toArray, set_cons_zero, set_cons_succ, i64_w, i32_w]; rfl
       refine pure_ (i := 2) (N := some 28) (v := ?_) (a' := ?_) m8_4 rfl rfl (any_of HT_.out q8_19) (fun _ _ _ h => h) (Or.inl ⟨by rfl, ?_⟩) ?_ ?_
       rotate_left; · intro w'; go_simp; with_reducible rfl
       rotate_left; · simp only [Act.put, setIfInBounds_toArray, set_cons_zero, set_cons_succ, i64_w, i32_w]; rfl
       refine pure_ (i := 5) (N := some 31) (v := ?_) (a' := ?_) m8_5 rfl rfl (any_of HT_.out q8_19) (fun _ _ _ h => h) (Or.inl ⟨by rfl, ?_⟩) ?_ ?_
       rotate_left; · intro w'; go_simp; with_reducible rfl
       rotate_left; · simp only [Act.put, setIfInBounds_toArray, set_cons_zero, set_cons_succ, i64_w, i32_w]; rfl
       refine take_ (i := 1) (N := some 27) (v := ?_) (a' := ?_) m8_7 rfl rfl (take_ofW HT_.out HW_.out q8_19) (fun _ _ _ h => h) (Or.inl ⟨by rfl, ?_⟩) hHeld ?_ ?_
       rotate_left; · rintro w' ⟨s0, s1, s2⟩; go_simp; with_reducible rfl
       rotate_left; · simp only [Act.put, setIfInBounds_toArray, set_cons_zero, set_cons_succ, i64_w, i32_w]; rfl
       refine take_ (i := 3) (N := some 29) (v := ?_) (a' := ?_) m8_9 rfl rfl (take_ofW HT_.out HW_.out q8_19) (fun _ _ _ h => h) (Or.inl ⟨by rfl, ?_⟩) hHeld ?_ ?_
       rotate_left; · rintro w' ⟨s0, s1, s2⟩; go_simp; with_reducible rfl
       rotate_left; · simp only [Act.put, setIfInBounds_toArray, set_cons_zero, set_cons_succ, i64_w, i32_w]; rfl
       refine take_ (i := 6) (N := some 32) (v := ?_) (a' := ?_) m8_10 rfl rfl (take_ofW HT_.out HW_.out q8_19) (fun _ _ _ h => h) (Or.inl ⟨by rfl, ?_⟩) hHeld ?_ ?_
       rotate_left; · rintro w' ⟨s0, s1, s2⟩; go_simp; with_reducible rfl
       rotate_left; · simp only [Act.put, setIfInBounds_toArray, set_cons_zero, set_cons_succ, i64_w, i32_w]; rfl
       refine join_ (σ := Value × Value × Nat) 1 m8_18 (fun s_ => [(30, s_.1), (33, s_.2.1), (5, .pointer (some ⟨s_.2.2, 0, none⟩)), (34, .agg #[.int .i64 a0_0, .int .i64 a0_1, s_.2.1])]) (fun s_ w' => (w'.cell? ⟨gb229, 0, none⟩ = some (.int .i64 a0_0) /\ w'.cell? ⟨gb229, 1, none⟩ = some (.int .i64 a0_1) /\ w'.cell? ⟨gb229, 2, none⟩ = some (.slice A0_2 l0_2.length c0_2)) /\ (Kd.R k53 53 w' w.heap.size (fun k_ => k_ ≠ gb230) s_.2.1 y237) /\ (w'.heap[gb229]? = some (.cells #[.int .i64 a0_0, .int .i64 a0_1, .slice A0_2 l0_2.length c0_2] 75 (0, 0))) /\ (w'.heap[gb230]? = some (.cells #[.int .i32 a1_0, .int .i64 a1_1, .int .i64 a1_2, .int .i64 a1_3] 53 (0, 0))) /\ (w'.heap[s_.2.2]? = some (.cells #[.int .i64 0, .int .i64 0, .slice none 0 0] 75 (0, 0))) /\ (w.heap.size <= s_.2.2) /\ (w.heap.size <= s_.2.2) /\ (gb229 ≠ s_.2.2) /\ (s_.2.2 ≠ gb229) /\ (gb230 ≠ s_.2.2) /\ (s_.2.2 ≠ gb230) /\ (Below w.heap.size w w')) ?_ ?_
       rotate_left
       ·intro hCont
        refine two_ (i := 4) (j := 9) (Ni := some 30) (Nj := some 5) m8_13 m8_11 rfl rfl rfl rfl (two_of HT_.out q8_19) q8_21 q8_21 (fun K hK => ?_) (fun K hK => ?_)
        ·skip
         refine Kd.R_lit_step k53 _ 53 ?hg (N := 30) ?hd (xs := ([] : List (S53))) (inner := []) (ok := fun _ => True) (okp := fun _ => True) ?hr ?hp (fun _ hk => hk) trivial (Below.refl _ _) (Nat.le_refl _) (by simp) ?_; (case hd => rfl); (case hg => rfl); (case hr => first | (go_simp; done) | (go_simp; rfl)); (case hp => exact (Reps.none _ _))
         intro v235 w29 ho30 hb hg_ hnew_
         clear hg_ hnew_
         (first | rw [← Ny234.out] at ho30 | (simp only [Int.reduceToNat] at ho30; rw [← Ny234.out] at ho30))
         have n0_ := A8_ (Kd.R_lower (Kd.R_newB ho30 (g := gb230) (o := .cells #[.int .i32 a1_0, .int .i64 a1_1, .int .i64 a1_2, .int .i64 a1_3] 53 (0, 0)) q8_2) (below_size q8_3))
         have n1_ := A8_ (blk_below (g := gb229) (o := .cells #[.int .i64 a0_0, .int .i64 a0_1, .slice A0_2 l0_2.length c0_2] 75 (0, 0)) q8_4 hb)
         have n2_ := A8_ (blk_below (g := gb230) (o := .cells #[.int .i32 a1_0, .int .i64 a1_1, .int .i64 a1_2, .int .i64 a1_3] 53 (0, 0)) q8_2 hb)
         have n3_ := A8_ (below_step q8_3 hb)
         clear BK229; clear BK230; clear HB; have HO236 := n0_; have BK229 := n1_; have BK230 := n2_; have HB := n3_; clear n0_ n1_ n2_ n3_; clear hb ho30
         refine hK.out _ _ ⟨bc8_ BK229 0, bc8_ BK229 1, bc8_ BK229 2⟩ (fun hHeld => ?_)
         clear hK K
         refine norm_ (a' := ?_) ?_ ?_
         rotate_left; · show Act.put _ (some 30) _ = _; simp only [Act.put, setIfInBounds_toArray, set_cons_zero, set_cons_succ, i64_w, i32_w]; rfl
         refine two_ (i := 7) (j := 9) (Ni := some 33) (Nj := some 5) m8_15 m8_14 rfl rfl rfl rfl (two_of HT_.out q8_19) q8_21 q8_21 (fun K hK => ?_) (fun K hK => ?_)
         ·skip
          refine Kd.R_append_rows_step k53 (w0 := w) w.heap.size (by rfl) (.tmp 30) (.tmp 32) 47 53 (.agg #[(.int .i32 0), (.int .i64 0), (.int .i64 0), (.int .i64 0)]) 32 rfl Try.underlying47 info53 rfl q8_21 q8_31 v235 y234 l0_2 _ _ _ (fun k_ => k_ ≠ gb230) (fun _ => False) rfl rfl ?aO ?aR (fun _ _ h => h) (fun _ h => h.elim) ?aF ?aB ?aS ?aL ?_
          (case aR => repeat (first | exact (Kd.C_below HR0_2.out HB.out) | (with_reducible refine Kd.C_alloc ?_ _) | (with_reducible refine Kd.C_drewN ?_ _) | (with_reducible refine Kd.C_drew ?_)))
          (case aB => exact q8_3)
          (case aF => exact (fun k_ hk => Kd.freshB (g := gb230) (o := .cells #[.int .i32 a1_0, .int .i64 a1_1, .int .i64 a1_2, .int .i64 a1_3] 53 (0, 0)) q8_2 k_ hk))
          (case aO => exact q8_12)
          (case aS => exact (below_size q8_3))
          (case aL => have := LMc24.out; omega)
          intro v238 w31 ho hb hg hat
          rw [← Ny237.out] at ho
          have n0_ := A8_ (blk_grown (g := gb229) (o := .cells #[.int .i64 a0_0, .int .i64 a0_1, .slice A0_2 l0_2.length c0_2] 75 (0, 0)) q8_4 hg (Kd.R_ne HO236.out BK229.out q8_21))
          have n1_ := A8_ (blk_grown (g := gb230) (o := .cells #[.int .i32 a1_0, .int .i64 a1_1, .int .i64 a1_2, .int .i64 a1_3] 53 (0, 0)) q8_2 hg (Kd.R_away HO236.out (fun _ hk => hk.2)))
          have n2_ := A8_ (hb)
          have n3_ := A8_ (ho)
          clear BK229; clear BK230; clear HB; clear HO236; have BK229 := n0_; have BK230 := n1_; have HB := n2_; have HO239 := n3_; clear n0_ n1_ n2_ n3_; clear ho hb hg hat
          obtain ⟨Ao32, co32, eo32⟩ := Kd.R_slice HO239.out
          (first | subst eo32 | (injection eo32 with f1_ f2_ f3_; have f4_ := f1_.symm; have f5_ := f3_.symm; clear f1_ f2_ f3_; subst f4_; subst f5_))
          refine hK.out _ _ ⟨bc8_ BK229 0, bc8_ BK229 1, bc8_ BK229 2⟩ (fun hHeld => ?_)
          clear hK K
          refine norm_ (a' := ?_) ?_ ?_
          rotate_left; · show Act.put _ (some 33) _ = _; simp only [Act.put, setIfInBounds_toArray, set_cons_zero, set_cons_succ, i64_w, i32_w]; rfl
          refine pure_ (i := 8) (N := some 34) (v := ?_) (a' := ?_) m8_17 rfl rfl (any_of HT_.out q8_19) (fun _ _ _ h => h) (Or.inl ⟨by rfl, ?_⟩) ?_ ?_
          rotate_left; · intro w'; go_simp; with_reducible rfl
          rotate_left; · simp only [Act.put, setIfInBounds_toArray, set_cons_zero, set_cons_succ, i64_w, i32_w]; rfl
          refine one_ (i := 9) (N := some 5) m8_18 rfl rfl (one_of HT_.out q8_19) q8_21 (fun K hK => ?_)
          refine box_step ?hg (N := 5) ?hd (cs := #[.int .i64 0, .int .i64 0, .slice none 0 0]) (t := 75) ?hr ?_; (case hd => rfl); (case hg => rfl); (case hr => first | (go_simp; done) | (go_simp; rfl))
          intro gb240 hg w33 hbox hb
          have n0_ := A8_ (Kd.R_below q8_10 hb)
          have n1_ := A8_ (blk_below (g := gb229) (o := .cells #[.int .i64 a0_0, .int .i64 a0_1, .slice A0_2 l0_2.length c0_2] 75 (0, 0)) q8_4 hb)
          have n2_ := A8_ (blk_below (g := gb230) (o := .cells #[.int .i32 a1_0, .int .i64 a1_1, .int .i64 a1_2, .int .i64 a1_3] 53 (0, 0)) q8_2 hb)
          have n3_ := A8_ (below_step q8_3 hb)
          have n4_ := A8_ (hbox)
          have n5_ := A8_ ((by rw [hg]; exact (below_size q8_3) : w.heap.size <= gb240))
          have n6_ := A8_ ((by rw [hg]; exact (below_size q8_3) : w.heap.size <= gb240))
          have n7_ := A8_ ((by rw [hg]; exact Nat.ne_of_lt (blk_lt (g := gb229) (o := .cells #[.int .i64 a0_0, .int .i64 a0_1, .slice A0_2 l0_2.length c0_2] 75 (0, 0)) q8_4) : gb229 ≠ gb240))
          have n8_ := A8_ ((by rw [hg]; exact Nat.ne_of_gt (blk_lt (g := gb229) (o := .cells #[.int .i64 a0_0, .int .i64 a0_1, .slice A0_2 l0_2.length c0_2] 75 (0, 0)) q8_4) : gb240 ≠ gb229))
          have n9_ := A8_ ((by rw [hg]; exact Nat.ne_of_lt (blk_lt (g := gb230) (o := .cells #[.int .i32 a1_0, .int .i64 a1_1, .int .i64 a1_2, .int .i64 a1_3] 53 (0, 0)) q8_2) : gb230 ≠ gb240))
          have n10_ := A8_ ((by rw [hg]; exact Nat.ne_of_gt (blk_lt (g := gb230) (o := .cells #[.int .i32 a1_0, .int .i64 a1_1, .int .i64 a1_2, .int .i64 a1_3] 53 (0, 0)) q8_2) : gb240 ≠ gb230))
          clear HO239; clear BK229; clear BK230; clear HB; have HO239 := n0_; have BK229 := n1_; have BK230 := n2_; have HB := n3_; have BK240 := n4_; have GW240 := n5_; have GE240 := n6_; have NB229_240 := n7_; have NB240_229 := n8_; have NB230_240 := n9_; have NB240_230 := n10_; clear n0_ n1_ n2_ n3_ n4_ n5_ n6_ n7_ n8_ n9_ n10_; clear hb hbox hg
          refine hK.out _ _ ⟨bc8_ BK229 0, bc8_ BK229 1, bc8_ BK229 2⟩ (fun hHeld => ?_)
          clear hK K
          refine norm_ (a' := ?_) ?_ ?_
          rotate_left; · show Act.put _ (some 5) _ = _; simp only [Act.put, setIfInBounds_toArray, set_cons_zero, set_cons_succ, i64_w, i32_w]; rfl
          exact norm_ q8_18 (hCont (v235, .slice Ao32 y237.length co32, gb240) _ ⟨hHeld, q8_10, q8_4, q8_2, q8_7, GW240.out, GE240.out, NB229_240.out, NB240_229.out, NB230_240.out, NB240_230.out, q8_5⟩)
         ·skip
          refine box_step ?hg (N := 5) ?hd (cs := #[.int .i64 0, .int .i64 0, .slice none 0 0]) (t := 75) ?hr ?_; (case hd => rfl); (case hg => rfl); (case hr => first | (go_simp; done) | (go_simp; rfl))
          intro gb240 hg w31 hbox hb
          have n0_ := A8_ (Kd.R_below q8_30 hb)
          have n1_ := A8_ (blk_below (g := gb229) (o := .cells #[.int .i64 a0_0, .int .i64 a0_1, .slice A0_2 l0_2.length c0_2] 75 (0, 0)) q8_4 hb)
          have n2_ := A8_ (blk_below (g := gb230) (o := .cells #[.int .i32 a1_0, .int .i64 a1_1, .int .i64 a1_2, .int .i64 a1_3] 53 (0, 0)) q8_2 hb)
          have n3_ := A8_ (below_step q8_3 hb)
          have n4_ := A8_ (hbox)
          have n5_ := A8_ ((by rw [hg]; exact (below_size q8_3) : w.heap.size <= gb240))
          have n6_ := A8_ ((by rw [hg]; exact (below_size q8_3) : w.heap.size <= gb240))
          have n7_ := A8_ ((by rw [hg]; exact Nat.ne_of_lt (blk_lt (g := gb229) (o := .cells #[.int .i64 a0_0, .int .i64 a0_1, .slice A0_2 l0_2.length c0_2] 75 (0, 0)) q8_4) : gb229 ≠ gb240))
          have n8_ := A8_ ((by rw [hg]; exact Nat.ne_of_gt (blk_lt (g := gb229) (o := .cells #[.int .i64 a0_0, .int .i64 a0_1, .slice A0_2 l0_2.length c0_2] 75 (0, 0)) q8_4) : gb240 ≠ gb229))
          have n9_ := A8_ ((by rw [hg]; exact Nat.ne_of_lt (blk_lt (g := gb230) (o := .cells #[.int .i32 a1_0, .int .i64 a1_1, .int .i64 a1_2, .int .i64 a1_3] 53 (0, 0)) q8_2) : gb230 ≠ gb240))
          have n10_ := A8_ ((by rw [hg]; exact Nat.ne_of_gt (blk_lt (g := gb230) (o := .cells #[.int .i32 a1_0, .int .i64 a1_1, .int .i64 a1_2, .int .i64 a1_3] 53 (0, 0)) q8_2) : gb240 ≠ gb230))
          clear HO236; clear BK229; clear BK230; clear HB; have HO236 := n0_; have BK229 := n1_; have BK230 := n2_; have HB := n3_; have BK240 := n4_; have GW240 := n5_; have GE240 := n6_; have NB229_240 := n7_; have NB240_229 := n8_; have NB230_240 := n9_; have NB240_230 := n10_; clear n0_ n1_ n2_ n3_ n4_ n5_ n6_ n7_ n8_ n9_ n10_; clear hb hbox hg
          refine hK.out _ _ ⟨bc8_ BK229 0, bc8_ BK229 1, bc8_ BK229 2⟩ (fun hHeld => ?_)
          clear hK K
          refine norm_ (a' := ?_) ?_ ?_
          rotate_left; · show Act.put _ (some 5) _ = _; simp only [Act.put, setIfInBounds_toArray, set_cons_zero, set_cons_succ, i64_w, i32_w]; rfl
          refine one_ (i := 7) (N := some 33) m8_16 rfl rfl (one_of HT_.out q8_19) q8_21 (fun K hK => ?_)
          refine Kd.R_append_rows_step k53 (w0 := w) w.heap.size (by rfl) (.tmp 30) (.tmp 32) 47 53 (.agg #[(.int .i32 0), (.int .i64 0), (.int .i64 0), (.int .i64 0)]) 32 rfl Try.underlying47 info53 rfl q8_21 q8_31 v235 y234 l0_2 _ _ _ (fun k_ => k_ ≠ gb230) (fun _ => False) rfl rfl ?aO ?aR (fun _ _ h => h) (fun _ h => h.elim) ?aF ?aB ?aS ?aL ?_
          (case aR => repeat (first | exact (Kd.C_below HR0_2.out HB.out) | (with_reducible refine Kd.C_alloc ?_ _) | (with_reducible refine Kd.C_drewN ?_ _) | (with_reducible refine Kd.C_drew ?_)))
          (case aB => exact q8_5)
          (case aF => exact (fun k_ hk => Kd.freshB (g := gb230) (o := .cells #[.int .i32 a1_0, .int .i64 a1_1, .int .i64 a1_2, .int .i64 a1_3] 53 (0, 0)) q8_2 k_ hk))
          (case aO => exact q8_12)
          (case aS => exact (below_size q8_5))
          (case aL => have := LMc24.out; omega)
          intro v238 w32 ho hb hg hat
          rw [← Ny237.out] at ho
          have n0_ := A8_ (blk_grown (g := gb229) (o := .cells #[.int .i64 a0_0, .int .i64 a0_1, .slice A0_2 l0_2.length c0_2] 75 (0, 0)) q8_4 hg (Kd.R_ne HO236.out BK229.out q8_21))
          have n1_ := A8_ (blk_grown (g := gb230) (o := .cells #[.int .i32 a1_0, .int .i64 a1_1, .int .i64 a1_2, .int .i64 a1_3] 53 (0, 0)) q8_2 hg (Kd.R_away HO236.out (fun _ hk => hk.2)))
          have n2_ := A8_ (blk_grown (g := gb240) (o := .cells #[.int .i64 0, .int .i64 0, .slice none 0 0] 75 (0, 0)) q8_7 hg (Kd.R_ne HO236.out BK240.out q8_21))
          have n3_ := A8_ (hb)
          have n4_ := A8_ (ho)
          clear BK229; clear BK230; clear BK240; clear HB; clear HO236; have BK229 := n0_; have BK230 := n1_; have BK240 := n2_; have HB := n3_; have HO239 := n4_; clear n0_ n1_ n2_ n3_ n4_; clear ho hb hg hat
          obtain ⟨Ao33, co33, eo33⟩ := Kd.R_slice HO239.out
          (first | subst eo33 | (injection eo33 with f1_ f2_ f3_; have f4_ := f1_.symm; have f5_ := f3_.symm; clear f1_ f2_ f3_; subst f4_; subst f5_))
          refine hK.out _ _ ⟨bc8_ BK229 0, bc8_ BK229 1, bc8_ BK229 2⟩ (fun hHeld => ?_)
          clear hK K
          refine norm_ (a' := ?_) ?_ ?_
          rotate_left; · show Act.put _ (some 33) _ = _; simp only [Act.put, setIfInBounds_toArray, set_cons_zero, set_cons_succ, i64_w, i32_w]; rfl
          refine pure_ (i := 8) (N := some 34) (v := ?_) (a' := ?_) m8_18 rfl rfl (any_of HT_.out q8_19) (fun _ _ _ h => h) (Or.inl ⟨by rfl, ?_⟩) ?_ ?_
          rotate_left; · intro w'; go_simp; with_reducible rfl
          rotate_left; · simp only [Act.put, setIfInBounds_toArray, set_cons_zero, set_cons_succ, i64_w, i32_w]; rfl
          exact norm_ q8_18 (hCont (v235, .slice Ao33 y237.length co33, gb240) _ ⟨hHeld, q8_10, q8_4, q8_2, q8_7, GW240.out, GE240.out, NB229_240.out, NB240_229.out, NB230_240.out, NB240_230.out, q8_5⟩)
        ·skip
         refine box_step ?hg (N := 5) ?hd (cs := #[.int .i64 0, .int .i64 0, .slice none 0 0]) (t := 75) ?hr ?_; (case hd => rfl); (case hg => rfl); (case hr => first | (go_simp; done) | (go_simp; rfl))
         intro gb240 hg w29 hbox hb
         have n0_ := A8_ (blk_below (g := gb229) (o := .cells #[.int .i64 a0_0, .int .i64 a0_1, .slice A0_2 l0_2.length c0_2] 75 (0, 0)) q8_4 hb)
         have n1_ := A8_ (blk_below (g := gb230) (o := .cells #[.int .i32 a1_0, .int .i64 a1_1, .int .i64 a1_2, .int .i64 a1_3] 53 (0, 0)) q8_2 hb)
         have n2_ := A8_ (below_step q8_3 hb)
         have n3_ := A8_ (hbox)
         have n4_ := A8_ ((by rw [hg]; exact (below_size q8_3) : w.heap.size <= gb240))
         have n5_ := A8_ ((by rw [hg]; exact (below_size q8_3) : w.heap.size <= gb240))
         have n6_ := A8_ ((by rw [hg]; exact Nat.ne_of_lt (blk_lt (g := gb229) (o := .cells #[.int .i64 a0_0, .int .i64 a0_1, .slice A0_2 l0_2.length c0_2] 75 (0, 0)) q8_4) : gb229 ≠ gb240))
         have n7_ := A8_ ((by rw [hg]; exact Nat.ne_of_gt (blk_lt (g := gb229) (o := .cells #[.int .i64 a0_0, .int .i64 a0_1, .slice A0_2 l0_2.length c0_2] 75 (0, 0)) q8_4) : gb240 ≠ gb229))
         have n8_ := A8_ ((by rw [hg]; exact Nat.ne_of_lt (blk_lt (g := gb230) (o := .cells #[.int .i32 a1_0, .int .i64 a1_1, .int .i64 a1_2, .int .i64 a1_3] 53 (0, 0)) q8_2) : gb230 ≠ gb240))
         have n9_ := A8_ ((by rw [hg]; exact Nat.ne_of_gt (blk_lt (g := gb230) (o := .cells #[.int .i32 a1_0, .int .i64 a1_1, .int .i64 a1_2, .int .i64 a1_3] 53 (0, 0)) q8_2) : gb240 ≠ gb230))
         clear BK229; clear BK230; clear HB; have BK229 := n0_; have BK230 := n1_; have HB := n2_; have BK240 := n3_; have GW240 := n4_; have GE240 := n5_; have NB229_240 := n6_; have NB240_229 := n7_; have NB230_240 := n8_; have NB240_230 := n9_; clear n0_ n1_ n2_ n3_ n4_ n5_ n6_ n7_ n8_ n9_; clear hb hbox hg
         refine hK.out _ _ ⟨bc8_ BK229 0, bc8_ BK229 1, bc8_ BK229 2⟩ (fun hHeld => ?_)
         clear hK K
         refine norm_ (a' := ?_) ?_ ?_
         rotate_left; · show Act.put _ (some 5) _ = _; simp only [Act.put, setIfInBounds_toArray, set_cons_zero, set_cons_succ, i64_w, i32_w]; rfl
         refine one_ (i := 4) (N := some 30) m8_14 rfl rfl (one_of HT_.out q8_19) q8_21 (fun K hK => ?_)
         refine Kd.R_lit_step k53 _ 53 ?hg (N := 30) ?hd (xs := ([] : List (S53))) (inner := []) (ok := fun _ => True) (okp := fun _ => True) ?hr ?hp (fun _ hk => hk) trivial (Below.refl _ _) (Nat.le_refl _) (by simp) ?_; (case hd => rfl); (case hg => rfl); (case hr => first | (go_simp; done) | (go_simp; rfl)); (case hp => exact (Reps.none _ _))
         intro v235 w30 ho31 hb hg_ hnew_
         clear hg_ hnew_
         (first | rw [← Ny234.out] at ho31 | (simp only [Int.reduceToNat] at ho31; rw [← Ny234.out] at ho31))
         have n0_ := A8_ (Kd.R_lower (Kd.R_newB ho31 (g := gb230) (o := .cells #[.int .i32 a1_0, .int .i64 a1_1, .int .i64 a1_2, .int .i64 a1_3] 53 (0, 0)) q8_2) (below_size q8_5))
         have n1_ := A8_ (blk_below (g := gb229) (o := .cells #[.int .i64 a0_0, .int .i64 a0_1, .slice A0_2 l0_2.length c0_2] 75 (0, 0)) q8_4 hb)
         have n2_ := A8_ (blk_below (g := gb230) (o := .cells #[.int .i32 a1_0, .int .i64 a1_1, .int .i64 a1_2, .int .i64 a1_3] 53 (0, 0)) q8_2 hb)
         have n3_ := A8_ (blk_below (g := gb240) (o := .cells #[.int .i64 0, .int .i64 0, .slice none 0 0] 75 (0, 0)) q8_7 hb)
         have n4_ := A8_ (below_step q8_5 hb)
         clear BK229; clear BK230; clear BK240; clear HB; have HO236 := n0_; have BK229 := n1_; have BK230 := n2_; have BK240 := n3_; have HB := n4_; clear n0_ n1_ n2_ n3_ n4_; clear hb ho31
         refine hK.out _ _ ⟨bc8_ BK229 0, bc8_ BK229 1, bc8_ BK229 2⟩ (fun hHeld => ?_)
         clear hK K
         refine norm_ (a' := ?_) ?_ ?_
         rotate_left; · show Act.put _ (some 30) _ = _; simp only [Act.put, setIfInBounds_toArray, set_cons_zero, set_cons_succ, i64_w, i32_w]; rfl
         refine one_ (i := 7) (N := some 33) m8_16 rfl rfl (one_of HT_.out q8_19) q8_21 (fun K hK => ?_)
         refine Kd.R_append_rows_step k53 (w0 := w) w.heap.size (by rfl) (.tmp 30) (.tmp 32) 47 53 (.agg #[(.int .i32 0), (.int .i64 0), (.int .i64 0), (.int .i64 0)]) 32 rfl Try.underlying47 info53 rfl q8_21 q8_31 v235 y234 l0_2 _ _ _ (fun k_ => k_ ≠ gb230) (fun _ => False) rfl rfl ?aO ?aR (fun _ _ h => h) (fun _ h => h.elim) ?aF ?aB ?aS ?aL ?_
         (case aR => repeat (first | exact (Kd.C_below HR0_2.out HB.out) | (with_reducible refine Kd.C_alloc ?_ _) | (with_reducible refine Kd.C_drewN ?_ _) | (with_reducible refine Kd.C_drew ?_)))
         (case aB => exact q8_5)
         (case aF => exact (fun k_ hk => Kd.freshB (g := gb230) (o := .cells #[.int .i32 a1_0, .int .i64 a1_1, .int .i64 a1_2, .int .i64 a1_3] 53 (0, 0)) q8_2 k_ hk))
         (case aO => exact q8_12)
         (case aS => exact (below_size q8_5))
         (case aL => have := LMc24.out; omega)
         intro v238 w32 ho hb hg hat
         rw [← Ny237.out] at ho
         have n0_ := A8_ (blk_grown (g := gb229) (o := .cells #[.int .i64 a0_0, .int .i64 a0_1, .slice A0_2 l0_2.length c0_2] 75 (0, 0)) q8_4 hg (Kd.R_ne HO236.out BK229.out q8_21))
         have n1_ := A8_ (blk_grown (g := gb230) (o := .cells #[.int .i32 a1_0, .int .i64 a1_1, .int .i64 a1_2, .int .i64 a1_3] 53 (0, 0)) q8_2 hg (Kd.R_away HO236.out (fun _ hk => hk.2)))
         have n2_ := A8_ (blk_grown (g := gb240) (o := .cells #[.int .i64 0, .int .i64 0, .slice none 0 0] 75 (0, 0)) q8_7 hg (Kd.R_ne HO236.out BK240.out q8_21))
         have n3_ := A8_ (hb)
         have n4_ := A8_ (ho)
         clear BK229; clear BK230; clear BK240; clear HB; clear HO236; have BK229 := n0_; have BK230 := n1_; have BK240 := n2_; have HB := n3_; have HO239 := n4_; clear n0_ n1_ n2_ n3_ n4_; clear ho hb hg hat
         obtain ⟨Ao33, co33, eo33⟩ := Kd.R_slice HO239.out
         (first | subst eo33 | (injection eo33 with f1_ f2_ f3_; have f4_ := f1_.symm; have f5_ := f3_.symm; clear f1_ f2_ f3_; subst f4_; subst f5_))
         refine hK.out _ _ ⟨bc8_ BK229 0, bc8_ BK229 1, bc8_ BK229 2⟩ (fun hHeld => ?_)
         clear hK K
         refine norm_ (a' := ?_) ?_ ?_
         rotate_left; · show Act.put _ (some 33) _ = _; simp only [Act.put, setIfInBounds_toArray, set_cons_zero, set_cons_succ, i64_w, i32_w]; rfl
         refine pure_ (i := 8) (N := some 34) (v := ?_) (a' := ?_) m8_18 rfl rfl (any_of HT_.out q8_19) (fun _ _ _ h => h) (Or.inl ⟨by rfl, ?_⟩) ?_ ?_
         rotate_left; · intro w'; go_simp; with_reducible rfl
         rotate_left; · simp only [Act.put, setIfInBounds_toArray, set_cons_zero, set_cons_succ, i64_w, i32_w]; rfl
         exact norm_ q8_18 (hCont (v235, .slice Ao33 y237.length co33, gb240) _ ⟨hHeld, q8_10, q8_4, q8_2, q8_7, GW240.out, GE240.out, NB229_240.out, NB240_229.out, NB230_240.out, NB240_230.out, q8_5⟩)
       rintro ⟨v235, v238, gb240⟩ w34 ⟨hS_, h0_, h1_, h2_, h3_, h4_, h5_, h6_, h7_, h8_, h9_, h10_⟩
       have n0_ : Aside0 (Kd.R k53 53 w34 w.heap.size (fun k_ => k_ ≠ gb230) v238 y237) := ⟨h0_⟩
       have n1_ : Aside0 (w34.heap[gb229]? = some (.cells #[.int .i64 a0_0, .int .i64 a0_1, .slice A0_2 l0_2.length c0_2] 75 (0, 0))) := ⟨h1_⟩
       have n2_ : Aside0 (w34.heap[gb230]? = some (.cells #[.int .i32 a1_0, .int .i64 a1_1, .int .i64 a1_2, .int .i64 a1_3] 53 (0, 0))) := ⟨h2_⟩
       have n3_ : Aside0 (w34.heap[gb240]? = some (.cells #[.int .i64 0, .int .i64 0, .slice none 0 0] 75 (0, 0))) := ⟨h3_⟩
       have n4_ : Aside0 (w.heap.size <= gb240) := ⟨h4_⟩
       have n5_ : Aside0 (w.heap.size <= gb240) := ⟨h5_⟩
       have n6_ : Aside0 (gb229 ≠ gb240) := ⟨h6_⟩
       have n7_ : Aside0 (gb240 ≠ gb229) := ⟨h7_⟩
       have n8_ : Aside0 (gb230 ≠ gb240) := ⟨h8_⟩
       have n9_ : Aside0 (gb240 ≠ gb230) := ⟨h9_⟩
       have n10_ : Aside0 (Below w.heap.size w w34) := ⟨h10_⟩
       clear BK229; clear BK230; clear HB; clear h0_ h1_ h2_ h3_ h4_ h5_ h6_ h7_ h8_ h9_ h10_; have HO239 := n0_; have BK229 := n1_; have BK230 := n2_; have BK240 := n3_; have GW240 := n4_; have GE240 := n5_; have NB229_240 := n6_; have NB240_229 := n7_; have NB230_240 := n8_; have NB240_230 := n9_; have HB := n10_; clear n0_ n1_ n2_ n3_ n4_ n5_ n6_ n7_ n8_ n9_ n10_
       have hHeld : w34.cell? ⟨gb229, 0, none⟩ = some (.int .i64 a0_0) /\ w34.cell? ⟨gb229, 1, none⟩ = some (.int .i64 a0_1) /\ w34.cell? ⟨gb229, 2, none⟩ = some (.slice A0_2 l0_2.length c0_2) := hS_
       obtain ⟨Ao35, co35, eo35⟩ := Kd.R_slice HO239.out
       (first | subst eo35 | (injection eo35 with f1_ f2_ f3_; have f4_ := f1_.symm; have f5_ := f3_.symm; clear f1_ f2_ f3_; subst f4_; subst f5_))
       refine norm_ (a' := ?_) ?_ ?_
       rotate_left
       ·simp only [putAll, Act.put, setIfInBounds_toArray, set_cons_zero, set_cons_succ]
        rfl
       refine one_ (i := 10) (N := none) m8_19 rfl rfl (one_of HT_.out q8_19) q8_21 (fun K hK => ?_)
       have hs36 : w34.cell? ⟨gb240, 0, none⟩ = some (.int .i64 0) := bc8_ BK240 0
       have hfs36 := blk_frozen BK240.out 0
       have hns36_0 := NB229_240.out
       have hns36_1 := NB230_240.out
       have hms36_0 := NB240_229.out
       have hms36_1 := NB240_230.out
       have hs37 : w34.cell? ⟨gb240, 1, none⟩ = some (.int .i64 0) := bc8_ BK240 1
       have hfs37 := blk_frozen BK240.out 1
       have hns37_0 := NB229_240.out
       have hns37_1 := NB230_240.out
       have hms37_0 := NB240_229.out
       have hms37_1 := NB240_230.out
       have hs38 : w34.cell? ⟨gb240, 2, none⟩ = some (.slice none 0 0) := bc8_ BK240 2
       have hfs38 := blk_frozen BK240.out 2
       have hns38_0 := NB229_240.out
       have hns38_1 := NB230_240.out
       have hms38_0 := NB240_229.out
       have hms38_1 := NB240_230.out
       refine skip_ (w1 := ?_) (by rfl) rfl ?_ ?_
       rotate_left; · go_simp; rfl
       refine hK.out _ _ ⟨((cell_far (p := ⟨gb240, _, none⟩) NB229_240.out _).trans (((cell_far (p := ⟨gb240, _, none⟩) NB229_240.out _).trans (((cell_far (p := ⟨gb240, _, none⟩) NB229_240.out _).trans (hHeld.1)))))), ((cell_far (p := ⟨gb240, _, none⟩) NB229_240.out _).trans (((cell_far (p := ⟨gb240, _, none⟩) NB229_240.out _).trans (((cell_far (p := ⟨gb240, _, none⟩) NB229_240.out _).trans (hHeld.2.1)))))), ((cell_far (p := ⟨gb240, _, none⟩) NB229_240.out _).trans (((cell_far (p := ⟨gb240, _, none⟩) NB229_240.out _).trans (((cell_far (p := ⟨gb240, _, none⟩) NB229_240.out _).trans (hHeld.2.2))))))⟩ (fun hHeld => ?_)
       clear hK K
       refine done_ (done_of HT_.out q8_19) ?_
       have hnb39 := NB240_229.out
       have hnc39 := NB229_240.out
       have hnb40 := NB240_230.out
       have hnc40 := NB230_240.out
       have hcz41_0 : w34.cell? ⟨gb240, 0, none⟩ = some (.int .i64 0) := bc8_ BK240 0
       have hcz41_1 : w34.cell? ⟨gb240, 1, none⟩ = some (.int .i64 0) := bc8_ BK240 1
       have hcz41_2 : w34.cell? ⟨gb240, 2, none⟩ = some (.slice none 0 0) := bc8_ BK240 2
       have hfz41_0 := blk_frozen BK240.out 0
       have hfz41_1 := blk_frozen BK240.out 1
       have hfz41_2 := blk_frozen BK240.out 2
       go_upto_region 7 with (first | ((with_reducible refine gate_callee (f := 48) rfl ?_); refine goesL_ (some 37) rfl rfl Try.func48 q8_19 rfl #[.agg #[.int .i64 a0_0, .int .i64 a0_1, .slice Ao35 y237.length co35]] rfl q8_11 ?_; (with_reducible refine (grid_Of.calls kj4 a0_0 a0_1 _ _ y237 true t242 t243 t244 t248 _ ?side1 ?side2 A25.out).mono ?_); (case side1 => refine (Kd.R_reads' (e := 53) (base := w.heap.size) (ok := fun k_ => k_ ≠ gb230) (n := y237.length) (c := co35) ?_).2.2; exact q8_17); (case side2 => exact (Kd.R_reads' HO239.out).2.1); rintro e w42 ⟨v245, gb247, rfl, ho0, hbn, hgn, hb⟩; refine ⟨_, rfl, ?_⟩; have n0_ := A8_ (Kd.R_elder' q8_17 (Kd.R_base ho0) hb); have n1_ := A8_ (Kd.R_lower (Kd.R_newB (Kd.R_new' ho0 (Kd.R_lt q8_17)) (g := gb230) (o := .cells #[.int .i32 a1_0, .int .i64 a1_1, .int .i64 a1_2, .int .i64 a1_3] 53 (0, 0)) q8_6) (below_size q8_5)); have n2_ := A8_ (blk_below (g := gb229) (o := .cells #[.int .i64 a0_0, .int .i64 a0_1, .slice A0_2 l0_2.length c0_2] 75 (0, 0)) q8_9 hb); have n3_ := A8_ (blk_below (g := gb230) (o := .cells #[.int .i32 a1_0, .int .i64 a1_1, .int .i64 a1_2, .int .i64 a1_3] 53 (0, 0)) q8_6 hb); have n4_ := A8_ (blk_below (g := gb240) (o := .cells #[.int .i64 a0_0, .int .i64 a0_1, .slice Ao35 y237.length co35] 75 (0, 0)) q8_8 hb); have n5_ := A8_ (hbn rfl); have n6_ := A8_ ((Nat.le_trans (below_size q8_5) hgn : w.heap.size <= gb247)); have n7_ := A8_ ((Nat.le_trans (below_size q8_5) hgn : w.heap.size <= gb247)); have n8_ := A8_ ((Nat.ne_of_lt (Nat.lt_of_lt_of_le (blk_lt (g := gb229) (o := .cells #[.int .i64 a0_0, .int .i64 a0_1, .slice A0_2 l0_2.length c0_2] 75 (0, 0)) q8_9) hgn) : gb229 ≠ gb247)); have n9_ := A8_ ((Nat.ne_of_gt (Nat.lt_of_lt_of_le (blk_lt (g := gb229) (o := .cells #[.int .i64 a0_0, .int .i64 a0_1, .slice A0_2 l0_2.length c0_2] 75 (0, 0)) q8_9) hgn) : gb247 ≠ gb229)); have n10_ := A8_ ((Nat.ne_of_lt (Nat.lt_of_lt_of_le (blk_lt (g := gb230) (o := .cells #[.int .i32 a1_0, .int .i64 a1_1, .int .i64 a1_2, .int .i64 a1_3] 53 (0, 0)) q8_6) hgn) : gb230 ≠ gb247)); have n11_ := A8_ ((Nat.ne_of_gt (Nat.lt_of_lt_of_le (blk_lt (g := gb230) (o := .cells #[.int .i32 a1_0, .int .i64 a1_1, .int .i64 a1_2, .int .i64 a1_3] 53 (0, 0)) q8_6) hgn) : gb247 ≠ gb230)); have n12_ := A8_ ((Nat.ne_of_lt (Nat.lt_of_lt_of_le (blk_lt (g := gb240) (o := .cells #[.int .i64 a0_0, .int .i64 a0_1, .slice Ao35 y237.length co35] 75 (0, 0)) q8_8) hgn) : gb240 ≠ gb247)); have n13_ := A8_ ((Nat.ne_of_gt (Nat.lt_of_lt_of_le (blk_lt (g := gb240) (o := .cells #[.int .i64 a0_0, .int .i64 a0_1, .slice Ao35 y237.length co35] 75 (0, 0)) q8_8) hgn) : gb247 ≠ gb240)); have n14_ := A8_ (below_step q8_5 hb); clear HO239 BK229 BK230 BK240 HB; have HO239 := n0_; have HO246 := n1_; have BK229 := n2_; have BK230 := n3_; have BK240 := n4_; have BK247 := n5_; have GW247 := n6_; have GE247 := n7_; have NB229_247 := n8_; have NB247_229 := n9_; have NB230_247 := n10_; have NB247_230 := n11_; have NB240_247 := n12_; have NB247_240 := n13_; have HB := n14_; clear n0_ n1_ n2_ n3_ n4_ n5_ n6_ n7_ n8_ n9_ n10_ n11_ n12_ n13_ n14_; (try simp only [ptrW_true, ptrW_false]); (try clear hbn); (try clear hgn); (try clear hb); (try clear hb2); (try clear hk); (try clear hi); (try clear ho0)))
       (try simp only [Act.put, setIfInBounds_toArray, set_cons_zero, set_cons_succ])
       go_cut [45] (fun v45 wc => ∃ (kq : Nat) (x45_26 : Bool), v45 = .bool x45_26 /\ Aside0 (batonlaw10_GridApart.j1 kq x45_26 a0_0 a0_1 l0_2 a0_0 a0_1 y237 t242 t243 t244 = some r) /\ Aside0 (kq <= kj4) /\ Aside0 (Kd.R k53 53 wc w.heap.size (fun k_ => some k_ ≠ (v245 : Value).ownBlock /\ k_ ≠ gb230) (.slice Ao35 y237.length co35) y237) /\ Aside0 (Kd.R k53 53 wc w.heap.size (fun k_ => some k_ ≠ ((.slice Ao35 y237.length co35) : Value).ownBlock /\ k_ ≠ gb230) v245 t244) /\ Aside0 (wc.heap[gb229]? = some (.cells #[.int .i64 a0_0, .int .i64 a0_1, (.slice A0_2 l0_2.length c0_2)] 75 (0, 0))) /\ Aside0 (wc.heap[gb230]? = some (.cells #[.int .i32 a1_0, .int .i64 a1_1, .int .i64 a1_2, .int .i64 a1_3] 53 (0, 0))) /\ Aside0 (wc.heap[gb240]? = some (.cells #[.int .i64 a0_0, .int .i64 a0_1, (.slice Ao35 y237.length co35)] 75 (0, 0))) /\ Aside0 (wc.heap[gb247]? = some (.cells #[.int .i64 t242, .int .i64 t243, v245] 112 (0, 0))) /\ Aside0 (Below w.heap.size w wc))
       case first =>
        have H := HC27.out
        clear HC27
        by_cases c43 : t248 = 0
        ·rw [if_pos c43] at H
         have c43b0 : (t248 == 0) = true := beq_iff_eq.mpr c43
         have c43b1 : (t248 != 0) = false := bne_eq_false_iff_eq.mpr c43
         clear c43
         (first | rw [c43b0] | (simp only [i64_w, i32_w]; rw [c43b0]) | rw [c43b1] | rw [c43b2] | skip)
         have H' := A8_ H
         clear H
         go_wp2
         go_meet
         case rel => exact ⟨_, (false), q8_28, H', ⟨by have := HJ4.out; first | omega | exact Nat.le_refl _⟩, ⟨by (with_reducible repeat (first | apply Kd.R_alloc | apply Kd.R_drewN | apply Kd.R_drew)); exact Kd.R_mono HO239.out (fun _ hk => ⟨hk.2, hk.1⟩)⟩, ⟨by (with_reducible repeat (first | apply Kd.R_alloc | apply Kd.R_drewN | apply Kd.R_drew)); exact Kd.R_mono HO246.out (fun _ hk => ⟨hk.1.2, hk.2⟩)⟩, ⟨by (with_reducible repeat (first | refine blk_drewN ?_ _ | refine blk_drew ?_ | refine blk_alloc ?_ _)); exact BK229.out⟩, ⟨by (with_reducible repeat (first | refine blk_drewN ?_ _ | refine blk_drew ?_ | refine blk_alloc ?_ _)); exact BK230.out⟩, ⟨by (with_reducible repeat (first | refine blk_drewN ?_ _ | refine blk_drew ?_ | refine blk_alloc ?_ _)); exact BK240.out⟩, ⟨by (with_reducible repeat (first | refine blk_drewN ?_ _ | refine blk_drew ?_ | refine blk_alloc ?_ _)); exact BK247.out⟩, ⟨by repeat (first | (with_reducible first | exact HB.out | apply below_alloc | apply pw_below_drewN | apply below_drew1 | refine below_set ?_ GE229.out | refine below_set ?_ GE230.out | refine below_set ?_ GE240.out | refine below_set ?_ GE247.out) | exact HB.out)⟩⟩
        ·rw [if_neg c43] at H
         have c43b0 : (t248 == 0) = false := beq_eq_false_iff_ne.mpr c43
         have c43b1 : (t248 != 0) = true := bne_iff_ne.mpr c43
         (first | rw [c43b0] | (simp only [i64_w, i32_w]; rw [c43b0]) | rw [c43b1] | rw [c43b2] | skip)
         have H' := A8_ H
         clear H
         go_wp2
         go_meet
         case rel => exact ⟨_, (true), q8_28, H', ⟨by have := HJ4.out; first | omega | exact Nat.le_refl _⟩, ⟨by (with_reducible repeat (first | apply Kd.R_alloc | apply Kd.R_drewN | apply Kd.R_drew)); exact Kd.R_mono HO239.out (fun _ hk => ⟨hk.2, hk.1⟩)⟩, ⟨by (with_reducible repeat (first | apply Kd.R_alloc | apply Kd.R_drewN | apply Kd.R_drew)); exact Kd.R_mono HO246.out (fun _ hk => ⟨hk.1.2, hk.2⟩)⟩, ⟨by (with_reducible repeat (first | refine blk_drewN ?_ _ | refine blk_drew ?_ | refine blk_alloc ?_ _)); exact BK229.out⟩, ⟨by (with_reducible repeat (first | refine blk_drewN ?_ _ | refine blk_drew ?_ | refine blk_alloc ?_ _)); exact BK230.out⟩, ⟨by (with_reducible repeat (first | refine blk_drewN ?_ _ | refine blk_drew ?_ | refine blk_alloc ?_ _)); exact BK240.out⟩, ⟨by (with_reducible repeat (first | refine blk_drewN ?_ _ | refine blk_drew ?_ | refine blk_alloc ?_ _)); exact BK247.out⟩, ⟨by repeat (first | (with_reducible first | exact HB.out | apply below_alloc | apply pw_below_drewN | apply below_drew1 | refine below_set ?_ GE229.out | refine below_set ?_ GE230.out | refine below_set ?_ GE240.out | refine below_set ?_ GE247.out) | exact HB.out)⟩⟩
       case rest =>
        clear HC27
        try clear c1
        try clear c2
        try clear p2
        try clear c3
        try clear c4
        try clear c9
        try clear c9b0
        try clear c9b1
        try clear c9b2
        try clear c10
        try clear c13
        try clear c15
        try clear c20
        try clear c23
        try clear c24
        try clear c26
        try clear c39
        try clear c40
        try clear c43
        try clear c43b0
        try clear c43b1
        try clear c43b2
        try clear hcz11_0
        try clear hcz11_1
        try clear hcz11_2
        try clear hcz16_0
        try clear hcz16_1
        try clear hcz16_2
        try clear hcz18_0
        try clear hcz18_1
        try clear hcz18_2
        try clear hcz18_3
        try clear hcz21_0
        try clear hcz21_1
        try clear hcz21_2
        try clear hcz41_0
        try clear hcz41_1
        try clear hcz41_2
        try clear hfz11_0
        try clear hfz11_1
        try clear hfz11_2
        try clear hfz16_0
        try clear hfz16_1
        try clear hfz16_2
        try clear hfz18_0
        try clear hfz18_1
        try clear hfz18_2
        try clear hfz18_3
        try clear hfz21_0
        try clear hfz21_1
        try clear hfz21_2
        try clear hfz41_0
        try clear hfz41_1
        try clear hfz41_2
        try clear p2
        obtain ⟨kq, x45_26, rfl, HA, HJ26, HO_241002, HO_248002, BK229, BK230, BK240, BK247, HB⟩ := hcut
        cases kq with
        | zero => exact absurd HA.out (by simp [batonlaw10_GridApart.j1])
        | succ kj26 =>
         have H := HA.out
         clear HA
         simp only [batonlaw10_GridApart.j1] at H
         by_cases c44 : x45_26 = true
         ·subst c44
          have H1 : (some false) = some r := by rw [if_pos rfl] at H; exact H
          clear H; have H := H1; clear H1
          obtain rfl := Option.some.inj H
          go_wp2
          go_ret
          exact ⟨by first | rfl | (simp [errW_none, errW_some] <;> rfl) | (simp [*, errW_none, errW_some] <;> rfl), by repeat (first | (with_reducible first | exact HB.out | apply below_alloc | apply pw_below_drewN | apply below_drew1 | refine below_set ?_ GE229.out | refine below_set ?_ GE230.out | refine below_set ?_ GE240.out | refine below_set ?_ GE247.out) | exact HB.out)⟩
         ·replace c44 := Bool.eq_false_iff.mpr c44
          subst c44
          have H1 : (if 0 < (y237.length : Int) then ((grid_Board_Grid.f t242 t243 t244).bind fun bt250 => ((grid_Board_Row.f bt250.2.2.2.1 bt250.2.2.2.2.1 bt250.2.2.2.2.2 0).bind fun bt260 => (if (bt250.2.2.1.length : Int) = 0 then (batonlaw10_GridApart.j2 kj26 bt260.1 true a0_0 a0_1 l0_2 bt260.2.1 bt260.2.2.1 bt260.2.2.2 bt250.1 bt250.2.1 bt250.2.2.1) else (batonlaw10_GridApart.j2 kj26 bt260.1 ((bt260.1.length : Int) == 0) a0_0 a0_1 l0_2 bt260.2.1 bt260.2.2.1 bt260.2.2.2 bt250.1 bt250.2.1 bt250.2.2.1)))) else (none)) = some r := by rw [if_neg (show ¬ (false = true) by decide)] at H; exact H
          clear H; have H := H1; clear H1
          by_cases c45 : 0 < (y237.length : Int)
          ·rw [if_pos c45] at H
           have c45b0 : decide (0 < (y237.length : Int)) = true := decide_eq_true c45
           have c45b1 : decide (0 < y237.length) = true := decide_eq_true q8_31
           clear c45
           obtain ⟨y249, hy249⟩ : ∃ y_ : List (S53), y_ = (y237.set (0 : Int).toNat (⟨a1_0, (⟨a1_1, a1_2, a1_3⟩ : S51)⟩ : S53)) := ⟨_, rfl⟩
           replace H : ((grid_Board_Grid.f t242 t243 t244).bind fun bt250 => ((grid_Board_Row.f bt250.2.2.2.1 bt250.2.2.2.2.1 bt250.2.2.2.2.2 0).bind fun bt260 => (if (bt250.2.2.1.length : Int) = 0 then (batonlaw10_GridApart.j2 kj26 bt260.1 true a0_0 a0_1 l0_2 bt260.2.1 bt260.2.2.1 bt260.2.2.2 bt250.1 bt250.2.1 bt250.2.2.1) else (batonlaw10_GridApart.j2 kj26 bt260.1 ((bt260.1.length : Int) == 0) a0_0 a0_1 l0_2 bt260.2.1 bt260.2.2.1 bt260.2.2.2 bt250.1 bt250.2.1 bt250.2.2.1)))) = some r := by first | (rw [hy249]; with_reducible exact H) | (have H2_ := (Option.bind_some _ _).symm.trans H; rw [hy249]; with_reducible exact H2_) | (have H2_ := (Option.bind_some _ _).symm.trans H; with_reducible exact H2_) | with_reducible exact H | (rw [hy249]; exact H) | exact H
           have Ny249 := A8_ hy249
           clear hy249
           replace H := Option.bind_eq_some_iff.mp H
           obtain ⟨⟨t250, t251, t252, t255, t256, t257⟩, A470, H⟩ := H
           replace H : ((grid_Board_Row.f t255 t256 t257 0).bind fun bt260 => (if (t252.length : Int) = 0 then (batonlaw10_GridApart.j2 kj26 bt260.1 true a0_0 a0_1 l0_2 bt260.2.1 bt260.2.2.1 bt260.2.2.2 t250 t251 t252) else (batonlaw10_GridApart.j2 kj26 bt260.1 ((bt260.1.length : Int) == 0) a0_0 a0_1 l0_2 bt260.2.1 bt260.2.2.1 bt260.2.2.2 t250 t251 t252))) = some r := H
           have A47 := A8_ A470
           clear A470
           replace H := Option.bind_eq_some_iff.mp H
           obtain ⟨⟨t260, t263, t264, t265⟩, A480, H⟩ := H
           replace H : (if (t252.length : Int) = 0 then (batonlaw10_GridApart.j2 kj26 t260 true a0_0 a0_1 l0_2 t263 t264 t265 t250 t251 t252) else (batonlaw10_GridApart.j2 kj26 t260 ((t260.length : Int) == 0) a0_0 a0_1 l0_2 t263 t264 t265 t250 t251 t252)) = some r := H
           have A48 := A8_ A480
           clear A480
           have HC49 := A8_ H
           clear H
           have hnb50 := NB240_229.out
           have hnc50 := NB229_240.out
           have hnb51 := NB240_230.out
           have hnc51 := NB230_240.out
           have hnb52 := NB240_247.out
           have hnc52 := NB247_240.out
           have hcz53_0 : wc.cell? ⟨gb240, 0, none⟩ = some (.int .i64 a0_0) := bc8_ BK240 0
           have hcz53_1 : wc.cell? ⟨gb240, 1, none⟩ = some (.int .i64 a0_1) := bc8_ BK240 1
           have hcz53_2 : wc.cell? ⟨gb240, 2, none⟩ = some (.slice Ao35 y237.length co35) := bc8_ BK240 2
           have hfz53_0 := blk_frozen BK240.out 0
           have hfz53_1 := blk_frozen BK240.out 1
           have hfz53_2 := blk_frozen BK240.out 2
           have hnb54 := NB230_229.out
           have hnc54 := NB229_230.out
           have hnb55 := NB230_247.out
           have hnc55 := NB247_230.out
           have hcz56_0 : wc.cell? ⟨gb230, 0, none⟩ = some (.int .i32 a1_0) := bc8_ BK230 0
           have hcz56_1 : wc.cell? ⟨gb230, 1, none⟩ = some (.int .i64 a1_1) := bc8_ BK230 1
           have hcz56_2 : wc.cell? ⟨gb230, 2, none⟩ = some (.int .i64 a1_2) := bc8_ BK230 2
           have hcz56_3 : wc.cell? ⟨gb230, 3, none⟩ = some (.int .i64 a1_3) := bc8_ BK230 3
           have hfz56_0 := blk_frozen BK230.out 0
           have hfz56_1 := blk_frozen BK230.out 1
           have hfz56_2 := blk_frozen BK230.out 2
           have hfz56_3 := blk_frozen BK230.out 3
           have p46 : 0 <= (0 : Int) := q8_31
           have q46 : (0 : Int) < ((y237.length : Int) : Int) := of_decide_eq_true q8_24
           have qi46 : (0 < y237.length) = True := eq_true q8_31
           obtain ⟨go46, co46, eo46, gb46, gl46, cl46, HG46⟩ := Kd.R_form HO_241002.out q8_31
           (first | cases eo46 | (injection eo46 with ea_ en_ ec_; (first | subst ea_ | (injection ea_ with ea_; subst ea_)); subst ec_; clear en_))
           have GB46 := A8_ gb46
           have GG46 := A8_ HG46
           clear gb46 gl46 HG46
           obtain ⟨ce46, hcl46, hM46, hcc46, hfr46⟩ := Kd.R_elem HO_241002.out z53 (0 : Int) p46 q46
           obtain rfl := k53_openM hM46
           have hx46_0 : wc.cell? ⟨go46, (0 : Int).toNat * 4, none⟩ = some (.int .i32 ((rd_T53 y237 0).f0)) := hcc46 0 _ rfl
           have hx46_1 : wc.cell? ⟨go46, (0 : Int).toNat * 4 + 1, none⟩ = some (.int .i64 ((rd_T53 y237 0).f1.f0)) := hcc46 1 _ rfl
           have hx46_2 : wc.cell? ⟨go46, (0 : Int).toNat * 4 + 2, none⟩ = some (.int .i64 ((rd_T53 y237 0).f1.f1)) := hcc46 2 _ rfl
           have hx46_3 : wc.cell? ⟨go46, (0 : Int).toNat * 4 + 3, none⟩ = some (.int .i64 ((rd_T53 y237 0).f1.f2)) := hcc46 3 _ rfl
           have hf46_0 : wc.frozen? ⟨go46, (0 : Int).toNat * 4, none⟩ = false := hfr46 0
           have hf46_1 : wc.frozen? ⟨go46, (0 : Int).toNat * 4 + 1, none⟩ = false := hfr46 1
           have hf46_2 : wc.frozen? ⟨go46, (0 : Int).toNat * 4 + 2, none⟩ = false := hfr46 2
           have hf46_3 : wc.frozen? ⟨go46, (0 : Int).toNat * 4 + 3, none⟩ = false := hfr46 3
           clear hcl46 hcc46 hfr46 hM46
           (try rw [show ((0 : Int)).toNat = 0 from rfl] at hx46_0)
           (try simp only [Nat.reduceMul, Nat.zero_mul, Nat.zero_add, Nat.reduceAdd] at hx46_0)
           (try rw [show ((0 : Int)).toNat = 0 from rfl] at hf46_0)
           (try simp only [Nat.reduceMul, Nat.zero_mul, Nat.zero_add, Nat.reduceAdd] at hf46_0)
           (try rw [show ((0 : Int)).toNat = 0 from rfl] at hx46_1)
           (try simp only [Nat.reduceMul, Nat.zero_mul, Nat.zero_add, Nat.reduceAdd] at hx46_1)
           (try rw [show ((0 : Int)).toNat = 0 from rfl] at hf46_1)
           (try simp only [Nat.reduceMul, Nat.zero_mul, Nat.zero_add, Nat.reduceAdd] at hf46_1)
           (try rw [show ((0 : Int)).toNat = 0 from rfl] at hx46_2)
           (try simp only [Nat.reduceMul, Nat.zero_mul, Nat.zero_add, Nat.reduceAdd] at hx46_2)
           (try rw [show ((0 : Int)).toNat = 0 from rfl] at hf46_2)
           (try simp only [Nat.reduceMul, Nat.zero_mul, Nat.zero_add, Nat.reduceAdd] at hf46_2)
           (try rw [show ((0 : Int)).toNat = 0 from rfl] at hx46_3)
           (try simp only [Nat.reduceMul, Nat.zero_mul, Nat.zero_add, Nat.reduceAdd] at hx46_3)
           (try rw [show ((0 : Int)).toNat = 0 from rfl] at hf46_3)
           (try simp only [Nat.reduceMul, Nat.zero_mul, Nat.zero_add, Nat.reduceAdd] at hf46_3)
           replace p46 := eq_true p46
           replace q46 := eq_true q46
           have HX57 := A8_ (show Kd.R k53 53 wc w.heap.size (fun k_ => some k_ ≠ (v245 : Value).ownBlock /\ k_ ≠ gb230) (.slice (some ⟨go46, 0, none⟩) y237.length co35) y237 from q8_13)
           obtain ⟨ce57, hcl57, hM57, hcc57, hfr57⟩ := Kd.R_elem HX57.out z53 (0 : Int) q8_31 (by have h_ : (0 : Int) < ((y237.length : Int) : Int) := of_decide_eq_true q8_24; first | exact h_ | (have e_ := (Kd.R_reads' HO_241002.out).1; omega) | simpa using h_)
           obtain rfl := k53_openM hM57
           have HP57 := Kd.R_seg HX57.out (0 : Int) q8_31 (by have h_ : (0 : Int) < ((y237.length : Int) : Int) := of_decide_eq_true q8_24; first | exact h_ | (have e_ := (Kd.R_reads' HO_241002.out).1; omega) | simpa using h_) (seg := [.int .i32 a1_0, .int .i64 a1_1, .int .i64 a1_2, .int .i64 a1_3]) (j := 0) hcl57 hcc57 (show 4 <= 4 from by decide) (x' := (⟨a1_0, (⟨a1_1, a1_2, a1_3⟩ : S51)⟩ : S53)) (k53_mkM _ _ _ (⟨a1_0, (⟨a1_1, a1_2, a1_3⟩ : S51)⟩ : S53) ) (fun _ hk => hk)
           have hx57_0 := hcc57 0 _ rfl
           (try simp only [show (k53).sz = 4 from rfl, Nat.mul_one, Nat.add_zero] at hx57_0)
           (try rw [show ((0 : Int)).toNat = 0 from rfl] at hx57_0)
           (try simp only [Nat.reduceMul, Nat.zero_mul, Nat.zero_add, Nat.reduceAdd] at hx57_0)
           have hf57_0 := hfr57 0
           (try simp only [show (k53).sz = 4 from rfl, Nat.mul_one, Nat.add_zero] at hf57_0)
           (try rw [show ((0 : Int)).toNat = 0 from rfl] at hf57_0)
           (try simp only [Nat.reduceMul, Nat.zero_mul, Nat.zero_add, Nat.reduceAdd] at hf57_0)
           have hx57_1 := hcc57 1 _ rfl
           (try simp only [show (k53).sz = 4 from rfl, Nat.mul_one, Nat.add_zero] at hx57_1)
           (try rw [show ((0 : Int)).toNat = 0 from rfl] at hx57_1)
           (try simp only [Nat.reduceMul, Nat.zero_mul, Nat.zero_add, Nat.reduceAdd] at hx57_1)
           have hf57_1 := hfr57 1
           (try simp only [show (k53).sz = 4 from rfl, Nat.mul_one, Nat.add_zero] at hf57_1)
           (try rw [show ((0 : Int)).toNat = 0 from rfl] at hf57_1)
           (try simp only [Nat.reduceMul, Nat.zero_mul, Nat.zero_add, Nat.reduceAdd] at hf57_1)
           have hx57_2 := hcc57 2 _ rfl
           (try simp only [show (k53).sz = 4 from rfl, Nat.mul_one, Nat.add_zero] at hx57_2)
           (try rw [show ((0 : Int)).toNat = 0 from rfl] at hx57_2)
           (try simp only [Nat.reduceMul, Nat.zero_mul, Nat.zero_add, Nat.reduceAdd] at hx57_2)
           have hf57_2 := hfr57 2
           (try simp only [show (k53).sz = 4 from rfl, Nat.mul_one, Nat.add_zero] at hf57_2)
           (try rw [show ((0 : Int)).toNat = 0 from rfl] at hf57_2)
           (try simp only [Nat.reduceMul, Nat.zero_mul, Nat.zero_add, Nat.reduceAdd] at hf57_2)
           have hx57_3 := hcc57 3 _ rfl
           (try simp only [show (k53).sz = 4 from rfl, Nat.mul_one, Nat.add_zero] at hx57_3)
           (try rw [show ((0 : Int)).toNat = 0 from rfl] at hx57_3)
           (try simp only [Nat.reduceMul, Nat.zero_mul, Nat.zero_add, Nat.reduceAdd] at hx57_3)
           have hf57_3 := hfr57 3
           (try simp only [show (k53).sz = 4 from rfl, Nat.mul_one, Nat.add_zero] at hf57_3)
           (try rw [show ((0 : Int)).toNat = 0 from rfl] at hf57_3)
           (try simp only [Nat.reduceMul, Nat.zero_mul, Nat.zero_add, Nat.reduceAdd] at hf57_3)
           clear hcl57 hcc57 hfr57 hM57
           go_upto_region 11 with (first | ((with_reducible refine gate_store (t := 53) (p := 49) rfl ?_); refine store_event (t := 53) (p := 49) (v := ?vo_w58) (w1 := ((((wc.setCell ⟨go46, 0, none⟩ (.int .i32 a1_0)).setCell ⟨go46, 1, none⟩ (.int .i64 a1_1)).setCell ⟨go46, 2, none⟩ (.int .i64 a1_2)).setCell ⟨go46, 3, none⟩ (.int .i64 a1_3))) ?hg ?ho ?hn ?hr ?_; (case ho => rfl); (case hg => rfl); (case hn => rfl); (case hr => first | (go_simp; done) | (go_simp; rfl)); intro w58 hw; have hg : wc.grownBy w58 (some go46) := (by rw [hw]; exact HP57.2); have hp_ : Kd.R k53 53 w58 w.heap.size (fun k_ => some k_ ≠ (v245 : Value).ownBlock /\ k_ ≠ gb230) (.slice (some ⟨go46, 0, none⟩) y237.length co35) y249 := (by rw [hw, Ny249.out]; exact HP57.1); clear HP57; have n0_ := A8_ (hp_); have n1_ := A8_ (Kd.R_after (v := (.slice (some ⟨go46, 0, none⟩) y237.length co35)) (v1 := (.slice (some ⟨go46, 0, none⟩) y237.length co35)) (ok := (fun k_ => k_ ≠ gb230)) (by (with_reducible repeat (first | apply Kd.R_alloc | apply Kd.R_drewN | apply Kd.R_drew)); exact Kd.R_mono HO_248002.out (fun _ hk => ⟨hk.2, hk.1⟩)) hg (.inl rfl)); have n2_ := A8_ (blk_grown (g := gb229) (o := .cells #[.int .i64 a0_0, .int .i64 a0_1, .slice A0_2 l0_2.length c0_2] 75 (0, 0)) q8_4 hg (Kd.R_ne HO_241002.out BK229.out q8_21)); have n3_ := A8_ (blk_grown (g := gb230) (o := .cells #[.int .i32 a1_0, .int .i64 a1_1, .int .i64 a1_2, .int .i64 a1_3] 53 (0, 0)) q8_2 hg (Kd.R_away HO_241002.out (fun _ hk => hk.2))); have n4_ := A8_ (blk_grown (g := gb240) (o := .cells #[.int .i64 a0_0, .int .i64 a0_1, .slice (some ⟨go46, 0, none⟩) y237.length co35] 75 (0, 0)) q8_7 hg (Kd.R_ne HO_241002.out BK240.out q8_21)); have n5_ := A8_ (blk_grown (g := gb247) (o := .cells #[.int .i64 t242, .int .i64 t243, v245] 112 (0, 0)) q8_20 hg (Kd.R_ne HO_241002.out BK247.out q8_21)); have n6_ := A8_ ((by rw [hw]; exact below_set (below_set (below_set (below_set (HB.out) GB46.out) GB46.out) GB46.out) GB46.out : Below w.heap.size w w58)); clear HO_241002 HO_248002 BK229 BK230 BK240 BK247 HB; have HO_241002 := n0_; have HO_248002 := n1_; have BK229 := n2_; have BK230 := n3_; have BK240 := n4_; have BK247 := n5_; have HB := n6_; clear n0_ n1_ n2_ n3_ n4_ n5_ n6_; clear hg hw hp_; obtain ⟨Ao59, co59, eo59⟩ := Kd.R_slice HO_248002.out; subst eo59) | ((with_reducible refine gate_callee (f := 49) rfl ?_); refine goesL_ (some 51) rfl rfl Try.func49 q8_19 rfl #[.pointer (some ⟨gb247, 0, none⟩)] rfl q8_11 ?_; (with_reducible refine (grid_Board_Grid.calls gb247 t242 t243 (fun k_ => some k_ = (.slice Ao59 t244.length co59 : Value).ownBlock) (.slice Ao59 t244.length co59) t244 t250 t251 t252 t255 t256 t257 w _ ?side2 ?side3 ?side1 ?side4 A47.out).mono ?_); (case side1 => repeat (first | (with_reducible first | exact HB.out | apply below_alloc | apply pw_below_drewN | apply below_drew1 | refine below_set ?_ GE229.out | refine below_set ?_ GE230.out | refine below_set ?_ GE240.out | refine below_set ?_ GE247.out) | exact HB.out)); (case side2 => (with_reducible repeat (first | refine blk_drewN ?_ _ | refine blk_drew ?_ | refine blk_alloc ?_ _)); exact BK247.out); (case side3 => exact GE247.out); (case side4 => exact Kd.R_tight rfl HO_248002.out); rintro e w60 ⟨v253, v258, rfl, ho0, ho1, hbx, hb, hkp⟩; refine ⟨_, rfl, ?_⟩; have n0_ := A8_ (Kd.R_mono (ok' := fun k_ => k_ ≠ gb230 /\ some k_ ≠ (v253 : Value).ownBlock /\ some k_ ≠ (v258 : Value).ownBlock) (Kd.R_keptB ((Kd.R_types HO_241002.out (show (World.heap _)[gb247]? = some (.cells #[.int .i64 t242, .int .i64 t243, .slice Ao59 t244.length co59] 112 (0, 0)) from by (with_reducible repeat (first | refine blk_drewN ?_ _ | refine blk_drew ?_ | refine blk_alloc ?_ _)); exact BK247.out) q8_21)) hkp (fun k_ hk_ hs_ => Or.elim hs_ (fun hs_ => (hk_.1.1) hs_) (fun e_ => (hk_.2) e_))) (fun k_ hk_ => ⟨hk_.1.1.2, fun e_ => Or.elim (ho0.1 k_ e_.symm).1 (fun hs_ => hk_.2.1 (.inl hs_)) (fun hn_ => Nat.not_le.2 hk_.2.2 hn_), fun e_ => Or.elim (ho1.1 k_ e_.symm).1 (fun hs_ => hk_.2.1 (.inl hs_)) (fun hn_ => Nat.not_le.2 hk_.2.2 hn_)⟩)); have n1_ := A8_ (blk_kept q8_4 hkp (fun hs_ => Or.elim hs_ (fun hs_ => (fun e_ => (Kd.R_ne HO_248002.out BK229.out q8_21) e_) hs_) (fun e_ => NB229_247.out e_))); have n2_ := A8_ (blk_kept q8_2 hkp (fun hs_ => Or.elim hs_ (fun hs_ => (fun e_ => (Kd.R_away HO_248002.out (fun _ hk => hk.1)) e_) hs_) (fun e_ => NB230_247.out e_))); have n3_ := A8_ (blk_kept q8_7 hkp (fun hs_ => Or.elim hs_ (fun hs_ => (fun e_ => (Kd.R_ne HO_248002.out BK240.out q8_21) e_) hs_) (fun e_ => NB240_247.out e_))); have n4_ := A8_ (hbx); have n5_ := A8_ (Kd.R_mono (ok' := fun k_ => some k_ ≠ (v258 : Value).ownBlock /\ some k_ ≠ (.slice (some ⟨go46, 0, none⟩) y237.length co35 : Value).ownBlock /\ k_ ≠ gb230) ho0 (fun k_ hk_ => ⟨hk_.2, Or.elim hk_.1 (fun hs_ => fun e_ => ((((Kd.R_types HO_241002.out (show (World.heap _)[gb247]? = some (.cells #[.int .i64 t242, .int .i64 t243, .slice Ao59 t244.length co59] 112 (0, 0)) from by (with_reducible repeat (first | refine blk_drewN ?_ _ | refine blk_drew ?_ | refine blk_alloc ?_ _)); exact BK247.out) q8_21)).1 k_ e_.symm).1.1) hs_) (fun hn_ => (Kd.fresh' (Kd.R_lt q8_13) k_ hn_)), Or.elim hk_.1 (fun hs_ => fun e_ => (Kd.R_away HO_248002.out (fun _ hk => hk.1)) (by rw [← e_]; exact hs_)) (fun hn_ => (Kd.freshB (g := gb230) (o := .cells #[.int .i32 a1_0, .int .i64 a1_1, .int .i64 a1_2, .int .i64 a1_3] 53 (0, 0)) q8_2 k_ hn_))⟩)); have n6_ := A8_ (Kd.R_mono (ok' := fun k_ => some k_ ≠ (v253 : Value).ownBlock /\ some k_ ≠ (.slice (some ⟨go46, 0, none⟩) y237.length co35 : Value).ownBlock /\ k_ ≠ gb230) ho1 (fun k_ hk_ => ⟨hk_.2, Or.elim hk_.1 (fun hs_ => fun e_ => ((((Kd.R_types HO_241002.out (show (World.heap _)[gb247]? = some (.cells #[.int .i64 t242, .int .i64 t243, .slice Ao59 t244.length co59] 112 (0, 0)) from by (with_reducible repeat (first | refine blk_drewN ?_ _ | refine blk_drew ?_ | refine blk_alloc ?_ _)); exact BK247.out) q8_21)).1 k_ e_.symm).1.1) hs_) (fun hn_ => (Kd.fresh' (Kd.R_lt q8_13) k_ hn_)), Or.elim hk_.1 (fun hs_ => fun e_ => (Kd.R_away HO_248002.out (fun _ hk => hk.1)) (by rw [← e_]; exact hs_)) (fun hn_ => (Kd.freshB (g := gb230) (o := .cells #[.int .i32 a1_0, .int .i64 a1_1, .int .i64 a1_2, .int .i64 a1_3] 53 (0, 0)) q8_2 k_ hn_))⟩)); have n7_ := A8_ (hb); clear HO_241002 BK229 BK230 BK240 BK247 HB HO_248002; have HO_241002 := n0_; have BK229 := n1_; have BK230 := n2_; have BK240 := n3_; have BK247 := n4_; have HO254 := n5_; have HO259 := n6_; have HB := n7_; clear n0_ n1_ n2_ n3_ n4_ n5_ n6_ n7_; (try clear hbx); (try clear hbn); (try clear hgn); (try clear hb); (try clear hkp); (try clear ho0); (try clear ho1); obtain ⟨Ao61, co61, eo61⟩ := Kd.R_slice HO259.out; subst eo61) | ((with_reducible refine gate_callee (f := 50) rfl ?_); refine goesL_ (some 53) rfl rfl Try.func50 q8_19 rfl #[.pointer (some ⟨gb247, 0, none⟩), .int .i64 0] rfl q8_11 ?_; (with_reducible refine (grid_Board_Row.calls gb247 t255 t256 (fun k_ => some k_ = (.slice Ao61 t257.length co61 : Value).ownBlock) (.slice Ao61 t257.length co61) t257 0 t260 t263 t264 t265 w _ ?side2 ?side3 ?side1 ?side4 A48.out).mono ?_); (case side1 => repeat (first | (with_reducible first | exact HB.out | apply below_alloc | apply pw_below_drewN | apply below_drew1 | refine below_set ?_ GE229.out | refine below_set ?_ GE230.out | refine below_set ?_ GE240.out | refine below_set ?_ GE247.out) | exact HB.out)); (case side2 => (with_reducible repeat (first | refine blk_drewN ?_ _ | refine blk_drew ?_ | refine blk_alloc ?_ _)); exact BK247.out); (case side3 => exact GE247.out); (case side4 => exact Kd.R_tight rfl HO259.out); rintro e w62 ⟨v261, v266, rfl, ho0, ho1, hbx, hb, hkp⟩; refine ⟨_, rfl, ?_⟩; have n0_ := A8_ (Kd.R_mono (ok' := fun k_ => some k_ ≠ (v253 : Value).ownBlock /\ k_ ≠ gb230 /\ some k_ ≠ (v261 : Value).ownBlock /\ some k_ ≠ (v266 : Value).ownBlock) (Kd.R_keptB ((Kd.R_types HO_241002.out (show (World.heap _)[gb247]? = some (.cells #[.int .i64 t255, .int .i64 t256, .slice Ao61 t257.length co61] 112 (0, 0)) from by (with_reducible repeat (first | refine blk_drewN ?_ _ | refine blk_drew ?_ | refine blk_alloc ?_ _)); exact BK247.out) q8_21)) hkp (fun k_ hk_ hs_ => Or.elim hs_ (fun hs_ => (hk_.1.2.2) hs_) (fun e_ => (hk_.2) e_))) (fun k_ hk_ => ⟨hk_.1.1.2.1, hk_.1.1.1, fun e_ => Or.elim (ho0.1 k_ e_.symm).1 (fun hs_ => hk_.2.1 (.inl hs_)) (fun hn_ => Nat.not_le.2 hk_.2.2 hn_), fun e_ => Or.elim (ho1.1 k_ e_.symm).1 (fun hs_ => hk_.2.1 (.inl hs_)) (fun hn_ => Nat.not_le.2 hk_.2.2 hn_)⟩)); have n1_ := A8_ (blk_kept q8_4 hkp (fun hs_ => Or.elim hs_ (fun hs_ => (fun e_ => (Kd.R_ne HO259.out BK229.out q8_21) e_) hs_) (fun e_ => NB229_247.out e_))); have n2_ := A8_ (blk_kept q8_2 hkp (fun hs_ => Or.elim hs_ (fun hs_ => (fun e_ => (Kd.R_away HO259.out (fun _ hk => hk.2.2)) e_) hs_) (fun e_ => NB230_247.out e_))); have n3_ := A8_ (blk_kept q8_7 hkp (fun hs_ => Or.elim hs_ (fun hs_ => (fun e_ => (Kd.R_ne HO259.out BK240.out q8_21) e_) hs_) (fun e_ => NB240_247.out e_))); have n4_ := A8_ (hbx); have n5_ := A8_ (Kd.R_mono (ok' := fun k_ => some k_ ≠ (.slice (some ⟨go46, 0, none⟩) y237.length co35 : Value).ownBlock /\ k_ ≠ gb230 /\ some k_ ≠ (v261 : Value).ownBlock /\ some k_ ≠ (v266 : Value).ownBlock) (Kd.R_keptB ((Kd.R_types HO254.out (show (World.heap _)[gb247]? = some (.cells #[.int .i64 t255, .int .i64 t256, .slice Ao61 t257.length co61] 112 (0, 0)) from by (with_reducible repeat (first | refine blk_drewN ?_ _ | refine blk_drew ?_ | refine blk_alloc ?_ _)); exact BK247.out) q8_21)) hkp (fun k_ hk_ hs_ => Or.elim hs_ (fun hs_ => (hk_.1.1) hs_) (fun e_ => (hk_.2) e_))) (fun k_ hk_ => ⟨hk_.1.1.2.1, hk_.1.1.2.2, fun e_ => Or.elim (ho0.1 k_ e_.symm).1 (fun hs_ => hk_.2.1 (.inl hs_)) (fun hn_ => Nat.not_le.2 hk_.2.2 hn_), fun e_ => Or.elim (ho1.1 k_ e_.symm).1 (fun hs_ => hk_.2.1 (.inl hs_)) (fun hn_ => Nat.not_le.2 hk_.2.2 hn_)⟩)); have n6_ := A8_ (Kd.R_mono (ok' := fun k_ => some k_ ≠ (v266 : Value).ownBlock /\ some k_ ≠ (.slice (some ⟨go46, 0, none⟩) y237.length co35 : Value).ownBlock /\ some k_ ≠ (v253 : Value).ownBlock /\ k_ ≠ gb230) ho0 (fun k_ hk_ => ⟨hk_.2, Or.elim hk_.1 (fun hs_ => fun e_ => ((((Kd.R_types HO_241002.out (show (World.heap _)[gb247]? = some (.cells #[.int .i64 t255, .int .i64 t256, .slice Ao61 t257.length co61] 112 (0, 0)) from by (with_reducible repeat (first | refine blk_drewN ?_ _ | refine blk_drew ?_ | refine blk_alloc ?_ _)); exact BK247.out) q8_21)).1 k_ e_.symm).1.2.2) hs_) (fun hn_ => (Kd.fresh' (Kd.R_lt q8_13) k_ hn_)), Or.elim hk_.1 (fun hs_ => fun e_ => ((((Kd.R_types HO254.out (show (World.heap _)[gb247]? = some (.cells #[.int .i64 t255, .int .i64 t256, .slice Ao61 t257.length co61] 112 (0, 0)) from by (with_reducible repeat (first | refine blk_drewN ?_ _ | refine blk_drew ?_ | refine blk_alloc ?_ _)); exact BK247.out) q8_21)).1 k_ e_.symm).1.1) hs_) (fun hn_ => (Kd.fresh' (Kd.R_lt q8_29) k_ hn_)), Or.elim hk_.1 (fun hs_ => fun e_ => (Kd.R_away HO259.out (fun _ hk => hk.2.2)) (by rw [← e_]; exact hs_)) (fun hn_ => (Kd.freshB (g := gb230) (o := .cells #[.int .i32 a1_0, .int .i64 a1_1, .int .i64 a1_2, .int .i64 a1_3] 53 (0, 0)) q8_2 k_ hn_))⟩)); have n7_ := A8_ (Kd.R_mono (ok' := fun k_ => some k_ ≠ (v261 : Value).ownBlock /\ some k_ ≠ (.slice (some ⟨go46, 0, none⟩) y237.length co35 : Value).ownBlock /\ some k_ ≠ (v253 : Value).ownBlock /\ k_ ≠ gb230) ho1 (fun k_ hk_ => ⟨hk_.2, Or.elim hk_.1 (fun hs_ => fun e_ => ((((Kd.R_types HO_241002.out (show (World.heap _)[gb247]? = some (.cells #[.int .i64 t255, .int .i64 t256, .slice Ao61 t257.length co61] 112 (0, 0)) from by (with_reducible repeat (first | refine blk_drewN ?_ _ | refine blk_drew ?_ | refine blk_alloc ?_ _)); exact BK247.out) q8_21)).1 k_ e_.symm).1.2.2) hs_) (fun hn_ => (Kd.fresh' (Kd.R_lt q8_13) k_ hn_)), Or.elim hk_.1 (fun hs_ => fun e_ => ((((Kd.R_types HO254.out (show (World.heap _)[gb247]? = some (.cells #[.int .i64 t255, .int .i64 t256, .slice Ao61 t257.length co61] 112 (0, 0)) from by (with_reducible repeat (first | refine blk_drewN ?_ _ | refine blk_drew ?_ | refine blk_alloc ?_ _)); exact BK247.out) q8_21)).1 k_ e_.symm).1.1) hs_) (fun hn_ => (Kd.fresh' (Kd.R_lt q8_29) k_ hn_)), Or.elim hk_.1 (fun hs_ => fun e_ => (Kd.R_away HO259.out (fun _ hk => hk.2.2)) (by rw [← e_]; exact hs_)) (fun hn_ => (Kd.freshB (g := gb230) (o := .cells #[.int .i32 a1_0, .int .i64 a1_1, .int .i64 a1_2, .int .i64 a1_3] 53 (0, 0)) q8_2 k_ hn_))⟩)); have n8_ := A8_ (hb); clear HO_241002 BK229 BK230 BK240 BK247 HO254 HB HO259; have HO_241002 := n0_; have BK229 := n1_; have BK230 := n2_; have BK240 := n3_; have BK247 := n4_; have HO254 := n5_; have HO262 := n6_; have HO267 := n7_; have HB := n8_; clear n0_ n1_ n2_ n3_ n4_ n5_ n6_ n7_ n8_; (try clear hbx); (try clear hbn); (try clear hgn); (try clear hb); (try clear hkp); (try clear ho0); (try clear ho1)) | ((with_reducible refine gate_dst (N := 8) rfl ?_); (try (refine gate_guard (by rfl) ?_; dsimp only)); refine box_event ?hg (N := 8) ?hd (cs := #[.int .i64 0, .int .i64 0, .slice none 0 0]) (t := 75) ?hr ?_; (case hd => rfl); (case hg => rfl); (case hr => first | (go_simp; done) | (go_simp; rfl)); intro gb268 hg w63 hbox hb; have n0_ := A8_ (Kd.R_below q8_13 hb); have n1_ := A8_ (Kd.R_below q8_29 hb); have n2_ := A8_ (Kd.R_below (by (with_reducible repeat (first | apply Kd.R_alloc | apply Kd.R_drewN | apply Kd.R_drew)); exact HO262.out) hb); have n3_ := A8_ (Kd.R_below (by (with_reducible repeat (first | apply Kd.R_alloc | apply Kd.R_drewN | apply Kd.R_drew)); exact HO267.out) hb); have n4_ := A8_ (blk_below (g := gb229) (o := .cells #[.int .i64 a0_0, .int .i64 a0_1, .slice A0_2 l0_2.length c0_2] 75 (0, 0)) q8_4 hb); have n5_ := A8_ (blk_below (g := gb230) (o := .cells #[.int .i32 a1_0, .int .i64 a1_1, .int .i64 a1_2, .int .i64 a1_3] 53 (0, 0)) q8_2 hb); have n6_ := A8_ (blk_below (g := gb240) (o := .cells #[.int .i64 a0_0, .int .i64 a0_1, .slice (some ⟨go46, 0, none⟩) y237.length co35] 75 (0, 0)) q8_7 hb); have n7_ := A8_ (blk_below (g := gb247) (o := .cells #[.int .i64 t263, .int .i64 t264, v266] 112 (0, 0)) q8_20 hb); have n8_ := A8_ (below_step q8_23 hb); have n9_ := A8_ (hbox); have n10_ := A8_ ((by rw [hg]; exact (below_size q8_23) : w.heap.size <= gb268)); have n11_ := A8_ ((by rw [hg]; exact (below_size q8_23) : w.heap.size <= gb268)); have n12_ := A8_ ((by rw [hg]; exact Nat.ne_of_lt (blk_lt (g := gb229) (o := .cells #[.int .i64 a0_0, .int .i64 a0_1, .slice A0_2 l0_2.length c0_2] 75 (0, 0)) q8_4) : gb229 ≠ gb268)); have n13_ := A8_ ((by rw [hg]; exact Nat.ne_of_gt (blk_lt (g := gb229) (o := .cells #[.int .i64 a0_0, .int .i64 a0_1, .slice A0_2 l0_2.length c0_2] 75 (0, 0)) q8_4) : gb268 ≠ gb229)); have n14_ := A8_ ((by rw [hg]; exact Nat.ne_of_lt (blk_lt (g := gb230) (o := .cells #[.int .i32 a1_0, .int .i64 a1_1, .int .i64 a1_2, .int .i64 a1_3] 53 (0, 0)) q8_2) : gb230 ≠ gb268)); have n15_ := A8_ ((by rw [hg]; exact Nat.ne_of_gt (blk_lt (g := gb230) (o := .cells #[.int .i32 a1_0, .int .i64 a1_1, .int .i64 a1_2, .int .i64 a1_3] 53 (0, 0)) q8_2) : gb268 ≠ gb230)); have n16_ := A8_ ((by rw [hg]; exact Nat.ne_of_lt (blk_lt (g := gb240) (o := .cells #[.int .i64 a0_0, .int .i64 a0_1, .slice (some ⟨go46, 0, none⟩) y237.length co35] 75 (0, 0)) q8_7) : gb240 ≠ gb268)); have n17_ := A8_ ((by rw [hg]; exact Nat.ne_of_gt (blk_lt (g := gb240) (o := .cells #[.int .i64 a0_0, .int .i64 a0_1, .slice (some ⟨go46, 0, none⟩) y237.length co35] 75 (0, 0)) q8_7) : gb268 ≠ gb240)); have n18_ := A8_ ((by rw [hg]; exact Nat.ne_of_lt (blk_lt (g := gb247) (o := .cells #[.int .i64 t263, .int .i64 t264, v266] 112 (0, 0)) q8_20) : gb247 ≠ gb268)); have n19_ := A8_ ((by rw [hg]; exact Nat.ne_of_gt (blk_lt (g := gb247) (o := .cells #[.int .i64 t263, .int .i64 t264, v266] 112 (0, 0)) q8_20) : gb268 ≠ gb247)); clear HO_241002 HO254 HO262 HO267 BK229 BK230 BK240 BK247 HB; have HO_241002 := n0_; have HO254 := n1_; have HO262 := n2_; have HO267 := n3_; have BK229 := n4_; have BK230 := n5_; have BK240 := n6_; have BK247 := n7_; have HB := n8_; have BK268 := n9_; have GW268 := n10_; have GE268 := n11_; have NB229_268 := n12_; have NB268_229 := n13_; have NB230_268 := n14_; have NB268_230 := n15_; have NB240_268 := n16_; have NB268_240 := n17_; have NB247_268 := n18_; have NB268_247 := n19_; clear n0_ n1_ n2_ n3_ n4_ n5_ n6_ n7_ n8_ n9_ n10_ n11_ n12_ n13_ n14_ n15_ n16_ n17_ n18_ n19_; clear hb hbox hg; have hnb64 := NB268_229.out; have hnc64 := NB229_268.out; have hnb65 := NB268_230.out; have hnc65 := NB230_268.out; have hnb66 := NB268_240.out; have hnc66 := NB240_268.out; have hnb67 := NB268_247.out; have hnc67 := NB247_268.out; have hcz68_0 : w63.cell? ⟨gb268, 0, none⟩ = some (.int .i64 0) := bc8_ BK268 0; have hcz68_1 : w63.cell? ⟨gb268, 1, none⟩ = some (.int .i64 0) := bc8_ BK268 1; have hcz68_2 : w63.cell? ⟨gb268, 2, none⟩ = some (.slice none 0 0) := bc8_ BK268 2; have hfz68_0 := blk_frozen BK268.out 0; have hfz68_1 := blk_frozen BK268.out 1; have hfz68_2 := blk_frozen BK268.out 2; obtain ⟨Ao69, co69, eo69⟩ := Kd.R_slice HO254.out; subst eo69))
           (try simp only [Act.put, setIfInBounds_toArray, set_cons_zero, set_cons_succ])
           go_cut [62] (fun v62 wc => ∃ (kq : Nat) (x62_48 : Bool), v62 = .bool x62_48 /\ Aside0 (batonlaw10_GridApart.j2 kq t260 x62_48 a0_0 a0_1 l0_2 t263 t264 t265 t250 t251 t252 = some r) /\ Aside0 (kq <= kj26) /\ Aside0 (Kd.R k53 53 wc w.heap.size (fun k_ => some k_ ≠ ((.slice (some ⟨go46, 0, none⟩) y237.length co35) : Value).ownBlock /\ some k_ ≠ (v266 : Value).ownBlock /\ some k_ ≠ ((.slice Ao69 t252.length co69) : Value).ownBlock /\ k_ ≠ gb230) v261 t260) /\ Aside0 (Kd.R k53 53 wc w.heap.size (fun k_ => some k_ ≠ (v261 : Value).ownBlock /\ some k_ ≠ (v266 : Value).ownBlock /\ some k_ ≠ ((.slice Ao69 t252.length co69) : Value).ownBlock /\ k_ ≠ gb230) (.slice (some ⟨go46, 0, none⟩) y237.length co35) y249) /\ Aside0 (Kd.R k53 53 wc w.heap.size (fun k_ => some k_ ≠ (v261 : Value).ownBlock /\ some k_ ≠ ((.slice (some ⟨go46, 0, none⟩) y237.length co35) : Value).ownBlock /\ some k_ ≠ ((.slice Ao69 t252.length co69) : Value).ownBlock /\ k_ ≠ gb230) v266 t265) /\ Aside0 (Kd.R k53 53 wc w.heap.size (fun k_ => some k_ ≠ (v261 : Value).ownBlock /\ some k_ ≠ ((.slice (some ⟨go46, 0, none⟩) y237.length co35) : Value).ownBlock /\ some k_ ≠ (v266 : Value).ownBlock /\ k_ ≠ gb230) (.slice Ao69 t252.length co69) t252) /\ Aside0 (wc.heap[gb229]? = some (.cells #[.int .i64 a0_0, .int .i64 a0_1, (.slice A0_2 l0_2.length c0_2)] 75 (0, 0))) /\ Aside0 (wc.heap[gb230]? = some (.cells #[.int .i32 a1_0, .int .i64 a1_1, .int .i64 a1_2, .int .i64 a1_3] 53 (0, 0))) /\ Aside0 (wc.heap[gb240]? = some (.cells #[.int .i64 a0_0, .int .i64 a0_1, (.slice (some ⟨go46, 0, none⟩) y237.length co35)] 75 (0, 0))) /\ Aside0 (wc.heap[gb247]? = some (.cells #[.int .i64 t263, .int .i64 t264, v266] 112 (0, 0))) /\ Aside0 (wc.heap[gb268]? = some (.cells #[.int .i64 t250, .int .i64 t251, (.slice Ao69 t252.length co69)] 75 (0, 0))) /\ Aside0 (Below w.heap.size w wc))
           case first =>
            have H := HC49.out
            clear HC49
            by_cases c70 : (t252.length : Int) = 0
            ·rw [if_pos c70] at H
             have c70b0 : ((t252.length : Int) == 0) = true := beq_iff_eq.mpr c70
             have c70b1 : ((t252.length : Int) != 0) = false := bne_eq_false_iff_eq.mpr c70
             clear c70
             (first | rw [c70b0] | (simp only [i64_w, i32_w]; rw [c70b0]) | rw [c70b1] | rw [c70b2] | skip)
             have H' := A8_ H
             clear H
             have hnb71 := NB268_229.out
             have hnc71 := NB229_268.out
             have hnb72 := NB268_230.out
             have hnc72 := NB230_268.out
             have hnb73 := NB268_240.out
             have hnc73 := NB240_268.out
             have hnb74 := NB268_247.out
             have hnc74 := NB247_268.out
             have hcz75_0 : w63.cell? ⟨gb268, 0, none⟩ = some (.int .i64 0) := bc8_ BK268 0
             have hcz75_1 : w63.cell? ⟨gb268, 1, none⟩ = some (.int .i64 0) := bc8_ BK268 1
             have hcz75_2 : w63.cell? ⟨gb268, 2, none⟩ = some (.slice none 0 0) := bc8_ BK268 2
             have hfz75_0 := blk_frozen BK268.out 0
             have hfz75_1 := blk_frozen BK268.out 1
             have hfz75_2 := blk_frozen BK268.out 2
             go_wp2
             go_meet
             case rel => exact ⟨_, (true), q8_28, H', ⟨by have := HJ4.out; have := HJ26.out; first | omega | exact Nat.le_refl _⟩, ⟨by (with_reducible repeat (first | apply Kd.R_alloc | apply Kd.R_drewN | apply Kd.R_drew)); exact Kd.R_mono (Kd.R_far (p := ⟨gb268, 2, none⟩) (Kd.R_far (p := ⟨gb268, 1, none⟩) (Kd.R_far (p := ⟨gb268, 0, none⟩) (Kd.R_types HO262.out BK268.out q8_21) (fun _ hk => hk.2) (.int .i64 t250)) (fun _ hk => hk.2) (.int .i64 t251)) (fun _ hk => hk.2) (.slice Ao69 t252.length co69)) (fun _ hk => ⟨hk.1.2.1, ⟨hk.1.1, ⟨hk.1.2.2.1, hk.1.2.2.2⟩⟩⟩)⟩, ⟨by (with_reducible repeat (first | apply Kd.R_alloc | apply Kd.R_drewN | apply Kd.R_drew)); exact Kd.R_mono (Kd.R_far (p := ⟨gb268, 2, none⟩) (Kd.R_far (p := ⟨gb268, 1, none⟩) (Kd.R_far (p := ⟨gb268, 0, none⟩) (Kd.R_types HO_241002.out BK268.out q8_21) (fun _ hk => hk.2) (.int .i64 t250)) (fun _ hk => hk.2) (.int .i64 t251)) (fun _ hk => hk.2) (.slice Ao69 t252.length co69)) (fun _ hk => ⟨hk.1.2.2.1, ⟨hk.1.2.2.2, ⟨hk.1.1, hk.1.2.1⟩⟩⟩)⟩, ⟨by (with_reducible repeat (first | apply Kd.R_alloc | apply Kd.R_drewN | apply Kd.R_drew)); exact Kd.R_mono (Kd.R_far (p := ⟨gb268, 2, none⟩) (Kd.R_far (p := ⟨gb268, 1, none⟩) (Kd.R_far (p := ⟨gb268, 0, none⟩) (Kd.R_types HO267.out BK268.out q8_21) (fun _ hk => hk.2) (.int .i64 t250)) (fun _ hk => hk.2) (.int .i64 t251)) (fun _ hk => hk.2) (.slice Ao69 t252.length co69)) (fun _ hk => ⟨hk.1.1, ⟨hk.1.2.1, ⟨hk.1.2.2.1, hk.1.2.2.2⟩⟩⟩)⟩, ⟨by (with_reducible repeat (first | apply Kd.R_alloc | apply Kd.R_drewN | apply Kd.R_drew)); exact Kd.R_mono (Kd.R_far (p := ⟨gb268, 2, none⟩) (Kd.R_far (p := ⟨gb268, 1, none⟩) (Kd.R_far (p := ⟨gb268, 0, none⟩) (Kd.R_types HO254.out BK268.out q8_21) (fun _ hk => hk.2) (.int .i64 t250)) (fun _ hk => hk.2) (.int .i64 t251)) (fun _ hk => hk.2) (.slice Ao69 t252.length co69)) (fun _ hk => ⟨hk.1.2.2.1, ⟨hk.1.1, ⟨hk.1.2.2.2, hk.1.2.1⟩⟩⟩)⟩, ⟨by (with_reducible repeat (first | refine blk_drewN ?_ _ | refine blk_drew ?_ | refine blk_alloc ?_ _)); refine blk_far ?_ NB229_268.out _; (with_reducible repeat (first | refine blk_drewN ?_ _ | refine blk_drew ?_ | refine blk_alloc ?_ _)); refine blk_far ?_ NB229_268.out _; (with_reducible repeat (first | refine blk_drewN ?_ _ | refine blk_drew ?_ | refine blk_alloc ?_ _)); refine blk_far ?_ NB229_268.out _; (with_reducible repeat (first | refine blk_drewN ?_ _ | refine blk_drew ?_ | refine blk_alloc ?_ _)); exact BK229.out⟩, ⟨by (with_reducible repeat (first | refine blk_drewN ?_ _ | refine blk_drew ?_ | refine blk_alloc ?_ _)); refine blk_far ?_ NB230_268.out _; (with_reducible repeat (first | refine blk_drewN ?_ _ | refine blk_drew ?_ | refine blk_alloc ?_ _)); refine blk_far ?_ NB230_268.out _; (with_reducible repeat (first | refine blk_drewN ?_ _ | refine blk_drew ?_ | refine blk_alloc ?_ _)); refine blk_far ?_ NB230_268.out _; (with_reducible repeat (first | refine blk_drewN ?_ _ | refine blk_drew ?_ | refine blk_alloc ?_ _)); exact BK230.out⟩, ⟨by (with_reducible repeat (first | refine blk_drewN ?_ _ | refine blk_drew ?_ | refine blk_alloc ?_ _)); refine blk_far ?_ NB240_268.out _; (with_reducible repeat (first | refine blk_drewN ?_ _ | refine blk_drew ?_ | refine blk_alloc ?_ _)); refine blk_far ?_ NB240_268.out _; (with_reducible repeat (first | refine blk_drewN ?_ _ | refine blk_drew ?_ | refine blk_alloc ?_ _)); refine blk_far ?_ NB240_268.out _; (with_reducible repeat (first | refine blk_drewN ?_ _ | refine blk_drew ?_ | refine blk_alloc ?_ _)); exact BK240.out⟩, ⟨by (with_reducible repeat (first | refine blk_drewN ?_ _ | refine blk_drew ?_ | refine blk_alloc ?_ _)); refine blk_far ?_ NB247_268.out _; (with_reducible repeat (first | refine blk_drewN ?_ _ | refine blk_drew ?_ | refine blk_alloc ?_ _)); refine blk_far ?_ NB247_268.out _; (with_reducible repeat (first | refine blk_drewN ?_ _ | refine blk_drew ?_ | refine blk_alloc ?_ _)); refine blk_far ?_ NB247_268.out _; (with_reducible repeat (first | refine blk_drewN ?_ _ | refine blk_drew ?_ | refine blk_alloc ?_ _)); exact BK247.out⟩, ⟨by (with_reducible repeat (first | refine blk_drewN ?_ _ | refine blk_drew ?_ | refine blk_alloc ?_ _)); refine blk_put (cs := #[.int .i64 t250, .int .i64 t251, .slice none 0 0]) ?_ 2 _ rfl; (with_reducible repeat (first | refine blk_drewN ?_ _ | refine blk_drew ?_ | refine blk_alloc ?_ _)); refine blk_put (cs := #[.int .i64 t250, .int .i64 0, .slice none 0 0]) ?_ 1 _ rfl; (with_reducible repeat (first | refine blk_drewN ?_ _ | refine blk_drew ?_ | refine blk_alloc ?_ _)); refine blk_put (cs := #[.int .i64 0, .int .i64 0, .slice none 0 0]) ?_ 0 _ rfl; (with_reducible repeat (first | refine blk_drewN ?_ _ | refine blk_drew ?_ | refine blk_alloc ?_ _)); exact BK268.out⟩, ⟨by repeat (first | (with_reducible first | exact HB.out | apply below_alloc | apply pw_below_drewN | apply below_drew1 | refine below_set ?_ GE229.out | refine below_set ?_ GE230.out | refine below_set ?_ GE240.out | refine below_set ?_ GE247.out | refine below_set ?_ GE268.out) | exact HB.out)⟩⟩
            ·rw [if_neg c70] at H
             have c70b0 : ((t252.length : Int) == 0) = false := beq_eq_false_iff_ne.mpr c70
             have c70b1 : ((t252.length : Int) != 0) = true := bne_iff_ne.mpr c70
             have c70b2 : ¬ (t252 = []) := fun h_ => c70 (by rw [h_]; rfl)
             (first | rw [c70b0] | (simp only [i64_w, i32_w]; rw [c70b0]) | rw [c70b1] | rw [c70b2] | skip)
             have H' := A8_ H
             clear H
             have hnb76 := NB268_229.out
             have hnc76 := NB229_268.out
             have hnb77 := NB268_230.out
             have hnc77 := NB230_268.out
             have hnb78 := NB268_240.out
             have hnc78 := NB240_268.out
             have hnb79 := NB268_247.out
             have hnc79 := NB247_268.out
             have hcz80_0 : w63.cell? ⟨gb268, 0, none⟩ = some (.int .i64 0) := bc8_ BK268 0
             have hcz80_1 : w63.cell? ⟨gb268, 1, none⟩ = some (.int .i64 0) := bc8_ BK268 1
             have hcz80_2 : w63.cell? ⟨gb268, 2, none⟩ = some (.slice none 0 0) := bc8_ BK268 2
             have hfz80_0 := blk_frozen BK268.out 0
             have hfz80_1 := blk_frozen BK268.out 1
             have hfz80_2 := blk_frozen BK268.out 2
             obtain ⟨Ao81, co81, eo81⟩ := Kd.R_slice HO262.out
             subst eo81
             go_wp2
             go_meet
             case rel => exact ⟨_, (((t260.length : Int) == 0)), q8_28, H', ⟨by have := HJ4.out; have := HJ26.out; first | omega | exact Nat.le_refl _⟩, ⟨by (with_reducible repeat (first | apply Kd.R_alloc | apply Kd.R_drewN | apply Kd.R_drew)); exact Kd.R_mono (Kd.R_far (p := ⟨gb268, 2, none⟩) (Kd.R_far (p := ⟨gb268, 1, none⟩) (Kd.R_far (p := ⟨gb268, 0, none⟩) (Kd.R_types HO262.out BK268.out q8_21) (fun _ hk => hk.2) (.int .i64 t250)) (fun _ hk => hk.2) (.int .i64 t251)) (fun _ hk => hk.2) (.slice Ao69 t252.length co69)) (fun _ hk => ⟨hk.1.2.1, ⟨hk.1.1, ⟨hk.1.2.2.1, hk.1.2.2.2⟩⟩⟩)⟩, ⟨by (with_reducible repeat (first | apply Kd.R_alloc | apply Kd.R_drewN | apply Kd.R_drew)); exact Kd.R_mono (Kd.R_far (p := ⟨gb268, 2, none⟩) (Kd.R_far (p := ⟨gb268, 1, none⟩) (Kd.R_far (p := ⟨gb268, 0, none⟩) (Kd.R_types HO_241002.out BK268.out q8_21) (fun _ hk => hk.2) (.int .i64 t250)) (fun _ hk => hk.2) (.int .i64 t251)) (fun _ hk => hk.2) (.slice Ao69 t252.length co69)) (fun _ hk => ⟨hk.1.2.2.1, ⟨hk.1.2.2.2, ⟨hk.1.1, hk.1.2.1⟩⟩⟩)⟩, ⟨by (with_reducible repeat (first | apply Kd.R_alloc | apply Kd.R_drewN | apply Kd.R_drew)); exact Kd.R_mono (Kd.R_far (p := ⟨gb268, 2, none⟩) (Kd.R_far (p := ⟨gb268, 1, none⟩) (Kd.R_far (p := ⟨gb268, 0, none⟩) (Kd.R_types HO267.out BK268.out q8_21) (fun _ hk => hk.2) (.int .i64 t250)) (fun _ hk => hk.2) (.int .i64 t251)) (fun _ hk => hk.2) (.slice Ao69 t252.length co69)) (fun _ hk => ⟨hk.1.1, ⟨hk.1.2.1, ⟨hk.1.2.2.1, hk.1.2.2.2⟩⟩⟩)⟩, ⟨by (with_reducible repeat (first | apply Kd.R_alloc | apply Kd.R_drewN | apply Kd.R_drew)); exact Kd.R_mono (Kd.R_far (p := ⟨gb268, 2, none⟩) (Kd.R_far (p := ⟨gb268, 1, none⟩) (Kd.R_far (p := ⟨gb268, 0, none⟩) (Kd.R_types HO254.out BK268.out q8_21) (fun _ hk => hk.2) (.int .i64 t250)) (fun _ hk => hk.2) (.int .i64 t251)) (fun _ hk => hk.2) (.slice Ao69 t252.length co69)) (fun _ hk => ⟨hk.1.2.2.1, ⟨hk.1.1, ⟨hk.1.2.2.2, hk.1.2.1⟩⟩⟩)⟩, ⟨by (with_reducible repeat (first | refine blk_drewN ?_ _ | refine blk_drew ?_ | refine blk_alloc ?_ _)); refine blk_far ?_ NB229_268.out _; (with_reducible repeat (first | refine blk_drewN ?_ _ | refine blk_drew ?_ | refine blk_alloc ?_ _)); refine blk_far ?_ NB229_268.out _; (with_reducible repeat (first | refine blk_drewN ?_ _ | refine blk_drew ?_ | refine blk_alloc ?_ _)); refine blk_far ?_ NB229_268.out _; (with_reducible repeat (first | refine blk_drewN ?_ _ | refine blk_drew ?_ | refine blk_alloc ?_ _)); exact BK229.out⟩, ⟨by (with_reducible repeat (first | refine blk_drewN ?_ _ | refine blk_drew ?_ | refine blk_alloc ?_ _)); refine blk_far ?_ NB230_268.out _; (with_reducible repeat (first | refine blk_drewN ?_ _ | refine blk_drew ?_ | refine blk_alloc ?_ _)); refine blk_far ?_ NB230_268.out _; (with_reducible repeat (first | refine blk_drewN ?_ _ | refine blk_drew ?_ | refine blk_alloc ?_ _)); refine blk_far ?_ NB230_268.out _; (with_reducible repeat (first | refine blk_drewN ?_ _ | refine blk_drew ?_ | refine blk_alloc ?_ _)); exact BK230.out⟩, ⟨by (with_reducible repeat (first | refine blk_drewN ?_ _ | refine blk_drew ?_ | refine blk_alloc ?_ _)); refine blk_far ?_ NB240_268.out _; (with_reducible repeat (first | refine blk_drewN ?_ _ | refine blk_drew ?_ | refine blk_alloc ?_ _)); refine blk_far ?_ NB240_268.out _; (with_reducible repeat (first | refine blk_drewN ?_ _ | refine blk_drew ?_ | refine blk_alloc ?_ _)); refine blk_far ?_ NB240_268.out _; (with_reducible repeat (first | refine blk_drewN ?_ _ | refine blk_drew ?_ | refine blk_alloc ?_ _)); exact BK240.out⟩, ⟨by (with_reducible repeat (first | refine blk_drewN ?_ _ | refine blk_drew ?_ | refine blk_alloc ?_ _)); refine blk_far ?_ NB247_268.out _; (with_reducible repeat (first | refine blk_drewN ?_ _ | refine blk_drew ?_ | refine blk_alloc ?_ _)); refine blk_far ?_ NB247_268.out _; (with_reducible repeat (first | refine blk_drewN ?_ _ | refine blk_drew ?_ | refine blk_alloc ?_ _)); refine blk_far ?_ NB247_268.out _; (with_reducible repeat (first | refine blk_drewN ?_ _ | refine blk_drew ?_ | refine blk_alloc ?_ _)); exact BK247.out⟩, ⟨by (with_reducible repeat (first | refine blk_drewN ?_ _ | refine blk_drew ?_ | refine blk_alloc ?_ _)); refine blk_put (cs := #[.int .i64 t250, .int .i64 t251, .slice none 0 0]) ?_ 2 _ rfl; (with_reducible repeat (first | refine blk_drewN ?_ _ | refine blk_drew ?_ | refine blk_alloc ?_ _)); refine blk_put (cs := #[.int .i64 t250, .int .i64 0, .slice none 0 0]) ?_ 1 _ rfl; (with_reducible repeat (first | refine blk_drewN ?_ _ | refine blk_drew ?_ | refine blk_alloc ?_ _)); refine blk_put (cs := #[.int .i64 0, .int .i64 0, .slice none 0 0]) ?_ 0 _ rfl; (with_reducible repeat (first | refine blk_drewN ?_ _ | refine blk_drew ?_ | refine blk_alloc ?_ _)); exact BK268.out⟩, ⟨by repeat (first | (with_reducible first | exact HB.out | apply below_alloc | apply pw_below_drewN | apply below_drew1 | refine below_set ?_ GE229.out | refine below_set ?_ GE230.out | refine below_set ?_ GE240.out | refine below_set ?_ GE247.out | refine below_set ?_ GE268.out) | exact HB.out)⟩⟩
           case rest =>
            clear HC49
            try clear c1
            try clear c2
            try clear p2
            try clear c3
            try clear c4
            try clear p4
            try clear q4
            try clear hx4
            try clear qi4
            try clear hf4
            try clear c5
            try clear hx5
            try clear hf5
            try clear c6
            try clear c7
            try clear c9
            try clear c9b0
            try clear c9b1
            try clear c9b2
            try clear c10
            try clear c13
            try clear c15
            try clear c20
            try clear c23
            try clear c24
            try clear c26
            try clear c39
            try clear c40
            try clear c43
            try clear c43b0
            try clear c43b1
            try clear c43b2
            try clear c44
            try clear c45
            try clear c45b0
            try clear c45b1
            try clear c46
            try clear p46
            try clear q46
            try clear hx46
            try clear qi46
            try clear hf46
            try clear c48
            try clear c49
            try clear c50
            try clear c51
            try clear c52
            try clear c54
            try clear c55
            try clear c57
            try clear hx57
            try clear hf57
            try clear c64
            try clear c65
            try clear c66
            try clear c67
            try clear c70
            try clear c70b0
            try clear c70b1
            try clear c70b2
            try clear c71
            try clear c72
            try clear c73
            try clear c74
            try clear c76
            try clear c77
            try clear c78
            try clear c79
            try clear hcz11_0
            try clear hcz11_1
            try clear hcz11_2
            try clear hcz16_0
            try clear hcz16_1
            try clear hcz16_2
            try clear hcz18_0
            try clear hcz18_1
            try clear hcz18_2
            try clear hcz18_3
            try clear hcz21_0
            try clear hcz21_1
            try clear hcz21_2
            try clear hcz41_0
            try clear hcz41_1
            try clear hcz41_2
            try clear hcz53_0
            try clear hcz53_1
            try clear hcz53_2
            try clear hcz56_0
            try clear hcz56_1
            try clear hcz56_2
            try clear hcz56_3
            try clear hcz68_0
            try clear hcz68_1
            try clear hcz68_2
            try clear hcz75_0
            try clear hcz75_1
            try clear hcz75_2
            try clear hcz80_0
            try clear hcz80_1
            try clear hcz80_2
            try clear hfz11_0
            try clear hfz11_1
            try clear hfz11_2
            try clear hfz16_0
            try clear hfz16_1
            try clear hfz16_2
            try clear hfz18_0
            try clear hfz18_1
            try clear hfz18_2
            try clear hfz18_3
            try clear hfz21_0
            try clear hfz21_1
            try clear hfz21_2
            try clear hfz41_0
            try clear hfz41_1
            try clear hfz41_2
            try clear hfz53_0
            try clear hfz53_1
            try clear hfz53_2
            try clear hfz56_0
            try clear hfz56_1
            try clear hfz56_2
            try clear hfz56_3
            try clear hfz68_0
            try clear hfz68_1
            try clear hfz68_2
            try clear hfz75_0
            try clear hfz75_1
            try clear hfz75_2
            try clear hfz80_0
            try clear hfz80_1
            try clear hfz80_2
            try clear hx46_0
            try clear hx46_1
            try clear hx46_2
            try clear hx46_3
            try clear hx57_0
            try clear hx57_1
            try clear hx57_2
            try clear hx57_3
            try clear p2
            try clear p46
            try clear q46
            obtain ⟨kq, x62_48, rfl, HA, HJ48, HO_9, HO_241002, HO_248002, HO_269002, BK229, BK230, BK240, BK247, BK268, HB⟩ := hcut
            have hl241002_48 := (Kd.R_reads' HO_241002.out).1
            rw [hl241002_48] at HO_241002
            (try simp only [hl241002_48])
            (try simp only [hl241002_48] at BK229)
            (try simp only [hl241002_48] at BK230)
            (try simp only [hl241002_48] at BK240)
            (try simp only [hl241002_48] at BK247)
            (try simp only [hl241002_48] at BK268)
            (try simp only [hl241002_48] at HO_9)
            (try simp only [hl241002_48] at HO_248002)
            (try simp only [hl241002_48] at HO_269002)
            cases kq with
            | zero => exact absurd HA.out (by simp [batonlaw10_GridApart.j2])
            | succ kj48 =>
             have H := HA.out
             clear HA
             simp only [batonlaw10_GridApart.j2] at H
             by_cases c82 : x62_48 = true
             ·subst c82
              have H1 : (some false) = some r := by rw [if_pos rfl] at H; exact H
              clear H; have H := H1; clear H1
              obtain rfl := Option.some.inj H
              go_wp2
              go_ret
              exact ⟨by first | rfl | (simp [errW_none, errW_some] <;> rfl) | (simp [*, errW_none, errW_some] <;> rfl), by repeat (first | (with_reducible first | exact HB.out | apply below_alloc | apply pw_below_drewN | apply below_drew1 | refine below_set ?_ GE229.out | refine below_set ?_ GE230.out | refine below_set ?_ GE240.out | refine below_set ?_ GE247.out | refine below_set ?_ GE268.out) | exact HB.out)⟩
             ·replace c82 := Bool.eq_false_iff.mpr c82
              subst c82
              have H1 : (if 0 < (t252.length : Int) then (if 0 < (t260.length : Int) then ((grid_Board_Grid.f t263 t264 t265).bind fun bt271 => ((batonref10_Same.f kj48 bt271.1 bt271.2.1 bt271.2.2.1 a0_0 a0_1 l0_2).bind fun t281 => (some t281))) else (none)) else (none)) = some r := by rw [if_neg (show ¬ (false = true) by decide)] at H; exact H
              clear H; have H := H1; clear H1
              by_cases c83 : 0 < (t252.length : Int)
              ·rw [if_pos c83] at H
               have c83b0 : decide (0 < (t252.length : Int)) = true := decide_eq_true c83
               have c83b1 : decide (0 < t252.length) = true := decide_eq_true q8_31
               clear c83
               (try (have c83b0z := c83b0; simp only [hl241002_48] at c83b0z))
               (try (have c83b1z := c83b1; simp only [hl241002_48] at c83b1z))
               obtain ⟨y269, hy269⟩ : ∃ y_ : List (S53), y_ = (t252.set (0 : Int).toNat (⟨a1_0, (⟨a1_1, a1_2, a1_3⟩ : S51)⟩ : S53)) := ⟨_, rfl⟩
               replace H : (if 0 < (t260.length : Int) then ((grid_Board_Grid.f t263 t264 t265).bind fun bt271 => ((batonref10_Same.f kj48 bt271.1 bt271.2.1 bt271.2.2.1 a0_0 a0_1 l0_2).bind fun t281 => (some t281))) else (none)) = some r := by first | (rw [hy269]; with_reducible exact H) | (have H2_ := (Option.bind_some _ _).symm.trans H; rw [hy269]; with_reducible exact H2_) | (have H2_ := (Option.bind_some _ _).symm.trans H; with_reducible exact H2_) | with_reducible exact H | (rw [hy269]; exact H) | exact H
               have Ny269 := A8_ hy269
               clear hy269
               by_cases c85 : 0 < (t260.length : Int)
               ·rw [if_pos c85] at H
                have c85b0 : decide (0 < (t260.length : Int)) = true := decide_eq_true c85
                have c85b1 : decide (0 < t260.length) = true := decide_eq_true q8_31
                clear c85
                (try (have c85b0z := c85b0; simp only [hl241002_48] at c85b0z))
                (try (have c85b1z := c85b1; simp only [hl241002_48] at c85b1z))
                obtain ⟨y270, hy270⟩ : ∃ y_ : List (S53), y_ = (t260.set (0 : Int).toNat (⟨a1_0, (⟨a1_1, a1_2, a1_3⟩ : S51)⟩ : S53)) := ⟨_, rfl⟩
                replace H : ((grid_Board_Grid.f t263 t264 t265).bind fun bt271 => ((batonref10_Same.f kj48 bt271.1 bt271.2.1 bt271.2.2.1 a0_0 a0_1 l0_2).bind fun t281 => (some t281))) = some r := by first | (rw [hy270]; with_reducible exact H) | (have H2_ := (Option.bind_some _ _).symm.trans H; rw [hy270]; with_reducible exact H2_) | (have H2_ := (Option.bind_some _ _).symm.trans H; with_reducible exact H2_) | with_reducible exact H | (rw [hy270]; exact H) | exact H
                have Ny270 := A8_ hy270
                clear hy270
                replace H := Option.bind_eq_some_iff.mp H
                obtain ⟨⟨t271, t272, t273, t276, t277, t278⟩, A870, H⟩ := H
                replace H : ((batonref10_Same.f kj48 t271 t272 t273 a0_0 a0_1 l0_2).bind fun t281 => (some t281)) = some r := H
                have A87 := A8_ A870
                clear A870
                replace H := Option.bind_eq_some_iff.mp H
                obtain ⟨t281, A880, H⟩ := H
                replace H : (some t281) = some r := H
                have A88 := A8_ A880
                clear A880
                obtain rfl := Option.some.inj H
                have hnb89 := NB268_229.out
                have hnc89 := NB229_268.out
                have hnb90 := NB268_230.out
                have hnc90 := NB230_268.out
                have hnb91 := NB268_240.out
                have hnc91 := NB240_268.out
                have hnb92 := NB268_247.out
                have hnc92 := NB247_268.out
                have hcz93_0 : wc.cell? ⟨gb268, 0, none⟩ = some (.int .i64 t250) := bc8_ BK268 0
                have hcz93_1 : wc.cell? ⟨gb268, 1, none⟩ = some (.int .i64 t251) := bc8_ BK268 1
                have hcz93_2 : wc.cell? ⟨gb268, 2, none⟩ = some (.slice Ao69 t252.length co69) := bc8_ BK268 2
                have hfz93_0 := blk_frozen BK268.out 0
                have hfz93_1 := blk_frozen BK268.out 1
                have hfz93_2 := blk_frozen BK268.out 2
                have hnb94 := NB230_229.out
                have hnc94 := NB229_230.out
                have hnb95 := NB230_240.out
                have hnc95 := NB240_230.out
                have hnb96 := NB230_247.out
                have hnc96 := NB247_230.out
                have hcz97_0 : wc.cell? ⟨gb230, 0, none⟩ = some (.int .i32 a1_0) := bc8_ BK230 0
                have hcz97_1 : wc.cell? ⟨gb230, 1, none⟩ = some (.int .i64 a1_1) := bc8_ BK230 1
                have hcz97_2 : wc.cell? ⟨gb230, 2, none⟩ = some (.int .i64 a1_2) := bc8_ BK230 2
                have hcz97_3 : wc.cell? ⟨gb230, 3, none⟩ = some (.int .i64 a1_3) := bc8_ BK230 3
                have hfz97_0 := blk_frozen BK230.out 0
                have hfz97_1 := blk_frozen BK230.out 1
                have hfz97_2 := blk_frozen BK230.out 2
                have hfz97_3 := blk_frozen BK230.out 3
                have p84 : 0 <= (0 : Int) := q8_31
                have q84 : (0 : Int) < ((t252.length : Int) : Int) := of_decide_eq_true q8_24
                have qi84 : (0 < t252.length) = True := eq_true q8_31
                obtain ⟨go84, co84, eo84, gb84, gl84, cl84, HG84⟩ := Kd.R_form HO_269002.out q8_31
                (first | cases eo84 | (injection eo84 with ea_ en_ ec_; (first | subst ea_ | (injection ea_ with ea_; subst ea_)); subst ec_; clear en_))
                have GB84 := A8_ gb84
                have GG84 := A8_ HG84
                clear gb84 gl84 HG84
                obtain ⟨ce84, hcl84, hM84, hcc84, hfr84⟩ := Kd.R_elem HO_269002.out z53 (0 : Int) p84 q84
                obtain rfl := k53_openM hM84
                have hx84_0 : wc.cell? ⟨go84, (0 : Int).toNat * 4, none⟩ = some (.int .i32 ((rd_T53 t252 0).f0)) := hcc84 0 _ rfl
                have hx84_1 : wc.cell? ⟨go84, (0 : Int).toNat * 4 + 1, none⟩ = some (.int .i64 ((rd_T53 t252 0).f1.f0)) := hcc84 1 _ rfl
                have hx84_2 : wc.cell? ⟨go84, (0 : Int).toNat * 4 + 2, none⟩ = some (.int .i64 ((rd_T53 t252 0).f1.f1)) := hcc84 2 _ rfl
                have hx84_3 : wc.cell? ⟨go84, (0 : Int).toNat * 4 + 3, none⟩ = some (.int .i64 ((rd_T53 t252 0).f1.f2)) := hcc84 3 _ rfl
                have hf84_0 : wc.frozen? ⟨go84, (0 : Int).toNat * 4, none⟩ = false := hfr84 0
                have hf84_1 : wc.frozen? ⟨go84, (0 : Int).toNat * 4 + 1, none⟩ = false := hfr84 1
                have hf84_2 : wc.frozen? ⟨go84, (0 : Int).toNat * 4 + 2, none⟩ = false := hfr84 2
                have hf84_3 : wc.frozen? ⟨go84, (0 : Int).toNat * 4 + 3, none⟩ = false := hfr84 3
                clear hcl84 hcc84 hfr84 hM84
                (try rw [show ((0 : Int)).toNat = 0 from rfl] at hx84_0)
                (try simp only [Nat.reduceMul, Nat.zero_mul, Nat.zero_add, Nat.reduceAdd] at hx84_0)
                (try rw [show ((0 : Int)).toNat = 0 from rfl] at hf84_0)
                (try simp only [Nat.reduceMul, Nat.zero_mul, Nat.zero_add, Nat.reduceAdd] at hf84_0)
                (try rw [show ((0 : Int)).toNat = 0 from rfl] at hx84_1)
                (try simp only [Nat.reduceMul, Nat.zero_mul, Nat.zero_add, Nat.reduceAdd] at hx84_1)
                (try rw [show ((0 : Int)).toNat = 0 from rfl] at hf84_1)
                (try simp only [Nat.reduceMul, Nat.zero_mul, Nat.zero_add, Nat.reduceAdd] at hf84_1)
                (try rw [show ((0 : Int)).toNat = 0 from rfl] at hx84_2)
                (try simp only [Nat.reduceMul, Nat.zero_mul, Nat.zero_add, Nat.reduceAdd] at hx84_2)
                (try rw [show ((0 : Int)).toNat = 0 from rfl] at hf84_2)
                (try simp only [Nat.reduceMul, Nat.zero_mul, Nat.zero_add, Nat.reduceAdd] at hf84_2)
                (try rw [show ((0 : Int)).toNat = 0 from rfl] at hx84_3)
                (try simp only [Nat.reduceMul, Nat.zero_mul, Nat.zero_add, Nat.reduceAdd] at hx84_3)
                (try rw [show ((0 : Int)).toNat = 0 from rfl] at hf84_3)
                (try simp only [Nat.reduceMul, Nat.zero_mul, Nat.zero_add, Nat.reduceAdd] at hf84_3)
                replace p84 := eq_true p84
                replace q84 := eq_true q84
                have HX98 := A8_ (show Kd.R k53 53 wc w.heap.size (fun k_ => some k_ ≠ (v261 : Value).ownBlock /\ some k_ ≠ (.slice (some ⟨go46, 0, none⟩) y249.length co35 : Value).ownBlock /\ some k_ ≠ (v266 : Value).ownBlock /\ k_ ≠ gb230) (.slice (some ⟨go84, 0, none⟩) t252.length co69) t252 from q8_26)
                obtain ⟨ce98, hcl98, hM98, hcc98, hfr98⟩ := Kd.R_elem HX98.out z53 (0 : Int) q8_31 (by have h_ : (0 : Int) < ((t252.length : Int) : Int) := of_decide_eq_true q8_24; first | exact h_ | (have e_ := (Kd.R_reads' HO_269002.out).1; omega) | simpa using h_)
                obtain rfl := k53_openM hM98
                have HP98 := Kd.R_seg HX98.out (0 : Int) q8_31 (by have h_ : (0 : Int) < ((t252.length : Int) : Int) := of_decide_eq_true q8_24; first | exact h_ | (have e_ := (Kd.R_reads' HO_269002.out).1; omega) | simpa using h_) (seg := [.int .i32 a1_0, .int .i64 a1_1, .int .i64 a1_2, .int .i64 a1_3]) (j := 0) hcl98 hcc98 (show 4 <= 4 from by decide) (x' := (⟨a1_0, (⟨a1_1, a1_2, a1_3⟩ : S51)⟩ : S53)) (k53_mkM _ _ _ (⟨a1_0, (⟨a1_1, a1_2, a1_3⟩ : S51)⟩ : S53) ) (fun _ hk => hk)
                have hx98_0 := hcc98 0 _ rfl
                (try simp only [show (k53).sz = 4 from rfl, Nat.mul_one, Nat.add_zero] at hx98_0)
                (try rw [show ((0 : Int)).toNat = 0 from rfl] at hx98_0)
                (try simp only [Nat.reduceMul, Nat.zero_mul, Nat.zero_add, Nat.reduceAdd] at hx98_0)
                have hf98_0 := hfr98 0
                (try simp only [show (k53).sz = 4 from rfl, Nat.mul_one, Nat.add_zero] at hf98_0)
                (try rw [show ((0 : Int)).toNat = 0 from rfl] at hf98_0)
                (try simp only [Nat.reduceMul, Nat.zero_mul, Nat.zero_add, Nat.reduceAdd] at hf98_0)
                have hx98_1 := hcc98 1 _ rfl
                (try simp only [show (k53).sz = 4 from rfl, Nat.mul_one, Nat.add_zero] at hx98_1)
                (try rw [show ((0 : Int)).toNat = 0 from rfl] at hx98_1)
                (try simp only [Nat.reduceMul, Nat.zero_mul, Nat.zero_add, Nat.reduceAdd] at hx98_1)
                have hf98_1 := hfr98 1
                (try simp only [show (k53).sz = 4 from rfl, Nat.mul_one, Nat.add_zero] at hf98_1)
                (try rw [show ((0 : Int)).toNat = 0 from rfl] at hf98_1)
                (try simp only [Nat.reduceMul, Nat.zero_mul, Nat.zero_add, Nat.reduceAdd] at hf98_1)
                have hx98_2 := hcc98 2 _ rfl
                (try simp only [show (k53).sz = 4 from rfl, Nat.mul_one, Nat.add_zero] at hx98_2)
                (try rw [show ((0 : Int)).toNat = 0 from rfl] at hx98_2)
                (try simp only [Nat.reduceMul, Nat.zero_mul, Nat.zero_add, Nat.reduceAdd] at hx98_2)
                have hf98_2 := hfr98 2
                (try simp only [show (k53).sz = 4 from rfl, Nat.mul_one, Nat.add_zero] at hf98_2)
                (try rw [show ((0 : Int)).toNat = 0 from rfl] at hf98_2)
                (try simp only [Nat.reduceMul, Nat.zero_mul, Nat.zero_add, Nat.reduceAdd] at hf98_2)
                have hx98_3 := hcc98 3 _ rfl
                (try simp only [show (k53).sz = 4 from rfl, Nat.mul_one, Nat.add_zero] at hx98_3)
                (try rw [show ((0 : Int)).toNat = 0 from rfl] at hx98_3)
                (try simp only [Nat.reduceMul, Nat.zero_mul, Nat.zero_add, Nat.reduceAdd] at hx98_3)
                have hf98_3 := hfr98 3
                (try simp only [show (k53).sz = 4 from rfl, Nat.mul_one, Nat.add_zero] at hf98_3)
                (try rw [show ((0 : Int)).toNat = 0 from rfl] at hf98_3)
                (try simp only [Nat.reduceMul, Nat.zero_mul, Nat.zero_add, Nat.reduceAdd] at hf98_3)
                clear hcl98 hcc98 hfr98 hM98
                try go_wp2_with (first | ((with_reducible refine gate_store (t := 53) (p := 66) rfl ?_); refine store_event (t := 53) (p := 66) (v := ?vo_w99) (w1 := ((((wc.setCell ⟨go84, 0, none⟩ (.int .i32 a1_0)).setCell ⟨go84, 1, none⟩ (.int .i64 a1_1)).setCell ⟨go84, 2, none⟩ (.int .i64 a1_2)).setCell ⟨go84, 3, none⟩ (.int .i64 a1_3))) ?hg ?ho ?hn ?hr ?_; (case ho => rfl); (case hg => rfl); (case hn => rfl); (case hr => first | (go_simp; done) | (go_simp; rfl)); intro w99 hw; have hg : wc.grownBy w99 (some go84) := (by rw [hw]; exact HP98.2); have hp_ : Kd.R k53 53 w99 w.heap.size (fun k_ => some k_ ≠ (v261 : Value).ownBlock /\ some k_ ≠ (.slice (some ⟨go46, 0, none⟩) y249.length co35 : Value).ownBlock /\ some k_ ≠ (v266 : Value).ownBlock /\ k_ ≠ gb230) (.slice (some ⟨go84, 0, none⟩) t252.length co69) y269 := (by rw [hw, Ny269.out]; exact HP98.1); clear HP98; have n0_ := A8_ (Kd.R_after (v := (.slice (some ⟨go84, 0, none⟩) t252.length co69)) (v1 := (.slice (some ⟨go84, 0, none⟩) t252.length co69)) (ok := (fun k_ => some k_ ≠ (.slice (some ⟨go46, 0, none⟩) y249.length co35 : Value).ownBlock /\ some k_ ≠ (v266 : Value).ownBlock /\ k_ ≠ gb230)) (by (with_reducible repeat (first | apply Kd.R_alloc | apply Kd.R_drewN | apply Kd.R_drew)); exact Kd.R_mono HO_9.out (fun _ hk => ⟨⟨hk.1, ⟨hk.2.1, hk.2.2.2⟩⟩, hk.2.2.1⟩)) hg (.inl rfl)); have n1_ := A8_ (Kd.R_after (v := (.slice (some ⟨go84, 0, none⟩) t252.length co69)) (v1 := (.slice (some ⟨go84, 0, none⟩) t252.length co69)) (ok := (fun k_ => some k_ ≠ (v261 : Value).ownBlock /\ some k_ ≠ (v266 : Value).ownBlock /\ k_ ≠ gb230)) (by (with_reducible repeat (first | apply Kd.R_alloc | apply Kd.R_drewN | apply Kd.R_drew)); exact Kd.R_mono HO_241002.out (fun _ hk => ⟨⟨hk.1, ⟨hk.2.1, hk.2.2.2⟩⟩, hk.2.2.1⟩)) hg (.inl rfl)); have n2_ := A8_ (Kd.R_after (v := (.slice (some ⟨go84, 0, none⟩) t252.length co69)) (v1 := (.slice (some ⟨go84, 0, none⟩) t252.length co69)) (ok := (fun k_ => some k_ ≠ (v261 : Value).ownBlock /\ some k_ ≠ (.slice (some ⟨go46, 0, none⟩) y249.length co35 : Value).ownBlock /\ k_ ≠ gb230)) (by (with_reducible repeat (first | apply Kd.R_alloc | apply Kd.R_drewN | apply Kd.R_drew)); exact Kd.R_mono HO_248002.out (fun _ hk => ⟨⟨hk.1, ⟨hk.2.1, hk.2.2.2⟩⟩, hk.2.2.1⟩)) hg (.inl rfl)); have n3_ := A8_ (hp_); have n4_ := A8_ (blk_grown (g := gb229) (o := .cells #[.int .i64 a0_0, .int .i64 a0_1, .slice A0_2 l0_2.length c0_2] 75 (0, 0)) q8_4 hg (Kd.R_ne HO_269002.out BK229.out q8_21)); have n5_ := A8_ (blk_grown (g := gb230) (o := .cells #[.int .i32 a1_0, .int .i64 a1_1, .int .i64 a1_2, .int .i64 a1_3] 53 (0, 0)) q8_2 hg (Kd.R_away HO_269002.out (fun _ hk => hk.2.2.2))); have n6_ := A8_ (blk_grown (g := gb240) (o := .cells #[.int .i64 a0_0, .int .i64 a0_1, .slice (some ⟨go46, 0, none⟩) y249.length co35] 75 (0, 0)) q8_7 hg (Kd.R_ne HO_269002.out BK240.out q8_21)); have n7_ := A8_ (blk_grown (g := gb247) (o := .cells #[.int .i64 t263, .int .i64 t264, v266] 112 (0, 0)) q8_20 hg (Kd.R_ne HO_269002.out BK247.out q8_21)); have n8_ := A8_ (blk_grown (g := gb268) (o := .cells #[.int .i64 t250, .int .i64 t251, .slice (some ⟨go84, 0, none⟩) t252.length co69] 75 (0, 0)) q8_25 hg (Kd.R_ne HO_269002.out BK268.out q8_21)); have n9_ := A8_ ((by rw [hw]; exact below_set (below_set (below_set (below_set (HB.out) GB84.out) GB84.out) GB84.out) GB84.out : Below w.heap.size w w99)); clear HO_9 HO_241002 HO_248002 HO_269002 BK229 BK230 BK240 BK247 BK268 HB; have HO_9 := n0_; have HO_241002 := n1_; have HO_248002 := n2_; have HO_269002 := n3_; have BK229 := n4_; have BK230 := n5_; have BK240 := n6_; have BK247 := n7_; have BK268 := n8_; have HB := n9_; clear n0_ n1_ n2_ n3_ n4_ n5_ n6_ n7_ n8_ n9_; clear hg hw hp_; have hcz100_0 : w99.cell? ⟨gb230, 0, none⟩ = some (.int .i32 a1_0) := bc8_ BK230 0; have hcz100_1 : w99.cell? ⟨gb230, 1, none⟩ = some (.int .i64 a1_1) := bc8_ BK230 1; have hcz100_2 : w99.cell? ⟨gb230, 2, none⟩ = some (.int .i64 a1_2) := bc8_ BK230 2; have hcz100_3 : w99.cell? ⟨gb230, 3, none⟩ = some (.int .i64 a1_3) := bc8_ BK230 3; have hfz100_0 := blk_frozen BK230.out 0; have hfz100_1 := blk_frozen BK230.out 1; have hfz100_2 := blk_frozen BK230.out 2; have hfz100_3 := blk_frozen BK230.out 3; have p86 : 0 <= (0 : Int) := q8_31; have q86 : (0 : Int) < ((t260.length : Int) : Int) := of_decide_eq_true q8_24; have qi86 : (0 < t260.length) = True := eq_true q8_31; obtain ⟨go86, co86, eo86, gb86, gl86, cl86, HG86⟩ := Kd.R_form HO_9.out q8_31; (first | cases eo86 | (injection eo86 with ea_ en_ ec_; (first | subst ea_ | (injection ea_ with ea_; subst ea_)); subst ec_; clear en_)); have GB86 := A8_ gb86; have GG86 := A8_ HG86; clear gb86 gl86 HG86; obtain ⟨ce86, hcl86, hM86, hcc86, hfr86⟩ := Kd.R_elem HO_9.out z53 (0 : Int) p86 q86; obtain rfl := k53_openM hM86; have hx86_0 : w99.cell? ⟨go86, (0 : Int).toNat * 4, none⟩ = some (.int .i32 ((rd_T53 t260 0).f0)) := hcc86 0 _ rfl; have hx86_1 : w99.cell? ⟨go86, (0 : Int).toNat * 4 + 1, none⟩ = some (.int .i64 ((rd_T53 t260 0).f1.f0)) := hcc86 1 _ rfl; have hx86_2 : w99.cell? ⟨go86, (0 : Int).toNat * 4 + 2, none⟩ = some (.int .i64 ((rd_T53 t260 0).f1.f1)) := hcc86 2 _ rfl; have hx86_3 : w99.cell? ⟨go86, (0 : Int).toNat * 4 + 3, none⟩ = some (.int .i64 ((rd_T53 t260 0).f1.f2)) := hcc86 3 _ rfl; have hf86_0 : w99.frozen? ⟨go86, (0 : Int).toNat * 4, none⟩ = false := hfr86 0; have hf86_1 : w99.frozen? ⟨go86, (0 : Int).toNat * 4 + 1, none⟩ = false := hfr86 1; have hf86_2 : w99.frozen? ⟨go86, (0 : Int).toNat * 4 + 2, none⟩ = false := hfr86 2; have hf86_3 : w99.frozen? ⟨go86, (0 : Int).toNat * 4 + 3, none⟩ = false := hfr86 3; clear hcl86 hcc86 hfr86 hM86; (try rw [show ((0 : Int)).toNat = 0 from rfl] at hx86_0); (try simp only [Nat.reduceMul, Nat.zero_mul, Nat.zero_add, Nat.reduceAdd] at hx86_0); (try rw [show ((0 : Int)).toNat = 0 from rfl] at hf86_0); (try simp only [Nat.reduceMul, Nat.zero_mul, Nat.zero_add, Nat.reduceAdd] at hf86_0); (try rw [show ((0 : Int)).toNat = 0 from rfl] at hx86_1); (try simp only [Nat.reduceMul, Nat.zero_mul, Nat.zero_add, Nat.reduceAdd] at hx86_1); (try rw [show ((0 : Int)).toNat = 0 from rfl] at hf86_1); (try simp only [Nat.reduceMul, Nat.zero_mul, Nat.zero_add, Nat.reduceAdd] at hf86_1); (try rw [show ((0 : Int)).toNat = 0 from rfl] at hx86_2); (try simp only [Nat.reduceMul, Nat.zero_mul, Nat.zero_add, Nat.reduceAdd] at hx86_2); (try rw [show ((0 : Int)).toNat = 0 from rfl] at hf86_2); (try simp only [Nat.reduceMul, Nat.zero_mul, Nat.zero_add, Nat.reduceAdd] at hf86_2); (try rw [show ((0 : Int)).toNat = 0 from rfl] at hx86_3); (try simp only [Nat.reduceMul, Nat.zero_mul, Nat.zero_add, Nat.reduceAdd] at hx86_3); (try rw [show ((0 : Int)).toNat = 0 from rfl] at hf86_3); (try simp only [Nat.reduceMul, Nat.zero_mul, Nat.zero_add, Nat.reduceAdd] at hf86_3); replace p86 := eq_true p86; replace q86 := eq_true q86; have n_ := A8_ (Kd.R_mono (ok' := (fun k_ => some k_ ≠ (.slice (some ⟨go46, 0, none⟩) y249.length co35 : Value).ownBlock /\ some k_ ≠ (v266 : Value).ownBlock /\ some k_ ≠ (.slice (some ⟨go84, 0, none⟩) t252.length co69 : Value).ownBlock /\ k_ ≠ gb230)) HO_9.out (fun k_ hk => ⟨hk.1.1, ⟨hk.1.2.1, ⟨hk.2, hk.1.2.2⟩⟩⟩)); clear HO_9; have HO_9 := n_; clear n_; have HX101 := A8_ (show Kd.R k53 53 w99 w.heap.size (fun k_ => some k_ ≠ (.slice (some ⟨go46, 0, none⟩) y249.length co35 : Value).ownBlock /\ some k_ ≠ (v266 : Value).ownBlock /\ some k_ ≠ (.slice (some ⟨go84, 0, none⟩) t252.length co69 : Value).ownBlock /\ k_ ≠ gb230) (.slice (some ⟨go86, 0, none⟩) t260.length co86) t260 from q8_27); obtain ⟨ce101, hcl101, hM101, hcc101, hfr101⟩ := Kd.R_elem HX101.out z53 (0 : Int) q8_31 (by have h_ : (0 : Int) < ((t260.length : Int) : Int) := of_decide_eq_true q8_24; first | exact h_ | (have e_ := (Kd.R_reads' HO_9.out).1; omega) | simpa using h_); obtain rfl := k53_openM hM101; have HP101 := Kd.R_seg HX101.out (0 : Int) q8_31 (by have h_ : (0 : Int) < ((t260.length : Int) : Int) := of_decide_eq_true q8_24; first | exact h_ | (have e_ := (Kd.R_reads' HO_9.out).1; omega) | simpa using h_) (seg := [.int .i32 a1_0, .int .i64 a1_1, .int .i64 a1_2, .int .i64 a1_3]) (j := 0) hcl101 hcc101 (show 4 <= 4 from by decide) (x' := (⟨a1_0, (⟨a1_1, a1_2, a1_3⟩ : S51)⟩ : S53)) (k53_mkM _ _ _ (⟨a1_0, (⟨a1_1, a1_2, a1_3⟩ : S51)⟩ : S53) ) (fun _ hk => hk); have hx101_0 := hcc101 0 _ rfl; (try simp only [show (k53).sz = 4 from rfl, Nat.mul_one, Nat.add_zero] at hx101_0); (try rw [show ((0 : Int)).toNat = 0 from rfl] at hx101_0); (try simp only [Nat.reduceMul, Nat.zero_mul, Nat.zero_add, Nat.reduceAdd] at hx101_0); have hf101_0 := hfr101 0; (try simp only [show (k53).sz = 4 from rfl, Nat.mul_one, Nat.add_zero] at hf101_0); (try rw [show ((0 : Int)).toNat = 0 from rfl] at hf101_0); (try simp only [Nat.reduceMul, Nat.zero_mul, Nat.zero_add, Nat.reduceAdd] at hf101_0); have hx101_1 := hcc101 1 _ rfl; (try simp only [show (k53).sz = 4 from rfl, Nat.mul_one, Nat.add_zero] at hx101_1); (try rw [show ((0 : Int)).toNat = 0 from rfl] at hx101_1); (try simp only [Nat.reduceMul, Nat.zero_mul, Nat.zero_add, Nat.reduceAdd] at hx101_1); have hf101_1 := hfr101 1; (try simp only [show (k53).sz = 4 from rfl, Nat.mul_one, Nat.add_zero] at hf101_1); (try rw [show ((0 : Int)).toNat = 0 from rfl] at hf101_1); (try simp only [Nat.reduceMul, Nat.zero_mul, Nat.zero_add, Nat.reduceAdd] at hf101_1); have hx101_2 := hcc101 2 _ rfl; (try simp only [show (k53).sz = 4 from rfl, Nat.mul_one, Nat.add_zero] at hx101_2); (try rw [show ((0 : Int)).toNat = 0 from rfl] at hx101_2); (try simp only [Nat.reduceMul, Nat.zero_mul, Nat.zero_add, Nat.reduceAdd] at hx101_2); have hf101_2 := hfr101 2; (try simp only [show (k53).sz = 4 from rfl, Nat.mul_one, Nat.add_zero] at hf101_2); (try rw [show ((0 : Int)).toNat = 0 from rfl] at hf101_2); (try simp only [Nat.reduceMul, Nat.zero_mul, Nat.zero_add, Nat.reduceAdd] at hf101_2); have hx101_3 := hcc101 3 _ rfl; (try simp only [show (k53).sz = 4 from rfl, Nat.mul_one, Nat.add_zero] at hx101_3); (try rw [show ((0 : Int)).toNat = 0 from rfl] at hx101_3); (try simp only [Nat.reduceMul, Nat.zero_mul, Nat.zero_add, Nat.reduceAdd] at hx101_3); have hf101_3 := hfr101 3; (try simp only [show (k53).sz = 4 from rfl, Nat.mul_one, Nat.add_zero] at hf101_3); (try rw [show ((0 : Int)).toNat = 0 from rfl] at hf101_3); (try simp only [Nat.reduceMul, Nat.zero_mul, Nat.zero_add, Nat.reduceAdd] at hf101_3); clear hcl101 hcc101 hfr101 hM101) | ((with_reducible refine gate_store (t := 53) (p := 69) rfl ?_); refine store_event (t := 53) (p := 69) (v := ?vo_w102) (w1 := ((((w99.setCell ⟨go86, 0, none⟩ (.int .i32 a1_0)).setCell ⟨go86, 1, none⟩ (.int .i64 a1_1)).setCell ⟨go86, 2, none⟩ (.int .i64 a1_2)).setCell ⟨go86, 3, none⟩ (.int .i64 a1_3))) ?hg ?ho ?hn ?hr ?_; (case ho => rfl); (case hg => rfl); (case hn => rfl); (case hr => first | (go_simp; done) | (go_simp; rfl)); intro w102 hw; have hg : w99.grownBy w102 (some go86) := (by rw [hw]; exact HP101.2); have hp_ : Kd.R k53 53 w102 w.heap.size (fun k_ => some k_ ≠ (.slice (some ⟨go46, 0, none⟩) y249.length co35 : Value).ownBlock /\ some k_ ≠ (v266 : Value).ownBlock /\ some k_ ≠ (.slice (some ⟨go84, 0, none⟩) t252.length co69 : Value).ownBlock /\ k_ ≠ gb230) (.slice (some ⟨go86, 0, none⟩) t260.length co86) y270 := (by rw [hw, Ny270.out]; exact HP101.1); clear HP101; have n0_ := A8_ (hp_); have n1_ := A8_ (Kd.R_after (v := (.slice (some ⟨go86, 0, none⟩) t260.length co86)) (v1 := (.slice (some ⟨go86, 0, none⟩) t260.length co86)) (ok := (fun k_ => some k_ ≠ (v266 : Value).ownBlock /\ some k_ ≠ (.slice (some ⟨go84, 0, none⟩) t252.length co69 : Value).ownBlock /\ k_ ≠ gb230)) (by (with_reducible repeat (first | apply Kd.R_alloc | apply Kd.R_drewN | apply Kd.R_drew)); exact Kd.R_mono HO_241002.out (fun _ hk => ⟨⟨hk.1.2.1, ⟨hk.2, hk.1.2.2⟩⟩, hk.1.1⟩)) hg (.inl rfl)); have n2_ := A8_ (Kd.R_after (v := (.slice (some ⟨go86, 0, none⟩) t260.length co86)) (v1 := (.slice (some ⟨go86, 0, none⟩) t260.length co86)) (ok := (fun k_ => some k_ ≠ (.slice (some ⟨go46, 0, none⟩) y249.length co35 : Value).ownBlock /\ some k_ ≠ (.slice (some ⟨go84, 0, none⟩) t252.length co69 : Value).ownBlock /\ k_ ≠ gb230)) (by (with_reducible repeat (first | apply Kd.R_alloc | apply Kd.R_drewN | apply Kd.R_drew)); exact Kd.R_mono HO_248002.out (fun _ hk => ⟨⟨hk.1.2.1, ⟨hk.2, hk.1.2.2⟩⟩, hk.1.1⟩)) hg (.inl rfl)); have n3_ := A8_ (Kd.R_after (v := (.slice (some ⟨go86, 0, none⟩) t260.length co86)) (v1 := (.slice (some ⟨go86, 0, none⟩) t260.length co86)) (ok := (fun k_ => some k_ ≠ (.slice (some ⟨go46, 0, none⟩) y249.length co35 : Value).ownBlock /\ some k_ ≠ (v266 : Value).ownBlock /\ k_ ≠ gb230)) (by (with_reducible repeat (first | apply Kd.R_alloc | apply Kd.R_drewN | apply Kd.R_drew)); exact Kd.R_mono HO_269002.out (fun _ hk => ⟨⟨hk.2.1, ⟨hk.2.2.1, hk.2.2.2⟩⟩, hk.1⟩)) hg (.inl rfl)); have n4_ := A8_ (blk_grown (g := gb229) (o := .cells #[.int .i64 a0_0, .int .i64 a0_1, .slice A0_2 l0_2.length c0_2] 75 (0, 0)) q8_4 hg (Kd.R_ne HO_9.out BK229.out q8_21)); have n5_ := A8_ (blk_grown (g := gb230) (o := .cells #[.int .i32 a1_0, .int .i64 a1_1, .int .i64 a1_2, .int .i64 a1_3] 53 (0, 0)) q8_2 hg (Kd.R_away HO_9.out (fun _ hk => hk.2.2.2))); have n6_ := A8_ (blk_grown (g := gb240) (o := .cells #[.int .i64 a0_0, .int .i64 a0_1, .slice (some ⟨go46, 0, none⟩) y249.length co35] 75 (0, 0)) q8_7 hg (Kd.R_ne HO_9.out BK240.out q8_21)); have n7_ := A8_ (blk_grown (g := gb247) (o := .cells #[.int .i64 t263, .int .i64 t264, v266] 112 (0, 0)) q8_20 hg (Kd.R_ne HO_9.out BK247.out q8_21)); have n8_ := A8_ (blk_grown (g := gb268) (o := .cells #[.int .i64 t250, .int .i64 t251, .slice (some ⟨go84, 0, none⟩) t252.length co69] 75 (0, 0)) q8_25 hg (Kd.R_ne HO_9.out BK268.out q8_21)); have n9_ := A8_ ((by rw [hw]; exact below_set (below_set (below_set (below_set (HB.out) GB86.out) GB86.out) GB86.out) GB86.out : Below w.heap.size w w102)); clear HO_9 HO_241002 HO_248002 HO_269002 BK229 BK230 BK240 BK247 BK268 HB; have HO_9 := n0_; have HO_241002 := n1_; have HO_248002 := n2_; have HO_269002 := n3_; have BK229 := n4_; have BK230 := n5_; have BK240 := n6_; have BK247 := n7_; have BK268 := n8_; have HB := n9_; clear n0_ n1_ n2_ n3_ n4_ n5_ n6_ n7_ n8_ n9_; clear hg hw hp_))
                have n0_ := A8_ (Kd.R_drew HO_9.out)
                have n1_ := A8_ (Kd.R_drew HO_241002.out)
                have n2_ := A8_ (Kd.R_drew HO_248002.out)
                have n3_ := A8_ (Kd.R_drew HO_269002.out)
                have n4_ := A8_ (blk_drew BK229.out)
                have n5_ := A8_ (blk_drew BK230.out)
                have n6_ := A8_ (blk_drew BK240.out)
                have n7_ := A8_ (blk_drew BK247.out)
                have n8_ := A8_ (blk_drew BK268.out)
                have n9_ := A8_ (below_drew1 HB.out)
                clear HO_9; clear HO_241002; clear HO_248002; clear HO_269002; clear BK229; clear BK230; clear BK240; clear BK247; clear BK268; clear HB; have HO_9 := n0_; have HO_241002 := n1_; have HO_248002 := n2_; have HO_269002 := n3_; have BK229 := n4_; have BK230 := n5_; have BK240 := n6_; have BK247 := n7_; have BK268 := n8_; have HB := n9_; clear n0_ n1_ n2_ n3_ n4_ n5_ n6_ n7_ n8_ n9_
                obtain ⟨Ao104, co104, eo104⟩ := Kd.R_slice HO_248002.out
                (first | subst eo104 | (injection eo104 with f1_ f2_ f3_; have f4_ := f1_.symm; have f5_ := f3_.symm; clear f1_ f2_ f3_; subst f4_; subst f5_))
                refine start_ (n := 5) (S := fun w' => w'.cell? ⟨gb229, 0, none⟩ = some (.int .i64 a0_0) /\ w'.cell? ⟨gb229, 1, none⟩ = some (.int .i64 a0_1) /\ w'.cell? ⟨gb229, 2, none⟩ = some (.slice A0_2 l0_2.length c0_2)) (ds := []) #[false, false, false, false, false] q8_19 rfl rfl ⟨bc8_ BK229 0, bc8_ BK229 1, bc8_ BK229 2⟩ (fun hHeld => ?_)
                generalize w102.drew = w103 at HO_9 HO_241002 HO_248002 HO_269002 BK229 BK230 BK240 BK247 BK268 HB hHeld ⊢
                refine pure_ (i := 0) (N := some 70) (v := ?_) (a' := ?_) #[true, false, false, false, false] rfl rfl q8_19 (fun _ _ _ h => h) (Or.inl ⟨by rfl, ?_⟩) ?_ ?_
                rotate_left; · intro w'; go_simp; with_reducible rfl
                rotate_left; · simp only [Act.put, setIfInBounds_toArray, set_cons_zero, set_cons_succ, i64_w, i32_w]; rfl
                refine take_ (i := 2) (N := some 72) (v := ?_) (a' := ?_) #[true, false, true, false, false] rfl rfl q8_19 (fun _ _ _ h => h) (Or.inl ⟨by rfl, ?_⟩) hHeld ?_ ?_
                rotate_left; · rintro w' ⟨s0, s1, s2⟩; go_simp; with_reducible rfl
                rotate_left; · simp only [Act.put, setIfInBounds_toArray, set_cons_zero, set_cons_succ, i64_w, i32_w]; rfl
                refine one_ (i := 1) (N := some 71) #[true, true, true, false, false] rfl rfl q8_19 q8_21 (fun K hK => ?_)
                refine goes_ Try.func49 q8_19 rfl #[.pointer (some ⟨gb247, 0, none⟩)] (by rfl) rfl rfl q8_11 ?_
                with_reducible refine (grid_Board_Grid.calls gb247 t263 t264 (fun k_ => some k_ = (.slice Ao104 t265.length co104 : Value).ownBlock) (.slice Ao104 t265.length co104) t265 t271 t272 t273 t276 t277 t278 w _ ?side2 ?side3 ?side1 ?side4 A87.out).mono ?_
                (case side1 => repeat (first | (with_reducible first | exact HB.out | apply below_alloc | apply pw_below_drewN | apply below_drew1 | refine below_set ?_ GE229.out | refine below_set ?_ GE230.out | refine below_set ?_ GE240.out | refine below_set ?_ GE247.out | refine below_set ?_ GE268.out) | exact HB.out))
                (case side2 => (with_reducible repeat (first | refine blk_drewN ?_ _ | refine blk_drew ?_ | refine blk_alloc ?_ _)); exact BK247.out)
                (case side3 => exact GE247.out)
                (case side4 => exact Kd.R_tight rfl HO_248002.out)
                rintro e w105 ⟨v274, v279, rfl, ho0, ho1, hbx, hb, hkp⟩
                refine ⟨_, rfl, ?_⟩
                have n0_ := A8_ (Kd.R_mono (ok' := fun k_ => some k_ ≠ (.slice (some ⟨go46, 0, none⟩) y249.length co35 : Value).ownBlock /\ some k_ ≠ (.slice (some ⟨go84, 0, none⟩) t252.length co69 : Value).ownBlock /\ k_ ≠ gb230 /\ some k_ ≠ (v274 : Value).ownBlock /\ some k_ ≠ (v279 : Value).ownBlock) (Kd.R_keptB ((Kd.R_types HO_9.out (show (World.heap _)[gb247]? = some (.cells #[.int .i64 t263, .int .i64 t264, .slice Ao104 t265.length co104] 112 (0, 0)) from by (with_reducible repeat (first | refine blk_drewN ?_ _ | refine blk_drew ?_ | refine blk_alloc ?_ _)); exact BK247.out) q8_21)) hkp (fun k_ hk_ hs_ => Or.elim hs_ (fun hs_ => (hk_.1.2.1) hs_) (fun e_ => (hk_.2) e_))) (fun k_ hk_ => ⟨hk_.1.1.1, hk_.1.1.2.2.1, hk_.1.1.2.2.2, fun e_ => Or.elim (ho0.1 k_ e_.symm).1 (fun hs_ => hk_.2.1 (.inl hs_)) (fun hn_ => Nat.not_le.2 hk_.2.2 hn_), fun e_ => Or.elim (ho1.1 k_ e_.symm).1 (fun hs_ => hk_.2.1 (.inl hs_)) (fun hn_ => Nat.not_le.2 hk_.2.2 hn_)⟩))
                have n1_ := A8_ (Kd.R_mono (ok' := fun k_ => some k_ ≠ (.slice (some ⟨go86, 0, none⟩) t260.length co86 : Value).ownBlock /\ some k_ ≠ (.slice (some ⟨go84, 0, none⟩) t252.length co69 : Value).ownBlock /\ k_ ≠ gb230 /\ some k_ ≠ (v274 : Value).ownBlock /\ some k_ ≠ (v279 : Value).ownBlock) (Kd.R_keptB ((Kd.R_types HO_241002.out (show (World.heap _)[gb247]? = some (.cells #[.int .i64 t263, .int .i64 t264, .slice Ao104 t265.length co104] 112 (0, 0)) from by (with_reducible repeat (first | refine blk_drewN ?_ _ | refine blk_drew ?_ | refine blk_alloc ?_ _)); exact BK247.out) q8_21)) hkp (fun k_ hk_ hs_ => Or.elim hs_ (fun hs_ => (hk_.1.1.1) hs_) (fun e_ => (hk_.2) e_))) (fun k_ hk_ => ⟨hk_.1.1.2, hk_.1.1.1.2.1, hk_.1.1.1.2.2, fun e_ => Or.elim (ho0.1 k_ e_.symm).1 (fun hs_ => hk_.2.1 (.inl hs_)) (fun hn_ => Nat.not_le.2 hk_.2.2 hn_), fun e_ => Or.elim (ho1.1 k_ e_.symm).1 (fun hs_ => hk_.2.1 (.inl hs_)) (fun hn_ => Nat.not_le.2 hk_.2.2 hn_)⟩))
                have n2_ := A8_ (Kd.R_mono (ok' := fun k_ => some k_ ≠ (.slice (some ⟨go86, 0, none⟩) t260.length co86 : Value).ownBlock /\ some k_ ≠ (.slice (some ⟨go46, 0, none⟩) y249.length co35 : Value).ownBlock /\ k_ ≠ gb230 /\ some k_ ≠ (v274 : Value).ownBlock /\ some k_ ≠ (v279 : Value).ownBlock) (Kd.R_keptB ((Kd.R_types HO_269002.out (show (World.heap _)[gb247]? = some (.cells #[.int .i64 t263, .int .i64 t264, .slice Ao104 t265.length co104] 112 (0, 0)) from by (with_reducible repeat (first | refine blk_drewN ?_ _ | refine blk_drew ?_ | refine blk_alloc ?_ _)); exact BK247.out) q8_21)) hkp (fun k_ hk_ hs_ => Or.elim hs_ (fun hs_ => (hk_.1.1.2.1) hs_) (fun e_ => (hk_.2) e_))) (fun k_ hk_ => ⟨hk_.1.1.2, hk_.1.1.1.1, hk_.1.1.1.2.2, fun e_ => Or.elim (ho0.1 k_ e_.symm).1 (fun hs_ => hk_.2.1 (.inl hs_)) (fun hn_ => Nat.not_le.2 hk_.2.2 hn_), fun e_ => Or.elim (ho1.1 k_ e_.symm).1 (fun hs_ => hk_.2.1 (.inl hs_)) (fun hn_ => Nat.not_le.2 hk_.2.2 hn_)⟩))
                have n3_ := A8_ (blk_kept q8_4 hkp (fun hs_ => Or.elim hs_ (fun hs_ => (fun e_ => (Kd.R_ne HO_248002.out BK229.out q8_21) e_) hs_) (fun e_ => NB229_247.out e_)))
                have n4_ := A8_ (blk_kept q8_2 hkp (fun hs_ => Or.elim hs_ (fun hs_ => (fun e_ => (Kd.R_away HO_248002.out (fun _ hk => hk.1.2.2)) e_) hs_) (fun e_ => NB230_247.out e_)))
                have n5_ := A8_ (blk_kept q8_7 hkp (fun hs_ => Or.elim hs_ (fun hs_ => (fun e_ => (Kd.R_ne HO_248002.out BK240.out q8_21) e_) hs_) (fun e_ => NB240_247.out e_)))
                have n6_ := A8_ (hbx)
                have n7_ := A8_ (blk_kept q8_25 hkp (fun hs_ => Or.elim hs_ (fun hs_ => (fun e_ => (Kd.R_ne HO_248002.out BK268.out q8_21) e_) hs_) (fun e_ => NB268_247.out e_)))
                have n8_ := A8_ (Kd.R_mono (ok' := fun k_ => some k_ ≠ (v279 : Value).ownBlock /\ some k_ ≠ (.slice (some ⟨go86, 0, none⟩) t260.length co86 : Value).ownBlock /\ some k_ ≠ (.slice (some ⟨go46, 0, none⟩) y249.length co35 : Value).ownBlock /\ some k_ ≠ (.slice (some ⟨go84, 0, none⟩) t252.length co69 : Value).ownBlock /\ k_ ≠ gb230) ho0 (fun k_ hk_ => ⟨hk_.2, Or.elim hk_.1 (fun hs_ => fun e_ => ((((Kd.R_types HO_9.out (show (World.heap _)[gb247]? = some (.cells #[.int .i64 t263, .int .i64 t264, .slice Ao104 t265.length co104] 112 (0, 0)) from by (with_reducible repeat (first | refine blk_drewN ?_ _ | refine blk_drew ?_ | refine blk_alloc ?_ _)); exact BK247.out) q8_21)).1 k_ e_.symm).1.2.1) hs_) (fun hn_ => (Kd.fresh' (Kd.R_lt q8_27) k_ hn_)), Or.elim hk_.1 (fun hs_ => fun e_ => ((((Kd.R_types HO_241002.out (show (World.heap _)[gb247]? = some (.cells #[.int .i64 t263, .int .i64 t264, .slice Ao104 t265.length co104] 112 (0, 0)) from by (with_reducible repeat (first | refine blk_drewN ?_ _ | refine blk_drew ?_ | refine blk_alloc ?_ _)); exact BK247.out) q8_21)).1 k_ e_.symm).1.1.1) hs_) (fun hn_ => (Kd.fresh' (Kd.R_lt q8_13) k_ hn_)), Or.elim hk_.1 (fun hs_ => fun e_ => ((((Kd.R_types HO_269002.out (show (World.heap _)[gb247]? = some (.cells #[.int .i64 t263, .int .i64 t264, .slice Ao104 t265.length co104] 112 (0, 0)) from by (with_reducible repeat (first | refine blk_drewN ?_ _ | refine blk_drew ?_ | refine blk_alloc ?_ _)); exact BK247.out) q8_21)).1 k_ e_.symm).1.1.2.1) hs_) (fun hn_ => (Kd.fresh' (Kd.R_lt q8_26) k_ hn_)), Or.elim hk_.1 (fun hs_ => fun e_ => (Kd.R_away HO_248002.out (fun _ hk => hk.1.2.2)) (by rw [← e_]; exact hs_)) (fun hn_ => (Kd.freshB (g := gb230) (o := .cells #[.int .i32 a1_0, .int .i64 a1_1, .int .i64 a1_2, .int .i64 a1_3] 53 (0, 0)) q8_2 k_ hn_))⟩))
                have n9_ := A8_ (Kd.R_mono (ok' := fun k_ => some k_ ≠ (v274 : Value).ownBlock /\ some k_ ≠ (.slice (some ⟨go86, 0, none⟩) t260.length co86 : Value).ownBlock /\ some k_ ≠ (.slice (some ⟨go46, 0, none⟩) y249.length co35 : Value).ownBlock /\ some k_ ≠ (.slice (some ⟨go84, 0, none⟩) t252.length co69 : Value).ownBlock /\ k_ ≠ gb230) ho1 (fun k_ hk_ => ⟨hk_.2, Or.elim hk_.1 (fun hs_ => fun e_ => ((((Kd.R_types HO_9.out (show (World.heap _)[gb247]? = some (.cells #[.int .i64 t263, .int .i64 t264, .slice Ao104 t265.length co104] 112 (0, 0)) from by (with_reducible repeat (first | refine blk_drewN ?_ _ | refine blk_drew ?_ | refine blk_alloc ?_ _)); exact BK247.out) q8_21)).1 k_ e_.symm).1.2.1) hs_) (fun hn_ => (Kd.fresh' (Kd.R_lt q8_27) k_ hn_)), Or.elim hk_.1 (fun hs_ => fun e_ => ((((Kd.R_types HO_241002.out (show (World.heap _)[gb247]? = some (.cells #[.int .i64 t263, .int .i64 t264, .slice Ao104 t265.length co104] 112 (0, 0)) from by (with_reducible repeat (first | refine blk_drewN ?_ _ | refine blk_drew ?_ | refine blk_alloc ?_ _)); exact BK247.out) q8_21)).1 k_ e_.symm).1.1.1) hs_) (fun hn_ => (Kd.fresh' (Kd.R_lt q8_13) k_ hn_)), Or.elim hk_.1 (fun hs_ => fun e_ => ((((Kd.R_types HO_269002.out (show (World.heap _)[gb247]? = some (.cells #[.int .i64 t263, .int .i64 t264, .slice Ao104 t265.length co104] 112 (0, 0)) from by (with_reducible repeat (first | refine blk_drewN ?_ _ | refine blk_drew ?_ | refine blk_alloc ?_ _)); exact BK247.out) q8_21)).1 k_ e_.symm).1.1.2.1) hs_) (fun hn_ => (Kd.fresh' (Kd.R_lt q8_26) k_ hn_)), Or.elim hk_.1 (fun hs_ => fun e_ => (Kd.R_away HO_248002.out (fun _ hk => hk.1.2.2)) (by rw [← e_]; exact hs_)) (fun hn_ => (Kd.freshB (g := gb230) (o := .cells #[.int .i32 a1_0, .int .i64 a1_1, .int .i64 a1_2, .int .i64 a1_3] 53 (0, 0)) q8_2 k_ hn_))⟩))
                have n10_ := A8_ (hb)
                clear HO_9; clear HO_241002; clear HO_269002; clear BK229; clear BK230; clear BK240; clear BK247; clear BK268; clear HB; clear HO_248002; have HO_9 := n0_; have HO_241002 := n1_; have HO_269002 := n2_; have BK229 := n3_; have BK230 := n4_; have BK240 := n5_; have BK247 := n6_; have BK268 := n7_; have HO275 := n8_; have HO280 := n9_; have HB := n10_; clear n0_ n1_ n2_ n3_ n4_ n5_ n6_ n7_ n8_ n9_ n10_; (try clear hbx); (try clear hbn); (try clear hgn); (try clear hb); (try clear hkp); (try clear ho0); (try clear ho1)
                obtain ⟨Ao106, co106, eo106⟩ := Kd.R_slice HO275.out
                (first | subst eo106 | (injection eo106 with f1_ f2_ f3_; have f4_ := f1_.symm; have f5_ := f3_.symm; clear f1_ f2_ f3_; subst f4_; subst f5_))
                refine hK.out _ _ ⟨bc8_ BK229 0, bc8_ BK229 1, bc8_ BK229 2⟩ (fun hHeld => ?_)
                clear hK K
                refine norm_ (a' := ?_) ?_ ?_
                rotate_left; · show Act.put _ (some 71) _ = _; simp only [Act.put, setIfInBounds_toArray, set_cons_zero, set_cons_succ, i64_w, i32_w]; rfl
                refine one_ (i := 3) (N := some 73) #[true, true, true, true, false] rfl rfl q8_19 q8_21 (fun K hK => ?_)
                refine goes_ Try.func51 q8_19 rfl #[.agg #[.int .i64 t271, .int .i64 t272, .slice Ao106 t273.length co106], .agg #[.int .i64 a0_0, .int .i64 a0_1, .slice A0_2 l0_2.length c0_2]] (by rfl) rfl rfl q8_11 ?_
                with_reducible refine (batonref10_Same.calls kj48 t271 t272 _ _ t273 a0_0 a0_1 _ _ l0_2 t281 _ ?side1 ?side2 ?side3 ?side4 A88.out).mono ?_
                (case side1 => repeat (first | exact (Kd.R_reads' HO275.out).2.2 | (with_reducible refine Kd.C_alloc ?_ _) | (with_reducible refine Kd.C_drewN ?_ _) | (with_reducible refine Kd.C_drew ?_)))
                (case side2 => exact (Kd.R_reads' HO275.out).2.1)
                (case side3 => repeat (first | exact (Kd.C_below HR0_2.out HB.out) | (with_reducible refine Kd.C_alloc ?_ _) | (with_reducible refine Kd.C_drewN ?_ _) | (with_reducible refine Kd.C_drew ?_)))
                (case side4 => exact HC0_2.out)
                rintro e w107 ⟨rfl, hb⟩
                refine ⟨_, rfl, ?_⟩
                have n0_ := A8_ (Kd.R_below q8_27 hb)
                have n1_ := A8_ (Kd.R_below q8_13 hb)
                have n2_ := A8_ (Kd.R_below q8_26 hb)
                have n3_ := A8_ (Kd.R_below (by (with_reducible repeat (first | apply Kd.R_alloc | apply Kd.R_drewN | apply Kd.R_drew)); exact HO275.out) hb)
                have n4_ := A8_ (Kd.R_below (by (with_reducible repeat (first | apply Kd.R_alloc | apply Kd.R_drewN | apply Kd.R_drew)); exact HO280.out) hb)
                have n5_ := A8_ (blk_below (g := gb229) (o := .cells #[.int .i64 a0_0, .int .i64 a0_1, .slice A0_2 l0_2.length c0_2] 75 (0, 0)) q8_4 hb)
                have n6_ := A8_ (blk_below (g := gb230) (o := .cells #[.int .i32 a1_0, .int .i64 a1_1, .int .i64 a1_2, .int .i64 a1_3] 53 (0, 0)) q8_2 hb)
                have n7_ := A8_ (blk_below (g := gb240) (o := .cells #[.int .i64 a0_0, .int .i64 a0_1, .slice (some ⟨go46, 0, none⟩) y249.length co35] 75 (0, 0)) q8_7 hb)
                have n8_ := A8_ (blk_below (g := gb247) (o := .cells #[.int .i64 t276, .int .i64 t277, v279] 112 (0, 0)) q8_20 hb)
                have n9_ := A8_ (blk_below (g := gb268) (o := .cells #[.int .i64 t250, .int .i64 t251, .slice (some ⟨go84, 0, none⟩) t252.length co69] 75 (0, 0)) q8_25 hb)
                have n10_ := A8_ (below_step (by repeat (first | (with_reducible first | exact HB.out | apply below_alloc | apply pw_below_drewN | apply below_drew1 | refine below_set ?_ GE229.out | refine below_set ?_ GE230.out | refine below_set ?_ GE240.out | refine below_set ?_ GE247.out | refine below_set ?_ GE268.out) | exact HB.out)) hb)
                clear HO_9; clear HO_241002; clear HO_269002; clear HO275; clear HO280; clear BK229; clear BK230; clear BK240; clear BK247; clear BK268; clear HB; have HO_9 := n0_; have HO_241002 := n1_; have HO_269002 := n2_; have HO275 := n3_; have HO280 := n4_; have BK229 := n5_; have BK230 := n6_; have BK240 := n7_; have BK247 := n8_; have BK268 := n9_; have HB := n10_; clear n0_ n1_ n2_ n3_ n4_ n5_ n6_ n7_ n8_ n9_ n10_; (try clear hb); (try clear hb2); (try clear hk); (try clear hi)
                refine hK.out _ _ ⟨bc8_ BK229 0, bc8_ BK229 1, bc8_ BK229 2⟩ (fun hHeld => ?_)
                clear hK K
                refine norm_ (a' := ?_) ?_ ?_
                rotate_left; · show Act.put _ (some 73) _ = _; simp only [Act.put, setIfInBounds_toArray, set_cons_zero, set_cons_succ, i64_w, i32_w]; rfl
                refine pure_ (i := 4) (N := some 4) (v := ?_) (a' := ?_) #[true, true, true, true, true] rfl rfl q8_19 (fun _ _ _ h => h) (Or.inl ⟨by rfl, ?_⟩) ?_ ?_
                rotate_left; · intro w'; go_simp; with_reducible rfl
                rotate_left; · simp only [Act.put, setIfInBounds_toArray, set_cons_zero, set_cons_succ, i64_w, i32_w]; rfl
                refine done_ q8_19 ?_
                try go_wp2
                go_ret
                exact ⟨by first | rfl | (simp [errW_none, errW_some] <;> rfl) | (simp [*, errW_none, errW_some] <;> rfl), by repeat (first | (with_reducible first | exact HB.out | apply below_alloc | apply pw_below_drewN | apply below_drew1 | refine below_set ?_ GE229.out | refine below_set ?_ GE230.out | refine below_set ?_ GE240.out | refine below_set ?_ GE247.out | refine below_set ?_ GE268.out) | exact HB.out)⟩
               ·rw [if_neg c85] at H
                exact absurd H (by simp)
              ·rw [if_neg c83] at H
               exact absurd H (by simp)
          ·rw [if_neg c45] at H
           exact absurd H (by simp)
      ·replace c26 := Bool.eq_false_iff.mpr c26
       subst c26
       have H1 : (if t248 = 0 then (some false) else (some false)) = some r := by rw [if_neg (show ¬ (false = true) by decide)] at H; exact H
       clear H; have H := H1; clear H1
       by_cases c108 : t248 = 0
       ·rw [if_pos c108] at H
        have c108b0 : (t248 == 0) = true := beq_iff_eq.mpr c108
        have c108b1 : (t248 != 0) = false := bne_eq_false_iff_eq.mpr c108
        clear c108
        obtain rfl := Option.some.inj H
        try go_wp2
        have n0_ := A8_ (blk_drew BK229.out)
        have n1_ := A8_ (blk_drew BK230.out)
        have n2_ := A8_ (below_drew1 HB.out)
        clear BK229; clear BK230; clear HB; have BK229 := n0_; have BK230 := n1_; have HB := n2_; clear n0_ n1_ n2_
        refine start_ (n := 11) (S := fun w' => w'.cell? ⟨gb229, 0, none⟩ = some (.int .i64 a0_0) /\ w'.cell? ⟨gb229, 1, none⟩ = some (.int .i64 a0_1) /\ w'.cell? ⟨gb229, 2, none⟩ = some (.slice A0_2 l0_2.length c0_2)) (ds := []) m8_0 q8_19 rfl rfl ⟨bc8_ BK229 0, bc8_ BK229 1, bc8_ BK229 2⟩ (fun hHeld => ?_); refine with_tabW batonlaw10_GridApart.tab5 batonlaw10_GridApart.bits5 (fun HT_ HW_ => ?_)
        generalize wc.drew = w109 at BK229 BK230 HB hHeld ⊢
        refine pure_ (i := 0) (N := some 26) (v := ?_) (a' := ?_) m8_2 rfl rfl (any_of HT_.out q8_19) (fun _ _ _ h => h) (Or.inl ⟨by rfl, ?_⟩) ?_ ?_
        rotate_left; · intro w'; go_simp; with_reducible rfl
        rotate_left; · simp only [Act.put, setIfInBounds_toArray, set_cons_zero, set_cons_succ, i64_w, i32_w]; rfl
        refine pure_ (i := 2) (N := some 28) (v := ?_) (a' := ?_) m8_4 rfl rfl (any_of HT_.out q8_19) (fun _ _ _ h => h) (Or.inl ⟨by rfl, ?_⟩) ?_ ?_
        rotate_left; · intro w'; go_simp; with_reducible rfl
        rotate_left; · simp only [Act.put, setIfInBounds_toArray, set_cons_zero, set_cons_succ, i64_w, i32_w]; rfl
        refine pure_ (i := 5) (N := some 31) (v := ?_) (a' := ?_) m8_5 rfl rfl (any_of HT_.out q8_19) (fun _ _ _ h => h) (Or.inl ⟨by rfl, ?_⟩) ?_ ?_
        rotate_left; · intro w'; go_simp; with_reducible rfl
        rotate_left; · simp only [Act.put, setIfInBounds_toArray, set_cons_zero, set_cons_succ, i64_w, i32_w]; rfl
        refine take_ (i := 1) (N := some 27) (v := ?_) (a' := ?_) m8_7 rfl rfl (take_ofW HT_.out HW_.out q8_19) (fun _ _ _ h => h) (Or.inl ⟨by rfl, ?_⟩) hHeld ?_ ?_
        rotate_left; · rintro w' ⟨s0, s1, s2⟩; go_simp; with_reducible rfl
        rotate_left; · simp only [Act.put, setIfInBounds_toArray, set_cons_zero, set_cons_succ, i64_w, i32_w]; rfl
        refine take_ (i := 3) (N := some 29) (v := ?_) (a' := ?_) m8_9 rfl rfl (take_ofW HT_.out HW_.out q8_19) (fun _ _ _ h => h) (Or.inl ⟨by rfl, ?_⟩) hHeld ?_ ?_
        rotate_left; · rintro w' ⟨s0, s1, s2⟩; go_simp; with_reducible rfl
        rotate_left; · simp only [Act.put, setIfInBounds_toArray, set_cons_zero, set_cons_succ, i64_w, i32_w]; rfl
        refine take_ (i := 6) (N := some 32) (v := ?_) (a' := ?_) m8_10 rfl rfl (take_ofW HT_.out HW_.out q8_19) (fun _ _ _ h => h) (Or.inl ⟨by rfl, ?_⟩) hHeld ?_ ?_
        rotate_left; · rintro w' ⟨s0, s1, s2⟩; go_simp; with_reducible rfl
        rotate_left; · simp only [Act.put, setIfInBounds_toArray, set_cons_zero, set_cons_succ, i64_w, i32_w]; rfl
        refine join_ (σ := Value × Value × Nat) 1 m8_18 (fun s_ => [(30, s_.1), (33, s_.2.1), (5, .pointer (some ⟨s_.2.2, 0, none⟩)), (34, .agg #[.int .i64 a0_0, .int .i64 a0_1, s_.2.1])]) (fun s_ w' => (w'.cell? ⟨gb229, 0, none⟩ = some (.int .i64 a0_0) /\ w'.cell? ⟨gb229, 1, none⟩ = some (.int .i64 a0_1) /\ w'.cell? ⟨gb229, 2, none⟩ = some (.slice A0_2 l0_2.length c0_2)) /\ (Kd.R k53 53 w' w.heap.size (fun k_ => k_ ≠ gb230) s_.2.1 y237) /\ (w'.heap[gb229]? = some (.cells #[.int .i64 a0_0, .int .i64 a0_1, .slice A0_2 l0_2.length c0_2] 75 (0, 0))) /\ (w'.heap[gb230]? = some (.cells #[.int .i32 a1_0, .int .i64 a1_1, .int .i64 a1_2, .int .i64 a1_3] 53 (0, 0))) /\ (w'.heap[s_.2.2]? = some (.cells #[.int .i64 0, .int .i64 0, .slice none 0 0] 75 (0, 0))) /\ (w.heap.size <= s_.2.2) /\ (w.heap.size <= s_.2.2) /\ (gb229 ≠ s_.2.2) /\ (s_.2.2 ≠ gb229) /\ (gb230 ≠ s_.2.2) /\ (s_.2.2 ≠ gb230) /\ (Below w.heap.size w w')) ?_ ?_
        rotate_left
        ·intro hCont
         refine two_ (i := 4) (j := 9) (Ni := some 30) (Nj := some 5) m8_13 m8_11 rfl rfl rfl rfl (two_of HT_.out q8_19) q8_21 q8_21 (fun K hK => ?_) (fun K hK => ?_)
         ·skip
          refine Kd.R_lit_step k53 _ 53 ?hg (N := 30) ?hd (xs := ([] : List (S53))) (inner := []) (ok := fun _ => True) (okp := fun _ => True) ?hr ?hp (fun _ hk => hk) trivial (Below.refl _ _) (Nat.le_refl _) (by simp) ?_; (case hd => rfl); (case hg => rfl); (case hr => first | (go_simp; done) | (go_simp; rfl)); (case hp => exact (Reps.none _ _))
          intro v235 w110 ho111 hb hg_ hnew_
          clear hg_ hnew_
          (first | rw [← Ny234.out] at ho111 | (simp only [Int.reduceToNat] at ho111; rw [← Ny234.out] at ho111))
          have n0_ := A8_ (Kd.R_lower (Kd.R_newB ho111 (g := gb230) (o := .cells #[.int .i32 a1_0, .int .i64 a1_1, .int .i64 a1_2, .int .i64 a1_3] 53 (0, 0)) q8_2) (below_size q8_3))
          have n1_ := A8_ (blk_below (g := gb229) (o := .cells #[.int .i64 a0_0, .int .i64 a0_1, .slice A0_2 l0_2.length c0_2] 75 (0, 0)) q8_4 hb)
          have n2_ := A8_ (blk_below (g := gb230) (o := .cells #[.int .i32 a1_0, .int .i64 a1_1, .int .i64 a1_2, .int .i64 a1_3] 53 (0, 0)) q8_2 hb)
          have n3_ := A8_ (below_step q8_3 hb)
          clear BK229; clear BK230; clear HB; have HO236 := n0_; have BK229 := n1_; have BK230 := n2_; have HB := n3_; clear n0_ n1_ n2_ n3_; clear hb ho111
          refine hK.out _ _ ⟨bc8_ BK229 0, bc8_ BK229 1, bc8_ BK229 2⟩ (fun hHeld => ?_)
          clear hK K
          refine norm_ (a' := ?_) ?_ ?_
          rotate_left; · show Act.put _ (some 30) _ = _; simp only [Act.put, setIfInBounds_toArray, set_cons_zero, set_cons_succ, i64_w, i32_w]; rfl
          refine two_ (i := 7) (j := 9) (Ni := some 33) (Nj := some 5) m8_15 m8_14 rfl rfl rfl rfl (two_of HT_.out q8_19) q8_21 q8_21 (fun K hK => ?_) (fun K hK => ?_)
          ·skip
           refine Kd.R_append_rows_step k53 (w0 := w) w.heap.size (by rfl) (.tmp 30) (.tmp 32) 47 53 (.agg #[(.int .i32 0), (.int .i64 0), (.int .i64 0), (.int .i64 0)]) 32 rfl Try.underlying47 info53 rfl q8_21 q8_31 v235 y234 l0_2 _ _ _ (fun k_ => k_ ≠ gb230) (fun _ => False) rfl rfl ?aO ?aR (fun _ _ h => h) (fun _ h => h.elim) ?aF ?aB ?aS ?aL ?_
           (case aR => repeat (first | exact (Kd.C_below HR0_2.out HB.out) | (with_reducible refine Kd.C_alloc ?_ _) | (with_reducible refine Kd.C_drewN ?_ _) | (with_reducible refine Kd.C_drew ?_)))
           (case aB => exact q8_3)
           (case aF => exact (fun k_ hk => Kd.freshB (g := gb230) (o := .cells #[.int .i32 a1_0, .int .i64 a1_1, .int .i64 a1_2, .int .i64 a1_3] 53 (0, 0)) q8_2 k_ hk))
           (case aO => exact q8_12)
           (case aS => exact (below_size q8_3))
           (case aL => have := LMc24.out; omega)
           intro v238 w112 ho hb hg hat
           rw [← Ny237.out] at ho
           have n0_ := A8_ (blk_grown (g := gb229) (o := .cells #[.int .i64 a0_0, .int .i64 a0_1, .slice A0_2 l0_2.length c0_2] 75 (0, 0)) q8_4 hg (Kd.R_ne HO236.out BK229.out q8_21))
           have n1_ := A8_ (blk_grown (g := gb230) (o := .cells #[.int .i32 a1_0, .int .i64 a1_1, .int .i64 a1_2, .int .i64 a1_3] 53 (0, 0)) q8_2 hg (Kd.R_away HO236.out (fun _ hk => hk.2)))
           have n2_ := A8_ (hb)
           have n3_ := A8_ (ho)
           clear BK229; clear BK230; clear HB; clear HO236; have BK229 := n0_; have BK230 := n1_; have HB := n2_; have HO239 := n3_; clear n0_ n1_ n2_ n3_; clear ho hb hg hat
           obtain ⟨Ao113, co113, eo113⟩ := Kd.R_slice HO239.out
           (first | subst eo113 | (injection eo113 with f1_ f2_ f3_; have f4_ := f1_.symm; have f5_ := f3_.symm; clear f1_ f2_ f3_; subst f4_; subst f5_))
           refine hK.out _ _ ⟨bc8_ BK229 0, bc8_ BK229 1, bc8_ BK229 2⟩ (fun hHeld => ?_)
           clear hK K
           refine norm_ (a' := ?_) ?_ ?_
           rotate_left; · show Act.put _ (some 33) _ = _; simp only [Act.put, setIfInBounds_toArray, set_cons_zero, set_cons_succ, i64_w, i32_w]; rfl
           refine pure_ (i := 8) (N := some 34) (v := ?_) (a' := ?_) m8_17 rfl rfl (any_of HT_.out q8_19) (fun _ _ _ h => h) (Or.inl ⟨by rfl, ?_⟩) ?_ ?_
           rotate_left; · intro w'; go_simp; with_reducible rfl
           rotate_left; · simp only [Act.put, setIfInBounds_toArray, set_cons_zero, set_cons_succ, i64_w, i32_w]; rfl
           refine one_ (i := 9) (N := some 5) m8_18 rfl rfl (one_of HT_.out q8_19) q8_21 (fun K hK => ?_)
           refine box_step ?hg (N := 5) ?hd (cs := #[.int .i64 0, .int .i64 0, .slice none 0 0]) (t := 75) ?hr ?_; (case hd => rfl); (case hg => rfl); (case hr => first | (go_simp; done) | (go_simp; rfl))
           intro gb240 hg w114 hbox hb
           have n0_ := A8_ (Kd.R_below q8_10 hb)
           have n1_ := A8_ (blk_below (g := gb229) (o := .cells #[.int .i64 a0_0, .int .i64 a0_1, .slice A0_2 l0_2.length c0_2] 75 (0, 0)) q8_4 hb)
           have n2_ := A8_ (blk_below (g := gb230) (o := .cells #[.int .i32 a1_0, .int .i64 a1_1, .int .i64 a1_2, .int .i64 a1_3] 53 (0, 0)) q8_2 hb)
           have n3_ := A8_ (below_step q8_3 hb)
           have n4_ := A8_ (hbox)
           have n5_ := A8_ ((by rw [hg]; exact (below_size q8_3) : w.heap.size <= gb240))
           have n6_ := A8_ ((by rw [hg]; exact (below_size q8_3) : w.heap.size <= gb240))
           have n7_ := A8_ ((by rw [hg]; exact Nat.ne_of_lt (blk_lt (g := gb229) (o := .cells #[.int .i64 a0_0, .int .i64 a0_1, .slice A0_2 l0_2.length c0_2] 75 (0, 0)) q8_4) : gb229 ≠ gb240))
           have n8_ := A8_ ((by rw [hg]; exact Nat.ne_of_gt (blk_lt (g := gb229) (o := .cells #[.int .i64 a0_0, .int .i64 a0_1, .slice A0_2 l0_2.length c0_2] 75 (0, 0)) q8_4) : gb240 ≠ gb229))
           have n9_ := A8_ ((by rw [hg]; exact Nat.ne_of_lt (blk_lt (g := gb230) (o := .cells #[.int .i32 a1_0, .int .i64 a1_1, .int .i64 a1_2, .int .i64 a1_3] 53 (0, 0)) q8_2) : gb230 ≠ gb240))
           have n10_ := A8_ ((by rw [hg]; exact Nat.ne_of_gt (blk_lt (g := gb230) (o := .cells #[.int .i32 a1_0, .int .i64 a1_1, .int .i64 a1_2, .int .i64 a1_3] 53 (0, 0)) q8_2) : gb240 ≠ gb230))
           clear HO239; clear BK229; clear BK230; clear HB; have HO239 := n0_; have BK229 := n1_; have BK230 := n2_; have HB := n3_; have BK240 := n4_; have GW240 := n5_; have GE240 := n6_; have NB229_240 := n7_; have NB240_229 := n8_; have NB230_240 := n9_; have NB240_230 := n10_; clear n0_ n1_ n2_ n3_ n4_ n5_ n6_ n7_ n8_ n9_ n10_; clear hb hbox hg
           refine hK.out _ _ ⟨bc8_ BK229 0, bc8_ BK229 1, bc8_ BK229 2⟩ (fun hHeld => ?_)
           clear hK K
           refine norm_ (a' := ?_) ?_ ?_
           rotate_left; · show Act.put _ (some 5) _ = _; simp only [Act.put, setIfInBounds_toArray, set_cons_zero, set_cons_succ, i64_w, i32_w]; rfl
           exact norm_ q8_18 (hCont (v235, .slice Ao113 y237.length co113, gb240) _ ⟨hHeld, q8_10, q8_4, q8_2, q8_7, GW240.out, GE240.out, NB229_240.out, NB240_229.out, NB230_240.out, NB240_230.out, q8_5⟩)
          ·skip
           refine box_step ?hg (N := 5) ?hd (cs := #[.int .i64 0, .int .i64 0, .slice none 0 0]) (t := 75) ?hr ?_; (case hd => rfl); (case hg => rfl); (case hr => first | (go_simp; done) | (go_simp; rfl))
           intro gb240 hg w112 hbox hb
           have n0_ := A8_ (Kd.R_below q8_30 hb)
           have n1_ := A8_ (blk_below (g := gb229) (o := .cells #[.int .i64 a0_0, .int .i64 a0_1, .slice A0_2 l0_2.length c0_2] 75 (0, 0)) q8_4 hb)
           have n2_ := A8_ (blk_below (g := gb230) (o := .cells #[.int .i32 a1_0, .int .i64 a1_1, .int .i64 a1_2, .int .i64 a1_3] 53 (0, 0)) q8_2 hb)
           have n3_ := A8_ (below_step q8_3 hb)
           have n4_ := A8_ (hbox)
           have n5_ := A8_ ((by rw [hg]; exact (below_size q8_3) : w.heap.size <= gb240))
           have n6_ := A8_ ((by rw [hg]; exact (below_size q8_3) : w.heap.size <= gb240))
           have n7_ := A8_ ((by rw [hg]; exact Nat.ne_of_lt (blk_lt (g := gb229) (o := .cells #[.int .i64 a0_0, .int .i64 a0_1, .slice A0_2 l0_2.length c0_2] 75 (0, 0)) q8_4) : gb229 ≠ gb240))
           have n8_ := A8_ ((by rw [hg]; exact Nat.ne_of_gt (blk_lt (g := gb229) (o := .cells #[.int .i64 a0_0, .int .i64 a0_1, .slice A0_2 l0_2.length c0_2] 75 (0, 0)) q8_4) : gb240 ≠ gb229))
           have n9_ := A8_ ((by rw [hg]; exact Nat.ne_of_lt (blk_lt (g := gb230) (o := .cells #[.int .i32 a1_0, .int .i64 a1_1, .int .i64 a1_2, .int .i64 a1_3] 53 (0, 0)) q8_2) : gb230 ≠ gb240))
           have n10_ := A8_ ((by rw [hg]; exact Nat.ne_of_gt (blk_lt (g := gb230) (o := .cells #[.int .i32 a1_0, .int .i64 a1_1, .int .i64 a1_2, .int .i64 a1_3] 53 (0, 0)) q8_2) : gb240 ≠ gb230))
           clear HO236; clear BK229; clear BK230; clear HB; have HO236 := n0_; have BK229 := n1_; have BK230 := n2_; have HB := n3_; have BK240 := n4_; have GW240 := n5_; have GE240 := n6_; have NB229_240 := n7_; have NB240_229 := n8_; have NB230_240 := n9_; have NB240_230 := n10_; clear n0_ n1_ n2_ n3_ n4_ n5_ n6_ n7_ n8_ n9_ n10_; clear hb hbox hg
           refine hK.out _ _ ⟨bc8_ BK229 0, bc8_ BK229 1, bc8_ BK229 2⟩ (fun hHeld => ?_)
           clear hK K
           refine norm_ (a' := ?_) ?_ ?_
           rotate_left; · show Act.put _ (some 5) _ = _; simp only [Act.put, setIfInBounds_toArray, set_cons_zero, set_cons_succ, i64_w, i32_w]; rfl
           refine one_ (i := 7) (N := some 33) m8_16 rfl rfl (one_of HT_.out q8_19) q8_21 (fun K hK => ?_)
           refine Kd.R_append_rows_step k53 (w0 := w) w.heap.size (by rfl) (.tmp 30) (.tmp 32) 47 53 (.agg #[(.int .i32 0), (.int .i64 0), (.int .i64 0), (.int .i64 0)]) 32 rfl Try.underlying47 info53 rfl q8_21 q8_31 v235 y234 l0_2 _ _ _ (fun k_ => k_ ≠ gb230) (fun _ => False) rfl rfl ?aO ?aR (fun _ _ h => h) (fun _ h => h.elim) ?aF ?aB ?aS ?aL ?_
           (case aR => repeat (first | exact (Kd.C_below HR0_2.out HB.out) | (with_reducible refine Kd.C_alloc ?_ _) | (with_reducible refine Kd.C_drewN ?_ _) | (with_reducible refine Kd.C_drew ?_)))
           (case aB => exact q8_5)
           (case aF => exact (fun k_ hk => Kd.freshB (g := gb230) (o := .cells #[.int .i32 a1_0, .int .i64 a1_1, .int .i64 a1_2, .int .i64 a1_3] 53 (0, 0)) q8_2 k_ hk))
           (case aO => exact q8_12)
           (case aS => exact (below_size q8_5))
           (case aL => have := LMc24.out; omega)
           intro v238 w113 ho hb hg hat
           rw [← Ny237.out] at ho
           have n0_ := A8_ (blk_grown (g := gb229) (o := .cells #[.int .i64 a0_0, .int .i64 a0_1, .slice A0_2 l0_2.length c0_2] 75 (0, 0)) q8_4 hg (Kd.R_ne HO236.out BK229.out q8_21))
           have n1_ := A8_ (blk_grown (g := gb230) (o := .cells #[.int .i32 a1_0, .int .i64 a1_1, .int .i64 a1_2, .int .i64 a1_3] 53 (0, 0)) q8_2 hg (Kd.R_away HO236.out (fun _ hk => hk.2)))
           have n2_ := A8_ (blk_grown (g := gb240) (o := .cells #[.int .i64 0, .int .i64 0, .slice none 0 0] 75 (0, 0)) q8_7 hg (Kd.R_ne HO236.out BK240.out q8_21))
           have n3_ := A8_ (hb)
           have n4_ := A8_ (ho)
           clear BK229; clear BK230; clear BK240; clear HB; clear HO236; have BK229 := n0_; have BK230 := n1_; have BK240 := n2_; have HB := n3_; have HO239 := n4_; clear n0_ n1_ n2_ n3_ n4_; clear ho hb hg hat
           obtain ⟨Ao114, co114, eo114⟩ := Kd.R_slice HO239.out
           (first | subst eo114 | (injection eo114 with f1_ f2_ f3_; have f4_ := f1_.symm; have f5_ := f3_.symm; clear f1_ f2_ f3_; subst f4_; subst f5_))
           refine hK.out _ _ ⟨bc8_ BK229 0, bc8_ BK229 1, bc8_ BK229 2⟩ (fun hHeld => ?_)
           clear hK K
           refine norm_ (a' := ?_) ?_ ?_
           rotate_left; · show Act.put _ (some 33) _ = _; simp only [Act.put, setIfInBounds_toArray, set_cons_zero, set_cons_succ, i64_w, i32_w]; rfl
           refine pure_ (i := 8) (N := some 34) (v := ?_) (a' := ?_) m8_18 rfl rfl (any_of HT_.out q8_19) (fun _ _ _ h => h) (Or.inl ⟨by rfl, ?_⟩) ?_ ?_
           rotate_left; · intro w'; go_simp; with_reducible rfl
           rotate_left; · simp only [Act.put, setIfInBounds_toArray, set_cons_zero, set_cons_succ, i64_w, i32_w]; rfl
           exact norm_ q8_18 (hCont (v235, .slice Ao114 y237.length co114, gb240) _ ⟨hHeld, q8_10, q8_4, q8_2, q8_7, GW240.out, GE240.out, NB229_240.out, NB240_229.out, NB230_240.out, NB240_230.out, q8_5⟩)
         ·skip
          refine box_step ?hg (N := 5) ?hd (cs := #[.int .i64 0, .int .i64 0, .slice none 0 0]) (t := 75) ?hr ?_; (case hd => rfl); (case hg => rfl); (case hr => first | (go_simp; done) | (go_simp; rfl))
          intro gb240 hg w110 hbox hb
          have n0_ := A8_ (blk_below (g := gb229) (o := .cells #[.int .i64 a0_0, .int .i64 a0_1, .slice A0_2 l0_2.length c0_2] 75 (0, 0)) q8_4 hb)
          have n1_ := A8_ (blk_below (g := gb230) (o := .cells #[.int .i32 a1_0, .int .i64 a1_1, .int .i64 a1_2, .int .i64 a1_3] 53 (0, 0)) q8_2 hb)
          have n2_ := A8_ (below_step q8_3 hb)
          have n3_ := A8_ (hbox)
          have n4_ := A8_ ((by rw [hg]; exact (below_size q8_3) : w.heap.size <= gb240))
          have n5_ := A8_ ((by rw [hg]; exact (below_size q8_3) : w.heap.size <= gb240))
          have n6_ := A8_ ((by rw [hg]; exact Nat.ne_of_lt (blk_lt (g := gb229) (o := .cells #[.int .i64 a0_0, .int .i64 a0_1, .slice A0_2 l0_2.length c0_2] 75 (0, 0)) q8_4) : gb229 ≠ gb240))
          have n7_ := A8_ ((by rw [hg]; exact Nat.ne_of_gt (blk_lt (g := gb229) (o := .cells #[.int .i64 a0_0, .int .i64 a0_1, .slice A0_2 l0_2.length c0_2] 75 (0, 0)) q8_4) : gb240 ≠ gb229))
          have n8_ := A8_ ((by rw [hg]; exact Nat.ne_of_lt (blk_lt (g := gb230) (o := .cells #[.int .i32 a1_0, .int .i64 a1_1, .int .i64 a1_2, .int .i64 a1_3] 53 (0, 0)) q8_2) : gb230 ≠ gb240))
          have n9_ := A8_ ((by rw [hg]; exact Nat.ne_of_gt (blk_lt (g := gb230) (o := .cells #[.int .i32 a1_0, .int .i64 a1_1, .int .i64 a1_2, .int .i64 a1_3] 53 (0, 0)) q8_2) : gb240 ≠ gb230))
          clear BK229; clear BK230; clear HB; have BK229 := n0_; have BK230 := n1_; have HB := n2_; have BK240 := n3_; have GW240 := n4_; have GE240 := n5_; have NB229_240 := n6_; have NB240_229 := n7_; have NB230_240 := n8_; have NB240_230 := n9_; clear n0_ n1_ n2_ n3_ n4_ n5_ n6_ n7_ n8_ n9_; clear hb hbox hg
          refine hK.out _ _ ⟨bc8_ BK229 0, bc8_ BK229 1, bc8_ BK229 2⟩ (fun hHeld => ?_)
          clear hK K
          refine norm_ (a' := ?_) ?_ ?_
          rotate_left; · show Act.put _ (some 5) _ = _; simp only [Act.put, setIfInBounds_toArray, set_cons_zero, set_cons_succ, i64_w, i32_w]; rfl
          refine one_ (i := 4) (N := some 30) m8_14 rfl rfl (one_of HT_.out q8_19) q8_21 (fun K hK => ?_)
          refine Kd.R_lit_step k53 _ 53 ?hg (N := 30) ?hd (xs := ([] : List (S53))) (inner := []) (ok := fun _ => True) (okp := fun _ => True) ?hr ?hp (fun _ hk => hk) trivial (Below.refl _ _) (Nat.le_refl _) (by simp) ?_; (case hd => rfl); (case hg => rfl); (case hr => first | (go_simp; done) | (go_simp; rfl)); (case hp => exact (Reps.none _ _))
          intro v235 w111 ho112 hb hg_ hnew_
          clear hg_ hnew_
          (first | rw [← Ny234.out] at ho112 | (simp only [Int.reduceToNat] at ho112; rw [← Ny234.out] at ho112))
          have n0_ := A8_ (Kd.R_lower (Kd.R_newB ho112 (g := gb230) (o := .cells #[.int .i32 a1_0, .int .i64 a1_1, .int .i64 a1_2, .int .i64 a1_3] 53 (0, 0)) q8_2) (below_size q8_5))
          have n1_ := A8_ (blk_below (g := gb229) (o := .cells #[.int .i64 a0_0, .int .i64 a0_1, .slice A0_2 l0_2.length c0_2] 75 (0, 0)) q8_4 hb)
          have n2_ := A8_ (blk_below (g := gb230) (o := .cells #[.int .i32 a1_0, .int .i64 a1_1, .int .i64 a1_2, .int .i64 a1_3] 53 (0, 0)) q8_2 hb)
          have n3_ := A8_ (blk_below (g := gb240) (o := .cells #[.int .i64 0, .int .i64 0, .slice none 0 0] 75 (0, 0)) q8_7 hb)
          have n4_ := A8_ (below_step q8_5 hb)
          clear BK229; clear BK230; clear BK240; clear HB; have HO236 := n0_; have BK229 := n1_; have BK230 := n2_; have BK240 := n3_; have HB := n4_; clear n0_ n1_ n2_ n3_ n4_; clear hb ho112
          refine hK.out _ _ ⟨bc8_ BK229 0, bc8_ BK229 1, bc8_ BK229 2⟩ (fun hHeld => ?_)
          clear hK K
          refine norm_ (a' := ?_) ?_ ?_
          rotate_left; · show Act.put _ (some 30) _ = _; simp only [Act.put, setIfInBounds_toArray, set_cons_zero, set_cons_succ, i64_w, i32_w]; rfl
          refine one_ (i := 7) (N := some 33) m8_16 rfl rfl (one_of HT_.out q8_19) q8_21 (fun K hK => ?_)
          refine Kd.R_append_rows_step k53 (w0 := w) w.heap.size (by rfl) (.tmp 30) (.tmp 32) 47 53 (.agg #[(.int .i32 0), (.int .i64 0), (.int .i64 0), (.int .i64 0)]) 32 rfl Try.underlying47 info53 rfl q8_21 q8_31 v235 y234 l0_2 _ _ _ (fun k_ => k_ ≠ gb230) (fun _ => False) rfl rfl ?aO ?aR (fun _ _ h => h) (fun _ h => h.elim) ?aF ?aB ?aS ?aL ?_
          (case aR => repeat (first | exact (Kd.C_below HR0_2.out HB.out) | (with_reducible refine Kd.C_alloc ?_ _) | (with_reducible refine Kd.C_drewN ?_ _) | (with_reducible refine Kd.C_drew ?_)))
          (case aB => exact q8_5)
          (case aF => exact (fun k_ hk => Kd.freshB (g := gb230) (o := .cells #[.int .i32 a1_0, .int .i64 a1_1, .int .i64 a1_2, .int .i64 a1_3] 53 (0, 0)) q8_2 k_ hk))
          (case aO => exact q8_12)
          (case aS => exact (below_size q8_5))
          (case aL => have := LMc24.out; omega)
          intro v238 w113 ho hb hg hat
          rw [← Ny237.out] at ho
          have n0_ := A8_ (blk_grown (g := gb229) (o := .cells #[.int .i64 a0_0, .int .i64 a0_1, .slice A0_2 l0_2.length c0_2] 75 (0, 0)) q8_4 hg (Kd.R_ne HO236.out BK229.out q8_21))
          have n1_ := A8_ (blk_grown (g := gb230) (o := .cells #[.int .i32 a1_0, .int .i64 a1_1, .int .i64 a1_2, .int .i64 a1_3] 53 (0, 0)) q8_2 hg (Kd.R_away HO236.out (fun _ hk => hk.2)))
          have n2_ := A8_ (blk_grown (g := gb240) (o := .cells #[.int .i64 0, .int .i64 0, .slice none 0 0] 75 (0, 0)) q8_7 hg (Kd.R_ne HO236.out BK240.out q8_21))
          have n3_ := A8_ (hb)
          have n4_ := A8_ (ho)
          clear BK229; clear BK230; clear BK240; clear HB; clear HO236; have BK229 := n0_; have BK230 := n1_; have BK240 := n2_; have HB := n3_; have HO239 := n4_; clear n0_ n1_ n2_ n3_ n4_; clear ho hb hg hat
          obtain ⟨Ao114, co114, eo114⟩ := Kd.R_slice HO239.out
          (first | subst eo114 | (injection eo114 with f1_ f2_ f3_; have f4_ := f1_.symm; have f5_ := f3_.symm; clear f1_ f2_ f3_; subst f4_; subst f5_))
          refine hK.out _ _ ⟨bc8_ BK229 0, bc8_ BK229 1, bc8_ BK229 2⟩ (fun hHeld => ?_)
          clear hK K
          refine norm_ (a' := ?_) ?_ ?_
          rotate_left; · show Act.put _ (some 33) _ = _; simp only [Act.put, setIfInBounds_toArray, set_cons_zero, set_cons_succ, i64_w, i32_w]; rfl
          refine pure_ (i := 8) (N := some 34) (v := ?_) (a' := ?_) m8_18 rfl rfl (any_of HT_.out q8_19) (fun _ _ _ h => h) (Or.inl ⟨by rfl, ?_⟩) ?_ ?_
          rotate_left; · intro w'; go_simp; with_reducible rfl
          rotate_left; · simp only [Act.put, setIfInBounds_toArray, set_cons_zero, set_cons_succ, i64_w, i32_w]; rfl
          exact norm_ q8_18 (hCont (v235, .slice Ao114 y237.length co114, gb240) _ ⟨hHeld, q8_10, q8_4, q8_2, q8_7, GW240.out, GE240.out, NB229_240.out, NB240_229.out, NB230_240.out, NB240_230.out, q8_5⟩)
        rintro ⟨v235, v238, gb240⟩ w115 ⟨hS_, h0_, h1_, h2_, h3_, h4_, h5_, h6_, h7_, h8_, h9_, h10_⟩
        have n0_ : Aside0 (Kd.R k53 53 w115 w.heap.size (fun k_ => k_ ≠ gb230) v238 y237) := ⟨h0_⟩
        have n1_ : Aside0 (w115.heap[gb229]? = some (.cells #[.int .i64 a0_0, .int .i64 a0_1, .slice A0_2 l0_2.length c0_2] 75 (0, 0))) := ⟨h1_⟩
        have n2_ : Aside0 (w115.heap[gb230]? = some (.cells #[.int .i32 a1_0, .int .i64 a1_1, .int .i64 a1_2, .int .i64 a1_3] 53 (0, 0))) := ⟨h2_⟩
        have n3_ : Aside0 (w115.heap[gb240]? = some (.cells #[.int .i64 0, .int .i64 0, .slice none 0 0] 75 (0, 0))) := ⟨h3_⟩
        have n4_ : Aside0 (w.heap.size <= gb240) := ⟨h4_⟩
        have n5_ : Aside0 (w.heap.size <= gb240) := ⟨h5_⟩
        have n6_ : Aside0 (gb229 ≠ gb240) := ⟨h6_⟩
        have n7_ : Aside0 (gb240 ≠ gb229) := ⟨h7_⟩
        have n8_ : Aside0 (gb230 ≠ gb240) := ⟨h8_⟩
        have n9_ : Aside0 (gb240 ≠ gb230) := ⟨h9_⟩
        have n10_ : Aside0 (Below w.heap.size w w115) := ⟨h10_⟩
        clear BK229; clear BK230; clear HB; clear h0_ h1_ h2_ h3_ h4_ h5_ h6_ h7_ h8_ h9_ h10_; have HO239 := n0_; have BK229 := n1_; have BK230 := n2_; have BK240 := n3_; have GW240 := n4_; have GE240 := n5_; have NB229_240 := n6_; have NB240_229 := n7_; have NB230_240 := n8_; have NB240_230 := n9_; have HB := n10_; clear n0_ n1_ n2_ n3_ n4_ n5_ n6_ n7_ n8_ n9_ n10_
        have hHeld : w115.cell? ⟨gb229, 0, none⟩ = some (.int .i64 a0_0) /\ w115.cell? ⟨gb229, 1, none⟩ = some (.int .i64 a0_1) /\ w115.cell? ⟨gb229, 2, none⟩ = some (.slice A0_2 l0_2.length c0_2) := hS_
        obtain ⟨Ao116, co116, eo116⟩ := Kd.R_slice HO239.out
        (first | subst eo116 | (injection eo116 with f1_ f2_ f3_; have f4_ := f1_.symm; have f5_ := f3_.symm; clear f1_ f2_ f3_; subst f4_; subst f5_))
        refine norm_ (a' := ?_) ?_ ?_
        rotate_left
        ·simp only [putAll, Act.put, setIfInBounds_toArray, set_cons_zero, set_cons_succ]
         rfl
        refine one_ (i := 10) (N := none) m8_19 rfl rfl (one_of HT_.out q8_19) q8_21 (fun K hK => ?_)
        have hs117 : w115.cell? ⟨gb240, 0, none⟩ = some (.int .i64 0) := bc8_ BK240 0
        have hfs117 := blk_frozen BK240.out 0
        have hns117_0 := NB229_240.out
        have hns117_1 := NB230_240.out
        have hms117_0 := NB240_229.out
        have hms117_1 := NB240_230.out
        have hs118 : w115.cell? ⟨gb240, 1, none⟩ = some (.int .i64 0) := bc8_ BK240 1
        have hfs118 := blk_frozen BK240.out 1
        have hns118_0 := NB229_240.out
        have hns118_1 := NB230_240.out
        have hms118_0 := NB240_229.out
        have hms118_1 := NB240_230.out
        have hs119 : w115.cell? ⟨gb240, 2, none⟩ = some (.slice none 0 0) := bc8_ BK240 2
        have hfs119 := blk_frozen BK240.out 2
        have hns119_0 := NB229_240.out
        have hns119_1 := NB230_240.out
        have hms119_0 := NB240_229.out
        have hms119_1 := NB240_230.out
        refine skip_ (w1 := ?_) (by rfl) rfl ?_ ?_
        rotate_left; · go_simp; rfl
        refine hK.out _ _ ⟨((cell_far (p := ⟨gb240, _, none⟩) NB229_240.out _).trans (((cell_far (p := ⟨gb240, _, none⟩) NB229_240.out _).trans (((cell_far (p := ⟨gb240, _, none⟩) NB229_240.out _).trans (hHeld.1)))))), ((cell_far (p := ⟨gb240, _, none⟩) NB229_240.out _).trans (((cell_far (p := ⟨gb240, _, none⟩) NB229_240.out _).trans (((cell_far (p := ⟨gb240, _, none⟩) NB229_240.out _).trans (hHeld.2.1)))))), ((cell_far (p := ⟨gb240, _, none⟩) NB229_240.out _).trans (((cell_far (p := ⟨gb240, _, none⟩) NB229_240.out _).trans (((cell_far (p := ⟨gb240, _, none⟩) NB229_240.out _).trans (hHeld.2.2))))))⟩ (fun hHeld => ?_)
        clear hK K
        refine done_ (done_of HT_.out q8_19) ?_
        have hnb120 := NB240_229.out
        have hnc120 := NB229_240.out
        have hnb121 := NB240_230.out
        have hnc121 := NB230_240.out
        have hcz122_0 : w115.cell? ⟨gb240, 0, none⟩ = some (.int .i64 0) := bc8_ BK240 0
        have hcz122_1 : w115.cell? ⟨gb240, 1, none⟩ = some (.int .i64 0) := bc8_ BK240 1
        have hcz122_2 : w115.cell? ⟨gb240, 2, none⟩ = some (.slice none 0 0) := bc8_ BK240 2
        have hfz122_0 := blk_frozen BK240.out 0
        have hfz122_1 := blk_frozen BK240.out 1
        have hfz122_2 := blk_frozen BK240.out 2
        try go_wp2_with (first | ((with_reducible refine gate_callee (f := 48) rfl ?_); refine goesL_ (some 37) rfl rfl Try.func48 q8_19 rfl #[.agg #[.int .i64 a0_0, .int .i64 a0_1, .slice Ao116 y237.length co116]] rfl q8_11 ?_; (with_reducible refine (grid_Of.calls kj4 a0_0 a0_1 _ _ y237 false t242 t243 t244 t248 _ ?side1 ?side2 A25.out).mono ?_); (case side1 => refine (Kd.R_reads' (e := 53) (base := w.heap.size) (ok := fun k_ => k_ ≠ gb230) (n := y237.length) (c := co116) ?_).2.2; exact q8_16); (case side2 => exact (Kd.R_reads' HO239.out).2.1); rintro e w123 ⟨v245, gb247, rfl, ho0, hbn, hgn, hb⟩; refine ⟨_, rfl, ?_⟩; have n0_ := A8_ (Kd.R_elder' q8_16 (Kd.R_base ho0) hb); have n1_ := A8_ (Kd.R_lower (Kd.R_newB (Kd.R_new' ho0 (Kd.R_lt q8_16)) (g := gb230) (o := .cells #[.int .i32 a1_0, .int .i64 a1_1, .int .i64 a1_2, .int .i64 a1_3] 53 (0, 0)) q8_6) (below_size q8_5)); have n2_ := A8_ (blk_below (g := gb229) (o := .cells #[.int .i64 a0_0, .int .i64 a0_1, .slice A0_2 l0_2.length c0_2] 75 (0, 0)) q8_9 hb); have n3_ := A8_ (blk_below (g := gb230) (o := .cells #[.int .i32 a1_0, .int .i64 a1_1, .int .i64 a1_2, .int .i64 a1_3] 53 (0, 0)) q8_6 hb); have n4_ := A8_ (blk_below (g := gb240) (o := .cells #[.int .i64 a0_0, .int .i64 a0_1, .slice Ao116 y237.length co116] 75 (0, 0)) q8_8 hb); have n5_ := A8_ (below_step q8_5 hb); clear HO239 BK229 BK230 BK240 HB; have HO239 := n0_; have HO246 := n1_; have BK229 := n2_; have BK230 := n3_; have BK240 := n4_; have HB := n5_; clear n0_ n1_ n2_ n3_ n4_ n5_; (try simp only [ptrW_true, ptrW_false]); (try clear hbn); (try clear hgn); (try clear hb); (try clear hb2); (try clear hk); (try clear hi); (try clear ho0)))
        go_ret
        exact ⟨by first | rfl | (simp [errW_none, errW_some] <;> rfl) | (simp [*, errW_none, errW_some] <;> rfl), by repeat (first | (with_reducible first | exact HB.out | apply below_alloc | apply pw_below_drewN | apply below_drew1 | refine below_set ?_ GE229.out | refine below_set ?_ GE230.out | refine below_set ?_ GE240.out) | exact HB.out)⟩
       ·rw [if_neg c108] at H
        have c108b0 : (t248 == 0) = false := beq_eq_false_iff_ne.mpr c108
        have c108b1 : (t248 != 0) = true := bne_iff_ne.mpr c108
        obtain rfl := Option.some.inj H
        try go_wp2
        have n0_ := A8_ (blk_drew BK229.out)
        have n1_ := A8_ (blk_drew BK230.out)
        have n2_ := A8_ (below_drew1 HB.out)
        clear BK229; clear BK230; clear HB; have BK229 := n0_; have BK230 := n1_; have HB := n2_; clear n0_ n1_ n2_
        refine start_ (n := 11) (S := fun w' => w'.cell? ⟨gb229, 0, none⟩ = some (.int .i64 a0_0) /\ w'.cell? ⟨gb229, 1, none⟩ = some (.int .i64 a0_1) /\ w'.cell? ⟨gb229, 2, none⟩ = some (.slice A0_2 l0_2.length c0_2)) (ds := []) m8_0 q8_19 rfl rfl ⟨bc8_ BK229 0, bc8_ BK229 1, bc8_ BK229 2⟩ (fun hHeld => ?_); refine with_tabW batonlaw10_GridApart.tab5 batonlaw10_GridApart.bits5 (fun HT_ HW_ => ?_)
        generalize wc.drew = w124 at BK229 BK230 HB hHeld ⊢
        refine pure_ (i := 0) (N := some 26) (v := ?_) (a' := ?_) m8_2 rfl rfl (any_of HT_.out q8_19) (fun _ _ _ h => h) (Or.inl ⟨by rfl, ?_⟩) ?_ ?_
        rotate_left; · intro w'; go_simp; with_reducible rfl
        rotate_left; · simp only [Act.put, setIfInBounds_toArray, set_cons_zero, set_cons_succ, i64_w, i32_w]; rfl
        refine pure_ (i := 2) (N := some 28) (v := ?_) (a' := ?_) m8_4 rfl rfl (any_of HT_.out q8_19) (fun _ _ _ h => h) (Or.inl ⟨by rfl, ?_⟩) ?_ ?_
        rotate_left; · intro w'; go_simp; with_reducible rfl
        rotate_left; · simp only [Act.put, setIfInBounds_toArray, set_cons_zero, set_cons_succ, i64_w, i32_w]; rfl
        refine pure_ (i := 5) (N := some 31) (v := ?_) (a' := ?_) m8_5 rfl rfl (any_of HT_.out q8_19) (fun _ _ _ h => h) (Or.inl ⟨by rfl, ?_⟩) ?_ ?_
        rotate_left; · intro w'; go_simp; with_reducible rfl
        rotate_left; · simp only [Act.put, setIfInBounds_toArray, set_cons_zero, set_cons_succ, i64_w, i32_w]; rfl
        refine take_ (i := 1) (N := some 27) (v := ?_) (a' := ?_) m8_7 rfl rfl (take_ofW HT_.out HW_.out q8_19) (fun _ _ _ h => h) (Or.inl ⟨by rfl, ?_⟩) hHeld ?_ ?_
        rotate_left; · rintro w' ⟨s0, s1, s2⟩; go_simp; with_reducible rfl
        rotate_left; · simp only [Act.put, setIfInBounds_toArray, set_cons_zero, set_cons_succ, i64_w, i32_w]; rfl
        refine take_ (i := 3) (N := some 29) (v := ?_) (a' := ?_) m8_9 rfl rfl (take_ofW HT_.out HW_.out q8_19) (fun _ _ _ h => h) (Or.inl ⟨by rfl, ?_⟩) hHeld ?_ ?_
        rotate_left; · rintro w' ⟨s0, s1, s2⟩; go_simp; with_reducible rfl
        rotate_left; · simp only [Act.put, setIfInBounds_toArray, set_cons_zero, set_cons_succ, i64_w, i32_w]; rfl
        refine take_ (i := 6) (N := some 32) (v := ?_) (a' := ?_) m8_10 rfl rfl (take_ofW HT_.out HW_.out q8_19) (fun _ _ _ h => h) (Or.inl ⟨by rfl, ?_⟩) hHeld ?_ ?_
        rotate_left; · rintro w' ⟨s0, s1, s2⟩; go_simp; with_reducible rfl
        rotate_left; · simp only [Act.put, setIfInBounds_toArray, set_cons_zero, set_cons_succ, i64_w, i32_w]; rfl
        refine join_ (σ := Value × Value × Nat) 1 m8_18 (fun s_ => [(30, s_.1), (33, s_.2.1), (5, .pointer (some ⟨s_.2.2, 0, none⟩)), (34, .agg #[.int .i64 a0_0, .int .i64 a0_1, s_.2.1])]) (fun s_ w' => (w'.cell? ⟨gb229, 0, none⟩ = some (.int .i64 a0_0) /\ w'.cell? ⟨gb229, 1, none⟩ = some (.int .i64 a0_1) /\ w'.cell? ⟨gb229, 2, none⟩ = some (.slice A0_2 l0_2.length c0_2)) /\ (Kd.R k53 53 w' w.heap.size (fun k_ => k_ ≠ gb230) s_.2.1 y237) /\ (w'.heap[gb229]? = some (.cells #[.int .i64 a0_0, .int .i64 a0_1, .slice A0_2 l0_2.length c0_2] 75 (0, 0))) /\ (w'.heap[gb230]? = some (.cells #[.int .i32 a1_0, .int .i64 a1_1, .int .i64 a1_2, .int .i64 a1_3] 53 (0, 0))) /\ (w'.heap[s_.2.2]? = some (.cells #[.int .i64 0, .int .i64 0, .slice none 0 0] 75 (0, 0))) /\ (w.heap.size <= s_.2.2) /\ (w.heap.size <= s_.2.2) /\ (gb229 ≠ s_.2.2) /\ (s_.2.2 ≠ gb229) /\ (gb230 ≠ s_.2.2) /\ (s_.2.2 ≠ gb230) /\ (Below w.heap.size w w')) ?_ ?_
        rotate_left
        ·intro hCont
         refine two_ (i := 4) (j := 9) (Ni := some 30) (Nj := some 5) m8_13 m8_11 rfl rfl rfl rfl (two_of HT_.out q8_19) q8_21 q8_21 (fun K hK => ?_) (fun K hK => ?_)
         ·skip
          refine Kd.R_lit_step k53 _ 53 ?hg (N := 30) ?hd (xs := ([] : List (S53))) (inner := []) (ok := fun _ => True) (okp := fun _ => True) ?hr ?hp (fun _ hk => hk) trivial (Below.refl _ _) (Nat.le_refl _) (by simp) ?_; (case hd => rfl); (case hg => rfl); (case hr => first | (go_simp; done) | (go_simp; rfl)); (case hp => exact (Reps.none _ _))
          intro v235 w125 ho126 hb hg_ hnew_
          clear hg_ hnew_
          (first | rw [← Ny234.out] at ho126 | (simp only [Int.reduceToNat] at ho126; rw [← Ny234.out] at ho126))
          have n0_ := A8_ (Kd.R_lower (Kd.R_newB ho126 (g := gb230) (o := .cells #[.int .i32 a1_0, .int .i64 a1_1, .int .i64 a1_2, .int .i64 a1_3] 53 (0, 0)) q8_2) (below_size q8_3))
          have n1_ := A8_ (blk_below (g := gb229) (o := .cells #[.int .i64 a0_0, .int .i64 a0_1, .slice A0_2 l0_2.length c0_2] 75 (0, 0)) q8_4 hb)
          have n2_ := A8_ (blk_below (g := gb230) (o := .cells #[.int .i32 a1_0, .int .i64 a1_1, .int .i64 a1_2, .int .i64 a1_3] 53 (0, 0)) q8_2 hb)
          have n3_ := A8_ (below_step q8_3 hb)
          clear BK229; clear BK230; clear HB; have HO236 := n0_; have BK229 := n1_; have BK230 := n2_; have HB := n3_; clear n0_ n1_ n2_ n3_; clear hb ho126
          refine hK.out _ _ ⟨bc8_ BK229 0, bc8_ BK229 1, bc8_ BK229 2⟩ (fun hHeld => ?_)
          clear hK K
          refine norm_ (a' := ?_) ?_ ?_
          rotate_left; · show Act.put _ (some 30) _ = _; simp only [Act.put, setIfInBounds_toArray, set_cons_zero, set_cons_succ, i64_w, i32_w]; rfl
          refine two_ (i := 7) (j := 9) (Ni := some 33) (Nj := some 5) m8_15 m8_14 rfl rfl rfl rfl (two_of HT_.out q8_19) q8_21 q8_21 (fun K hK => ?_) (fun K hK => ?_)
          ·skip
           refine Kd.R_append_rows_step k53 (w0 := w) w.heap.size (by rfl) (.tmp 30) (.tmp 32) 47 53 (.agg #[(.int .i32 0), (.int .i64 0), (.int .i64 0), (.int .i64 0)]) 32 rfl Try.underlying47 info53 rfl q8_21 q8_31 v235 y234 l0_2 _ _ _ (fun k_ => k_ ≠ gb230) (fun _ => False) rfl rfl ?aO ?aR (fun _ _ h => h) (fun _ h => h.elim) ?aF ?aB ?aS ?aL ?_
           (case aR => repeat (first | exact (Kd.C_below HR0_2.out HB.out) | (with_reducible refine Kd.C_alloc ?_ _) | (with_reducible refine Kd.C_drewN ?_ _) | (with_reducible refine Kd.C_drew ?_)))
           (case aB => exact q8_3)
           (case aF => exact (fun k_ hk => Kd.freshB (g := gb230) (o := .cells #[.int .i32 a1_0, .int .i64 a1_1, .int .i64 a1_2, .int .i64 a1_3] 53 (0, 0)) q8_2 k_ hk))
           (case aO => exact q8_12)
           (case aS => exact (below_size q8_3))
           (case aL => have := LMc24.out; omega)
           intro v238 w127 ho hb hg hat
           rw [← Ny237.out] at ho
           have n0_ := A8_ (blk_grown (g := gb229) (o := .cells #[.int .i64 a0_0, .int .i64 a0_1, .slice A0_2 l0_2.length c0_2] 75 (0, 0)) q8_4 hg (Kd.R_ne HO236.out BK229.out q8_21))
           have n1_ := A8_ (blk_grown (g := gb230) (o := .cells #[.int .i32 a1_0, .int .i64 a1_1, .int .i64 a1_2, .int .i64 a1_3] 53 (0, 0)) q8_2 hg (Kd.R_away HO236.out (fun _ hk => hk.2)))
           have n2_ := A8_ (hb)
           have n3_ := A8_ (ho)
           clear BK229; clear BK230; clear HB; clear HO236; have BK229 := n0_; have BK230 := n1_; have HB := n2_; have HO239 := n3_; clear n0_ n1_ n2_ n3_; clear ho hb hg hat
           obtain ⟨Ao128, co128, eo128⟩ := Kd.R_slice HO239.out
           (first | subst eo128 | (injection eo128 with f1_ f2_ f3_; have f4_ := f1_.symm; have f5_ := f3_.symm; clear f1_ f2_ f3_; subst f4_; subst f5_))
           refine hK.out _ _ ⟨bc8_ BK229 0, bc8_ BK229 1, bc8_ BK229 2⟩ (fun hHeld => ?_)
           clear hK K
           refine norm_ (a' := ?_) ?_ ?_
           rotate_left; · show Act.put _ (some 33) _ = _; simp only [Act.put, setIfInBounds_toArray, set_cons_zero, set_cons_succ, i64_w, i32_w]; rfl
           refine pure_ (i := 8) (N := some 34) (v := ?_) (a' := ?_) m8_17 rfl rfl (any_of HT_.out q8_19) (fun _ _ _ h => h) (Or.inl ⟨by rfl, ?_⟩) ?_ ?_
           rotate_left; · intro w'; go_simp; with_reducible rfl
           rotate_left; · simp only [Act.put, setIfInBounds_toArray, set_cons_zero, set_cons_succ, i64_w, i32_w]; rfl
           refine one_ (i := 9) (N := some 5) m8_18 rfl rfl (one_of HT_.out q8_19) q8_21 (fun K hK => ?_)
           refine box_step ?hg (N := 5) ?hd (cs := #[.int .i64 0, .int .i64 0, .slice none 0 0]) (t := 75) ?hr ?_; (case hd => rfl); (case hg => rfl); (case hr => first | (go_simp; done) | (go_simp; rfl))
           intro gb240 hg w129 hbox hb
           have n0_ := A8_ (Kd.R_below q8_10 hb)
           have n1_ := A8_ (blk_below (g := gb229) (o := .cells #[.int .i64 a0_0, .int .i64 a0_1, .slice A0_2 l0_2.length c0_2] 75 (0, 0)) q8_4 hb)
           have n2_ := A8_ (blk_below (g := gb230) (o := .cells #[.int .i32 a1_0, .int .i64 a1_1, .int .i64 a1_2, .int .i64 a1_3] 53 (0, 0)) q8_2 hb)
           have n3_ := A8_ (below_step q8_3 hb)
           have n4_ := A8_ (hbox)
           have n5_ := A8_ ((by rw [hg]; exact (below_size q8_3) : w.heap.size <= gb240))
           have n6_ := A8_ ((by rw [hg]; exact (below_size q8_3) : w.heap.size <= gb240))
           have n7_ := A8_ ((by rw [hg]; exact Nat.ne_of_lt (blk_lt (g := gb229) (o := .cells #[.int .i64 a0_0, .int .i64 a0_1, .slice A0_2 l0_2.length c0_2] 75 (0, 0)) q8_4) : gb229 ≠ gb240))
           have n8_ := A8_ ((by rw [hg]; exact Nat.ne_of_gt (blk_lt (g := gb229) (o := .cells #[.int .i64 a0_0, .int .i64 a0_1, .slice A0_2 l0_2.length c0_2] 75 (0, 0)) q8_4) : gb240 ≠ gb229))
           have n9_ := A8_ ((by rw [hg]; exact Nat.ne_of_lt (blk_lt (g := gb230) (o := .cells #[.int .i32 a1_0, .int .i64 a1_1, .int .i64 a1_2, .int .i64 a1_3] 53 (0, 0)) q8_2) : gb230 ≠ gb240))
           have n10_ := A8_ ((by rw [hg]; exact Nat.ne_of_gt (blk_lt (g := gb230) (o := .cells #[.int .i32 a1_0, .int .i64 a1_1, .int .i64 a1_2, .int .i64 a1_3] 53 (0, 0)) q8_2) : gb240 ≠ gb230))
           clear HO239; clear BK229; clear BK230; clear HB; have HO239 := n0_; have BK229 := n1_; have BK230 := n2_; have HB := n3_; have BK240 := n4_; have GW240 := n5_; have GE240 := n6_; have NB229_240 := n7_; have NB240_229 := n8_; have NB230_240 := n9_; have NB240_230 := n10_; clear n0_ n1_ n2_ n3_ n4_ n5_ n6_ n7_ n8_ n9_ n10_; clear hb hbox hg
           refine hK.out _ _ ⟨bc8_ BK229 0, bc8_ BK229 1, bc8_ BK229 2⟩ (fun hHeld => ?_)
           clear hK K
           refine norm_ (a' := ?_) ?_ ?_
           rotate_left; · show Act.put _ (some 5) _ = _; simp only [Act.put, setIfInBounds_toArray, set_cons_zero, set_cons_succ, i64_w, i32_w]; rfl
           exact norm_ q8_18 (hCont (v235, .slice Ao128 y237.length co128, gb240) _ ⟨hHeld, q8_10, q8_4, q8_2, q8_7, GW240.out, GE240.out, NB229_240.out, NB240_229.out, NB230_240.out, NB240_230.out, q8_5⟩)
          ·skip
           refine box_step ?hg (N := 5) ?hd (cs := #[.int .i64 0, .int .i64 0, .slice none 0 0]) (t := 75) ?hr ?_; (case hd => rfl); (case hg => rfl); (case hr => first | (go_simp; done) | (go_simp; rfl))
           intro gb240 hg w127 hbox hb
           have n0_ := A8_ (Kd.R_below q8_30 hb)
           have n1_ := A8_ (blk_below (g := gb229) (o := .cells #[.int .i64 a0_0, .int .i64 a0_1, .slice A0_2 l0_2.length c0_2] 75 (0, 0)) q8_4 hb)
           have n2_ := A8_ (blk_below (g := gb230) (o := .cells #[.int .i32 a1_0, .int .i64 a1_1, .int .i64 a1_2, .int .i64 a1_3] 53 (0, 0)) q8_2 hb)
           have n3_ := A8_ (below_step q8_3 hb)
           have n4_ := A8_ (hbox)
           have n5_ := A8_ ((by rw [hg]; exact (below_size q8_3) : w.heap.size <= gb240))
           have n6_ := A8_ ((by rw [hg]; exact (below_size q8_3) : w.heap.size <= gb240))
           have n7_ := A8_ ((by rw [hg]; exact Nat.ne_of_lt (blk_lt (g := gb229) (o := .cells #[.int .i64 a0_0, .int .i64 a0_1, .slice A0_2 l0_2.length c0_2] 75 (0, 0)) q8_4) : gb229 ≠ gb240))
           have n8_ := A8_ ((by rw [hg]; exact Nat.ne_of_gt (blk_lt (g := gb229) (o := .cells #[.int .i64 a0_0, .int .i64 a0_1, .slice A0_2 l0_2.length c0_2] 75 (0, 0)) q8_4) : gb240 ≠ gb229))
           have n9_ := A8_ ((by rw [hg]; exact Nat.ne_of_lt (blk_lt (g := gb230) (o := .cells #[.int .i32 a1_0, .int .i64 a1_1, .int .i64 a1_2, .int .i64 a1_3] 53 (0, 0)) q8_2) : gb230 ≠ gb240))
           have n10_ := A8_ ((by rw [hg]; exact Nat.ne_of_gt (blk_lt (g := gb230) (o := .cells #[.int .i32 a1_0, .int .i64 a1_1, .int .i64 a1_2, .int .i64 a1_3] 53 (0, 0)) q8_2) : gb240 ≠ gb230))
           clear HO236; clear BK229; clear BK230; clear HB; have HO236 := n0_; have BK229 := n1_; have BK230 := n2_; have HB := n3_; have BK240 := n4_; have GW240 := n5_; have GE240 := n6_; have NB229_240 := n7_; have NB240_229 := n8_; have NB230_240 := n9_; have NB240_230 := n10_; clear n0_ n1_ n2_ n3_ n4_ n5_ n6_ n7_ n8_ n9_ n10_; clear hb hbox hg
           refine hK.out _ _ ⟨bc8_ BK229 0, bc8_ BK229 1, bc8_ BK229 2⟩ (fun hHeld => ?_)
           clear hK K
           refine norm_ (a' := ?_) ?_ ?_
           rotate_left; · show Act.put _ (some 5) _ = _; simp only [Act.put, setIfInBounds_toArray, set_cons_zero, set_cons_succ, i64_w, i32_w]; rfl
           refine one_ (i := 7) (N := some 33) m8_16 rfl rfl (one_of HT_.out q8_19) q8_21 (fun K hK => ?_)
           refine Kd.R_append_rows_step k53 (w0 := w) w.heap.size (by rfl) (.tmp 30) (.tmp 32) 47 53 (.agg #[(.int .i32 0), (.int .i64 0), (.int .i64 0), (.int .i64 0)]) 32 rfl Try.underlying47 info53 rfl q8_21 q8_31 v235 y234 l0_2 _ _ _ (fun k_ => k_ ≠ gb230) (fun _ => False) rfl rfl ?aO ?aR (fun _ _ h => h) (fun _ h => h.elim) ?aF ?aB ?aS ?aL ?_
           (case aR => repeat (first | exact (Kd.C_below HR0_2.out HB.out) | (with_reducible refine Kd.C_alloc ?_ _) | (with_reducible refine Kd.C_drewN ?_ _) | (with_reducible refine Kd.C_drew ?_)))
           (case aB => exact q8_5)
           (case aF => exact (fun k_ hk => Kd.freshB (g := gb230) (o := .cells #[.int .i32 a1_0, .int .i64 a1_1, .int .i64 a1_2, .int .i64 a1_3] 53 (0, 0)) q8_2 k_ hk))
           (case aO => exact q8_12)
           (case aS => exact (below_size q8_5))
           (case aL => have := LMc24.out; omega)
           intro v238 w128 ho hb hg hat
           rw [← Ny237.out] at ho
           have n0_ := A8_ (blk_grown (g := gb229) (o := .cells #[.int .i64 a0_0, .int .i64 a0_1, .slice A0_2 l0_2.length c0_2] 75 (0, 0)) q8_4 hg (Kd.R_ne HO236.out BK229.out q8_21))
           have n1_ := A8_ (blk_grown (g := gb230) (o := .cells #[.int .i32 a1_0, .int .i64 a1_1, .int .i64 a1_2, .int .i64 a1_3] 53 (0, 0)) q8_2 hg (Kd.R_away HO236.out (fun _ hk => hk.2)))
           have n2_ := A8_ (blk_grown (g := gb240) (o := .cells #[.int .i64 0, .int .i64 0, .slice none 0 0] 75 (0, 0)) q8_7 hg (Kd.R_ne HO236.out BK240.out q8_21))
           have n3_ := A8_ (hb)
           have n4_ := A8_ (ho)
           clear BK229; clear BK230; clear BK240; clear HB; clear HO236; have BK229 := n0_; have BK230 := n1_; have BK240 := n2_; have HB := n3_; have HO239 := n4_; clear n0_ n1_ n2_ n3_ n4_; clear ho hb hg hat
           obtain ⟨Ao129, co129, eo129⟩ := Kd.R_slice HO239.out
           (first | subst eo129 | (injection eo129 with f1_ f2_ f3_; have f4_ := f1_.symm; have f5_ := f3_.symm; clear f1_ f2_ f3_; subst f4_; subst f5_))
           refine hK.out _ _ ⟨bc8_ BK229 0, bc8_ BK229 1, bc8_ BK229 2⟩ (fun hHeld => ?_)
           clear hK K
           refine norm_ (a' := ?_) ?_ ?_
           rotate_left; · show Act.put _ (some 33) _ = _; simp only [Act.put, setIfInBounds_toArray, set_cons_zero, set_cons_succ, i64_w, i32_w]; rfl
           refine pure_ (i := 8) (N := some 34) (v := ?_) (a' := ?_) m8_18 rfl rfl (any_of HT_.out q8_19) (fun _ _ _ h => h) (Or.inl ⟨by rfl, ?_⟩) ?_ ?_
           rotate_left; · intro w'; go_simp; with_reducible rfl
           rotate_left; · simp only [Act.put, setIfInBounds_toArray, set_cons_zero, set_cons_succ, i64_w, i32_w]; rfl
           exact norm_ q8_18 (hCont (v235, .slice Ao129 y237.length co129, gb240) _ ⟨hHeld, q8_10, q8_4, q8_2, q8_7, GW240.out, GE240.out, NB229_240.out, NB240_229.out, NB230_240.out, NB240_230.out, q8_5⟩)
         ·skip
          refine box_step ?hg (N := 5) ?hd (cs := #[.int .i64 0, .int .i64 0, .slice none 0 0]) (t := 75) ?hr ?_; (case hd => rfl); (case hg => rfl); (case hr => first | (go_simp; done) | (go_simp; rfl))
          intro gb240 hg w125 hbox hb
          have n0_ := A8_ (blk_below (g := gb229) (o := .cells #[.int .i64 a0_0, .int .i64 a0_1, .slice A0_2 l0_2.length c0_2] 75 (0, 0)) q8_4 hb)
          have n1_ := A8_ (blk_below (g := gb230) (o := .cells #[.int .i32 a1_0, .int .i64 a1_1, .int .i64 a1_2, .int .i64 a1_3] 53 (0, 0)) q8_2 hb)
          have n2_ := A8_ (below_step q8_3 hb)
          have n3_ := A8_ (hbox)
          have n4_ := A8_ ((by rw [hg]; exact (below_size q8_3) : w.heap.size <= gb240))
          have n5_ := A8_ ((by rw [hg]; exact (below_size q8_3) : w.heap.size <= gb240))
          have n6_ := A8_ ((by rw [hg]; exact Nat.ne_of_lt (blk_lt (g := gb229) (o := .cells #[.int .i64 a0_0, .int .i64 a0_1, .slice A0_2 l0_2.length c0_2] 75 (0, 0)) q8_4) : gb229 ≠ gb240))
          have n7_ := A8_ ((by rw [hg]; exact Nat.ne_of_gt (blk_lt (g := gb229) (o := .cells #[.int .i64 a0_0, .int .i64 a0_1, .slice A0_2 l0_2.length c0_2] 75 (0, 0)) q8_4) : gb240 ≠ gb229))
          have n8_ := A8_ ((by rw [hg]; exact Nat.ne_of_lt (blk_lt (g := gb230) (o := .cells #[.int .i32 a1_0, .int .i64 a1_1, .int .i64 a1_2, .int .i64 a1_3] 53 (0, 0)) q8_2) : gb230 ≠ gb240))
          have n9_ := A8_ ((by rw [hg]; exact Nat.ne_of_gt (blk_lt (g := gb230) (o := .cells #[.int .i32 a1_0, .int .i64 a1_1, .int .i64 a1_2, .int .i64 a1_3] 53 (0, 0)) q8_2) : gb240 ≠ gb230))
          clear BK229; clear BK230; clear HB; have BK229 := n0_; have BK230 := n1_; have HB := n2_; have BK240 := n3_; have GW240 := n4_; have GE240 := n5_; have NB229_240 := n6_; have NB240_229 := n7_; have NB230_240 := n8_; have NB240_230 := n9_; clear n0_ n1_ n2_ n3_ n4_ n5_ n6_ n7_ n8_ n9_; clear hb hbox hg
          refine hK.out _ _ ⟨bc8_ BK229 0, bc8_ BK229 1, bc8_ BK229 2⟩ (fun hHeld => ?_)
          clear hK K
          refine norm_ (a' := ?_) ?_ ?_
          rotate_left; · show Act.put _ (some 5) _ = _; simp only [Act.put, setIfInBounds_toArray, set_cons_zero, set_cons_succ, i64_w, i32_w]; rfl
          refine one_ (i := 4) (N := some 30) m8_14 rfl rfl (one_of HT_.out q8_19) q8_21 (fun K hK => ?_)
          refine Kd.R_lit_step k53 _ 53 ?hg (N := 30) ?hd (xs := ([] : List (S53))) (inner := []) (ok := fun _ => True) (okp := fun _ => True) ?hr ?hp (fun _ hk => hk) trivial (Below.refl _ _) (Nat.le_refl _) (by simp) ?_; (case hd => rfl); (case hg => rfl); (case hr => first | (go_simp; done) | (go_simp; rfl)); (case hp => exact (Reps.none _ _))
          intro v235 w126 ho127 hb hg_ hnew_
          clear hg_ hnew_
          (first | rw [← Ny234.out] at ho127 | (simp only [Int.reduceToNat] at ho127; rw [← Ny234.out] at ho127))
          have n0_ := A8_ (Kd.R_lower (Kd.R_newB ho127 (g := gb230) (o := .cells #[.int .i32 a1_0, .int .i64 a1_1, .int .i64 a1_2, .int .i64 a1_3] 53 (0, 0)) q8_2) (below_size q8_5))
          have n1_ := A8_ (blk_below (g := gb229) (o := .cells #[.int .i64 a0_0, .int .i64 a0_1, .slice A0_2 l0_2.length c0_2] 75 (0, 0)) q8_4 hb)
          have n2_ := A8_ (blk_below (g := gb230) (o := .cells #[.int .i32 a1_0, .int .i64 a1_1, .int .i64 a1_2, .int .i64 a1_3] 53 (0, 0)) q8_2 hb)
          have n3_ := A8_ (blk_below (g := gb240) (o := .cells #[.int .i64 0, .int .i64 0, .slice none 0 0] 75 (0, 0)) q8_7 hb)
          have n4_ := A8_ (below_step q8_5 hb)
          clear BK229; clear BK230; clear BK240; clear HB; have HO236 := n0_; have BK229 := n1_; have BK230 := n2_; have BK240 := n3_; have HB := n4_; clear n0_ n1_ n2_ n3_ n4_; clear hb ho127
          refine hK.out _ _ ⟨bc8_ BK229 0, bc8_ BK229 1, bc8_ BK229 2⟩ (fun hHeld => ?_)
          clear hK K
          refine norm_ (a' := ?_) ?_ ?_
          rotate_left; · show Act.put _ (some 30) _ = _; simp only [Act.put, setIfInBounds_toArray, set_cons_zero, set_cons_succ, i64_w, i32_w]; rfl
          refine one_ (i := 7) (N := some 33) m8_16 rfl rfl (one_of HT_.out q8_19) q8_21 (fun K hK => ?_)
          refine Kd.R_append_rows_step k53 (w0 := w) w.heap.size (by rfl) (.tmp 30) (.tmp 32) 47 53 (.agg #[(.int .i32 0), (.int .i64 0), (.int .i64 0), (.int .i64 0)]) 32 rfl Try.underlying47 info53 rfl q8_21 q8_31 v235 y234 l0_2 _ _ _ (fun k_ => k_ ≠ gb230) (fun _ => False) rfl rfl ?aO ?aR (fun _ _ h => h) (fun _ h => h.elim) ?aF ?aB ?aS ?aL ?_
          (case aR => repeat (first | exact (Kd.C_below HR0_2.out HB.out) | (with_reducible refine Kd.C_alloc ?_ _) | (with_reducible refine Kd.C_drewN ?_ _) | (with_reducible refine Kd.C_drew ?_)))
          (case aB => exact q8_5)
          (case aF => exact (fun k_ hk => Kd.freshB (g := gb230) (o := .cells #[.int .i32 a1_0, .int .i64 a1_1, .int .i64 a1_2, .int .i64 a1_3] 53 (0, 0)) q8_2 k_ hk))
          (case aO => exact q8_12)
          (case aS => exact (below_size q8_5))
          (case aL => have := LMc24.out; omega)
          intro v238 w128 ho hb hg hat
          rw [← Ny237.out] at ho
          have n0_ := A8_ (blk_grown (g := gb229) (o := .cells #[.int .i64 a0_0, .int .i64 a0_1, .slice A0_2 l0_2.length c0_2] 75 (0, 0)) q8_4 hg (Kd.R_ne HO236.out BK229.out q8_21))
          have n1_ := A8_ (blk_grown (g := gb230) (o := .cells #[.int .i32 a1_0, .int .i64 a1_1, .int .i64 a1_2, .int .i64 a1_3] 53 (0, 0)) q8_2 hg (Kd.R_away HO236.out (fun _ hk => hk.2)))
          have n2_ := A8_ (blk_grown (g := gb240) (o := .cells #[.int .i64 0, .int .i64 0, .slice none 0 0] 75 (0, 0)) q8_7 hg (Kd.R_ne HO236.out BK240.out q8_21))
          have n3_ := A8_ (hb)
          have n4_ := A8_ (ho)
          clear BK229; clear BK230; clear BK240; clear HB; clear HO236; have BK229 := n0_; have BK230 := n1_; have BK240 := n2_; have HB := n3_; have HO239 := n4_; clear n0_ n1_ n2_ n3_ n4_; clear ho hb hg hat
          obtain ⟨Ao129, co129, eo129⟩ := Kd.R_slice HO239.out
          (first | subst eo129 | (injection eo129 with f1_ f2_ f3_; have f4_ := f1_.symm; have f5_ := f3_.symm; clear f1_ f2_ f3_; subst f4_; subst f5_))
          refine hK.out _ _ ⟨bc8_ BK229 0, bc8_ BK229 1, bc8_ BK229 2⟩ (fun hHeld => ?_)
          clear hK K
          refine norm_ (a' := ?_) ?_ ?_
          rotate_left; · show Act.put _ (some 33) _ = _; simp only [Act.put, setIfInBounds_toArray, set_cons_zero, set_cons_succ, i64_w, i32_w]; rfl
          refine pure_ (i := 8) (N := some 34) (v := ?_) (a' := ?_) m8_18 rfl rfl (any_of HT_.out q8_19) (fun _ _ _ h => h) (Or.inl ⟨by rfl, ?_⟩) ?_ ?_
          rotate_left; · intro w'; go_simp; with_reducible rfl
          rotate_left; · simp only [Act.put, setIfInBounds_toArray, set_cons_zero, set_cons_succ, i64_w, i32_w]; rfl
          exact norm_ q8_18 (hCont (v235, .slice Ao129 y237.length co129, gb240) _ ⟨hHeld, q8_10, q8_4, q8_2, q8_7, GW240.out, GE240.out, NB229_240.out, NB240_229.out, NB230_240.out, NB240_230.out, q8_5⟩)
        rintro ⟨v235, v238, gb240⟩ w130 ⟨hS_, h0_, h1_, h2_, h3_, h4_, h5_, h6_, h7_, h8_, h9_, h10_⟩
        have n0_ : Aside0 (Kd.R k53 53 w130 w.heap.size (fun k_ => k_ ≠ gb230) v238 y237) := ⟨h0_⟩
        have n1_ : Aside0 (w130.heap[gb229]? = some (.cells #[.int .i64 a0_0, .int .i64 a0_1, .slice A0_2 l0_2.length c0_2] 75 (0, 0))) := ⟨h1_⟩
        have n2_ : Aside0 (w130.heap[gb230]? = some (.cells #[.int .i32 a1_0, .int .i64 a1_1, .int .i64 a1_2, .int .i64 a1_3] 53 (0, 0))) := ⟨h2_⟩
        have n3_ : Aside0 (w130.heap[gb240]? = some (.cells #[.int .i64 0, .int .i64 0, .slice none 0 0] 75 (0, 0))) := ⟨h3_⟩
        have n4_ : Aside0 (w.heap.size <= gb240) := ⟨h4_⟩
        have n5_ : Aside0 (w.heap.size <= gb240) := ⟨h5_⟩
        have n6_ : Aside0 (gb229 ≠ gb240) := ⟨h6_⟩
        have n7_ : Aside0 (gb240 ≠ gb229) := ⟨h7_⟩
        have n8_ : Aside0 (gb230 ≠ gb240) := ⟨h8_⟩
        have n9_ : Aside0 (gb240 ≠ gb230) := ⟨h9_⟩
        have n10_ : Aside0 (Below w.heap.size w w130) := ⟨h10_⟩
        clear BK229; clear BK230; clear HB; clear h0_ h1_ h2_ h3_ h4_ h5_ h6_ h7_ h8_ h9_ h10_; have HO239 := n0_; have BK229 := n1_; have BK230 := n2_; have BK240 := n3_; have GW240 := n4_; have GE240 := n5_; have NB229_240 := n6_; have NB240_229 := n7_; have NB230_240 := n8_; have NB240_230 := n9_; have HB := n10_; clear n0_ n1_ n2_ n3_ n4_ n5_ n6_ n7_ n8_ n9_ n10_
        have hHeld : w130.cell? ⟨gb229, 0, none⟩ = some (.int .i64 a0_0) /\ w130.cell? ⟨gb229, 1, none⟩ = some (.int .i64 a0_1) /\ w130.cell? ⟨gb229, 2, none⟩ = some (.slice A0_2 l0_2.length c0_2) := hS_
        obtain ⟨Ao131, co131, eo131⟩ := Kd.R_slice HO239.out
        (first | subst eo131 | (injection eo131 with f1_ f2_ f3_; have f4_ := f1_.symm; have f5_ := f3_.symm; clear f1_ f2_ f3_; subst f4_; subst f5_))
        refine norm_ (a' := ?_) ?_ ?_
        rotate_left
        ·simp only [putAll, Act.put, setIfInBounds_toArray, set_cons_zero, set_cons_succ]
         rfl
        refine one_ (i := 10) (N := none) m8_19 rfl rfl (one_of HT_.out q8_19) q8_21 (fun K hK => ?_)
        have hs132 : w130.cell? ⟨gb240, 0, none⟩ = some (.int .i64 0) := bc8_ BK240 0
        have hfs132 := blk_frozen BK240.out 0
        have hns132_0 := NB229_240.out
        have hns132_1 := NB230_240.out
        have hms132_0 := NB240_229.out
        have hms132_1 := NB240_230.out
        have hs133 : w130.cell? ⟨gb240, 1, none⟩ = some (.int .i64 0) := bc8_ BK240 1
        have hfs133 := blk_frozen BK240.out 1
        have hns133_0 := NB229_240.out
        have hns133_1 := NB230_240.out
        have hms133_0 := NB240_229.out
        have hms133_1 := NB240_230.out
        have hs134 : w130.cell? ⟨gb240, 2, none⟩ = some (.slice none 0 0) := bc8_ BK240 2
        have hfs134 := blk_frozen BK240.out 2
        have hns134_0 := NB229_240.out
        have hns134_1 := NB230_240.out
        have hms134_0 := NB240_229.out
        have hms134_1 := NB240_230.out
        refine skip_ (w1 := ?_) (by rfl) rfl ?_ ?_
        rotate_left; · go_simp; rfl
        refine hK.out _ _ ⟨((cell_far (p := ⟨gb240, _, none⟩) NB229_240.out _).trans (((cell_far (p := ⟨gb240, _, none⟩) NB229_240.out _).trans (((cell_far (p := ⟨gb240, _, none⟩) NB229_240.out _).trans (hHeld.1)))))), ((cell_far (p := ⟨gb240, _, none⟩) NB229_240.out _).trans (((cell_far (p := ⟨gb240, _, none⟩) NB229_240.out _).trans (((cell_far (p := ⟨gb240, _, none⟩) NB229_240.out _).trans (hHeld.2.1)))))), ((cell_far (p := ⟨gb240, _, none⟩) NB229_240.out _).trans (((cell_far (p := ⟨gb240, _, none⟩) NB229_240.out _).trans (((cell_far (p := ⟨gb240, _, none⟩) NB229_240.out _).trans (hHeld.2.2))))))⟩ (fun hHeld => ?_)
        clear hK K
        refine done_ (done_of HT_.out q8_19) ?_
        have hnb135 := NB240_229.out
        have hnc135 := NB229_240.out
        have hnb136 := NB240_230.out
        have hnc136 := NB230_240.out
        have hcz137_0 : w130.cell? ⟨gb240, 0, none⟩ = some (.int .i64 0) := bc8_ BK240 0
        have hcz137_1 : w130.cell? ⟨gb240, 1, none⟩ = some (.int .i64 0) := bc8_ BK240 1
        have hcz137_2 : w130.cell? ⟨gb240, 2, none⟩ = some (.slice none 0 0) := bc8_ BK240 2
        have hfz137_0 := blk_frozen BK240.out 0
        have hfz137_1 := blk_frozen BK240.out 1
        have hfz137_2 := blk_frozen BK240.out 2
        try go_wp2_with (first | ((with_reducible refine gate_callee (f := 48) rfl ?_); refine goesL_ (some 37) rfl rfl Try.func48 q8_19 rfl #[.agg #[.int .i64 a0_0, .int .i64 a0_1, .slice Ao131 y237.length co131]] rfl q8_11 ?_; (with_reducible refine (grid_Of.calls kj4 a0_0 a0_1 _ _ y237 false t242 t243 t244 t248 _ ?side1 ?side2 A25.out).mono ?_); (case side1 => refine (Kd.R_reads' (e := 53) (base := w.heap.size) (ok := fun k_ => k_ ≠ gb230) (n := y237.length) (c := co131) ?_).2.2; exact q8_15); (case side2 => exact (Kd.R_reads' HO239.out).2.1); rintro e w138 ⟨v245, gb247, rfl, ho0, hbn, hgn, hb⟩; refine ⟨_, rfl, ?_⟩; have n0_ := A8_ (Kd.R_elder' q8_15 (Kd.R_base ho0) hb); have n1_ := A8_ (Kd.R_lower (Kd.R_newB (Kd.R_new' ho0 (Kd.R_lt q8_15)) (g := gb230) (o := .cells #[.int .i32 a1_0, .int .i64 a1_1, .int .i64 a1_2, .int .i64 a1_3] 53 (0, 0)) q8_6) (below_size q8_5)); have n2_ := A8_ (blk_below (g := gb229) (o := .cells #[.int .i64 a0_0, .int .i64 a0_1, .slice A0_2 l0_2.length c0_2] 75 (0, 0)) q8_9 hb); have n3_ := A8_ (blk_below (g := gb230) (o := .cells #[.int .i32 a1_0, .int .i64 a1_1, .int .i64 a1_2, .int .i64 a1_3] 53 (0, 0)) q8_6 hb); have n4_ := A8_ (blk_below (g := gb240) (o := .cells #[.int .i64 a0_0, .int .i64 a0_1, .slice Ao131 y237.length co131] 75 (0, 0)) q8_8 hb); have n5_ := A8_ (below_step q8_5 hb); clear HO239 BK229 BK230 BK240 HB; have HO239 := n0_; have HO246 := n1_; have BK229 := n2_; have BK230 := n3_; have BK240 := n4_; have HB := n5_; clear n0_ n1_ n2_ n3_ n4_ n5_; (try simp only [ptrW_true, ptrW_false]); (try clear hbn); (try clear hgn); (try clear hb); (try clear hb2); (try clear hk); (try clear hi); (try clear ho0)))
        go_ret
        exact ⟨by first | rfl | (simp [errW_none, errW_some] <;> rfl) | (simp [*, errW_none, errW_some] <;> rfl), by repeat (first | (with_reducible first | exact HB.out | apply below_alloc | apply pw_below_drewN | apply below_drew1 | refine below_set ?_ GE229.out | refine below_set ?_ GE230.out | refine below_set ?_ GE240.out) | exact HB.out)⟩
     ·rw [if_neg c24] at H
      exact absurd H (by simp)
 ·replace c4 := Bool.eq_false_iff.mpr c4
  subst c4
  have H1 : (some false) = some r := by rw [if_neg (show ¬ (false = true) by decide)] at H; exact H
  clear H; have H := H1; clear H1
  obtain rfl := Option.some.inj H
  go_enter Try.func10, Try.ntmps10
  go_wp2_with (first | ((with_reducible refine gate_dst (N := 2) rfl ?_); (try (refine gate_guard (by rfl) ?_; dsimp only)); refine box_event ?hg (N := 2) ?hd (cs := #[.int .i64 a0_0, .int .i64 a0_1, .slice A0_2 l0_2.length c0_2]) (t := 75) ?hr ?_; (case hd => rfl); (case hg => rfl); (case hr => first | (go_simp; done) | (go_simp; rfl)); intro gb229 hg w139 hbox hb; have n0_ := A8_ (below_step q8_22 hb); have n1_ := A8_ (hbox); have n2_ := A8_ ((by rw [hg]; exact (below_size q8_22) : w.heap.size <= gb229)); have n3_ := A8_ ((by rw [hg]; exact (below_size q8_22) : w.heap.size <= gb229)); clear HB; have HB := n0_; have BK229 := n1_; have GW229 := n2_; have GE229 := n3_; clear n0_ n1_ n2_ n3_; clear hb hbox hg) | ((with_reducible refine gate_dst (N := 3) rfl ?_); (try (refine gate_guard (by rfl) ?_; dsimp only)); refine box_event ?hg (N := 3) ?hd (cs := #[.int .i32 a1_0, .int .i64 a1_1, .int .i64 a1_2, .int .i64 a1_3]) (t := 53) ?hr ?_; (case hd => rfl); (case hg => rfl); (case hr => first | (go_simp; done) | (go_simp; rfl)); intro gb230 hg w140 hbox hb; have n0_ := A8_ (blk_below (g := gb229) (o := .cells #[.int .i64 a0_0, .int .i64 a0_1, .slice A0_2 l0_2.length c0_2] 75 (0, 0)) q8_4 hb); have n1_ := A8_ (below_step q8_14 hb); have n2_ := A8_ (hbox); have n3_ := A8_ ((by rw [hg]; exact (below_size q8_14) : w.heap.size <= gb230)); have n4_ := A8_ ((by rw [hg]; exact (below_size q8_14) : w.heap.size <= gb230)); have n5_ := A8_ ((by rw [hg]; exact Nat.ne_of_lt (blk_lt (g := gb229) (o := .cells #[.int .i64 a0_0, .int .i64 a0_1, .slice A0_2 l0_2.length c0_2] 75 (0, 0)) q8_4) : gb229 ≠ gb230)); have n6_ := A8_ ((by rw [hg]; exact Nat.ne_of_gt (blk_lt (g := gb229) (o := .cells #[.int .i64 a0_0, .int .i64 a0_1, .slice A0_2 l0_2.length c0_2] 75 (0, 0)) q8_4) : gb230 ≠ gb229)); clear BK229 HB; have BK229 := n0_; have HB := n1_; have BK230 := n2_; have GW230 := n3_; have GE230 := n4_; have NB229_230 := n5_; have NB230_229 := n6_; clear n0_ n1_ n2_ n3_ n4_ n5_ n6_; clear hb hbox hg) | ((with_reducible refine gate_callee (f := 46) rfl ?_); refine goesL_ (some 10) rfl rfl Try.func46 q8_19 rfl #[] rfl q8_11 ?_; (with_reducible refine (batonlaw10_awake.calls k  false _ A3.out).mono ?_); rintro e w141 ⟨rfl, hb⟩; refine ⟨_, rfl, ?_⟩; have n0_ := A8_ (blk_below (g := gb229) (o := .cells #[.int .i64 a0_0, .int .i64 a0_1, .slice A0_2 l0_2.length c0_2] 75 (0, 0)) q8_4 hb); have n1_ := A8_ (blk_below (g := gb230) (o := .cells #[.int .i32 a1_0, .int .i64 a1_1, .int .i64 a1_2, .int .i64 a1_3] 53 (0, 0)) q8_2 hb); have n2_ := A8_ (below_step q8_3 hb); clear BK229 BK230 HB; have BK229 := n0_; have BK230 := n1_; have HB := n2_; clear n0_ n1_ n2_; (try clear hb); (try clear hb2); (try clear hk); (try clear hi)))
  go_ret
  exact ⟨by first | rfl | (simp [errW_none, errW_some] <;> rfl) | (simp [*, errW_none, errW_some] <;> rfl), by repeat (first | (with_reducible first | exact HB.out | apply below_alloc | apply pw_below_drewN | apply below_drew1 | refine below_set ?_ GE229.out | refine below_set ?_ GE230.out) | exact HB.out)⟩

/-- THE ONE PURE STATEMENT of batonlaw10_GridApart. -/
def WF51 (x : S51) : Prop := (Lit.int .i64 x.f0).wf = true /\ (Lit.int .i64 x.f1).wf = true /\ (Lit.int .i64 x.f2).wf = true
def WF53 (x : S53) : Prop := (Lit.int .i32 x.f0).wf = true /\ WF51 x.f1
def WF75 (x : S75) : Prop := (Lit.int .i64 x.f0).wf = true /\ (Lit.int .i64 x.f1).wf = true /\ (x.f2.length <= maxLen /\ ∀ x_ ∈ x.f2, WF53 x_)
def batonlaw10_GridApart.Pure : Prop := ∀ (a0_0 : Int) (a0_1 : Int) (l0_2 : List (S53)) (a1_0 : Int) (a1_1 : Int) (a1_2 : Int) (a1_3 : Int), (Lit.int .i64 a0_0).wf = true -> (Lit.int .i64 a0_1).wf = true -> (l0_2.length <= maxLen /\ ∀ x_ ∈ l0_2, WF53 x_) -> (Lit.int .i32 a1_0).wf = true -> (Lit.int .i64 a1_1).wf = true -> (Lit.int .i64 a1_2).wf = true -> (Lit.int .i64 a1_3).wf = true -> ∃ k, batonlaw10_GridApart.f k a0_0 a0_1 l0_2 a1_0 a1_1 a1_2 a1_3 = some true

end Go.Proofs.Ytkckojgjkmcokaa.PF10A
