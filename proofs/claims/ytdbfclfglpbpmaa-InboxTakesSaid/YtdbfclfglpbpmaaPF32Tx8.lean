/- By a program of this session (wip/tool/pp.py): plain Lean functions of the Go functions that this family of laws uses, the walks that the Go code comes to their answers, and the row of the law. No condition beside those that the row itself gives. -/
import Derived.Test.YtdbfclfglpbpmaaPF32Tx0
import Derived.Test.YtdbfclfglpbpmaaPF32Tx2
import Derived.Test.YtdbfclfglpbpmaaPF32Tx3
import Derived.Test.YtdbfclfglpbpmaaPF32Tx4
import Derived.Test.YtdbfclfglpbpmaaPF32Tx5
import Derived.Test.YtdbfclfglpbpmaaPF32Tx6
import Derived.Test.YtdbfclfglpbpmaaPF32Tx7
namespace Go.Proofs.Ytdbfclfglpbpmaa.PF32T
open Go.RowKit Go.Proofs.YtdbfclfglpbpmaaW.Hand Go.Proofs.YtdbfclfglpbpmaaW.PrintWords Go.Proofs.YtdbfclfglpbpmaaW.PrintLast Go.Proofs.YtdbfclfglpbpmaaW.PrintMore
attribute [local go_sem] max2_int min2_int max_two min_two max_three min_three max_four min_four   -- for this text's walks alone
set_option linter.unusedVariables false
set_option linter.unusedSimpArgs false

/-! ### batonlaw32_InboxTakes: function 9 -/
mutual
def batonlaw32_InboxTakes.j0 : Nat -> List Int -> Int -> List (S142) -> Int -> Int -> Option (Bool)
 | 0, _, _, _, _, _ => none
 | k + 1, x1, x200000, x200001, x201000, x201001 => if (x200001.length : Int) > 80 then (batonlaw32_InboxTakes.j1 k x1 true x200000 x200001 x201000 x201001) else (batonlaw32_InboxTakes.j1 k x1 (decide ((x1.length : Int) > 100)) x200000 x200001 x201000 x201001)
def batonlaw32_InboxTakes.j1 : Nat -> List Int -> Bool -> Int -> List (S142) -> Int -> Int -> Option (Bool)
 | 0, _, _, _, _, _, _ => none
 | k + 1, x1, x25, x200000, x200001, x201000, x201001 => if x25 = true then (some true) else (batonlaw32_InboxTakes.j2 k x1 x200000 x200001 x201000 x201001)
def batonlaw32_InboxTakes.j2 : Nat -> List Int -> Int -> List (S142) -> Int -> Int -> Option (Bool)
 | 0, _, _, _, _, _ => none
 | k + 1, x1, x200000, x200001, x201000, x201001 => (batonlaw32_Ref.f k x200000 x200001).bind fun bt202 => ((batonref32_Right.f k bt202.1 bt202.2).bind fun t207 => ((inbox_Right.f k x200000 x200001).bind fun t208 => (if (t208 != t207) = true then (some false) else (batonlaw32_InboxTakes.j3 k x1 t207 x200000 x200001 x201000 x201001 bt202.1 bt202.2))))
def batonlaw32_InboxTakes.j3 : Nat -> List Int -> Bool -> Int -> List (S142) -> Int -> Int -> Int -> List (S144) -> Option (Bool)
 | 0, _, _, _, _, _, _, _, _ => none
 | k + 1, x1, x8, x200000, x200001, x201000, x201001, x207000, x207001 => if x8 = true then (batonlaw32_InboxTakes.j4 k x1 x200000 x200001 x201000 x201001 x207000 x207001) else (some true)
def batonlaw32_InboxTakes.j4 : Nat -> List Int -> Int -> List (S142) -> Int -> Int -> Int -> List (S144) -> Option (Bool)
 | 0, _, _, _, _, _, _, _ => none
 | k + 1, x1, x200000, x200001, x201000, x201001, x207000, x207001 => (inbox_Take.f k x200000 x200001 x201000 x1 x201001).bind fun bt209 => ((batonref32_Take.f k x207000 x207001 x201000 x1 x201001).bind fun bt218 => (if bt209.2.2.2 = bt218.2.2.2 then ((batonlaw32_Ref.f k bt209.1 bt209.2.1).bind fun bt227 => ((batonref32_Same.f k bt227.1 bt227.2 bt218.1 bt218.2.1).bind fun t231 => (if t231 = true then ((batonref01_Same.f k bt209.2.2.1 bt218.2.2.1).bind fun t232 => (if t232 = true then ((inbox_Right.f k bt209.1 bt209.2.1).bind fun t233 => (if t233 = true then ((batonlaw32_Ref.f k x200000 x200001).bind fun bt234 => ((batonref32_Same.f k bt234.1 bt234.2 x207000 x207001).bind fun t238 => (some t238))) else (some false))) else (some false))) else (some false)))) else (some false)))
end
def batonlaw32_InboxTakes.f (k : Nat) (a0_0 : Int) (l0_1 : List (S142)) (l1 : List Int) (a2_0 : Int) (a2_1 : Int) : Option (Bool) := (batonlaw32_awake.f k).bind fun t201 => (if t201 = true then (batonlaw32_InboxTakes.j0 k l1 a0_0 l0_1 a2_0 a2_1) else (some false))
theorem batonlaw32_InboxTakes.mono_l : ∀ k, (∀ y0 y1 y2 y3 y4, LeO (batonlaw32_InboxTakes.j0 k y0 y1 y2 y3 y4) (batonlaw32_InboxTakes.j0 (k + 1) y0 y1 y2 y3 y4)) /\ (∀ y0 y1 y2 y3 y4 y5, LeO (batonlaw32_InboxTakes.j1 k y0 y1 y2 y3 y4 y5) (batonlaw32_InboxTakes.j1 (k + 1) y0 y1 y2 y3 y4 y5)) /\ (∀ y0 y1 y2 y3 y4, LeO (batonlaw32_InboxTakes.j2 k y0 y1 y2 y3 y4) (batonlaw32_InboxTakes.j2 (k + 1) y0 y1 y2 y3 y4)) /\ (∀ y0 y1 y2 y3 y4 y5 y6 y7, LeO (batonlaw32_InboxTakes.j3 k y0 y1 y2 y3 y4 y5 y6 y7) (batonlaw32_InboxTakes.j3 (k + 1) y0 y1 y2 y3 y4 y5 y6 y7)) /\ (∀ y0 y1 y2 y3 y4 y5 y6, LeO (batonlaw32_InboxTakes.j4 k y0 y1 y2 y3 y4 y5 y6) (batonlaw32_InboxTakes.j4 (k + 1) y0 y1 y2 y3 y4 y5 y6))
 | 0 => ⟨fun _ _ _ _ _ r h => by simp [batonlaw32_InboxTakes.j0] at h, fun _ _ _ _ _ _ r h => by simp [batonlaw32_InboxTakes.j1] at h, fun _ _ _ _ _ r h => by simp [batonlaw32_InboxTakes.j2] at h, fun _ _ _ _ _ _ _ _ r h => by simp [batonlaw32_InboxTakes.j3] at h, fun _ _ _ _ _ _ _ r h => by simp [batonlaw32_InboxTakes.j4] at h⟩
 | k + 1 => by
  obtain ⟨ih0, ih1, ih2, ih3, ih4⟩ := batonlaw32_InboxTakes.mono_l k
  refine ⟨?_, ?_, ?_, ?_, ?_⟩
  ·intro y0 y1 y2 y3 y4
   unfold batonlaw32_InboxTakes.j0
   repeat' first
   | (with_reducible exact ih0 _ _ _ _ _)
   | (with_reducible exact ih1 _ _ _ _ _ _)
   | (with_reducible exact ih2 _ _ _ _ _)
   | (with_reducible exact ih3 _ _ _ _ _ _ _ _)
   | (with_reducible exact ih4 _ _ _ _ _ _ _)
   | (with_reducible exact batonlaw32_Ref.mono _ _ _)
   | (with_reducible exact batonlaw32_awake.mono _)
   | (with_reducible exact batonref01_Same.mono _ _ _)
   | (with_reducible exact batonref32_Right.mono _ _ _)
   | (with_reducible exact batonref32_Same.mono _ _ _ _ _)
   | (with_reducible exact batonref32_Take.mono _ _ _ _ _ _)
   | (with_reducible exact inbox_Right.mono _ _ _)
   | (with_reducible exact inbox_Take.mono _ _ _ _ _ _)
   | (with_reducible exact LeO.refl _)
   | (with_reducible exact LeO.none _)
   | (with_reducible refine LeO.ite ?_ ?_)
   | (with_reducible refine LeO.bind ?_ (fun _ => ?_))
   | exact ih0 _ _ _ _ _
   | exact ih1 _ _ _ _ _ _
   | exact ih2 _ _ _ _ _
   | exact ih3 _ _ _ _ _ _ _ _
   | exact ih4 _ _ _ _ _ _ _
   | exact batonlaw32_Ref.mono _ _ _
   | exact batonlaw32_awake.mono _
   | exact batonref01_Same.mono _ _ _
   | exact batonref32_Right.mono _ _ _
   | exact batonref32_Same.mono _ _ _ _ _
   | exact batonref32_Take.mono _ _ _ _ _ _
   | exact inbox_Right.mono _ _ _
   | exact inbox_Take.mono _ _ _ _ _ _
   | exact LeO.none _
   | refine LeO.ite ?_ ?_
   | refine LeO.bind ?_ (fun _ => ?_)
  ·intro y0 y1 y2 y3 y4 y5
   unfold batonlaw32_InboxTakes.j1
   repeat' first
   | (with_reducible exact ih0 _ _ _ _ _)
   | (with_reducible exact ih1 _ _ _ _ _ _)
   | (with_reducible exact ih2 _ _ _ _ _)
   | (with_reducible exact ih3 _ _ _ _ _ _ _ _)
   | (with_reducible exact ih4 _ _ _ _ _ _ _)
   | (with_reducible exact batonlaw32_Ref.mono _ _ _)
   | (with_reducible exact batonlaw32_awake.mono _)
   | (with_reducible exact batonref01_Same.mono _ _ _)
   | (with_reducible exact batonref32_Right.mono _ _ _)
   | (with_reducible exact batonref32_Same.mono _ _ _ _ _)
   | (with_reducible exact batonref32_Take.mono _ _ _ _ _ _)
   | (with_reducible exact inbox_Right.mono _ _ _)
   | (with_reducible exact inbox_Take.mono _ _ _ _ _ _)
   | (with_reducible exact LeO.refl _)
   | (with_reducible exact LeO.none _)
   | (with_reducible refine LeO.ite ?_ ?_)
   | (with_reducible refine LeO.bind ?_ (fun _ => ?_))
   | exact ih0 _ _ _ _ _
   | exact ih1 _ _ _ _ _ _
   | exact ih2 _ _ _ _ _
   | exact ih3 _ _ _ _ _ _ _ _
   | exact ih4 _ _ _ _ _ _ _
   | exact batonlaw32_Ref.mono _ _ _
   | exact batonlaw32_awake.mono _
   | exact batonref01_Same.mono _ _ _
   | exact batonref32_Right.mono _ _ _
   | exact batonref32_Same.mono _ _ _ _ _
   | exact batonref32_Take.mono _ _ _ _ _ _
   | exact inbox_Right.mono _ _ _
   | exact inbox_Take.mono _ _ _ _ _ _
   | exact LeO.none _
   | refine LeO.ite ?_ ?_
   | refine LeO.bind ?_ (fun _ => ?_)
  ·intro y0 y1 y2 y3 y4
   unfold batonlaw32_InboxTakes.j2
   repeat' first
   | (with_reducible exact ih0 _ _ _ _ _)
   | (with_reducible exact ih1 _ _ _ _ _ _)
   | (with_reducible exact ih2 _ _ _ _ _)
   | (with_reducible exact ih3 _ _ _ _ _ _ _ _)
   | (with_reducible exact ih4 _ _ _ _ _ _ _)
   | (with_reducible exact batonlaw32_Ref.mono _ _ _)
   | (with_reducible exact batonlaw32_awake.mono _)
   | (with_reducible exact batonref01_Same.mono _ _ _)
   | (with_reducible exact batonref32_Right.mono _ _ _)
   | (with_reducible exact batonref32_Same.mono _ _ _ _ _)
   | (with_reducible exact batonref32_Take.mono _ _ _ _ _ _)
   | (with_reducible exact inbox_Right.mono _ _ _)
   | (with_reducible exact inbox_Take.mono _ _ _ _ _ _)
   | (with_reducible exact LeO.refl _)
   | (with_reducible exact LeO.none _)
   | (with_reducible refine LeO.ite ?_ ?_)
   | (with_reducible refine LeO.bind ?_ (fun _ => ?_))
   | exact ih0 _ _ _ _ _
   | exact ih1 _ _ _ _ _ _
   | exact ih2 _ _ _ _ _
   | exact ih3 _ _ _ _ _ _ _ _
   | exact ih4 _ _ _ _ _ _ _
   | exact batonlaw32_Ref.mono _ _ _
   | exact batonlaw32_awake.mono _
   | exact batonref01_Same.mono _ _ _
   | exact batonref32_Right.mono _ _ _
   | exact batonref32_Same.mono _ _ _ _ _
   | exact batonref32_Take.mono _ _ _ _ _ _
   | exact inbox_Right.mono _ _ _
   | exact inbox_Take.mono _ _ _ _ _ _
   | exact LeO.none _
   | refine LeO.ite ?_ ?_
   | refine LeO.bind ?_ (fun _ => ?_)
  ·intro y0 y1 y2 y3 y4 y5 y6 y7
   unfold batonlaw32_InboxTakes.j3
   repeat' first
   | (with_reducible exact ih0 _ _ _ _ _)
   | (with_reducible exact ih1 _ _ _ _ _ _)
   | (with_reducible exact ih2 _ _ _ _ _)
   | (with_reducible exact ih3 _ _ _ _ _ _ _ _)
   | (with_reducible exact ih4 _ _ _ _ _ _ _)
   | (with_reducible exact batonlaw32_Ref.mono _ _ _)
   | (with_reducible exact batonlaw32_awake.mono _)
   | (with_reducible exact batonref01_Same.mono _ _ _)
   | (with_reducible exact batonref32_Right.mono _ _ _)
   | (with_reducible exact batonref32_Same.mono _ _ _ _ _)
   | (with_reducible exact batonref32_Take.mono _ _ _ _ _ _)
   | (with_reducible exact inbox_Right.mono _ _ _)
   | (with_reducible exact inbox_Take.mono _ _ _ _ _ _)
   | (with_reducible exact LeO.refl _)
   | (with_reducible exact LeO.none _)
   | (with_reducible refine LeO.ite ?_ ?_)
   | (with_reducible refine LeO.bind ?_ (fun _ => ?_))
   | exact ih0 _ _ _ _ _
   | exact ih1 _ _ _ _ _ _
   | exact ih2 _ _ _ _ _
   | exact ih3 _ _ _ _ _ _ _ _
   | exact ih4 _ _ _ _ _ _ _
   | exact batonlaw32_Ref.mono _ _ _
   | exact batonlaw32_awake.mono _
   | exact batonref01_Same.mono _ _ _
   | exact batonref32_Right.mono _ _ _
   | exact batonref32_Same.mono _ _ _ _ _
   | exact batonref32_Take.mono _ _ _ _ _ _
   | exact inbox_Right.mono _ _ _
   | exact inbox_Take.mono _ _ _ _ _ _
   | exact LeO.none _
   | refine LeO.ite ?_ ?_
   | refine LeO.bind ?_ (fun _ => ?_)
  ·intro y0 y1 y2 y3 y4 y5 y6
   unfold batonlaw32_InboxTakes.j4
   repeat' first
   | (with_reducible exact ih0 _ _ _ _ _)
   | (with_reducible exact ih1 _ _ _ _ _ _)
   | (with_reducible exact ih2 _ _ _ _ _)
   | (with_reducible exact ih3 _ _ _ _ _ _ _ _)
   | (with_reducible exact ih4 _ _ _ _ _ _ _)
   | (with_reducible exact batonlaw32_Ref.mono _ _ _)
   | (with_reducible exact batonlaw32_awake.mono _)
   | (with_reducible exact batonref01_Same.mono _ _ _)
   | (with_reducible exact batonref32_Right.mono _ _ _)
   | (with_reducible exact batonref32_Same.mono _ _ _ _ _)
   | (with_reducible exact batonref32_Take.mono _ _ _ _ _ _)
   | (with_reducible exact inbox_Right.mono _ _ _)
   | (with_reducible exact inbox_Take.mono _ _ _ _ _ _)
   | (with_reducible exact LeO.refl _)
   | (with_reducible exact LeO.none _)
   | (with_reducible refine LeO.ite ?_ ?_)
   | (with_reducible refine LeO.bind ?_ (fun _ => ?_))
   | exact ih0 _ _ _ _ _
   | exact ih1 _ _ _ _ _ _
   | exact ih2 _ _ _ _ _
   | exact ih3 _ _ _ _ _ _ _ _
   | exact ih4 _ _ _ _ _ _ _
   | exact batonlaw32_Ref.mono _ _ _
   | exact batonlaw32_awake.mono _
   | exact batonref01_Same.mono _ _ _
   | exact batonref32_Right.mono _ _ _
   | exact batonref32_Same.mono _ _ _ _ _
   | exact batonref32_Take.mono _ _ _ _ _ _
   | exact inbox_Right.mono _ _ _
   | exact inbox_Take.mono _ _ _ _ _ _
   | exact LeO.none _
   | refine LeO.ite ?_ ?_
   | refine LeO.bind ?_ (fun _ => ?_)
theorem batonlaw32_InboxTakes.mono : ∀ a0 a1 a2 a3 a4 k, LeO (batonlaw32_InboxTakes.f k a0 a1 a2 a3 a4) (batonlaw32_InboxTakes.f (k + 1) a0 a1 a2 a3 a4) := by
 intro a0 a1 a2 a3 a4 k
 obtain ⟨ih0, ih1, ih2, ih3, ih4⟩ := batonlaw32_InboxTakes.mono_l k
 unfold batonlaw32_InboxTakes.f
 repeat' first
   | (with_reducible exact ih0 _ _ _ _ _)
   | (with_reducible exact ih1 _ _ _ _ _ _)
   | (with_reducible exact ih2 _ _ _ _ _)
   | (with_reducible exact ih3 _ _ _ _ _ _ _ _)
   | (with_reducible exact ih4 _ _ _ _ _ _ _)
   | (with_reducible exact batonlaw32_Ref.mono _ _ _)
   | (with_reducible exact batonlaw32_awake.mono _)
   | (with_reducible exact batonref01_Same.mono _ _ _)
   | (with_reducible exact batonref32_Right.mono _ _ _)
   | (with_reducible exact batonref32_Same.mono _ _ _ _ _)
   | (with_reducible exact batonref32_Take.mono _ _ _ _ _ _)
   | (with_reducible exact inbox_Right.mono _ _ _)
   | (with_reducible exact inbox_Take.mono _ _ _ _ _ _)
   | (with_reducible exact LeO.refl _)
   | (with_reducible exact LeO.none _)
   | (with_reducible refine LeO.ite ?_ ?_)
   | (with_reducible refine LeO.bind ?_ (fun _ => ?_))
   | exact ih0 _ _ _ _ _
   | exact ih1 _ _ _ _ _ _
   | exact ih2 _ _ _ _ _
   | exact ih3 _ _ _ _ _ _ _ _
   | exact ih4 _ _ _ _ _ _ _
   | exact batonlaw32_Ref.mono _ _ _
   | exact batonlaw32_awake.mono _
   | exact batonref01_Same.mono _ _ _
   | exact batonref32_Right.mono _ _ _
   | exact batonref32_Same.mono _ _ _ _ _
   | exact batonref32_Take.mono _ _ _ _ _ _
   | exact inbox_Right.mono _ _ _
   | exact inbox_Take.mono _ _ _ _ _ _
   | exact LeO.none _
   | refine LeO.ite ?_ ?_
   | refine LeO.bind ?_ (fun _ => ?_)
def batonlaw32_InboxTakes.T13 : Bool × List (List Nat × List Nat) := (true, [([], []), ([], []), ([0, 1], [0, 1]), ([2], [2]), ([3], [3]), ([4, 3, 3], [3, 4]), ([3], [3]), ([5, 6, 5, 3], [3, 5, 6]), ([3, 7], [3, 7]), ([8, 7], [8]), ([9], [9]), ([9], [9]), ([10, 11, 9, 9], [9, 10, 11]), ([9, 12], [9, 12]), ([13, 12], [13]), ([14], [14]), ([15, 14, 14], [14, 15]), ([14, 16], [14, 16]), ([17, 16], [17]), ([18], [18]), ([19, 18, 18], [18, 19]), ([18], [18]), ([20, 21, 20, 18], [18, 20, 21]), ([18, 22], [18, 22]), ([23, 22, 0, 1, 2, 3, 4, 5, 6, 7, 8, 9, 10, 11, 12, 13, 14, 15, 16, 17, 18, 19, 20, 21, 22, 23], [23])])
def batonlaw32_InboxTakes.B13 : List Nat := [0, 0, 3, 7, 15, 31, 15, 127, 255, 511, 1023, 1023, 4095, 8191, 16383, 32767, 65535, 131071, 262143, 524287, 1048575, 524287, 4194303, 8388607, 16777215]
theorem batonlaw32_InboxTakes.tab13 : rtab .any (opsOf Try.f9 13) = batonlaw32_InboxTakes.T13 := by kernel_rfl
theorem batonlaw32_InboxTakes.bits13 : waitsOk batonlaw32_InboxTakes.T13.2 batonlaw32_InboxTakes.B13 = true := by kernel_rfl
theorem bc8_ {W : World} {g : Nat} {cs : Array Value} {t : TypeId} (h : Aside0 (W.heap[g]? = some (.cells cs t (0, 0)))) (j : Nat) {v : Value} (hv : cs[j]? = some v := by rfl) : W.cell? ⟨g, j, none⟩ = some v := (blk_cell h.out j).trans hv
theorem A8_ {p : Prop} (h : p) : Aside0 p := ⟨h⟩
theorem q8_3 {p : Prop} (h : p := by repeat (first | (with_reducible first | exact HB.out | apply below_alloc | apply pw_below_drewN | apply below_drew1 | refine below_set ?_ GE199.out | refine below_set ?_ GE200.out | refine below_set ?_ GE206.out | refine below_set ?_ GE217.out) | exact HB.out)) : p := h
theorem q8_4 {p : Prop} (h : p := by repeat (first | (with_reducible first | exact HB.out | apply below_alloc | apply pw_below_drewN | apply below_drew1 | refine below_set ?_ GE199.out | refine below_set ?_ GE200.out | refine below_set ?_ GE206.out) | exact HB.out)) : p := h
theorem q8_5 {p : Prop} (h : p := by (with_reducible repeat (first | refine blk_drewN ?_ _ | refine blk_drew ?_ | refine blk_alloc ?_ _)); exact BK199.out) : p := h
theorem q8_6 {p : Prop} (h : p := by (with_reducible repeat (first | refine blk_drewN ?_ _ | refine blk_drew ?_ | refine blk_alloc ?_ _)); exact BK200.out) : p := h
theorem q8_7 {p : Prop} (h : p := by (with_reducible repeat (first | refine blk_drewN ?_ _ | refine blk_drew ?_ | refine blk_alloc ?_ _)); exact BK206.out) : p := h
theorem q8_8 {p : Prop} (h : p := by repeat (first | (with_reducible first | exact HB.out | apply below_alloc | apply pw_below_drewN | apply below_drew1 | refine below_set ?_ GE199.out | refine below_set ?_ GE200.out | refine below_set ?_ GE206.out | refine below_set ?_ GE217.out | refine below_set ?_ GE226.out) | exact HB.out)) : p := h
theorem q8_9 {p : Prop} (h : p := by (with_reducible repeat (first | apply Kd.R_alloc | apply Kd.R_drewN | apply Kd.R_drew)); exact HO_207001.out) : p := h
theorem q8_10 {p : Prop} (h : p := by (with_reducible repeat (first | refine blk_drewN ?_ _ | refine blk_drew ?_ | refine blk_alloc ?_ _)); exact BK217.out) : p := h
theorem q8_11 {p : Prop} (h : p := by (try simp only [List.map_toArray, List.map_cons, List.map_nil]); first | done | rfl | (simp only [List.length_drop, List.length_take]; rfl)) : p := h
theorem q8_12 {p : Prop} (h : p := by (with_reducible repeat (first | apply Kd.R_alloc | apply Kd.R_drewN | apply Kd.R_drew)); exact HO215.out) : p := h
theorem q8_13 {p : Prop} (h : p := by (with_reducible repeat (first | apply Kd.V_alloc | apply Kd.V_drewN | apply Kd.V_drew)); exact HO212.out) : p := h
theorem q8_14 {p : Prop} (h : p := by rw [hw]; exact (by (with_reducible repeat (first | refine blk_drewN ?_ _ | refine blk_drew ?_ | refine blk_alloc ?_ _)); refine blk_put (cs := #[.int .i64 t218, .slice none 0 0]) ?_ 1 _ rfl; (with_reducible repeat (first | refine blk_drewN ?_ _ | refine blk_drew ?_ | refine blk_alloc ?_ _)); refine blk_put (cs := #[.int .i64 0, .slice none 0 0]) ?_ 0 _ rfl; (with_reducible repeat (first | refine blk_drewN ?_ _ | refine blk_drew ?_ | refine blk_alloc ?_ _)); exact BK226.out)) : p := h
theorem q8_15 {p : Prop} (h : p := by rw [hw]; exact (by (with_reducible repeat (first | refine blk_drewN ?_ _ | refine blk_drew ?_ | refine blk_alloc ?_ _)); refine blk_put (cs := #[.int .i64 t209, .slice none 0 0]) ?_ 1 _ rfl; (with_reducible repeat (first | refine blk_drewN ?_ _ | refine blk_drew ?_ | refine blk_alloc ?_ _)); refine blk_put (cs := #[.int .i64 0, .slice none 0 0]) ?_ 0 _ rfl; (with_reducible repeat (first | refine blk_drewN ?_ _ | refine blk_drew ?_ | refine blk_alloc ?_ _)); exact BK217.out)) : p := h
theorem q8_16 {p : Prop} (h : p := by kernel_rfl) : p := h
theorem q8_17 {p : Prop} (h : p := by (with_reducible repeat (first | apply Kd.V_alloc | apply Kd.V_drewN | apply Kd.V_drew)); exact HO221.out) : p := h
theorem q8_18 {p : Prop} (h : p := by (with_reducible repeat (first | apply Kd.R_alloc | apply Kd.R_drewN | apply Kd.R_drew)); exact HO224.out) : p := h
theorem q8_19 {p : Prop} (h : p := by rw [hw]; exact (by (with_reducible repeat (first | refine blk_drewN ?_ _ | refine blk_drew ?_ | refine blk_alloc ?_ _)); refine blk_far ?_ NB217_226.out _; (with_reducible repeat (first | refine blk_drewN ?_ _ | refine blk_drew ?_ | refine blk_alloc ?_ _)); refine blk_far ?_ NB217_226.out _; (with_reducible repeat (first | refine blk_drewN ?_ _ | refine blk_drew ?_ | refine blk_alloc ?_ _)); exact BK217.out)) : p := h
theorem q8_20 {p : Prop} (h : p := by rw [hw]; exact (by (with_reducible repeat (first | refine blk_drewN ?_ _ | refine blk_drew ?_ | refine blk_alloc ?_ _)); refine blk_far ?_ NB206_226.out _; (with_reducible repeat (first | refine blk_drewN ?_ _ | refine blk_drew ?_ | refine blk_alloc ?_ _)); refine blk_far ?_ NB206_226.out _; (with_reducible repeat (first | refine blk_drewN ?_ _ | refine blk_drew ?_ | refine blk_alloc ?_ _)); exact BK206.out)) : p := h
theorem q8_21 {p : Prop} (h : p := by rw [hw]; exact (by (with_reducible repeat (first | refine blk_drewN ?_ _ | refine blk_drew ?_ | refine blk_alloc ?_ _)); refine blk_far ?_ NB206_217.out _; (with_reducible repeat (first | refine blk_drewN ?_ _ | refine blk_drew ?_ | refine blk_alloc ?_ _)); refine blk_far ?_ NB206_217.out _; (with_reducible repeat (first | refine blk_drewN ?_ _ | refine blk_drew ?_ | refine blk_alloc ?_ _)); exact BK206.out)) : p := h
theorem q8_22 {p : Prop} (h : p := by rw [hw]; exact (by (with_reducible repeat (first | refine blk_drewN ?_ _ | refine blk_drew ?_ | refine blk_alloc ?_ _)); refine blk_far ?_ NB200_226.out _; (with_reducible repeat (first | refine blk_drewN ?_ _ | refine blk_drew ?_ | refine blk_alloc ?_ _)); refine blk_far ?_ NB200_226.out _; (with_reducible repeat (first | refine blk_drewN ?_ _ | refine blk_drew ?_ | refine blk_alloc ?_ _)); exact BK200.out)) : p := h
theorem q8_23 {p : Prop} (h : p := by rw [hw]; exact (by (with_reducible repeat (first | refine blk_drewN ?_ _ | refine blk_drew ?_ | refine blk_alloc ?_ _)); refine blk_far ?_ NB200_217.out _; (with_reducible repeat (first | refine blk_drewN ?_ _ | refine blk_drew ?_ | refine blk_alloc ?_ _)); refine blk_far ?_ NB200_217.out _; (with_reducible repeat (first | refine blk_drewN ?_ _ | refine blk_drew ?_ | refine blk_alloc ?_ _)); exact BK200.out)) : p := h
theorem q8_24 {p : Prop} (h : p := by rw [hw]; exact (by (with_reducible repeat (first | refine blk_drewN ?_ _ | refine blk_drew ?_ | refine blk_alloc ?_ _)); refine blk_far ?_ NB199_226.out _; (with_reducible repeat (first | refine blk_drewN ?_ _ | refine blk_drew ?_ | refine blk_alloc ?_ _)); refine blk_far ?_ NB199_226.out _; (with_reducible repeat (first | refine blk_drewN ?_ _ | refine blk_drew ?_ | refine blk_alloc ?_ _)); exact BK199.out)) : p := h
theorem q8_25 {p : Prop} (h : p := by rw [hw]; exact (by (with_reducible repeat (first | refine blk_drewN ?_ _ | refine blk_drew ?_ | refine blk_alloc ?_ _)); refine blk_far ?_ NB199_217.out _; (with_reducible repeat (first | refine blk_drewN ?_ _ | refine blk_drew ?_ | refine blk_alloc ?_ _)); refine blk_far ?_ NB199_217.out _; (with_reducible repeat (first | refine blk_drewN ?_ _ | refine blk_drew ?_ | refine blk_alloc ?_ _)); exact BK199.out)) : p := h
theorem q8_26 {p : Prop} (h : p := by decide) : p := h
theorem q8_27 {p : Prop} (h : p := by (with_reducible repeat (first | refine blk_drewN ?_ _ | refine blk_drew ?_ | refine blk_alloc ?_ _)); exact BK226.out) : p := h
theorem q8_28 {p : Prop} (h : p := by repeat (first | (with_reducible first | exact HB.out | apply below_alloc | apply pw_below_drewN | apply below_drew1 | refine below_set ?_ GE199.out | refine below_set ?_ GE200.out) | exact HB.out)) : p := h
theorem q8_29 {p : Prop} (h : p := by (with_reducible repeat (first | apply Kd.R_alloc | apply Kd.R_drewN | apply Kd.R_drew)); exact HO230.out) : p := h
theorem q8_30 {p : Prop} (h : p := by repeat (first | (with_reducible first | exact HB.out | apply below_alloc | apply pw_below_drewN | apply below_drew1 | refine below_set ?_ GE199.out) | exact HB.out)) : p := h
theorem q8_31 {p : Prop} (h : p := by repeat (first | (with_reducible first | exact HB.out | apply below_alloc | apply pw_below_drewN | apply below_drew1) | exact HB.out)) : p := h
theorem q8_32 {p : Prop} (h : p := by (with_reducible repeat (first | apply Kd.R_alloc | apply Kd.R_drewN | apply Kd.R_drew)); exact HO205.out) : p := h
abbrev m8_0 : Array Bool := #[false, false, false, false, false, false, false, false, false, false, false, false, false, false, false, false, false, false, false, false, false, false, false, false, false]
abbrev m8_1 : Array Bool := #[true, false, false, false, false, false, false, false, false, false, false, false, false, false, false, false, false, false, false, false, false, false, false, false, false]
abbrev m8_2 : Array Bool := #[true, true, false, false, false, false, false, false, false, false, false, false, false, false, false, false, false, false, false, false, false, false, false, false, false]
abbrev m8_3 : Array Bool := #[true, true, true, false, false, false, false, false, false, false, false, false, false, false, false, false, false, false, false, false, false, false, false, false, false]
abbrev m8_4 : Array Bool := #[true, true, true, true, false, false, false, false, false, false, false, false, false, false, false, false, false, false, false, false, false, false, false, false, false]
abbrev m8_5 : Array Bool := #[true, true, true, true, true, false, false, false, false, false, false, false, false, false, false, false, false, false, false, false, false, false, false, false, false]
abbrev m8_6 : Array Bool := #[true, true, true, true, true, false, true, false, false, false, false, false, false, false, false, false, false, false, false, false, false, false, false, false, false]
abbrev m8_8 : Array Bool := #[true, true, true, true, true, true, true, false, false, false, false, false, false, false, false, false, false, false, false, false, false, false, false, false, false]
abbrev m8_9 : Array Bool := #[true, true, true, true, true, true, true, true, false, false, false, false, false, false, false, false, false, false, false, false, false, false, false, false, false]
abbrev m8_10 : Array Bool := #[true, true, true, true, true, true, true, true, true, false, false, false, false, false, false, false, false, false, false, false, false, false, false, false, false]
abbrev m8_11 : Array Bool := #[true, true, true, true, true, true, true, true, true, true, false, false, false, false, false, false, false, false, false, false, false, false, false, false, false]
abbrev m8_12 : Array Bool := #[true, true, true, true, true, true, true, true, true, true, true, false, false, false, false, false, false, false, false, false, false, false, false, false, false]
abbrev m8_13 : Array Bool := #[true, true, true, true, true, true, true, true, true, true, true, true, false, false, false, false, false, false, false, false, false, false, false, false, false]
abbrev m8_14 : Array Bool := #[true, true, true, true, true, true, true, true, true, true, true, true, true, false, false, false, false, false, false, false, false, false, false, false, false]
abbrev m8_15 : Array Bool := #[true, true, true, true, true, true, true, true, true, true, true, true, true, true, false, false, false, false, false, false, false, false, false, false, false]
abbrev m8_16 : Array Bool := #[true, true, true, true, true, true, true, true, true, true, true, true, true, true, true, false, false, false, false, false, false, false, false, false, false]
abbrev m8_17 : Array Bool := #[true, true, true, true, true, true, true, true, true, true, true, true, true, true, true, true, false, false, false, false, false, false, false, false, false]
abbrev m8_18 : Array Bool := #[true, true, true, true, true, true, true, true, true, true, true, true, true, true, true, true, true, false, false, false, false, false, false, false, false]
abbrev m8_19 : Array Bool := #[true, true, true, true, true, true, true, true, true, true, true, true, true, true, true, true, true, true, false, false, false, false, false, false, false]
abbrev m8_20 : Array Bool := #[true, true, true, true, true, true, true, true, true, true, true, true, true, true, true, true, true, true, true, false, false, false, false, false, false]
abbrev m8_21 : Array Bool := #[true, true, true, true, true, true, true, true, true, true, true, true, true, true, true, true, true, true, true, true, false, false, false, false, false]
abbrev m8_23 : Array Bool := #[true, true, true, true, true, true, true, true, true, true, true, true, true, true, true, true, true, true, true, true, true, false, false, false, false]
abbrev m8_24 : Array Bool := #[true, true, true, true, true, true, true, true, true, true, true, true, true, true, true, true, true, true, true, true, true, true, false, false, false]
abbrev m8_25 : Array Bool := #[true, true, true, true, true, true, true, true, true, true, true, true, true, true, true, true, true, true, true, true, true, true, true, false, false]
abbrev m8_26 : Array Bool := #[true, true, true, true, true, true, true, true, true, true, true, true, true, true, true, true, true, true, true, true, true, true, true, true, false]
abbrev m8_27 : Array Bool := #[true, true, true, true, true, true, true, true, true, true, true, true, true, true, true, true, true, true, true, true, true, true, true, true, true]
set_option maxHeartbeats 8000000 in
set_option maxRecDepth 100000 in
theorem batonlaw32_InboxTakes.calls (k : Nat) (a0_0 : Int) (A0_1 : Option Addr) (c0_1 : Nat) (l0_1 : List (S142)) (A1 : Option Addr) (c1 : Nat) (l1 : List Int) (a2_0 : Int) (a2_1 : Int) (r : Bool) (w : World) (hr0_1 : Kd.C k142 w A0_1 l0_1.length l0_1) (hc0_1 : l0_1.length <= c0_1) (hr1 : Kd.C (Kd.int .u8) w A1 l1.length l1) (hc1 : l1.length <= c1) (h : batonlaw32_InboxTakes.f k a0_0 l0_1 l1 a2_0 a2_1 = some r) :
  Calls Try.prog 9 #[.agg #[.int .i64 a0_0, .slice A0_1 l0_1.length c0_1], .slice A1 l1.length c1, .agg #[.int .i64 a2_0, .int .i64 a2_1]] w fun e w' => e = .returned (.bool r) /\ Below w.heap.size w w' := by
 have hu68 := Try.underlying68
 have hu25 := Try.underlying25
 have hu77 := Try.underlying77
 have HR0_1 := A8_ hr0_1
 have HC0_1 := A8_ hc0_1
 clear hr0_1 hc0_1
 have HR1 := A8_ hr1
 have HC1 := A8_ hc1
 clear hr1 hc1
 have HB := A8_ (Below.refl w.heap.size w)
 have H : ((batonlaw32_awake.f k).bind fun t201 => (if t201 = true then (batonlaw32_InboxTakes.j0 k l1 a0_0 l0_1 a2_0 a2_1) else (some false))) = some r := h
 clear h
 replace H := Option.bind_eq_some_iff.mp H
 obtain ⟨t201, A40, H⟩ := H
 replace H : (if t201 = true then (batonlaw32_InboxTakes.j0 k l1 a0_0 l0_1 a2_0 a2_1) else (some false)) = some r := H
 have A4 := A8_ A40
 clear A40
 have HC5 := A8_ H
 clear H
 go_enter Try.func9, Try.ntmps9
 go_upto_if 16 with (first | ((with_reducible refine gate_dst (N := 3) rfl ?_); (try (refine gate_guard (by rfl) ?_; dsimp only)); refine box_event ?hg (N := 3) ?hd (cs := #[.int .i64 a0_0, .slice A0_1 l0_1.length c0_1]) (t := 68) ?hr ?_; (case hd => rfl); (case hg => rfl); (case hr => first | (go_simp; done) | (go_simp; rfl)); intro gb199 hg w6 hbox hb; have n0_ := A8_ (below_step q8_31 hb); have n1_ := A8_ (hbox); have n2_ := A8_ ((by rw [hg]; exact (below_size q8_31) : w.heap.size <= gb199)); have n3_ := A8_ ((by rw [hg]; exact (below_size q8_31) : w.heap.size <= gb199)); clear HB; have HB := n0_; have BK199 := n1_; have GW199 := n2_; have GE199 := n3_; clear n0_ n1_ n2_ n3_; clear hb hbox hg) | ((with_reducible refine gate_dst (N := 5) rfl ?_); (try (refine gate_guard (by rfl) ?_; dsimp only)); refine box_event ?hg (N := 5) ?hd (cs := #[.int .i64 a2_0, .int .i64 a2_1]) (t := 25) ?hr ?_; (case hd => rfl); (case hg => rfl); (case hr => first | (go_simp; done) | (go_simp; rfl)); intro gb200 hg w7 hbox hb; have n0_ := A8_ (blk_below (g := gb199) (o := .cells #[.int .i64 a0_0, .slice A0_1 l0_1.length c0_1] 68 (0, 0)) q8_5 hb); have n1_ := A8_ (below_step q8_30 hb); have n2_ := A8_ (hbox); have n3_ := A8_ ((by rw [hg]; exact (below_size q8_30) : w.heap.size <= gb200)); have n4_ := A8_ ((by rw [hg]; exact (below_size q8_30) : w.heap.size <= gb200)); have n5_ := A8_ ((by rw [hg]; exact Nat.ne_of_lt (blk_lt (g := gb199) (o := .cells #[.int .i64 a0_0, .slice A0_1 l0_1.length c0_1] 68 (0, 0)) q8_5) : gb199 ≠ gb200)); have n6_ := A8_ ((by rw [hg]; exact Nat.ne_of_gt (blk_lt (g := gb199) (o := .cells #[.int .i64 a0_0, .slice A0_1 l0_1.length c0_1] 68 (0, 0)) q8_5) : gb200 ≠ gb199)); clear BK199 HB; have BK199 := n0_; have HB := n1_; have BK200 := n2_; have GW200 := n3_; have GE200 := n4_; have NB199_200 := n5_; have NB200_199 := n6_; clear n0_ n1_ n2_ n3_ n4_ n5_ n6_; clear hb hbox hg) | ((with_reducible refine gate_callee (f := 36) rfl ?_); refine goesL_ (some 15) rfl rfl Try.func36 q8_16 rfl #[] rfl q8_11 ?_; (with_reducible refine (batonlaw32_awake.calls k  t201 _ A4.out).mono ?_); rintro e w8 ⟨rfl, hb⟩; refine ⟨_, rfl, ?_⟩; have n0_ := A8_ (blk_below (g := gb199) (o := .cells #[.int .i64 a0_0, .slice A0_1 l0_1.length c0_1] 68 (0, 0)) q8_5 hb); have n1_ := A8_ (blk_below (g := gb200) (o := .cells #[.int .i64 a2_0, .int .i64 a2_1] 25 (0, 0)) q8_6 hb); have n2_ := A8_ (below_step q8_28 hb); clear BK199 BK200 HB; have BK199 := n0_; have BK200 := n1_; have HB := n2_; clear n0_ n1_ n2_; (try clear hb); (try clear hb2); (try clear hk); (try clear hi)))
 (try simp only [Act.put, List.setIfInBounds_toArray, List.set_cons_zero, List.set_cons_succ])
 go_cut [] (fun wc => ∃ (kq : Nat), Aside0 (batonlaw32_InboxTakes.j0 kq l1 a0_0 l0_1 a2_0 a2_1 = some r) /\ Aside0 (kq <= k) /\ Aside0 (wc.heap[gb199]? = some (.cells #[.int .i64 a0_0, (.slice A0_1 l0_1.length c0_1)] 68 (0, 0))) /\ Aside0 (wc.heap[gb200]? = some (.cells #[.int .i64 a2_0, .int .i64 a2_1] 25 (0, 0))) /\ Aside0 (Below w.heap.size w wc))
 case first =>
  have H := HC5.out
  clear HC5
  by_cases c9 : t201 = true
  ·subst c9
   have H1 : (batonlaw32_InboxTakes.j0 k l1 a0_0 l0_1 a2_0 a2_1) = some r := by rw [if_pos rfl] at H; exact H
   clear H
   have H := H1
   clear H1
   have H' := A8_ H
   clear H
   go_wp2
   go_meet
   case rel => exact ⟨_, H', ⟨by first | omega | exact Nat.le_refl _⟩, ⟨by (with_reducible repeat (first | refine blk_drewN ?_ _ | refine blk_drew ?_ | refine blk_alloc ?_ _)); exact BK199.out⟩, ⟨by (with_reducible repeat (first | refine blk_drewN ?_ _ | refine blk_drew ?_ | refine blk_alloc ?_ _)); exact BK200.out⟩, ⟨by repeat (first | (with_reducible first | exact HB.out | apply below_alloc | apply pw_below_drewN | apply below_drew1 | refine below_set ?_ GE199.out | refine below_set ?_ GE200.out) | exact HB.out)⟩⟩
  ·replace c9 := Bool.eq_false_iff.mpr c9
   subst c9
   have H1 : (some false) = some r := by rw [if_neg (show ¬ (false = true) by decide)] at H; exact H
   clear H
   have H := H1
   clear H1
   obtain rfl := Option.some.inj H
   go_wp2
   go_ret
   exact ⟨by first | rfl | (simp [errW_none, errW_some] <;> rfl) | (simp [*, errW_none, errW_some] <;> rfl), by repeat (first | (with_reducible first | exact HB.out | apply below_alloc | apply pw_below_drewN | apply below_drew1 | refine below_set ?_ GE199.out | refine below_set ?_ GE200.out) | exact HB.out)⟩
 case rest =>
  clear HC5
  try clear c1
  try clear p2
  try clear c3
  try clear c9
  obtain ⟨kq, HA, HJ4, BK199, BK200, HB⟩ := hcut
  cases kq with
  | zero => exact absurd HA.out (by simp [batonlaw32_InboxTakes.j0])
  | succ kj4 =>
   have H := HA.out
   clear HA
   simp only [batonlaw32_InboxTakes.j0] at H
   have HC10 := A8_ H
   clear H
   go_upto_region 3 with (fail)
   go_cut [25] (fun v25 wc => ∃ (kq : Nat) (x25_9 : Bool), v25 = .bool x25_9 /\ Aside0 (batonlaw32_InboxTakes.j1 kq l1 x25_9 a0_0 l0_1 a2_0 a2_1 = some r) /\ Aside0 (kq <= kj4) /\ Aside0 (wc.heap[gb199]? = some (.cells #[.int .i64 a0_0, (.slice A0_1 l0_1.length c0_1)] 68 (0, 0))) /\ Aside0 (wc.heap[gb200]? = some (.cells #[.int .i64 a2_0, .int .i64 a2_1] 25 (0, 0))) /\ Aside0 (Below w.heap.size w wc))
   case first =>
    have H := HC10.out
    clear HC10
    by_cases c11 : (l0_1.length : Int) > 80
    ·rw [if_pos c11] at H
     have c11b0 : decide (80 < (l0_1.length : Int)) = true := decide_eq_true c11
     have c11b1 : decide (80 < l0_1.length) = true := decide_eq_true (by omega)
     clear c11
     (first | rw [c11b0] | (simp only [i64_w, i32_w]; rw [c11b0]) | rw [c11b1] | rw [c11b2] | skip)
     have H' := A8_ H
     clear H
     have hnb12 := NB199_200.out
     have hnc12 := NB200_199.out
     have hcz13_0 : wc.cell? ⟨gb199, 0, none⟩ = some (.int .i64 a0_0) := bc8_ BK199 0
     have hcz13_1 : wc.cell? ⟨gb199, 1, none⟩ = some (.slice A0_1 l0_1.length c0_1) := bc8_ BK199 1
     have hfz13_0 := blk_frozen BK199.out 0
     have hfz13_1 := blk_frozen BK199.out 1
     go_wp2
     go_meet
     case rel => exact ⟨_, (true), (by first | rfl | (simp; done) | (simp [*]; done)), H', ⟨by have := HJ4.out; first | omega | exact Nat.le_refl _⟩, ⟨by (with_reducible repeat (first | refine blk_drewN ?_ _ | refine blk_drew ?_ | refine blk_alloc ?_ _)); exact BK199.out⟩, ⟨by (with_reducible repeat (first | refine blk_drewN ?_ _ | refine blk_drew ?_ | refine blk_alloc ?_ _)); exact BK200.out⟩, ⟨by repeat (first | (with_reducible first | exact HB.out | apply below_alloc | apply pw_below_drewN | apply below_drew1 | refine below_set ?_ GE199.out | refine below_set ?_ GE200.out) | exact HB.out)⟩⟩
    ·rw [if_neg c11] at H
     have c11b0 : decide (80 < (l0_1.length : Int)) = false := decide_eq_false c11
     have c11b1 : decide (80 < l0_1.length) = false := decide_eq_false (by omega)
     clear c11
     (first | rw [c11b0] | (simp only [i64_w, i32_w]; rw [c11b0]) | rw [c11b1] | rw [c11b2] | skip)
     have H' := A8_ H
     clear H
     have hnb14 := NB199_200.out
     have hnc14 := NB200_199.out
     have hcz15_0 : wc.cell? ⟨gb199, 0, none⟩ = some (.int .i64 a0_0) := bc8_ BK199 0
     have hcz15_1 : wc.cell? ⟨gb199, 1, none⟩ = some (.slice A0_1 l0_1.length c0_1) := bc8_ BK199 1
     have hfz15_0 := blk_frozen BK199.out 0
     have hfz15_1 := blk_frozen BK199.out 1
     go_wp2
     go_meet
     case rel => exact ⟨_, (decide ((l1.length : Int) > 100)), (by first | rfl | (simp; done) | (simp [*]; done)), H', ⟨by have := HJ4.out; first | omega | exact Nat.le_refl _⟩, ⟨by (with_reducible repeat (first | refine blk_drewN ?_ _ | refine blk_drew ?_ | refine blk_alloc ?_ _)); exact BK199.out⟩, ⟨by (with_reducible repeat (first | refine blk_drewN ?_ _ | refine blk_drew ?_ | refine blk_alloc ?_ _)); exact BK200.out⟩, ⟨by repeat (first | (with_reducible first | exact HB.out | apply below_alloc | apply pw_below_drewN | apply below_drew1 | refine below_set ?_ GE199.out | refine below_set ?_ GE200.out) | exact HB.out)⟩⟩
   case rest =>
    clear HC10
    try clear c1
    try clear p2
    try clear c3
    try clear c9
    try clear c11
    try clear c11b0
    try clear c11b1
    try clear c11b2
    try clear c12
    try clear c14
    try clear hcz13_0
    try clear hcz13_1
    try clear hcz15_0
    try clear hcz15_1
    try clear hfz13_0
    try clear hfz13_1
    try clear hfz15_0
    try clear hfz15_1
    try clear p2
    obtain ⟨kq, x25_9, rfl, HA, HJ9, BK199, BK200, HB⟩ := hcut
    cases kq with
    | zero => exact absurd HA.out (by simp [batonlaw32_InboxTakes.j1])
    | succ kj9 =>
     have H := HA.out
     clear HA
     simp only [batonlaw32_InboxTakes.j1] at H
     have HC16 := A8_ H
     clear H
     go_upto_if 25 with (fail)
     go_cut [] (fun wc => ∃ (kq : Nat), Aside0 (batonlaw32_InboxTakes.j2 kq l1 a0_0 l0_1 a2_0 a2_1 = some r) /\ Aside0 (kq <= kj9) /\ Aside0 (wc.heap[gb199]? = some (.cells #[.int .i64 a0_0, (.slice A0_1 l0_1.length c0_1)] 68 (0, 0))) /\ Aside0 (wc.heap[gb200]? = some (.cells #[.int .i64 a2_0, .int .i64 a2_1] 25 (0, 0))) /\ Aside0 (Below w.heap.size w wc))
     case first =>
      have H := HC16.out
      clear HC16
      by_cases c17 : x25_9 = true
      ·subst c17
       have H1 : (some true) = some r := by rw [if_pos rfl] at H; exact H
       clear H
       have H := H1
       clear H1
       obtain rfl := Option.some.inj H
       go_wp2
       go_ret
       exact ⟨by first | rfl | (simp [errW_none, errW_some] <;> rfl) | (simp [*, errW_none, errW_some] <;> rfl), by repeat (first | (with_reducible first | exact HB.out | apply below_alloc | apply pw_below_drewN | apply below_drew1 | refine below_set ?_ GE199.out | refine below_set ?_ GE200.out) | exact HB.out)⟩
      ·replace c17 := Bool.eq_false_iff.mpr c17
       subst c17
       have H1 : (batonlaw32_InboxTakes.j2 kj9 l1 a0_0 l0_1 a2_0 a2_1) = some r := by rw [if_neg (show ¬ (false = true) by decide)] at H; exact H
       clear H
       have H := H1
       clear H1
       have H' := A8_ H
       clear H
       go_wp2
       go_meet
       case rel => exact ⟨_, H', ⟨by have := HJ4.out; have := HJ9.out; first | omega | exact Nat.le_refl _⟩, ⟨by (with_reducible repeat (first | refine blk_drewN ?_ _ | refine blk_drew ?_ | refine blk_alloc ?_ _)); exact BK199.out⟩, ⟨by (with_reducible repeat (first | refine blk_drewN ?_ _ | refine blk_drew ?_ | refine blk_alloc ?_ _)); exact BK200.out⟩, ⟨by repeat (first | (with_reducible first | exact HB.out | apply below_alloc | apply pw_below_drewN | apply below_drew1 | refine below_set ?_ GE199.out | refine below_set ?_ GE200.out) | exact HB.out)⟩⟩
     case rest =>
      clear HC16
      try clear c1
      try clear p2
      try clear c3
      try clear c9
      try clear c11
      try clear c11b0
      try clear c11b1
      try clear c11b2
      try clear c12
      try clear c14
      try clear c17
      try clear hcz13_0
      try clear hcz13_1
      try clear hcz15_0
      try clear hcz15_1
      try clear hfz13_0
      try clear hfz13_1
      try clear hfz15_0
      try clear hfz15_1
      try clear p2
      obtain ⟨kq, HA, HJ15, BK199, BK200, HB⟩ := hcut
      cases kq with
      | zero => exact absurd HA.out (by simp [batonlaw32_InboxTakes.j2])
      | succ kj15 =>
       have H := HA.out
       clear HA
       simp only [batonlaw32_InboxTakes.j2] at H
       replace H := Option.bind_eq_some_iff.mp H
       obtain ⟨⟨t202, t203⟩, A180, H⟩ := H
       replace H : ((batonref32_Right.f kj15 t202 t203).bind fun t207 => ((inbox_Right.f kj15 a0_0 l0_1).bind fun t208 => (if (t208 != t207) = true then (some false) else (batonlaw32_InboxTakes.j3 kj15 l1 t207 a0_0 l0_1 a2_0 a2_1 t202 t203)))) = some r := H
       have A18 := A8_ A180
       clear A180
       replace H := Option.bind_eq_some_iff.mp H
       obtain ⟨t207, A190, H⟩ := H
       replace H : ((inbox_Right.f kj15 a0_0 l0_1).bind fun t208 => (if (t208 != t207) = true then (some false) else (batonlaw32_InboxTakes.j3 kj15 l1 t207 a0_0 l0_1 a2_0 a2_1 t202 t203))) = some r := H
       have A19 := A8_ A190
       clear A190
       replace H := Option.bind_eq_some_iff.mp H
       obtain ⟨t208, A200, H⟩ := H
       replace H : (if (t208 != t207) = true then (some false) else (batonlaw32_InboxTakes.j3 kj15 l1 t207 a0_0 l0_1 a2_0 a2_1 t202 t203)) = some r := H
       have A20 := A8_ A200
       clear A200
       have HC21 := A8_ H
       clear H
       have hnb22 := NB199_200.out
       have hnc22 := NB200_199.out
       have hcz23_0 : wc.cell? ⟨gb199, 0, none⟩ = some (.int .i64 a0_0) := bc8_ BK199 0
       have hcz23_1 : wc.cell? ⟨gb199, 1, none⟩ = some (.slice A0_1 l0_1.length c0_1) := bc8_ BK199 1
       have hfz23_0 := blk_frozen BK199.out 0
       have hfz23_1 := blk_frozen BK199.out 1
       go_upto_if 33 with (first | ((with_reducible refine gate_callee (f := 38) rfl ?_); refine goesL_ (some 27) rfl rfl Try.func38 q8_16 rfl #[.agg #[.int .i64 a0_0, .slice A0_1 l0_1.length c0_1]] rfl q8_11 ?_; (with_reducible refine (batonlaw32_Ref.calls kj15 a0_0 _ _ l0_1 t202 t203 _ ?side1 ?side2 A18.out).mono ?_); (case side1 => repeat (first | exact (Kd.C_below HR0_1.out HB.out) | (with_reducible refine Kd.C_alloc ?_ _) | (with_reducible refine Kd.C_drewN ?_ _) | (with_reducible refine Kd.C_drew ?_))); (case side2 => exact HC0_1.out); rintro e w24 ⟨v204, rfl, ho0, hb⟩; refine ⟨_, rfl, ?_⟩; have n0_ := A8_ (Kd.R_lower ho0 (below_size q8_28)); have n1_ := A8_ (blk_below (g := gb199) (o := .cells #[.int .i64 a0_0, .slice A0_1 l0_1.length c0_1] 68 (0, 0)) q8_5 hb); have n2_ := A8_ (blk_below (g := gb200) (o := .cells #[.int .i64 a2_0, .int .i64 a2_1] 25 (0, 0)) q8_6 hb); have n3_ := A8_ (below_step q8_28 hb); clear BK199 BK200 HB; have HO205 := n0_; have BK199 := n1_; have BK200 := n2_; have HB := n3_; clear n0_ n1_ n2_ n3_; (try clear hb); (try clear hb2); (try clear hk); (try clear hi); (try clear ho0)) | ((with_reducible refine gate_dst (N := 7) rfl ?_); (try (refine gate_guard (by rfl) ?_; dsimp only)); refine box_event ?hg (N := 7) ?hd (cs := #[.int .i64 0, .slice none 0 0]) (t := 77) ?hr ?_; (case hd => rfl); (case hg => rfl); (case hr => first | (go_simp; done) | (go_simp; rfl)); intro gb206 hg w25 hbox hb; have n0_ := A8_ (Kd.R_below q8_32 hb); have n1_ := A8_ (blk_below (g := gb199) (o := .cells #[.int .i64 a0_0, .slice A0_1 l0_1.length c0_1] 68 (0, 0)) q8_5 hb); have n2_ := A8_ (blk_below (g := gb200) (o := .cells #[.int .i64 a2_0, .int .i64 a2_1] 25 (0, 0)) q8_6 hb); have n3_ := A8_ (below_step q8_28 hb); have n4_ := A8_ (hbox); have n5_ := A8_ ((by rw [hg]; exact (below_size q8_28) : w.heap.size <= gb206)); have n6_ := A8_ ((by rw [hg]; exact (below_size q8_28) : w.heap.size <= gb206)); have n7_ := A8_ ((by rw [hg]; exact Nat.ne_of_lt (blk_lt (g := gb199) (o := .cells #[.int .i64 a0_0, .slice A0_1 l0_1.length c0_1] 68 (0, 0)) q8_5) : gb199 ≠ gb206)); have n8_ := A8_ ((by rw [hg]; exact Nat.ne_of_gt (blk_lt (g := gb199) (o := .cells #[.int .i64 a0_0, .slice A0_1 l0_1.length c0_1] 68 (0, 0)) q8_5) : gb206 ≠ gb199)); have n9_ := A8_ ((by rw [hg]; exact Nat.ne_of_lt (blk_lt (g := gb200) (o := .cells #[.int .i64 a2_0, .int .i64 a2_1] 25 (0, 0)) q8_6) : gb200 ≠ gb206)); have n10_ := A8_ ((by rw [hg]; exact Nat.ne_of_gt (blk_lt (g := gb200) (o := .cells #[.int .i64 a2_0, .int .i64 a2_1] 25 (0, 0)) q8_6) : gb206 ≠ gb200)); clear HO205 BK199 BK200 HB; have HO205 := n0_; have BK199 := n1_; have BK200 := n2_; have HB := n3_; have BK206 := n4_; have GW206 := n5_; have GE206 := n6_; have NB199_206 := n7_; have NB206_199 := n8_; have NB200_206 := n9_; have NB206_200 := n10_; clear n0_ n1_ n2_ n3_ n4_ n5_ n6_ n7_ n8_ n9_ n10_; clear hb hbox hg; have hnb26 := NB206_199.out; have hnc26 := NB199_206.out; have hnb27 := NB206_200.out; have hnc27 := NB200_206.out; have hcz28_0 : w25.cell? ⟨gb206, 0, none⟩ = some (.int .i64 0) := bc8_ BK206 0; have hcz28_1 : w25.cell? ⟨gb206, 1, none⟩ = some (.slice none 0 0) := bc8_ BK206 1; have hfz28_0 := blk_frozen BK206.out 0; have hfz28_1 := blk_frozen BK206.out 1; obtain ⟨Ao29, co29, eo29⟩ := Kd.R_slice HO205.out; subst eo29) | ((with_reducible refine gate_store (t := 77) (p := 7) rfl ?_); refine store_event (t := 77) (p := 7) (v := ?vo_w30) (w1 := ((w25.setCell ⟨gb206, 0, none⟩ (.int .i64 t202)).setCell ⟨gb206, 1, none⟩ (.slice Ao29 t203.length co29))) ?hg ?ho ?hn ?hr ?_; (case ho => rfl); (case hg => rfl); (case hn => rfl); (case hr => first | (go_simp; done) | (go_simp; rfl)); intro w30 hw; have n0_ : Aside0 (Kd.R k144 144 w30 w.heap.size (fun _ => True) (.slice Ao29 t203.length co29) t203) := ⟨(by rw [hw]; exact (by (with_reducible repeat (first | apply Kd.R_alloc | apply Kd.R_drewN | apply Kd.R_drew)); exact Kd.R_mono (Kd.R_far (p := ⟨gb206, 1, none⟩) (Kd.R_far (p := ⟨gb206, 0, none⟩) (Kd.R_types HO205.out BK206.out q8_26) (fun _ hk => hk.2) (.int .i64 t202)) (fun _ hk => hk.2) (.slice Ao29 t203.length co29)) (fun _ hk => trivial)))⟩; have n1_ : Aside0 (w30.heap[gb199]? = some (.cells #[.int .i64 a0_0, .slice A0_1 l0_1.length c0_1] 68 (0, 0))) := ⟨(by rw [hw]; exact (by (with_reducible repeat (first | refine blk_drewN ?_ _ | refine blk_drew ?_ | refine blk_alloc ?_ _)); refine blk_far ?_ NB199_206.out _; (with_reducible repeat (first | refine blk_drewN ?_ _ | refine blk_drew ?_ | refine blk_alloc ?_ _)); refine blk_far ?_ NB199_206.out _; (with_reducible repeat (first | refine blk_drewN ?_ _ | refine blk_drew ?_ | refine blk_alloc ?_ _)); exact BK199.out))⟩; have n2_ : Aside0 (w30.heap[gb200]? = some (.cells #[.int .i64 a2_0, .int .i64 a2_1] 25 (0, 0))) := ⟨(by rw [hw]; exact (by (with_reducible repeat (first | refine blk_drewN ?_ _ | refine blk_drew ?_ | refine blk_alloc ?_ _)); refine blk_far ?_ NB200_206.out _; (with_reducible repeat (first | refine blk_drewN ?_ _ | refine blk_drew ?_ | refine blk_alloc ?_ _)); refine blk_far ?_ NB200_206.out _; (with_reducible repeat (first | refine blk_drewN ?_ _ | refine blk_drew ?_ | refine blk_alloc ?_ _)); exact BK200.out))⟩; have n3_ : Aside0 (w30.heap[gb206]? = some (.cells #[.int .i64 t202, .slice Ao29 t203.length co29] 77 (0, 0))) := ⟨(by rw [hw]; exact (by (with_reducible repeat (first | refine blk_drewN ?_ _ | refine blk_drew ?_ | refine blk_alloc ?_ _)); refine blk_put (cs := #[.int .i64 t202, .slice none 0 0]) ?_ 1 _ rfl; (with_reducible repeat (first | refine blk_drewN ?_ _ | refine blk_drew ?_ | refine blk_alloc ?_ _)); refine blk_put (cs := #[.int .i64 0, .slice none 0 0]) ?_ 0 _ rfl; (with_reducible repeat (first | refine blk_drewN ?_ _ | refine blk_drew ?_ | refine blk_alloc ?_ _)); exact BK206.out))⟩; have n4_ : Aside0 (Below w.heap.size w w30) := ⟨(by rw [hw]; exact q8_4)⟩; clear hw HO205 BK199 BK200 BK206 HB; have HO205 := n0_; have BK199 := n1_; have BK200 := n2_; have BK206 := n3_; have HB := n4_; clear n0_ n1_ n2_ n3_ n4_; have hcz31_0 : w30.cell? ⟨gb206, 0, none⟩ = some (.int .i64 t202) := bc8_ BK206 0; have hcz31_1 : w30.cell? ⟨gb206, 1, none⟩ = some (.slice Ao29 t203.length co29) := bc8_ BK206 1; have hfz31_0 := blk_frozen BK206.out 0; have hfz31_1 := blk_frozen BK206.out 1) | ((with_reducible refine gate_callee (f := 39) rfl ?_); refine goesL_ (some 29) rfl rfl Try.func39 q8_16 rfl #[.agg #[.int .i64 t202, .slice Ao29 t203.length co29]] rfl q8_11 ?_; (with_reducible refine (batonref32_Right.calls kj15 t202 _ _ t203 t207 _ ?side1 ?side2 A19.out).mono ?_); (case side1 => repeat (first | exact (Kd.R_reads' HO205.out).2.2 | (with_reducible refine Kd.C_alloc ?_ _) | (with_reducible refine Kd.C_drewN ?_ _) | (with_reducible refine Kd.C_drew ?_))); (case side2 => exact (Kd.R_reads' HO205.out).2.1); rintro e w32 ⟨rfl, hb⟩; refine ⟨_, rfl, ?_⟩; have n0_ := A8_ (Kd.R_below q8_32 hb); have n1_ := A8_ (blk_below (g := gb199) (o := .cells #[.int .i64 a0_0, .slice A0_1 l0_1.length c0_1] 68 (0, 0)) q8_5 hb); have n2_ := A8_ (blk_below (g := gb200) (o := .cells #[.int .i64 a2_0, .int .i64 a2_1] 25 (0, 0)) q8_6 hb); have n3_ := A8_ (blk_below (g := gb206) (o := .cells #[.int .i64 t202, .slice Ao29 t203.length co29] 77 (0, 0)) q8_7 hb); have n4_ := A8_ (below_step q8_4 hb); clear HO205 BK199 BK200 BK206 HB; have HO205 := n0_; have BK199 := n1_; have BK200 := n2_; have BK206 := n3_; have HB := n4_; clear n0_ n1_ n2_ n3_ n4_; (try clear hb); (try clear hb2); (try clear hk); (try clear hi); have hcz33_0 : w32.cell? ⟨gb199, 0, none⟩ = some (.int .i64 a0_0) := bc8_ BK199 0; have hcz33_1 : w32.cell? ⟨gb199, 1, none⟩ = some (.slice A0_1 l0_1.length c0_1) := bc8_ BK199 1; have hfz33_0 := blk_frozen BK199.out 0; have hfz33_1 := blk_frozen BK199.out 1) | ((with_reducible refine gate_callee (f := 40) rfl ?_); refine goesL_ (some 31) rfl rfl Try.func40 q8_16 rfl #[.agg #[.int .i64 a0_0, .slice A0_1 l0_1.length c0_1]] rfl q8_11 ?_; (with_reducible refine (inbox_Right.calls kj15 a0_0 _ _ l0_1 t208 _ ?side1 ?side2 A20.out).mono ?_); (case side1 => repeat (first | exact (Kd.C_below HR0_1.out HB.out) | (with_reducible refine Kd.C_alloc ?_ _) | (with_reducible refine Kd.C_drewN ?_ _) | (with_reducible refine Kd.C_drew ?_))); (case side2 => exact HC0_1.out); rintro e w34 ⟨rfl, hb⟩; refine ⟨_, rfl, ?_⟩; have n0_ := A8_ (Kd.R_below q8_32 hb); have n1_ := A8_ (blk_below (g := gb199) (o := .cells #[.int .i64 a0_0, .slice A0_1 l0_1.length c0_1] 68 (0, 0)) q8_5 hb); have n2_ := A8_ (blk_below (g := gb200) (o := .cells #[.int .i64 a2_0, .int .i64 a2_1] 25 (0, 0)) q8_6 hb); have n3_ := A8_ (blk_below (g := gb206) (o := .cells #[.int .i64 t202, .slice Ao29 t203.length co29] 77 (0, 0)) q8_7 hb); have n4_ := A8_ (below_step q8_4 hb); clear HO205 BK199 BK200 BK206 HB; have HO205 := n0_; have BK199 := n1_; have BK200 := n2_; have BK206 := n3_; have HB := n4_; clear n0_ n1_ n2_ n3_ n4_; (try clear hb); (try clear hb2); (try clear hk); (try clear hi)))
       (try simp only [Act.put, List.setIfInBounds_toArray, List.set_cons_zero, List.set_cons_succ])
       go_cut [] (fun wc => ∃ (kq : Nat), Aside0 (batonlaw32_InboxTakes.j3 kq l1 t207 a0_0 l0_1 a2_0 a2_1 t202 t203 = some r) /\ Aside0 (kq <= kj15) /\ Aside0 (Kd.R k144 144 wc w.heap.size (fun _ => True) (.slice Ao29 t203.length co29) t203) /\ Aside0 (wc.heap[gb199]? = some (.cells #[.int .i64 a0_0, (.slice A0_1 l0_1.length c0_1)] 68 (0, 0))) /\ Aside0 (wc.heap[gb200]? = some (.cells #[.int .i64 a2_0, .int .i64 a2_1] 25 (0, 0))) /\ Aside0 (wc.heap[gb206]? = some (.cells #[.int .i64 t202, (.slice Ao29 t203.length co29)] 77 (0, 0))) /\ Aside0 (Below w.heap.size w wc))
       case first =>
        have H := HC21.out
        clear HC21
        by_cases c35 : (t208 != t207) = true
        ·rw [if_pos c35] at H
         have c35b0 : (t208 != t207) = true := c35
         (try (have c35b1 : decide (t208 = t207) = false := by simpa using c35))
         (try (have c35b2 : (t208 == t207) = false := by simpa using c35))
         (try (have c35b3 : ¬ (t208 = t207) := by simpa using c35))
         clear c35
         (first | rw [c35b0] | (simp only [i64_w, i32_w]; rw [c35b0]) | rw [c35b1] | rw [c35b2] | skip)
         obtain rfl := Option.some.inj H
         go_wp2
         go_ret
         exact ⟨by first | rfl | (simp [errW_none, errW_some] <;> rfl) | (simp [*, errW_none, errW_some] <;> rfl), by repeat (first | (with_reducible first | exact HB.out | apply below_alloc | apply pw_below_drewN | apply below_drew1 | refine below_set ?_ GE199.out | refine below_set ?_ GE200.out | refine below_set ?_ GE206.out) | exact HB.out)⟩
        ·rw [if_neg c35] at H
         have c35b0 : (t208 != t207) = false := by simpa using c35
         (try (have c35b1 : decide (t208 = t207) = true := by simpa using c35))
         (try (have c35b2 : (t208 == t207) = true := by simpa using c35))
         clear c35
         (first | rw [c35b0] | (simp only [i64_w, i32_w]; rw [c35b0]) | rw [c35b1] | rw [c35b2] | skip)
         have H' := A8_ H
         clear H
         go_wp2
         go_meet
         case rel => exact ⟨_, H', ⟨by have := HJ4.out; have := HJ9.out; have := HJ15.out; first | omega | exact Nat.le_refl _⟩, ⟨by (with_reducible repeat (first | apply Kd.R_alloc | apply Kd.R_drewN | apply Kd.R_drew)); exact HO205.out⟩, ⟨by (with_reducible repeat (first | refine blk_drewN ?_ _ | refine blk_drew ?_ | refine blk_alloc ?_ _)); exact BK199.out⟩, ⟨by (with_reducible repeat (first | refine blk_drewN ?_ _ | refine blk_drew ?_ | refine blk_alloc ?_ _)); exact BK200.out⟩, ⟨by (with_reducible repeat (first | refine blk_drewN ?_ _ | refine blk_drew ?_ | refine blk_alloc ?_ _)); exact BK206.out⟩, ⟨by repeat (first | (with_reducible first | exact HB.out | apply below_alloc | apply pw_below_drewN | apply below_drew1 | refine below_set ?_ GE199.out | refine below_set ?_ GE200.out | refine below_set ?_ GE206.out) | exact HB.out)⟩⟩
       case rest =>
        clear HC21
        try clear c1
        try clear c2
        try clear p2
        try clear c3
        try clear c4
        try clear c9
        try clear c11
        try clear c11b0
        try clear c11b1
        try clear c11b2
        try clear c12
        try clear c14
        try clear c17
        try clear c22
        try clear c26
        try clear c27
        try clear c35
        try clear c35b0
        try clear c35b1
        try clear c35b2
        try clear hcz13_0
        try clear hcz13_1
        try clear hcz15_0
        try clear hcz15_1
        try clear hcz23_0
        try clear hcz23_1
        try clear hcz28_0
        try clear hcz28_1
        try clear hcz31_0
        try clear hcz31_1
        try clear hcz33_0
        try clear hcz33_1
        try clear hfz13_0
        try clear hfz13_1
        try clear hfz15_0
        try clear hfz15_1
        try clear hfz23_0
        try clear hfz23_1
        try clear hfz28_0
        try clear hfz28_1
        try clear hfz31_0
        try clear hfz31_1
        try clear hfz33_0
        try clear hfz33_1
        try clear p2
        obtain ⟨kq, HA, HJ20, HO_207001, BK199, BK200, BK206, HB⟩ := hcut
        cases kq with
        | zero => exact absurd HA.out (by simp [batonlaw32_InboxTakes.j3])
        | succ kj20 =>
         have H := HA.out
         clear HA
         simp only [batonlaw32_InboxTakes.j3] at H
         have HC36 := A8_ H
         clear H
         go_upto_if 35 with (fail)
         go_cut [] (fun wc => ∃ (kq : Nat), Aside0 (batonlaw32_InboxTakes.j4 kq l1 a0_0 l0_1 a2_0 a2_1 t202 t203 = some r) /\ Aside0 (kq <= kj20) /\ Aside0 (Kd.R k144 144 wc w.heap.size (fun _ => True) (.slice Ao29 t203.length co29) t203) /\ Aside0 (wc.heap[gb199]? = some (.cells #[.int .i64 a0_0, (.slice A0_1 l0_1.length c0_1)] 68 (0, 0))) /\ Aside0 (wc.heap[gb200]? = some (.cells #[.int .i64 a2_0, .int .i64 a2_1] 25 (0, 0))) /\ Aside0 (wc.heap[gb206]? = some (.cells #[.int .i64 t202, (.slice Ao29 t203.length co29)] 77 (0, 0))) /\ Aside0 (Below w.heap.size w wc))
         case first =>
          have H := HC36.out
          clear HC36
          by_cases c37 : t207 = true
          ·subst c37
           have H1 : (batonlaw32_InboxTakes.j4 kj20 l1 a0_0 l0_1 a2_0 a2_1 t202 t203) = some r := by rw [if_pos rfl] at H; exact H
           clear H
           have H := H1
           clear H1
           have H' := A8_ H
           clear H
           go_wp2
           go_meet
           case rel => exact ⟨_, H', ⟨by have := HJ4.out; have := HJ9.out; have := HJ15.out; have := HJ20.out; first | omega | exact Nat.le_refl _⟩, ⟨by (with_reducible repeat (first | apply Kd.R_alloc | apply Kd.R_drewN | apply Kd.R_drew)); exact HO_207001.out⟩, ⟨by (with_reducible repeat (first | refine blk_drewN ?_ _ | refine blk_drew ?_ | refine blk_alloc ?_ _)); exact BK199.out⟩, ⟨by (with_reducible repeat (first | refine blk_drewN ?_ _ | refine blk_drew ?_ | refine blk_alloc ?_ _)); exact BK200.out⟩, ⟨by (with_reducible repeat (first | refine blk_drewN ?_ _ | refine blk_drew ?_ | refine blk_alloc ?_ _)); exact BK206.out⟩, ⟨by repeat (first | (with_reducible first | exact HB.out | apply below_alloc | apply pw_below_drewN | apply below_drew1 | refine below_set ?_ GE199.out | refine below_set ?_ GE200.out | refine below_set ?_ GE206.out) | exact HB.out)⟩⟩
          ·replace c37 := Bool.eq_false_iff.mpr c37
           subst c37
           have H1 : (some true) = some r := by rw [if_neg (show ¬ (false = true) by decide)] at H; exact H
           clear H
           have H := H1
           clear H1
           obtain rfl := Option.some.inj H
           go_wp2
           go_ret
           exact ⟨by first | rfl | (simp [errW_none, errW_some] <;> rfl) | (simp [*, errW_none, errW_some] <;> rfl), by repeat (first | (with_reducible first | exact HB.out | apply below_alloc | apply pw_below_drewN | apply below_drew1 | refine below_set ?_ GE199.out | refine below_set ?_ GE200.out | refine below_set ?_ GE206.out) | exact HB.out)⟩
         case rest =>
          clear HC36
          try clear c1
          try clear c2
          try clear p2
          try clear c3
          try clear c4
          try clear c9
          try clear c11
          try clear c11b0
          try clear c11b1
          try clear c11b2
          try clear c12
          try clear c14
          try clear c17
          try clear c22
          try clear c26
          try clear c27
          try clear c35
          try clear c35b0
          try clear c35b1
          try clear c35b2
          try clear c36
          try clear c37
          try clear hcz13_0
          try clear hcz13_1
          try clear hcz15_0
          try clear hcz15_1
          try clear hcz23_0
          try clear hcz23_1
          try clear hcz28_0
          try clear hcz28_1
          try clear hcz31_0
          try clear hcz31_1
          try clear hcz33_0
          try clear hcz33_1
          try clear hfz13_0
          try clear hfz13_1
          try clear hfz15_0
          try clear hfz15_1
          try clear hfz23_0
          try clear hfz23_1
          try clear hfz28_0
          try clear hfz28_1
          try clear hfz31_0
          try clear hfz31_1
          try clear hfz33_0
          try clear hfz33_1
          try clear p2
          obtain ⟨kq, HA, HJ35, HO_207001, BK199, BK200, BK206, HB⟩ := hcut
          cases kq with
          | zero => exact absurd HA.out (by simp [batonlaw32_InboxTakes.j4])
          | succ kj35 =>
           have H := HA.out
           clear HA
           simp only [batonlaw32_InboxTakes.j4] at H
           replace H := Option.bind_eq_some_iff.mp H
           obtain ⟨⟨t209, t210, t213, t216⟩, A380, H⟩ := H
           replace H : ((batonref32_Take.f kj35 t202 t203 a2_0 l1 a2_1).bind fun bt218 => (if t216 = bt218.2.2.2 then ((batonlaw32_Ref.f kj35 t209 t210).bind fun bt227 => ((batonref32_Same.f kj35 bt227.1 bt227.2 bt218.1 bt218.2.1).bind fun t231 => (if t231 = true then ((batonref01_Same.f kj35 t213 bt218.2.2.1).bind fun t232 => (if t232 = true then ((inbox_Right.f kj35 t209 t210).bind fun t233 => (if t233 = true then ((batonlaw32_Ref.f kj35 a0_0 l0_1).bind fun bt234 => ((batonref32_Same.f kj35 bt234.1 bt234.2 t202 t203).bind fun t238 => (some t238))) else (some false))) else (some false))) else (some false)))) else (some false))) = some r := H
           have A38 := A8_ A380
           clear A380
           replace H := Option.bind_eq_some_iff.mp H
           obtain ⟨⟨t218, t219, t222, t225⟩, A390, H⟩ := H
           replace H : (if t216 = t225 then ((batonlaw32_Ref.f kj35 t209 t210).bind fun bt227 => ((batonref32_Same.f kj35 bt227.1 bt227.2 t218 t219).bind fun t231 => (if t231 = true then ((batonref01_Same.f kj35 t213 t222).bind fun t232 => (if t232 = true then ((inbox_Right.f kj35 t209 t210).bind fun t233 => (if t233 = true then ((batonlaw32_Ref.f kj35 a0_0 l0_1).bind fun bt234 => ((batonref32_Same.f kj35 bt234.1 bt234.2 t202 t203).bind fun t238 => (some t238))) else (some false))) else (some false))) else (some false)))) else (some false)) = some r := H
           have A39 := A8_ A390
           clear A390
           by_cases c40 : t216 = t225
           ·rw [if_pos c40] at H
            have c40b0 : (t216 == t225) = true := beq_iff_eq.mpr c40
            have c40b1 : (t216 != t225) = false := bne_eq_false_iff_eq.mpr c40
            clear c40
            replace H := Option.bind_eq_some_iff.mp H
            obtain ⟨⟨t227, t228⟩, A410, H⟩ := H
            replace H : ((batonref32_Same.f kj35 t227 t228 t218 t219).bind fun t231 => (if t231 = true then ((batonref01_Same.f kj35 t213 t222).bind fun t232 => (if t232 = true then ((inbox_Right.f kj35 t209 t210).bind fun t233 => (if t233 = true then ((batonlaw32_Ref.f kj35 a0_0 l0_1).bind fun bt234 => ((batonref32_Same.f kj35 bt234.1 bt234.2 t202 t203).bind fun t238 => (some t238))) else (some false))) else (some false))) else (some false))) = some r := H
            have A41 := A8_ A410
            clear A410
            replace H := Option.bind_eq_some_iff.mp H
            obtain ⟨t231, A420, H⟩ := H
            replace H : (if t231 = true then ((batonref01_Same.f kj35 t213 t222).bind fun t232 => (if t232 = true then ((inbox_Right.f kj35 t209 t210).bind fun t233 => (if t233 = true then ((batonlaw32_Ref.f kj35 a0_0 l0_1).bind fun bt234 => ((batonref32_Same.f kj35 bt234.1 bt234.2 t202 t203).bind fun t238 => (some t238))) else (some false))) else (some false))) else (some false)) = some r := H
            have A42 := A8_ A420
            clear A420
            by_cases c43 : t231 = true
            ·subst c43
             have H1 : ((batonref01_Same.f kj35 t213 t222).bind fun t232 => (if t232 = true then ((inbox_Right.f kj35 t209 t210).bind fun t233 => (if t233 = true then ((batonlaw32_Ref.f kj35 a0_0 l0_1).bind fun bt234 => ((batonref32_Same.f kj35 bt234.1 bt234.2 t202 t203).bind fun t238 => (some t238))) else (some false))) else (some false))) = some r := by rw [if_pos rfl] at H; exact H
             clear H
             have H := H1
             clear H1
             replace H := Option.bind_eq_some_iff.mp H
             obtain ⟨t232, A440, H⟩ := H
             replace H : (if t232 = true then ((inbox_Right.f kj35 t209 t210).bind fun t233 => (if t233 = true then ((batonlaw32_Ref.f kj35 a0_0 l0_1).bind fun bt234 => ((batonref32_Same.f kj35 bt234.1 bt234.2 t202 t203).bind fun t238 => (some t238))) else (some false))) else (some false)) = some r := H
             have A44 := A8_ A440
             clear A440
             by_cases c45 : t232 = true
             ·subst c45
              have H1 : ((inbox_Right.f kj35 t209 t210).bind fun t233 => (if t233 = true then ((batonlaw32_Ref.f kj35 a0_0 l0_1).bind fun bt234 => ((batonref32_Same.f kj35 bt234.1 bt234.2 t202 t203).bind fun t238 => (some t238))) else (some false))) = some r := by rw [if_pos rfl] at H; exact H
              clear H
              have H := H1
              clear H1
              replace H := Option.bind_eq_some_iff.mp H
              obtain ⟨t233, A460, H⟩ := H
              replace H : (if t233 = true then ((batonlaw32_Ref.f kj35 a0_0 l0_1).bind fun bt234 => ((batonref32_Same.f kj35 bt234.1 bt234.2 t202 t203).bind fun t238 => (some t238))) else (some false)) = some r := H
              have A46 := A8_ A460
              clear A460
              by_cases c47 : t233 = true
              ·subst c47
               have H1 : ((batonlaw32_Ref.f kj35 a0_0 l0_1).bind fun bt234 => ((batonref32_Same.f kj35 bt234.1 bt234.2 t202 t203).bind fun t238 => (some t238))) = some r := by rw [if_pos rfl] at H; exact H
               clear H
               have H := H1
               clear H1
               replace H := Option.bind_eq_some_iff.mp H
               obtain ⟨⟨t234, t235⟩, A480, H⟩ := H
               replace H : ((batonref32_Same.f kj35 t234 t235 t202 t203).bind fun t238 => (some t238)) = some r := H
               have A48 := A8_ A480
               clear A480
               replace H := Option.bind_eq_some_iff.mp H
               obtain ⟨t238, A490, H⟩ := H
               replace H : (some t238) = some r := H
               have A49 := A8_ A490
               clear A490
               obtain rfl := Option.some.inj H
               have hnb50 := NB199_200.out
               have hnc50 := NB200_199.out
               have hnb51 := NB199_206.out
               have hnc51 := NB206_199.out
               have hcz52_0 : wc.cell? ⟨gb199, 0, none⟩ = some (.int .i64 a0_0) := bc8_ BK199 0
               have hcz52_1 : wc.cell? ⟨gb199, 1, none⟩ = some (.slice A0_1 l0_1.length c0_1) := bc8_ BK199 1
               have hfz52_0 := blk_frozen BK199.out 0
               have hfz52_1 := blk_frozen BK199.out 1
               have hnb53 := NB200_206.out
               have hnc53 := NB206_200.out
               have hcz54_0 : wc.cell? ⟨gb200, 0, none⟩ = some (.int .i64 a2_0) := bc8_ BK200 0
               have hcz54_1 : wc.cell? ⟨gb200, 1, none⟩ = some (.int .i64 a2_1) := bc8_ BK200 1
               have hfz54_0 := blk_frozen BK200.out 0
               have hfz54_1 := blk_frozen BK200.out 1
               try go_wp2_with (first | ((with_reducible refine gate_callee (f := 37) rfl ?_); refine goesL_ (some 43) rfl rfl Try.func37 q8_16 rfl #[.agg #[.int .i64 a0_0, .slice A0_1 l0_1.length c0_1], .int .i64 a2_0, .slice A1 l1.length c1, .int .i64 a2_1] rfl q8_11 ?_; (with_reducible refine (inbox_Take.calls kj35 a0_0 (fun k_ => k_ < w.heap.size) _ _ l0_1 a2_0 _ _ l1 a2_1 t209 t210 t213 t216 _ ?side1 ?side2 ?side3 A38.out).mono ?_); (case side1 => exact Kd.V_mk HC0_1.out (Kd.F_below (Kd.C_F k142_heap HR0_1.out) q8_4)); (case side2 => repeat (first | exact (Kd.C_below HR1.out HB.out) | (with_reducible refine Kd.C_alloc ?_ _) | (with_reducible refine Kd.C_drewN ?_ _) | (with_reducible refine Kd.C_drew ?_))); (case side3 => exact HC1.out); rintro e w55 ⟨v211, v214, rfl, ho0, ho1, hb⟩; refine ⟨_, rfl, ?_⟩; have n0_ := A8_ (Kd.R_below q8_9 hb); have n1_ := A8_ (Kd.V_lower (Kd.V_mono (ok' := fun k_ => some k_ ≠ (v214 : Value).ownBlock /\ some k_ ≠ (.slice Ao29 t203.length co29 : Value).ownBlock /\ k_ ≠ gb199 /\ k_ ≠ gb200 /\ k_ ≠ gb206) ho0 (fun k_ hk_ => ⟨hk_.2, Or.elim hk_.1 (fun hs_ => fun e_ => Nat.not_le.2 hs_ (Kd.R_base HO_207001.out k_ e_.symm)) (fun hn_ => (Kd.fresh' (Kd.R_lt q8_9) k_ hn_)), Or.elim hk_.1 (fun hs_ => fun e_ => Nat.not_le.2 hs_ (by rw [e_]; exact GW199.out)) (fun hn_ => (Kd.freshB (g := gb199) (o := .cells #[.int .i64 a0_0, .slice A0_1 l0_1.length c0_1] 68 (0, 0)) q8_5 k_ hn_)), Or.elim hk_.1 (fun hs_ => fun e_ => Nat.not_le.2 hs_ (by rw [e_]; exact GW200.out)) (fun hn_ => (Kd.freshB (g := gb200) (o := .cells #[.int .i64 a2_0, .int .i64 a2_1] 25 (0, 0)) q8_6 k_ hn_)), Or.elim hk_.1 (fun hs_ => fun e_ => Nat.not_le.2 hs_ (by rw [e_]; exact GW206.out)) (fun hn_ => (Kd.freshB (g := gb206) (o := .cells #[.int .i64 t202, .slice Ao29 t203.length co29] 77 (0, 0)) q8_7 k_ hn_))⟩)) (below_size q8_4)); have n2_ := A8_ (Kd.R_lower (Kd.R_mono (ok' := fun k_ => True) ho1 (fun _ hk_ => trivial)) (below_size q8_4)); have n3_ := A8_ (blk_below (g := gb199) (o := .cells #[.int .i64 a0_0, .slice A0_1 l0_1.length c0_1] 68 (0, 0)) q8_5 hb); have n4_ := A8_ (blk_below (g := gb200) (o := .cells #[.int .i64 a2_0, .int .i64 a2_1] 25 (0, 0)) q8_6 hb); have n5_ := A8_ (blk_below (g := gb206) (o := .cells #[.int .i64 t202, .slice Ao29 t203.length co29] 77 (0, 0)) q8_7 hb); have n6_ := A8_ (below_step q8_4 hb); clear HO_207001 BK199 BK200 BK206 HB; have HO_207001 := n0_; have HO212 := n1_; have HO215 := n2_; have BK199 := n3_; have BK200 := n4_; have BK206 := n5_; have HB := n6_; clear n0_ n1_ n2_ n3_ n4_ n5_ n6_; (try clear hb); (try clear hb2); (try clear hk); (try clear hi); (try clear ho0); (try clear ho1)) | ((with_reducible refine gate_dst (N := 9) rfl ?_); (try (refine gate_guard (by rfl) ?_; dsimp only)); refine box_event ?hg (N := 9) ?hd (cs := #[.int .i64 0, .slice none 0 0]) (t := 68) ?hr ?_; (case hd => rfl); (case hg => rfl); (case hr => first | (go_simp; done) | (go_simp; rfl)); intro gb217 hg w56 hbox hb; have n0_ := A8_ (Kd.R_below q8_9 hb); have n1_ := A8_ (Kd.V_below (Kd.V_elderB q8_13 gb217 (Nat.le_of_eq hg.symm)) hb); have n2_ := A8_ (Kd.R_below q8_12 hb); have n3_ := A8_ (blk_below (g := gb199) (o := .cells #[.int .i64 a0_0, .slice A0_1 l0_1.length c0_1] 68 (0, 0)) q8_5 hb); have n4_ := A8_ (blk_below (g := gb200) (o := .cells #[.int .i64 a2_0, .int .i64 a2_1] 25 (0, 0)) q8_6 hb); have n5_ := A8_ (blk_below (g := gb206) (o := .cells #[.int .i64 t202, .slice Ao29 t203.length co29] 77 (0, 0)) q8_7 hb); have n6_ := A8_ (below_step q8_4 hb); have n7_ := A8_ (hbox); have n8_ := A8_ ((by rw [hg]; exact (below_size q8_4) : w.heap.size <= gb217)); have n9_ := A8_ ((by rw [hg]; exact (below_size q8_4) : w.heap.size <= gb217)); have n10_ := A8_ ((by rw [hg]; exact Nat.ne_of_lt (blk_lt (g := gb199) (o := .cells #[.int .i64 a0_0, .slice A0_1 l0_1.length c0_1] 68 (0, 0)) q8_5) : gb199 ≠ gb217)); have n11_ := A8_ ((by rw [hg]; exact Nat.ne_of_gt (blk_lt (g := gb199) (o := .cells #[.int .i64 a0_0, .slice A0_1 l0_1.length c0_1] 68 (0, 0)) q8_5) : gb217 ≠ gb199)); have n12_ := A8_ ((by rw [hg]; exact Nat.ne_of_lt (blk_lt (g := gb200) (o := .cells #[.int .i64 a2_0, .int .i64 a2_1] 25 (0, 0)) q8_6) : gb200 ≠ gb217)); have n13_ := A8_ ((by rw [hg]; exact Nat.ne_of_gt (blk_lt (g := gb200) (o := .cells #[.int .i64 a2_0, .int .i64 a2_1] 25 (0, 0)) q8_6) : gb217 ≠ gb200)); have n14_ := A8_ ((by rw [hg]; exact Nat.ne_of_lt (blk_lt (g := gb206) (o := .cells #[.int .i64 t202, .slice Ao29 t203.length co29] 77 (0, 0)) q8_7) : gb206 ≠ gb217)); have n15_ := A8_ ((by rw [hg]; exact Nat.ne_of_gt (blk_lt (g := gb206) (o := .cells #[.int .i64 t202, .slice Ao29 t203.length co29] 77 (0, 0)) q8_7) : gb217 ≠ gb206)); clear HO_207001 HO212 HO215 BK199 BK200 BK206 HB; have HO_207001 := n0_; have HO212 := n1_; have HO215 := n2_; have BK199 := n3_; have BK200 := n4_; have BK206 := n5_; have HB := n6_; have BK217 := n7_; have GW217 := n8_; have GE217 := n9_; have NB199_217 := n10_; have NB217_199 := n11_; have NB200_217 := n12_; have NB217_200 := n13_; have NB206_217 := n14_; have NB217_206 := n15_; clear n0_ n1_ n2_ n3_ n4_ n5_ n6_ n7_ n8_ n9_ n10_ n11_ n12_ n13_ n14_ n15_; clear hb hbox hg; have hnb57 := NB217_199.out; have hnc57 := NB199_217.out; have hnb58 := NB217_200.out; have hnc58 := NB200_217.out; have hnb59 := NB217_206.out; have hnc59 := NB206_217.out; have hcz60_0 : w56.cell? ⟨gb217, 0, none⟩ = some (.int .i64 0) := bc8_ BK217 0; have hcz60_1 : w56.cell? ⟨gb217, 1, none⟩ = some (.slice none 0 0) := bc8_ BK217 1; have hfz60_0 := blk_frozen BK217.out 0; have hfz60_1 := blk_frozen BK217.out 1; obtain ⟨Ao61, co61, eo61⟩ := Kd.V_slice HO212.out; subst eo61) | ((with_reducible refine gate_store (t := 68) (p := 9) rfl ?_); refine store_event (t := 68) (p := 9) (v := ?vo_w62) (w1 := ((w56.setCell ⟨gb217, 0, none⟩ (.int .i64 t209)).setCell ⟨gb217, 1, none⟩ (.slice Ao61 t210.length co61))) ?hg ?ho ?hn ?hr ?_; (case ho => rfl); (case hg => rfl); (case hn => rfl); (case hr => first | (go_simp; done) | (go_simp; rfl)); intro w62 hw; have n0_ : Aside0 (Kd.R k144 144 w62 w.heap.size (fun _ => True) (.slice Ao29 t203.length co29) t203) := ⟨(by rw [hw]; exact (by (with_reducible repeat (first | apply Kd.R_alloc | apply Kd.R_drewN | apply Kd.R_drew)); exact Kd.R_mono (Kd.R_far (p := ⟨gb217, 1, none⟩) (Kd.R_far (p := ⟨gb217, 0, none⟩) (Kd.R_types HO_207001.out BK217.out q8_26) (fun _ hk => hk.2) (.int .i64 t209)) (fun _ hk => hk.2) (.slice Ao61 t210.length co61)) (fun _ hk => trivial)))⟩; have n1_ : Aside0 (Kd.V k142 142 w62 w.heap.size (fun k_ => some k_ ≠ (.slice Ao29 t203.length co29 : Value).ownBlock /\ some k_ ≠ (v214 : Value).ownBlock /\ k_ ≠ gb199 /\ k_ ≠ gb200 /\ k_ ≠ gb206 /\ k_ ≠ gb217) (.slice Ao61 t210.length co61) t210) := ⟨(by rw [hw]; exact (by (with_reducible repeat (first | apply Kd.V_alloc | apply Kd.V_drewN | apply Kd.V_drew)); exact Kd.V_mono (Kd.V_far (p := ⟨gb217, 1, none⟩) (Kd.V_far (p := ⟨gb217, 0, none⟩) (Kd.V_mono HO212.out (fun k_ hk => (⟨hk, hk.2⟩ : _ /\ k_ ≠ gb217))) (fun _ hk => hk.2) (.int .i64 t209)) (fun _ hk => hk.2) (.slice Ao61 t210.length co61)) (fun _ hk => ⟨hk.1.1.2.1, ⟨hk.1.1.1, ⟨hk.1.1.2.2.1, ⟨hk.1.1.2.2.2.1, ⟨hk.1.1.2.2.2.2, hk.1.2⟩⟩⟩⟩⟩)))⟩; have n2_ : Aside0 (Kd.R (Kd.int .u8) 5 w62 w.heap.size (fun _ => True) v214 t213) := ⟨(by rw [hw]; exact (by (with_reducible repeat (first | apply Kd.R_alloc | apply Kd.R_drewN | apply Kd.R_drew)); exact Kd.R_mono (Kd.R_far (p := ⟨gb217, 1, none⟩) (Kd.R_far (p := ⟨gb217, 0, none⟩) (Kd.R_types HO215.out BK217.out q8_26) (fun _ hk => hk.2) (.int .i64 t209)) (fun _ hk => hk.2) (.slice Ao61 t210.length co61)) (fun _ hk => trivial)))⟩; have n3_ : Aside0 (w62.heap[gb199]? = some (.cells #[.int .i64 a0_0, .slice A0_1 l0_1.length c0_1] 68 (0, 0))) := ⟨q8_25⟩; have n4_ : Aside0 (w62.heap[gb200]? = some (.cells #[.int .i64 a2_0, .int .i64 a2_1] 25 (0, 0))) := ⟨q8_23⟩; have n5_ : Aside0 (w62.heap[gb206]? = some (.cells #[.int .i64 t202, .slice Ao29 t203.length co29] 77 (0, 0))) := ⟨q8_21⟩; have n6_ : Aside0 (w62.heap[gb217]? = some (.cells #[.int .i64 t209, .slice Ao61 t210.length co61] 68 (0, 0))) := ⟨q8_15⟩; have n7_ : Aside0 (Below w.heap.size w w62) := ⟨(by rw [hw]; exact q8_3)⟩; clear hw HO_207001 HO212 HO215 BK199 BK200 BK206 BK217 HB; have HO_207001 := n0_; have HO212 := n1_; have HO215 := n2_; have BK199 := n3_; have BK200 := n4_; have BK206 := n5_; have BK217 := n6_; have HB := n7_; clear n0_ n1_ n2_ n3_ n4_ n5_ n6_ n7_; have hcz63_0 : w62.cell? ⟨gb206, 0, none⟩ = some (.int .i64 t202) := bc8_ BK206 0; have hcz63_1 : w62.cell? ⟨gb206, 1, none⟩ = some (.slice Ao29 t203.length co29) := bc8_ BK206 1; have hfz63_0 := blk_frozen BK206.out 0; have hfz63_1 := blk_frozen BK206.out 1; have hcz64_0 : w62.cell? ⟨gb200, 0, none⟩ = some (.int .i64 a2_0) := bc8_ BK200 0; have hcz64_1 : w62.cell? ⟨gb200, 1, none⟩ = some (.int .i64 a2_1) := bc8_ BK200 1; have hfz64_0 := blk_frozen BK200.out 0; have hfz64_1 := blk_frozen BK200.out 1) | ((with_reducible refine gate_callee (f := 41) rfl ?_); refine goesL_ (some 54) rfl rfl Try.func41 q8_16 rfl #[.agg #[.int .i64 t202, .slice Ao29 t203.length co29], .int .i64 a2_0, .slice A1 l1.length c1, .int .i64 a2_1] rfl q8_11 ?_; (with_reducible refine (batonref32_Take.calls kj35 t202 (fun k_ => some k_ = (.slice Ao29 t203.length co29 : Value).ownBlock) _ _ t203 a2_0 _ _ l1 a2_1 t218 t219 t222 t225 _ ?side1 ?side2 ?side3 A39.out).mono ?_); (case side1 => exact Kd.R_V (Kd.R_tight rfl (Kd.R_types (Kd.R_types (Kd.R_types (Kd.R_types (Kd.R_apart' (HO_207001.out) (Kd.R_typed HO215.out) q8_26) BK199.out q8_26) BK200.out q8_26) BK206.out q8_26) BK217.out q8_26))); (case side2 => repeat (first | exact (Kd.C_below HR1.out HB.out) | (with_reducible refine Kd.C_alloc ?_ _) | (with_reducible refine Kd.C_drewN ?_ _) | (with_reducible refine Kd.C_drew ?_))); (case side3 => exact HC1.out); rintro e w65 ⟨v220, v223, rfl, ho0, ho1, hb⟩; refine ⟨_, rfl, ?_⟩; have n0_ := A8_ (Kd.R_below q8_9 hb); have n1_ := A8_ (Kd.V_elder' q8_13 (Kd.R_base ho1) hb); have n2_ := A8_ (Kd.R_elder' q8_12 (Kd.R_base ho1) hb); have n3_ := A8_ (Kd.V_lower (Kd.V_mono (ok' := fun k_ => some k_ ≠ (v223 : Value).ownBlock /\ some k_ ≠ (v214 : Value).ownBlock /\ k_ ≠ gb199 /\ k_ ≠ gb200 /\ k_ ≠ gb206 /\ k_ ≠ gb217) ho0 (fun k_ hk_ => ⟨hk_.2, Or.elim hk_.1 (fun hs_ => ((Kd.R_types (Kd.R_types (Kd.R_types (Kd.R_types (Kd.R_apart' (HO_207001.out) (Kd.R_typed HO215.out) q8_26) BK199.out q8_26) BK200.out q8_26) BK206.out q8_26) BK217.out q8_26).1 k_ hs_.symm).1.1.1.1.2) (fun hn_ => (Kd.fresh' (Kd.R_lt q8_12) k_ hn_)), Or.elim hk_.1 (fun hs_ => ((Kd.R_types (Kd.R_types (Kd.R_types (Kd.R_types (Kd.R_apart' (HO_207001.out) (Kd.R_typed HO215.out) q8_26) BK199.out q8_26) BK200.out q8_26) BK206.out q8_26) BK217.out q8_26).1 k_ hs_.symm).1.1.1.2) (fun hn_ => (Kd.freshB (g := gb199) (o := .cells #[.int .i64 a0_0, .slice A0_1 l0_1.length c0_1] 68 (0, 0)) q8_5 k_ hn_)), Or.elim hk_.1 (fun hs_ => ((Kd.R_types (Kd.R_types (Kd.R_types (Kd.R_types (Kd.R_apart' (HO_207001.out) (Kd.R_typed HO215.out) q8_26) BK199.out q8_26) BK200.out q8_26) BK206.out q8_26) BK217.out q8_26).1 k_ hs_.symm).1.1.2) (fun hn_ => (Kd.freshB (g := gb200) (o := .cells #[.int .i64 a2_0, .int .i64 a2_1] 25 (0, 0)) q8_6 k_ hn_)), Or.elim hk_.1 (fun hs_ => ((Kd.R_types (Kd.R_types (Kd.R_types (Kd.R_types (Kd.R_apart' (HO_207001.out) (Kd.R_typed HO215.out) q8_26) BK199.out q8_26) BK200.out q8_26) BK206.out q8_26) BK217.out q8_26).1 k_ hs_.symm).1.2) (fun hn_ => (Kd.freshB (g := gb206) (o := .cells #[.int .i64 t202, .slice Ao29 t203.length co29] 77 (0, 0)) q8_7 k_ hn_)), Or.elim hk_.1 (fun hs_ => ((Kd.R_types (Kd.R_types (Kd.R_types (Kd.R_types (Kd.R_apart' (HO_207001.out) (Kd.R_typed HO215.out) q8_26) BK199.out q8_26) BK200.out q8_26) BK206.out q8_26) BK217.out q8_26).1 k_ hs_.symm).2) (fun hn_ => (Kd.freshB (g := gb217) (o := .cells #[.int .i64 t209, .slice Ao61 t210.length co61] 68 (0, 0)) q8_10 k_ hn_))⟩)) (below_size q8_3)); have n4_ := A8_ (Kd.R_lower (Kd.R_new' (Kd.R_mono (ok' := fun k_ => True) ho1 (fun _ hk_ => trivial)) (Kd.R_lt q8_12)) (below_size q8_3)); have n5_ := A8_ (blk_below (g := gb199) (o := .cells #[.int .i64 a0_0, .slice A0_1 l0_1.length c0_1] 68 (0, 0)) q8_5 hb); have n6_ := A8_ (blk_below (g := gb200) (o := .cells #[.int .i64 a2_0, .int .i64 a2_1] 25 (0, 0)) q8_6 hb); have n7_ := A8_ (blk_below (g := gb206) (o := .cells #[.int .i64 t202, .slice Ao29 t203.length co29] 77 (0, 0)) q8_7 hb); have n8_ := A8_ (blk_below (g := gb217) (o := .cells #[.int .i64 t209, .slice Ao61 t210.length co61] 68 (0, 0)) q8_10 hb); have n9_ := A8_ (below_step q8_3 hb); clear HO_207001 HO212 HO215 BK199 BK200 BK206 BK217 HB; have HO_207001 := n0_; have HO212 := n1_; have HO215 := n2_; have HO221 := n3_; have HO224 := n4_; have BK199 := n5_; have BK200 := n6_; have BK206 := n7_; have BK217 := n8_; have HB := n9_; clear n0_ n1_ n2_ n3_ n4_ n5_ n6_ n7_ n8_ n9_; (try clear hb); (try clear hb2); (try clear hk); (try clear hi); (try clear ho0); (try clear ho1)) | ((with_reducible refine gate_dst (N := 12) rfl ?_); (try (refine gate_guard (by rfl) ?_; dsimp only)); refine box_event ?hg (N := 12) ?hd (cs := #[.int .i64 0, .slice none 0 0]) (t := 77) ?hr ?_; (case hd => rfl); (case hg => rfl); (case hr => first | (go_simp; done) | (go_simp; rfl)); intro gb226 hg w66 hbox hb; have n0_ := A8_ (Kd.R_below q8_9 hb); have n1_ := A8_ (Kd.V_below (Kd.V_elderB q8_13 gb226 (Nat.le_of_eq hg.symm)) hb); have n2_ := A8_ (Kd.R_below q8_12 hb); have n3_ := A8_ (Kd.V_below (Kd.V_elderB q8_17 gb226 (Nat.le_of_eq hg.symm)) hb); have n4_ := A8_ (Kd.R_below q8_18 hb); have n5_ := A8_ (blk_below (g := gb199) (o := .cells #[.int .i64 a0_0, .slice A0_1 l0_1.length c0_1] 68 (0, 0)) q8_5 hb); have n6_ := A8_ (blk_below (g := gb200) (o := .cells #[.int .i64 a2_0, .int .i64 a2_1] 25 (0, 0)) q8_6 hb); have n7_ := A8_ (blk_below (g := gb206) (o := .cells #[.int .i64 t202, .slice Ao29 t203.length co29] 77 (0, 0)) q8_7 hb); have n8_ := A8_ (blk_below (g := gb217) (o := .cells #[.int .i64 t209, .slice Ao61 t210.length co61] 68 (0, 0)) q8_10 hb); have n9_ := A8_ (below_step q8_3 hb); have n10_ := A8_ (hbox); have n11_ := A8_ ((by rw [hg]; exact (below_size q8_3) : w.heap.size <= gb226)); have n12_ := A8_ ((by rw [hg]; exact (below_size q8_3) : w.heap.size <= gb226)); have n13_ := A8_ ((by rw [hg]; exact Nat.ne_of_lt (blk_lt (g := gb199) (o := .cells #[.int .i64 a0_0, .slice A0_1 l0_1.length c0_1] 68 (0, 0)) q8_5) : gb199 ≠ gb226)); have n14_ := A8_ ((by rw [hg]; exact Nat.ne_of_gt (blk_lt (g := gb199) (o := .cells #[.int .i64 a0_0, .slice A0_1 l0_1.length c0_1] 68 (0, 0)) q8_5) : gb226 ≠ gb199)); have n15_ := A8_ ((by rw [hg]; exact Nat.ne_of_lt (blk_lt (g := gb200) (o := .cells #[.int .i64 a2_0, .int .i64 a2_1] 25 (0, 0)) q8_6) : gb200 ≠ gb226)); have n16_ := A8_ ((by rw [hg]; exact Nat.ne_of_gt (blk_lt (g := gb200) (o := .cells #[.int .i64 a2_0, .int .i64 a2_1] 25 (0, 0)) q8_6) : gb226 ≠ gb200)); have n17_ := A8_ ((by rw [hg]; exact Nat.ne_of_lt (blk_lt (g := gb206) (o := .cells #[.int .i64 t202, .slice Ao29 t203.length co29] 77 (0, 0)) q8_7) : gb206 ≠ gb226)); have n18_ := A8_ ((by rw [hg]; exact Nat.ne_of_gt (blk_lt (g := gb206) (o := .cells #[.int .i64 t202, .slice Ao29 t203.length co29] 77 (0, 0)) q8_7) : gb226 ≠ gb206)); have n19_ := A8_ ((by rw [hg]; exact Nat.ne_of_lt (blk_lt (g := gb217) (o := .cells #[.int .i64 t209, .slice Ao61 t210.length co61] 68 (0, 0)) q8_10) : gb217 ≠ gb226)); have n20_ := A8_ ((by rw [hg]; exact Nat.ne_of_gt (blk_lt (g := gb217) (o := .cells #[.int .i64 t209, .slice Ao61 t210.length co61] 68 (0, 0)) q8_10) : gb226 ≠ gb217)); clear HO_207001 HO212 HO215 HO221 HO224 BK199 BK200 BK206 BK217 HB; have HO_207001 := n0_; have HO212 := n1_; have HO215 := n2_; have HO221 := n3_; have HO224 := n4_; have BK199 := n5_; have BK200 := n6_; have BK206 := n7_; have BK217 := n8_; have HB := n9_; have BK226 := n10_; have GW226 := n11_; have GE226 := n12_; have NB199_226 := n13_; have NB226_199 := n14_; have NB200_226 := n15_; have NB226_200 := n16_; have NB206_226 := n17_; have NB226_206 := n18_; have NB217_226 := n19_; have NB226_217 := n20_; clear n0_ n1_ n2_ n3_ n4_ n5_ n6_ n7_ n8_ n9_ n10_ n11_ n12_ n13_ n14_ n15_ n16_ n17_ n18_ n19_ n20_; clear hb hbox hg; have hnb67 := NB226_199.out; have hnc67 := NB199_226.out; have hnb68 := NB226_200.out; have hnc68 := NB200_226.out; have hnb69 := NB226_206.out; have hnc69 := NB206_226.out; have hnb70 := NB226_217.out; have hnc70 := NB217_226.out; have hcz71_0 : w66.cell? ⟨gb226, 0, none⟩ = some (.int .i64 0) := bc8_ BK226 0; have hcz71_1 : w66.cell? ⟨gb226, 1, none⟩ = some (.slice none 0 0) := bc8_ BK226 1; have hfz71_0 := blk_frozen BK226.out 0; have hfz71_1 := blk_frozen BK226.out 1; obtain ⟨Ao72, co72, eo72⟩ := Kd.V_slice HO221.out; subst eo72) | ((with_reducible refine gate_store (t := 77) (p := 12) rfl ?_); refine store_event (t := 77) (p := 12) (v := ?vo_w73) (w1 := ((w66.setCell ⟨gb226, 0, none⟩ (.int .i64 t218)).setCell ⟨gb226, 1, none⟩ (.slice Ao72 t219.length co72))) ?hg ?ho ?hn ?hr ?_; (case ho => rfl); (case hg => rfl); (case hn => rfl); (case hr => first | (go_simp; done) | (go_simp; rfl)); intro w73 hw; have n0_ : Aside0 (Kd.R k144 144 w73 w.heap.size (fun _ => True) (.slice Ao29 t203.length co29) t203) := ⟨(by rw [hw]; exact (by (with_reducible repeat (first | apply Kd.R_alloc | apply Kd.R_drewN | apply Kd.R_drew)); exact Kd.R_mono (Kd.R_far (p := ⟨gb226, 1, none⟩) (Kd.R_far (p := ⟨gb226, 0, none⟩) (Kd.R_types HO_207001.out BK226.out q8_26) (fun _ hk => hk.2) (.int .i64 t218)) (fun _ hk => hk.2) (.slice Ao72 t219.length co72)) (fun _ hk => trivial)))⟩; have n1_ : Aside0 (Kd.V k142 142 w73 w.heap.size (fun k_ => some k_ ≠ (.slice Ao29 t203.length co29 : Value).ownBlock /\ some k_ ≠ (v214 : Value).ownBlock /\ some k_ ≠ (v223 : Value).ownBlock /\ k_ ≠ gb199 /\ k_ ≠ gb200 /\ k_ ≠ gb206 /\ k_ ≠ gb217 /\ k_ ≠ gb226) (.slice Ao61 t210.length co61) t210) := ⟨(by rw [hw]; exact (by (with_reducible repeat (first | apply Kd.V_alloc | apply Kd.V_drewN | apply Kd.V_drew)); exact Kd.V_mono (Kd.V_far (p := ⟨gb226, 1, none⟩) (Kd.V_far (p := ⟨gb226, 0, none⟩) (Kd.V_mono HO212.out (fun k_ hk => (⟨hk, hk.2⟩ : _ /\ k_ ≠ gb226))) (fun _ hk => hk.2) (.int .i64 t218)) (fun _ hk => hk.2) (.slice Ao72 t219.length co72)) (fun _ hk => ⟨hk.1.1.1.1, ⟨hk.1.1.1.2.1, ⟨hk.1.1.2, ⟨hk.1.1.1.2.2.1, ⟨hk.1.1.1.2.2.2.1, ⟨hk.1.1.1.2.2.2.2.1, ⟨hk.1.1.1.2.2.2.2.2, hk.1.2⟩⟩⟩⟩⟩⟩⟩)))⟩; have n2_ : Aside0 (Kd.R (Kd.int .u8) 5 w73 w.heap.size (fun k_ => some k_ ≠ (v223 : Value).ownBlock) v214 t213) := ⟨(by rw [hw]; exact (by (with_reducible repeat (first | apply Kd.R_alloc | apply Kd.R_drewN | apply Kd.R_drew)); exact Kd.R_mono (Kd.R_far (p := ⟨gb226, 1, none⟩) (Kd.R_far (p := ⟨gb226, 0, none⟩) (Kd.R_types HO215.out BK226.out q8_26) (fun _ hk => hk.2) (.int .i64 t218)) (fun _ hk => hk.2) (.slice Ao72 t219.length co72)) (fun _ hk => hk.1.2)))⟩; have n3_ : Aside0 (Kd.V k144 144 w73 w.heap.size (fun k_ => some k_ ≠ (v214 : Value).ownBlock /\ some k_ ≠ (v223 : Value).ownBlock /\ k_ ≠ gb199 /\ k_ ≠ gb200 /\ k_ ≠ gb206 /\ k_ ≠ gb217 /\ k_ ≠ gb226) (.slice Ao72 t219.length co72) t219) := ⟨(by rw [hw]; exact (by (with_reducible repeat (first | apply Kd.V_alloc | apply Kd.V_drewN | apply Kd.V_drew)); exact Kd.V_mono (Kd.V_far (p := ⟨gb226, 1, none⟩) (Kd.V_far (p := ⟨gb226, 0, none⟩) (Kd.V_mono HO221.out (fun k_ hk => (⟨hk, hk.2⟩ : _ /\ k_ ≠ gb226))) (fun _ hk => hk.2) (.int .i64 t218)) (fun _ hk => hk.2) (.slice Ao72 t219.length co72)) (fun _ hk => ⟨hk.1.1.2.1, ⟨hk.1.1.1, ⟨hk.1.1.2.2.1, ⟨hk.1.1.2.2.2.1, ⟨hk.1.1.2.2.2.2.1, ⟨hk.1.1.2.2.2.2.2, hk.1.2⟩⟩⟩⟩⟩⟩)))⟩; have n4_ : Aside0 (Kd.R (Kd.int .u8) 5 w73 w.heap.size (fun k_ => some k_ ≠ (v214 : Value).ownBlock) v223 t222) := ⟨(by rw [hw]; exact (by (with_reducible repeat (first | apply Kd.R_alloc | apply Kd.R_drewN | apply Kd.R_drew)); exact Kd.R_mono (Kd.R_far (p := ⟨gb226, 1, none⟩) (Kd.R_far (p := ⟨gb226, 0, none⟩) (Kd.R_types HO224.out BK226.out q8_26) (fun _ hk => hk.2) (.int .i64 t218)) (fun _ hk => hk.2) (.slice Ao72 t219.length co72)) (fun _ hk => hk.1.2)))⟩; have n5_ : Aside0 (w73.heap[gb199]? = some (.cells #[.int .i64 a0_0, .slice A0_1 l0_1.length c0_1] 68 (0, 0))) := ⟨q8_24⟩; have n6_ : Aside0 (w73.heap[gb200]? = some (.cells #[.int .i64 a2_0, .int .i64 a2_1] 25 (0, 0))) := ⟨q8_22⟩; have n7_ : Aside0 (w73.heap[gb206]? = some (.cells #[.int .i64 t202, .slice Ao29 t203.length co29] 77 (0, 0))) := ⟨q8_20⟩; have n8_ : Aside0 (w73.heap[gb217]? = some (.cells #[.int .i64 t209, .slice Ao61 t210.length co61] 68 (0, 0))) := ⟨q8_19⟩; have n9_ : Aside0 (w73.heap[gb226]? = some (.cells #[.int .i64 t218, .slice Ao72 t219.length co72] 77 (0, 0))) := ⟨q8_14⟩; have n10_ : Aside0 (Below w.heap.size w w73) := ⟨(by rw [hw]; exact q8_8)⟩; clear hw HO_207001 HO212 HO215 HO221 HO224 BK199 BK200 BK206 BK217 BK226 HB; have HO_207001 := n0_; have HO212 := n1_; have HO215 := n2_; have HO221 := n3_; have HO224 := n4_; have BK199 := n5_; have BK200 := n6_; have BK206 := n7_; have BK217 := n8_; have BK226 := n9_; have HB := n10_; clear n0_ n1_ n2_ n3_ n4_ n5_ n6_ n7_ n8_ n9_ n10_))
               have n0_ := A8_ (Kd.R_drew HO_207001.out)
               have n1_ := A8_ (Kd.V_drew HO212.out)
               have n2_ := A8_ (Kd.R_drew HO215.out)
               have n3_ := A8_ (Kd.V_drew HO221.out)
               have n4_ := A8_ (Kd.R_drew HO224.out)
               have n5_ := A8_ (blk_drew BK199.out)
               have n6_ := A8_ (blk_drew BK200.out)
               have n7_ := A8_ (blk_drew BK206.out)
               have n8_ := A8_ (blk_drew BK217.out)
               have n9_ := A8_ (blk_drew BK226.out)
               have n10_ := A8_ (below_drew1 HB.out)
               clear HO_207001
               clear HO212
               clear HO215
               clear HO221
               clear HO224
               clear BK199
               clear BK200
               clear BK206
               clear BK217
               clear BK226
               clear HB
               have HO_207001 := n0_
               have HO212 := n1_
               have HO215 := n2_
               have HO221 := n3_
               have HO224 := n4_
               have BK199 := n5_
               have BK200 := n6_
               have BK206 := n7_
               have BK217 := n8_
               have BK226 := n9_
               have HB := n10_
               clear n0_ n1_ n2_ n3_ n4_ n5_ n6_ n7_ n8_ n9_ n10_
               refine start_ (n := 25) (S := fun w' => w'.cell? ⟨gb217, 0, none⟩ = some (.int .i64 t209) /\ w'.cell? ⟨gb217, 1, none⟩ = some (.slice Ao61 t210.length co61) /\ w'.cell? ⟨gb226, 0, none⟩ = some (.int .i64 t218) /\ w'.cell? ⟨gb226, 1, none⟩ = some (.slice Ao72 t219.length co72) /\ w'.cell? ⟨gb199, 0, none⟩ = some (.int .i64 a0_0) /\ w'.cell? ⟨gb199, 1, none⟩ = some (.slice A0_1 l0_1.length c0_1) /\ w'.cell? ⟨gb206, 0, none⟩ = some (.int .i64 t202) /\ w'.cell? ⟨gb206, 1, none⟩ = some (.slice Ao29 t203.length co29)) (ds := []) m8_0 q8_16 rfl rfl ⟨bc8_ BK217 0, bc8_ BK217 1, bc8_ BK226 0, bc8_ BK226 1, bc8_ BK199 0, bc8_ BK199 1, bc8_ BK206 0, bc8_ BK206 1⟩ (fun hHeld => ?_); refine with_tabW batonlaw32_InboxTakes.tab13 batonlaw32_InboxTakes.bits13 (fun HT_ HW_ => ?_)
               generalize w73.drew = w74 at HO_207001 HO212 HO215 HO221 HO224 BK199 BK200 BK206 BK217 BK226 HB hHeld ⊢
               refine pure_ (i := 0) (N := some 58) (v := ?_) (a' := ?_) m8_1 rfl rfl (any_of HT_.out q8_16) (fun _ _ _ h => h) (Or.inl ⟨by rfl, ?_⟩) ?_ ?_
               rotate_left
               ·intro w'
                go_simp
                with_reducible rfl
               rotate_left
               ·simp only [Act.put, List.setIfInBounds_toArray, List.set_cons_zero, List.set_cons_succ, i64_w, i32_w]
                rfl
               refine pure_ (i := 1) (N := some 59) (v := ?_) (a' := ?_) m8_2 rfl rfl (any_of HT_.out q8_16) (fun _ _ _ h => h) (Or.inl ⟨by rfl, ?_⟩) ?_ ?_
               rotate_left
               ·intro w'
                go_simp
                with_reducible rfl
               rotate_left
               ·simp only [Act.put, List.setIfInBounds_toArray, List.set_cons_zero, List.set_cons_succ, i64_w, i32_w]
                rfl
               refine pure_ (i := 2) (N := some 60) (v := ?_) (a' := ?_) m8_3 rfl rfl (any_of HT_.out q8_16) (fun _ _ _ h => h) (Or.inl ⟨by rfl, ?_⟩) ?_ ?_
               rotate_left
               ·intro w'
                go_simp
                with_reducible rfl
               rotate_left
               ·simp only [Act.put, List.setIfInBounds_toArray, List.set_cons_zero, List.set_cons_succ, i64_w, i32_w]
                rfl
               refine pure_ (i := 3) (N := some 61) (v := ?_) (a' := ?_) m8_4 rfl rfl (any_of HT_.out q8_16) (fun _ _ _ h => h) (Or.inl ⟨by rfl, ?_⟩) ?_ ?_
               rotate_left
               ·intro w'
                go_simp
                with_reducible rfl
               rotate_left
               ·simp only [Act.put, List.setIfInBounds_toArray, List.set_cons_zero, List.set_cons_succ, i64_w, i32_w]
                rfl
               refine take_ (i := 4) (N := some 62) (v := ?_) (a' := ?_) m8_5 rfl rfl (take_ofW HT_.out HW_.out q8_16) (fun _ _ _ h => h) (Or.inl ⟨by rfl, ?_⟩) hHeld ?_ ?_
               rotate_left
               ·rintro w' ⟨s0, s1, s2, s3, s4, s5, s6, s7⟩
                go_simp
                with_reducible rfl
               rotate_left
               ·simp only [Act.put, List.setIfInBounds_toArray, List.set_cons_zero, List.set_cons_succ, i64_w, i32_w]
                rfl
               refine take_ (i := 6) (N := some 64) (v := ?_) (a' := ?_) m8_6 rfl rfl (take_ofW HT_.out HW_.out q8_16) (fun _ _ _ h => h) (Or.inl ⟨by rfl, ?_⟩) hHeld ?_ ?_
               rotate_left
               ·rintro w' ⟨s0, s1, s2, s3, s4, s5, s6, s7⟩
                go_simp
                with_reducible rfl
               rotate_left
               ·simp only [Act.put, List.setIfInBounds_toArray, List.set_cons_zero, List.set_cons_succ, i64_w, i32_w]
                rfl
               refine one_ (i := 5) (N := some 63) m8_8 rfl rfl (one_of HT_.out q8_16) q8_26 (fun K hK => ?_)
               refine goes_ Try.func38 q8_16 rfl #[.agg #[.int .i64 t209, .slice Ao61 t210.length co61]] (by rfl) rfl rfl q8_11 ?_
               with_reducible refine (batonlaw32_Ref.calls kj35 t209 _ _ t210 t227 t228 _ ?side1 ?side2 A41.out).mono ?_
               (case side1 => repeat (first | exact (Kd.V_reads' HO212.out).2.2 | (with_reducible refine Kd.C_alloc ?_ _) | (with_reducible refine Kd.C_drewN ?_ _) | (with_reducible refine Kd.C_drew ?_)))
               (case side2 => exact (Kd.V_reads' HO212.out).2.1)
               rintro e w75 ⟨v229, rfl, ho0, hb⟩
               refine ⟨_, rfl, ?_⟩
               have n0_ := A8_ (Kd.R_elder' q8_9 (Kd.R_base ho0) hb)
               have n1_ := A8_ (Kd.V_elder' q8_13 (Kd.R_base ho0) hb)
               have n2_ := A8_ (Kd.R_below q8_12 hb)
               have n3_ := A8_ (Kd.V_elder' q8_17 (Kd.R_base ho0) hb)
               have n4_ := A8_ (Kd.R_below q8_18 hb)
               have n5_ := A8_ (Kd.R_lower (Kd.R_new' ho0 (Kd.R_lt q8_9)) (below_size q8_8))
               have n6_ := A8_ (blk_below (g := gb199) (o := .cells #[.int .i64 a0_0, .slice A0_1 l0_1.length c0_1] 68 (0, 0)) q8_5 hb)
               have n7_ := A8_ (blk_below (g := gb200) (o := .cells #[.int .i64 a2_0, .int .i64 a2_1] 25 (0, 0)) q8_6 hb)
               have n8_ := A8_ (blk_below (g := gb206) (o := .cells #[.int .i64 t202, .slice Ao29 t203.length co29] 77 (0, 0)) q8_7 hb)
               have n9_ := A8_ (blk_below (g := gb217) (o := .cells #[.int .i64 t209, .slice Ao61 t210.length co61] 68 (0, 0)) q8_10 hb)
               have n10_ := A8_ (blk_below (g := gb226) (o := .cells #[.int .i64 t218, .slice Ao72 t219.length co72] 77 (0, 0)) q8_27 hb)
               have n11_ := A8_ (below_step q8_8 hb)
               clear HO_207001
               clear HO212
               clear HO215
               clear HO221
               clear HO224
               clear BK199
               clear BK200
               clear BK206
               clear BK217
               clear BK226
               clear HB
               have HO_207001 := n0_
               have HO212 := n1_
               have HO215 := n2_
               have HO221 := n3_
               have HO224 := n4_
               have HO230 := n5_
               have BK199 := n6_
               have BK200 := n7_
               have BK206 := n8_
               have BK217 := n9_
               have BK226 := n10_
               have HB := n11_
               clear n0_ n1_ n2_ n3_ n4_ n5_ n6_ n7_ n8_ n9_ n10_ n11_
               (try clear hb)
               (try clear hb2)
               (try clear hk)
               (try clear hi)
               (try clear ho0)
               obtain ⟨Ao76, co76, eo76⟩ := Kd.R_slice HO230.out
               (first | subst eo76 | (injection eo76 with f1_ f2_ f3_; have f4_ := f1_.symm; have f5_ := f3_.symm; clear f1_ f2_ f3_; subst f4_; subst f5_))
               refine hK.out _ _ ⟨bc8_ BK217 0, bc8_ BK217 1, bc8_ BK226 0, bc8_ BK226 1, bc8_ BK199 0, bc8_ BK199 1, bc8_ BK206 0, bc8_ BK206 1⟩ (fun hHeld => ?_)
               clear hK K
               refine norm_ (a' := ?_) ?_ ?_
               rotate_left
               ·show Act.put _ (some 63) _ = _
                simp only [Act.put, List.setIfInBounds_toArray, List.set_cons_zero, List.set_cons_succ, i64_w, i32_w]
                rfl
               refine one_ (i := 7) (N := some 65) m8_9 rfl rfl (one_of HT_.out q8_16) q8_26 (fun K hK => ?_)
               refine goes_ Try.func42 q8_16 rfl #[.agg #[.int .i64 t227, .slice Ao76 t228.length co76], .agg #[.int .i64 t218, .slice Ao72 t219.length co72]] (by rfl) rfl rfl q8_11 ?_
               with_reducible refine (batonref32_Same.calls kj35 t227 _ _ t228 t218 _ _ t219 true _ ?side1 ?side2 ?side3 ?side4 A42.out).mono ?_
               (case side1 => repeat (first | exact (Kd.R_reads' HO230.out).2.2 | (with_reducible refine Kd.C_alloc ?_ _) | (with_reducible refine Kd.C_drewN ?_ _) | (with_reducible refine Kd.C_drew ?_)))
               (case side2 => exact (Kd.R_reads' HO230.out).2.1)
               (case side3 => repeat (first | exact (Kd.V_reads' HO221.out).2.2 | (with_reducible refine Kd.C_alloc ?_ _) | (with_reducible refine Kd.C_drewN ?_ _) | (with_reducible refine Kd.C_drew ?_)))
               (case side4 => exact (Kd.V_reads' HO221.out).2.1)
               rintro e w77 ⟨rfl, hb⟩
               refine ⟨_, rfl, ?_⟩
               have n0_ := A8_ (Kd.R_below q8_9 hb)
               have n1_ := A8_ (Kd.V_below q8_13 hb)
               have n2_ := A8_ (Kd.R_below q8_12 hb)
               have n3_ := A8_ (Kd.V_below q8_17 hb)
               have n4_ := A8_ (Kd.R_below q8_18 hb)
               have n5_ := A8_ (Kd.R_below q8_29 hb)
               have n6_ := A8_ (blk_below (g := gb199) (o := .cells #[.int .i64 a0_0, .slice A0_1 l0_1.length c0_1] 68 (0, 0)) q8_5 hb)
               have n7_ := A8_ (blk_below (g := gb200) (o := .cells #[.int .i64 a2_0, .int .i64 a2_1] 25 (0, 0)) q8_6 hb)
               have n8_ := A8_ (blk_below (g := gb206) (o := .cells #[.int .i64 t202, .slice Ao29 t203.length co29] 77 (0, 0)) q8_7 hb)
               have n9_ := A8_ (blk_below (g := gb217) (o := .cells #[.int .i64 t209, .slice Ao61 t210.length co61] 68 (0, 0)) q8_10 hb)
               have n10_ := A8_ (blk_below (g := gb226) (o := .cells #[.int .i64 t218, .slice Ao72 t219.length co72] 77 (0, 0)) q8_27 hb)
               have n11_ := A8_ (below_step q8_8 hb)
               clear HO_207001
               clear HO212
               clear HO215
               clear HO221
               clear HO224
               clear HO230
               clear BK199
               clear BK200
               clear BK206
               clear BK217
               clear BK226
               clear HB
               have HO_207001 := n0_
               have HO212 := n1_
               have HO215 := n2_
               have HO221 := n3_
               have HO224 := n4_
               have HO230 := n5_
               have BK199 := n6_
               have BK200 := n7_
               have BK206 := n8_
               have BK217 := n9_
               have BK226 := n10_
               have HB := n11_
               clear n0_ n1_ n2_ n3_ n4_ n5_ n6_ n7_ n8_ n9_ n10_ n11_
               (try clear hb)
               (try clear hb2)
               (try clear hk)
               (try clear hi)
               obtain ⟨Ao78, co78, eo78⟩ := Kd.R_slice HO215.out
               (first | subst eo78 | (injection eo78 with f1_ f2_ f3_; have f4_ := f1_.symm; have f5_ := f3_.symm; clear f1_ f2_ f3_; subst f4_; subst f5_))
               obtain ⟨Ao79, co79, eo79⟩ := Kd.R_slice HO224.out
               (first | subst eo79 | (injection eo79 with f1_ f2_ f3_; have f4_ := f1_.symm; have f5_ := f3_.symm; clear f1_ f2_ f3_; subst f4_; subst f5_))
               refine hK.out _ _ ⟨bc8_ BK217 0, bc8_ BK217 1, bc8_ BK226 0, bc8_ BK226 1, bc8_ BK199 0, bc8_ BK199 1, bc8_ BK206 0, bc8_ BK206 1⟩ (fun hHeld => ?_)
               clear hK K
               refine norm_ (a' := ?_) ?_ ?_
               rotate_left
               ·show Act.put _ (some 65) _ = _
                simp only [Act.put, List.setIfInBounds_toArray, List.set_cons_zero, List.set_cons_succ, i64_w, i32_w]
                rfl
               refine pure_ (i := 8) (N := some 66) (v := ?_) (a' := ?_) m8_10 rfl rfl (any_of HT_.out q8_16) (fun _ _ _ h => h) (Or.inl ⟨by rfl, ?_⟩) ?_ ?_
               rotate_left
               ·intro w'
                go_simp
                with_reducible rfl
               rotate_left
               ·simp only [Act.put, List.setIfInBounds_toArray, List.set_cons_zero, List.set_cons_succ, i64_w, i32_w]
                rfl
               refine pure_ (i := 9) (N := some 67) (v := ?_) (a' := ?_) m8_11 rfl rfl (any_of HT_.out q8_16) (fun _ _ _ h => h) (Or.inl ⟨by rfl, ?_⟩) ?_ ?_
               rotate_left
               ·intro w'
                go_simp
                with_reducible rfl
               rotate_left
               ·simp only [Act.put, List.setIfInBounds_toArray, List.set_cons_zero, List.set_cons_succ, i64_w, i32_w]
                rfl
               refine pure_ (i := 10) (N := some 68) (v := ?_) (a' := ?_) m8_12 rfl rfl (any_of HT_.out q8_16) (fun _ _ _ h => h) (Or.inl ⟨by rfl, ?_⟩) ?_ ?_
               rotate_left
               ·intro w'
                go_simp
                with_reducible rfl
               rotate_left
               ·simp only [Act.put, List.setIfInBounds_toArray, List.set_cons_zero, List.set_cons_succ, i64_w, i32_w]
                rfl
               refine pure_ (i := 11) (N := some 69) (v := ?_) (a' := ?_) m8_13 rfl rfl (any_of HT_.out q8_16) (fun _ _ _ h => h) (Or.inl ⟨by rfl, ?_⟩) ?_ ?_
               rotate_left
               ·intro w'
                go_simp
                with_reducible rfl
               rotate_left
               ·simp only [Act.put, List.setIfInBounds_toArray, List.set_cons_zero, List.set_cons_succ, i64_w, i32_w]
                rfl
               refine one_ (i := 12) (N := some 70) m8_14 rfl rfl (one_of HT_.out q8_16) q8_26 (fun K hK => ?_)
               refine goes_ Try.func19 q8_16 rfl #[.slice Ao78 t213.length co78, .slice Ao79 t222.length co79] (by rfl) rfl rfl q8_11 ?_
               with_reducible refine (batonref01_Same.calls kj35 _ _ t213 _ _ t222 true _ ?side1 ?side2 ?side3 ?side4 A44.out).mono ?_
               (case side1 => repeat (first | exact (Kd.R_reads' HO215.out).2.2 | (with_reducible refine Kd.C_alloc ?_ _) | (with_reducible refine Kd.C_drewN ?_ _) | (with_reducible refine Kd.C_drew ?_)))
               (case side2 => exact (Kd.R_reads' HO215.out).2.1)
               (case side3 => repeat (first | exact (Kd.R_reads' HO224.out).2.2 | (with_reducible refine Kd.C_alloc ?_ _) | (with_reducible refine Kd.C_drewN ?_ _) | (with_reducible refine Kd.C_drew ?_)))
               (case side4 => exact (Kd.R_reads' HO224.out).2.1)
               rintro e w' ⟨rfl, ⟨nd, rfl⟩⟩
               refine ⟨_, rfl, ?_⟩
               refine hK.out _ _ ⟨bc8_ BK217 0, bc8_ BK217 1, bc8_ BK226 0, bc8_ BK226 1, bc8_ BK199 0, bc8_ BK199 1, bc8_ BK206 0, bc8_ BK206 1⟩ (fun hHeld => ?_)
               clear hK K
               refine norm_ (a' := ?_) ?_ ?_
               rotate_left
               ·show Act.put _ (some 70) _ = _
                simp only [Act.put, List.setIfInBounds_toArray, List.set_cons_zero, List.set_cons_succ, i64_w, i32_w]
                rfl
               refine pure_ (i := 13) (N := some 71) (v := ?_) (a' := ?_) m8_15 rfl rfl (any_of HT_.out q8_16) (fun _ _ _ h => h) (Or.inl ⟨by rfl, ?_⟩) ?_ ?_
               rotate_left
               ·intro w'
                go_simp
                with_reducible rfl
               rotate_left
               ·simp only [Act.put, List.setIfInBounds_toArray, List.set_cons_zero, List.set_cons_succ, i64_w, i32_w]
                rfl
               refine pure_ (i := 14) (N := some 72) (v := ?_) (a' := ?_) m8_16 rfl rfl (any_of HT_.out q8_16) (fun _ _ _ h => h) (Or.inl ⟨by rfl, ?_⟩) ?_ ?_
               rotate_left
               ·intro w'
                go_simp
                with_reducible rfl
               rotate_left
               ·simp only [Act.put, List.setIfInBounds_toArray, List.set_cons_zero, List.set_cons_succ, i64_w, i32_w]
                rfl
               refine take_ (i := 15) (N := some 73) (v := ?_) (a' := ?_) m8_17 rfl rfl (take_ofW HT_.out HW_.out q8_16) (fun _ _ _ h => h) (Or.inl ⟨by rfl, ?_⟩) hHeld ?_ ?_
               rotate_left
               ·rintro w' ⟨s0, s1, s2, s3, s4, s5, s6, s7⟩
                go_simp
                with_reducible rfl
               rotate_left
               ·simp only [Act.put, List.setIfInBounds_toArray, List.set_cons_zero, List.set_cons_succ, i64_w, i32_w]
                rfl
               refine one_ (i := 16) (N := some 74) m8_18 rfl rfl (one_of HT_.out q8_16) q8_26 (fun K hK => ?_)
               refine goes_ Try.func40 q8_16 rfl #[.agg #[.int .i64 t209, .slice Ao61 t210.length co61]] (by rfl) rfl rfl q8_11 ?_
               with_reducible refine (inbox_Right.calls kj35 t209 _ _ t210 true _ ?side1 ?side2 A46.out).mono ?_
               (case side1 => repeat (first | exact (Kd.V_reads' HO212.out).2.2 | (with_reducible refine Kd.C_alloc ?_ _) | (with_reducible refine Kd.C_drewN ?_ _) | (with_reducible refine Kd.C_drew ?_)))
               (case side2 => exact (Kd.V_reads' HO212.out).2.1)
               rintro e w80 ⟨rfl, hb⟩
               refine ⟨_, rfl, ?_⟩
               have n0_ := A8_ (Kd.R_below q8_9 hb)
               have n1_ := A8_ (Kd.V_below q8_13 hb)
               have n2_ := A8_ (Kd.R_below q8_12 hb)
               have n3_ := A8_ (Kd.V_below q8_17 hb)
               have n4_ := A8_ (Kd.R_below q8_18 hb)
               have n5_ := A8_ (Kd.R_below q8_29 hb)
               have n6_ := A8_ (blk_below (g := gb199) (o := .cells #[.int .i64 a0_0, .slice A0_1 l0_1.length c0_1] 68 (0, 0)) q8_5 hb)
               have n7_ := A8_ (blk_below (g := gb200) (o := .cells #[.int .i64 a2_0, .int .i64 a2_1] 25 (0, 0)) q8_6 hb)
               have n8_ := A8_ (blk_below (g := gb206) (o := .cells #[.int .i64 t202, .slice Ao29 t203.length co29] 77 (0, 0)) q8_7 hb)
               have n9_ := A8_ (blk_below (g := gb217) (o := .cells #[.int .i64 t209, .slice Ao61 t210.length co61] 68 (0, 0)) q8_10 hb)
               have n10_ := A8_ (blk_below (g := gb226) (o := .cells #[.int .i64 t218, .slice Ao72 t219.length co72] 77 (0, 0)) q8_27 hb)
               have n11_ := A8_ (below_step q8_8 hb)
               clear HO_207001
               clear HO212
               clear HO215
               clear HO221
               clear HO224
               clear HO230
               clear BK199
               clear BK200
               clear BK206
               clear BK217
               clear BK226
               clear HB
               have HO_207001 := n0_
               have HO212 := n1_
               have HO215 := n2_
               have HO221 := n3_
               have HO224 := n4_
               have HO230 := n5_
               have BK199 := n6_
               have BK200 := n7_
               have BK206 := n8_
               have BK217 := n9_
               have BK226 := n10_
               have HB := n11_
               clear n0_ n1_ n2_ n3_ n4_ n5_ n6_ n7_ n8_ n9_ n10_ n11_
               (try clear hb)
               (try clear hb2)
               (try clear hk)
               (try clear hi)
               refine hK.out _ _ ⟨bc8_ BK217 0, bc8_ BK217 1, bc8_ BK226 0, bc8_ BK226 1, bc8_ BK199 0, bc8_ BK199 1, bc8_ BK206 0, bc8_ BK206 1⟩ (fun hHeld => ?_)
               clear hK K
               refine norm_ (a' := ?_) ?_ ?_
               rotate_left
               ·show Act.put _ (some 74) _ = _
                simp only [Act.put, List.setIfInBounds_toArray, List.set_cons_zero, List.set_cons_succ, i64_w, i32_w]
                rfl
               refine pure_ (i := 17) (N := some 75) (v := ?_) (a' := ?_) m8_19 rfl rfl (any_of HT_.out q8_16) (fun _ _ _ h => h) (Or.inl ⟨by rfl, ?_⟩) ?_ ?_
               rotate_left
               ·intro w'
                go_simp
                with_reducible rfl
               rotate_left
               ·simp only [Act.put, List.setIfInBounds_toArray, List.set_cons_zero, List.set_cons_succ, i64_w, i32_w]
                rfl
               refine pure_ (i := 18) (N := some 76) (v := ?_) (a' := ?_) m8_20 rfl rfl (any_of HT_.out q8_16) (fun _ _ _ h => h) (Or.inl ⟨by rfl, ?_⟩) ?_ ?_
               rotate_left
               ·intro w'
                go_simp
                with_reducible rfl
               rotate_left
               ·simp only [Act.put, List.setIfInBounds_toArray, List.set_cons_zero, List.set_cons_succ, i64_w, i32_w]
                rfl
               refine take_ (i := 19) (N := some 77) (v := ?_) (a' := ?_) m8_21 rfl rfl (take_ofW HT_.out HW_.out q8_16) (fun _ _ _ h => h) (Or.inl ⟨by rfl, ?_⟩) hHeld ?_ ?_
               rotate_left
               ·rintro w' ⟨s0, s1, s2, s3, s4, s5, s6, s7⟩
                go_simp
                with_reducible rfl
               rotate_left
               ·simp only [Act.put, List.setIfInBounds_toArray, List.set_cons_zero, List.set_cons_succ, i64_w, i32_w]
                rfl
               refine take_ (i := 21) (N := some 79) (v := ?_) (a' := ?_) #[true, true, true, true, true, true, true, true, true, true, true, true, true, true, true, true, true, true, true, true, false, true, false, false, false] rfl rfl (take_ofW HT_.out HW_.out q8_16) (fun _ _ _ h => h) (Or.inl ⟨by rfl, ?_⟩) hHeld ?_ ?_
               rotate_left
               ·rintro w' ⟨s0, s1, s2, s3, s4, s5, s6, s7⟩
                go_simp
                with_reducible rfl
               rotate_left
               ·simp only [Act.put, List.setIfInBounds_toArray, List.set_cons_zero, List.set_cons_succ, i64_w, i32_w]
                rfl
               refine one_ (i := 20) (N := some 78) m8_24 rfl rfl (one_of HT_.out q8_16) q8_26 (fun K hK => ?_)
               refine goes_ Try.func38 q8_16 rfl #[.agg #[.int .i64 a0_0, .slice A0_1 l0_1.length c0_1]] (by rfl) rfl rfl q8_11 ?_
               with_reducible refine (batonlaw32_Ref.calls kj35 a0_0 _ _ l0_1 t234 t235 _ ?side1 ?side2 A48.out).mono ?_
               (case side1 => repeat (first | exact (Kd.C_below HR0_1.out HB.out) | (with_reducible refine Kd.C_alloc ?_ _) | (with_reducible refine Kd.C_drewN ?_ _) | (with_reducible refine Kd.C_drew ?_)))
               (case side2 => exact HC0_1.out)
               rintro e w81 ⟨v236, rfl, ho0, hb⟩
               refine ⟨_, rfl, ?_⟩
               have n0_ := A8_ (Kd.R_elder' q8_9 (Kd.R_base ho0) hb)
               have n1_ := A8_ (Kd.V_elder' q8_13 (Kd.R_base ho0) hb)
               have n2_ := A8_ (Kd.R_below q8_12 hb)
               have n3_ := A8_ (Kd.V_elder' q8_17 (Kd.R_base ho0) hb)
               have n4_ := A8_ (Kd.R_below q8_18 hb)
               have n5_ := A8_ (Kd.R_elder' q8_29 (Kd.R_base ho0) hb)
               have n6_ := A8_ (Kd.R_lower (Kd.R_new' (Kd.R_new' ho0 (Kd.R_lt q8_9)) (Kd.R_lt q8_29)) (below_size q8_8))
               have n7_ := A8_ (blk_below (g := gb199) (o := .cells #[.int .i64 a0_0, .slice A0_1 l0_1.length c0_1] 68 (0, 0)) q8_5 hb)
               have n8_ := A8_ (blk_below (g := gb200) (o := .cells #[.int .i64 a2_0, .int .i64 a2_1] 25 (0, 0)) q8_6 hb)
               have n9_ := A8_ (blk_below (g := gb206) (o := .cells #[.int .i64 t202, .slice Ao29 t203.length co29] 77 (0, 0)) q8_7 hb)
               have n10_ := A8_ (blk_below (g := gb217) (o := .cells #[.int .i64 t209, .slice Ao61 t210.length co61] 68 (0, 0)) q8_10 hb)
               have n11_ := A8_ (blk_below (g := gb226) (o := .cells #[.int .i64 t218, .slice Ao72 t219.length co72] 77 (0, 0)) q8_27 hb)
               have n12_ := A8_ (below_step q8_8 hb)
               clear HO_207001
               clear HO212
               clear HO215
               clear HO221
               clear HO224
               clear HO230
               clear BK199
               clear BK200
               clear BK206
               clear BK217
               clear BK226
               clear HB
               have HO_207001 := n0_
               have HO212 := n1_
               have HO215 := n2_
               have HO221 := n3_
               have HO224 := n4_
               have HO230 := n5_
               have HO237 := n6_
               have BK199 := n7_
               have BK200 := n8_
               have BK206 := n9_
               have BK217 := n10_
               have BK226 := n11_
               have HB := n12_
               clear n0_ n1_ n2_ n3_ n4_ n5_ n6_ n7_ n8_ n9_ n10_ n11_ n12_
               (try clear hb)
               (try clear hb2)
               (try clear hk)
               (try clear hi)
               (try clear ho0)
               obtain ⟨Ao82, co82, eo82⟩ := Kd.R_slice HO237.out
               (first | subst eo82 | (injection eo82 with f1_ f2_ f3_; have f4_ := f1_.symm; have f5_ := f3_.symm; clear f1_ f2_ f3_; subst f4_; subst f5_))
               refine hK.out _ _ ⟨bc8_ BK217 0, bc8_ BK217 1, bc8_ BK226 0, bc8_ BK226 1, bc8_ BK199 0, bc8_ BK199 1, bc8_ BK206 0, bc8_ BK206 1⟩ (fun hHeld => ?_)
               clear hK K
               refine norm_ (a' := ?_) ?_ ?_
               rotate_left
               ·show Act.put _ (some 78) _ = _
                simp only [Act.put, List.setIfInBounds_toArray, List.set_cons_zero, List.set_cons_succ, i64_w, i32_w]
                rfl
               refine one_ (i := 22) (N := some 80) m8_25 rfl rfl (one_of HT_.out q8_16) q8_26 (fun K hK => ?_)
               refine goes_ Try.func42 q8_16 rfl #[.agg #[.int .i64 t234, .slice Ao82 t235.length co82], .agg #[.int .i64 t202, .slice Ao29 t203.length co29]] (by rfl) rfl rfl q8_11 ?_
               with_reducible refine (batonref32_Same.calls kj35 t234 _ _ t235 t202 _ _ t203 t238 _ ?side1 ?side2 ?side3 ?side4 A49.out).mono ?_
               (case side1 => repeat (first | exact (Kd.R_reads' HO237.out).2.2 | (with_reducible refine Kd.C_alloc ?_ _) | (with_reducible refine Kd.C_drewN ?_ _) | (with_reducible refine Kd.C_drew ?_)))
               (case side2 => exact (Kd.R_reads' HO237.out).2.1)
               (case side3 => repeat (first | exact (Kd.R_reads' HO_207001.out).2.2 | (with_reducible refine Kd.C_alloc ?_ _) | (with_reducible refine Kd.C_drewN ?_ _) | (with_reducible refine Kd.C_drew ?_)))
               (case side4 => exact (Kd.R_reads' HO_207001.out).2.1)
               rintro e w83 ⟨rfl, hb⟩
               refine ⟨_, rfl, ?_⟩
               have n0_ := A8_ (Kd.R_below q8_9 hb)
               have n1_ := A8_ (Kd.V_below q8_13 hb)
               have n2_ := A8_ (Kd.R_below q8_12 hb)
               have n3_ := A8_ (Kd.V_below q8_17 hb)
               have n4_ := A8_ (Kd.R_below q8_18 hb)
               have n5_ := A8_ (Kd.R_below q8_29 hb)
               have n6_ := A8_ (Kd.R_below (by (with_reducible repeat (first | apply Kd.R_alloc | apply Kd.R_drewN | apply Kd.R_drew)); exact HO237.out) hb)
               have n7_ := A8_ (blk_below (g := gb199) (o := .cells #[.int .i64 a0_0, .slice A0_1 l0_1.length c0_1] 68 (0, 0)) q8_5 hb)
               have n8_ := A8_ (blk_below (g := gb200) (o := .cells #[.int .i64 a2_0, .int .i64 a2_1] 25 (0, 0)) q8_6 hb)
               have n9_ := A8_ (blk_below (g := gb206) (o := .cells #[.int .i64 t202, .slice Ao29 t203.length co29] 77 (0, 0)) q8_7 hb)
               have n10_ := A8_ (blk_below (g := gb217) (o := .cells #[.int .i64 t209, .slice Ao61 t210.length co61] 68 (0, 0)) q8_10 hb)
               have n11_ := A8_ (blk_below (g := gb226) (o := .cells #[.int .i64 t218, .slice Ao72 t219.length co72] 77 (0, 0)) q8_27 hb)
               have n12_ := A8_ (below_step q8_8 hb)
               clear HO_207001
               clear HO212
               clear HO215
               clear HO221
               clear HO224
               clear HO230
               clear HO237
               clear BK199
               clear BK200
               clear BK206
               clear BK217
               clear BK226
               clear HB
               have HO_207001 := n0_
               have HO212 := n1_
               have HO215 := n2_
               have HO221 := n3_
               have HO224 := n4_
               have HO230 := n5_
               have HO237 := n6_
               have BK199 := n7_
               have BK200 := n8_
               have BK206 := n9_
               have BK217 := n10_
               have BK226 := n11_
               have HB := n12_
               clear n0_ n1_ n2_ n3_ n4_ n5_ n6_ n7_ n8_ n9_ n10_ n11_ n12_
               (try clear hb)
               (try clear hb2)
               (try clear hk)
               (try clear hi)
               refine hK.out _ _ ⟨bc8_ BK217 0, bc8_ BK217 1, bc8_ BK226 0, bc8_ BK226 1, bc8_ BK199 0, bc8_ BK199 1, bc8_ BK206 0, bc8_ BK206 1⟩ (fun hHeld => ?_)
               clear hK K
               refine norm_ (a' := ?_) ?_ ?_
               rotate_left
               ·show Act.put _ (some 80) _ = _
                simp only [Act.put, List.setIfInBounds_toArray, List.set_cons_zero, List.set_cons_succ, i64_w, i32_w]
                rfl
               refine pure_ (i := 23) (N := some 81) (v := ?_) (a' := ?_) m8_26 rfl rfl (any_of HT_.out q8_16) (fun _ _ _ h => h) (Or.inl ⟨by rfl, ?_⟩) ?_ ?_
               rotate_left
               ·intro w'
                go_simp
                with_reducible rfl
               rotate_left
               ·simp only [Act.put, List.setIfInBounds_toArray, List.set_cons_zero, List.set_cons_succ, i64_w, i32_w]
                rfl
               refine pure_ (i := 24) (N := some 6) (v := ?_) (a' := ?_) m8_27 rfl rfl (any_of HT_.out q8_16) (fun _ _ _ h => h) (Or.inl ⟨by rfl, ?_⟩) ?_ ?_
               rotate_left
               ·intro w'
                go_simp
                with_reducible rfl
               rotate_left
               ·simp only [Act.put, List.setIfInBounds_toArray, List.set_cons_zero, List.set_cons_succ, i64_w, i32_w]
                rfl
               refine done_ (done_of HT_.out q8_16) ?_
               try go_wp2
               go_ret
               exact ⟨by first | rfl | (simp [errW_none, errW_some] <;> rfl) | (simp [*, errW_none, errW_some] <;> rfl), by repeat (first | (with_reducible first | exact HB.out | apply below_alloc | apply pw_below_drewN | apply below_drew1 | refine below_set ?_ GE199.out | refine below_set ?_ GE200.out | refine below_set ?_ GE206.out | refine below_set ?_ GE217.out | refine below_set ?_ GE226.out) | exact HB.out)⟩
              ·replace c47 := Bool.eq_false_iff.mpr c47
               subst c47
               have H1 : (some false) = some r := by rw [if_neg (show ¬ (false = true) by decide)] at H; exact H
               clear H
               have H := H1
               clear H1
               obtain rfl := Option.some.inj H
               have hnb84 := NB199_200.out
               have hnc84 := NB200_199.out
               have hnb85 := NB199_206.out
               have hnc85 := NB206_199.out
               have hcz86_0 : wc.cell? ⟨gb199, 0, none⟩ = some (.int .i64 a0_0) := bc8_ BK199 0
               have hcz86_1 : wc.cell? ⟨gb199, 1, none⟩ = some (.slice A0_1 l0_1.length c0_1) := bc8_ BK199 1
               have hfz86_0 := blk_frozen BK199.out 0
               have hfz86_1 := blk_frozen BK199.out 1
               have hnb87 := NB200_206.out
               have hnc87 := NB206_200.out
               have hcz88_0 : wc.cell? ⟨gb200, 0, none⟩ = some (.int .i64 a2_0) := bc8_ BK200 0
               have hcz88_1 : wc.cell? ⟨gb200, 1, none⟩ = some (.int .i64 a2_1) := bc8_ BK200 1
               have hfz88_0 := blk_frozen BK200.out 0
               have hfz88_1 := blk_frozen BK200.out 1
               try go_wp2_with (first | ((with_reducible refine gate_callee (f := 37) rfl ?_); refine goesL_ (some 43) rfl rfl Try.func37 q8_16 rfl #[.agg #[.int .i64 a0_0, .slice A0_1 l0_1.length c0_1], .int .i64 a2_0, .slice A1 l1.length c1, .int .i64 a2_1] rfl q8_11 ?_; (with_reducible refine (inbox_Take.calls kj35 a0_0 (fun k_ => k_ < w.heap.size) _ _ l0_1 a2_0 _ _ l1 a2_1 t209 t210 t213 t216 _ ?side1 ?side2 ?side3 A38.out).mono ?_); (case side1 => exact Kd.V_mk HC0_1.out (Kd.F_below (Kd.C_F k142_heap HR0_1.out) q8_4)); (case side2 => repeat (first | exact (Kd.C_below HR1.out HB.out) | (with_reducible refine Kd.C_alloc ?_ _) | (with_reducible refine Kd.C_drewN ?_ _) | (with_reducible refine Kd.C_drew ?_))); (case side3 => exact HC1.out); rintro e w89 ⟨v211, v214, rfl, ho0, ho1, hb⟩; refine ⟨_, rfl, ?_⟩; have n0_ := A8_ (Kd.R_below q8_9 hb); have n1_ := A8_ (Kd.V_lower (Kd.V_mono (ok' := fun k_ => some k_ ≠ (v214 : Value).ownBlock /\ some k_ ≠ (.slice Ao29 t203.length co29 : Value).ownBlock /\ k_ ≠ gb199 /\ k_ ≠ gb200 /\ k_ ≠ gb206) ho0 (fun k_ hk_ => ⟨hk_.2, Or.elim hk_.1 (fun hs_ => fun e_ => Nat.not_le.2 hs_ (Kd.R_base HO_207001.out k_ e_.symm)) (fun hn_ => (Kd.fresh' (Kd.R_lt q8_9) k_ hn_)), Or.elim hk_.1 (fun hs_ => fun e_ => Nat.not_le.2 hs_ (by rw [e_]; exact GW199.out)) (fun hn_ => (Kd.freshB (g := gb199) (o := .cells #[.int .i64 a0_0, .slice A0_1 l0_1.length c0_1] 68 (0, 0)) q8_5 k_ hn_)), Or.elim hk_.1 (fun hs_ => fun e_ => Nat.not_le.2 hs_ (by rw [e_]; exact GW200.out)) (fun hn_ => (Kd.freshB (g := gb200) (o := .cells #[.int .i64 a2_0, .int .i64 a2_1] 25 (0, 0)) q8_6 k_ hn_)), Or.elim hk_.1 (fun hs_ => fun e_ => Nat.not_le.2 hs_ (by rw [e_]; exact GW206.out)) (fun hn_ => (Kd.freshB (g := gb206) (o := .cells #[.int .i64 t202, .slice Ao29 t203.length co29] 77 (0, 0)) q8_7 k_ hn_))⟩)) (below_size q8_4)); have n2_ := A8_ (Kd.R_lower (Kd.R_mono (ok' := fun k_ => True) ho1 (fun _ hk_ => trivial)) (below_size q8_4)); have n3_ := A8_ (blk_below (g := gb199) (o := .cells #[.int .i64 a0_0, .slice A0_1 l0_1.length c0_1] 68 (0, 0)) q8_5 hb); have n4_ := A8_ (blk_below (g := gb200) (o := .cells #[.int .i64 a2_0, .int .i64 a2_1] 25 (0, 0)) q8_6 hb); have n5_ := A8_ (blk_below (g := gb206) (o := .cells #[.int .i64 t202, .slice Ao29 t203.length co29] 77 (0, 0)) q8_7 hb); have n6_ := A8_ (below_step q8_4 hb); clear HO_207001 BK199 BK200 BK206 HB; have HO_207001 := n0_; have HO212 := n1_; have HO215 := n2_; have BK199 := n3_; have BK200 := n4_; have BK206 := n5_; have HB := n6_; clear n0_ n1_ n2_ n3_ n4_ n5_ n6_; (try clear hb); (try clear hb2); (try clear hk); (try clear hi); (try clear ho0); (try clear ho1)) | ((with_reducible refine gate_dst (N := 9) rfl ?_); (try (refine gate_guard (by rfl) ?_; dsimp only)); refine box_event ?hg (N := 9) ?hd (cs := #[.int .i64 0, .slice none 0 0]) (t := 68) ?hr ?_; (case hd => rfl); (case hg => rfl); (case hr => first | (go_simp; done) | (go_simp; rfl)); intro gb217 hg w90 hbox hb; have n0_ := A8_ (Kd.R_below q8_9 hb); have n1_ := A8_ (Kd.V_below (Kd.V_elderB q8_13 gb217 (Nat.le_of_eq hg.symm)) hb); have n2_ := A8_ (Kd.R_below q8_12 hb); have n3_ := A8_ (blk_below (g := gb199) (o := .cells #[.int .i64 a0_0, .slice A0_1 l0_1.length c0_1] 68 (0, 0)) q8_5 hb); have n4_ := A8_ (blk_below (g := gb200) (o := .cells #[.int .i64 a2_0, .int .i64 a2_1] 25 (0, 0)) q8_6 hb); have n5_ := A8_ (blk_below (g := gb206) (o := .cells #[.int .i64 t202, .slice Ao29 t203.length co29] 77 (0, 0)) q8_7 hb); have n6_ := A8_ (below_step q8_4 hb); have n7_ := A8_ (hbox); have n8_ := A8_ ((by rw [hg]; exact (below_size q8_4) : w.heap.size <= gb217)); have n9_ := A8_ ((by rw [hg]; exact (below_size q8_4) : w.heap.size <= gb217)); have n10_ := A8_ ((by rw [hg]; exact Nat.ne_of_lt (blk_lt (g := gb199) (o := .cells #[.int .i64 a0_0, .slice A0_1 l0_1.length c0_1] 68 (0, 0)) q8_5) : gb199 ≠ gb217)); have n11_ := A8_ ((by rw [hg]; exact Nat.ne_of_gt (blk_lt (g := gb199) (o := .cells #[.int .i64 a0_0, .slice A0_1 l0_1.length c0_1] 68 (0, 0)) q8_5) : gb217 ≠ gb199)); have n12_ := A8_ ((by rw [hg]; exact Nat.ne_of_lt (blk_lt (g := gb200) (o := .cells #[.int .i64 a2_0, .int .i64 a2_1] 25 (0, 0)) q8_6) : gb200 ≠ gb217)); have n13_ := A8_ ((by rw [hg]; exact Nat.ne_of_gt (blk_lt (g := gb200) (o := .cells #[.int .i64 a2_0, .int .i64 a2_1] 25 (0, 0)) q8_6) : gb217 ≠ gb200)); have n14_ := A8_ ((by rw [hg]; exact Nat.ne_of_lt (blk_lt (g := gb206) (o := .cells #[.int .i64 t202, .slice Ao29 t203.length co29] 77 (0, 0)) q8_7) : gb206 ≠ gb217)); have n15_ := A8_ ((by rw [hg]; exact Nat.ne_of_gt (blk_lt (g := gb206) (o := .cells #[.int .i64 t202, .slice Ao29 t203.length co29] 77 (0, 0)) q8_7) : gb217 ≠ gb206)); clear HO_207001 HO212 HO215 BK199 BK200 BK206 HB; have HO_207001 := n0_; have HO212 := n1_; have HO215 := n2_; have BK199 := n3_; have BK200 := n4_; have BK206 := n5_; have HB := n6_; have BK217 := n7_; have GW217 := n8_; have GE217 := n9_; have NB199_217 := n10_; have NB217_199 := n11_; have NB200_217 := n12_; have NB217_200 := n13_; have NB206_217 := n14_; have NB217_206 := n15_; clear n0_ n1_ n2_ n3_ n4_ n5_ n6_ n7_ n8_ n9_ n10_ n11_ n12_ n13_ n14_ n15_; clear hb hbox hg; have hnb91 := NB217_199.out; have hnc91 := NB199_217.out; have hnb92 := NB217_200.out; have hnc92 := NB200_217.out; have hnb93 := NB217_206.out; have hnc93 := NB206_217.out; have hcz94_0 : w90.cell? ⟨gb217, 0, none⟩ = some (.int .i64 0) := bc8_ BK217 0; have hcz94_1 : w90.cell? ⟨gb217, 1, none⟩ = some (.slice none 0 0) := bc8_ BK217 1; have hfz94_0 := blk_frozen BK217.out 0; have hfz94_1 := blk_frozen BK217.out 1; obtain ⟨Ao95, co95, eo95⟩ := Kd.V_slice HO212.out; subst eo95) | ((with_reducible refine gate_store (t := 68) (p := 9) rfl ?_); refine store_event (t := 68) (p := 9) (v := ?vo_w96) (w1 := ((w90.setCell ⟨gb217, 0, none⟩ (.int .i64 t209)).setCell ⟨gb217, 1, none⟩ (.slice Ao95 t210.length co95))) ?hg ?ho ?hn ?hr ?_; (case ho => rfl); (case hg => rfl); (case hn => rfl); (case hr => first | (go_simp; done) | (go_simp; rfl)); intro w96 hw; have n0_ : Aside0 (Kd.R k144 144 w96 w.heap.size (fun _ => True) (.slice Ao29 t203.length co29) t203) := ⟨(by rw [hw]; exact (by (with_reducible repeat (first | apply Kd.R_alloc | apply Kd.R_drewN | apply Kd.R_drew)); exact Kd.R_mono (Kd.R_far (p := ⟨gb217, 1, none⟩) (Kd.R_far (p := ⟨gb217, 0, none⟩) (Kd.R_types HO_207001.out BK217.out q8_26) (fun _ hk => hk.2) (.int .i64 t209)) (fun _ hk => hk.2) (.slice Ao95 t210.length co95)) (fun _ hk => trivial)))⟩; have n1_ : Aside0 (Kd.V k142 142 w96 w.heap.size (fun k_ => some k_ ≠ (.slice Ao29 t203.length co29 : Value).ownBlock /\ some k_ ≠ (v214 : Value).ownBlock /\ k_ ≠ gb199 /\ k_ ≠ gb200 /\ k_ ≠ gb206 /\ k_ ≠ gb217) (.slice Ao95 t210.length co95) t210) := ⟨(by rw [hw]; exact (by (with_reducible repeat (first | apply Kd.V_alloc | apply Kd.V_drewN | apply Kd.V_drew)); exact Kd.V_mono (Kd.V_far (p := ⟨gb217, 1, none⟩) (Kd.V_far (p := ⟨gb217, 0, none⟩) (Kd.V_mono HO212.out (fun k_ hk => (⟨hk, hk.2⟩ : _ /\ k_ ≠ gb217))) (fun _ hk => hk.2) (.int .i64 t209)) (fun _ hk => hk.2) (.slice Ao95 t210.length co95)) (fun _ hk => ⟨hk.1.1.2.1, ⟨hk.1.1.1, ⟨hk.1.1.2.2.1, ⟨hk.1.1.2.2.2.1, ⟨hk.1.1.2.2.2.2, hk.1.2⟩⟩⟩⟩⟩)))⟩; have n2_ : Aside0 (Kd.R (Kd.int .u8) 5 w96 w.heap.size (fun _ => True) v214 t213) := ⟨(by rw [hw]; exact (by (with_reducible repeat (first | apply Kd.R_alloc | apply Kd.R_drewN | apply Kd.R_drew)); exact Kd.R_mono (Kd.R_far (p := ⟨gb217, 1, none⟩) (Kd.R_far (p := ⟨gb217, 0, none⟩) (Kd.R_types HO215.out BK217.out q8_26) (fun _ hk => hk.2) (.int .i64 t209)) (fun _ hk => hk.2) (.slice Ao95 t210.length co95)) (fun _ hk => trivial)))⟩; have n3_ : Aside0 (w96.heap[gb199]? = some (.cells #[.int .i64 a0_0, .slice A0_1 l0_1.length c0_1] 68 (0, 0))) := ⟨q8_25⟩; have n4_ : Aside0 (w96.heap[gb200]? = some (.cells #[.int .i64 a2_0, .int .i64 a2_1] 25 (0, 0))) := ⟨q8_23⟩; have n5_ : Aside0 (w96.heap[gb206]? = some (.cells #[.int .i64 t202, .slice Ao29 t203.length co29] 77 (0, 0))) := ⟨q8_21⟩; have n6_ : Aside0 (w96.heap[gb217]? = some (.cells #[.int .i64 t209, .slice Ao95 t210.length co95] 68 (0, 0))) := ⟨q8_15⟩; have n7_ : Aside0 (Below w.heap.size w w96) := ⟨(by rw [hw]; exact q8_3)⟩; clear hw HO_207001 HO212 HO215 BK199 BK200 BK206 BK217 HB; have HO_207001 := n0_; have HO212 := n1_; have HO215 := n2_; have BK199 := n3_; have BK200 := n4_; have BK206 := n5_; have BK217 := n6_; have HB := n7_; clear n0_ n1_ n2_ n3_ n4_ n5_ n6_ n7_; have hcz97_0 : w96.cell? ⟨gb206, 0, none⟩ = some (.int .i64 t202) := bc8_ BK206 0; have hcz97_1 : w96.cell? ⟨gb206, 1, none⟩ = some (.slice Ao29 t203.length co29) := bc8_ BK206 1; have hfz97_0 := blk_frozen BK206.out 0; have hfz97_1 := blk_frozen BK206.out 1; have hcz98_0 : w96.cell? ⟨gb200, 0, none⟩ = some (.int .i64 a2_0) := bc8_ BK200 0; have hcz98_1 : w96.cell? ⟨gb200, 1, none⟩ = some (.int .i64 a2_1) := bc8_ BK200 1; have hfz98_0 := blk_frozen BK200.out 0; have hfz98_1 := blk_frozen BK200.out 1) | ((with_reducible refine gate_callee (f := 41) rfl ?_); refine goesL_ (some 54) rfl rfl Try.func41 q8_16 rfl #[.agg #[.int .i64 t202, .slice Ao29 t203.length co29], .int .i64 a2_0, .slice A1 l1.length c1, .int .i64 a2_1] rfl q8_11 ?_; (with_reducible refine (batonref32_Take.calls kj35 t202 (fun k_ => some k_ = (.slice Ao29 t203.length co29 : Value).ownBlock) _ _ t203 a2_0 _ _ l1 a2_1 t218 t219 t222 t225 _ ?side1 ?side2 ?side3 A39.out).mono ?_); (case side1 => exact Kd.R_V (Kd.R_tight rfl (Kd.R_types (Kd.R_types (Kd.R_types (Kd.R_types (Kd.R_apart' (HO_207001.out) (Kd.R_typed HO215.out) q8_26) BK199.out q8_26) BK200.out q8_26) BK206.out q8_26) BK217.out q8_26))); (case side2 => repeat (first | exact (Kd.C_below HR1.out HB.out) | (with_reducible refine Kd.C_alloc ?_ _) | (with_reducible refine Kd.C_drewN ?_ _) | (with_reducible refine Kd.C_drew ?_))); (case side3 => exact HC1.out); rintro e w99 ⟨v220, v223, rfl, ho0, ho1, hb⟩; refine ⟨_, rfl, ?_⟩; have n0_ := A8_ (Kd.R_below q8_9 hb); have n1_ := A8_ (Kd.V_elder' q8_13 (Kd.R_base ho1) hb); have n2_ := A8_ (Kd.R_elder' q8_12 (Kd.R_base ho1) hb); have n3_ := A8_ (Kd.V_lower (Kd.V_mono (ok' := fun k_ => some k_ ≠ (v223 : Value).ownBlock /\ some k_ ≠ (v214 : Value).ownBlock /\ k_ ≠ gb199 /\ k_ ≠ gb200 /\ k_ ≠ gb206 /\ k_ ≠ gb217) ho0 (fun k_ hk_ => ⟨hk_.2, Or.elim hk_.1 (fun hs_ => ((Kd.R_types (Kd.R_types (Kd.R_types (Kd.R_types (Kd.R_apart' (HO_207001.out) (Kd.R_typed HO215.out) q8_26) BK199.out q8_26) BK200.out q8_26) BK206.out q8_26) BK217.out q8_26).1 k_ hs_.symm).1.1.1.1.2) (fun hn_ => (Kd.fresh' (Kd.R_lt q8_12) k_ hn_)), Or.elim hk_.1 (fun hs_ => ((Kd.R_types (Kd.R_types (Kd.R_types (Kd.R_types (Kd.R_apart' (HO_207001.out) (Kd.R_typed HO215.out) q8_26) BK199.out q8_26) BK200.out q8_26) BK206.out q8_26) BK217.out q8_26).1 k_ hs_.symm).1.1.1.2) (fun hn_ => (Kd.freshB (g := gb199) (o := .cells #[.int .i64 a0_0, .slice A0_1 l0_1.length c0_1] 68 (0, 0)) q8_5 k_ hn_)), Or.elim hk_.1 (fun hs_ => ((Kd.R_types (Kd.R_types (Kd.R_types (Kd.R_types (Kd.R_apart' (HO_207001.out) (Kd.R_typed HO215.out) q8_26) BK199.out q8_26) BK200.out q8_26) BK206.out q8_26) BK217.out q8_26).1 k_ hs_.symm).1.1.2) (fun hn_ => (Kd.freshB (g := gb200) (o := .cells #[.int .i64 a2_0, .int .i64 a2_1] 25 (0, 0)) q8_6 k_ hn_)), Or.elim hk_.1 (fun hs_ => ((Kd.R_types (Kd.R_types (Kd.R_types (Kd.R_types (Kd.R_apart' (HO_207001.out) (Kd.R_typed HO215.out) q8_26) BK199.out q8_26) BK200.out q8_26) BK206.out q8_26) BK217.out q8_26).1 k_ hs_.symm).1.2) (fun hn_ => (Kd.freshB (g := gb206) (o := .cells #[.int .i64 t202, .slice Ao29 t203.length co29] 77 (0, 0)) q8_7 k_ hn_)), Or.elim hk_.1 (fun hs_ => ((Kd.R_types (Kd.R_types (Kd.R_types (Kd.R_types (Kd.R_apart' (HO_207001.out) (Kd.R_typed HO215.out) q8_26) BK199.out q8_26) BK200.out q8_26) BK206.out q8_26) BK217.out q8_26).1 k_ hs_.symm).2) (fun hn_ => (Kd.freshB (g := gb217) (o := .cells #[.int .i64 t209, .slice Ao95 t210.length co95] 68 (0, 0)) q8_10 k_ hn_))⟩)) (below_size q8_3)); have n4_ := A8_ (Kd.R_lower (Kd.R_new' (Kd.R_mono (ok' := fun k_ => True) ho1 (fun _ hk_ => trivial)) (Kd.R_lt q8_12)) (below_size q8_3)); have n5_ := A8_ (blk_below (g := gb199) (o := .cells #[.int .i64 a0_0, .slice A0_1 l0_1.length c0_1] 68 (0, 0)) q8_5 hb); have n6_ := A8_ (blk_below (g := gb200) (o := .cells #[.int .i64 a2_0, .int .i64 a2_1] 25 (0, 0)) q8_6 hb); have n7_ := A8_ (blk_below (g := gb206) (o := .cells #[.int .i64 t202, .slice Ao29 t203.length co29] 77 (0, 0)) q8_7 hb); have n8_ := A8_ (blk_below (g := gb217) (o := .cells #[.int .i64 t209, .slice Ao95 t210.length co95] 68 (0, 0)) q8_10 hb); have n9_ := A8_ (below_step q8_3 hb); clear HO_207001 HO212 HO215 BK199 BK200 BK206 BK217 HB; have HO_207001 := n0_; have HO212 := n1_; have HO215 := n2_; have HO221 := n3_; have HO224 := n4_; have BK199 := n5_; have BK200 := n6_; have BK206 := n7_; have BK217 := n8_; have HB := n9_; clear n0_ n1_ n2_ n3_ n4_ n5_ n6_ n7_ n8_ n9_; (try clear hb); (try clear hb2); (try clear hk); (try clear hi); (try clear ho0); (try clear ho1)) | ((with_reducible refine gate_dst (N := 12) rfl ?_); (try (refine gate_guard (by rfl) ?_; dsimp only)); refine box_event ?hg (N := 12) ?hd (cs := #[.int .i64 0, .slice none 0 0]) (t := 77) ?hr ?_; (case hd => rfl); (case hg => rfl); (case hr => first | (go_simp; done) | (go_simp; rfl)); intro gb226 hg w100 hbox hb; have n0_ := A8_ (Kd.R_below q8_9 hb); have n1_ := A8_ (Kd.V_below (Kd.V_elderB q8_13 gb226 (Nat.le_of_eq hg.symm)) hb); have n2_ := A8_ (Kd.R_below q8_12 hb); have n3_ := A8_ (Kd.V_below (Kd.V_elderB q8_17 gb226 (Nat.le_of_eq hg.symm)) hb); have n4_ := A8_ (Kd.R_below q8_18 hb); have n5_ := A8_ (blk_below (g := gb199) (o := .cells #[.int .i64 a0_0, .slice A0_1 l0_1.length c0_1] 68 (0, 0)) q8_5 hb); have n6_ := A8_ (blk_below (g := gb200) (o := .cells #[.int .i64 a2_0, .int .i64 a2_1] 25 (0, 0)) q8_6 hb); have n7_ := A8_ (blk_below (g := gb206) (o := .cells #[.int .i64 t202, .slice Ao29 t203.length co29] 77 (0, 0)) q8_7 hb); have n8_ := A8_ (blk_below (g := gb217) (o := .cells #[.int .i64 t209, .slice Ao95 t210.length co95] 68 (0, 0)) q8_10 hb); have n9_ := A8_ (below_step q8_3 hb); have n10_ := A8_ (hbox); have n11_ := A8_ ((by rw [hg]; exact (below_size q8_3) : w.heap.size <= gb226)); have n12_ := A8_ ((by rw [hg]; exact (below_size q8_3) : w.heap.size <= gb226)); have n13_ := A8_ ((by rw [hg]; exact Nat.ne_of_lt (blk_lt (g := gb199) (o := .cells #[.int .i64 a0_0, .slice A0_1 l0_1.length c0_1] 68 (0, 0)) q8_5) : gb199 ≠ gb226)); have n14_ := A8_ ((by rw [hg]; exact Nat.ne_of_gt (blk_lt (g := gb199) (o := .cells #[.int .i64 a0_0, .slice A0_1 l0_1.length c0_1] 68 (0, 0)) q8_5) : gb226 ≠ gb199)); have n15_ := A8_ ((by rw [hg]; exact Nat.ne_of_lt (blk_lt (g := gb200) (o := .cells #[.int .i64 a2_0, .int .i64 a2_1] 25 (0, 0)) q8_6) : gb200 ≠ gb226)); have n16_ := A8_ ((by rw [hg]; exact Nat.ne_of_gt (blk_lt (g := gb200) (o := .cells #[.int .i64 a2_0, .int .i64 a2_1] 25 (0, 0)) q8_6) : gb226 ≠ gb200)); have n17_ := A8_ ((by rw [hg]; exact Nat.ne_of_lt (blk_lt (g := gb206) (o := .cells #[.int .i64 t202, .slice Ao29 t203.length co29] 77 (0, 0)) q8_7) : gb206 ≠ gb226)); have n18_ := A8_ ((by rw [hg]; exact Nat.ne_of_gt (blk_lt (g := gb206) (o := .cells #[.int .i64 t202, .slice Ao29 t203.length co29] 77 (0, 0)) q8_7) : gb226 ≠ gb206)); have n19_ := A8_ ((by rw [hg]; exact Nat.ne_of_lt (blk_lt (g := gb217) (o := .cells #[.int .i64 t209, .slice Ao95 t210.length co95] 68 (0, 0)) q8_10) : gb217 ≠ gb226)); have n20_ := A8_ ((by rw [hg]; exact Nat.ne_of_gt (blk_lt (g := gb217) (o := .cells #[.int .i64 t209, .slice Ao95 t210.length co95] 68 (0, 0)) q8_10) : gb226 ≠ gb217)); clear HO_207001 HO212 HO215 HO221 HO224 BK199 BK200 BK206 BK217 HB; have HO_207001 := n0_; have HO212 := n1_; have HO215 := n2_; have HO221 := n3_; have HO224 := n4_; have BK199 := n5_; have BK200 := n6_; have BK206 := n7_; have BK217 := n8_; have HB := n9_; have BK226 := n10_; have GW226 := n11_; have GE226 := n12_; have NB199_226 := n13_; have NB226_199 := n14_; have NB200_226 := n15_; have NB226_200 := n16_; have NB206_226 := n17_; have NB226_206 := n18_; have NB217_226 := n19_; have NB226_217 := n20_; clear n0_ n1_ n2_ n3_ n4_ n5_ n6_ n7_ n8_ n9_ n10_ n11_ n12_ n13_ n14_ n15_ n16_ n17_ n18_ n19_ n20_; clear hb hbox hg; have hnb101 := NB226_199.out; have hnc101 := NB199_226.out; have hnb102 := NB226_200.out; have hnc102 := NB200_226.out; have hnb103 := NB226_206.out; have hnc103 := NB206_226.out; have hnb104 := NB226_217.out; have hnc104 := NB217_226.out; have hcz105_0 : w100.cell? ⟨gb226, 0, none⟩ = some (.int .i64 0) := bc8_ BK226 0; have hcz105_1 : w100.cell? ⟨gb226, 1, none⟩ = some (.slice none 0 0) := bc8_ BK226 1; have hfz105_0 := blk_frozen BK226.out 0; have hfz105_1 := blk_frozen BK226.out 1; obtain ⟨Ao106, co106, eo106⟩ := Kd.V_slice HO221.out; subst eo106) | ((with_reducible refine gate_store (t := 77) (p := 12) rfl ?_); refine store_event (t := 77) (p := 12) (v := ?vo_w107) (w1 := ((w100.setCell ⟨gb226, 0, none⟩ (.int .i64 t218)).setCell ⟨gb226, 1, none⟩ (.slice Ao106 t219.length co106))) ?hg ?ho ?hn ?hr ?_; (case ho => rfl); (case hg => rfl); (case hn => rfl); (case hr => first | (go_simp; done) | (go_simp; rfl)); intro w107 hw; have n0_ : Aside0 (Kd.R k144 144 w107 w.heap.size (fun _ => True) (.slice Ao29 t203.length co29) t203) := ⟨(by rw [hw]; exact (by (with_reducible repeat (first | apply Kd.R_alloc | apply Kd.R_drewN | apply Kd.R_drew)); exact Kd.R_mono (Kd.R_far (p := ⟨gb226, 1, none⟩) (Kd.R_far (p := ⟨gb226, 0, none⟩) (Kd.R_types HO_207001.out BK226.out q8_26) (fun _ hk => hk.2) (.int .i64 t218)) (fun _ hk => hk.2) (.slice Ao106 t219.length co106)) (fun _ hk => trivial)))⟩; have n1_ : Aside0 (Kd.V k142 142 w107 w.heap.size (fun k_ => some k_ ≠ (.slice Ao29 t203.length co29 : Value).ownBlock /\ some k_ ≠ (v214 : Value).ownBlock /\ some k_ ≠ (v223 : Value).ownBlock /\ k_ ≠ gb199 /\ k_ ≠ gb200 /\ k_ ≠ gb206 /\ k_ ≠ gb217 /\ k_ ≠ gb226) (.slice Ao95 t210.length co95) t210) := ⟨(by rw [hw]; exact (by (with_reducible repeat (first | apply Kd.V_alloc | apply Kd.V_drewN | apply Kd.V_drew)); exact Kd.V_mono (Kd.V_far (p := ⟨gb226, 1, none⟩) (Kd.V_far (p := ⟨gb226, 0, none⟩) (Kd.V_mono HO212.out (fun k_ hk => (⟨hk, hk.2⟩ : _ /\ k_ ≠ gb226))) (fun _ hk => hk.2) (.int .i64 t218)) (fun _ hk => hk.2) (.slice Ao106 t219.length co106)) (fun _ hk => ⟨hk.1.1.1.1, ⟨hk.1.1.1.2.1, ⟨hk.1.1.2, ⟨hk.1.1.1.2.2.1, ⟨hk.1.1.1.2.2.2.1, ⟨hk.1.1.1.2.2.2.2.1, ⟨hk.1.1.1.2.2.2.2.2, hk.1.2⟩⟩⟩⟩⟩⟩⟩)))⟩; have n2_ : Aside0 (Kd.R (Kd.int .u8) 5 w107 w.heap.size (fun k_ => some k_ ≠ (v223 : Value).ownBlock) v214 t213) := ⟨(by rw [hw]; exact (by (with_reducible repeat (first | apply Kd.R_alloc | apply Kd.R_drewN | apply Kd.R_drew)); exact Kd.R_mono (Kd.R_far (p := ⟨gb226, 1, none⟩) (Kd.R_far (p := ⟨gb226, 0, none⟩) (Kd.R_types HO215.out BK226.out q8_26) (fun _ hk => hk.2) (.int .i64 t218)) (fun _ hk => hk.2) (.slice Ao106 t219.length co106)) (fun _ hk => hk.1.2)))⟩; have n3_ : Aside0 (Kd.V k144 144 w107 w.heap.size (fun k_ => some k_ ≠ (v214 : Value).ownBlock /\ some k_ ≠ (v223 : Value).ownBlock /\ k_ ≠ gb199 /\ k_ ≠ gb200 /\ k_ ≠ gb206 /\ k_ ≠ gb217 /\ k_ ≠ gb226) (.slice Ao106 t219.length co106) t219) := ⟨(by rw [hw]; exact (by (with_reducible repeat (first | apply Kd.V_alloc | apply Kd.V_drewN | apply Kd.V_drew)); exact Kd.V_mono (Kd.V_far (p := ⟨gb226, 1, none⟩) (Kd.V_far (p := ⟨gb226, 0, none⟩) (Kd.V_mono HO221.out (fun k_ hk => (⟨hk, hk.2⟩ : _ /\ k_ ≠ gb226))) (fun _ hk => hk.2) (.int .i64 t218)) (fun _ hk => hk.2) (.slice Ao106 t219.length co106)) (fun _ hk => ⟨hk.1.1.2.1, ⟨hk.1.1.1, ⟨hk.1.1.2.2.1, ⟨hk.1.1.2.2.2.1, ⟨hk.1.1.2.2.2.2.1, ⟨hk.1.1.2.2.2.2.2, hk.1.2⟩⟩⟩⟩⟩⟩)))⟩; have n4_ : Aside0 (Kd.R (Kd.int .u8) 5 w107 w.heap.size (fun k_ => some k_ ≠ (v214 : Value).ownBlock) v223 t222) := ⟨(by rw [hw]; exact (by (with_reducible repeat (first | apply Kd.R_alloc | apply Kd.R_drewN | apply Kd.R_drew)); exact Kd.R_mono (Kd.R_far (p := ⟨gb226, 1, none⟩) (Kd.R_far (p := ⟨gb226, 0, none⟩) (Kd.R_types HO224.out BK226.out q8_26) (fun _ hk => hk.2) (.int .i64 t218)) (fun _ hk => hk.2) (.slice Ao106 t219.length co106)) (fun _ hk => hk.1.2)))⟩; have n5_ : Aside0 (w107.heap[gb199]? = some (.cells #[.int .i64 a0_0, .slice A0_1 l0_1.length c0_1] 68 (0, 0))) := ⟨q8_24⟩; have n6_ : Aside0 (w107.heap[gb200]? = some (.cells #[.int .i64 a2_0, .int .i64 a2_1] 25 (0, 0))) := ⟨q8_22⟩; have n7_ : Aside0 (w107.heap[gb206]? = some (.cells #[.int .i64 t202, .slice Ao29 t203.length co29] 77 (0, 0))) := ⟨q8_20⟩; have n8_ : Aside0 (w107.heap[gb217]? = some (.cells #[.int .i64 t209, .slice Ao95 t210.length co95] 68 (0, 0))) := ⟨q8_19⟩; have n9_ : Aside0 (w107.heap[gb226]? = some (.cells #[.int .i64 t218, .slice Ao106 t219.length co106] 77 (0, 0))) := ⟨q8_14⟩; have n10_ : Aside0 (Below w.heap.size w w107) := ⟨(by rw [hw]; exact q8_8)⟩; clear hw HO_207001 HO212 HO215 HO221 HO224 BK199 BK200 BK206 BK217 BK226 HB; have HO_207001 := n0_; have HO212 := n1_; have HO215 := n2_; have HO221 := n3_; have HO224 := n4_; have BK199 := n5_; have BK200 := n6_; have BK206 := n7_; have BK217 := n8_; have BK226 := n9_; have HB := n10_; clear n0_ n1_ n2_ n3_ n4_ n5_ n6_ n7_ n8_ n9_ n10_))
               have n0_ := A8_ (Kd.R_drew HO_207001.out)
               have n1_ := A8_ (Kd.V_drew HO212.out)
               have n2_ := A8_ (Kd.R_drew HO215.out)
               have n3_ := A8_ (Kd.V_drew HO221.out)
               have n4_ := A8_ (Kd.R_drew HO224.out)
               have n5_ := A8_ (blk_drew BK199.out)
               have n6_ := A8_ (blk_drew BK200.out)
               have n7_ := A8_ (blk_drew BK206.out)
               have n8_ := A8_ (blk_drew BK217.out)
               have n9_ := A8_ (blk_drew BK226.out)
               have n10_ := A8_ (below_drew1 HB.out)
               clear HO_207001
               clear HO212
               clear HO215
               clear HO221
               clear HO224
               clear BK199
               clear BK200
               clear BK206
               clear BK217
               clear BK226
               clear HB
               have HO_207001 := n0_
               have HO212 := n1_
               have HO215 := n2_
               have HO221 := n3_
               have HO224 := n4_
               have BK199 := n5_
               have BK200 := n6_
               have BK206 := n7_
               have BK217 := n8_
               have BK226 := n9_
               have HB := n10_
               clear n0_ n1_ n2_ n3_ n4_ n5_ n6_ n7_ n8_ n9_ n10_
               refine start_ (n := 25) (S := fun w' => w'.cell? ⟨gb217, 0, none⟩ = some (.int .i64 t209) /\ w'.cell? ⟨gb217, 1, none⟩ = some (.slice Ao95 t210.length co95) /\ w'.cell? ⟨gb226, 0, none⟩ = some (.int .i64 t218) /\ w'.cell? ⟨gb226, 1, none⟩ = some (.slice Ao106 t219.length co106)) (ds := []) m8_0 q8_16 rfl rfl ⟨bc8_ BK217 0, bc8_ BK217 1, bc8_ BK226 0, bc8_ BK226 1⟩ (fun hHeld => ?_); refine with_tabW batonlaw32_InboxTakes.tab13 batonlaw32_InboxTakes.bits13 (fun HT_ HW_ => ?_)
               generalize w107.drew = w108 at HO_207001 HO212 HO215 HO221 HO224 BK199 BK200 BK206 BK217 BK226 HB hHeld ⊢
               refine pure_ (i := 0) (N := some 58) (v := ?_) (a' := ?_) m8_1 rfl rfl (any_of HT_.out q8_16) (fun _ _ _ h => h) (Or.inl ⟨by rfl, ?_⟩) ?_ ?_
               rotate_left
               ·intro w'
                go_simp
                with_reducible rfl
               rotate_left
               ·simp only [Act.put, List.setIfInBounds_toArray, List.set_cons_zero, List.set_cons_succ, i64_w, i32_w]
                rfl
               refine pure_ (i := 1) (N := some 59) (v := ?_) (a' := ?_) m8_2 rfl rfl (any_of HT_.out q8_16) (fun _ _ _ h => h) (Or.inl ⟨by rfl, ?_⟩) ?_ ?_
               rotate_left
               ·intro w'
                go_simp
                with_reducible rfl
               rotate_left
               ·simp only [Act.put, List.setIfInBounds_toArray, List.set_cons_zero, List.set_cons_succ, i64_w, i32_w]
                rfl
               refine pure_ (i := 2) (N := some 60) (v := ?_) (a' := ?_) m8_3 rfl rfl (any_of HT_.out q8_16) (fun _ _ _ h => h) (Or.inl ⟨by rfl, ?_⟩) ?_ ?_
               rotate_left
               ·intro w'
                go_simp
                with_reducible rfl
               rotate_left
               ·simp only [Act.put, List.setIfInBounds_toArray, List.set_cons_zero, List.set_cons_succ, i64_w, i32_w]
                rfl
               refine pure_ (i := 3) (N := some 61) (v := ?_) (a' := ?_) m8_4 rfl rfl (any_of HT_.out q8_16) (fun _ _ _ h => h) (Or.inl ⟨by rfl, ?_⟩) ?_ ?_
               rotate_left
               ·intro w'
                go_simp
                with_reducible rfl
               rotate_left
               ·simp only [Act.put, List.setIfInBounds_toArray, List.set_cons_zero, List.set_cons_succ, i64_w, i32_w]
                rfl
               refine take_ (i := 4) (N := some 62) (v := ?_) (a' := ?_) m8_5 rfl rfl (take_ofW HT_.out HW_.out q8_16) (fun _ _ _ h => h) (Or.inl ⟨by rfl, ?_⟩) hHeld ?_ ?_
               rotate_left
               ·rintro w' ⟨s0, s1, s2, s3⟩
                go_simp
                with_reducible rfl
               rotate_left
               ·simp only [Act.put, List.setIfInBounds_toArray, List.set_cons_zero, List.set_cons_succ, i64_w, i32_w]
                rfl
               refine take_ (i := 6) (N := some 64) (v := ?_) (a' := ?_) m8_6 rfl rfl (take_ofW HT_.out HW_.out q8_16) (fun _ _ _ h => h) (Or.inl ⟨by rfl, ?_⟩) hHeld ?_ ?_
               rotate_left
               ·rintro w' ⟨s0, s1, s2, s3⟩
                go_simp
                with_reducible rfl
               rotate_left
               ·simp only [Act.put, List.setIfInBounds_toArray, List.set_cons_zero, List.set_cons_succ, i64_w, i32_w]
                rfl
               refine one_ (i := 5) (N := some 63) m8_8 rfl rfl (one_of HT_.out q8_16) q8_26 (fun K hK => ?_)
               refine goes_ Try.func38 q8_16 rfl #[.agg #[.int .i64 t209, .slice Ao95 t210.length co95]] (by rfl) rfl rfl q8_11 ?_
               with_reducible refine (batonlaw32_Ref.calls kj35 t209 _ _ t210 t227 t228 _ ?side1 ?side2 A41.out).mono ?_
               (case side1 => repeat (first | exact (Kd.V_reads' HO212.out).2.2 | (with_reducible refine Kd.C_alloc ?_ _) | (with_reducible refine Kd.C_drewN ?_ _) | (with_reducible refine Kd.C_drew ?_)))
               (case side2 => exact (Kd.V_reads' HO212.out).2.1)
               rintro e w109 ⟨v229, rfl, ho0, hb⟩
               refine ⟨_, rfl, ?_⟩
               have n0_ := A8_ (Kd.R_elder' q8_9 (Kd.R_base ho0) hb)
               have n1_ := A8_ (Kd.V_elder' q8_13 (Kd.R_base ho0) hb)
               have n2_ := A8_ (Kd.R_below q8_12 hb)
               have n3_ := A8_ (Kd.V_elder' q8_17 (Kd.R_base ho0) hb)
               have n4_ := A8_ (Kd.R_below q8_18 hb)
               have n5_ := A8_ (Kd.R_lower (Kd.R_new' ho0 (Kd.R_lt q8_9)) (below_size q8_8))
               have n6_ := A8_ (blk_below (g := gb199) (o := .cells #[.int .i64 a0_0, .slice A0_1 l0_1.length c0_1] 68 (0, 0)) q8_5 hb)
               have n7_ := A8_ (blk_below (g := gb200) (o := .cells #[.int .i64 a2_0, .int .i64 a2_1] 25 (0, 0)) q8_6 hb)
               have n8_ := A8_ (blk_below (g := gb206) (o := .cells #[.int .i64 t202, .slice Ao29 t203.length co29] 77 (0, 0)) q8_7 hb)
               have n9_ := A8_ (blk_below (g := gb217) (o := .cells #[.int .i64 t209, .slice Ao95 t210.length co95] 68 (0, 0)) q8_10 hb)
               have n10_ := A8_ (blk_below (g := gb226) (o := .cells #[.int .i64 t218, .slice Ao106 t219.length co106] 77 (0, 0)) q8_27 hb)
               have n11_ := A8_ (below_step q8_8 hb)
               clear HO_207001
               clear HO212
               clear HO215
               clear HO221
               clear HO224
               clear BK199
               clear BK200
               clear BK206
               clear BK217
               clear BK226
               clear HB
               have HO_207001 := n0_
               have HO212 := n1_
               have HO215 := n2_
               have HO221 := n3_
               have HO224 := n4_
               have HO230 := n5_
               have BK199 := n6_
               have BK200 := n7_
               have BK206 := n8_
               have BK217 := n9_
               have BK226 := n10_
               have HB := n11_
               clear n0_ n1_ n2_ n3_ n4_ n5_ n6_ n7_ n8_ n9_ n10_ n11_
               (try clear hb)
               (try clear hb2)
               (try clear hk)
               (try clear hi)
               (try clear ho0)
               obtain ⟨Ao110, co110, eo110⟩ := Kd.R_slice HO230.out
               (first | subst eo110 | (injection eo110 with f1_ f2_ f3_; have f4_ := f1_.symm; have f5_ := f3_.symm; clear f1_ f2_ f3_; subst f4_; subst f5_))
               refine hK.out _ _ ⟨bc8_ BK217 0, bc8_ BK217 1, bc8_ BK226 0, bc8_ BK226 1⟩ (fun hHeld => ?_)
               clear hK K
               refine norm_ (a' := ?_) ?_ ?_
               rotate_left
               ·show Act.put _ (some 63) _ = _
                simp only [Act.put, List.setIfInBounds_toArray, List.set_cons_zero, List.set_cons_succ, i64_w, i32_w]
                rfl
               refine one_ (i := 7) (N := some 65) m8_9 rfl rfl (one_of HT_.out q8_16) q8_26 (fun K hK => ?_)
               refine goes_ Try.func42 q8_16 rfl #[.agg #[.int .i64 t227, .slice Ao110 t228.length co110], .agg #[.int .i64 t218, .slice Ao106 t219.length co106]] (by rfl) rfl rfl q8_11 ?_
               with_reducible refine (batonref32_Same.calls kj35 t227 _ _ t228 t218 _ _ t219 true _ ?side1 ?side2 ?side3 ?side4 A42.out).mono ?_
               (case side1 => repeat (first | exact (Kd.R_reads' HO230.out).2.2 | (with_reducible refine Kd.C_alloc ?_ _) | (with_reducible refine Kd.C_drewN ?_ _) | (with_reducible refine Kd.C_drew ?_)))
               (case side2 => exact (Kd.R_reads' HO230.out).2.1)
               (case side3 => repeat (first | exact (Kd.V_reads' HO221.out).2.2 | (with_reducible refine Kd.C_alloc ?_ _) | (with_reducible refine Kd.C_drewN ?_ _) | (with_reducible refine Kd.C_drew ?_)))
               (case side4 => exact (Kd.V_reads' HO221.out).2.1)
               rintro e w111 ⟨rfl, hb⟩
               refine ⟨_, rfl, ?_⟩
               have n0_ := A8_ (Kd.R_below q8_9 hb)
               have n1_ := A8_ (Kd.V_below q8_13 hb)
               have n2_ := A8_ (Kd.R_below q8_12 hb)
               have n3_ := A8_ (Kd.V_below q8_17 hb)
               have n4_ := A8_ (Kd.R_below q8_18 hb)
               have n5_ := A8_ (Kd.R_below q8_29 hb)
               have n6_ := A8_ (blk_below (g := gb199) (o := .cells #[.int .i64 a0_0, .slice A0_1 l0_1.length c0_1] 68 (0, 0)) q8_5 hb)
               have n7_ := A8_ (blk_below (g := gb200) (o := .cells #[.int .i64 a2_0, .int .i64 a2_1] 25 (0, 0)) q8_6 hb)
               have n8_ := A8_ (blk_below (g := gb206) (o := .cells #[.int .i64 t202, .slice Ao29 t203.length co29] 77 (0, 0)) q8_7 hb)
               have n9_ := A8_ (blk_below (g := gb217) (o := .cells #[.int .i64 t209, .slice Ao95 t210.length co95] 68 (0, 0)) q8_10 hb)
               have n10_ := A8_ (blk_below (g := gb226) (o := .cells #[.int .i64 t218, .slice Ao106 t219.length co106] 77 (0, 0)) q8_27 hb)
               have n11_ := A8_ (below_step q8_8 hb)
               clear HO_207001
               clear HO212
               clear HO215
               clear HO221
               clear HO224
               clear HO230
               clear BK199
               clear BK200
               clear BK206
               clear BK217
               clear BK226
               clear HB
               have HO_207001 := n0_
               have HO212 := n1_
               have HO215 := n2_
               have HO221 := n3_
               have HO224 := n4_
               have HO230 := n5_
               have BK199 := n6_
               have BK200 := n7_
               have BK206 := n8_
               have BK217 := n9_
               have BK226 := n10_
               have HB := n11_
               clear n0_ n1_ n2_ n3_ n4_ n5_ n6_ n7_ n8_ n9_ n10_ n11_
               (try clear hb)
               (try clear hb2)
               (try clear hk)
               (try clear hi)
               obtain ⟨Ao112, co112, eo112⟩ := Kd.R_slice HO215.out
               (first | subst eo112 | (injection eo112 with f1_ f2_ f3_; have f4_ := f1_.symm; have f5_ := f3_.symm; clear f1_ f2_ f3_; subst f4_; subst f5_))
               obtain ⟨Ao113, co113, eo113⟩ := Kd.R_slice HO224.out
               (first | subst eo113 | (injection eo113 with f1_ f2_ f3_; have f4_ := f1_.symm; have f5_ := f3_.symm; clear f1_ f2_ f3_; subst f4_; subst f5_))
               refine hK.out _ _ ⟨bc8_ BK217 0, bc8_ BK217 1, bc8_ BK226 0, bc8_ BK226 1⟩ (fun hHeld => ?_)
               clear hK K
               refine norm_ (a' := ?_) ?_ ?_
               rotate_left
               ·show Act.put _ (some 65) _ = _
                simp only [Act.put, List.setIfInBounds_toArray, List.set_cons_zero, List.set_cons_succ, i64_w, i32_w]
                rfl
               refine pure_ (i := 8) (N := some 66) (v := ?_) (a' := ?_) m8_10 rfl rfl (any_of HT_.out q8_16) (fun _ _ _ h => h) (Or.inl ⟨by rfl, ?_⟩) ?_ ?_
               rotate_left
               ·intro w'
                go_simp
                with_reducible rfl
               rotate_left
               ·simp only [Act.put, List.setIfInBounds_toArray, List.set_cons_zero, List.set_cons_succ, i64_w, i32_w]
                rfl
               refine pure_ (i := 9) (N := some 67) (v := ?_) (a' := ?_) m8_11 rfl rfl (any_of HT_.out q8_16) (fun _ _ _ h => h) (Or.inl ⟨by rfl, ?_⟩) ?_ ?_
               rotate_left
               ·intro w'
                go_simp
                with_reducible rfl
               rotate_left
               ·simp only [Act.put, List.setIfInBounds_toArray, List.set_cons_zero, List.set_cons_succ, i64_w, i32_w]
                rfl
               refine pure_ (i := 10) (N := some 68) (v := ?_) (a' := ?_) m8_12 rfl rfl (any_of HT_.out q8_16) (fun _ _ _ h => h) (Or.inl ⟨by rfl, ?_⟩) ?_ ?_
               rotate_left
               ·intro w'
                go_simp
                with_reducible rfl
               rotate_left
               ·simp only [Act.put, List.setIfInBounds_toArray, List.set_cons_zero, List.set_cons_succ, i64_w, i32_w]
                rfl
               refine pure_ (i := 11) (N := some 69) (v := ?_) (a' := ?_) m8_13 rfl rfl (any_of HT_.out q8_16) (fun _ _ _ h => h) (Or.inl ⟨by rfl, ?_⟩) ?_ ?_
               rotate_left
               ·intro w'
                go_simp
                with_reducible rfl
               rotate_left
               ·simp only [Act.put, List.setIfInBounds_toArray, List.set_cons_zero, List.set_cons_succ, i64_w, i32_w]
                rfl
               refine one_ (i := 12) (N := some 70) m8_14 rfl rfl (one_of HT_.out q8_16) q8_26 (fun K hK => ?_)
               refine goes_ Try.func19 q8_16 rfl #[.slice Ao112 t213.length co112, .slice Ao113 t222.length co113] (by rfl) rfl rfl q8_11 ?_
               with_reducible refine (batonref01_Same.calls kj35 _ _ t213 _ _ t222 true _ ?side1 ?side2 ?side3 ?side4 A44.out).mono ?_
               (case side1 => repeat (first | exact (Kd.R_reads' HO215.out).2.2 | (with_reducible refine Kd.C_alloc ?_ _) | (with_reducible refine Kd.C_drewN ?_ _) | (with_reducible refine Kd.C_drew ?_)))
               (case side2 => exact (Kd.R_reads' HO215.out).2.1)
               (case side3 => repeat (first | exact (Kd.R_reads' HO224.out).2.2 | (with_reducible refine Kd.C_alloc ?_ _) | (with_reducible refine Kd.C_drewN ?_ _) | (with_reducible refine Kd.C_drew ?_)))
               (case side4 => exact (Kd.R_reads' HO224.out).2.1)
               rintro e w' ⟨rfl, ⟨nd, rfl⟩⟩
               refine ⟨_, rfl, ?_⟩
               refine hK.out _ _ ⟨bc8_ BK217 0, bc8_ BK217 1, bc8_ BK226 0, bc8_ BK226 1⟩ (fun hHeld => ?_)
               clear hK K
               refine norm_ (a' := ?_) ?_ ?_
               rotate_left
               ·show Act.put _ (some 70) _ = _
                simp only [Act.put, List.setIfInBounds_toArray, List.set_cons_zero, List.set_cons_succ, i64_w, i32_w]
                rfl
               refine pure_ (i := 13) (N := some 71) (v := ?_) (a' := ?_) m8_15 rfl rfl (any_of HT_.out q8_16) (fun _ _ _ h => h) (Or.inl ⟨by rfl, ?_⟩) ?_ ?_
               rotate_left
               ·intro w'
                go_simp
                with_reducible rfl
               rotate_left
               ·simp only [Act.put, List.setIfInBounds_toArray, List.set_cons_zero, List.set_cons_succ, i64_w, i32_w]
                rfl
               refine pure_ (i := 14) (N := some 72) (v := ?_) (a' := ?_) m8_16 rfl rfl (any_of HT_.out q8_16) (fun _ _ _ h => h) (Or.inl ⟨by rfl, ?_⟩) ?_ ?_
               rotate_left
               ·intro w'
                go_simp
                with_reducible rfl
               rotate_left
               ·simp only [Act.put, List.setIfInBounds_toArray, List.set_cons_zero, List.set_cons_succ, i64_w, i32_w]
                rfl
               refine take_ (i := 15) (N := some 73) (v := ?_) (a' := ?_) m8_17 rfl rfl (take_ofW HT_.out HW_.out q8_16) (fun _ _ _ h => h) (Or.inl ⟨by rfl, ?_⟩) hHeld ?_ ?_
               rotate_left
               ·rintro w' ⟨s0, s1, s2, s3⟩
                go_simp
                with_reducible rfl
               rotate_left
               ·simp only [Act.put, List.setIfInBounds_toArray, List.set_cons_zero, List.set_cons_succ, i64_w, i32_w]
                rfl
               refine one_ (i := 16) (N := some 74) m8_18 rfl rfl (one_of HT_.out q8_16) q8_26 (fun K hK => ?_)
               refine goes_ Try.func40 q8_16 rfl #[.agg #[.int .i64 t209, .slice Ao95 t210.length co95]] (by rfl) rfl rfl q8_11 ?_
               with_reducible refine (inbox_Right.calls kj35 t209 _ _ t210 false _ ?side1 ?side2 A46.out).mono ?_
               (case side1 => repeat (first | exact (Kd.V_reads' HO212.out).2.2 | (with_reducible refine Kd.C_alloc ?_ _) | (with_reducible refine Kd.C_drewN ?_ _) | (with_reducible refine Kd.C_drew ?_)))
               (case side2 => exact (Kd.V_reads' HO212.out).2.1)
               rintro e w114 ⟨rfl, hb⟩
               refine ⟨_, rfl, ?_⟩
               have n0_ := A8_ (Kd.R_below q8_9 hb)
               have n1_ := A8_ (Kd.V_below q8_13 hb)
               have n2_ := A8_ (Kd.R_below q8_12 hb)
               have n3_ := A8_ (Kd.V_below q8_17 hb)
               have n4_ := A8_ (Kd.R_below q8_18 hb)
               have n5_ := A8_ (Kd.R_below q8_29 hb)
               have n6_ := A8_ (blk_below (g := gb199) (o := .cells #[.int .i64 a0_0, .slice A0_1 l0_1.length c0_1] 68 (0, 0)) q8_5 hb)
               have n7_ := A8_ (blk_below (g := gb200) (o := .cells #[.int .i64 a2_0, .int .i64 a2_1] 25 (0, 0)) q8_6 hb)
               have n8_ := A8_ (blk_below (g := gb206) (o := .cells #[.int .i64 t202, .slice Ao29 t203.length co29] 77 (0, 0)) q8_7 hb)
               have n9_ := A8_ (blk_below (g := gb217) (o := .cells #[.int .i64 t209, .slice Ao95 t210.length co95] 68 (0, 0)) q8_10 hb)
               have n10_ := A8_ (blk_below (g := gb226) (o := .cells #[.int .i64 t218, .slice Ao106 t219.length co106] 77 (0, 0)) q8_27 hb)
               have n11_ := A8_ (below_step q8_8 hb)
               clear HO_207001
               clear HO212
               clear HO215
               clear HO221
               clear HO224
               clear HO230
               clear BK199
               clear BK200
               clear BK206
               clear BK217
               clear BK226
               clear HB
               have HO_207001 := n0_
               have HO212 := n1_
               have HO215 := n2_
               have HO221 := n3_
               have HO224 := n4_
               have HO230 := n5_
               have BK199 := n6_
               have BK200 := n7_
               have BK206 := n8_
               have BK217 := n9_
               have BK226 := n10_
               have HB := n11_
               clear n0_ n1_ n2_ n3_ n4_ n5_ n6_ n7_ n8_ n9_ n10_ n11_
               (try clear hb)
               (try clear hb2)
               (try clear hk)
               (try clear hi)
               refine hK.out _ _ ⟨bc8_ BK217 0, bc8_ BK217 1, bc8_ BK226 0, bc8_ BK226 1⟩ (fun hHeld => ?_)
               clear hK K
               refine norm_ (a' := ?_) ?_ ?_
               rotate_left
               ·show Act.put _ (some 74) _ = _
                simp only [Act.put, List.setIfInBounds_toArray, List.set_cons_zero, List.set_cons_succ, i64_w, i32_w]
                rfl
               refine pure_ (i := 17) (N := some 75) (v := ?_) (a' := ?_) m8_19 rfl rfl (any_of HT_.out q8_16) (fun _ _ _ h => h) (Or.inl ⟨by rfl, ?_⟩) ?_ ?_
               rotate_left
               ·intro w'
                go_simp
                with_reducible rfl
               rotate_left
               ·simp only [Act.put, List.setIfInBounds_toArray, List.set_cons_zero, List.set_cons_succ, i64_w, i32_w]
                rfl
               refine pure_ (i := 18) (N := some 76) (v := ?_) (a' := ?_) m8_20 rfl rfl (any_of HT_.out q8_16) (fun _ _ _ h => h) (Or.inl ⟨by rfl, ?_⟩) ?_ ?_
               rotate_left
               ·intro w'
                go_simp
                with_reducible rfl
               rotate_left
               ·simp only [Act.put, List.setIfInBounds_toArray, List.set_cons_zero, List.set_cons_succ, i64_w, i32_w]
                rfl
               refine pure_ (i := 19) (N := some 77) (v := undef) (a' := ?_) m8_21 rfl rfl (any_of HT_.out q8_16) (fun _ _ _ h => h) (Or.inr ⟨by rfl, rfl⟩) ?_ ?_
               rotate_left
               ·simp only [Act.put, List.setIfInBounds_toArray, List.set_cons_zero, List.set_cons_succ, i64_w, i32_w]
                rfl
               refine pure_ (i := 20) (N := some 78) (v := undef) (a' := ?_) m8_23 rfl rfl (any_of HT_.out q8_16) (fun _ _ _ h => h) (Or.inr ⟨by rfl, rfl⟩) ?_ ?_
               rotate_left
               ·simp only [Act.put, List.setIfInBounds_toArray, List.set_cons_zero, List.set_cons_succ, i64_w, i32_w]
                rfl
               refine pure_ (i := 21) (N := some 79) (v := undef) (a' := ?_) m8_24 rfl rfl (any_of HT_.out q8_16) (fun _ _ _ h => h) (Or.inr ⟨by rfl, rfl⟩) ?_ ?_
               rotate_left
               ·simp only [Act.put, List.setIfInBounds_toArray, List.set_cons_zero, List.set_cons_succ, i64_w, i32_w]
                rfl
               refine pure_ (i := 22) (N := some 80) (v := undef) (a' := ?_) m8_25 rfl rfl (any_of HT_.out q8_16) (fun _ _ _ h => h) (Or.inr ⟨by rfl, rfl⟩) ?_ ?_
               rotate_left
               ·simp only [Act.put, List.setIfInBounds_toArray, List.set_cons_zero, List.set_cons_succ, i64_w, i32_w]
                rfl
               refine pure_ (i := 23) (N := some 81) (v := ?_) (a' := ?_) m8_26 rfl rfl (any_of HT_.out q8_16) (fun _ _ _ h => h) (Or.inl ⟨by rfl, ?_⟩) ?_ ?_
               rotate_left
               ·intro w'
                go_simp
                with_reducible rfl
               rotate_left
               ·simp only [Act.put, List.setIfInBounds_toArray, List.set_cons_zero, List.set_cons_succ, i64_w, i32_w]
                rfl
               refine pure_ (i := 24) (N := some 6) (v := ?_) (a' := ?_) m8_27 rfl rfl (any_of HT_.out q8_16) (fun _ _ _ h => h) (Or.inl ⟨by rfl, ?_⟩) ?_ ?_
               rotate_left
               ·intro w'
                go_simp
                with_reducible rfl
               rotate_left
               ·simp only [Act.put, List.setIfInBounds_toArray, List.set_cons_zero, List.set_cons_succ, i64_w, i32_w]
                rfl
               refine done_ (done_of HT_.out q8_16) ?_
               try go_wp2
               go_ret
               exact ⟨by first | rfl | (simp [errW_none, errW_some] <;> rfl) | (simp [*, errW_none, errW_some] <;> rfl), by repeat (first | (with_reducible first | exact HB.out | apply below_alloc | apply pw_below_drewN | apply below_drew1 | refine below_set ?_ GE199.out | refine below_set ?_ GE200.out | refine below_set ?_ GE206.out | refine below_set ?_ GE217.out | refine below_set ?_ GE226.out) | exact HB.out)⟩
             ·replace c45 := Bool.eq_false_iff.mpr c45
              subst c45
              have H1 : (some false) = some r := by rw [if_neg (show ¬ (false = true) by decide)] at H; exact H
              clear H
              have H := H1
              clear H1
              obtain rfl := Option.some.inj H
              have hnb115 := NB199_200.out
              have hnc115 := NB200_199.out
              have hnb116 := NB199_206.out
              have hnc116 := NB206_199.out
              have hcz117_0 : wc.cell? ⟨gb199, 0, none⟩ = some (.int .i64 a0_0) := bc8_ BK199 0
              have hcz117_1 : wc.cell? ⟨gb199, 1, none⟩ = some (.slice A0_1 l0_1.length c0_1) := bc8_ BK199 1
              have hfz117_0 := blk_frozen BK199.out 0
              have hfz117_1 := blk_frozen BK199.out 1
              have hnb118 := NB200_206.out
              have hnc118 := NB206_200.out
              have hcz119_0 : wc.cell? ⟨gb200, 0, none⟩ = some (.int .i64 a2_0) := bc8_ BK200 0
              have hcz119_1 : wc.cell? ⟨gb200, 1, none⟩ = some (.int .i64 a2_1) := bc8_ BK200 1
              have hfz119_0 := blk_frozen BK200.out 0
              have hfz119_1 := blk_frozen BK200.out 1
              try go_wp2_with (first | ((with_reducible refine gate_callee (f := 37) rfl ?_); refine goesL_ (some 43) rfl rfl Try.func37 q8_16 rfl #[.agg #[.int .i64 a0_0, .slice A0_1 l0_1.length c0_1], .int .i64 a2_0, .slice A1 l1.length c1, .int .i64 a2_1] rfl q8_11 ?_; (with_reducible refine (inbox_Take.calls kj35 a0_0 (fun k_ => k_ < w.heap.size) _ _ l0_1 a2_0 _ _ l1 a2_1 t209 t210 t213 t216 _ ?side1 ?side2 ?side3 A38.out).mono ?_); (case side1 => exact Kd.V_mk HC0_1.out (Kd.F_below (Kd.C_F k142_heap HR0_1.out) q8_4)); (case side2 => repeat (first | exact (Kd.C_below HR1.out HB.out) | (with_reducible refine Kd.C_alloc ?_ _) | (with_reducible refine Kd.C_drewN ?_ _) | (with_reducible refine Kd.C_drew ?_))); (case side3 => exact HC1.out); rintro e w120 ⟨v211, v214, rfl, ho0, ho1, hb⟩; refine ⟨_, rfl, ?_⟩; have n0_ := A8_ (Kd.R_below q8_9 hb); have n1_ := A8_ (Kd.V_lower (Kd.V_mono (ok' := fun k_ => some k_ ≠ (v214 : Value).ownBlock /\ some k_ ≠ (.slice Ao29 t203.length co29 : Value).ownBlock /\ k_ ≠ gb199 /\ k_ ≠ gb200 /\ k_ ≠ gb206) ho0 (fun k_ hk_ => ⟨hk_.2, Or.elim hk_.1 (fun hs_ => fun e_ => Nat.not_le.2 hs_ (Kd.R_base HO_207001.out k_ e_.symm)) (fun hn_ => (Kd.fresh' (Kd.R_lt q8_9) k_ hn_)), Or.elim hk_.1 (fun hs_ => fun e_ => Nat.not_le.2 hs_ (by rw [e_]; exact GW199.out)) (fun hn_ => (Kd.freshB (g := gb199) (o := .cells #[.int .i64 a0_0, .slice A0_1 l0_1.length c0_1] 68 (0, 0)) q8_5 k_ hn_)), Or.elim hk_.1 (fun hs_ => fun e_ => Nat.not_le.2 hs_ (by rw [e_]; exact GW200.out)) (fun hn_ => (Kd.freshB (g := gb200) (o := .cells #[.int .i64 a2_0, .int .i64 a2_1] 25 (0, 0)) q8_6 k_ hn_)), Or.elim hk_.1 (fun hs_ => fun e_ => Nat.not_le.2 hs_ (by rw [e_]; exact GW206.out)) (fun hn_ => (Kd.freshB (g := gb206) (o := .cells #[.int .i64 t202, .slice Ao29 t203.length co29] 77 (0, 0)) q8_7 k_ hn_))⟩)) (below_size q8_4)); have n2_ := A8_ (Kd.R_lower (Kd.R_mono (ok' := fun k_ => True) ho1 (fun _ hk_ => trivial)) (below_size q8_4)); have n3_ := A8_ (blk_below (g := gb199) (o := .cells #[.int .i64 a0_0, .slice A0_1 l0_1.length c0_1] 68 (0, 0)) q8_5 hb); have n4_ := A8_ (blk_below (g := gb200) (o := .cells #[.int .i64 a2_0, .int .i64 a2_1] 25 (0, 0)) q8_6 hb); have n5_ := A8_ (blk_below (g := gb206) (o := .cells #[.int .i64 t202, .slice Ao29 t203.length co29] 77 (0, 0)) q8_7 hb); have n6_ := A8_ (below_step q8_4 hb); clear HO_207001 BK199 BK200 BK206 HB; have HO_207001 := n0_; have HO212 := n1_; have HO215 := n2_; have BK199 := n3_; have BK200 := n4_; have BK206 := n5_; have HB := n6_; clear n0_ n1_ n2_ n3_ n4_ n5_ n6_; (try clear hb); (try clear hb2); (try clear hk); (try clear hi); (try clear ho0); (try clear ho1)) | ((with_reducible refine gate_dst (N := 9) rfl ?_); (try (refine gate_guard (by rfl) ?_; dsimp only)); refine box_event ?hg (N := 9) ?hd (cs := #[.int .i64 0, .slice none 0 0]) (t := 68) ?hr ?_; (case hd => rfl); (case hg => rfl); (case hr => first | (go_simp; done) | (go_simp; rfl)); intro gb217 hg w121 hbox hb; have n0_ := A8_ (Kd.R_below q8_9 hb); have n1_ := A8_ (Kd.V_below (Kd.V_elderB q8_13 gb217 (Nat.le_of_eq hg.symm)) hb); have n2_ := A8_ (Kd.R_below q8_12 hb); have n3_ := A8_ (blk_below (g := gb199) (o := .cells #[.int .i64 a0_0, .slice A0_1 l0_1.length c0_1] 68 (0, 0)) q8_5 hb); have n4_ := A8_ (blk_below (g := gb200) (o := .cells #[.int .i64 a2_0, .int .i64 a2_1] 25 (0, 0)) q8_6 hb); have n5_ := A8_ (blk_below (g := gb206) (o := .cells #[.int .i64 t202, .slice Ao29 t203.length co29] 77 (0, 0)) q8_7 hb); have n6_ := A8_ (below_step q8_4 hb); have n7_ := A8_ (hbox); have n8_ := A8_ ((by rw [hg]; exact (below_size q8_4) : w.heap.size <= gb217)); have n9_ := A8_ ((by rw [hg]; exact (below_size q8_4) : w.heap.size <= gb217)); have n10_ := A8_ ((by rw [hg]; exact Nat.ne_of_lt (blk_lt (g := gb199) (o := .cells #[.int .i64 a0_0, .slice A0_1 l0_1.length c0_1] 68 (0, 0)) q8_5) : gb199 ≠ gb217)); have n11_ := A8_ ((by rw [hg]; exact Nat.ne_of_gt (blk_lt (g := gb199) (o := .cells #[.int .i64 a0_0, .slice A0_1 l0_1.length c0_1] 68 (0, 0)) q8_5) : gb217 ≠ gb199)); have n12_ := A8_ ((by rw [hg]; exact Nat.ne_of_lt (blk_lt (g := gb200) (o := .cells #[.int .i64 a2_0, .int .i64 a2_1] 25 (0, 0)) q8_6) : gb200 ≠ gb217)); have n13_ := A8_ ((by rw [hg]; exact Nat.ne_of_gt (blk_lt (g := gb200) (o := .cells #[.int .i64 a2_0, .int .i64 a2_1] 25 (0, 0)) q8_6) : gb217 ≠ gb200)); have n14_ := A8_ ((by rw [hg]; exact Nat.ne_of_lt (blk_lt (g := gb206) (o := .cells #[.int .i64 t202, .slice Ao29 t203.length co29] 77 (0, 0)) q8_7) : gb206 ≠ gb217)); have n15_ := A8_ ((by rw [hg]; exact Nat.ne_of_gt (blk_lt (g := gb206) (o := .cells #[.int .i64 t202, .slice Ao29 t203.length co29] 77 (0, 0)) q8_7) : gb217 ≠ gb206)); clear HO_207001 HO212 HO215 BK199 BK200 BK206 HB; have HO_207001 := n0_; have HO212 := n1_; have HO215 := n2_; have BK199 := n3_; have BK200 := n4_; have BK206 := n5_; have HB := n6_; have BK217 := n7_; have GW217 := n8_; have GE217 := n9_; have NB199_217 := n10_; have NB217_199 := n11_; have NB200_217 := n12_; have NB217_200 := n13_; have NB206_217 := n14_; have NB217_206 := n15_; clear n0_ n1_ n2_ n3_ n4_ n5_ n6_ n7_ n8_ n9_ n10_ n11_ n12_ n13_ n14_ n15_; clear hb hbox hg; have hnb122 := NB217_199.out; have hnc122 := NB199_217.out; have hnb123 := NB217_200.out; have hnc123 := NB200_217.out; have hnb124 := NB217_206.out; have hnc124 := NB206_217.out; have hcz125_0 : w121.cell? ⟨gb217, 0, none⟩ = some (.int .i64 0) := bc8_ BK217 0; have hcz125_1 : w121.cell? ⟨gb217, 1, none⟩ = some (.slice none 0 0) := bc8_ BK217 1; have hfz125_0 := blk_frozen BK217.out 0; have hfz125_1 := blk_frozen BK217.out 1; obtain ⟨Ao126, co126, eo126⟩ := Kd.V_slice HO212.out; subst eo126) | ((with_reducible refine gate_store (t := 68) (p := 9) rfl ?_); refine store_event (t := 68) (p := 9) (v := ?vo_w127) (w1 := ((w121.setCell ⟨gb217, 0, none⟩ (.int .i64 t209)).setCell ⟨gb217, 1, none⟩ (.slice Ao126 t210.length co126))) ?hg ?ho ?hn ?hr ?_; (case ho => rfl); (case hg => rfl); (case hn => rfl); (case hr => first | (go_simp; done) | (go_simp; rfl)); intro w127 hw; have n0_ : Aside0 (Kd.R k144 144 w127 w.heap.size (fun _ => True) (.slice Ao29 t203.length co29) t203) := ⟨(by rw [hw]; exact (by (with_reducible repeat (first | apply Kd.R_alloc | apply Kd.R_drewN | apply Kd.R_drew)); exact Kd.R_mono (Kd.R_far (p := ⟨gb217, 1, none⟩) (Kd.R_far (p := ⟨gb217, 0, none⟩) (Kd.R_types HO_207001.out BK217.out q8_26) (fun _ hk => hk.2) (.int .i64 t209)) (fun _ hk => hk.2) (.slice Ao126 t210.length co126)) (fun _ hk => trivial)))⟩; have n1_ : Aside0 (Kd.V k142 142 w127 w.heap.size (fun k_ => some k_ ≠ (.slice Ao29 t203.length co29 : Value).ownBlock /\ some k_ ≠ (v214 : Value).ownBlock /\ k_ ≠ gb199 /\ k_ ≠ gb200 /\ k_ ≠ gb206 /\ k_ ≠ gb217) (.slice Ao126 t210.length co126) t210) := ⟨(by rw [hw]; exact (by (with_reducible repeat (first | apply Kd.V_alloc | apply Kd.V_drewN | apply Kd.V_drew)); exact Kd.V_mono (Kd.V_far (p := ⟨gb217, 1, none⟩) (Kd.V_far (p := ⟨gb217, 0, none⟩) (Kd.V_mono HO212.out (fun k_ hk => (⟨hk, hk.2⟩ : _ /\ k_ ≠ gb217))) (fun _ hk => hk.2) (.int .i64 t209)) (fun _ hk => hk.2) (.slice Ao126 t210.length co126)) (fun _ hk => ⟨hk.1.1.2.1, ⟨hk.1.1.1, ⟨hk.1.1.2.2.1, ⟨hk.1.1.2.2.2.1, ⟨hk.1.1.2.2.2.2, hk.1.2⟩⟩⟩⟩⟩)))⟩; have n2_ : Aside0 (Kd.R (Kd.int .u8) 5 w127 w.heap.size (fun _ => True) v214 t213) := ⟨(by rw [hw]; exact (by (with_reducible repeat (first | apply Kd.R_alloc | apply Kd.R_drewN | apply Kd.R_drew)); exact Kd.R_mono (Kd.R_far (p := ⟨gb217, 1, none⟩) (Kd.R_far (p := ⟨gb217, 0, none⟩) (Kd.R_types HO215.out BK217.out q8_26) (fun _ hk => hk.2) (.int .i64 t209)) (fun _ hk => hk.2) (.slice Ao126 t210.length co126)) (fun _ hk => trivial)))⟩; have n3_ : Aside0 (w127.heap[gb199]? = some (.cells #[.int .i64 a0_0, .slice A0_1 l0_1.length c0_1] 68 (0, 0))) := ⟨q8_25⟩; have n4_ : Aside0 (w127.heap[gb200]? = some (.cells #[.int .i64 a2_0, .int .i64 a2_1] 25 (0, 0))) := ⟨q8_23⟩; have n5_ : Aside0 (w127.heap[gb206]? = some (.cells #[.int .i64 t202, .slice Ao29 t203.length co29] 77 (0, 0))) := ⟨q8_21⟩; have n6_ : Aside0 (w127.heap[gb217]? = some (.cells #[.int .i64 t209, .slice Ao126 t210.length co126] 68 (0, 0))) := ⟨q8_15⟩; have n7_ : Aside0 (Below w.heap.size w w127) := ⟨(by rw [hw]; exact q8_3)⟩; clear hw HO_207001 HO212 HO215 BK199 BK200 BK206 BK217 HB; have HO_207001 := n0_; have HO212 := n1_; have HO215 := n2_; have BK199 := n3_; have BK200 := n4_; have BK206 := n5_; have BK217 := n6_; have HB := n7_; clear n0_ n1_ n2_ n3_ n4_ n5_ n6_ n7_; have hcz128_0 : w127.cell? ⟨gb206, 0, none⟩ = some (.int .i64 t202) := bc8_ BK206 0; have hcz128_1 : w127.cell? ⟨gb206, 1, none⟩ = some (.slice Ao29 t203.length co29) := bc8_ BK206 1; have hfz128_0 := blk_frozen BK206.out 0; have hfz128_1 := blk_frozen BK206.out 1; have hcz129_0 : w127.cell? ⟨gb200, 0, none⟩ = some (.int .i64 a2_0) := bc8_ BK200 0; have hcz129_1 : w127.cell? ⟨gb200, 1, none⟩ = some (.int .i64 a2_1) := bc8_ BK200 1; have hfz129_0 := blk_frozen BK200.out 0; have hfz129_1 := blk_frozen BK200.out 1) | ((with_reducible refine gate_callee (f := 41) rfl ?_); refine goesL_ (some 54) rfl rfl Try.func41 q8_16 rfl #[.agg #[.int .i64 t202, .slice Ao29 t203.length co29], .int .i64 a2_0, .slice A1 l1.length c1, .int .i64 a2_1] rfl q8_11 ?_; (with_reducible refine (batonref32_Take.calls kj35 t202 (fun k_ => some k_ = (.slice Ao29 t203.length co29 : Value).ownBlock) _ _ t203 a2_0 _ _ l1 a2_1 t218 t219 t222 t225 _ ?side1 ?side2 ?side3 A39.out).mono ?_); (case side1 => exact Kd.R_V (Kd.R_tight rfl (Kd.R_types (Kd.R_types (Kd.R_types (Kd.R_types (Kd.R_apart' (HO_207001.out) (Kd.R_typed HO215.out) q8_26) BK199.out q8_26) BK200.out q8_26) BK206.out q8_26) BK217.out q8_26))); (case side2 => repeat (first | exact (Kd.C_below HR1.out HB.out) | (with_reducible refine Kd.C_alloc ?_ _) | (with_reducible refine Kd.C_drewN ?_ _) | (with_reducible refine Kd.C_drew ?_))); (case side3 => exact HC1.out); rintro e w130 ⟨v220, v223, rfl, ho0, ho1, hb⟩; refine ⟨_, rfl, ?_⟩; have n0_ := A8_ (Kd.R_below q8_9 hb); have n1_ := A8_ (Kd.V_elder' q8_13 (Kd.R_base ho1) hb); have n2_ := A8_ (Kd.R_elder' q8_12 (Kd.R_base ho1) hb); have n3_ := A8_ (Kd.V_lower (Kd.V_mono (ok' := fun k_ => some k_ ≠ (v223 : Value).ownBlock /\ some k_ ≠ (v214 : Value).ownBlock /\ k_ ≠ gb199 /\ k_ ≠ gb200 /\ k_ ≠ gb206 /\ k_ ≠ gb217) ho0 (fun k_ hk_ => ⟨hk_.2, Or.elim hk_.1 (fun hs_ => ((Kd.R_types (Kd.R_types (Kd.R_types (Kd.R_types (Kd.R_apart' (HO_207001.out) (Kd.R_typed HO215.out) q8_26) BK199.out q8_26) BK200.out q8_26) BK206.out q8_26) BK217.out q8_26).1 k_ hs_.symm).1.1.1.1.2) (fun hn_ => (Kd.fresh' (Kd.R_lt q8_12) k_ hn_)), Or.elim hk_.1 (fun hs_ => ((Kd.R_types (Kd.R_types (Kd.R_types (Kd.R_types (Kd.R_apart' (HO_207001.out) (Kd.R_typed HO215.out) q8_26) BK199.out q8_26) BK200.out q8_26) BK206.out q8_26) BK217.out q8_26).1 k_ hs_.symm).1.1.1.2) (fun hn_ => (Kd.freshB (g := gb199) (o := .cells #[.int .i64 a0_0, .slice A0_1 l0_1.length c0_1] 68 (0, 0)) q8_5 k_ hn_)), Or.elim hk_.1 (fun hs_ => ((Kd.R_types (Kd.R_types (Kd.R_types (Kd.R_types (Kd.R_apart' (HO_207001.out) (Kd.R_typed HO215.out) q8_26) BK199.out q8_26) BK200.out q8_26) BK206.out q8_26) BK217.out q8_26).1 k_ hs_.symm).1.1.2) (fun hn_ => (Kd.freshB (g := gb200) (o := .cells #[.int .i64 a2_0, .int .i64 a2_1] 25 (0, 0)) q8_6 k_ hn_)), Or.elim hk_.1 (fun hs_ => ((Kd.R_types (Kd.R_types (Kd.R_types (Kd.R_types (Kd.R_apart' (HO_207001.out) (Kd.R_typed HO215.out) q8_26) BK199.out q8_26) BK200.out q8_26) BK206.out q8_26) BK217.out q8_26).1 k_ hs_.symm).1.2) (fun hn_ => (Kd.freshB (g := gb206) (o := .cells #[.int .i64 t202, .slice Ao29 t203.length co29] 77 (0, 0)) q8_7 k_ hn_)), Or.elim hk_.1 (fun hs_ => ((Kd.R_types (Kd.R_types (Kd.R_types (Kd.R_types (Kd.R_apart' (HO_207001.out) (Kd.R_typed HO215.out) q8_26) BK199.out q8_26) BK200.out q8_26) BK206.out q8_26) BK217.out q8_26).1 k_ hs_.symm).2) (fun hn_ => (Kd.freshB (g := gb217) (o := .cells #[.int .i64 t209, .slice Ao126 t210.length co126] 68 (0, 0)) q8_10 k_ hn_))⟩)) (below_size q8_3)); have n4_ := A8_ (Kd.R_lower (Kd.R_new' (Kd.R_mono (ok' := fun k_ => True) ho1 (fun _ hk_ => trivial)) (Kd.R_lt q8_12)) (below_size q8_3)); have n5_ := A8_ (blk_below (g := gb199) (o := .cells #[.int .i64 a0_0, .slice A0_1 l0_1.length c0_1] 68 (0, 0)) q8_5 hb); have n6_ := A8_ (blk_below (g := gb200) (o := .cells #[.int .i64 a2_0, .int .i64 a2_1] 25 (0, 0)) q8_6 hb); have n7_ := A8_ (blk_below (g := gb206) (o := .cells #[.int .i64 t202, .slice Ao29 t203.length co29] 77 (0, 0)) q8_7 hb); have n8_ := A8_ (blk_below (g := gb217) (o := .cells #[.int .i64 t209, .slice Ao126 t210.length co126] 68 (0, 0)) q8_10 hb); have n9_ := A8_ (below_step q8_3 hb); clear HO_207001 HO212 HO215 BK199 BK200 BK206 BK217 HB; have HO_207001 := n0_; have HO212 := n1_; have HO215 := n2_; have HO221 := n3_; have HO224 := n4_; have BK199 := n5_; have BK200 := n6_; have BK206 := n7_; have BK217 := n8_; have HB := n9_; clear n0_ n1_ n2_ n3_ n4_ n5_ n6_ n7_ n8_ n9_; (try clear hb); (try clear hb2); (try clear hk); (try clear hi); (try clear ho0); (try clear ho1)) | ((with_reducible refine gate_dst (N := 12) rfl ?_); (try (refine gate_guard (by rfl) ?_; dsimp only)); refine box_event ?hg (N := 12) ?hd (cs := #[.int .i64 0, .slice none 0 0]) (t := 77) ?hr ?_; (case hd => rfl); (case hg => rfl); (case hr => first | (go_simp; done) | (go_simp; rfl)); intro gb226 hg w131 hbox hb; have n0_ := A8_ (Kd.R_below q8_9 hb); have n1_ := A8_ (Kd.V_below (Kd.V_elderB q8_13 gb226 (Nat.le_of_eq hg.symm)) hb); have n2_ := A8_ (Kd.R_below q8_12 hb); have n3_ := A8_ (Kd.V_below (Kd.V_elderB q8_17 gb226 (Nat.le_of_eq hg.symm)) hb); have n4_ := A8_ (Kd.R_below q8_18 hb); have n5_ := A8_ (blk_below (g := gb199) (o := .cells #[.int .i64 a0_0, .slice A0_1 l0_1.length c0_1] 68 (0, 0)) q8_5 hb); have n6_ := A8_ (blk_below (g := gb200) (o := .cells #[.int .i64 a2_0, .int .i64 a2_1] 25 (0, 0)) q8_6 hb); have n7_ := A8_ (blk_below (g := gb206) (o := .cells #[.int .i64 t202, .slice Ao29 t203.length co29] 77 (0, 0)) q8_7 hb); have n8_ := A8_ (blk_below (g := gb217) (o := .cells #[.int .i64 t209, .slice Ao126 t210.length co126] 68 (0, 0)) q8_10 hb); have n9_ := A8_ (below_step q8_3 hb); have n10_ := A8_ (hbox); have n11_ := A8_ ((by rw [hg]; exact (below_size q8_3) : w.heap.size <= gb226)); have n12_ := A8_ ((by rw [hg]; exact (below_size q8_3) : w.heap.size <= gb226)); have n13_ := A8_ ((by rw [hg]; exact Nat.ne_of_lt (blk_lt (g := gb199) (o := .cells #[.int .i64 a0_0, .slice A0_1 l0_1.length c0_1] 68 (0, 0)) q8_5) : gb199 ≠ gb226)); have n14_ := A8_ ((by rw [hg]; exact Nat.ne_of_gt (blk_lt (g := gb199) (o := .cells #[.int .i64 a0_0, .slice A0_1 l0_1.length c0_1] 68 (0, 0)) q8_5) : gb226 ≠ gb199)); have n15_ := A8_ ((by rw [hg]; exact Nat.ne_of_lt (blk_lt (g := gb200) (o := .cells #[.int .i64 a2_0, .int .i64 a2_1] 25 (0, 0)) q8_6) : gb200 ≠ gb226)); have n16_ := A8_ ((by rw [hg]; exact Nat.ne_of_gt (blk_lt (g := gb200) (o := .cells #[.int .i64 a2_0, .int .i64 a2_1] 25 (0, 0)) q8_6) : gb226 ≠ gb200)); have n17_ := A8_ ((by rw [hg]; exact Nat.ne_of_lt (blk_lt (g := gb206) (o := .cells #[.int .i64 t202, .slice Ao29 t203.length co29] 77 (0, 0)) q8_7) : gb206 ≠ gb226)); have n18_ := A8_ ((by rw [hg]; exact Nat.ne_of_gt (blk_lt (g := gb206) (o := .cells #[.int .i64 t202, .slice Ao29 t203.length co29] 77 (0, 0)) q8_7) : gb226 ≠ gb206)); have n19_ := A8_ ((by rw [hg]; exact Nat.ne_of_lt (blk_lt (g := gb217) (o := .cells #[.int .i64 t209, .slice Ao126 t210.length co126] 68 (0, 0)) q8_10) : gb217 ≠ gb226)); have n20_ := A8_ ((by rw [hg]; exact Nat.ne_of_gt (blk_lt (g := gb217) (o := .cells #[.int .i64 t209, .slice Ao126 t210.length co126] 68 (0, 0)) q8_10) : gb226 ≠ gb217)); clear HO_207001 HO212 HO215 HO221 HO224 BK199 BK200 BK206 BK217 HB; have HO_207001 := n0_; have HO212 := n1_; have HO215 := n2_; have HO221 := n3_; have HO224 := n4_; have BK199 := n5_; have BK200 := n6_; have BK206 := n7_; have BK217 := n8_; have HB := n9_; have BK226 := n10_; have GW226 := n11_; have GE226 := n12_; have NB199_226 := n13_; have NB226_199 := n14_; have NB200_226 := n15_; have NB226_200 := n16_; have NB206_226 := n17_; have NB226_206 := n18_; have NB217_226 := n19_; have NB226_217 := n20_; clear n0_ n1_ n2_ n3_ n4_ n5_ n6_ n7_ n8_ n9_ n10_ n11_ n12_ n13_ n14_ n15_ n16_ n17_ n18_ n19_ n20_; clear hb hbox hg; have hnb132 := NB226_199.out; have hnc132 := NB199_226.out; have hnb133 := NB226_200.out; have hnc133 := NB200_226.out; have hnb134 := NB226_206.out; have hnc134 := NB206_226.out; have hnb135 := NB226_217.out; have hnc135 := NB217_226.out; have hcz136_0 : w131.cell? ⟨gb226, 0, none⟩ = some (.int .i64 0) := bc8_ BK226 0; have hcz136_1 : w131.cell? ⟨gb226, 1, none⟩ = some (.slice none 0 0) := bc8_ BK226 1; have hfz136_0 := blk_frozen BK226.out 0; have hfz136_1 := blk_frozen BK226.out 1; obtain ⟨Ao137, co137, eo137⟩ := Kd.V_slice HO221.out; subst eo137) | ((with_reducible refine gate_store (t := 77) (p := 12) rfl ?_); refine store_event (t := 77) (p := 12) (v := ?vo_w138) (w1 := ((w131.setCell ⟨gb226, 0, none⟩ (.int .i64 t218)).setCell ⟨gb226, 1, none⟩ (.slice Ao137 t219.length co137))) ?hg ?ho ?hn ?hr ?_; (case ho => rfl); (case hg => rfl); (case hn => rfl); (case hr => first | (go_simp; done) | (go_simp; rfl)); intro w138 hw; have n0_ : Aside0 (Kd.R k144 144 w138 w.heap.size (fun _ => True) (.slice Ao29 t203.length co29) t203) := ⟨(by rw [hw]; exact (by (with_reducible repeat (first | apply Kd.R_alloc | apply Kd.R_drewN | apply Kd.R_drew)); exact Kd.R_mono (Kd.R_far (p := ⟨gb226, 1, none⟩) (Kd.R_far (p := ⟨gb226, 0, none⟩) (Kd.R_types HO_207001.out BK226.out q8_26) (fun _ hk => hk.2) (.int .i64 t218)) (fun _ hk => hk.2) (.slice Ao137 t219.length co137)) (fun _ hk => trivial)))⟩; have n1_ : Aside0 (Kd.V k142 142 w138 w.heap.size (fun k_ => some k_ ≠ (.slice Ao29 t203.length co29 : Value).ownBlock /\ some k_ ≠ (v214 : Value).ownBlock /\ some k_ ≠ (v223 : Value).ownBlock /\ k_ ≠ gb199 /\ k_ ≠ gb200 /\ k_ ≠ gb206 /\ k_ ≠ gb217 /\ k_ ≠ gb226) (.slice Ao126 t210.length co126) t210) := ⟨(by rw [hw]; exact (by (with_reducible repeat (first | apply Kd.V_alloc | apply Kd.V_drewN | apply Kd.V_drew)); exact Kd.V_mono (Kd.V_far (p := ⟨gb226, 1, none⟩) (Kd.V_far (p := ⟨gb226, 0, none⟩) (Kd.V_mono HO212.out (fun k_ hk => (⟨hk, hk.2⟩ : _ /\ k_ ≠ gb226))) (fun _ hk => hk.2) (.int .i64 t218)) (fun _ hk => hk.2) (.slice Ao137 t219.length co137)) (fun _ hk => ⟨hk.1.1.1.1, ⟨hk.1.1.1.2.1, ⟨hk.1.1.2, ⟨hk.1.1.1.2.2.1, ⟨hk.1.1.1.2.2.2.1, ⟨hk.1.1.1.2.2.2.2.1, ⟨hk.1.1.1.2.2.2.2.2, hk.1.2⟩⟩⟩⟩⟩⟩⟩)))⟩; have n2_ : Aside0 (Kd.R (Kd.int .u8) 5 w138 w.heap.size (fun k_ => some k_ ≠ (v223 : Value).ownBlock) v214 t213) := ⟨(by rw [hw]; exact (by (with_reducible repeat (first | apply Kd.R_alloc | apply Kd.R_drewN | apply Kd.R_drew)); exact Kd.R_mono (Kd.R_far (p := ⟨gb226, 1, none⟩) (Kd.R_far (p := ⟨gb226, 0, none⟩) (Kd.R_types HO215.out BK226.out q8_26) (fun _ hk => hk.2) (.int .i64 t218)) (fun _ hk => hk.2) (.slice Ao137 t219.length co137)) (fun _ hk => hk.1.2)))⟩; have n3_ : Aside0 (Kd.V k144 144 w138 w.heap.size (fun k_ => some k_ ≠ (v214 : Value).ownBlock /\ some k_ ≠ (v223 : Value).ownBlock /\ k_ ≠ gb199 /\ k_ ≠ gb200 /\ k_ ≠ gb206 /\ k_ ≠ gb217 /\ k_ ≠ gb226) (.slice Ao137 t219.length co137) t219) := ⟨(by rw [hw]; exact (by (with_reducible repeat (first | apply Kd.V_alloc | apply Kd.V_drewN | apply Kd.V_drew)); exact Kd.V_mono (Kd.V_far (p := ⟨gb226, 1, none⟩) (Kd.V_far (p := ⟨gb226, 0, none⟩) (Kd.V_mono HO221.out (fun k_ hk => (⟨hk, hk.2⟩ : _ /\ k_ ≠ gb226))) (fun _ hk => hk.2) (.int .i64 t218)) (fun _ hk => hk.2) (.slice Ao137 t219.length co137)) (fun _ hk => ⟨hk.1.1.2.1, ⟨hk.1.1.1, ⟨hk.1.1.2.2.1, ⟨hk.1.1.2.2.2.1, ⟨hk.1.1.2.2.2.2.1, ⟨hk.1.1.2.2.2.2.2, hk.1.2⟩⟩⟩⟩⟩⟩)))⟩; have n4_ : Aside0 (Kd.R (Kd.int .u8) 5 w138 w.heap.size (fun k_ => some k_ ≠ (v214 : Value).ownBlock) v223 t222) := ⟨(by rw [hw]; exact (by (with_reducible repeat (first | apply Kd.R_alloc | apply Kd.R_drewN | apply Kd.R_drew)); exact Kd.R_mono (Kd.R_far (p := ⟨gb226, 1, none⟩) (Kd.R_far (p := ⟨gb226, 0, none⟩) (Kd.R_types HO224.out BK226.out q8_26) (fun _ hk => hk.2) (.int .i64 t218)) (fun _ hk => hk.2) (.slice Ao137 t219.length co137)) (fun _ hk => hk.1.2)))⟩; have n5_ : Aside0 (w138.heap[gb199]? = some (.cells #[.int .i64 a0_0, .slice A0_1 l0_1.length c0_1] 68 (0, 0))) := ⟨q8_24⟩; have n6_ : Aside0 (w138.heap[gb200]? = some (.cells #[.int .i64 a2_0, .int .i64 a2_1] 25 (0, 0))) := ⟨q8_22⟩; have n7_ : Aside0 (w138.heap[gb206]? = some (.cells #[.int .i64 t202, .slice Ao29 t203.length co29] 77 (0, 0))) := ⟨q8_20⟩; have n8_ : Aside0 (w138.heap[gb217]? = some (.cells #[.int .i64 t209, .slice Ao126 t210.length co126] 68 (0, 0))) := ⟨q8_19⟩; have n9_ : Aside0 (w138.heap[gb226]? = some (.cells #[.int .i64 t218, .slice Ao137 t219.length co137] 77 (0, 0))) := ⟨q8_14⟩; have n10_ : Aside0 (Below w.heap.size w w138) := ⟨(by rw [hw]; exact q8_8)⟩; clear hw HO_207001 HO212 HO215 HO221 HO224 BK199 BK200 BK206 BK217 BK226 HB; have HO_207001 := n0_; have HO212 := n1_; have HO215 := n2_; have HO221 := n3_; have HO224 := n4_; have BK199 := n5_; have BK200 := n6_; have BK206 := n7_; have BK217 := n8_; have BK226 := n9_; have HB := n10_; clear n0_ n1_ n2_ n3_ n4_ n5_ n6_ n7_ n8_ n9_ n10_))
              have n0_ := A8_ (Kd.R_drew HO_207001.out)
              have n1_ := A8_ (Kd.V_drew HO212.out)
              have n2_ := A8_ (Kd.R_drew HO215.out)
              have n3_ := A8_ (Kd.V_drew HO221.out)
              have n4_ := A8_ (Kd.R_drew HO224.out)
              have n5_ := A8_ (blk_drew BK199.out)
              have n6_ := A8_ (blk_drew BK200.out)
              have n7_ := A8_ (blk_drew BK206.out)
              have n8_ := A8_ (blk_drew BK217.out)
              have n9_ := A8_ (blk_drew BK226.out)
              have n10_ := A8_ (below_drew1 HB.out)
              clear HO_207001
              clear HO212
              clear HO215
              clear HO221
              clear HO224
              clear BK199
              clear BK200
              clear BK206
              clear BK217
              clear BK226
              clear HB
              have HO_207001 := n0_
              have HO212 := n1_
              have HO215 := n2_
              have HO221 := n3_
              have HO224 := n4_
              have BK199 := n5_
              have BK200 := n6_
              have BK206 := n7_
              have BK217 := n8_
              have BK226 := n9_
              have HB := n10_
              clear n0_ n1_ n2_ n3_ n4_ n5_ n6_ n7_ n8_ n9_ n10_
              refine start_ (n := 25) (S := fun w' => w'.cell? ⟨gb217, 0, none⟩ = some (.int .i64 t209) /\ w'.cell? ⟨gb217, 1, none⟩ = some (.slice Ao126 t210.length co126) /\ w'.cell? ⟨gb226, 0, none⟩ = some (.int .i64 t218) /\ w'.cell? ⟨gb226, 1, none⟩ = some (.slice Ao137 t219.length co137)) (ds := []) m8_0 q8_16 rfl rfl ⟨bc8_ BK217 0, bc8_ BK217 1, bc8_ BK226 0, bc8_ BK226 1⟩ (fun hHeld => ?_); refine with_tabW batonlaw32_InboxTakes.tab13 batonlaw32_InboxTakes.bits13 (fun HT_ HW_ => ?_)
              generalize w138.drew = w139 at HO_207001 HO212 HO215 HO221 HO224 BK199 BK200 BK206 BK217 BK226 HB hHeld ⊢
              refine pure_ (i := 0) (N := some 58) (v := ?_) (a' := ?_) m8_1 rfl rfl (any_of HT_.out q8_16) (fun _ _ _ h => h) (Or.inl ⟨by rfl, ?_⟩) ?_ ?_
              rotate_left
              ·intro w'
               go_simp
               with_reducible rfl
              rotate_left
              ·simp only [Act.put, List.setIfInBounds_toArray, List.set_cons_zero, List.set_cons_succ, i64_w, i32_w]
               rfl
              refine pure_ (i := 1) (N := some 59) (v := ?_) (a' := ?_) m8_2 rfl rfl (any_of HT_.out q8_16) (fun _ _ _ h => h) (Or.inl ⟨by rfl, ?_⟩) ?_ ?_
              rotate_left
              ·intro w'
               go_simp
               with_reducible rfl
              rotate_left
              ·simp only [Act.put, List.setIfInBounds_toArray, List.set_cons_zero, List.set_cons_succ, i64_w, i32_w]
               rfl
              refine pure_ (i := 2) (N := some 60) (v := ?_) (a' := ?_) m8_3 rfl rfl (any_of HT_.out q8_16) (fun _ _ _ h => h) (Or.inl ⟨by rfl, ?_⟩) ?_ ?_
              rotate_left
              ·intro w'
               go_simp
               with_reducible rfl
              rotate_left
              ·simp only [Act.put, List.setIfInBounds_toArray, List.set_cons_zero, List.set_cons_succ, i64_w, i32_w]
               rfl
              refine pure_ (i := 3) (N := some 61) (v := ?_) (a' := ?_) m8_4 rfl rfl (any_of HT_.out q8_16) (fun _ _ _ h => h) (Or.inl ⟨by rfl, ?_⟩) ?_ ?_
              rotate_left
              ·intro w'
               go_simp
               with_reducible rfl
              rotate_left
              ·simp only [Act.put, List.setIfInBounds_toArray, List.set_cons_zero, List.set_cons_succ, i64_w, i32_w]
               rfl
              refine take_ (i := 4) (N := some 62) (v := ?_) (a' := ?_) m8_5 rfl rfl (take_ofW HT_.out HW_.out q8_16) (fun _ _ _ h => h) (Or.inl ⟨by rfl, ?_⟩) hHeld ?_ ?_
              rotate_left
              ·rintro w' ⟨s0, s1, s2, s3⟩
               go_simp
               with_reducible rfl
              rotate_left
              ·simp only [Act.put, List.setIfInBounds_toArray, List.set_cons_zero, List.set_cons_succ, i64_w, i32_w]
               rfl
              refine take_ (i := 6) (N := some 64) (v := ?_) (a' := ?_) m8_6 rfl rfl (take_ofW HT_.out HW_.out q8_16) (fun _ _ _ h => h) (Or.inl ⟨by rfl, ?_⟩) hHeld ?_ ?_
              rotate_left
              ·rintro w' ⟨s0, s1, s2, s3⟩
               go_simp
               with_reducible rfl
              rotate_left
              ·simp only [Act.put, List.setIfInBounds_toArray, List.set_cons_zero, List.set_cons_succ, i64_w, i32_w]
               rfl
              refine one_ (i := 5) (N := some 63) m8_8 rfl rfl (one_of HT_.out q8_16) q8_26 (fun K hK => ?_)
              refine goes_ Try.func38 q8_16 rfl #[.agg #[.int .i64 t209, .slice Ao126 t210.length co126]] (by rfl) rfl rfl q8_11 ?_
              with_reducible refine (batonlaw32_Ref.calls kj35 t209 _ _ t210 t227 t228 _ ?side1 ?side2 A41.out).mono ?_
              (case side1 => repeat (first | exact (Kd.V_reads' HO212.out).2.2 | (with_reducible refine Kd.C_alloc ?_ _) | (with_reducible refine Kd.C_drewN ?_ _) | (with_reducible refine Kd.C_drew ?_)))
              (case side2 => exact (Kd.V_reads' HO212.out).2.1)
              rintro e w140 ⟨v229, rfl, ho0, hb⟩
              refine ⟨_, rfl, ?_⟩
              have n0_ := A8_ (Kd.R_elder' q8_9 (Kd.R_base ho0) hb)
              have n1_ := A8_ (Kd.V_elder' q8_13 (Kd.R_base ho0) hb)
              have n2_ := A8_ (Kd.R_below q8_12 hb)
              have n3_ := A8_ (Kd.V_elder' q8_17 (Kd.R_base ho0) hb)
              have n4_ := A8_ (Kd.R_below q8_18 hb)
              have n5_ := A8_ (Kd.R_lower (Kd.R_new' ho0 (Kd.R_lt q8_9)) (below_size q8_8))
              have n6_ := A8_ (blk_below (g := gb199) (o := .cells #[.int .i64 a0_0, .slice A0_1 l0_1.length c0_1] 68 (0, 0)) q8_5 hb)
              have n7_ := A8_ (blk_below (g := gb200) (o := .cells #[.int .i64 a2_0, .int .i64 a2_1] 25 (0, 0)) q8_6 hb)
              have n8_ := A8_ (blk_below (g := gb206) (o := .cells #[.int .i64 t202, .slice Ao29 t203.length co29] 77 (0, 0)) q8_7 hb)
              have n9_ := A8_ (blk_below (g := gb217) (o := .cells #[.int .i64 t209, .slice Ao126 t210.length co126] 68 (0, 0)) q8_10 hb)
              have n10_ := A8_ (blk_below (g := gb226) (o := .cells #[.int .i64 t218, .slice Ao137 t219.length co137] 77 (0, 0)) q8_27 hb)
              have n11_ := A8_ (below_step q8_8 hb)
              clear HO_207001
              clear HO212
              clear HO215
              clear HO221
              clear HO224
              clear BK199
              clear BK200
              clear BK206
              clear BK217
              clear BK226
              clear HB
              have HO_207001 := n0_
              have HO212 := n1_
              have HO215 := n2_
              have HO221 := n3_
              have HO224 := n4_
              have HO230 := n5_
              have BK199 := n6_
              have BK200 := n7_
              have BK206 := n8_
              have BK217 := n9_
              have BK226 := n10_
              have HB := n11_
              clear n0_ n1_ n2_ n3_ n4_ n5_ n6_ n7_ n8_ n9_ n10_ n11_
              (try clear hb)
              (try clear hb2)
              (try clear hk)
              (try clear hi)
              (try clear ho0)
              obtain ⟨Ao141, co141, eo141⟩ := Kd.R_slice HO230.out
              (first | subst eo141 | (injection eo141 with f1_ f2_ f3_; have f4_ := f1_.symm; have f5_ := f3_.symm; clear f1_ f2_ f3_; subst f4_; subst f5_))
              refine hK.out _ _ ⟨bc8_ BK217 0, bc8_ BK217 1, bc8_ BK226 0, bc8_ BK226 1⟩ (fun hHeld => ?_)
              clear hK K
              refine norm_ (a' := ?_) ?_ ?_
              rotate_left
              ·show Act.put _ (some 63) _ = _
               simp only [Act.put, List.setIfInBounds_toArray, List.set_cons_zero, List.set_cons_succ, i64_w, i32_w]
               rfl
              refine one_ (i := 7) (N := some 65) m8_9 rfl rfl (one_of HT_.out q8_16) q8_26 (fun K hK => ?_)
              refine goes_ Try.func42 q8_16 rfl #[.agg #[.int .i64 t227, .slice Ao141 t228.length co141], .agg #[.int .i64 t218, .slice Ao137 t219.length co137]] (by rfl) rfl rfl q8_11 ?_
              with_reducible refine (batonref32_Same.calls kj35 t227 _ _ t228 t218 _ _ t219 true _ ?side1 ?side2 ?side3 ?side4 A42.out).mono ?_
              (case side1 => repeat (first | exact (Kd.R_reads' HO230.out).2.2 | (with_reducible refine Kd.C_alloc ?_ _) | (with_reducible refine Kd.C_drewN ?_ _) | (with_reducible refine Kd.C_drew ?_)))
              (case side2 => exact (Kd.R_reads' HO230.out).2.1)
              (case side3 => repeat (first | exact (Kd.V_reads' HO221.out).2.2 | (with_reducible refine Kd.C_alloc ?_ _) | (with_reducible refine Kd.C_drewN ?_ _) | (with_reducible refine Kd.C_drew ?_)))
              (case side4 => exact (Kd.V_reads' HO221.out).2.1)
              rintro e w142 ⟨rfl, hb⟩
              refine ⟨_, rfl, ?_⟩
              have n0_ := A8_ (Kd.R_below q8_9 hb)
              have n1_ := A8_ (Kd.V_below q8_13 hb)
              have n2_ := A8_ (Kd.R_below q8_12 hb)
              have n3_ := A8_ (Kd.V_below q8_17 hb)
              have n4_ := A8_ (Kd.R_below q8_18 hb)
              have n5_ := A8_ (Kd.R_below q8_29 hb)
              have n6_ := A8_ (blk_below (g := gb199) (o := .cells #[.int .i64 a0_0, .slice A0_1 l0_1.length c0_1] 68 (0, 0)) q8_5 hb)
              have n7_ := A8_ (blk_below (g := gb200) (o := .cells #[.int .i64 a2_0, .int .i64 a2_1] 25 (0, 0)) q8_6 hb)
              have n8_ := A8_ (blk_below (g := gb206) (o := .cells #[.int .i64 t202, .slice Ao29 t203.length co29] 77 (0, 0)) q8_7 hb)
              have n9_ := A8_ (blk_below (g := gb217) (o := .cells #[.int .i64 t209, .slice Ao126 t210.length co126] 68 (0, 0)) q8_10 hb)
              have n10_ := A8_ (blk_below (g := gb226) (o := .cells #[.int .i64 t218, .slice Ao137 t219.length co137] 77 (0, 0)) q8_27 hb)
              have n11_ := A8_ (below_step q8_8 hb)
              clear HO_207001
              clear HO212
              clear HO215
              clear HO221
              clear HO224
              clear HO230
              clear BK199
              clear BK200
              clear BK206
              clear BK217
              clear BK226
              clear HB
              have HO_207001 := n0_
              have HO212 := n1_
              have HO215 := n2_
              have HO221 := n3_
              have HO224 := n4_
              have HO230 := n5_
              have BK199 := n6_
              have BK200 := n7_
              have BK206 := n8_
              have BK217 := n9_
              have BK226 := n10_
              have HB := n11_
              clear n0_ n1_ n2_ n3_ n4_ n5_ n6_ n7_ n8_ n9_ n10_ n11_
              (try clear hb)
              (try clear hb2)
              (try clear hk)
              (try clear hi)
              obtain ⟨Ao143, co143, eo143⟩ := Kd.R_slice HO215.out
              (first | subst eo143 | (injection eo143 with f1_ f2_ f3_; have f4_ := f1_.symm; have f5_ := f3_.symm; clear f1_ f2_ f3_; subst f4_; subst f5_))
              obtain ⟨Ao144, co144, eo144⟩ := Kd.R_slice HO224.out
              (first | subst eo144 | (injection eo144 with f1_ f2_ f3_; have f4_ := f1_.symm; have f5_ := f3_.symm; clear f1_ f2_ f3_; subst f4_; subst f5_))
              refine hK.out _ _ ⟨bc8_ BK217 0, bc8_ BK217 1, bc8_ BK226 0, bc8_ BK226 1⟩ (fun hHeld => ?_)
              clear hK K
              refine norm_ (a' := ?_) ?_ ?_
              rotate_left
              ·show Act.put _ (some 65) _ = _
               simp only [Act.put, List.setIfInBounds_toArray, List.set_cons_zero, List.set_cons_succ, i64_w, i32_w]
               rfl
              refine pure_ (i := 8) (N := some 66) (v := ?_) (a' := ?_) m8_10 rfl rfl (any_of HT_.out q8_16) (fun _ _ _ h => h) (Or.inl ⟨by rfl, ?_⟩) ?_ ?_
              rotate_left
              ·intro w'
               go_simp
               with_reducible rfl
              rotate_left
              ·simp only [Act.put, List.setIfInBounds_toArray, List.set_cons_zero, List.set_cons_succ, i64_w, i32_w]
               rfl
              refine pure_ (i := 9) (N := some 67) (v := ?_) (a' := ?_) m8_11 rfl rfl (any_of HT_.out q8_16) (fun _ _ _ h => h) (Or.inl ⟨by rfl, ?_⟩) ?_ ?_
              rotate_left
              ·intro w'
               go_simp
               with_reducible rfl
              rotate_left
              ·simp only [Act.put, List.setIfInBounds_toArray, List.set_cons_zero, List.set_cons_succ, i64_w, i32_w]
               rfl
              refine pure_ (i := 10) (N := some 68) (v := ?_) (a' := ?_) m8_12 rfl rfl (any_of HT_.out q8_16) (fun _ _ _ h => h) (Or.inl ⟨by rfl, ?_⟩) ?_ ?_
              rotate_left
              ·intro w'
               go_simp
               with_reducible rfl
              rotate_left
              ·simp only [Act.put, List.setIfInBounds_toArray, List.set_cons_zero, List.set_cons_succ, i64_w, i32_w]
               rfl
              refine pure_ (i := 11) (N := some 69) (v := ?_) (a' := ?_) m8_13 rfl rfl (any_of HT_.out q8_16) (fun _ _ _ h => h) (Or.inl ⟨by rfl, ?_⟩) ?_ ?_
              rotate_left
              ·intro w'
               go_simp
               with_reducible rfl
              rotate_left
              ·simp only [Act.put, List.setIfInBounds_toArray, List.set_cons_zero, List.set_cons_succ, i64_w, i32_w]
               rfl
              refine one_ (i := 12) (N := some 70) m8_14 rfl rfl (one_of HT_.out q8_16) q8_26 (fun K hK => ?_)
              refine goes_ Try.func19 q8_16 rfl #[.slice Ao143 t213.length co143, .slice Ao144 t222.length co144] (by rfl) rfl rfl q8_11 ?_
              with_reducible refine (batonref01_Same.calls kj35 _ _ t213 _ _ t222 false _ ?side1 ?side2 ?side3 ?side4 A44.out).mono ?_
              (case side1 => repeat (first | exact (Kd.R_reads' HO215.out).2.2 | (with_reducible refine Kd.C_alloc ?_ _) | (with_reducible refine Kd.C_drewN ?_ _) | (with_reducible refine Kd.C_drew ?_)))
              (case side2 => exact (Kd.R_reads' HO215.out).2.1)
              (case side3 => repeat (first | exact (Kd.R_reads' HO224.out).2.2 | (with_reducible refine Kd.C_alloc ?_ _) | (with_reducible refine Kd.C_drewN ?_ _) | (with_reducible refine Kd.C_drew ?_)))
              (case side4 => exact (Kd.R_reads' HO224.out).2.1)
              rintro e w' ⟨rfl, ⟨nd, rfl⟩⟩
              refine ⟨_, rfl, ?_⟩
              refine hK.out _ _ ⟨bc8_ BK217 0, bc8_ BK217 1, bc8_ BK226 0, bc8_ BK226 1⟩ (fun hHeld => ?_)
              clear hK K
              refine norm_ (a' := ?_) ?_ ?_
              rotate_left
              ·show Act.put _ (some 70) _ = _
               simp only [Act.put, List.setIfInBounds_toArray, List.set_cons_zero, List.set_cons_succ, i64_w, i32_w]
               rfl
              refine pure_ (i := 13) (N := some 71) (v := ?_) (a' := ?_) m8_15 rfl rfl (any_of HT_.out q8_16) (fun _ _ _ h => h) (Or.inl ⟨by rfl, ?_⟩) ?_ ?_
              rotate_left
              ·intro w'
               go_simp
               with_reducible rfl
              rotate_left
              ·simp only [Act.put, List.setIfInBounds_toArray, List.set_cons_zero, List.set_cons_succ, i64_w, i32_w]
               rfl
              refine pure_ (i := 14) (N := some 72) (v := ?_) (a' := ?_) m8_16 rfl rfl (any_of HT_.out q8_16) (fun _ _ _ h => h) (Or.inl ⟨by rfl, ?_⟩) ?_ ?_
              rotate_left
              ·intro w'
               go_simp
               with_reducible rfl
              rotate_left
              ·simp only [Act.put, List.setIfInBounds_toArray, List.set_cons_zero, List.set_cons_succ, i64_w, i32_w]
               rfl
              refine pure_ (i := 15) (N := some 73) (v := undef) (a' := ?_) m8_17 rfl rfl (any_of HT_.out q8_16) (fun _ _ _ h => h) (Or.inr ⟨by rfl, rfl⟩) ?_ ?_
              rotate_left
              ·simp only [Act.put, List.setIfInBounds_toArray, List.set_cons_zero, List.set_cons_succ, i64_w, i32_w]
               rfl
              refine pure_ (i := 16) (N := some 74) (v := undef) (a' := ?_) m8_18 rfl rfl (any_of HT_.out q8_16) (fun _ _ _ h => h) (Or.inr ⟨by rfl, rfl⟩) ?_ ?_
              rotate_left
              ·simp only [Act.put, List.setIfInBounds_toArray, List.set_cons_zero, List.set_cons_succ, i64_w, i32_w]
               rfl
              refine pure_ (i := 17) (N := some 75) (v := ?_) (a' := ?_) m8_19 rfl rfl (any_of HT_.out q8_16) (fun _ _ _ h => h) (Or.inl ⟨by rfl, ?_⟩) ?_ ?_
              rotate_left
              ·intro w'
               go_simp
               with_reducible rfl
              rotate_left
              ·simp only [Act.put, List.setIfInBounds_toArray, List.set_cons_zero, List.set_cons_succ, i64_w, i32_w]
               rfl
              refine pure_ (i := 18) (N := some 76) (v := ?_) (a' := ?_) m8_20 rfl rfl (any_of HT_.out q8_16) (fun _ _ _ h => h) (Or.inl ⟨by rfl, ?_⟩) ?_ ?_
              rotate_left
              ·intro w'
               go_simp
               with_reducible rfl
              rotate_left
              ·simp only [Act.put, List.setIfInBounds_toArray, List.set_cons_zero, List.set_cons_succ, i64_w, i32_w]
               rfl
              refine pure_ (i := 19) (N := some 77) (v := undef) (a' := ?_) m8_21 rfl rfl (any_of HT_.out q8_16) (fun _ _ _ h => h) (Or.inr ⟨by rfl, rfl⟩) ?_ ?_
              rotate_left
              ·simp only [Act.put, List.setIfInBounds_toArray, List.set_cons_zero, List.set_cons_succ, i64_w, i32_w]
               rfl
              refine pure_ (i := 20) (N := some 78) (v := undef) (a' := ?_) m8_23 rfl rfl (any_of HT_.out q8_16) (fun _ _ _ h => h) (Or.inr ⟨by rfl, rfl⟩) ?_ ?_
              rotate_left
              ·simp only [Act.put, List.setIfInBounds_toArray, List.set_cons_zero, List.set_cons_succ, i64_w, i32_w]
               rfl
              refine pure_ (i := 21) (N := some 79) (v := undef) (a' := ?_) m8_24 rfl rfl (any_of HT_.out q8_16) (fun _ _ _ h => h) (Or.inr ⟨by rfl, rfl⟩) ?_ ?_
              rotate_left
              ·simp only [Act.put, List.setIfInBounds_toArray, List.set_cons_zero, List.set_cons_succ, i64_w, i32_w]
               rfl
              refine pure_ (i := 22) (N := some 80) (v := undef) (a' := ?_) m8_25 rfl rfl (any_of HT_.out q8_16) (fun _ _ _ h => h) (Or.inr ⟨by rfl, rfl⟩) ?_ ?_
              rotate_left
              ·simp only [Act.put, List.setIfInBounds_toArray, List.set_cons_zero, List.set_cons_succ, i64_w, i32_w]
               rfl
              refine pure_ (i := 23) (N := some 81) (v := ?_) (a' := ?_) m8_26 rfl rfl (any_of HT_.out q8_16) (fun _ _ _ h => h) (Or.inl ⟨by rfl, ?_⟩) ?_ ?_
              rotate_left
              ·intro w'
               go_simp
               with_reducible rfl
              rotate_left
              ·simp only [Act.put, List.setIfInBounds_toArray, List.set_cons_zero, List.set_cons_succ, i64_w, i32_w]
               rfl
              refine pure_ (i := 24) (N := some 6) (v := ?_) (a' := ?_) m8_27 rfl rfl (any_of HT_.out q8_16) (fun _ _ _ h => h) (Or.inl ⟨by rfl, ?_⟩) ?_ ?_
              rotate_left
              ·intro w'
               go_simp
               with_reducible rfl
              rotate_left
              ·simp only [Act.put, List.setIfInBounds_toArray, List.set_cons_zero, List.set_cons_succ, i64_w, i32_w]
               rfl
              refine done_ (done_of HT_.out q8_16) ?_
              try go_wp2
              go_ret
              exact ⟨by first | rfl | (simp [errW_none, errW_some] <;> rfl) | (simp [*, errW_none, errW_some] <;> rfl), by repeat (first | (with_reducible first | exact HB.out | apply below_alloc | apply pw_below_drewN | apply below_drew1 | refine below_set ?_ GE199.out | refine below_set ?_ GE200.out | refine below_set ?_ GE206.out | refine below_set ?_ GE217.out | refine below_set ?_ GE226.out) | exact HB.out)⟩
            ·replace c43 := Bool.eq_false_iff.mpr c43
             subst c43
             have H1 : (some false) = some r := by rw [if_neg (show ¬ (false = true) by decide)] at H; exact H
             clear H
             have H := H1
             clear H1
             obtain rfl := Option.some.inj H
             have hnb145 := NB199_200.out
             have hnc145 := NB200_199.out
             have hnb146 := NB199_206.out
             have hnc146 := NB206_199.out
             have hcz147_0 : wc.cell? ⟨gb199, 0, none⟩ = some (.int .i64 a0_0) := bc8_ BK199 0
             have hcz147_1 : wc.cell? ⟨gb199, 1, none⟩ = some (.slice A0_1 l0_1.length c0_1) := bc8_ BK199 1
             have hfz147_0 := blk_frozen BK199.out 0
             have hfz147_1 := blk_frozen BK199.out 1
             have hnb148 := NB200_206.out
             have hnc148 := NB206_200.out
             have hcz149_0 : wc.cell? ⟨gb200, 0, none⟩ = some (.int .i64 a2_0) := bc8_ BK200 0
             have hcz149_1 : wc.cell? ⟨gb200, 1, none⟩ = some (.int .i64 a2_1) := bc8_ BK200 1
             have hfz149_0 := blk_frozen BK200.out 0
             have hfz149_1 := blk_frozen BK200.out 1
             try go_wp2_with (first | ((with_reducible refine gate_callee (f := 37) rfl ?_); refine goesL_ (some 43) rfl rfl Try.func37 q8_16 rfl #[.agg #[.int .i64 a0_0, .slice A0_1 l0_1.length c0_1], .int .i64 a2_0, .slice A1 l1.length c1, .int .i64 a2_1] rfl q8_11 ?_; (with_reducible refine (inbox_Take.calls kj35 a0_0 (fun k_ => k_ < w.heap.size) _ _ l0_1 a2_0 _ _ l1 a2_1 t209 t210 t213 t216 _ ?side1 ?side2 ?side3 A38.out).mono ?_); (case side1 => exact Kd.V_mk HC0_1.out (Kd.F_below (Kd.C_F k142_heap HR0_1.out) q8_4)); (case side2 => repeat (first | exact (Kd.C_below HR1.out HB.out) | (with_reducible refine Kd.C_alloc ?_ _) | (with_reducible refine Kd.C_drewN ?_ _) | (with_reducible refine Kd.C_drew ?_))); (case side3 => exact HC1.out); rintro e w150 ⟨v211, v214, rfl, ho0, ho1, hb⟩; refine ⟨_, rfl, ?_⟩; have n0_ := A8_ (Kd.R_below q8_9 hb); have n1_ := A8_ (Kd.V_lower (Kd.V_mono (ok' := fun k_ => some k_ ≠ (v214 : Value).ownBlock /\ some k_ ≠ (.slice Ao29 t203.length co29 : Value).ownBlock /\ k_ ≠ gb199 /\ k_ ≠ gb200 /\ k_ ≠ gb206) ho0 (fun k_ hk_ => ⟨hk_.2, Or.elim hk_.1 (fun hs_ => fun e_ => Nat.not_le.2 hs_ (Kd.R_base HO_207001.out k_ e_.symm)) (fun hn_ => (Kd.fresh' (Kd.R_lt q8_9) k_ hn_)), Or.elim hk_.1 (fun hs_ => fun e_ => Nat.not_le.2 hs_ (by rw [e_]; exact GW199.out)) (fun hn_ => (Kd.freshB (g := gb199) (o := .cells #[.int .i64 a0_0, .slice A0_1 l0_1.length c0_1] 68 (0, 0)) q8_5 k_ hn_)), Or.elim hk_.1 (fun hs_ => fun e_ => Nat.not_le.2 hs_ (by rw [e_]; exact GW200.out)) (fun hn_ => (Kd.freshB (g := gb200) (o := .cells #[.int .i64 a2_0, .int .i64 a2_1] 25 (0, 0)) q8_6 k_ hn_)), Or.elim hk_.1 (fun hs_ => fun e_ => Nat.not_le.2 hs_ (by rw [e_]; exact GW206.out)) (fun hn_ => (Kd.freshB (g := gb206) (o := .cells #[.int .i64 t202, .slice Ao29 t203.length co29] 77 (0, 0)) q8_7 k_ hn_))⟩)) (below_size q8_4)); have n2_ := A8_ (Kd.R_lower (Kd.R_mono (ok' := fun k_ => True) ho1 (fun _ hk_ => trivial)) (below_size q8_4)); have n3_ := A8_ (blk_below (g := gb199) (o := .cells #[.int .i64 a0_0, .slice A0_1 l0_1.length c0_1] 68 (0, 0)) q8_5 hb); have n4_ := A8_ (blk_below (g := gb200) (o := .cells #[.int .i64 a2_0, .int .i64 a2_1] 25 (0, 0)) q8_6 hb); have n5_ := A8_ (blk_below (g := gb206) (o := .cells #[.int .i64 t202, .slice Ao29 t203.length co29] 77 (0, 0)) q8_7 hb); have n6_ := A8_ (below_step q8_4 hb); clear HO_207001 BK199 BK200 BK206 HB; have HO_207001 := n0_; have HO212 := n1_; have HO215 := n2_; have BK199 := n3_; have BK200 := n4_; have BK206 := n5_; have HB := n6_; clear n0_ n1_ n2_ n3_ n4_ n5_ n6_; (try clear hb); (try clear hb2); (try clear hk); (try clear hi); (try clear ho0); (try clear ho1)) | ((with_reducible refine gate_dst (N := 9) rfl ?_); (try (refine gate_guard (by rfl) ?_; dsimp only)); refine box_event ?hg (N := 9) ?hd (cs := #[.int .i64 0, .slice none 0 0]) (t := 68) ?hr ?_; (case hd => rfl); (case hg => rfl); (case hr => first | (go_simp; done) | (go_simp; rfl)); intro gb217 hg w151 hbox hb; have n0_ := A8_ (Kd.R_below q8_9 hb); have n1_ := A8_ (Kd.V_below (Kd.V_elderB q8_13 gb217 (Nat.le_of_eq hg.symm)) hb); have n2_ := A8_ (Kd.R_below q8_12 hb); have n3_ := A8_ (blk_below (g := gb199) (o := .cells #[.int .i64 a0_0, .slice A0_1 l0_1.length c0_1] 68 (0, 0)) q8_5 hb); have n4_ := A8_ (blk_below (g := gb200) (o := .cells #[.int .i64 a2_0, .int .i64 a2_1] 25 (0, 0)) q8_6 hb); have n5_ := A8_ (blk_below (g := gb206) (o := .cells #[.int .i64 t202, .slice Ao29 t203.length co29] 77 (0, 0)) q8_7 hb); have n6_ := A8_ (below_step q8_4 hb); have n7_ := A8_ (hbox); have n8_ := A8_ ((by rw [hg]; exact (below_size q8_4) : w.heap.size <= gb217)); have n9_ := A8_ ((by rw [hg]; exact (below_size q8_4) : w.heap.size <= gb217)); have n10_ := A8_ ((by rw [hg]; exact Nat.ne_of_lt (blk_lt (g := gb199) (o := .cells #[.int .i64 a0_0, .slice A0_1 l0_1.length c0_1] 68 (0, 0)) q8_5) : gb199 ≠ gb217)); have n11_ := A8_ ((by rw [hg]; exact Nat.ne_of_gt (blk_lt (g := gb199) (o := .cells #[.int .i64 a0_0, .slice A0_1 l0_1.length c0_1] 68 (0, 0)) q8_5) : gb217 ≠ gb199)); have n12_ := A8_ ((by rw [hg]; exact Nat.ne_of_lt (blk_lt (g := gb200) (o := .cells #[.int .i64 a2_0, .int .i64 a2_1] 25 (0, 0)) q8_6) : gb200 ≠ gb217)); have n13_ := A8_ ((by rw [hg]; exact Nat.ne_of_gt (blk_lt (g := gb200) (o := .cells #[.int .i64 a2_0, .int .i64 a2_1] 25 (0, 0)) q8_6) : gb217 ≠ gb200)); have n14_ := A8_ ((by rw [hg]; exact Nat.ne_of_lt (blk_lt (g := gb206) (o := .cells #[.int .i64 t202, .slice Ao29 t203.length co29] 77 (0, 0)) q8_7) : gb206 ≠ gb217)); have n15_ := A8_ ((by rw [hg]; exact Nat.ne_of_gt (blk_lt (g := gb206) (o := .cells #[.int .i64 t202, .slice Ao29 t203.length co29] 77 (0, 0)) q8_7) : gb217 ≠ gb206)); clear HO_207001 HO212 HO215 BK199 BK200 BK206 HB; have HO_207001 := n0_; have HO212 := n1_; have HO215 := n2_; have BK199 := n3_; have BK200 := n4_; have BK206 := n5_; have HB := n6_; have BK217 := n7_; have GW217 := n8_; have GE217 := n9_; have NB199_217 := n10_; have NB217_199 := n11_; have NB200_217 := n12_; have NB217_200 := n13_; have NB206_217 := n14_; have NB217_206 := n15_; clear n0_ n1_ n2_ n3_ n4_ n5_ n6_ n7_ n8_ n9_ n10_ n11_ n12_ n13_ n14_ n15_; clear hb hbox hg; have hnb152 := NB217_199.out; have hnc152 := NB199_217.out; have hnb153 := NB217_200.out; have hnc153 := NB200_217.out; have hnb154 := NB217_206.out; have hnc154 := NB206_217.out; have hcz155_0 : w151.cell? ⟨gb217, 0, none⟩ = some (.int .i64 0) := bc8_ BK217 0; have hcz155_1 : w151.cell? ⟨gb217, 1, none⟩ = some (.slice none 0 0) := bc8_ BK217 1; have hfz155_0 := blk_frozen BK217.out 0; have hfz155_1 := blk_frozen BK217.out 1; obtain ⟨Ao156, co156, eo156⟩ := Kd.V_slice HO212.out; subst eo156) | ((with_reducible refine gate_store (t := 68) (p := 9) rfl ?_); refine store_event (t := 68) (p := 9) (v := ?vo_w157) (w1 := ((w151.setCell ⟨gb217, 0, none⟩ (.int .i64 t209)).setCell ⟨gb217, 1, none⟩ (.slice Ao156 t210.length co156))) ?hg ?ho ?hn ?hr ?_; (case ho => rfl); (case hg => rfl); (case hn => rfl); (case hr => first | (go_simp; done) | (go_simp; rfl)); intro w157 hw; have n0_ : Aside0 (Kd.R k144 144 w157 w.heap.size (fun _ => True) (.slice Ao29 t203.length co29) t203) := ⟨(by rw [hw]; exact (by (with_reducible repeat (first | apply Kd.R_alloc | apply Kd.R_drewN | apply Kd.R_drew)); exact Kd.R_mono (Kd.R_far (p := ⟨gb217, 1, none⟩) (Kd.R_far (p := ⟨gb217, 0, none⟩) (Kd.R_types HO_207001.out BK217.out q8_26) (fun _ hk => hk.2) (.int .i64 t209)) (fun _ hk => hk.2) (.slice Ao156 t210.length co156)) (fun _ hk => trivial)))⟩; have n1_ : Aside0 (Kd.V k142 142 w157 w.heap.size (fun k_ => some k_ ≠ (.slice Ao29 t203.length co29 : Value).ownBlock /\ some k_ ≠ (v214 : Value).ownBlock /\ k_ ≠ gb199 /\ k_ ≠ gb200 /\ k_ ≠ gb206 /\ k_ ≠ gb217) (.slice Ao156 t210.length co156) t210) := ⟨(by rw [hw]; exact (by (with_reducible repeat (first | apply Kd.V_alloc | apply Kd.V_drewN | apply Kd.V_drew)); exact Kd.V_mono (Kd.V_far (p := ⟨gb217, 1, none⟩) (Kd.V_far (p := ⟨gb217, 0, none⟩) (Kd.V_mono HO212.out (fun k_ hk => (⟨hk, hk.2⟩ : _ /\ k_ ≠ gb217))) (fun _ hk => hk.2) (.int .i64 t209)) (fun _ hk => hk.2) (.slice Ao156 t210.length co156)) (fun _ hk => ⟨hk.1.1.2.1, ⟨hk.1.1.1, ⟨hk.1.1.2.2.1, ⟨hk.1.1.2.2.2.1, ⟨hk.1.1.2.2.2.2, hk.1.2⟩⟩⟩⟩⟩)))⟩; have n2_ : Aside0 (Kd.R (Kd.int .u8) 5 w157 w.heap.size (fun _ => True) v214 t213) := ⟨(by rw [hw]; exact (by (with_reducible repeat (first | apply Kd.R_alloc | apply Kd.R_drewN | apply Kd.R_drew)); exact Kd.R_mono (Kd.R_far (p := ⟨gb217, 1, none⟩) (Kd.R_far (p := ⟨gb217, 0, none⟩) (Kd.R_types HO215.out BK217.out q8_26) (fun _ hk => hk.2) (.int .i64 t209)) (fun _ hk => hk.2) (.slice Ao156 t210.length co156)) (fun _ hk => trivial)))⟩; have n3_ : Aside0 (w157.heap[gb199]? = some (.cells #[.int .i64 a0_0, .slice A0_1 l0_1.length c0_1] 68 (0, 0))) := ⟨q8_25⟩; have n4_ : Aside0 (w157.heap[gb200]? = some (.cells #[.int .i64 a2_0, .int .i64 a2_1] 25 (0, 0))) := ⟨q8_23⟩; have n5_ : Aside0 (w157.heap[gb206]? = some (.cells #[.int .i64 t202, .slice Ao29 t203.length co29] 77 (0, 0))) := ⟨q8_21⟩; have n6_ : Aside0 (w157.heap[gb217]? = some (.cells #[.int .i64 t209, .slice Ao156 t210.length co156] 68 (0, 0))) := ⟨q8_15⟩; have n7_ : Aside0 (Below w.heap.size w w157) := ⟨(by rw [hw]; exact q8_3)⟩; clear hw HO_207001 HO212 HO215 BK199 BK200 BK206 BK217 HB; have HO_207001 := n0_; have HO212 := n1_; have HO215 := n2_; have BK199 := n3_; have BK200 := n4_; have BK206 := n5_; have BK217 := n6_; have HB := n7_; clear n0_ n1_ n2_ n3_ n4_ n5_ n6_ n7_; have hcz158_0 : w157.cell? ⟨gb206, 0, none⟩ = some (.int .i64 t202) := bc8_ BK206 0; have hcz158_1 : w157.cell? ⟨gb206, 1, none⟩ = some (.slice Ao29 t203.length co29) := bc8_ BK206 1; have hfz158_0 := blk_frozen BK206.out 0; have hfz158_1 := blk_frozen BK206.out 1; have hcz159_0 : w157.cell? ⟨gb200, 0, none⟩ = some (.int .i64 a2_0) := bc8_ BK200 0; have hcz159_1 : w157.cell? ⟨gb200, 1, none⟩ = some (.int .i64 a2_1) := bc8_ BK200 1; have hfz159_0 := blk_frozen BK200.out 0; have hfz159_1 := blk_frozen BK200.out 1) | ((with_reducible refine gate_callee (f := 41) rfl ?_); refine goesL_ (some 54) rfl rfl Try.func41 q8_16 rfl #[.agg #[.int .i64 t202, .slice Ao29 t203.length co29], .int .i64 a2_0, .slice A1 l1.length c1, .int .i64 a2_1] rfl q8_11 ?_; (with_reducible refine (batonref32_Take.calls kj35 t202 (fun k_ => some k_ = (.slice Ao29 t203.length co29 : Value).ownBlock) _ _ t203 a2_0 _ _ l1 a2_1 t218 t219 t222 t225 _ ?side1 ?side2 ?side3 A39.out).mono ?_); (case side1 => exact Kd.R_V (Kd.R_tight rfl (Kd.R_types (Kd.R_types (Kd.R_types (Kd.R_types (Kd.R_apart' (HO_207001.out) (Kd.R_typed HO215.out) q8_26) BK199.out q8_26) BK200.out q8_26) BK206.out q8_26) BK217.out q8_26))); (case side2 => repeat (first | exact (Kd.C_below HR1.out HB.out) | (with_reducible refine Kd.C_alloc ?_ _) | (with_reducible refine Kd.C_drewN ?_ _) | (with_reducible refine Kd.C_drew ?_))); (case side3 => exact HC1.out); rintro e w160 ⟨v220, v223, rfl, ho0, ho1, hb⟩; refine ⟨_, rfl, ?_⟩; have n0_ := A8_ (Kd.R_below q8_9 hb); have n1_ := A8_ (Kd.V_elder' q8_13 (Kd.R_base ho1) hb); have n2_ := A8_ (Kd.R_elder' q8_12 (Kd.R_base ho1) hb); have n3_ := A8_ (Kd.V_lower (Kd.V_mono (ok' := fun k_ => some k_ ≠ (v223 : Value).ownBlock /\ some k_ ≠ (v214 : Value).ownBlock /\ k_ ≠ gb199 /\ k_ ≠ gb200 /\ k_ ≠ gb206 /\ k_ ≠ gb217) ho0 (fun k_ hk_ => ⟨hk_.2, Or.elim hk_.1 (fun hs_ => ((Kd.R_types (Kd.R_types (Kd.R_types (Kd.R_types (Kd.R_apart' (HO_207001.out) (Kd.R_typed HO215.out) q8_26) BK199.out q8_26) BK200.out q8_26) BK206.out q8_26) BK217.out q8_26).1 k_ hs_.symm).1.1.1.1.2) (fun hn_ => (Kd.fresh' (Kd.R_lt q8_12) k_ hn_)), Or.elim hk_.1 (fun hs_ => ((Kd.R_types (Kd.R_types (Kd.R_types (Kd.R_types (Kd.R_apart' (HO_207001.out) (Kd.R_typed HO215.out) q8_26) BK199.out q8_26) BK200.out q8_26) BK206.out q8_26) BK217.out q8_26).1 k_ hs_.symm).1.1.1.2) (fun hn_ => (Kd.freshB (g := gb199) (o := .cells #[.int .i64 a0_0, .slice A0_1 l0_1.length c0_1] 68 (0, 0)) q8_5 k_ hn_)), Or.elim hk_.1 (fun hs_ => ((Kd.R_types (Kd.R_types (Kd.R_types (Kd.R_types (Kd.R_apart' (HO_207001.out) (Kd.R_typed HO215.out) q8_26) BK199.out q8_26) BK200.out q8_26) BK206.out q8_26) BK217.out q8_26).1 k_ hs_.symm).1.1.2) (fun hn_ => (Kd.freshB (g := gb200) (o := .cells #[.int .i64 a2_0, .int .i64 a2_1] 25 (0, 0)) q8_6 k_ hn_)), Or.elim hk_.1 (fun hs_ => ((Kd.R_types (Kd.R_types (Kd.R_types (Kd.R_types (Kd.R_apart' (HO_207001.out) (Kd.R_typed HO215.out) q8_26) BK199.out q8_26) BK200.out q8_26) BK206.out q8_26) BK217.out q8_26).1 k_ hs_.symm).1.2) (fun hn_ => (Kd.freshB (g := gb206) (o := .cells #[.int .i64 t202, .slice Ao29 t203.length co29] 77 (0, 0)) q8_7 k_ hn_)), Or.elim hk_.1 (fun hs_ => ((Kd.R_types (Kd.R_types (Kd.R_types (Kd.R_types (Kd.R_apart' (HO_207001.out) (Kd.R_typed HO215.out) q8_26) BK199.out q8_26) BK200.out q8_26) BK206.out q8_26) BK217.out q8_26).1 k_ hs_.symm).2) (fun hn_ => (Kd.freshB (g := gb217) (o := .cells #[.int .i64 t209, .slice Ao156 t210.length co156] 68 (0, 0)) q8_10 k_ hn_))⟩)) (below_size q8_3)); have n4_ := A8_ (Kd.R_lower (Kd.R_new' (Kd.R_mono (ok' := fun k_ => True) ho1 (fun _ hk_ => trivial)) (Kd.R_lt q8_12)) (below_size q8_3)); have n5_ := A8_ (blk_below (g := gb199) (o := .cells #[.int .i64 a0_0, .slice A0_1 l0_1.length c0_1] 68 (0, 0)) q8_5 hb); have n6_ := A8_ (blk_below (g := gb200) (o := .cells #[.int .i64 a2_0, .int .i64 a2_1] 25 (0, 0)) q8_6 hb); have n7_ := A8_ (blk_below (g := gb206) (o := .cells #[.int .i64 t202, .slice Ao29 t203.length co29] 77 (0, 0)) q8_7 hb); have n8_ := A8_ (blk_below (g := gb217) (o := .cells #[.int .i64 t209, .slice Ao156 t210.length co156] 68 (0, 0)) q8_10 hb); have n9_ := A8_ (below_step q8_3 hb); clear HO_207001 HO212 HO215 BK199 BK200 BK206 BK217 HB; have HO_207001 := n0_; have HO212 := n1_; have HO215 := n2_; have HO221 := n3_; have HO224 := n4_; have BK199 := n5_; have BK200 := n6_; have BK206 := n7_; have BK217 := n8_; have HB := n9_; clear n0_ n1_ n2_ n3_ n4_ n5_ n6_ n7_ n8_ n9_; (try clear hb); (try clear hb2); (try clear hk); (try clear hi); (try clear ho0); (try clear ho1)) | ((with_reducible refine gate_dst (N := 12) rfl ?_); (try (refine gate_guard (by rfl) ?_; dsimp only)); refine box_event ?hg (N := 12) ?hd (cs := #[.int .i64 0, .slice none 0 0]) (t := 77) ?hr ?_; (case hd => rfl); (case hg => rfl); (case hr => first | (go_simp; done) | (go_simp; rfl)); intro gb226 hg w161 hbox hb; have n0_ := A8_ (Kd.R_below q8_9 hb); have n1_ := A8_ (Kd.V_below (Kd.V_elderB q8_13 gb226 (Nat.le_of_eq hg.symm)) hb); have n2_ := A8_ (Kd.R_below q8_12 hb); have n3_ := A8_ (Kd.V_below (Kd.V_elderB q8_17 gb226 (Nat.le_of_eq hg.symm)) hb); have n4_ := A8_ (Kd.R_below q8_18 hb); have n5_ := A8_ (blk_below (g := gb199) (o := .cells #[.int .i64 a0_0, .slice A0_1 l0_1.length c0_1] 68 (0, 0)) q8_5 hb); have n6_ := A8_ (blk_below (g := gb200) (o := .cells #[.int .i64 a2_0, .int .i64 a2_1] 25 (0, 0)) q8_6 hb); have n7_ := A8_ (blk_below (g := gb206) (o := .cells #[.int .i64 t202, .slice Ao29 t203.length co29] 77 (0, 0)) q8_7 hb); have n8_ := A8_ (blk_below (g := gb217) (o := .cells #[.int .i64 t209, .slice Ao156 t210.length co156] 68 (0, 0)) q8_10 hb); have n9_ := A8_ (below_step q8_3 hb); have n10_ := A8_ (hbox); have n11_ := A8_ ((by rw [hg]; exact (below_size q8_3) : w.heap.size <= gb226)); have n12_ := A8_ ((by rw [hg]; exact (below_size q8_3) : w.heap.size <= gb226)); have n13_ := A8_ ((by rw [hg]; exact Nat.ne_of_lt (blk_lt (g := gb199) (o := .cells #[.int .i64 a0_0, .slice A0_1 l0_1.length c0_1] 68 (0, 0)) q8_5) : gb199 ≠ gb226)); have n14_ := A8_ ((by rw [hg]; exact Nat.ne_of_gt (blk_lt (g := gb199) (o := .cells #[.int .i64 a0_0, .slice A0_1 l0_1.length c0_1] 68 (0, 0)) q8_5) : gb226 ≠ gb199)); have n15_ := A8_ ((by rw [hg]; exact Nat.ne_of_lt (blk_lt (g := gb200) (o := .cells #[.int .i64 a2_0, .int .i64 a2_1] 25 (0, 0)) q8_6) : gb200 ≠ gb226)); have n16_ := A8_ ((by rw [hg]; exact Nat.ne_of_gt (blk_lt (g := gb200) (o := .cells #[.int .i64 a2_0, .int .i64 a2_1] 25 (0, 0)) q8_6) : gb226 ≠ gb200)); have n17_ := A8_ ((by rw [hg]; exact Nat.ne_of_lt (blk_lt (g := gb206) (o := .cells #[.int .i64 t202, .slice Ao29 t203.length co29] 77 (0, 0)) q8_7) : gb206 ≠ gb226)); have n18_ := A8_ ((by rw [hg]; exact Nat.ne_of_gt (blk_lt (g := gb206) (o := .cells #[.int .i64 t202, .slice Ao29 t203.length co29] 77 (0, 0)) q8_7) : gb226 ≠ gb206)); have n19_ := A8_ ((by rw [hg]; exact Nat.ne_of_lt (blk_lt (g := gb217) (o := .cells #[.int .i64 t209, .slice Ao156 t210.length co156] 68 (0, 0)) q8_10) : gb217 ≠ gb226)); have n20_ := A8_ ((by rw [hg]; exact Nat.ne_of_gt (blk_lt (g := gb217) (o := .cells #[.int .i64 t209, .slice Ao156 t210.length co156] 68 (0, 0)) q8_10) : gb226 ≠ gb217)); clear HO_207001 HO212 HO215 HO221 HO224 BK199 BK200 BK206 BK217 HB; have HO_207001 := n0_; have HO212 := n1_; have HO215 := n2_; have HO221 := n3_; have HO224 := n4_; have BK199 := n5_; have BK200 := n6_; have BK206 := n7_; have BK217 := n8_; have HB := n9_; have BK226 := n10_; have GW226 := n11_; have GE226 := n12_; have NB199_226 := n13_; have NB226_199 := n14_; have NB200_226 := n15_; have NB226_200 := n16_; have NB206_226 := n17_; have NB226_206 := n18_; have NB217_226 := n19_; have NB226_217 := n20_; clear n0_ n1_ n2_ n3_ n4_ n5_ n6_ n7_ n8_ n9_ n10_ n11_ n12_ n13_ n14_ n15_ n16_ n17_ n18_ n19_ n20_; clear hb hbox hg; have hnb162 := NB226_199.out; have hnc162 := NB199_226.out; have hnb163 := NB226_200.out; have hnc163 := NB200_226.out; have hnb164 := NB226_206.out; have hnc164 := NB206_226.out; have hnb165 := NB226_217.out; have hnc165 := NB217_226.out; have hcz166_0 : w161.cell? ⟨gb226, 0, none⟩ = some (.int .i64 0) := bc8_ BK226 0; have hcz166_1 : w161.cell? ⟨gb226, 1, none⟩ = some (.slice none 0 0) := bc8_ BK226 1; have hfz166_0 := blk_frozen BK226.out 0; have hfz166_1 := blk_frozen BK226.out 1; obtain ⟨Ao167, co167, eo167⟩ := Kd.V_slice HO221.out; subst eo167) | ((with_reducible refine gate_store (t := 77) (p := 12) rfl ?_); refine store_event (t := 77) (p := 12) (v := ?vo_w168) (w1 := ((w161.setCell ⟨gb226, 0, none⟩ (.int .i64 t218)).setCell ⟨gb226, 1, none⟩ (.slice Ao167 t219.length co167))) ?hg ?ho ?hn ?hr ?_; (case ho => rfl); (case hg => rfl); (case hn => rfl); (case hr => first | (go_simp; done) | (go_simp; rfl)); intro w168 hw; have n0_ : Aside0 (Kd.R k144 144 w168 w.heap.size (fun _ => True) (.slice Ao29 t203.length co29) t203) := ⟨(by rw [hw]; exact (by (with_reducible repeat (first | apply Kd.R_alloc | apply Kd.R_drewN | apply Kd.R_drew)); exact Kd.R_mono (Kd.R_far (p := ⟨gb226, 1, none⟩) (Kd.R_far (p := ⟨gb226, 0, none⟩) (Kd.R_types HO_207001.out BK226.out q8_26) (fun _ hk => hk.2) (.int .i64 t218)) (fun _ hk => hk.2) (.slice Ao167 t219.length co167)) (fun _ hk => trivial)))⟩; have n1_ : Aside0 (Kd.V k142 142 w168 w.heap.size (fun k_ => some k_ ≠ (.slice Ao29 t203.length co29 : Value).ownBlock /\ some k_ ≠ (v214 : Value).ownBlock /\ some k_ ≠ (v223 : Value).ownBlock /\ k_ ≠ gb199 /\ k_ ≠ gb200 /\ k_ ≠ gb206 /\ k_ ≠ gb217 /\ k_ ≠ gb226) (.slice Ao156 t210.length co156) t210) := ⟨(by rw [hw]; exact (by (with_reducible repeat (first | apply Kd.V_alloc | apply Kd.V_drewN | apply Kd.V_drew)); exact Kd.V_mono (Kd.V_far (p := ⟨gb226, 1, none⟩) (Kd.V_far (p := ⟨gb226, 0, none⟩) (Kd.V_mono HO212.out (fun k_ hk => (⟨hk, hk.2⟩ : _ /\ k_ ≠ gb226))) (fun _ hk => hk.2) (.int .i64 t218)) (fun _ hk => hk.2) (.slice Ao167 t219.length co167)) (fun _ hk => ⟨hk.1.1.1.1, ⟨hk.1.1.1.2.1, ⟨hk.1.1.2, ⟨hk.1.1.1.2.2.1, ⟨hk.1.1.1.2.2.2.1, ⟨hk.1.1.1.2.2.2.2.1, ⟨hk.1.1.1.2.2.2.2.2, hk.1.2⟩⟩⟩⟩⟩⟩⟩)))⟩; have n2_ : Aside0 (Kd.R (Kd.int .u8) 5 w168 w.heap.size (fun k_ => some k_ ≠ (v223 : Value).ownBlock) v214 t213) := ⟨(by rw [hw]; exact (by (with_reducible repeat (first | apply Kd.R_alloc | apply Kd.R_drewN | apply Kd.R_drew)); exact Kd.R_mono (Kd.R_far (p := ⟨gb226, 1, none⟩) (Kd.R_far (p := ⟨gb226, 0, none⟩) (Kd.R_types HO215.out BK226.out q8_26) (fun _ hk => hk.2) (.int .i64 t218)) (fun _ hk => hk.2) (.slice Ao167 t219.length co167)) (fun _ hk => hk.1.2)))⟩; have n3_ : Aside0 (Kd.V k144 144 w168 w.heap.size (fun k_ => some k_ ≠ (v214 : Value).ownBlock /\ some k_ ≠ (v223 : Value).ownBlock /\ k_ ≠ gb199 /\ k_ ≠ gb200 /\ k_ ≠ gb206 /\ k_ ≠ gb217 /\ k_ ≠ gb226) (.slice Ao167 t219.length co167) t219) := ⟨(by rw [hw]; exact (by (with_reducible repeat (first | apply Kd.V_alloc | apply Kd.V_drewN | apply Kd.V_drew)); exact Kd.V_mono (Kd.V_far (p := ⟨gb226, 1, none⟩) (Kd.V_far (p := ⟨gb226, 0, none⟩) (Kd.V_mono HO221.out (fun k_ hk => (⟨hk, hk.2⟩ : _ /\ k_ ≠ gb226))) (fun _ hk => hk.2) (.int .i64 t218)) (fun _ hk => hk.2) (.slice Ao167 t219.length co167)) (fun _ hk => ⟨hk.1.1.2.1, ⟨hk.1.1.1, ⟨hk.1.1.2.2.1, ⟨hk.1.1.2.2.2.1, ⟨hk.1.1.2.2.2.2.1, ⟨hk.1.1.2.2.2.2.2, hk.1.2⟩⟩⟩⟩⟩⟩)))⟩; have n4_ : Aside0 (Kd.R (Kd.int .u8) 5 w168 w.heap.size (fun k_ => some k_ ≠ (v214 : Value).ownBlock) v223 t222) := ⟨(by rw [hw]; exact (by (with_reducible repeat (first | apply Kd.R_alloc | apply Kd.R_drewN | apply Kd.R_drew)); exact Kd.R_mono (Kd.R_far (p := ⟨gb226, 1, none⟩) (Kd.R_far (p := ⟨gb226, 0, none⟩) (Kd.R_types HO224.out BK226.out q8_26) (fun _ hk => hk.2) (.int .i64 t218)) (fun _ hk => hk.2) (.slice Ao167 t219.length co167)) (fun _ hk => hk.1.2)))⟩; have n5_ : Aside0 (w168.heap[gb199]? = some (.cells #[.int .i64 a0_0, .slice A0_1 l0_1.length c0_1] 68 (0, 0))) := ⟨q8_24⟩; have n6_ : Aside0 (w168.heap[gb200]? = some (.cells #[.int .i64 a2_0, .int .i64 a2_1] 25 (0, 0))) := ⟨q8_22⟩; have n7_ : Aside0 (w168.heap[gb206]? = some (.cells #[.int .i64 t202, .slice Ao29 t203.length co29] 77 (0, 0))) := ⟨q8_20⟩; have n8_ : Aside0 (w168.heap[gb217]? = some (.cells #[.int .i64 t209, .slice Ao156 t210.length co156] 68 (0, 0))) := ⟨q8_19⟩; have n9_ : Aside0 (w168.heap[gb226]? = some (.cells #[.int .i64 t218, .slice Ao167 t219.length co167] 77 (0, 0))) := ⟨q8_14⟩; have n10_ : Aside0 (Below w.heap.size w w168) := ⟨(by rw [hw]; exact q8_8)⟩; clear hw HO_207001 HO212 HO215 HO221 HO224 BK199 BK200 BK206 BK217 BK226 HB; have HO_207001 := n0_; have HO212 := n1_; have HO215 := n2_; have HO221 := n3_; have HO224 := n4_; have BK199 := n5_; have BK200 := n6_; have BK206 := n7_; have BK217 := n8_; have BK226 := n9_; have HB := n10_; clear n0_ n1_ n2_ n3_ n4_ n5_ n6_ n7_ n8_ n9_ n10_))
             have n0_ := A8_ (Kd.R_drew HO_207001.out)
             have n1_ := A8_ (Kd.V_drew HO212.out)
             have n2_ := A8_ (Kd.R_drew HO215.out)
             have n3_ := A8_ (Kd.V_drew HO221.out)
             have n4_ := A8_ (Kd.R_drew HO224.out)
             have n5_ := A8_ (blk_drew BK199.out)
             have n6_ := A8_ (blk_drew BK200.out)
             have n7_ := A8_ (blk_drew BK206.out)
             have n8_ := A8_ (blk_drew BK217.out)
             have n9_ := A8_ (blk_drew BK226.out)
             have n10_ := A8_ (below_drew1 HB.out)
             clear HO_207001
             clear HO212
             clear HO215
             clear HO221
             clear HO224
             clear BK199
             clear BK200
             clear BK206
             clear BK217
             clear BK226
             clear HB
             have HO_207001 := n0_
             have HO212 := n1_
             have HO215 := n2_
             have HO221 := n3_
             have HO224 := n4_
             have BK199 := n5_
             have BK200 := n6_
             have BK206 := n7_
             have BK217 := n8_
             have BK226 := n9_
             have HB := n10_
             clear n0_ n1_ n2_ n3_ n4_ n5_ n6_ n7_ n8_ n9_ n10_
             refine start_ (n := 25) (S := fun w' => w'.cell? ⟨gb217, 0, none⟩ = some (.int .i64 t209) /\ w'.cell? ⟨gb217, 1, none⟩ = some (.slice Ao156 t210.length co156) /\ w'.cell? ⟨gb226, 0, none⟩ = some (.int .i64 t218) /\ w'.cell? ⟨gb226, 1, none⟩ = some (.slice Ao167 t219.length co167)) (ds := []) m8_0 q8_16 rfl rfl ⟨bc8_ BK217 0, bc8_ BK217 1, bc8_ BK226 0, bc8_ BK226 1⟩ (fun hHeld => ?_); refine with_tabW batonlaw32_InboxTakes.tab13 batonlaw32_InboxTakes.bits13 (fun HT_ HW_ => ?_)
             generalize w168.drew = w169 at HO_207001 HO212 HO215 HO221 HO224 BK199 BK200 BK206 BK217 BK226 HB hHeld ⊢
             refine pure_ (i := 0) (N := some 58) (v := ?_) (a' := ?_) m8_1 rfl rfl (any_of HT_.out q8_16) (fun _ _ _ h => h) (Or.inl ⟨by rfl, ?_⟩) ?_ ?_
             rotate_left
             ·intro w'
              go_simp
              with_reducible rfl
             rotate_left
             ·simp only [Act.put, List.setIfInBounds_toArray, List.set_cons_zero, List.set_cons_succ, i64_w, i32_w]
              rfl
             refine pure_ (i := 1) (N := some 59) (v := ?_) (a' := ?_) m8_2 rfl rfl (any_of HT_.out q8_16) (fun _ _ _ h => h) (Or.inl ⟨by rfl, ?_⟩) ?_ ?_
             rotate_left
             ·intro w'
              go_simp
              with_reducible rfl
             rotate_left
             ·simp only [Act.put, List.setIfInBounds_toArray, List.set_cons_zero, List.set_cons_succ, i64_w, i32_w]
              rfl
             refine pure_ (i := 2) (N := some 60) (v := ?_) (a' := ?_) m8_3 rfl rfl (any_of HT_.out q8_16) (fun _ _ _ h => h) (Or.inl ⟨by rfl, ?_⟩) ?_ ?_
             rotate_left
             ·intro w'
              go_simp
              with_reducible rfl
             rotate_left
             ·simp only [Act.put, List.setIfInBounds_toArray, List.set_cons_zero, List.set_cons_succ, i64_w, i32_w]
              rfl
             refine pure_ (i := 3) (N := some 61) (v := ?_) (a' := ?_) m8_4 rfl rfl (any_of HT_.out q8_16) (fun _ _ _ h => h) (Or.inl ⟨by rfl, ?_⟩) ?_ ?_
             rotate_left
             ·intro w'
              go_simp
              with_reducible rfl
             rotate_left
             ·simp only [Act.put, List.setIfInBounds_toArray, List.set_cons_zero, List.set_cons_succ, i64_w, i32_w]
              rfl
             refine take_ (i := 4) (N := some 62) (v := ?_) (a' := ?_) m8_5 rfl rfl (take_ofW HT_.out HW_.out q8_16) (fun _ _ _ h => h) (Or.inl ⟨by rfl, ?_⟩) hHeld ?_ ?_
             rotate_left
             ·rintro w' ⟨s0, s1, s2, s3⟩
              go_simp
              with_reducible rfl
             rotate_left
             ·simp only [Act.put, List.setIfInBounds_toArray, List.set_cons_zero, List.set_cons_succ, i64_w, i32_w]
              rfl
             refine take_ (i := 6) (N := some 64) (v := ?_) (a' := ?_) m8_6 rfl rfl (take_ofW HT_.out HW_.out q8_16) (fun _ _ _ h => h) (Or.inl ⟨by rfl, ?_⟩) hHeld ?_ ?_
             rotate_left
             ·rintro w' ⟨s0, s1, s2, s3⟩
              go_simp
              with_reducible rfl
             rotate_left
             ·simp only [Act.put, List.setIfInBounds_toArray, List.set_cons_zero, List.set_cons_succ, i64_w, i32_w]
              rfl
             refine one_ (i := 5) (N := some 63) m8_8 rfl rfl (one_of HT_.out q8_16) q8_26 (fun K hK => ?_)
             refine goes_ Try.func38 q8_16 rfl #[.agg #[.int .i64 t209, .slice Ao156 t210.length co156]] (by rfl) rfl rfl q8_11 ?_
             with_reducible refine (batonlaw32_Ref.calls kj35 t209 _ _ t210 t227 t228 _ ?side1 ?side2 A41.out).mono ?_
             (case side1 => repeat (first | exact (Kd.V_reads' HO212.out).2.2 | (with_reducible refine Kd.C_alloc ?_ _) | (with_reducible refine Kd.C_drewN ?_ _) | (with_reducible refine Kd.C_drew ?_)))
             (case side2 => exact (Kd.V_reads' HO212.out).2.1)
             rintro e w170 ⟨v229, rfl, ho0, hb⟩
             refine ⟨_, rfl, ?_⟩
             have n0_ := A8_ (Kd.R_elder' q8_9 (Kd.R_base ho0) hb)
             have n1_ := A8_ (Kd.V_elder' q8_13 (Kd.R_base ho0) hb)
             have n2_ := A8_ (Kd.R_below q8_12 hb)
             have n3_ := A8_ (Kd.V_elder' q8_17 (Kd.R_base ho0) hb)
             have n4_ := A8_ (Kd.R_below q8_18 hb)
             have n5_ := A8_ (Kd.R_lower (Kd.R_new' ho0 (Kd.R_lt q8_9)) (below_size q8_8))
             have n6_ := A8_ (blk_below (g := gb199) (o := .cells #[.int .i64 a0_0, .slice A0_1 l0_1.length c0_1] 68 (0, 0)) q8_5 hb)
             have n7_ := A8_ (blk_below (g := gb200) (o := .cells #[.int .i64 a2_0, .int .i64 a2_1] 25 (0, 0)) q8_6 hb)
             have n8_ := A8_ (blk_below (g := gb206) (o := .cells #[.int .i64 t202, .slice Ao29 t203.length co29] 77 (0, 0)) q8_7 hb)
             have n9_ := A8_ (blk_below (g := gb217) (o := .cells #[.int .i64 t209, .slice Ao156 t210.length co156] 68 (0, 0)) q8_10 hb)
             have n10_ := A8_ (blk_below (g := gb226) (o := .cells #[.int .i64 t218, .slice Ao167 t219.length co167] 77 (0, 0)) q8_27 hb)
             have n11_ := A8_ (below_step q8_8 hb)
             clear HO_207001
             clear HO212
             clear HO215
             clear HO221
             clear HO224
             clear BK199
             clear BK200
             clear BK206
             clear BK217
             clear BK226
             clear HB
             have HO_207001 := n0_
             have HO212 := n1_
             have HO215 := n2_
             have HO221 := n3_
             have HO224 := n4_
             have HO230 := n5_
             have BK199 := n6_
             have BK200 := n7_
             have BK206 := n8_
             have BK217 := n9_
             have BK226 := n10_
             have HB := n11_
             clear n0_ n1_ n2_ n3_ n4_ n5_ n6_ n7_ n8_ n9_ n10_ n11_
             (try clear hb)
             (try clear hb2)
             (try clear hk)
             (try clear hi)
             (try clear ho0)
             obtain ⟨Ao171, co171, eo171⟩ := Kd.R_slice HO230.out
             (first | subst eo171 | (injection eo171 with f1_ f2_ f3_; have f4_ := f1_.symm; have f5_ := f3_.symm; clear f1_ f2_ f3_; subst f4_; subst f5_))
             refine hK.out _ _ ⟨bc8_ BK217 0, bc8_ BK217 1, bc8_ BK226 0, bc8_ BK226 1⟩ (fun hHeld => ?_)
             clear hK K
             refine norm_ (a' := ?_) ?_ ?_
             rotate_left
             ·show Act.put _ (some 63) _ = _
              simp only [Act.put, List.setIfInBounds_toArray, List.set_cons_zero, List.set_cons_succ, i64_w, i32_w]
              rfl
             refine one_ (i := 7) (N := some 65) m8_9 rfl rfl (one_of HT_.out q8_16) q8_26 (fun K hK => ?_)
             refine goes_ Try.func42 q8_16 rfl #[.agg #[.int .i64 t227, .slice Ao171 t228.length co171], .agg #[.int .i64 t218, .slice Ao167 t219.length co167]] (by rfl) rfl rfl q8_11 ?_
             with_reducible refine (batonref32_Same.calls kj35 t227 _ _ t228 t218 _ _ t219 false _ ?side1 ?side2 ?side3 ?side4 A42.out).mono ?_
             (case side1 => repeat (first | exact (Kd.R_reads' HO230.out).2.2 | (with_reducible refine Kd.C_alloc ?_ _) | (with_reducible refine Kd.C_drewN ?_ _) | (with_reducible refine Kd.C_drew ?_)))
             (case side2 => exact (Kd.R_reads' HO230.out).2.1)
             (case side3 => repeat (first | exact (Kd.V_reads' HO221.out).2.2 | (with_reducible refine Kd.C_alloc ?_ _) | (with_reducible refine Kd.C_drewN ?_ _) | (with_reducible refine Kd.C_drew ?_)))
             (case side4 => exact (Kd.V_reads' HO221.out).2.1)
             rintro e w172 ⟨rfl, hb⟩
             refine ⟨_, rfl, ?_⟩
             have n0_ := A8_ (Kd.R_below q8_9 hb)
             have n1_ := A8_ (Kd.V_below q8_13 hb)
             have n2_ := A8_ (Kd.R_below q8_12 hb)
             have n3_ := A8_ (Kd.V_below q8_17 hb)
             have n4_ := A8_ (Kd.R_below q8_18 hb)
             have n5_ := A8_ (Kd.R_below q8_29 hb)
             have n6_ := A8_ (blk_below (g := gb199) (o := .cells #[.int .i64 a0_0, .slice A0_1 l0_1.length c0_1] 68 (0, 0)) q8_5 hb)
             have n7_ := A8_ (blk_below (g := gb200) (o := .cells #[.int .i64 a2_0, .int .i64 a2_1] 25 (0, 0)) q8_6 hb)
             have n8_ := A8_ (blk_below (g := gb206) (o := .cells #[.int .i64 t202, .slice Ao29 t203.length co29] 77 (0, 0)) q8_7 hb)
             have n9_ := A8_ (blk_below (g := gb217) (o := .cells #[.int .i64 t209, .slice Ao156 t210.length co156] 68 (0, 0)) q8_10 hb)
             have n10_ := A8_ (blk_below (g := gb226) (o := .cells #[.int .i64 t218, .slice Ao167 t219.length co167] 77 (0, 0)) q8_27 hb)
             have n11_ := A8_ (below_step q8_8 hb)
             clear HO_207001
             clear HO212
             clear HO215
             clear HO221
             clear HO224
             clear HO230
             clear BK199
             clear BK200
             clear BK206
             clear BK217
             clear BK226
             clear HB
             have HO_207001 := n0_
             have HO212 := n1_
             have HO215 := n2_
             have HO221 := n3_
             have HO224 := n4_
             have HO230 := n5_
             have BK199 := n6_
             have BK200 := n7_
             have BK206 := n8_
             have BK217 := n9_
             have BK226 := n10_
             have HB := n11_
             clear n0_ n1_ n2_ n3_ n4_ n5_ n6_ n7_ n8_ n9_ n10_ n11_
             (try clear hb)
             (try clear hb2)
             (try clear hk)
             (try clear hi)
             refine hK.out _ _ ⟨bc8_ BK217 0, bc8_ BK217 1, bc8_ BK226 0, bc8_ BK226 1⟩ (fun hHeld => ?_)
             clear hK K
             refine norm_ (a' := ?_) ?_ ?_
             rotate_left
             ·show Act.put _ (some 65) _ = _
              simp only [Act.put, List.setIfInBounds_toArray, List.set_cons_zero, List.set_cons_succ, i64_w, i32_w]
              rfl
             refine pure_ (i := 8) (N := some 66) (v := ?_) (a' := ?_) m8_10 rfl rfl (any_of HT_.out q8_16) (fun _ _ _ h => h) (Or.inl ⟨by rfl, ?_⟩) ?_ ?_
             rotate_left
             ·intro w'
              go_simp
              with_reducible rfl
             rotate_left
             ·simp only [Act.put, List.setIfInBounds_toArray, List.set_cons_zero, List.set_cons_succ, i64_w, i32_w]
              rfl
             refine pure_ (i := 9) (N := some 67) (v := ?_) (a' := ?_) m8_11 rfl rfl (any_of HT_.out q8_16) (fun _ _ _ h => h) (Or.inl ⟨by rfl, ?_⟩) ?_ ?_
             rotate_left
             ·intro w'
              go_simp
              with_reducible rfl
             rotate_left
             ·simp only [Act.put, List.setIfInBounds_toArray, List.set_cons_zero, List.set_cons_succ, i64_w, i32_w]
              rfl
             refine pure_ (i := 10) (N := some 68) (v := undef) (a' := ?_) m8_12 rfl rfl (any_of HT_.out q8_16) (fun _ _ _ h => h) (Or.inr ⟨by rfl, rfl⟩) ?_ ?_
             rotate_left
             ·simp only [Act.put, List.setIfInBounds_toArray, List.set_cons_zero, List.set_cons_succ, i64_w, i32_w]
              rfl
             refine pure_ (i := 11) (N := some 69) (v := undef) (a' := ?_) m8_13 rfl rfl (any_of HT_.out q8_16) (fun _ _ _ h => h) (Or.inr ⟨by rfl, rfl⟩) ?_ ?_
             rotate_left
             ·simp only [Act.put, List.setIfInBounds_toArray, List.set_cons_zero, List.set_cons_succ, i64_w, i32_w]
              rfl
             refine pure_ (i := 12) (N := some 70) (v := undef) (a' := ?_) m8_14 rfl rfl (any_of HT_.out q8_16) (fun _ _ _ h => h) (Or.inr ⟨by rfl, rfl⟩) ?_ ?_
             rotate_left
             ·simp only [Act.put, List.setIfInBounds_toArray, List.set_cons_zero, List.set_cons_succ, i64_w, i32_w]
              rfl
             refine pure_ (i := 13) (N := some 71) (v := ?_) (a' := ?_) m8_15 rfl rfl (any_of HT_.out q8_16) (fun _ _ _ h => h) (Or.inl ⟨by rfl, ?_⟩) ?_ ?_
             rotate_left
             ·intro w'
              go_simp
              with_reducible rfl
             rotate_left
             ·simp only [Act.put, List.setIfInBounds_toArray, List.set_cons_zero, List.set_cons_succ, i64_w, i32_w]
              rfl
             refine pure_ (i := 14) (N := some 72) (v := ?_) (a' := ?_) m8_16 rfl rfl (any_of HT_.out q8_16) (fun _ _ _ h => h) (Or.inl ⟨by rfl, ?_⟩) ?_ ?_
             rotate_left
             ·intro w'
              go_simp
              with_reducible rfl
             rotate_left
             ·simp only [Act.put, List.setIfInBounds_toArray, List.set_cons_zero, List.set_cons_succ, i64_w, i32_w]
              rfl
             refine pure_ (i := 15) (N := some 73) (v := undef) (a' := ?_) m8_17 rfl rfl (any_of HT_.out q8_16) (fun _ _ _ h => h) (Or.inr ⟨by rfl, rfl⟩) ?_ ?_
             rotate_left
             ·simp only [Act.put, List.setIfInBounds_toArray, List.set_cons_zero, List.set_cons_succ, i64_w, i32_w]
              rfl
             refine pure_ (i := 16) (N := some 74) (v := undef) (a' := ?_) m8_18 rfl rfl (any_of HT_.out q8_16) (fun _ _ _ h => h) (Or.inr ⟨by rfl, rfl⟩) ?_ ?_
             rotate_left
             ·simp only [Act.put, List.setIfInBounds_toArray, List.set_cons_zero, List.set_cons_succ, i64_w, i32_w]
              rfl
             refine pure_ (i := 17) (N := some 75) (v := ?_) (a' := ?_) m8_19 rfl rfl (any_of HT_.out q8_16) (fun _ _ _ h => h) (Or.inl ⟨by rfl, ?_⟩) ?_ ?_
             rotate_left
             ·intro w'
              go_simp
              with_reducible rfl
             rotate_left
             ·simp only [Act.put, List.setIfInBounds_toArray, List.set_cons_zero, List.set_cons_succ, i64_w, i32_w]
              rfl
             refine pure_ (i := 18) (N := some 76) (v := ?_) (a' := ?_) m8_20 rfl rfl (any_of HT_.out q8_16) (fun _ _ _ h => h) (Or.inl ⟨by rfl, ?_⟩) ?_ ?_
             rotate_left
             ·intro w'
              go_simp
              with_reducible rfl
             rotate_left
             ·simp only [Act.put, List.setIfInBounds_toArray, List.set_cons_zero, List.set_cons_succ, i64_w, i32_w]
              rfl
             refine pure_ (i := 19) (N := some 77) (v := undef) (a' := ?_) m8_21 rfl rfl (any_of HT_.out q8_16) (fun _ _ _ h => h) (Or.inr ⟨by rfl, rfl⟩) ?_ ?_
             rotate_left
             ·simp only [Act.put, List.setIfInBounds_toArray, List.set_cons_zero, List.set_cons_succ, i64_w, i32_w]
              rfl
             refine pure_ (i := 20) (N := some 78) (v := undef) (a' := ?_) m8_23 rfl rfl (any_of HT_.out q8_16) (fun _ _ _ h => h) (Or.inr ⟨by rfl, rfl⟩) ?_ ?_
             rotate_left
             ·simp only [Act.put, List.setIfInBounds_toArray, List.set_cons_zero, List.set_cons_succ, i64_w, i32_w]
              rfl
             refine pure_ (i := 21) (N := some 79) (v := undef) (a' := ?_) m8_24 rfl rfl (any_of HT_.out q8_16) (fun _ _ _ h => h) (Or.inr ⟨by rfl, rfl⟩) ?_ ?_
             rotate_left
             ·simp only [Act.put, List.setIfInBounds_toArray, List.set_cons_zero, List.set_cons_succ, i64_w, i32_w]
              rfl
             refine pure_ (i := 22) (N := some 80) (v := undef) (a' := ?_) m8_25 rfl rfl (any_of HT_.out q8_16) (fun _ _ _ h => h) (Or.inr ⟨by rfl, rfl⟩) ?_ ?_
             rotate_left
             ·simp only [Act.put, List.setIfInBounds_toArray, List.set_cons_zero, List.set_cons_succ, i64_w, i32_w]
              rfl
             refine pure_ (i := 23) (N := some 81) (v := ?_) (a' := ?_) m8_26 rfl rfl (any_of HT_.out q8_16) (fun _ _ _ h => h) (Or.inl ⟨by rfl, ?_⟩) ?_ ?_
             rotate_left
             ·intro w'
              go_simp
              with_reducible rfl
             rotate_left
             ·simp only [Act.put, List.setIfInBounds_toArray, List.set_cons_zero, List.set_cons_succ, i64_w, i32_w]
              rfl
             refine pure_ (i := 24) (N := some 6) (v := ?_) (a' := ?_) m8_27 rfl rfl (any_of HT_.out q8_16) (fun _ _ _ h => h) (Or.inl ⟨by rfl, ?_⟩) ?_ ?_
             rotate_left
             ·intro w'
              go_simp
              with_reducible rfl
             rotate_left
             ·simp only [Act.put, List.setIfInBounds_toArray, List.set_cons_zero, List.set_cons_succ, i64_w, i32_w]
              rfl
             refine done_ (done_of HT_.out q8_16) ?_
             try go_wp2
             go_ret
             exact ⟨by first | rfl | (simp [errW_none, errW_some] <;> rfl) | (simp [*, errW_none, errW_some] <;> rfl), by repeat (first | (with_reducible first | exact HB.out | apply below_alloc | apply pw_below_drewN | apply below_drew1 | refine below_set ?_ GE199.out | refine below_set ?_ GE200.out | refine below_set ?_ GE206.out | refine below_set ?_ GE217.out | refine below_set ?_ GE226.out) | exact HB.out)⟩
           ·rw [if_neg c40] at H
            have c40b0 : (t216 == t225) = false := beq_eq_false_iff_ne.mpr c40
            have c40b1 : (t216 != t225) = true := bne_iff_ne.mpr c40
            obtain rfl := Option.some.inj H
            have hnb173 := NB199_200.out
            have hnc173 := NB200_199.out
            have hnb174 := NB199_206.out
            have hnc174 := NB206_199.out
            have hcz175_0 : wc.cell? ⟨gb199, 0, none⟩ = some (.int .i64 a0_0) := bc8_ BK199 0
            have hcz175_1 : wc.cell? ⟨gb199, 1, none⟩ = some (.slice A0_1 l0_1.length c0_1) := bc8_ BK199 1
            have hfz175_0 := blk_frozen BK199.out 0
            have hfz175_1 := blk_frozen BK199.out 1
            have hnb176 := NB200_206.out
            have hnc176 := NB206_200.out
            have hcz177_0 : wc.cell? ⟨gb200, 0, none⟩ = some (.int .i64 a2_0) := bc8_ BK200 0
            have hcz177_1 : wc.cell? ⟨gb200, 1, none⟩ = some (.int .i64 a2_1) := bc8_ BK200 1
            have hfz177_0 := blk_frozen BK200.out 0
            have hfz177_1 := blk_frozen BK200.out 1
            try go_wp2_with (first | ((with_reducible refine gate_callee (f := 37) rfl ?_); refine goesL_ (some 43) rfl rfl Try.func37 q8_16 rfl #[.agg #[.int .i64 a0_0, .slice A0_1 l0_1.length c0_1], .int .i64 a2_0, .slice A1 l1.length c1, .int .i64 a2_1] rfl q8_11 ?_; (with_reducible refine (inbox_Take.calls kj35 a0_0 (fun k_ => k_ < w.heap.size) _ _ l0_1 a2_0 _ _ l1 a2_1 t209 t210 t213 t216 _ ?side1 ?side2 ?side3 A38.out).mono ?_); (case side1 => exact Kd.V_mk HC0_1.out (Kd.F_below (Kd.C_F k142_heap HR0_1.out) q8_4)); (case side2 => repeat (first | exact (Kd.C_below HR1.out HB.out) | (with_reducible refine Kd.C_alloc ?_ _) | (with_reducible refine Kd.C_drewN ?_ _) | (with_reducible refine Kd.C_drew ?_))); (case side3 => exact HC1.out); rintro e w178 ⟨v211, v214, rfl, ho0, ho1, hb⟩; refine ⟨_, rfl, ?_⟩; have n0_ := A8_ (Kd.R_below q8_9 hb); have n1_ := A8_ (Kd.V_lower (Kd.V_mono (ok' := fun k_ => some k_ ≠ (v214 : Value).ownBlock /\ some k_ ≠ (.slice Ao29 t203.length co29 : Value).ownBlock /\ k_ ≠ gb199 /\ k_ ≠ gb200 /\ k_ ≠ gb206) ho0 (fun k_ hk_ => ⟨hk_.2, Or.elim hk_.1 (fun hs_ => fun e_ => Nat.not_le.2 hs_ (Kd.R_base HO_207001.out k_ e_.symm)) (fun hn_ => (Kd.fresh' (Kd.R_lt q8_9) k_ hn_)), Or.elim hk_.1 (fun hs_ => fun e_ => Nat.not_le.2 hs_ (by rw [e_]; exact GW199.out)) (fun hn_ => (Kd.freshB (g := gb199) (o := .cells #[.int .i64 a0_0, .slice A0_1 l0_1.length c0_1] 68 (0, 0)) q8_5 k_ hn_)), Or.elim hk_.1 (fun hs_ => fun e_ => Nat.not_le.2 hs_ (by rw [e_]; exact GW200.out)) (fun hn_ => (Kd.freshB (g := gb200) (o := .cells #[.int .i64 a2_0, .int .i64 a2_1] 25 (0, 0)) q8_6 k_ hn_)), Or.elim hk_.1 (fun hs_ => fun e_ => Nat.not_le.2 hs_ (by rw [e_]; exact GW206.out)) (fun hn_ => (Kd.freshB (g := gb206) (o := .cells #[.int .i64 t202, .slice Ao29 t203.length co29] 77 (0, 0)) q8_7 k_ hn_))⟩)) (below_size q8_4)); have n2_ := A8_ (Kd.R_lower (Kd.R_mono (ok' := fun k_ => True) ho1 (fun _ hk_ => trivial)) (below_size q8_4)); have n3_ := A8_ (blk_below (g := gb199) (o := .cells #[.int .i64 a0_0, .slice A0_1 l0_1.length c0_1] 68 (0, 0)) q8_5 hb); have n4_ := A8_ (blk_below (g := gb200) (o := .cells #[.int .i64 a2_0, .int .i64 a2_1] 25 (0, 0)) q8_6 hb); have n5_ := A8_ (blk_below (g := gb206) (o := .cells #[.int .i64 t202, .slice Ao29 t203.length co29] 77 (0, 0)) q8_7 hb); have n6_ := A8_ (below_step q8_4 hb); clear HO_207001 BK199 BK200 BK206 HB; have HO_207001 := n0_; have HO212 := n1_; have HO215 := n2_; have BK199 := n3_; have BK200 := n4_; have BK206 := n5_; have HB := n6_; clear n0_ n1_ n2_ n3_ n4_ n5_ n6_; (try clear hb); (try clear hb2); (try clear hk); (try clear hi); (try clear ho0); (try clear ho1)) | ((with_reducible refine gate_dst (N := 9) rfl ?_); (try (refine gate_guard (by rfl) ?_; dsimp only)); refine box_event ?hg (N := 9) ?hd (cs := #[.int .i64 0, .slice none 0 0]) (t := 68) ?hr ?_; (case hd => rfl); (case hg => rfl); (case hr => first | (go_simp; done) | (go_simp; rfl)); intro gb217 hg w179 hbox hb; have n0_ := A8_ (Kd.R_below q8_9 hb); have n1_ := A8_ (Kd.V_below (Kd.V_elderB q8_13 gb217 (Nat.le_of_eq hg.symm)) hb); have n2_ := A8_ (Kd.R_below q8_12 hb); have n3_ := A8_ (blk_below (g := gb199) (o := .cells #[.int .i64 a0_0, .slice A0_1 l0_1.length c0_1] 68 (0, 0)) q8_5 hb); have n4_ := A8_ (blk_below (g := gb200) (o := .cells #[.int .i64 a2_0, .int .i64 a2_1] 25 (0, 0)) q8_6 hb); have n5_ := A8_ (blk_below (g := gb206) (o := .cells #[.int .i64 t202, .slice Ao29 t203.length co29] 77 (0, 0)) q8_7 hb); have n6_ := A8_ (below_step q8_4 hb); have n7_ := A8_ (hbox); have n8_ := A8_ ((by rw [hg]; exact (below_size q8_4) : w.heap.size <= gb217)); have n9_ := A8_ ((by rw [hg]; exact (below_size q8_4) : w.heap.size <= gb217)); have n10_ := A8_ ((by rw [hg]; exact Nat.ne_of_lt (blk_lt (g := gb199) (o := .cells #[.int .i64 a0_0, .slice A0_1 l0_1.length c0_1] 68 (0, 0)) q8_5) : gb199 ≠ gb217)); have n11_ := A8_ ((by rw [hg]; exact Nat.ne_of_gt (blk_lt (g := gb199) (o := .cells #[.int .i64 a0_0, .slice A0_1 l0_1.length c0_1] 68 (0, 0)) q8_5) : gb217 ≠ gb199)); have n12_ := A8_ ((by rw [hg]; exact Nat.ne_of_lt (blk_lt (g := gb200) (o := .cells #[.int .i64 a2_0, .int .i64 a2_1] 25 (0, 0)) q8_6) : gb200 ≠ gb217)); have n13_ := A8_ ((by rw [hg]; exact Nat.ne_of_gt (blk_lt (g := gb200) (o := .cells #[.int .i64 a2_0, .int .i64 a2_1] 25 (0, 0)) q8_6) : gb217 ≠ gb200)); have n14_ := A8_ ((by rw [hg]; exact Nat.ne_of_lt (blk_lt (g := gb206) (o := .cells #[.int .i64 t202, .slice Ao29 t203.length co29] 77 (0, 0)) q8_7) : gb206 ≠ gb217)); have n15_ := A8_ ((by rw [hg]; exact Nat.ne_of_gt (blk_lt (g := gb206) (o := .cells #[.int .i64 t202, .slice Ao29 t203.length co29] 77 (0, 0)) q8_7) : gb217 ≠ gb206)); clear HO_207001 HO212 HO215 BK199 BK200 BK206 HB; have HO_207001 := n0_; have HO212 := n1_; have HO215 := n2_; have BK199 := n3_; have BK200 := n4_; have BK206 := n5_; have HB := n6_; have BK217 := n7_; have GW217 := n8_; have GE217 := n9_; have NB199_217 := n10_; have NB217_199 := n11_; have NB200_217 := n12_; have NB217_200 := n13_; have NB206_217 := n14_; have NB217_206 := n15_; clear n0_ n1_ n2_ n3_ n4_ n5_ n6_ n7_ n8_ n9_ n10_ n11_ n12_ n13_ n14_ n15_; clear hb hbox hg; have hnb180 := NB217_199.out; have hnc180 := NB199_217.out; have hnb181 := NB217_200.out; have hnc181 := NB200_217.out; have hnb182 := NB217_206.out; have hnc182 := NB206_217.out; have hcz183_0 : w179.cell? ⟨gb217, 0, none⟩ = some (.int .i64 0) := bc8_ BK217 0; have hcz183_1 : w179.cell? ⟨gb217, 1, none⟩ = some (.slice none 0 0) := bc8_ BK217 1; have hfz183_0 := blk_frozen BK217.out 0; have hfz183_1 := blk_frozen BK217.out 1; obtain ⟨Ao184, co184, eo184⟩ := Kd.V_slice HO212.out; subst eo184) | ((with_reducible refine gate_store (t := 68) (p := 9) rfl ?_); refine store_event (t := 68) (p := 9) (v := ?vo_w185) (w1 := ((w179.setCell ⟨gb217, 0, none⟩ (.int .i64 t209)).setCell ⟨gb217, 1, none⟩ (.slice Ao184 t210.length co184))) ?hg ?ho ?hn ?hr ?_; (case ho => rfl); (case hg => rfl); (case hn => rfl); (case hr => first | (go_simp; done) | (go_simp; rfl)); intro w185 hw; have n0_ : Aside0 (Kd.R k144 144 w185 w.heap.size (fun _ => True) (.slice Ao29 t203.length co29) t203) := ⟨(by rw [hw]; exact (by (with_reducible repeat (first | apply Kd.R_alloc | apply Kd.R_drewN | apply Kd.R_drew)); exact Kd.R_mono (Kd.R_far (p := ⟨gb217, 1, none⟩) (Kd.R_far (p := ⟨gb217, 0, none⟩) (Kd.R_types HO_207001.out BK217.out q8_26) (fun _ hk => hk.2) (.int .i64 t209)) (fun _ hk => hk.2) (.slice Ao184 t210.length co184)) (fun _ hk => trivial)))⟩; have n1_ : Aside0 (Kd.V k142 142 w185 w.heap.size (fun k_ => some k_ ≠ (.slice Ao29 t203.length co29 : Value).ownBlock /\ some k_ ≠ (v214 : Value).ownBlock /\ k_ ≠ gb199 /\ k_ ≠ gb200 /\ k_ ≠ gb206 /\ k_ ≠ gb217) (.slice Ao184 t210.length co184) t210) := ⟨(by rw [hw]; exact (by (with_reducible repeat (first | apply Kd.V_alloc | apply Kd.V_drewN | apply Kd.V_drew)); exact Kd.V_mono (Kd.V_far (p := ⟨gb217, 1, none⟩) (Kd.V_far (p := ⟨gb217, 0, none⟩) (Kd.V_mono HO212.out (fun k_ hk => (⟨hk, hk.2⟩ : _ /\ k_ ≠ gb217))) (fun _ hk => hk.2) (.int .i64 t209)) (fun _ hk => hk.2) (.slice Ao184 t210.length co184)) (fun _ hk => ⟨hk.1.1.2.1, ⟨hk.1.1.1, ⟨hk.1.1.2.2.1, ⟨hk.1.1.2.2.2.1, ⟨hk.1.1.2.2.2.2, hk.1.2⟩⟩⟩⟩⟩)))⟩; have n2_ : Aside0 (Kd.R (Kd.int .u8) 5 w185 w.heap.size (fun _ => True) v214 t213) := ⟨(by rw [hw]; exact (by (with_reducible repeat (first | apply Kd.R_alloc | apply Kd.R_drewN | apply Kd.R_drew)); exact Kd.R_mono (Kd.R_far (p := ⟨gb217, 1, none⟩) (Kd.R_far (p := ⟨gb217, 0, none⟩) (Kd.R_types HO215.out BK217.out q8_26) (fun _ hk => hk.2) (.int .i64 t209)) (fun _ hk => hk.2) (.slice Ao184 t210.length co184)) (fun _ hk => trivial)))⟩; have n3_ : Aside0 (w185.heap[gb199]? = some (.cells #[.int .i64 a0_0, .slice A0_1 l0_1.length c0_1] 68 (0, 0))) := ⟨q8_25⟩; have n4_ : Aside0 (w185.heap[gb200]? = some (.cells #[.int .i64 a2_0, .int .i64 a2_1] 25 (0, 0))) := ⟨q8_23⟩; have n5_ : Aside0 (w185.heap[gb206]? = some (.cells #[.int .i64 t202, .slice Ao29 t203.length co29] 77 (0, 0))) := ⟨q8_21⟩; have n6_ : Aside0 (w185.heap[gb217]? = some (.cells #[.int .i64 t209, .slice Ao184 t210.length co184] 68 (0, 0))) := ⟨q8_15⟩; have n7_ : Aside0 (Below w.heap.size w w185) := ⟨(by rw [hw]; exact q8_3)⟩; clear hw HO_207001 HO212 HO215 BK199 BK200 BK206 BK217 HB; have HO_207001 := n0_; have HO212 := n1_; have HO215 := n2_; have BK199 := n3_; have BK200 := n4_; have BK206 := n5_; have BK217 := n6_; have HB := n7_; clear n0_ n1_ n2_ n3_ n4_ n5_ n6_ n7_; have hcz186_0 : w185.cell? ⟨gb206, 0, none⟩ = some (.int .i64 t202) := bc8_ BK206 0; have hcz186_1 : w185.cell? ⟨gb206, 1, none⟩ = some (.slice Ao29 t203.length co29) := bc8_ BK206 1; have hfz186_0 := blk_frozen BK206.out 0; have hfz186_1 := blk_frozen BK206.out 1; have hcz187_0 : w185.cell? ⟨gb200, 0, none⟩ = some (.int .i64 a2_0) := bc8_ BK200 0; have hcz187_1 : w185.cell? ⟨gb200, 1, none⟩ = some (.int .i64 a2_1) := bc8_ BK200 1; have hfz187_0 := blk_frozen BK200.out 0; have hfz187_1 := blk_frozen BK200.out 1) | ((with_reducible refine gate_callee (f := 41) rfl ?_); refine goesL_ (some 54) rfl rfl Try.func41 q8_16 rfl #[.agg #[.int .i64 t202, .slice Ao29 t203.length co29], .int .i64 a2_0, .slice A1 l1.length c1, .int .i64 a2_1] rfl q8_11 ?_; (with_reducible refine (batonref32_Take.calls kj35 t202 (fun k_ => some k_ = (.slice Ao29 t203.length co29 : Value).ownBlock) _ _ t203 a2_0 _ _ l1 a2_1 t218 t219 t222 t225 _ ?side1 ?side2 ?side3 A39.out).mono ?_); (case side1 => exact Kd.R_V (Kd.R_tight rfl (Kd.R_types (Kd.R_types (Kd.R_types (Kd.R_types (Kd.R_apart' (HO_207001.out) (Kd.R_typed HO215.out) q8_26) BK199.out q8_26) BK200.out q8_26) BK206.out q8_26) BK217.out q8_26))); (case side2 => repeat (first | exact (Kd.C_below HR1.out HB.out) | (with_reducible refine Kd.C_alloc ?_ _) | (with_reducible refine Kd.C_drewN ?_ _) | (with_reducible refine Kd.C_drew ?_))); (case side3 => exact HC1.out); rintro e w188 ⟨v220, v223, rfl, ho0, ho1, hb⟩; refine ⟨_, rfl, ?_⟩; have n0_ := A8_ (Kd.R_below q8_9 hb); have n1_ := A8_ (Kd.V_elder' q8_13 (Kd.R_base ho1) hb); have n2_ := A8_ (Kd.R_elder' q8_12 (Kd.R_base ho1) hb); have n3_ := A8_ (Kd.V_lower (Kd.V_mono (ok' := fun k_ => some k_ ≠ (v223 : Value).ownBlock /\ some k_ ≠ (v214 : Value).ownBlock /\ k_ ≠ gb199 /\ k_ ≠ gb200 /\ k_ ≠ gb206 /\ k_ ≠ gb217) ho0 (fun k_ hk_ => ⟨hk_.2, Or.elim hk_.1 (fun hs_ => ((Kd.R_types (Kd.R_types (Kd.R_types (Kd.R_types (Kd.R_apart' (HO_207001.out) (Kd.R_typed HO215.out) q8_26) BK199.out q8_26) BK200.out q8_26) BK206.out q8_26) BK217.out q8_26).1 k_ hs_.symm).1.1.1.1.2) (fun hn_ => (Kd.fresh' (Kd.R_lt q8_12) k_ hn_)), Or.elim hk_.1 (fun hs_ => ((Kd.R_types (Kd.R_types (Kd.R_types (Kd.R_types (Kd.R_apart' (HO_207001.out) (Kd.R_typed HO215.out) q8_26) BK199.out q8_26) BK200.out q8_26) BK206.out q8_26) BK217.out q8_26).1 k_ hs_.symm).1.1.1.2) (fun hn_ => (Kd.freshB (g := gb199) (o := .cells #[.int .i64 a0_0, .slice A0_1 l0_1.length c0_1] 68 (0, 0)) q8_5 k_ hn_)), Or.elim hk_.1 (fun hs_ => ((Kd.R_types (Kd.R_types (Kd.R_types (Kd.R_types (Kd.R_apart' (HO_207001.out) (Kd.R_typed HO215.out) q8_26) BK199.out q8_26) BK200.out q8_26) BK206.out q8_26) BK217.out q8_26).1 k_ hs_.symm).1.1.2) (fun hn_ => (Kd.freshB (g := gb200) (o := .cells #[.int .i64 a2_0, .int .i64 a2_1] 25 (0, 0)) q8_6 k_ hn_)), Or.elim hk_.1 (fun hs_ => ((Kd.R_types (Kd.R_types (Kd.R_types (Kd.R_types (Kd.R_apart' (HO_207001.out) (Kd.R_typed HO215.out) q8_26) BK199.out q8_26) BK200.out q8_26) BK206.out q8_26) BK217.out q8_26).1 k_ hs_.symm).1.2) (fun hn_ => (Kd.freshB (g := gb206) (o := .cells #[.int .i64 t202, .slice Ao29 t203.length co29] 77 (0, 0)) q8_7 k_ hn_)), Or.elim hk_.1 (fun hs_ => ((Kd.R_types (Kd.R_types (Kd.R_types (Kd.R_types (Kd.R_apart' (HO_207001.out) (Kd.R_typed HO215.out) q8_26) BK199.out q8_26) BK200.out q8_26) BK206.out q8_26) BK217.out q8_26).1 k_ hs_.symm).2) (fun hn_ => (Kd.freshB (g := gb217) (o := .cells #[.int .i64 t209, .slice Ao184 t210.length co184] 68 (0, 0)) q8_10 k_ hn_))⟩)) (below_size q8_3)); have n4_ := A8_ (Kd.R_lower (Kd.R_new' (Kd.R_mono (ok' := fun k_ => True) ho1 (fun _ hk_ => trivial)) (Kd.R_lt q8_12)) (below_size q8_3)); have n5_ := A8_ (blk_below (g := gb199) (o := .cells #[.int .i64 a0_0, .slice A0_1 l0_1.length c0_1] 68 (0, 0)) q8_5 hb); have n6_ := A8_ (blk_below (g := gb200) (o := .cells #[.int .i64 a2_0, .int .i64 a2_1] 25 (0, 0)) q8_6 hb); have n7_ := A8_ (blk_below (g := gb206) (o := .cells #[.int .i64 t202, .slice Ao29 t203.length co29] 77 (0, 0)) q8_7 hb); have n8_ := A8_ (blk_below (g := gb217) (o := .cells #[.int .i64 t209, .slice Ao184 t210.length co184] 68 (0, 0)) q8_10 hb); have n9_ := A8_ (below_step q8_3 hb); clear HO_207001 HO212 HO215 BK199 BK200 BK206 BK217 HB; have HO_207001 := n0_; have HO212 := n1_; have HO215 := n2_; have HO221 := n3_; have HO224 := n4_; have BK199 := n5_; have BK200 := n6_; have BK206 := n7_; have BK217 := n8_; have HB := n9_; clear n0_ n1_ n2_ n3_ n4_ n5_ n6_ n7_ n8_ n9_; (try clear hb); (try clear hb2); (try clear hk); (try clear hi); (try clear ho0); (try clear ho1)) | ((with_reducible refine gate_dst (N := 12) rfl ?_); (try (refine gate_guard (by rfl) ?_; dsimp only)); refine box_event ?hg (N := 12) ?hd (cs := #[.int .i64 0, .slice none 0 0]) (t := 77) ?hr ?_; (case hd => rfl); (case hg => rfl); (case hr => first | (go_simp; done) | (go_simp; rfl)); intro gb226 hg w189 hbox hb; have n0_ := A8_ (Kd.R_below q8_9 hb); have n1_ := A8_ (Kd.V_below (Kd.V_elderB q8_13 gb226 (Nat.le_of_eq hg.symm)) hb); have n2_ := A8_ (Kd.R_below q8_12 hb); have n3_ := A8_ (Kd.V_below (Kd.V_elderB q8_17 gb226 (Nat.le_of_eq hg.symm)) hb); have n4_ := A8_ (Kd.R_below q8_18 hb); have n5_ := A8_ (blk_below (g := gb199) (o := .cells #[.int .i64 a0_0, .slice A0_1 l0_1.length c0_1] 68 (0, 0)) q8_5 hb); have n6_ := A8_ (blk_below (g := gb200) (o := .cells #[.int .i64 a2_0, .int .i64 a2_1] 25 (0, 0)) q8_6 hb); have n7_ := A8_ (blk_below (g := gb206) (o := .cells #[.int .i64 t202, .slice Ao29 t203.length co29] 77 (0, 0)) q8_7 hb); have n8_ := A8_ (blk_below (g := gb217) (o := .cells #[.int .i64 t209, .slice Ao184 t210.length co184] 68 (0, 0)) q8_10 hb); have n9_ := A8_ (below_step q8_3 hb); have n10_ := A8_ (hbox); have n11_ := A8_ ((by rw [hg]; exact (below_size q8_3) : w.heap.size <= gb226)); have n12_ := A8_ ((by rw [hg]; exact (below_size q8_3) : w.heap.size <= gb226)); have n13_ := A8_ ((by rw [hg]; exact Nat.ne_of_lt (blk_lt (g := gb199) (o := .cells #[.int .i64 a0_0, .slice A0_1 l0_1.length c0_1] 68 (0, 0)) q8_5) : gb199 ≠ gb226)); have n14_ := A8_ ((by rw [hg]; exact Nat.ne_of_gt (blk_lt (g := gb199) (o := .cells #[.int .i64 a0_0, .slice A0_1 l0_1.length c0_1] 68 (0, 0)) q8_5) : gb226 ≠ gb199)); have n15_ := A8_ ((by rw [hg]; exact Nat.ne_of_lt (blk_lt (g := gb200) (o := .cells #[.int .i64 a2_0, .int .i64 a2_1] 25 (0, 0)) q8_6) : gb200 ≠ gb226)); have n16_ := A8_ ((by rw [hg]; exact Nat.ne_of_gt (blk_lt (g := gb200) (o := .cells #[.int .i64 a2_0, .int .i64 a2_1] 25 (0, 0)) q8_6) : gb226 ≠ gb200)); have n17_ := A8_ ((by rw [hg]; exact Nat.ne_of_lt (blk_lt (g := gb206) (o := .cells #[.int .i64 t202, .slice Ao29 t203.length co29] 77 (0, 0)) q8_7) : gb206 ≠ gb226)); have n18_ := A8_ ((by rw [hg]; exact Nat.ne_of_gt (blk_lt (g := gb206) (o := .cells #[.int .i64 t202, .slice Ao29 t203.length co29] 77 (0, 0)) q8_7) : gb226 ≠ gb206)); have n19_ := A8_ ((by rw [hg]; exact Nat.ne_of_lt (blk_lt (g := gb217) (o := .cells #[.int .i64 t209, .slice Ao184 t210.length co184] 68 (0, 0)) q8_10) : gb217 ≠ gb226)); have n20_ := A8_ ((by rw [hg]; exact Nat.ne_of_gt (blk_lt (g := gb217) (o := .cells #[.int .i64 t209, .slice Ao184 t210.length co184] 68 (0, 0)) q8_10) : gb226 ≠ gb217)); clear HO_207001 HO212 HO215 HO221 HO224 BK199 BK200 BK206 BK217 HB; have HO_207001 := n0_; have HO212 := n1_; have HO215 := n2_; have HO221 := n3_; have HO224 := n4_; have BK199 := n5_; have BK200 := n6_; have BK206 := n7_; have BK217 := n8_; have HB := n9_; have BK226 := n10_; have GW226 := n11_; have GE226 := n12_; have NB199_226 := n13_; have NB226_199 := n14_; have NB200_226 := n15_; have NB226_200 := n16_; have NB206_226 := n17_; have NB226_206 := n18_; have NB217_226 := n19_; have NB226_217 := n20_; clear n0_ n1_ n2_ n3_ n4_ n5_ n6_ n7_ n8_ n9_ n10_ n11_ n12_ n13_ n14_ n15_ n16_ n17_ n18_ n19_ n20_; clear hb hbox hg; have hnb190 := NB226_199.out; have hnc190 := NB199_226.out; have hnb191 := NB226_200.out; have hnc191 := NB200_226.out; have hnb192 := NB226_206.out; have hnc192 := NB206_226.out; have hnb193 := NB226_217.out; have hnc193 := NB217_226.out; have hcz194_0 : w189.cell? ⟨gb226, 0, none⟩ = some (.int .i64 0) := bc8_ BK226 0; have hcz194_1 : w189.cell? ⟨gb226, 1, none⟩ = some (.slice none 0 0) := bc8_ BK226 1; have hfz194_0 := blk_frozen BK226.out 0; have hfz194_1 := blk_frozen BK226.out 1; obtain ⟨Ao195, co195, eo195⟩ := Kd.V_slice HO221.out; subst eo195) | ((with_reducible refine gate_store (t := 77) (p := 12) rfl ?_); refine store_event (t := 77) (p := 12) (v := ?vo_w196) (w1 := ((w189.setCell ⟨gb226, 0, none⟩ (.int .i64 t218)).setCell ⟨gb226, 1, none⟩ (.slice Ao195 t219.length co195))) ?hg ?ho ?hn ?hr ?_; (case ho => rfl); (case hg => rfl); (case hn => rfl); (case hr => first | (go_simp; done) | (go_simp; rfl)); intro w196 hw; have n0_ : Aside0 (Kd.R k144 144 w196 w.heap.size (fun _ => True) (.slice Ao29 t203.length co29) t203) := ⟨(by rw [hw]; exact (by (with_reducible repeat (first | apply Kd.R_alloc | apply Kd.R_drewN | apply Kd.R_drew)); exact Kd.R_mono (Kd.R_far (p := ⟨gb226, 1, none⟩) (Kd.R_far (p := ⟨gb226, 0, none⟩) (Kd.R_types HO_207001.out BK226.out q8_26) (fun _ hk => hk.2) (.int .i64 t218)) (fun _ hk => hk.2) (.slice Ao195 t219.length co195)) (fun _ hk => trivial)))⟩; have n1_ : Aside0 (Kd.V k142 142 w196 w.heap.size (fun k_ => some k_ ≠ (.slice Ao29 t203.length co29 : Value).ownBlock /\ some k_ ≠ (v214 : Value).ownBlock /\ some k_ ≠ (v223 : Value).ownBlock /\ k_ ≠ gb199 /\ k_ ≠ gb200 /\ k_ ≠ gb206 /\ k_ ≠ gb217 /\ k_ ≠ gb226) (.slice Ao184 t210.length co184) t210) := ⟨(by rw [hw]; exact (by (with_reducible repeat (first | apply Kd.V_alloc | apply Kd.V_drewN | apply Kd.V_drew)); exact Kd.V_mono (Kd.V_far (p := ⟨gb226, 1, none⟩) (Kd.V_far (p := ⟨gb226, 0, none⟩) (Kd.V_mono HO212.out (fun k_ hk => (⟨hk, hk.2⟩ : _ /\ k_ ≠ gb226))) (fun _ hk => hk.2) (.int .i64 t218)) (fun _ hk => hk.2) (.slice Ao195 t219.length co195)) (fun _ hk => ⟨hk.1.1.1.1, ⟨hk.1.1.1.2.1, ⟨hk.1.1.2, ⟨hk.1.1.1.2.2.1, ⟨hk.1.1.1.2.2.2.1, ⟨hk.1.1.1.2.2.2.2.1, ⟨hk.1.1.1.2.2.2.2.2, hk.1.2⟩⟩⟩⟩⟩⟩⟩)))⟩; have n2_ : Aside0 (Kd.R (Kd.int .u8) 5 w196 w.heap.size (fun k_ => some k_ ≠ (v223 : Value).ownBlock) v214 t213) := ⟨(by rw [hw]; exact (by (with_reducible repeat (first | apply Kd.R_alloc | apply Kd.R_drewN | apply Kd.R_drew)); exact Kd.R_mono (Kd.R_far (p := ⟨gb226, 1, none⟩) (Kd.R_far (p := ⟨gb226, 0, none⟩) (Kd.R_types HO215.out BK226.out q8_26) (fun _ hk => hk.2) (.int .i64 t218)) (fun _ hk => hk.2) (.slice Ao195 t219.length co195)) (fun _ hk => hk.1.2)))⟩; have n3_ : Aside0 (Kd.V k144 144 w196 w.heap.size (fun k_ => some k_ ≠ (v214 : Value).ownBlock /\ some k_ ≠ (v223 : Value).ownBlock /\ k_ ≠ gb199 /\ k_ ≠ gb200 /\ k_ ≠ gb206 /\ k_ ≠ gb217 /\ k_ ≠ gb226) (.slice Ao195 t219.length co195) t219) := ⟨(by rw [hw]; exact (by (with_reducible repeat (first | apply Kd.V_alloc | apply Kd.V_drewN | apply Kd.V_drew)); exact Kd.V_mono (Kd.V_far (p := ⟨gb226, 1, none⟩) (Kd.V_far (p := ⟨gb226, 0, none⟩) (Kd.V_mono HO221.out (fun k_ hk => (⟨hk, hk.2⟩ : _ /\ k_ ≠ gb226))) (fun _ hk => hk.2) (.int .i64 t218)) (fun _ hk => hk.2) (.slice Ao195 t219.length co195)) (fun _ hk => ⟨hk.1.1.2.1, ⟨hk.1.1.1, ⟨hk.1.1.2.2.1, ⟨hk.1.1.2.2.2.1, ⟨hk.1.1.2.2.2.2.1, ⟨hk.1.1.2.2.2.2.2, hk.1.2⟩⟩⟩⟩⟩⟩)))⟩; have n4_ : Aside0 (Kd.R (Kd.int .u8) 5 w196 w.heap.size (fun k_ => some k_ ≠ (v214 : Value).ownBlock) v223 t222) := ⟨(by rw [hw]; exact (by (with_reducible repeat (first | apply Kd.R_alloc | apply Kd.R_drewN | apply Kd.R_drew)); exact Kd.R_mono (Kd.R_far (p := ⟨gb226, 1, none⟩) (Kd.R_far (p := ⟨gb226, 0, none⟩) (Kd.R_types HO224.out BK226.out q8_26) (fun _ hk => hk.2) (.int .i64 t218)) (fun _ hk => hk.2) (.slice Ao195 t219.length co195)) (fun _ hk => hk.1.2)))⟩; have n5_ : Aside0 (w196.heap[gb199]? = some (.cells #[.int .i64 a0_0, .slice A0_1 l0_1.length c0_1] 68 (0, 0))) := ⟨q8_24⟩; have n6_ : Aside0 (w196.heap[gb200]? = some (.cells #[.int .i64 a2_0, .int .i64 a2_1] 25 (0, 0))) := ⟨q8_22⟩; have n7_ : Aside0 (w196.heap[gb206]? = some (.cells #[.int .i64 t202, .slice Ao29 t203.length co29] 77 (0, 0))) := ⟨q8_20⟩; have n8_ : Aside0 (w196.heap[gb217]? = some (.cells #[.int .i64 t209, .slice Ao184 t210.length co184] 68 (0, 0))) := ⟨q8_19⟩; have n9_ : Aside0 (w196.heap[gb226]? = some (.cells #[.int .i64 t218, .slice Ao195 t219.length co195] 77 (0, 0))) := ⟨q8_14⟩; have n10_ : Aside0 (Below w.heap.size w w196) := ⟨(by rw [hw]; exact q8_8)⟩; clear hw HO_207001 HO212 HO215 HO221 HO224 BK199 BK200 BK206 BK217 BK226 HB; have HO_207001 := n0_; have HO212 := n1_; have HO215 := n2_; have HO221 := n3_; have HO224 := n4_; have BK199 := n5_; have BK200 := n6_; have BK206 := n7_; have BK217 := n8_; have BK226 := n9_; have HB := n10_; clear n0_ n1_ n2_ n3_ n4_ n5_ n6_ n7_ n8_ n9_ n10_))
            have n0_ := A8_ (Kd.R_drew HO_207001.out)
            have n1_ := A8_ (Kd.V_drew HO212.out)
            have n2_ := A8_ (Kd.R_drew HO215.out)
            have n3_ := A8_ (Kd.V_drew HO221.out)
            have n4_ := A8_ (Kd.R_drew HO224.out)
            have n5_ := A8_ (blk_drew BK199.out)
            have n6_ := A8_ (blk_drew BK200.out)
            have n7_ := A8_ (blk_drew BK206.out)
            have n8_ := A8_ (blk_drew BK217.out)
            have n9_ := A8_ (blk_drew BK226.out)
            have n10_ := A8_ (below_drew1 HB.out)
            clear HO_207001
            clear HO212
            clear HO215
            clear HO221
            clear HO224
            clear BK199
            clear BK200
            clear BK206
            clear BK217
            clear BK226
            clear HB
            have HO_207001 := n0_
            have HO212 := n1_
            have HO215 := n2_
            have HO221 := n3_
            have HO224 := n4_
            have BK199 := n5_
            have BK200 := n6_
            have BK206 := n7_
            have BK217 := n8_
            have BK226 := n9_
            have HB := n10_
            clear n0_ n1_ n2_ n3_ n4_ n5_ n6_ n7_ n8_ n9_ n10_
            refine start_ (n := 25) (S := fun w' => True) (ds := []) m8_0 q8_16 rfl rfl trivial (fun hHeld => ?_); refine with_tabW batonlaw32_InboxTakes.tab13 batonlaw32_InboxTakes.bits13 (fun HT_ HW_ => ?_)
            generalize w196.drew = w197 at HO_207001 HO212 HO215 HO221 HO224 BK199 BK200 BK206 BK217 BK226 HB hHeld ⊢
            refine pure_ (i := 0) (N := some 58) (v := ?_) (a' := ?_) m8_1 rfl rfl (any_of HT_.out q8_16) (fun _ _ _ h => h) (Or.inl ⟨by rfl, ?_⟩) ?_ ?_
            rotate_left
            ·intro w'
             go_simp
             with_reducible rfl
            rotate_left
            ·simp only [Act.put, List.setIfInBounds_toArray, List.set_cons_zero, List.set_cons_succ, i64_w, i32_w]
             rfl
            refine pure_ (i := 1) (N := some 59) (v := ?_) (a' := ?_) m8_2 rfl rfl (any_of HT_.out q8_16) (fun _ _ _ h => h) (Or.inl ⟨by rfl, ?_⟩) ?_ ?_
            rotate_left
            ·intro w'
             go_simp
             with_reducible rfl
            rotate_left
            ·simp only [Act.put, List.setIfInBounds_toArray, List.set_cons_zero, List.set_cons_succ, i64_w, i32_w]
             rfl
            refine pure_ (i := 2) (N := some 60) (v := ?_) (a' := ?_) m8_3 rfl rfl (any_of HT_.out q8_16) (fun _ _ _ h => h) (Or.inl ⟨by rfl, ?_⟩) ?_ ?_
            rotate_left
            ·intro w'
             go_simp
             with_reducible rfl
            rotate_left
            ·simp only [Act.put, List.setIfInBounds_toArray, List.set_cons_zero, List.set_cons_succ, i64_w, i32_w]
             rfl
            refine pure_ (i := 3) (N := some 61) (v := ?_) (a' := ?_) m8_4 rfl rfl (any_of HT_.out q8_16) (fun _ _ _ h => h) (Or.inl ⟨by rfl, ?_⟩) ?_ ?_
            rotate_left
            ·intro w'
             go_simp
             with_reducible rfl
            rotate_left
            ·simp only [Act.put, List.setIfInBounds_toArray, List.set_cons_zero, List.set_cons_succ, i64_w, i32_w]
             rfl
            refine pure_ (i := 4) (N := some 62) (v := undef) (a' := ?_) m8_5 rfl rfl (any_of HT_.out q8_16) (fun _ _ _ h => h) (Or.inr ⟨by rfl, rfl⟩) ?_ ?_
            rotate_left
            ·simp only [Act.put, List.setIfInBounds_toArray, List.set_cons_zero, List.set_cons_succ, i64_w, i32_w]
             rfl
            refine pure_ (i := 5) (N := some 63) (v := undef) (a' := ?_) #[true, true, true, true, true, true, false, false, false, false, false, false, false, false, false, false, false, false, false, false, false, false, false, false, false] rfl rfl (any_of HT_.out q8_16) (fun _ _ _ h => h) (Or.inr ⟨by rfl, rfl⟩) ?_ ?_
            rotate_left
            ·simp only [Act.put, List.setIfInBounds_toArray, List.set_cons_zero, List.set_cons_succ, i64_w, i32_w]
             rfl
            refine pure_ (i := 6) (N := some 64) (v := undef) (a' := ?_) m8_8 rfl rfl (any_of HT_.out q8_16) (fun _ _ _ h => h) (Or.inr ⟨by rfl, rfl⟩) ?_ ?_
            rotate_left
            ·simp only [Act.put, List.setIfInBounds_toArray, List.set_cons_zero, List.set_cons_succ, i64_w, i32_w]
             rfl
            refine pure_ (i := 7) (N := some 65) (v := undef) (a' := ?_) m8_9 rfl rfl (any_of HT_.out q8_16) (fun _ _ _ h => h) (Or.inr ⟨by rfl, rfl⟩) ?_ ?_
            rotate_left
            ·simp only [Act.put, List.setIfInBounds_toArray, List.set_cons_zero, List.set_cons_succ, i64_w, i32_w]
             rfl
            refine pure_ (i := 8) (N := some 66) (v := ?_) (a' := ?_) m8_10 rfl rfl (any_of HT_.out q8_16) (fun _ _ _ h => h) (Or.inl ⟨by rfl, ?_⟩) ?_ ?_
            rotate_left
            ·intro w'
             go_simp
             with_reducible rfl
            rotate_left
            ·simp only [Act.put, List.setIfInBounds_toArray, List.set_cons_zero, List.set_cons_succ, i64_w, i32_w]
             rfl
            refine pure_ (i := 9) (N := some 67) (v := ?_) (a' := ?_) m8_11 rfl rfl (any_of HT_.out q8_16) (fun _ _ _ h => h) (Or.inl ⟨by rfl, ?_⟩) ?_ ?_
            rotate_left
            ·intro w'
             go_simp
             with_reducible rfl
            rotate_left
            ·simp only [Act.put, List.setIfInBounds_toArray, List.set_cons_zero, List.set_cons_succ, i64_w, i32_w]
             rfl
            refine pure_ (i := 10) (N := some 68) (v := undef) (a' := ?_) m8_12 rfl rfl (any_of HT_.out q8_16) (fun _ _ _ h => h) (Or.inr ⟨by rfl, rfl⟩) ?_ ?_
            rotate_left
            ·simp only [Act.put, List.setIfInBounds_toArray, List.set_cons_zero, List.set_cons_succ, i64_w, i32_w]
             rfl
            refine pure_ (i := 11) (N := some 69) (v := undef) (a' := ?_) m8_13 rfl rfl (any_of HT_.out q8_16) (fun _ _ _ h => h) (Or.inr ⟨by rfl, rfl⟩) ?_ ?_
            rotate_left
            ·simp only [Act.put, List.setIfInBounds_toArray, List.set_cons_zero, List.set_cons_succ, i64_w, i32_w]
             rfl
            refine pure_ (i := 12) (N := some 70) (v := undef) (a' := ?_) m8_14 rfl rfl (any_of HT_.out q8_16) (fun _ _ _ h => h) (Or.inr ⟨by rfl, rfl⟩) ?_ ?_
            rotate_left
            ·simp only [Act.put, List.setIfInBounds_toArray, List.set_cons_zero, List.set_cons_succ, i64_w, i32_w]
             rfl
            refine pure_ (i := 13) (N := some 71) (v := ?_) (a' := ?_) m8_15 rfl rfl (any_of HT_.out q8_16) (fun _ _ _ h => h) (Or.inl ⟨by rfl, ?_⟩) ?_ ?_
            rotate_left
            ·intro w'
             go_simp
             with_reducible rfl
            rotate_left
            ·simp only [Act.put, List.setIfInBounds_toArray, List.set_cons_zero, List.set_cons_succ, i64_w, i32_w]
             rfl
            refine pure_ (i := 14) (N := some 72) (v := ?_) (a' := ?_) m8_16 rfl rfl (any_of HT_.out q8_16) (fun _ _ _ h => h) (Or.inl ⟨by rfl, ?_⟩) ?_ ?_
            rotate_left
            ·intro w'
             go_simp
             with_reducible rfl
            rotate_left
            ·simp only [Act.put, List.setIfInBounds_toArray, List.set_cons_zero, List.set_cons_succ, i64_w, i32_w]
             rfl
            refine pure_ (i := 15) (N := some 73) (v := undef) (a' := ?_) m8_17 rfl rfl (any_of HT_.out q8_16) (fun _ _ _ h => h) (Or.inr ⟨by rfl, rfl⟩) ?_ ?_
            rotate_left
            ·simp only [Act.put, List.setIfInBounds_toArray, List.set_cons_zero, List.set_cons_succ, i64_w, i32_w]
             rfl
            refine pure_ (i := 16) (N := some 74) (v := undef) (a' := ?_) m8_18 rfl rfl (any_of HT_.out q8_16) (fun _ _ _ h => h) (Or.inr ⟨by rfl, rfl⟩) ?_ ?_
            rotate_left
            ·simp only [Act.put, List.setIfInBounds_toArray, List.set_cons_zero, List.set_cons_succ, i64_w, i32_w]
             rfl
            refine pure_ (i := 17) (N := some 75) (v := ?_) (a' := ?_) m8_19 rfl rfl (any_of HT_.out q8_16) (fun _ _ _ h => h) (Or.inl ⟨by rfl, ?_⟩) ?_ ?_
            rotate_left
            ·intro w'
             go_simp
             with_reducible rfl
            rotate_left
            ·simp only [Act.put, List.setIfInBounds_toArray, List.set_cons_zero, List.set_cons_succ, i64_w, i32_w]
             rfl
            refine pure_ (i := 18) (N := some 76) (v := ?_) (a' := ?_) m8_20 rfl rfl (any_of HT_.out q8_16) (fun _ _ _ h => h) (Or.inl ⟨by rfl, ?_⟩) ?_ ?_
            rotate_left
            ·intro w'
             go_simp
             with_reducible rfl
            rotate_left
            ·simp only [Act.put, List.setIfInBounds_toArray, List.set_cons_zero, List.set_cons_succ, i64_w, i32_w]
             rfl
            refine pure_ (i := 19) (N := some 77) (v := undef) (a' := ?_) m8_21 rfl rfl (any_of HT_.out q8_16) (fun _ _ _ h => h) (Or.inr ⟨by rfl, rfl⟩) ?_ ?_
            rotate_left
            ·simp only [Act.put, List.setIfInBounds_toArray, List.set_cons_zero, List.set_cons_succ, i64_w, i32_w]
             rfl
            refine pure_ (i := 20) (N := some 78) (v := undef) (a' := ?_) m8_23 rfl rfl (any_of HT_.out q8_16) (fun _ _ _ h => h) (Or.inr ⟨by rfl, rfl⟩) ?_ ?_
            rotate_left
            ·simp only [Act.put, List.setIfInBounds_toArray, List.set_cons_zero, List.set_cons_succ, i64_w, i32_w]
             rfl
            refine pure_ (i := 21) (N := some 79) (v := undef) (a' := ?_) m8_24 rfl rfl (any_of HT_.out q8_16) (fun _ _ _ h => h) (Or.inr ⟨by rfl, rfl⟩) ?_ ?_
            rotate_left
            ·simp only [Act.put, List.setIfInBounds_toArray, List.set_cons_zero, List.set_cons_succ, i64_w, i32_w]
             rfl
            refine pure_ (i := 22) (N := some 80) (v := undef) (a' := ?_) m8_25 rfl rfl (any_of HT_.out q8_16) (fun _ _ _ h => h) (Or.inr ⟨by rfl, rfl⟩) ?_ ?_
            rotate_left
            ·simp only [Act.put, List.setIfInBounds_toArray, List.set_cons_zero, List.set_cons_succ, i64_w, i32_w]
             rfl
            refine pure_ (i := 23) (N := some 81) (v := ?_) (a' := ?_) m8_26 rfl rfl (any_of HT_.out q8_16) (fun _ _ _ h => h) (Or.inl ⟨by rfl, ?_⟩) ?_ ?_
            rotate_left
            ·intro w'
             go_simp
             with_reducible rfl
            rotate_left
            ·simp only [Act.put, List.setIfInBounds_toArray, List.set_cons_zero, List.set_cons_succ, i64_w, i32_w]
             rfl
            refine pure_ (i := 24) (N := some 6) (v := ?_) (a' := ?_) m8_27 rfl rfl (any_of HT_.out q8_16) (fun _ _ _ h => h) (Or.inl ⟨by rfl, ?_⟩) ?_ ?_
            rotate_left
            ·intro w'
             go_simp
             with_reducible rfl
            rotate_left
            ·simp only [Act.put, List.setIfInBounds_toArray, List.set_cons_zero, List.set_cons_succ, i64_w, i32_w]
             rfl
            refine done_ (done_of HT_.out q8_16) ?_
            try go_wp2
            go_ret
            exact ⟨by first | rfl | (simp [errW_none, errW_some] <;> rfl) | (simp [*, errW_none, errW_some] <;> rfl), by repeat (first | (with_reducible first | exact HB.out | apply below_alloc | apply pw_below_drewN | apply below_drew1 | refine below_set ?_ GE199.out | refine below_set ?_ GE200.out | refine below_set ?_ GE206.out | refine below_set ?_ GE217.out | refine below_set ?_ GE226.out) | exact HB.out)⟩

/-- THE ONE PURE STATEMENT of batonlaw32_InboxTakes. -/
def WF142 (x : S142) : Prop := (Lit.int .i64 x.f0).wf = true /\ (Lit.int .u8 x.f1).wf = true
def WF68 (x : S68) : Prop := (Lit.int .i64 x.f0).wf = true /\ (x.f1.length <= maxLen /\ ∀ x_ ∈ x.f1, WF142 x_)
def WF25 (x : S25) : Prop := (Lit.int .i64 x.f0).wf = true /\ (Lit.int .i64 x.f1).wf = true
def batonlaw32_InboxTakes.Pure : Prop := ∀ (a0_0 : Int) (l0_1 : List (S142)) (l1 : List Int) (a2_0 : Int) (a2_1 : Int), (Lit.int .i64 a0_0).wf = true -> (l0_1.length <= maxLen /\ ∀ x_ ∈ l0_1, WF142 x_) -> (l1.length <= maxLen /\ ∀ x_ ∈ l1, (Lit.int .u8 x_).wf = true) -> (Lit.int .i64 a2_0).wf = true -> (Lit.int .i64 a2_1).wf = true -> ∃ k, batonlaw32_InboxTakes.f k a0_0 l0_1 l1 a2_0 a2_1 = some true

end Go.Proofs.Ytdbfclfglpbpmaa.PF32T
