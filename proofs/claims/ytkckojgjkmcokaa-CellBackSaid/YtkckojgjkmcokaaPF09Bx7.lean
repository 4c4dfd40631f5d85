/- By a program of this session (wip/tool/pp.py): plain Lean functions of the Go functions that this family of laws uses, the walks that the Go code comes to their answers, and the row of the law. No condition beside those that the row itself gives. -/
import Derived.Test.YtkckojgjkmcokaaPF09Bx0
import Derived.Test.YtkckojgjkmcokaaPF09Bx1
import Derived.Test.YtkckojgjkmcokaaPF09Bx4
import Derived.Test.YtkckojgjkmcokaaPF09Bx5
import Derived.Test.YtkckojgjkmcokaaPF09Bx6
namespace Go.Proofs.Ytkckojgjkmcokaa.PF09B
open Go.RowKit Go.Proofs.YtkckojgjkmcokaaW.Hand Go.Proofs.YtkckojgjkmcokaaW.PrintWords Go.Proofs.YtkckojgjkmcokaaW.PrintLast Go.Proofs.YtkckojgjkmcokaaW.PrintMore
attribute [local go_sem] max2_int min2_int max_two min_two max_three min_three max_four min_four   -- for this text's walks alone
set_option linter.unusedVariables false
set_option linter.unusedSimpArgs false

attribute [local go_sem high] eqA53
/-! ### cell_Read: function 42 -/
mutual
def cell_Read.l0 : Nat → Int → List (S53) → List Int → Int → Option ((List (S53)) × List Int × Int)
 | 0, _, _, _, _ => none
 | k + 1, x1, x5, x1000, x1001 => if (x5.length : Int) < x1 then ((cell_run.f k x1000 x1001).bind fun bt271 => ((codec_Reader_Err.f bt271.2.2.2.2.2.1 bt271.2.2.2.2.2.2).bind fun bt281 => (if bt281.1 = 0 then (if bt271.1 = 0 then (cell_Read.j1 k x1 x5 true bt281.2.1 bt281.2.2 bt271.1 bt271.2.1 bt271.2.2.1 bt271.2.2.2.1 bt271.2.2.2.2.1) else (if bt271.1 > (wrap64 (x1 - (x5.length : Int))) then (cell_Read.j1 k x1 x5 true bt281.2.1 bt281.2.2 bt271.1 bt271.2.1 bt271.2.2.1 bt271.2.2.2.1 bt271.2.2.2.2.1) else ((cell_Right.f k bt271.2.1 bt271.2.2.1 bt271.2.2.2.1 bt271.2.2.2.2.1).bind fun t286 => (if t286 = true then (if (x5.length : Int) > 0 then (if 0 ≤ (wrap64 ((x5.length : Int) - 1)) then (if (wrap64 ((x5.length : Int) - 1)) < (x5.length : Int) then (cell_Read.j1 k x1 x5 (((rd_T53 x5 (wrap64 ((x5.length : Int) - 1))).f0) == bt271.2.1 && ((((rd_T53 x5 (wrap64 ((x5.length : Int) - 1))).f1.f0) == bt271.2.2.1 && (((rd_T53 x5 (wrap64 ((x5.length : Int) - 1))).f1.f1) == bt271.2.2.2.1 && (((rd_T53 x5 (wrap64 ((x5.length : Int) - 1))).f1.f2) == bt271.2.2.2.2.1))))) bt281.2.1 bt281.2.2 bt271.1 bt271.2.1 bt271.2.2.1 bt271.2.2.2.1 bt271.2.2.2.2.1) else (none)) else (none)) else (cell_Read.j1 k x1 x5 false bt281.2.1 bt281.2.2 bt271.1 bt271.2.1 bt271.2.2.1 bt271.2.2.2.1 bt271.2.2.2.2.1)) else (cell_Read.j1 k x1 x5 true bt281.2.1 bt281.2.2 bt271.1 bt271.2.1 bt271.2.2.1 bt271.2.2.2.1 bt271.2.2.2.2.1))))) else (some (([] : List (S53)), bt281.2.1, bt281.2.2))))) else (some (x5, x1000, x1001))
def cell_Read.j1 : Nat → Int → List (S53) → Bool → List Int → Int → Int → Int → Int → Int → Int → Option ((List (S53)) × List Int × Int)
 | 0, _, _, _, _, _, _, _, _, _, _ => none
 | k + 1, x1, x5, x49, x1000, x1001, x281000, x281001, x281002, x281003, x281004 => if x49 = true then ((codec_Reader_Fail.f x1000 x1001 6).bind fun bt288 => (some (([] : List (S53)), bt288.1, bt288.2))) else (cell_Read.l1 k x1 x5 x281000 0 x1000 x1001 x281000 x281001 x281002 x281003 x281004)
def cell_Read.l1 : Nat → Int → List (S53) → Int → Int → List Int → Int → Int → Int → Int → Int → Int → Option ((List (S53)) × List Int × Int)
 | 0, _, _, _, _, _, _, _, _, _, _, _ => none
 | k + 1, x1, x5, x53, x54, x1000, x1001, x281000, x281001, x281002, x281003, x281004 => if x54 < x53 then (if x5.length < 4398046511104 then (cell_Read.l1 k x1 (x5 ++ [(⟨x281001, (⟨x281002, x281003, x281004⟩ : S51)⟩ : S53)]) x53 (wrap64 (x54 + 1)) x1000 x1001 x281000 x281001 x281002 x281003 x281004) else (none)) else (cell_Read.l0 k x1 x5 x1000 x1001)
end
def cell_Read.f (k : Nat) (l0_0 : List Int) (a0_1 : Int) (a1 : Int) : Option ((List (S53)) × List Int × Int) := cell_Read.l0 k a1 ([] : List (S53)) l0_0 a0_1
theorem cell_Read.mono_l : ∀ k, (∀ y0 y1 y2 y3, LeO (cell_Read.l0 k y0 y1 y2 y3) (cell_Read.l0 (k + 1) y0 y1 y2 y3)) ∧ (∀ y0 y1 y2 y3 y4 y5 y6 y7 y8 y9, LeO (cell_Read.j1 k y0 y1 y2 y3 y4 y5 y6 y7 y8 y9) (cell_Read.j1 (k + 1) y0 y1 y2 y3 y4 y5 y6 y7 y8 y9)) ∧ (∀ y0 y1 y2 y3 y4 y5 y6 y7 y8 y9 y10, LeO (cell_Read.l1 k y0 y1 y2 y3 y4 y5 y6 y7 y8 y9 y10) (cell_Read.l1 (k + 1) y0 y1 y2 y3 y4 y5 y6 y7 y8 y9 y10))
 | 0 => ⟨fun _ _ _ _ r h => by simp [cell_Read.l0] at h, fun _ _ _ _ _ _ _ _ _ _ r h => by simp [cell_Read.j1] at h, fun _ _ _ _ _ _ _ _ _ _ _ r h => by simp [cell_Read.l1] at h⟩
 | k + 1 => by
  obtain ⟨ih0, ih1, ih2⟩ := cell_Read.mono_l k
  refine ⟨?_, ?_, ?_⟩
  ·intro y0 y1 y2 y3
   unfold cell_Read.l0
   repeat' first
   | (with_reducible exact ih0 _ _ _ _)
   | (with_reducible exact ih1 _ _ _ _ _ _ _ _ _ _)
   | (with_reducible exact ih2 _ _ _ _ _ _ _ _ _ _ _)
   | (with_reducible exact cell_Right.mono _ _ _ _ _)
   | (with_reducible exact cell_run.mono _ _ _)
   | (with_reducible exact LeO.refl _)
   | (with_reducible exact LeO.none _)
   | (with_reducible refine LeO.ite ?_ ?_)
   | (with_reducible refine LeO.bind ?_ (fun _ => ?_))
   | exact ih0 _ _ _ _
   | exact ih1 _ _ _ _ _ _ _ _ _ _
   | exact ih2 _ _ _ _ _ _ _ _ _ _ _
   | exact cell_Right.mono _ _ _ _ _
   | exact cell_run.mono _ _ _
   | exact LeO.none _
   | refine LeO.ite ?_ ?_
   | refine LeO.bind ?_ (fun _ => ?_)
  ·intro y0 y1 y2 y3 y4 y5 y6 y7 y8 y9
   unfold cell_Read.j1
   repeat' first
   | (with_reducible exact ih0 _ _ _ _)
   | (with_reducible exact ih1 _ _ _ _ _ _ _ _ _ _)
   | (with_reducible exact ih2 _ _ _ _ _ _ _ _ _ _ _)
   | (with_reducible exact cell_Right.mono _ _ _ _ _)
   | (with_reducible exact cell_run.mono _ _ _)
   | (with_reducible exact LeO.refl _)
   | (with_reducible exact LeO.none _)
   | (with_reducible refine LeO.ite ?_ ?_)
   | (with_reducible refine LeO.bind ?_ (fun _ => ?_))
   | exact ih0 _ _ _ _
   | exact ih1 _ _ _ _ _ _ _ _ _ _
   | exact ih2 _ _ _ _ _ _ _ _ _ _ _
   | exact cell_Right.mono _ _ _ _ _
   | exact cell_run.mono _ _ _
   | exact LeO.none _
   | refine LeO.ite ?_ ?_
   | refine LeO.bind ?_ (fun _ => ?_)
  ·intro y0 y1 y2 y3 y4 y5 y6 y7 y8 y9 y10
   unfold cell_Read.l1
   repeat' first
   | (with_reducible exact ih0 _ _ _ _)
   | (with_reducible exact ih1 _ _ _ _ _ _ _ _ _ _)
   | (with_reducible exact ih2 _ _ _ _ _ _ _ _ _ _ _)
   | (with_reducible exact cell_Right.mono _ _ _ _ _)
   | (with_reducible exact cell_run.mono _ _ _)
   | (with_reducible exact LeO.refl _)
   | (with_reducible exact LeO.none _)
   | (with_reducible refine LeO.ite ?_ ?_)
   | (with_reducible refine LeO.bind ?_ (fun _ => ?_))
   | exact ih0 _ _ _ _
   | exact ih1 _ _ _ _ _ _ _ _ _ _
   | exact ih2 _ _ _ _ _ _ _ _ _ _ _
   | exact cell_Right.mono _ _ _ _ _
   | exact cell_run.mono _ _ _
   | exact LeO.none _
   | refine LeO.ite ?_ ?_
   | refine LeO.bind ?_ (fun _ => ?_)
theorem cell_Read.mono : ∀ a0 a1 a2 k, LeO (cell_Read.f k a0 a1 a2) (cell_Read.f (k + 1) a0 a1 a2) := by
 intro a0 a1 a2 k
 obtain ⟨ih0, ih1, ih2⟩ := cell_Read.mono_l k
 unfold cell_Read.f
 repeat' first
   | (with_reducible exact ih0 _ _ _ _)
   | (with_reducible exact ih1 _ _ _ _ _ _ _ _ _ _)
   | (with_reducible exact ih2 _ _ _ _ _ _ _ _ _ _ _)
   | (with_reducible exact cell_Right.mono _ _ _ _ _)
   | (with_reducible exact cell_run.mono _ _ _)
   | (with_reducible exact LeO.refl _)
   | (with_reducible exact LeO.none _)
   | (with_reducible refine LeO.ite ?_ ?_)
   | (with_reducible refine LeO.bind ?_ (fun _ => ?_))
   | exact ih0 _ _ _ _
   | exact ih1 _ _ _ _ _ _ _ _ _ _
   | exact ih2 _ _ _ _ _ _ _ _ _ _ _
   | exact cell_Right.mono _ _ _ _ _
   | exact cell_run.mono _ _ _
   | exact LeO.none _
   | refine LeO.ite ?_ ?_
   | refine LeO.bind ?_ (fun _ => ?_)
def cell_Read.T6 : Bool × List (List Nat × List Nat) := (true, [([], []), ([0], [0]), ([1], [1]), ([2], [2]), ([3], [3]), ([4, 3], [3, 4]), ([3], [3]), ([3], [3]), ([7, 3], [3, 7]), ([6, 8, 3], [3, 6, 8]), ([5, 9, 3], [3, 5, 9]), ([3, 10], [3, 10]), ([11, 3], [11]), ([12], [12]), ([13, 12], [12, 13]), ([14, 12, 12], [12, 14]), ([15, 12], [12, 15]), ([12, 16], [12, 16]), ([17, 15], [17]), ([18], [18]), ([19, 18], [18, 19]), ([20, 18], [18, 20]), ([21, 18, 18], [18, 21]), ([22], [22]), ([22], [22]), ([24, 22], [22, 24]), ([25, 22], [22, 25]), ([23, 26, 22], [22, 23, 26]), ([27, 22], [22, 27]), ([22], [22]), ([29, 22], [22, 29]), ([28, 30, 22], [22, 28, 30]), ([22, 31, 18], [18, 22, 31]), ([18, 32], [18, 32])])
def cell_Read.B6 : List Nat := [0, 1, 3, 7, 15, 31, 15, 15, 143, 463, 1023, 2047, 4095, 8191, 16383, 32767, 65535, 131071, 262143, 524287, 1048575, 2097151, 4194303, 8388607, 8388607, 25165823, 58720255, 134217727, 268435455, 8388607, 545259519, 2147483647, 4294967295, 8589934591]
theorem cell_Read.tab6 : rtab .any (opsOf Try.f42 6) = cell_Read.T6 := by kernel_rfl
theorem cell_Read.bits6 : waitsOk cell_Read.T6.2 cell_Read.B6 = true := by kernel_rfl
theorem bc7_ {W : World} {g : Nat} {cs : Array Value} {t : TypeId} (h : Aside0 (W.heap[g]? = some (.cells cs t (0, 0)))) (j : Nat) {v : Value} (hv : cs[j]? = some v := by rfl) : W.cell? ⟨g, j, none⟩ = some v := (blk_cell h.out j).trans hv
theorem A7_ {p : Prop} (h : p) : Aside0 p := ⟨h⟩
abbrev m7_0 : Array Bool := #[false, false, false, false, false, false, false, false, false, false, false, false, false, false, false, false, false, false, false, false, false, false, false, false, false, false, false, false, false, false, false, false, false, false]
abbrev m7_1 : Array Bool := #[true, false, false, false, false, false, false, false, false, false, false, false, false, false, false, false, false, false, false, false, false, false, false, false, false, false, false, false, false, false, false, false, false, false]
abbrev m7_2 : Array Bool := #[true, true, false, false, false, false, false, false, false, false, false, false, false, false, false, false, false, false, false, false, false, false, false, false, false, false, false, false, false, false, false, false, false, false]
abbrev m7_3 : Array Bool := #[true, true, true, false, false, false, false, false, false, false, false, false, false, false, false, false, false, false, false, false, false, false, false, false, false, false, false, false, false, false, false, false, false, false]
abbrev m7_4 : Array Bool := #[true, true, true, true, false, false, false, false, false, false, false, false, false, false, false, false, false, false, false, false, false, false, false, false, false, false, false, false, false, false, false, false, false, false]
abbrev m7_5 : Array Bool := #[true, true, true, true, true, false, false, false, false, false, false, false, false, false, false, false, false, false, false, false, false, false, false, false, false, false, false, false, false, false, false, false, false, false]
abbrev m7_6 : Array Bool := #[true, true, true, true, true, false, true, false, false, false, false, false, false, false, false, false, false, false, false, false, false, false, false, false, false, false, false, false, false, false, false, false, false, false]
abbrev m7_7 : Array Bool := #[true, true, true, true, true, false, true, true, false, false, false, false, false, false, false, false, false, false, false, false, false, false, false, false, false, false, false, false, false, false, false, false, false, false]
abbrev m7_8 : Array Bool := #[true, true, true, true, true, false, true, true, true, false, false, false, false, false, false, false, false, false, false, false, false, false, false, false, false, false, false, false, false, false, false, false, false, false]
abbrev m7_9 : Array Bool := #[true, true, true, true, true, false, true, true, true, true, false, false, false, false, false, false, false, false, false, false, false, false, false, false, false, false, false, false, false, false, false, false, false, false]
abbrev m7_14 : Array Bool := #[true, true, true, true, true, true, true, true, true, true, false, false, false, false, false, false, false, false, false, false, false, false, false, false, false, false, false, false, false, false, false, false, false, false]
abbrev m7_15 : Array Bool := #[true, true, true, true, true, true, true, true, true, true, true, false, false, false, false, false, false, false, false, false, false, false, false, false, false, false, false, false, false, false, false, false, false, false]
abbrev m7_16 : Array Bool := #[true, true, true, true, true, true, true, true, true, true, true, true, false, false, false, false, false, false, false, false, false, false, false, false, false, false, false, false, false, false, false, false, false, false]
abbrev m7_17 : Array Bool := #[true, true, true, true, true, true, true, true, true, true, true, true, true, false, false, false, false, false, false, false, false, false, false, false, false, false, false, false, false, false, false, false, false, false]
abbrev m7_18 : Array Bool := #[true, true, true, true, true, true, true, true, true, true, true, true, true, true, false, false, false, false, false, false, false, false, false, false, false, false, false, false, false, false, false, false, false, false]
abbrev m7_19 : Array Bool := #[true, true, true, true, true, true, true, true, true, true, true, true, true, true, true, false, false, false, false, false, false, false, false, false, false, false, false, false, false, false, false, false, false, false]
abbrev m7_20 : Array Bool := #[true, true, true, true, true, true, true, true, true, true, true, true, true, true, true, true, false, false, false, false, false, false, false, false, false, false, false, false, false, false, false, false, false, false]
abbrev m7_21 : Array Bool := #[true, true, true, true, true, true, true, true, true, true, true, true, true, true, true, true, true, false, false, false, false, false, false, false, false, false, false, false, false, false, false, false, false, false]
abbrev m7_22 : Array Bool := #[true, true, true, true, true, true, true, true, true, true, true, true, true, true, true, true, true, true, false, false, false, false, false, false, false, false, false, false, false, false, false, false, false, false]
abbrev m7_23 : Array Bool := #[true, true, true, true, true, true, true, true, true, true, true, true, true, true, true, true, true, true, true, false, false, false, false, false, false, false, false, false, false, false, false, false, false, false]
abbrev m7_24 : Array Bool := #[true, true, true, true, true, true, true, true, true, true, true, true, true, true, true, true, true, true, true, true, false, false, false, false, false, false, false, false, false, false, false, false, false, false]
abbrev m7_25 : Array Bool := #[true, true, true, true, true, true, true, true, true, true, true, true, true, true, true, true, true, true, true, true, true, false, false, false, false, false, false, false, false, false, false, false, false, false]
abbrev m7_26 : Array Bool := #[true, true, true, true, true, true, true, true, true, true, true, true, true, true, true, true, true, true, true, true, true, true, false, false, false, false, false, false, false, false, false, false, false, false]
abbrev m7_27 : Array Bool := #[true, true, true, true, true, true, true, true, true, true, true, true, true, true, true, true, true, true, true, true, true, true, true, false, false, false, false, false, false, false, false, false, false, false]
abbrev m7_28 : Array Bool := #[true, true, true, true, true, true, true, true, true, true, true, true, true, true, true, true, true, true, true, true, true, true, true, true, false, false, false, false, false, false, false, false, false, false]
abbrev m7_29 : Array Bool := #[true, true, true, true, true, true, true, true, true, true, true, true, true, true, true, true, true, true, true, true, true, true, true, true, true, false, false, false, false, false, false, false, false, false]
abbrev m7_30 : Array Bool := #[true, true, true, true, true, true, true, true, true, true, true, true, true, true, true, true, true, true, true, true, true, true, true, true, true, true, false, false, false, false, false, false, false, false]
abbrev m7_31 : Array Bool := #[true, true, true, true, true, true, true, true, true, true, true, true, true, true, true, true, true, true, true, true, true, true, true, true, true, true, true, false, false, false, false, false, false, false]
abbrev m7_32 : Array Bool := #[true, true, true, true, true, true, true, true, true, true, true, true, true, true, true, true, true, true, true, true, true, true, true, true, true, true, true, true, false, false, false, false, false, false]
abbrev m7_34 : Array Bool := #[true, true, true, true, true, true, true, true, true, true, true, true, true, true, true, true, true, true, true, true, true, true, true, true, true, true, true, true, true, false, false, false, false, false]
abbrev m7_35 : Array Bool := #[true, true, true, true, true, true, true, true, true, true, true, true, true, true, true, true, true, true, true, true, true, true, true, true, true, true, true, true, true, true, false, false, false, false]
abbrev m7_36 : Array Bool := #[true, true, true, true, true, true, true, true, true, true, true, true, true, true, true, true, true, true, true, true, true, true, true, true, true, true, true, true, true, true, true, false, false, false]
abbrev m7_37 : Array Bool := #[true, true, true, true, true, true, true, true, true, true, true, true, true, true, true, true, true, true, true, true, true, true, true, true, true, true, true, true, true, true, true, true, false, false]
abbrev m7_38 : Array Bool := #[true, true, true, true, true, true, true, true, true, true, true, true, true, true, true, true, true, true, true, true, true, true, true, true, true, true, true, true, true, true, true, true, true, false]
abbrev m7_39 : Array Bool := #[true, true, true, true, true, true, true, true, true, true, true, true, true, true, true, true, true, true, true, true, true, true, true, true, true, true, true, true, true, true, true, true, true, true]
theorem q7_38 {p : Prop} (h : p := by kernel_rfl) : p := h
theorem q7_39 {p : Prop} (h : p := by (with_reducible repeat (first | refine blk_drewN ?_ _ | refine blk_drew ?_ | refine blk_alloc ?_ _)); exact BK0.out) : p := h
theorem q7_40 {p : Prop} (h : p := by repeat (first | (with_reducible first | exact HK.out | apply Kept.alloc | apply Kept.drewN | apply Kept.drew | refine Kept.setCell ?_ (.inl (show g = g from rfl)) _ | refine Kept.setCell ?_ (.inr GW280.out) _) | exact HK.out)) : p := h
theorem q7_41 {p : Prop} (h : p := by rw [hw]; exact (by (with_reducible repeat (first | refine blk_drewN ?_ _ | refine blk_drew ?_ | refine blk_alloc ?_ _)); refine blk_put (cs := #[.int .i64 t271, .int .i32 t272, .int .i64 t273, .int .i64 t274, .int .i64 0]) ?_ 4 _ rfl; (with_reducible repeat (first | refine blk_drewN ?_ _ | refine blk_drew ?_ | refine blk_alloc ?_ _)); refine blk_put (cs := #[.int .i64 t271, .int .i32 t272, .int .i64 t273, .int .i64 0, .int .i64 0]) ?_ 3 _ rfl; (with_reducible repeat (first | refine blk_drewN ?_ _ | refine blk_drew ?_ | refine blk_alloc ?_ _)); refine blk_put (cs := #[.int .i64 t271, .int .i32 t272, .int .i64 0, .int .i64 0, .int .i64 0]) ?_ 2 _ rfl; (with_reducible repeat (first | refine blk_drewN ?_ _ | refine blk_drew ?_ | refine blk_alloc ?_ _)); refine blk_put (cs := #[.int .i64 t271, .int .i32 0, .int .i64 0, .int .i64 0, .int .i64 0]) ?_ 1 _ rfl; (with_reducible repeat (first | refine blk_drewN ?_ _ | refine blk_drew ?_ | refine blk_alloc ?_ _)); refine blk_put (cs := #[.int .i64 0, .int .i32 0, .int .i64 0, .int .i64 0, .int .i64 0]) ?_ 0 _ rfl; (with_reducible repeat (first | refine blk_drewN ?_ _ | refine blk_drew ?_ | refine blk_alloc ?_ _)); exact BK280.out)) : p := h
theorem q7_42 {p : Prop} (h : p := by repeat (first | (with_reducible first | exact HB.out | apply below_alloc | apply pw_below_drewN | apply below_drew1 | refine below_set ?_ GE0.out | refine below_set ?_ GE280.out) | exact HB.out)) : p := h
theorem q7_43 {p : Prop} (h : p := by (with_reducible repeat (first | refine blk_drewN ?_ _ | refine blk_drew ?_ | refine blk_alloc ?_ _)); exact BK280.out) : p := h
theorem q7_44 {p : Prop} (h : p := by (with_reducible repeat (first | apply Kd.R_alloc | apply Kd.R_drewN | apply Kd.R_drew)); exact HO_5.out) : p := h
theorem q7_45 {p : Prop} (h : p := by (try simp only [List.map_toArray, List.map_cons, List.map_nil]); first | done | rfl | (simp only [List.length_drop, List.length_take]; rfl)) : p := h
theorem q7_46 {p : Prop} (h : p := by first | exact HK.out.1 | exact (show Kept w _ (fun k_ => k_ = g) from by repeat (first | (with_reducible first | exact HK.out | apply Kept.alloc | apply Kept.drewN | apply Kept.drew | refine Kept.setCell ?_ (.inl (show g = g from rfl)) _ | refine Kept.setCell ?_ (.inr GW280.out) _) | exact HK.out)).1) : p := h
theorem q7_47 {p : Prop} (h : p := by rw [hw]; exact (by (with_reducible repeat (first | refine blk_drewN ?_ _ | refine blk_drew ?_ | refine blk_alloc ?_ _)); refine blk_far ?_ NB0_280.out _; (with_reducible repeat (first | refine blk_drewN ?_ _ | refine blk_drew ?_ | refine blk_alloc ?_ _)); refine blk_far ?_ NB0_280.out _; (with_reducible repeat (first | refine blk_drewN ?_ _ | refine blk_drew ?_ | refine blk_alloc ?_ _)); refine blk_far ?_ NB0_280.out _; (with_reducible repeat (first | refine blk_drewN ?_ _ | refine blk_drew ?_ | refine blk_alloc ?_ _)); refine blk_far ?_ NB0_280.out _; (with_reducible repeat (first | refine blk_drewN ?_ _ | refine blk_drew ?_ | refine blk_alloc ?_ _)); refine blk_far ?_ NB0_280.out _; (with_reducible repeat (first | refine blk_drewN ?_ _ | refine blk_drew ?_ | refine blk_alloc ?_ _)); exact BK0.out)) : p := h
theorem q7_48 {p : Prop} (h : p := by first | exact HK.out.1 | exact (show Kept w _ (fun k_ => k_ = g) from by repeat (first | (with_reducible first | exact HK.out | apply Kept.alloc | apply Kept.drewN | apply Kept.drew | refine Kept.setCell ?_ (.inl (show g = g from rfl)) _) | exact HK.out)).1) : p := h
theorem q7_49 {p : Prop} (h : p := by rw [hw]; exact (by (with_reducible repeat (first | apply Kd.V_alloc | apply Kd.V_drewN | apply Kd.V_drew)); exact Kd.V_mono (Kd.V_far (p := ⟨gb280, 4, none⟩) (Kd.V_far (p := ⟨gb280, 3, none⟩) (Kd.V_far (p := ⟨gb280, 2, none⟩) (Kd.V_far (p := ⟨gb280, 1, none⟩) (Kd.V_far (p := ⟨gb280, 0, none⟩) (Kd.V_mono HO_1000.out (fun k_ hk => (⟨hk, hk.2⟩ : _ ∧ k_ ≠ gb280))) (fun _ hk => hk.2) (.int .i64 t271)) (fun _ hk => hk.2) (.int .i32 t272)) (fun _ hk => hk.2) (.int .i64 t273)) (fun _ hk => hk.2) (.int .i64 t274)) (fun _ hk => hk.2) (.int .i64 t275)) (fun _ hk => ⟨hk.1.1.1, ⟨hk.1.1.2.1, ⟨hk.1.1.2.2, hk.1.2⟩⟩⟩))) : p := h
theorem q7_50 {p : Prop} (h : p := by rw [hw]; exact (by (with_reducible repeat (first | apply Kd.V_alloc | apply Kd.V_drewN | apply Kd.V_drew)); exact Kd.V_mono (Kd.V_far (p := ⟨gb280, 4, none⟩) (Kd.V_far (p := ⟨gb280, 3, none⟩) (Kd.V_far (p := ⟨gb280, 2, none⟩) (Kd.V_far (p := ⟨gb280, 1, none⟩) (Kd.V_far (p := ⟨gb280, 0, none⟩) (Kd.V_mono HO278.out (fun k_ hk => (⟨hk, hk.2⟩ : _ ∧ k_ ≠ gb280))) (fun _ hk => hk.2) (.int .i64 t271)) (fun _ hk => hk.2) (.int .i32 t272)) (fun _ hk => hk.2) (.int .i64 t273)) (fun _ hk => hk.2) (.int .i64 t274)) (fun _ hk => hk.2) (.int .i64 t275)) (fun _ hk => ⟨hk.1.1.1, ⟨hk.1.1.2.1, ⟨hk.1.1.2.2, hk.1.2⟩⟩⟩))) : p := h
theorem q7_51 {p : Prop} (h : p := by rw [hw]; exact (by (with_reducible repeat (first | apply Kd.R_alloc | apply Kd.R_drewN | apply Kd.R_drew)); exact Kd.R_mono (Kd.R_far (p := ⟨gb280, 4, none⟩) (Kd.R_far (p := ⟨gb280, 3, none⟩) (Kd.R_far (p := ⟨gb280, 2, none⟩) (Kd.R_far (p := ⟨gb280, 1, none⟩) (Kd.R_far (p := ⟨gb280, 0, none⟩) (Kd.R_types HO_5.out BK280.out (by decide)) (fun _ hk => hk.2) (.int .i64 t271)) (fun _ hk => hk.2) (.int .i32 t272)) (fun _ hk => hk.2) (.int .i64 t273)) (fun _ hk => hk.2) (.int .i64 t274)) (fun _ hk => hk.2) (.int .i64 t275)) (fun _ hk => hk.1))) : p := h
theorem q7_52 {p : Prop} (h : p := by repeat (first | (with_reducible first | exact HK.out | apply Kept.alloc | apply Kept.drewN | apply Kept.drew | refine Kept.setCell ?_ (.inl (show g = g from rfl)) _) | exact HK.out)) : p := h
theorem q7_53 {p : Prop} (h : p := by repeat (first | (with_reducible first | exact HB.out | apply below_alloc | apply pw_below_drewN | apply below_drew1 | refine below_set ?_ GE0.out) | exact HB.out)) : p := h
theorem q7_54 {p : Prop} (h : p := by (with_reducible repeat (first | apply Kd.V_alloc | apply Kd.V_drewN | apply Kd.V_drew)); exact HO_1000.out) : p := h
theorem q7_55 {p : Prop} (h : p := by (with_reducible repeat (first | apply Kd.V_alloc | apply Kd.V_drewN | apply Kd.V_drew)); exact HO278.out) : p := h
theorem q7_56 {p : Prop} (h : p := by first | rfl | (simp; done) | (simp [*]; done)) : p := h
theorem q7_57 {p : Prop} (h : p := by (with_reducible repeat (first | apply Kd.V_alloc | apply Kd.V_drewN | apply Kd.V_drew)); exact HO284.out) : p := h
set_option maxHeartbeats 8000000 in
set_option maxRecDepth 100000 in
theorem cell_Read.calls (k : Nat) (g : Nat) (P0_0_ : Nat → Prop) (A0_0 : Option Addr) (c0_0 : Nat) (l0_0 : List Int) (a0_1 : Int) (a1 : Int) (r1 : List (S53)) (r2 : List Int) (r3 : Int) (w0 w : World) (hb : w.heap[g]? = some (.cells #[.slice A0_0 l0_0.length c0_0, .int .i64 a0_1] 104 (0, 0))) (hg : w0.heap.size ≤ g) (hB : Below w0.heap.size w0 w) (hs0_0 : Kd.V (Kd.int .u8) 5 w w0.heap.size (fun k_ => P0_0_ k_ ∧ k_ ≠ g) (.slice A0_0 l0_0.length c0_0) l0_0) (h : cell_Read.f k l0_0 a0_1 a1 = some (r1, r2, r3)) :
  Calls Try.prog 42 #[.pointer (some ⟨g, 0, none⟩), .int .i64 a1] w fun e w' => ∃ v0_ v1_ : Value, Aside0 (e = .returned (v0_) ∧ Kd.R k53 53 w' w0.heap.size (fun k_ => (w.heap.size ≤ k_)) v0_ r1 ∧ Kd.V (Kd.int .u8) 5 w' w0.heap.size (fun k_ => (P0_0_ k_ ∨ w.heap.size ≤ k_) ∧ some k_ ≠ (v0_ : Value).ownBlock) v1_ r2 ∧ w'.heap[g]? = some (.cells #[v1_, .int .i64 r3] 104 (0, 0)) ∧ Below w0.heap.size w0 w' ∧ Kept w w' (fun k_ => k_ = g)) := by
 have hu55 := Try.underlying55
 have hu53 := Try.underlying53
 have HO0_0 := A7_ (show Kd.V (Kd.int .u8) 5 w w0.heap.size (fun k_ => (P0_0_ k_ ∨ w.heap.size ≤ k_) ∧ k_ ≠ g) (.slice A0_0 l0_0.length c0_0) l0_0 from Kd.V_mono hs0_0 (fun k_ hk => ⟨.inl hk.1, hk.2⟩))
 have HK := A7_ (Kept.refl w (fun k_ => k_ = g))
 have BK0 := A7_ hb
 have GE0 := A7_ hg
 clear hb hg
 have HW0 := A7_ hB.size
 have HB := A7_ hB
 clear hB
 have H : (cell_Read.l0 k a1 ([] : List (S53)) l0_0 a0_1) = some (r1, r2, r3) := h
 clear h
 have H' := A7_ H
 clear H
 go_enter Try.func42, Try.ntmps42
 go_wp2
 go_loopg [5] k (fun kq v5 w' => ∃ (x5_1 : List (S53)) (x1000_1 : List Int) (x1001_1 : Int) (u1000 : Value), Aside0 (cell_Read.l0 kq a1 x5_1 x1000_1 x1001_1 = some (r1, r2, r3)) ∧ Aside0 (kq ≤ k) ∧ Aside0 (Kd.R k53 53 w' w0.heap.size (fun k_ => (w.heap.size ≤ k_)) v5 x5_1) ∧ Aside0 (Kd.V (Kd.int .u8) 5 w' w0.heap.size (fun k_ => (P0_0_ k_ ∨ w.heap.size ≤ k_) ∧ some k_ ≠ (v5 : Value).ownBlock ∧ k_ ≠ g) u1000 x1000_1) ∧ Aside0 (w'.heap[g]? = some (.cells #[u1000, .int .i64 x1001_1] 104 (0, 0))) ∧ Aside0 (Kept w w' (fun k_ => k_ = g)) ∧ Aside0 (Below w0.heap.size w0 w'))
 case atStart => exact ⟨(([] : List (S53))), (l0_0), (a0_1), (.slice A0_0 l0_0.length c0_0), H', ⟨Nat.le_refl _⟩, ⟨by first | exact Kd.R_nil _ _ _ _ _ | exact Kd.N_nil _ _ _ _ _ | exact Kd.V_nil _ _ _ _ _ | exact Kd.Q_nil _ _ _ _ _ | exact Kd.S_nil _ _ _ _ _⟩, ⟨by (with_reducible repeat (first | apply Kd.V_alloc | apply Kd.V_drewN | apply Kd.V_drew)); exact Kd.V_mono HO0_0.out (fun _ hk => ⟨hk.1, ⟨(by simp [Value.ownBlock]), hk.2⟩⟩)⟩, ⟨by (with_reducible repeat (first | refine blk_drewN ?_ _ | refine blk_drew ?_ | refine blk_alloc ?_ _)); exact BK0.out⟩, ⟨by repeat (first | (with_reducible first | exact HK.out | apply Kept.alloc | apply Kept.drewN | apply Kept.drew | refine Kept.setCell ?_ (.inl (show g = g from rfl)) _) | exact HK.out)⟩, ⟨by repeat (first | (with_reducible first | exact HB.out | apply below_alloc | apply pw_below_drewN | apply below_drew1 | refine below_set ?_ GE0.out) | exact HB.out)⟩⟩
 case round =>
  clear H'
  try clear p2
  obtain ⟨x5_1, x1000_1, x1001_1, u1000, HA, HK1, HO_5, HO_1000, BK0, HK, HB⟩ := hrel
  cases gk with
  | zero => exact absurd HA.out (by simp [cell_Read.l0])
  | succ k1 =>
   have H := HA.out
   clear HA
   simp only [cell_Read.l0] at H
   by_cases c3 : (x5_1.length : Int) < a1
   ·rw [if_pos c3] at H
    have c3b0 : decide ((x5_1.length : Int) < a1) = true := decide_eq_true c3
    clear c3
    replace H := Option.bind_eq_some_iff.mp H
    obtain ⟨⟨t271, t272, t273, t274, t275, t276, t279⟩, A40, H⟩ := H
    replace H : ((codec_Reader_Err.f t276 t279).bind fun bt281 => (if bt281.1 = 0 then (if t271 = 0 then (cell_Read.j1 k1 a1 x5_1 true bt281.2.1 bt281.2.2 t271 t272 t273 t274 t275) else (if t271 > (wrap64 (a1 - (x5_1.length : Int))) then (cell_Read.j1 k1 a1 x5_1 true bt281.2.1 bt281.2.2 t271 t272 t273 t274 t275) else ((cell_Right.f k1 t272 t273 t274 t275).bind fun t286 => (if t286 = true then (if (x5_1.length : Int) > 0 then (if 0 ≤ (wrap64 ((x5_1.length : Int) - 1)) then (if (wrap64 ((x5_1.length : Int) - 1)) < (x5_1.length : Int) then (cell_Read.j1 k1 a1 x5_1 (((rd_T53 x5_1 (wrap64 ((x5_1.length : Int) - 1))).f0) == t272 && ((((rd_T53 x5_1 (wrap64 ((x5_1.length : Int) - 1))).f1.f0) == t273 && (((rd_T53 x5_1 (wrap64 ((x5_1.length : Int) - 1))).f1.f1) == t274 && (((rd_T53 x5_1 (wrap64 ((x5_1.length : Int) - 1))).f1.f2) == t275))))) bt281.2.1 bt281.2.2 t271 t272 t273 t274 t275) else (none)) else (none)) else (cell_Read.j1 k1 a1 x5_1 false bt281.2.1 bt281.2.2 t271 t272 t273 t274 t275)) else (cell_Read.j1 k1 a1 x5_1 true bt281.2.1 bt281.2.2 t271 t272 t273 t274 t275))))) else (some (([] : List (S53)), bt281.2.1, bt281.2.2)))) = some (r1, r2, r3) := H
    have A4 := A7_ A40
    clear A40
    replace H := Option.bind_eq_some_iff.mp H
    obtain ⟨⟨t281, t282, t285⟩, A50, H⟩ := H
    replace H : (if t281 = 0 then (if t271 = 0 then (cell_Read.j1 k1 a1 x5_1 true t282 t285 t271 t272 t273 t274 t275) else (if t271 > (wrap64 (a1 - (x5_1.length : Int))) then (cell_Read.j1 k1 a1 x5_1 true t282 t285 t271 t272 t273 t274 t275) else ((cell_Right.f k1 t272 t273 t274 t275).bind fun t286 => (if t286 = true then (if (x5_1.length : Int) > 0 then (if 0 ≤ (wrap64 ((x5_1.length : Int) - 1)) then (if (wrap64 ((x5_1.length : Int) - 1)) < (x5_1.length : Int) then (cell_Read.j1 k1 a1 x5_1 (((rd_T53 x5_1 (wrap64 ((x5_1.length : Int) - 1))).f0) == t272 && ((((rd_T53 x5_1 (wrap64 ((x5_1.length : Int) - 1))).f1.f0) == t273 && (((rd_T53 x5_1 (wrap64 ((x5_1.length : Int) - 1))).f1.f1) == t274 && (((rd_T53 x5_1 (wrap64 ((x5_1.length : Int) - 1))).f1.f2) == t275))))) t282 t285 t271 t272 t273 t274 t275) else (none)) else (none)) else (cell_Read.j1 k1 a1 x5_1 false t282 t285 t271 t272 t273 t274 t275)) else (cell_Read.j1 k1 a1 x5_1 true t282 t285 t271 t272 t273 t274 t275))))) else (some (([] : List (S53)), t282, t285))) = some (r1, r2, r3) := H
    have A5 := A7_ A50
    clear A50
    by_cases c6 : t281 = 0
    ·rw [if_pos c6] at H
     have c6b0 : (t281 == 0) = true := beq_iff_eq.mpr c6
     have c6b1 : (t281 != 0) = false := bne_eq_false_iff_eq.mpr c6
     clear c6
     have HC7 := A7_ H
     clear H
     obtain ⟨Ao8, co8, eo8⟩ := Kd.R_slice HO_5.out
     subst eo8
     obtain ⟨Ao9, co9, eo9⟩ := Kd.V_slice HO_1000.out
     subst eo9
     go_upto_region 6 with (first | ((with_reducible refine gate_callee (f := 68) rfl ?_); refine goesL_ (some 12) rfl rfl Try.func68 q7_38 rfl #[.pointer (some ⟨g, 0, none⟩)] rfl q7_45 ?_; (with_reducible refine (cell_run.calls k1 g (fun k_ => ((P0_0_ k_ ∨ w.heap.size ≤ k_) ∧ (some k_ ≠ (.slice Ao8 x5_1.length co8 : Value).ownBlock ∧ k_ ≠ g))) Ao9 co9 x1000_1 x1001_1 t271 t272 t273 t274 t275 t276 t279 w0 _ ?side2 ?side3 ?side1 ?side4 A4.out).mono ?_); (case side1 => repeat (first | (with_reducible first | exact HB.out | apply below_alloc | apply pw_below_drewN | apply below_drew1 | refine below_set ?_ GE0.out) | exact HB.out)); (case side2 => (with_reducible repeat (first | refine blk_drewN ?_ _ | refine blk_drew ?_ | refine blk_alloc ?_ _)); exact BK0.out); (case side3 => exact GE0.out); (case side4 => exact Kd.V_mono (HO_1000.out) (fun k_ hk_ => ⟨hk_, hk_.2.2⟩)); rintro e w10 ⟨v277, rfl, ho0, hbx, hb, hkp⟩; refine ⟨_, rfl, ?_⟩; have n0_ := A7_ (Kd.R_mono (ok' := fun k_ => (w.heap.size ≤ k_)) (Kd.R_keptB ((Kd.R_types HO_5.out (show (World.heap _)[g]? = some (.cells #[.slice Ao9 x1000_1.length co9, .int .i64 x1001_1] 104 (0, 0)) from by (with_reducible repeat (first | refine blk_drewN ?_ _ | refine blk_drew ?_ | refine blk_alloc ?_ _)); exact BK0.out) (by decide))) hkp (fun k_ hk_ hs_ => (hk_.2) hs_)) (fun k_ hk_ => hk_.1.1)); have n1_ := A7_ (Kd.V_mono (ok' := fun k_ => (P0_0_ k_ ∨ w.heap.size ≤ k_) ∧ some k_ ≠ (.slice Ao8 x5_1.length co8 : Value).ownBlock ∧ k_ ≠ g) (Kd.V_keptB (HO_1000.out) hkp (fun k_ hk_ hs_ => (hk_.2.2) hs_)) (fun k_ hk_ => ⟨hk_.1.1, hk_.1.2.1, hk_.1.2.2⟩)); have n2_ := A7_ (hbx); have n3_ := A7_ (Kd.V_mono (ok' := fun k_ => (P0_0_ k_ ∨ w.heap.size ≤ k_) ∧ some k_ ≠ (.slice Ao8 x5_1.length co8 : Value).ownBlock ∧ k_ ≠ g) ho0 (fun k_ hk_ => ⟨Or.elim hk_ (fun hs_ => hs_.1) (fun hn_ => (.inr (Nat.le_trans q7_48 hn_))), Or.elim hk_ (fun hs_ => hs_.2.1) (fun hn_ => (Kd.fresh' (Kd.R_lt q7_44) k_ hn_)), Or.elim hk_ (fun hs_ => hs_.2.2) (fun hn_ => (Kd.freshB (g := g) (o := .cells #[.slice Ao9 x1000_1.length co9, .int .i64 x1001_1] 104 (0, 0)) q7_39 k_ hn_))⟩)); have n4_ := A7_ (Kept.then_ (S := (fun k_ => k_ = g)) q7_52 hkp (fun k_ hs_ => (fun e_ => .inl e_) hs_)); have n5_ := A7_ (hb); clear HO_5 HO_1000 BK0 HK HB; have HO_5 := n0_; have HO_1000 := n1_; have BK0 := n2_; have HO278 := n3_; have HK := n4_; have HB := n5_; clear n0_ n1_ n2_ n3_ n4_ n5_; (try clear hbx); (try clear hbn); (try clear hgn); (try clear hb); (try clear hkp); (try clear ho0)) | ((with_reducible refine gate_dst (N := 6) rfl ?_); (try (refine gate_guard (by rfl) ?_; dsimp only)); refine box_event ?hg (N := 6) ?hd (cs := #[.int .i64 0, .int .i32 0, .int .i64 0, .int .i64 0, .int .i64 0]) (t := 55) ?hr ?_; (case hd => rfl); (case hg => rfl); (case hr => first | (go_simp; done) | (go_simp; rfl)); intro gb280 hg w11 hbox hb; have n0_ := A7_ (Kd.R_below q7_44 hb); have n1_ := A7_ (Kd.V_below (Kd.V_elderB q7_54 gb280 (Nat.le_of_eq hg.symm)) hb); have n2_ := A7_ (Kd.V_below (Kd.V_elderB q7_55 gb280 (Nat.le_of_eq hg.symm)) hb); have n3_ := A7_ (blk_below (g := g) (o := .cells #[v277, .int .i64 t279] 104 (0, 0)) q7_39 hb); have n4_ := A7_ (Kept.below (S := (fun k_ => k_ = g)) q7_52 hb); have n5_ := A7_ (below_step q7_53 hb); have n6_ := A7_ (hbox); have n7_ := A7_ ((by rw [hg]; exact q7_48 : w.heap.size ≤ gb280)); have n8_ := A7_ ((by rw [hg]; exact (below_size q7_53) : w0.heap.size ≤ gb280)); have n9_ := A7_ ((by rw [hg]; exact Nat.ne_of_lt (blk_lt (g := g) (o := .cells #[v277, .int .i64 t279] 104 (0, 0)) q7_39) : g ≠ gb280)); have n10_ := A7_ ((by rw [hg]; exact Nat.ne_of_gt (blk_lt (g := g) (o := .cells #[v277, .int .i64 t279] 104 (0, 0)) q7_39) : gb280 ≠ g)); clear HO_5 HO_1000 HO278 BK0 HK HB; have HO_5 := n0_; have HO_1000 := n1_; have HO278 := n2_; have BK0 := n3_; have HK := n4_; have HB := n5_; have BK280 := n6_; have GW280 := n7_; have GE280 := n8_; have NB0_280 := n9_; have NB280_0 := n10_; clear n0_ n1_ n2_ n3_ n4_ n5_ n6_ n7_ n8_ n9_ n10_; clear hb hbox hg; have hnb12 := NB280_0.out; have hnc12 := NB0_280.out; have hcz13_0 : w11.cell? ⟨gb280, 0, none⟩ = some (.int .i64 0) := bc7_ BK280 0; have hcz13_1 : w11.cell? ⟨gb280, 1, none⟩ = some (.int .i32 0) := bc7_ BK280 1; have hcz13_2 : w11.cell? ⟨gb280, 2, none⟩ = some (.int .i64 0) := bc7_ BK280 2; have hcz13_3 : w11.cell? ⟨gb280, 3, none⟩ = some (.int .i64 0) := bc7_ BK280 3; have hcz13_4 : w11.cell? ⟨gb280, 4, none⟩ = some (.int .i64 0) := bc7_ BK280 4; have hfz13_0 := blk_frozen BK280.out 0; have hfz13_1 := blk_frozen BK280.out 1; have hfz13_2 := blk_frozen BK280.out 2; have hfz13_3 := blk_frozen BK280.out 3; have hfz13_4 := blk_frozen BK280.out 4) | ((with_reducible refine gate_store (t := 55) (p := 6) rfl ?_); refine store_event (t := 55) (p := 6) (v := ?vo_w14) (w1 := (((((w11.setCell ⟨gb280, 0, none⟩ (.int .i64 t271)).setCell ⟨gb280, 1, none⟩ (.int .i32 t272)).setCell ⟨gb280, 2, none⟩ (.int .i64 t273)).setCell ⟨gb280, 3, none⟩ (.int .i64 t274)).setCell ⟨gb280, 4, none⟩ (.int .i64 t275))) ?hg ?ho ?hn ?hr ?_; (case ho => rfl); (case hg => rfl); (case hn => rfl); (case hr => first | (go_simp; done) | (go_simp; rfl)); intro w14 hw; have n0_ : Aside0 (Kd.R k53 53 w14 w0.heap.size (fun k_ => (w.heap.size ≤ k_)) (.slice Ao8 x5_1.length co8) x5_1) := ⟨q7_51⟩; have n1_ : Aside0 (Kd.V (Kd.int .u8) 5 w14 w0.heap.size (fun k_ => (P0_0_ k_ ∨ w.heap.size ≤ k_) ∧ some k_ ≠ (.slice Ao8 x5_1.length co8 : Value).ownBlock ∧ k_ ≠ g ∧ k_ ≠ gb280) (.slice Ao9 x1000_1.length co9) x1000_1) := ⟨q7_49⟩; have n2_ : Aside0 (Kd.V (Kd.int .u8) 5 w14 w0.heap.size (fun k_ => (P0_0_ k_ ∨ w.heap.size ≤ k_) ∧ some k_ ≠ (.slice Ao8 x5_1.length co8 : Value).ownBlock ∧ k_ ≠ g ∧ k_ ≠ gb280) v277 t276) := ⟨q7_50⟩; have n3_ : Aside0 (w14.heap[g]? = some (.cells #[v277, .int .i64 t279] 104 (0, 0))) := ⟨q7_47⟩; have n4_ : Aside0 (w14.heap[gb280]? = some (.cells #[.int .i64 t271, .int .i32 t272, .int .i64 t273, .int .i64 t274, .int .i64 t275] 55 (0, 0))) := ⟨q7_41⟩; have n5_ : Aside0 (Kept w w14 (fun k_ => k_ = g)) := ⟨(by rw [hw]; exact q7_40)⟩; have n6_ : Aside0 (Below w0.heap.size w0 w14) := ⟨(by rw [hw]; exact q7_42)⟩; clear hw HO_5 HO_1000 HO278 BK0 BK280 HK HB; have HO_5 := n0_; have HO_1000 := n1_; have HO278 := n2_; have BK0 := n3_; have BK280 := n4_; have HK := n5_; have HB := n6_; clear n0_ n1_ n2_ n3_ n4_ n5_ n6_; obtain ⟨Ao15, co15, eo15⟩ := Kd.V_slice HO278.out; subst eo15) | ((with_reducible refine gate_callee (f := 44) rfl ?_); refine goesL_ (some 14) rfl rfl Try.func44 q7_38 rfl #[.pointer (some ⟨g, 0, none⟩)] rfl q7_45 ?_; (with_reducible refine (codec_Reader_Err.calls g (fun k_ => ((P0_0_ k_ ∨ w.heap.size ≤ k_) ∧ (some k_ ≠ (.slice Ao8 x5_1.length co8 : Value).ownBlock ∧ (k_ ≠ g ∧ k_ ≠ gb280)))) Ao15 co15 t276 t279 t281 t282 t285 w0 _ ?side2 ?side3 ?side1 ?side4 A5.out).mono ?_); (case side1 => repeat (first | (with_reducible first | exact HB.out | apply below_alloc | apply pw_below_drewN | apply below_drew1 | refine below_set ?_ GE0.out | refine below_set ?_ GE280.out) | exact HB.out)); (case side2 => (with_reducible repeat (first | refine blk_drewN ?_ _ | refine blk_drew ?_ | refine blk_alloc ?_ _)); exact BK0.out); (case side3 => exact GE0.out); (case side4 => exact Kd.V_mono (HO278.out) (fun k_ hk_ => ⟨hk_, hk_.2.2.1⟩)); rintro e w16 ⟨v283, rfl, ho0, hbx, hb, hkp⟩; refine ⟨_, rfl, ?_⟩; have n0_ := A7_ (Kd.R_mono (ok' := fun k_ => (w.heap.size ≤ k_)) (Kd.R_keptB ((Kd.R_types HO_5.out (show (World.heap _)[g]? = some (.cells #[.slice Ao15 t276.length co15, .int .i64 t279] 104 (0, 0)) from by (with_reducible repeat (first | refine blk_drewN ?_ _ | refine blk_drew ?_ | refine blk_alloc ?_ _)); exact BK0.out) (by decide))) hkp (fun k_ hk_ hs_ => (hk_.2) hs_)) (fun k_ hk_ => hk_.1.1)); have n1_ := A7_ (Kd.V_mono (ok' := fun k_ => (P0_0_ k_ ∨ w.heap.size ≤ k_) ∧ some k_ ≠ (.slice Ao8 x5_1.length co8 : Value).ownBlock ∧ k_ ≠ g ∧ k_ ≠ gb280) (Kd.V_keptB (HO_1000.out) hkp (fun k_ hk_ hs_ => (hk_.2.2.1) hs_)) (fun k_ hk_ => ⟨hk_.1.1, hk_.1.2.1, hk_.1.2.2.1, hk_.1.2.2.2⟩)); have n2_ := A7_ (hbx); have n3_ := A7_ (Kd.V_mono (ok' := fun k_ => (P0_0_ k_ ∨ w.heap.size ≤ k_) ∧ some k_ ≠ (.slice Ao8 x5_1.length co8 : Value).ownBlock ∧ k_ ≠ g ∧ k_ ≠ gb280) (Kd.V_keptB (HO278.out) hkp (fun k_ hk_ hs_ => (hk_.2.2.1) hs_)) (fun k_ hk_ => ⟨hk_.1.1, hk_.1.2.1, hk_.1.2.2.1, hk_.1.2.2.2⟩)); have n4_ := A7_ (blk_kept q7_43 hkp (fun hs_ => (fun e_ => NB280_0.out e_) hs_)); have n5_ := A7_ (Kd.V_mono (ok' := fun k_ => (P0_0_ k_ ∨ w.heap.size ≤ k_) ∧ some k_ ≠ (.slice Ao8 x5_1.length co8 : Value).ownBlock ∧ k_ ≠ g ∧ k_ ≠ gb280) ho0 (fun k_ hk_ => ⟨Or.elim hk_ (fun hs_ => hs_.1) (fun hn_ => (.inr (Nat.le_trans q7_46 hn_))), Or.elim hk_ (fun hs_ => hs_.2.1) (fun hn_ => (Kd.fresh' (Kd.R_lt q7_44) k_ hn_)), Or.elim hk_ (fun hs_ => hs_.2.2.1) (fun hn_ => (Kd.freshB (g := g) (o := .cells #[.slice Ao15 t276.length co15, .int .i64 t279] 104 (0, 0)) q7_39 k_ hn_)), Or.elim hk_ (fun hs_ => hs_.2.2.2) (fun hn_ => (Kd.freshB (g := gb280) (o := .cells #[.int .i64 t271, .int .i32 t272, .int .i64 t273, .int .i64 t274, .int .i64 t275] 55 (0, 0)) q7_43 k_ hn_))⟩)); have n6_ := A7_ (Kept.then_ (S := (fun k_ => k_ = g)) q7_40 hkp (fun k_ hs_ => (fun e_ => .inl e_) hs_)); have n7_ := A7_ (hb); clear HO_5 HO_1000 BK0 HO278 BK280 HK HB; have HO_5 := n0_; have HO_1000 := n1_; have BK0 := n2_; have HO278 := n3_; have BK280 := n4_; have HO284 := n5_; have HK := n6_; have HB := n7_; clear n0_ n1_ n2_ n3_ n4_ n5_ n6_ n7_; (try clear hbx); (try clear hbn); (try clear hgn); (try clear hb); (try clear hkp); (try clear ho0)))
     (try simp only [Act.put, List.setIfInBounds_toArray, List.set_cons_zero, List.set_cons_succ])
     go_cut [49] (fun v49 wc => ∃ (kq : Nat) (x49_6 : Bool), v49 = .bool x49_6 ∧ Aside0 (cell_Read.j1 kq a1 x5_1 x49_6 t282 t285 t271 t272 t273 t274 t275 = some (r1, r2, r3)) ∧ Aside0 (kq ≤ k1) ∧ Aside0 (Kd.R k53 53 wc w0.heap.size (fun k_ => (w.heap.size ≤ k_)) (.slice Ao8 x5_1.length co8) x5_1) ∧ Aside0 (Kd.V (Kd.int .u8) 5 wc w0.heap.size (fun k_ => (P0_0_ k_ ∨ w.heap.size ≤ k_) ∧ some k_ ≠ ((.slice Ao8 x5_1.length co8) : Value).ownBlock ∧ k_ ≠ g ∧ k_ ≠ gb280) v283 t282) ∧ Aside0 (wc.heap[g]? = some (.cells #[v283, .int .i64 t285] 104 (0, 0))) ∧ Aside0 (wc.heap[gb280]? = some (.cells #[.int .i64 t271, .int .i32 t272, .int .i64 t273, .int .i64 t274, .int .i64 t275] 55 (0, 0))) ∧ Aside0 (Kept w wc (fun k_ => k_ = g)) ∧ Aside0 (Below w0.heap.size w0 wc))
     case first =>
      have H := HC7.out
      clear HC7
      by_cases c17 : t271 = 0
      ·rw [if_pos c17] at H
       have c17b0 : (t271 == 0) = true := beq_iff_eq.mpr c17
       have c17b1 : (t271 != 0) = false := bne_eq_false_iff_eq.mpr c17
       clear c17
       (first | rw [c17b0] | (simp only [i64_w, i32_w]; rw [c17b0]) | rw [c17b1] | rw [c17b2] | skip)
       have H' := A7_ H
       clear H
       try go_wp2
       have n0_ := A7_ (Kd.R_drew HO_5.out)
       have n1_ := A7_ (Kd.V_drew HO_1000.out)
       have n2_ := A7_ (Kd.V_drew HO278.out)
       have n3_ := A7_ (Kd.V_drew HO284.out)
       have n4_ := A7_ (blk_drew BK0.out)
       have n5_ := A7_ (blk_drew BK280.out)
       have n6_ := A7_ (Kept.drew HK.out)
       have n7_ := A7_ (below_drew1 HB.out)
       clear HO_5
       clear HO_1000
       clear HO278
       clear HO284
       clear BK0
       clear BK280
       clear HK
       clear HB
       have HO_5 := n0_
       have HO_1000 := n1_
       have HO278 := n2_
       have HO284 := n3_
       have BK0 := n4_
       have BK280 := n5_
       have HK := n6_
       have HB := n7_
       clear n0_ n1_ n2_ n3_ n4_ n5_ n6_ n7_
       refine start_ (n := 34) (S := fun w' => w'.cell? ⟨gb280, 0, none⟩ = some (.int .i64 t271) ∧ w'.cell? ⟨gb280, 1, none⟩ = some (.int .i32 t272) ∧ w'.cell? ⟨gb280, 2, none⟩ = some (.int .i64 t273) ∧ w'.cell? ⟨gb280, 3, none⟩ = some (.int .i64 t274) ∧ w'.cell? ⟨gb280, 4, none⟩ = some (.int .i64 t275)) (ds := []) m7_0 q7_38 rfl rfl ⟨bc7_ BK280 0, bc7_ BK280 1, bc7_ BK280 2, bc7_ BK280 3, bc7_ BK280 4⟩ (fun hHeld => ?_); refine with_tabW cell_Read.tab6 cell_Read.bits6 (fun HT_ HW_ => ?_)
       generalize w16.drew = w18 at HO_5 HO_1000 HO278 HO284 BK0 BK280 HK HB hHeld ⊢
       refine pure_ (i := 0) (N := some 16) (v := ?_) (a' := ?_) m7_1 rfl rfl (any_of HT_.out q7_38) (fun _ _ _ h => h) (Or.inl ⟨by rfl, ?_⟩) ?_ ?_
       rotate_left
       ·intro w'
        go_simp
        with_reducible rfl
       rotate_left
       ·simp only [Act.put, List.setIfInBounds_toArray, List.set_cons_zero, List.set_cons_succ, i64_w, i32_w]
        rfl
       refine take_ (i := 1) (N := some 17) (v := ?_) (a' := ?_) m7_2 rfl rfl (take_ofW HT_.out HW_.out q7_38) (fun _ _ _ h => h) (Or.inl ⟨by rfl, ?_⟩) hHeld ?_ ?_
       rotate_left
       ·rintro w' ⟨s0, s1, s2, s3, s4⟩
        go_simp
        with_reducible rfl
       rotate_left
       ·simp only [Act.put, List.setIfInBounds_toArray, List.set_cons_zero, List.set_cons_succ, i64_w, i32_w]
        rfl
       refine pure_ (i := 2) (N := some 18) (v := ?_) (a' := ?_) m7_3 rfl rfl (any_of HT_.out q7_38) (fun _ _ _ h => h) (Or.inl ⟨by rfl, ?_⟩) ?_ ?_
       rotate_left
       ·intro w'
        go_simp
        with_reducible rfl
       rotate_left
       ·simp only [Act.put, List.setIfInBounds_toArray, List.set_cons_zero, List.set_cons_succ, i64_w, i32_w]
        rfl
       refine pure_ (i := 3) (N := some 19) (v := ?_) (a' := ?_) m7_4 rfl rfl (any_of HT_.out q7_38) (fun _ _ _ h => h) (Or.inl ⟨by rfl, ?_⟩) ?_ ?_
       rotate_left
       ·intro w'
        go_simp
        with_reducible rfl
       rotate_left
       ·simp only [Act.put, List.setIfInBounds_toArray, List.set_cons_zero, List.set_cons_succ, i64_w, i32_w]
        rfl
       refine pure_ (i := 4) (N := some 20) (v := undef) (a' := ?_) m7_5 rfl rfl (any_of HT_.out q7_38) (fun _ _ _ h => h) (Or.inr ⟨by rfl, rfl⟩) ?_ ?_
       rotate_left
       ·simp only [Act.put, List.setIfInBounds_toArray, List.set_cons_zero, List.set_cons_succ, i64_w, i32_w]
        rfl
       refine pure_ (i := 5) (N := some 21) (v := undef) (a' := ?_) #[true, true, true, true, true, true, false, false, false, false, false, false, false, false, false, false, false, false, false, false, false, false, false, false, false, false, false, false, false, false, false, false, false, false] rfl rfl (any_of HT_.out q7_38) (fun _ _ _ h => h) (Or.inr ⟨by rfl, rfl⟩) ?_ ?_
       rotate_left
       ·simp only [Act.put, List.setIfInBounds_toArray, List.set_cons_zero, List.set_cons_succ, i64_w, i32_w]
        rfl
       refine pure_ (i := 6) (N := some 22) (v := undef) (a' := ?_) #[true, true, true, true, true, true, true, false, false, false, false, false, false, false, false, false, false, false, false, false, false, false, false, false, false, false, false, false, false, false, false, false, false, false] rfl rfl (any_of HT_.out q7_38) (fun _ _ _ h => h) (Or.inr ⟨by rfl, rfl⟩) ?_ ?_
       rotate_left
       ·simp only [Act.put, List.setIfInBounds_toArray, List.set_cons_zero, List.set_cons_succ, i64_w, i32_w]
        rfl
       refine pure_ (i := 7) (N := some 23) (v := undef) (a' := ?_) #[true, true, true, true, true, true, true, true, false, false, false, false, false, false, false, false, false, false, false, false, false, false, false, false, false, false, false, false, false, false, false, false, false, false] rfl rfl (any_of HT_.out q7_38) (fun _ _ _ h => h) (Or.inr ⟨by rfl, rfl⟩) ?_ ?_
       rotate_left
       ·simp only [Act.put, List.setIfInBounds_toArray, List.set_cons_zero, List.set_cons_succ, i64_w, i32_w]
        rfl
       refine pure_ (i := 8) (N := some 24) (v := undef) (a' := ?_) #[true, true, true, true, true, true, true, true, true, false, false, false, false, false, false, false, false, false, false, false, false, false, false, false, false, false, false, false, false, false, false, false, false, false] rfl rfl (any_of HT_.out q7_38) (fun _ _ _ h => h) (Or.inr ⟨by rfl, rfl⟩) ?_ ?_
       rotate_left
       ·simp only [Act.put, List.setIfInBounds_toArray, List.set_cons_zero, List.set_cons_succ, i64_w, i32_w]
        rfl
       refine pure_ (i := 9) (N := some 25) (v := undef) (a' := ?_) m7_14 rfl rfl (any_of HT_.out q7_38) (fun _ _ _ h => h) (Or.inr ⟨by rfl, rfl⟩) ?_ ?_
       rotate_left
       ·simp only [Act.put, List.setIfInBounds_toArray, List.set_cons_zero, List.set_cons_succ, i64_w, i32_w]
        rfl
       refine pure_ (i := 10) (N := some 26) (v := undef) (a' := ?_) m7_15 rfl rfl (any_of HT_.out q7_38) (fun _ _ _ h => h) (Or.inr ⟨by rfl, rfl⟩) ?_ ?_
       rotate_left
       ·simp only [Act.put, List.setIfInBounds_toArray, List.set_cons_zero, List.set_cons_succ, i64_w, i32_w]
        rfl
       refine pure_ (i := 11) (N := some 27) (v := ?_) (a' := ?_) m7_16 rfl rfl (any_of HT_.out q7_38) (fun _ _ _ h => h) (Or.inl ⟨by rfl, ?_⟩) ?_ ?_
       rotate_left
       ·intro w'
        go_simp
        with_reducible rfl
       rotate_left
       ·simp only [Act.put, List.setIfInBounds_toArray, List.set_cons_zero, List.set_cons_succ, i64_w, i32_w]
        rfl
       refine pure_ (i := 12) (N := some 28) (v := ?_) (a' := ?_) m7_17 rfl rfl (any_of HT_.out q7_38) (fun _ _ _ h => h) (Or.inl ⟨by rfl, ?_⟩) ?_ ?_
       rotate_left
       ·intro w'
        go_simp
        with_reducible rfl
       rotate_left
       ·simp only [Act.put, List.setIfInBounds_toArray, List.set_cons_zero, List.set_cons_succ, i64_w, i32_w]
        rfl
       refine pure_ (i := 13) (N := some 29) (v := undef) (a' := ?_) m7_18 rfl rfl (any_of HT_.out q7_38) (fun _ _ _ h => h) (Or.inr ⟨by rfl, rfl⟩) ?_ ?_
       rotate_left
       ·simp only [Act.put, List.setIfInBounds_toArray, List.set_cons_zero, List.set_cons_succ, i64_w, i32_w]
        rfl
       refine pure_ (i := 14) (N := some 30) (v := undef) (a' := ?_) m7_19 rfl rfl (any_of HT_.out q7_38) (fun _ _ _ h => h) (Or.inr ⟨by rfl, rfl⟩) ?_ ?_
       rotate_left
       ·simp only [Act.put, List.setIfInBounds_toArray, List.set_cons_zero, List.set_cons_succ, i64_w, i32_w]
        rfl
       refine pure_ (i := 15) (N := some 31) (v := undef) (a' := ?_) m7_20 rfl rfl (any_of HT_.out q7_38) (fun _ _ _ h => h) (Or.inr ⟨by rfl, rfl⟩) ?_ ?_
       rotate_left
       ·simp only [Act.put, List.setIfInBounds_toArray, List.set_cons_zero, List.set_cons_succ, i64_w, i32_w]
        rfl
       refine pure_ (i := 16) (N := some 32) (v := undef) (a' := ?_) m7_21 rfl rfl (any_of HT_.out q7_38) (fun _ _ _ h => h) (Or.inr ⟨by rfl, rfl⟩) ?_ ?_
       rotate_left
       ·simp only [Act.put, List.setIfInBounds_toArray, List.set_cons_zero, List.set_cons_succ, i64_w, i32_w]
        rfl
       refine pure_ (i := 17) (N := some 33) (v := ?_) (a' := ?_) m7_22 rfl rfl (any_of HT_.out q7_38) (fun _ _ _ h => h) (Or.inl ⟨by rfl, ?_⟩) ?_ ?_
       rotate_left
       ·intro w'
        go_simp
        with_reducible rfl
       rotate_left
       ·simp only [Act.put, List.setIfInBounds_toArray, List.set_cons_zero, List.set_cons_succ, i64_w, i32_w]
        rfl
       refine pure_ (i := 18) (N := some 34) (v := ?_) (a' := ?_) m7_23 rfl rfl (any_of HT_.out q7_38) (fun _ _ _ h => h) (Or.inl ⟨by rfl, ?_⟩) ?_ ?_
       rotate_left
       ·intro w'
        go_simp
        with_reducible rfl
       rotate_left
       ·simp only [Act.put, List.setIfInBounds_toArray, List.set_cons_zero, List.set_cons_succ, i64_w, i32_w]
        rfl
       refine pure_ (i := 19) (N := some 35) (v := undef) (a' := ?_) m7_24 rfl rfl (any_of HT_.out q7_38) (fun _ _ _ h => h) (Or.inr ⟨by rfl, rfl⟩) ?_ ?_
       rotate_left
       ·simp only [Act.put, List.setIfInBounds_toArray, List.set_cons_zero, List.set_cons_succ, i64_w, i32_w]
        rfl
       refine pure_ (i := 20) (N := some 36) (v := undef) (a' := ?_) m7_25 rfl rfl (any_of HT_.out q7_38) (fun _ _ _ h => h) (Or.inr ⟨by rfl, rfl⟩) ?_ ?_
       rotate_left
       ·simp only [Act.put, List.setIfInBounds_toArray, List.set_cons_zero, List.set_cons_succ, i64_w, i32_w]
        rfl
       refine pure_ (i := 21) (N := some 37) (v := undef) (a' := ?_) m7_26 rfl rfl (any_of HT_.out q7_38) (fun _ _ _ h => h) (Or.inr ⟨by rfl, rfl⟩) ?_ ?_
       rotate_left
       ·simp only [Act.put, List.setIfInBounds_toArray, List.set_cons_zero, List.set_cons_succ, i64_w, i32_w]
        rfl
       refine pure_ (i := 22) (N := some 38) (v := undef) (a' := ?_) m7_27 rfl rfl (any_of HT_.out q7_38) (fun _ _ _ h => h) (Or.inr ⟨by rfl, rfl⟩) ?_ ?_
       rotate_left
       ·simp only [Act.put, List.setIfInBounds_toArray, List.set_cons_zero, List.set_cons_succ, i64_w, i32_w]
        rfl
       refine pure_ (i := 23) (N := some 39) (v := undef) (a' := ?_) m7_28 rfl rfl (any_of HT_.out q7_38) (fun _ _ _ h => h) (Or.inr ⟨by rfl, rfl⟩) ?_ ?_
       rotate_left
       ·simp only [Act.put, List.setIfInBounds_toArray, List.set_cons_zero, List.set_cons_succ, i64_w, i32_w]
        rfl
       refine pure_ (i := 24) (N := some 40) (v := undef) (a' := ?_) m7_29 rfl rfl (any_of HT_.out q7_38) (fun _ _ _ h => h) (Or.inr ⟨by rfl, rfl⟩) ?_ ?_
       rotate_left
       ·simp only [Act.put, List.setIfInBounds_toArray, List.set_cons_zero, List.set_cons_succ, i64_w, i32_w]
        rfl
       refine pure_ (i := 25) (N := some 41) (v := undef) (a' := ?_) m7_30 rfl rfl (any_of HT_.out q7_38) (fun _ _ _ h => h) (Or.inr ⟨by rfl, rfl⟩) ?_ ?_
       rotate_left
       ·simp only [Act.put, List.setIfInBounds_toArray, List.set_cons_zero, List.set_cons_succ, i64_w, i32_w]
        rfl
       refine pure_ (i := 26) (N := some 42) (v := undef) (a' := ?_) m7_31 rfl rfl (any_of HT_.out q7_38) (fun _ _ _ h => h) (Or.inr ⟨by rfl, rfl⟩) ?_ ?_
       rotate_left
       ·simp only [Act.put, List.setIfInBounds_toArray, List.set_cons_zero, List.set_cons_succ, i64_w, i32_w]
        rfl
       refine pure_ (i := 27) (N := some 43) (v := undef) (a' := ?_) m7_32 rfl rfl (any_of HT_.out q7_38) (fun _ _ _ h => h) (Or.inr ⟨by rfl, rfl⟩) ?_ ?_
       rotate_left
       ·simp only [Act.put, List.setIfInBounds_toArray, List.set_cons_zero, List.set_cons_succ, i64_w, i32_w]
        rfl
       refine pure_ (i := 28) (N := some 44) (v := undef) (a' := ?_) m7_34 rfl rfl (any_of HT_.out q7_38) (fun _ _ _ h => h) (Or.inr ⟨by rfl, rfl⟩) ?_ ?_
       rotate_left
       ·simp only [Act.put, List.setIfInBounds_toArray, List.set_cons_zero, List.set_cons_succ, i64_w, i32_w]
        rfl
       refine pure_ (i := 29) (N := some 45) (v := undef) (a' := ?_) m7_35 rfl rfl (any_of HT_.out q7_38) (fun _ _ _ h => h) (Or.inr ⟨by rfl, rfl⟩) ?_ ?_
       rotate_left
       ·simp only [Act.put, List.setIfInBounds_toArray, List.set_cons_zero, List.set_cons_succ, i64_w, i32_w]
        rfl
       refine pure_ (i := 30) (N := some 46) (v := undef) (a' := ?_) m7_36 rfl rfl (any_of HT_.out q7_38) (fun _ _ _ h => h) (Or.inr ⟨by rfl, rfl⟩) ?_ ?_
       rotate_left
       ·simp only [Act.put, List.setIfInBounds_toArray, List.set_cons_zero, List.set_cons_succ, i64_w, i32_w]
        rfl
       refine pure_ (i := 31) (N := some 47) (v := undef) (a' := ?_) m7_37 rfl rfl (any_of HT_.out q7_38) (fun _ _ _ h => h) (Or.inr ⟨by rfl, rfl⟩) ?_ ?_
       rotate_left
       ·simp only [Act.put, List.setIfInBounds_toArray, List.set_cons_zero, List.set_cons_succ, i64_w, i32_w]
        rfl
       refine pure_ (i := 32) (N := some 48) (v := undef) (a' := ?_) m7_38 rfl rfl (any_of HT_.out q7_38) (fun _ _ _ h => h) (Or.inr ⟨by rfl, rfl⟩) ?_ ?_
       rotate_left
       ·simp only [Act.put, List.setIfInBounds_toArray, List.set_cons_zero, List.set_cons_succ, i64_w, i32_w]
        rfl
       refine pure_ (i := 33) (N := some 49) (v := ?_) (a' := ?_) m7_39 rfl rfl (any_of HT_.out q7_38) (fun _ _ _ h => h) (Or.inl ⟨by rfl, ?_⟩) ?_ ?_
       rotate_left
       ·intro w'
        go_simp
        with_reducible rfl
       rotate_left
       ·simp only [Act.put, List.setIfInBounds_toArray, List.set_cons_zero, List.set_cons_succ, i64_w, i32_w]
        rfl
       refine done_ (done_of HT_.out q7_38) ?_
       try go_wp2
       go_meet
       case rel => exact ⟨_, (true), q7_56, H', ⟨by have := HK1.out; first | omega | exact Nat.le_refl _⟩, ⟨by (with_reducible repeat (first | apply Kd.R_alloc | apply Kd.R_drewN | apply Kd.R_drew)); exact HO_5.out⟩, ⟨by (with_reducible repeat (first | apply Kd.V_alloc | apply Kd.V_drewN | apply Kd.V_drew)); exact HO284.out⟩, ⟨by (with_reducible repeat (first | refine blk_drewN ?_ _ | refine blk_drew ?_ | refine blk_alloc ?_ _)); exact BK0.out⟩, ⟨by (with_reducible repeat (first | refine blk_drewN ?_ _ | refine blk_drew ?_ | refine blk_alloc ?_ _)); exact BK280.out⟩, ⟨by repeat (first | (with_reducible first | exact HK.out | apply Kept.alloc | apply Kept.drewN | apply Kept.drew | refine Kept.setCell ?_ (.inl (show g = g from rfl)) _ | refine Kept.setCell ?_ (.inr GW280.out) _) | exact HK.out)⟩, ⟨by repeat (first | (with_reducible first | exact HB.out | apply below_alloc | apply pw_below_drewN | apply below_drew1 | refine below_set ?_ GE0.out | refine below_set ?_ GE280.out) | exact HB.out)⟩⟩
      ·rw [if_neg c17] at H
       have c17b0 : (t271 == 0) = false := beq_eq_false_iff_ne.mpr c17
       have c17b1 : (t271 != 0) = true := bne_iff_ne.mpr c17
       (first | rw [c17b0] | (simp only [i64_w, i32_w]; rw [c17b0]) | rw [c17b1] | rw [c17b2] | skip)
       by_cases c19 : t271 > (wrap64 (a1 - (x5_1.length : Int)))
       ·rw [if_pos c19] at H
        have c19b0 : decide ((wrap64 (a1 - (x5_1.length : Int))) < t271) = true := decide_eq_true c19
        clear c19
        have H' := A7_ H
        clear H
        try go_wp2
        have n0_ := A7_ (Kd.R_drew HO_5.out)
        have n1_ := A7_ (Kd.V_drew HO_1000.out)
        have n2_ := A7_ (Kd.V_drew HO278.out)
        have n3_ := A7_ (Kd.V_drew HO284.out)
        have n4_ := A7_ (blk_drew BK0.out)
        have n5_ := A7_ (blk_drew BK280.out)
        have n6_ := A7_ (Kept.drew HK.out)
        have n7_ := A7_ (below_drew1 HB.out)
        clear HO_5
        clear HO_1000
        clear HO278
        clear HO284
        clear BK0
        clear BK280
        clear HK
        clear HB
        have HO_5 := n0_
        have HO_1000 := n1_
        have HO278 := n2_
        have HO284 := n3_
        have BK0 := n4_
        have BK280 := n5_
        have HK := n6_
        have HB := n7_
        clear n0_ n1_ n2_ n3_ n4_ n5_ n6_ n7_
        refine start_ (n := 34) (S := fun w' => w'.cell? ⟨gb280, 0, none⟩ = some (.int .i64 t271) ∧ w'.cell? ⟨gb280, 1, none⟩ = some (.int .i32 t272) ∧ w'.cell? ⟨gb280, 2, none⟩ = some (.int .i64 t273) ∧ w'.cell? ⟨gb280, 3, none⟩ = some (.int .i64 t274) ∧ w'.cell? ⟨gb280, 4, none⟩ = some (.int .i64 t275)) (ds := []) m7_0 q7_38 rfl rfl ⟨bc7_ BK280 0, bc7_ BK280 1, bc7_ BK280 2, bc7_ BK280 3, bc7_ BK280 4⟩ (fun hHeld => ?_); refine with_tabW cell_Read.tab6 cell_Read.bits6 (fun HT_ HW_ => ?_)
        generalize w16.drew = w20 at HO_5 HO_1000 HO278 HO284 BK0 BK280 HK HB hHeld ⊢
        refine pure_ (i := 0) (N := some 16) (v := ?_) (a' := ?_) m7_1 rfl rfl (any_of HT_.out q7_38) (fun _ _ _ h => h) (Or.inl ⟨by rfl, ?_⟩) ?_ ?_
        rotate_left
        ·intro w'
         go_simp
         with_reducible rfl
        rotate_left
        ·simp only [Act.put, List.setIfInBounds_toArray, List.set_cons_zero, List.set_cons_succ, i64_w, i32_w]
         rfl
        refine take_ (i := 1) (N := some 17) (v := ?_) (a' := ?_) m7_2 rfl rfl (take_ofW HT_.out HW_.out q7_38) (fun _ _ _ h => h) (Or.inl ⟨by rfl, ?_⟩) hHeld ?_ ?_
        rotate_left
        ·rintro w' ⟨s0, s1, s2, s3, s4⟩
         go_simp
         with_reducible rfl
        rotate_left
        ·simp only [Act.put, List.setIfInBounds_toArray, List.set_cons_zero, List.set_cons_succ, i64_w, i32_w]
         rfl
        refine pure_ (i := 2) (N := some 18) (v := ?_) (a' := ?_) m7_3 rfl rfl (any_of HT_.out q7_38) (fun _ _ _ h => h) (Or.inl ⟨by rfl, ?_⟩) ?_ ?_
        rotate_left
        ·intro w'
         go_simp
         with_reducible rfl
        rotate_left
        ·simp only [Act.put, List.setIfInBounds_toArray, List.set_cons_zero, List.set_cons_succ, i64_w, i32_w]
         rfl
        refine pure_ (i := 3) (N := some 19) (v := ?_) (a' := ?_) m7_4 rfl rfl (any_of HT_.out q7_38) (fun _ _ _ h => h) (Or.inl ⟨by rfl, ?_⟩) ?_ ?_
        rotate_left
        ·intro w'
         go_simp
         with_reducible rfl
        rotate_left
        ·simp only [Act.put, List.setIfInBounds_toArray, List.set_cons_zero, List.set_cons_succ, i64_w, i32_w]
         rfl
        refine pure_ (i := 4) (N := some 20) (v := ?_) (a' := ?_) m7_5 rfl rfl (any_of HT_.out q7_38) (fun _ _ _ h => h) (Or.inl ⟨by rfl, ?_⟩) ?_ ?_
        rotate_left
        ·intro w'
         go_simp
         with_reducible rfl
        rotate_left
        ·simp only [Act.put, List.setIfInBounds_toArray, List.set_cons_zero, List.set_cons_succ, i64_w, i32_w]
         rfl
        refine pure_ (i := 6) (N := some 22) (v := ?_) (a' := ?_) m7_6 rfl rfl (any_of HT_.out q7_38) (fun _ _ _ h => h) (Or.inl ⟨by rfl, ?_⟩) ?_ ?_
        rotate_left
        ·intro w'
         go_simp
         with_reducible rfl
        rotate_left
        ·simp only [Act.put, List.setIfInBounds_toArray, List.set_cons_zero, List.set_cons_succ, i64_w, i32_w]
         rfl
        refine pure_ (i := 7) (N := some 23) (v := ?_) (a' := ?_) m7_7 rfl rfl (any_of HT_.out q7_38) (fun _ _ _ h => h) (Or.inl ⟨by rfl, ?_⟩) ?_ ?_
        rotate_left
        ·intro w'
         go_simp
         with_reducible rfl
        rotate_left
        ·simp only [Act.put, List.setIfInBounds_toArray, List.set_cons_zero, List.set_cons_succ, i64_w, i32_w]
         rfl
        refine pure_ (i := 8) (N := some 24) (v := ?_) (a' := ?_) m7_8 rfl rfl (any_of HT_.out q7_38) (fun _ _ _ h => h) (Or.inl ⟨by rfl, ?_⟩) ?_ ?_
        rotate_left
        ·intro w'
         go_simp
         with_reducible rfl
        rotate_left
        ·simp only [Act.put, List.setIfInBounds_toArray, List.set_cons_zero, List.set_cons_succ, i64_w, i32_w]
         rfl
        refine pure_ (i := 9) (N := some 25) (v := ?_) (a' := ?_) m7_9 rfl rfl (any_of HT_.out q7_38) (fun _ _ _ h => h) (Or.inl ⟨by rfl, ?_⟩) ?_ ?_
        rotate_left
        ·intro w'
         go_simp
         with_reducible rfl
        rotate_left
        ·simp only [Act.put, List.setIfInBounds_toArray, List.set_cons_zero, List.set_cons_succ, i64_w, i32_w]
         rfl
        refine take_ (i := 5) (N := some 21) (v := ?_) (a' := ?_) m7_14 rfl rfl (take_ofW HT_.out HW_.out q7_38) (fun _ _ _ h => h) (Or.inl ⟨by rfl, ?_⟩) hHeld ?_ ?_
        rotate_left
        ·rintro w' ⟨s0, s1, s2, s3, s4⟩
         go_simp
         with_reducible rfl
        rotate_left
        ·simp only [Act.put, List.setIfInBounds_toArray, List.set_cons_zero, List.set_cons_succ, i64_w, i32_w]
         rfl
        refine pure_ (i := 10) (N := some 26) (v := ?_) (a' := ?_) m7_15 rfl rfl (any_of HT_.out q7_38) (fun _ _ _ h => h) (Or.inl ⟨by rfl, ?_⟩) ?_ ?_
        rotate_left
        ·intro w'
         go_simp
         with_reducible rfl
        rotate_left
        ·simp only [Act.put, List.setIfInBounds_toArray, List.set_cons_zero, List.set_cons_succ, i64_w, i32_w]
         rfl
        refine pure_ (i := 11) (N := some 27) (v := ?_) (a' := ?_) m7_16 rfl rfl (any_of HT_.out q7_38) (fun _ _ _ h => h) (Or.inl ⟨by rfl, ?_⟩) ?_ ?_
        rotate_left
        ·intro w'
         go_simp
         with_reducible rfl
        rotate_left
        ·simp only [Act.put, List.setIfInBounds_toArray, List.set_cons_zero, List.set_cons_succ, i64_w, i32_w]
         rfl
        refine pure_ (i := 12) (N := some 28) (v := ?_) (a' := ?_) m7_17 rfl rfl (any_of HT_.out q7_38) (fun _ _ _ h => h) (Or.inl ⟨by rfl, ?_⟩) ?_ ?_
        rotate_left
        ·intro w'
         go_simp
         with_reducible rfl
        rotate_left
        ·simp only [Act.put, List.setIfInBounds_toArray, List.set_cons_zero, List.set_cons_succ, i64_w, i32_w]
         rfl
        refine pure_ (i := 13) (N := some 29) (v := undef) (a' := ?_) m7_18 rfl rfl (any_of HT_.out q7_38) (fun _ _ _ h => h) (Or.inr ⟨by rfl, rfl⟩) ?_ ?_
        rotate_left
        ·simp only [Act.put, List.setIfInBounds_toArray, List.set_cons_zero, List.set_cons_succ, i64_w, i32_w]
         rfl
        refine pure_ (i := 14) (N := some 30) (v := undef) (a' := ?_) m7_19 rfl rfl (any_of HT_.out q7_38) (fun _ _ _ h => h) (Or.inr ⟨by rfl, rfl⟩) ?_ ?_
        rotate_left
        ·simp only [Act.put, List.setIfInBounds_toArray, List.set_cons_zero, List.set_cons_succ, i64_w, i32_w]
         rfl
        refine pure_ (i := 15) (N := some 31) (v := undef) (a' := ?_) m7_20 rfl rfl (any_of HT_.out q7_38) (fun _ _ _ h => h) (Or.inr ⟨by rfl, rfl⟩) ?_ ?_
        rotate_left
        ·simp only [Act.put, List.setIfInBounds_toArray, List.set_cons_zero, List.set_cons_succ, i64_w, i32_w]
         rfl
        refine pure_ (i := 16) (N := some 32) (v := undef) (a' := ?_) m7_21 rfl rfl (any_of HT_.out q7_38) (fun _ _ _ h => h) (Or.inr ⟨by rfl, rfl⟩) ?_ ?_
        rotate_left
        ·simp only [Act.put, List.setIfInBounds_toArray, List.set_cons_zero, List.set_cons_succ, i64_w, i32_w]
         rfl
        refine pure_ (i := 17) (N := some 33) (v := ?_) (a' := ?_) m7_22 rfl rfl (any_of HT_.out q7_38) (fun _ _ _ h => h) (Or.inl ⟨by rfl, ?_⟩) ?_ ?_
        rotate_left
        ·intro w'
         go_simp
         with_reducible rfl
        rotate_left
        ·simp only [Act.put, List.setIfInBounds_toArray, List.set_cons_zero, List.set_cons_succ, i64_w, i32_w]
         rfl
        refine pure_ (i := 18) (N := some 34) (v := ?_) (a' := ?_) m7_23 rfl rfl (any_of HT_.out q7_38) (fun _ _ _ h => h) (Or.inl ⟨by rfl, ?_⟩) ?_ ?_
        rotate_left
        ·intro w'
         go_simp
         with_reducible rfl
        rotate_left
        ·simp only [Act.put, List.setIfInBounds_toArray, List.set_cons_zero, List.set_cons_succ, i64_w, i32_w]
         rfl
        refine pure_ (i := 19) (N := some 35) (v := undef) (a' := ?_) m7_24 rfl rfl (any_of HT_.out q7_38) (fun _ _ _ h => h) (Or.inr ⟨by rfl, rfl⟩) ?_ ?_
        rotate_left
        ·simp only [Act.put, List.setIfInBounds_toArray, List.set_cons_zero, List.set_cons_succ, i64_w, i32_w]
         rfl
        refine pure_ (i := 20) (N := some 36) (v := undef) (a' := ?_) m7_25 rfl rfl (any_of HT_.out q7_38) (fun _ _ _ h => h) (Or.inr ⟨by rfl, rfl⟩) ?_ ?_
        rotate_left
        ·simp only [Act.put, List.setIfInBounds_toArray, List.set_cons_zero, List.set_cons_succ, i64_w, i32_w]
         rfl
        refine pure_ (i := 21) (N := some 37) (v := undef) (a' := ?_) m7_26 rfl rfl (any_of HT_.out q7_38) (fun _ _ _ h => h) (Or.inr ⟨by rfl, rfl⟩) ?_ ?_
        rotate_left
        ·simp only [Act.put, List.setIfInBounds_toArray, List.set_cons_zero, List.set_cons_succ, i64_w, i32_w]
         rfl
        refine pure_ (i := 22) (N := some 38) (v := undef) (a' := ?_) m7_27 rfl rfl (any_of HT_.out q7_38) (fun _ _ _ h => h) (Or.inr ⟨by rfl, rfl⟩) ?_ ?_
        rotate_left
        ·simp only [Act.put, List.setIfInBounds_toArray, List.set_cons_zero, List.set_cons_succ, i64_w, i32_w]
         rfl
        refine pure_ (i := 23) (N := some 39) (v := undef) (a' := ?_) m7_28 rfl rfl (any_of HT_.out q7_38) (fun _ _ _ h => h) (Or.inr ⟨by rfl, rfl⟩) ?_ ?_
        rotate_left
        ·simp only [Act.put, List.setIfInBounds_toArray, List.set_cons_zero, List.set_cons_succ, i64_w, i32_w]
         rfl
        refine pure_ (i := 24) (N := some 40) (v := undef) (a' := ?_) m7_29 rfl rfl (any_of HT_.out q7_38) (fun _ _ _ h => h) (Or.inr ⟨by rfl, rfl⟩) ?_ ?_
        rotate_left
        ·simp only [Act.put, List.setIfInBounds_toArray, List.set_cons_zero, List.set_cons_succ, i64_w, i32_w]
         rfl
        refine pure_ (i := 25) (N := some 41) (v := undef) (a' := ?_) m7_30 rfl rfl (any_of HT_.out q7_38) (fun _ _ _ h => h) (Or.inr ⟨by rfl, rfl⟩) ?_ ?_
        rotate_left
        ·simp only [Act.put, List.setIfInBounds_toArray, List.set_cons_zero, List.set_cons_succ, i64_w, i32_w]
         rfl
        refine pure_ (i := 26) (N := some 42) (v := undef) (a' := ?_) m7_31 rfl rfl (any_of HT_.out q7_38) (fun _ _ _ h => h) (Or.inr ⟨by rfl, rfl⟩) ?_ ?_
        rotate_left
        ·simp only [Act.put, List.setIfInBounds_toArray, List.set_cons_zero, List.set_cons_succ, i64_w, i32_w]
         rfl
        refine pure_ (i := 27) (N := some 43) (v := undef) (a' := ?_) m7_32 rfl rfl (any_of HT_.out q7_38) (fun _ _ _ h => h) (Or.inr ⟨by rfl, rfl⟩) ?_ ?_
        rotate_left
        ·simp only [Act.put, List.setIfInBounds_toArray, List.set_cons_zero, List.set_cons_succ, i64_w, i32_w]
         rfl
        refine pure_ (i := 28) (N := some 44) (v := undef) (a' := ?_) m7_34 rfl rfl (any_of HT_.out q7_38) (fun _ _ _ h => h) (Or.inr ⟨by rfl, rfl⟩) ?_ ?_
        rotate_left
        ·simp only [Act.put, List.setIfInBounds_toArray, List.set_cons_zero, List.set_cons_succ, i64_w, i32_w]
         rfl
        refine pure_ (i := 29) (N := some 45) (v := undef) (a' := ?_) m7_35 rfl rfl (any_of HT_.out q7_38) (fun _ _ _ h => h) (Or.inr ⟨by rfl, rfl⟩) ?_ ?_
        rotate_left
        ·simp only [Act.put, List.setIfInBounds_toArray, List.set_cons_zero, List.set_cons_succ, i64_w, i32_w]
         rfl
        refine pure_ (i := 30) (N := some 46) (v := undef) (a' := ?_) m7_36 rfl rfl (any_of HT_.out q7_38) (fun _ _ _ h => h) (Or.inr ⟨by rfl, rfl⟩) ?_ ?_
        rotate_left
        ·simp only [Act.put, List.setIfInBounds_toArray, List.set_cons_zero, List.set_cons_succ, i64_w, i32_w]
         rfl
        refine pure_ (i := 31) (N := some 47) (v := undef) (a' := ?_) m7_37 rfl rfl (any_of HT_.out q7_38) (fun _ _ _ h => h) (Or.inr ⟨by rfl, rfl⟩) ?_ ?_
        rotate_left
        ·simp only [Act.put, List.setIfInBounds_toArray, List.set_cons_zero, List.set_cons_succ, i64_w, i32_w]
         rfl
        refine pure_ (i := 32) (N := some 48) (v := undef) (a' := ?_) m7_38 rfl rfl (any_of HT_.out q7_38) (fun _ _ _ h => h) (Or.inr ⟨by rfl, rfl⟩) ?_ ?_
        rotate_left
        ·simp only [Act.put, List.setIfInBounds_toArray, List.set_cons_zero, List.set_cons_succ, i64_w, i32_w]
         rfl
        refine pure_ (i := 33) (N := some 49) (v := ?_) (a' := ?_) m7_39 rfl rfl (any_of HT_.out q7_38) (fun _ _ _ h => h) (Or.inl ⟨by rfl, ?_⟩) ?_ ?_
        rotate_left
        ·intro w'
         go_simp
         with_reducible rfl
        rotate_left
        ·simp only [Act.put, List.setIfInBounds_toArray, List.set_cons_zero, List.set_cons_succ, i64_w, i32_w]
         rfl
        refine done_ (done_of HT_.out q7_38) ?_
        try go_wp2
        go_meet
        case rel => exact ⟨_, (true), q7_56, H', ⟨by have := HK1.out; first | omega | exact Nat.le_refl _⟩, ⟨by (with_reducible repeat (first | apply Kd.R_alloc | apply Kd.R_drewN | apply Kd.R_drew)); exact HO_5.out⟩, ⟨by (with_reducible repeat (first | apply Kd.V_alloc | apply Kd.V_drewN | apply Kd.V_drew)); exact HO284.out⟩, ⟨by (with_reducible repeat (first | refine blk_drewN ?_ _ | refine blk_drew ?_ | refine blk_alloc ?_ _)); exact BK0.out⟩, ⟨by (with_reducible repeat (first | refine blk_drewN ?_ _ | refine blk_drew ?_ | refine blk_alloc ?_ _)); exact BK280.out⟩, ⟨by repeat (first | (with_reducible first | exact HK.out | apply Kept.alloc | apply Kept.drewN | apply Kept.drew | refine Kept.setCell ?_ (.inl (show g = g from rfl)) _ | refine Kept.setCell ?_ (.inr GW280.out) _) | exact HK.out)⟩, ⟨by repeat (first | (with_reducible first | exact HB.out | apply below_alloc | apply pw_below_drewN | apply below_drew1 | refine below_set ?_ GE0.out | refine below_set ?_ GE280.out) | exact HB.out)⟩⟩
       ·rw [if_neg c19] at H
        have c19b0 : decide ((wrap64 (a1 - (x5_1.length : Int))) < t271) = false := decide_eq_false c19
        clear c19
        replace H := Option.bind_eq_some_iff.mp H
        obtain ⟨t286, A210, H⟩ := H
        replace H : (if t286 = true then (if (x5_1.length : Int) > 0 then (if 0 ≤ (wrap64 ((x5_1.length : Int) - 1)) then (if (wrap64 ((x5_1.length : Int) - 1)) < (x5_1.length : Int) then (cell_Read.j1 k1 a1 x5_1 (((rd_T53 x5_1 (wrap64 ((x5_1.length : Int) - 1))).f0) == t272 && ((((rd_T53 x5_1 (wrap64 ((x5_1.length : Int) - 1))).f1.f0) == t273 && (((rd_T53 x5_1 (wrap64 ((x5_1.length : Int) - 1))).f1.f1) == t274 && (((rd_T53 x5_1 (wrap64 ((x5_1.length : Int) - 1))).f1.f2) == t275))))) t282 t285 t271 t272 t273 t274 t275) else (none)) else (none)) else (cell_Read.j1 k1 a1 x5_1 false t282 t285 t271 t272 t273 t274 t275)) else (cell_Read.j1 k1 a1 x5_1 true t282 t285 t271 t272 t273 t274 t275)) = some (r1, r2, r3) := H
        have A21 := A7_ A210
        clear A210
        by_cases c22 : t286 = true
        ·subst c22
         have H1 : (if (x5_1.length : Int) > 0 then (if 0 ≤ (wrap64 ((x5_1.length : Int) - 1)) then (if (wrap64 ((x5_1.length : Int) - 1)) < (x5_1.length : Int) then (cell_Read.j1 k1 a1 x5_1 (((rd_T53 x5_1 (wrap64 ((x5_1.length : Int) - 1))).f0) == t272 && ((((rd_T53 x5_1 (wrap64 ((x5_1.length : Int) - 1))).f1.f0) == t273 && (((rd_T53 x5_1 (wrap64 ((x5_1.length : Int) - 1))).f1.f1) == t274 && (((rd_T53 x5_1 (wrap64 ((x5_1.length : Int) - 1))).f1.f2) == t275))))) t282 t285 t271 t272 t273 t274 t275) else (none)) else (none)) else (cell_Read.j1 k1 a1 x5_1 false t282 t285 t271 t272 t273 t274 t275)) = some (r1, r2, r3) := by rw [if_pos rfl] at H; exact H
         clear H
         have H := H1
         clear H1
         by_cases c23 : (x5_1.length : Int) > 0
         ·rw [if_pos c23] at H
          have c23b0 : decide (0 < (x5_1.length : Int)) = true := decide_eq_true c23
          have c23b1 : decide (0 < x5_1.length) = true := decide_eq_true (by omega)
          clear c23
          obtain ⟨ji24, hji24⟩ : ∃ j_ : Int, (wrap64 ((x5_1.length : Int) - 1)) = j_ := ⟨_, rfl⟩
          replace H : (if 0 ≤ (ji24) then (if (ji24) < (x5_1.length : Int) then (cell_Read.j1 k1 a1 x5_1 (((rd_T53 x5_1 (ji24)).f0) == t272 && ((((rd_T53 x5_1 (ji24)).f1.f0) == t273 && (((rd_T53 x5_1 (ji24)).f1.f1) == t274 && (((rd_T53 x5_1 (ji24)).f1.f2) == t275))))) t282 t285 t271 t272 t273 t274 t275) else (none)) else (none)) = some (r1, r2, r3) := by first | (rw [hji24] at H; exact H) | (simp only [hji24] at H ⊢; exact H)
          (try rw [hji24] at A21)
          have hji24w : (IntKind.i64.wrap ((x5_1.length : Int) - 1)) = ji24 := (i64_w _).trans hji24
          by_cases c25 : 0 ≤ (ji24)
          ·rw [if_pos c25] at H
           have c25b0 : decide (0 ≤ (ji24)) = true := decide_eq_true c25
           clear c25
           by_cases c26 : (ji24) < (x5_1.length : Int)
           ·rw [if_pos c26] at H
            have c26b0 : decide ((ji24) < (x5_1.length : Int)) = true := decide_eq_true c26
            clear c26
            have H' := A7_ H
            clear H
            try go_wp2
            have n0_ := A7_ (Kd.R_drew HO_5.out)
            have n1_ := A7_ (Kd.V_drew HO_1000.out)
            have n2_ := A7_ (Kd.V_drew HO278.out)
            have n3_ := A7_ (Kd.V_drew HO284.out)
            have n4_ := A7_ (blk_drew BK0.out)
            have n5_ := A7_ (blk_drew BK280.out)
            have n6_ := A7_ (Kept.drew HK.out)
            have n7_ := A7_ (below_drew1 HB.out)
            clear HO_5
            clear HO_1000
            clear HO278
            clear HO284
            clear BK0
            clear BK280
            clear HK
            clear HB
            have HO_5 := n0_
            have HO_1000 := n1_
            have HO278 := n2_
            have HO284 := n3_
            have BK0 := n4_
            have BK280 := n5_
            have HK := n6_
            have HB := n7_
            clear n0_ n1_ n2_ n3_ n4_ n5_ n6_ n7_
            have p287 : 0 ≤ ((ji24) : Int) := of_decide_eq_true (by first | (with_reducible assumption) | assumption)
            have q287 : (ji24) < (x5_1.length : Int) := of_decide_eq_true (by first | (with_reducible assumption) | assumption)
            obtain ⟨ad287, e287, hx287_0, hx287_1, hx287_2, hx287_3⟩ := at_T53 (Kd.R_reads' HO_5.out).2.2 (ji24) p287 q287
            cases e287
            replace p287 := eq_true p287
            replace q287 := eq_true q287
            refine start_ (n := 34) (S := fun w' => w'.cell? ⟨gb280, 0, none⟩ = some (.int .i64 t271) ∧ w'.cell? ⟨gb280, 1, none⟩ = some (.int .i32 t272) ∧ w'.cell? ⟨gb280, 2, none⟩ = some (.int .i64 t273) ∧ w'.cell? ⟨gb280, 3, none⟩ = some (.int .i64 t274) ∧ w'.cell? ⟨gb280, 4, none⟩ = some (.int .i64 t275) ∧ w'.cell? (ad287.add (((ji24)).toNat * 4)) = some (.int .i32 ((rd_T53 x5_1 (ji24)).f0)) ∧ w'.cell? ⟨(ad287.add (((ji24)).toNat * 4)).block, (ad287.add (((ji24)).toNat * 4)).off + 1, none⟩ = some (.int .i64 ((rd_T53 x5_1 (ji24)).f1.f0)) ∧ w'.cell? ⟨(ad287.add (((ji24)).toNat * 4)).block, (ad287.add (((ji24)).toNat * 4)).off + 2, none⟩ = some (.int .i64 ((rd_T53 x5_1 (ji24)).f1.f1)) ∧ w'.cell? ⟨(ad287.add (((ji24)).toNat * 4)).block, (ad287.add (((ji24)).toNat * 4)).off + 3, none⟩ = some (.int .i64 ((rd_T53 x5_1 (ji24)).f1.f2))) (ds := []) m7_0 q7_38 rfl rfl ⟨bc7_ BK280 0, bc7_ BK280 1, bc7_ BK280 2, bc7_ BK280 3, bc7_ BK280 4, hx287_0, hx287_1, hx287_2, hx287_3⟩ (fun hHeld => ?_); refine with_tabW cell_Read.tab6 cell_Read.bits6 (fun HT_ HW_ => ?_)
            generalize w16.drew = w27 at HO_5 HO_1000 HO278 HO284 BK0 BK280 HK HB hx287_0 hx287_1 hx287_2 hx287_3 hHeld ⊢
            refine pure_ (i := 0) (N := some 16) (v := ?_) (a' := ?_) m7_1 rfl rfl (any_of HT_.out q7_38) (fun _ _ _ h => h) (Or.inl ⟨by rfl, ?_⟩) ?_ ?_
            rotate_left
            ·intro w'
             go_simp
             with_reducible rfl
            rotate_left
            ·simp only [Act.put, List.setIfInBounds_toArray, List.set_cons_zero, List.set_cons_succ, i64_w, i32_w]
             rfl
            refine take_ (i := 1) (N := some 17) (v := ?_) (a' := ?_) m7_2 rfl rfl (take_ofW HT_.out HW_.out q7_38) (fun _ _ _ h => h) (Or.inl ⟨by rfl, ?_⟩) hHeld ?_ ?_
            rotate_left
            ·rintro w' ⟨s0, s1, s2, s3, s4, s5, s6, s7, s8⟩
             go_simp
             with_reducible rfl
            rotate_left
            ·simp only [Act.put, List.setIfInBounds_toArray, List.set_cons_zero, List.set_cons_succ, i64_w, i32_w]
             rfl
            refine pure_ (i := 2) (N := some 18) (v := ?_) (a' := ?_) m7_3 rfl rfl (any_of HT_.out q7_38) (fun _ _ _ h => h) (Or.inl ⟨by rfl, ?_⟩) ?_ ?_
            rotate_left
            ·intro w'
             go_simp
             with_reducible rfl
            rotate_left
            ·simp only [Act.put, List.setIfInBounds_toArray, List.set_cons_zero, List.set_cons_succ, i64_w, i32_w]
             rfl
            refine pure_ (i := 3) (N := some 19) (v := ?_) (a' := ?_) m7_4 rfl rfl (any_of HT_.out q7_38) (fun _ _ _ h => h) (Or.inl ⟨by rfl, ?_⟩) ?_ ?_
            rotate_left
            ·intro w'
             go_simp
             with_reducible rfl
            rotate_left
            ·simp only [Act.put, List.setIfInBounds_toArray, List.set_cons_zero, List.set_cons_succ, i64_w, i32_w]
             rfl
            refine pure_ (i := 4) (N := some 20) (v := ?_) (a' := ?_) m7_5 rfl rfl (any_of HT_.out q7_38) (fun _ _ _ h => h) (Or.inl ⟨by rfl, ?_⟩) ?_ ?_
            rotate_left
            ·intro w'
             go_simp
             with_reducible rfl
            rotate_left
            ·simp only [Act.put, List.setIfInBounds_toArray, List.set_cons_zero, List.set_cons_succ, i64_w, i32_w]
             rfl
            refine pure_ (i := 6) (N := some 22) (v := ?_) (a' := ?_) m7_6 rfl rfl (any_of HT_.out q7_38) (fun _ _ _ h => h) (Or.inl ⟨by rfl, ?_⟩) ?_ ?_
            rotate_left
            ·intro w'
             go_simp
             with_reducible rfl
            rotate_left
            ·simp only [Act.put, List.setIfInBounds_toArray, List.set_cons_zero, List.set_cons_succ, i64_w, i32_w]
             rfl
            refine pure_ (i := 7) (N := some 23) (v := ?_) (a' := ?_) m7_7 rfl rfl (any_of HT_.out q7_38) (fun _ _ _ h => h) (Or.inl ⟨by rfl, ?_⟩) ?_ ?_
            rotate_left
            ·intro w'
             go_simp
             with_reducible rfl
            rotate_left
            ·simp only [Act.put, List.setIfInBounds_toArray, List.set_cons_zero, List.set_cons_succ, i64_w, i32_w]
             rfl
            refine pure_ (i := 8) (N := some 24) (v := ?_) (a' := ?_) m7_8 rfl rfl (any_of HT_.out q7_38) (fun _ _ _ h => h) (Or.inl ⟨by rfl, ?_⟩) ?_ ?_
            rotate_left
            ·intro w'
             go_simp
             with_reducible rfl
            rotate_left
            ·simp only [Act.put, List.setIfInBounds_toArray, List.set_cons_zero, List.set_cons_succ, i64_w, i32_w]
             rfl
            refine pure_ (i := 9) (N := some 25) (v := ?_) (a' := ?_) m7_9 rfl rfl (any_of HT_.out q7_38) (fun _ _ _ h => h) (Or.inl ⟨by rfl, ?_⟩) ?_ ?_
            rotate_left
            ·intro w'
             go_simp
             with_reducible rfl
            rotate_left
            ·simp only [Act.put, List.setIfInBounds_toArray, List.set_cons_zero, List.set_cons_succ, i64_w, i32_w]
             rfl
            refine take_ (i := 5) (N := some 21) (v := ?_) (a' := ?_) m7_14 rfl rfl (take_ofW HT_.out HW_.out q7_38) (fun _ _ _ h => h) (Or.inl ⟨by rfl, ?_⟩) hHeld ?_ ?_
            rotate_left
            ·rintro w' ⟨s0, s1, s2, s3, s4, s5, s6, s7, s8⟩
             go_simp
             with_reducible rfl
            rotate_left
            ·simp only [Act.put, List.setIfInBounds_toArray, List.set_cons_zero, List.set_cons_succ, i64_w, i32_w]
             rfl
            refine pure_ (i := 10) (N := some 26) (v := ?_) (a' := ?_) m7_15 rfl rfl (any_of HT_.out q7_38) (fun _ _ _ h => h) (Or.inl ⟨by rfl, ?_⟩) ?_ ?_
            rotate_left
            ·intro w'
             go_simp
             with_reducible rfl
            rotate_left
            ·simp only [Act.put, List.setIfInBounds_toArray, List.set_cons_zero, List.set_cons_succ, i64_w, i32_w]
             rfl
            refine pure_ (i := 11) (N := some 27) (v := ?_) (a' := ?_) m7_16 rfl rfl (any_of HT_.out q7_38) (fun _ _ _ h => h) (Or.inl ⟨by rfl, ?_⟩) ?_ ?_
            rotate_left
            ·intro w'
             go_simp
             with_reducible rfl
            rotate_left
            ·simp only [Act.put, List.setIfInBounds_toArray, List.set_cons_zero, List.set_cons_succ, i64_w, i32_w]
             rfl
            refine pure_ (i := 12) (N := some 28) (v := ?_) (a' := ?_) m7_17 rfl rfl (any_of HT_.out q7_38) (fun _ _ _ h => h) (Or.inl ⟨by rfl, ?_⟩) ?_ ?_
            rotate_left
            ·intro w'
             go_simp
             with_reducible rfl
            rotate_left
            ·simp only [Act.put, List.setIfInBounds_toArray, List.set_cons_zero, List.set_cons_succ, i64_w, i32_w]
             rfl
            refine pure_ (i := 13) (N := some 29) (v := ?_) (a' := ?_) m7_18 rfl rfl (any_of HT_.out q7_38) (fun _ _ _ h => h) (Or.inl ⟨by rfl, ?_⟩) ?_ ?_
            rotate_left
            ·intro w'
             go_simp
             with_reducible rfl
            rotate_left
            ·simp only [Act.put, List.setIfInBounds_toArray, List.set_cons_zero, List.set_cons_succ, i64_w, i32_w]
             rfl
            refine take_ (i := 14) (N := some 30) (v := ?_) (a' := ?_) m7_19 rfl rfl (take_ofW HT_.out HW_.out q7_38) (fun _ _ _ h => h) (Or.inl ⟨by rfl, ?_⟩) hHeld ?_ ?_
            rotate_left
            ·rintro w' ⟨s0, s1, s2, s3, s4, s5, s6, s7, s8⟩
             go_simp
             with_reducible rfl
            rotate_left
            ·simp only [Act.put, List.setIfInBounds_toArray, List.set_cons_zero, List.set_cons_succ, i64_w, i32_w]
             rfl
            refine one_ (i := 15) (N := some 31) m7_20 rfl rfl (one_of HT_.out q7_38) (by decide) (fun K hK => ?_)
            refine goes_ Try.func35 q7_38 rfl #[.agg #[.int .i32 t272, .int .i64 t273, .int .i64 t274, .int .i64 t275]] (by rfl) rfl rfl q7_45 ?_
            with_reducible refine (cell_Right.calls k1 t272 t273 t274 t275 true _ A21.out).mono ?_
            rintro e w28 ⟨rfl, hb⟩
            have HS5_ := (hb.cell (World.block_lt_of_cell? _ _ (hHeld.2.2.2.2.2.1))).trans (hHeld.2.2.2.2.2.1)
            have HS6_ := (hb.cell (World.block_lt_of_cell? _ _ (hHeld.2.2.2.2.2.2.1))).trans (hHeld.2.2.2.2.2.2.1)
            have HS7_ := (hb.cell (World.block_lt_of_cell? _ _ (hHeld.2.2.2.2.2.2.2.1))).trans (hHeld.2.2.2.2.2.2.2.1)
            have HS8_ := (hb.cell (World.block_lt_of_cell? _ _ (hHeld.2.2.2.2.2.2.2.2))).trans (hHeld.2.2.2.2.2.2.2.2)
            refine ⟨_, rfl, ?_⟩
            have n0_ := A7_ (Kd.R_below q7_44 hb)
            have n1_ := A7_ (Kd.V_below q7_54 hb)
            have n2_ := A7_ (Kd.V_below q7_55 hb)
            have n3_ := A7_ (Kd.V_below q7_57 hb)
            have n4_ := A7_ (blk_below (g := g) (o := .cells #[v283, .int .i64 t285] 104 (0, 0)) q7_39 hb)
            have n5_ := A7_ (blk_below (g := gb280) (o := .cells #[.int .i64 t271, .int .i32 t272, .int .i64 t273, .int .i64 t274, .int .i64 t275] 55 (0, 0)) q7_43 hb)
            have n6_ := A7_ (Kept.below (S := (fun k_ => k_ = g)) q7_40 hb)
            have n7_ := A7_ (below_step q7_42 hb)
            clear HO_5
            clear HO_1000
            clear HO278
            clear HO284
            clear BK0
            clear BK280
            clear HK
            clear HB
            have HO_5 := n0_
            have HO_1000 := n1_
            have HO278 := n2_
            have HO284 := n3_
            have BK0 := n4_
            have BK280 := n5_
            have HK := n6_
            have HB := n7_
            clear n0_ n1_ n2_ n3_ n4_ n5_ n6_ n7_
            (try clear hb)
            (try clear hb2)
            (try clear hk)
            (try clear hi)
            refine hK.out _ _ ⟨bc7_ BK280 0, bc7_ BK280 1, bc7_ BK280 2, bc7_ BK280 3, bc7_ BK280 4, HS5_, HS6_, HS7_, HS8_⟩ (fun hHeld => ?_)
            clear hK K
            refine norm_ (a' := ?_) ?_ ?_
            rotate_left
            ·show Act.put _ (some 31) _ = _
             simp only [Act.put, List.setIfInBounds_toArray, List.set_cons_zero, List.set_cons_succ, i64_w, i32_w]
             rfl
            refine pure_ (i := 16) (N := some 32) (v := ?_) (a' := ?_) m7_21 rfl rfl (any_of HT_.out q7_38) (fun _ _ _ h => h) (Or.inl ⟨by rfl, ?_⟩) ?_ ?_
            rotate_left
            ·intro w'
             go_simp
             with_reducible rfl
            rotate_left
            ·simp only [Act.put, List.setIfInBounds_toArray, List.set_cons_zero, List.set_cons_succ, i64_w, i32_w]
             rfl
            refine pure_ (i := 17) (N := some 33) (v := ?_) (a' := ?_) m7_22 rfl rfl (any_of HT_.out q7_38) (fun _ _ _ h => h) (Or.inl ⟨by rfl, ?_⟩) ?_ ?_
            rotate_left
            ·intro w'
             go_simp
             with_reducible rfl
            rotate_left
            ·simp only [Act.put, List.setIfInBounds_toArray, List.set_cons_zero, List.set_cons_succ, i64_w, i32_w]
             rfl
            refine pure_ (i := 18) (N := some 34) (v := ?_) (a' := ?_) m7_23 rfl rfl (any_of HT_.out q7_38) (fun _ _ _ h => h) (Or.inl ⟨by rfl, ?_⟩) ?_ ?_
            rotate_left
            ·intro w'
             go_simp
             with_reducible rfl
            rotate_left
            ·simp only [Act.put, List.setIfInBounds_toArray, List.set_cons_zero, List.set_cons_succ, i64_w, i32_w]
             rfl
            refine pure_ (i := 19) (N := some 35) (v := ?_) (a' := ?_) m7_24 rfl rfl (any_of HT_.out q7_38) (fun _ _ _ h => h) (Or.inl ⟨by rfl, ?_⟩) ?_ ?_
            rotate_left
            ·intro w'
             go_simp
             with_reducible rfl
            rotate_left
            ·simp only [Act.put, List.setIfInBounds_toArray, List.set_cons_zero, List.set_cons_succ, i64_w, i32_w]
             rfl
            refine pure_ (i := 20) (N := some 36) (v := ?_) (a' := ?_) m7_25 rfl rfl (any_of HT_.out q7_38) (fun _ _ _ h => h) (Or.inl ⟨by rfl, ?_⟩) ?_ ?_
            rotate_left
            ·intro w'
             go_simp
             with_reducible rfl
            rotate_left
            ·simp only [Act.put, List.setIfInBounds_toArray, List.set_cons_zero, List.set_cons_succ, i64_w, i32_w]
             rfl
            refine pure_ (i := 21) (N := some 37) (v := ?_) (a' := ?_) m7_26 rfl rfl (any_of HT_.out q7_38) (fun _ _ _ h => h) (Or.inl ⟨by rfl, ?_⟩) ?_ ?_
            rotate_left
            ·intro w'
             go_simp
             with_reducible rfl
            rotate_left
            ·simp only [Act.put, List.setIfInBounds_toArray, List.set_cons_zero, List.set_cons_succ, i64_w, i32_w]
             rfl
            refine pure_ (i := 22) (N := some 38) (v := ?_) (a' := ?_) m7_27 rfl rfl (any_of HT_.out q7_38) (fun _ _ _ h => h) (Or.inl ⟨by rfl, ?_⟩) ?_ ?_
            rotate_left
            ·intro w'
             go_simp
             with_reducible rfl
            rotate_left
            ·simp only [Act.put, List.setIfInBounds_toArray, List.set_cons_zero, List.set_cons_succ, i64_w, i32_w]
             rfl
            refine pure_ (i := 23) (N := some 39) (v := ?_) (a' := ?_) m7_28 rfl rfl (any_of HT_.out q7_38) (fun _ _ _ h => h) (Or.inl ⟨by rfl, ?_⟩) ?_ ?_
            rotate_left
            ·intro w'
             go_simp
             with_reducible rfl
            rotate_left
            ·simp only [Act.put, List.setIfInBounds_toArray, List.set_cons_zero, List.set_cons_succ, i64_w, i32_w]
             rfl
            refine pure_ (i := 24) (N := some 40) (v := ?_) (a' := ?_) m7_29 rfl rfl (any_of HT_.out q7_38) (fun _ _ _ h => h) (Or.inl ⟨by rfl, ?_⟩) ?_ ?_
            rotate_left
            ·intro w'
             go_simp
             with_reducible rfl
            rotate_left
            ·simp only [Act.put, List.setIfInBounds_toArray, List.set_cons_zero, List.set_cons_succ, i64_w, i32_w]
             rfl
            refine pure_ (i := 25) (N := some 41) (v := ?_) (a' := ?_) m7_30 rfl rfl (any_of HT_.out q7_38) (fun _ _ _ h => h) (Or.inl ⟨by rfl, ?_⟩) ?_ ?_
            rotate_left
            ·intro w'
             go_simp
             with_reducible rfl
            rotate_left
            ·simp only [Act.put, List.setIfInBounds_toArray, List.set_cons_zero, List.set_cons_succ, i64_w, i32_w]
             rfl
            refine pure_ (i := 26) (N := some 42) (v := ?_) (a' := ?_) m7_31 rfl rfl (any_of HT_.out q7_38) (fun _ _ _ h => h) (Or.inl ⟨by rfl, ?_⟩) ?_ ?_
            rotate_left
            ·intro w'
             go_simp
             with_reducible rfl
            rotate_left
            ·simp only [Act.put, List.setIfInBounds_toArray, List.set_cons_zero, List.set_cons_succ, i64_w, i32_w]
             rfl
            refine pure_ (i := 27) (N := some 43) (v := ?_) (a' := ?_) m7_32 rfl rfl (any_of HT_.out q7_38) (fun _ _ _ h => h) (Or.inl ⟨by rfl, ?_⟩) ?_ ?_
            rotate_left
            ·intro w'
             go_simp
             with_reducible rfl
            rotate_left
            ·simp only [Act.put, List.setIfInBounds_toArray, List.set_cons_zero, List.set_cons_succ, i64_w, i32_w]
             rfl
            refine pure_ (i := 29) (N := some 45) (v := ?_) (a' := ?_) #[true, true, true, true, true, true, true, true, true, true, true, true, true, true, true, true, true, true, true, true, true, true, true, true, true, true, true, true, false, true, false, false, false, false] rfl rfl (any_of HT_.out q7_38) (fun _ _ _ h => h) (Or.inl ⟨by rfl, ?_⟩) ?_ ?_
            rotate_left
            ·intro w'
             go_simp
             with_reducible rfl
            rotate_left
            ·simp only [Act.put, List.setIfInBounds_toArray, List.set_cons_zero, List.set_cons_succ, i64_w, i32_w]
             rfl
            refine take_ (i := 28) (N := some 44) (v := ?_) (a' := ?_) m7_35 rfl rfl (take_ofW HT_.out HW_.out q7_38) (fun _ _ _ h => h) (Or.inl ⟨by rfl, ?_⟩) hHeld ?_ ?_
            rotate_left
            ·rintro w' ⟨s0, s1, s2, s3, s4, s5, s6, s7, s8⟩
             go_simp
             with_reducible rfl
            rotate_left
            ·simp only [Act.put, List.setIfInBounds_toArray, List.set_cons_zero, List.set_cons_succ, i64_w, i32_w]
             rfl
            refine take_ (i := 30) (N := some 46) (v := ?_) (a' := ?_) m7_36 rfl rfl (take_ofW HT_.out HW_.out q7_38) (fun _ _ _ h => h) (Or.inl ⟨by rfl, ?_⟩) hHeld ?_ ?_
            rotate_left
            ·rintro w' ⟨s0, s1, s2, s3, s4, s5, s6, s7, s8⟩
             go_simp
             with_reducible rfl
            rotate_left
            ·simp only [Act.put, List.setIfInBounds_toArray, List.set_cons_zero, List.set_cons_succ, i64_w, i32_w]
             rfl
            refine pure_ (i := 31) (N := some 47) (v := ?_) (a' := ?_) m7_37 rfl rfl (any_of HT_.out q7_38) (fun _ _ _ h => h) (Or.inl ⟨by rfl, ?_⟩) ?_ ?_
            rotate_left
            ·intro w'
             go_simp
             with_reducible rfl
            rotate_left
            ·simp only [Act.put, List.setIfInBounds_toArray, List.set_cons_zero, List.set_cons_succ, i64_w, i32_w]
             rfl
            refine pure_ (i := 32) (N := some 48) (v := ?_) (a' := ?_) m7_38 rfl rfl (any_of HT_.out q7_38) (fun _ _ _ h => h) (Or.inl ⟨by rfl, ?_⟩) ?_ ?_
            rotate_left
            ·intro w'
             go_simp
             with_reducible rfl
            rotate_left
            ·simp only [Act.put, List.setIfInBounds_toArray, List.set_cons_zero, List.set_cons_succ, i64_w, i32_w]
             rfl
            refine pure_ (i := 33) (N := some 49) (v := ?_) (a' := ?_) m7_39 rfl rfl (any_of HT_.out q7_38) (fun _ _ _ h => h) (Or.inl ⟨by rfl, ?_⟩) ?_ ?_
            rotate_left
            ·intro w'
             go_simp
             with_reducible rfl
            rotate_left
            ·simp only [Act.put, List.setIfInBounds_toArray, List.set_cons_zero, List.set_cons_succ, i64_w, i32_w]
             rfl
            refine done_ (done_of HT_.out q7_38) ?_
            try go_wp2
            go_meet
            case rel => exact ⟨_, ((((rd_T53 x5_1 (ji24)).f0) == t272 && ((((rd_T53 x5_1 (ji24)).f1.f0) == t273 && (((rd_T53 x5_1 (ji24)).f1.f1) == t274 && (((rd_T53 x5_1 (ji24)).f1.f2) == t275)))))), (by first | rfl | (simp; done) | (simp only [← hji24] <;> (first | rfl | simp)) | (simp [*]; done)), H', ⟨by have := HK1.out; first | omega | exact Nat.le_refl _⟩, ⟨by (with_reducible repeat (first | apply Kd.R_alloc | apply Kd.R_drewN | apply Kd.R_drew)); exact HO_5.out⟩, ⟨by (with_reducible repeat (first | apply Kd.V_alloc | apply Kd.V_drewN | apply Kd.V_drew)); exact HO284.out⟩, ⟨by (with_reducible repeat (first | refine blk_drewN ?_ _ | refine blk_drew ?_ | refine blk_alloc ?_ _)); exact BK0.out⟩, ⟨by (with_reducible repeat (first | refine blk_drewN ?_ _ | refine blk_drew ?_ | refine blk_alloc ?_ _)); exact BK280.out⟩, ⟨by repeat (first | (with_reducible first | exact HK.out | apply Kept.alloc | apply Kept.drewN | apply Kept.drew | refine Kept.setCell ?_ (.inl (show g = g from rfl)) _ | refine Kept.setCell ?_ (.inr GW280.out) _) | exact HK.out)⟩, ⟨by repeat (first | (with_reducible first | exact HB.out | apply below_alloc | apply pw_below_drewN | apply below_drew1 | refine below_set ?_ GE0.out | refine below_set ?_ GE280.out) | exact HB.out)⟩⟩
           ·rw [if_neg c26] at H
            exact absurd H (by simp)
          ·rw [if_neg c25] at H
           exact absurd H (by simp)
         ·rw [if_neg c23] at H
          have c23b0 : decide (0 < (x5_1.length : Int)) = false := decide_eq_false c23
          have c23b1 : decide (0 < x5_1.length) = false := decide_eq_false (by omega)
          clear c23
          have H' := A7_ H
          clear H
          try go_wp2
          have n0_ := A7_ (Kd.R_drew HO_5.out)
          have n1_ := A7_ (Kd.V_drew HO_1000.out)
          have n2_ := A7_ (Kd.V_drew HO278.out)
          have n3_ := A7_ (Kd.V_drew HO284.out)
          have n4_ := A7_ (blk_drew BK0.out)
          have n5_ := A7_ (blk_drew BK280.out)
          have n6_ := A7_ (Kept.drew HK.out)
          have n7_ := A7_ (below_drew1 HB.out)
          clear HO_5
          clear HO_1000
          clear HO278
          clear HO284
          clear BK0
          clear BK280
          clear HK
          clear HB
          have HO_5 := n0_
          have HO_1000 := n1_
          have HO278 := n2_
          have HO284 := n3_
          have BK0 := n4_
          have BK280 := n5_
          have HK := n6_
          have HB := n7_
          clear n0_ n1_ n2_ n3_ n4_ n5_ n6_ n7_
          refine start_ (n := 34) (S := fun w' => w'.cell? ⟨gb280, 0, none⟩ = some (.int .i64 t271) ∧ w'.cell? ⟨gb280, 1, none⟩ = some (.int .i32 t272) ∧ w'.cell? ⟨gb280, 2, none⟩ = some (.int .i64 t273) ∧ w'.cell? ⟨gb280, 3, none⟩ = some (.int .i64 t274) ∧ w'.cell? ⟨gb280, 4, none⟩ = some (.int .i64 t275)) (ds := []) m7_0 q7_38 rfl rfl ⟨bc7_ BK280 0, bc7_ BK280 1, bc7_ BK280 2, bc7_ BK280 3, bc7_ BK280 4⟩ (fun hHeld => ?_); refine with_tabW cell_Read.tab6 cell_Read.bits6 (fun HT_ HW_ => ?_)
          generalize w16.drew = w29 at HO_5 HO_1000 HO278 HO284 BK0 BK280 HK HB hHeld ⊢
          refine pure_ (i := 0) (N := some 16) (v := ?_) (a' := ?_) m7_1 rfl rfl (any_of HT_.out q7_38) (fun _ _ _ h => h) (Or.inl ⟨by rfl, ?_⟩) ?_ ?_
          rotate_left
          ·intro w'
           go_simp
           with_reducible rfl
          rotate_left
          ·simp only [Act.put, List.setIfInBounds_toArray, List.set_cons_zero, List.set_cons_succ, i64_w, i32_w]
           rfl
          refine take_ (i := 1) (N := some 17) (v := ?_) (a' := ?_) m7_2 rfl rfl (take_ofW HT_.out HW_.out q7_38) (fun _ _ _ h => h) (Or.inl ⟨by rfl, ?_⟩) hHeld ?_ ?_
          rotate_left
          ·rintro w' ⟨s0, s1, s2, s3, s4⟩
           go_simp
           with_reducible rfl
          rotate_left
          ·simp only [Act.put, List.setIfInBounds_toArray, List.set_cons_zero, List.set_cons_succ, i64_w, i32_w]
           rfl
          refine pure_ (i := 2) (N := some 18) (v := ?_) (a' := ?_) m7_3 rfl rfl (any_of HT_.out q7_38) (fun _ _ _ h => h) (Or.inl ⟨by rfl, ?_⟩) ?_ ?_
          rotate_left
          ·intro w'
           go_simp
           with_reducible rfl
          rotate_left
          ·simp only [Act.put, List.setIfInBounds_toArray, List.set_cons_zero, List.set_cons_succ, i64_w, i32_w]
           rfl
          refine pure_ (i := 3) (N := some 19) (v := ?_) (a' := ?_) m7_4 rfl rfl (any_of HT_.out q7_38) (fun _ _ _ h => h) (Or.inl ⟨by rfl, ?_⟩) ?_ ?_
          rotate_left
          ·intro w'
           go_simp
           with_reducible rfl
          rotate_left
          ·simp only [Act.put, List.setIfInBounds_toArray, List.set_cons_zero, List.set_cons_succ, i64_w, i32_w]
           rfl
          refine pure_ (i := 4) (N := some 20) (v := ?_) (a' := ?_) m7_5 rfl rfl (any_of HT_.out q7_38) (fun _ _ _ h => h) (Or.inl ⟨by rfl, ?_⟩) ?_ ?_
          rotate_left
          ·intro w'
           go_simp
           with_reducible rfl
          rotate_left
          ·simp only [Act.put, List.setIfInBounds_toArray, List.set_cons_zero, List.set_cons_succ, i64_w, i32_w]
           rfl
          refine pure_ (i := 6) (N := some 22) (v := ?_) (a' := ?_) m7_6 rfl rfl (any_of HT_.out q7_38) (fun _ _ _ h => h) (Or.inl ⟨by rfl, ?_⟩) ?_ ?_
          rotate_left
          ·intro w'
           go_simp
           with_reducible rfl
          rotate_left
          ·simp only [Act.put, List.setIfInBounds_toArray, List.set_cons_zero, List.set_cons_succ, i64_w, i32_w]
           rfl
          refine pure_ (i := 7) (N := some 23) (v := ?_) (a' := ?_) m7_7 rfl rfl (any_of HT_.out q7_38) (fun _ _ _ h => h) (Or.inl ⟨by rfl, ?_⟩) ?_ ?_
          rotate_left
          ·intro w'
           go_simp
           with_reducible rfl
          rotate_left
          ·simp only [Act.put, List.setIfInBounds_toArray, List.set_cons_zero, List.set_cons_succ, i64_w, i32_w]
           rfl
          refine pure_ (i := 8) (N := some 24) (v := ?_) (a' := ?_) m7_8 rfl rfl (any_of HT_.out q7_38) (fun _ _ _ h => h) (Or.inl ⟨by rfl, ?_⟩) ?_ ?_
          rotate_left
          ·intro w'
           go_simp
           with_reducible rfl
          rotate_left
          ·simp only [Act.put, List.setIfInBounds_toArray, List.set_cons_zero, List.set_cons_succ, i64_w, i32_w]
           rfl
          refine pure_ (i := 9) (N := some 25) (v := ?_) (a' := ?_) m7_9 rfl rfl (any_of HT_.out q7_38) (fun _ _ _ h => h) (Or.inl ⟨by rfl, ?_⟩) ?_ ?_
          rotate_left
          ·intro w'
           go_simp
           with_reducible rfl
          rotate_left
          ·simp only [Act.put, List.setIfInBounds_toArray, List.set_cons_zero, List.set_cons_succ, i64_w, i32_w]
           rfl
          refine take_ (i := 5) (N := some 21) (v := ?_) (a' := ?_) m7_14 rfl rfl (take_ofW HT_.out HW_.out q7_38) (fun _ _ _ h => h) (Or.inl ⟨by rfl, ?_⟩) hHeld ?_ ?_
          rotate_left
          ·rintro w' ⟨s0, s1, s2, s3, s4⟩
           go_simp
           with_reducible rfl
          rotate_left
          ·simp only [Act.put, List.setIfInBounds_toArray, List.set_cons_zero, List.set_cons_succ, i64_w, i32_w]
           rfl
          refine pure_ (i := 10) (N := some 26) (v := ?_) (a' := ?_) m7_15 rfl rfl (any_of HT_.out q7_38) (fun _ _ _ h => h) (Or.inl ⟨by rfl, ?_⟩) ?_ ?_
          rotate_left
          ·intro w'
           go_simp
           with_reducible rfl
          rotate_left
          ·simp only [Act.put, List.setIfInBounds_toArray, List.set_cons_zero, List.set_cons_succ, i64_w, i32_w]
           rfl
          refine pure_ (i := 11) (N := some 27) (v := ?_) (a' := ?_) m7_16 rfl rfl (any_of HT_.out q7_38) (fun _ _ _ h => h) (Or.inl ⟨by rfl, ?_⟩) ?_ ?_
          rotate_left
          ·intro w'
           go_simp
           with_reducible rfl
          rotate_left
          ·simp only [Act.put, List.setIfInBounds_toArray, List.set_cons_zero, List.set_cons_succ, i64_w, i32_w]
           rfl
          refine pure_ (i := 12) (N := some 28) (v := ?_) (a' := ?_) m7_17 rfl rfl (any_of HT_.out q7_38) (fun _ _ _ h => h) (Or.inl ⟨by rfl, ?_⟩) ?_ ?_
          rotate_left
          ·intro w'
           go_simp
           with_reducible rfl
          rotate_left
          ·simp only [Act.put, List.setIfInBounds_toArray, List.set_cons_zero, List.set_cons_succ, i64_w, i32_w]
           rfl
          refine pure_ (i := 13) (N := some 29) (v := ?_) (a' := ?_) m7_18 rfl rfl (any_of HT_.out q7_38) (fun _ _ _ h => h) (Or.inl ⟨by rfl, ?_⟩) ?_ ?_
          rotate_left
          ·intro w'
           go_simp
           with_reducible rfl
          rotate_left
          ·simp only [Act.put, List.setIfInBounds_toArray, List.set_cons_zero, List.set_cons_succ, i64_w, i32_w]
           rfl
          refine take_ (i := 14) (N := some 30) (v := ?_) (a' := ?_) m7_19 rfl rfl (take_ofW HT_.out HW_.out q7_38) (fun _ _ _ h => h) (Or.inl ⟨by rfl, ?_⟩) hHeld ?_ ?_
          rotate_left
          ·rintro w' ⟨s0, s1, s2, s3, s4⟩
           go_simp
           with_reducible rfl
          rotate_left
          ·simp only [Act.put, List.setIfInBounds_toArray, List.set_cons_zero, List.set_cons_succ, i64_w, i32_w]
           rfl
          refine one_ (i := 15) (N := some 31) m7_20 rfl rfl (one_of HT_.out q7_38) (by decide) (fun K hK => ?_)
          refine goes_ Try.func35 q7_38 rfl #[.agg #[.int .i32 t272, .int .i64 t273, .int .i64 t274, .int .i64 t275]] (by rfl) rfl rfl q7_45 ?_
          with_reducible refine (cell_Right.calls k1 t272 t273 t274 t275 true _ A21.out).mono ?_
          rintro e w30 ⟨rfl, hb⟩
          refine ⟨_, rfl, ?_⟩
          have n0_ := A7_ (Kd.R_below q7_44 hb)
          have n1_ := A7_ (Kd.V_below q7_54 hb)
          have n2_ := A7_ (Kd.V_below q7_55 hb)
          have n3_ := A7_ (Kd.V_below q7_57 hb)
          have n4_ := A7_ (blk_below (g := g) (o := .cells #[v283, .int .i64 t285] 104 (0, 0)) q7_39 hb)
          have n5_ := A7_ (blk_below (g := gb280) (o := .cells #[.int .i64 t271, .int .i32 t272, .int .i64 t273, .int .i64 t274, .int .i64 t275] 55 (0, 0)) q7_43 hb)
          have n6_ := A7_ (Kept.below (S := (fun k_ => k_ = g)) q7_40 hb)
          have n7_ := A7_ (below_step q7_42 hb)
          clear HO_5
          clear HO_1000
          clear HO278
          clear HO284
          clear BK0
          clear BK280
          clear HK
          clear HB
          have HO_5 := n0_
          have HO_1000 := n1_
          have HO278 := n2_
          have HO284 := n3_
          have BK0 := n4_
          have BK280 := n5_
          have HK := n6_
          have HB := n7_
          clear n0_ n1_ n2_ n3_ n4_ n5_ n6_ n7_
          (try clear hb)
          (try clear hb2)
          (try clear hk)
          (try clear hi)
          refine hK.out _ _ ⟨bc7_ BK280 0, bc7_ BK280 1, bc7_ BK280 2, bc7_ BK280 3, bc7_ BK280 4⟩ (fun hHeld => ?_)
          clear hK K
          refine norm_ (a' := ?_) ?_ ?_
          rotate_left
          ·show Act.put _ (some 31) _ = _
           simp only [Act.put, List.setIfInBounds_toArray, List.set_cons_zero, List.set_cons_succ, i64_w, i32_w]
           rfl
          refine pure_ (i := 16) (N := some 32) (v := ?_) (a' := ?_) m7_21 rfl rfl (any_of HT_.out q7_38) (fun _ _ _ h => h) (Or.inl ⟨by rfl, ?_⟩) ?_ ?_
          rotate_left
          ·intro w'
           go_simp
           with_reducible rfl
          rotate_left
          ·simp only [Act.put, List.setIfInBounds_toArray, List.set_cons_zero, List.set_cons_succ, i64_w, i32_w]
           rfl
          refine pure_ (i := 17) (N := some 33) (v := ?_) (a' := ?_) m7_22 rfl rfl (any_of HT_.out q7_38) (fun _ _ _ h => h) (Or.inl ⟨by rfl, ?_⟩) ?_ ?_
          rotate_left
          ·intro w'
           go_simp
           with_reducible rfl
          rotate_left
          ·simp only [Act.put, List.setIfInBounds_toArray, List.set_cons_zero, List.set_cons_succ, i64_w, i32_w]
           rfl
          refine pure_ (i := 18) (N := some 34) (v := ?_) (a' := ?_) m7_23 rfl rfl (any_of HT_.out q7_38) (fun _ _ _ h => h) (Or.inl ⟨by rfl, ?_⟩) ?_ ?_
          rotate_left
          ·intro w'
           go_simp
           with_reducible rfl
          rotate_left
          ·simp only [Act.put, List.setIfInBounds_toArray, List.set_cons_zero, List.set_cons_succ, i64_w, i32_w]
           rfl
          refine pure_ (i := 19) (N := some 35) (v := ?_) (a' := ?_) m7_24 rfl rfl (any_of HT_.out q7_38) (fun _ _ _ h => h) (Or.inl ⟨by rfl, ?_⟩) ?_ ?_
          rotate_left
          ·intro w'
           go_simp
           with_reducible rfl
          rotate_left
          ·simp only [Act.put, List.setIfInBounds_toArray, List.set_cons_zero, List.set_cons_succ, i64_w, i32_w]
           rfl
          refine pure_ (i := 20) (N := some 36) (v := ?_) (a' := ?_) m7_25 rfl rfl (any_of HT_.out q7_38) (fun _ _ _ h => h) (Or.inl ⟨by rfl, ?_⟩) ?_ ?_
          rotate_left
          ·intro w'
           go_simp
           with_reducible rfl
          rotate_left
          ·simp only [Act.put, List.setIfInBounds_toArray, List.set_cons_zero, List.set_cons_succ, i64_w, i32_w]
           rfl
          refine pure_ (i := 21) (N := some 37) (v := ?_) (a' := ?_) m7_26 rfl rfl (any_of HT_.out q7_38) (fun _ _ _ h => h) (Or.inl ⟨by rfl, ?_⟩) ?_ ?_
          rotate_left
          ·intro w'
           go_simp
           with_reducible rfl
          rotate_left
          ·simp only [Act.put, List.setIfInBounds_toArray, List.set_cons_zero, List.set_cons_succ, i64_w, i32_w]
           rfl
          refine pure_ (i := 22) (N := some 38) (v := ?_) (a' := ?_) m7_27 rfl rfl (any_of HT_.out q7_38) (fun _ _ _ h => h) (Or.inl ⟨by rfl, ?_⟩) ?_ ?_
          rotate_left
          ·intro w'
           go_simp
           with_reducible rfl
          rotate_left
          ·simp only [Act.put, List.setIfInBounds_toArray, List.set_cons_zero, List.set_cons_succ, i64_w, i32_w]
           rfl
          refine pure_ (i := 23) (N := some 39) (v := undef) (a' := ?_) m7_28 rfl rfl (any_of HT_.out q7_38) (fun _ _ _ h => h) (Or.inr ⟨by rfl, rfl⟩) ?_ ?_
          rotate_left
          ·simp only [Act.put, List.setIfInBounds_toArray, List.set_cons_zero, List.set_cons_succ, i64_w, i32_w]
           rfl
          refine pure_ (i := 24) (N := some 40) (v := undef) (a' := ?_) m7_29 rfl rfl (any_of HT_.out q7_38) (fun _ _ _ h => h) (Or.inr ⟨by rfl, rfl⟩) ?_ ?_
          rotate_left
          ·simp only [Act.put, List.setIfInBounds_toArray, List.set_cons_zero, List.set_cons_succ, i64_w, i32_w]
           rfl
          refine pure_ (i := 25) (N := some 41) (v := undef) (a' := ?_) m7_30 rfl rfl (any_of HT_.out q7_38) (fun _ _ _ h => h) (Or.inr ⟨by rfl, rfl⟩) ?_ ?_
          rotate_left
          ·simp only [Act.put, List.setIfInBounds_toArray, List.set_cons_zero, List.set_cons_succ, i64_w, i32_w]
           rfl
          refine pure_ (i := 26) (N := some 42) (v := undef) (a' := ?_) m7_31 rfl rfl (any_of HT_.out q7_38) (fun _ _ _ h => h) (Or.inr ⟨by rfl, rfl⟩) ?_ ?_
          rotate_left
          ·simp only [Act.put, List.setIfInBounds_toArray, List.set_cons_zero, List.set_cons_succ, i64_w, i32_w]
           rfl
          refine pure_ (i := 27) (N := some 43) (v := undef) (a' := ?_) m7_32 rfl rfl (any_of HT_.out q7_38) (fun _ _ _ h => h) (Or.inr ⟨by rfl, rfl⟩) ?_ ?_
          rotate_left
          ·simp only [Act.put, List.setIfInBounds_toArray, List.set_cons_zero, List.set_cons_succ, i64_w, i32_w]
           rfl
          refine pure_ (i := 28) (N := some 44) (v := undef) (a' := ?_) m7_34 rfl rfl (any_of HT_.out q7_38) (fun _ _ _ h => h) (Or.inr ⟨by rfl, rfl⟩) ?_ ?_
          rotate_left
          ·simp only [Act.put, List.setIfInBounds_toArray, List.set_cons_zero, List.set_cons_succ, i64_w, i32_w]
           rfl
          refine pure_ (i := 29) (N := some 45) (v := undef) (a' := ?_) m7_35 rfl rfl (any_of HT_.out q7_38) (fun _ _ _ h => h) (Or.inr ⟨by rfl, rfl⟩) ?_ ?_
          rotate_left
          ·simp only [Act.put, List.setIfInBounds_toArray, List.set_cons_zero, List.set_cons_succ, i64_w, i32_w]
           rfl
          refine pure_ (i := 30) (N := some 46) (v := undef) (a' := ?_) m7_36 rfl rfl (any_of HT_.out q7_38) (fun _ _ _ h => h) (Or.inr ⟨by rfl, rfl⟩) ?_ ?_
          rotate_left
          ·simp only [Act.put, List.setIfInBounds_toArray, List.set_cons_zero, List.set_cons_succ, i64_w, i32_w]
           rfl
          refine pure_ (i := 31) (N := some 47) (v := undef) (a' := ?_) m7_37 rfl rfl (any_of HT_.out q7_38) (fun _ _ _ h => h) (Or.inr ⟨by rfl, rfl⟩) ?_ ?_
          rotate_left
          ·simp only [Act.put, List.setIfInBounds_toArray, List.set_cons_zero, List.set_cons_succ, i64_w, i32_w]
           rfl
          refine pure_ (i := 32) (N := some 48) (v := ?_) (a' := ?_) m7_38 rfl rfl (any_of HT_.out q7_38) (fun _ _ _ h => h) (Or.inl ⟨by rfl, ?_⟩) ?_ ?_
          rotate_left
          ·intro w'
           go_simp
           with_reducible rfl
          rotate_left
          ·simp only [Act.put, List.setIfInBounds_toArray, List.set_cons_zero, List.set_cons_succ, i64_w, i32_w]
           rfl
          refine pure_ (i := 33) (N := some 49) (v := ?_) (a' := ?_) m7_39 rfl rfl (any_of HT_.out q7_38) (fun _ _ _ h => h) (Or.inl ⟨by rfl, ?_⟩) ?_ ?_
          rotate_left
          ·intro w'
           go_simp
           with_reducible rfl
          rotate_left
          ·simp only [Act.put, List.setIfInBounds_toArray, List.set_cons_zero, List.set_cons_succ, i64_w, i32_w]
           rfl
          refine done_ (done_of HT_.out q7_38) ?_
          try go_wp2
          go_meet
          case rel => exact ⟨_, (false), q7_56, H', ⟨by have := HK1.out; first | omega | exact Nat.le_refl _⟩, ⟨by (with_reducible repeat (first | apply Kd.R_alloc | apply Kd.R_drewN | apply Kd.R_drew)); exact HO_5.out⟩, ⟨by (with_reducible repeat (first | apply Kd.V_alloc | apply Kd.V_drewN | apply Kd.V_drew)); exact HO284.out⟩, ⟨by (with_reducible repeat (first | refine blk_drewN ?_ _ | refine blk_drew ?_ | refine blk_alloc ?_ _)); exact BK0.out⟩, ⟨by (with_reducible repeat (first | refine blk_drewN ?_ _ | refine blk_drew ?_ | refine blk_alloc ?_ _)); exact BK280.out⟩, ⟨by repeat (first | (with_reducible first | exact HK.out | apply Kept.alloc | apply Kept.drewN | apply Kept.drew | refine Kept.setCell ?_ (.inl (show g = g from rfl)) _ | refine Kept.setCell ?_ (.inr GW280.out) _) | exact HK.out)⟩, ⟨by repeat (first | (with_reducible first | exact HB.out | apply below_alloc | apply pw_below_drewN | apply below_drew1 | refine below_set ?_ GE0.out | refine below_set ?_ GE280.out) | exact HB.out)⟩⟩
        ·replace c22 := Bool.eq_false_iff.mpr c22
         subst c22
         have H1 : (cell_Read.j1 k1 a1 x5_1 true t282 t285 t271 t272 t273 t274 t275) = some (r1, r2, r3) := by rw [if_neg (show ¬ (false = true) by decide)] at H; exact H
         clear H
         have H := H1
         clear H1
         have H' := A7_ H
         clear H
         try go_wp2
         have n0_ := A7_ (Kd.R_drew HO_5.out)
         have n1_ := A7_ (Kd.V_drew HO_1000.out)
         have n2_ := A7_ (Kd.V_drew HO278.out)
         have n3_ := A7_ (Kd.V_drew HO284.out)
         have n4_ := A7_ (blk_drew BK0.out)
         have n5_ := A7_ (blk_drew BK280.out)
         have n6_ := A7_ (Kept.drew HK.out)
         have n7_ := A7_ (below_drew1 HB.out)
         clear HO_5
         clear HO_1000
         clear HO278
         clear HO284
         clear BK0
         clear BK280
         clear HK
         clear HB
         have HO_5 := n0_
         have HO_1000 := n1_
         have HO278 := n2_
         have HO284 := n3_
         have BK0 := n4_
         have BK280 := n5_
         have HK := n6_
         have HB := n7_
         clear n0_ n1_ n2_ n3_ n4_ n5_ n6_ n7_
         refine start_ (n := 34) (S := fun w' => w'.cell? ⟨gb280, 0, none⟩ = some (.int .i64 t271) ∧ w'.cell? ⟨gb280, 1, none⟩ = some (.int .i32 t272) ∧ w'.cell? ⟨gb280, 2, none⟩ = some (.int .i64 t273) ∧ w'.cell? ⟨gb280, 3, none⟩ = some (.int .i64 t274) ∧ w'.cell? ⟨gb280, 4, none⟩ = some (.int .i64 t275)) (ds := []) m7_0 q7_38 rfl rfl ⟨bc7_ BK280 0, bc7_ BK280 1, bc7_ BK280 2, bc7_ BK280 3, bc7_ BK280 4⟩ (fun hHeld => ?_); refine with_tabW cell_Read.tab6 cell_Read.bits6 (fun HT_ HW_ => ?_)
         generalize w16.drew = w31 at HO_5 HO_1000 HO278 HO284 BK0 BK280 HK HB hHeld ⊢
         refine pure_ (i := 0) (N := some 16) (v := ?_) (a' := ?_) m7_1 rfl rfl (any_of HT_.out q7_38) (fun _ _ _ h => h) (Or.inl ⟨by rfl, ?_⟩) ?_ ?_
         rotate_left
         ·intro w'
          go_simp
          with_reducible rfl
         rotate_left
         ·simp only [Act.put, List.setIfInBounds_toArray, List.set_cons_zero, List.set_cons_succ, i64_w, i32_w]
          rfl
         refine take_ (i := 1) (N := some 17) (v := ?_) (a' := ?_) m7_2 rfl rfl (take_ofW HT_.out HW_.out q7_38) (fun _ _ _ h => h) (Or.inl ⟨by rfl, ?_⟩) hHeld ?_ ?_
         rotate_left
         ·rintro w' ⟨s0, s1, s2, s3, s4⟩
          go_simp
          with_reducible rfl
         rotate_left
         ·simp only [Act.put, List.setIfInBounds_toArray, List.set_cons_zero, List.set_cons_succ, i64_w, i32_w]
          rfl
         refine pure_ (i := 2) (N := some 18) (v := ?_) (a' := ?_) m7_3 rfl rfl (any_of HT_.out q7_38) (fun _ _ _ h => h) (Or.inl ⟨by rfl, ?_⟩) ?_ ?_
         rotate_left
         ·intro w'
          go_simp
          with_reducible rfl
         rotate_left
         ·simp only [Act.put, List.setIfInBounds_toArray, List.set_cons_zero, List.set_cons_succ, i64_w, i32_w]
          rfl
         refine pure_ (i := 3) (N := some 19) (v := ?_) (a' := ?_) m7_4 rfl rfl (any_of HT_.out q7_38) (fun _ _ _ h => h) (Or.inl ⟨by rfl, ?_⟩) ?_ ?_
         rotate_left
         ·intro w'
          go_simp
          with_reducible rfl
         rotate_left
         ·simp only [Act.put, List.setIfInBounds_toArray, List.set_cons_zero, List.set_cons_succ, i64_w, i32_w]
          rfl
         refine pure_ (i := 4) (N := some 20) (v := ?_) (a' := ?_) m7_5 rfl rfl (any_of HT_.out q7_38) (fun _ _ _ h => h) (Or.inl ⟨by rfl, ?_⟩) ?_ ?_
         rotate_left
         ·intro w'
          go_simp
          with_reducible rfl
         rotate_left
         ·simp only [Act.put, List.setIfInBounds_toArray, List.set_cons_zero, List.set_cons_succ, i64_w, i32_w]
          rfl
         refine pure_ (i := 6) (N := some 22) (v := ?_) (a' := ?_) m7_6 rfl rfl (any_of HT_.out q7_38) (fun _ _ _ h => h) (Or.inl ⟨by rfl, ?_⟩) ?_ ?_
         rotate_left
         ·intro w'
          go_simp
          with_reducible rfl
         rotate_left
         ·simp only [Act.put, List.setIfInBounds_toArray, List.set_cons_zero, List.set_cons_succ, i64_w, i32_w]
          rfl
         refine pure_ (i := 7) (N := some 23) (v := ?_) (a' := ?_) m7_7 rfl rfl (any_of HT_.out q7_38) (fun _ _ _ h => h) (Or.inl ⟨by rfl, ?_⟩) ?_ ?_
         rotate_left
         ·intro w'
          go_simp
          with_reducible rfl
         rotate_left
         ·simp only [Act.put, List.setIfInBounds_toArray, List.set_cons_zero, List.set_cons_succ, i64_w, i32_w]
          rfl
         refine pure_ (i := 8) (N := some 24) (v := ?_) (a' := ?_) m7_8 rfl rfl (any_of HT_.out q7_38) (fun _ _ _ h => h) (Or.inl ⟨by rfl, ?_⟩) ?_ ?_
         rotate_left
         ·intro w'
          go_simp
          with_reducible rfl
         rotate_left
         ·simp only [Act.put, List.setIfInBounds_toArray, List.set_cons_zero, List.set_cons_succ, i64_w, i32_w]
          rfl
         refine pure_ (i := 9) (N := some 25) (v := ?_) (a' := ?_) m7_9 rfl rfl (any_of HT_.out q7_38) (fun _ _ _ h => h) (Or.inl ⟨by rfl, ?_⟩) ?_ ?_
         rotate_left
         ·intro w'
          go_simp
          with_reducible rfl
         rotate_left
         ·simp only [Act.put, List.setIfInBounds_toArray, List.set_cons_zero, List.set_cons_succ, i64_w, i32_w]
          rfl
         refine take_ (i := 5) (N := some 21) (v := ?_) (a' := ?_) m7_14 rfl rfl (take_ofW HT_.out HW_.out q7_38) (fun _ _ _ h => h) (Or.inl ⟨by rfl, ?_⟩) hHeld ?_ ?_
         rotate_left
         ·rintro w' ⟨s0, s1, s2, s3, s4⟩
          go_simp
          with_reducible rfl
         rotate_left
         ·simp only [Act.put, List.setIfInBounds_toArray, List.set_cons_zero, List.set_cons_succ, i64_w, i32_w]
          rfl
         refine pure_ (i := 10) (N := some 26) (v := ?_) (a' := ?_) m7_15 rfl rfl (any_of HT_.out q7_38) (fun _ _ _ h => h) (Or.inl ⟨by rfl, ?_⟩) ?_ ?_
         rotate_left
         ·intro w'
          go_simp
          with_reducible rfl
         rotate_left
         ·simp only [Act.put, List.setIfInBounds_toArray, List.set_cons_zero, List.set_cons_succ, i64_w, i32_w]
          rfl
         refine pure_ (i := 11) (N := some 27) (v := ?_) (a' := ?_) m7_16 rfl rfl (any_of HT_.out q7_38) (fun _ _ _ h => h) (Or.inl ⟨by rfl, ?_⟩) ?_ ?_
         rotate_left
         ·intro w'
          go_simp
          with_reducible rfl
         rotate_left
         ·simp only [Act.put, List.setIfInBounds_toArray, List.set_cons_zero, List.set_cons_succ, i64_w, i32_w]
          rfl
         refine pure_ (i := 12) (N := some 28) (v := ?_) (a' := ?_) m7_17 rfl rfl (any_of HT_.out q7_38) (fun _ _ _ h => h) (Or.inl ⟨by rfl, ?_⟩) ?_ ?_
         rotate_left
         ·intro w'
          go_simp
          with_reducible rfl
         rotate_left
         ·simp only [Act.put, List.setIfInBounds_toArray, List.set_cons_zero, List.set_cons_succ, i64_w, i32_w]
          rfl
         refine pure_ (i := 13) (N := some 29) (v := ?_) (a' := ?_) m7_18 rfl rfl (any_of HT_.out q7_38) (fun _ _ _ h => h) (Or.inl ⟨by rfl, ?_⟩) ?_ ?_
         rotate_left
         ·intro w'
          go_simp
          with_reducible rfl
         rotate_left
         ·simp only [Act.put, List.setIfInBounds_toArray, List.set_cons_zero, List.set_cons_succ, i64_w, i32_w]
          rfl
         refine take_ (i := 14) (N := some 30) (v := ?_) (a' := ?_) m7_19 rfl rfl (take_ofW HT_.out HW_.out q7_38) (fun _ _ _ h => h) (Or.inl ⟨by rfl, ?_⟩) hHeld ?_ ?_
         rotate_left
         ·rintro w' ⟨s0, s1, s2, s3, s4⟩
          go_simp
          with_reducible rfl
         rotate_left
         ·simp only [Act.put, List.setIfInBounds_toArray, List.set_cons_zero, List.set_cons_succ, i64_w, i32_w]
          rfl
         refine one_ (i := 15) (N := some 31) m7_20 rfl rfl (one_of HT_.out q7_38) (by decide) (fun K hK => ?_)
         refine goes_ Try.func35 q7_38 rfl #[.agg #[.int .i32 t272, .int .i64 t273, .int .i64 t274, .int .i64 t275]] (by rfl) rfl rfl q7_45 ?_
         with_reducible refine (cell_Right.calls k1 t272 t273 t274 t275 false _ A21.out).mono ?_
         rintro e w32 ⟨rfl, hb⟩
         refine ⟨_, rfl, ?_⟩
         have n0_ := A7_ (Kd.R_below q7_44 hb)
         have n1_ := A7_ (Kd.V_below q7_54 hb)
         have n2_ := A7_ (Kd.V_below q7_55 hb)
         have n3_ := A7_ (Kd.V_below q7_57 hb)
         have n4_ := A7_ (blk_below (g := g) (o := .cells #[v283, .int .i64 t285] 104 (0, 0)) q7_39 hb)
         have n5_ := A7_ (blk_below (g := gb280) (o := .cells #[.int .i64 t271, .int .i32 t272, .int .i64 t273, .int .i64 t274, .int .i64 t275] 55 (0, 0)) q7_43 hb)
         have n6_ := A7_ (Kept.below (S := (fun k_ => k_ = g)) q7_40 hb)
         have n7_ := A7_ (below_step q7_42 hb)
         clear HO_5
         clear HO_1000
         clear HO278
         clear HO284
         clear BK0
         clear BK280
         clear HK
         clear HB
         have HO_5 := n0_
         have HO_1000 := n1_
         have HO278 := n2_
         have HO284 := n3_
         have BK0 := n4_
         have BK280 := n5_
         have HK := n6_
         have HB := n7_
         clear n0_ n1_ n2_ n3_ n4_ n5_ n6_ n7_
         (try clear hb)
         (try clear hb2)
         (try clear hk)
         (try clear hi)
         refine hK.out _ _ ⟨bc7_ BK280 0, bc7_ BK280 1, bc7_ BK280 2, bc7_ BK280 3, bc7_ BK280 4⟩ (fun hHeld => ?_)
         clear hK K
         refine norm_ (a' := ?_) ?_ ?_
         rotate_left
         ·show Act.put _ (some 31) _ = _
          simp only [Act.put, List.setIfInBounds_toArray, List.set_cons_zero, List.set_cons_succ, i64_w, i32_w]
          rfl
         refine pure_ (i := 16) (N := some 32) (v := ?_) (a' := ?_) m7_21 rfl rfl (any_of HT_.out q7_38) (fun _ _ _ h => h) (Or.inl ⟨by rfl, ?_⟩) ?_ ?_
         rotate_left
         ·intro w'
          go_simp
          with_reducible rfl
         rotate_left
         ·simp only [Act.put, List.setIfInBounds_toArray, List.set_cons_zero, List.set_cons_succ, i64_w, i32_w]
          rfl
         refine pure_ (i := 17) (N := some 33) (v := ?_) (a' := ?_) m7_22 rfl rfl (any_of HT_.out q7_38) (fun _ _ _ h => h) (Or.inl ⟨by rfl, ?_⟩) ?_ ?_
         rotate_left
         ·intro w'
          go_simp
          with_reducible rfl
         rotate_left
         ·simp only [Act.put, List.setIfInBounds_toArray, List.set_cons_zero, List.set_cons_succ, i64_w, i32_w]
          rfl
         refine pure_ (i := 18) (N := some 34) (v := ?_) (a' := ?_) m7_23 rfl rfl (any_of HT_.out q7_38) (fun _ _ _ h => h) (Or.inl ⟨by rfl, ?_⟩) ?_ ?_
         rotate_left
         ·intro w'
          go_simp
          with_reducible rfl
         rotate_left
         ·simp only [Act.put, List.setIfInBounds_toArray, List.set_cons_zero, List.set_cons_succ, i64_w, i32_w]
          rfl
         refine pure_ (i := 19) (N := some 35) (v := undef) (a' := ?_) m7_24 rfl rfl (any_of HT_.out q7_38) (fun _ _ _ h => h) (Or.inr ⟨by rfl, rfl⟩) ?_ ?_
         rotate_left
         ·simp only [Act.put, List.setIfInBounds_toArray, List.set_cons_zero, List.set_cons_succ, i64_w, i32_w]
          rfl
         refine pure_ (i := 20) (N := some 36) (v := undef) (a' := ?_) m7_25 rfl rfl (any_of HT_.out q7_38) (fun _ _ _ h => h) (Or.inr ⟨by rfl, rfl⟩) ?_ ?_
         rotate_left
         ·simp only [Act.put, List.setIfInBounds_toArray, List.set_cons_zero, List.set_cons_succ, i64_w, i32_w]
          rfl
         refine pure_ (i := 21) (N := some 37) (v := undef) (a' := ?_) m7_26 rfl rfl (any_of HT_.out q7_38) (fun _ _ _ h => h) (Or.inr ⟨by rfl, rfl⟩) ?_ ?_
         rotate_left
         ·simp only [Act.put, List.setIfInBounds_toArray, List.set_cons_zero, List.set_cons_succ, i64_w, i32_w]
          rfl
         refine pure_ (i := 22) (N := some 38) (v := undef) (a' := ?_) m7_27 rfl rfl (any_of HT_.out q7_38) (fun _ _ _ h => h) (Or.inr ⟨by rfl, rfl⟩) ?_ ?_
         rotate_left
         ·simp only [Act.put, List.setIfInBounds_toArray, List.set_cons_zero, List.set_cons_succ, i64_w, i32_w]
          rfl
         refine pure_ (i := 23) (N := some 39) (v := undef) (a' := ?_) m7_28 rfl rfl (any_of HT_.out q7_38) (fun _ _ _ h => h) (Or.inr ⟨by rfl, rfl⟩) ?_ ?_
         rotate_left
         ·simp only [Act.put, List.setIfInBounds_toArray, List.set_cons_zero, List.set_cons_succ, i64_w, i32_w]
          rfl
         refine pure_ (i := 24) (N := some 40) (v := undef) (a' := ?_) m7_29 rfl rfl (any_of HT_.out q7_38) (fun _ _ _ h => h) (Or.inr ⟨by rfl, rfl⟩) ?_ ?_
         rotate_left
         ·simp only [Act.put, List.setIfInBounds_toArray, List.set_cons_zero, List.set_cons_succ, i64_w, i32_w]
          rfl
         refine pure_ (i := 25) (N := some 41) (v := undef) (a' := ?_) m7_30 rfl rfl (any_of HT_.out q7_38) (fun _ _ _ h => h) (Or.inr ⟨by rfl, rfl⟩) ?_ ?_
         rotate_left
         ·simp only [Act.put, List.setIfInBounds_toArray, List.set_cons_zero, List.set_cons_succ, i64_w, i32_w]
          rfl
         refine pure_ (i := 26) (N := some 42) (v := undef) (a' := ?_) m7_31 rfl rfl (any_of HT_.out q7_38) (fun _ _ _ h => h) (Or.inr ⟨by rfl, rfl⟩) ?_ ?_
         rotate_left
         ·simp only [Act.put, List.setIfInBounds_toArray, List.set_cons_zero, List.set_cons_succ, i64_w, i32_w]
          rfl
         refine pure_ (i := 27) (N := some 43) (v := undef) (a' := ?_) m7_32 rfl rfl (any_of HT_.out q7_38) (fun _ _ _ h => h) (Or.inr ⟨by rfl, rfl⟩) ?_ ?_
         rotate_left
         ·simp only [Act.put, List.setIfInBounds_toArray, List.set_cons_zero, List.set_cons_succ, i64_w, i32_w]
          rfl
         refine pure_ (i := 28) (N := some 44) (v := undef) (a' := ?_) m7_34 rfl rfl (any_of HT_.out q7_38) (fun _ _ _ h => h) (Or.inr ⟨by rfl, rfl⟩) ?_ ?_
         rotate_left
         ·simp only [Act.put, List.setIfInBounds_toArray, List.set_cons_zero, List.set_cons_succ, i64_w, i32_w]
          rfl
         refine pure_ (i := 29) (N := some 45) (v := undef) (a' := ?_) m7_35 rfl rfl (any_of HT_.out q7_38) (fun _ _ _ h => h) (Or.inr ⟨by rfl, rfl⟩) ?_ ?_
         rotate_left
         ·simp only [Act.put, List.setIfInBounds_toArray, List.set_cons_zero, List.set_cons_succ, i64_w, i32_w]
          rfl
         refine pure_ (i := 30) (N := some 46) (v := undef) (a' := ?_) m7_36 rfl rfl (any_of HT_.out q7_38) (fun _ _ _ h => h) (Or.inr ⟨by rfl, rfl⟩) ?_ ?_
         rotate_left
         ·simp only [Act.put, List.setIfInBounds_toArray, List.set_cons_zero, List.set_cons_succ, i64_w, i32_w]
          rfl
         refine pure_ (i := 31) (N := some 47) (v := undef) (a' := ?_) m7_37 rfl rfl (any_of HT_.out q7_38) (fun _ _ _ h => h) (Or.inr ⟨by rfl, rfl⟩) ?_ ?_
         rotate_left
         ·simp only [Act.put, List.setIfInBounds_toArray, List.set_cons_zero, List.set_cons_succ, i64_w, i32_w]
          rfl
         refine pure_ (i := 32) (N := some 48) (v := undef) (a' := ?_) m7_38 rfl rfl (any_of HT_.out q7_38) (fun _ _ _ h => h) (Or.inr ⟨by rfl, rfl⟩) ?_ ?_
         rotate_left
         ·simp only [Act.put, List.setIfInBounds_toArray, List.set_cons_zero, List.set_cons_succ, i64_w, i32_w]
          rfl
         refine pure_ (i := 33) (N := some 49) (v := ?_) (a' := ?_) m7_39 rfl rfl (any_of HT_.out q7_38) (fun _ _ _ h => h) (Or.inl ⟨by rfl, ?_⟩) ?_ ?_
         rotate_left
         ·intro w'
          go_simp
          with_reducible rfl
         rotate_left
         ·simp only [Act.put, List.setIfInBounds_toArray, List.set_cons_zero, List.set_cons_succ, i64_w, i32_w]
          rfl
         refine done_ (done_of HT_.out q7_38) ?_
         try go_wp2
         go_meet
         case rel => exact ⟨_, (true), q7_56, H', ⟨by have := HK1.out; first | omega | exact Nat.le_refl _⟩, ⟨by (with_reducible repeat (first | apply Kd.R_alloc | apply Kd.R_drewN | apply Kd.R_drew)); exact HO_5.out⟩, ⟨by (with_reducible repeat (first | apply Kd.V_alloc | apply Kd.V_drewN | apply Kd.V_drew)); exact HO284.out⟩, ⟨by (with_reducible repeat (first | refine blk_drewN ?_ _ | refine blk_drew ?_ | refine blk_alloc ?_ _)); exact BK0.out⟩, ⟨by (with_reducible repeat (first | refine blk_drewN ?_ _ | refine blk_drew ?_ | refine blk_alloc ?_ _)); exact BK280.out⟩, ⟨by repeat (first | (with_reducible first | exact HK.out | apply Kept.alloc | apply Kept.drewN | apply Kept.drew | refine Kept.setCell ?_ (.inl (show g = g from rfl)) _ | refine Kept.setCell ?_ (.inr GW280.out) _) | exact HK.out)⟩, ⟨by repeat (first | (with_reducible first | exact HB.out | apply below_alloc | apply pw_below_drewN | apply below_drew1 | refine below_set ?_ GE0.out | refine below_set ?_ GE280.out) | exact HB.out)⟩⟩
     case rest =>
      clear HC7
      try clear c2
      try clear p2
      try clear c3
      try clear c22
      try clear c23
      try clear c23b0
      try clear c23b1
      try clear c25
      obtain ⟨kq, x49_6, rfl, HA, HJ6, HO_5, HO_1000, BK0, BK280, HK, HB⟩ := hcut
      cases kq with
      | zero => exact absurd HA.out (by simp [cell_Read.j1])
      | succ kj6 =>
       have H := HA.out
       clear HA
       simp only [cell_Read.j1] at H
       by_cases c33 : x49_6 = true
       ·subst c33
        have H1 : ((codec_Reader_Fail.f t282 t285 6).bind fun bt288 => (some (([] : List (S53)), bt288.1, bt288.2))) = some (r1, r2, r3) := by rw [if_pos rfl] at H; exact H
        clear H
        have H := H1
        clear H1
        replace H := Option.bind_eq_some_iff.mp H
        obtain ⟨⟨t288, t291⟩, A340, H⟩ := H
        replace H : (some (([] : List (S53)), t288, t291)) = some (r1, r2, r3) := H
        have A34 := A7_ A340
        clear A340
        simp only [Option.some.injEq, Prod.mk.injEq] at H
        obtain ⟨rfl, rfl, rfl⟩ := H
        obtain ⟨Ao35, co35, eo35⟩ := Kd.V_slice HO_1000.out
        subst eo35
        go_wp2_with (first | ((with_reducible refine gate_callee (f := 69) rfl ?_); refine goesL_ (some 51) rfl rfl Try.func69 q7_38 rfl #[.pointer (some ⟨g, 0, none⟩), .int .i64 6] rfl q7_45 ?_; (with_reducible refine (codec_Reader_Fail.calls g (fun k_ => ((P0_0_ k_ ∨ w.heap.size ≤ k_) ∧ (some k_ ≠ (.slice Ao8 x5_1.length co8 : Value).ownBlock ∧ (k_ ≠ g ∧ k_ ≠ gb280)))) Ao35 co35 t282 t285 6 t288 t291 w0 _ ?side2 ?side3 ?side1 ?side4 A34.out).mono ?_); (case side1 => repeat (first | (with_reducible first | exact HB.out | apply below_alloc | apply pw_below_drewN | apply below_drew1 | refine below_set ?_ GE0.out | refine below_set ?_ GE280.out) | exact HB.out)); (case side2 => (with_reducible repeat (first | refine blk_drewN ?_ _ | refine blk_drew ?_ | refine blk_alloc ?_ _)); exact BK0.out); (case side3 => exact GE0.out); (case side4 => exact Kd.V_mono (HO_1000.out) (fun k_ hk_ => ⟨hk_, hk_.2.2.1⟩)); rintro e w36 ⟨v289, rfl, ho0, hbx, hb, hkp⟩; refine ⟨_, rfl, ?_⟩; have n0_ := A7_ (Kd.R_mono (ok' := fun k_ => (w.heap.size ≤ k_)) (Kd.R_keptB ((Kd.R_types HO_5.out (show (World.heap _)[g]? = some (.cells #[.slice Ao35 t282.length co35, .int .i64 t285] 104 (0, 0)) from by (with_reducible repeat (first | refine blk_drewN ?_ _ | refine blk_drew ?_ | refine blk_alloc ?_ _)); exact BK0.out) (by decide))) hkp (fun k_ hk_ hs_ => (hk_.2) hs_)) (fun k_ hk_ => hk_.1.1)); have n1_ := A7_ (Kd.V_mono (ok' := fun k_ => (P0_0_ k_ ∨ w.heap.size ≤ k_) ∧ some k_ ≠ (.slice Ao8 x5_1.length co8 : Value).ownBlock ∧ k_ ≠ g ∧ k_ ≠ gb280) (Kd.V_keptB (HO_1000.out) hkp (fun k_ hk_ hs_ => (hk_.2.2.1) hs_)) (fun k_ hk_ => ⟨hk_.1.1, hk_.1.2.1, hk_.1.2.2.1, hk_.1.2.2.2⟩)); have n2_ := A7_ (hbx); have n3_ := A7_ (blk_kept q7_43 hkp (fun hs_ => (fun e_ => NB280_0.out e_) hs_)); have n4_ := A7_ (Kd.V_mono (ok' := fun k_ => (P0_0_ k_ ∨ w.heap.size ≤ k_) ∧ some k_ ≠ (.slice Ao8 x5_1.length co8 : Value).ownBlock ∧ k_ ≠ g ∧ k_ ≠ gb280) ho0 (fun k_ hk_ => ⟨Or.elim hk_ (fun hs_ => hs_.1) (fun hn_ => (.inr (Nat.le_trans q7_46 hn_))), Or.elim hk_ (fun hs_ => hs_.2.1) (fun hn_ => (Kd.fresh' (Kd.R_lt q7_44) k_ hn_)), Or.elim hk_ (fun hs_ => hs_.2.2.1) (fun hn_ => (Kd.freshB (g := g) (o := .cells #[.slice Ao35 t282.length co35, .int .i64 t285] 104 (0, 0)) q7_39 k_ hn_)), Or.elim hk_ (fun hs_ => hs_.2.2.2) (fun hn_ => (Kd.freshB (g := gb280) (o := .cells #[.int .i64 t271, .int .i32 t272, .int .i64 t273, .int .i64 t274, .int .i64 t275] 55 (0, 0)) q7_43 k_ hn_))⟩)); have n5_ := A7_ (Kept.then_ (S := (fun k_ => k_ = g)) q7_40 hkp (fun k_ hs_ => (fun e_ => .inl e_) hs_)); have n6_ := A7_ (hb); clear HO_5 HO_1000 BK0 BK280 HK HB; have HO_5 := n0_; have HO_1000 := n1_; have BK0 := n2_; have BK280 := n3_; have HO290 := n4_; have HK := n5_; have HB := n6_; clear n0_ n1_ n2_ n3_ n4_ n5_ n6_; (try clear hbx); (try clear hbn); (try clear hgn); (try clear hb); (try clear hkp); (try clear ho0)))
        go_ret
        exact ⟨_, (v289), by first | rfl | (simp [errW_none, errW_some, ptrW_true, ptrW_false] <;> rfl) | (simp [*, errW_none, errW_some, ptrW_true, ptrW_false] <;> rfl), by first | exact Kd.R_nil _ _ _ _ _ | exact Kd.N_nil _ _ _ _ _ | exact Kd.V_nil _ _ _ _ _ | exact Kd.Q_nil _ _ _ _ _ | exact Kd.S_nil _ _ _ _ _, by (with_reducible repeat (first | apply Kd.V_alloc | apply Kd.V_drewN | apply Kd.V_drew)); exact Kd.V_mono HO290.out (fun _ hk => ⟨hk.1, (by simp [Value.ownBlock])⟩), q7_39, by repeat (first | (with_reducible first | exact HB.out | apply below_alloc | apply pw_below_drewN | apply below_drew1 | refine below_set ?_ GE0.out | refine below_set ?_ GE280.out) | exact HB.out), by repeat (first | (with_reducible first | exact HK.out | apply Kept.alloc | apply Kept.drewN | apply Kept.drew | refine Kept.setCell ?_ (.inl (show g = g from rfl)) _ | refine Kept.setCell ?_ (.inr GW280.out) _) | exact HK.out)⟩
       ·replace c33 := Bool.eq_false_iff.mpr c33
        subst c33
        have H1 : (cell_Read.l1 kj6 a1 x5_1 t271 0 t282 t285 t271 t272 t273 t274 t275) = some (r1, r2, r3) := by rw [if_neg (show ¬ (false = true) by decide)] at H; exact H
        clear H
        have H := H1
        clear H1
        have H' := A7_ H
        clear H
        have hnb37 := NB280_0.out
        have hnc37 := NB0_280.out
        have hcz38_0 : wc.cell? ⟨gb280, 0, none⟩ = some (.int .i64 t271) := bc7_ BK280 0
        have hcz38_1 : wc.cell? ⟨gb280, 1, none⟩ = some (.int .i32 t272) := bc7_ BK280 1
        have hcz38_2 : wc.cell? ⟨gb280, 2, none⟩ = some (.int .i64 t273) := bc7_ BK280 2
        have hcz38_3 : wc.cell? ⟨gb280, 3, none⟩ = some (.int .i64 t274) := bc7_ BK280 3
        have hcz38_4 : wc.cell? ⟨gb280, 4, none⟩ = some (.int .i64 t275) := bc7_ BK280 4
        have hfz38_0 := blk_frozen BK280.out 0
        have hfz38_1 := blk_frozen BK280.out 1
        have hfz38_2 := blk_frozen BK280.out 2
        have hfz38_3 := blk_frozen BK280.out 3
        have hfz38_4 := blk_frozen BK280.out 4
        go_wp2
        go_loopg [5, 54] kj6 (fun kq v5 v54 w' => ∃ (x5_3 : List (S53)) (x54_3 : Int), v54 = .int .i64 x54_3 ∧ Aside0 (cell_Read.l1 kq a1 x5_3 t271 x54_3 t282 t285 t271 t272 t273 t274 t275 = some (r1, r2, r3)) ∧ Aside0 (kq ≤ kj6) ∧ Aside0 (Kd.R k53 53 w' w0.heap.size (fun k_ => (w.heap.size ≤ k_)) v5 x5_3) ∧ Aside0 (Kd.V (Kd.int .u8) 5 w' w0.heap.size (fun k_ => (P0_0_ k_ ∨ w.heap.size ≤ k_) ∧ some k_ ≠ (v5 : Value).ownBlock ∧ k_ ≠ g ∧ k_ ≠ gb280) v283 t282) ∧ Aside0 (w'.heap[g]? = some (.cells #[v283, .int .i64 t285] 104 (0, 0))) ∧ Aside0 (w'.heap[gb280]? = some (.cells #[.int .i64 t271, .int .i32 t272, .int .i64 t273, .int .i64 t274, .int .i64 t275] 55 (0, 0))) ∧ Aside0 (Kept w w' (fun k_ => k_ = g)) ∧ Aside0 (Below w0.heap.size w0 w'))
        case atStart => exact ⟨(x5_1), (0), q7_56, H', ⟨Nat.le_refl _⟩, ⟨by (with_reducible repeat (first | apply Kd.R_alloc | apply Kd.R_drewN | apply Kd.R_drew)); exact HO_5.out⟩, ⟨by (with_reducible repeat (first | apply Kd.V_alloc | apply Kd.V_drewN | apply Kd.V_drew)); exact HO_1000.out⟩, ⟨by (with_reducible repeat (first | refine blk_drewN ?_ _ | refine blk_drew ?_ | refine blk_alloc ?_ _)); exact BK0.out⟩, ⟨by (with_reducible repeat (first | refine blk_drewN ?_ _ | refine blk_drew ?_ | refine blk_alloc ?_ _)); exact BK280.out⟩, ⟨by repeat (first | (with_reducible first | exact HK.out | apply Kept.alloc | apply Kept.drewN | apply Kept.drew | refine Kept.setCell ?_ (.inl (show g = g from rfl)) _ | refine Kept.setCell ?_ (.inr GW280.out) _) | exact HK.out)⟩, ⟨by repeat (first | (with_reducible first | exact HB.out | apply below_alloc | apply pw_below_drewN | apply below_drew1 | refine below_set ?_ GE0.out | refine below_set ?_ GE280.out) | exact HB.out)⟩⟩
        case round =>
         clear H'
         try clear c2
         try clear p2
         try clear c3
         try clear c6
         try clear c22
         try clear c23
         try clear c23b0
         try clear c23b1
         try clear c25
         try clear c33
         try clear c35
         try clear c37
         try clear hcz38_0
         try clear hcz38_1
         try clear hcz38_2
         try clear hcz38_3
         try clear hcz38_4
         try clear hfz38_0
         try clear hfz38_1
         try clear hfz38_2
         try clear hfz38_3
         try clear hfz38_4
         try clear p2
         obtain ⟨x5_3, x54_3, rfl, HA, HK3, HO_5, HO_1000, BK0, BK280, HK, HB⟩ := hrel
         cases gk with
         | zero => exact absurd HA.out (by simp [cell_Read.l1])
         | succ k3 =>
          have H := HA.out
          clear HA
          simp only [cell_Read.l1] at H
          by_cases c39 : x54_3 < t271
          ·rw [if_pos c39] at H
           have c39b0 : decide (x54_3 < t271) = true := decide_eq_true c39
           clear c39
           by_cases c40 : x5_3.length < 4398046511104
           ·rw [if_pos c40] at H
            have LMc40 := A7_ c40
            clear c40
            obtain ⟨y292, hy292⟩ : ∃ y_ : List (S53), y_ = (x5_3 ++ [(⟨t272, (⟨t273, t274, t275⟩ : S51)⟩ : S53)]) := ⟨_, rfl⟩
            replace H : (cell_Read.l1 k3 a1 y292 t271 (wrap64 (x54_3 + 1)) t282 t285 t271 t272 t273 t274 t275) = some (r1, r2, r3) := by first | (rw [hy292]; with_reducible exact H) | (have H2_ := (Option.bind_some _ _).symm.trans H; rw [hy292]; with_reducible exact H2_) | (have H2_ := (Option.bind_some _ _).symm.trans H; with_reducible exact H2_) | with_reducible exact H | (rw [hy292]; exact H) | exact H
            have Ny292 := A7_ hy292
            clear hy292
            have H' := A7_ H
            clear H
            have hnb41 := NB280_0.out
            have hnc41 := NB0_280.out
            have hcz42_0 : wr.cell? ⟨gb280, 0, none⟩ = some (.int .i64 t271) := bc7_ BK280 0
            have hcz42_1 : wr.cell? ⟨gb280, 1, none⟩ = some (.int .i32 t272) := bc7_ BK280 1
            have hcz42_2 : wr.cell? ⟨gb280, 2, none⟩ = some (.int .i64 t273) := bc7_ BK280 2
            have hcz42_3 : wr.cell? ⟨gb280, 3, none⟩ = some (.int .i64 t274) := bc7_ BK280 3
            have hcz42_4 : wr.cell? ⟨gb280, 4, none⟩ = some (.int .i64 t275) := bc7_ BK280 4
            have hfz42_0 := blk_frozen BK280.out 0
            have hfz42_1 := blk_frozen BK280.out 1
            have hfz42_2 := blk_frozen BK280.out 2
            have hfz42_3 := blk_frozen BK280.out 3
            have hfz42_4 := blk_frozen BK280.out 4
            go_wp2_with (first | ((with_reducible refine gate_builtin (b := .append) (xs := #[.tmp 56, .tmp 59]) rfl ?_); (try (refine gate_guard (by rfl) ?_; dsimp only)); at_builtin; refine Kd.R_append k53 (w0 := w0) w0.heap.size rfl (.tmp 56) (.tmp 59) 47 53 (.agg #[(.int .i32 0), (.int .i64 0), (.int .i64 0), (.int .i64 0)]) 32 rfl Try.underlying47 info53 rfl (by decide) (by omega) u5 x5_3 (⟨t272, (⟨t273, t274, t275⟩ : S51)⟩ : S53) [.int .i32 t272, .int .i64 t273, .int .i64 t274, .int .i64 t275] (fun k_ => (w.heap.size ≤ k_)) (fun _ => False) rfl rfl ?aP (fun _ hk => hk.elim) ?aF ?aO ?aB ?aS ?aL ?_; (case aP => exact k53_mkM _ _ _ (⟨t272, (⟨t273, t274, t275⟩ : S51)⟩ : S53)); (case aB => exact q7_42); (case aF => exact (fun k_ hk => (Nat.le_trans q7_46 hk))); (case aO => exact q7_44); (case aS => exact (below_size q7_42)); (case aL => have := LMc40.out; omega); intro v293 w43 ho hb hg hat; rw [← Ny292.out] at ho; have n0_ := A7_ (Kd.V_afterv (ok := (fun k_ => (P0_0_ k_ ∨ w.heap.size ≤ k_) ∧ k_ ≠ g ∧ k_ ≠ gb280)) (by (with_reducible repeat (first | apply Kd.V_alloc | apply Kd.V_drewN | apply Kd.V_drew)); exact Kd.V_mono HO_1000.out (fun _ hk => ⟨⟨hk.1, ⟨hk.2.2.1, hk.2.2.2⟩⟩, hk.2.1⟩)) hg hat); have n1_ := A7_ (blk_grown (g := g) (o := .cells #[v283, .int .i64 t285] 104 (0, 0)) q7_39 hg (Kd.R_ne HO_5.out BK0.out (by decide))); have n2_ := A7_ (blk_grown (g := gb280) (o := .cells #[.int .i64 t271, .int .i32 t272, .int .i64 t273, .int .i64 t274, .int .i64 t275] 55 (0, 0)) q7_43 hg (Kd.R_ne HO_5.out BK280.out (by decide))); have n3_ := A7_ (hb); have n4_ := A7_ (Kept.of_grown (S := (fun k_ => k_ = g)) hg q7_40 (fun k_ e_ => .inr ((HO_5.out.1 k_ e_)))); have n5_ := A7_ (ho); clear HO_1000 BK0 BK280 HB HK HO_5; have HO_1000 := n0_; have BK0 := n1_; have BK280 := n2_; have HB := n3_; have HK := n4_; have HO294 := n5_; clear n0_ n1_ n2_ n3_ n4_ n5_; clear ho hb hg hat))
            go_roundg k3
            case measure => have := HK1.out; have := HJ6.out; have := HK3.out; omega
            case rel => exact ⟨(y292), (wrap64 (x54_3 + 1)), q7_56, H', ⟨by have := HK1.out; have := HJ6.out; have := HK3.out; omega⟩, ⟨by (with_reducible repeat (first | apply Kd.R_alloc | apply Kd.R_drewN | apply Kd.R_drew)); exact HO294.out⟩, ⟨by (with_reducible repeat (first | apply Kd.V_alloc | apply Kd.V_drewN | apply Kd.V_drew)); exact Kd.V_mono HO_1000.out (fun _ hk => ⟨hk.1.1, ⟨hk.2, ⟨hk.1.2.1, hk.1.2.2⟩⟩⟩)⟩, ⟨by (with_reducible repeat (first | refine blk_drewN ?_ _ | refine blk_drew ?_ | refine blk_alloc ?_ _)); exact BK0.out⟩, ⟨by (with_reducible repeat (first | refine blk_drewN ?_ _ | refine blk_drew ?_ | refine blk_alloc ?_ _)); exact BK280.out⟩, ⟨by repeat (first | (with_reducible first | exact HK.out | apply Kept.alloc | apply Kept.drewN | apply Kept.drew | refine Kept.setCell ?_ (.inl (show g = g from rfl)) _ | refine Kept.setCell ?_ (.inr GW280.out) _) | exact HK.out)⟩, ⟨by repeat (first | (with_reducible first | exact HB.out | apply below_alloc | apply pw_below_drewN | apply below_drew1 | refine below_set ?_ GE0.out | refine below_set ?_ GE280.out) | exact HB.out)⟩⟩
           ·rw [if_neg c40] at H
            exact absurd H (by simp)
          ·rw [if_neg c39] at H
           have c39b0 : decide (x54_3 < t271) = false := decide_eq_false c39
           clear c39
           have H' := A7_ H
           clear H
           go_wp2
           go_roundg k3
           case measure => have := HK1.out; have := HJ6.out; have := HK3.out; omega
           case rel => exact ⟨(x5_3), (t282), (t285), (v283), H', ⟨by have := HK1.out; have := HJ6.out; have := HK3.out; omega⟩, ⟨by (with_reducible repeat (first | apply Kd.R_alloc | apply Kd.R_drewN | apply Kd.R_drew)); exact HO_5.out⟩, ⟨by (with_reducible repeat (first | apply Kd.V_alloc | apply Kd.V_drewN | apply Kd.V_drew)); exact Kd.V_mono HO_1000.out (fun _ hk => ⟨hk.1, ⟨hk.2.1, hk.2.2.1⟩⟩)⟩, ⟨by (with_reducible repeat (first | refine blk_drewN ?_ _ | refine blk_drew ?_ | refine blk_alloc ?_ _)); exact BK0.out⟩, ⟨by repeat (first | (with_reducible first | exact HK.out | apply Kept.alloc | apply Kept.drewN | apply Kept.drew | refine Kept.setCell ?_ (.inl (show g = g from rfl)) _ | refine Kept.setCell ?_ (.inr GW280.out) _) | exact HK.out)⟩, ⟨by repeat (first | (with_reducible first | exact HB.out | apply below_alloc | apply pw_below_drewN | apply below_drew1 | refine below_set ?_ GE0.out | refine below_set ?_ GE280.out) | exact HB.out)⟩⟩
    ·rw [if_neg c6] at H
     have c6b0 : (t281 == 0) = false := beq_eq_false_iff_ne.mpr c6
     have c6b1 : (t281 != 0) = true := bne_iff_ne.mpr c6
     simp only [Option.some.injEq, Prod.mk.injEq] at H
     obtain ⟨rfl, rfl, rfl⟩ := H
     obtain ⟨Ao44, co44, eo44⟩ := Kd.R_slice HO_5.out
     subst eo44
     obtain ⟨Ao45, co45, eo45⟩ := Kd.V_slice HO_1000.out
     subst eo45
     go_wp2_with (first | ((with_reducible refine gate_callee (f := 68) rfl ?_); refine goesL_ (some 12) rfl rfl Try.func68 q7_38 rfl #[.pointer (some ⟨g, 0, none⟩)] rfl q7_45 ?_; (with_reducible refine (cell_run.calls k1 g (fun k_ => ((P0_0_ k_ ∨ w.heap.size ≤ k_) ∧ (some k_ ≠ (.slice Ao44 x5_1.length co44 : Value).ownBlock ∧ k_ ≠ g))) Ao45 co45 x1000_1 x1001_1 t271 t272 t273 t274 t275 t276 t279 w0 _ ?side2 ?side3 ?side1 ?side4 A4.out).mono ?_); (case side1 => repeat (first | (with_reducible first | exact HB.out | apply below_alloc | apply pw_below_drewN | apply below_drew1 | refine below_set ?_ GE0.out) | exact HB.out)); (case side2 => (with_reducible repeat (first | refine blk_drewN ?_ _ | refine blk_drew ?_ | refine blk_alloc ?_ _)); exact BK0.out); (case side3 => exact GE0.out); (case side4 => exact Kd.V_mono (HO_1000.out) (fun k_ hk_ => ⟨hk_, hk_.2.2⟩)); rintro e w46 ⟨v277, rfl, ho0, hbx, hb, hkp⟩; refine ⟨_, rfl, ?_⟩; have n0_ := A7_ (Kd.R_mono (ok' := fun k_ => (w.heap.size ≤ k_)) (Kd.R_keptB ((Kd.R_types HO_5.out (show (World.heap _)[g]? = some (.cells #[.slice Ao45 x1000_1.length co45, .int .i64 x1001_1] 104 (0, 0)) from by (with_reducible repeat (first | refine blk_drewN ?_ _ | refine blk_drew ?_ | refine blk_alloc ?_ _)); exact BK0.out) (by decide))) hkp (fun k_ hk_ hs_ => (hk_.2) hs_)) (fun k_ hk_ => hk_.1.1)); have n1_ := A7_ (Kd.V_mono (ok' := fun k_ => (P0_0_ k_ ∨ w.heap.size ≤ k_) ∧ some k_ ≠ (.slice Ao44 x5_1.length co44 : Value).ownBlock ∧ k_ ≠ g) (Kd.V_keptB (HO_1000.out) hkp (fun k_ hk_ hs_ => (hk_.2.2) hs_)) (fun k_ hk_ => ⟨hk_.1.1, hk_.1.2.1, hk_.1.2.2⟩)); have n2_ := A7_ (hbx); have n3_ := A7_ (Kd.V_mono (ok' := fun k_ => (P0_0_ k_ ∨ w.heap.size ≤ k_) ∧ some k_ ≠ (.slice Ao44 x5_1.length co44 : Value).ownBlock ∧ k_ ≠ g) ho0 (fun k_ hk_ => ⟨Or.elim hk_ (fun hs_ => hs_.1) (fun hn_ => (.inr (Nat.le_trans q7_48 hn_))), Or.elim hk_ (fun hs_ => hs_.2.1) (fun hn_ => (Kd.fresh' (Kd.R_lt q7_44) k_ hn_)), Or.elim hk_ (fun hs_ => hs_.2.2) (fun hn_ => (Kd.freshB (g := g) (o := .cells #[.slice Ao45 x1000_1.length co45, .int .i64 x1001_1] 104 (0, 0)) q7_39 k_ hn_))⟩)); have n4_ := A7_ (Kept.then_ (S := (fun k_ => k_ = g)) q7_52 hkp (fun k_ hs_ => (fun e_ => .inl e_) hs_)); have n5_ := A7_ (hb); clear HO_5 HO_1000 BK0 HK HB; have HO_5 := n0_; have HO_1000 := n1_; have BK0 := n2_; have HO278 := n3_; have HK := n4_; have HB := n5_; clear n0_ n1_ n2_ n3_ n4_ n5_; (try clear hbx); (try clear hbn); (try clear hgn); (try clear hb); (try clear hkp); (try clear ho0)) | ((with_reducible refine gate_dst (N := 6) rfl ?_); (try (refine gate_guard (by rfl) ?_; dsimp only)); refine box_event ?hg (N := 6) ?hd (cs := #[.int .i64 0, .int .i32 0, .int .i64 0, .int .i64 0, .int .i64 0]) (t := 55) ?hr ?_; (case hd => rfl); (case hg => rfl); (case hr => first | (go_simp; done) | (go_simp; rfl)); intro gb280 hg w47 hbox hb; have n0_ := A7_ (Kd.R_below q7_44 hb); have n1_ := A7_ (Kd.V_below (Kd.V_elderB q7_54 gb280 (Nat.le_of_eq hg.symm)) hb); have n2_ := A7_ (Kd.V_below (Kd.V_elderB q7_55 gb280 (Nat.le_of_eq hg.symm)) hb); have n3_ := A7_ (blk_below (g := g) (o := .cells #[v277, .int .i64 t279] 104 (0, 0)) q7_39 hb); have n4_ := A7_ (Kept.below (S := (fun k_ => k_ = g)) q7_52 hb); have n5_ := A7_ (below_step q7_53 hb); have n6_ := A7_ (hbox); have n7_ := A7_ ((by rw [hg]; exact q7_48 : w.heap.size ≤ gb280)); have n8_ := A7_ ((by rw [hg]; exact (below_size q7_53) : w0.heap.size ≤ gb280)); have n9_ := A7_ ((by rw [hg]; exact Nat.ne_of_lt (blk_lt (g := g) (o := .cells #[v277, .int .i64 t279] 104 (0, 0)) q7_39) : g ≠ gb280)); have n10_ := A7_ ((by rw [hg]; exact Nat.ne_of_gt (blk_lt (g := g) (o := .cells #[v277, .int .i64 t279] 104 (0, 0)) q7_39) : gb280 ≠ g)); clear HO_5 HO_1000 HO278 BK0 HK HB; have HO_5 := n0_; have HO_1000 := n1_; have HO278 := n2_; have BK0 := n3_; have HK := n4_; have HB := n5_; have BK280 := n6_; have GW280 := n7_; have GE280 := n8_; have NB0_280 := n9_; have NB280_0 := n10_; clear n0_ n1_ n2_ n3_ n4_ n5_ n6_ n7_ n8_ n9_ n10_; clear hb hbox hg; have hnb48 := NB280_0.out; have hnc48 := NB0_280.out; have hcz49_0 : w47.cell? ⟨gb280, 0, none⟩ = some (.int .i64 0) := bc7_ BK280 0; have hcz49_1 : w47.cell? ⟨gb280, 1, none⟩ = some (.int .i32 0) := bc7_ BK280 1; have hcz49_2 : w47.cell? ⟨gb280, 2, none⟩ = some (.int .i64 0) := bc7_ BK280 2; have hcz49_3 : w47.cell? ⟨gb280, 3, none⟩ = some (.int .i64 0) := bc7_ BK280 3; have hcz49_4 : w47.cell? ⟨gb280, 4, none⟩ = some (.int .i64 0) := bc7_ BK280 4; have hfz49_0 := blk_frozen BK280.out 0; have hfz49_1 := blk_frozen BK280.out 1; have hfz49_2 := blk_frozen BK280.out 2; have hfz49_3 := blk_frozen BK280.out 3; have hfz49_4 := blk_frozen BK280.out 4) | ((with_reducible refine gate_store (t := 55) (p := 6) rfl ?_); refine store_event (t := 55) (p := 6) (v := ?vo_w50) (w1 := (((((w47.setCell ⟨gb280, 0, none⟩ (.int .i64 t271)).setCell ⟨gb280, 1, none⟩ (.int .i32 t272)).setCell ⟨gb280, 2, none⟩ (.int .i64 t273)).setCell ⟨gb280, 3, none⟩ (.int .i64 t274)).setCell ⟨gb280, 4, none⟩ (.int .i64 t275))) ?hg ?ho ?hn ?hr ?_; (case ho => rfl); (case hg => rfl); (case hn => rfl); (case hr => first | (go_simp; done) | (go_simp; rfl)); intro w50 hw; have n0_ : Aside0 (Kd.R k53 53 w50 w0.heap.size (fun k_ => (w.heap.size ≤ k_)) (.slice Ao44 x5_1.length co44) x5_1) := ⟨q7_51⟩; have n1_ : Aside0 (Kd.V (Kd.int .u8) 5 w50 w0.heap.size (fun k_ => (P0_0_ k_ ∨ w.heap.size ≤ k_) ∧ some k_ ≠ (.slice Ao44 x5_1.length co44 : Value).ownBlock ∧ k_ ≠ g ∧ k_ ≠ gb280) (.slice Ao45 x1000_1.length co45) x1000_1) := ⟨q7_49⟩; have n2_ : Aside0 (Kd.V (Kd.int .u8) 5 w50 w0.heap.size (fun k_ => (P0_0_ k_ ∨ w.heap.size ≤ k_) ∧ some k_ ≠ (.slice Ao44 x5_1.length co44 : Value).ownBlock ∧ k_ ≠ g ∧ k_ ≠ gb280) v277 t276) := ⟨q7_50⟩; have n3_ : Aside0 (w50.heap[g]? = some (.cells #[v277, .int .i64 t279] 104 (0, 0))) := ⟨q7_47⟩; have n4_ : Aside0 (w50.heap[gb280]? = some (.cells #[.int .i64 t271, .int .i32 t272, .int .i64 t273, .int .i64 t274, .int .i64 t275] 55 (0, 0))) := ⟨q7_41⟩; have n5_ : Aside0 (Kept w w50 (fun k_ => k_ = g)) := ⟨(by rw [hw]; exact q7_40)⟩; have n6_ : Aside0 (Below w0.heap.size w0 w50) := ⟨(by rw [hw]; exact q7_42)⟩; clear hw HO_5 HO_1000 HO278 BK0 BK280 HK HB; have HO_5 := n0_; have HO_1000 := n1_; have HO278 := n2_; have BK0 := n3_; have BK280 := n4_; have HK := n5_; have HB := n6_; clear n0_ n1_ n2_ n3_ n4_ n5_ n6_; obtain ⟨Ao51, co51, eo51⟩ := Kd.V_slice HO278.out; subst eo51) | ((with_reducible refine gate_callee (f := 44) rfl ?_); refine goesL_ (some 14) rfl rfl Try.func44 q7_38 rfl #[.pointer (some ⟨g, 0, none⟩)] rfl q7_45 ?_; (with_reducible refine (codec_Reader_Err.calls g (fun k_ => ((P0_0_ k_ ∨ w.heap.size ≤ k_) ∧ (some k_ ≠ (.slice Ao44 x5_1.length co44 : Value).ownBlock ∧ (k_ ≠ g ∧ k_ ≠ gb280)))) Ao51 co51 t276 t279 t281 t282 t285 w0 _ ?side2 ?side3 ?side1 ?side4 A5.out).mono ?_); (case side1 => repeat (first | (with_reducible first | exact HB.out | apply below_alloc | apply pw_below_drewN | apply below_drew1 | refine below_set ?_ GE0.out | refine below_set ?_ GE280.out) | exact HB.out)); (case side2 => (with_reducible repeat (first | refine blk_drewN ?_ _ | refine blk_drew ?_ | refine blk_alloc ?_ _)); exact BK0.out); (case side3 => exact GE0.out); (case side4 => exact Kd.V_mono (HO278.out) (fun k_ hk_ => ⟨hk_, hk_.2.2.1⟩)); rintro e w52 ⟨v283, rfl, ho0, hbx, hb, hkp⟩; refine ⟨_, rfl, ?_⟩; have n0_ := A7_ (Kd.R_mono (ok' := fun k_ => (w.heap.size ≤ k_)) (Kd.R_keptB ((Kd.R_types HO_5.out (show (World.heap _)[g]? = some (.cells #[.slice Ao51 t276.length co51, .int .i64 t279] 104 (0, 0)) from by (with_reducible repeat (first | refine blk_drewN ?_ _ | refine blk_drew ?_ | refine blk_alloc ?_ _)); exact BK0.out) (by decide))) hkp (fun k_ hk_ hs_ => (hk_.2) hs_)) (fun k_ hk_ => hk_.1.1)); have n1_ := A7_ (Kd.V_mono (ok' := fun k_ => (P0_0_ k_ ∨ w.heap.size ≤ k_) ∧ some k_ ≠ (.slice Ao44 x5_1.length co44 : Value).ownBlock ∧ k_ ≠ g ∧ k_ ≠ gb280) (Kd.V_keptB (HO_1000.out) hkp (fun k_ hk_ hs_ => (hk_.2.2.1) hs_)) (fun k_ hk_ => ⟨hk_.1.1, hk_.1.2.1, hk_.1.2.2.1, hk_.1.2.2.2⟩)); have n2_ := A7_ (hbx); have n3_ := A7_ (Kd.V_mono (ok' := fun k_ => (P0_0_ k_ ∨ w.heap.size ≤ k_) ∧ some k_ ≠ (.slice Ao44 x5_1.length co44 : Value).ownBlock ∧ k_ ≠ g ∧ k_ ≠ gb280) (Kd.V_keptB (HO278.out) hkp (fun k_ hk_ hs_ => (hk_.2.2.1) hs_)) (fun k_ hk_ => ⟨hk_.1.1, hk_.1.2.1, hk_.1.2.2.1, hk_.1.2.2.2⟩)); have n4_ := A7_ (blk_kept q7_43 hkp (fun hs_ => (fun e_ => NB280_0.out e_) hs_)); have n5_ := A7_ (Kd.V_mono (ok' := fun k_ => (P0_0_ k_ ∨ w.heap.size ≤ k_) ∧ some k_ ≠ (.slice Ao44 x5_1.length co44 : Value).ownBlock ∧ k_ ≠ g ∧ k_ ≠ gb280) ho0 (fun k_ hk_ => ⟨Or.elim hk_ (fun hs_ => hs_.1) (fun hn_ => (.inr (Nat.le_trans q7_46 hn_))), Or.elim hk_ (fun hs_ => hs_.2.1) (fun hn_ => (Kd.fresh' (Kd.R_lt q7_44) k_ hn_)), Or.elim hk_ (fun hs_ => hs_.2.2.1) (fun hn_ => (Kd.freshB (g := g) (o := .cells #[.slice Ao51 t276.length co51, .int .i64 t279] 104 (0, 0)) q7_39 k_ hn_)), Or.elim hk_ (fun hs_ => hs_.2.2.2) (fun hn_ => (Kd.freshB (g := gb280) (o := .cells #[.int .i64 t271, .int .i32 t272, .int .i64 t273, .int .i64 t274, .int .i64 t275] 55 (0, 0)) q7_43 k_ hn_))⟩)); have n6_ := A7_ (Kept.then_ (S := (fun k_ => k_ = g)) q7_40 hkp (fun k_ hs_ => (fun e_ => .inl e_) hs_)); have n7_ := A7_ (hb); clear HO_5 HO_1000 BK0 HO278 BK280 HK HB; have HO_5 := n0_; have HO_1000 := n1_; have BK0 := n2_; have HO278 := n3_; have BK280 := n4_; have HO284 := n5_; have HK := n6_; have HB := n7_; clear n0_ n1_ n2_ n3_ n4_ n5_ n6_ n7_; (try clear hbx); (try clear hbn); (try clear hgn); (try clear hb); (try clear hkp); (try clear ho0)))
     go_ret
     exact ⟨_, (v283), by first | rfl | (simp [errW_none, errW_some, ptrW_true, ptrW_false] <;> rfl) | (simp [*, errW_none, errW_some, ptrW_true, ptrW_false] <;> rfl), by first | exact Kd.R_nil _ _ _ _ _ | exact Kd.N_nil _ _ _ _ _ | exact Kd.V_nil _ _ _ _ _ | exact Kd.Q_nil _ _ _ _ _ | exact Kd.S_nil _ _ _ _ _, by (with_reducible repeat (first | apply Kd.V_alloc | apply Kd.V_drewN | apply Kd.V_drew)); exact Kd.V_mono HO284.out (fun _ hk => ⟨hk.1, (by simp [Value.ownBlock])⟩), q7_39, by repeat (first | (with_reducible first | exact HB.out | apply below_alloc | apply pw_below_drewN | apply below_drew1 | refine below_set ?_ GE0.out | refine below_set ?_ GE280.out) | exact HB.out), by repeat (first | (with_reducible first | exact HK.out | apply Kept.alloc | apply Kept.drewN | apply Kept.drew | refine Kept.setCell ?_ (.inl (show g = g from rfl)) _ | refine Kept.setCell ?_ (.inr GW280.out) _) | exact HK.out)⟩
   ·rw [if_neg c3] at H
    have c3b0 : decide ((x5_1.length : Int) < a1) = false := decide_eq_false c3
    clear c3
    simp only [Option.some.injEq, Prod.mk.injEq] at H
    obtain ⟨rfl, rfl, rfl⟩ := H
    obtain ⟨Ao53, co53, eo53⟩ := Kd.R_slice HO_5.out
    subst eo53
    go_wp2
    go_ret
    exact ⟨_, (u1000), by first | rfl | (simp [errW_none, errW_some, ptrW_true, ptrW_false] <;> rfl) | (simp [*, errW_none, errW_some, ptrW_true, ptrW_false] <;> rfl), by (with_reducible repeat (first | apply Kd.R_alloc | apply Kd.R_drewN | apply Kd.R_drew)); exact HO_5.out, by (with_reducible repeat (first | apply Kd.V_alloc | apply Kd.V_drewN | apply Kd.V_drew)); exact Kd.V_mono HO_1000.out (fun _ hk => ⟨hk.1, hk.2.1⟩), q7_39, by repeat (first | (with_reducible first | exact HB.out | apply below_alloc | apply pw_below_drewN | apply below_drew1 | refine below_set ?_ GE0.out) | exact HB.out), by repeat (first | (with_reducible first | exact HK.out | apply Kept.alloc | apply Kept.drewN | apply Kept.drew | refine Kept.setCell ?_ (.inl (show g = g from rfl)) _) | exact HK.out)⟩

end Go.Proofs.Ytkckojgjkmcokaa.PF09B
