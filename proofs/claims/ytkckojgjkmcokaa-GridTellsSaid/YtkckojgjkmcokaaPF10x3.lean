/- By a program of this session (wip/tool/pp.py): plain Lean functions of the Go functions that this family of laws uses, the walks that the Go code comes to their answers, and the row of the law. No condition beside those that the row itself gives. -/
import Derived.Test.YtkckojgjkmcokaaPF10x0
import Derived.Test.YtkckojgjkmcokaaPF10x2
namespace Go.Proofs.Ytkckojgjkmcokaa.PF10
open Go.RowKit Go.Proofs.YtkckojgjkmcokaaW.Hand Go.Proofs.YtkckojgjkmcokaaW.PrintWords Go.Proofs.YtkckojgjkmcokaaW.PrintLast Go.Proofs.YtkckojgjkmcokaaW.PrintMore
attribute [local go_sem] max2_int min2_int max_two min_two max_three min_three max_four min_four   -- for this text's walks alone
open List (setIfInBounds_toArray set_cons_zero set_cons_succ)
set_option linter.unusedVariables false
set_option linter.unusedSimpArgs false

/-! ### cell_Right: function 35 -/
def cell_Right.j0 : Nat → Bool → Int → Int → Int → Int → Option (Bool)
 | 0, _, _, _, _, _ => none
 | k + 1, x21, x124000, x124001, x124002, x124003 => if x21 = true then (some false) else (if x124000 = 65533 then (some true) else ((runes_Bytes.f x124000).bind fun t126 => ((runes_Bytes.f 65533).bind fun t129 => (some ((strOfNums t126).toList != (strOfNums t129).toList)))))
def cell_Right.f (k : Nat) (a0_0 : Int) (a0_1 : Int) (a0_2 : Int) (a0_3 : Int) : Option (Bool) := if a0_0 < 32 then (cell_Right.j0 k true a0_0 a0_1 a0_2 a0_3) else (if a0_0 > 126 then (if a0_0 < 160 then (cell_Right.j0 k true a0_0 a0_1 a0_2 a0_3) else ((cell_Pen.f a0_1 a0_2 a0_3).bind fun t124 => (cell_Right.j0 k (!t124) a0_0 a0_1 a0_2 a0_3))) else ((cell_Pen.f a0_1 a0_2 a0_3).bind fun t125 => (cell_Right.j0 k (!t125) a0_0 a0_1 a0_2 a0_3)))
theorem cell_Right.mono_l : ∀ k, (∀ y0 y1 y2 y3 y4, LeO (cell_Right.j0 k y0 y1 y2 y3 y4) (cell_Right.j0 (k + 1) y0 y1 y2 y3 y4))
 | 0 => fun _ _ _ _ _ r h => by simp [cell_Right.j0] at h
 | k + 1 => by
  have ih0 := cell_Right.mono_l k
  ·intro y0 y1 y2 y3 y4
   unfold cell_Right.j0
   repeat' first
   | (with_reducible exact ih0 _ _ _ _ _)
   | (with_reducible exact LeO.refl _)
   | (with_reducible exact LeO.none _)
   | (with_reducible refine LeO.ite ?_ ?_)
   | (with_reducible refine LeO.bind ?_ (fun _ => ?_))
   | exact ih0 _ _ _ _ _
   | exact LeO.none _
   | refine LeO.ite ?_ ?_
   | refine LeO.bind ?_ (fun _ => ?_)
theorem cell_Right.mono : ∀ a0 a1 a2 a3 k, LeO (cell_Right.f k a0 a1 a2 a3) (cell_Right.f (k + 1) a0 a1 a2 a3) := by
 intro a0 a1 a2 a3 k
 have ih0 := cell_Right.mono_l k
 unfold cell_Right.f
 repeat' first
   | (with_reducible exact ih0 _ _ _ _ _)
   | (with_reducible exact LeO.refl _)
   | (with_reducible exact LeO.none _)
   | (with_reducible refine LeO.ite ?_ ?_)
   | (with_reducible refine LeO.bind ?_ (fun _ => ?_))
   | exact ih0 _ _ _ _ _
   | exact LeO.none _
   | refine LeO.ite ?_ ?_
   | refine LeO.bind ?_ (fun _ => ?_)
def cell_Right.T3 : Bool × List (List Nat × List Nat) := (true, [([], []), ([0], [0]), ([1], [1]), ([2], [2]), ([3], [3]), ([4, 3], [3, 4]), ([5, 3, 3], [3, 5]), ([6, 3], [3, 6]), ([6, 3], [3]), ([8, 3], [3, 8]), ([7, 9, 3], [3, 7, 9]), ([3, 10], [3, 10]), ([11, 8, 0, 1, 2, 3, 4, 5, 6, 7, 8, 9, 10, 11], [11])])
def cell_Right.B3 : List Nat := [0, 1, 3, 7, 15, 31, 63, 127, 127, 383, 1023, 2047, 4095]
theorem cell_Right.tab3 : rtab .any (opsOf Try.f35 3) = cell_Right.T3 := by kernel_rfl
theorem cell_Right.bits3 : waitsOk cell_Right.T3.2 cell_Right.B3 = true := by kernel_rfl
theorem bc3_ {W : World} {g : Nat} {cs : Array Value} {t : TypeId} (h : Aside0 (W.heap[g]? = some (.cells cs t (0, 0)))) (j : Nat) {v : Value} (hv : cs[j]? = some v := by rfl) : W.cell? ⟨g, j, none⟩ = some v := (blk_cell h.out j).trans hv
abbrev m3_0 : Array Bool := #[false, false, false, false, false, false, false, false, false, false, false, false, false]
abbrev m3_1 : Array Bool := #[true, false, false, false, false, false, false, false, false, false, false, false, false]
abbrev m3_2 : Array Bool := #[true, true, false, false, false, false, false, false, false, false, false, false, false]
abbrev m3_3 : Array Bool := #[true, true, true, false, false, false, false, false, false, false, false, false, false]
abbrev m3_4 : Array Bool := #[true, true, true, true, false, false, false, false, false, false, false, false, false]
abbrev m3_5 : Array Bool := #[true, true, true, true, true, false, false, false, false, false, false, false, false]
abbrev m3_6 : Array Bool := #[true, true, true, true, true, true, false, false, false, false, false, false, false]
abbrev m3_7 : Array Bool := #[true, true, true, true, true, true, true, false, false, false, false, false, false]
abbrev m3_10 : Array Bool := #[true, true, true, true, true, true, true, true, false, false, false, false, false]
abbrev m3_11 : Array Bool := #[true, true, true, true, true, true, true, true, true, false, false, false, false]
abbrev m3_12 : Array Bool := #[true, true, true, true, true, true, true, true, true, true, false, false, false]
abbrev m3_13 : Array Bool := #[true, true, true, true, true, true, true, true, true, true, true, false, false]
abbrev m3_14 : Array Bool := #[true, true, true, true, true, true, true, true, true, true, true, true, false]
abbrev m3_15 : Array Bool := #[true, true, true, true, true, true, true, true, true, true, true, true, true]
theorem q3_16 {p : Prop} (h : p := by repeat (first | (with_reducible first | exact HB.out | apply below_alloc | apply pw_below_drewN | apply below_drew1 | refine below_set ?_ GE123.out) | exact HB.out)) : p := h
theorem q3_17 {p : Prop} (h : p := by (with_reducible repeat (first | refine blk_drewN ?_ _ | refine blk_drew ?_ | refine blk_alloc ?_ _)); exact BK123.out) : p := h
theorem q3_18 {p : Prop} (h : p := by (with_reducible repeat (first | apply Kd.V_alloc | apply Kd.V_drewN | apply Kd.V_drew)); exact HO128.out) : p := h
theorem q3_19 {p : Prop} (h : p := by kernel_rfl) : p := h
theorem q3_20 {p : Prop} (h : p := by (with_reducible repeat (first | refine blk_drewN ?_ _ | refine blk_drew ?_ | refine blk_alloc ?_ _)); exact BK0.out) : p := h
theorem q3_21 {p : Prop} (h : p := by (try simp only [List.map_toArray, List.map_cons, List.map_nil]); first | done | rfl | (simp only [List.length_drop, List.length_take]; rfl)) : p := h
theorem q3_22 {p : Prop} (h : p := by repeat (first | (with_reducible first | exact HB.out | apply below_alloc | apply pw_below_drewN | apply below_drew1) | exact HB.out)) : p := h
theorem q3_23 {p : Prop} (h : p := by (with_reducible repeat (first | apply Kd.V_alloc | apply Kd.V_drewN | apply Kd.V_drew)); exact HO131.out) : p := h
theorem q3_24 {p : Prop} (h : p := by simp only [putAll, Act.put, setIfInBounds_toArray, set_cons_zero, set_cons_succ]) : p := h
set_option maxHeartbeats 8000000 in
set_option maxRecDepth 100000 in
theorem cell_Right.calls (k : Nat) (a0_0 : Int) (a0_1 : Int) (a0_2 : Int) (a0_3 : Int) (r : Bool) (w : World) (h : cell_Right.f k a0_0 a0_1 a0_2 a0_3 = some r) :
  Calls Try.prog 35 #[.agg #[.int .i32 a0_0, .int .i64 a0_1, .int .i64 a0_2, .int .i64 a0_3]] w fun e w' => e = .returned (.bool r) ∧ Below w.heap.size w w' := by
 have hu53 := Try.underlying53
 have hu51 := Try.underlying51
 have HB := Aside0.mk (Below.refl w.heap.size w)
 have H : (if a0_0 < 32 then (cell_Right.j0 k true a0_0 a0_1 a0_2 a0_3) else (if a0_0 > 126 then (if a0_0 < 160 then (cell_Right.j0 k true a0_0 a0_1 a0_2 a0_3) else ((cell_Pen.f a0_1 a0_2 a0_3).bind fun t124 => (cell_Right.j0 k (!t124) a0_0 a0_1 a0_2 a0_3))) else ((cell_Pen.f a0_1 a0_2 a0_3).bind fun t125 => (cell_Right.j0 k (!t125) a0_0 a0_1 a0_2 a0_3)))) = some r := h
 clear h
 have HC2 := Aside0.mk H
 clear H
 go_enter Try.func35, Try.ntmps35
 go_upto_region 1 with (first | ((with_reducible refine gate_dst (N := 1) rfl ?_); refine box_event ?hg (N := 1) ?hd (cs := #[.int .i32 a0_0, .int .i64 a0_1, .int .i64 a0_2, .int .i64 a0_3]) (t := 53) ?hr ?_; (case hd => rfl); (case hg => rfl); (case hr => first | (go_simp; done) | (go_simp; rfl)); intro gb123 hg w3 hbox hb; have n0_ := Aside0.mk (below_step q3_22 hb); have n1_ := Aside0.mk (hbox); have n2_ := Aside0.mk ((by rw [hg]; exact (below_size q3_22) : w.heap.size ≤ gb123)); have n3_ := Aside0.mk ((by rw [hg]; exact (below_size q3_22) : w.heap.size ≤ gb123)); clear HB; have HB := n0_; have BK123 := n1_; have GW123 := n2_; have GE123 := n3_; clear n0_ n1_ n2_ n3_; clear hb hbox hg))
 (try simp only [Act.put, setIfInBounds_toArray, set_cons_zero, set_cons_succ])
 go_cut [21] (fun v21 wc => ∃ (kq : Nat) (x21_1 : Bool), v21 = .bool x21_1 ∧ Aside0 (cell_Right.j0 kq x21_1 a0_0 a0_1 a0_2 a0_3 = some r) ∧ Aside0 (kq ≤ k) ∧ Aside0 (wc.heap[gb123]? = some (.cells #[.int .i32 a0_0, .int .i64 a0_1, .int .i64 a0_2, .int .i64 a0_3] 53 (0, 0))) ∧ Aside0 (Below w.heap.size w wc))
 case first =>
  have H := HC2.out
  clear HC2
  by_cases c4 : a0_0 < 32
  ·rw [if_pos c4] at H
   have c4b0 : decide (a0_0 < 32) = true := decide_eq_true c4
   clear c4
   (first | rw [c4b0] | (simp only [i64_w, i32_w]; rw [c4b0]) | rw [c4b1] | rw [c4b2] | skip)
   have H' := Aside0.mk H
   clear H
   have hcz5_0 : w3.cell? ⟨gb123, 0, none⟩ = some (.int .i32 a0_0) := bc3_ BK123 0
   have hcz5_1 : w3.cell? ⟨gb123, 1, none⟩ = some (.int .i64 a0_1) := bc3_ BK123 1
   have hcz5_2 : w3.cell? ⟨gb123, 2, none⟩ = some (.int .i64 a0_2) := bc3_ BK123 2
   have hcz5_3 : w3.cell? ⟨gb123, 3, none⟩ = some (.int .i64 a0_3) := bc3_ BK123 3
   have hfz5_0 := blk_frozen BK123.out 0
   have hfz5_1 := blk_frozen BK123.out 1
   have hfz5_2 := blk_frozen BK123.out 2
   have hfz5_3 := blk_frozen BK123.out 3
   go_wp2
   go_meet
   case rel => exact ⟨_, (true), (by first | rfl | (simp; done) | (simp [*]; done)), H', ⟨by first | omega | exact Nat.le_refl _⟩, ⟨by (with_reducible repeat (first | refine blk_drewN ?_ _ | refine blk_drew ?_ | refine blk_alloc ?_ _)); exact BK123.out⟩, ⟨by repeat (first | (with_reducible first | exact HB.out | apply below_alloc | apply pw_below_drewN | apply below_drew1 | refine below_set ?_ GE123.out) | exact HB.out)⟩⟩
  ·rw [if_neg c4] at H
   have c4b0 : decide (a0_0 < 32) = false := decide_eq_false c4
   clear c4
   (first | rw [c4b0] | (simp only [i64_w, i32_w]; rw [c4b0]) | rw [c4b1] | rw [c4b2] | skip)
   by_cases c6 : a0_0 > 126
   ·rw [if_pos c6] at H
    have c6b0 : decide (126 < a0_0) = true := decide_eq_true c6
    clear c6
    by_cases c7 : a0_0 < 160
    ·rw [if_pos c7] at H
     have c7b0 : decide (a0_0 < 160) = true := decide_eq_true c7
     clear c7
     have H' := Aside0.mk H
     clear H
     have hcz8_0 : w3.cell? ⟨gb123, 0, none⟩ = some (.int .i32 a0_0) := bc3_ BK123 0
     have hcz8_1 : w3.cell? ⟨gb123, 1, none⟩ = some (.int .i64 a0_1) := bc3_ BK123 1
     have hcz8_2 : w3.cell? ⟨gb123, 2, none⟩ = some (.int .i64 a0_2) := bc3_ BK123 2
     have hcz8_3 : w3.cell? ⟨gb123, 3, none⟩ = some (.int .i64 a0_3) := bc3_ BK123 3
     have hfz8_0 := blk_frozen BK123.out 0
     have hfz8_1 := blk_frozen BK123.out 1
     have hfz8_2 := blk_frozen BK123.out 2
     have hfz8_3 := blk_frozen BK123.out 3
     go_wp2
     go_meet
     case rel => exact ⟨_, (true), (by first | rfl | (simp; done) | (simp [*]; done)), H', ⟨by first | omega | exact Nat.le_refl _⟩, ⟨by (with_reducible repeat (first | refine blk_drewN ?_ _ | refine blk_drew ?_ | refine blk_alloc ?_ _)); exact BK123.out⟩, ⟨by repeat (first | (with_reducible first | exact HB.out | apply below_alloc | apply pw_below_drewN | apply below_drew1 | refine below_set ?_ GE123.out) | exact HB.out)⟩⟩
    ·rw [if_neg c7] at H
     have c7b0 : decide (a0_0 < 160) = false := decide_eq_false c7
     clear c7
     replace H := Option.bind_eq_some_iff.mp H
     obtain ⟨t124, A90, H⟩ := H
     replace H : (cell_Right.j0 k (!t124) a0_0 a0_1 a0_2 a0_3) = some r := H
     have A9 := Aside0.mk A90
     clear A90
     have H' := Aside0.mk H
     clear H
     have hcz10_0 : w3.cell? ⟨gb123, 0, none⟩ = some (.int .i32 a0_0) := bc3_ BK123 0
     have hcz10_1 : w3.cell? ⟨gb123, 1, none⟩ = some (.int .i64 a0_1) := bc3_ BK123 1
     have hcz10_2 : w3.cell? ⟨gb123, 2, none⟩ = some (.int .i64 a0_2) := bc3_ BK123 2
     have hcz10_3 : w3.cell? ⟨gb123, 3, none⟩ = some (.int .i64 a0_3) := bc3_ BK123 3
     have hfz10_0 := blk_frozen BK123.out 0
     have hfz10_1 := blk_frozen BK123.out 1
     have hfz10_2 := blk_frozen BK123.out 2
     have hfz10_3 := blk_frozen BK123.out 3
     go_wp2_with (first | (go_at_call 37; (with_reducible refine (cell_Pen.calls a0_1 a0_2 a0_3 t124 _ A9.out).mono ?_); rintro e w11 ⟨rfl, hb⟩; have n0_ := Aside0.mk (blk_below (g := gb123) (o := .cells #[.int .i32 a0_0, .int .i64 a0_1, .int .i64 a0_2, .int .i64 a0_3] 53 (0, 0)) q3_17 hb); have n1_ := Aside0.mk (below_step q3_16 hb); clear BK123; clear HB; have BK123 := n0_; have HB := n1_; clear n0_ n1_; (try clear hb); (try clear hb2); (try clear hk); (try clear hi)))
     go_meet
     case rel => exact ⟨_, (!t124), (by first | rfl | (simp; done) | (simp [*]; done)), H', ⟨by first | omega | exact Nat.le_refl _⟩, ⟨by (with_reducible repeat (first | refine blk_drewN ?_ _ | refine blk_drew ?_ | refine blk_alloc ?_ _)); exact BK123.out⟩, ⟨by repeat (first | (with_reducible first | exact HB.out | apply below_alloc | apply pw_below_drewN | apply below_drew1 | refine below_set ?_ GE123.out) | exact HB.out)⟩⟩
   ·rw [if_neg c6] at H
    have c6b0 : decide (126 < a0_0) = false := decide_eq_false c6
    clear c6
    replace H := Option.bind_eq_some_iff.mp H
    obtain ⟨t125, A120, H⟩ := H
    replace H : (cell_Right.j0 k (!t125) a0_0 a0_1 a0_2 a0_3) = some r := H
    have A12 := Aside0.mk A120
    clear A120
    have H' := Aside0.mk H
    clear H
    have hcz13_0 : w3.cell? ⟨gb123, 0, none⟩ = some (.int .i32 a0_0) := bc3_ BK123 0
    have hcz13_1 : w3.cell? ⟨gb123, 1, none⟩ = some (.int .i64 a0_1) := bc3_ BK123 1
    have hcz13_2 : w3.cell? ⟨gb123, 2, none⟩ = some (.int .i64 a0_2) := bc3_ BK123 2
    have hcz13_3 : w3.cell? ⟨gb123, 3, none⟩ = some (.int .i64 a0_3) := bc3_ BK123 3
    have hfz13_0 := blk_frozen BK123.out 0
    have hfz13_1 := blk_frozen BK123.out 1
    have hfz13_2 := blk_frozen BK123.out 2
    have hfz13_3 := blk_frozen BK123.out 3
    go_wp2_with (first | (go_at_call 37; (with_reducible refine (cell_Pen.calls a0_1 a0_2 a0_3 t125 _ A12.out).mono ?_); rintro e w14 ⟨rfl, hb⟩; have n0_ := Aside0.mk (blk_below (g := gb123) (o := .cells #[.int .i32 a0_0, .int .i64 a0_1, .int .i64 a0_2, .int .i64 a0_3] 53 (0, 0)) q3_17 hb); have n1_ := Aside0.mk (below_step q3_16 hb); clear BK123; clear HB; have BK123 := n0_; have HB := n1_; clear n0_ n1_; (try clear hb); (try clear hb2); (try clear hk); (try clear hi)))
    go_meet
    case rel => exact ⟨_, (!t125), (by first | rfl | (simp; done) | (simp [*]; done)), H', ⟨by first | omega | exact Nat.le_refl _⟩, ⟨by (with_reducible repeat (first | refine blk_drewN ?_ _ | refine blk_drew ?_ | refine blk_alloc ?_ _)); exact BK123.out⟩, ⟨by repeat (first | (with_reducible first | exact HB.out | apply below_alloc | apply pw_below_drewN | apply below_drew1 | refine below_set ?_ GE123.out) | exact HB.out)⟩⟩
 case rest =>
  clear HC2
  try clear p2
  try clear c3
  try clear c4
  try clear c4b0
  try clear c4b1
  try clear c4b2
  try clear c6
  try clear c6b0
  try clear c7
  try clear c7b0
  try clear hcz10_0
  try clear hcz10_1
  try clear hcz10_2
  try clear hcz10_3
  try clear hcz13_0
  try clear hcz13_1
  try clear hcz13_2
  try clear hcz13_3
  try clear hcz5_0
  try clear hcz5_1
  try clear hcz5_2
  try clear hcz5_3
  try clear hcz8_0
  try clear hcz8_1
  try clear hcz8_2
  try clear hcz8_3
  try clear hfz10_0
  try clear hfz10_1
  try clear hfz10_2
  try clear hfz10_3
  try clear hfz13_0
  try clear hfz13_1
  try clear hfz13_2
  try clear hfz13_3
  try clear hfz5_0
  try clear hfz5_1
  try clear hfz5_2
  try clear hfz5_3
  try clear hfz8_0
  try clear hfz8_1
  try clear hfz8_2
  try clear hfz8_3
  obtain ⟨kq, x21_1, rfl, HA, HJ1, BK123, HB⟩ := hcut
  cases kq with
  | zero => exact absurd HA.out (by simp [cell_Right.j0])
  | succ kj1 =>
   have H := HA.out
   clear HA
   simp only [cell_Right.j0] at H
   by_cases c15 : x21_1 = true
   ·subst c15
    have H1 : (some false) = some r := by rw [if_pos rfl] at H; exact H
    clear H; have H := H1; clear H1
    obtain rfl := Option.some.inj H
    go_wp2
    go_ret
    exact ⟨by first | rfl | (simp [errW_none, errW_some] <;> rfl) | (simp [*, errW_none, errW_some] <;> rfl), by repeat (first | (with_reducible first | exact HB.out | apply below_alloc | apply pw_below_drewN | apply below_drew1 | refine below_set ?_ GE123.out) | exact HB.out)⟩
   ·replace c15 := Bool.eq_false_iff.mpr c15
    subst c15
    have H1 : (if a0_0 = 65533 then (some true) else ((runes_Bytes.f a0_0).bind fun t126 => ((runes_Bytes.f 65533).bind fun t129 => (some ((strOfNums t126).toList != (strOfNums t129).toList))))) = some r := by rw [if_neg (show ¬ (false = true) by decide)] at H; exact H
    clear H; have H := H1; clear H1
    by_cases c16 : a0_0 = 65533
    ·rw [if_pos c16] at H
     have c16b0 : (a0_0 == 65533) = true := beq_iff_eq.mpr c16
     have c16b1 : (a0_0 != 65533) = false := bne_eq_false_iff_eq.mpr c16
     clear c16
     obtain rfl := Option.some.inj H
     try go_wp2
     have n0_ := Aside0.mk (blk_drew BK123.out)
     have n1_ := Aside0.mk (below_drew1 HB.out)
     clear BK123; clear HB; have BK123 := n0_; have HB := n1_; clear n0_ n1_
     refine start_ (n := 13) (S := fun w' => w'.cell? ⟨gb123, 0, none⟩ = some (.int .i32 a0_0) ∧ w'.cell? ⟨gb123, 1, none⟩ = some (.int .i64 a0_1) ∧ w'.cell? ⟨gb123, 2, none⟩ = some (.int .i64 a0_2) ∧ w'.cell? ⟨gb123, 3, none⟩ = some (.int .i64 a0_3)) (ds := []) m3_0 q3_19 rfl rfl ⟨bc3_ BK123 0, bc3_ BK123 1, bc3_ BK123 2, bc3_ BK123 3⟩ (fun hHeld => ?_); refine with_tabW cell_Right.tab3 cell_Right.bits3 (fun HT_ HW_ => ?_)
     generalize wc.drew = w17 at BK123 HB hHeld ⊢
     refine pure_ (i := 0) (N := some 22) (v := ?_) (a' := ?_) m3_1 rfl rfl (any_of HT_.out q3_19) (fun _ _ _ h => h) (Or.inl ⟨by rfl, ?_⟩) ?_ ?_
     rotate_left; · intro w'; go_simp; with_reducible rfl
     rotate_left; · simp only [Act.put, setIfInBounds_toArray, set_cons_zero, set_cons_succ, i64_w, i32_w]; rfl
     refine take_ (i := 1) (N := some 23) (v := ?_) (a' := ?_) m3_2 rfl rfl (take_ofW HT_.out HW_.out q3_19) (fun _ _ _ h => h) (Or.inl ⟨by rfl, ?_⟩) hHeld ?_ ?_
     rotate_left; · rintro w' ⟨s0, s1, s2, s3⟩; go_simp; with_reducible rfl
     rotate_left; · simp only [Act.put, setIfInBounds_toArray, set_cons_zero, set_cons_succ, i64_w, i32_w]; rfl
     refine pure_ (i := 2) (N := some 24) (v := ?_) (a' := ?_) m3_3 rfl rfl (any_of HT_.out q3_19) (fun _ _ _ h => h) (Or.inl ⟨by rfl, ?_⟩) ?_ ?_
     rotate_left; · intro w'; go_simp; with_reducible rfl
     rotate_left; · simp only [Act.put, setIfInBounds_toArray, set_cons_zero, set_cons_succ, i64_w, i32_w]; rfl
     refine pure_ (i := 3) (N := some 25) (v := ?_) (a' := ?_) m3_4 rfl rfl (any_of HT_.out q3_19) (fun _ _ _ h => h) (Or.inl ⟨by rfl, ?_⟩) ?_ ?_
     rotate_left; · intro w'; go_simp; with_reducible rfl
     rotate_left; · simp only [Act.put, setIfInBounds_toArray, set_cons_zero, set_cons_succ, i64_w, i32_w]; rfl
     refine pure_ (i := 4) (N := some 26) (v := undef) (a' := ?_) m3_5 rfl rfl (any_of HT_.out q3_19) (fun _ _ _ h => h) (Or.inr ⟨by rfl, rfl⟩) ?_ ?_
     rotate_left; · simp only [Act.put, setIfInBounds_toArray, set_cons_zero, set_cons_succ, i64_w, i32_w]; rfl
     refine pure_ (i := 5) (N := some 27) (v := undef) (a' := ?_) m3_6 rfl rfl (any_of HT_.out q3_19) (fun _ _ _ h => h) (Or.inr ⟨by rfl, rfl⟩) ?_ ?_
     rotate_left; · simp only [Act.put, setIfInBounds_toArray, set_cons_zero, set_cons_succ, i64_w, i32_w]; rfl
     refine pure_ (i := 6) (N := some 28) (v := undef) (a' := ?_) m3_7 rfl rfl (any_of HT_.out q3_19) (fun _ _ _ h => h) (Or.inr ⟨by rfl, rfl⟩) ?_ ?_
     rotate_left; · simp only [Act.put, setIfInBounds_toArray, set_cons_zero, set_cons_succ, i64_w, i32_w]; rfl
     refine pure_ (i := 7) (N := some 29) (v := undef) (a' := ?_) m3_10 rfl rfl (any_of HT_.out q3_19) (fun _ _ _ h => h) (Or.inr ⟨by rfl, rfl⟩) ?_ ?_
     rotate_left; · simp only [Act.put, setIfInBounds_toArray, set_cons_zero, set_cons_succ, i64_w, i32_w]; rfl
     refine pure_ (i := 8) (N := some 30) (v := undef) (a' := ?_) m3_11 rfl rfl (any_of HT_.out q3_19) (fun _ _ _ h => h) (Or.inr ⟨by rfl, rfl⟩) ?_ ?_
     rotate_left; · simp only [Act.put, setIfInBounds_toArray, set_cons_zero, set_cons_succ, i64_w, i32_w]; rfl
     refine pure_ (i := 9) (N := some 31) (v := undef) (a' := ?_) m3_12 rfl rfl (any_of HT_.out q3_19) (fun _ _ _ h => h) (Or.inr ⟨by rfl, rfl⟩) ?_ ?_
     rotate_left; · simp only [Act.put, setIfInBounds_toArray, set_cons_zero, set_cons_succ, i64_w, i32_w]; rfl
     refine pure_ (i := 10) (N := some 32) (v := undef) (a' := ?_) m3_13 rfl rfl (any_of HT_.out q3_19) (fun _ _ _ h => h) (Or.inr ⟨by rfl, rfl⟩) ?_ ?_
     rotate_left; · simp only [Act.put, setIfInBounds_toArray, set_cons_zero, set_cons_succ, i64_w, i32_w]; rfl
     refine pure_ (i := 11) (N := some 33) (v := ?_) (a' := ?_) m3_14 rfl rfl (any_of HT_.out q3_19) (fun _ _ _ h => h) (Or.inl ⟨by rfl, ?_⟩) ?_ ?_
     rotate_left; · intro w'; go_simp; with_reducible rfl
     rotate_left; · simp only [Act.put, setIfInBounds_toArray, set_cons_zero, set_cons_succ, i64_w, i32_w]; rfl
     refine pure_ (i := 12) (N := some 2) (v := ?_) (a' := ?_) m3_15 rfl rfl (any_of HT_.out q3_19) (fun _ _ _ h => h) (Or.inl ⟨by rfl, ?_⟩) ?_ ?_
     rotate_left; · intro w'; go_simp; with_reducible rfl
     rotate_left; · simp only [Act.put, setIfInBounds_toArray, set_cons_zero, set_cons_succ, i64_w, i32_w]; rfl
     refine done_ (done_of HT_.out q3_19) ?_
     try go_wp2
     go_ret
     exact ⟨by first | rfl | (simp [errW_none, errW_some] <;> rfl) | (simp [*, errW_none, errW_some] <;> rfl), by repeat (first | (with_reducible first | exact HB.out | apply below_alloc | apply pw_below_drewN | apply below_drew1 | refine below_set ?_ GE123.out) | exact HB.out)⟩
    ·rw [if_neg c16] at H
     have c16b0 : (a0_0 == 65533) = false := beq_eq_false_iff_ne.mpr c16
     have c16b1 : (a0_0 != 65533) = true := bne_iff_ne.mpr c16
     replace H := Option.bind_eq_some_iff.mp H
     obtain ⟨t126, A180, H⟩ := H
     replace H : ((runes_Bytes.f 65533).bind fun t129 => (some ((strOfNums t126).toList != (strOfNums t129).toList))) = some r := H
     have A18 := Aside0.mk A180
     clear A180
     replace H := Option.bind_eq_some_iff.mp H
     obtain ⟨t129, A190, H⟩ := H
     replace H : (some ((strOfNums t126).toList != (strOfNums t129).toList)) = some r := H
     have A19 := Aside0.mk A190
     clear A190
     obtain rfl := Option.some.inj H
     try go_wp2
     have n0_ := Aside0.mk (blk_drew BK123.out)
     have n1_ := Aside0.mk (below_drew1 HB.out)
     clear BK123; clear HB; have BK123 := n0_; have HB := n1_; clear n0_ n1_
     refine start_ (n := 13) (S := fun w' => w'.cell? ⟨gb123, 0, none⟩ = some (.int .i32 a0_0) ∧ w'.cell? ⟨gb123, 1, none⟩ = some (.int .i64 a0_1) ∧ w'.cell? ⟨gb123, 2, none⟩ = some (.int .i64 a0_2) ∧ w'.cell? ⟨gb123, 3, none⟩ = some (.int .i64 a0_3)) (ds := []) m3_0 q3_19 rfl rfl ⟨bc3_ BK123 0, bc3_ BK123 1, bc3_ BK123 2, bc3_ BK123 3⟩ (fun hHeld => ?_); refine with_tabW cell_Right.tab3 cell_Right.bits3 (fun HT_ HW_ => ?_)
     generalize wc.drew = w20 at BK123 HB hHeld ⊢
     refine pure_ (i := 0) (N := some 22) (v := ?_) (a' := ?_) m3_1 rfl rfl (any_of HT_.out q3_19) (fun _ _ _ h => h) (Or.inl ⟨by rfl, ?_⟩) ?_ ?_
     rotate_left; · intro w'; go_simp; with_reducible rfl
     rotate_left; · simp only [Act.put, setIfInBounds_toArray, set_cons_zero, set_cons_succ, i64_w, i32_w]; rfl
     refine take_ (i := 1) (N := some 23) (v := ?_) (a' := ?_) m3_2 rfl rfl (take_ofW HT_.out HW_.out q3_19) (fun _ _ _ h => h) (Or.inl ⟨by rfl, ?_⟩) hHeld ?_ ?_
     rotate_left; · rintro w' ⟨s0, s1, s2, s3⟩; go_simp; with_reducible rfl
     rotate_left; · simp only [Act.put, setIfInBounds_toArray, set_cons_zero, set_cons_succ, i64_w, i32_w]; rfl
     refine pure_ (i := 2) (N := some 24) (v := ?_) (a' := ?_) m3_3 rfl rfl (any_of HT_.out q3_19) (fun _ _ _ h => h) (Or.inl ⟨by rfl, ?_⟩) ?_ ?_
     rotate_left; · intro w'; go_simp; with_reducible rfl
     rotate_left; · simp only [Act.put, setIfInBounds_toArray, set_cons_zero, set_cons_succ, i64_w, i32_w]; rfl
     refine pure_ (i := 3) (N := some 25) (v := ?_) (a' := ?_) m3_4 rfl rfl (any_of HT_.out q3_19) (fun _ _ _ h => h) (Or.inl ⟨by rfl, ?_⟩) ?_ ?_
     rotate_left; · intro w'; go_simp; with_reducible rfl
     rotate_left; · simp only [Act.put, setIfInBounds_toArray, set_cons_zero, set_cons_succ, i64_w, i32_w]; rfl
     refine pure_ (i := 4) (N := some 26) (v := ?_) (a' := ?_) m3_5 rfl rfl (any_of HT_.out q3_19) (fun _ _ _ h => h) (Or.inl ⟨by rfl, ?_⟩) ?_ ?_
     rotate_left; · intro w'; go_simp; with_reducible rfl
     rotate_left; · simp only [Act.put, setIfInBounds_toArray, set_cons_zero, set_cons_succ, i64_w, i32_w]; rfl
     refine take_ (i := 5) (N := some 27) (v := ?_) (a' := ?_) m3_6 rfl rfl (take_ofW HT_.out HW_.out q3_19) (fun _ _ _ h => h) (Or.inl ⟨by rfl, ?_⟩) hHeld ?_ ?_
     rotate_left; · rintro w' ⟨s0, s1, s2, s3⟩; go_simp; with_reducible rfl
     rotate_left; · simp only [Act.put, setIfInBounds_toArray, set_cons_zero, set_cons_succ, i64_w, i32_w]; rfl
     refine one_ (i := 6) (N := some 28) m3_7 rfl rfl (one_of HT_.out q3_19) (by decide) (fun K hK => ?_)
     refine goes_ Try.func19 q3_19 rfl #[.int .i32 a0_0] (by rfl) rfl rfl q3_21 ?_
     with_reducible refine (runes_Bytes.calls a0_0 t126 _ A18.out).mono ?_
     rintro e w21 ⟨v127, rfl, ho0, hb⟩
     refine ⟨_, rfl, ?_⟩
     have n0_ := Aside0.mk (Kd.V_lower (Kd.V_mono (ok' := fun k_ => k_ ≠ gb123) ho0 (fun k_ hk_ => (Kd.freshB (g := gb123) (o := .cells #[.int .i32 a0_0, .int .i64 a0_1, .int .i64 a0_2, .int .i64 a0_3] 53 (0, 0)) q3_17 k_ hk_))) (below_size q3_16))
     have n1_ := Aside0.mk (blk_below (g := gb123) (o := .cells #[.int .i32 a0_0, .int .i64 a0_1, .int .i64 a0_2, .int .i64 a0_3] 53 (0, 0)) q3_17 hb)
     have n2_ := Aside0.mk (below_step q3_16 hb)
     clear BK123; clear HB; have HO128 := n0_; have BK123 := n1_; have HB := n2_; clear n0_ n1_ n2_; (try clear hb); (try clear hb2); (try clear hk); (try clear hi); (try clear ho0)
     refine hK.out _ _ ⟨bc3_ BK123 0, bc3_ BK123 1, bc3_ BK123 2, bc3_ BK123 3⟩ (fun hHeld => ?_)
     clear hK K
     refine norm_ (a' := ?_) ?_ ?_
     rotate_left; · show Act.put _ (some 28) _ = _; simp only [Act.put, setIfInBounds_toArray, set_cons_zero, set_cons_succ, i64_w, i32_w]; rfl
     refine join_ (σ := Value) 3 m3_12 (fun s_ => [(29, .string (strOfNums t126)), (30, s_), (31, .string (strOfNums t129))]) (fun s_ w' => (w'.cell? ⟨gb123, 0, none⟩ = some (.int .i32 a0_0) ∧ w'.cell? ⟨gb123, 1, none⟩ = some (.int .i64 a0_1) ∧ w'.cell? ⟨gb123, 2, none⟩ = some (.int .i64 a0_2) ∧ w'.cell? ⟨gb123, 3, none⟩ = some (.int .i64 a0_3)) ∧ (Kd.V (Kd.int .u8) 5 w' w.heap.size (fun k_ => k_ ≠ gb123) v127 t126) ∧ (Kd.V (Kd.int .u8) 5 w' w.heap.size (fun k_ => k_ ≠ gb123) s_ t129) ∧ (w'.heap[gb123]? = some (.cells #[.int .i32 a0_0, .int .i64 a0_1, .int .i64 a0_2, .int .i64 a0_3] 53 (0, 0))) ∧ (Below w.heap.size w w')) ?_ ?_
     rotate_left
     ·intro hCont
      refine two_ (i := 7) (j := 8) (Ni := some 29) (Nj := some 30) m3_10 #[true, true, true, true, true, true, true, false, true, false, false, false, false] rfl rfl rfl rfl (two_of HT_.out q3_19) (by decide) (by decide) (fun K hK => ?_) (fun K hK => ?_)
      ·skip
       have hcv22 := V_string (P := Try.prog) Try.underlying22 Try.underlying5 Try.underlying9 HO128.out
       refine value_ (w1 := ?_) (v := ?_) (by rfl) rfl ?_ ?_
       rotate_left 2
       ·go_simp
        constructor
        ·rfl
        ·rfl
       clear hcv22
       refine hK.out _ _ ⟨bc3_ BK123 0, bc3_ BK123 1, bc3_ BK123 2, bc3_ BK123 3⟩ (fun hHeld => ?_)
       clear hK K
       refine norm_ (a' := ?_) ?_ ?_
       rotate_left; · show Act.put _ (some 29) _ = _; simp only [Act.put, setIfInBounds_toArray, set_cons_zero, set_cons_succ, i64_w, i32_w]; rfl
       refine one_ (i := 8) (N := some 30) m3_11 rfl rfl (one_of HT_.out q3_19) (by decide) (fun K hK => ?_)
       refine goes_ Try.func19 q3_19 rfl #[.int .i32 65533] (by rfl) rfl rfl q3_21 ?_
       with_reducible refine (runes_Bytes.calls 65533 t129 _ A19.out).mono ?_
       rintro e w23 ⟨v130, rfl, ho0, hb⟩
       refine ⟨_, rfl, ?_⟩
       have n0_ := Aside0.mk (Kd.V_below q3_18 hb)
       have n1_ := Aside0.mk (Kd.V_lower (Kd.V_mono (ok' := fun k_ => k_ ≠ gb123) ho0 (fun k_ hk_ => (Kd.freshB (g := gb123) (o := .cells #[.int .i32 a0_0, .int .i64 a0_1, .int .i64 a0_2, .int .i64 a0_3] 53 (0, 0)) q3_17 k_ hk_))) (below_size q3_16))
       have n2_ := Aside0.mk (blk_below (g := gb123) (o := .cells #[.int .i32 a0_0, .int .i64 a0_1, .int .i64 a0_2, .int .i64 a0_3] 53 (0, 0)) q3_17 hb)
       have n3_ := Aside0.mk (below_step q3_16 hb)
       clear HO128; clear BK123; clear HB; have HO128 := n0_; have HO131 := n1_; have BK123 := n2_; have HB := n3_; clear n0_ n1_ n2_ n3_; (try clear hb); (try clear hb2); (try clear hk); (try clear hi); (try clear ho0)
       refine hK.out _ _ ⟨bc3_ BK123 0, bc3_ BK123 1, bc3_ BK123 2, bc3_ BK123 3⟩ (fun hHeld => ?_)
       clear hK K
       refine norm_ (a' := ?_) ?_ ?_
       rotate_left; · show Act.put _ (some 30) _ = _; simp only [Act.put, setIfInBounds_toArray, set_cons_zero, set_cons_succ, i64_w, i32_w]; rfl
       refine one_ (i := 9) (N := some 31) m3_12 rfl rfl (one_of HT_.out q3_19) (by decide) (fun K hK => ?_)
       have hcv24 := V_string (P := Try.prog) Try.underlying22 Try.underlying5 Try.underlying9 HO131.out
       refine value_ (w1 := ?_) (v := ?_) (by rfl) rfl ?_ ?_
       rotate_left 2
       ·go_simp
        constructor
        ·rfl
        ·rfl
       clear hcv24
       refine hK.out _ _ ⟨bc3_ BK123 0, bc3_ BK123 1, bc3_ BK123 2, bc3_ BK123 3⟩ (fun hHeld => ?_)
       clear hK K
       refine norm_ (a' := ?_) ?_ ?_
       rotate_left; · show Act.put _ (some 31) _ = _; simp only [Act.put, setIfInBounds_toArray, set_cons_zero, set_cons_succ, i64_w, i32_w]; rfl
       exact norm_ q3_24 (hCont (v130) _ ⟨hHeld, q3_18, q3_23, q3_17, q3_16⟩)
      ·skip
       refine goes_ Try.func19 q3_19 rfl #[.int .i32 65533] (by rfl) rfl rfl q3_21 ?_
       with_reducible refine (runes_Bytes.calls 65533 t129 _ A19.out).mono ?_
       rintro e w22 ⟨v130, rfl, ho0, hb⟩
       refine ⟨_, rfl, ?_⟩
       have n0_ := Aside0.mk (Kd.V_below q3_18 hb)
       have n1_ := Aside0.mk (Kd.V_lower (Kd.V_mono (ok' := fun k_ => k_ ≠ gb123) ho0 (fun k_ hk_ => (Kd.freshB (g := gb123) (o := .cells #[.int .i32 a0_0, .int .i64 a0_1, .int .i64 a0_2, .int .i64 a0_3] 53 (0, 0)) q3_17 k_ hk_))) (below_size q3_16))
       have n2_ := Aside0.mk (blk_below (g := gb123) (o := .cells #[.int .i32 a0_0, .int .i64 a0_1, .int .i64 a0_2, .int .i64 a0_3] 53 (0, 0)) q3_17 hb)
       have n3_ := Aside0.mk (below_step q3_16 hb)
       clear HO128; clear BK123; clear HB; have HO128 := n0_; have HO131 := n1_; have BK123 := n2_; have HB := n3_; clear n0_ n1_ n2_ n3_; (try clear hb); (try clear hb2); (try clear hk); (try clear hi); (try clear ho0)
       refine hK.out _ _ ⟨bc3_ BK123 0, bc3_ BK123 1, bc3_ BK123 2, bc3_ BK123 3⟩ (fun hHeld => ?_)
       clear hK K
       refine norm_ (a' := ?_) ?_ ?_
       rotate_left; · show Act.put _ (some 30) _ = _; simp only [Act.put, setIfInBounds_toArray, set_cons_zero, set_cons_succ, i64_w, i32_w]; rfl
       refine two_ (i := 7) (j := 9) (Ni := some 29) (Nj := some 31) m3_11 #[true, true, true, true, true, true, true, false, true, true, false, false, false] rfl rfl rfl rfl (two_of HT_.out q3_19) (by decide) (by decide) (fun K hK => ?_) (fun K hK => ?_)
       ·skip
        have hcv23 := V_string (P := Try.prog) Try.underlying22 Try.underlying5 Try.underlying9 HO128.out
        refine value_ (w1 := ?_) (v := ?_) (by rfl) rfl ?_ ?_
        rotate_left 2
        ·go_simp
         constructor
         ·rfl
         ·rfl
        clear hcv23
        refine hK.out _ _ ⟨bc3_ BK123 0, bc3_ BK123 1, bc3_ BK123 2, bc3_ BK123 3⟩ (fun hHeld => ?_)
        clear hK K
        refine norm_ (a' := ?_) ?_ ?_
        rotate_left; · show Act.put _ (some 29) _ = _; simp only [Act.put, setIfInBounds_toArray, set_cons_zero, set_cons_succ, i64_w, i32_w]; rfl
        refine one_ (i := 9) (N := some 31) m3_12 rfl rfl (one_of HT_.out q3_19) (by decide) (fun K hK => ?_)
        have hcv24 := V_string (P := Try.prog) Try.underlying22 Try.underlying5 Try.underlying9 HO131.out
        refine value_ (w1 := ?_) (v := ?_) (by rfl) rfl ?_ ?_
        rotate_left 2
        ·go_simp
         constructor
         ·rfl
         ·rfl
        clear hcv24
        refine hK.out _ _ ⟨bc3_ BK123 0, bc3_ BK123 1, bc3_ BK123 2, bc3_ BK123 3⟩ (fun hHeld => ?_)
        clear hK K
        refine norm_ (a' := ?_) ?_ ?_
        rotate_left; · show Act.put _ (some 31) _ = _; simp only [Act.put, setIfInBounds_toArray, set_cons_zero, set_cons_succ, i64_w, i32_w]; rfl
        exact norm_ q3_24 (hCont (v130) _ ⟨hHeld, q3_18, q3_23, q3_17, q3_16⟩)
       ·skip
        have hcv23 := V_string (P := Try.prog) Try.underlying22 Try.underlying5 Try.underlying9 HO131.out
        refine value_ (w1 := ?_) (v := ?_) (by rfl) rfl ?_ ?_
        rotate_left 2
        ·go_simp
         constructor
         ·rfl
         ·rfl
        clear hcv23
        refine hK.out _ _ ⟨bc3_ BK123 0, bc3_ BK123 1, bc3_ BK123 2, bc3_ BK123 3⟩ (fun hHeld => ?_)
        clear hK K
        refine norm_ (a' := ?_) ?_ ?_
        rotate_left; · show Act.put _ (some 31) _ = _; simp only [Act.put, setIfInBounds_toArray, set_cons_zero, set_cons_succ, i64_w, i32_w]; rfl
        refine one_ (i := 7) (N := some 29) m3_12 rfl rfl (one_of HT_.out q3_19) (by decide) (fun K hK => ?_)
        have hcv24 := V_string (P := Try.prog) Try.underlying22 Try.underlying5 Try.underlying9 HO128.out
        refine value_ (w1 := ?_) (v := ?_) (by rfl) rfl ?_ ?_
        rotate_left 2
        ·go_simp
         constructor
         ·rfl
         ·rfl
        clear hcv24
        refine hK.out _ _ ⟨bc3_ BK123 0, bc3_ BK123 1, bc3_ BK123 2, bc3_ BK123 3⟩ (fun hHeld => ?_)
        clear hK K
        refine norm_ (a' := ?_) ?_ ?_
        rotate_left; · show Act.put _ (some 29) _ = _; simp only [Act.put, setIfInBounds_toArray, set_cons_zero, set_cons_succ, i64_w, i32_w]; rfl
        exact norm_ q3_24 (hCont (v130) _ ⟨hHeld, q3_18, q3_23, q3_17, q3_16⟩)
     rintro v130 w25 ⟨hS_, h0_, h1_, h2_, h3_⟩
     have n0_ : Aside0 (Kd.V (Kd.int .u8) 5 w25 w.heap.size (fun k_ => k_ ≠ gb123) v127 t126) := ⟨h0_⟩
     have n1_ : Aside0 (Kd.V (Kd.int .u8) 5 w25 w.heap.size (fun k_ => k_ ≠ gb123) v130 t129) := ⟨h1_⟩
     have n2_ : Aside0 (w25.heap[gb123]? = some (.cells #[.int .i32 a0_0, .int .i64 a0_1, .int .i64 a0_2, .int .i64 a0_3] 53 (0, 0))) := ⟨h2_⟩
     have n3_ : Aside0 (Below w.heap.size w w25) := ⟨h3_⟩
     clear BK123; clear HB; clear h0_ h1_ h2_ h3_; have HO128 := n0_; have HO131 := n1_; have BK123 := n2_; have HB := n3_; clear n0_ n1_ n2_ n3_
     have hHeld : w25.cell? ⟨gb123, 0, none⟩ = some (.int .i32 a0_0) ∧ w25.cell? ⟨gb123, 1, none⟩ = some (.int .i64 a0_1) ∧ w25.cell? ⟨gb123, 2, none⟩ = some (.int .i64 a0_2) ∧ w25.cell? ⟨gb123, 3, none⟩ = some (.int .i64 a0_3) := hS_
     refine norm_ (a' := ?_) ?_ ?_
     rotate_left
     ·simp only [putAll, Act.put, setIfInBounds_toArray, set_cons_zero, set_cons_succ]
      rfl
     refine pure_ (i := 10) (N := some 32) (v := ?_) (a' := ?_) m3_13 rfl rfl (any_of HT_.out q3_19) (fun _ _ _ h => h) (Or.inl ⟨by rfl, ?_⟩) ?_ ?_
     rotate_left; · intro w'; go_simp; with_reducible rfl
     rotate_left; · simp only [Act.put, setIfInBounds_toArray, set_cons_zero, set_cons_succ, i64_w, i32_w]; rfl
     refine pure_ (i := 11) (N := some 33) (v := ?_) (a' := ?_) m3_14 rfl rfl (any_of HT_.out q3_19) (fun _ _ _ h => h) (Or.inl ⟨by rfl, ?_⟩) ?_ ?_
     rotate_left; · intro w'; go_simp; with_reducible rfl
     rotate_left; · simp only [Act.put, setIfInBounds_toArray, set_cons_zero, set_cons_succ, i64_w, i32_w]; rfl
     refine pure_ (i := 12) (N := some 2) (v := ?_) (a' := ?_) m3_15 rfl rfl (any_of HT_.out q3_19) (fun _ _ _ h => h) (Or.inl ⟨by rfl, ?_⟩) ?_ ?_
     rotate_left; · intro w'; go_simp; with_reducible rfl
     rotate_left; · simp only [Act.put, setIfInBounds_toArray, set_cons_zero, set_cons_succ, i64_w, i32_w]; rfl
     refine done_ (done_of HT_.out q3_19) ?_
     try go_wp2
     go_ret
     exact ⟨by first | rfl | (simp [errW_none, errW_some] <;> rfl) | (simp [*, errW_none, errW_some] <;> rfl), by repeat (first | (with_reducible first | exact HB.out | apply below_alloc | apply pw_below_drewN | apply below_drew1 | refine below_set ?_ GE123.out) | exact HB.out)⟩

/-! ### grid_Board_there: function 76 -/
def grid_Board_there.f (a0_0 : Int) (a0_1 : Int) (l0_2 : List (S53)) (a1 : Int) (a2 : Int) : Option (Bool × Int × Int × (List (S53))) := if a1 ≥ 0 then (if a1 < a0_0 then (if a2 ≥ 0 then (some (decide (a2 < a0_1), a0_0, a0_1, l0_2)) else (some (false, a0_0, a0_1, l0_2))) else (some (false, a0_0, a0_1, l0_2))) else (some (false, a0_0, a0_1, l0_2))
set_option maxHeartbeats 8000000 in
set_option maxRecDepth 100000 in
theorem grid_Board_there.calls (g : Nat) (a0_0 : Int) (a0_1 : Int) (P0_2_ : Nat → Prop) (u9000_ : Value) (l0_2 : List (S53)) (a1 : Int) (a2 : Int) (r1 : Bool) (r2 : Int) (r3 : Int) (r4 : List (S53)) (w0 w : World) (hb : w.heap[g]? = some (.cells #[.int .i64 a0_0, .int .i64 a0_1, u9000_] 112 (0, 0))) (hg : w0.heap.size ≤ g) (hB : Below w0.heap.size w0 w) (ho0_2 : Kd.R k53 53 w w0.heap.size P0_2_ u9000_ l0_2) (h : grid_Board_there.f a0_0 a0_1 l0_2 a1 a2 = some (r1, r2, r3, r4)) :
  Calls Try.prog 76 #[.pointer (some ⟨g, 0, none⟩), .int .i64 a1, .int .i64 a2] w fun e w' => ∃ v3_ : Value, Aside0 (e = .returned (.bool r1) ∧ Kd.R k53 53 w' w0.heap.size (fun k_ => (P0_2_ k_ ∨ w.heap.size ≤ k_)) v3_ r4 ∧ w'.heap[g]? = some (.cells #[.int .i64 r2, .int .i64 r3, v3_] 112 (0, 0)) ∧ Below w0.heap.size w0 w' ∧ Kept w w' (fun k_ => (P0_2_ k_) ∨ k_ = g)) := by
 have HO0_2 := Aside0.mk (show Kd.R k53 53 w w0.heap.size (fun k_ => (P0_2_ k_ ∨ w.heap.size ≤ k_)) u9000_ l0_2 from Kd.R_mono ho0_2 (fun k_ hk => (.inl hk)))
 have HK := Aside0.mk (Kept.refl w (fun k_ => (P0_2_ k_) ∨ k_ = g))
 have BK0 := Aside0.mk hb
 have GE0 := Aside0.mk hg
 clear hb hg
 have HW0 := Aside0.mk hB.size
 have HB := Aside0.mk hB
 clear hB
 have H : (if a1 ≥ 0 then (if a1 < a0_0 then (if a2 ≥ 0 then (some (decide (a2 < a0_1), a0_0, a0_1, l0_2)) else (some (false, a0_0, a0_1, l0_2))) else (some (false, a0_0, a0_1, l0_2))) else (some (false, a0_0, a0_1, l0_2))) = some (r1, r2, r3, r4) := h
 clear h
 by_cases c4 : a1 ≥ 0
 ·rw [if_pos c4] at H
  have c4b0 : decide (0 ≤ a1) = true := decide_eq_true c4
  clear c4
  by_cases c5 : a1 < a0_0
  ·rw [if_pos c5] at H
   have c5b0 : decide (a1 < a0_0) = true := decide_eq_true c5
   clear c5
   by_cases c6 : a2 ≥ 0
   ·rw [if_pos c6] at H
    have c6b0 : decide (0 ≤ a2) = true := decide_eq_true c6
    clear c6
    simp only [Option.some.injEq, Prod.mk.injEq] at H
    obtain ⟨rfl, rfl, rfl, rfl⟩ := H
    have hcz7_0 : w.cell? ⟨g, 0, none⟩ = some (.int .i64 a0_0) := bc3_ BK0 0
    have hcz7_1 : w.cell? ⟨g, 1, none⟩ = some (.int .i64 a0_1) := bc3_ BK0 1
    have hcz7_2 : w.cell? ⟨g, 2, none⟩ = some (u9000_) := bc3_ BK0 2
    have hfz7_0 := blk_frozen BK0.out 0
    have hfz7_1 := blk_frozen BK0.out 1
    have hfz7_2 := blk_frozen BK0.out 2
    go_enter Try.func76, Try.ntmps76
    go_wp2
    go_ret
    exact ⟨(u9000_), by first | rfl | (simp [errW_none, errW_some, ptrW_true, ptrW_false] <;> rfl) | (simp [*, errW_none, errW_some, ptrW_true, ptrW_false] <;> rfl), by (with_reducible repeat (first | apply Kd.R_alloc | apply Kd.R_drewN | apply Kd.R_drew)); exact HO0_2.out, q3_20, by repeat (first | (with_reducible first | exact HB.out | apply below_alloc | apply pw_below_drewN | apply below_drew1 | refine below_set ?_ GE0.out) | exact HB.out), by repeat (first | (with_reducible first | exact HK.out | apply Kept.alloc | apply Kept.drewN | apply Kept.drew | refine Kept.setCell ?_ (.inl (.inr rfl)) _) | exact HK.out)⟩
   ·rw [if_neg c6] at H
    have c6b0 : decide (0 ≤ a2) = false := decide_eq_false c6
    clear c6
    simp only [Option.some.injEq, Prod.mk.injEq] at H
    obtain ⟨rfl, rfl, rfl, rfl⟩ := H
    have hcz8_0 : w.cell? ⟨g, 0, none⟩ = some (.int .i64 a0_0) := bc3_ BK0 0
    have hcz8_1 : w.cell? ⟨g, 1, none⟩ = some (.int .i64 a0_1) := bc3_ BK0 1
    have hcz8_2 : w.cell? ⟨g, 2, none⟩ = some (u9000_) := bc3_ BK0 2
    have hfz8_0 := blk_frozen BK0.out 0
    have hfz8_1 := blk_frozen BK0.out 1
    have hfz8_2 := blk_frozen BK0.out 2
    go_enter Try.func76, Try.ntmps76
    go_wp2
    go_ret
    exact ⟨(u9000_), by first | rfl | (simp [errW_none, errW_some, ptrW_true, ptrW_false] <;> rfl) | (simp [*, errW_none, errW_some, ptrW_true, ptrW_false] <;> rfl), by (with_reducible repeat (first | apply Kd.R_alloc | apply Kd.R_drewN | apply Kd.R_drew)); exact HO0_2.out, q3_20, by repeat (first | (with_reducible first | exact HB.out | apply below_alloc | apply pw_below_drewN | apply below_drew1 | refine below_set ?_ GE0.out) | exact HB.out), by repeat (first | (with_reducible first | exact HK.out | apply Kept.alloc | apply Kept.drewN | apply Kept.drew | refine Kept.setCell ?_ (.inl (.inr rfl)) _) | exact HK.out)⟩
  ·rw [if_neg c5] at H
   have c5b0 : decide (a1 < a0_0) = false := decide_eq_false c5
   clear c5
   simp only [Option.some.injEq, Prod.mk.injEq] at H
   obtain ⟨rfl, rfl, rfl, rfl⟩ := H
   have hcz9_0 : w.cell? ⟨g, 0, none⟩ = some (.int .i64 a0_0) := bc3_ BK0 0
   have hcz9_1 : w.cell? ⟨g, 1, none⟩ = some (.int .i64 a0_1) := bc3_ BK0 1
   have hcz9_2 : w.cell? ⟨g, 2, none⟩ = some (u9000_) := bc3_ BK0 2
   have hfz9_0 := blk_frozen BK0.out 0
   have hfz9_1 := blk_frozen BK0.out 1
   have hfz9_2 := blk_frozen BK0.out 2
   go_enter Try.func76, Try.ntmps76
   go_wp2
   go_ret
   exact ⟨(u9000_), by first | rfl | (simp [errW_none, errW_some, ptrW_true, ptrW_false] <;> rfl) | (simp [*, errW_none, errW_some, ptrW_true, ptrW_false] <;> rfl), by (with_reducible repeat (first | apply Kd.R_alloc | apply Kd.R_drewN | apply Kd.R_drew)); exact HO0_2.out, q3_20, by repeat (first | (with_reducible first | exact HB.out | apply below_alloc | apply pw_below_drewN | apply below_drew1 | refine below_set ?_ GE0.out) | exact HB.out), by repeat (first | (with_reducible first | exact HK.out | apply Kept.alloc | apply Kept.drewN | apply Kept.drew | refine Kept.setCell ?_ (.inl (.inr rfl)) _) | exact HK.out)⟩
 ·rw [if_neg c4] at H
  have c4b0 : decide (0 ≤ a1) = false := decide_eq_false c4
  clear c4
  simp only [Option.some.injEq, Prod.mk.injEq] at H
  obtain ⟨rfl, rfl, rfl, rfl⟩ := H
  go_enter Try.func76, Try.ntmps76
  go_wp2
  go_ret
  exact ⟨(u9000_), by first | rfl | (simp [errW_none, errW_some, ptrW_true, ptrW_false] <;> rfl) | (simp [*, errW_none, errW_some, ptrW_true, ptrW_false] <;> rfl), by (with_reducible repeat (first | apply Kd.R_alloc | apply Kd.R_drewN | apply Kd.R_drew)); exact HO0_2.out, q3_20, by repeat (first | (with_reducible first | exact HB.out | apply below_alloc | apply pw_below_drewN | apply below_drew1 | refine below_set ?_ GE0.out) | exact HB.out), by repeat (first | (with_reducible first | exact HK.out | apply Kept.alloc | apply Kept.drewN | apply Kept.drew | refine Kept.setCell ?_ (.inl (.inr rfl)) _) | exact HK.out)⟩

end Go.Proofs.Ytkckojgjkmcokaa.PF10
