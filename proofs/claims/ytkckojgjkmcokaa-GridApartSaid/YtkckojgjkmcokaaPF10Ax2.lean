/- By a program of this session (wip/tool/pp.py): plain Lean functions of the Go functions that this family of laws uses, the walks that the Go code comes to their answers, and the row of the law. No condition beside those that the row itself gives. -/
import Derived.Test.YtkckojgjkmcokaaPF10Ax0
namespace Go.Proofs.Ytkckojgjkmcokaa.PF10A
open Go.RowKit Go.Proofs.YtkckojgjkmcokaaW.Hand Go.Proofs.YtkckojgjkmcokaaW.PrintWords Go.Proofs.YtkckojgjkmcokaaW.PrintLast Go.Proofs.YtkckojgjkmcokaaW.PrintMore
attribute [local go_sem] max2_int min2_int max_two min_two max_three min_three max_four min_four   -- for this text's walks alone
open List (setIfInBounds_toArray set_cons_zero set_cons_succ)
set_option linter.unusedVariables false
set_option linter.unusedSimpArgs false

/-! ### batonref08_Sign: function 21 -/
def batonref08_Sign.f (a0 : Int) : Option (Bool) := if a0 ≥ 0 then (if a0 ≤ 1114111 then (if a0 < 55296 then (some true) else (some (decide (a0 > 57343)))) else (some false)) else (some false)
theorem bc2_ {W : World} {g : Nat} {cs : Array Value} {t : TypeId} (h : Aside0 (W.heap[g]? = some (.cells cs t (0, 0)))) (j : Nat) {v : Value} (hv : cs[j]? = some v := by rfl) : W.cell? ⟨g, j, none⟩ = some v := (blk_cell h.out j).trans hv
theorem A2_ {p : Prop} (h : p) : Aside0 p := ⟨h⟩
theorem q2_3 {p : Prop} (h : p := by repeat (first | (with_reducible first | exact HB.out | apply below_alloc | apply pw_below_drewN | apply below_drew1) | exact HB.out)) : p := h
theorem q2_4 {p : Prop} (h : p := by repeat (first | (with_reducible first | exact HB.out | apply below_alloc | apply pw_below_drewN | apply below_drew1 | refine below_set ?_ GE101.out) | exact HB.out)) : p := h
theorem q2_5 {p : Prop} (h : p := by (with_reducible repeat (first | refine blk_drewN ?_ _ | refine blk_drew ?_ | refine blk_alloc ?_ _)); exact BK101.out) : p := h
theorem q2_6 {p : Prop} (h : p := by (try simp only [List.map_toArray, List.map_cons, List.map_nil]); first | done | rfl | (simp only [List.length_drop, List.length_take]; rfl)) : p := h
theorem q2_7 {p : Prop} (h : p := by (with_reducible repeat (first | refine blk_drewN ?_ _ | refine blk_drew ?_ | refine blk_alloc ?_ _)); exact BK0.out) : p := h
theorem q2_8 {p : Prop} (h : p := by first | (with_reducible assumption) | assumption) : p := h
theorem q2_9 {p : Prop} (h : p := by repeat (first | (with_reducible first | exact HB.out | apply below_alloc | apply pw_below_drewN | apply below_drew1 | refine below_set ?_ GE110.out) | exact HB.out)) : p := h
theorem q2_10 {p : Prop} (h : p := by kernel_rfl) : p := h
theorem q2_11 {p : Prop} (h : p := by (with_reducible repeat (first | refine blk_drewN ?_ _ | refine blk_drew ?_ | refine blk_alloc ?_ _)); exact BK110.out) : p := h
theorem q2_12 {p : Prop} (h : p := by (with_reducible repeat (first | apply Kd.R_alloc | apply Kd.R_drewN | apply Kd.R_drew)); exact HO0_2.out) : p := h
theorem q2_13 {p : Prop} (h : p := by repeat (first | (with_reducible first | exact HB.out | apply below_alloc | apply pw_below_drewN | apply below_drew1 | refine below_set ?_ GE0.out | refine below_set ?_ GE106.out) | exact HB.out)) : p := h
theorem q2_14 {p : Prop} (h : p := by repeat (first | (with_reducible first | exact HB.out | apply below_alloc | apply pw_below_drewN | apply below_drew1 | refine below_set ?_ GE0.out) | exact HB.out)) : p := h
set_option maxHeartbeats 8000000 in
set_option maxRecDepth 100000 in
theorem batonref08_Sign.calls (a0 : Int) (r : Bool) (w : World) (h : batonref08_Sign.f a0 = some r) :
  Calls Try.prog 21 #[.int .i64 a0] w fun e w' => e = .returned (.bool r) ∧ Drawn0 w w' := by
 have H : (if a0 ≥ 0 then (if a0 ≤ 1114111 then (if a0 < 55296 then (some true) else (some (decide (a0 > 57343)))) else (some false)) else (some false)) = some r := h
 clear h
 by_cases c2 : a0 ≥ 0
 ·rw [if_pos c2] at H
  have c2b0 : decide (0 ≤ a0) = true := decide_eq_true c2
  clear c2
  by_cases c3 : a0 ≤ 1114111
  ·rw [if_pos c3] at H
   have c3b0 : decide (a0 ≤ 1114111) = true := decide_eq_true c3
   clear c3
   by_cases c4 : a0 < 55296
   ·rw [if_pos c4] at H
    have c4b0 : decide (a0 < 55296) = true := decide_eq_true c4
    clear c4
    obtain rfl := Option.some.inj H
    go_enter Try.func21, Try.ntmps21
    go_wp2
    go_ret
    exact ⟨by first | rfl | (simp; done) | (simp [*]; done), by repeat (first | exact Drawn0.refl _ | apply Drawn0.step)⟩
   ·rw [if_neg c4] at H
    have c4b0 : decide (a0 < 55296) = false := decide_eq_false c4
    clear c4
    obtain rfl := Option.some.inj H
    go_enter Try.func21, Try.ntmps21
    go_wp2
    go_ret
    exact ⟨by first | rfl | (simp; done) | (simp [*]; done), by repeat (first | exact Drawn0.refl _ | apply Drawn0.step)⟩
  ·rw [if_neg c3] at H
   have c3b0 : decide (a0 ≤ 1114111) = false := decide_eq_false c3
   clear c3
   obtain rfl := Option.some.inj H
   go_enter Try.func21, Try.ntmps21
   go_wp2
   go_ret
   exact ⟨by first | rfl | (simp; done) | (simp [*]; done), by repeat (first | exact Drawn0.refl _ | apply Drawn0.step)⟩
 ·rw [if_neg c2] at H
  have c2b0 : decide (0 ≤ a0) = false := decide_eq_false c2
  clear c2
  obtain rfl := Option.some.inj H
  go_enter Try.func21, Try.ntmps21
  go_wp2
  go_ret
  exact ⟨by first | rfl | (simp; done) | (simp [*]; done), by repeat (first | exact Drawn0.refl _ | apply Drawn0.step)⟩

/-! ### batonref09_Right: function 36 -/
def batonref09_Right.f (a0_0 : Int) (a0_1 : Int) (a0_2 : Int) (a0_3 : Int) : Option (Bool) := if a0_1 < 0 then (some false) else (if a0_1 > 256 then (some false) else (if a0_2 < 0 then (some false) else (if a0_2 > 256 then (some false) else (if a0_3 < 0 then (some false) else (if a0_3 > 127 then (some false) else (if (wrap64 (a0_0)) ≥ 32 then (if (wrap64 (a0_0)) ≤ 126 then ((batonref08_Sign.f (wrap64 (a0_0))).bind fun t103 => (some t103)) else (if (wrap64 (a0_0)) ≥ 160 then ((batonref08_Sign.f (wrap64 (a0_0))).bind fun t104 => (some t104)) else (some false))) else (if (wrap64 (a0_0)) ≥ 160 then ((batonref08_Sign.f (wrap64 (a0_0))).bind fun t105 => (some t105)) else (some false))))))))
set_option maxHeartbeats 8000000 in
set_option maxRecDepth 100000 in
theorem batonref09_Right.calls (a0_0 : Int) (a0_1 : Int) (a0_2 : Int) (a0_3 : Int) (r : Bool) (w : World) (h : batonref09_Right.f a0_0 a0_1 a0_2 a0_3 = some r) :
  Calls Try.prog 36 #[.agg #[.int .i32 a0_0, .int .i64 a0_1, .int .i64 a0_2, .int .i64 a0_3]] w fun e w' => e = .returned (.bool r) ∧ Below w.heap.size w w' := by
 have hu53 := Try.underlying53
 have hu51 := Try.underlying51
 have HB := A2_ (Below.refl w.heap.size w)
 have H : (if a0_1 < 0 then (some false) else (if a0_1 > 256 then (some false) else (if a0_2 < 0 then (some false) else (if a0_2 > 256 then (some false) else (if a0_3 < 0 then (some false) else (if a0_3 > 127 then (some false) else (if (wrap64 (a0_0)) ≥ 32 then (if (wrap64 (a0_0)) ≤ 126 then ((batonref08_Sign.f (wrap64 (a0_0))).bind fun t103 => (some t103)) else (if (wrap64 (a0_0)) ≥ 160 then ((batonref08_Sign.f (wrap64 (a0_0))).bind fun t104 => (some t104)) else (some false))) else (if (wrap64 (a0_0)) ≥ 160 then ((batonref08_Sign.f (wrap64 (a0_0))).bind fun t105 => (some t105)) else (some false))))))))) = some r := h
 clear h
 by_cases c2 : a0_1 < 0
 ·rw [if_pos c2] at H
  have c2b0 : decide (a0_1 < 0) = true := decide_eq_true c2
  clear c2
  obtain rfl := Option.some.inj H
  go_enter Try.func36, Try.ntmps36
  go_wp2_with (first | ((with_reducible refine gate_dst (N := 1) rfl ?_); refine box_event ?hg (N := 1) ?hd (cs := #[.int .i32 a0_0, .int .i64 a0_1, .int .i64 a0_2, .int .i64 a0_3]) (t := 53) ?hr ?_; (case hd => rfl); (case hg => rfl); (case hr => first | (go_simp; done) | (go_simp; rfl)); intro gb101 hg w3 hbox hb; have n0_ := A2_ (below_step q2_3 hb); have n1_ := A2_ (hbox); have n2_ := A2_ ((by rw [hg]; exact (below_size q2_3) : w.heap.size ≤ gb101)); have n3_ := A2_ ((by rw [hg]; exact (below_size q2_3) : w.heap.size ≤ gb101)); clear HB; have HB := n0_; have BK101 := n1_; have GW101 := n2_; have GE101 := n3_; clear n0_ n1_ n2_ n3_; clear hb hbox hg; have hcz4_0 : w3.cell? ⟨gb101, 0, none⟩ = some (.int .i32 a0_0) := bc2_ BK101 0; have hcz4_1 : w3.cell? ⟨gb101, 1, none⟩ = some (.int .i64 a0_1) := bc2_ BK101 1; have hcz4_2 : w3.cell? ⟨gb101, 2, none⟩ = some (.int .i64 a0_2) := bc2_ BK101 2; have hcz4_3 : w3.cell? ⟨gb101, 3, none⟩ = some (.int .i64 a0_3) := bc2_ BK101 3; have hfz4_0 := blk_frozen BK101.out 0; have hfz4_1 := blk_frozen BK101.out 1; have hfz4_2 := blk_frozen BK101.out 2; have hfz4_3 := blk_frozen BK101.out 3) | ((with_reducible refine gate_dst (N := 3) rfl ?_); refine box_event ?hg (N := 3) ?hd (cs := #[.int .i64 0, .int .i64 0, .int .i64 0]) (t := 51) ?hr ?_; (case hd => rfl); (case hg => rfl); (case hr => first | (go_simp; done) | (go_simp; rfl)); intro gb102 hg w5 hbox hb; have n0_ := A2_ (blk_below (g := gb101) (o := .cells #[.int .i32 a0_0, .int .i64 a0_1, .int .i64 a0_2, .int .i64 a0_3] 53 (0, 0)) q2_5 hb); have n1_ := A2_ (below_step q2_4 hb); have n2_ := A2_ (hbox); have n3_ := A2_ ((by rw [hg]; exact (below_size q2_4) : w.heap.size ≤ gb102)); have n4_ := A2_ ((by rw [hg]; exact (below_size q2_4) : w.heap.size ≤ gb102)); have n5_ := A2_ ((by rw [hg]; exact Nat.ne_of_lt (blk_lt (g := gb101) (o := .cells #[.int .i32 a0_0, .int .i64 a0_1, .int .i64 a0_2, .int .i64 a0_3] 53 (0, 0)) q2_5) : gb101 ≠ gb102)); have n6_ := A2_ ((by rw [hg]; exact Nat.ne_of_gt (blk_lt (g := gb101) (o := .cells #[.int .i32 a0_0, .int .i64 a0_1, .int .i64 a0_2, .int .i64 a0_3] 53 (0, 0)) q2_5) : gb102 ≠ gb101)); clear BK101 HB; have BK101 := n0_; have HB := n1_; have BK102 := n2_; have GW102 := n3_; have GE102 := n4_; have NB101_102 := n5_; have NB102_101 := n6_; clear n0_ n1_ n2_ n3_ n4_ n5_ n6_; clear hb hbox hg; have hnb6 := NB102_101.out; have hnc6 := NB101_102.out; have hcz7_0 : w5.cell? ⟨gb102, 0, none⟩ = some (.int .i64 0) := bc2_ BK102 0; have hcz7_1 : w5.cell? ⟨gb102, 1, none⟩ = some (.int .i64 0) := bc2_ BK102 1; have hcz7_2 : w5.cell? ⟨gb102, 2, none⟩ = some (.int .i64 0) := bc2_ BK102 2; have hfz7_0 := blk_frozen BK102.out 0; have hfz7_1 := blk_frozen BK102.out 1; have hfz7_2 := blk_frozen BK102.out 2))
  go_ret
  exact ⟨by first | rfl | (simp [errW_none, errW_some] <;> rfl) | (simp [*, errW_none, errW_some] <;> rfl), by repeat (first | (with_reducible first | exact HB.out | apply below_alloc | apply pw_below_drewN | apply below_drew1 | refine below_set ?_ GE101.out | refine below_set ?_ GE102.out) | exact HB.out)⟩
 ·rw [if_neg c2] at H
  have c2b0 : decide (a0_1 < 0) = false := decide_eq_false c2
  clear c2
  by_cases c8 : a0_1 > 256
  ·rw [if_pos c8] at H
   have c8b0 : decide (256 < a0_1) = true := decide_eq_true c8
   clear c8
   obtain rfl := Option.some.inj H
   go_enter Try.func36, Try.ntmps36
   go_wp2_with (first | ((with_reducible refine gate_dst (N := 1) rfl ?_); refine box_event ?hg (N := 1) ?hd (cs := #[.int .i32 a0_0, .int .i64 a0_1, .int .i64 a0_2, .int .i64 a0_3]) (t := 53) ?hr ?_; (case hd => rfl); (case hg => rfl); (case hr => first | (go_simp; done) | (go_simp; rfl)); intro gb101 hg w9 hbox hb; have n0_ := A2_ (below_step q2_3 hb); have n1_ := A2_ (hbox); have n2_ := A2_ ((by rw [hg]; exact (below_size q2_3) : w.heap.size ≤ gb101)); have n3_ := A2_ ((by rw [hg]; exact (below_size q2_3) : w.heap.size ≤ gb101)); clear HB; have HB := n0_; have BK101 := n1_; have GW101 := n2_; have GE101 := n3_; clear n0_ n1_ n2_ n3_; clear hb hbox hg; have hcz10_0 : w9.cell? ⟨gb101, 0, none⟩ = some (.int .i32 a0_0) := bc2_ BK101 0; have hcz10_1 : w9.cell? ⟨gb101, 1, none⟩ = some (.int .i64 a0_1) := bc2_ BK101 1; have hcz10_2 : w9.cell? ⟨gb101, 2, none⟩ = some (.int .i64 a0_2) := bc2_ BK101 2; have hcz10_3 : w9.cell? ⟨gb101, 3, none⟩ = some (.int .i64 a0_3) := bc2_ BK101 3; have hfz10_0 := blk_frozen BK101.out 0; have hfz10_1 := blk_frozen BK101.out 1; have hfz10_2 := blk_frozen BK101.out 2; have hfz10_3 := blk_frozen BK101.out 3) | ((with_reducible refine gate_dst (N := 3) rfl ?_); refine box_event ?hg (N := 3) ?hd (cs := #[.int .i64 0, .int .i64 0, .int .i64 0]) (t := 51) ?hr ?_; (case hd => rfl); (case hg => rfl); (case hr => first | (go_simp; done) | (go_simp; rfl)); intro gb102 hg w11 hbox hb; have n0_ := A2_ (blk_below (g := gb101) (o := .cells #[.int .i32 a0_0, .int .i64 a0_1, .int .i64 a0_2, .int .i64 a0_3] 53 (0, 0)) q2_5 hb); have n1_ := A2_ (below_step q2_4 hb); have n2_ := A2_ (hbox); have n3_ := A2_ ((by rw [hg]; exact (below_size q2_4) : w.heap.size ≤ gb102)); have n4_ := A2_ ((by rw [hg]; exact (below_size q2_4) : w.heap.size ≤ gb102)); have n5_ := A2_ ((by rw [hg]; exact Nat.ne_of_lt (blk_lt (g := gb101) (o := .cells #[.int .i32 a0_0, .int .i64 a0_1, .int .i64 a0_2, .int .i64 a0_3] 53 (0, 0)) q2_5) : gb101 ≠ gb102)); have n6_ := A2_ ((by rw [hg]; exact Nat.ne_of_gt (blk_lt (g := gb101) (o := .cells #[.int .i32 a0_0, .int .i64 a0_1, .int .i64 a0_2, .int .i64 a0_3] 53 (0, 0)) q2_5) : gb102 ≠ gb101)); clear BK101 HB; have BK101 := n0_; have HB := n1_; have BK102 := n2_; have GW102 := n3_; have GE102 := n4_; have NB101_102 := n5_; have NB102_101 := n6_; clear n0_ n1_ n2_ n3_ n4_ n5_ n6_; clear hb hbox hg; have hnb12 := NB102_101.out; have hnc12 := NB101_102.out; have hcz13_0 : w11.cell? ⟨gb102, 0, none⟩ = some (.int .i64 0) := bc2_ BK102 0; have hcz13_1 : w11.cell? ⟨gb102, 1, none⟩ = some (.int .i64 0) := bc2_ BK102 1; have hcz13_2 : w11.cell? ⟨gb102, 2, none⟩ = some (.int .i64 0) := bc2_ BK102 2; have hfz13_0 := blk_frozen BK102.out 0; have hfz13_1 := blk_frozen BK102.out 1; have hfz13_2 := blk_frozen BK102.out 2))
   go_ret
   exact ⟨by first | rfl | (simp [errW_none, errW_some] <;> rfl) | (simp [*, errW_none, errW_some] <;> rfl), by repeat (first | (with_reducible first | exact HB.out | apply below_alloc | apply pw_below_drewN | apply below_drew1 | refine below_set ?_ GE101.out | refine below_set ?_ GE102.out) | exact HB.out)⟩
  ·rw [if_neg c8] at H
   have c8b0 : decide (256 < a0_1) = false := decide_eq_false c8
   clear c8
   by_cases c14 : a0_2 < 0
   ·rw [if_pos c14] at H
    have c14b0 : decide (a0_2 < 0) = true := decide_eq_true c14
    clear c14
    obtain rfl := Option.some.inj H
    go_enter Try.func36, Try.ntmps36
    go_wp2_with (first | ((with_reducible refine gate_dst (N := 1) rfl ?_); refine box_event ?hg (N := 1) ?hd (cs := #[.int .i32 a0_0, .int .i64 a0_1, .int .i64 a0_2, .int .i64 a0_3]) (t := 53) ?hr ?_; (case hd => rfl); (case hg => rfl); (case hr => first | (go_simp; done) | (go_simp; rfl)); intro gb101 hg w15 hbox hb; have n0_ := A2_ (below_step q2_3 hb); have n1_ := A2_ (hbox); have n2_ := A2_ ((by rw [hg]; exact (below_size q2_3) : w.heap.size ≤ gb101)); have n3_ := A2_ ((by rw [hg]; exact (below_size q2_3) : w.heap.size ≤ gb101)); clear HB; have HB := n0_; have BK101 := n1_; have GW101 := n2_; have GE101 := n3_; clear n0_ n1_ n2_ n3_; clear hb hbox hg; have hcz16_0 : w15.cell? ⟨gb101, 0, none⟩ = some (.int .i32 a0_0) := bc2_ BK101 0; have hcz16_1 : w15.cell? ⟨gb101, 1, none⟩ = some (.int .i64 a0_1) := bc2_ BK101 1; have hcz16_2 : w15.cell? ⟨gb101, 2, none⟩ = some (.int .i64 a0_2) := bc2_ BK101 2; have hcz16_3 : w15.cell? ⟨gb101, 3, none⟩ = some (.int .i64 a0_3) := bc2_ BK101 3; have hfz16_0 := blk_frozen BK101.out 0; have hfz16_1 := blk_frozen BK101.out 1; have hfz16_2 := blk_frozen BK101.out 2; have hfz16_3 := blk_frozen BK101.out 3) | ((with_reducible refine gate_dst (N := 3) rfl ?_); refine box_event ?hg (N := 3) ?hd (cs := #[.int .i64 0, .int .i64 0, .int .i64 0]) (t := 51) ?hr ?_; (case hd => rfl); (case hg => rfl); (case hr => first | (go_simp; done) | (go_simp; rfl)); intro gb102 hg w17 hbox hb; have n0_ := A2_ (blk_below (g := gb101) (o := .cells #[.int .i32 a0_0, .int .i64 a0_1, .int .i64 a0_2, .int .i64 a0_3] 53 (0, 0)) q2_5 hb); have n1_ := A2_ (below_step q2_4 hb); have n2_ := A2_ (hbox); have n3_ := A2_ ((by rw [hg]; exact (below_size q2_4) : w.heap.size ≤ gb102)); have n4_ := A2_ ((by rw [hg]; exact (below_size q2_4) : w.heap.size ≤ gb102)); have n5_ := A2_ ((by rw [hg]; exact Nat.ne_of_lt (blk_lt (g := gb101) (o := .cells #[.int .i32 a0_0, .int .i64 a0_1, .int .i64 a0_2, .int .i64 a0_3] 53 (0, 0)) q2_5) : gb101 ≠ gb102)); have n6_ := A2_ ((by rw [hg]; exact Nat.ne_of_gt (blk_lt (g := gb101) (o := .cells #[.int .i32 a0_0, .int .i64 a0_1, .int .i64 a0_2, .int .i64 a0_3] 53 (0, 0)) q2_5) : gb102 ≠ gb101)); clear BK101 HB; have BK101 := n0_; have HB := n1_; have BK102 := n2_; have GW102 := n3_; have GE102 := n4_; have NB101_102 := n5_; have NB102_101 := n6_; clear n0_ n1_ n2_ n3_ n4_ n5_ n6_; clear hb hbox hg; have hnb18 := NB102_101.out; have hnc18 := NB101_102.out; have hcz19_0 : w17.cell? ⟨gb102, 0, none⟩ = some (.int .i64 0) := bc2_ BK102 0; have hcz19_1 : w17.cell? ⟨gb102, 1, none⟩ = some (.int .i64 0) := bc2_ BK102 1; have hcz19_2 : w17.cell? ⟨gb102, 2, none⟩ = some (.int .i64 0) := bc2_ BK102 2; have hfz19_0 := blk_frozen BK102.out 0; have hfz19_1 := blk_frozen BK102.out 1; have hfz19_2 := blk_frozen BK102.out 2))
    go_ret
    exact ⟨by first | rfl | (simp [errW_none, errW_some] <;> rfl) | (simp [*, errW_none, errW_some] <;> rfl), by repeat (first | (with_reducible first | exact HB.out | apply below_alloc | apply pw_below_drewN | apply below_drew1 | refine below_set ?_ GE101.out | refine below_set ?_ GE102.out) | exact HB.out)⟩
   ·rw [if_neg c14] at H
    have c14b0 : decide (a0_2 < 0) = false := decide_eq_false c14
    clear c14
    by_cases c20 : a0_2 > 256
    ·rw [if_pos c20] at H
     have c20b0 : decide (256 < a0_2) = true := decide_eq_true c20
     clear c20
     obtain rfl := Option.some.inj H
     go_enter Try.func36, Try.ntmps36
     go_wp2_with (first | ((with_reducible refine gate_dst (N := 1) rfl ?_); refine box_event ?hg (N := 1) ?hd (cs := #[.int .i32 a0_0, .int .i64 a0_1, .int .i64 a0_2, .int .i64 a0_3]) (t := 53) ?hr ?_; (case hd => rfl); (case hg => rfl); (case hr => first | (go_simp; done) | (go_simp; rfl)); intro gb101 hg w21 hbox hb; have n0_ := A2_ (below_step q2_3 hb); have n1_ := A2_ (hbox); have n2_ := A2_ ((by rw [hg]; exact (below_size q2_3) : w.heap.size ≤ gb101)); have n3_ := A2_ ((by rw [hg]; exact (below_size q2_3) : w.heap.size ≤ gb101)); clear HB; have HB := n0_; have BK101 := n1_; have GW101 := n2_; have GE101 := n3_; clear n0_ n1_ n2_ n3_; clear hb hbox hg; have hcz22_0 : w21.cell? ⟨gb101, 0, none⟩ = some (.int .i32 a0_0) := bc2_ BK101 0; have hcz22_1 : w21.cell? ⟨gb101, 1, none⟩ = some (.int .i64 a0_1) := bc2_ BK101 1; have hcz22_2 : w21.cell? ⟨gb101, 2, none⟩ = some (.int .i64 a0_2) := bc2_ BK101 2; have hcz22_3 : w21.cell? ⟨gb101, 3, none⟩ = some (.int .i64 a0_3) := bc2_ BK101 3; have hfz22_0 := blk_frozen BK101.out 0; have hfz22_1 := blk_frozen BK101.out 1; have hfz22_2 := blk_frozen BK101.out 2; have hfz22_3 := blk_frozen BK101.out 3) | ((with_reducible refine gate_dst (N := 3) rfl ?_); refine box_event ?hg (N := 3) ?hd (cs := #[.int .i64 0, .int .i64 0, .int .i64 0]) (t := 51) ?hr ?_; (case hd => rfl); (case hg => rfl); (case hr => first | (go_simp; done) | (go_simp; rfl)); intro gb102 hg w23 hbox hb; have n0_ := A2_ (blk_below (g := gb101) (o := .cells #[.int .i32 a0_0, .int .i64 a0_1, .int .i64 a0_2, .int .i64 a0_3] 53 (0, 0)) q2_5 hb); have n1_ := A2_ (below_step q2_4 hb); have n2_ := A2_ (hbox); have n3_ := A2_ ((by rw [hg]; exact (below_size q2_4) : w.heap.size ≤ gb102)); have n4_ := A2_ ((by rw [hg]; exact (below_size q2_4) : w.heap.size ≤ gb102)); have n5_ := A2_ ((by rw [hg]; exact Nat.ne_of_lt (blk_lt (g := gb101) (o := .cells #[.int .i32 a0_0, .int .i64 a0_1, .int .i64 a0_2, .int .i64 a0_3] 53 (0, 0)) q2_5) : gb101 ≠ gb102)); have n6_ := A2_ ((by rw [hg]; exact Nat.ne_of_gt (blk_lt (g := gb101) (o := .cells #[.int .i32 a0_0, .int .i64 a0_1, .int .i64 a0_2, .int .i64 a0_3] 53 (0, 0)) q2_5) : gb102 ≠ gb101)); clear BK101 HB; have BK101 := n0_; have HB := n1_; have BK102 := n2_; have GW102 := n3_; have GE102 := n4_; have NB101_102 := n5_; have NB102_101 := n6_; clear n0_ n1_ n2_ n3_ n4_ n5_ n6_; clear hb hbox hg; have hnb24 := NB102_101.out; have hnc24 := NB101_102.out; have hcz25_0 : w23.cell? ⟨gb102, 0, none⟩ = some (.int .i64 0) := bc2_ BK102 0; have hcz25_1 : w23.cell? ⟨gb102, 1, none⟩ = some (.int .i64 0) := bc2_ BK102 1; have hcz25_2 : w23.cell? ⟨gb102, 2, none⟩ = some (.int .i64 0) := bc2_ BK102 2; have hfz25_0 := blk_frozen BK102.out 0; have hfz25_1 := blk_frozen BK102.out 1; have hfz25_2 := blk_frozen BK102.out 2))
     go_ret
     exact ⟨by first | rfl | (simp [errW_none, errW_some] <;> rfl) | (simp [*, errW_none, errW_some] <;> rfl), by repeat (first | (with_reducible first | exact HB.out | apply below_alloc | apply pw_below_drewN | apply below_drew1 | refine below_set ?_ GE101.out | refine below_set ?_ GE102.out) | exact HB.out)⟩
    ·rw [if_neg c20] at H
     have c20b0 : decide (256 < a0_2) = false := decide_eq_false c20
     clear c20
     by_cases c26 : a0_3 < 0
     ·rw [if_pos c26] at H
      have c26b0 : decide (a0_3 < 0) = true := decide_eq_true c26
      clear c26
      obtain rfl := Option.some.inj H
      go_enter Try.func36, Try.ntmps36
      go_wp2_with (first | ((with_reducible refine gate_dst (N := 1) rfl ?_); refine box_event ?hg (N := 1) ?hd (cs := #[.int .i32 a0_0, .int .i64 a0_1, .int .i64 a0_2, .int .i64 a0_3]) (t := 53) ?hr ?_; (case hd => rfl); (case hg => rfl); (case hr => first | (go_simp; done) | (go_simp; rfl)); intro gb101 hg w27 hbox hb; have n0_ := A2_ (below_step q2_3 hb); have n1_ := A2_ (hbox); have n2_ := A2_ ((by rw [hg]; exact (below_size q2_3) : w.heap.size ≤ gb101)); have n3_ := A2_ ((by rw [hg]; exact (below_size q2_3) : w.heap.size ≤ gb101)); clear HB; have HB := n0_; have BK101 := n1_; have GW101 := n2_; have GE101 := n3_; clear n0_ n1_ n2_ n3_; clear hb hbox hg; have hcz28_0 : w27.cell? ⟨gb101, 0, none⟩ = some (.int .i32 a0_0) := bc2_ BK101 0; have hcz28_1 : w27.cell? ⟨gb101, 1, none⟩ = some (.int .i64 a0_1) := bc2_ BK101 1; have hcz28_2 : w27.cell? ⟨gb101, 2, none⟩ = some (.int .i64 a0_2) := bc2_ BK101 2; have hcz28_3 : w27.cell? ⟨gb101, 3, none⟩ = some (.int .i64 a0_3) := bc2_ BK101 3; have hfz28_0 := blk_frozen BK101.out 0; have hfz28_1 := blk_frozen BK101.out 1; have hfz28_2 := blk_frozen BK101.out 2; have hfz28_3 := blk_frozen BK101.out 3) | ((with_reducible refine gate_dst (N := 3) rfl ?_); refine box_event ?hg (N := 3) ?hd (cs := #[.int .i64 0, .int .i64 0, .int .i64 0]) (t := 51) ?hr ?_; (case hd => rfl); (case hg => rfl); (case hr => first | (go_simp; done) | (go_simp; rfl)); intro gb102 hg w29 hbox hb; have n0_ := A2_ (blk_below (g := gb101) (o := .cells #[.int .i32 a0_0, .int .i64 a0_1, .int .i64 a0_2, .int .i64 a0_3] 53 (0, 0)) q2_5 hb); have n1_ := A2_ (below_step q2_4 hb); have n2_ := A2_ (hbox); have n3_ := A2_ ((by rw [hg]; exact (below_size q2_4) : w.heap.size ≤ gb102)); have n4_ := A2_ ((by rw [hg]; exact (below_size q2_4) : w.heap.size ≤ gb102)); have n5_ := A2_ ((by rw [hg]; exact Nat.ne_of_lt (blk_lt (g := gb101) (o := .cells #[.int .i32 a0_0, .int .i64 a0_1, .int .i64 a0_2, .int .i64 a0_3] 53 (0, 0)) q2_5) : gb101 ≠ gb102)); have n6_ := A2_ ((by rw [hg]; exact Nat.ne_of_gt (blk_lt (g := gb101) (o := .cells #[.int .i32 a0_0, .int .i64 a0_1, .int .i64 a0_2, .int .i64 a0_3] 53 (0, 0)) q2_5) : gb102 ≠ gb101)); clear BK101 HB; have BK101 := n0_; have HB := n1_; have BK102 := n2_; have GW102 := n3_; have GE102 := n4_; have NB101_102 := n5_; have NB102_101 := n6_; clear n0_ n1_ n2_ n3_ n4_ n5_ n6_; clear hb hbox hg; have hnb30 := NB102_101.out; have hnc30 := NB101_102.out; have hcz31_0 : w29.cell? ⟨gb102, 0, none⟩ = some (.int .i64 0) := bc2_ BK102 0; have hcz31_1 : w29.cell? ⟨gb102, 1, none⟩ = some (.int .i64 0) := bc2_ BK102 1; have hcz31_2 : w29.cell? ⟨gb102, 2, none⟩ = some (.int .i64 0) := bc2_ BK102 2; have hfz31_0 := blk_frozen BK102.out 0; have hfz31_1 := blk_frozen BK102.out 1; have hfz31_2 := blk_frozen BK102.out 2))
      go_ret
      exact ⟨by first | rfl | (simp [errW_none, errW_some] <;> rfl) | (simp [*, errW_none, errW_some] <;> rfl), by repeat (first | (with_reducible first | exact HB.out | apply below_alloc | apply pw_below_drewN | apply below_drew1 | refine below_set ?_ GE101.out | refine below_set ?_ GE102.out) | exact HB.out)⟩
     ·rw [if_neg c26] at H
      have c26b0 : decide (a0_3 < 0) = false := decide_eq_false c26
      clear c26
      by_cases c32 : a0_3 > 127
      ·rw [if_pos c32] at H
       have c32b0 : decide (127 < a0_3) = true := decide_eq_true c32
       clear c32
       obtain rfl := Option.some.inj H
       go_enter Try.func36, Try.ntmps36
       go_wp2_with (first | ((with_reducible refine gate_dst (N := 1) rfl ?_); refine box_event ?hg (N := 1) ?hd (cs := #[.int .i32 a0_0, .int .i64 a0_1, .int .i64 a0_2, .int .i64 a0_3]) (t := 53) ?hr ?_; (case hd => rfl); (case hg => rfl); (case hr => first | (go_simp; done) | (go_simp; rfl)); intro gb101 hg w33 hbox hb; have n0_ := A2_ (below_step q2_3 hb); have n1_ := A2_ (hbox); have n2_ := A2_ ((by rw [hg]; exact (below_size q2_3) : w.heap.size ≤ gb101)); have n3_ := A2_ ((by rw [hg]; exact (below_size q2_3) : w.heap.size ≤ gb101)); clear HB; have HB := n0_; have BK101 := n1_; have GW101 := n2_; have GE101 := n3_; clear n0_ n1_ n2_ n3_; clear hb hbox hg; have hcz34_0 : w33.cell? ⟨gb101, 0, none⟩ = some (.int .i32 a0_0) := bc2_ BK101 0; have hcz34_1 : w33.cell? ⟨gb101, 1, none⟩ = some (.int .i64 a0_1) := bc2_ BK101 1; have hcz34_2 : w33.cell? ⟨gb101, 2, none⟩ = some (.int .i64 a0_2) := bc2_ BK101 2; have hcz34_3 : w33.cell? ⟨gb101, 3, none⟩ = some (.int .i64 a0_3) := bc2_ BK101 3; have hfz34_0 := blk_frozen BK101.out 0; have hfz34_1 := blk_frozen BK101.out 1; have hfz34_2 := blk_frozen BK101.out 2; have hfz34_3 := blk_frozen BK101.out 3) | ((with_reducible refine gate_dst (N := 3) rfl ?_); refine box_event ?hg (N := 3) ?hd (cs := #[.int .i64 0, .int .i64 0, .int .i64 0]) (t := 51) ?hr ?_; (case hd => rfl); (case hg => rfl); (case hr => first | (go_simp; done) | (go_simp; rfl)); intro gb102 hg w35 hbox hb; have n0_ := A2_ (blk_below (g := gb101) (o := .cells #[.int .i32 a0_0, .int .i64 a0_1, .int .i64 a0_2, .int .i64 a0_3] 53 (0, 0)) q2_5 hb); have n1_ := A2_ (below_step q2_4 hb); have n2_ := A2_ (hbox); have n3_ := A2_ ((by rw [hg]; exact (below_size q2_4) : w.heap.size ≤ gb102)); have n4_ := A2_ ((by rw [hg]; exact (below_size q2_4) : w.heap.size ≤ gb102)); have n5_ := A2_ ((by rw [hg]; exact Nat.ne_of_lt (blk_lt (g := gb101) (o := .cells #[.int .i32 a0_0, .int .i64 a0_1, .int .i64 a0_2, .int .i64 a0_3] 53 (0, 0)) q2_5) : gb101 ≠ gb102)); have n6_ := A2_ ((by rw [hg]; exact Nat.ne_of_gt (blk_lt (g := gb101) (o := .cells #[.int .i32 a0_0, .int .i64 a0_1, .int .i64 a0_2, .int .i64 a0_3] 53 (0, 0)) q2_5) : gb102 ≠ gb101)); clear BK101 HB; have BK101 := n0_; have HB := n1_; have BK102 := n2_; have GW102 := n3_; have GE102 := n4_; have NB101_102 := n5_; have NB102_101 := n6_; clear n0_ n1_ n2_ n3_ n4_ n5_ n6_; clear hb hbox hg; have hnb36 := NB102_101.out; have hnc36 := NB101_102.out; have hcz37_0 : w35.cell? ⟨gb102, 0, none⟩ = some (.int .i64 0) := bc2_ BK102 0; have hcz37_1 : w35.cell? ⟨gb102, 1, none⟩ = some (.int .i64 0) := bc2_ BK102 1; have hcz37_2 : w35.cell? ⟨gb102, 2, none⟩ = some (.int .i64 0) := bc2_ BK102 2; have hfz37_0 := blk_frozen BK102.out 0; have hfz37_1 := blk_frozen BK102.out 1; have hfz37_2 := blk_frozen BK102.out 2))
       go_ret
       exact ⟨by first | rfl | (simp [errW_none, errW_some] <;> rfl) | (simp [*, errW_none, errW_some] <;> rfl), by repeat (first | (with_reducible first | exact HB.out | apply below_alloc | apply pw_below_drewN | apply below_drew1 | refine below_set ?_ GE101.out | refine below_set ?_ GE102.out) | exact HB.out)⟩
      ·rw [if_neg c32] at H
       have c32b0 : decide (127 < a0_3) = false := decide_eq_false c32
       clear c32
       by_cases c38 : (wrap64 (a0_0)) ≥ 32
       ·rw [if_pos c38] at H
        have c38b0 : decide (32 ≤ (wrap64 (a0_0))) = true := decide_eq_true c38
        clear c38
        by_cases c39 : (wrap64 (a0_0)) ≤ 126
        ·rw [if_pos c39] at H
         have c39b0 : decide ((wrap64 (a0_0)) ≤ 126) = true := decide_eq_true c39
         clear c39
         replace H := Option.bind_eq_some_iff.mp H
         obtain ⟨t103, A400, H⟩ := H
         replace H : (some t103) = some r := H
         have A40 := A2_ A400
         clear A400
         obtain rfl := Option.some.inj H
         go_enter Try.func36, Try.ntmps36
         go_wp2_with (first | ((with_reducible refine gate_dst (N := 1) rfl ?_); refine box_event ?hg (N := 1) ?hd (cs := #[.int .i32 a0_0, .int .i64 a0_1, .int .i64 a0_2, .int .i64 a0_3]) (t := 53) ?hr ?_; (case hd => rfl); (case hg => rfl); (case hr => first | (go_simp; done) | (go_simp; rfl)); intro gb101 hg w41 hbox hb; have n0_ := A2_ (below_step q2_3 hb); have n1_ := A2_ (hbox); have n2_ := A2_ ((by rw [hg]; exact (below_size q2_3) : w.heap.size ≤ gb101)); have n3_ := A2_ ((by rw [hg]; exact (below_size q2_3) : w.heap.size ≤ gb101)); clear HB; have HB := n0_; have BK101 := n1_; have GW101 := n2_; have GE101 := n3_; clear n0_ n1_ n2_ n3_; clear hb hbox hg; have hcz42_0 : w41.cell? ⟨gb101, 0, none⟩ = some (.int .i32 a0_0) := bc2_ BK101 0; have hcz42_1 : w41.cell? ⟨gb101, 1, none⟩ = some (.int .i64 a0_1) := bc2_ BK101 1; have hcz42_2 : w41.cell? ⟨gb101, 2, none⟩ = some (.int .i64 a0_2) := bc2_ BK101 2; have hcz42_3 : w41.cell? ⟨gb101, 3, none⟩ = some (.int .i64 a0_3) := bc2_ BK101 3; have hfz42_0 := blk_frozen BK101.out 0; have hfz42_1 := blk_frozen BK101.out 1; have hfz42_2 := blk_frozen BK101.out 2; have hfz42_3 := blk_frozen BK101.out 3) | ((with_reducible refine gate_dst (N := 3) rfl ?_); refine box_event ?hg (N := 3) ?hd (cs := #[.int .i64 0, .int .i64 0, .int .i64 0]) (t := 51) ?hr ?_; (case hd => rfl); (case hg => rfl); (case hr => first | (go_simp; done) | (go_simp; rfl)); intro gb102 hg w43 hbox hb; have n0_ := A2_ (blk_below (g := gb101) (o := .cells #[.int .i32 a0_0, .int .i64 a0_1, .int .i64 a0_2, .int .i64 a0_3] 53 (0, 0)) q2_5 hb); have n1_ := A2_ (below_step q2_4 hb); have n2_ := A2_ (hbox); have n3_ := A2_ ((by rw [hg]; exact (below_size q2_4) : w.heap.size ≤ gb102)); have n4_ := A2_ ((by rw [hg]; exact (below_size q2_4) : w.heap.size ≤ gb102)); have n5_ := A2_ ((by rw [hg]; exact Nat.ne_of_lt (blk_lt (g := gb101) (o := .cells #[.int .i32 a0_0, .int .i64 a0_1, .int .i64 a0_2, .int .i64 a0_3] 53 (0, 0)) q2_5) : gb101 ≠ gb102)); have n6_ := A2_ ((by rw [hg]; exact Nat.ne_of_gt (blk_lt (g := gb101) (o := .cells #[.int .i32 a0_0, .int .i64 a0_1, .int .i64 a0_2, .int .i64 a0_3] 53 (0, 0)) q2_5) : gb102 ≠ gb101)); clear BK101 HB; have BK101 := n0_; have HB := n1_; have BK102 := n2_; have GW102 := n3_; have GE102 := n4_; have NB101_102 := n5_; have NB102_101 := n6_; clear n0_ n1_ n2_ n3_ n4_ n5_ n6_; clear hb hbox hg; have hnb44 := NB102_101.out; have hnc44 := NB101_102.out; have hcz45_0 : w43.cell? ⟨gb102, 0, none⟩ = some (.int .i64 0) := bc2_ BK102 0; have hcz45_1 : w43.cell? ⟨gb102, 1, none⟩ = some (.int .i64 0) := bc2_ BK102 1; have hcz45_2 : w43.cell? ⟨gb102, 2, none⟩ = some (.int .i64 0) := bc2_ BK102 2; have hfz45_0 := blk_frozen BK102.out 0; have hfz45_1 := blk_frozen BK102.out 1; have hfz45_2 := blk_frozen BK102.out 2; have hcz46_0 : w43.cell? ⟨gb101, 0, none⟩ = some (.int .i32 a0_0) := bc2_ BK101 0; have hcz46_1 : w43.cell? ⟨gb101, 1, none⟩ = some (.int .i64 a0_1) := bc2_ BK101 1; have hcz46_2 : w43.cell? ⟨gb101, 2, none⟩ = some (.int .i64 a0_2) := bc2_ BK101 2; have hcz46_3 : w43.cell? ⟨gb101, 3, none⟩ = some (.int .i64 a0_3) := bc2_ BK101 3; have hfz46_0 := blk_frozen BK101.out 0; have hfz46_1 := blk_frozen BK101.out 1; have hfz46_2 := blk_frozen BK101.out 2; have hfz46_3 := blk_frozen BK101.out 3) | (go_at_call 21; (with_reducible refine (batonref08_Sign.calls (wrap64 (a0_0)) t103 _ A40.out).mono ?_); rintro e w' ⟨rfl, ⟨nd, rfl⟩⟩))
         go_ret
         exact ⟨by first | rfl | (simp [errW_none, errW_some] <;> rfl) | (simp [*, errW_none, errW_some] <;> rfl), by repeat (first | (with_reducible first | exact HB.out | apply below_alloc | apply pw_below_drewN | apply below_drew1 | refine below_set ?_ GE101.out | refine below_set ?_ GE102.out) | exact HB.out)⟩
        ·rw [if_neg c39] at H
         have c39b0 : decide ((wrap64 (a0_0)) ≤ 126) = false := decide_eq_false c39
         clear c39
         by_cases c47 : (wrap64 (a0_0)) ≥ 160
         ·rw [if_pos c47] at H
          have c47b0 : decide (160 ≤ (wrap64 (a0_0))) = true := decide_eq_true c47
          clear c47
          replace H := Option.bind_eq_some_iff.mp H
          obtain ⟨t104, A480, H⟩ := H
          replace H : (some t104) = some r := H
          have A48 := A2_ A480
          clear A480
          obtain rfl := Option.some.inj H
          go_enter Try.func36, Try.ntmps36
          go_wp2_with (first | ((with_reducible refine gate_dst (N := 1) rfl ?_); refine box_event ?hg (N := 1) ?hd (cs := #[.int .i32 a0_0, .int .i64 a0_1, .int .i64 a0_2, .int .i64 a0_3]) (t := 53) ?hr ?_; (case hd => rfl); (case hg => rfl); (case hr => first | (go_simp; done) | (go_simp; rfl)); intro gb101 hg w49 hbox hb; have n0_ := A2_ (below_step q2_3 hb); have n1_ := A2_ (hbox); have n2_ := A2_ ((by rw [hg]; exact (below_size q2_3) : w.heap.size ≤ gb101)); have n3_ := A2_ ((by rw [hg]; exact (below_size q2_3) : w.heap.size ≤ gb101)); clear HB; have HB := n0_; have BK101 := n1_; have GW101 := n2_; have GE101 := n3_; clear n0_ n1_ n2_ n3_; clear hb hbox hg; have hcz50_0 : w49.cell? ⟨gb101, 0, none⟩ = some (.int .i32 a0_0) := bc2_ BK101 0; have hcz50_1 : w49.cell? ⟨gb101, 1, none⟩ = some (.int .i64 a0_1) := bc2_ BK101 1; have hcz50_2 : w49.cell? ⟨gb101, 2, none⟩ = some (.int .i64 a0_2) := bc2_ BK101 2; have hcz50_3 : w49.cell? ⟨gb101, 3, none⟩ = some (.int .i64 a0_3) := bc2_ BK101 3; have hfz50_0 := blk_frozen BK101.out 0; have hfz50_1 := blk_frozen BK101.out 1; have hfz50_2 := blk_frozen BK101.out 2; have hfz50_3 := blk_frozen BK101.out 3) | ((with_reducible refine gate_dst (N := 3) rfl ?_); refine box_event ?hg (N := 3) ?hd (cs := #[.int .i64 0, .int .i64 0, .int .i64 0]) (t := 51) ?hr ?_; (case hd => rfl); (case hg => rfl); (case hr => first | (go_simp; done) | (go_simp; rfl)); intro gb102 hg w51 hbox hb; have n0_ := A2_ (blk_below (g := gb101) (o := .cells #[.int .i32 a0_0, .int .i64 a0_1, .int .i64 a0_2, .int .i64 a0_3] 53 (0, 0)) q2_5 hb); have n1_ := A2_ (below_step q2_4 hb); have n2_ := A2_ (hbox); have n3_ := A2_ ((by rw [hg]; exact (below_size q2_4) : w.heap.size ≤ gb102)); have n4_ := A2_ ((by rw [hg]; exact (below_size q2_4) : w.heap.size ≤ gb102)); have n5_ := A2_ ((by rw [hg]; exact Nat.ne_of_lt (blk_lt (g := gb101) (o := .cells #[.int .i32 a0_0, .int .i64 a0_1, .int .i64 a0_2, .int .i64 a0_3] 53 (0, 0)) q2_5) : gb101 ≠ gb102)); have n6_ := A2_ ((by rw [hg]; exact Nat.ne_of_gt (blk_lt (g := gb101) (o := .cells #[.int .i32 a0_0, .int .i64 a0_1, .int .i64 a0_2, .int .i64 a0_3] 53 (0, 0)) q2_5) : gb102 ≠ gb101)); clear BK101 HB; have BK101 := n0_; have HB := n1_; have BK102 := n2_; have GW102 := n3_; have GE102 := n4_; have NB101_102 := n5_; have NB102_101 := n6_; clear n0_ n1_ n2_ n3_ n4_ n5_ n6_; clear hb hbox hg; have hnb52 := NB102_101.out; have hnc52 := NB101_102.out; have hcz53_0 : w51.cell? ⟨gb102, 0, none⟩ = some (.int .i64 0) := bc2_ BK102 0; have hcz53_1 : w51.cell? ⟨gb102, 1, none⟩ = some (.int .i64 0) := bc2_ BK102 1; have hcz53_2 : w51.cell? ⟨gb102, 2, none⟩ = some (.int .i64 0) := bc2_ BK102 2; have hfz53_0 := blk_frozen BK102.out 0; have hfz53_1 := blk_frozen BK102.out 1; have hfz53_2 := blk_frozen BK102.out 2; have hcz54_0 : w51.cell? ⟨gb101, 0, none⟩ = some (.int .i32 a0_0) := bc2_ BK101 0; have hcz54_1 : w51.cell? ⟨gb101, 1, none⟩ = some (.int .i64 a0_1) := bc2_ BK101 1; have hcz54_2 : w51.cell? ⟨gb101, 2, none⟩ = some (.int .i64 a0_2) := bc2_ BK101 2; have hcz54_3 : w51.cell? ⟨gb101, 3, none⟩ = some (.int .i64 a0_3) := bc2_ BK101 3; have hfz54_0 := blk_frozen BK101.out 0; have hfz54_1 := blk_frozen BK101.out 1; have hfz54_2 := blk_frozen BK101.out 2; have hfz54_3 := blk_frozen BK101.out 3) | (go_at_call 21; (with_reducible refine (batonref08_Sign.calls (wrap64 (a0_0)) t104 _ A48.out).mono ?_); rintro e w' ⟨rfl, ⟨nd, rfl⟩⟩))
          go_ret
          exact ⟨by first | rfl | (simp [errW_none, errW_some] <;> rfl) | (simp [*, errW_none, errW_some] <;> rfl), by repeat (first | (with_reducible first | exact HB.out | apply below_alloc | apply pw_below_drewN | apply below_drew1 | refine below_set ?_ GE101.out | refine below_set ?_ GE102.out) | exact HB.out)⟩
         ·rw [if_neg c47] at H
          have c47b0 : decide (160 ≤ (wrap64 (a0_0))) = false := decide_eq_false c47
          clear c47
          obtain rfl := Option.some.inj H
          go_enter Try.func36, Try.ntmps36
          go_wp2_with (first | ((with_reducible refine gate_dst (N := 1) rfl ?_); refine box_event ?hg (N := 1) ?hd (cs := #[.int .i32 a0_0, .int .i64 a0_1, .int .i64 a0_2, .int .i64 a0_3]) (t := 53) ?hr ?_; (case hd => rfl); (case hg => rfl); (case hr => first | (go_simp; done) | (go_simp; rfl)); intro gb101 hg w55 hbox hb; have n0_ := A2_ (below_step q2_3 hb); have n1_ := A2_ (hbox); have n2_ := A2_ ((by rw [hg]; exact (below_size q2_3) : w.heap.size ≤ gb101)); have n3_ := A2_ ((by rw [hg]; exact (below_size q2_3) : w.heap.size ≤ gb101)); clear HB; have HB := n0_; have BK101 := n1_; have GW101 := n2_; have GE101 := n3_; clear n0_ n1_ n2_ n3_; clear hb hbox hg; have hcz56_0 : w55.cell? ⟨gb101, 0, none⟩ = some (.int .i32 a0_0) := bc2_ BK101 0; have hcz56_1 : w55.cell? ⟨gb101, 1, none⟩ = some (.int .i64 a0_1) := bc2_ BK101 1; have hcz56_2 : w55.cell? ⟨gb101, 2, none⟩ = some (.int .i64 a0_2) := bc2_ BK101 2; have hcz56_3 : w55.cell? ⟨gb101, 3, none⟩ = some (.int .i64 a0_3) := bc2_ BK101 3; have hfz56_0 := blk_frozen BK101.out 0; have hfz56_1 := blk_frozen BK101.out 1; have hfz56_2 := blk_frozen BK101.out 2; have hfz56_3 := blk_frozen BK101.out 3) | ((with_reducible refine gate_dst (N := 3) rfl ?_); refine box_event ?hg (N := 3) ?hd (cs := #[.int .i64 0, .int .i64 0, .int .i64 0]) (t := 51) ?hr ?_; (case hd => rfl); (case hg => rfl); (case hr => first | (go_simp; done) | (go_simp; rfl)); intro gb102 hg w57 hbox hb; have n0_ := A2_ (blk_below (g := gb101) (o := .cells #[.int .i32 a0_0, .int .i64 a0_1, .int .i64 a0_2, .int .i64 a0_3] 53 (0, 0)) q2_5 hb); have n1_ := A2_ (below_step q2_4 hb); have n2_ := A2_ (hbox); have n3_ := A2_ ((by rw [hg]; exact (below_size q2_4) : w.heap.size ≤ gb102)); have n4_ := A2_ ((by rw [hg]; exact (below_size q2_4) : w.heap.size ≤ gb102)); have n5_ := A2_ ((by rw [hg]; exact Nat.ne_of_lt (blk_lt (g := gb101) (o := .cells #[.int .i32 a0_0, .int .i64 a0_1, .int .i64 a0_2, .int .i64 a0_3] 53 (0, 0)) q2_5) : gb101 ≠ gb102)); have n6_ := A2_ ((by rw [hg]; exact Nat.ne_of_gt (blk_lt (g := gb101) (o := .cells #[.int .i32 a0_0, .int .i64 a0_1, .int .i64 a0_2, .int .i64 a0_3] 53 (0, 0)) q2_5) : gb102 ≠ gb101)); clear BK101 HB; have BK101 := n0_; have HB := n1_; have BK102 := n2_; have GW102 := n3_; have GE102 := n4_; have NB101_102 := n5_; have NB102_101 := n6_; clear n0_ n1_ n2_ n3_ n4_ n5_ n6_; clear hb hbox hg; have hnb58 := NB102_101.out; have hnc58 := NB101_102.out; have hcz59_0 : w57.cell? ⟨gb102, 0, none⟩ = some (.int .i64 0) := bc2_ BK102 0; have hcz59_1 : w57.cell? ⟨gb102, 1, none⟩ = some (.int .i64 0) := bc2_ BK102 1; have hcz59_2 : w57.cell? ⟨gb102, 2, none⟩ = some (.int .i64 0) := bc2_ BK102 2; have hfz59_0 := blk_frozen BK102.out 0; have hfz59_1 := blk_frozen BK102.out 1; have hfz59_2 := blk_frozen BK102.out 2; have hcz60_0 : w57.cell? ⟨gb101, 0, none⟩ = some (.int .i32 a0_0) := bc2_ BK101 0; have hcz60_1 : w57.cell? ⟨gb101, 1, none⟩ = some (.int .i64 a0_1) := bc2_ BK101 1; have hcz60_2 : w57.cell? ⟨gb101, 2, none⟩ = some (.int .i64 a0_2) := bc2_ BK101 2; have hcz60_3 : w57.cell? ⟨gb101, 3, none⟩ = some (.int .i64 a0_3) := bc2_ BK101 3; have hfz60_0 := blk_frozen BK101.out 0; have hfz60_1 := blk_frozen BK101.out 1; have hfz60_2 := blk_frozen BK101.out 2; have hfz60_3 := blk_frozen BK101.out 3))
          go_ret
          exact ⟨by first | rfl | (simp [errW_none, errW_some] <;> rfl) | (simp [*, errW_none, errW_some] <;> rfl), by repeat (first | (with_reducible first | exact HB.out | apply below_alloc | apply pw_below_drewN | apply below_drew1 | refine below_set ?_ GE101.out | refine below_set ?_ GE102.out) | exact HB.out)⟩
       ·rw [if_neg c38] at H
        have c38b0 : decide (32 ≤ (wrap64 (a0_0))) = false := decide_eq_false c38
        clear c38
        by_cases c61 : (wrap64 (a0_0)) ≥ 160
        ·rw [if_pos c61] at H
         have c61b0 : decide (160 ≤ (wrap64 (a0_0))) = true := decide_eq_true c61
         clear c61
         replace H := Option.bind_eq_some_iff.mp H
         obtain ⟨t105, A620, H⟩ := H
         replace H : (some t105) = some r := H
         have A62 := A2_ A620
         clear A620
         obtain rfl := Option.some.inj H
         go_enter Try.func36, Try.ntmps36
         go_wp2_with (first | ((with_reducible refine gate_dst (N := 1) rfl ?_); refine box_event ?hg (N := 1) ?hd (cs := #[.int .i32 a0_0, .int .i64 a0_1, .int .i64 a0_2, .int .i64 a0_3]) (t := 53) ?hr ?_; (case hd => rfl); (case hg => rfl); (case hr => first | (go_simp; done) | (go_simp; rfl)); intro gb101 hg w63 hbox hb; have n0_ := A2_ (below_step q2_3 hb); have n1_ := A2_ (hbox); have n2_ := A2_ ((by rw [hg]; exact (below_size q2_3) : w.heap.size ≤ gb101)); have n3_ := A2_ ((by rw [hg]; exact (below_size q2_3) : w.heap.size ≤ gb101)); clear HB; have HB := n0_; have BK101 := n1_; have GW101 := n2_; have GE101 := n3_; clear n0_ n1_ n2_ n3_; clear hb hbox hg; have hcz64_0 : w63.cell? ⟨gb101, 0, none⟩ = some (.int .i32 a0_0) := bc2_ BK101 0; have hcz64_1 : w63.cell? ⟨gb101, 1, none⟩ = some (.int .i64 a0_1) := bc2_ BK101 1; have hcz64_2 : w63.cell? ⟨gb101, 2, none⟩ = some (.int .i64 a0_2) := bc2_ BK101 2; have hcz64_3 : w63.cell? ⟨gb101, 3, none⟩ = some (.int .i64 a0_3) := bc2_ BK101 3; have hfz64_0 := blk_frozen BK101.out 0; have hfz64_1 := blk_frozen BK101.out 1; have hfz64_2 := blk_frozen BK101.out 2; have hfz64_3 := blk_frozen BK101.out 3) | ((with_reducible refine gate_dst (N := 3) rfl ?_); refine box_event ?hg (N := 3) ?hd (cs := #[.int .i64 0, .int .i64 0, .int .i64 0]) (t := 51) ?hr ?_; (case hd => rfl); (case hg => rfl); (case hr => first | (go_simp; done) | (go_simp; rfl)); intro gb102 hg w65 hbox hb; have n0_ := A2_ (blk_below (g := gb101) (o := .cells #[.int .i32 a0_0, .int .i64 a0_1, .int .i64 a0_2, .int .i64 a0_3] 53 (0, 0)) q2_5 hb); have n1_ := A2_ (below_step q2_4 hb); have n2_ := A2_ (hbox); have n3_ := A2_ ((by rw [hg]; exact (below_size q2_4) : w.heap.size ≤ gb102)); have n4_ := A2_ ((by rw [hg]; exact (below_size q2_4) : w.heap.size ≤ gb102)); have n5_ := A2_ ((by rw [hg]; exact Nat.ne_of_lt (blk_lt (g := gb101) (o := .cells #[.int .i32 a0_0, .int .i64 a0_1, .int .i64 a0_2, .int .i64 a0_3] 53 (0, 0)) q2_5) : gb101 ≠ gb102)); have n6_ := A2_ ((by rw [hg]; exact Nat.ne_of_gt (blk_lt (g := gb101) (o := .cells #[.int .i32 a0_0, .int .i64 a0_1, .int .i64 a0_2, .int .i64 a0_3] 53 (0, 0)) q2_5) : gb102 ≠ gb101)); clear BK101 HB; have BK101 := n0_; have HB := n1_; have BK102 := n2_; have GW102 := n3_; have GE102 := n4_; have NB101_102 := n5_; have NB102_101 := n6_; clear n0_ n1_ n2_ n3_ n4_ n5_ n6_; clear hb hbox hg; have hnb66 := NB102_101.out; have hnc66 := NB101_102.out; have hcz67_0 : w65.cell? ⟨gb102, 0, none⟩ = some (.int .i64 0) := bc2_ BK102 0; have hcz67_1 : w65.cell? ⟨gb102, 1, none⟩ = some (.int .i64 0) := bc2_ BK102 1; have hcz67_2 : w65.cell? ⟨gb102, 2, none⟩ = some (.int .i64 0) := bc2_ BK102 2; have hfz67_0 := blk_frozen BK102.out 0; have hfz67_1 := blk_frozen BK102.out 1; have hfz67_2 := blk_frozen BK102.out 2; have hcz68_0 : w65.cell? ⟨gb101, 0, none⟩ = some (.int .i32 a0_0) := bc2_ BK101 0; have hcz68_1 : w65.cell? ⟨gb101, 1, none⟩ = some (.int .i64 a0_1) := bc2_ BK101 1; have hcz68_2 : w65.cell? ⟨gb101, 2, none⟩ = some (.int .i64 a0_2) := bc2_ BK101 2; have hcz68_3 : w65.cell? ⟨gb101, 3, none⟩ = some (.int .i64 a0_3) := bc2_ BK101 3; have hfz68_0 := blk_frozen BK101.out 0; have hfz68_1 := blk_frozen BK101.out 1; have hfz68_2 := blk_frozen BK101.out 2; have hfz68_3 := blk_frozen BK101.out 3) | (go_at_call 21; (with_reducible refine (batonref08_Sign.calls (wrap64 (a0_0)) t105 _ A62.out).mono ?_); rintro e w' ⟨rfl, ⟨nd, rfl⟩⟩))
         go_ret
         exact ⟨by first | rfl | (simp [errW_none, errW_some] <;> rfl) | (simp [*, errW_none, errW_some] <;> rfl), by repeat (first | (with_reducible first | exact HB.out | apply below_alloc | apply pw_below_drewN | apply below_drew1 | refine below_set ?_ GE101.out | refine below_set ?_ GE102.out) | exact HB.out)⟩
        ·rw [if_neg c61] at H
         have c61b0 : decide (160 ≤ (wrap64 (a0_0))) = false := decide_eq_false c61
         clear c61
         obtain rfl := Option.some.inj H
         go_enter Try.func36, Try.ntmps36
         go_wp2_with (first | ((with_reducible refine gate_dst (N := 1) rfl ?_); refine box_event ?hg (N := 1) ?hd (cs := #[.int .i32 a0_0, .int .i64 a0_1, .int .i64 a0_2, .int .i64 a0_3]) (t := 53) ?hr ?_; (case hd => rfl); (case hg => rfl); (case hr => first | (go_simp; done) | (go_simp; rfl)); intro gb101 hg w69 hbox hb; have n0_ := A2_ (below_step q2_3 hb); have n1_ := A2_ (hbox); have n2_ := A2_ ((by rw [hg]; exact (below_size q2_3) : w.heap.size ≤ gb101)); have n3_ := A2_ ((by rw [hg]; exact (below_size q2_3) : w.heap.size ≤ gb101)); clear HB; have HB := n0_; have BK101 := n1_; have GW101 := n2_; have GE101 := n3_; clear n0_ n1_ n2_ n3_; clear hb hbox hg; have hcz70_0 : w69.cell? ⟨gb101, 0, none⟩ = some (.int .i32 a0_0) := bc2_ BK101 0; have hcz70_1 : w69.cell? ⟨gb101, 1, none⟩ = some (.int .i64 a0_1) := bc2_ BK101 1; have hcz70_2 : w69.cell? ⟨gb101, 2, none⟩ = some (.int .i64 a0_2) := bc2_ BK101 2; have hcz70_3 : w69.cell? ⟨gb101, 3, none⟩ = some (.int .i64 a0_3) := bc2_ BK101 3; have hfz70_0 := blk_frozen BK101.out 0; have hfz70_1 := blk_frozen BK101.out 1; have hfz70_2 := blk_frozen BK101.out 2; have hfz70_3 := blk_frozen BK101.out 3) | ((with_reducible refine gate_dst (N := 3) rfl ?_); refine box_event ?hg (N := 3) ?hd (cs := #[.int .i64 0, .int .i64 0, .int .i64 0]) (t := 51) ?hr ?_; (case hd => rfl); (case hg => rfl); (case hr => first | (go_simp; done) | (go_simp; rfl)); intro gb102 hg w71 hbox hb; have n0_ := A2_ (blk_below (g := gb101) (o := .cells #[.int .i32 a0_0, .int .i64 a0_1, .int .i64 a0_2, .int .i64 a0_3] 53 (0, 0)) q2_5 hb); have n1_ := A2_ (below_step q2_4 hb); have n2_ := A2_ (hbox); have n3_ := A2_ ((by rw [hg]; exact (below_size q2_4) : w.heap.size ≤ gb102)); have n4_ := A2_ ((by rw [hg]; exact (below_size q2_4) : w.heap.size ≤ gb102)); have n5_ := A2_ ((by rw [hg]; exact Nat.ne_of_lt (blk_lt (g := gb101) (o := .cells #[.int .i32 a0_0, .int .i64 a0_1, .int .i64 a0_2, .int .i64 a0_3] 53 (0, 0)) q2_5) : gb101 ≠ gb102)); have n6_ := A2_ ((by rw [hg]; exact Nat.ne_of_gt (blk_lt (g := gb101) (o := .cells #[.int .i32 a0_0, .int .i64 a0_1, .int .i64 a0_2, .int .i64 a0_3] 53 (0, 0)) q2_5) : gb102 ≠ gb101)); clear BK101 HB; have BK101 := n0_; have HB := n1_; have BK102 := n2_; have GW102 := n3_; have GE102 := n4_; have NB101_102 := n5_; have NB102_101 := n6_; clear n0_ n1_ n2_ n3_ n4_ n5_ n6_; clear hb hbox hg; have hnb72 := NB102_101.out; have hnc72 := NB101_102.out; have hcz73_0 : w71.cell? ⟨gb102, 0, none⟩ = some (.int .i64 0) := bc2_ BK102 0; have hcz73_1 : w71.cell? ⟨gb102, 1, none⟩ = some (.int .i64 0) := bc2_ BK102 1; have hcz73_2 : w71.cell? ⟨gb102, 2, none⟩ = some (.int .i64 0) := bc2_ BK102 2; have hfz73_0 := blk_frozen BK102.out 0; have hfz73_1 := blk_frozen BK102.out 1; have hfz73_2 := blk_frozen BK102.out 2; have hcz74_0 : w71.cell? ⟨gb101, 0, none⟩ = some (.int .i32 a0_0) := bc2_ BK101 0; have hcz74_1 : w71.cell? ⟨gb101, 1, none⟩ = some (.int .i64 a0_1) := bc2_ BK101 1; have hcz74_2 : w71.cell? ⟨gb101, 2, none⟩ = some (.int .i64 a0_2) := bc2_ BK101 2; have hcz74_3 : w71.cell? ⟨gb101, 3, none⟩ = some (.int .i64 a0_3) := bc2_ BK101 3; have hfz74_0 := blk_frozen BK101.out 0; have hfz74_1 := blk_frozen BK101.out 1; have hfz74_2 := blk_frozen BK101.out 2; have hfz74_3 := blk_frozen BK101.out 3))
         go_ret
         exact ⟨by first | rfl | (simp [errW_none, errW_some] <;> rfl) | (simp [*, errW_none, errW_some] <;> rfl), by repeat (first | (with_reducible first | exact HB.out | apply below_alloc | apply pw_below_drewN | apply below_drew1 | refine below_set ?_ GE101.out | refine below_set ?_ GE102.out) | exact HB.out)⟩

/-! ### api_Cell: function 75 (by hand) -/
def api_Cell.f (l0 : List (S53)) : Option (List (S53)) := if l0.length < 4398046511104 then some l0 else none
set_option maxHeartbeats 8000000 in
set_option maxRecDepth 100000 in
theorem api_Cell.calls (A0 : Option Addr) (c0 : Nat) (l0 : List (S53)) (r : List (S53)) (w : World) (hr0 : Kd.C k53 w A0 l0.length l0) (hc0 : l0.length ≤ c0) (h : api_Cell.f l0 = some r) :
  Calls Try.prog 75 #[.slice A0 l0.length c0] w fun e w' => ∃ v0_ : Value, e = .returned (v0_) ∧ Kd.R k53 53 w' w.heap.size (fun _ => True) v0_ r ∧ Below w.heap.size w w' := by
 unfold api_Cell.f at h
 split at h
 ·rename_i hlim
  obtain rfl := Option.some.inj h
  clear h
  have HL := A2_ hlim
  clear hlim
  have HB := A2_ (Below.refl w.heap.size w)
  have HR := A2_ hr0
  clear hr0 hc0
  rcases A0 with _ | ad
  ·obtain rfl := C_none HR.out
   have hq := fun (W : World) => Lib.run_eql_slice_nil (P := Try.prog) W 47 53 none 0 c0 0 0 Try.underlying47
   go_enter Try.func75, Try.ntmps75
   go_wp2
   go_ret
   exact ⟨_, rfl, Kd.R_nil _ _ _ _ _, HB.out⟩
  ·have hq := fun (W : World) => Lib.run_eql_slice_nil (P := Try.prog) W 47 53 (some ad) l0.length c0 0 0 Try.underlying47
   go_enter Try.func75, Try.ntmps75
   go_wp2_with (first | ((with_reducible refine gate_dst (N := 5) rfl ?_); refine Kd.R_lit k53 (w0 := w) w.heap.size 53 ?hg (N := 5) ?hd (xs := []) (inner := []) (ok := fun _ => True) (okp := fun _ => True) ?hr ?hp (fun _ hk => hk) trivial HB.out (Nat.le_refl _) (by simp) ?_; (case hd => rfl); (case hg => rfl); (case hr => first | (go_simp; done) | (go_simp; rfl)); (case hp => exact Reps.none _ _); intro v1 w1 ho hb hg hat; have HO := A2_ ho; have HB1 := A2_ hb; clear ho hb hg hat) | ((with_reducible refine gate_dst (N := 7) rfl ?_); refine Kd.R_append_rows k53 (w0 := w) w.heap.size rfl (.tmp 5) (.tmp 6) 47 53 (.agg #[(.int .i32 0), (.int .i64 0), (.int .i64 0), (.int .i64 0)]) 32 rfl Try.underlying47 info53 rfl (by decide) (by omega) v1 [] l0 _ _ _ (fun _ => True) (fun _ => False) rfl rfl HO.out (Kd.C_below HR.out HB1.out) (fun _ _ h => h) (fun _ h => h.elim) (fun _ _ => trivial) HB1.out HB1.out.size (by have := HL.out; simp only [List.length_nil]; omega) ?_; intro v2 w2 ho hb hg hat; have HO2 := A2_ ho; have HB2 := A2_ hb; clear ho hb hg hat))
   go_ret
   exact ⟨_, rfl, HO2.out, HB2.out⟩
 ·cases h

/-! ### grid_Board_Grid: function 49 -/
def grid_Board_Grid.f (a0_0 : Int) (a0_1 : Int) (l0_2 : List (S53)) : Option (Int × Int × (List (S53)) × Int × Int × (List (S53))) := (api_Cell.f l0_2).bind fun t107 => (some (a0_0, a0_1, t107, a0_0, a0_1, l0_2))
def grid_Board_Grid.T1 : Bool × List (List Nat × List Nat) := (true, [([], []), ([0], [0]), ([1], [1]), ([2], [2]), ([], []), ([4], [4]), ([5], [5]), ([6], [6]), ([], []), ([8], [8]), ([9], [9]), ([10], [10]), ([11], [11]), ([3, 7, 12], [3, 7, 12]), ([13, 12, 0, 1, 2, 3, 4, 5, 6, 7, 8, 9, 10, 11, 12, 13], [13])])
def grid_Board_Grid.B1 : List Nat := [0, 1, 3, 7, 0, 16, 48, 112, 0, 256, 768, 1792, 3840, 8191, 16383]
theorem grid_Board_Grid.tab1 : rtab .any (opsOf Try.f49 1) = grid_Board_Grid.T1 := by kernel_rfl
theorem grid_Board_Grid.bits1 : waitsOk grid_Board_Grid.T1.2 grid_Board_Grid.B1 = true := by kernel_rfl
set_option maxHeartbeats 8000000 in
set_option maxRecDepth 100000 in
theorem grid_Board_Grid.calls (g : Nat) (a0_0 : Int) (a0_1 : Int) (P0_2_ : Nat → Prop) (u9000_ : Value) (l0_2 : List (S53)) (r1 : Int) (r2 : Int) (r3 : List (S53)) (r4 : Int) (r5 : Int) (r6 : List (S53)) (w0 w : World) (hb : w.heap[g]? = some (.cells #[.int .i64 a0_0, .int .i64 a0_1, u9000_] 112 (0, 0))) (hg : w0.heap.size ≤ g) (hB : Below w0.heap.size w0 w) (ho0_2 : Kd.R k53 53 w w0.heap.size P0_2_ u9000_ l0_2) (h : grid_Board_Grid.f a0_0 a0_1 l0_2 = some (r1, r2, r3, r4, r5, r6)) :
  Calls Try.prog 49 #[.pointer (some ⟨g, 0, none⟩)] w fun e w' => ∃ v2_ v5_ : Value, Aside0 (e = .returned (.agg #[.int .i64 r1, .int .i64 r2, v2_]) ∧ Kd.R k53 53 w' w0.heap.size (fun k_ => (P0_2_ k_ ∨ w.heap.size ≤ k_) ∧ some k_ ≠ (v5_ : Value).ownBlock) v2_ r3 ∧ Kd.R k53 53 w' w0.heap.size (fun k_ => (P0_2_ k_ ∨ w.heap.size ≤ k_) ∧ some k_ ≠ (v2_ : Value).ownBlock) v5_ r6 ∧ w'.heap[g]? = some (.cells #[.int .i64 r4, .int .i64 r5, v5_] 112 (0, 0)) ∧ Below w0.heap.size w0 w' ∧ Kept w w' (fun k_ => (P0_2_ k_) ∨ k_ = g)) := by
 have hu75 := Try.underlying75
 have HO0_2 := A2_ (show Kd.R k53 53 w w0.heap.size (fun k_ => (P0_2_ k_ ∨ w.heap.size ≤ k_)) u9000_ l0_2 from Kd.R_mono ho0_2 (fun k_ hk => (.inl hk)))
 have HK := A2_ (Kept.refl w (fun k_ => (P0_2_ k_) ∨ k_ = g))
 have BK0 := A2_ hb
 have GE0 := A2_ hg
 clear hb hg
 have HW0 := A2_ hB.size
 have HB := A2_ hB
 clear hB
 have H : ((api_Cell.f l0_2).bind fun t107 => (some (a0_0, a0_1, t107, a0_0, a0_1, l0_2))) = some (r1, r2, r3, r4, r5, r6) := h
 clear h
 replace H := Option.bind_eq_some_iff.mp H
 obtain ⟨t107, A20, H⟩ := H
 replace H : (some (a0_0, a0_1, t107, a0_0, a0_1, l0_2)) = some (r1, r2, r3, r4, r5, r6) := H
 have A2 := A2_ A20
 clear A20
 simp only [Option.some.injEq, Prod.mk.injEq] at H
 obtain ⟨rfl, rfl, rfl, rfl, rfl, rfl⟩ := H
 go_enter Try.func49, Try.ntmps49
 try go_wp2_with (first | ((with_reducible refine gate_dst (N := 2) rfl ?_); refine box_event ?hg (N := 2) ?hd (cs := #[.int .i64 0, .int .i64 0, .slice none 0 0]) (t := 75) ?hr ?_; (case hd => rfl); (case hg => rfl); (case hr => first | (go_simp; done) | (go_simp; rfl)); intro gb106 hg w3 hbox hb; have n0_ := A2_ (Kd.R_below q2_12 hb); have n1_ := A2_ (blk_below (g := g) (o := .cells #[.int .i64 a0_0, .int .i64 a0_1, u9000_] 112 (0, 0)) q2_7 hb); have n2_ := A2_ (Kept.below (S := (fun k_ => (P0_2_ k_) ∨ k_ = g)) (by repeat (first | (with_reducible first | exact HK.out | apply Kept.alloc | apply Kept.drewN | apply Kept.drew | refine Kept.setCell ?_ (.inl (.inr rfl)) _) | exact HK.out)) hb); have n3_ := A2_ (below_step q2_14 hb); have n4_ := A2_ (hbox); have n5_ := A2_ ((by rw [hg]; exact (by first | exact HK.out.1 | exact (show Kept w _ (fun k_ => (P0_2_ k_) ∨ k_ = g) from by repeat (first | (with_reducible first | exact HK.out | apply Kept.alloc | apply Kept.drewN | apply Kept.drew | refine Kept.setCell ?_ (.inl (.inr rfl)) _) | exact HK.out)).1) : w.heap.size ≤ gb106)); have n6_ := A2_ ((by rw [hg]; exact (below_size q2_14) : w0.heap.size ≤ gb106)); have n7_ := A2_ ((by rw [hg]; exact Nat.ne_of_lt (blk_lt (g := g) (o := .cells #[.int .i64 a0_0, .int .i64 a0_1, u9000_] 112 (0, 0)) q2_7) : g ≠ gb106)); have n8_ := A2_ ((by rw [hg]; exact Nat.ne_of_gt (blk_lt (g := g) (o := .cells #[.int .i64 a0_0, .int .i64 a0_1, u9000_] 112 (0, 0)) q2_7) : gb106 ≠ g)); clear HO0_2 BK0 HK HB; have HO0_2 := n0_; have BK0 := n1_; have HK := n2_; have HB := n3_; have BK106 := n4_; have GW106 := n5_; have GE106 := n6_; have NB0_106 := n7_; have NB106_0 := n8_; clear n0_ n1_ n2_ n3_ n4_ n5_ n6_ n7_ n8_; clear hb hbox hg))
 have n0_ := A2_ (Kd.R_drew HO0_2.out)
 have n1_ := A2_ (blk_drew BK0.out)
 have n2_ := A2_ (blk_drew BK106.out)
 have n3_ := A2_ (Kept.drew HK.out)
 have n4_ := A2_ (below_drew1 HB.out)
 clear HO0_2; clear BK0; clear BK106; clear HK; clear HB; have HO0_2 := n0_; have BK0 := n1_; have BK106 := n2_; have HK := n3_; have HB := n4_; clear n0_ n1_ n2_ n3_ n4_
 obtain ⟨Ao5, co5, eo5⟩ := Kd.R_slice HO0_2.out
 (first | subst eo5 | (injection eo5 with f1_ f2_ f3_; have f4_ := f1_.symm; have f5_ := f3_.symm; clear f1_ f2_ f3_; subst f4_; subst f5_))
 refine start_ (n := 15) (S := fun w' => w'.cell? ⟨g, 0, none⟩ = some (.int .i64 a0_0) ∧ w'.cell? ⟨g, 1, none⟩ = some (.int .i64 a0_1) ∧ w'.cell? ⟨g, 2, none⟩ = some (.slice Ao5 l0_2.length co5)) (ds := []) #[false, false, false, false, false, false, false, false, false, false, false, false, false, false, false] q2_10 rfl rfl ⟨bc2_ BK0 0, bc2_ BK0 1, bc2_ BK0 2⟩ (fun hHeld => ?_); refine with_tabW grid_Board_Grid.tab1 grid_Board_Grid.bits1 (fun HT_ HW_ => ?_)
 generalize w3.drew = w4 at HO0_2 BK0 BK106 HK HB hHeld ⊢
 refine pure_ (i := 0) (N := some 3) (v := ?_) (a' := ?_) #[true, false, false, false, false, false, false, false, false, false, false, false, false, false, false] rfl rfl (any_of HT_.out q2_10) (fun _ _ _ h => h) (Or.inl ⟨by rfl, ?_⟩) ?_ ?_
 rotate_left; · intro w'; go_simp; with_reducible rfl
 rotate_left; · simp only [Act.put, setIfInBounds_toArray, set_cons_zero, set_cons_succ, i64_w, i32_w]; rfl
 refine pure_ (i := 1) (N := some 4) (v := ?_) (a' := ?_) #[true, true, false, false, false, false, false, false, false, false, false, false, false, false, false] rfl rfl (any_of HT_.out q2_10) (fun _ _ _ h => h) (Or.inl ⟨by rfl, ?_⟩) ?_ ?_
 rotate_left; · intro w'; go_simp; with_reducible rfl
 rotate_left; · simp only [Act.put, setIfInBounds_toArray, set_cons_zero, set_cons_succ, i64_w, i32_w]; rfl
 refine pure_ (i := 2) (N := some 5) (v := ?_) (a' := ?_) #[true, true, true, false, false, false, false, false, false, false, false, false, false, false, false] rfl rfl (any_of HT_.out q2_10) (fun _ _ _ h => h) (Or.inl ⟨by rfl, ?_⟩) ?_ ?_
 rotate_left; · intro w'; go_simp; with_reducible rfl
 rotate_left; · simp only [Act.put, setIfInBounds_toArray, set_cons_zero, set_cons_succ, i64_w, i32_w]; rfl
 refine pure_ (i := 4) (N := some 7) (v := ?_) (a' := ?_) #[true, true, true, false, true, false, false, false, false, false, false, false, false, false, false] rfl rfl (any_of HT_.out q2_10) (fun _ _ _ h => h) (Or.inl ⟨by rfl, ?_⟩) ?_ ?_
 rotate_left; · intro w'; go_simp; with_reducible rfl
 rotate_left; · simp only [Act.put, setIfInBounds_toArray, set_cons_zero, set_cons_succ, i64_w, i32_w]; rfl
 refine pure_ (i := 5) (N := some 8) (v := ?_) (a' := ?_) #[true, true, true, false, true, true, false, false, false, false, false, false, false, false, false] rfl rfl (any_of HT_.out q2_10) (fun _ _ _ h => h) (Or.inl ⟨by rfl, ?_⟩) ?_ ?_
 rotate_left; · intro w'; go_simp; with_reducible rfl
 rotate_left; · simp only [Act.put, setIfInBounds_toArray, set_cons_zero, set_cons_succ, i64_w, i32_w]; rfl
 refine pure_ (i := 6) (N := some 9) (v := ?_) (a' := ?_) #[true, true, true, false, true, true, true, false, false, false, false, false, false, false, false] rfl rfl (any_of HT_.out q2_10) (fun _ _ _ h => h) (Or.inl ⟨by rfl, ?_⟩) ?_ ?_
 rotate_left; · intro w'; go_simp; with_reducible rfl
 rotate_left; · simp only [Act.put, setIfInBounds_toArray, set_cons_zero, set_cons_succ, i64_w, i32_w]; rfl
 refine pure_ (i := 8) (N := some 11) (v := ?_) (a' := ?_) #[true, true, true, false, true, true, true, false, true, false, false, false, false, false, false] rfl rfl (any_of HT_.out q2_10) (fun _ _ _ h => h) (Or.inl ⟨by rfl, ?_⟩) ?_ ?_
 rotate_left; · intro w'; go_simp; with_reducible rfl
 rotate_left; · simp only [Act.put, setIfInBounds_toArray, set_cons_zero, set_cons_succ, i64_w, i32_w]; rfl
 refine pure_ (i := 9) (N := some 12) (v := ?_) (a' := ?_) #[true, true, true, false, true, true, true, false, true, true, false, false, false, false, false] rfl rfl (any_of HT_.out q2_10) (fun _ _ _ h => h) (Or.inl ⟨by rfl, ?_⟩) ?_ ?_
 rotate_left; · intro w'; go_simp; with_reducible rfl
 rotate_left; · simp only [Act.put, setIfInBounds_toArray, set_cons_zero, set_cons_succ, i64_w, i32_w]; rfl
 refine pure_ (i := 10) (N := some 13) (v := ?_) (a' := ?_) #[true, true, true, false, true, true, true, false, true, true, true, false, false, false, false] rfl rfl (any_of HT_.out q2_10) (fun _ _ _ h => h) (Or.inl ⟨by rfl, ?_⟩) ?_ ?_
 rotate_left; · intro w'; go_simp; with_reducible rfl
 rotate_left; · simp only [Act.put, setIfInBounds_toArray, set_cons_zero, set_cons_succ, i64_w, i32_w]; rfl
 refine take_ (i := 3) (N := some 6) (v := ?_) (a' := ?_) #[true, true, true, true, true, true, true, false, true, true, true, false, false, false, false] rfl rfl (take_ofW HT_.out HW_.out q2_10) (fun _ _ _ h => h) (Or.inl ⟨by rfl, ?_⟩) hHeld ?_ ?_
 rotate_left; · rintro w' ⟨s0, s1, s2⟩; go_simp; with_reducible rfl
 rotate_left; · simp only [Act.put, setIfInBounds_toArray, set_cons_zero, set_cons_succ, i64_w, i32_w]; rfl
 refine take_ (i := 7) (N := some 10) (v := ?_) (a' := ?_) #[true, true, true, true, true, true, true, true, true, true, true, false, false, false, false] rfl rfl (take_ofW HT_.out HW_.out q2_10) (fun _ _ _ h => h) (Or.inl ⟨by rfl, ?_⟩) hHeld ?_ ?_
 rotate_left; · rintro w' ⟨s0, s1, s2⟩; go_simp; with_reducible rfl
 rotate_left; · simp only [Act.put, setIfInBounds_toArray, set_cons_zero, set_cons_succ, i64_w, i32_w]; rfl
 refine take_ (i := 11) (N := some 14) (v := ?_) (a' := ?_) #[true, true, true, true, true, true, true, true, true, true, true, true, false, false, false] rfl rfl (take_ofW HT_.out HW_.out q2_10) (fun _ _ _ h => h) (Or.inl ⟨by rfl, ?_⟩) hHeld ?_ ?_
 rotate_left; · rintro w' ⟨s0, s1, s2⟩; go_simp; with_reducible rfl
 rotate_left; · simp only [Act.put, setIfInBounds_toArray, set_cons_zero, set_cons_succ, i64_w, i32_w]; rfl
 refine one_ (i := 12) (N := some 15) #[true, true, true, true, true, true, true, true, true, true, true, true, true, false, false] rfl rfl (one_of HT_.out q2_10) (by decide) (fun K hK => ?_)
 refine goes_ Try.func75 q2_10 rfl #[.slice Ao5 l0_2.length co5] (by rfl) rfl rfl q2_6 ?_
 with_reducible refine (api_Cell.calls _ _ l0_2 t107 _ ?side1 ?side2 A2.out).mono ?_
 (case side1 => repeat (first | exact (Kd.R_reads' HO0_2.out).2.2 | (with_reducible refine Kd.C_alloc ?_ _) | (with_reducible refine Kd.C_drewN ?_ _) | (with_reducible refine Kd.C_drew ?_)))
 (case side2 => exact (Kd.R_reads' HO0_2.out).2.1)
 rintro e w6 ⟨v108, rfl, ho0, hb⟩
 refine ⟨_, rfl, ?_⟩
 have n0_ := A2_ (Kd.R_elder' q2_12 (Kd.R_base ho0) hb)
 have n1_ := A2_ (Kd.R_lower (Kd.R_new' (Kd.R_newM (M := fun k_ => (P0_2_ k_ ∨ w.heap.size ≤ k_)) ho0 (by first | exact HK.out.1 | exact (show Kept w _ (fun k_ => (P0_2_ k_) ∨ k_ = g) from by repeat (first | (with_reducible first | exact HK.out | apply Kept.alloc | apply Kept.drewN | apply Kept.drew | refine Kept.setCell ?_ (.inl (.inr rfl)) _ | refine Kept.setCell ?_ (.inr GW106.out) _) | exact HK.out)).1) (fun k_ h_ => .inr h_)) (Kd.R_lt q2_12)) (below_size q2_13))
 have n2_ := A2_ (blk_below (g := g) (o := .cells #[.int .i64 a0_0, .int .i64 a0_1, .slice Ao5 l0_2.length co5] 112 (0, 0)) q2_7 hb)
 have n3_ := A2_ (blk_below (g := gb106) (o := .cells #[.int .i64 0, .int .i64 0, .slice none 0 0] 75 (0, 0)) (by (with_reducible repeat (first | refine blk_drewN ?_ _ | refine blk_drew ?_ | refine blk_alloc ?_ _)); exact BK106.out) hb)
 have n4_ := A2_ (Kept.below (S := (fun k_ => (P0_2_ k_) ∨ k_ = g)) (by repeat (first | (with_reducible first | exact HK.out | apply Kept.alloc | apply Kept.drewN | apply Kept.drew | refine Kept.setCell ?_ (.inl (.inr rfl)) _ | refine Kept.setCell ?_ (.inr GW106.out) _) | exact HK.out)) hb)
 have n5_ := A2_ (below_step q2_13 hb)
 clear HO0_2; clear BK0; clear BK106; clear HK; clear HB; have HO0_2 := n0_; have HO109 := n1_; have BK0 := n2_; have BK106 := n3_; have HK := n4_; have HB := n5_; clear n0_ n1_ n2_ n3_ n4_ n5_; (try clear hb); (try clear hb2); (try clear hk); (try clear hi); (try clear ho0)
 obtain ⟨Ao7, co7, eo7⟩ := Kd.R_slice HO109.out
 (first | subst eo7 | (injection eo7 with f1_ f2_ f3_; have f4_ := f1_.symm; have f5_ := f3_.symm; clear f1_ f2_ f3_; subst f4_; subst f5_))
 refine hK.out _ _ ⟨bc2_ BK0 0, bc2_ BK0 1, bc2_ BK0 2⟩ (fun hHeld => ?_)
 clear hK K
 refine norm_ (a' := ?_) ?_ ?_
 rotate_left; · show Act.put _ (some 15) _ = _; simp only [Act.put, setIfInBounds_toArray, set_cons_zero, set_cons_succ, i64_w, i32_w]; rfl
 refine pure_ (i := 13) (N := some 16) (v := ?_) (a' := ?_) #[true, true, true, true, true, true, true, true, true, true, true, true, true, true, false] rfl rfl (any_of HT_.out q2_10) (fun _ _ _ h => h) (Or.inl ⟨by rfl, ?_⟩) ?_ ?_
 rotate_left; · intro w'; go_simp; with_reducible rfl
 rotate_left; · simp only [Act.put, setIfInBounds_toArray, set_cons_zero, set_cons_succ, i64_w, i32_w]; rfl
 refine one_ (i := 14) (N := none) #[true, true, true, true, true, true, true, true, true, true, true, true, true, true, true] rfl rfl (one_of HT_.out q2_10) (by decide) (fun K hK => ?_)
 have hs8 : w6.cell? ⟨gb106, 0, none⟩ = some (.int .i64 0) := bc2_ BK106 0
 have hfs8 := blk_frozen BK106.out 0
 have hns8_0 := NB0_106.out
 have hms8_0 := NB106_0.out
 have hs9 : w6.cell? ⟨gb106, 1, none⟩ = some (.int .i64 0) := bc2_ BK106 1
 have hfs9 := blk_frozen BK106.out 1
 have hns9_0 := NB0_106.out
 have hms9_0 := NB106_0.out
 have hs10 : w6.cell? ⟨gb106, 2, none⟩ = some (.slice none 0 0) := bc2_ BK106 2
 have hfs10 := blk_frozen BK106.out 2
 have hns10_0 := NB0_106.out
 have hms10_0 := NB106_0.out
 refine skip_ (w1 := ?_) (by rfl) rfl ?_ ?_
 rotate_left; · go_simp; rfl
 refine hK.out _ _ ⟨((cell_far (p := ⟨gb106, _, none⟩) NB0_106.out _).trans (((cell_far (p := ⟨gb106, _, none⟩) NB0_106.out _).trans (((cell_far (p := ⟨gb106, _, none⟩) NB0_106.out _).trans (hHeld.1)))))), ((cell_far (p := ⟨gb106, _, none⟩) NB0_106.out _).trans (((cell_far (p := ⟨gb106, _, none⟩) NB0_106.out _).trans (((cell_far (p := ⟨gb106, _, none⟩) NB0_106.out _).trans (hHeld.2.1)))))), ((cell_far (p := ⟨gb106, _, none⟩) NB0_106.out _).trans (((cell_far (p := ⟨gb106, _, none⟩) NB0_106.out _).trans (((cell_far (p := ⟨gb106, _, none⟩) NB0_106.out _).trans (hHeld.2.2))))))⟩ (fun hHeld => ?_)
 clear hK K
 refine done_ (done_of HT_.out q2_10) ?_
 try go_wp2
 refine bodyPost_ret (results_cell_row rfl _ _ gb106 75 #[.int .i64 a0_0, .int .i64 a0_1, .slice Ao7 t107.length co7] (0, 0) _ rfl (by (with_reducible repeat (first | refine blk_drewN ?_ _ | refine blk_drew ?_ | refine blk_alloc ?_ _)); refine blk_put (cs := #[.int .i64 a0_0, .int .i64 a0_1, .slice none 0 0]) ?_ 2 _ rfl; (with_reducible repeat (first | refine blk_drewN ?_ _ | refine blk_drew ?_ | refine blk_alloc ?_ _)); refine blk_put (cs := #[.int .i64 a0_0, .int .i64 0, .slice none 0 0]) ?_ 1 _ rfl; (with_reducible repeat (first | refine blk_drewN ?_ _ | refine blk_drew ?_ | refine blk_alloc ?_ _)); refine blk_put (cs := #[.int .i64 0, .int .i64 0, .slice none 0 0]) ?_ 0 _ rfl; (with_reducible repeat (first | refine blk_drewN ?_ _ | refine blk_drew ?_ | refine blk_alloc ?_ _)); exact BK106.out) Try.underlying75 rfl q2_10) rfl ?_
 exact ⟨_, (.slice Ao5 l0_2.length co5), by first | rfl | (simp [errW_none, errW_some, ptrW_true, ptrW_false] <;> rfl) | (simp [*, errW_none, errW_some, ptrW_true, ptrW_false] <;> rfl), by (with_reducible repeat (first | apply Kd.R_alloc | apply Kd.R_drewN | apply Kd.R_drew)); exact Kd.R_mono (Kd.R_far (p := ⟨gb106, 2, none⟩) (Kd.R_far (p := ⟨gb106, 1, none⟩) (Kd.R_far (p := ⟨gb106, 0, none⟩) (Kd.R_types HO109.out BK106.out (by decide)) (fun _ hk => hk.2) (.int .i64 a0_0)) (fun _ hk => hk.2) (.int .i64 a0_1)) (fun _ hk => hk.2) (.slice Ao7 t107.length co7)) (fun _ hk => ⟨hk.1.1.1, hk.1.2⟩), by (with_reducible repeat (first | apply Kd.R_alloc | apply Kd.R_drewN | apply Kd.R_drew)); exact Kd.R_mono (Kd.R_far (p := ⟨gb106, 2, none⟩) (Kd.R_far (p := ⟨gb106, 1, none⟩) (Kd.R_far (p := ⟨gb106, 0, none⟩) (Kd.R_types HO0_2.out BK106.out (by decide)) (fun _ hk => hk.2) (.int .i64 a0_0)) (fun _ hk => hk.2) (.int .i64 a0_1)) (fun _ hk => hk.2) (.slice Ao7 t107.length co7)) (fun _ hk => ⟨hk.1.1, hk.1.2⟩), (by (with_reducible repeat (first | refine blk_drewN ?_ _ | refine blk_drew ?_ | refine blk_alloc ?_ _)); refine blk_far ?_ NB0_106.out _; (with_reducible repeat (first | refine blk_drewN ?_ _ | refine blk_drew ?_ | refine blk_alloc ?_ _)); refine blk_far ?_ NB0_106.out _; (with_reducible repeat (first | refine blk_drewN ?_ _ | refine blk_drew ?_ | refine blk_alloc ?_ _)); refine blk_far ?_ NB0_106.out _; (with_reducible repeat (first | refine blk_drewN ?_ _ | refine blk_drew ?_ | refine blk_alloc ?_ _)); exact BK0.out), by repeat (first | (with_reducible first | exact HB.out | apply below_alloc | apply pw_below_drewN | apply below_drew1 | refine below_set ?_ GE0.out | refine below_set ?_ GE106.out) | exact HB.out), by repeat (first | (with_reducible first | exact HK.out | apply Kept.alloc | apply Kept.drewN | apply Kept.drew | refine Kept.setCell ?_ (.inl (.inr rfl)) _ | refine Kept.setCell ?_ (.inr GW106.out) _) | exact HK.out)⟩

/-! ### grid_size: function 78 -/
def grid_size.f (a0 : Int) (a1 : Int) : Option (Bool) := if a0 ≥ 1 then (if a0 ≤ 60 then (if a1 ≥ 1 then (some (decide (a1 ≤ 132))) else (some false)) else (some false)) else (some false)
set_option maxHeartbeats 8000000 in
set_option maxRecDepth 100000 in
theorem grid_size.calls (a0 : Int) (a1 : Int) (r : Bool) (w : World) (h : grid_size.f a0 a1 = some r) :
  Calls Try.prog 78 #[.int .i64 a0, .int .i64 a1] w fun e w' => e = .returned (.bool r) ∧ Drawn0 w w' := by
 have H : (if a0 ≥ 1 then (if a0 ≤ 60 then (if a1 ≥ 1 then (some (decide (a1 ≤ 132))) else (some false)) else (some false)) else (some false)) = some r := h
 clear h
 by_cases c3 : a0 ≥ 1
 ·rw [if_pos c3] at H
  have c3b0 : decide (1 ≤ a0) = true := decide_eq_true c3
  clear c3
  by_cases c4 : a0 ≤ 60
  ·rw [if_pos c4] at H
   have c4b0 : decide (a0 ≤ 60) = true := decide_eq_true c4
   clear c4
   by_cases c5 : a1 ≥ 1
   ·rw [if_pos c5] at H
    have c5b0 : decide (1 ≤ a1) = true := decide_eq_true c5
    clear c5
    obtain rfl := Option.some.inj H
    go_enter Try.func78, Try.ntmps78
    go_wp2
    go_ret
    exact ⟨by first | rfl | (simp; done) | (simp [*]; done), by repeat (first | exact Drawn0.refl _ | apply Drawn0.step)⟩
   ·rw [if_neg c5] at H
    have c5b0 : decide (1 ≤ a1) = false := decide_eq_false c5
    clear c5
    obtain rfl := Option.some.inj H
    go_enter Try.func78, Try.ntmps78
    go_wp2
    go_ret
    exact ⟨by first | rfl | (simp; done) | (simp [*]; done), by repeat (first | exact Drawn0.refl _ | apply Drawn0.step)⟩
  ·rw [if_neg c4] at H
   have c4b0 : decide (a0 ≤ 60) = false := decide_eq_false c4
   clear c4
   obtain rfl := Option.some.inj H
   go_enter Try.func78, Try.ntmps78
   go_wp2
   go_ret
   exact ⟨by first | rfl | (simp; done) | (simp [*]; done), by repeat (first | exact Drawn0.refl _ | apply Drawn0.step)⟩
 ·rw [if_neg c3] at H
  have c3b0 : decide (1 ≤ a0) = false := decide_eq_false c3
  clear c3
  obtain rfl := Option.some.inj H
  go_enter Try.func78, Try.ntmps78
  go_wp2
  go_ret
  exact ⟨by first | rfl | (simp; done) | (simp [*]; done), by repeat (first | exact Drawn0.refl _ | apply Drawn0.step)⟩

/-! ### cell_Blank: function 34 -/
def cell_Blank.f (a0_0 : Int) (a0_1 : Int) (a0_2 : Int) : Option (Int × Int × Int × Int) := some (32, 0, a0_1, 0)
set_option maxHeartbeats 8000000 in
set_option maxRecDepth 100000 in
theorem cell_Blank.calls (a0_0 : Int) (a0_1 : Int) (a0_2 : Int) (r1 : Int) (r2 : Int) (r3 : Int) (r4 : Int) (w : World) (h : cell_Blank.f a0_0 a0_1 a0_2 = some (r1, r2, r3, r4)) :
  Calls Try.prog 34 #[.agg #[.int .i64 a0_0, .int .i64 a0_1, .int .i64 a0_2]] w fun e w' => e = .returned (.agg #[.int .i32 r1, .int .i64 r2, .int .i64 r3, .int .i64 r4]) ∧ Below w.heap.size w w' := by
 have hu51 := Try.underlying51
 have hu53 := Try.underlying53
 have HB := A2_ (Below.refl w.heap.size w)
 have H : (some (32, 0, a0_1, 0)) = some (r1, r2, r3, r4) := h
 clear h
 simp only [Option.some.injEq, Prod.mk.injEq] at H
 obtain ⟨rfl, rfl, rfl, rfl⟩ := H
 go_enter Try.func34, Try.ntmps34
 go_wp2_with (first | ((with_reducible refine gate_dst (N := 1) rfl ?_); refine box_event ?hg (N := 1) ?hd (cs := #[.int .i64 a0_0, .int .i64 a0_1, .int .i64 a0_2]) (t := 51) ?hr ?_; (case hd => rfl); (case hg => rfl); (case hr => first | (go_simp; done) | (go_simp; rfl)); intro gb110 hg w2 hbox hb; have n0_ := A2_ (below_step q2_3 hb); have n1_ := A2_ (hbox); have n2_ := A2_ ((by rw [hg]; exact (below_size q2_3) : w.heap.size ≤ gb110)); have n3_ := A2_ ((by rw [hg]; exact (below_size q2_3) : w.heap.size ≤ gb110)); clear HB; have HB := n0_; have BK110 := n1_; have GW110 := n2_; have GE110 := n3_; clear n0_ n1_ n2_ n3_; clear hb hbox hg) | ((with_reducible refine gate_dst (N := 2) rfl ?_); refine box_event ?hg (N := 2) ?hd (cs := #[.int .i32 0, .int .i64 0, .int .i64 0, .int .i64 0]) (t := 53) ?hr ?_; (case hd => rfl); (case hg => rfl); (case hr => first | (go_simp; done) | (go_simp; rfl)); intro gb111 hg w3 hbox hb; have n0_ := A2_ (blk_below (g := gb110) (o := .cells #[.int .i64 a0_0, .int .i64 a0_1, .int .i64 a0_2] 51 (0, 0)) q2_11 hb); have n1_ := A2_ (below_step q2_9 hb); have n2_ := A2_ (hbox); have n3_ := A2_ ((by rw [hg]; exact (below_size q2_9) : w.heap.size ≤ gb111)); have n4_ := A2_ ((by rw [hg]; exact (below_size q2_9) : w.heap.size ≤ gb111)); have n5_ := A2_ ((by rw [hg]; exact Nat.ne_of_lt (blk_lt (g := gb110) (o := .cells #[.int .i64 a0_0, .int .i64 a0_1, .int .i64 a0_2] 51 (0, 0)) q2_11) : gb110 ≠ gb111)); have n6_ := A2_ ((by rw [hg]; exact Nat.ne_of_gt (blk_lt (g := gb110) (o := .cells #[.int .i64 a0_0, .int .i64 a0_1, .int .i64 a0_2] 51 (0, 0)) q2_11) : gb111 ≠ gb110)); clear BK110 HB; have BK110 := n0_; have HB := n1_; have BK111 := n2_; have GW111 := n3_; have GE111 := n4_; have NB110_111 := n5_; have NB111_110 := n6_; clear n0_ n1_ n2_ n3_ n4_ n5_ n6_; clear hb hbox hg; have hnb4 := NB110_111.out; have hnc4 := NB111_110.out; have hcz5_0 : w3.cell? ⟨gb110, 0, none⟩ = some (.int .i64 a0_0) := bc2_ BK110 0; have hcz5_1 : w3.cell? ⟨gb110, 1, none⟩ = some (.int .i64 a0_1) := bc2_ BK110 1; have hcz5_2 : w3.cell? ⟨gb110, 2, none⟩ = some (.int .i64 a0_2) := bc2_ BK110 2; have hfz5_0 := blk_frozen BK110.out 0; have hfz5_1 := blk_frozen BK110.out 1; have hfz5_2 := blk_frozen BK110.out 2; have hcz6_0 : w3.cell? ⟨gb111, 0, none⟩ = some (.int .i32 0) := bc2_ BK111 0; have hcz6_1 : w3.cell? ⟨gb111, 1, none⟩ = some (.int .i64 0) := bc2_ BK111 1; have hcz6_2 : w3.cell? ⟨gb111, 2, none⟩ = some (.int .i64 0) := bc2_ BK111 2; have hcz6_3 : w3.cell? ⟨gb111, 3, none⟩ = some (.int .i64 0) := bc2_ BK111 3; have hfz6_0 := blk_frozen BK111.out 0; have hfz6_1 := blk_frozen BK111.out 1; have hfz6_2 := blk_frozen BK111.out 2; have hfz6_3 := blk_frozen BK111.out 3))
 refine bodyPost_ret (results_cell_row rfl _ _ gb111 53 #[.int .i32 32, .int .i64 0, .int .i64 a0_1, .int .i64 0] (0, 0) _ rfl (by (with_reducible repeat (first | refine blk_drewN ?_ _ | refine blk_drew ?_ | refine blk_alloc ?_ _)); refine blk_put (cs := #[.int .i32 32, .int .i64 0, .int .i64 a0_1, .int .i64 0]) ?_ 3 _ rfl; (with_reducible repeat (first | refine blk_drewN ?_ _ | refine blk_drew ?_ | refine blk_alloc ?_ _)); refine blk_put (cs := #[.int .i32 32, .int .i64 0, .int .i64 0, .int .i64 0]) ?_ 2 _ rfl; (with_reducible repeat (first | refine blk_drewN ?_ _ | refine blk_drew ?_ | refine blk_alloc ?_ _)); refine blk_put (cs := #[.int .i32 32, .int .i64 0, .int .i64 0, .int .i64 0]) ?_ 1 _ rfl; (with_reducible repeat (first | refine blk_drewN ?_ _ | refine blk_drew ?_ | refine blk_alloc ?_ _)); refine blk_put (cs := #[.int .i32 0, .int .i64 0, .int .i64 0, .int .i64 0]) ?_ 0 _ rfl; (with_reducible repeat (first | refine blk_drewN ?_ _ | refine blk_drew ?_ | refine blk_alloc ?_ _)); exact BK111.out) Try.underlying53 rfl q2_10) rfl ?_
 exact ⟨by first | rfl | (simp [errW_none, errW_some] <;> rfl) | (simp [*, errW_none, errW_some] <;> rfl), by repeat (first | (with_reducible first | exact HB.out | apply below_alloc | apply pw_below_drewN | apply below_drew1 | refine below_set ?_ GE110.out | refine below_set ?_ GE111.out) | exact HB.out)⟩

/-! ### grid_blanks: function 81 -/
def grid_blanks.l0 : Nat → List (S53) → Int → Int → Option ((List (S53)))
 | 0, _, _, _ => none
 | k + 1, x3, x8, x9 => if x9 < x8 then ((cell_Blank.f 0 0 0).bind fun bt115 => (if 0 ≤ x9 then (if x9 < (x3.length : Int) then (grid_blanks.l0 k (x3.set (x9 : Int).toNat (⟨bt115.1, (⟨bt115.2.1, bt115.2.2.1, bt115.2.2.2⟩ : S51)⟩ : S53)) x8 (wrap64 (x9 + 1))) else (none)) else (none))) else (some x3)
def grid_blanks.f (k : Nat) (a0 : Int) : Option ((List (S53))) := if 0 ≤ a0 then (if (a0 : Int).toNat ≤ 8796093022208 then ((some (List.replicate (a0 : Int).toNat z53 : List (S53))).bind fun y112 => (grid_blanks.l0 k y112 (y112.length : Int) 0)) else (none)) else (none)
theorem grid_blanks.mono_l : ∀ k, (∀ y0 y1 y2, LeO (grid_blanks.l0 k y0 y1 y2) (grid_blanks.l0 (k + 1) y0 y1 y2))
 | 0 => fun _ _ _ r h => by simp [grid_blanks.l0] at h
 | k + 1 => by
  have ih0 := grid_blanks.mono_l k
  ·intro y0 y1 y2
   unfold grid_blanks.l0
   repeat' first
   | (with_reducible exact ih0 _ _ _)
   | (with_reducible exact LeO.refl _)
   | (with_reducible exact LeO.none _)
   | (with_reducible refine LeO.ite ?_ ?_)
   | (with_reducible refine LeO.bind ?_ (fun _ => ?_))
   | exact ih0 _ _ _
   | exact LeO.none _
   | refine LeO.ite ?_ ?_
   | refine LeO.bind ?_ (fun _ => ?_)
theorem grid_blanks.mono : ∀ a0 k, LeO (grid_blanks.f k a0) (grid_blanks.f (k + 1) a0) := by
 intro a0 k
 have ih0 := grid_blanks.mono_l k
 unfold grid_blanks.f
 repeat' first
   | (with_reducible exact ih0 _ _ _)
   | (with_reducible exact LeO.refl _)
   | (with_reducible exact LeO.none _)
   | (with_reducible refine LeO.ite ?_ ?_)
   | (with_reducible refine LeO.bind ?_ (fun _ => ?_))
   | exact ih0 _ _ _
   | exact LeO.none _
   | refine LeO.ite ?_ ?_
   | refine LeO.bind ?_ (fun _ => ?_)
set_option maxHeartbeats 8000000 in
set_option maxRecDepth 100000 in
theorem grid_blanks.calls (k : Nat) (a0 : Int) (r : List (S53)) (w : World) (h : grid_blanks.f k a0 = some r) :
  Calls Try.prog 81 #[.int .i64 a0] w fun e w' => ∃ v0_ : Value, e = .returned (v0_) ∧ Kd.R k53 53 w' w.heap.size (fun _ => True) v0_ r ∧ Below w.heap.size w w' := by
 have hu51 := Try.underlying51
 have hu53 := Try.underlying53
 have HB := A2_ (Below.refl w.heap.size w)
 have H : (if 0 ≤ a0 then (if (a0 : Int).toNat ≤ 8796093022208 then ((some (List.replicate (a0 : Int).toNat z53 : List (S53))).bind fun y112 => (grid_blanks.l0 k y112 (y112.length : Int) 0)) else (none)) else (none)) = some r := h
 clear h
 by_cases c2 : 0 ≤ a0
 ·rw [if_pos c2] at H
  have c2b0 := eq_true c2
  have c2b1 : decide (0 ≤ a0) = true := decide_eq_true c2
  clear c2
  by_cases c3 : (a0 : Int).toNat ≤ 8796093022208
  ·rw [if_pos c3] at H
   have c3b0 := eq_true c3
   have c3b1 : decide ((a0 : Int).toNat ≤ 8796093022208) = true := decide_eq_true c3
   clear c3
   obtain ⟨y112, hy112⟩ : ∃ y_ : List (S53), y_ = (List.replicate (a0 : Int).toNat z53) := ⟨_, rfl⟩
   replace H : (grid_blanks.l0 k y112 (y112.length : Int) 0) = some r := by first | (rw [hy112]; with_reducible exact H) | (have H2_ := (Option.bind_some _ _).symm.trans H; rw [hy112]; with_reducible exact H2_) | (have H2_ := (Option.bind_some _ _).symm.trans H; with_reducible exact H2_) | with_reducible exact H | (rw [hy112]; exact H) | exact H
   have Ny112 := A2_ hy112
   clear hy112
   have H' := A2_ H
   clear H
   go_enter Try.func81, Try.ntmps81
   go_wp2_with (first | ((with_reducible refine gate_dst (N := 6) rfl ?_); refine Kd.R_make k53 _ 53 rfl (N := 6) rfl 47 _ _ rfl a0 rfl rfl Try.underlying47 (.agg #[(.int .i32 0), (.int .i64 0), (.int .i64 0), (.int .i64 0)]) 32 info53 rfl (by decide) (by omega) z53 (ok := fun _ => True) (okp := fun _ => True) (k53_mkM _ _ _ z53 ) (fun _ hk => hk) trivial (of_decide_eq_true q2_8) (Nat.le_trans (Nat.mul_le_mul_right _ (of_decide_eq_true q2_8 : a0.toNat ≤ 8796093022208)) (by omega)) (Below.refl _ _) (Nat.le_refl _) ?_; intro v113 w4 ho5 hb hg_ hnew_; clear hg_ hnew_; (first | rw [← Ny112.out] at ho5 | (simp only [Int.reduceToNat] at ho5; rw [← Ny112.out] at ho5)); have n0_ := A2_ (Kd.R_lower ho5 (below_size q2_3)); have n1_ := A2_ (below_step q2_3 hb); clear HB; have HO114 := n0_; have HB := n1_; clear n0_ n1_; clear hb ho5; obtain ⟨Ao6, co6, eo6⟩ := Kd.R_slice HO114.out; subst eo6))
   go_loopg [9] k (fun kq v9 w' => ∃ (x3_1 : List (S53)) (x9_1 : Int), v9 = .int .i64 x9_1 ∧ Aside0 (grid_blanks.l0 kq x3_1 (y112.length : Int) x9_1 = some r) ∧ Aside0 (kq ≤ k) ∧ Aside0 (Kd.R k53 53 w' w.heap.size (fun _ => True) (.slice Ao6 y112.length co6) x3_1) ∧ Aside0 (Below w.heap.size w w'))
   case atStart => exact ⟨(y112), (0), (by first | rfl | (simp; done) | (simp [*]; done)), H', ⟨Nat.le_refl _⟩, ⟨by (with_reducible repeat (first | apply Kd.R_alloc | apply Kd.R_drewN | apply Kd.R_drew)); exact HO114.out⟩, ⟨by repeat (first | (with_reducible first | exact HB.out | apply below_alloc | apply pw_below_drewN | apply below_drew1) | exact HB.out)⟩⟩
   case round =>
    clear H'
    try clear c2
    try clear c2b0
    try clear c2b1
    try clear p2
    try clear c3
    try clear c3b0
    try clear c3b1
    obtain ⟨x3_1, x9_1, rfl, HA, HK1, HO_3, HB⟩ := hrel
    have hl3_1 := (Kd.R_reads' HO_3.out).1
    rw [hl3_1] at HO_3
    (try simp only [hl3_1])
    cases gk with
    | zero => exact absurd HA.out (by simp [grid_blanks.l0])
    | succ k1 =>
     have H := HA.out
     clear HA
     simp only [grid_blanks.l0] at H
     by_cases c7 : x9_1 < (y112.length : Int)
     ·rw [if_pos c7] at H
      have c7b0 : decide (x9_1 < (y112.length : Int)) = true := decide_eq_true c7
      clear c7
      (try (have c7b0z := c7b0; simp only [hl3_1] at c7b0z))
      replace H := Option.bind_eq_some_iff.mp H
      obtain ⟨⟨t115, t116, t117, t118⟩, A80, H⟩ := H
      replace H : (if 0 ≤ x9_1 then (if x9_1 < (x3_1.length : Int) then (grid_blanks.l0 k1 (x3_1.set (x9_1 : Int).toNat (⟨t115, (⟨t116, t117, t118⟩ : S51)⟩ : S53)) (y112.length : Int) (wrap64 (x9_1 + 1))) else (none)) else (none)) = some r := H
      have A8 := A2_ A80
      clear A80
      by_cases c9 : 0 ≤ x9_1
      ·rw [if_pos c9] at H
       have c9b0 : decide (0 ≤ x9_1) = true := decide_eq_true c9
       clear c9
       by_cases c10 : x9_1 < (x3_1.length : Int)
       ·rw [if_pos c10] at H
        have c10b0 : decide (x9_1 < (x3_1.length : Int)) = true := decide_eq_true c10
        clear c10
        (try (have c10b0z := c10b0; simp only [hl3_1] at c10b0z))
        obtain ⟨y119, hy119⟩ : ∃ y_ : List (S53), y_ = (x3_1.set (x9_1 : Int).toNat (⟨t115, (⟨t116, t117, t118⟩ : S51)⟩ : S53)) := ⟨_, rfl⟩
        replace H : (grid_blanks.l0 k1 y119 (y112.length : Int) (wrap64 (x9_1 + 1))) = some r := by first | (rw [hy119]; with_reducible exact H) | (have H2_ := (Option.bind_some _ _).symm.trans H; rw [hy119]; with_reducible exact H2_) | (have H2_ := (Option.bind_some _ _).symm.trans H; with_reducible exact H2_) | with_reducible exact H | (rw [hy119]; exact H) | exact H
        have Ny119 := A2_ hy119
        clear hy119
        have H' := A2_ H
        clear H
        go_wp2_with (first | ((with_reducible refine gate_callee (f := 34) rfl ?_); refine goesL_ (some 15) rfl rfl Try.func34 q2_10 rfl #[.agg #[.int .i64 0, .int .i64 0, .int .i64 0]] rfl q2_6 ?_; (with_reducible refine (cell_Blank.calls 0 0 0 t115 t116 t117 t118 _ A8.out).mono ?_); rintro e w12 ⟨rfl, hb⟩; refine ⟨_, rfl, ?_⟩; have n0_ := A2_ (Kd.R_below (by (with_reducible repeat (first | apply Kd.R_alloc | apply Kd.R_drewN | apply Kd.R_drew)); exact HO_3.out) hb); have n1_ := A2_ (below_step q2_3 hb); clear HO_3 HB; have HO_3 := n0_; have HB := n1_; clear n0_ n1_; (try clear hb); (try clear hb2); (try clear hk); (try clear hi); have p11 : 0 ≤ (x9_1 : Int) := of_decide_eq_true q2_8; have q11 : (x9_1 : Int) < ((x3_1.length : Int) : Int) := of_decide_eq_true q2_8; obtain ⟨go11, co11, eo11, gb11, gl11, cl11, HG11⟩ := Kd.R_form HO_3.out (by omega); (first | cases eo11 | (injection eo11 with ea_ en_ ec_; (first | subst ea_ | (injection ea_ with ea_; subst ea_)); subst ec_; clear en_)); have GB11 := A2_ gb11; have GG11 := A2_ HG11; clear gb11 gl11 HG11; obtain ⟨ce11, hcl11, hM11, hcc11, hfr11⟩ := Kd.R_elem HO_3.out z53 (x9_1 : Int) p11 q11; obtain rfl := k53_openM hM11; have hx11_0 : w12.cell? ⟨go11, (x9_1 : Int).toNat * 4, none⟩ = some (.int .i32 ((rd_T53 x3_1 x9_1).f0)) := hcc11 0 _ rfl; have hx11_1 : w12.cell? ⟨go11, (x9_1 : Int).toNat * 4 + 1, none⟩ = some (.int .i64 ((rd_T53 x3_1 x9_1).f1.f0)) := hcc11 1 _ rfl; have hx11_2 : w12.cell? ⟨go11, (x9_1 : Int).toNat * 4 + 2, none⟩ = some (.int .i64 ((rd_T53 x3_1 x9_1).f1.f1)) := hcc11 2 _ rfl; have hx11_3 : w12.cell? ⟨go11, (x9_1 : Int).toNat * 4 + 3, none⟩ = some (.int .i64 ((rd_T53 x3_1 x9_1).f1.f2)) := hcc11 3 _ rfl; have hf11_0 : w12.frozen? ⟨go11, (x9_1 : Int).toNat * 4, none⟩ = false := hfr11 0; have hf11_1 : w12.frozen? ⟨go11, (x9_1 : Int).toNat * 4 + 1, none⟩ = false := hfr11 1; have hf11_2 : w12.frozen? ⟨go11, (x9_1 : Int).toNat * 4 + 2, none⟩ = false := hfr11 2; have hf11_3 : w12.frozen? ⟨go11, (x9_1 : Int).toNat * 4 + 3, none⟩ = false := hfr11 3; clear hcl11 hcc11 hfr11 hM11; replace p11 := eq_true p11; replace q11 := eq_true q11; have HX13 := A2_ (show Kd.R k53 53 w12 w.heap.size (fun _ => True) (.slice (some ⟨go11, 0, none⟩) x3_1.length co6) x3_1 from (by (with_reducible repeat (first | apply Kd.R_alloc | apply Kd.R_drewN | apply Kd.R_drew)); exact HO_3.out)); obtain ⟨ce13, hcl13, hM13, hcc13, hfr13⟩ := Kd.R_elem HX13.out z53 (x9_1 : Int) (of_decide_eq_true q2_8) (by have h_ : (x9_1 : Int) < ((x3_1.length : Int) : Int) := of_decide_eq_true q2_8; first | exact h_ | (have e_ := (Kd.R_reads' HO_3.out).1; omega) | simpa using h_); obtain rfl := k53_openM hM13; have HP13 := Kd.R_seg HX13.out (x9_1 : Int) (of_decide_eq_true q2_8) (by have h_ : (x9_1 : Int) < ((x3_1.length : Int) : Int) := of_decide_eq_true q2_8; first | exact h_ | (have e_ := (Kd.R_reads' HO_3.out).1; omega) | simpa using h_) (seg := [.int .i32 t115, .int .i64 t116, .int .i64 t117, .int .i64 t118]) (j := 0) hcl13 hcc13 (show 4 ≤ 4 from by decide) (x' := (⟨t115, (⟨t116, t117, t118⟩ : S51)⟩ : S53)) (k53_mkM _ _ _ (⟨t115, (⟨t116, t117, t118⟩ : S51)⟩ : S53) ) (fun _ hk => hk); have hx13_0 := hcc13 0 _ rfl; (try simp only [show (k53).sz = 4 from rfl, Nat.mul_one, Nat.add_zero] at hx13_0); have hf13_0 := hfr13 0; (try simp only [show (k53).sz = 4 from rfl, Nat.mul_one, Nat.add_zero] at hf13_0); have hx13_1 := hcc13 1 _ rfl; (try simp only [show (k53).sz = 4 from rfl, Nat.mul_one, Nat.add_zero] at hx13_1); have hf13_1 := hfr13 1; (try simp only [show (k53).sz = 4 from rfl, Nat.mul_one, Nat.add_zero] at hf13_1); have hx13_2 := hcc13 2 _ rfl; (try simp only [show (k53).sz = 4 from rfl, Nat.mul_one, Nat.add_zero] at hx13_2); have hf13_2 := hfr13 2; (try simp only [show (k53).sz = 4 from rfl, Nat.mul_one, Nat.add_zero] at hf13_2); have hx13_3 := hcc13 3 _ rfl; (try simp only [show (k53).sz = 4 from rfl, Nat.mul_one, Nat.add_zero] at hx13_3); have hf13_3 := hfr13 3; (try simp only [show (k53).sz = 4 from rfl, Nat.mul_one, Nat.add_zero] at hf13_3); clear hcl13 hcc13 hfr13 hM13) | ((with_reducible refine gate_store (t := 53) (p := 16) rfl ?_); refine store_event (t := 53) (p := 16) (v := ?vo_w14) (w1 := ((((w12.setCell ⟨go11, (x9_1 : Int).toNat * 4, none⟩ (.int .i32 t115)).setCell ⟨go11, (x9_1 : Int).toNat * 4 + 1, none⟩ (.int .i64 t116)).setCell ⟨go11, (x9_1 : Int).toNat * 4 + 2, none⟩ (.int .i64 t117)).setCell ⟨go11, (x9_1 : Int).toNat * 4 + 3, none⟩ (.int .i64 t118))) ?hg ?ho ?hn ?hr ?_; (case ho => rfl); (case hg => rfl); (case hn => rfl); (case hr => first | (go_simp; done) | (go_simp; rfl)); intro w14 hw; have hg : w12.grownBy w14 (some go11) := (by rw [hw]; exact HP13.2); have hp_ : Kd.R k53 53 w14 w.heap.size (fun _ => True) (.slice (some ⟨go11, 0, none⟩) x3_1.length co6) y119 := (by rw [hw, Ny119.out]; exact HP13.1); clear HP13; have n0_ := A2_ (hp_); have n1_ := A2_ ((by rw [hw]; exact below_set (below_set (below_set (below_set (HB.out) GB11.out) GB11.out) GB11.out) GB11.out : Below w.heap.size w w14)); clear HO_3 HB; have HO_3 := n0_; have HB := n1_; clear n0_ n1_; clear hg hw hp_))
        (try simp only [← hl3_1])
        go_roundg k1
        case measure => have := HK1.out; omega
        case rel => exact ⟨(y119), (wrap64 (x9_1 + 1)), (by first | rfl | (simp; done) | (simp [*]; done)), H', ⟨by have := HK1.out; omega⟩, ⟨by (try simp only [hl3_1]); (with_reducible repeat (first | apply Kd.R_alloc | apply Kd.R_drewN | apply Kd.R_drew)); exact HO_3.out⟩, ⟨by repeat (first | (with_reducible first | exact HB.out | apply below_alloc | apply pw_below_drewN | apply below_drew1) | exact HB.out)⟩⟩
       ·rw [if_neg c10] at H
        exact absurd H (by simp)
      ·rw [if_neg c9] at H
       exact absurd H (by simp)
     ·rw [if_neg c7] at H
      have c7b0 : decide (x9_1 < (y112.length : Int)) = false := decide_eq_false c7
      clear c7
      (try (have c7b0z := c7b0; simp only [hl3_1] at c7b0z))
      obtain rfl := Option.some.inj H
      go_wp2
      go_ret
      exact ⟨_, by first | rfl | (simp [errW_none, errW_some] <;> rfl) | (simp [*, errW_none, errW_some] <;> rfl), by (with_reducible repeat (first | apply Kd.R_alloc | apply Kd.R_drewN | apply Kd.R_drew)); exact HO_3.out, by repeat (first | (with_reducible first | exact HB.out | apply below_alloc | apply pw_below_drewN | apply below_drew1) | exact HB.out)⟩
  ·rw [if_neg c3] at H
   exact absurd H (by simp)
 ·rw [if_neg c2] at H
  exact absurd H (by simp)

/-! ### grid_New: function 59 -/
def grid_New.f (k : Nat) (a0 : Int) (a1 : Int) : Option (Bool × Int × Int × (List (S53)) × Int) := (grid_size.f a0 a1).bind fun t120 => (if t120 = true then ((grid_blanks.f k (wrap64 (a0 * a1))).bind fun t121 => (some (true, a0, a1, t121, 0))) else (some (false, 0, 0, ([] : List (S53)), 22)))
theorem grid_New.mono : ∀ a0 a1 k, LeO (grid_New.f k a0 a1) (grid_New.f (k + 1) a0 a1) := by
 intro a0 a1 k
 unfold grid_New.f
 repeat' first
   | (with_reducible exact grid_blanks.mono _ _)
   | (with_reducible exact LeO.refl _)
   | (with_reducible exact LeO.none _)
   | (with_reducible refine LeO.ite ?_ ?_)
   | (with_reducible refine LeO.bind ?_ (fun _ => ?_))
   | exact grid_blanks.mono _ _
   | exact LeO.none _
   | refine LeO.ite ?_ ?_
   | refine LeO.bind ?_ (fun _ => ?_)
set_option maxHeartbeats 8000000 in
set_option maxRecDepth 100000 in
theorem grid_New.calls (k : Nat) (a0 : Int) (a1 : Int) (r1 : Bool) (r2 : Int) (r3 : Int) (r4 : List (S53)) (r5 : Int) (w : World) (h : grid_New.f k a0 a1 = some (r1, r2, r3, r4, r5)) :
  Calls Try.prog 59 #[.int .i64 a0, .int .i64 a1] w fun e w' => ∃ v3_ : Value, ∃ g_ : Nat, Aside0 (e = .returned (.tuple #[(ptrW r1 g_), .int .i64 r5]) ∧ Kd.R k53 53 w' w.heap.size (fun _ => True) v3_ r4 ∧ (r1 = true → w'.heap[g_]? = some (.cells #[.int .i64 r2, .int .i64 r3, v3_] 112 (0, 0))) ∧ w.heap.size ≤ g_ ∧ Below w.heap.size w w') := by
 have hu112 := Try.underlying112
 have HB := A2_ (Below.refl w.heap.size w)
 have H : ((grid_size.f a0 a1).bind fun t120 => (if t120 = true then ((grid_blanks.f k (wrap64 (a0 * a1))).bind fun t121 => (some (true, a0, a1, t121, 0))) else (some (false, 0, 0, ([] : List (S53)), 22)))) = some (r1, r2, r3, r4, r5) := h
 clear h
 replace H := Option.bind_eq_some_iff.mp H
 obtain ⟨t120, A30, H⟩ := H
 replace H : (if t120 = true then ((grid_blanks.f k (wrap64 (a0 * a1))).bind fun t121 => (some (true, a0, a1, t121, 0))) else (some (false, 0, 0, ([] : List (S53)), 22))) = some (r1, r2, r3, r4, r5) := H
 have A3 := A2_ A30
 clear A30
 by_cases c4 : t120 = true
 ·subst c4
  have H1 : ((grid_blanks.f k (wrap64 (a0 * a1))).bind fun t121 => (some (true, a0, a1, t121, 0))) = some (r1, r2, r3, r4, r5) := by rw [if_pos rfl] at H; exact H
  clear H; have H := H1; clear H1
  replace H := Option.bind_eq_some_iff.mp H
  obtain ⟨t121, A50, H⟩ := H
  replace H : (some (true, a0, a1, t121, 0)) = some (r1, r2, r3, r4, r5) := H
  have A5 := A2_ A50
  clear A50
  simp only [Option.some.injEq, Prod.mk.injEq] at H
  obtain ⟨rfl, rfl, rfl, rfl, rfl⟩ := H
  go_enter Try.func59, Try.ntmps59
  go_wp2_with (first | ((with_reducible refine gate_callee (f := 78) rfl ?_); refine goesL_ (some 8) rfl rfl Try.func78 q2_10 rfl #[.int .i64 a0, .int .i64 a1] rfl q2_6 ?_; (with_reducible refine (grid_size.calls a0 a1 true _ A3.out).mono ?_); rintro e w' ⟨rfl, ⟨nd, rfl⟩⟩; refine ⟨_, rfl, ?_⟩) | ((with_reducible refine gate_callee (f := 81) rfl ?_); refine goesL_ (some 15) rfl rfl Try.func81 q2_10 rfl #[.int .i64 (wrap64 (a0 * a1))] rfl q2_6 ?_; (with_reducible refine (grid_blanks.calls k (wrap64 (a0 * a1)) t121 _ A5.out).mono ?_); rintro e w6 ⟨v122, rfl, ho0, hb⟩; refine ⟨_, rfl, ?_⟩; have n0_ := A2_ (Kd.R_lower ho0 (below_size q2_3)); have n1_ := A2_ (below_step q2_3 hb); clear HB; have HO123 := n0_; have HB := n1_; clear n0_ n1_; (try clear hb); (try clear hb2); (try clear hk); (try clear hi); (try clear ho0); obtain ⟨Ao7, co7, eo7⟩ := Kd.R_slice HO123.out; subst eo7) | ((with_reducible refine gate_dst (N := 17) rfl ?_); refine box_event ?hg (N := 17) ?hd (cs := #[.int .i64 a0, .int .i64 a1, .slice Ao7 t121.length co7]) (t := 112) ?hr ?_; (case hd => rfl); (case hg => rfl); (case hr => first | (go_simp; done) | (go_simp; rfl)); intro gb124 hg w8 hbox hb; have n0_ := A2_ (Kd.R_below (by (with_reducible repeat (first | apply Kd.R_alloc | apply Kd.R_drewN | apply Kd.R_drew)); exact HO123.out) hb); have n1_ := A2_ (below_step q2_3 hb); have n2_ := A2_ (hbox); have n3_ := A2_ ((by rw [hg]; exact (below_size q2_3) : w.heap.size ≤ gb124)); have n4_ := A2_ ((by rw [hg]; exact (below_size q2_3) : w.heap.size ≤ gb124)); clear HO123 HB; have HO123 := n0_; have HB := n1_; have BK124 := n2_; have GW124 := n3_; have GE124 := n4_; clear n0_ n1_ n2_ n3_ n4_; clear hb hbox hg))
  go_ret2
  exact ⟨(.slice Ao7 t121.length co7), gb124, by first | rfl | (simp [errW_none, errW_some, ptrW_true, ptrW_false] <;> rfl) | (simp [*, errW_none, errW_some, ptrW_true, ptrW_false] <;> rfl), by (with_reducible repeat (first | apply Kd.R_alloc | apply Kd.R_drewN | apply Kd.R_drew)); exact HO123.out, (fun _ => (by (with_reducible repeat (first | refine blk_drewN ?_ _ | refine blk_drew ?_ | refine blk_alloc ?_ _)); exact BK124.out)), GW124.out, by repeat (first | (with_reducible first | exact HB.out | apply below_alloc | apply pw_below_drewN | apply below_drew1 | refine below_set ?_ GE124.out) | exact HB.out)⟩
 ·replace c4 := Bool.eq_false_iff.mpr c4
  subst c4
  have H1 : (some (false, 0, 0, ([] : List (S53)), 22)) = some (r1, r2, r3, r4, r5) := by rw [if_neg (show ¬ (false = true) by decide)] at H; exact H
  clear H; have H := H1; clear H1
  simp only [Option.some.injEq, Prod.mk.injEq] at H
  obtain ⟨rfl, rfl, rfl, rfl, rfl⟩ := H
  go_enter Try.func59, Try.ntmps59
  go_wp2_with (first | ((with_reducible refine gate_callee (f := 78) rfl ?_); refine goesL_ (some 8) rfl rfl Try.func78 q2_10 rfl #[.int .i64 a0, .int .i64 a1] rfl q2_6 ?_; (with_reducible refine (grid_size.calls a0 a1 false _ A3.out).mono ?_); rintro e w' ⟨rfl, ⟨nd, rfl⟩⟩; refine ⟨_, rfl, ?_⟩))
  go_ret2
  exact ⟨(.slice none 0 0), w.heap.size, by first | rfl | (simp [errW_none, errW_some, ptrW_true, ptrW_false] <;> rfl) | (simp [*, errW_none, errW_some, ptrW_true, ptrW_false] <;> rfl), by first | exact Kd.R_nil _ _ _ _ _ | exact Kd.N_nil _ _ _ _ _ | exact Kd.V_nil _ _ _ _ _ | exact Kd.Q_nil _ _ _ _ _ | exact Kd.S_nil _ _ _ _ _, (fun h_ => absurd h_ (by decide)), Nat.le_refl _, by repeat (first | (with_reducible first | exact HB.out | apply below_alloc | apply pw_below_drewN | apply below_drew1) | exact HB.out)⟩

/-! ### runes_Bytes: function 19 (by hand) -/
def enc8 (c : Int) : List Int := (Utf8.encode c).data.toList.map (fun b => (b.toNat : Int))
def runes_Bytes.f (a0 : Int) : Option (List Int) := some (enc8 (if a0 < 0 ∨ a0 > 1114111 ∨ (a0 ≥ 55296 ∧ a0 ≤ 57343) then 65533 else a0))
/-- A text turned into bytes: a new row that is only read from there on. -/
theorem bytes_V (w : World) (e : TypeId) (s : ByteArray) (hm : s.size ≤ 9223372036854775807) : Kd.V (Kd.int .u8) e (Lib.bytesWorld w e s) w.heap.size (fun k_ => (w.heap.size ≤ k_)) (.slice (some ⟨w.heap.size, 0, none⟩) s.size (grownCap w s.size 0 e)) (s.data.toList.map (fun b => (b.toNat : Int))) := by
 have hl : (s.data.toList.map (fun b => (b.toNat : Int))).length = s.size := by simp
 refine ⟨some ⟨w.heap.size, 0, none⟩, grownCap w s.size 0 e, by rw [hl], by rw [hl]; exact grownCap_ge _ _ _ _, fun W' hW => ?_⟩
 have hb : W'.heap[w.heap.size]? = (Lib.bytesWorld w e s).heap[w.heap.size]? := hW w.heap.size (Nat.le_refl _) (by rw [Lib.bytesWorld_size]; omega)
 rw [hl]
 refine ⟨hl, hm, fun _ => ⟨_, rfl, fun j p hj => ⟨[.int .u8 p], rfl, rfl, fun i u hi => ?_⟩⟩⟩
 have hi0 : i = 0 := by
  have := (List.getElem?_eq_some_iff.1 hi).1
  simp at this
  omega
 subst hi0
 have hu : Value.int .u8 p = u := by simpa using hi
 subst hu
 have hjl : j < s.size := by
  have := (List.getElem?_eq_some_iff.1 hj).1
  rwa [hl] at this
 have hp : ((s.data.toList.getD j 0).toNat : Int) = p := by
  rw [List.getElem?_map] at hj
  have hjd : j < s.data.toList.length := by simpa using hjl
  rw [List.getElem?_eq_getElem hjd] at hj
  rw [List.getD_eq_getElem?_getD, List.getElem?_eq_getElem hjd]
  simpa using hj
 have h1 : (Addr.mk w.heap.size 0 none).add (j * (Kd.int .u8).sz + 0) = ⟨w.heap.size, j, none⟩ := by rw [add_plain]; show (⟨_, j * 1 + 0, none⟩ : Addr) = _; rw [Nat.mul_one, Nat.add_zero]
 rw [h1, ← hp, ← Lib.bytesWorld_cell w e s j hjl]
 simp only [World.cell?]
 rw [hb]
theorem enc8_size (c : Int) : (Utf8.encode c).size ≤ 4 := by
 unfold Utf8.encode
 generalize (if Utf8.valid c = true then c.toNat else Utf8.runeError) = n
 dsimp only
 split
 ·show 1 ≤ 4; omega
 ·split
  ·show 2 ≤ 4; omega
  ·split
   ·show 3 ≤ 4; omega
   ·show 4 ≤ 4; omega
set_option maxHeartbeats 8000000 in
set_option maxRecDepth 100000 in
theorem runes_Bytes.calls (a0 : Int) (r : List Int) (w : World) (h : runes_Bytes.f a0 = some r) :
  Calls Try.prog 19 #[.int .i32 a0] w fun e w' => ∃ v0_ : Value, e = .returned (v0_) ∧ Kd.V (Kd.int .u8) 5 w' w.heap.size (fun k_ => (w.heap.size ≤ k_)) v0_ r ∧ Below w.heap.size w w' := by
 obtain rfl := Option.some.inj h
 clear h
 have kc := fun (W : World) (s : ByteArray) => Lib.run_convert_string_bytes (P := Try.prog) W 9 22 5 s Try.underlying9 Try.underlying22 Try.underlying5
 have hV := fun c : Int => bytes_V w 5 (Utf8.encode c) (Nat.le_trans (enc8_size c) (by decide))
 have hV2 := A2_ hV
 clear hV
 have hB := A2_ (fun c : Int => (⟨rfl, rfl, rfl, by rw [Lib.bytesWorld_size]; omega, fun k hk => Lib.bytesWorld_at_old w 5 (Utf8.encode c) k hk⟩ : Below w.heap.size w (Lib.bytesWorld w 5 (Utf8.encode c))))
 have ks := fun (W : World) (c : Int) => run_convert_int_string (P := Try.prog) W 21 9 .i32 c (by rw [Try.underlying21]; rfl) Try.underlying9
 by_cases c1 : a0 < 0
 ·rw [if_pos (.inl c1)]
  have b1 : decide (a0 < 0) = true := decide_eq_true c1
  clear c1
  go_enter Try.func19, Try.ntmps19
  go_wp2
  go_ret
  exact ⟨_, rfl, hV2.out 65533, hB.out 65533⟩
 ·by_cases c2 : a0 > 1114111
  ·rw [if_pos (.inr (.inl c2))]
   have b1 : decide (a0 < 0) = false := decide_eq_false c1
   have b2 : decide (1114111 < a0) = true := decide_eq_true c2
   clear c1 c2
   go_enter Try.func19, Try.ntmps19
   go_wp2
   go_ret
   exact ⟨_, rfl, hV2.out 65533, hB.out 65533⟩
  ·by_cases c3 : a0 ≥ 55296
   ·by_cases c4 : a0 ≤ 57343
    ·rw [if_pos (.inr (.inr ⟨c3, c4⟩))]
     have b1 : decide (a0 < 0) = false := decide_eq_false c1
     have b2 : decide (1114111 < a0) = false := decide_eq_false c2
     have b3 : decide (55296 ≤ a0) = true := decide_eq_true c3
     have b4 : decide (a0 ≤ 57343) = true := decide_eq_true c4
     clear c1 c2 c3 c4
     go_enter Try.func19, Try.ntmps19
     go_wp2
     go_ret
     exact ⟨_, rfl, hV2.out 65533, hB.out 65533⟩
    ·rw [if_neg (by omega)]
     have b1 : decide (a0 < 0) = false := decide_eq_false c1
     have b2 : decide (1114111 < a0) = false := decide_eq_false c2
     have b3 : decide (55296 ≤ a0) = true := decide_eq_true c3
     have b4 : decide (a0 ≤ 57343) = false := decide_eq_false c4
     clear c1 c2 c3 c4
     go_enter Try.func19, Try.ntmps19
     go_wp2
     go_ret
     exact ⟨_, rfl, hV2.out a0, hB.out a0⟩
   ·rw [if_neg (by omega)]
    have b1 : decide (a0 < 0) = false := decide_eq_false c1
    have b2 : decide (1114111 < a0) = false := decide_eq_false c2
    have b3 : decide (55296 ≤ a0) = false := decide_eq_false c3
    clear c1 c2 c3
    go_enter Try.func19, Try.ntmps19
    go_wp2
    go_ret
    exact ⟨_, rfl, hV2.out a0, hB.out a0⟩

/-! ### cell_Pen: function 37 -/
def cell_Pen.f (a0_0 : Int) (a0_1 : Int) (a0_2 : Int) : Option (Bool) := if a0_0 ≥ 0 then (if a0_0 ≤ 256 then (if a0_1 ≥ 0 then (if a0_1 ≤ 256 then (if a0_2 ≥ 0 then (some (decide (a0_2 < 128))) else (some false)) else (some false)) else (some false)) else (some false)) else (some false)
set_option maxHeartbeats 8000000 in
set_option maxRecDepth 100000 in
theorem cell_Pen.calls (a0_0 : Int) (a0_1 : Int) (a0_2 : Int) (r : Bool) (w : World) (h : cell_Pen.f a0_0 a0_1 a0_2 = some r) :
  Calls Try.prog 37 #[.agg #[.int .i64 a0_0, .int .i64 a0_1, .int .i64 a0_2]] w fun e w' => e = .returned (.bool r) ∧ Below w.heap.size w w' := by
 have hu51 := Try.underlying51
 have HB := A2_ (Below.refl w.heap.size w)
 have H : (if a0_0 ≥ 0 then (if a0_0 ≤ 256 then (if a0_1 ≥ 0 then (if a0_1 ≤ 256 then (if a0_2 ≥ 0 then (some (decide (a0_2 < 128))) else (some false)) else (some false)) else (some false)) else (some false)) else (some false)) = some r := h
 clear h
 by_cases c2 : a0_0 ≥ 0
 ·rw [if_pos c2] at H
  have c2b0 : decide (0 ≤ a0_0) = true := decide_eq_true c2
  clear c2
  by_cases c3 : a0_0 ≤ 256
  ·rw [if_pos c3] at H
   have c3b0 : decide (a0_0 ≤ 256) = true := decide_eq_true c3
   clear c3
   by_cases c4 : a0_1 ≥ 0
   ·rw [if_pos c4] at H
    have c4b0 : decide (0 ≤ a0_1) = true := decide_eq_true c4
    clear c4
    by_cases c5 : a0_1 ≤ 256
    ·rw [if_pos c5] at H
     have c5b0 : decide (a0_1 ≤ 256) = true := decide_eq_true c5
     clear c5
     by_cases c6 : a0_2 ≥ 0
     ·rw [if_pos c6] at H
      have c6b0 : decide (0 ≤ a0_2) = true := decide_eq_true c6
      clear c6
      obtain rfl := Option.some.inj H
      go_enter Try.func37, Try.ntmps37
      go_wp2_with (first | ((with_reducible refine gate_dst (N := 1) rfl ?_); refine box_event ?hg (N := 1) ?hd (cs := #[.int .i64 a0_0, .int .i64 a0_1, .int .i64 a0_2]) (t := 51) ?hr ?_; (case hd => rfl); (case hg => rfl); (case hr => first | (go_simp; done) | (go_simp; rfl)); intro gb125 hg w7 hbox hb; have n0_ := A2_ (below_step q2_3 hb); have n1_ := A2_ (hbox); have n2_ := A2_ ((by rw [hg]; exact (below_size q2_3) : w.heap.size ≤ gb125)); have n3_ := A2_ ((by rw [hg]; exact (below_size q2_3) : w.heap.size ≤ gb125)); clear HB; have HB := n0_; have BK125 := n1_; have GW125 := n2_; have GE125 := n3_; clear n0_ n1_ n2_ n3_; clear hb hbox hg; have hcz8_0 : w7.cell? ⟨gb125, 0, none⟩ = some (.int .i64 a0_0) := bc2_ BK125 0; have hcz8_1 : w7.cell? ⟨gb125, 1, none⟩ = some (.int .i64 a0_1) := bc2_ BK125 1; have hcz8_2 : w7.cell? ⟨gb125, 2, none⟩ = some (.int .i64 a0_2) := bc2_ BK125 2; have hfz8_0 := blk_frozen BK125.out 0; have hfz8_1 := blk_frozen BK125.out 1; have hfz8_2 := blk_frozen BK125.out 2))
      go_ret
      exact ⟨by first | rfl | (simp [errW_none, errW_some] <;> rfl) | (simp [*, errW_none, errW_some] <;> rfl), by repeat (first | (with_reducible first | exact HB.out | apply below_alloc | apply pw_below_drewN | apply below_drew1 | refine below_set ?_ GE125.out) | exact HB.out)⟩
     ·rw [if_neg c6] at H
      have c6b0 : decide (0 ≤ a0_2) = false := decide_eq_false c6
      clear c6
      obtain rfl := Option.some.inj H
      go_enter Try.func37, Try.ntmps37
      go_wp2_with (first | ((with_reducible refine gate_dst (N := 1) rfl ?_); refine box_event ?hg (N := 1) ?hd (cs := #[.int .i64 a0_0, .int .i64 a0_1, .int .i64 a0_2]) (t := 51) ?hr ?_; (case hd => rfl); (case hg => rfl); (case hr => first | (go_simp; done) | (go_simp; rfl)); intro gb125 hg w9 hbox hb; have n0_ := A2_ (below_step q2_3 hb); have n1_ := A2_ (hbox); have n2_ := A2_ ((by rw [hg]; exact (below_size q2_3) : w.heap.size ≤ gb125)); have n3_ := A2_ ((by rw [hg]; exact (below_size q2_3) : w.heap.size ≤ gb125)); clear HB; have HB := n0_; have BK125 := n1_; have GW125 := n2_; have GE125 := n3_; clear n0_ n1_ n2_ n3_; clear hb hbox hg; have hcz10_0 : w9.cell? ⟨gb125, 0, none⟩ = some (.int .i64 a0_0) := bc2_ BK125 0; have hcz10_1 : w9.cell? ⟨gb125, 1, none⟩ = some (.int .i64 a0_1) := bc2_ BK125 1; have hcz10_2 : w9.cell? ⟨gb125, 2, none⟩ = some (.int .i64 a0_2) := bc2_ BK125 2; have hfz10_0 := blk_frozen BK125.out 0; have hfz10_1 := blk_frozen BK125.out 1; have hfz10_2 := blk_frozen BK125.out 2))
      go_ret
      exact ⟨by first | rfl | (simp [errW_none, errW_some] <;> rfl) | (simp [*, errW_none, errW_some] <;> rfl), by repeat (first | (with_reducible first | exact HB.out | apply below_alloc | apply pw_below_drewN | apply below_drew1 | refine below_set ?_ GE125.out) | exact HB.out)⟩
    ·rw [if_neg c5] at H
     have c5b0 : decide (a0_1 ≤ 256) = false := decide_eq_false c5
     clear c5
     obtain rfl := Option.some.inj H
     go_enter Try.func37, Try.ntmps37
     go_wp2_with (first | ((with_reducible refine gate_dst (N := 1) rfl ?_); refine box_event ?hg (N := 1) ?hd (cs := #[.int .i64 a0_0, .int .i64 a0_1, .int .i64 a0_2]) (t := 51) ?hr ?_; (case hd => rfl); (case hg => rfl); (case hr => first | (go_simp; done) | (go_simp; rfl)); intro gb125 hg w11 hbox hb; have n0_ := A2_ (below_step q2_3 hb); have n1_ := A2_ (hbox); have n2_ := A2_ ((by rw [hg]; exact (below_size q2_3) : w.heap.size ≤ gb125)); have n3_ := A2_ ((by rw [hg]; exact (below_size q2_3) : w.heap.size ≤ gb125)); clear HB; have HB := n0_; have BK125 := n1_; have GW125 := n2_; have GE125 := n3_; clear n0_ n1_ n2_ n3_; clear hb hbox hg; have hcz12_0 : w11.cell? ⟨gb125, 0, none⟩ = some (.int .i64 a0_0) := bc2_ BK125 0; have hcz12_1 : w11.cell? ⟨gb125, 1, none⟩ = some (.int .i64 a0_1) := bc2_ BK125 1; have hcz12_2 : w11.cell? ⟨gb125, 2, none⟩ = some (.int .i64 a0_2) := bc2_ BK125 2; have hfz12_0 := blk_frozen BK125.out 0; have hfz12_1 := blk_frozen BK125.out 1; have hfz12_2 := blk_frozen BK125.out 2))
     go_ret
     exact ⟨by first | rfl | (simp [errW_none, errW_some] <;> rfl) | (simp [*, errW_none, errW_some] <;> rfl), by repeat (first | (with_reducible first | exact HB.out | apply below_alloc | apply pw_below_drewN | apply below_drew1 | refine below_set ?_ GE125.out) | exact HB.out)⟩
   ·rw [if_neg c4] at H
    have c4b0 : decide (0 ≤ a0_1) = false := decide_eq_false c4
    clear c4
    obtain rfl := Option.some.inj H
    go_enter Try.func37, Try.ntmps37
    go_wp2_with (first | ((with_reducible refine gate_dst (N := 1) rfl ?_); refine box_event ?hg (N := 1) ?hd (cs := #[.int .i64 a0_0, .int .i64 a0_1, .int .i64 a0_2]) (t := 51) ?hr ?_; (case hd => rfl); (case hg => rfl); (case hr => first | (go_simp; done) | (go_simp; rfl)); intro gb125 hg w13 hbox hb; have n0_ := A2_ (below_step q2_3 hb); have n1_ := A2_ (hbox); have n2_ := A2_ ((by rw [hg]; exact (below_size q2_3) : w.heap.size ≤ gb125)); have n3_ := A2_ ((by rw [hg]; exact (below_size q2_3) : w.heap.size ≤ gb125)); clear HB; have HB := n0_; have BK125 := n1_; have GW125 := n2_; have GE125 := n3_; clear n0_ n1_ n2_ n3_; clear hb hbox hg; have hcz14_0 : w13.cell? ⟨gb125, 0, none⟩ = some (.int .i64 a0_0) := bc2_ BK125 0; have hcz14_1 : w13.cell? ⟨gb125, 1, none⟩ = some (.int .i64 a0_1) := bc2_ BK125 1; have hcz14_2 : w13.cell? ⟨gb125, 2, none⟩ = some (.int .i64 a0_2) := bc2_ BK125 2; have hfz14_0 := blk_frozen BK125.out 0; have hfz14_1 := blk_frozen BK125.out 1; have hfz14_2 := blk_frozen BK125.out 2))
    go_ret
    exact ⟨by first | rfl | (simp [errW_none, errW_some] <;> rfl) | (simp [*, errW_none, errW_some] <;> rfl), by repeat (first | (with_reducible first | exact HB.out | apply below_alloc | apply pw_below_drewN | apply below_drew1 | refine below_set ?_ GE125.out) | exact HB.out)⟩
  ·rw [if_neg c3] at H
   have c3b0 : decide (a0_0 ≤ 256) = false := decide_eq_false c3
   clear c3
   obtain rfl := Option.some.inj H
   go_enter Try.func37, Try.ntmps37
   go_wp2_with (first | ((with_reducible refine gate_dst (N := 1) rfl ?_); refine box_event ?hg (N := 1) ?hd (cs := #[.int .i64 a0_0, .int .i64 a0_1, .int .i64 a0_2]) (t := 51) ?hr ?_; (case hd => rfl); (case hg => rfl); (case hr => first | (go_simp; done) | (go_simp; rfl)); intro gb125 hg w15 hbox hb; have n0_ := A2_ (below_step q2_3 hb); have n1_ := A2_ (hbox); have n2_ := A2_ ((by rw [hg]; exact (below_size q2_3) : w.heap.size ≤ gb125)); have n3_ := A2_ ((by rw [hg]; exact (below_size q2_3) : w.heap.size ≤ gb125)); clear HB; have HB := n0_; have BK125 := n1_; have GW125 := n2_; have GE125 := n3_; clear n0_ n1_ n2_ n3_; clear hb hbox hg; have hcz16_0 : w15.cell? ⟨gb125, 0, none⟩ = some (.int .i64 a0_0) := bc2_ BK125 0; have hcz16_1 : w15.cell? ⟨gb125, 1, none⟩ = some (.int .i64 a0_1) := bc2_ BK125 1; have hcz16_2 : w15.cell? ⟨gb125, 2, none⟩ = some (.int .i64 a0_2) := bc2_ BK125 2; have hfz16_0 := blk_frozen BK125.out 0; have hfz16_1 := blk_frozen BK125.out 1; have hfz16_2 := blk_frozen BK125.out 2))
   go_ret
   exact ⟨by first | rfl | (simp [errW_none, errW_some] <;> rfl) | (simp [*, errW_none, errW_some] <;> rfl), by repeat (first | (with_reducible first | exact HB.out | apply below_alloc | apply pw_below_drewN | apply below_drew1 | refine below_set ?_ GE125.out) | exact HB.out)⟩
 ·rw [if_neg c2] at H
  have c2b0 : decide (0 ≤ a0_0) = false := decide_eq_false c2
  clear c2
  obtain rfl := Option.some.inj H
  go_enter Try.func37, Try.ntmps37
  go_wp2_with (first | ((with_reducible refine gate_dst (N := 1) rfl ?_); refine box_event ?hg (N := 1) ?hd (cs := #[.int .i64 a0_0, .int .i64 a0_1, .int .i64 a0_2]) (t := 51) ?hr ?_; (case hd => rfl); (case hg => rfl); (case hr => first | (go_simp; done) | (go_simp; rfl)); intro gb125 hg w17 hbox hb; have n0_ := A2_ (below_step q2_3 hb); have n1_ := A2_ (hbox); have n2_ := A2_ ((by rw [hg]; exact (below_size q2_3) : w.heap.size ≤ gb125)); have n3_ := A2_ ((by rw [hg]; exact (below_size q2_3) : w.heap.size ≤ gb125)); clear HB; have HB := n0_; have BK125 := n1_; have GW125 := n2_; have GE125 := n3_; clear n0_ n1_ n2_ n3_; clear hb hbox hg; have hcz18_0 : w17.cell? ⟨gb125, 0, none⟩ = some (.int .i64 a0_0) := bc2_ BK125 0; have hcz18_1 : w17.cell? ⟨gb125, 1, none⟩ = some (.int .i64 a0_1) := bc2_ BK125 1; have hcz18_2 : w17.cell? ⟨gb125, 2, none⟩ = some (.int .i64 a0_2) := bc2_ BK125 2; have hfz18_0 := blk_frozen BK125.out 0; have hfz18_1 := blk_frozen BK125.out 1; have hfz18_2 := blk_frozen BK125.out 2))
  go_ret
  exact ⟨by first | rfl | (simp [errW_none, errW_some] <;> rfl) | (simp [*, errW_none, errW_some] <;> rfl), by repeat (first | (with_reducible first | exact HB.out | apply below_alloc | apply pw_below_drewN | apply below_drew1 | refine below_set ?_ GE125.out) | exact HB.out)⟩

end Go.Proofs.Ytkckojgjkmcokaa.PF10A
