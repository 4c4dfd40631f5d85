/- By a program of this session (wip/tool/pp.py): plain Lean functions of the Go functions that this family of laws uses, the walks that the Go code comes to their answers, and the row of the law. No condition beside those that the row itself gives. -/
import Derived.Test.YtaiiegbhbadciaaPF22Rx0
import Derived.Test.YtaiiegbhbadciaaPF22Rx1
import Derived.Test.YtaiiegbhbadciaaPF22Rx5
import Derived.Test.YtaiiegbhbadciaaPF22Rx6
namespace Go.Proofs.Ytaiiegbhbadciaa.PF22R
open Go.RowKit Go.Proofs.YtaiiegbhbadciaaW.Hand Go.Proofs.YtaiiegbhbadciaaW.PrintWords Go.Proofs.YtaiiegbhbadciaaW.PrintLast Go.Proofs.YtaiiegbhbadciaaW.PrintMore
attribute [local go_sem] max2_int min2_int max_two min_two max_three min_three max_four min_four   -- for this text's walks alone
set_option linter.unusedVariables false
set_option linter.unusedSimpArgs false

/-! ### batonref22_Read: function 35 -/
def batonref22_Read.j0 : Nat -> List Int -> Bool -> Option (Int × Int × List Int × Int)
 | 0, _, _ => none
 | k + 1, x0, x43 => if x43 = true then (some (0, 0, ([] : List Int), 6)) else (if 16 < (x0.length : Int) then (if 8 <= (x0.length : Int) then ((batonref01_Get.f k (x0.take 8)).bind fun t276 => (if 8 <= 16 then (if 16 <= (x0.length : Int) then ((batonref01_Get.f k ((x0.take 16).drop 8)).bind fun t278 => ((some (([] : List Int) : List Int)).bind fun y279 => (if 17 <= (wrap64 (17 + (wrap64 (rd x0 16)))) then (if (wrap64 (17 + (wrap64 (rd x0 16)))) <= (x0.length : Int) then (if y279.length + ((x0.take ((wrap64 (17 + (wrap64 (rd x0 16)))) : Int).toNat).drop 17).length < 140737488355328 then ((some (y279 ++ ((x0.take ((wrap64 (17 + (wrap64 (rd x0 16)))) : Int).toNat).drop 17) : List Int)).bind fun y283 => ((batonref22_Make.f k (wrap64 (t276)) (wrap64 (t278)) y283).bind fun t287 => (if 255 <= (t287.length : Int) then (if 255 <= (x0.length : Int) then ((batonref01_Same.f k (t287.take 255) (x0.take 255)).bind fun t295 => (if t295 = true then (some (wrap64 (t276), wrap64 (t278), y283, 0)) else (some (0, 0, ([] : List Int), 6)))) else (none)) else (none)))) else (none)) else (none)) else (none)))) else (none)) else (none))) else (none)) else (none))
def batonref22_Read.f (k : Nat) (l0 : List Int) : Option (Int × Int × List Int × Int) := if (l0.length : Int) = 256 then (if 255 < (l0.length : Int) then (if (rd l0 255) = 0 then (some (0, 0, ([] : List Int), 3)) else (if (rd l0 255) > 1 then (some (0, 0, ([] : List Int), 6)) else (if 251 <= (l0.length : Int) then ((batonref22_Sum.f k (l0.take 251)).bind fun t266 => (if 251 <= 255 then (if 255 <= (l0.length : Int) then ((batonref01_Same.f k t266 ((l0.take 255).drop 251)).bind fun t270 => (if t270 = true then (if 0 < (l0.length : Int) then (if (rd l0 0) = 0 then (if 8 < (l0.length : Int) then (if (rd l0 8) = 0 then (if 16 < (l0.length : Int) then (batonref22_Read.j0 k l0 (decide ((rd l0 16) > 234))) else (none)) else (batonref22_Read.j0 k l0 true)) else (none)) else (batonref22_Read.j0 k l0 true)) else (none)) else (some (0, 0, ([] : List Int), 21)))) else (none)) else (none))) else (none)))) else (none)) else (some (0, 0, ([] : List Int), 22))
theorem batonref22_Read.mono_l : ∀ k, (∀ y0 y1, LeO (batonref22_Read.j0 k y0 y1) (batonref22_Read.j0 (k + 1) y0 y1))
 | 0 => fun _ _ r h => by simp [batonref22_Read.j0] at h
 | k + 1 => by
  have ih0 := batonref22_Read.mono_l k
  ·intro y0 y1
   unfold batonref22_Read.j0
   repeat' first
   | (with_reducible exact ih0 _ _)
   | (with_reducible exact batonref01_Get.mono _ _)
   | (with_reducible exact batonref01_Same.mono _ _ _)
   | (with_reducible exact batonref22_Make.mono _ _ _ _)
   | (with_reducible exact batonref22_Sum.mono _ _)
   | (with_reducible exact LeO.refl _)
   | (with_reducible exact LeO.none _)
   | (with_reducible refine LeO.ite ?_ ?_)
   | (with_reducible refine LeO.bind ?_ (fun _ => ?_))
   | exact ih0 _ _
   | exact batonref01_Get.mono _ _
   | exact batonref01_Same.mono _ _ _
   | exact batonref22_Make.mono _ _ _ _
   | exact batonref22_Sum.mono _ _
   | exact LeO.none _
   | refine LeO.ite ?_ ?_
   | refine LeO.bind ?_ (fun _ => ?_)
theorem batonref22_Read.mono : ∀ a0 k, LeO (batonref22_Read.f k a0) (batonref22_Read.f (k + 1) a0) := by
 intro a0 k
 have ih0 := batonref22_Read.mono_l k
 unfold batonref22_Read.f
 repeat' first
   | (with_reducible exact ih0 _ _)
   | (with_reducible exact batonref01_Get.mono _ _)
   | (with_reducible exact batonref01_Same.mono _ _ _)
   | (with_reducible exact batonref22_Make.mono _ _ _ _)
   | (with_reducible exact batonref22_Sum.mono _ _)
   | (with_reducible exact LeO.refl _)
   | (with_reducible exact LeO.none _)
   | (with_reducible refine LeO.ite ?_ ?_)
   | (with_reducible refine LeO.bind ?_ (fun _ => ?_))
   | exact ih0 _ _
   | exact batonref01_Get.mono _ _
   | exact batonref01_Same.mono _ _ _
   | exact batonref22_Make.mono _ _ _ _
   | exact batonref22_Sum.mono _ _
   | exact LeO.none _
   | refine LeO.ite ?_ ?_
   | refine LeO.bind ?_ (fun _ => ?_)
def batonref22_Read.T12 : Bool × List (List Nat × List Nat) := (true, [([], []), ([0], [0]), ([1], [1]), ([2], [2]), ([], []), ([4], [4]), ([5, 2], [5]), ([6], [6]), ([], []), ([], []), ([], []), ([10], [10]), ([9, 11], [9, 11]), ([8, 12, 6], [8, 12]), ([3, 7, 13], [3, 7, 13]), ([], []), ([15, 14, 13, 0, 1, 2, 3, 4, 5, 6, 7, 8, 9, 10, 11, 12, 13, 14, 15], [14, 15])])
def batonref22_Read.B12 : List Nat := [0, 1, 3, 7, 0, 16, 55, 119, 0, 0, 0, 1024, 3584, 8055, 16383, 0, 65535]
theorem batonref22_Read.tab12 : rtab .any (opsOf Try.f35 12) = batonref22_Read.T12 := by kernel_rfl
theorem batonref22_Read.bits12 : waitsOk batonref22_Read.T12.2 batonref22_Read.B12 = true := by kernel_rfl
theorem q7_1 {p : Prop} (h : p := by repeat (first | (with_reducible first | exact HB.out | apply below_alloc | apply pw_below_drewN | apply below_drew1 | refine below_set ?_ GE262.out) | exact HB.out)) : p := h
theorem q7_2 {p : Prop} (h : p := by (with_reducible repeat (first | refine blk_drewN ?_ _ | refine blk_drew ?_ | refine blk_alloc ?_ _)); exact BK262.out) : p := h
theorem q7_3 {p : Prop} (h : p := by first | (simp only [putAll, Act.put, List.setIfInBounds_toArray, List.set_cons_zero, List.set_cons_succ]; done) | (simp only [putAll, Act.put, List.setIfInBounds_toArray, List.set_cons_zero, List.set_cons_succ]; rfl)) : p := h
theorem q7_4 {p : Prop} (h : p := by repeat (first | (with_reducible first | exact HB.out | apply below_alloc | apply pw_below_drewN | apply below_drew1 | refine below_set ?_ GE262.out | refine below_set ?_ GE286.out) | exact HB.out)) : p := h
theorem q7_5 {p : Prop} (h : p := by (with_reducible repeat (first | refine blk_drewN ?_ _ | refine blk_drew ?_ | refine blk_alloc ?_ _)); exact BK286.out) : p := h
theorem q7_6 {p : Prop} (h : p := by (with_reducible repeat (first | apply Kd.R_alloc | apply Kd.R_drewN | apply Kd.R_drew)); exact HO281.out) : p := h
theorem q7_7 {p : Prop} (h : p := by (with_reducible repeat (first | refine blk_drewN ?_ _ | refine blk_drew ?_ | refine blk_alloc ?_ _)); refine blk_put (cs := #[.int .i64 0, .int .i64 0, .slice none 0 0]) ?_ 2 _ rfl; (with_reducible repeat (first | refine blk_drewN ?_ _ | refine blk_drew ?_ | refine blk_alloc ?_ _)); refine blk_put (cs := #[.int .i64 0, .int .i64 0, .slice none 0 0]) ?_ 1 _ rfl; (with_reducible repeat (first | refine blk_drewN ?_ _ | refine blk_drew ?_ | refine blk_alloc ?_ _)); refine blk_put (cs := #[.int .i64 0, .int .i64 0, .slice none 0 0]) ?_ 0 _ rfl; (with_reducible repeat (first | refine blk_drewN ?_ _ | refine blk_drew ?_ | refine blk_alloc ?_ _)); exact BK262.out) : p := h
theorem q7_8 {p : Prop} (h : p := by first | (with_reducible assumption) | assumption) : p := h
theorem q7_9 {p : Prop} (h : p := by (try simp only [List.map_toArray, List.map_cons, List.map_nil]); first | done | (rw [show ((l0.take 16).drop 8).length = (16 - 8) from (by rw [List.length_drop, List.length_take]; have h_ : (16 : Int) <= (l0.length : Int) := of_decide_eq_true q7_8; omega)] <;> rfl) | rfl | (simp only [List.length_drop, List.length_take]; rfl)) : p := h
theorem q7_10 {p : Prop} (h : p := by (try simp only [List.map_toArray, List.map_cons, List.map_nil]); first | done | (rw [show (l0.take 8).length = 8 from (by rw [List.length_take]; have h_ : (8 : Int) <= (l0.length : Int) := of_decide_eq_true q7_8; omega)] <;> rfl) | rfl | (simp only [List.length_drop, List.length_take]; rfl)) : p := h
theorem q7_11 {p : Prop} (h : p := by repeat (first | (with_reducible first | exact HB.out | apply below_alloc | apply pw_below_drewN | apply below_drew1) | exact HB.out)) : p := h
theorem q7_12 {p : Prop} (h : p := by kernel_rfl) : p := h
theorem q7_13 {p : Prop} (h : p := by (with_reducible repeat (first | apply Kd.R_alloc | apply Kd.R_drewN | apply Kd.R_drew)); exact HO285.out) : p := h
theorem q7_14 {p : Prop} (h : p := by decide) : p := h
theorem q7_15 {p : Prop} (h : p := by (try simp only [List.map_toArray, List.map_cons, List.map_nil]); first | done | (rw [show ((l0.take 255).drop 251).length = (255 - 251) from (by rw [List.length_drop, List.length_take]; have h_ : (255 : Int) <= (l0.length : Int) := of_decide_eq_true q7_8; omega)] <;> rfl) | rfl | (simp only [List.length_drop, List.length_take]; rfl)) : p := h
theorem q7_16 {p : Prop} (h : p := by omega) : p := h
theorem q7_17 {p : Prop} (h : p := by (try simp only [List.map_toArray, List.map_cons, List.map_nil]); first | done | (rw [show (l0.take 255).length = 255 from (by rw [List.length_take]; have h_ : (255 : Int) <= (l0.length : Int) := of_decide_eq_true q7_8; omega)] <;> rfl) | rfl | (simp only [List.length_drop, List.length_take]; rfl)) : p := h
theorem q7_18 {p : Prop} (h : p := by (try simp only [List.map_toArray, List.map_cons, List.map_nil]); first | done | (rw [show (l0.take 251).length = 251 from (by rw [List.length_take]; have h_ : (251 : Int) <= (l0.length : Int) := of_decide_eq_true q7_8; omega)] <;> rfl) | rfl | (simp only [List.length_drop, List.length_take]; rfl)) : p := h
theorem q7_19 {p : Prop} (h : p := by first | omega | exact of_decide_eq_true q7_8) : p := h
theorem q7_20 {p : Prop} (h : p := by repeat (first | (with_reducible exact HR293.out) | (with_reducible refine Kd.C_alloc ?_ _) | (with_reducible refine Kd.C_drewN ?_ _) | (with_reducible refine Kd.C_drew ?_) | exact HR293.out)) : p := h
set_option maxHeartbeats 8000000 in
set_option maxRecDepth 100000 in
theorem batonref22_Read.calls (k : Nat) (A0 : Option Addr) (c0 : Nat) (l0 : List Int) (r1 : Int) (r2 : Int) (r3 : List Int) (r4 : Int) (w : World) (hr0 : Kd.C (Kd.int .u8) w A0 l0.length l0) (hc0 : l0.length <= c0) (h : batonref22_Read.f k l0 = some (r1, r2, r3, r4)) :
  Calls Try.prog 35 #[.slice A0 l0.length c0] w fun e w' => ∃ v2_ : Value, e = .returned (.tuple #[.agg #[.int .i64 r1, .int .i64 r2, v2_], .int .i64 r4]) /\ Kd.R (Kd.int .u8) 5 w' w.heap.size (fun _ => True) v2_ r3 /\ Below w.heap.size w w' := by
 have hu52 := Try.underlying52
 have HR0 := Aside0.mk hr0
 have HC0 := Aside0.mk hc0
 clear hr0 hc0
 have HB := Aside0.mk (Below.refl w.heap.size w)
 have H : (if (l0.length : Int) = 256 then (if 255 < (l0.length : Int) then (if (rd l0 255) = 0 then (some (0, 0, ([] : List Int), 3)) else (if (rd l0 255) > 1 then (some (0, 0, ([] : List Int), 6)) else (if 251 <= (l0.length : Int) then ((batonref22_Sum.f k (l0.take 251)).bind fun t266 => (if 251 <= 255 then (if 255 <= (l0.length : Int) then ((batonref01_Same.f k t266 ((l0.take 255).drop 251)).bind fun t270 => (if t270 = true then (if 0 < (l0.length : Int) then (if (rd l0 0) = 0 then (if 8 < (l0.length : Int) then (if (rd l0 8) = 0 then (if 16 < (l0.length : Int) then (batonref22_Read.j0 k l0 (decide ((rd l0 16) > 234))) else (none)) else (batonref22_Read.j0 k l0 true)) else (none)) else (batonref22_Read.j0 k l0 true)) else (none)) else (some (0, 0, ([] : List Int), 21)))) else (none)) else (none))) else (none)))) else (none)) else (some (0, 0, ([] : List Int), 22))) = some (r1, r2, r3, r4) := h
 clear h
 by_cases c2 : (l0.length : Int) = 256
 ·rw [if_pos c2] at H
  have c2b0 : ((l0.length : Int) == 256) = true := beq_iff_eq.mpr c2
  have c2b1 : ((l0.length : Int) != 256) = false := bne_eq_false_iff_eq.mpr c2
  clear c2
  by_cases c3 : 255 < (l0.length : Int)
  ·rw [if_pos c3] at H
   have c3b0 : decide (255 < (l0.length : Int)) = true := decide_eq_true c3
   have c3b1 : decide (255 < l0.length) = true := decide_eq_true q7_16
   clear c3
   by_cases c4 : (rd l0 255) = 0
   ·rw [if_pos c4] at H
    have c4b0 : ((rd l0 255) == 0) = true := beq_iff_eq.mpr c4
    have c4b1 : ((rd l0 255) != 0) = false := bne_eq_false_iff_eq.mpr c4
    clear c4
    simp only [Option.some.injEq, Prod.mk.injEq] at H
    obtain ⟨rfl, rfl, rfl, rfl⟩ := H
    go_enter Try.func35, Try.ntmps35
    go_wp2_with (first | ((with_reducible refine gate_dst (N := 2) rfl ?_); refine box_event ?hg (N := 2) ?hd (cs := #[.int .i64 0, .int .i64 0, .slice none 0 0]) (t := 52) ?hr ?_; (case hd => rfl); (case hg => rfl); (case hr => first | (go_simp; done) | (go_simp; rfl)); intro gb262 hg w5 hbox hb; have n0_ := Aside0.mk (below_step q7_11 hb); have n1_ := Aside0.mk (hbox); have n2_ := Aside0.mk ((by rw [hg]; exact (below_size q7_11) : w.heap.size <= gb262)); have n3_ := Aside0.mk ((by rw [hg]; exact (below_size q7_11) : w.heap.size <= gb262)); clear HB; have HB := n0_; have BK262 := n1_; have GW262 := n2_; have GE262 := n3_; clear n0_ n1_ n2_ n3_; clear hb hbox hg; have p263 : 0 <= (255 : Int) := q7_16; have q263 : 255 < (l0.length : Int) := of_decide_eq_true q7_8; obtain ⟨ad263, e263, hx263_0⟩ := Kd.at_int HR0.out 255 p263 q263; cases e263; (try simp only [show (255 : Int).toNat = 255 from rfl, Nat.reduceMul, Nat.reduceEqDiff, Go.Addr.add, ↓reduceIte] at hx263_0); have qi263 : (255 < l0.length) = True := eq_true q7_16; (try rw [show ((255 : Int)).toNat = 255 from rfl] at hx263_0); replace hx263_0 := (HB.out.cell (World.block_lt_of_cell? w _ hx263_0)).trans hx263_0; replace p263 := eq_true p263; replace q263 := eq_true q263; have hcz6_0 : w5.cell? ⟨gb262, 0, none⟩ = some (.int .i64 0) := (blk_cell BK262.out 0).trans rfl; have hcz6_1 : w5.cell? ⟨gb262, 1, none⟩ = some (.int .i64 0) := (blk_cell BK262.out 1).trans rfl; have hcz6_2 : w5.cell? ⟨gb262, 2, none⟩ = some (.slice none 0 0) := (blk_cell BK262.out 2).trans rfl; have hfz6_0 := blk_frozen BK262.out 0; have hfz6_1 := blk_frozen BK262.out 1; have hfz6_2 := blk_frozen BK262.out 2))
    refine bodyPost_ret (results_ct rfl _ _ gb262 52 #[.int .i64 0, .int .i64 0, .slice none 0 0] (0, 0) _ rfl q7_7 Try.underlying52 rfl q7_12) rfl ?_
    exact ⟨_, by first | rfl | (simp [errW_none, errW_some] <;> rfl) | (simp [*, errW_none, errW_some] <;> rfl), by first | exact Kd.R_nil _ _ _ _ _ | exact Kd.N_nil _ _ _ _ _ | exact Kd.V_nil _ _ _ _ _ | exact Kd.Q_nil _ _ _ _ _ | exact Kd.S_nil _ _ _ _ _, by repeat (first | (with_reducible first | exact HB.out | apply below_alloc | apply pw_below_drewN | apply below_drew1 | refine below_set ?_ GE262.out) | exact HB.out)⟩
   ·rw [if_neg c4] at H
    have c4b0 : ((rd l0 255) == 0) = false := beq_eq_false_iff_ne.mpr c4
    have c4b1 : ((rd l0 255) != 0) = true := bne_iff_ne.mpr c4
    by_cases c7 : (rd l0 255) > 1
    ·rw [if_pos c7] at H
     have c7b0 : decide (1 < (rd l0 255)) = true := decide_eq_true c7
     clear c7
     simp only [Option.some.injEq, Prod.mk.injEq] at H
     obtain ⟨rfl, rfl, rfl, rfl⟩ := H
     go_enter Try.func35, Try.ntmps35
     go_wp2_with (first | ((with_reducible refine gate_dst (N := 2) rfl ?_); refine box_event ?hg (N := 2) ?hd (cs := #[.int .i64 0, .int .i64 0, .slice none 0 0]) (t := 52) ?hr ?_; (case hd => rfl); (case hg => rfl); (case hr => first | (go_simp; done) | (go_simp; rfl)); intro gb262 hg w8 hbox hb; have n0_ := Aside0.mk (below_step q7_11 hb); have n1_ := Aside0.mk (hbox); have n2_ := Aside0.mk ((by rw [hg]; exact (below_size q7_11) : w.heap.size <= gb262)); have n3_ := Aside0.mk ((by rw [hg]; exact (below_size q7_11) : w.heap.size <= gb262)); clear HB; have HB := n0_; have BK262 := n1_; have GW262 := n2_; have GE262 := n3_; clear n0_ n1_ n2_ n3_; clear hb hbox hg; have p263 : 0 <= (255 : Int) := q7_16; have q263 : 255 < (l0.length : Int) := of_decide_eq_true q7_8; obtain ⟨ad263, e263, hx263_0⟩ := Kd.at_int HR0.out 255 p263 q263; cases e263; (try simp only [show (255 : Int).toNat = 255 from rfl, Nat.reduceMul, Nat.reduceEqDiff, Go.Addr.add, ↓reduceIte] at hx263_0); have qi263 : (255 < l0.length) = True := eq_true q7_16; (try rw [show ((255 : Int)).toNat = 255 from rfl] at hx263_0); replace hx263_0 := (HB.out.cell (World.block_lt_of_cell? w _ hx263_0)).trans hx263_0; replace p263 := eq_true p263; replace q263 := eq_true q263; have p264 : 0 <= (255 : Int) := q7_16; have q264 : 255 < (l0.length : Int) := of_decide_eq_true q7_8; obtain ⟨ad264, e264, hx264_0⟩ := Kd.at_int HR0.out 255 p264 q264; obtain rfl : ad263 = ad264 := (by injection e264); (try simp only [show (255 : Int).toNat = 255 from rfl, Nat.reduceMul, Nat.reduceEqDiff, Go.Addr.add, ↓reduceIte] at hx264_0); have qi264 : (255 < l0.length) = True := eq_true q7_16; (try rw [show ((255 : Int)).toNat = 255 from rfl] at hx264_0); replace hx264_0 := (HB.out.cell (World.block_lt_of_cell? w _ hx264_0)).trans hx264_0; replace p264 := eq_true p264; replace q264 := eq_true q264; have hcz9_0 : w8.cell? ⟨gb262, 0, none⟩ = some (.int .i64 0) := (blk_cell BK262.out 0).trans rfl; have hcz9_1 : w8.cell? ⟨gb262, 1, none⟩ = some (.int .i64 0) := (blk_cell BK262.out 1).trans rfl; have hcz9_2 : w8.cell? ⟨gb262, 2, none⟩ = some (.slice none 0 0) := (blk_cell BK262.out 2).trans rfl; have hfz9_0 := blk_frozen BK262.out 0; have hfz9_1 := blk_frozen BK262.out 1; have hfz9_2 := blk_frozen BK262.out 2))
     refine bodyPost_ret (results_ct rfl _ _ gb262 52 #[.int .i64 0, .int .i64 0, .slice none 0 0] (0, 0) _ rfl q7_7 Try.underlying52 rfl q7_12) rfl ?_
     exact ⟨_, by first | rfl | (simp [errW_none, errW_some] <;> rfl) | (simp [*, errW_none, errW_some] <;> rfl), by first | exact Kd.R_nil _ _ _ _ _ | exact Kd.N_nil _ _ _ _ _ | exact Kd.V_nil _ _ _ _ _ | exact Kd.Q_nil _ _ _ _ _ | exact Kd.S_nil _ _ _ _ _, by repeat (first | (with_reducible first | exact HB.out | apply below_alloc | apply pw_below_drewN | apply below_drew1 | refine below_set ?_ GE262.out) | exact HB.out)⟩
    ·rw [if_neg c7] at H
     have c7b0 : decide (1 < (rd l0 255)) = false := decide_eq_false c7
     clear c7
     by_cases c10 : 251 <= (l0.length : Int)
     ·rw [if_pos c10] at H
      have c10b0 := eq_true c10
      have c10b1 : decide (251 <= (l0.length : Int)) = true := decide_eq_true c10
      clear c10
      replace H := Option.bind_eq_some_iff.mp H
      obtain ⟨t266, A110, H⟩ := H
      replace H : (if 251 <= 255 then (if 255 <= (l0.length : Int) then ((batonref01_Same.f k t266 ((l0.take 255).drop 251)).bind fun t270 => (if t270 = true then (if 0 < (l0.length : Int) then (if (rd l0 0) = 0 then (if 8 < (l0.length : Int) then (if (rd l0 8) = 0 then (if 16 < (l0.length : Int) then (batonref22_Read.j0 k l0 (decide ((rd l0 16) > 234))) else (none)) else (batonref22_Read.j0 k l0 true)) else (none)) else (batonref22_Read.j0 k l0 true)) else (none)) else (some (0, 0, ([] : List Int), 21)))) else (none)) else (none)) = some (r1, r2, r3, r4) := H
      have A11 := Aside0.mk A110
      clear A110
      by_cases c12 : 251 <= 255
      ·rw [if_pos c12] at H
       have c12b0 := eq_true c12
       have c12b1 : decide (251 <= 255) = true := decide_eq_true c12
       clear c12
       by_cases c13 : 255 <= (l0.length : Int)
       ·rw [if_pos c13] at H
        have c13b0 := eq_true c13
        have c13b1 : decide (255 <= (l0.length : Int)) = true := decide_eq_true c13
        clear c13
        replace H := Option.bind_eq_some_iff.mp H
        obtain ⟨t270, A140, H⟩ := H
        replace H : (if t270 = true then (if 0 < (l0.length : Int) then (if (rd l0 0) = 0 then (if 8 < (l0.length : Int) then (if (rd l0 8) = 0 then (if 16 < (l0.length : Int) then (batonref22_Read.j0 k l0 (decide ((rd l0 16) > 234))) else (none)) else (batonref22_Read.j0 k l0 true)) else (none)) else (batonref22_Read.j0 k l0 true)) else (none)) else (some (0, 0, ([] : List Int), 21))) = some (r1, r2, r3, r4) := H
        have A14 := Aside0.mk A140
        clear A140
        by_cases c15 : t270 = true
        ·subst c15
         have H1 : (if 0 < (l0.length : Int) then (if (rd l0 0) = 0 then (if 8 < (l0.length : Int) then (if (rd l0 8) = 0 then (if 16 < (l0.length : Int) then (batonref22_Read.j0 k l0 (decide ((rd l0 16) > 234))) else (none)) else (batonref22_Read.j0 k l0 true)) else (none)) else (batonref22_Read.j0 k l0 true)) else (none)) = some (r1, r2, r3, r4) := by rw [if_pos rfl] at H; exact H
         clear H
         have H := H1
         clear H1
         have HC16 := Aside0.mk H
         clear H
         go_enter Try.func35, Try.ntmps35
         try go_wp2_with (first | ((with_reducible refine gate_dst (N := 2) rfl ?_); refine box_event ?hg (N := 2) ?hd (cs := #[.int .i64 0, .int .i64 0, .slice none 0 0]) (t := 52) ?hr ?_; (case hd => rfl); (case hg => rfl); (case hr => first | (go_simp; done) | (go_simp; rfl)); intro gb262 hg w17 hbox hb; have n0_ := Aside0.mk (below_step q7_11 hb); have n1_ := Aside0.mk (hbox); have n2_ := Aside0.mk ((by rw [hg]; exact (below_size q7_11) : w.heap.size <= gb262)); have n3_ := Aside0.mk ((by rw [hg]; exact (below_size q7_11) : w.heap.size <= gb262)); clear HB; have HB := n0_; have BK262 := n1_; have GW262 := n2_; have GE262 := n3_; clear n0_ n1_ n2_ n3_; clear hb hbox hg; have p263 : 0 <= (255 : Int) := q7_16; have q263 : 255 < (l0.length : Int) := of_decide_eq_true q7_8; obtain ⟨ad263, e263, hx263_0⟩ := Kd.at_int HR0.out 255 p263 q263; cases e263; (try simp only [show (255 : Int).toNat = 255 from rfl, Nat.reduceMul, Nat.reduceEqDiff, Go.Addr.add, ↓reduceIte] at hx263_0); have qi263 : (255 < l0.length) = True := eq_true q7_16; (try rw [show ((255 : Int)).toNat = 255 from rfl] at hx263_0); replace hx263_0 := (HB.out.cell (World.block_lt_of_cell? w _ hx263_0)).trans hx263_0; replace p263 := eq_true p263; replace q263 := eq_true q263; have p264 : 0 <= (255 : Int) := q7_16; have q264 : 255 < (l0.length : Int) := of_decide_eq_true q7_8; obtain ⟨ad264, e264, hx264_0⟩ := Kd.at_int HR0.out 255 p264 q264; obtain rfl : ad263 = ad264 := (by injection e264); (try simp only [show (255 : Int).toNat = 255 from rfl, Nat.reduceMul, Nat.reduceEqDiff, Go.Addr.add, ↓reduceIte] at hx264_0); have qi264 : (255 < l0.length) = True := eq_true q7_16; (try rw [show ((255 : Int)).toNat = 255 from rfl] at hx264_0); replace hx264_0 := (HB.out.cell (World.block_lt_of_cell? w _ hx264_0)).trans hx264_0; replace p264 := eq_true p264; replace q264 := eq_true q264))
         have n0_ := Aside0.mk (blk_drew BK262.out)
         have n1_ := Aside0.mk (below_drew1 HB.out)
         clear BK262
         clear HB
         have BK262 := n0_
         have HB := n1_
         clear n0_ n1_
         obtain ⟨i019, hi019, _, hsz19, _⟩ := info_parts info5
         obtain ⟨hcut19, hA19, hC19⟩ := print_take_of (P := Try.prog) (Value.int .u8) 0 27 5 .i64 Try.underlying27 hi019 hsz19 (some ad263) c0 l0 251 q7_16 (of_decide_eq_true q7_8) HC0.out
         have HR265 := Aside0.mk (Kd.C_of_reads (h1 := fun _ => rfl) (hA19 _ (Kd.reads_of_C HR0.out)))
         have HC265 := Aside0.mk hC19
         clear hA19 hC19 hi019 hsz19
         obtain ⟨i020, hi020, _, hsz20, _⟩ := info_parts info5
         obtain ⟨A20, hcut20, hA20, hC20⟩ := print_mid_of (P := Try.prog) (Value.int .u8) 0 27 5 .i64 .i64 Try.underlying27 hi020 hsz20 (some ad263) c0 l0 251 255 q7_16 q7_19 (of_decide_eq_true q7_8) HC0.out
         have HR269 := Aside0.mk (Kd.C_of_reads (h1 := fun _ => rfl) (hA20 _ (Kd.reads_of_C HR0.out)))
         have HC269 := Aside0.mk hC20
         clear hA20 hC20 hi020 hsz20
         refine start_ (n := 7) (S := fun w' => True) (ds := []) #[false, false, false, false, false, false, false] q7_12 rfl rfl trivial (fun hHeld => ?_)
         generalize w17.drew = w18 at BK262 HB HR265 HR269 hHeld ⊢
         refine pure_ (i := 0) (N := some 20) (v := ?_) (a' := ?_) #[true, false, false, false, false, false, false] rfl rfl q7_12 (fun _ _ _ h => h) (Or.inl ⟨by rfl, ?_⟩) ?_ ?_
         rotate_left
         ·intro w'
          go_simp
          with_reducible rfl
         rotate_left
         ·simp only [Act.put, List.setIfInBounds_toArray, List.set_cons_zero, List.set_cons_succ, i64_w, i32_w]
          rfl
         refine pure_ (i := 1) (N := some 21) (v := ?_) (a' := ?_) #[true, true, false, false, false, false, false] rfl rfl q7_12 (fun _ _ _ h => h) (Or.inl ⟨by rfl, ?_⟩) ?_ ?_
         rotate_left
         ·intro w'
          go_simp
          with_reducible rfl
         rotate_left
         ·simp only [Act.put, List.setIfInBounds_toArray, List.set_cons_zero, List.set_cons_succ, i64_w, i32_w]
          rfl
         refine pure_ (i := 3) (N := some 23) (v := ?_) (a' := ?_) #[true, true, false, true, false, false, false] rfl rfl q7_12 (fun _ _ _ h => h) (Or.inl ⟨by rfl, ?_⟩) ?_ ?_
         rotate_left
         ·intro w'
          go_simp
          with_reducible rfl
         rotate_left
         ·simp only [Act.put, List.setIfInBounds_toArray, List.set_cons_zero, List.set_cons_succ, i64_w, i32_w]
          rfl
         refine pure_ (i := 4) (N := some 24) (v := ?_) (a' := ?_) #[true, true, false, true, true, false, false] rfl rfl q7_12 (fun _ _ _ h => h) (Or.inl ⟨by rfl, ?_⟩) ?_ ?_
         rotate_left
         ·intro w'
          go_simp
          with_reducible rfl
         rotate_left
         ·simp only [Act.put, List.setIfInBounds_toArray, List.set_cons_zero, List.set_cons_succ, i64_w, i32_w]
          rfl
         refine one_ (i := 2) (N := some 22) #[true, true, true, true, true, false, false] rfl rfl q7_12 q7_14 (fun K hK => ?_)
         refine goes_ Try.func47 q7_12 rfl #[.slice (some ad263) (l0.take 251).length c0] (by rfl) rfl rfl q7_18 ?_
         with_reducible refine (batonref22_Sum.calls k _ _ (l0.take 251) t266 _ ?side1 ?side2 A11.out).mono ?_
         (case side1 => repeat (first | exact (Kd.C_below HR265.out HB.out) | (with_reducible refine Kd.C_alloc ?_ _) | (with_reducible refine Kd.C_drewN ?_ _) | (with_reducible refine Kd.C_drew ?_)))
         (case side2 => exact HC265.out)
         rintro e w21 ⟨v267, rfl, ho0, hb⟩
         refine ⟨_, rfl, ?_⟩
         have n0_ := Aside0.mk (Kd.R_lower ho0 (below_size q7_1))
         have n1_ := Aside0.mk (blk_below (g := gb262) (o := .cells #[.int .i64 0, .int .i64 0, .slice none 0 0] 52 (0, 0)) q7_2 hb)
         have n2_ := Aside0.mk (below_step q7_1 hb)
         clear BK262
         clear HB
         have HO268 := n0_
         have BK262 := n1_
         have HB := n2_
         clear n0_ n1_ n2_
         (try clear hb)
         (try clear hb2)
         (try clear hk)
         (try clear hi)
         (try clear ho0)
         obtain ⟨Ao22, co22, eo22⟩ := Kd.R_slice HO268.out
         (first | subst eo22 | (injection eo22 with f1_ f2_ f3_; have f4_ := f1_.symm; have f5_ := f3_.symm; clear f1_ f2_ f3_; subst f4_; subst f5_))
         refine hK.out _ _ trivial (fun hHeld => ?_)
         clear hK K
         refine norm_ (a' := ?_) ?_ ?_
         rotate_left
         ·show Act.put _ (some 22) _ = _
          simp only [Act.put, List.setIfInBounds_toArray, List.set_cons_zero, List.set_cons_succ, i64_w, i32_w]
          rfl
         refine one_ (i := 5) (N := some 25) #[true, true, true, true, true, true, false] rfl rfl q7_12 q7_14 (fun K hK => ?_)
         refine goes_ Try.func20 q7_12 rfl #[.slice Ao22 t266.length co22, .slice A20 ((l0.take 255).drop 251).length (c0 - 251)] (by rfl) rfl rfl q7_15 ?_
         with_reducible refine (batonref01_Same.calls k _ _ t266 _ _ ((l0.take 255).drop 251) true _ ?side1 ?side2 ?side3 ?side4 A14.out).mono ?_
         (case side1 => repeat (first | exact (Kd.R_reads' HO268.out).2.2 | (with_reducible refine Kd.C_alloc ?_ _) | (with_reducible refine Kd.C_drewN ?_ _) | (with_reducible refine Kd.C_drew ?_)))
         (case side2 => exact (Kd.R_reads' HO268.out).2.1)
         (case side3 => repeat (first | exact (Kd.C_below HR269.out HB.out) | (with_reducible refine Kd.C_alloc ?_ _) | (with_reducible refine Kd.C_drewN ?_ _) | (with_reducible refine Kd.C_drew ?_)))
         (case side4 => exact HC269.out)
         rintro e w' ⟨rfl, ⟨nd, rfl⟩⟩
         refine ⟨_, rfl, ?_⟩
         refine hK.out _ _ trivial (fun hHeld => ?_)
         clear hK K
         refine norm_ (a' := ?_) ?_ ?_
         rotate_left
         ·show Act.put _ (some 25) _ = _
          simp only [Act.put, List.setIfInBounds_toArray, List.set_cons_zero, List.set_cons_succ, i64_w, i32_w]
          rfl
         refine pure_ (i := 6) (N := some 26) (v := ?_) (a' := ?_) #[true, true, true, true, true, true, true] rfl rfl q7_12 (fun _ _ _ h => h) (Or.inl ⟨by rfl, ?_⟩) ?_ ?_
         rotate_left
         ·intro w'
          go_simp
          with_reducible rfl
         rotate_left
         ·simp only [Act.put, List.setIfInBounds_toArray, List.set_cons_zero, List.set_cons_succ, i64_w, i32_w]
          rfl
         refine done_ q7_12 ?_
         go_upto_region 9 with (fail)
         go_cut [43] (fun v43 wc => ∃ (kq : Nat) (x43_15 : Bool), v43 = .bool x43_15 /\ Aside0 (batonref22_Read.j0 kq l0 x43_15 = some (r1, r2, r3, r4)) /\ Aside0 (kq <= k) /\ Aside0 (wc.heap[gb262]? = some (.cells #[.int .i64 0, .int .i64 0, (.slice none 0 0)] 52 (0, 0))) /\ Aside0 (Below w.heap.size w wc))
         case first =>
          have H := HC16.out
          clear HC16
          by_cases c23 : 0 < (l0.length : Int)
          ·rw [if_pos c23] at H
           have c23b0 : decide (0 < (l0.length : Int)) = true := decide_eq_true c23
           have c23b1 : decide (0 < l0.length) = true := decide_eq_true q7_16
           clear c23
           (first | rw [c23b0] | (simp only [i64_w, i32_w]; rw [c23b0]) | skip)
           by_cases c24 : (rd l0 0) = 0
           ·rw [if_pos c24] at H
            have c24b0 : ((rd l0 0) == 0) = true := beq_iff_eq.mpr c24
            have c24b1 : ((rd l0 0) != 0) = false := bne_eq_false_iff_eq.mpr c24
            clear c24
            by_cases c25 : 8 < (l0.length : Int)
            ·rw [if_pos c25] at H
             have c25b0 : decide (8 < (l0.length : Int)) = true := decide_eq_true c25
             have c25b1 : decide (8 < l0.length) = true := decide_eq_true q7_16
             clear c25
             by_cases c26 : (rd l0 8) = 0
             ·rw [if_pos c26] at H
              have c26b0 : ((rd l0 8) == 0) = true := beq_iff_eq.mpr c26
              have c26b1 : ((rd l0 8) != 0) = false := bne_eq_false_iff_eq.mpr c26
              clear c26
              by_cases c27 : 16 < (l0.length : Int)
              ·rw [if_pos c27] at H
               have c27b0 : decide (16 < (l0.length : Int)) = true := decide_eq_true c27
               have c27b1 : decide (16 < l0.length) = true := decide_eq_true q7_16
               clear c27
               have H' := Aside0.mk H
               clear H
               have p271 : 0 <= (0 : Int) := q7_16
               have q271 : 0 < (l0.length : Int) := of_decide_eq_true q7_8
               obtain ⟨ad271, e271, hx271_0⟩ := Kd.at_int HR0.out 0 p271 q271
               obtain rfl : ad263 = ad271 := (by injection e271)
               have qi271 : (0 < l0.length) = True := eq_true q7_16
               (try rw [show ((0 : Int)).toNat = 0 from rfl] at hx271_0)
               (try rw [Addr.add_zero'] at hx271_0)
               replace hx271_0 := (HB.out.cell (World.block_lt_of_cell? w _ hx271_0)).trans hx271_0
               replace p271 := eq_true p271
               replace q271 := eq_true q271
               have p272 : 0 <= (8 : Int) := q7_16
               have q272 : 8 < (l0.length : Int) := of_decide_eq_true q7_8
               obtain ⟨ad272, e272, hx272_0⟩ := Kd.at_int HR0.out 8 p272 q272
               obtain rfl : ad263 = ad272 := (by injection e272)
               (try simp only [show (8 : Int).toNat = 8 from rfl, Nat.reduceMul, Nat.reduceEqDiff, Go.Addr.add, ↓reduceIte] at hx272_0)
               have qi272 : (8 < l0.length) = True := eq_true q7_16
               (try rw [show ((8 : Int)).toNat = 8 from rfl] at hx272_0)
               replace hx272_0 := (HB.out.cell (World.block_lt_of_cell? w _ hx272_0)).trans hx272_0
               replace p272 := eq_true p272
               replace q272 := eq_true q272
               have p273 : 0 <= (16 : Int) := q7_16
               have q273 : 16 < (l0.length : Int) := of_decide_eq_true q7_8
               obtain ⟨ad273, e273, hx273_0⟩ := Kd.at_int HR0.out 16 p273 q273
               obtain rfl : ad263 = ad273 := (by injection e273)
               (try simp only [show (16 : Int).toNat = 16 from rfl, Nat.reduceMul, Nat.reduceEqDiff, Go.Addr.add, ↓reduceIte] at hx273_0)
               have qi273 : (16 < l0.length) = True := eq_true q7_16
               (try rw [show ((16 : Int)).toNat = 16 from rfl] at hx273_0)
               replace hx273_0 := (HB.out.cell (World.block_lt_of_cell? w _ hx273_0)).trans hx273_0
               replace p273 := eq_true p273
               replace q273 := eq_true q273
               go_wp2
               go_meet
               case rel => exact ⟨_, (decide ((rd l0 16) > 234)), (by first | rfl | (simp; done) | (simp [*]; done)), H', ⟨by first | omega | exact Nat.le_refl _⟩, ⟨by (with_reducible repeat (first | refine blk_drewN ?_ _ | refine blk_drew ?_ | refine blk_alloc ?_ _)); exact BK262.out⟩, ⟨by repeat (first | (with_reducible first | exact HB.out | apply below_alloc | apply pw_below_drewN | apply below_drew1 | refine below_set ?_ GE262.out) | exact HB.out)⟩⟩
              ·rw [if_neg c27] at H
               exact absurd H (by simp)
             ·rw [if_neg c26] at H
              have c26b0 : ((rd l0 8) == 0) = false := beq_eq_false_iff_ne.mpr c26
              have c26b1 : ((rd l0 8) != 0) = true := bne_iff_ne.mpr c26
              have H' := Aside0.mk H
              clear H
              have p271 : 0 <= (0 : Int) := q7_16
              have q271 : 0 < (l0.length : Int) := of_decide_eq_true q7_8
              obtain ⟨ad271, e271, hx271_0⟩ := Kd.at_int HR0.out 0 p271 q271
              obtain rfl : ad263 = ad271 := (by injection e271)
              have qi271 : (0 < l0.length) = True := eq_true q7_16
              (try rw [show ((0 : Int)).toNat = 0 from rfl] at hx271_0)
              (try rw [Addr.add_zero'] at hx271_0)
              replace hx271_0 := (HB.out.cell (World.block_lt_of_cell? w _ hx271_0)).trans hx271_0
              replace p271 := eq_true p271
              replace q271 := eq_true q271
              have p272 : 0 <= (8 : Int) := q7_16
              have q272 : 8 < (l0.length : Int) := of_decide_eq_true q7_8
              obtain ⟨ad272, e272, hx272_0⟩ := Kd.at_int HR0.out 8 p272 q272
              obtain rfl : ad263 = ad272 := (by injection e272)
              (try simp only [show (8 : Int).toNat = 8 from rfl, Nat.reduceMul, Nat.reduceEqDiff, Go.Addr.add, ↓reduceIte] at hx272_0)
              have qi272 : (8 < l0.length) = True := eq_true q7_16
              (try rw [show ((8 : Int)).toNat = 8 from rfl] at hx272_0)
              replace hx272_0 := (HB.out.cell (World.block_lt_of_cell? w _ hx272_0)).trans hx272_0
              replace p272 := eq_true p272
              replace q272 := eq_true q272
              go_wp2
              go_meet
              case rel => exact ⟨_, (true), (by first | rfl | (simp; done) | (simp [*]; done)), H', ⟨by first | omega | exact Nat.le_refl _⟩, ⟨by (with_reducible repeat (first | refine blk_drewN ?_ _ | refine blk_drew ?_ | refine blk_alloc ?_ _)); exact BK262.out⟩, ⟨by repeat (first | (with_reducible first | exact HB.out | apply below_alloc | apply pw_below_drewN | apply below_drew1 | refine below_set ?_ GE262.out) | exact HB.out)⟩⟩
            ·rw [if_neg c25] at H
             exact absurd H (by simp)
           ·rw [if_neg c24] at H
            have c24b0 : ((rd l0 0) == 0) = false := beq_eq_false_iff_ne.mpr c24
            have c24b1 : ((rd l0 0) != 0) = true := bne_iff_ne.mpr c24
            have H' := Aside0.mk H
            clear H
            have p271 : 0 <= (0 : Int) := q7_16
            have q271 : 0 < (l0.length : Int) := of_decide_eq_true q7_8
            obtain ⟨ad271, e271, hx271_0⟩ := Kd.at_int HR0.out 0 p271 q271
            obtain rfl : ad263 = ad271 := (by injection e271)
            have qi271 : (0 < l0.length) = True := eq_true q7_16
            (try rw [show ((0 : Int)).toNat = 0 from rfl] at hx271_0)
            (try rw [Addr.add_zero'] at hx271_0)
            replace hx271_0 := (HB.out.cell (World.block_lt_of_cell? w _ hx271_0)).trans hx271_0
            replace p271 := eq_true p271
            replace q271 := eq_true q271
            go_wp2
            go_meet
            case rel => exact ⟨_, (true), (by first | rfl | (simp; done) | (simp [*]; done)), H', ⟨by first | omega | exact Nat.le_refl _⟩, ⟨by (with_reducible repeat (first | refine blk_drewN ?_ _ | refine blk_drew ?_ | refine blk_alloc ?_ _)); exact BK262.out⟩, ⟨by repeat (first | (with_reducible first | exact HB.out | apply below_alloc | apply pw_below_drewN | apply below_drew1 | refine below_set ?_ GE262.out) | exact HB.out)⟩⟩
          ·rw [if_neg c23] at H
           exact absurd H (by simp)
         case rest =>
          clear HC16
          try clear c1
          try clear c2
          try clear c2b0
          try clear c2b1
          try clear p2
          try clear q2
          try clear hx2
          try clear qi2
          try clear c3
          try clear c3b0
          try clear c3b1
          try clear c4
          try clear c4b0
          try clear c4b1
          try clear c7
          try clear c7b0
          try clear c10
          try clear c10b0
          try clear c10b1
          try clear c12
          try clear c12b0
          try clear c12b1
          try clear c13
          try clear c13b0
          try clear c13b1
          try clear c15
          try clear c20
          try clear c23
          try clear c23b0
          try clear c23b1
          try clear c24
          try clear c24b0
          try clear c24b1
          try clear c25
          try clear c25b0
          try clear c25b1
          try clear c26
          try clear c26b0
          try clear c26b1
          try clear p26
          try clear q26
          try clear hx26
          try clear qi26
          try clear c27
          try clear c27b0
          try clear c27b1
          try clear p27
          try clear q27
          try clear hx27
          try clear qi27
          try clear hcz6_0
          try clear hcz6_1
          try clear hcz6_2
          try clear hcz9_0
          try clear hcz9_1
          try clear hcz9_2
          try clear hfz6_0
          try clear hfz6_1
          try clear hfz6_2
          try clear hfz9_0
          try clear hfz9_1
          try clear hfz9_2
          try clear hx263_0
          try clear hx264_0
          try clear hx271_0
          try clear hx272_0
          try clear hx273_0
          try clear p263
          try clear p264
          try clear p271
          try clear p272
          try clear p273
          try clear q263
          try clear q264
          try clear q271
          try clear q272
          try clear q273
          obtain ⟨kq, x43_15, rfl, HA, HJ15, BK262, HB⟩ := hcut
          cases kq with
          | zero => exact absurd HA.out (by simp [batonref22_Read.j0])
          | succ kj15 =>
           have H := HA.out
           clear HA
           simp only [batonref22_Read.j0] at H
           by_cases c28 : x43_15 = true
           ·subst c28
            have H1 : (some (0, 0, ([] : List Int), 6)) = some (r1, r2, r3, r4) := by rw [if_pos rfl] at H; exact H
            clear H
            have H := H1
            clear H1
            simp only [Option.some.injEq, Prod.mk.injEq] at H
            obtain ⟨rfl, rfl, rfl, rfl⟩ := H
            have hcz29_0 : wc.cell? ⟨gb262, 0, none⟩ = some (.int .i64 0) := (blk_cell BK262.out 0).trans rfl
            have hcz29_1 : wc.cell? ⟨gb262, 1, none⟩ = some (.int .i64 0) := (blk_cell BK262.out 1).trans rfl
            have hcz29_2 : wc.cell? ⟨gb262, 2, none⟩ = some (.slice none 0 0) := (blk_cell BK262.out 2).trans rfl
            have hfz29_0 := blk_frozen BK262.out 0
            have hfz29_1 := blk_frozen BK262.out 1
            have hfz29_2 := blk_frozen BK262.out 2
            go_wp2
            refine bodyPost_ret (results_ct rfl _ _ gb262 52 #[.int .i64 0, .int .i64 0, .slice none 0 0] (0, 0) _ rfl q7_7 Try.underlying52 rfl q7_12) rfl ?_
            exact ⟨_, by first | rfl | (simp [errW_none, errW_some] <;> rfl) | (simp [*, errW_none, errW_some] <;> rfl), by first | exact Kd.R_nil _ _ _ _ _ | exact Kd.N_nil _ _ _ _ _ | exact Kd.V_nil _ _ _ _ _ | exact Kd.Q_nil _ _ _ _ _ | exact Kd.S_nil _ _ _ _ _, by repeat (first | (with_reducible first | exact HB.out | apply below_alloc | apply pw_below_drewN | apply below_drew1 | refine below_set ?_ GE262.out) | exact HB.out)⟩
           ·replace c28 := Bool.eq_false_iff.mpr c28
            subst c28
            have H1 : (if 16 < (l0.length : Int) then (if 8 <= (l0.length : Int) then ((batonref01_Get.f kj15 (l0.take 8)).bind fun t276 => (if 8 <= 16 then (if 16 <= (l0.length : Int) then ((batonref01_Get.f kj15 ((l0.take 16).drop 8)).bind fun t278 => ((some (([] : List Int) : List Int)).bind fun y279 => (if 17 <= (wrap64 (17 + (wrap64 (rd l0 16)))) then (if (wrap64 (17 + (wrap64 (rd l0 16)))) <= (l0.length : Int) then (if y279.length + ((l0.take ((wrap64 (17 + (wrap64 (rd l0 16)))) : Int).toNat).drop 17).length < 140737488355328 then ((some (y279 ++ ((l0.take ((wrap64 (17 + (wrap64 (rd l0 16)))) : Int).toNat).drop 17) : List Int)).bind fun y283 => ((batonref22_Make.f kj15 (wrap64 (t276)) (wrap64 (t278)) y283).bind fun t287 => (if 255 <= (t287.length : Int) then (if 255 <= (l0.length : Int) then ((batonref01_Same.f kj15 (t287.take 255) (l0.take 255)).bind fun t295 => (if t295 = true then (some (wrap64 (t276), wrap64 (t278), y283, 0)) else (some (0, 0, ([] : List Int), 6)))) else (none)) else (none)))) else (none)) else (none)) else (none)))) else (none)) else (none))) else (none)) else (none)) = some (r1, r2, r3, r4) := by rw [if_neg (show ¬ (false = true) by decide)] at H; exact H
            clear H
            have H := H1
            clear H1
            by_cases c30 : 16 < (l0.length : Int)
            ·rw [if_pos c30] at H
             have c30b0 : decide (16 < (l0.length : Int)) = true := decide_eq_true c30
             have c30b1 : decide (16 < l0.length) = true := decide_eq_true q7_16
             clear c30
             by_cases c31 : 8 <= (l0.length : Int)
             ·rw [if_pos c31] at H
              have c31b0 := eq_true c31
              have c31b1 : decide (8 <= (l0.length : Int)) = true := decide_eq_true c31
              clear c31
              replace H := Option.bind_eq_some_iff.mp H
              obtain ⟨t276, A320, H⟩ := H
              replace H : (if 8 <= 16 then (if 16 <= (l0.length : Int) then ((batonref01_Get.f kj15 ((l0.take 16).drop 8)).bind fun t278 => ((some (([] : List Int) : List Int)).bind fun y279 => (if 17 <= (wrap64 (17 + (wrap64 (rd l0 16)))) then (if (wrap64 (17 + (wrap64 (rd l0 16)))) <= (l0.length : Int) then (if y279.length + ((l0.take ((wrap64 (17 + (wrap64 (rd l0 16)))) : Int).toNat).drop 17).length < 140737488355328 then ((some (y279 ++ ((l0.take ((wrap64 (17 + (wrap64 (rd l0 16)))) : Int).toNat).drop 17) : List Int)).bind fun y283 => ((batonref22_Make.f kj15 (wrap64 (t276)) (wrap64 (t278)) y283).bind fun t287 => (if 255 <= (t287.length : Int) then (if 255 <= (l0.length : Int) then ((batonref01_Same.f kj15 (t287.take 255) (l0.take 255)).bind fun t295 => (if t295 = true then (some (wrap64 (t276), wrap64 (t278), y283, 0)) else (some (0, 0, ([] : List Int), 6)))) else (none)) else (none)))) else (none)) else (none)) else (none)))) else (none)) else (none)) = some (r1, r2, r3, r4) := H
              have A32 := Aside0.mk A320
              clear A320
              by_cases c33 : 8 <= 16
              ·rw [if_pos c33] at H
               have c33b0 := eq_true c33
               have c33b1 : decide (8 <= 16) = true := decide_eq_true c33
               clear c33
               by_cases c34 : 16 <= (l0.length : Int)
               ·rw [if_pos c34] at H
                have c34b0 := eq_true c34
                have c34b1 : decide (16 <= (l0.length : Int)) = true := decide_eq_true c34
                clear c34
                replace H := Option.bind_eq_some_iff.mp H
                obtain ⟨t278, A350, H⟩ := H
                replace H : ((some (([] : List Int) : List Int)).bind fun y279 => (if 17 <= (wrap64 (17 + (wrap64 (rd l0 16)))) then (if (wrap64 (17 + (wrap64 (rd l0 16)))) <= (l0.length : Int) then (if y279.length + ((l0.take ((wrap64 (17 + (wrap64 (rd l0 16)))) : Int).toNat).drop 17).length < 140737488355328 then ((some (y279 ++ ((l0.take ((wrap64 (17 + (wrap64 (rd l0 16)))) : Int).toNat).drop 17) : List Int)).bind fun y283 => ((batonref22_Make.f kj15 (wrap64 (t276)) (wrap64 (t278)) y283).bind fun t287 => (if 255 <= (t287.length : Int) then (if 255 <= (l0.length : Int) then ((batonref01_Same.f kj15 (t287.take 255) (l0.take 255)).bind fun t295 => (if t295 = true then (some (wrap64 (t276), wrap64 (t278), y283, 0)) else (some (0, 0, ([] : List Int), 6)))) else (none)) else (none)))) else (none)) else (none)) else (none))) = some (r1, r2, r3, r4) := H
                have A35 := Aside0.mk A350
                clear A350
                obtain ⟨y279, hy279⟩ : ∃ y_ : List Int, y_ = (([] : List Int)) := ⟨_, rfl⟩
                replace H : (if 17 <= (wrap64 (17 + (wrap64 (rd l0 16)))) then (if (wrap64 (17 + (wrap64 (rd l0 16)))) <= (l0.length : Int) then (if y279.length + ((l0.take ((wrap64 (17 + (wrap64 (rd l0 16)))) : Int).toNat).drop 17).length < 140737488355328 then ((some (y279 ++ ((l0.take ((wrap64 (17 + (wrap64 (rd l0 16)))) : Int).toNat).drop 17) : List Int)).bind fun y283 => ((batonref22_Make.f kj15 (wrap64 (t276)) (wrap64 (t278)) y283).bind fun t287 => (if 255 <= (t287.length : Int) then (if 255 <= (l0.length : Int) then ((batonref01_Same.f kj15 (t287.take 255) (l0.take 255)).bind fun t295 => (if t295 = true then (some (wrap64 (t276), wrap64 (t278), y283, 0)) else (some (0, 0, ([] : List Int), 6)))) else (none)) else (none)))) else (none)) else (none)) else (none)) = some (r1, r2, r3, r4) := by first | (rw [hy279]; with_reducible exact H) | (have H2_ := (Option.bind_some _ _).symm.trans H; rw [hy279]; with_reducible exact H2_) | (have H2_ := (Option.bind_some _ _).symm.trans H; with_reducible exact H2_) | with_reducible exact H | (rw [hy279]; exact H) | exact H
                have Ny279 := Aside0.mk hy279
                clear hy279
                obtain ⟨ji36, hji36⟩ : ∃ j_ : Int, (wrap64 (17 + (wrap64 (rd l0 16)))) = j_ := ⟨_, rfl⟩
                replace H : (if 17 <= (ji36) then (if (ji36) <= (l0.length : Int) then (if y279.length + ((l0.take ((ji36) : Int).toNat).drop 17).length < 140737488355328 then ((some (y279 ++ ((l0.take ((ji36) : Int).toNat).drop 17) : List Int)).bind fun y283 => ((batonref22_Make.f kj15 (wrap64 (t276)) (wrap64 (t278)) y283).bind fun t287 => (if 255 <= (t287.length : Int) then (if 255 <= (l0.length : Int) then ((batonref01_Same.f kj15 (t287.take 255) (l0.take 255)).bind fun t295 => (if t295 = true then (some (wrap64 (t276), wrap64 (t278), y283, 0)) else (some (0, 0, ([] : List Int), 6)))) else (none)) else (none)))) else (none)) else (none)) else (none)) = some (r1, r2, r3, r4) := by first | (rw [hji36] at H; exact H) | (simp only [hji36] at H ⊢; exact H)
                (try rw [hji36] at A32)
                (try rw [hji36] at A35)
                have hji36w : (IntKind.i64.wrap (17 + (wrap64 (rd l0 16)))) = ji36 := (i64_w _).trans hji36
                by_cases c37 : 17 <= (ji36)
                ·rw [if_pos c37] at H
                 have c37b0 := eq_true c37
                 have c37b1 : decide (17 <= (ji36)) = true := decide_eq_true c37
                 clear c37
                 by_cases c38 : (ji36) <= (l0.length : Int)
                 ·rw [if_pos c38] at H
                  have c38b0 := eq_true c38
                  have c38b1 : decide ((ji36) <= (l0.length : Int)) = true := decide_eq_true c38
                  clear c38
                  by_cases c39 : y279.length + ((l0.take ((ji36) : Int).toNat).drop 17).length < 140737488355328
                  ·rw [if_pos c39] at H
                   have LMc39 := Aside0.mk c39
                   clear c39
                   obtain ⟨y283, hy283⟩ : ∃ y_ : List Int, y_ = (y279 ++ ((l0.take ((ji36) : Int).toNat).drop 17)) := ⟨_, rfl⟩
                   replace H : ((batonref22_Make.f kj15 (wrap64 (t276)) (wrap64 (t278)) y283).bind fun t287 => (if 255 <= (t287.length : Int) then (if 255 <= (l0.length : Int) then ((batonref01_Same.f kj15 (t287.take 255) (l0.take 255)).bind fun t295 => (if t295 = true then (some (wrap64 (t276), wrap64 (t278), y283, 0)) else (some (0, 0, ([] : List Int), 6)))) else (none)) else (none))) = some (r1, r2, r3, r4) := by first | (rw [hy283]; with_reducible exact H) | (have H2_ := (Option.bind_some _ _).symm.trans H; rw [hy283]; with_reducible exact H2_) | (have H2_ := (Option.bind_some _ _).symm.trans H; with_reducible exact H2_) | with_reducible exact H | (rw [hy283]; exact H) | exact H
                   have Ny283 := Aside0.mk hy283
                   clear hy283
                   replace H := Option.bind_eq_some_iff.mp H
                   obtain ⟨t287, A400, H⟩ := H
                   replace H : (if 255 <= (t287.length : Int) then (if 255 <= (l0.length : Int) then ((batonref01_Same.f kj15 (t287.take 255) (l0.take 255)).bind fun t295 => (if t295 = true then (some (wrap64 (t276), wrap64 (t278), y283, 0)) else (some (0, 0, ([] : List Int), 6)))) else (none)) else (none)) = some (r1, r2, r3, r4) := H
                   have A40 := Aside0.mk A400
                   clear A400
                   by_cases c41 : 255 <= (t287.length : Int)
                   ·rw [if_pos c41] at H
                    have c41b0 := eq_true c41
                    have c41b1 : decide (255 <= (t287.length : Int)) = true := decide_eq_true c41
                    clear c41
                    obtain ⟨y290, hy290⟩ : ∃ y_ : List Int, y_ = (t287.take 255) := ⟨_, rfl⟩
                    replace H : (if 255 <= (l0.length : Int) then ((batonref01_Same.f kj15 y290 (l0.take 255)).bind fun t295 => (if t295 = true then (some (wrap64 (t276), wrap64 (t278), y283, 0)) else (some (0, 0, ([] : List Int), 6)))) else (none)) = some (r1, r2, r3, r4) := by first | (rw [hy290]; with_reducible exact H) | (have H2_ := (Option.bind_some _ _).symm.trans H; rw [hy290]; with_reducible exact H2_) | (have H2_ := (Option.bind_some _ _).symm.trans H; with_reducible exact H2_) | with_reducible exact H | (rw [hy290]; exact H) | exact H
                    have Ny290 := Aside0.mk hy290
                    clear hy290
                    by_cases c42 : 255 <= (l0.length : Int)
                    ·rw [if_pos c42] at H
                     have c42b0 := eq_true c42
                     have c42b1 : decide (255 <= (l0.length : Int)) = true := decide_eq_true c42
                     clear c42
                     replace H := Option.bind_eq_some_iff.mp H
                     obtain ⟨t295, A430, H⟩ := H
                     replace H : (if t295 = true then (some (wrap64 (t276), wrap64 (t278), y283, 0)) else (some (0, 0, ([] : List Int), 6))) = some (r1, r2, r3, r4) := H
                     have A43 := Aside0.mk A430
                     clear A430
                     by_cases c44 : t295 = true
                     ·subst c44
                      have H1 : (some (wrap64 (t276), wrap64 (t278), y283, 0)) = some (r1, r2, r3, r4) := by rw [if_pos rfl] at H; exact H
                      clear H
                      have H := H1
                      clear H1
                      simp only [Option.some.injEq, Prod.mk.injEq] at H
                      obtain ⟨rfl, rfl, rfl, rfl⟩ := H
                      have p274 : 0 <= (16 : Int) := q7_16
                      have q274 : 16 < (l0.length : Int) := of_decide_eq_true q7_8
                      obtain ⟨ad274, e274, hx274_0⟩ := Kd.at_int HR0.out 16 p274 q274
                      obtain rfl : ad263 = ad274 := (by injection e274)
                      (try simp only [show (16 : Int).toNat = 16 from rfl, Nat.reduceMul, Nat.reduceEqDiff, Go.Addr.add, ↓reduceIte] at hx274_0)
                      have qi274 : (16 < l0.length) = True := eq_true q7_16
                      (try rw [show ((16 : Int)).toNat = 16 from rfl] at hx274_0)
                      replace hx274_0 := (HB.out.cell (World.block_lt_of_cell? w _ hx274_0)).trans hx274_0
                      replace p274 := eq_true p274
                      replace q274 := eq_true q274
                      try go_wp2
                      have n0_ := Aside0.mk (blk_drew BK262.out)
                      have n1_ := Aside0.mk (below_drew1 HB.out)
                      clear BK262
                      clear HB
                      have BK262 := n0_
                      have HB := n1_
                      clear n0_ n1_
                      obtain ⟨i046, hi046, _, hsz46, _⟩ := info_parts info5
                      obtain ⟨hcut46, hA46, hC46⟩ := print_take_of (P := Try.prog) (Value.int .u8) 0 27 5 .i64 Try.underlying27 hi046 hsz46 (some ad263) c0 l0 8 q7_16 (of_decide_eq_true q7_8) HC0.out
                      have HR275 := Aside0.mk (Kd.C_of_reads (h1 := fun _ => rfl) (hA46 _ (Kd.reads_of_C HR0.out)))
                      have HC275 := Aside0.mk hC46
                      clear hA46 hC46 hi046 hsz46
                      obtain ⟨i047, hi047, _, hsz47, _⟩ := info_parts info5
                      obtain ⟨A47, hcut47, hA47, hC47⟩ := print_mid_of (P := Try.prog) (Value.int .u8) 0 27 5 .i64 .i64 Try.underlying27 hi047 hsz47 (some ad263) c0 l0 8 16 q7_16 q7_19 (of_decide_eq_true q7_8) HC0.out
                      have HR277 := Aside0.mk (Kd.C_of_reads (h1 := fun _ => rfl) (hA47 _ (Kd.reads_of_C HR0.out)))
                      have HC277 := Aside0.mk hC47
                      clear hA47 hC47 hi047 hsz47
                      obtain ⟨i048, hi048, _, hsz48, _⟩ := info_parts info5
                      obtain ⟨A48, hcut48, hA48, hC48⟩ := print_mid_of (P := Try.prog) (Value.int .u8) 0 27 5 .i64 .i64 Try.underlying27 hi048 hsz48 (some ad263) c0 l0 17 (ji36) q7_16 q7_19 (of_decide_eq_true q7_8) HC0.out
                      have HR282 := Aside0.mk (Kd.C_of_reads (h1 := fun _ => rfl) (hA48 _ (Kd.reads_of_C HR0.out)))
                      have HC282 := Aside0.mk hC48
                      clear hA48 hC48 hi048 hsz48
                      refine start_ (n := 17) (S := fun w' => True) (ds := []) #[false, false, false, false, false, false, false, false, false, false, false, false, false, false, false, false, false] q7_12 rfl rfl trivial (fun hHeld => ?_); refine with_tabW batonref22_Read.tab12 batonref22_Read.bits12 (fun HT_ HW_ => ?_)
                      generalize wc.drew = w45 at BK262 HB HR275 HR277 HR282 hHeld ⊢
                      refine pure_ (i := 0) (N := some 49) (v := ?_) (a' := ?_) #[true, false, false, false, false, false, false, false, false, false, false, false, false, false, false, false, false] rfl rfl (any_of HT_.out q7_12) (fun _ _ _ h => h) (Or.inl ⟨by rfl, ?_⟩) ?_ ?_
                      rotate_left
                      ·intro w'
                       go_simp
                       with_reducible rfl
                      rotate_left
                      ·simp only [Act.put, List.setIfInBounds_toArray, List.set_cons_zero, List.set_cons_succ, i64_w, i32_w]
                       rfl
                      refine pure_ (i := 1) (N := some 50) (v := ?_) (a' := ?_) #[true, true, false, false, false, false, false, false, false, false, false, false, false, false, false, false, false] rfl rfl (any_of HT_.out q7_12) (fun _ _ _ h => h) (Or.inl ⟨by rfl, ?_⟩) ?_ ?_
                      rotate_left
                      ·intro w'
                       go_simp
                       with_reducible rfl
                      rotate_left
                      ·simp only [Act.put, List.setIfInBounds_toArray, List.set_cons_zero, List.set_cons_succ, i64_w, i32_w]
                       rfl
                      refine pure_ (i := 4) (N := some 53) (v := ?_) (a' := ?_) #[true, true, false, false, true, false, false, false, false, false, false, false, false, false, false, false, false] rfl rfl (any_of HT_.out q7_12) (fun _ _ _ h => h) (Or.inl ⟨by rfl, ?_⟩) ?_ ?_
                      rotate_left
                      ·intro w'
                       go_simp
                       with_reducible rfl
                      rotate_left
                      ·simp only [Act.put, List.setIfInBounds_toArray, List.set_cons_zero, List.set_cons_succ, i64_w, i32_w]
                       rfl
                      refine pure_ (i := 5) (N := some 54) (v := ?_) (a' := ?_) #[true, true, false, false, true, true, false, false, false, false, false, false, false, false, false, false, false] rfl rfl (any_of HT_.out q7_12) (fun _ _ _ h => h) (Or.inl ⟨by rfl, ?_⟩) ?_ ?_
                      rotate_left
                      ·intro w'
                       go_simp
                       with_reducible rfl
                      rotate_left
                      ·simp only [Act.put, List.setIfInBounds_toArray, List.set_cons_zero, List.set_cons_succ, i64_w, i32_w]
                       rfl
                      refine pure_ (i := 9) (N := some 58) (v := ?_) (a' := ?_) #[true, true, false, false, true, true, false, false, false, true, false, false, false, false, false, false, false] rfl rfl (any_of HT_.out q7_12) (fun _ _ _ h => h) (Or.inl ⟨by rfl, ?_⟩) ?_ ?_
                      rotate_left
                      ·intro w'
                       go_simp
                       with_reducible rfl
                      rotate_left
                      ·simp only [Act.put, List.setIfInBounds_toArray, List.set_cons_zero, List.set_cons_succ, i64_w, i32_w]
                       rfl
                      refine pure_ (i := 10) (N := some 59) (v := ?_) (a' := ?_) #[true, true, false, false, true, true, false, false, false, true, true, false, false, false, false, false, false] rfl rfl (any_of HT_.out q7_12) (fun _ _ _ h => h) (Or.inl ⟨by rfl, ?_⟩) ?_ ?_
                      rotate_left
                      ·intro w'
                       go_simp
                       with_reducible rfl
                      rotate_left
                      ·simp only [Act.put, List.setIfInBounds_toArray, List.set_cons_zero, List.set_cons_succ, i64_w, i32_w]
                       rfl
                      refine pure_ (i := 11) (N := some 60) (v := ?_) (a' := ?_) #[true, true, false, false, true, true, false, false, false, true, true, true, false, false, false, false, false] rfl rfl (any_of HT_.out q7_12) (fun _ _ _ h => h) (Or.inl ⟨by rfl, ?_⟩) ?_ ?_
                      rotate_left
                      ·intro w'
                       go_simp
                       with_reducible rfl
                      rotate_left
                      ·simp only [Act.put, List.setIfInBounds_toArray, List.set_cons_zero, List.set_cons_succ, i64_w, i32_w]
                       rfl
                      refine pure_ (i := 12) (N := some 61) (v := ?_) (a' := ?_) #[true, true, false, false, true, true, false, false, false, true, true, true, true, false, false, false, false] rfl rfl (any_of HT_.out q7_12) (fun _ _ _ h => h) (Or.inl ⟨by rfl, ?_⟩) ?_ ?_
                      rotate_left
                      ·intro w'
                       go_simp
                       with_reducible rfl
                      rotate_left
                      ·simp only [Act.put, List.setIfInBounds_toArray, List.set_cons_zero, List.set_cons_succ, i64_w, i32_w]
                       rfl
                      refine join_ (σ := Value × Value × Nat) 1 #[true, true, true, true, true, true, true, true, true, true, true, true, true, true, true, true, false] (fun s_ => [(51, .int .u64 t276), (55, .int .u64 t278), (57, s_.1), (62, s_.2.1), (5, .pointer (some ⟨s_.2.2, 0, none⟩)), (52, .int .i64 (wrap64 (t276))), (56, .int .i64 (wrap64 (t278))), (63, .agg #[.int .i64 (wrap64 (t276)), .int .i64 (wrap64 (t278)), s_.2.1])]) (fun s_ w' => (Kd.R (Kd.int .u8) 5 w' w.heap.size (fun _ => True) s_.2.1 y283) /\ (w'.heap[gb262]? = some (.cells #[.int .i64 0, .int .i64 0, .slice none 0 0] 52 (0, 0))) /\ (w'.heap[s_.2.2]? = some (.cells #[.int .i64 0, .int .i64 0, .slice none 0 0] 52 (0, 0))) /\ (w.heap.size <= s_.2.2) /\ (w.heap.size <= s_.2.2) /\ (gb262 ≠ s_.2.2) /\ (s_.2.2 ≠ gb262) /\ (Below w.heap.size w w')) ?_ ?_
                      rotate_left
                      ·intro hJ2_6_8_13_15
                       refine join_ (σ := Value × Value) 2 #[true, true, true, true, true, true, true, true, true, true, true, true, true, true, true, false, false] (fun s_ => [(51, .int .u64 t276), (55, .int .u64 t278), (57, s_.1), (62, s_.2), (52, .int .i64 (wrap64 (t276))), (56, .int .i64 (wrap64 (t278))), (63, .agg #[.int .i64 (wrap64 (t276)), .int .i64 (wrap64 (t278)), s_.2])]) (fun s_ w' => (Kd.R (Kd.int .u8) 5 w' w.heap.size (fun _ => True) s_.2 y283) /\ (w'.heap[gb262]? = some (.cells #[.int .i64 0, .int .i64 0, .slice none 0 0] 52 (0, 0))) /\ (Below w.heap.size w w')) ?_ ?_
                       rotate_left
                       ·intro hJ2_6_8_13
                        refine join_ (σ := Value × Nat) 3 #[true, true, true, true, true, true, true, true, true, true, true, true, true, false, false, true, false] (fun s_ => [(51, .int .u64 t276), (55, .int .u64 t278), (57, s_.1), (5, .pointer (some ⟨s_.2, 0, none⟩)), (52, .int .i64 (wrap64 (t276))), (56, .int .i64 (wrap64 (t278)))]) (fun s_ w' => (Kd.R (Kd.int .u8) 5 w' w.heap.size (fun _ => True) s_.1 y279) /\ (w'.heap[gb262]? = some (.cells #[.int .i64 0, .int .i64 0, .slice none 0 0] 52 (0, 0))) /\ (w'.heap[s_.2]? = some (.cells #[.int .i64 0, .int .i64 0, .slice none 0 0] 52 (0, 0))) /\ (w.heap.size <= s_.2) /\ (w.heap.size <= s_.2) /\ (gb262 ≠ s_.2) /\ (s_.2 ≠ gb262) /\ (Below w.heap.size w w')) ?_ ?_
                        rotate_left
                        ·intro hJ2_6_8_15
                         refine join_ (σ := Value) 4 #[true, true, true, true, true, true, true, true, true, true, true, true, true, false, false, false, false] (fun s_ => [(51, .int .u64 t276), (55, .int .u64 t278), (57, s_), (52, .int .i64 (wrap64 (t276))), (56, .int .i64 (wrap64 (t278)))]) (fun s_ w' => (Kd.R (Kd.int .u8) 5 w' w.heap.size (fun _ => True) s_ y279) /\ (w'.heap[gb262]? = some (.cells #[.int .i64 0, .int .i64 0, .slice none 0 0] 52 (0, 0))) /\ (Below w.heap.size w w')) ?_ ?_
                         rotate_left
                         ·intro hJ2_6_8
                          refine join_ (σ := Nat) 4 #[true, true, true, true, true, true, true, true, false, true, true, true, true, false, false, true, false] (fun s_ => [(51, .int .u64 t276), (55, .int .u64 t278), (5, .pointer (some ⟨s_, 0, none⟩)), (52, .int .i64 (wrap64 (t276))), (56, .int .i64 (wrap64 (t278)))]) (fun s_ w' => (w'.heap[gb262]? = some (.cells #[.int .i64 0, .int .i64 0, .slice none 0 0] 52 (0, 0))) /\ (w'.heap[s_]? = some (.cells #[.int .i64 0, .int .i64 0, .slice none 0 0] 52 (0, 0))) /\ (w.heap.size <= s_) /\ (w.heap.size <= s_) /\ (gb262 ≠ s_) /\ (s_ ≠ gb262) /\ (Below w.heap.size w w')) ?_ ?_
                          rotate_left
                          ·intro hJ2_6_15
                           refine join_ (σ := Value × Nat) 5 #[true, true, true, true, true, true, false, false, true, true, true, true, true, false, false, true, false] (fun s_ => [(51, .int .u64 t276), (57, s_.1), (5, .pointer (some ⟨s_.2, 0, none⟩)), (52, .int .i64 (wrap64 (t276)))]) (fun s_ w' => (Kd.R (Kd.int .u8) 5 w' w.heap.size (fun _ => True) s_.1 y279) /\ (w'.heap[gb262]? = some (.cells #[.int .i64 0, .int .i64 0, .slice none 0 0] 52 (0, 0))) /\ (w'.heap[s_.2]? = some (.cells #[.int .i64 0, .int .i64 0, .slice none 0 0] 52 (0, 0))) /\ (w.heap.size <= s_.2) /\ (w.heap.size <= s_.2) /\ (gb262 ≠ s_.2) /\ (s_.2 ≠ gb262) /\ (Below w.heap.size w w')) ?_ ?_
                           rotate_left
                           ·intro hJ2_8_15
                            refine join_ (σ := Unit) 5 #[true, true, true, true, true, true, true, true, false, true, true, true, true, false, false, false, false] (fun s_ => [(51, .int .u64 t276), (55, .int .u64 t278), (52, .int .i64 (wrap64 (t276))), (56, .int .i64 (wrap64 (t278)))]) (fun s_ w' => (w'.heap[gb262]? = some (.cells #[.int .i64 0, .int .i64 0, .slice none 0 0] 52 (0, 0))) /\ (Below w.heap.size w w')) ?_ ?_
                            rotate_left
                            ·intro hJ2_6
                             refine join_ (σ := Value) 6 #[true, true, true, true, true, true, false, false, true, true, true, true, true, false, false, false, false] (fun s_ => [(51, .int .u64 t276), (57, s_), (52, .int .i64 (wrap64 (t276)))]) (fun s_ w' => (Kd.R (Kd.int .u8) 5 w' w.heap.size (fun _ => True) s_ y279) /\ (w'.heap[gb262]? = some (.cells #[.int .i64 0, .int .i64 0, .slice none 0 0] 52 (0, 0))) /\ (Below w.heap.size w w')) ?_ ?_
                             rotate_left
                             ·intro hJ2_8
                              refine join_ (σ := Nat) 6 #[true, true, true, true, true, true, false, false, false, true, true, true, true, false, false, true, false] (fun s_ => [(51, .int .u64 t276), (5, .pointer (some ⟨s_, 0, none⟩)), (52, .int .i64 (wrap64 (t276)))]) (fun s_ w' => (w'.heap[gb262]? = some (.cells #[.int .i64 0, .int .i64 0, .slice none 0 0] 52 (0, 0))) /\ (w'.heap[s_]? = some (.cells #[.int .i64 0, .int .i64 0, .slice none 0 0] 52 (0, 0))) /\ (w.heap.size <= s_) /\ (w.heap.size <= s_) /\ (gb262 ≠ s_) /\ (s_ ≠ gb262) /\ (Below w.heap.size w w')) ?_ ?_
                              rotate_left
                              ·intro hJ2_15
                               refine join_ (σ := Value × Nat) 7 #[true, true, false, false, true, true, false, false, true, true, true, true, true, false, false, true, false] (fun s_ => [(57, s_.1), (5, .pointer (some ⟨s_.2, 0, none⟩))]) (fun s_ w' => (Kd.R (Kd.int .u8) 5 w' w.heap.size (fun _ => True) s_.1 y279) /\ (w'.heap[gb262]? = some (.cells #[.int .i64 0, .int .i64 0, .slice none 0 0] 52 (0, 0))) /\ (w'.heap[s_.2]? = some (.cells #[.int .i64 0, .int .i64 0, .slice none 0 0] 52 (0, 0))) /\ (w.heap.size <= s_.2) /\ (w.heap.size <= s_.2) /\ (gb262 ≠ s_.2) /\ (s_.2 ≠ gb262) /\ (Below w.heap.size w w')) ?_ ?_
                               rotate_left
                               ·intro hJ8_15
                                refine join_ (σ := Unit) 7 #[true, true, true, true, true, true, false, false, false, true, true, true, true, false, false, false, false] (fun s_ => [(51, .int .u64 t276), (52, .int .i64 (wrap64 (t276)))]) (fun s_ w' => (w'.heap[gb262]? = some (.cells #[.int .i64 0, .int .i64 0, .slice none 0 0] 52 (0, 0))) /\ (Below w.heap.size w w')) ?_ ?_
                                rotate_left
                                ·intro hJ2
                                 refine join_ (σ := Value) 8 #[true, true, false, false, true, true, false, false, true, true, true, true, true, false, false, false, false] (fun s_ => [(57, s_)]) (fun s_ w' => (Kd.R (Kd.int .u8) 5 w' w.heap.size (fun _ => True) s_ y279) /\ (w'.heap[gb262]? = some (.cells #[.int .i64 0, .int .i64 0, .slice none 0 0] 52 (0, 0))) /\ (Below w.heap.size w w')) ?_ ?_
                                 rotate_left
                                 ·intro hJ8
                                  refine join_ (σ := Nat) 8 #[true, true, false, false, true, true, false, false, false, true, true, true, true, false, false, true, false] (fun s_ => [(5, .pointer (some ⟨s_, 0, none⟩))]) (fun s_ w' => (w'.heap[gb262]? = some (.cells #[.int .i64 0, .int .i64 0, .slice none 0 0] 52 (0, 0))) /\ (w'.heap[s_]? = some (.cells #[.int .i64 0, .int .i64 0, .slice none 0 0] 52 (0, 0))) /\ (w.heap.size <= s_) /\ (w.heap.size <= s_) /\ (gb262 ≠ s_) /\ (s_ ≠ gb262) /\ (Below w.heap.size w w')) ?_ ?_
                                  rotate_left
                                  ·intro hJ15
                                   refine three_ (i := 2) (j := 8) (k := 15) (Ni := some 51) (Nj := some 57) (Nk := some 5) #[true, true, true, false, true, true, false, false, false, true, true, true, true, false, false, false, false] #[true, true, false, false, true, true, false, false, true, true, true, true, true, false, false, false, false] #[true, true, false, false, true, true, false, false, false, true, true, true, true, false, false, true, false] rfl rfl rfl rfl rfl rfl (three_of HT_.out q7_12) q7_14 q7_14 q7_14 (fun K hK => ?_) (fun K hK => ?_) (fun K hK => ?_)
                                   ·skip
                                    refine goes_ Try.func18 q7_12 rfl #[.slice (some ad263) (l0.take 8).length c0] (by rfl) rfl rfl q7_10 ?_
                                    with_reducible refine (batonref01_Get.calls kj15 _ _ (l0.take 8) t276 _ ?side1 ?side2 A32.out).mono ?_
                                    (case side1 => repeat (first | exact (Kd.C_below HR275.out HB.out) | (with_reducible refine Kd.C_alloc ?_ _) | (with_reducible refine Kd.C_drewN ?_ _) | (with_reducible refine Kd.C_drew ?_)))
                                    (case side2 => exact HC275.out)
                                    rintro e w' ⟨rfl, ⟨nd, rfl⟩⟩
                                    refine ⟨_, rfl, ?_⟩
                                    refine hK.out _ _ trivial (fun hHeld => ?_)
                                    clear hK K
                                    refine norm_ (a' := ?_) ?_ ?_
                                    rotate_left
                                    ·show Act.put _ (some 51) _ = _
                                     simp only [Act.put, List.setIfInBounds_toArray, List.set_cons_zero, List.set_cons_succ, i64_w, i32_w]
                                     rfl
                                    refine pure_ (i := 3) (N := some 52) (v := ?_) (a' := ?_) #[true, true, true, true, true, true, false, false, false, true, true, true, true, false, false, false, false] rfl rfl (any_of HT_.out q7_12) (fun _ _ _ h => h) (Or.inl ⟨by rfl, ?_⟩) ?_ ?_
                                    rotate_left
                                    ·intro w'
                                     go_simp
                                     with_reducible rfl
                                    rotate_left
                                    ·simp only [Act.put, List.setIfInBounds_toArray, List.set_cons_zero, List.set_cons_succ, i64_w, i32_w]
                                     rfl
                                    exact norm_ q7_3 (hJ2 () _ ⟨q7_2, q7_1⟩)
                                   ·skip
                                    refine Kd.R_lit_step (Kd.int .u8) _ 5 ?hg (N := 57) ?hd (xs := ([] : List Int)) (inner := []) (ok := fun _ => True) (okp := fun _ => True) ?hr ?hp (fun _ hk => hk) trivial (Below.refl _ _) (Nat.le_refl _) (by simp) ?_; (case hd => rfl); (case hg => rfl); (case hr => first | (go_simp; done) | (go_simp; rfl)); (case hp => exact (Reps.none _ _))
                                    intro v280 w49 ho50 hb hg_ hnew_
                                    clear hg_ hnew_
                                    (first | rw [← Ny279.out] at ho50 | (simp only [Int.reduceToNat] at ho50; rw [← Ny279.out] at ho50))
                                    have n0_ := Aside0.mk (Kd.R_lower ho50 (below_size q7_1))
                                    have n1_ := Aside0.mk (blk_below (g := gb262) (o := .cells #[.int .i64 0, .int .i64 0, .slice none 0 0] 52 (0, 0)) q7_2 hb)
                                    have n2_ := Aside0.mk (below_step q7_1 hb)
                                    clear BK262
                                    clear HB
                                    have HO281 := n0_
                                    have BK262 := n1_
                                    have HB := n2_
                                    clear n0_ n1_ n2_
                                    clear hb ho50
                                    refine hK.out _ _ trivial (fun hHeld => ?_)
                                    clear hK K
                                    refine norm_ (a' := ?_) ?_ ?_
                                    rotate_left
                                    ·show Act.put _ (some 57) _ = _
                                     simp only [Act.put, List.setIfInBounds_toArray, List.set_cons_zero, List.set_cons_succ, i64_w, i32_w]
                                     rfl
                                    exact norm_ q7_3 (hJ8 (v280) _ ⟨q7_6, q7_2, q7_1⟩)
                                   ·skip
                                    refine box_step ?hg (N := 5) ?hd (cs := #[.int .i64 0, .int .i64 0, .slice none 0 0]) (t := 52) ?hr ?_; (case hd => rfl); (case hg => rfl); (case hr => first | (go_simp; done) | (go_simp; rfl))
                                    intro gb286 hg w49 hbox hb
                                    have n0_ := Aside0.mk (blk_below (g := gb262) (o := .cells #[.int .i64 0, .int .i64 0, .slice none 0 0] 52 (0, 0)) q7_2 hb)
                                    have n1_ := Aside0.mk (below_step q7_1 hb)
                                    have n2_ := Aside0.mk (hbox)
                                    have n3_ := Aside0.mk ((by rw [hg]; exact (below_size q7_1) : w.heap.size <= gb286))
                                    have n4_ := Aside0.mk ((by rw [hg]; exact (below_size q7_1) : w.heap.size <= gb286))
                                    have n5_ := Aside0.mk ((by rw [hg]; exact Nat.ne_of_lt (blk_lt (g := gb262) (o := .cells #[.int .i64 0, .int .i64 0, .slice none 0 0] 52 (0, 0)) q7_2) : gb262 ≠ gb286))
                                    have n6_ := Aside0.mk ((by rw [hg]; exact Nat.ne_of_gt (blk_lt (g := gb262) (o := .cells #[.int .i64 0, .int .i64 0, .slice none 0 0] 52 (0, 0)) q7_2) : gb286 ≠ gb262))
                                    clear BK262
                                    clear HB
                                    have BK262 := n0_
                                    have HB := n1_
                                    have BK286 := n2_
                                    have GW286 := n3_
                                    have GE286 := n4_
                                    have NB262_286 := n5_
                                    have NB286_262 := n6_
                                    clear n0_ n1_ n2_ n3_ n4_ n5_ n6_
                                    clear hb hbox hg
                                    refine hK.out _ _ trivial (fun hHeld => ?_)
                                    clear hK K
                                    refine norm_ (a' := ?_) ?_ ?_
                                    rotate_left
                                    ·show Act.put _ (some 5) _ = _
                                     simp only [Act.put, List.setIfInBounds_toArray, List.set_cons_zero, List.set_cons_succ, i64_w, i32_w]
                                     rfl
                                    exact norm_ q7_3 (hJ15 (gb286) _ ⟨q7_2, q7_5, GW286.out, GE286.out, NB262_286.out, NB286_262.out, q7_4⟩)
                                  ·skip
                                   rintro gb286 w50 ⟨h0_, h1_, h2_, h3_, h4_, h5_, h6_⟩
                                   have n0_ : Aside0 (w50.heap[gb262]? = some (.cells #[.int .i64 0, .int .i64 0, .slice none 0 0] 52 (0, 0))) := ⟨h0_⟩
                                   have n1_ : Aside0 (w50.heap[gb286]? = some (.cells #[.int .i64 0, .int .i64 0, .slice none 0 0] 52 (0, 0))) := ⟨h1_⟩
                                   have n2_ : Aside0 (w.heap.size <= gb286) := ⟨h2_⟩
                                   have n3_ : Aside0 (w.heap.size <= gb286) := ⟨h3_⟩
                                   have n4_ : Aside0 (gb262 ≠ gb286) := ⟨h4_⟩
                                   have n5_ : Aside0 (gb286 ≠ gb262) := ⟨h5_⟩
                                   have n6_ : Aside0 (Below w.heap.size w w50) := ⟨h6_⟩
                                   clear BK262
                                   clear HB
                                   clear h0_ h1_ h2_ h3_ h4_ h5_ h6_
                                   have BK262 := n0_
                                   have BK286 := n1_
                                   have GW286 := n2_
                                   have GE286 := n3_
                                   have NB262_286 := n4_
                                   have NB286_262 := n5_
                                   have HB := n6_
                                   clear n0_ n1_ n2_ n3_ n4_ n5_ n6_
                                   have hHeld := trivial
                                   refine norm_ (a' := ?_) ?_ ?_
                                   rotate_left
                                   ·simp only [putAll, Act.put, List.setIfInBounds_toArray, List.set_cons_zero, List.set_cons_succ]
                                    rfl
                                   refine two_ (i := 2) (j := 8) (Ni := some 51) (Nj := some 57) #[true, true, true, false, true, true, false, false, false, true, true, true, true, false, false, true, false] #[true, true, false, false, true, true, false, false, true, true, true, true, true, false, false, true, false] rfl rfl rfl rfl (two_of HT_.out q7_12) q7_14 q7_14 (fun K hK => ?_) (fun K hK => ?_)
                                   ·skip
                                    refine goes_ Try.func18 q7_12 rfl #[.slice (some ad263) (l0.take 8).length c0] (by rfl) rfl rfl q7_10 ?_
                                    with_reducible refine (batonref01_Get.calls kj15 _ _ (l0.take 8) t276 _ ?side1 ?side2 A32.out).mono ?_
                                    (case side1 => repeat (first | exact (Kd.C_below HR275.out HB.out) | (with_reducible refine Kd.C_alloc ?_ _) | (with_reducible refine Kd.C_drewN ?_ _) | (with_reducible refine Kd.C_drew ?_)))
                                    (case side2 => exact HC275.out)
                                    rintro e w' ⟨rfl, ⟨nd, rfl⟩⟩
                                    refine ⟨_, rfl, ?_⟩
                                    refine hK.out _ _ trivial (fun hHeld => ?_)
                                    clear hK K
                                    refine norm_ (a' := ?_) ?_ ?_
                                    rotate_left
                                    ·show Act.put _ (some 51) _ = _
                                     simp only [Act.put, List.setIfInBounds_toArray, List.set_cons_zero, List.set_cons_succ, i64_w, i32_w]
                                     rfl
                                    refine pure_ (i := 3) (N := some 52) (v := ?_) (a' := ?_) #[true, true, true, true, true, true, false, false, false, true, true, true, true, false, false, true, false] rfl rfl (any_of HT_.out q7_12) (fun _ _ _ h => h) (Or.inl ⟨by rfl, ?_⟩) ?_ ?_
                                    rotate_left
                                    ·intro w'
                                     go_simp
                                     with_reducible rfl
                                    rotate_left
                                    ·simp only [Act.put, List.setIfInBounds_toArray, List.set_cons_zero, List.set_cons_succ, i64_w, i32_w]
                                     rfl
                                    exact norm_ q7_3 (hJ2_15 (gb286) _ ⟨q7_2, q7_5, GW286.out, GE286.out, NB262_286.out, NB286_262.out, q7_4⟩)
                                   ·skip
                                    refine Kd.R_lit_step (Kd.int .u8) _ 5 ?hg (N := 57) ?hd (xs := ([] : List Int)) (inner := []) (ok := fun _ => True) (okp := fun _ => True) ?hr ?hp (fun _ hk => hk) trivial (Below.refl _ _) (Nat.le_refl _) (by simp) ?_; (case hd => rfl); (case hg => rfl); (case hr => first | (go_simp; done) | (go_simp; rfl)); (case hp => exact (Reps.none _ _))
                                    intro v280 w51 ho52 hb hg_ hnew_
                                    clear hg_ hnew_
                                    (first | rw [← Ny279.out] at ho52 | (simp only [Int.reduceToNat] at ho52; rw [← Ny279.out] at ho52))
                                    have n0_ := Aside0.mk (Kd.R_lower ho52 (below_size q7_4))
                                    have n1_ := Aside0.mk (blk_below (g := gb262) (o := .cells #[.int .i64 0, .int .i64 0, .slice none 0 0] 52 (0, 0)) q7_2 hb)
                                    have n2_ := Aside0.mk (blk_below (g := gb286) (o := .cells #[.int .i64 0, .int .i64 0, .slice none 0 0] 52 (0, 0)) q7_5 hb)
                                    have n3_ := Aside0.mk (below_step q7_4 hb)
                                    clear BK262
                                    clear BK286
                                    clear HB
                                    have HO281 := n0_
                                    have BK262 := n1_
                                    have BK286 := n2_
                                    have HB := n3_
                                    clear n0_ n1_ n2_ n3_
                                    clear hb ho52
                                    refine hK.out _ _ trivial (fun hHeld => ?_)
                                    clear hK K
                                    refine norm_ (a' := ?_) ?_ ?_
                                    rotate_left
                                    ·show Act.put _ (some 57) _ = _
                                     simp only [Act.put, List.setIfInBounds_toArray, List.set_cons_zero, List.set_cons_succ, i64_w, i32_w]
                                     rfl
                                    exact norm_ q7_3 (hJ8_15 (v280, gb286) _ ⟨q7_6, q7_2, q7_5, GW286.out, GE286.out, NB262_286.out, NB286_262.out, q7_4⟩)
                                 ·skip
                                  rintro v280 w51 ⟨h0_, h1_, h2_⟩
                                  have n0_ : Aside0 (Kd.R (Kd.int .u8) 5 w51 w.heap.size (fun _ => True) v280 y279) := ⟨h0_⟩
                                  have n1_ : Aside0 (w51.heap[gb262]? = some (.cells #[.int .i64 0, .int .i64 0, .slice none 0 0] 52 (0, 0))) := ⟨h1_⟩
                                  have n2_ : Aside0 (Below w.heap.size w w51) := ⟨h2_⟩
                                  clear BK262
                                  clear HB
                                  clear h0_ h1_ h2_
                                  have HO281 := n0_
                                  have BK262 := n1_
                                  have HB := n2_
                                  clear n0_ n1_ n2_
                                  have hHeld := trivial
                                  refine norm_ (a' := ?_) ?_ ?_
                                  rotate_left
                                  ·simp only [putAll, Act.put, List.setIfInBounds_toArray, List.set_cons_zero, List.set_cons_succ]
                                   rfl
                                  refine two_ (i := 2) (j := 15) (Ni := some 51) (Nj := some 5) #[true, true, true, false, true, true, false, false, true, true, true, true, true, false, false, false, false] #[true, true, false, false, true, true, false, false, true, true, true, true, true, false, false, true, false] rfl rfl rfl rfl (two_of HT_.out q7_12) q7_14 q7_14 (fun K hK => ?_) (fun K hK => ?_)
                                  ·skip
                                   refine goes_ Try.func18 q7_12 rfl #[.slice (some ad263) (l0.take 8).length c0] (by rfl) rfl rfl q7_10 ?_
                                   with_reducible refine (batonref01_Get.calls kj15 _ _ (l0.take 8) t276 _ ?side1 ?side2 A32.out).mono ?_
                                   (case side1 => repeat (first | exact (Kd.C_below HR275.out HB.out) | (with_reducible refine Kd.C_alloc ?_ _) | (with_reducible refine Kd.C_drewN ?_ _) | (with_reducible refine Kd.C_drew ?_)))
                                   (case side2 => exact HC275.out)
                                   rintro e w' ⟨rfl, ⟨nd, rfl⟩⟩
                                   refine ⟨_, rfl, ?_⟩
                                   refine hK.out _ _ trivial (fun hHeld => ?_)
                                   clear hK K
                                   refine norm_ (a' := ?_) ?_ ?_
                                   rotate_left
                                   ·show Act.put _ (some 51) _ = _
                                    simp only [Act.put, List.setIfInBounds_toArray, List.set_cons_zero, List.set_cons_succ, i64_w, i32_w]
                                    rfl
                                   refine pure_ (i := 3) (N := some 52) (v := ?_) (a' := ?_) #[true, true, true, true, true, true, false, false, true, true, true, true, true, false, false, false, false] rfl rfl (any_of HT_.out q7_12) (fun _ _ _ h => h) (Or.inl ⟨by rfl, ?_⟩) ?_ ?_
                                   rotate_left
                                   ·intro w'
                                    go_simp
                                    with_reducible rfl
                                   rotate_left
                                   ·simp only [Act.put, List.setIfInBounds_toArray, List.set_cons_zero, List.set_cons_succ, i64_w, i32_w]
                                    rfl
                                   exact norm_ q7_3 (hJ2_8 (v280) _ ⟨q7_6, q7_2, q7_1⟩)
                                  ·skip
                                   refine box_step ?hg (N := 5) ?hd (cs := #[.int .i64 0, .int .i64 0, .slice none 0 0]) (t := 52) ?hr ?_; (case hd => rfl); (case hg => rfl); (case hr => first | (go_simp; done) | (go_simp; rfl))
                                   intro gb286 hg w52 hbox hb
                                   have n0_ := Aside0.mk (Kd.R_below q7_6 hb)
                                   have n1_ := Aside0.mk (blk_below (g := gb262) (o := .cells #[.int .i64 0, .int .i64 0, .slice none 0 0] 52 (0, 0)) q7_2 hb)
                                   have n2_ := Aside0.mk (below_step q7_1 hb)
                                   have n3_ := Aside0.mk (hbox)
                                   have n4_ := Aside0.mk ((by rw [hg]; exact (below_size q7_1) : w.heap.size <= gb286))
                                   have n5_ := Aside0.mk ((by rw [hg]; exact (below_size q7_1) : w.heap.size <= gb286))
                                   have n6_ := Aside0.mk ((by rw [hg]; exact Nat.ne_of_lt (blk_lt (g := gb262) (o := .cells #[.int .i64 0, .int .i64 0, .slice none 0 0] 52 (0, 0)) q7_2) : gb262 ≠ gb286))
                                   have n7_ := Aside0.mk ((by rw [hg]; exact Nat.ne_of_gt (blk_lt (g := gb262) (o := .cells #[.int .i64 0, .int .i64 0, .slice none 0 0] 52 (0, 0)) q7_2) : gb286 ≠ gb262))
                                   clear HO281
                                   clear BK262
                                   clear HB
                                   have HO281 := n0_
                                   have BK262 := n1_
                                   have HB := n2_
                                   have BK286 := n3_
                                   have GW286 := n4_
                                   have GE286 := n5_
                                   have NB262_286 := n6_
                                   have NB286_262 := n7_
                                   clear n0_ n1_ n2_ n3_ n4_ n5_ n6_ n7_
                                   clear hb hbox hg
                                   refine hK.out _ _ trivial (fun hHeld => ?_)
                                   clear hK K
                                   refine norm_ (a' := ?_) ?_ ?_
                                   rotate_left
                                   ·show Act.put _ (some 5) _ = _
                                    simp only [Act.put, List.setIfInBounds_toArray, List.set_cons_zero, List.set_cons_succ, i64_w, i32_w]
                                    rfl
                                   exact norm_ q7_3 (hJ8_15 (v280, gb286) _ ⟨q7_6, q7_2, q7_5, GW286.out, GE286.out, NB262_286.out, NB286_262.out, q7_4⟩)
                                ·skip
                                 rintro _ w49 ⟨h0_, h1_⟩
                                 have n0_ : Aside0 (w49.heap[gb262]? = some (.cells #[.int .i64 0, .int .i64 0, .slice none 0 0] 52 (0, 0))) := ⟨h0_⟩
                                 have n1_ : Aside0 (Below w.heap.size w w49) := ⟨h1_⟩
                                 clear BK262
                                 clear HB
                                 clear h0_ h1_
                                 have BK262 := n0_
                                 have HB := n1_
                                 clear n0_ n1_
                                 have hHeld := trivial
                                 refine norm_ (a' := ?_) ?_ ?_
                                 rotate_left
                                 ·simp only [putAll, Act.put, List.setIfInBounds_toArray, List.set_cons_zero, List.set_cons_succ]
                                  rfl
                                 refine three_ (i := 6) (j := 8) (k := 15) (Ni := some 55) (Nj := some 57) (Nk := some 5) #[true, true, true, true, true, true, true, false, false, true, true, true, true, false, false, false, false] #[true, true, true, true, true, true, false, false, true, true, true, true, true, false, false, false, false] #[true, true, true, true, true, true, false, false, false, true, true, true, true, false, false, true, false] rfl rfl rfl rfl rfl rfl (three_of HT_.out q7_12) q7_14 q7_14 q7_14 (fun K hK => ?_) (fun K hK => ?_) (fun K hK => ?_)
                                 ·skip
                                  refine goes_ Try.func18 q7_12 rfl #[.slice A47 ((l0.take 16).drop 8).length (c0 - 8)] (by rfl) rfl rfl q7_9 ?_
                                  with_reducible refine (batonref01_Get.calls kj15 _ _ ((l0.take 16).drop 8) t278 _ ?side1 ?side2 A35.out).mono ?_
                                  (case side1 => repeat (first | exact (Kd.C_below HR277.out HB.out) | (with_reducible refine Kd.C_alloc ?_ _) | (with_reducible refine Kd.C_drewN ?_ _) | (with_reducible refine Kd.C_drew ?_)))
                                  (case side2 => exact HC277.out)
                                  rintro e w' ⟨rfl, ⟨nd, rfl⟩⟩
                                  refine ⟨_, rfl, ?_⟩
                                  refine hK.out _ _ trivial (fun hHeld => ?_)
                                  clear hK K
                                  refine norm_ (a' := ?_) ?_ ?_
                                  rotate_left
                                  ·show Act.put _ (some 55) _ = _
                                   simp only [Act.put, List.setIfInBounds_toArray, List.set_cons_zero, List.set_cons_succ, i64_w, i32_w]
                                   rfl
                                  refine pure_ (i := 7) (N := some 56) (v := ?_) (a' := ?_) #[true, true, true, true, true, true, true, true, false, true, true, true, true, false, false, false, false] rfl rfl (any_of HT_.out q7_12) (fun _ _ _ h => h) (Or.inl ⟨by rfl, ?_⟩) ?_ ?_
                                  rotate_left
                                  ·intro w'
                                   go_simp
                                   with_reducible rfl
                                  rotate_left
                                  ·simp only [Act.put, List.setIfInBounds_toArray, List.set_cons_zero, List.set_cons_succ, i64_w, i32_w]
                                   rfl
                                  exact norm_ q7_3 (hJ2_6 () _ ⟨q7_2, q7_1⟩)
                                 ·skip
                                  refine Kd.R_lit_step (Kd.int .u8) _ 5 ?hg (N := 57) ?hd (xs := ([] : List Int)) (inner := []) (ok := fun _ => True) (okp := fun _ => True) ?hr ?hp (fun _ hk => hk) trivial (Below.refl _ _) (Nat.le_refl _) (by simp) ?_; (case hd => rfl); (case hg => rfl); (case hr => first | (go_simp; done) | (go_simp; rfl)); (case hp => exact (Reps.none _ _))
                                  intro v280 w50 ho51 hb hg_ hnew_
                                  clear hg_ hnew_
                                  (first | rw [← Ny279.out] at ho51 | (simp only [Int.reduceToNat] at ho51; rw [← Ny279.out] at ho51))
                                  have n0_ := Aside0.mk (Kd.R_lower ho51 (below_size q7_1))
                                  have n1_ := Aside0.mk (blk_below (g := gb262) (o := .cells #[.int .i64 0, .int .i64 0, .slice none 0 0] 52 (0, 0)) q7_2 hb)
                                  have n2_ := Aside0.mk (below_step q7_1 hb)
                                  clear BK262
                                  clear HB
                                  have HO281 := n0_
                                  have BK262 := n1_
                                  have HB := n2_
                                  clear n0_ n1_ n2_
                                  clear hb ho51
                                  refine hK.out _ _ trivial (fun hHeld => ?_)
                                  clear hK K
                                  refine norm_ (a' := ?_) ?_ ?_
                                  rotate_left
                                  ·show Act.put _ (some 57) _ = _
                                   simp only [Act.put, List.setIfInBounds_toArray, List.set_cons_zero, List.set_cons_succ, i64_w, i32_w]
                                   rfl
                                  exact norm_ q7_3 (hJ2_8 (v280) _ ⟨q7_6, q7_2, q7_1⟩)
                                 ·skip
                                  refine box_step ?hg (N := 5) ?hd (cs := #[.int .i64 0, .int .i64 0, .slice none 0 0]) (t := 52) ?hr ?_; (case hd => rfl); (case hg => rfl); (case hr => first | (go_simp; done) | (go_simp; rfl))
                                  intro gb286 hg w50 hbox hb
                                  have n0_ := Aside0.mk (blk_below (g := gb262) (o := .cells #[.int .i64 0, .int .i64 0, .slice none 0 0] 52 (0, 0)) q7_2 hb)
                                  have n1_ := Aside0.mk (below_step q7_1 hb)
                                  have n2_ := Aside0.mk (hbox)
                                  have n3_ := Aside0.mk ((by rw [hg]; exact (below_size q7_1) : w.heap.size <= gb286))
                                  have n4_ := Aside0.mk ((by rw [hg]; exact (below_size q7_1) : w.heap.size <= gb286))
                                  have n5_ := Aside0.mk ((by rw [hg]; exact Nat.ne_of_lt (blk_lt (g := gb262) (o := .cells #[.int .i64 0, .int .i64 0, .slice none 0 0] 52 (0, 0)) q7_2) : gb262 ≠ gb286))
                                  have n6_ := Aside0.mk ((by rw [hg]; exact Nat.ne_of_gt (blk_lt (g := gb262) (o := .cells #[.int .i64 0, .int .i64 0, .slice none 0 0] 52 (0, 0)) q7_2) : gb286 ≠ gb262))
                                  clear BK262
                                  clear HB
                                  have BK262 := n0_
                                  have HB := n1_
                                  have BK286 := n2_
                                  have GW286 := n3_
                                  have GE286 := n4_
                                  have NB262_286 := n5_
                                  have NB286_262 := n6_
                                  clear n0_ n1_ n2_ n3_ n4_ n5_ n6_
                                  clear hb hbox hg
                                  refine hK.out _ _ trivial (fun hHeld => ?_)
                                  clear hK K
                                  refine norm_ (a' := ?_) ?_ ?_
                                  rotate_left
                                  ·show Act.put _ (some 5) _ = _
                                   simp only [Act.put, List.setIfInBounds_toArray, List.set_cons_zero, List.set_cons_succ, i64_w, i32_w]
                                   rfl
                                  exact norm_ q7_3 (hJ2_15 (gb286) _ ⟨q7_2, q7_5, GW286.out, GE286.out, NB262_286.out, NB286_262.out, q7_4⟩)
                               ·skip
                                rintro ⟨v280, gb286⟩ w52 ⟨h0_, h1_, h2_, h3_, h4_, h5_, h6_, h7_⟩
                                have n0_ : Aside0 (Kd.R (Kd.int .u8) 5 w52 w.heap.size (fun _ => True) v280 y279) := ⟨h0_⟩
                                have n1_ : Aside0 (w52.heap[gb262]? = some (.cells #[.int .i64 0, .int .i64 0, .slice none 0 0] 52 (0, 0))) := ⟨h1_⟩
                                have n2_ : Aside0 (w52.heap[gb286]? = some (.cells #[.int .i64 0, .int .i64 0, .slice none 0 0] 52 (0, 0))) := ⟨h2_⟩
                                have n3_ : Aside0 (w.heap.size <= gb286) := ⟨h3_⟩
                                have n4_ : Aside0 (w.heap.size <= gb286) := ⟨h4_⟩
                                have n5_ : Aside0 (gb262 ≠ gb286) := ⟨h5_⟩
                                have n6_ : Aside0 (gb286 ≠ gb262) := ⟨h6_⟩
                                have n7_ : Aside0 (Below w.heap.size w w52) := ⟨h7_⟩
                                clear BK262
                                clear HB
                                clear h0_ h1_ h2_ h3_ h4_ h5_ h6_ h7_
                                have HO281 := n0_
                                have BK262 := n1_
                                have BK286 := n2_
                                have GW286 := n3_
                                have GE286 := n4_
                                have NB262_286 := n5_
                                have NB286_262 := n6_
                                have HB := n7_
                                clear n0_ n1_ n2_ n3_ n4_ n5_ n6_ n7_
                                have hHeld := trivial
                                refine norm_ (a' := ?_) ?_ ?_
                                rotate_left
                                ·simp only [putAll, Act.put, List.setIfInBounds_toArray, List.set_cons_zero, List.set_cons_succ]
                                 rfl
                                refine one_ (i := 2) (N := some 51) #[true, true, true, false, true, true, false, false, true, true, true, true, true, false, false, true, false] rfl rfl (one_of HT_.out q7_12) q7_14 (fun K hK => ?_)
                                refine goes_ Try.func18 q7_12 rfl #[.slice (some ad263) (l0.take 8).length c0] (by rfl) rfl rfl q7_10 ?_
                                with_reducible refine (batonref01_Get.calls kj15 _ _ (l0.take 8) t276 _ ?side1 ?side2 A32.out).mono ?_
                                (case side1 => repeat (first | exact (Kd.C_below HR275.out HB.out) | (with_reducible refine Kd.C_alloc ?_ _) | (with_reducible refine Kd.C_drewN ?_ _) | (with_reducible refine Kd.C_drew ?_)))
                                (case side2 => exact HC275.out)
                                rintro e w' ⟨rfl, ⟨nd, rfl⟩⟩
                                refine ⟨_, rfl, ?_⟩
                                refine hK.out _ _ trivial (fun hHeld => ?_)
                                clear hK K
                                refine norm_ (a' := ?_) ?_ ?_
                                rotate_left
                                ·show Act.put _ (some 51) _ = _
                                 simp only [Act.put, List.setIfInBounds_toArray, List.set_cons_zero, List.set_cons_succ, i64_w, i32_w]
                                 rfl
                                refine pure_ (i := 3) (N := some 52) (v := ?_) (a' := ?_) #[true, true, true, true, true, true, false, false, true, true, true, true, true, false, false, true, false] rfl rfl (any_of HT_.out q7_12) (fun _ _ _ h => h) (Or.inl ⟨by rfl, ?_⟩) ?_ ?_
                                rotate_left
                                ·intro w'
                                 go_simp
                                 with_reducible rfl
                                rotate_left
                                ·simp only [Act.put, List.setIfInBounds_toArray, List.set_cons_zero, List.set_cons_succ, i64_w, i32_w]
                                 rfl
                                exact norm_ q7_3 (hJ2_8_15 (v280, gb286) _ ⟨q7_6, q7_2, q7_5, GW286.out, GE286.out, NB262_286.out, NB286_262.out, q7_4⟩)
                              ·skip
                               rintro gb286 w50 ⟨h0_, h1_, h2_, h3_, h4_, h5_, h6_⟩
                               have n0_ : Aside0 (w50.heap[gb262]? = some (.cells #[.int .i64 0, .int .i64 0, .slice none 0 0] 52 (0, 0))) := ⟨h0_⟩
                               have n1_ : Aside0 (w50.heap[gb286]? = some (.cells #[.int .i64 0, .int .i64 0, .slice none 0 0] 52 (0, 0))) := ⟨h1_⟩
                               have n2_ : Aside0 (w.heap.size <= gb286) := ⟨h2_⟩
                               have n3_ : Aside0 (w.heap.size <= gb286) := ⟨h3_⟩
                               have n4_ : Aside0 (gb262 ≠ gb286) := ⟨h4_⟩
                               have n5_ : Aside0 (gb286 ≠ gb262) := ⟨h5_⟩
                               have n6_ : Aside0 (Below w.heap.size w w50) := ⟨h6_⟩
                               clear BK262
                               clear HB
                               clear h0_ h1_ h2_ h3_ h4_ h5_ h6_
                               have BK262 := n0_
                               have BK286 := n1_
                               have GW286 := n2_
                               have GE286 := n3_
                               have NB262_286 := n4_
                               have NB286_262 := n5_
                               have HB := n6_
                               clear n0_ n1_ n2_ n3_ n4_ n5_ n6_
                               have hHeld := trivial
                               refine norm_ (a' := ?_) ?_ ?_
                               rotate_left
                               ·simp only [putAll, Act.put, List.setIfInBounds_toArray, List.set_cons_zero, List.set_cons_succ]
                                rfl
                               refine two_ (i := 6) (j := 8) (Ni := some 55) (Nj := some 57) #[true, true, true, true, true, true, true, false, false, true, true, true, true, false, false, true, false] #[true, true, true, true, true, true, false, false, true, true, true, true, true, false, false, true, false] rfl rfl rfl rfl (two_of HT_.out q7_12) q7_14 q7_14 (fun K hK => ?_) (fun K hK => ?_)
                               ·skip
                                refine goes_ Try.func18 q7_12 rfl #[.slice A47 ((l0.take 16).drop 8).length (c0 - 8)] (by rfl) rfl rfl q7_9 ?_
                                with_reducible refine (batonref01_Get.calls kj15 _ _ ((l0.take 16).drop 8) t278 _ ?side1 ?side2 A35.out).mono ?_
                                (case side1 => repeat (first | exact (Kd.C_below HR277.out HB.out) | (with_reducible refine Kd.C_alloc ?_ _) | (with_reducible refine Kd.C_drewN ?_ _) | (with_reducible refine Kd.C_drew ?_)))
                                (case side2 => exact HC277.out)
                                rintro e w' ⟨rfl, ⟨nd, rfl⟩⟩
                                refine ⟨_, rfl, ?_⟩
                                refine hK.out _ _ trivial (fun hHeld => ?_)
                                clear hK K
                                refine norm_ (a' := ?_) ?_ ?_
                                rotate_left
                                ·show Act.put _ (some 55) _ = _
                                 simp only [Act.put, List.setIfInBounds_toArray, List.set_cons_zero, List.set_cons_succ, i64_w, i32_w]
                                 rfl
                                refine pure_ (i := 7) (N := some 56) (v := ?_) (a' := ?_) #[true, true, true, true, true, true, true, true, false, true, true, true, true, false, false, true, false] rfl rfl (any_of HT_.out q7_12) (fun _ _ _ h => h) (Or.inl ⟨by rfl, ?_⟩) ?_ ?_
                                rotate_left
                                ·intro w'
                                 go_simp
                                 with_reducible rfl
                                rotate_left
                                ·simp only [Act.put, List.setIfInBounds_toArray, List.set_cons_zero, List.set_cons_succ, i64_w, i32_w]
                                 rfl
                                exact norm_ q7_3 (hJ2_6_15 (gb286) _ ⟨q7_2, q7_5, GW286.out, GE286.out, NB262_286.out, NB286_262.out, q7_4⟩)
                               ·skip
                                refine Kd.R_lit_step (Kd.int .u8) _ 5 ?hg (N := 57) ?hd (xs := ([] : List Int)) (inner := []) (ok := fun _ => True) (okp := fun _ => True) ?hr ?hp (fun _ hk => hk) trivial (Below.refl _ _) (Nat.le_refl _) (by simp) ?_; (case hd => rfl); (case hg => rfl); (case hr => first | (go_simp; done) | (go_simp; rfl)); (case hp => exact (Reps.none _ _))
                                intro v280 w51 ho52 hb hg_ hnew_
                                clear hg_ hnew_
                                (first | rw [← Ny279.out] at ho52 | (simp only [Int.reduceToNat] at ho52; rw [← Ny279.out] at ho52))
                                have n0_ := Aside0.mk (Kd.R_lower ho52 (below_size q7_4))
                                have n1_ := Aside0.mk (blk_below (g := gb262) (o := .cells #[.int .i64 0, .int .i64 0, .slice none 0 0] 52 (0, 0)) q7_2 hb)
                                have n2_ := Aside0.mk (blk_below (g := gb286) (o := .cells #[.int .i64 0, .int .i64 0, .slice none 0 0] 52 (0, 0)) q7_5 hb)
                                have n3_ := Aside0.mk (below_step q7_4 hb)
                                clear BK262
                                clear BK286
                                clear HB
                                have HO281 := n0_
                                have BK262 := n1_
                                have BK286 := n2_
                                have HB := n3_
                                clear n0_ n1_ n2_ n3_
                                clear hb ho52
                                refine hK.out _ _ trivial (fun hHeld => ?_)
                                clear hK K
                                refine norm_ (a' := ?_) ?_ ?_
                                rotate_left
                                ·show Act.put _ (some 57) _ = _
                                 simp only [Act.put, List.setIfInBounds_toArray, List.set_cons_zero, List.set_cons_succ, i64_w, i32_w]
                                 rfl
                                exact norm_ q7_3 (hJ2_8_15 (v280, gb286) _ ⟨q7_6, q7_2, q7_5, GW286.out, GE286.out, NB262_286.out, NB286_262.out, q7_4⟩)
                             ·skip
                              rintro v280 w51 ⟨h0_, h1_, h2_⟩
                              have n0_ : Aside0 (Kd.R (Kd.int .u8) 5 w51 w.heap.size (fun _ => True) v280 y279) := ⟨h0_⟩
                              have n1_ : Aside0 (w51.heap[gb262]? = some (.cells #[.int .i64 0, .int .i64 0, .slice none 0 0] 52 (0, 0))) := ⟨h1_⟩
                              have n2_ : Aside0 (Below w.heap.size w w51) := ⟨h2_⟩
                              clear BK262
                              clear HB
                              clear h0_ h1_ h2_
                              have HO281 := n0_
                              have BK262 := n1_
                              have HB := n2_
                              clear n0_ n1_ n2_
                              have hHeld := trivial
                              refine norm_ (a' := ?_) ?_ ?_
                              rotate_left
                              ·simp only [putAll, Act.put, List.setIfInBounds_toArray, List.set_cons_zero, List.set_cons_succ]
                               rfl
                              refine two_ (i := 6) (j := 15) (Ni := some 55) (Nj := some 5) #[true, true, true, true, true, true, true, false, true, true, true, true, true, false, false, false, false] #[true, true, true, true, true, true, false, false, true, true, true, true, true, false, false, true, false] rfl rfl rfl rfl (two_of HT_.out q7_12) q7_14 q7_14 (fun K hK => ?_) (fun K hK => ?_)
                              ·skip
                               refine goes_ Try.func18 q7_12 rfl #[.slice A47 ((l0.take 16).drop 8).length (c0 - 8)] (by rfl) rfl rfl q7_9 ?_
                               with_reducible refine (batonref01_Get.calls kj15 _ _ ((l0.take 16).drop 8) t278 _ ?side1 ?side2 A35.out).mono ?_
                               (case side1 => repeat (first | exact (Kd.C_below HR277.out HB.out) | (with_reducible refine Kd.C_alloc ?_ _) | (with_reducible refine Kd.C_drewN ?_ _) | (with_reducible refine Kd.C_drew ?_)))
                               (case side2 => exact HC277.out)
                               rintro e w' ⟨rfl, ⟨nd, rfl⟩⟩
                               refine ⟨_, rfl, ?_⟩
                               refine hK.out _ _ trivial (fun hHeld => ?_)
                               clear hK K
                               refine norm_ (a' := ?_) ?_ ?_
                               rotate_left
                               ·show Act.put _ (some 55) _ = _
                                simp only [Act.put, List.setIfInBounds_toArray, List.set_cons_zero, List.set_cons_succ, i64_w, i32_w]
                                rfl
                               refine pure_ (i := 7) (N := some 56) (v := ?_) (a' := ?_) #[true, true, true, true, true, true, true, true, true, true, true, true, true, false, false, false, false] rfl rfl (any_of HT_.out q7_12) (fun _ _ _ h => h) (Or.inl ⟨by rfl, ?_⟩) ?_ ?_
                               rotate_left
                               ·intro w'
                                go_simp
                                with_reducible rfl
                               rotate_left
                               ·simp only [Act.put, List.setIfInBounds_toArray, List.set_cons_zero, List.set_cons_succ, i64_w, i32_w]
                                rfl
                               exact norm_ q7_3 (hJ2_6_8 (v280) _ ⟨q7_6, q7_2, q7_1⟩)
                              ·skip
                               refine box_step ?hg (N := 5) ?hd (cs := #[.int .i64 0, .int .i64 0, .slice none 0 0]) (t := 52) ?hr ?_; (case hd => rfl); (case hg => rfl); (case hr => first | (go_simp; done) | (go_simp; rfl))
                               intro gb286 hg w52 hbox hb
                               have n0_ := Aside0.mk (Kd.R_below q7_6 hb)
                               have n1_ := Aside0.mk (blk_below (g := gb262) (o := .cells #[.int .i64 0, .int .i64 0, .slice none 0 0] 52 (0, 0)) q7_2 hb)
                               have n2_ := Aside0.mk (below_step q7_1 hb)
                               have n3_ := Aside0.mk (hbox)
                               have n4_ := Aside0.mk ((by rw [hg]; exact (below_size q7_1) : w.heap.size <= gb286))
                               have n5_ := Aside0.mk ((by rw [hg]; exact (below_size q7_1) : w.heap.size <= gb286))
                               have n6_ := Aside0.mk ((by rw [hg]; exact Nat.ne_of_lt (blk_lt (g := gb262) (o := .cells #[.int .i64 0, .int .i64 0, .slice none 0 0] 52 (0, 0)) q7_2) : gb262 ≠ gb286))
                               have n7_ := Aside0.mk ((by rw [hg]; exact Nat.ne_of_gt (blk_lt (g := gb262) (o := .cells #[.int .i64 0, .int .i64 0, .slice none 0 0] 52 (0, 0)) q7_2) : gb286 ≠ gb262))
                               clear HO281
                               clear BK262
                               clear HB
                               have HO281 := n0_
                               have BK262 := n1_
                               have HB := n2_
                               have BK286 := n3_
                               have GW286 := n4_
                               have GE286 := n5_
                               have NB262_286 := n6_
                               have NB286_262 := n7_
                               clear n0_ n1_ n2_ n3_ n4_ n5_ n6_ n7_
                               clear hb hbox hg
                               refine hK.out _ _ trivial (fun hHeld => ?_)
                               clear hK K
                               refine norm_ (a' := ?_) ?_ ?_
                               rotate_left
                               ·show Act.put _ (some 5) _ = _
                                simp only [Act.put, List.setIfInBounds_toArray, List.set_cons_zero, List.set_cons_succ, i64_w, i32_w]
                                rfl
                               exact norm_ q7_3 (hJ2_8_15 (v280, gb286) _ ⟨q7_6, q7_2, q7_5, GW286.out, GE286.out, NB262_286.out, NB286_262.out, q7_4⟩)
                            ·skip
                             rintro _ w49 ⟨h0_, h1_⟩
                             have n0_ : Aside0 (w49.heap[gb262]? = some (.cells #[.int .i64 0, .int .i64 0, .slice none 0 0] 52 (0, 0))) := ⟨h0_⟩
                             have n1_ : Aside0 (Below w.heap.size w w49) := ⟨h1_⟩
                             clear BK262
                             clear HB
                             clear h0_ h1_
                             have BK262 := n0_
                             have HB := n1_
                             clear n0_ n1_
                             have hHeld := trivial
                             refine norm_ (a' := ?_) ?_ ?_
                             rotate_left
                             ·simp only [putAll, Act.put, List.setIfInBounds_toArray, List.set_cons_zero, List.set_cons_succ]
                              rfl
                             refine two_ (i := 8) (j := 15) (Ni := some 57) (Nj := some 5) #[true, true, true, true, true, true, true, true, true, true, true, true, true, false, false, false, false] #[true, true, true, true, true, true, true, true, false, true, true, true, true, false, false, true, false] rfl rfl rfl rfl (two_of HT_.out q7_12) q7_14 q7_14 (fun K hK => ?_) (fun K hK => ?_)
                             ·skip
                              refine Kd.R_lit_step (Kd.int .u8) _ 5 ?hg (N := 57) ?hd (xs := ([] : List Int)) (inner := []) (ok := fun _ => True) (okp := fun _ => True) ?hr ?hp (fun _ hk => hk) trivial (Below.refl _ _) (Nat.le_refl _) (by simp) ?_; (case hd => rfl); (case hg => rfl); (case hr => first | (go_simp; done) | (go_simp; rfl)); (case hp => exact (Reps.none _ _))
                              intro v280 w50 ho51 hb hg_ hnew_
                              clear hg_ hnew_
                              (first | rw [← Ny279.out] at ho51 | (simp only [Int.reduceToNat] at ho51; rw [← Ny279.out] at ho51))
                              have n0_ := Aside0.mk (Kd.R_lower ho51 (below_size q7_1))
                              have n1_ := Aside0.mk (blk_below (g := gb262) (o := .cells #[.int .i64 0, .int .i64 0, .slice none 0 0] 52 (0, 0)) q7_2 hb)
                              have n2_ := Aside0.mk (below_step q7_1 hb)
                              clear BK262
                              clear HB
                              have HO281 := n0_
                              have BK262 := n1_
                              have HB := n2_
                              clear n0_ n1_ n2_
                              clear hb ho51
                              refine hK.out _ _ trivial (fun hHeld => ?_)
                              clear hK K
                              refine norm_ (a' := ?_) ?_ ?_
                              rotate_left
                              ·show Act.put _ (some 57) _ = _
                               simp only [Act.put, List.setIfInBounds_toArray, List.set_cons_zero, List.set_cons_succ, i64_w, i32_w]
                               rfl
                              exact norm_ q7_3 (hJ2_6_8 (v280) _ ⟨q7_6, q7_2, q7_1⟩)
                             ·skip
                              refine box_step ?hg (N := 5) ?hd (cs := #[.int .i64 0, .int .i64 0, .slice none 0 0]) (t := 52) ?hr ?_; (case hd => rfl); (case hg => rfl); (case hr => first | (go_simp; done) | (go_simp; rfl))
                              intro gb286 hg w50 hbox hb
                              have n0_ := Aside0.mk (blk_below (g := gb262) (o := .cells #[.int .i64 0, .int .i64 0, .slice none 0 0] 52 (0, 0)) q7_2 hb)
                              have n1_ := Aside0.mk (below_step q7_1 hb)
                              have n2_ := Aside0.mk (hbox)
                              have n3_ := Aside0.mk ((by rw [hg]; exact (below_size q7_1) : w.heap.size <= gb286))
                              have n4_ := Aside0.mk ((by rw [hg]; exact (below_size q7_1) : w.heap.size <= gb286))
                              have n5_ := Aside0.mk ((by rw [hg]; exact Nat.ne_of_lt (blk_lt (g := gb262) (o := .cells #[.int .i64 0, .int .i64 0, .slice none 0 0] 52 (0, 0)) q7_2) : gb262 ≠ gb286))
                              have n6_ := Aside0.mk ((by rw [hg]; exact Nat.ne_of_gt (blk_lt (g := gb262) (o := .cells #[.int .i64 0, .int .i64 0, .slice none 0 0] 52 (0, 0)) q7_2) : gb286 ≠ gb262))
                              clear BK262
                              clear HB
                              have BK262 := n0_
                              have HB := n1_
                              have BK286 := n2_
                              have GW286 := n3_
                              have GE286 := n4_
                              have NB262_286 := n5_
                              have NB286_262 := n6_
                              clear n0_ n1_ n2_ n3_ n4_ n5_ n6_
                              clear hb hbox hg
                              refine hK.out _ _ trivial (fun hHeld => ?_)
                              clear hK K
                              refine norm_ (a' := ?_) ?_ ?_
                              rotate_left
                              ·show Act.put _ (some 5) _ = _
                               simp only [Act.put, List.setIfInBounds_toArray, List.set_cons_zero, List.set_cons_succ, i64_w, i32_w]
                               rfl
                              exact norm_ q7_3 (hJ2_6_15 (gb286) _ ⟨q7_2, q7_5, GW286.out, GE286.out, NB262_286.out, NB286_262.out, q7_4⟩)
                           ·skip
                            rintro ⟨v280, gb286⟩ w52 ⟨h0_, h1_, h2_, h3_, h4_, h5_, h6_, h7_⟩
                            have n0_ : Aside0 (Kd.R (Kd.int .u8) 5 w52 w.heap.size (fun _ => True) v280 y279) := ⟨h0_⟩
                            have n1_ : Aside0 (w52.heap[gb262]? = some (.cells #[.int .i64 0, .int .i64 0, .slice none 0 0] 52 (0, 0))) := ⟨h1_⟩
                            have n2_ : Aside0 (w52.heap[gb286]? = some (.cells #[.int .i64 0, .int .i64 0, .slice none 0 0] 52 (0, 0))) := ⟨h2_⟩
                            have n3_ : Aside0 (w.heap.size <= gb286) := ⟨h3_⟩
                            have n4_ : Aside0 (w.heap.size <= gb286) := ⟨h4_⟩
                            have n5_ : Aside0 (gb262 ≠ gb286) := ⟨h5_⟩
                            have n6_ : Aside0 (gb286 ≠ gb262) := ⟨h6_⟩
                            have n7_ : Aside0 (Below w.heap.size w w52) := ⟨h7_⟩
                            clear BK262
                            clear HB
                            clear h0_ h1_ h2_ h3_ h4_ h5_ h6_ h7_
                            have HO281 := n0_
                            have BK262 := n1_
                            have BK286 := n2_
                            have GW286 := n3_
                            have GE286 := n4_
                            have NB262_286 := n5_
                            have NB286_262 := n6_
                            have HB := n7_
                            clear n0_ n1_ n2_ n3_ n4_ n5_ n6_ n7_
                            have hHeld := trivial
                            refine norm_ (a' := ?_) ?_ ?_
                            rotate_left
                            ·simp only [putAll, Act.put, List.setIfInBounds_toArray, List.set_cons_zero, List.set_cons_succ]
                             rfl
                            refine one_ (i := 6) (N := some 55) #[true, true, true, true, true, true, true, false, true, true, true, true, true, false, false, true, false] rfl rfl (one_of HT_.out q7_12) q7_14 (fun K hK => ?_)
                            refine goes_ Try.func18 q7_12 rfl #[.slice A47 ((l0.take 16).drop 8).length (c0 - 8)] (by rfl) rfl rfl q7_9 ?_
                            with_reducible refine (batonref01_Get.calls kj15 _ _ ((l0.take 16).drop 8) t278 _ ?side1 ?side2 A35.out).mono ?_
                            (case side1 => repeat (first | exact (Kd.C_below HR277.out HB.out) | (with_reducible refine Kd.C_alloc ?_ _) | (with_reducible refine Kd.C_drewN ?_ _) | (with_reducible refine Kd.C_drew ?_)))
                            (case side2 => exact HC277.out)
                            rintro e w' ⟨rfl, ⟨nd, rfl⟩⟩
                            refine ⟨_, rfl, ?_⟩
                            refine hK.out _ _ trivial (fun hHeld => ?_)
                            clear hK K
                            refine norm_ (a' := ?_) ?_ ?_
                            rotate_left
                            ·show Act.put _ (some 55) _ = _
                             simp only [Act.put, List.setIfInBounds_toArray, List.set_cons_zero, List.set_cons_succ, i64_w, i32_w]
                             rfl
                            refine pure_ (i := 7) (N := some 56) (v := ?_) (a' := ?_) #[true, true, true, true, true, true, true, true, true, true, true, true, true, false, false, true, false] rfl rfl (any_of HT_.out q7_12) (fun _ _ _ h => h) (Or.inl ⟨by rfl, ?_⟩) ?_ ?_
                            rotate_left
                            ·intro w'
                             go_simp
                             with_reducible rfl
                            rotate_left
                            ·simp only [Act.put, List.setIfInBounds_toArray, List.set_cons_zero, List.set_cons_succ, i64_w, i32_w]
                             rfl
                            exact norm_ q7_3 (hJ2_6_8_15 (v280, gb286) _ ⟨q7_6, q7_2, q7_5, GW286.out, GE286.out, NB262_286.out, NB286_262.out, q7_4⟩)
                          ·skip
                           rintro gb286 w50 ⟨h0_, h1_, h2_, h3_, h4_, h5_, h6_⟩
                           have n0_ : Aside0 (w50.heap[gb262]? = some (.cells #[.int .i64 0, .int .i64 0, .slice none 0 0] 52 (0, 0))) := ⟨h0_⟩
                           have n1_ : Aside0 (w50.heap[gb286]? = some (.cells #[.int .i64 0, .int .i64 0, .slice none 0 0] 52 (0, 0))) := ⟨h1_⟩
                           have n2_ : Aside0 (w.heap.size <= gb286) := ⟨h2_⟩
                           have n3_ : Aside0 (w.heap.size <= gb286) := ⟨h3_⟩
                           have n4_ : Aside0 (gb262 ≠ gb286) := ⟨h4_⟩
                           have n5_ : Aside0 (gb286 ≠ gb262) := ⟨h5_⟩
                           have n6_ : Aside0 (Below w.heap.size w w50) := ⟨h6_⟩
                           clear BK262
                           clear HB
                           clear h0_ h1_ h2_ h3_ h4_ h5_ h6_
                           have BK262 := n0_
                           have BK286 := n1_
                           have GW286 := n2_
                           have GE286 := n3_
                           have NB262_286 := n4_
                           have NB286_262 := n5_
                           have HB := n6_
                           clear n0_ n1_ n2_ n3_ n4_ n5_ n6_
                           have hHeld := trivial
                           refine norm_ (a' := ?_) ?_ ?_
                           rotate_left
                           ·simp only [putAll, Act.put, List.setIfInBounds_toArray, List.set_cons_zero, List.set_cons_succ]
                            rfl
                           refine one_ (i := 8) (N := some 57) #[true, true, true, true, true, true, true, true, true, true, true, true, true, false, false, true, false] rfl rfl (one_of HT_.out q7_12) q7_14 (fun K hK => ?_)
                           refine Kd.R_lit_step (Kd.int .u8) _ 5 ?hg (N := 57) ?hd (xs := ([] : List Int)) (inner := []) (ok := fun _ => True) (okp := fun _ => True) ?hr ?hp (fun _ hk => hk) trivial (Below.refl _ _) (Nat.le_refl _) (by simp) ?_; (case hd => rfl); (case hg => rfl); (case hr => first | (go_simp; done) | (go_simp; rfl)); (case hp => exact (Reps.none _ _))
                           intro v280 w51 ho52 hb hg_ hnew_
                           clear hg_ hnew_
                           (first | rw [← Ny279.out] at ho52 | (simp only [Int.reduceToNat] at ho52; rw [← Ny279.out] at ho52))
                           have n0_ := Aside0.mk (Kd.R_lower ho52 (below_size q7_4))
                           have n1_ := Aside0.mk (blk_below (g := gb262) (o := .cells #[.int .i64 0, .int .i64 0, .slice none 0 0] 52 (0, 0)) q7_2 hb)
                           have n2_ := Aside0.mk (blk_below (g := gb286) (o := .cells #[.int .i64 0, .int .i64 0, .slice none 0 0] 52 (0, 0)) q7_5 hb)
                           have n3_ := Aside0.mk (below_step q7_4 hb)
                           clear BK262
                           clear BK286
                           clear HB
                           have HO281 := n0_
                           have BK262 := n1_
                           have BK286 := n2_
                           have HB := n3_
                           clear n0_ n1_ n2_ n3_
                           clear hb ho52
                           refine hK.out _ _ trivial (fun hHeld => ?_)
                           clear hK K
                           refine norm_ (a' := ?_) ?_ ?_
                           rotate_left
                           ·show Act.put _ (some 57) _ = _
                            simp only [Act.put, List.setIfInBounds_toArray, List.set_cons_zero, List.set_cons_succ, i64_w, i32_w]
                            rfl
                           exact norm_ q7_3 (hJ2_6_8_15 (v280, gb286) _ ⟨q7_6, q7_2, q7_5, GW286.out, GE286.out, NB262_286.out, NB286_262.out, q7_4⟩)
                         ·skip
                          rintro v280 w51 ⟨h0_, h1_, h2_⟩
                          have n0_ : Aside0 (Kd.R (Kd.int .u8) 5 w51 w.heap.size (fun _ => True) v280 y279) := ⟨h0_⟩
                          have n1_ : Aside0 (w51.heap[gb262]? = some (.cells #[.int .i64 0, .int .i64 0, .slice none 0 0] 52 (0, 0))) := ⟨h1_⟩
                          have n2_ : Aside0 (Below w.heap.size w w51) := ⟨h2_⟩
                          clear BK262
                          clear HB
                          clear h0_ h1_ h2_
                          have HO281 := n0_
                          have BK262 := n1_
                          have HB := n2_
                          clear n0_ n1_ n2_
                          have hHeld := trivial
                          refine norm_ (a' := ?_) ?_ ?_
                          rotate_left
                          ·simp only [putAll, Act.put, List.setIfInBounds_toArray, List.set_cons_zero, List.set_cons_succ]
                           rfl
                          refine two_ (i := 13) (j := 15) (Ni := some 62) (Nj := some 5) #[true, true, true, true, true, true, true, true, true, true, true, true, true, true, false, false, false] #[true, true, true, true, true, true, true, true, true, true, true, true, true, false, false, true, false] rfl rfl rfl rfl (two_of HT_.out q7_12) q7_14 q7_14 (fun K hK => ?_) (fun K hK => ?_)
                          ·skip
                           refine Kd.R_append_rows_step (Kd.int .u8) (w0 := w) w.heap.size (by rfl) (.tmp 57) (.tmp 61) 27 5 (.int .u8 0) 1 rfl Try.underlying27 info5 rfl q7_14 q7_16 v280 y279 ((l0.take ((ji36) : Int).toNat).drop 17) _ _ _ (fun _ => True) (fun _ => False) rfl rfl ?aO ?aR (fun _ _ h => h) (fun _ h => h.elim) ?aF ?aB ?aS ?aL ?_
                           (case aR => first | (rw [← show ((l0.take ((ji36) : Int).toNat).drop 17).length = ((ji36).toNat - 17) from (by rw [List.length_drop, List.length_take]; have h_ : ((ji36) : Int) <= (l0.length : Int) := of_decide_eq_true q7_8; omega)]; repeat (first | exact (Kd.C_below HR282.out HB.out) | (with_reducible refine Kd.C_alloc ?_ _) | (with_reducible refine Kd.C_drewN ?_ _) | (with_reducible refine Kd.C_drew ?_))) | (repeat (first | exact (Kd.C_below HR282.out HB.out) | (with_reducible refine Kd.C_alloc ?_ _) | (with_reducible refine Kd.C_drewN ?_ _) | (with_reducible refine Kd.C_drew ?_))))
                           (case aB => exact q7_1)
                           (case aF => exact (fun _ _ => trivial))
                           (case aO => exact q7_6)
                           (case aS => exact (below_size q7_1))
                           (case aL => have := LMc39.out; have hlx_ := (show ((l0.take ((ji36) : Int).toNat).drop 17).length = ((ji36).toNat - 17) from (by rw [List.length_drop, List.length_take]; have h_ : ((ji36) : Int) <= (l0.length : Int) := of_decide_eq_true q7_8; omega)); omega)
                           intro v284 w52 ho hb hg hat
                           rw [← Ny283.out] at ho
                           have n0_ := Aside0.mk (blk_grown (g := gb262) (o := .cells #[.int .i64 0, .int .i64 0, .slice none 0 0] 52 (0, 0)) q7_2 hg (Kd.R_ne HO281.out BK262.out q7_14))
                           have n1_ := Aside0.mk (hb)
                           have n2_ := Aside0.mk (ho)
                           clear BK262
                           clear HB
                           clear HO281
                           have BK262 := n0_
                           have HB := n1_
                           have HO285 := n2_
                           clear n0_ n1_ n2_
                           clear ho hb hg hat
                           obtain ⟨Ao53, co53, eo53⟩ := Kd.R_slice HO285.out
                           (first | subst eo53 | (injection eo53 with f1_ f2_ f3_; have f4_ := f1_.symm; have f5_ := f3_.symm; clear f1_ f2_ f3_; subst f4_; subst f5_))
                           refine hK.out _ _ trivial (fun hHeld => ?_)
                           clear hK K
                           refine norm_ (a' := ?_) ?_ ?_
                           rotate_left
                           ·show Act.put _ (some 62) _ = _
                            simp only [Act.put, List.setIfInBounds_toArray, List.set_cons_zero, List.set_cons_succ, i64_w, i32_w]
                            rfl
                           refine pure_ (i := 14) (N := some 63) (v := ?_) (a' := ?_) #[true, true, true, true, true, true, true, true, true, true, true, true, true, true, true, false, false] rfl rfl (any_of HT_.out q7_12) (fun _ _ _ h => h) (Or.inl ⟨by rfl, ?_⟩) ?_ ?_
                           rotate_left
                           ·intro w'
                            go_simp
                            with_reducible rfl
                           rotate_left
                           ·simp only [Act.put, List.setIfInBounds_toArray, List.set_cons_zero, List.set_cons_succ, i64_w, i32_w]
                            rfl
                           exact norm_ q7_3 (hJ2_6_8_13 (v280, .slice Ao53 y283.length co53) _ ⟨q7_13, q7_2, q7_1⟩)
                          ·skip
                           refine box_step ?hg (N := 5) ?hd (cs := #[.int .i64 0, .int .i64 0, .slice none 0 0]) (t := 52) ?hr ?_; (case hd => rfl); (case hg => rfl); (case hr => first | (go_simp; done) | (go_simp; rfl))
                           intro gb286 hg w52 hbox hb
                           have n0_ := Aside0.mk (Kd.R_below q7_6 hb)
                           have n1_ := Aside0.mk (blk_below (g := gb262) (o := .cells #[.int .i64 0, .int .i64 0, .slice none 0 0] 52 (0, 0)) q7_2 hb)
                           have n2_ := Aside0.mk (below_step q7_1 hb)
                           have n3_ := Aside0.mk (hbox)
                           have n4_ := Aside0.mk ((by rw [hg]; exact (below_size q7_1) : w.heap.size <= gb286))
                           have n5_ := Aside0.mk ((by rw [hg]; exact (below_size q7_1) : w.heap.size <= gb286))
                           have n6_ := Aside0.mk ((by rw [hg]; exact Nat.ne_of_lt (blk_lt (g := gb262) (o := .cells #[.int .i64 0, .int .i64 0, .slice none 0 0] 52 (0, 0)) q7_2) : gb262 ≠ gb286))
                           have n7_ := Aside0.mk ((by rw [hg]; exact Nat.ne_of_gt (blk_lt (g := gb262) (o := .cells #[.int .i64 0, .int .i64 0, .slice none 0 0] 52 (0, 0)) q7_2) : gb286 ≠ gb262))
                           clear HO281
                           clear BK262
                           clear HB
                           have HO281 := n0_
                           have BK262 := n1_
                           have HB := n2_
                           have BK286 := n3_
                           have GW286 := n4_
                           have GE286 := n5_
                           have NB262_286 := n6_
                           have NB286_262 := n7_
                           clear n0_ n1_ n2_ n3_ n4_ n5_ n6_ n7_
                           clear hb hbox hg
                           refine hK.out _ _ trivial (fun hHeld => ?_)
                           clear hK K
                           refine norm_ (a' := ?_) ?_ ?_
                           rotate_left
                           ·show Act.put _ (some 5) _ = _
                            simp only [Act.put, List.setIfInBounds_toArray, List.set_cons_zero, List.set_cons_succ, i64_w, i32_w]
                            rfl
                           exact norm_ q7_3 (hJ2_6_8_15 (v280, gb286) _ ⟨q7_6, q7_2, q7_5, GW286.out, GE286.out, NB262_286.out, NB286_262.out, q7_4⟩)
                        ·skip
                         rintro ⟨v280, gb286⟩ w52 ⟨h0_, h1_, h2_, h3_, h4_, h5_, h6_, h7_⟩
                         have n0_ : Aside0 (Kd.R (Kd.int .u8) 5 w52 w.heap.size (fun _ => True) v280 y279) := ⟨h0_⟩
                         have n1_ : Aside0 (w52.heap[gb262]? = some (.cells #[.int .i64 0, .int .i64 0, .slice none 0 0] 52 (0, 0))) := ⟨h1_⟩
                         have n2_ : Aside0 (w52.heap[gb286]? = some (.cells #[.int .i64 0, .int .i64 0, .slice none 0 0] 52 (0, 0))) := ⟨h2_⟩
                         have n3_ : Aside0 (w.heap.size <= gb286) := ⟨h3_⟩
                         have n4_ : Aside0 (w.heap.size <= gb286) := ⟨h4_⟩
                         have n5_ : Aside0 (gb262 ≠ gb286) := ⟨h5_⟩
                         have n6_ : Aside0 (gb286 ≠ gb262) := ⟨h6_⟩
                         have n7_ : Aside0 (Below w.heap.size w w52) := ⟨h7_⟩
                         clear BK262
                         clear HB
                         clear h0_ h1_ h2_ h3_ h4_ h5_ h6_ h7_
                         have HO281 := n0_
                         have BK262 := n1_
                         have BK286 := n2_
                         have GW286 := n3_
                         have GE286 := n4_
                         have NB262_286 := n5_
                         have NB286_262 := n6_
                         have HB := n7_
                         clear n0_ n1_ n2_ n3_ n4_ n5_ n6_ n7_
                         have hHeld := trivial
                         refine norm_ (a' := ?_) ?_ ?_
                         rotate_left
                         ·simp only [putAll, Act.put, List.setIfInBounds_toArray, List.set_cons_zero, List.set_cons_succ]
                          rfl
                         refine one_ (i := 13) (N := some 62) #[true, true, true, true, true, true, true, true, true, true, true, true, true, true, false, true, false] rfl rfl (one_of HT_.out q7_12) q7_14 (fun K hK => ?_)
                         refine Kd.R_append_rows_step (Kd.int .u8) (w0 := w) w.heap.size (by rfl) (.tmp 57) (.tmp 61) 27 5 (.int .u8 0) 1 rfl Try.underlying27 info5 rfl q7_14 q7_16 v280 y279 ((l0.take ((ji36) : Int).toNat).drop 17) _ _ _ (fun _ => True) (fun _ => False) rfl rfl ?aO ?aR (fun _ _ h => h) (fun _ h => h.elim) ?aF ?aB ?aS ?aL ?_
                         (case aR => first | (rw [← show ((l0.take ((ji36) : Int).toNat).drop 17).length = ((ji36).toNat - 17) from (by rw [List.length_drop, List.length_take]; have h_ : ((ji36) : Int) <= (l0.length : Int) := of_decide_eq_true q7_8; omega)]; repeat (first | exact (Kd.C_below HR282.out HB.out) | (with_reducible refine Kd.C_alloc ?_ _) | (with_reducible refine Kd.C_drewN ?_ _) | (with_reducible refine Kd.C_drew ?_))) | (repeat (first | exact (Kd.C_below HR282.out HB.out) | (with_reducible refine Kd.C_alloc ?_ _) | (with_reducible refine Kd.C_drewN ?_ _) | (with_reducible refine Kd.C_drew ?_))))
                         (case aB => exact q7_4)
                         (case aF => exact (fun _ _ => trivial))
                         (case aO => exact q7_6)
                         (case aS => exact (below_size q7_4))
                         (case aL => have := LMc39.out; have hlx_ := (show ((l0.take ((ji36) : Int).toNat).drop 17).length = ((ji36).toNat - 17) from (by rw [List.length_drop, List.length_take]; have h_ : ((ji36) : Int) <= (l0.length : Int) := of_decide_eq_true q7_8; omega)); omega)
                         intro v284 w53 ho hb hg hat
                         rw [← Ny283.out] at ho
                         have n0_ := Aside0.mk (blk_grown (g := gb262) (o := .cells #[.int .i64 0, .int .i64 0, .slice none 0 0] 52 (0, 0)) q7_2 hg (Kd.R_ne HO281.out BK262.out q7_14))
                         have n1_ := Aside0.mk (blk_grown (g := gb286) (o := .cells #[.int .i64 0, .int .i64 0, .slice none 0 0] 52 (0, 0)) q7_5 hg (Kd.R_ne HO281.out BK286.out q7_14))
                         have n2_ := Aside0.mk (hb)
                         have n3_ := Aside0.mk (ho)
                         clear BK262
                         clear BK286
                         clear HB
                         clear HO281
                         have BK262 := n0_
                         have BK286 := n1_
                         have HB := n2_
                         have HO285 := n3_
                         clear n0_ n1_ n2_ n3_
                         clear ho hb hg hat
                         obtain ⟨Ao54, co54, eo54⟩ := Kd.R_slice HO285.out
                         (first | subst eo54 | (injection eo54 with f1_ f2_ f3_; have f4_ := f1_.symm; have f5_ := f3_.symm; clear f1_ f2_ f3_; subst f4_; subst f5_))
                         refine hK.out _ _ trivial (fun hHeld => ?_)
                         clear hK K
                         refine norm_ (a' := ?_) ?_ ?_
                         rotate_left
                         ·show Act.put _ (some 62) _ = _
                          simp only [Act.put, List.setIfInBounds_toArray, List.set_cons_zero, List.set_cons_succ, i64_w, i32_w]
                          rfl
                         refine pure_ (i := 14) (N := some 63) (v := ?_) (a' := ?_) #[true, true, true, true, true, true, true, true, true, true, true, true, true, true, true, true, false] rfl rfl (any_of HT_.out q7_12) (fun _ _ _ h => h) (Or.inl ⟨by rfl, ?_⟩) ?_ ?_
                         rotate_left
                         ·intro w'
                          go_simp
                          with_reducible rfl
                         rotate_left
                         ·simp only [Act.put, List.setIfInBounds_toArray, List.set_cons_zero, List.set_cons_succ, i64_w, i32_w]
                          rfl
                         exact norm_ q7_3 (hJ2_6_8_13_15 (v280, .slice Ao54 y283.length co54, gb286) _ ⟨q7_13, q7_2, q7_5, GW286.out, GE286.out, NB262_286.out, NB286_262.out, q7_4⟩)
                       ·skip
                        rintro ⟨v280, v284⟩ w53 ⟨h0_, h1_, h2_⟩
                        have n0_ : Aside0 (Kd.R (Kd.int .u8) 5 w53 w.heap.size (fun _ => True) v284 y283) := ⟨h0_⟩
                        have n1_ : Aside0 (w53.heap[gb262]? = some (.cells #[.int .i64 0, .int .i64 0, .slice none 0 0] 52 (0, 0))) := ⟨h1_⟩
                        have n2_ : Aside0 (Below w.heap.size w w53) := ⟨h2_⟩
                        clear BK262
                        clear HB
                        clear h0_ h1_ h2_
                        have HO285 := n0_
                        have BK262 := n1_
                        have HB := n2_
                        clear n0_ n1_ n2_
                        have hHeld := trivial
                        obtain ⟨Ao54, co54, eo54⟩ := Kd.R_slice HO285.out
                        (first | subst eo54 | (injection eo54 with f1_ f2_ f3_; have f4_ := f1_.symm; have f5_ := f3_.symm; clear f1_ f2_ f3_; subst f4_; subst f5_))
                        refine norm_ (a' := ?_) ?_ ?_
                        rotate_left
                        ·simp only [putAll, Act.put, List.setIfInBounds_toArray, List.set_cons_zero, List.set_cons_succ]
                         rfl
                        refine one_ (i := 15) (N := some 5) #[true, true, true, true, true, true, true, true, true, true, true, true, true, true, true, true, false] rfl rfl (one_of HT_.out q7_12) q7_14 (fun K hK => ?_)
                        refine box_step ?hg (N := 5) ?hd (cs := #[.int .i64 0, .int .i64 0, .slice none 0 0]) (t := 52) ?hr ?_; (case hd => rfl); (case hg => rfl); (case hr => first | (go_simp; done) | (go_simp; rfl))
                        intro gb286 hg w55 hbox hb
                        have n0_ := Aside0.mk (Kd.R_below q7_13 hb)
                        have n1_ := Aside0.mk (blk_below (g := gb262) (o := .cells #[.int .i64 0, .int .i64 0, .slice none 0 0] 52 (0, 0)) q7_2 hb)
                        have n2_ := Aside0.mk (below_step q7_1 hb)
                        have n3_ := Aside0.mk (hbox)
                        have n4_ := Aside0.mk ((by rw [hg]; exact (below_size q7_1) : w.heap.size <= gb286))
                        have n5_ := Aside0.mk ((by rw [hg]; exact (below_size q7_1) : w.heap.size <= gb286))
                        have n6_ := Aside0.mk ((by rw [hg]; exact Nat.ne_of_lt (blk_lt (g := gb262) (o := .cells #[.int .i64 0, .int .i64 0, .slice none 0 0] 52 (0, 0)) q7_2) : gb262 ≠ gb286))
                        have n7_ := Aside0.mk ((by rw [hg]; exact Nat.ne_of_gt (blk_lt (g := gb262) (o := .cells #[.int .i64 0, .int .i64 0, .slice none 0 0] 52 (0, 0)) q7_2) : gb286 ≠ gb262))
                        clear HO285
                        clear BK262
                        clear HB
                        have HO285 := n0_
                        have BK262 := n1_
                        have HB := n2_
                        have BK286 := n3_
                        have GW286 := n4_
                        have GE286 := n5_
                        have NB262_286 := n6_
                        have NB286_262 := n7_
                        clear n0_ n1_ n2_ n3_ n4_ n5_ n6_ n7_
                        clear hb hbox hg
                        refine hK.out _ _ trivial (fun hHeld => ?_)
                        clear hK K
                        refine norm_ (a' := ?_) ?_ ?_
                        rotate_left
                        ·show Act.put _ (some 5) _ = _
                         simp only [Act.put, List.setIfInBounds_toArray, List.set_cons_zero, List.set_cons_succ, i64_w, i32_w]
                         rfl
                        exact norm_ q7_3 (hJ2_6_8_13_15 (v280, .slice Ao54 y283.length co54, gb286) _ ⟨q7_13, q7_2, q7_5, GW286.out, GE286.out, NB262_286.out, NB286_262.out, q7_4⟩)
                      rintro ⟨v280, v284, gb286⟩ w54 ⟨h0_, h1_, h2_, h3_, h4_, h5_, h6_, h7_⟩
                      have n0_ : Aside0 (Kd.R (Kd.int .u8) 5 w54 w.heap.size (fun _ => True) v284 y283) := ⟨h0_⟩
                      have n1_ : Aside0 (w54.heap[gb262]? = some (.cells #[.int .i64 0, .int .i64 0, .slice none 0 0] 52 (0, 0))) := ⟨h1_⟩
                      have n2_ : Aside0 (w54.heap[gb286]? = some (.cells #[.int .i64 0, .int .i64 0, .slice none 0 0] 52 (0, 0))) := ⟨h2_⟩
                      have n3_ : Aside0 (w.heap.size <= gb286) := ⟨h3_⟩
                      have n4_ : Aside0 (w.heap.size <= gb286) := ⟨h4_⟩
                      have n5_ : Aside0 (gb262 ≠ gb286) := ⟨h5_⟩
                      have n6_ : Aside0 (gb286 ≠ gb262) := ⟨h6_⟩
                      have n7_ : Aside0 (Below w.heap.size w w54) := ⟨h7_⟩
                      clear BK262
                      clear HB
                      clear h0_ h1_ h2_ h3_ h4_ h5_ h6_ h7_
                      have HO285 := n0_
                      have BK262 := n1_
                      have BK286 := n2_
                      have GW286 := n3_
                      have GE286 := n4_
                      have NB262_286 := n5_
                      have NB286_262 := n6_
                      have HB := n7_
                      clear n0_ n1_ n2_ n3_ n4_ n5_ n6_ n7_
                      have hHeld := trivial
                      obtain ⟨Ao55, co55, eo55⟩ := Kd.R_slice HO285.out
                      (first | subst eo55 | (injection eo55 with f1_ f2_ f3_; have f4_ := f1_.symm; have f5_ := f3_.symm; clear f1_ f2_ f3_; subst f4_; subst f5_))
                      refine norm_ (a' := ?_) ?_ ?_
                      rotate_left
                      ·simp only [putAll, Act.put, List.setIfInBounds_toArray, List.set_cons_zero, List.set_cons_succ]
                       rfl
                      refine one_ (i := 16) (N := none) #[true, true, true, true, true, true, true, true, true, true, true, true, true, true, true, true, true] rfl rfl (one_of HT_.out q7_12) q7_14 (fun K hK => ?_)
                      have hs56 : w54.cell? ⟨gb286, 0, none⟩ = some (.int .i64 0) := (blk_cell BK286.out 0).trans rfl
                      have hfs56 := blk_frozen BK286.out 0
                      have hns56_0 := NB262_286.out
                      have hms56_0 := NB286_262.out
                      have hs57 : w54.cell? ⟨gb286, 1, none⟩ = some (.int .i64 0) := (blk_cell BK286.out 1).trans rfl
                      have hfs57 := blk_frozen BK286.out 1
                      have hns57_0 := NB262_286.out
                      have hms57_0 := NB286_262.out
                      have hs58 : w54.cell? ⟨gb286, 2, none⟩ = some (.slice none 0 0) := (blk_cell BK286.out 2).trans rfl
                      have hfs58 := blk_frozen BK286.out 2
                      have hns58_0 := NB262_286.out
                      have hms58_0 := NB286_262.out
                      refine skip_ (w1 := ?_) (by rfl) rfl ?_ ?_
                      rotate_left
                      ·go_simp
                       rfl
                      refine hK.out _ _ trivial (fun hHeld => ?_)
                      clear hK K
                      refine done_ (done_of HT_.out q7_12) ?_
                      try go_wp2
                      have n0_ : Aside0 (Kd.R (Kd.int .u8) 5 (((w54.setCell ⟨gb286, 0, none⟩ (.int .i64 (wrap64 (t276)))).setCell ⟨gb286, 1, none⟩ (.int .i64 (wrap64 (t278)))).setCell ⟨gb286, 2, none⟩ (.slice Ao55 y283.length co55)) w.heap.size (fun _ => True) (.slice Ao55 y283.length co55) y283) := ⟨by (with_reducible repeat (first | apply Kd.R_alloc | apply Kd.R_drewN | apply Kd.R_drew)); exact Kd.R_mono (Kd.R_far (p := ⟨gb286, 2, none⟩) (Kd.R_far (p := ⟨gb286, 1, none⟩) (Kd.R_far (p := ⟨gb286, 0, none⟩) (Kd.R_types HO285.out BK286.out q7_14) (fun _ hk => hk.2) (.int .i64 (wrap64 (t276)))) (fun _ hk => hk.2) (.int .i64 (wrap64 (t278)))) (fun _ hk => hk.2) (.slice Ao55 y283.length co55)) (fun _ hk => trivial)⟩
                      have n1_ : Aside0 ((((w54.setCell ⟨gb286, 0, none⟩ (.int .i64 (wrap64 (t276)))).setCell ⟨gb286, 1, none⟩ (.int .i64 (wrap64 (t278)))).setCell ⟨gb286, 2, none⟩ (.slice Ao55 y283.length co55)).heap[gb262]? = some (.cells #[.int .i64 0, .int .i64 0, .slice none 0 0] 52 (0, 0))) := ⟨by (with_reducible repeat (first | refine blk_drewN ?_ _ | refine blk_drew ?_ | refine blk_alloc ?_ _)); refine blk_far ?_ NB262_286.out _; (with_reducible repeat (first | refine blk_drewN ?_ _ | refine blk_drew ?_ | refine blk_alloc ?_ _)); refine blk_far ?_ NB262_286.out _; (with_reducible repeat (first | refine blk_drewN ?_ _ | refine blk_drew ?_ | refine blk_alloc ?_ _)); refine blk_far ?_ NB262_286.out _; (with_reducible repeat (first | refine blk_drewN ?_ _ | refine blk_drew ?_ | refine blk_alloc ?_ _)); exact BK262.out⟩
                      have n2_ : Aside0 ((((w54.setCell ⟨gb286, 0, none⟩ (.int .i64 (wrap64 (t276)))).setCell ⟨gb286, 1, none⟩ (.int .i64 (wrap64 (t278)))).setCell ⟨gb286, 2, none⟩ (.slice Ao55 y283.length co55)).heap[gb286]? = some (.cells #[.int .i64 (wrap64 (t276)), .int .i64 (wrap64 (t278)), .slice Ao55 y283.length co55] 52 (0, 0))) := ⟨by (with_reducible repeat (first | refine blk_drewN ?_ _ | refine blk_drew ?_ | refine blk_alloc ?_ _)); refine blk_put (cs := #[.int .i64 (wrap64 (t276)), .int .i64 (wrap64 (t278)), .slice none 0 0]) ?_ 2 _ rfl; (with_reducible repeat (first | refine blk_drewN ?_ _ | refine blk_drew ?_ | refine blk_alloc ?_ _)); refine blk_put (cs := #[.int .i64 (wrap64 (t276)), .int .i64 0, .slice none 0 0]) ?_ 1 _ rfl; (with_reducible repeat (first | refine blk_drewN ?_ _ | refine blk_drew ?_ | refine blk_alloc ?_ _)); refine blk_put (cs := #[.int .i64 0, .int .i64 0, .slice none 0 0]) ?_ 0 _ rfl; (with_reducible repeat (first | refine blk_drewN ?_ _ | refine blk_drew ?_ | refine blk_alloc ?_ _)); exact BK286.out⟩
                      have n3_ : Aside0 (Below w.heap.size w (((w54.setCell ⟨gb286, 0, none⟩ (.int .i64 (wrap64 (t276)))).setCell ⟨gb286, 1, none⟩ (.int .i64 (wrap64 (t278)))).setCell ⟨gb286, 2, none⟩ (.slice Ao55 y283.length co55))) := ⟨by repeat (first | (with_reducible first | exact HB.out | apply below_alloc | apply pw_below_drewN | apply below_drew1 | refine below_set ?_ GE262.out | refine below_set ?_ GE286.out) | exact HB.out)⟩
                      (try clear HO285)
                      (try clear BK262)
                      (try clear BK286)
                      (try clear HB)
                      generalize (((w54.setCell ⟨gb286, 0, none⟩ (.int .i64 (wrap64 (t276)))).setCell ⟨gb286, 1, none⟩ (.int .i64 (wrap64 (t278)))).setCell ⟨gb286, 2, none⟩ (.slice Ao55 y283.length co55)) = w59 at n0_ n1_ n2_ n3_ ⊢
                      have HO285 := n0_
                      have BK262 := n1_
                      have BK286 := n2_
                      have HB := n3_
                      clear n0_ n1_ n2_ n3_
                      have n0_ := Aside0.mk (Kd.R_drew HO285.out)
                      have n1_ := Aside0.mk (blk_drew BK262.out)
                      have n2_ := Aside0.mk (blk_drew BK286.out)
                      have n3_ := Aside0.mk (below_drew1 HB.out)
                      clear HO285
                      clear BK262
                      clear BK286
                      clear HB
                      have HO285 := n0_
                      have BK262 := n1_
                      have BK286 := n2_
                      have HB := n3_
                      clear n0_ n1_ n2_ n3_
                      obtain ⟨i061, hi061, _, hsz61, _⟩ := info_parts info5
                      obtain ⟨hcut61, hA61, hC61⟩ := print_take_of (P := Try.prog) (Value.int .u8) 0 27 5 .i64 Try.underlying27 hi061 hsz61 (some ad263) c0 l0 255 q7_16 (of_decide_eq_true q7_8) HC0.out
                      have HR294 := Aside0.mk (Kd.C_of_reads (h1 := fun _ => rfl) (hA61 _ (Kd.reads_of_C HR0.out)))
                      have HC294 := Aside0.mk hC61
                      clear hA61 hC61 hi061 hsz61
                      refine start_ (n := 7) (S := fun w' => w'.cell? ⟨gb286, 0, none⟩ = some (.int .i64 (wrap64 (t276))) /\ w'.cell? ⟨gb286, 1, none⟩ = some (.int .i64 (wrap64 (t278))) /\ w'.cell? ⟨gb286, 2, none⟩ = some (.slice Ao55 y283.length co55)) (ds := []) #[false, false, false, false, false, false, false] q7_12 rfl rfl ⟨(blk_cell BK286.out 0).trans rfl, (blk_cell BK286.out 1).trans rfl, (blk_cell BK286.out 2).trans rfl⟩ (fun hHeld => ?_)
                      generalize w59.drew = w60 at HO285 BK262 BK286 HB HR294 hHeld ⊢
                      refine pure_ (i := 3) (N := some 67) (v := ?_) (a' := ?_) #[false, false, false, true, false, false, false] rfl rfl q7_12 (fun _ _ _ h => h) (Or.inl ⟨by rfl, ?_⟩) ?_ ?_
                      rotate_left
                      ·intro w'
                       go_simp
                       with_reducible rfl
                      rotate_left
                      ·simp only [Act.put, List.setIfInBounds_toArray, List.set_cons_zero, List.set_cons_succ, i64_w, i32_w]
                       rfl
                      refine pure_ (i := 4) (N := some 68) (v := ?_) (a' := ?_) #[false, false, false, true, true, false, false] rfl rfl q7_12 (fun _ _ _ h => h) (Or.inl ⟨by rfl, ?_⟩) ?_ ?_
                      rotate_left
                      ·intro w'
                       go_simp
                       with_reducible rfl
                      rotate_left
                      ·simp only [Act.put, List.setIfInBounds_toArray, List.set_cons_zero, List.set_cons_succ, i64_w, i32_w]
                       rfl
                      refine take_ (i := 0) (N := some 64) (v := ?_) (a' := ?_) #[true, false, false, true, true, false, false] rfl rfl q7_12 (fun _ _ _ h => h) (Or.inl ⟨by rfl, ?_⟩) hHeld ?_ ?_
                      rotate_left
                      ·rintro w' ⟨s0, s1, s2⟩
                       go_simp
                       with_reducible rfl
                      rotate_left
                      ·simp only [Act.put, List.setIfInBounds_toArray, List.set_cons_zero, List.set_cons_succ, i64_w, i32_w]
                       rfl
                      refine one_ (i := 1) (N := some 65) #[true, true, false, true, true, false, false] rfl rfl q7_12 q7_14 (fun K hK => ?_)
                      refine goes_ Try.func34 q7_12 rfl #[.agg #[.int .i64 (wrap64 (t276)), .int .i64 (wrap64 (t278)), .slice Ao55 y283.length co55]] (by rfl) rfl rfl (by (try simp only [List.map_toArray, List.map_cons, List.map_nil]); first | done | rfl | (simp only [List.length_drop, List.length_take]; rfl)) ?_
                      with_reducible refine (batonref22_Make.calls kj15 (wrap64 (t276)) (wrap64 (t278)) _ _ y283 t287 _ ?side1 ?side2 A40.out).mono ?_
                      (case side1 => repeat (first | exact (Kd.R_reads' HO285.out).2.2 | (with_reducible refine Kd.C_alloc ?_ _) | (with_reducible refine Kd.C_drewN ?_ _) | (with_reducible refine Kd.C_drew ?_)))
                      (case side2 => exact (Kd.R_reads' HO285.out).2.1)
                      rintro e w62 ⟨v288, rfl, ho0, hb⟩
                      refine ⟨_, rfl, ?_⟩
                      have n0_ := Aside0.mk (Kd.R_elder' q7_13 (Kd.R_base ho0) hb)
                      have n1_ := Aside0.mk (Kd.R_lower (Kd.R_new' ho0 (Kd.R_lt q7_13)) (below_size q7_4))
                      have n2_ := Aside0.mk (blk_below (g := gb262) (o := .cells #[.int .i64 0, .int .i64 0, .slice none 0 0] 52 (0, 0)) q7_2 hb)
                      have n3_ := Aside0.mk (blk_below (g := gb286) (o := .cells #[.int .i64 (wrap64 (t276)), .int .i64 (wrap64 (t278)), .slice Ao55 y283.length co55] 52 (0, 0)) q7_5 hb)
                      have n4_ := Aside0.mk (below_step q7_4 hb)
                      clear HO285
                      clear BK262
                      clear BK286
                      clear HB
                      have HO285 := n0_
                      have HO289 := n1_
                      have BK262 := n2_
                      have BK286 := n3_
                      have HB := n4_
                      clear n0_ n1_ n2_ n3_ n4_
                      (try clear hb)
                      (try clear hb2)
                      (try clear hk)
                      (try clear hi)
                      (try clear ho0)
                      obtain ⟨Ao64, co64, eo64⟩ := Kd.R_slice HO289.out
                      (first | subst eo64 | (injection eo64 with f1_ f2_ f3_; have f4_ := f1_.symm; have f5_ := f3_.symm; clear f1_ f2_ f3_; subst f4_; subst f5_))
                      have q63 : (255 : Int) <= ((t287.length : Int) : Int) := of_decide_eq_true q7_8
                      obtain ⟨i063, hi063, _, hsz63, _⟩ := info_parts info5
                      have hroom63 : t287.length <= co64 := (Kd.R_reads' HO289.out).2.1
                      have hC63 : Kd.C (Kd.int .u8) _ Ao64 t287.length t287 := (Kd.R_reads' HO289.out).2.2
                      have hcut63 := fun kh_ => cut_to (P := Try.prog) 27 5 kh_ Try.underlying27 hi063 Ao64 t287.length co64 255 q7_16 q63 hroom63
                      have hr63 := Kd.C_take (m := 255) hC63 q7_16
                      have hy63 : y290.length = (255 : Int).toNat := (by rw [Ny290.out, List.length_take]; omega)
                      rw [← Ny290.out] at hr63
                      rw [← hy63] at hcut63
                      have HR293 := Aside0.mk hr63
                      have HC293 := Aside0.mk (show y290.length <= co64 from by omega)
                      clear hr63 hC63 hroom63 hi063 hsz63
                      have KY63 := Aside0.mk hy63
                      clear hy63
                      have KL63 := Aside0.mk (show 255 <= t287.length from by omega)
                      replace q63 := eq_true q63
                      refine hK.out _ _ ⟨(blk_cell BK286.out 0).trans rfl, (blk_cell BK286.out 1).trans rfl, (blk_cell BK286.out 2).trans rfl⟩ (fun hHeld => ?_)
                      clear hK K
                      refine norm_ (a' := ?_) ?_ ?_
                      rotate_left
                      ·show Act.put _ (some 65) _ = _
                       simp only [Act.put, List.setIfInBounds_toArray, List.set_cons_zero, List.set_cons_succ, i64_w, i32_w]
                       rfl
                      refine pure_ (i := 2) (N := some 66) (v := ?_) (a' := ?_) #[true, true, true, true, true, false, false] rfl rfl q7_12 (fun _ _ _ h => h) (Or.inl ⟨by rfl, ?_⟩) ?_ ?_
                      rotate_left
                      ·intro w'
                       go_simp
                       with_reducible rfl
                      rotate_left
                      ·simp only [Act.put, List.setIfInBounds_toArray, List.set_cons_zero, List.set_cons_succ, i64_w, i32_w]
                       rfl
                      refine one_ (i := 5) (N := some 69) #[true, true, true, true, true, true, false] rfl rfl q7_12 q7_14 (fun K hK => ?_)
                      refine goes_ Try.func20 q7_12 rfl #[.slice Ao64 y290.length co64, .slice (some ad263) (l0.take 255).length c0] (by rfl) rfl rfl q7_17 ?_
                      with_reducible refine (batonref01_Same.calls kj15 _ _ y290 _ _ (l0.take 255) true _ ?side1 ?side2 ?side3 ?side4 A43.out).mono ?_
                      (case side1 => repeat (first | exact q7_20 | (with_reducible refine Kd.C_alloc ?_ _) | (with_reducible refine Kd.C_drewN ?_ _) | (with_reducible refine Kd.C_drew ?_)))
                      (case side2 => exact HC293.out)
                      (case side3 => repeat (first | exact (Kd.C_below HR294.out HB.out) | (with_reducible refine Kd.C_alloc ?_ _) | (with_reducible refine Kd.C_drewN ?_ _) | (with_reducible refine Kd.C_drew ?_)))
                      (case side4 => exact HC294.out)
                      rintro e w' ⟨rfl, ⟨nd, rfl⟩⟩
                      refine ⟨_, rfl, ?_⟩
                      refine hK.out _ _ ⟨(blk_cell BK286.out 0).trans rfl, (blk_cell BK286.out 1).trans rfl, (blk_cell BK286.out 2).trans rfl⟩ (fun hHeld => ?_)
                      clear hK K
                      refine norm_ (a' := ?_) ?_ ?_
                      rotate_left
                      ·show Act.put _ (some 69) _ = _
                       simp only [Act.put, List.setIfInBounds_toArray, List.set_cons_zero, List.set_cons_succ, i64_w, i32_w]
                       rfl
                      refine pure_ (i := 6) (N := some 70) (v := ?_) (a' := ?_) #[true, true, true, true, true, true, true] rfl rfl q7_12 (fun _ _ _ h => h) (Or.inl ⟨by rfl, ?_⟩) ?_ ?_
                      rotate_left
                      ·intro w'
                       go_simp
                       with_reducible rfl
                      rotate_left
                      ·simp only [Act.put, List.setIfInBounds_toArray, List.set_cons_zero, List.set_cons_succ, i64_w, i32_w]
                       rfl
                      refine done_ q7_12 ?_
                      have hnb65 := NB286_262.out
                      have hnc65 := NB262_286.out
                      have hcz66_0 : w62.cell? ⟨gb286, 0, none⟩ = some (.int .i64 (wrap64 (t276))) := (blk_cell BK286.out 0).trans rfl
                      have hcz66_1 : w62.cell? ⟨gb286, 1, none⟩ = some (.int .i64 (wrap64 (t278))) := (blk_cell BK286.out 1).trans rfl
                      have hcz66_2 : w62.cell? ⟨gb286, 2, none⟩ = some (.slice Ao55 y283.length co55) := (blk_cell BK286.out 2).trans rfl
                      have hfz66_0 := blk_frozen BK286.out 0
                      have hfz66_1 := blk_frozen BK286.out 1
                      have hfz66_2 := blk_frozen BK286.out 2
                      have hcz67_0 : w62.cell? ⟨gb262, 0, none⟩ = some (.int .i64 0) := (blk_cell BK262.out 0).trans rfl
                      have hcz67_1 : w62.cell? ⟨gb262, 1, none⟩ = some (.int .i64 0) := (blk_cell BK262.out 1).trans rfl
                      have hcz67_2 : w62.cell? ⟨gb262, 2, none⟩ = some (.slice none 0 0) := (blk_cell BK262.out 2).trans rfl
                      have hfz67_0 := blk_frozen BK262.out 0
                      have hfz67_1 := blk_frozen BK262.out 1
                      have hfz67_2 := blk_frozen BK262.out 2
                      try go_wp2
                      refine bodyPost_ret (results_ct rfl _ _ gb262 52 #[.int .i64 (wrap64 (t276)), .int .i64 (wrap64 (t278)), .slice Ao55 y283.length co55] (0, 0) _ rfl (by (with_reducible repeat (first | refine blk_drewN ?_ _ | refine blk_drew ?_ | refine blk_alloc ?_ _)); refine blk_put (cs := #[.int .i64 (wrap64 (t276)), .int .i64 (wrap64 (t278)), .slice none 0 0]) ?_ 2 _ rfl; (with_reducible repeat (first | refine blk_drewN ?_ _ | refine blk_drew ?_ | refine blk_alloc ?_ _)); refine blk_put (cs := #[.int .i64 (wrap64 (t276)), .int .i64 0, .slice none 0 0]) ?_ 1 _ rfl; (with_reducible repeat (first | refine blk_drewN ?_ _ | refine blk_drew ?_ | refine blk_alloc ?_ _)); refine blk_put (cs := #[.int .i64 0, .int .i64 0, .slice none 0 0]) ?_ 0 _ rfl; (with_reducible repeat (first | refine blk_drewN ?_ _ | refine blk_drew ?_ | refine blk_alloc ?_ _)); exact BK262.out) Try.underlying52 rfl q7_12) rfl ?_
                      exact ⟨_, by first | rfl | (simp [errW_none, errW_some] <;> rfl) | (simp only [← hji36]; first | rfl | (simp [errW_none, errW_some] <;> rfl)) | (simp [*, errW_none, errW_some] <;> rfl), by (with_reducible repeat (first | apply Kd.R_alloc | apply Kd.R_drewN | apply Kd.R_drew)); exact Kd.R_mono (Kd.R_far (p := ⟨gb262, 2, none⟩) (Kd.R_far (p := ⟨gb262, 1, none⟩) (Kd.R_far (p := ⟨gb262, 0, none⟩) (Kd.R_types HO285.out BK262.out q7_14) (fun _ hk => hk.2) (.int .i64 (wrap64 (t276)))) (fun _ hk => hk.2) (.int .i64 (wrap64 (t278)))) (fun _ hk => hk.2) (.slice Ao55 y283.length co55)) (fun _ hk => trivial), by repeat (first | (with_reducible first | exact HB.out | apply below_alloc | apply pw_below_drewN | apply below_drew1 | refine below_set ?_ GE262.out | refine below_set ?_ GE286.out) | exact HB.out)⟩
                     ·replace c44 := Bool.eq_false_iff.mpr c44
                      subst c44
                      have H1 : (some (0, 0, ([] : List Int), 6)) = some (r1, r2, r3, r4) := by rw [if_neg (show ¬ (false = true) by decide)] at H; exact H
                      clear H
                      have H := H1
                      clear H1
                      simp only [Option.some.injEq, Prod.mk.injEq] at H
                      obtain ⟨rfl, rfl, rfl, rfl⟩ := H
                      have p274 : 0 <= (16 : Int) := q7_16
                      have q274 : 16 < (l0.length : Int) := of_decide_eq_true q7_8
                      obtain ⟨ad274, e274, hx274_0⟩ := Kd.at_int HR0.out 16 p274 q274
                      obtain rfl : ad263 = ad274 := (by injection e274)
                      (try simp only [show (16 : Int).toNat = 16 from rfl, Nat.reduceMul, Nat.reduceEqDiff, Go.Addr.add, ↓reduceIte] at hx274_0)
                      have qi274 : (16 < l0.length) = True := eq_true q7_16
                      (try rw [show ((16 : Int)).toNat = 16 from rfl] at hx274_0)
                      replace hx274_0 := (HB.out.cell (World.block_lt_of_cell? w _ hx274_0)).trans hx274_0
                      replace p274 := eq_true p274
                      replace q274 := eq_true q274
                      try go_wp2
                      have n0_ := Aside0.mk (blk_drew BK262.out)
                      have n1_ := Aside0.mk (below_drew1 HB.out)
                      clear BK262
                      clear HB
                      have BK262 := n0_
                      have HB := n1_
                      clear n0_ n1_
                      obtain ⟨i069, hi069, _, hsz69, _⟩ := info_parts info5
                      obtain ⟨hcut69, hA69, hC69⟩ := print_take_of (P := Try.prog) (Value.int .u8) 0 27 5 .i64 Try.underlying27 hi069 hsz69 (some ad263) c0 l0 8 q7_16 (of_decide_eq_true q7_8) HC0.out
                      have HR275 := Aside0.mk (Kd.C_of_reads (h1 := fun _ => rfl) (hA69 _ (Kd.reads_of_C HR0.out)))
                      have HC275 := Aside0.mk hC69
                      clear hA69 hC69 hi069 hsz69
                      obtain ⟨i070, hi070, _, hsz70, _⟩ := info_parts info5
                      obtain ⟨A70, hcut70, hA70, hC70⟩ := print_mid_of (P := Try.prog) (Value.int .u8) 0 27 5 .i64 .i64 Try.underlying27 hi070 hsz70 (some ad263) c0 l0 8 16 q7_16 q7_19 (of_decide_eq_true q7_8) HC0.out
                      have HR277 := Aside0.mk (Kd.C_of_reads (h1 := fun _ => rfl) (hA70 _ (Kd.reads_of_C HR0.out)))
                      have HC277 := Aside0.mk hC70
                      clear hA70 hC70 hi070 hsz70
                      obtain ⟨i071, hi071, _, hsz71, _⟩ := info_parts info5
                      obtain ⟨A71, hcut71, hA71, hC71⟩ := print_mid_of (P := Try.prog) (Value.int .u8) 0 27 5 .i64 .i64 Try.underlying27 hi071 hsz71 (some ad263) c0 l0 17 (ji36) q7_16 q7_19 (of_decide_eq_true q7_8) HC0.out
                      have HR282 := Aside0.mk (Kd.C_of_reads (h1 := fun _ => rfl) (hA71 _ (Kd.reads_of_C HR0.out)))
                      have HC282 := Aside0.mk hC71
                      clear hA71 hC71 hi071 hsz71
                      refine start_ (n := 17) (S := fun w' => True) (ds := []) #[false, false, false, false, false, false, false, false, false, false, false, false, false, false, false, false, false] q7_12 rfl rfl trivial (fun hHeld => ?_); refine with_tabW batonref22_Read.tab12 batonref22_Read.bits12 (fun HT_ HW_ => ?_)
                      generalize wc.drew = w68 at BK262 HB HR275 HR277 HR282 hHeld ⊢
                      refine pure_ (i := 0) (N := some 49) (v := ?_) (a' := ?_) #[true, false, false, false, false, false, false, false, false, false, false, false, false, false, false, false, false] rfl rfl (any_of HT_.out q7_12) (fun _ _ _ h => h) (Or.inl ⟨by rfl, ?_⟩) ?_ ?_
                      rotate_left
                      ·intro w'
                       go_simp
                       with_reducible rfl
                      rotate_left
                      ·simp only [Act.put, List.setIfInBounds_toArray, List.set_cons_zero, List.set_cons_succ, i64_w, i32_w]
                       rfl
                      refine pure_ (i := 1) (N := some 50) (v := ?_) (a' := ?_) #[true, true, false, false, false, false, false, false, false, false, false, false, false, false, false, false, false] rfl rfl (any_of HT_.out q7_12) (fun _ _ _ h => h) (Or.inl ⟨by rfl, ?_⟩) ?_ ?_
                      rotate_left
                      ·intro w'
                       go_simp
                       with_reducible rfl
                      rotate_left
                      ·simp only [Act.put, List.setIfInBounds_toArray, List.set_cons_zero, List.set_cons_succ, i64_w, i32_w]
                       rfl
                      refine pure_ (i := 4) (N := some 53) (v := ?_) (a' := ?_) #[true, true, false, false, true, false, false, false, false, false, false, false, false, false, false, false, false] rfl rfl (any_of HT_.out q7_12) (fun _ _ _ h => h) (Or.inl ⟨by rfl, ?_⟩) ?_ ?_
                      rotate_left
                      ·intro w'
                       go_simp
                       with_reducible rfl
                      rotate_left
                      ·simp only [Act.put, List.setIfInBounds_toArray, List.set_cons_zero, List.set_cons_succ, i64_w, i32_w]
                       rfl
                      refine pure_ (i := 5) (N := some 54) (v := ?_) (a' := ?_) #[true, true, false, false, true, true, false, false, false, false, false, false, false, false, false, false, false] rfl rfl (any_of HT_.out q7_12) (fun _ _ _ h => h) (Or.inl ⟨by rfl, ?_⟩) ?_ ?_
                      rotate_left
                      ·intro w'
                       go_simp
                       with_reducible rfl
                      rotate_left
                      ·simp only [Act.put, List.setIfInBounds_toArray, List.set_cons_zero, List.set_cons_succ, i64_w, i32_w]
                       rfl
                      refine pure_ (i := 9) (N := some 58) (v := ?_) (a' := ?_) #[true, true, false, false, true, true, false, false, false, true, false, false, false, false, false, false, false] rfl rfl (any_of HT_.out q7_12) (fun _ _ _ h => h) (Or.inl ⟨by rfl, ?_⟩) ?_ ?_
                      rotate_left
                      ·intro w'
                       go_simp
                       with_reducible rfl
                      rotate_left
                      ·simp only [Act.put, List.setIfInBounds_toArray, List.set_cons_zero, List.set_cons_succ, i64_w, i32_w]
                       rfl
                      refine pure_ (i := 10) (N := some 59) (v := ?_) (a' := ?_) #[true, true, false, false, true, true, false, false, false, true, true, false, false, false, false, false, false] rfl rfl (any_of HT_.out q7_12) (fun _ _ _ h => h) (Or.inl ⟨by rfl, ?_⟩) ?_ ?_
                      rotate_left
                      ·intro w'
                       go_simp
                       with_reducible rfl
                      rotate_left
                      ·simp only [Act.put, List.setIfInBounds_toArray, List.set_cons_zero, List.set_cons_succ, i64_w, i32_w]
                       rfl
                      refine pure_ (i := 11) (N := some 60) (v := ?_) (a' := ?_) #[true, true, false, false, true, true, false, false, false, true, true, true, false, false, false, false, false] rfl rfl (any_of HT_.out q7_12) (fun _ _ _ h => h) (Or.inl ⟨by rfl, ?_⟩) ?_ ?_
                      rotate_left
                      ·intro w'
                       go_simp
                       with_reducible rfl
                      rotate_left
                      ·simp only [Act.put, List.setIfInBounds_toArray, List.set_cons_zero, List.set_cons_succ, i64_w, i32_w]
                       rfl
                      refine pure_ (i := 12) (N := some 61) (v := ?_) (a' := ?_) #[true, true, false, false, true, true, false, false, false, true, true, true, true, false, false, false, false] rfl rfl (any_of HT_.out q7_12) (fun _ _ _ h => h) (Or.inl ⟨by rfl, ?_⟩) ?_ ?_
                      rotate_left
                      ·intro w'
                       go_simp
                       with_reducible rfl
                      rotate_left
                      ·simp only [Act.put, List.setIfInBounds_toArray, List.set_cons_zero, List.set_cons_succ, i64_w, i32_w]
                       rfl
                      refine join_ (σ := Value × Value × Nat) 1 #[true, true, true, true, true, true, true, true, true, true, true, true, true, true, true, true, false] (fun s_ => [(51, .int .u64 t276), (55, .int .u64 t278), (57, s_.1), (62, s_.2.1), (5, .pointer (some ⟨s_.2.2, 0, none⟩)), (52, .int .i64 (wrap64 (t276))), (56, .int .i64 (wrap64 (t278))), (63, .agg #[.int .i64 (wrap64 (t276)), .int .i64 (wrap64 (t278)), s_.2.1])]) (fun s_ w' => (Kd.R (Kd.int .u8) 5 w' w.heap.size (fun _ => True) s_.2.1 y283) /\ (w'.heap[gb262]? = some (.cells #[.int .i64 0, .int .i64 0, .slice none 0 0] 52 (0, 0))) /\ (w'.heap[s_.2.2]? = some (.cells #[.int .i64 0, .int .i64 0, .slice none 0 0] 52 (0, 0))) /\ (w.heap.size <= s_.2.2) /\ (w.heap.size <= s_.2.2) /\ (gb262 ≠ s_.2.2) /\ (s_.2.2 ≠ gb262) /\ (Below w.heap.size w w')) ?_ ?_
                      rotate_left
                      ·intro hJ2_6_8_13_15
                       refine join_ (σ := Value × Value) 2 #[true, true, true, true, true, true, true, true, true, true, true, true, true, true, true, false, false] (fun s_ => [(51, .int .u64 t276), (55, .int .u64 t278), (57, s_.1), (62, s_.2), (52, .int .i64 (wrap64 (t276))), (56, .int .i64 (wrap64 (t278))), (63, .agg #[.int .i64 (wrap64 (t276)), .int .i64 (wrap64 (t278)), s_.2])]) (fun s_ w' => (Kd.R (Kd.int .u8) 5 w' w.heap.size (fun _ => True) s_.2 y283) /\ (w'.heap[gb262]? = some (.cells #[.int .i64 0, .int .i64 0, .slice none 0 0] 52 (0, 0))) /\ (Below w.heap.size w w')) ?_ ?_
                       rotate_left
                       ·intro hJ2_6_8_13
                        refine join_ (σ := Value × Nat) 3 #[true, true, true, true, true, true, true, true, true, true, true, true, true, false, false, true, false] (fun s_ => [(51, .int .u64 t276), (55, .int .u64 t278), (57, s_.1), (5, .pointer (some ⟨s_.2, 0, none⟩)), (52, .int .i64 (wrap64 (t276))), (56, .int .i64 (wrap64 (t278)))]) (fun s_ w' => (Kd.R (Kd.int .u8) 5 w' w.heap.size (fun _ => True) s_.1 y279) /\ (w'.heap[gb262]? = some (.cells #[.int .i64 0, .int .i64 0, .slice none 0 0] 52 (0, 0))) /\ (w'.heap[s_.2]? = some (.cells #[.int .i64 0, .int .i64 0, .slice none 0 0] 52 (0, 0))) /\ (w.heap.size <= s_.2) /\ (w.heap.size <= s_.2) /\ (gb262 ≠ s_.2) /\ (s_.2 ≠ gb262) /\ (Below w.heap.size w w')) ?_ ?_
                        rotate_left
                        ·intro hJ2_6_8_15
                         refine join_ (σ := Value) 4 #[true, true, true, true, true, true, true, true, true, true, true, true, true, false, false, false, false] (fun s_ => [(51, .int .u64 t276), (55, .int .u64 t278), (57, s_), (52, .int .i64 (wrap64 (t276))), (56, .int .i64 (wrap64 (t278)))]) (fun s_ w' => (Kd.R (Kd.int .u8) 5 w' w.heap.size (fun _ => True) s_ y279) /\ (w'.heap[gb262]? = some (.cells #[.int .i64 0, .int .i64 0, .slice none 0 0] 52 (0, 0))) /\ (Below w.heap.size w w')) ?_ ?_
                         rotate_left
                         ·intro hJ2_6_8
                          refine join_ (σ := Nat) 4 #[true, true, true, true, true, true, true, true, false, true, true, true, true, false, false, true, false] (fun s_ => [(51, .int .u64 t276), (55, .int .u64 t278), (5, .pointer (some ⟨s_, 0, none⟩)), (52, .int .i64 (wrap64 (t276))), (56, .int .i64 (wrap64 (t278)))]) (fun s_ w' => (w'.heap[gb262]? = some (.cells #[.int .i64 0, .int .i64 0, .slice none 0 0] 52 (0, 0))) /\ (w'.heap[s_]? = some (.cells #[.int .i64 0, .int .i64 0, .slice none 0 0] 52 (0, 0))) /\ (w.heap.size <= s_) /\ (w.heap.size <= s_) /\ (gb262 ≠ s_) /\ (s_ ≠ gb262) /\ (Below w.heap.size w w')) ?_ ?_
                          rotate_left
                          ·intro hJ2_6_15
                           refine join_ (σ := Value × Nat) 5 #[true, true, true, true, true, true, false, false, true, true, true, true, true, false, false, true, false] (fun s_ => [(51, .int .u64 t276), (57, s_.1), (5, .pointer (some ⟨s_.2, 0, none⟩)), (52, .int .i64 (wrap64 (t276)))]) (fun s_ w' => (Kd.R (Kd.int .u8) 5 w' w.heap.size (fun _ => True) s_.1 y279) /\ (w'.heap[gb262]? = some (.cells #[.int .i64 0, .int .i64 0, .slice none 0 0] 52 (0, 0))) /\ (w'.heap[s_.2]? = some (.cells #[.int .i64 0, .int .i64 0, .slice none 0 0] 52 (0, 0))) /\ (w.heap.size <= s_.2) /\ (w.heap.size <= s_.2) /\ (gb262 ≠ s_.2) /\ (s_.2 ≠ gb262) /\ (Below w.heap.size w w')) ?_ ?_
                           rotate_left
                           ·intro hJ2_8_15
                            refine join_ (σ := Unit) 5 #[true, true, true, true, true, true, true, true, false, true, true, true, true, false, false, false, false] (fun s_ => [(51, .int .u64 t276), (55, .int .u64 t278), (52, .int .i64 (wrap64 (t276))), (56, .int .i64 (wrap64 (t278)))]) (fun s_ w' => (w'.heap[gb262]? = some (.cells #[.int .i64 0, .int .i64 0, .slice none 0 0] 52 (0, 0))) /\ (Below w.heap.size w w')) ?_ ?_
                            rotate_left
                            ·intro hJ2_6
                             refine join_ (σ := Value) 6 #[true, true, true, true, true, true, false, false, true, true, true, true, true, false, false, false, false] (fun s_ => [(51, .int .u64 t276), (57, s_), (52, .int .i64 (wrap64 (t276)))]) (fun s_ w' => (Kd.R (Kd.int .u8) 5 w' w.heap.size (fun _ => True) s_ y279) /\ (w'.heap[gb262]? = some (.cells #[.int .i64 0, .int .i64 0, .slice none 0 0] 52 (0, 0))) /\ (Below w.heap.size w w')) ?_ ?_
                             rotate_left
                             ·intro hJ2_8
                              refine join_ (σ := Nat) 6 #[true, true, true, true, true, true, false, false, false, true, true, true, true, false, false, true, false] (fun s_ => [(51, .int .u64 t276), (5, .pointer (some ⟨s_, 0, none⟩)), (52, .int .i64 (wrap64 (t276)))]) (fun s_ w' => (w'.heap[gb262]? = some (.cells #[.int .i64 0, .int .i64 0, .slice none 0 0] 52 (0, 0))) /\ (w'.heap[s_]? = some (.cells #[.int .i64 0, .int .i64 0, .slice none 0 0] 52 (0, 0))) /\ (w.heap.size <= s_) /\ (w.heap.size <= s_) /\ (gb262 ≠ s_) /\ (s_ ≠ gb262) /\ (Below w.heap.size w w')) ?_ ?_
                              rotate_left
                              ·intro hJ2_15
                               refine join_ (σ := Value × Nat) 7 #[true, true, false, false, true, true, false, false, true, true, true, true, true, false, false, true, false] (fun s_ => [(57, s_.1), (5, .pointer (some ⟨s_.2, 0, none⟩))]) (fun s_ w' => (Kd.R (Kd.int .u8) 5 w' w.heap.size (fun _ => True) s_.1 y279) /\ (w'.heap[gb262]? = some (.cells #[.int .i64 0, .int .i64 0, .slice none 0 0] 52 (0, 0))) /\ (w'.heap[s_.2]? = some (.cells #[.int .i64 0, .int .i64 0, .slice none 0 0] 52 (0, 0))) /\ (w.heap.size <= s_.2) /\ (w.heap.size <= s_.2) /\ (gb262 ≠ s_.2) /\ (s_.2 ≠ gb262) /\ (Below w.heap.size w w')) ?_ ?_
                               rotate_left
                               ·intro hJ8_15
                                refine join_ (σ := Unit) 7 #[true, true, true, true, true, true, false, false, false, true, true, true, true, false, false, false, false] (fun s_ => [(51, .int .u64 t276), (52, .int .i64 (wrap64 (t276)))]) (fun s_ w' => (w'.heap[gb262]? = some (.cells #[.int .i64 0, .int .i64 0, .slice none 0 0] 52 (0, 0))) /\ (Below w.heap.size w w')) ?_ ?_
                                rotate_left
                                ·intro hJ2
                                 refine join_ (σ := Value) 8 #[true, true, false, false, true, true, false, false, true, true, true, true, true, false, false, false, false] (fun s_ => [(57, s_)]) (fun s_ w' => (Kd.R (Kd.int .u8) 5 w' w.heap.size (fun _ => True) s_ y279) /\ (w'.heap[gb262]? = some (.cells #[.int .i64 0, .int .i64 0, .slice none 0 0] 52 (0, 0))) /\ (Below w.heap.size w w')) ?_ ?_
                                 rotate_left
                                 ·intro hJ8
                                  refine join_ (σ := Nat) 8 #[true, true, false, false, true, true, false, false, false, true, true, true, true, false, false, true, false] (fun s_ => [(5, .pointer (some ⟨s_, 0, none⟩))]) (fun s_ w' => (w'.heap[gb262]? = some (.cells #[.int .i64 0, .int .i64 0, .slice none 0 0] 52 (0, 0))) /\ (w'.heap[s_]? = some (.cells #[.int .i64 0, .int .i64 0, .slice none 0 0] 52 (0, 0))) /\ (w.heap.size <= s_) /\ (w.heap.size <= s_) /\ (gb262 ≠ s_) /\ (s_ ≠ gb262) /\ (Below w.heap.size w w')) ?_ ?_
                                  rotate_left
                                  ·intro hJ15
                                   refine three_ (i := 2) (j := 8) (k := 15) (Ni := some 51) (Nj := some 57) (Nk := some 5) #[true, true, true, false, true, true, false, false, false, true, true, true, true, false, false, false, false] #[true, true, false, false, true, true, false, false, true, true, true, true, true, false, false, false, false] #[true, true, false, false, true, true, false, false, false, true, true, true, true, false, false, true, false] rfl rfl rfl rfl rfl rfl (three_of HT_.out q7_12) q7_14 q7_14 q7_14 (fun K hK => ?_) (fun K hK => ?_) (fun K hK => ?_)
                                   ·skip
                                    refine goes_ Try.func18 q7_12 rfl #[.slice (some ad263) (l0.take 8).length c0] (by rfl) rfl rfl q7_10 ?_
                                    with_reducible refine (batonref01_Get.calls kj15 _ _ (l0.take 8) t276 _ ?side1 ?side2 A32.out).mono ?_
                                    (case side1 => repeat (first | exact (Kd.C_below HR275.out HB.out) | (with_reducible refine Kd.C_alloc ?_ _) | (with_reducible refine Kd.C_drewN ?_ _) | (with_reducible refine Kd.C_drew ?_)))
                                    (case side2 => exact HC275.out)
                                    rintro e w' ⟨rfl, ⟨nd, rfl⟩⟩
                                    refine ⟨_, rfl, ?_⟩
                                    refine hK.out _ _ trivial (fun hHeld => ?_)
                                    clear hK K
                                    refine norm_ (a' := ?_) ?_ ?_
                                    rotate_left
                                    ·show Act.put _ (some 51) _ = _
                                     simp only [Act.put, List.setIfInBounds_toArray, List.set_cons_zero, List.set_cons_succ, i64_w, i32_w]
                                     rfl
                                    refine pure_ (i := 3) (N := some 52) (v := ?_) (a' := ?_) #[true, true, true, true, true, true, false, false, false, true, true, true, true, false, false, false, false] rfl rfl (any_of HT_.out q7_12) (fun _ _ _ h => h) (Or.inl ⟨by rfl, ?_⟩) ?_ ?_
                                    rotate_left
                                    ·intro w'
                                     go_simp
                                     with_reducible rfl
                                    rotate_left
                                    ·simp only [Act.put, List.setIfInBounds_toArray, List.set_cons_zero, List.set_cons_succ, i64_w, i32_w]
                                     rfl
                                    exact norm_ q7_3 (hJ2 () _ ⟨q7_2, q7_1⟩)
                                   ·skip
                                    refine Kd.R_lit_step (Kd.int .u8) _ 5 ?hg (N := 57) ?hd (xs := ([] : List Int)) (inner := []) (ok := fun _ => True) (okp := fun _ => True) ?hr ?hp (fun _ hk => hk) trivial (Below.refl _ _) (Nat.le_refl _) (by simp) ?_; (case hd => rfl); (case hg => rfl); (case hr => first | (go_simp; done) | (go_simp; rfl)); (case hp => exact (Reps.none _ _))
                                    intro v280 w72 ho73 hb hg_ hnew_
                                    clear hg_ hnew_
                                    (first | rw [← Ny279.out] at ho73 | (simp only [Int.reduceToNat] at ho73; rw [← Ny279.out] at ho73))
                                    have n0_ := Aside0.mk (Kd.R_lower ho73 (below_size q7_1))
                                    have n1_ := Aside0.mk (blk_below (g := gb262) (o := .cells #[.int .i64 0, .int .i64 0, .slice none 0 0] 52 (0, 0)) q7_2 hb)
                                    have n2_ := Aside0.mk (below_step q7_1 hb)
                                    clear BK262
                                    clear HB
                                    have HO281 := n0_
                                    have BK262 := n1_
                                    have HB := n2_
                                    clear n0_ n1_ n2_
                                    clear hb ho73
                                    refine hK.out _ _ trivial (fun hHeld => ?_)
                                    clear hK K
                                    refine norm_ (a' := ?_) ?_ ?_
                                    rotate_left
                                    ·show Act.put _ (some 57) _ = _
                                     simp only [Act.put, List.setIfInBounds_toArray, List.set_cons_zero, List.set_cons_succ, i64_w, i32_w]
                                     rfl
                                    exact norm_ q7_3 (hJ8 (v280) _ ⟨q7_6, q7_2, q7_1⟩)
                                   ·skip
                                    refine box_step ?hg (N := 5) ?hd (cs := #[.int .i64 0, .int .i64 0, .slice none 0 0]) (t := 52) ?hr ?_; (case hd => rfl); (case hg => rfl); (case hr => first | (go_simp; done) | (go_simp; rfl))
                                    intro gb286 hg w72 hbox hb
                                    have n0_ := Aside0.mk (blk_below (g := gb262) (o := .cells #[.int .i64 0, .int .i64 0, .slice none 0 0] 52 (0, 0)) q7_2 hb)
                                    have n1_ := Aside0.mk (below_step q7_1 hb)
                                    have n2_ := Aside0.mk (hbox)
                                    have n3_ := Aside0.mk ((by rw [hg]; exact (below_size q7_1) : w.heap.size <= gb286))
                                    have n4_ := Aside0.mk ((by rw [hg]; exact (below_size q7_1) : w.heap.size <= gb286))
                                    have n5_ := Aside0.mk ((by rw [hg]; exact Nat.ne_of_lt (blk_lt (g := gb262) (o := .cells #[.int .i64 0, .int .i64 0, .slice none 0 0] 52 (0, 0)) q7_2) : gb262 ≠ gb286))
                                    have n6_ := Aside0.mk ((by rw [hg]; exact Nat.ne_of_gt (blk_lt (g := gb262) (o := .cells #[.int .i64 0, .int .i64 0, .slice none 0 0] 52 (0, 0)) q7_2) : gb286 ≠ gb262))
                                    clear BK262
                                    clear HB
                                    have BK262 := n0_
                                    have HB := n1_
                                    have BK286 := n2_
                                    have GW286 := n3_
                                    have GE286 := n4_
                                    have NB262_286 := n5_
                                    have NB286_262 := n6_
                                    clear n0_ n1_ n2_ n3_ n4_ n5_ n6_
                                    clear hb hbox hg
                                    refine hK.out _ _ trivial (fun hHeld => ?_)
                                    clear hK K
                                    refine norm_ (a' := ?_) ?_ ?_
                                    rotate_left
                                    ·show Act.put _ (some 5) _ = _
                                     simp only [Act.put, List.setIfInBounds_toArray, List.set_cons_zero, List.set_cons_succ, i64_w, i32_w]
                                     rfl
                                    exact norm_ q7_3 (hJ15 (gb286) _ ⟨q7_2, q7_5, GW286.out, GE286.out, NB262_286.out, NB286_262.out, q7_4⟩)
                                  ·skip
                                   rintro gb286 w73 ⟨h0_, h1_, h2_, h3_, h4_, h5_, h6_⟩
                                   have n0_ : Aside0 (w73.heap[gb262]? = some (.cells #[.int .i64 0, .int .i64 0, .slice none 0 0] 52 (0, 0))) := ⟨h0_⟩
                                   have n1_ : Aside0 (w73.heap[gb286]? = some (.cells #[.int .i64 0, .int .i64 0, .slice none 0 0] 52 (0, 0))) := ⟨h1_⟩
                                   have n2_ : Aside0 (w.heap.size <= gb286) := ⟨h2_⟩
                                   have n3_ : Aside0 (w.heap.size <= gb286) := ⟨h3_⟩
                                   have n4_ : Aside0 (gb262 ≠ gb286) := ⟨h4_⟩
                                   have n5_ : Aside0 (gb286 ≠ gb262) := ⟨h5_⟩
                                   have n6_ : Aside0 (Below w.heap.size w w73) := ⟨h6_⟩
                                   clear BK262
                                   clear HB
                                   clear h0_ h1_ h2_ h3_ h4_ h5_ h6_
                                   have BK262 := n0_
                                   have BK286 := n1_
                                   have GW286 := n2_
                                   have GE286 := n3_
                                   have NB262_286 := n4_
                                   have NB286_262 := n5_
                                   have HB := n6_
                                   clear n0_ n1_ n2_ n3_ n4_ n5_ n6_
                                   have hHeld := trivial
                                   refine norm_ (a' := ?_) ?_ ?_
                                   rotate_left
                                   ·simp only [putAll, Act.put, List.setIfInBounds_toArray, List.set_cons_zero, List.set_cons_succ]
                                    rfl
                                   refine two_ (i := 2) (j := 8) (Ni := some 51) (Nj := some 57) #[true, true, true, false, true, true, false, false, false, true, true, true, true, false, false, true, false] #[true, true, false, false, true, true, false, false, true, true, true, true, true, false, false, true, false] rfl rfl rfl rfl (two_of HT_.out q7_12) q7_14 q7_14 (fun K hK => ?_) (fun K hK => ?_)
                                   ·skip
                                    refine goes_ Try.func18 q7_12 rfl #[.slice (some ad263) (l0.take 8).length c0] (by rfl) rfl rfl q7_10 ?_
                                    with_reducible refine (batonref01_Get.calls kj15 _ _ (l0.take 8) t276 _ ?side1 ?side2 A32.out).mono ?_
                                    (case side1 => repeat (first | exact (Kd.C_below HR275.out HB.out) | (with_reducible refine Kd.C_alloc ?_ _) | (with_reducible refine Kd.C_drewN ?_ _) | (with_reducible refine Kd.C_drew ?_)))
                                    (case side2 => exact HC275.out)
                                    rintro e w' ⟨rfl, ⟨nd, rfl⟩⟩
                                    refine ⟨_, rfl, ?_⟩
                                    refine hK.out _ _ trivial (fun hHeld => ?_)
                                    clear hK K
                                    refine norm_ (a' := ?_) ?_ ?_
                                    rotate_left
                                    ·show Act.put _ (some 51) _ = _
                                     simp only [Act.put, List.setIfInBounds_toArray, List.set_cons_zero, List.set_cons_succ, i64_w, i32_w]
                                     rfl
                                    refine pure_ (i := 3) (N := some 52) (v := ?_) (a' := ?_) #[true, true, true, true, true, true, false, false, false, true, true, true, true, false, false, true, false] rfl rfl (any_of HT_.out q7_12) (fun _ _ _ h => h) (Or.inl ⟨by rfl, ?_⟩) ?_ ?_
                                    rotate_left
                                    ·intro w'
                                     go_simp
                                     with_reducible rfl
                                    rotate_left
                                    ·simp only [Act.put, List.setIfInBounds_toArray, List.set_cons_zero, List.set_cons_succ, i64_w, i32_w]
                                     rfl
                                    exact norm_ q7_3 (hJ2_15 (gb286) _ ⟨q7_2, q7_5, GW286.out, GE286.out, NB262_286.out, NB286_262.out, q7_4⟩)
                                   ·skip
                                    refine Kd.R_lit_step (Kd.int .u8) _ 5 ?hg (N := 57) ?hd (xs := ([] : List Int)) (inner := []) (ok := fun _ => True) (okp := fun _ => True) ?hr ?hp (fun _ hk => hk) trivial (Below.refl _ _) (Nat.le_refl _) (by simp) ?_; (case hd => rfl); (case hg => rfl); (case hr => first | (go_simp; done) | (go_simp; rfl)); (case hp => exact (Reps.none _ _))
                                    intro v280 w74 ho75 hb hg_ hnew_
                                    clear hg_ hnew_
                                    (first | rw [← Ny279.out] at ho75 | (simp only [Int.reduceToNat] at ho75; rw [← Ny279.out] at ho75))
                                    have n0_ := Aside0.mk (Kd.R_lower ho75 (below_size q7_4))
                                    have n1_ := Aside0.mk (blk_below (g := gb262) (o := .cells #[.int .i64 0, .int .i64 0, .slice none 0 0] 52 (0, 0)) q7_2 hb)
                                    have n2_ := Aside0.mk (blk_below (g := gb286) (o := .cells #[.int .i64 0, .int .i64 0, .slice none 0 0] 52 (0, 0)) q7_5 hb)
                                    have n3_ := Aside0.mk (below_step q7_4 hb)
                                    clear BK262
                                    clear BK286
                                    clear HB
                                    have HO281 := n0_
                                    have BK262 := n1_
                                    have BK286 := n2_
                                    have HB := n3_
                                    clear n0_ n1_ n2_ n3_
                                    clear hb ho75
                                    refine hK.out _ _ trivial (fun hHeld => ?_)
                                    clear hK K
                                    refine norm_ (a' := ?_) ?_ ?_
                                    rotate_left
                                    ·show Act.put _ (some 57) _ = _
                                     simp only [Act.put, List.setIfInBounds_toArray, List.set_cons_zero, List.set_cons_succ, i64_w, i32_w]
                                     rfl
                                    exact norm_ q7_3 (hJ8_15 (v280, gb286) _ ⟨q7_6, q7_2, q7_5, GW286.out, GE286.out, NB262_286.out, NB286_262.out, q7_4⟩)
                                 ·skip
                                  rintro v280 w74 ⟨h0_, h1_, h2_⟩
                                  have n0_ : Aside0 (Kd.R (Kd.int .u8) 5 w74 w.heap.size (fun _ => True) v280 y279) := ⟨h0_⟩
                                  have n1_ : Aside0 (w74.heap[gb262]? = some (.cells #[.int .i64 0, .int .i64 0, .slice none 0 0] 52 (0, 0))) := ⟨h1_⟩
                                  have n2_ : Aside0 (Below w.heap.size w w74) := ⟨h2_⟩
                                  clear BK262
                                  clear HB
                                  clear h0_ h1_ h2_
                                  have HO281 := n0_
                                  have BK262 := n1_
                                  have HB := n2_
                                  clear n0_ n1_ n2_
                                  have hHeld := trivial
                                  refine norm_ (a' := ?_) ?_ ?_
                                  rotate_left
                                  ·simp only [putAll, Act.put, List.setIfInBounds_toArray, List.set_cons_zero, List.set_cons_succ]
                                   rfl
                                  refine two_ (i := 2) (j := 15) (Ni := some 51) (Nj := some 5) #[true, true, true, false, true, true, false, false, true, true, true, true, true, false, false, false, false] #[true, true, false, false, true, true, false, false, true, true, true, true, true, false, false, true, false] rfl rfl rfl rfl (two_of HT_.out q7_12) q7_14 q7_14 (fun K hK => ?_) (fun K hK => ?_)
                                  ·skip
                                   refine goes_ Try.func18 q7_12 rfl #[.slice (some ad263) (l0.take 8).length c0] (by rfl) rfl rfl q7_10 ?_
                                   with_reducible refine (batonref01_Get.calls kj15 _ _ (l0.take 8) t276 _ ?side1 ?side2 A32.out).mono ?_
                                   (case side1 => repeat (first | exact (Kd.C_below HR275.out HB.out) | (with_reducible refine Kd.C_alloc ?_ _) | (with_reducible refine Kd.C_drewN ?_ _) | (with_reducible refine Kd.C_drew ?_)))
                                   (case side2 => exact HC275.out)
                                   rintro e w' ⟨rfl, ⟨nd, rfl⟩⟩
                                   refine ⟨_, rfl, ?_⟩
                                   refine hK.out _ _ trivial (fun hHeld => ?_)
                                   clear hK K
                                   refine norm_ (a' := ?_) ?_ ?_
                                   rotate_left
                                   ·show Act.put _ (some 51) _ = _
                                    simp only [Act.put, List.setIfInBounds_toArray, List.set_cons_zero, List.set_cons_succ, i64_w, i32_w]
                                    rfl
                                   refine pure_ (i := 3) (N := some 52) (v := ?_) (a' := ?_) #[true, true, true, true, true, true, false, false, true, true, true, true, true, false, false, false, false] rfl rfl (any_of HT_.out q7_12) (fun _ _ _ h => h) (Or.inl ⟨by rfl, ?_⟩) ?_ ?_
                                   rotate_left
                                   ·intro w'
                                    go_simp
                                    with_reducible rfl
                                   rotate_left
                                   ·simp only [Act.put, List.setIfInBounds_toArray, List.set_cons_zero, List.set_cons_succ, i64_w, i32_w]
                                    rfl
                                   exact norm_ q7_3 (hJ2_8 (v280) _ ⟨q7_6, q7_2, q7_1⟩)
                                  ·skip
                                   refine box_step ?hg (N := 5) ?hd (cs := #[.int .i64 0, .int .i64 0, .slice none 0 0]) (t := 52) ?hr ?_; (case hd => rfl); (case hg => rfl); (case hr => first | (go_simp; done) | (go_simp; rfl))
                                   intro gb286 hg w75 hbox hb
                                   have n0_ := Aside0.mk (Kd.R_below q7_6 hb)
                                   have n1_ := Aside0.mk (blk_below (g := gb262) (o := .cells #[.int .i64 0, .int .i64 0, .slice none 0 0] 52 (0, 0)) q7_2 hb)
                                   have n2_ := Aside0.mk (below_step q7_1 hb)
                                   have n3_ := Aside0.mk (hbox)
                                   have n4_ := Aside0.mk ((by rw [hg]; exact (below_size q7_1) : w.heap.size <= gb286))
                                   have n5_ := Aside0.mk ((by rw [hg]; exact (below_size q7_1) : w.heap.size <= gb286))
                                   have n6_ := Aside0.mk ((by rw [hg]; exact Nat.ne_of_lt (blk_lt (g := gb262) (o := .cells #[.int .i64 0, .int .i64 0, .slice none 0 0] 52 (0, 0)) q7_2) : gb262 ≠ gb286))
                                   have n7_ := Aside0.mk ((by rw [hg]; exact Nat.ne_of_gt (blk_lt (g := gb262) (o := .cells #[.int .i64 0, .int .i64 0, .slice none 0 0] 52 (0, 0)) q7_2) : gb286 ≠ gb262))
                                   clear HO281
                                   clear BK262
                                   clear HB
                                   have HO281 := n0_
                                   have BK262 := n1_
                                   have HB := n2_
                                   have BK286 := n3_
                                   have GW286 := n4_
                                   have GE286 := n5_
                                   have NB262_286 := n6_
                                   have NB286_262 := n7_
                                   clear n0_ n1_ n2_ n3_ n4_ n5_ n6_ n7_
                                   clear hb hbox hg
                                   refine hK.out _ _ trivial (fun hHeld => ?_)
                                   clear hK K
                                   refine norm_ (a' := ?_) ?_ ?_
                                   rotate_left
                                   ·show Act.put _ (some 5) _ = _
                                    simp only [Act.put, List.setIfInBounds_toArray, List.set_cons_zero, List.set_cons_succ, i64_w, i32_w]
                                    rfl
                                   exact norm_ q7_3 (hJ8_15 (v280, gb286) _ ⟨q7_6, q7_2, q7_5, GW286.out, GE286.out, NB262_286.out, NB286_262.out, q7_4⟩)
                                ·skip
                                 rintro _ w72 ⟨h0_, h1_⟩
                                 have n0_ : Aside0 (w72.heap[gb262]? = some (.cells #[.int .i64 0, .int .i64 0, .slice none 0 0] 52 (0, 0))) := ⟨h0_⟩
                                 have n1_ : Aside0 (Below w.heap.size w w72) := ⟨h1_⟩
                                 clear BK262
                                 clear HB
                                 clear h0_ h1_
                                 have BK262 := n0_
                                 have HB := n1_
                                 clear n0_ n1_
                                 have hHeld := trivial
                                 refine norm_ (a' := ?_) ?_ ?_
                                 rotate_left
                                 ·simp only [putAll, Act.put, List.setIfInBounds_toArray, List.set_cons_zero, List.set_cons_succ]
                                  rfl
                                 refine three_ (i := 6) (j := 8) (k := 15) (Ni := some 55) (Nj := some 57) (Nk := some 5) #[true, true, true, true, true, true, true, false, false, true, true, true, true, false, false, false, false] #[true, true, true, true, true, true, false, false, true, true, true, true, true, false, false, false, false] #[true, true, true, true, true, true, false, false, false, true, true, true, true, false, false, true, false] rfl rfl rfl rfl rfl rfl (three_of HT_.out q7_12) q7_14 q7_14 q7_14 (fun K hK => ?_) (fun K hK => ?_) (fun K hK => ?_)
                                 ·skip
                                  refine goes_ Try.func18 q7_12 rfl #[.slice A70 ((l0.take 16).drop 8).length (c0 - 8)] (by rfl) rfl rfl q7_9 ?_
                                  with_reducible refine (batonref01_Get.calls kj15 _ _ ((l0.take 16).drop 8) t278 _ ?side1 ?side2 A35.out).mono ?_
                                  (case side1 => repeat (first | exact (Kd.C_below HR277.out HB.out) | (with_reducible refine Kd.C_alloc ?_ _) | (with_reducible refine Kd.C_drewN ?_ _) | (with_reducible refine Kd.C_drew ?_)))
                                  (case side2 => exact HC277.out)
                                  rintro e w' ⟨rfl, ⟨nd, rfl⟩⟩
                                  refine ⟨_, rfl, ?_⟩
                                  refine hK.out _ _ trivial (fun hHeld => ?_)
                                  clear hK K
                                  refine norm_ (a' := ?_) ?_ ?_
                                  rotate_left
                                  ·show Act.put _ (some 55) _ = _
                                   simp only [Act.put, List.setIfInBounds_toArray, List.set_cons_zero, List.set_cons_succ, i64_w, i32_w]
                                   rfl
                                  refine pure_ (i := 7) (N := some 56) (v := ?_) (a' := ?_) #[true, true, true, true, true, true, true, true, false, true, true, true, true, false, false, false, false] rfl rfl (any_of HT_.out q7_12) (fun _ _ _ h => h) (Or.inl ⟨by rfl, ?_⟩) ?_ ?_
                                  rotate_left
                                  ·intro w'
                                   go_simp
                                   with_reducible rfl
                                  rotate_left
                                  ·simp only [Act.put, List.setIfInBounds_toArray, List.set_cons_zero, List.set_cons_succ, i64_w, i32_w]
                                   rfl
                                  exact norm_ q7_3 (hJ2_6 () _ ⟨q7_2, q7_1⟩)
                                 ·skip
                                  refine Kd.R_lit_step (Kd.int .u8) _ 5 ?hg (N := 57) ?hd (xs := ([] : List Int)) (inner := []) (ok := fun _ => True) (okp := fun _ => True) ?hr ?hp (fun _ hk => hk) trivial (Below.refl _ _) (Nat.le_refl _) (by simp) ?_; (case hd => rfl); (case hg => rfl); (case hr => first | (go_simp; done) | (go_simp; rfl)); (case hp => exact (Reps.none _ _))
                                  intro v280 w73 ho74 hb hg_ hnew_
                                  clear hg_ hnew_
                                  (first | rw [← Ny279.out] at ho74 | (simp only [Int.reduceToNat] at ho74; rw [← Ny279.out] at ho74))
                                  have n0_ := Aside0.mk (Kd.R_lower ho74 (below_size q7_1))
                                  have n1_ := Aside0.mk (blk_below (g := gb262) (o := .cells #[.int .i64 0, .int .i64 0, .slice none 0 0] 52 (0, 0)) q7_2 hb)
                                  have n2_ := Aside0.mk (below_step q7_1 hb)
                                  clear BK262
                                  clear HB
                                  have HO281 := n0_
                                  have BK262 := n1_
                                  have HB := n2_
                                  clear n0_ n1_ n2_
                                  clear hb ho74
                                  refine hK.out _ _ trivial (fun hHeld => ?_)
                                  clear hK K
                                  refine norm_ (a' := ?_) ?_ ?_
                                  rotate_left
                                  ·show Act.put _ (some 57) _ = _
                                   simp only [Act.put, List.setIfInBounds_toArray, List.set_cons_zero, List.set_cons_succ, i64_w, i32_w]
                                   rfl
                                  exact norm_ q7_3 (hJ2_8 (v280) _ ⟨q7_6, q7_2, q7_1⟩)
                                 ·skip
                                  refine box_step ?hg (N := 5) ?hd (cs := #[.int .i64 0, .int .i64 0, .slice none 0 0]) (t := 52) ?hr ?_; (case hd => rfl); (case hg => rfl); (case hr => first | (go_simp; done) | (go_simp; rfl))
                                  intro gb286 hg w73 hbox hb
                                  have n0_ := Aside0.mk (blk_below (g := gb262) (o := .cells #[.int .i64 0, .int .i64 0, .slice none 0 0] 52 (0, 0)) q7_2 hb)
                                  have n1_ := Aside0.mk (below_step q7_1 hb)
                                  have n2_ := Aside0.mk (hbox)
                                  have n3_ := Aside0.mk ((by rw [hg]; exact (below_size q7_1) : w.heap.size <= gb286))
                                  have n4_ := Aside0.mk ((by rw [hg]; exact (below_size q7_1) : w.heap.size <= gb286))
                                  have n5_ := Aside0.mk ((by rw [hg]; exact Nat.ne_of_lt (blk_lt (g := gb262) (o := .cells #[.int .i64 0, .int .i64 0, .slice none 0 0] 52 (0, 0)) q7_2) : gb262 ≠ gb286))
                                  have n6_ := Aside0.mk ((by rw [hg]; exact Nat.ne_of_gt (blk_lt (g := gb262) (o := .cells #[.int .i64 0, .int .i64 0, .slice none 0 0] 52 (0, 0)) q7_2) : gb286 ≠ gb262))
                                  clear BK262
                                  clear HB
                                  have BK262 := n0_
                                  have HB := n1_
                                  have BK286 := n2_
                                  have GW286 := n3_
                                  have GE286 := n4_
                                  have NB262_286 := n5_
                                  have NB286_262 := n6_
                                  clear n0_ n1_ n2_ n3_ n4_ n5_ n6_
                                  clear hb hbox hg
                                  refine hK.out _ _ trivial (fun hHeld => ?_)
                                  clear hK K
                                  refine norm_ (a' := ?_) ?_ ?_
                                  rotate_left
                                  ·show Act.put _ (some 5) _ = _
                                   simp only [Act.put, List.setIfInBounds_toArray, List.set_cons_zero, List.set_cons_succ, i64_w, i32_w]
                                   rfl
                                  exact norm_ q7_3 (hJ2_15 (gb286) _ ⟨q7_2, q7_5, GW286.out, GE286.out, NB262_286.out, NB286_262.out, q7_4⟩)
                               ·skip
                                rintro ⟨v280, gb286⟩ w75 ⟨h0_, h1_, h2_, h3_, h4_, h5_, h6_, h7_⟩
                                have n0_ : Aside0 (Kd.R (Kd.int .u8) 5 w75 w.heap.size (fun _ => True) v280 y279) := ⟨h0_⟩
                                have n1_ : Aside0 (w75.heap[gb262]? = some (.cells #[.int .i64 0, .int .i64 0, .slice none 0 0] 52 (0, 0))) := ⟨h1_⟩
                                have n2_ : Aside0 (w75.heap[gb286]? = some (.cells #[.int .i64 0, .int .i64 0, .slice none 0 0] 52 (0, 0))) := ⟨h2_⟩
                                have n3_ : Aside0 (w.heap.size <= gb286) := ⟨h3_⟩
                                have n4_ : Aside0 (w.heap.size <= gb286) := ⟨h4_⟩
                                have n5_ : Aside0 (gb262 ≠ gb286) := ⟨h5_⟩
                                have n6_ : Aside0 (gb286 ≠ gb262) := ⟨h6_⟩
                                have n7_ : Aside0 (Below w.heap.size w w75) := ⟨h7_⟩
                                clear BK262
                                clear HB
                                clear h0_ h1_ h2_ h3_ h4_ h5_ h6_ h7_
                                have HO281 := n0_
                                have BK262 := n1_
                                have BK286 := n2_
                                have GW286 := n3_
                                have GE286 := n4_
                                have NB262_286 := n5_
                                have NB286_262 := n6_
                                have HB := n7_
                                clear n0_ n1_ n2_ n3_ n4_ n5_ n6_ n7_
                                have hHeld := trivial
                                refine norm_ (a' := ?_) ?_ ?_
                                rotate_left
                                ·simp only [putAll, Act.put, List.setIfInBounds_toArray, List.set_cons_zero, List.set_cons_succ]
                                 rfl
                                refine one_ (i := 2) (N := some 51) #[true, true, true, false, true, true, false, false, true, true, true, true, true, false, false, true, false] rfl rfl (one_of HT_.out q7_12) q7_14 (fun K hK => ?_)
                                refine goes_ Try.func18 q7_12 rfl #[.slice (some ad263) (l0.take 8).length c0] (by rfl) rfl rfl q7_10 ?_
                                with_reducible refine (batonref01_Get.calls kj15 _ _ (l0.take 8) t276 _ ?side1 ?side2 A32.out).mono ?_
                                (case side1 => repeat (first | exact (Kd.C_below HR275.out HB.out) | (with_reducible refine Kd.C_alloc ?_ _) | (with_reducible refine Kd.C_drewN ?_ _) | (with_reducible refine Kd.C_drew ?_)))
                                (case side2 => exact HC275.out)
                                rintro e w' ⟨rfl, ⟨nd, rfl⟩⟩
                                refine ⟨_, rfl, ?_⟩
                                refine hK.out _ _ trivial (fun hHeld => ?_)
                                clear hK K
                                refine norm_ (a' := ?_) ?_ ?_
                                rotate_left
                                ·show Act.put _ (some 51) _ = _
                                 simp only [Act.put, List.setIfInBounds_toArray, List.set_cons_zero, List.set_cons_succ, i64_w, i32_w]
                                 rfl
                                refine pure_ (i := 3) (N := some 52) (v := ?_) (a' := ?_) #[true, true, true, true, true, true, false, false, true, true, true, true, true, false, false, true, false] rfl rfl (any_of HT_.out q7_12) (fun _ _ _ h => h) (Or.inl ⟨by rfl, ?_⟩) ?_ ?_
                                rotate_left
                                ·intro w'
                                 go_simp
                                 with_reducible rfl
                                rotate_left
                                ·simp only [Act.put, List.setIfInBounds_toArray, List.set_cons_zero, List.set_cons_succ, i64_w, i32_w]
                                 rfl
                                exact norm_ q7_3 (hJ2_8_15 (v280, gb286) _ ⟨q7_6, q7_2, q7_5, GW286.out, GE286.out, NB262_286.out, NB286_262.out, q7_4⟩)
                              ·skip
                               rintro gb286 w73 ⟨h0_, h1_, h2_, h3_, h4_, h5_, h6_⟩
                               have n0_ : Aside0 (w73.heap[gb262]? = some (.cells #[.int .i64 0, .int .i64 0, .slice none 0 0] 52 (0, 0))) := ⟨h0_⟩
                               have n1_ : Aside0 (w73.heap[gb286]? = some (.cells #[.int .i64 0, .int .i64 0, .slice none 0 0] 52 (0, 0))) := ⟨h1_⟩
                               have n2_ : Aside0 (w.heap.size <= gb286) := ⟨h2_⟩
                               have n3_ : Aside0 (w.heap.size <= gb286) := ⟨h3_⟩
                               have n4_ : Aside0 (gb262 ≠ gb286) := ⟨h4_⟩
                               have n5_ : Aside0 (gb286 ≠ gb262) := ⟨h5_⟩
                               have n6_ : Aside0 (Below w.heap.size w w73) := ⟨h6_⟩
                               clear BK262
                               clear HB
                               clear h0_ h1_ h2_ h3_ h4_ h5_ h6_
                               have BK262 := n0_
                               have BK286 := n1_
                               have GW286 := n2_
                               have GE286 := n3_
                               have NB262_286 := n4_
                               have NB286_262 := n5_
                               have HB := n6_
                               clear n0_ n1_ n2_ n3_ n4_ n5_ n6_
                               have hHeld := trivial
                               refine norm_ (a' := ?_) ?_ ?_
                               rotate_left
                               ·simp only [putAll, Act.put, List.setIfInBounds_toArray, List.set_cons_zero, List.set_cons_succ]
                                rfl
                               refine two_ (i := 6) (j := 8) (Ni := some 55) (Nj := some 57) #[true, true, true, true, true, true, true, false, false, true, true, true, true, false, false, true, false] #[true, true, true, true, true, true, false, false, true, true, true, true, true, false, false, true, false] rfl rfl rfl rfl (two_of HT_.out q7_12) q7_14 q7_14 (fun K hK => ?_) (fun K hK => ?_)
                               ·skip
                                refine goes_ Try.func18 q7_12 rfl #[.slice A70 ((l0.take 16).drop 8).length (c0 - 8)] (by rfl) rfl rfl q7_9 ?_
                                with_reducible refine (batonref01_Get.calls kj15 _ _ ((l0.take 16).drop 8) t278 _ ?side1 ?side2 A35.out).mono ?_
                                (case side1 => repeat (first | exact (Kd.C_below HR277.out HB.out) | (with_reducible refine Kd.C_alloc ?_ _) | (with_reducible refine Kd.C_drewN ?_ _) | (with_reducible refine Kd.C_drew ?_)))
                                (case side2 => exact HC277.out)
                                rintro e w' ⟨rfl, ⟨nd, rfl⟩⟩
                                refine ⟨_, rfl, ?_⟩
                                refine hK.out _ _ trivial (fun hHeld => ?_)
                                clear hK K
                                refine norm_ (a' := ?_) ?_ ?_
                                rotate_left
                                ·show Act.put _ (some 55) _ = _
                                 simp only [Act.put, List.setIfInBounds_toArray, List.set_cons_zero, List.set_cons_succ, i64_w, i32_w]
                                 rfl
                                refine pure_ (i := 7) (N := some 56) (v := ?_) (a' := ?_) #[true, true, true, true, true, true, true, true, false, true, true, true, true, false, false, true, false] rfl rfl (any_of HT_.out q7_12) (fun _ _ _ h => h) (Or.inl ⟨by rfl, ?_⟩) ?_ ?_
                                rotate_left
                                ·intro w'
                                 go_simp
                                 with_reducible rfl
                                rotate_left
                                ·simp only [Act.put, List.setIfInBounds_toArray, List.set_cons_zero, List.set_cons_succ, i64_w, i32_w]
                                 rfl
                                exact norm_ q7_3 (hJ2_6_15 (gb286) _ ⟨q7_2, q7_5, GW286.out, GE286.out, NB262_286.out, NB286_262.out, q7_4⟩)
                               ·skip
                                refine Kd.R_lit_step (Kd.int .u8) _ 5 ?hg (N := 57) ?hd (xs := ([] : List Int)) (inner := []) (ok := fun _ => True) (okp := fun _ => True) ?hr ?hp (fun _ hk => hk) trivial (Below.refl _ _) (Nat.le_refl _) (by simp) ?_; (case hd => rfl); (case hg => rfl); (case hr => first | (go_simp; done) | (go_simp; rfl)); (case hp => exact (Reps.none _ _))
                                intro v280 w74 ho75 hb hg_ hnew_
                                clear hg_ hnew_
                                (first | rw [← Ny279.out] at ho75 | (simp only [Int.reduceToNat] at ho75; rw [← Ny279.out] at ho75))
                                have n0_ := Aside0.mk (Kd.R_lower ho75 (below_size q7_4))
                                have n1_ := Aside0.mk (blk_below (g := gb262) (o := .cells #[.int .i64 0, .int .i64 0, .slice none 0 0] 52 (0, 0)) q7_2 hb)
                                have n2_ := Aside0.mk (blk_below (g := gb286) (o := .cells #[.int .i64 0, .int .i64 0, .slice none 0 0] 52 (0, 0)) q7_5 hb)
                                have n3_ := Aside0.mk (below_step q7_4 hb)
                                clear BK262
                                clear BK286
                                clear HB
                                have HO281 := n0_
                                have BK262 := n1_
                                have BK286 := n2_
                                have HB := n3_
                                clear n0_ n1_ n2_ n3_
                                clear hb ho75
                                refine hK.out _ _ trivial (fun hHeld => ?_)
                                clear hK K
                                refine norm_ (a' := ?_) ?_ ?_
                                rotate_left
                                ·show Act.put _ (some 57) _ = _
                                 simp only [Act.put, List.setIfInBounds_toArray, List.set_cons_zero, List.set_cons_succ, i64_w, i32_w]
                                 rfl
                                exact norm_ q7_3 (hJ2_8_15 (v280, gb286) _ ⟨q7_6, q7_2, q7_5, GW286.out, GE286.out, NB262_286.out, NB286_262.out, q7_4⟩)
                             ·skip
                              rintro v280 w74 ⟨h0_, h1_, h2_⟩
                              have n0_ : Aside0 (Kd.R (Kd.int .u8) 5 w74 w.heap.size (fun _ => True) v280 y279) := ⟨h0_⟩
                              have n1_ : Aside0 (w74.heap[gb262]? = some (.cells #[.int .i64 0, .int .i64 0, .slice none 0 0] 52 (0, 0))) := ⟨h1_⟩
                              have n2_ : Aside0 (Below w.heap.size w w74) := ⟨h2_⟩
                              clear BK262
                              clear HB
                              clear h0_ h1_ h2_
                              have HO281 := n0_
                              have BK262 := n1_
                              have HB := n2_
                              clear n0_ n1_ n2_
                              have hHeld := trivial
                              refine norm_ (a' := ?_) ?_ ?_
                              rotate_left
                              ·simp only [putAll, Act.put, List.setIfInBounds_toArray, List.set_cons_zero, List.set_cons_succ]
                               rfl
                              refine two_ (i := 6) (j := 15) (Ni := some 55) (Nj := some 5) #[true, true, true, true, true, true, true, false, true, true, true, true, true, false, false, false, false] #[true, true, true, true, true, true, false, false, true, true, true, true, true, false, false, true, false] rfl rfl rfl rfl (two_of HT_.out q7_12) q7_14 q7_14 (fun K hK => ?_) (fun K hK => ?_)
                              ·skip
                               refine goes_ Try.func18 q7_12 rfl #[.slice A70 ((l0.take 16).drop 8).length (c0 - 8)] (by rfl) rfl rfl q7_9 ?_
                               with_reducible refine (batonref01_Get.calls kj15 _ _ ((l0.take 16).drop 8) t278 _ ?side1 ?side2 A35.out).mono ?_
                               (case side1 => repeat (first | exact (Kd.C_below HR277.out HB.out) | (with_reducible refine Kd.C_alloc ?_ _) | (with_reducible refine Kd.C_drewN ?_ _) | (with_reducible refine Kd.C_drew ?_)))
                               (case side2 => exact HC277.out)
                               rintro e w' ⟨rfl, ⟨nd, rfl⟩⟩
                               refine ⟨_, rfl, ?_⟩
                               refine hK.out _ _ trivial (fun hHeld => ?_)
                               clear hK K
                               refine norm_ (a' := ?_) ?_ ?_
                               rotate_left
                               ·show Act.put _ (some 55) _ = _
                                simp only [Act.put, List.setIfInBounds_toArray, List.set_cons_zero, List.set_cons_succ, i64_w, i32_w]
                                rfl
                               refine pure_ (i := 7) (N := some 56) (v := ?_) (a' := ?_) #[true, true, true, true, true, true, true, true, true, true, true, true, true, false, false, false, false] rfl rfl (any_of HT_.out q7_12) (fun _ _ _ h => h) (Or.inl ⟨by rfl, ?_⟩) ?_ ?_
                               rotate_left
                               ·intro w'
                                go_simp
                                with_reducible rfl
                               rotate_left
                               ·simp only [Act.put, List.setIfInBounds_toArray, List.set_cons_zero, List.set_cons_succ, i64_w, i32_w]
                                rfl
                               exact norm_ q7_3 (hJ2_6_8 (v280) _ ⟨q7_6, q7_2, q7_1⟩)
                              ·skip
                               refine box_step ?hg (N := 5) ?hd (cs := #[.int .i64 0, .int .i64 0, .slice none 0 0]) (t := 52) ?hr ?_; (case hd => rfl); (case hg => rfl); (case hr => first | (go_simp; done) | (go_simp; rfl))
                               intro gb286 hg w75 hbox hb
                               have n0_ := Aside0.mk (Kd.R_below q7_6 hb)
                               have n1_ := Aside0.mk (blk_below (g := gb262) (o := .cells #[.int .i64 0, .int .i64 0, .slice none 0 0] 52 (0, 0)) q7_2 hb)
                               have n2_ := Aside0.mk (below_step q7_1 hb)
                               have n3_ := Aside0.mk (hbox)
                               have n4_ := Aside0.mk ((by rw [hg]; exact (below_size q7_1) : w.heap.size <= gb286))
                               have n5_ := Aside0.mk ((by rw [hg]; exact (below_size q7_1) : w.heap.size <= gb286))
                               have n6_ := Aside0.mk ((by rw [hg]; exact Nat.ne_of_lt (blk_lt (g := gb262) (o := .cells #[.int .i64 0, .int .i64 0, .slice none 0 0] 52 (0, 0)) q7_2) : gb262 ≠ gb286))
                               have n7_ := Aside0.mk ((by rw [hg]; exact Nat.ne_of_gt (blk_lt (g := gb262) (o := .cells #[.int .i64 0, .int .i64 0, .slice none 0 0] 52 (0, 0)) q7_2) : gb286 ≠ gb262))
                               clear HO281
                               clear BK262
                               clear HB
                               have HO281 := n0_
                               have BK262 := n1_
                               have HB := n2_
                               have BK286 := n3_
                               have GW286 := n4_
                               have GE286 := n5_
                               have NB262_286 := n6_
                               have NB286_262 := n7_
                               clear n0_ n1_ n2_ n3_ n4_ n5_ n6_ n7_
                               clear hb hbox hg
                               refine hK.out _ _ trivial (fun hHeld => ?_)
                               clear hK K
                               refine norm_ (a' := ?_) ?_ ?_
                               rotate_left
                               ·show Act.put _ (some 5) _ = _
                                simp only [Act.put, List.setIfInBounds_toArray, List.set_cons_zero, List.set_cons_succ, i64_w, i32_w]
                                rfl
                               exact norm_ q7_3 (hJ2_8_15 (v280, gb286) _ ⟨q7_6, q7_2, q7_5, GW286.out, GE286.out, NB262_286.out, NB286_262.out, q7_4⟩)
                            ·skip
                             rintro _ w72 ⟨h0_, h1_⟩
                             have n0_ : Aside0 (w72.heap[gb262]? = some (.cells #[.int .i64 0, .int .i64 0, .slice none 0 0] 52 (0, 0))) := ⟨h0_⟩
                             have n1_ : Aside0 (Below w.heap.size w w72) := ⟨h1_⟩
                             clear BK262
                             clear HB
                             clear h0_ h1_
                             have BK262 := n0_
                             have HB := n1_
                             clear n0_ n1_
                             have hHeld := trivial
                             refine norm_ (a' := ?_) ?_ ?_
                             rotate_left
                             ·simp only [putAll, Act.put, List.setIfInBounds_toArray, List.set_cons_zero, List.set_cons_succ]
                              rfl
                             refine two_ (i := 8) (j := 15) (Ni := some 57) (Nj := some 5) #[true, true, true, true, true, true, true, true, true, true, true, true, true, false, false, false, false] #[true, true, true, true, true, true, true, true, false, true, true, true, true, false, false, true, false] rfl rfl rfl rfl (two_of HT_.out q7_12) q7_14 q7_14 (fun K hK => ?_) (fun K hK => ?_)
                             ·skip
                              refine Kd.R_lit_step (Kd.int .u8) _ 5 ?hg (N := 57) ?hd (xs := ([] : List Int)) (inner := []) (ok := fun _ => True) (okp := fun _ => True) ?hr ?hp (fun _ hk => hk) trivial (Below.refl _ _) (Nat.le_refl _) (by simp) ?_; (case hd => rfl); (case hg => rfl); (case hr => first | (go_simp; done) | (go_simp; rfl)); (case hp => exact (Reps.none _ _))
                              intro v280 w73 ho74 hb hg_ hnew_
                              clear hg_ hnew_
                              (first | rw [← Ny279.out] at ho74 | (simp only [Int.reduceToNat] at ho74; rw [← Ny279.out] at ho74))
                              have n0_ := Aside0.mk (Kd.R_lower ho74 (below_size q7_1))
                              have n1_ := Aside0.mk (blk_below (g := gb262) (o := .cells #[.int .i64 0, .int .i64 0, .slice none 0 0] 52 (0, 0)) q7_2 hb)
                              have n2_ := Aside0.mk (below_step q7_1 hb)
                              clear BK262
                              clear HB
                              have HO281 := n0_
                              have BK262 := n1_
                              have HB := n2_
                              clear n0_ n1_ n2_
                              clear hb ho74
                              refine hK.out _ _ trivial (fun hHeld => ?_)
                              clear hK K
                              refine norm_ (a' := ?_) ?_ ?_
                              rotate_left
                              ·show Act.put _ (some 57) _ = _
                               simp only [Act.put, List.setIfInBounds_toArray, List.set_cons_zero, List.set_cons_succ, i64_w, i32_w]
                               rfl
                              exact norm_ q7_3 (hJ2_6_8 (v280) _ ⟨q7_6, q7_2, q7_1⟩)
                             ·skip
                              refine box_step ?hg (N := 5) ?hd (cs := #[.int .i64 0, .int .i64 0, .slice none 0 0]) (t := 52) ?hr ?_; (case hd => rfl); (case hg => rfl); (case hr => first | (go_simp; done) | (go_simp; rfl))
                              intro gb286 hg w73 hbox hb
                              have n0_ := Aside0.mk (blk_below (g := gb262) (o := .cells #[.int .i64 0, .int .i64 0, .slice none 0 0] 52 (0, 0)) q7_2 hb)
                              have n1_ := Aside0.mk (below_step q7_1 hb)
                              have n2_ := Aside0.mk (hbox)
                              have n3_ := Aside0.mk ((by rw [hg]; exact (below_size q7_1) : w.heap.size <= gb286))
                              have n4_ := Aside0.mk ((by rw [hg]; exact (below_size q7_1) : w.heap.size <= gb286))
                              have n5_ := Aside0.mk ((by rw [hg]; exact Nat.ne_of_lt (blk_lt (g := gb262) (o := .cells #[.int .i64 0, .int .i64 0, .slice none 0 0] 52 (0, 0)) q7_2) : gb262 ≠ gb286))
                              have n6_ := Aside0.mk ((by rw [hg]; exact Nat.ne_of_gt (blk_lt (g := gb262) (o := .cells #[.int .i64 0, .int .i64 0, .slice none 0 0] 52 (0, 0)) q7_2) : gb286 ≠ gb262))
                              clear BK262
                              clear HB
                              have BK262 := n0_
                              have HB := n1_
                              have BK286 := n2_
                              have GW286 := n3_
                              have GE286 := n4_
                              have NB262_286 := n5_
                              have NB286_262 := n6_
                              clear n0_ n1_ n2_ n3_ n4_ n5_ n6_
                              clear hb hbox hg
                              refine hK.out _ _ trivial (fun hHeld => ?_)
                              clear hK K
                              refine norm_ (a' := ?_) ?_ ?_
                              rotate_left
                              ·show Act.put _ (some 5) _ = _
                               simp only [Act.put, List.setIfInBounds_toArray, List.set_cons_zero, List.set_cons_succ, i64_w, i32_w]
                               rfl
                              exact norm_ q7_3 (hJ2_6_15 (gb286) _ ⟨q7_2, q7_5, GW286.out, GE286.out, NB262_286.out, NB286_262.out, q7_4⟩)
                           ·skip
                            rintro ⟨v280, gb286⟩ w75 ⟨h0_, h1_, h2_, h3_, h4_, h5_, h6_, h7_⟩
                            have n0_ : Aside0 (Kd.R (Kd.int .u8) 5 w75 w.heap.size (fun _ => True) v280 y279) := ⟨h0_⟩
                            have n1_ : Aside0 (w75.heap[gb262]? = some (.cells #[.int .i64 0, .int .i64 0, .slice none 0 0] 52 (0, 0))) := ⟨h1_⟩
                            have n2_ : Aside0 (w75.heap[gb286]? = some (.cells #[.int .i64 0, .int .i64 0, .slice none 0 0] 52 (0, 0))) := ⟨h2_⟩
                            have n3_ : Aside0 (w.heap.size <= gb286) := ⟨h3_⟩
                            have n4_ : Aside0 (w.heap.size <= gb286) := ⟨h4_⟩
                            have n5_ : Aside0 (gb262 ≠ gb286) := ⟨h5_⟩
                            have n6_ : Aside0 (gb286 ≠ gb262) := ⟨h6_⟩
                            have n7_ : Aside0 (Below w.heap.size w w75) := ⟨h7_⟩
                            clear BK262
                            clear HB
                            clear h0_ h1_ h2_ h3_ h4_ h5_ h6_ h7_
                            have HO281 := n0_
                            have BK262 := n1_
                            have BK286 := n2_
                            have GW286 := n3_
                            have GE286 := n4_
                            have NB262_286 := n5_
                            have NB286_262 := n6_
                            have HB := n7_
                            clear n0_ n1_ n2_ n3_ n4_ n5_ n6_ n7_
                            have hHeld := trivial
                            refine norm_ (a' := ?_) ?_ ?_
                            rotate_left
                            ·simp only [putAll, Act.put, List.setIfInBounds_toArray, List.set_cons_zero, List.set_cons_succ]
                             rfl
                            refine one_ (i := 6) (N := some 55) #[true, true, true, true, true, true, true, false, true, true, true, true, true, false, false, true, false] rfl rfl (one_of HT_.out q7_12) q7_14 (fun K hK => ?_)
                            refine goes_ Try.func18 q7_12 rfl #[.slice A70 ((l0.take 16).drop 8).length (c0 - 8)] (by rfl) rfl rfl q7_9 ?_
                            with_reducible refine (batonref01_Get.calls kj15 _ _ ((l0.take 16).drop 8) t278 _ ?side1 ?side2 A35.out).mono ?_
                            (case side1 => repeat (first | exact (Kd.C_below HR277.out HB.out) | (with_reducible refine Kd.C_alloc ?_ _) | (with_reducible refine Kd.C_drewN ?_ _) | (with_reducible refine Kd.C_drew ?_)))
                            (case side2 => exact HC277.out)
                            rintro e w' ⟨rfl, ⟨nd, rfl⟩⟩
                            refine ⟨_, rfl, ?_⟩
                            refine hK.out _ _ trivial (fun hHeld => ?_)
                            clear hK K
                            refine norm_ (a' := ?_) ?_ ?_
                            rotate_left
                            ·show Act.put _ (some 55) _ = _
                             simp only [Act.put, List.setIfInBounds_toArray, List.set_cons_zero, List.set_cons_succ, i64_w, i32_w]
                             rfl
                            refine pure_ (i := 7) (N := some 56) (v := ?_) (a' := ?_) #[true, true, true, true, true, true, true, true, true, true, true, true, true, false, false, true, false] rfl rfl (any_of HT_.out q7_12) (fun _ _ _ h => h) (Or.inl ⟨by rfl, ?_⟩) ?_ ?_
                            rotate_left
                            ·intro w'
                             go_simp
                             with_reducible rfl
                            rotate_left
                            ·simp only [Act.put, List.setIfInBounds_toArray, List.set_cons_zero, List.set_cons_succ, i64_w, i32_w]
                             rfl
                            exact norm_ q7_3 (hJ2_6_8_15 (v280, gb286) _ ⟨q7_6, q7_2, q7_5, GW286.out, GE286.out, NB262_286.out, NB286_262.out, q7_4⟩)
                          ·skip
                           rintro gb286 w73 ⟨h0_, h1_, h2_, h3_, h4_, h5_, h6_⟩
                           have n0_ : Aside0 (w73.heap[gb262]? = some (.cells #[.int .i64 0, .int .i64 0, .slice none 0 0] 52 (0, 0))) := ⟨h0_⟩
                           have n1_ : Aside0 (w73.heap[gb286]? = some (.cells #[.int .i64 0, .int .i64 0, .slice none 0 0] 52 (0, 0))) := ⟨h1_⟩
                           have n2_ : Aside0 (w.heap.size <= gb286) := ⟨h2_⟩
                           have n3_ : Aside0 (w.heap.size <= gb286) := ⟨h3_⟩
                           have n4_ : Aside0 (gb262 ≠ gb286) := ⟨h4_⟩
                           have n5_ : Aside0 (gb286 ≠ gb262) := ⟨h5_⟩
                           have n6_ : Aside0 (Below w.heap.size w w73) := ⟨h6_⟩
                           clear BK262
                           clear HB
                           clear h0_ h1_ h2_ h3_ h4_ h5_ h6_
                           have BK262 := n0_
                           have BK286 := n1_
                           have GW286 := n2_
                           have GE286 := n3_
                           have NB262_286 := n4_
                           have NB286_262 := n5_
                           have HB := n6_
                           clear n0_ n1_ n2_ n3_ n4_ n5_ n6_
                           have hHeld := trivial
                           refine norm_ (a' := ?_) ?_ ?_
                           rotate_left
                           ·simp only [putAll, Act.put, List.setIfInBounds_toArray, List.set_cons_zero, List.set_cons_succ]
                            rfl
                           refine one_ (i := 8) (N := some 57) #[true, true, true, true, true, true, true, true, true, true, true, true, true, false, false, true, false] rfl rfl (one_of HT_.out q7_12) q7_14 (fun K hK => ?_)
                           refine Kd.R_lit_step (Kd.int .u8) _ 5 ?hg (N := 57) ?hd (xs := ([] : List Int)) (inner := []) (ok := fun _ => True) (okp := fun _ => True) ?hr ?hp (fun _ hk => hk) trivial (Below.refl _ _) (Nat.le_refl _) (by simp) ?_; (case hd => rfl); (case hg => rfl); (case hr => first | (go_simp; done) | (go_simp; rfl)); (case hp => exact (Reps.none _ _))
                           intro v280 w74 ho75 hb hg_ hnew_
                           clear hg_ hnew_
                           (first | rw [← Ny279.out] at ho75 | (simp only [Int.reduceToNat] at ho75; rw [← Ny279.out] at ho75))
                           have n0_ := Aside0.mk (Kd.R_lower ho75 (below_size q7_4))
                           have n1_ := Aside0.mk (blk_below (g := gb262) (o := .cells #[.int .i64 0, .int .i64 0, .slice none 0 0] 52 (0, 0)) q7_2 hb)
                           have n2_ := Aside0.mk (blk_below (g := gb286) (o := .cells #[.int .i64 0, .int .i64 0, .slice none 0 0] 52 (0, 0)) q7_5 hb)
                           have n3_ := Aside0.mk (below_step q7_4 hb)
                           clear BK262
                           clear BK286
                           clear HB
                           have HO281 := n0_
                           have BK262 := n1_
                           have BK286 := n2_
                           have HB := n3_
                           clear n0_ n1_ n2_ n3_
                           clear hb ho75
                           refine hK.out _ _ trivial (fun hHeld => ?_)
                           clear hK K
                           refine norm_ (a' := ?_) ?_ ?_
                           rotate_left
                           ·show Act.put _ (some 57) _ = _
                            simp only [Act.put, List.setIfInBounds_toArray, List.set_cons_zero, List.set_cons_succ, i64_w, i32_w]
                            rfl
                           exact norm_ q7_3 (hJ2_6_8_15 (v280, gb286) _ ⟨q7_6, q7_2, q7_5, GW286.out, GE286.out, NB262_286.out, NB286_262.out, q7_4⟩)
                         ·skip
                          rintro v280 w74 ⟨h0_, h1_, h2_⟩
                          have n0_ : Aside0 (Kd.R (Kd.int .u8) 5 w74 w.heap.size (fun _ => True) v280 y279) := ⟨h0_⟩
                          have n1_ : Aside0 (w74.heap[gb262]? = some (.cells #[.int .i64 0, .int .i64 0, .slice none 0 0] 52 (0, 0))) := ⟨h1_⟩
                          have n2_ : Aside0 (Below w.heap.size w w74) := ⟨h2_⟩
                          clear BK262
                          clear HB
                          clear h0_ h1_ h2_
                          have HO281 := n0_
                          have BK262 := n1_
                          have HB := n2_
                          clear n0_ n1_ n2_
                          have hHeld := trivial
                          refine norm_ (a' := ?_) ?_ ?_
                          rotate_left
                          ·simp only [putAll, Act.put, List.setIfInBounds_toArray, List.set_cons_zero, List.set_cons_succ]
                           rfl
                          refine two_ (i := 13) (j := 15) (Ni := some 62) (Nj := some 5) #[true, true, true, true, true, true, true, true, true, true, true, true, true, true, false, false, false] #[true, true, true, true, true, true, true, true, true, true, true, true, true, false, false, true, false] rfl rfl rfl rfl (two_of HT_.out q7_12) q7_14 q7_14 (fun K hK => ?_) (fun K hK => ?_)
                          ·skip
                           refine Kd.R_append_rows_step (Kd.int .u8) (w0 := w) w.heap.size (by rfl) (.tmp 57) (.tmp 61) 27 5 (.int .u8 0) 1 rfl Try.underlying27 info5 rfl q7_14 q7_16 v280 y279 ((l0.take ((ji36) : Int).toNat).drop 17) _ _ _ (fun _ => True) (fun _ => False) rfl rfl ?aO ?aR (fun _ _ h => h) (fun _ h => h.elim) ?aF ?aB ?aS ?aL ?_
                           (case aR => first | (rw [← show ((l0.take ((ji36) : Int).toNat).drop 17).length = ((ji36).toNat - 17) from (by rw [List.length_drop, List.length_take]; have h_ : ((ji36) : Int) <= (l0.length : Int) := of_decide_eq_true q7_8; omega)]; repeat (first | exact (Kd.C_below HR282.out HB.out) | (with_reducible refine Kd.C_alloc ?_ _) | (with_reducible refine Kd.C_drewN ?_ _) | (with_reducible refine Kd.C_drew ?_))) | (repeat (first | exact (Kd.C_below HR282.out HB.out) | (with_reducible refine Kd.C_alloc ?_ _) | (with_reducible refine Kd.C_drewN ?_ _) | (with_reducible refine Kd.C_drew ?_))))
                           (case aB => exact q7_1)
                           (case aF => exact (fun _ _ => trivial))
                           (case aO => exact q7_6)
                           (case aS => exact (below_size q7_1))
                           (case aL => have := LMc39.out; have hlx_ := (show ((l0.take ((ji36) : Int).toNat).drop 17).length = ((ji36).toNat - 17) from (by rw [List.length_drop, List.length_take]; have h_ : ((ji36) : Int) <= (l0.length : Int) := of_decide_eq_true q7_8; omega)); omega)
                           intro v284 w75 ho hb hg hat
                           rw [← Ny283.out] at ho
                           have n0_ := Aside0.mk (blk_grown (g := gb262) (o := .cells #[.int .i64 0, .int .i64 0, .slice none 0 0] 52 (0, 0)) q7_2 hg (Kd.R_ne HO281.out BK262.out q7_14))
                           have n1_ := Aside0.mk (hb)
                           have n2_ := Aside0.mk (ho)
                           clear BK262
                           clear HB
                           clear HO281
                           have BK262 := n0_
                           have HB := n1_
                           have HO285 := n2_
                           clear n0_ n1_ n2_
                           clear ho hb hg hat
                           obtain ⟨Ao76, co76, eo76⟩ := Kd.R_slice HO285.out
                           (first | subst eo76 | (injection eo76 with f1_ f2_ f3_; have f4_ := f1_.symm; have f5_ := f3_.symm; clear f1_ f2_ f3_; subst f4_; subst f5_))
                           refine hK.out _ _ trivial (fun hHeld => ?_)
                           clear hK K
                           refine norm_ (a' := ?_) ?_ ?_
                           rotate_left
                           ·show Act.put _ (some 62) _ = _
                            simp only [Act.put, List.setIfInBounds_toArray, List.set_cons_zero, List.set_cons_succ, i64_w, i32_w]
                            rfl
                           refine pure_ (i := 14) (N := some 63) (v := ?_) (a' := ?_) #[true, true, true, true, true, true, true, true, true, true, true, true, true, true, true, false, false] rfl rfl (any_of HT_.out q7_12) (fun _ _ _ h => h) (Or.inl ⟨by rfl, ?_⟩) ?_ ?_
                           rotate_left
                           ·intro w'
                            go_simp
                            with_reducible rfl
                           rotate_left
                           ·simp only [Act.put, List.setIfInBounds_toArray, List.set_cons_zero, List.set_cons_succ, i64_w, i32_w]
                            rfl
                           exact norm_ q7_3 (hJ2_6_8_13 (v280, .slice Ao76 y283.length co76) _ ⟨q7_13, q7_2, q7_1⟩)
                          ·skip
                           refine box_step ?hg (N := 5) ?hd (cs := #[.int .i64 0, .int .i64 0, .slice none 0 0]) (t := 52) ?hr ?_; (case hd => rfl); (case hg => rfl); (case hr => first | (go_simp; done) | (go_simp; rfl))
                           intro gb286 hg w75 hbox hb
                           have n0_ := Aside0.mk (Kd.R_below q7_6 hb)
                           have n1_ := Aside0.mk (blk_below (g := gb262) (o := .cells #[.int .i64 0, .int .i64 0, .slice none 0 0] 52 (0, 0)) q7_2 hb)
                           have n2_ := Aside0.mk (below_step q7_1 hb)
                           have n3_ := Aside0.mk (hbox)
                           have n4_ := Aside0.mk ((by rw [hg]; exact (below_size q7_1) : w.heap.size <= gb286))
                           have n5_ := Aside0.mk ((by rw [hg]; exact (below_size q7_1) : w.heap.size <= gb286))
                           have n6_ := Aside0.mk ((by rw [hg]; exact Nat.ne_of_lt (blk_lt (g := gb262) (o := .cells #[.int .i64 0, .int .i64 0, .slice none 0 0] 52 (0, 0)) q7_2) : gb262 ≠ gb286))
                           have n7_ := Aside0.mk ((by rw [hg]; exact Nat.ne_of_gt (blk_lt (g := gb262) (o := .cells #[.int .i64 0, .int .i64 0, .slice none 0 0] 52 (0, 0)) q7_2) : gb286 ≠ gb262))
                           clear HO281
                           clear BK262
                           clear HB
                           have HO281 := n0_
                           have BK262 := n1_
                           have HB := n2_
                           have BK286 := n3_
                           have GW286 := n4_
                           have GE286 := n5_
                           have NB262_286 := n6_
                           have NB286_262 := n7_
                           clear n0_ n1_ n2_ n3_ n4_ n5_ n6_ n7_
                           clear hb hbox hg
                           refine hK.out _ _ trivial (fun hHeld => ?_)
                           clear hK K
                           refine norm_ (a' := ?_) ?_ ?_
                           rotate_left
                           ·show Act.put _ (some 5) _ = _
                            simp only [Act.put, List.setIfInBounds_toArray, List.set_cons_zero, List.set_cons_succ, i64_w, i32_w]
                            rfl
                           exact norm_ q7_3 (hJ2_6_8_15 (v280, gb286) _ ⟨q7_6, q7_2, q7_5, GW286.out, GE286.out, NB262_286.out, NB286_262.out, q7_4⟩)
                        ·skip
                         rintro ⟨v280, gb286⟩ w75 ⟨h0_, h1_, h2_, h3_, h4_, h5_, h6_, h7_⟩
                         have n0_ : Aside0 (Kd.R (Kd.int .u8) 5 w75 w.heap.size (fun _ => True) v280 y279) := ⟨h0_⟩
                         have n1_ : Aside0 (w75.heap[gb262]? = some (.cells #[.int .i64 0, .int .i64 0, .slice none 0 0] 52 (0, 0))) := ⟨h1_⟩
                         have n2_ : Aside0 (w75.heap[gb286]? = some (.cells #[.int .i64 0, .int .i64 0, .slice none 0 0] 52 (0, 0))) := ⟨h2_⟩
                         have n3_ : Aside0 (w.heap.size <= gb286) := ⟨h3_⟩
                         have n4_ : Aside0 (w.heap.size <= gb286) := ⟨h4_⟩
                         have n5_ : Aside0 (gb262 ≠ gb286) := ⟨h5_⟩
                         have n6_ : Aside0 (gb286 ≠ gb262) := ⟨h6_⟩
                         have n7_ : Aside0 (Below w.heap.size w w75) := ⟨h7_⟩
                         clear BK262
                         clear HB
                         clear h0_ h1_ h2_ h3_ h4_ h5_ h6_ h7_
                         have HO281 := n0_
                         have BK262 := n1_
                         have BK286 := n2_
                         have GW286 := n3_
                         have GE286 := n4_
                         have NB262_286 := n5_
                         have NB286_262 := n6_
                         have HB := n7_
                         clear n0_ n1_ n2_ n3_ n4_ n5_ n6_ n7_
                         have hHeld := trivial
                         refine norm_ (a' := ?_) ?_ ?_
                         rotate_left
                         ·simp only [putAll, Act.put, List.setIfInBounds_toArray, List.set_cons_zero, List.set_cons_succ]
                          rfl
                         refine one_ (i := 13) (N := some 62) #[true, true, true, true, true, true, true, true, true, true, true, true, true, true, false, true, false] rfl rfl (one_of HT_.out q7_12) q7_14 (fun K hK => ?_)
                         refine Kd.R_append_rows_step (Kd.int .u8) (w0 := w) w.heap.size (by rfl) (.tmp 57) (.tmp 61) 27 5 (.int .u8 0) 1 rfl Try.underlying27 info5 rfl q7_14 q7_16 v280 y279 ((l0.take ((ji36) : Int).toNat).drop 17) _ _ _ (fun _ => True) (fun _ => False) rfl rfl ?aO ?aR (fun _ _ h => h) (fun _ h => h.elim) ?aF ?aB ?aS ?aL ?_
                         (case aR => first | (rw [← show ((l0.take ((ji36) : Int).toNat).drop 17).length = ((ji36).toNat - 17) from (by rw [List.length_drop, List.length_take]; have h_ : ((ji36) : Int) <= (l0.length : Int) := of_decide_eq_true q7_8; omega)]; repeat (first | exact (Kd.C_below HR282.out HB.out) | (with_reducible refine Kd.C_alloc ?_ _) | (with_reducible refine Kd.C_drewN ?_ _) | (with_reducible refine Kd.C_drew ?_))) | (repeat (first | exact (Kd.C_below HR282.out HB.out) | (with_reducible refine Kd.C_alloc ?_ _) | (with_reducible refine Kd.C_drewN ?_ _) | (with_reducible refine Kd.C_drew ?_))))
                         (case aB => exact q7_4)
                         (case aF => exact (fun _ _ => trivial))
                         (case aO => exact q7_6)
                         (case aS => exact (below_size q7_4))
                         (case aL => have := LMc39.out; have hlx_ := (show ((l0.take ((ji36) : Int).toNat).drop 17).length = ((ji36).toNat - 17) from (by rw [List.length_drop, List.length_take]; have h_ : ((ji36) : Int) <= (l0.length : Int) := of_decide_eq_true q7_8; omega)); omega)
                         intro v284 w76 ho hb hg hat
                         rw [← Ny283.out] at ho
                         have n0_ := Aside0.mk (blk_grown (g := gb262) (o := .cells #[.int .i64 0, .int .i64 0, .slice none 0 0] 52 (0, 0)) q7_2 hg (Kd.R_ne HO281.out BK262.out q7_14))
                         have n1_ := Aside0.mk (blk_grown (g := gb286) (o := .cells #[.int .i64 0, .int .i64 0, .slice none 0 0] 52 (0, 0)) q7_5 hg (Kd.R_ne HO281.out BK286.out q7_14))
                         have n2_ := Aside0.mk (hb)
                         have n3_ := Aside0.mk (ho)
                         clear BK262
                         clear BK286
                         clear HB
                         clear HO281
                         have BK262 := n0_
                         have BK286 := n1_
                         have HB := n2_
                         have HO285 := n3_
                         clear n0_ n1_ n2_ n3_
                         clear ho hb hg hat
                         obtain ⟨Ao77, co77, eo77⟩ := Kd.R_slice HO285.out
                         (first | subst eo77 | (injection eo77 with f1_ f2_ f3_; have f4_ := f1_.symm; have f5_ := f3_.symm; clear f1_ f2_ f3_; subst f4_; subst f5_))
                         refine hK.out _ _ trivial (fun hHeld => ?_)
                         clear hK K
                         refine norm_ (a' := ?_) ?_ ?_
                         rotate_left
                         ·show Act.put _ (some 62) _ = _
                          simp only [Act.put, List.setIfInBounds_toArray, List.set_cons_zero, List.set_cons_succ, i64_w, i32_w]
                          rfl
                         refine pure_ (i := 14) (N := some 63) (v := ?_) (a' := ?_) #[true, true, true, true, true, true, true, true, true, true, true, true, true, true, true, true, false] rfl rfl (any_of HT_.out q7_12) (fun _ _ _ h => h) (Or.inl ⟨by rfl, ?_⟩) ?_ ?_
                         rotate_left
                         ·intro w'
                          go_simp
                          with_reducible rfl
                         rotate_left
                         ·simp only [Act.put, List.setIfInBounds_toArray, List.set_cons_zero, List.set_cons_succ, i64_w, i32_w]
                          rfl
                         exact norm_ q7_3 (hJ2_6_8_13_15 (v280, .slice Ao77 y283.length co77, gb286) _ ⟨q7_13, q7_2, q7_5, GW286.out, GE286.out, NB262_286.out, NB286_262.out, q7_4⟩)
                       ·skip
                        rintro ⟨v280, v284⟩ w76 ⟨h0_, h1_, h2_⟩
                        have n0_ : Aside0 (Kd.R (Kd.int .u8) 5 w76 w.heap.size (fun _ => True) v284 y283) := ⟨h0_⟩
                        have n1_ : Aside0 (w76.heap[gb262]? = some (.cells #[.int .i64 0, .int .i64 0, .slice none 0 0] 52 (0, 0))) := ⟨h1_⟩
                        have n2_ : Aside0 (Below w.heap.size w w76) := ⟨h2_⟩
                        clear BK262
                        clear HB
                        clear h0_ h1_ h2_
                        have HO285 := n0_
                        have BK262 := n1_
                        have HB := n2_
                        clear n0_ n1_ n2_
                        have hHeld := trivial
                        obtain ⟨Ao77, co77, eo77⟩ := Kd.R_slice HO285.out
                        (first | subst eo77 | (injection eo77 with f1_ f2_ f3_; have f4_ := f1_.symm; have f5_ := f3_.symm; clear f1_ f2_ f3_; subst f4_; subst f5_))
                        refine norm_ (a' := ?_) ?_ ?_
                        rotate_left
                        ·simp only [putAll, Act.put, List.setIfInBounds_toArray, List.set_cons_zero, List.set_cons_succ]
                         rfl
                        refine one_ (i := 15) (N := some 5) #[true, true, true, true, true, true, true, true, true, true, true, true, true, true, true, true, false] rfl rfl (one_of HT_.out q7_12) q7_14 (fun K hK => ?_)
                        refine box_step ?hg (N := 5) ?hd (cs := #[.int .i64 0, .int .i64 0, .slice none 0 0]) (t := 52) ?hr ?_; (case hd => rfl); (case hg => rfl); (case hr => first | (go_simp; done) | (go_simp; rfl))
                        intro gb286 hg w78 hbox hb
                        have n0_ := Aside0.mk (Kd.R_below q7_13 hb)
                        have n1_ := Aside0.mk (blk_below (g := gb262) (o := .cells #[.int .i64 0, .int .i64 0, .slice none 0 0] 52 (0, 0)) q7_2 hb)
                        have n2_ := Aside0.mk (below_step q7_1 hb)
                        have n3_ := Aside0.mk (hbox)
                        have n4_ := Aside0.mk ((by rw [hg]; exact (below_size q7_1) : w.heap.size <= gb286))
                        have n5_ := Aside0.mk ((by rw [hg]; exact (below_size q7_1) : w.heap.size <= gb286))
                        have n6_ := Aside0.mk ((by rw [hg]; exact Nat.ne_of_lt (blk_lt (g := gb262) (o := .cells #[.int .i64 0, .int .i64 0, .slice none 0 0] 52 (0, 0)) q7_2) : gb262 ≠ gb286))
                        have n7_ := Aside0.mk ((by rw [hg]; exact Nat.ne_of_gt (blk_lt (g := gb262) (o := .cells #[.int .i64 0, .int .i64 0, .slice none 0 0] 52 (0, 0)) q7_2) : gb286 ≠ gb262))
                        clear HO285
                        clear BK262
                        clear HB
                        have HO285 := n0_
                        have BK262 := n1_
                        have HB := n2_
                        have BK286 := n3_
                        have GW286 := n4_
                        have GE286 := n5_
                        have NB262_286 := n6_
                        have NB286_262 := n7_
                        clear n0_ n1_ n2_ n3_ n4_ n5_ n6_ n7_
                        clear hb hbox hg
                        refine hK.out _ _ trivial (fun hHeld => ?_)
                        clear hK K
                        refine norm_ (a' := ?_) ?_ ?_
                        rotate_left
                        ·show Act.put _ (some 5) _ = _
                         simp only [Act.put, List.setIfInBounds_toArray, List.set_cons_zero, List.set_cons_succ, i64_w, i32_w]
                         rfl
                        exact norm_ q7_3 (hJ2_6_8_13_15 (v280, .slice Ao77 y283.length co77, gb286) _ ⟨q7_13, q7_2, q7_5, GW286.out, GE286.out, NB262_286.out, NB286_262.out, q7_4⟩)
                      rintro ⟨v280, v284, gb286⟩ w77 ⟨h0_, h1_, h2_, h3_, h4_, h5_, h6_, h7_⟩
                      have n0_ : Aside0 (Kd.R (Kd.int .u8) 5 w77 w.heap.size (fun _ => True) v284 y283) := ⟨h0_⟩
                      have n1_ : Aside0 (w77.heap[gb262]? = some (.cells #[.int .i64 0, .int .i64 0, .slice none 0 0] 52 (0, 0))) := ⟨h1_⟩
                      have n2_ : Aside0 (w77.heap[gb286]? = some (.cells #[.int .i64 0, .int .i64 0, .slice none 0 0] 52 (0, 0))) := ⟨h2_⟩
                      have n3_ : Aside0 (w.heap.size <= gb286) := ⟨h3_⟩
                      have n4_ : Aside0 (w.heap.size <= gb286) := ⟨h4_⟩
                      have n5_ : Aside0 (gb262 ≠ gb286) := ⟨h5_⟩
                      have n6_ : Aside0 (gb286 ≠ gb262) := ⟨h6_⟩
                      have n7_ : Aside0 (Below w.heap.size w w77) := ⟨h7_⟩
                      clear BK262
                      clear HB
                      clear h0_ h1_ h2_ h3_ h4_ h5_ h6_ h7_
                      have HO285 := n0_
                      have BK262 := n1_
                      have BK286 := n2_
                      have GW286 := n3_
                      have GE286 := n4_
                      have NB262_286 := n5_
                      have NB286_262 := n6_
                      have HB := n7_
                      clear n0_ n1_ n2_ n3_ n4_ n5_ n6_ n7_
                      have hHeld := trivial
                      obtain ⟨Ao78, co78, eo78⟩ := Kd.R_slice HO285.out
                      (first | subst eo78 | (injection eo78 with f1_ f2_ f3_; have f4_ := f1_.symm; have f5_ := f3_.symm; clear f1_ f2_ f3_; subst f4_; subst f5_))
                      refine norm_ (a' := ?_) ?_ ?_
                      rotate_left
                      ·simp only [putAll, Act.put, List.setIfInBounds_toArray, List.set_cons_zero, List.set_cons_succ]
                       rfl
                      refine one_ (i := 16) (N := none) #[true, true, true, true, true, true, true, true, true, true, true, true, true, true, true, true, true] rfl rfl (one_of HT_.out q7_12) q7_14 (fun K hK => ?_)
                      have hs79 : w77.cell? ⟨gb286, 0, none⟩ = some (.int .i64 0) := (blk_cell BK286.out 0).trans rfl
                      have hfs79 := blk_frozen BK286.out 0
                      have hns79_0 := NB262_286.out
                      have hms79_0 := NB286_262.out
                      have hs80 : w77.cell? ⟨gb286, 1, none⟩ = some (.int .i64 0) := (blk_cell BK286.out 1).trans rfl
                      have hfs80 := blk_frozen BK286.out 1
                      have hns80_0 := NB262_286.out
                      have hms80_0 := NB286_262.out
                      have hs81 : w77.cell? ⟨gb286, 2, none⟩ = some (.slice none 0 0) := (blk_cell BK286.out 2).trans rfl
                      have hfs81 := blk_frozen BK286.out 2
                      have hns81_0 := NB262_286.out
                      have hms81_0 := NB286_262.out
                      refine skip_ (w1 := ?_) (by rfl) rfl ?_ ?_
                      rotate_left
                      ·go_simp
                       rfl
                      refine hK.out _ _ trivial (fun hHeld => ?_)
                      clear hK K
                      refine done_ (done_of HT_.out q7_12) ?_
                      try go_wp2
                      have n0_ : Aside0 (Kd.R (Kd.int .u8) 5 (((w77.setCell ⟨gb286, 0, none⟩ (.int .i64 (wrap64 (t276)))).setCell ⟨gb286, 1, none⟩ (.int .i64 (wrap64 (t278)))).setCell ⟨gb286, 2, none⟩ (.slice Ao78 y283.length co78)) w.heap.size (fun _ => True) (.slice Ao78 y283.length co78) y283) := ⟨by (with_reducible repeat (first | apply Kd.R_alloc | apply Kd.R_drewN | apply Kd.R_drew)); exact Kd.R_mono (Kd.R_far (p := ⟨gb286, 2, none⟩) (Kd.R_far (p := ⟨gb286, 1, none⟩) (Kd.R_far (p := ⟨gb286, 0, none⟩) (Kd.R_types HO285.out BK286.out q7_14) (fun _ hk => hk.2) (.int .i64 (wrap64 (t276)))) (fun _ hk => hk.2) (.int .i64 (wrap64 (t278)))) (fun _ hk => hk.2) (.slice Ao78 y283.length co78)) (fun _ hk => trivial)⟩
                      have n1_ : Aside0 ((((w77.setCell ⟨gb286, 0, none⟩ (.int .i64 (wrap64 (t276)))).setCell ⟨gb286, 1, none⟩ (.int .i64 (wrap64 (t278)))).setCell ⟨gb286, 2, none⟩ (.slice Ao78 y283.length co78)).heap[gb262]? = some (.cells #[.int .i64 0, .int .i64 0, .slice none 0 0] 52 (0, 0))) := ⟨by (with_reducible repeat (first | refine blk_drewN ?_ _ | refine blk_drew ?_ | refine blk_alloc ?_ _)); refine blk_far ?_ NB262_286.out _; (with_reducible repeat (first | refine blk_drewN ?_ _ | refine blk_drew ?_ | refine blk_alloc ?_ _)); refine blk_far ?_ NB262_286.out _; (with_reducible repeat (first | refine blk_drewN ?_ _ | refine blk_drew ?_ | refine blk_alloc ?_ _)); refine blk_far ?_ NB262_286.out _; (with_reducible repeat (first | refine blk_drewN ?_ _ | refine blk_drew ?_ | refine blk_alloc ?_ _)); exact BK262.out⟩
                      have n2_ : Aside0 ((((w77.setCell ⟨gb286, 0, none⟩ (.int .i64 (wrap64 (t276)))).setCell ⟨gb286, 1, none⟩ (.int .i64 (wrap64 (t278)))).setCell ⟨gb286, 2, none⟩ (.slice Ao78 y283.length co78)).heap[gb286]? = some (.cells #[.int .i64 (wrap64 (t276)), .int .i64 (wrap64 (t278)), .slice Ao78 y283.length co78] 52 (0, 0))) := ⟨by (with_reducible repeat (first | refine blk_drewN ?_ _ | refine blk_drew ?_ | refine blk_alloc ?_ _)); refine blk_put (cs := #[.int .i64 (wrap64 (t276)), .int .i64 (wrap64 (t278)), .slice none 0 0]) ?_ 2 _ rfl; (with_reducible repeat (first | refine blk_drewN ?_ _ | refine blk_drew ?_ | refine blk_alloc ?_ _)); refine blk_put (cs := #[.int .i64 (wrap64 (t276)), .int .i64 0, .slice none 0 0]) ?_ 1 _ rfl; (with_reducible repeat (first | refine blk_drewN ?_ _ | refine blk_drew ?_ | refine blk_alloc ?_ _)); refine blk_put (cs := #[.int .i64 0, .int .i64 0, .slice none 0 0]) ?_ 0 _ rfl; (with_reducible repeat (first | refine blk_drewN ?_ _ | refine blk_drew ?_ | refine blk_alloc ?_ _)); exact BK286.out⟩
                      have n3_ : Aside0 (Below w.heap.size w (((w77.setCell ⟨gb286, 0, none⟩ (.int .i64 (wrap64 (t276)))).setCell ⟨gb286, 1, none⟩ (.int .i64 (wrap64 (t278)))).setCell ⟨gb286, 2, none⟩ (.slice Ao78 y283.length co78))) := ⟨by repeat (first | (with_reducible first | exact HB.out | apply below_alloc | apply pw_below_drewN | apply below_drew1 | refine below_set ?_ GE262.out | refine below_set ?_ GE286.out) | exact HB.out)⟩
                      (try clear HO285)
                      (try clear BK262)
                      (try clear BK286)
                      (try clear HB)
                      generalize (((w77.setCell ⟨gb286, 0, none⟩ (.int .i64 (wrap64 (t276)))).setCell ⟨gb286, 1, none⟩ (.int .i64 (wrap64 (t278)))).setCell ⟨gb286, 2, none⟩ (.slice Ao78 y283.length co78)) = w82 at n0_ n1_ n2_ n3_ ⊢
                      have HO285 := n0_
                      have BK262 := n1_
                      have BK286 := n2_
                      have HB := n3_
                      clear n0_ n1_ n2_ n3_
                      have n0_ := Aside0.mk (Kd.R_drew HO285.out)
                      have n1_ := Aside0.mk (blk_drew BK262.out)
                      have n2_ := Aside0.mk (blk_drew BK286.out)
                      have n3_ := Aside0.mk (below_drew1 HB.out)
                      clear HO285
                      clear BK262
                      clear BK286
                      clear HB
                      have HO285 := n0_
                      have BK262 := n1_
                      have BK286 := n2_
                      have HB := n3_
                      clear n0_ n1_ n2_ n3_
                      obtain ⟨i084, hi084, _, hsz84, _⟩ := info_parts info5
                      obtain ⟨hcut84, hA84, hC84⟩ := print_take_of (P := Try.prog) (Value.int .u8) 0 27 5 .i64 Try.underlying27 hi084 hsz84 (some ad263) c0 l0 255 q7_16 (of_decide_eq_true q7_8) HC0.out
                      have HR294 := Aside0.mk (Kd.C_of_reads (h1 := fun _ => rfl) (hA84 _ (Kd.reads_of_C HR0.out)))
                      have HC294 := Aside0.mk hC84
                      clear hA84 hC84 hi084 hsz84
                      refine start_ (n := 7) (S := fun w' => w'.cell? ⟨gb286, 0, none⟩ = some (.int .i64 (wrap64 (t276))) /\ w'.cell? ⟨gb286, 1, none⟩ = some (.int .i64 (wrap64 (t278))) /\ w'.cell? ⟨gb286, 2, none⟩ = some (.slice Ao78 y283.length co78)) (ds := []) #[false, false, false, false, false, false, false] q7_12 rfl rfl ⟨(blk_cell BK286.out 0).trans rfl, (blk_cell BK286.out 1).trans rfl, (blk_cell BK286.out 2).trans rfl⟩ (fun hHeld => ?_)
                      generalize w82.drew = w83 at HO285 BK262 BK286 HB HR294 hHeld ⊢
                      refine pure_ (i := 3) (N := some 67) (v := ?_) (a' := ?_) #[false, false, false, true, false, false, false] rfl rfl q7_12 (fun _ _ _ h => h) (Or.inl ⟨by rfl, ?_⟩) ?_ ?_
                      rotate_left
                      ·intro w'
                       go_simp
                       with_reducible rfl
                      rotate_left
                      ·simp only [Act.put, List.setIfInBounds_toArray, List.set_cons_zero, List.set_cons_succ, i64_w, i32_w]
                       rfl
                      refine pure_ (i := 4) (N := some 68) (v := ?_) (a' := ?_) #[false, false, false, true, true, false, false] rfl rfl q7_12 (fun _ _ _ h => h) (Or.inl ⟨by rfl, ?_⟩) ?_ ?_
                      rotate_left
                      ·intro w'
                       go_simp
                       with_reducible rfl
                      rotate_left
                      ·simp only [Act.put, List.setIfInBounds_toArray, List.set_cons_zero, List.set_cons_succ, i64_w, i32_w]
                       rfl
                      refine take_ (i := 0) (N := some 64) (v := ?_) (a' := ?_) #[true, false, false, true, true, false, false] rfl rfl q7_12 (fun _ _ _ h => h) (Or.inl ⟨by rfl, ?_⟩) hHeld ?_ ?_
                      rotate_left
                      ·rintro w' ⟨s0, s1, s2⟩
                       go_simp
                       with_reducible rfl
                      rotate_left
                      ·simp only [Act.put, List.setIfInBounds_toArray, List.set_cons_zero, List.set_cons_succ, i64_w, i32_w]
                       rfl
                      refine one_ (i := 1) (N := some 65) #[true, true, false, true, true, false, false] rfl rfl q7_12 q7_14 (fun K hK => ?_)
                      refine goes_ Try.func34 q7_12 rfl #[.agg #[.int .i64 (wrap64 (t276)), .int .i64 (wrap64 (t278)), .slice Ao78 y283.length co78]] (by rfl) rfl rfl (by (try simp only [List.map_toArray, List.map_cons, List.map_nil]); first | done | rfl | (simp only [List.length_drop, List.length_take]; rfl)) ?_
                      with_reducible refine (batonref22_Make.calls kj15 (wrap64 (t276)) (wrap64 (t278)) _ _ y283 t287 _ ?side1 ?side2 A40.out).mono ?_
                      (case side1 => repeat (first | exact (Kd.R_reads' HO285.out).2.2 | (with_reducible refine Kd.C_alloc ?_ _) | (with_reducible refine Kd.C_drewN ?_ _) | (with_reducible refine Kd.C_drew ?_)))
                      (case side2 => exact (Kd.R_reads' HO285.out).2.1)
                      rintro e w85 ⟨v288, rfl, ho0, hb⟩
                      refine ⟨_, rfl, ?_⟩
                      have n0_ := Aside0.mk (Kd.R_elder' q7_13 (Kd.R_base ho0) hb)
                      have n1_ := Aside0.mk (Kd.R_lower (Kd.R_new' ho0 (Kd.R_lt q7_13)) (below_size q7_4))
                      have n2_ := Aside0.mk (blk_below (g := gb262) (o := .cells #[.int .i64 0, .int .i64 0, .slice none 0 0] 52 (0, 0)) q7_2 hb)
                      have n3_ := Aside0.mk (blk_below (g := gb286) (o := .cells #[.int .i64 (wrap64 (t276)), .int .i64 (wrap64 (t278)), .slice Ao78 y283.length co78] 52 (0, 0)) q7_5 hb)
                      have n4_ := Aside0.mk (below_step q7_4 hb)
                      clear HO285
                      clear BK262
                      clear BK286
                      clear HB
                      have HO285 := n0_
                      have HO289 := n1_
                      have BK262 := n2_
                      have BK286 := n3_
                      have HB := n4_
                      clear n0_ n1_ n2_ n3_ n4_
                      (try clear hb)
                      (try clear hb2)
                      (try clear hk)
                      (try clear hi)
                      (try clear ho0)
                      obtain ⟨Ao87, co87, eo87⟩ := Kd.R_slice HO289.out
                      (first | subst eo87 | (injection eo87 with f1_ f2_ f3_; have f4_ := f1_.symm; have f5_ := f3_.symm; clear f1_ f2_ f3_; subst f4_; subst f5_))
                      have q86 : (255 : Int) <= ((t287.length : Int) : Int) := of_decide_eq_true q7_8
                      obtain ⟨i086, hi086, _, hsz86, _⟩ := info_parts info5
                      have hroom86 : t287.length <= co87 := (Kd.R_reads' HO289.out).2.1
                      have hC86 : Kd.C (Kd.int .u8) _ Ao87 t287.length t287 := (Kd.R_reads' HO289.out).2.2
                      have hcut86 := fun kh_ => cut_to (P := Try.prog) 27 5 kh_ Try.underlying27 hi086 Ao87 t287.length co87 255 q7_16 q86 hroom86
                      have hr86 := Kd.C_take (m := 255) hC86 q7_16
                      have hy86 : y290.length = (255 : Int).toNat := (by rw [Ny290.out, List.length_take]; omega)
                      rw [← Ny290.out] at hr86
                      rw [← hy86] at hcut86
                      have HR293 := Aside0.mk hr86
                      have HC293 := Aside0.mk (show y290.length <= co87 from by omega)
                      clear hr86 hC86 hroom86 hi086 hsz86
                      have KY86 := Aside0.mk hy86
                      clear hy86
                      have KL86 := Aside0.mk (show 255 <= t287.length from by omega)
                      replace q86 := eq_true q86
                      refine hK.out _ _ ⟨(blk_cell BK286.out 0).trans rfl, (blk_cell BK286.out 1).trans rfl, (blk_cell BK286.out 2).trans rfl⟩ (fun hHeld => ?_)
                      clear hK K
                      refine norm_ (a' := ?_) ?_ ?_
                      rotate_left
                      ·show Act.put _ (some 65) _ = _
                       simp only [Act.put, List.setIfInBounds_toArray, List.set_cons_zero, List.set_cons_succ, i64_w, i32_w]
                       rfl
                      refine pure_ (i := 2) (N := some 66) (v := ?_) (a' := ?_) #[true, true, true, true, true, false, false] rfl rfl q7_12 (fun _ _ _ h => h) (Or.inl ⟨by rfl, ?_⟩) ?_ ?_
                      rotate_left
                      ·intro w'
                       go_simp
                       with_reducible rfl
                      rotate_left
                      ·simp only [Act.put, List.setIfInBounds_toArray, List.set_cons_zero, List.set_cons_succ, i64_w, i32_w]
                       rfl
                      refine one_ (i := 5) (N := some 69) #[true, true, true, true, true, true, false] rfl rfl q7_12 q7_14 (fun K hK => ?_)
                      refine goes_ Try.func20 q7_12 rfl #[.slice Ao87 y290.length co87, .slice (some ad263) (l0.take 255).length c0] (by rfl) rfl rfl q7_17 ?_
                      with_reducible refine (batonref01_Same.calls kj15 _ _ y290 _ _ (l0.take 255) false _ ?side1 ?side2 ?side3 ?side4 A43.out).mono ?_
                      (case side1 => repeat (first | exact q7_20 | (with_reducible refine Kd.C_alloc ?_ _) | (with_reducible refine Kd.C_drewN ?_ _) | (with_reducible refine Kd.C_drew ?_)))
                      (case side2 => exact HC293.out)
                      (case side3 => repeat (first | exact (Kd.C_below HR294.out HB.out) | (with_reducible refine Kd.C_alloc ?_ _) | (with_reducible refine Kd.C_drewN ?_ _) | (with_reducible refine Kd.C_drew ?_)))
                      (case side4 => exact HC294.out)
                      rintro e w' ⟨rfl, ⟨nd, rfl⟩⟩
                      refine ⟨_, rfl, ?_⟩
                      refine hK.out _ _ ⟨(blk_cell BK286.out 0).trans rfl, (blk_cell BK286.out 1).trans rfl, (blk_cell BK286.out 2).trans rfl⟩ (fun hHeld => ?_)
                      clear hK K
                      refine norm_ (a' := ?_) ?_ ?_
                      rotate_left
                      ·show Act.put _ (some 69) _ = _
                       simp only [Act.put, List.setIfInBounds_toArray, List.set_cons_zero, List.set_cons_succ, i64_w, i32_w]
                       rfl
                      refine pure_ (i := 6) (N := some 70) (v := ?_) (a' := ?_) #[true, true, true, true, true, true, true] rfl rfl q7_12 (fun _ _ _ h => h) (Or.inl ⟨by rfl, ?_⟩) ?_ ?_
                      rotate_left
                      ·intro w'
                       go_simp
                       with_reducible rfl
                      rotate_left
                      ·simp only [Act.put, List.setIfInBounds_toArray, List.set_cons_zero, List.set_cons_succ, i64_w, i32_w]
                       rfl
                      refine done_ q7_12 ?_
                      have hnb88 := NB262_286.out
                      have hnc88 := NB286_262.out
                      have hcz89_0 : w85.cell? ⟨gb262, 0, none⟩ = some (.int .i64 0) := (blk_cell BK262.out 0).trans rfl
                      have hcz89_1 : w85.cell? ⟨gb262, 1, none⟩ = some (.int .i64 0) := (blk_cell BK262.out 1).trans rfl
                      have hcz89_2 : w85.cell? ⟨gb262, 2, none⟩ = some (.slice none 0 0) := (blk_cell BK262.out 2).trans rfl
                      have hfz89_0 := blk_frozen BK262.out 0
                      have hfz89_1 := blk_frozen BK262.out 1
                      have hfz89_2 := blk_frozen BK262.out 2
                      try go_wp2
                      refine bodyPost_ret (results_ct rfl _ _ gb262 52 #[.int .i64 0, .int .i64 0, .slice none 0 0] (0, 0) _ rfl q7_7 Try.underlying52 rfl q7_12) rfl ?_
                      exact ⟨_, by first | rfl | (simp [errW_none, errW_some] <;> rfl) | (simp only [← hji36]; first | rfl | (simp [errW_none, errW_some] <;> rfl)) | (simp [*, errW_none, errW_some] <;> rfl), by first | exact Kd.R_nil _ _ _ _ _ | exact Kd.N_nil _ _ _ _ _ | exact Kd.V_nil _ _ _ _ _ | exact Kd.Q_nil _ _ _ _ _ | exact Kd.S_nil _ _ _ _ _, by repeat (first | (with_reducible first | exact HB.out | apply below_alloc | apply pw_below_drewN | apply below_drew1 | refine below_set ?_ GE262.out | refine below_set ?_ GE286.out) | exact HB.out)⟩
                    ·rw [if_neg c42] at H
                     exact absurd H (by simp)
                   ·rw [if_neg c41] at H
                    exact absurd H (by simp)
                  ·rw [if_neg c39] at H
                   exact absurd H (by simp)
                 ·rw [if_neg c38] at H
                  exact absurd H (by simp)
                ·rw [if_neg c37] at H
                 exact absurd H (by simp)
               ·rw [if_neg c34] at H
                exact absurd H (by simp)
              ·rw [if_neg c33] at H
               exact absurd H (by simp)
             ·rw [if_neg c31] at H
              exact absurd H (by simp)
            ·rw [if_neg c30] at H
             exact absurd H (by simp)
        ·replace c15 := Bool.eq_false_iff.mpr c15
         subst c15
         have H1 : (some (0, 0, ([] : List Int), 21)) = some (r1, r2, r3, r4) := by rw [if_neg (show ¬ (false = true) by decide)] at H; exact H
         clear H
         have H := H1
         clear H1
         simp only [Option.some.injEq, Prod.mk.injEq] at H
         obtain ⟨rfl, rfl, rfl, rfl⟩ := H
         go_enter Try.func35, Try.ntmps35
         try go_wp2_with (first | ((with_reducible refine gate_dst (N := 2) rfl ?_); refine box_event ?hg (N := 2) ?hd (cs := #[.int .i64 0, .int .i64 0, .slice none 0 0]) (t := 52) ?hr ?_; (case hd => rfl); (case hg => rfl); (case hr => first | (go_simp; done) | (go_simp; rfl)); intro gb262 hg w90 hbox hb; have n0_ := Aside0.mk (below_step q7_11 hb); have n1_ := Aside0.mk (hbox); have n2_ := Aside0.mk ((by rw [hg]; exact (below_size q7_11) : w.heap.size <= gb262)); have n3_ := Aside0.mk ((by rw [hg]; exact (below_size q7_11) : w.heap.size <= gb262)); clear HB; have HB := n0_; have BK262 := n1_; have GW262 := n2_; have GE262 := n3_; clear n0_ n1_ n2_ n3_; clear hb hbox hg; have p263 : 0 <= (255 : Int) := q7_16; have q263 : 255 < (l0.length : Int) := of_decide_eq_true q7_8; obtain ⟨ad263, e263, hx263_0⟩ := Kd.at_int HR0.out 255 p263 q263; cases e263; (try simp only [show (255 : Int).toNat = 255 from rfl, Nat.reduceMul, Nat.reduceEqDiff, Go.Addr.add, ↓reduceIte] at hx263_0); have qi263 : (255 < l0.length) = True := eq_true q7_16; (try rw [show ((255 : Int)).toNat = 255 from rfl] at hx263_0); replace hx263_0 := (HB.out.cell (World.block_lt_of_cell? w _ hx263_0)).trans hx263_0; replace p263 := eq_true p263; replace q263 := eq_true q263; have p264 : 0 <= (255 : Int) := q7_16; have q264 : 255 < (l0.length : Int) := of_decide_eq_true q7_8; obtain ⟨ad264, e264, hx264_0⟩ := Kd.at_int HR0.out 255 p264 q264; obtain rfl : ad263 = ad264 := (by injection e264); (try simp only [show (255 : Int).toNat = 255 from rfl, Nat.reduceMul, Nat.reduceEqDiff, Go.Addr.add, ↓reduceIte] at hx264_0); have qi264 : (255 < l0.length) = True := eq_true q7_16; (try rw [show ((255 : Int)).toNat = 255 from rfl] at hx264_0); replace hx264_0 := (HB.out.cell (World.block_lt_of_cell? w _ hx264_0)).trans hx264_0; replace p264 := eq_true p264; replace q264 := eq_true q264))
         have n0_ := Aside0.mk (blk_drew BK262.out)
         have n1_ := Aside0.mk (below_drew1 HB.out)
         clear BK262
         clear HB
         have BK262 := n0_
         have HB := n1_
         clear n0_ n1_
         obtain ⟨i092, hi092, _, hsz92, _⟩ := info_parts info5
         obtain ⟨hcut92, hA92, hC92⟩ := print_take_of (P := Try.prog) (Value.int .u8) 0 27 5 .i64 Try.underlying27 hi092 hsz92 (some ad263) c0 l0 251 q7_16 (of_decide_eq_true q7_8) HC0.out
         have HR265 := Aside0.mk (Kd.C_of_reads (h1 := fun _ => rfl) (hA92 _ (Kd.reads_of_C HR0.out)))
         have HC265 := Aside0.mk hC92
         clear hA92 hC92 hi092 hsz92
         obtain ⟨i093, hi093, _, hsz93, _⟩ := info_parts info5
         obtain ⟨A93, hcut93, hA93, hC93⟩ := print_mid_of (P := Try.prog) (Value.int .u8) 0 27 5 .i64 .i64 Try.underlying27 hi093 hsz93 (some ad263) c0 l0 251 255 q7_16 q7_19 (of_decide_eq_true q7_8) HC0.out
         have HR269 := Aside0.mk (Kd.C_of_reads (h1 := fun _ => rfl) (hA93 _ (Kd.reads_of_C HR0.out)))
         have HC269 := Aside0.mk hC93
         clear hA93 hC93 hi093 hsz93
         refine start_ (n := 7) (S := fun w' => True) (ds := []) #[false, false, false, false, false, false, false] q7_12 rfl rfl trivial (fun hHeld => ?_)
         generalize w90.drew = w91 at BK262 HB HR265 HR269 hHeld ⊢
         refine pure_ (i := 0) (N := some 20) (v := ?_) (a' := ?_) #[true, false, false, false, false, false, false] rfl rfl q7_12 (fun _ _ _ h => h) (Or.inl ⟨by rfl, ?_⟩) ?_ ?_
         rotate_left
         ·intro w'
          go_simp
          with_reducible rfl
         rotate_left
         ·simp only [Act.put, List.setIfInBounds_toArray, List.set_cons_zero, List.set_cons_succ, i64_w, i32_w]
          rfl
         refine pure_ (i := 1) (N := some 21) (v := ?_) (a' := ?_) #[true, true, false, false, false, false, false] rfl rfl q7_12 (fun _ _ _ h => h) (Or.inl ⟨by rfl, ?_⟩) ?_ ?_
         rotate_left
         ·intro w'
          go_simp
          with_reducible rfl
         rotate_left
         ·simp only [Act.put, List.setIfInBounds_toArray, List.set_cons_zero, List.set_cons_succ, i64_w, i32_w]
          rfl
         refine pure_ (i := 3) (N := some 23) (v := ?_) (a' := ?_) #[true, true, false, true, false, false, false] rfl rfl q7_12 (fun _ _ _ h => h) (Or.inl ⟨by rfl, ?_⟩) ?_ ?_
         rotate_left
         ·intro w'
          go_simp
          with_reducible rfl
         rotate_left
         ·simp only [Act.put, List.setIfInBounds_toArray, List.set_cons_zero, List.set_cons_succ, i64_w, i32_w]
          rfl
         refine pure_ (i := 4) (N := some 24) (v := ?_) (a' := ?_) #[true, true, false, true, true, false, false] rfl rfl q7_12 (fun _ _ _ h => h) (Or.inl ⟨by rfl, ?_⟩) ?_ ?_
         rotate_left
         ·intro w'
          go_simp
          with_reducible rfl
         rotate_left
         ·simp only [Act.put, List.setIfInBounds_toArray, List.set_cons_zero, List.set_cons_succ, i64_w, i32_w]
          rfl
         refine one_ (i := 2) (N := some 22) #[true, true, true, true, true, false, false] rfl rfl q7_12 q7_14 (fun K hK => ?_)
         refine goes_ Try.func47 q7_12 rfl #[.slice (some ad263) (l0.take 251).length c0] (by rfl) rfl rfl q7_18 ?_
         with_reducible refine (batonref22_Sum.calls k _ _ (l0.take 251) t266 _ ?side1 ?side2 A11.out).mono ?_
         (case side1 => repeat (first | exact (Kd.C_below HR265.out HB.out) | (with_reducible refine Kd.C_alloc ?_ _) | (with_reducible refine Kd.C_drewN ?_ _) | (with_reducible refine Kd.C_drew ?_)))
         (case side2 => exact HC265.out)
         rintro e w94 ⟨v267, rfl, ho0, hb⟩
         refine ⟨_, rfl, ?_⟩
         have n0_ := Aside0.mk (Kd.R_lower ho0 (below_size q7_1))
         have n1_ := Aside0.mk (blk_below (g := gb262) (o := .cells #[.int .i64 0, .int .i64 0, .slice none 0 0] 52 (0, 0)) q7_2 hb)
         have n2_ := Aside0.mk (below_step q7_1 hb)
         clear BK262
         clear HB
         have HO268 := n0_
         have BK262 := n1_
         have HB := n2_
         clear n0_ n1_ n2_
         (try clear hb)
         (try clear hb2)
         (try clear hk)
         (try clear hi)
         (try clear ho0)
         obtain ⟨Ao95, co95, eo95⟩ := Kd.R_slice HO268.out
         (first | subst eo95 | (injection eo95 with f1_ f2_ f3_; have f4_ := f1_.symm; have f5_ := f3_.symm; clear f1_ f2_ f3_; subst f4_; subst f5_))
         refine hK.out _ _ trivial (fun hHeld => ?_)
         clear hK K
         refine norm_ (a' := ?_) ?_ ?_
         rotate_left
         ·show Act.put _ (some 22) _ = _
          simp only [Act.put, List.setIfInBounds_toArray, List.set_cons_zero, List.set_cons_succ, i64_w, i32_w]
          rfl
         refine one_ (i := 5) (N := some 25) #[true, true, true, true, true, true, false] rfl rfl q7_12 q7_14 (fun K hK => ?_)
         refine goes_ Try.func20 q7_12 rfl #[.slice Ao95 t266.length co95, .slice A93 ((l0.take 255).drop 251).length (c0 - 251)] (by rfl) rfl rfl q7_15 ?_
         with_reducible refine (batonref01_Same.calls k _ _ t266 _ _ ((l0.take 255).drop 251) false _ ?side1 ?side2 ?side3 ?side4 A14.out).mono ?_
         (case side1 => repeat (first | exact (Kd.R_reads' HO268.out).2.2 | (with_reducible refine Kd.C_alloc ?_ _) | (with_reducible refine Kd.C_drewN ?_ _) | (with_reducible refine Kd.C_drew ?_)))
         (case side2 => exact (Kd.R_reads' HO268.out).2.1)
         (case side3 => repeat (first | exact (Kd.C_below HR269.out HB.out) | (with_reducible refine Kd.C_alloc ?_ _) | (with_reducible refine Kd.C_drewN ?_ _) | (with_reducible refine Kd.C_drew ?_)))
         (case side4 => exact HC269.out)
         rintro e w' ⟨rfl, ⟨nd, rfl⟩⟩
         refine ⟨_, rfl, ?_⟩
         refine hK.out _ _ trivial (fun hHeld => ?_)
         clear hK K
         refine norm_ (a' := ?_) ?_ ?_
         rotate_left
         ·show Act.put _ (some 25) _ = _
          simp only [Act.put, List.setIfInBounds_toArray, List.set_cons_zero, List.set_cons_succ, i64_w, i32_w]
          rfl
         refine pure_ (i := 6) (N := some 26) (v := ?_) (a' := ?_) #[true, true, true, true, true, true, true] rfl rfl q7_12 (fun _ _ _ h => h) (Or.inl ⟨by rfl, ?_⟩) ?_ ?_
         rotate_left
         ·intro w'
          go_simp
          with_reducible rfl
         rotate_left
         ·simp only [Act.put, List.setIfInBounds_toArray, List.set_cons_zero, List.set_cons_succ, i64_w, i32_w]
          rfl
         refine done_ q7_12 ?_
         have hcz96_0 : w94.cell? ⟨gb262, 0, none⟩ = some (.int .i64 0) := (blk_cell BK262.out 0).trans rfl
         have hcz96_1 : w94.cell? ⟨gb262, 1, none⟩ = some (.int .i64 0) := (blk_cell BK262.out 1).trans rfl
         have hcz96_2 : w94.cell? ⟨gb262, 2, none⟩ = some (.slice none 0 0) := (blk_cell BK262.out 2).trans rfl
         have hfz96_0 := blk_frozen BK262.out 0
         have hfz96_1 := blk_frozen BK262.out 1
         have hfz96_2 := blk_frozen BK262.out 2
         try go_wp2
         refine bodyPost_ret (results_ct rfl _ _ gb262 52 #[.int .i64 0, .int .i64 0, .slice none 0 0] (0, 0) _ rfl q7_7 Try.underlying52 rfl q7_12) rfl ?_
         exact ⟨_, by first | rfl | (simp [errW_none, errW_some] <;> rfl) | (simp [*, errW_none, errW_some] <;> rfl), by first | exact Kd.R_nil _ _ _ _ _ | exact Kd.N_nil _ _ _ _ _ | exact Kd.V_nil _ _ _ _ _ | exact Kd.Q_nil _ _ _ _ _ | exact Kd.S_nil _ _ _ _ _, by repeat (first | (with_reducible first | exact HB.out | apply below_alloc | apply pw_below_drewN | apply below_drew1 | refine below_set ?_ GE262.out) | exact HB.out)⟩
       ·rw [if_neg c13] at H
        exact absurd H (by simp)
      ·rw [if_neg c12] at H
       exact absurd H (by simp)
     ·rw [if_neg c10] at H
      exact absurd H (by simp)
  ·rw [if_neg c3] at H
   exact absurd H (by simp)
 ·rw [if_neg c2] at H
  have c2b0 : ((l0.length : Int) == 256) = false := beq_eq_false_iff_ne.mpr c2
  have c2b1 : ((l0.length : Int) != 256) = true := bne_iff_ne.mpr c2
  simp only [Option.some.injEq, Prod.mk.injEq] at H
  obtain ⟨rfl, rfl, rfl, rfl⟩ := H
  go_enter Try.func35, Try.ntmps35
  go_wp2_with (first | ((with_reducible refine gate_dst (N := 2) rfl ?_); refine box_event ?hg (N := 2) ?hd (cs := #[.int .i64 0, .int .i64 0, .slice none 0 0]) (t := 52) ?hr ?_; (case hd => rfl); (case hg => rfl); (case hr => first | (go_simp; done) | (go_simp; rfl)); intro gb262 hg w97 hbox hb; have n0_ := Aside0.mk (below_step q7_11 hb); have n1_ := Aside0.mk (hbox); have n2_ := Aside0.mk ((by rw [hg]; exact (below_size q7_11) : w.heap.size <= gb262)); have n3_ := Aside0.mk ((by rw [hg]; exact (below_size q7_11) : w.heap.size <= gb262)); clear HB; have HB := n0_; have BK262 := n1_; have GW262 := n2_; have GE262 := n3_; clear n0_ n1_ n2_ n3_; clear hb hbox hg; have hcz98_0 : w97.cell? ⟨gb262, 0, none⟩ = some (.int .i64 0) := (blk_cell BK262.out 0).trans rfl; have hcz98_1 : w97.cell? ⟨gb262, 1, none⟩ = some (.int .i64 0) := (blk_cell BK262.out 1).trans rfl; have hcz98_2 : w97.cell? ⟨gb262, 2, none⟩ = some (.slice none 0 0) := (blk_cell BK262.out 2).trans rfl; have hfz98_0 := blk_frozen BK262.out 0; have hfz98_1 := blk_frozen BK262.out 1; have hfz98_2 := blk_frozen BK262.out 2))
  refine bodyPost_ret (results_ct rfl _ _ gb262 52 #[.int .i64 0, .int .i64 0, .slice none 0 0] (0, 0) _ rfl q7_7 Try.underlying52 rfl q7_12) rfl ?_
  exact ⟨_, by first | rfl | (simp [errW_none, errW_some] <;> rfl) | (simp [*, errW_none, errW_some] <;> rfl), by first | exact Kd.R_nil _ _ _ _ _ | exact Kd.N_nil _ _ _ _ _ | exact Kd.V_nil _ _ _ _ _ | exact Kd.Q_nil _ _ _ _ _ | exact Kd.S_nil _ _ _ _ _, by repeat (first | (with_reducible first | exact HB.out | apply below_alloc | apply pw_below_drewN | apply below_drew1 | refine below_set ?_ GE262.out) | exact HB.out)⟩

end Go.Proofs.Ytaiiegbhbadciaa.PF22R
