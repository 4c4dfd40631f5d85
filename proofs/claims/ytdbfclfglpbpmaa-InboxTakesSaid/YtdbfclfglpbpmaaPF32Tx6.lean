/- By a program of this session (wip/tool/pp.py): plain Lean functions of the Go functions that this family of laws uses, the walks that the Go code comes to their answers, and the row of the law. No condition beside those that the row itself gives. -/
import Derived.Test.YtdbfclfglpbpmaaPF32Tx0
import Derived.Test.YtdbfclfglpbpmaaPF32Tx5
namespace Go.Proofs.Ytdbfclfglpbpmaa.PF32T
open Go.RowKit Go.Proofs.YtdbfclfglpbpmaaW.Hand Go.Proofs.YtdbfclfglpbpmaaW.PrintWords Go.Proofs.YtdbfclfglpbpmaaW.PrintLast Go.Proofs.YtdbfclfglpbpmaaW.PrintMore
attribute [local go_sem] max2_int min2_int max_two min_two max_three min_three max_four min_four   -- for this text's walks alone
set_option linter.unusedVariables false
set_option linter.unusedSimpArgs false

/-! ### batonref32_Take: function 41 -/
mutual
def batonref32_Take.j0 : Nat → Int → List Int → Int → Bool → Int → List (S144) → Option (Int × (List (S144)) × List Int × Int)
 | 0, _, _, _, _, _, _ => none
 | k + 1, x1, x2, x3, x34, x171000, x171001 => if x34 = true then (some (x171000, x171001, ([] : List Int), 16)) else (if (x2.length : Int) > 0 then (batonref32_Take.j1 k x1 x2 x3 (decide ((wrap64 ((wrap64 (x1 + (x2.length : Int))) - 1)) ≥ (wrap64 (x171000 + 64)))) x171000 x171001) else (batonref32_Take.j1 k x1 x2 x3 false x171000 x171001))
def batonref32_Take.j1 : Nat → Int → List Int → Int → Bool → Int → List (S144) → Option (Int × (List (S144)) × List Int × Int)
 | 0, _, _, _, _, _, _ => none
 | k + 1, x1, x2, x3, x49, x171000, x171001 => if x49 = true then (some (x171000, x171001, ([] : List Int), 2)) else ((some (([] : List (S144)) : List (S144))).bind fun y172 => (if y172.length + x171001.length < 8796093022208 then (batonref32_Take.l0 k x1 x2 x3 (y172 ++ x171001) 0 x171000 x171001) else (none)))
def batonref32_Take.l0 : Nat → Int → List Int → Int → List (S144) → Int → Int → List (S144) → Option (Int × (List (S144)) × List Int × Int)
 | 0, _, _, _, _, _, _, _ => none
 | k + 1, x1, x2, x3, x11, x12, x171000, x171001 => if x12 < (x2.length : Int) then ((batonref32_find.f k x11 (wrap64 (x1 + x12))).bind fun bt178 => (if bt178.2 = true then (batonref32_Take.l0 k x1 x2 x3 x11 (wrap64 (x12 + 1)) x171000 x171001) else (if (wrap64 (x1 + x12)) ≥ x171000 then (if 0 ≤ x12 then (if x11.length < 8796093022208 then (batonref32_Take.l0 k x1 x2 x3 (x11 ++ [(⟨wrap64 (x1 + x12), rd x2 x12⟩ : S144)]) (wrap64 (x12 + 1)) x171000 x171001) else (none)) else (none)) else (batonref32_Take.l0 k x1 x2 x3 x11 (wrap64 (x12 + 1)) x171000 x171001)))) else (batonref32_Take.l1 k x3 x11 ([] : List Int) x171000 x171001 x171000)
def batonref32_Take.l1 : Nat → Int → List (S144) → List Int → Int → List (S144) → Int → Option (Int × (List (S144)) × List Int × Int)
 | 0, _, _, _, _, _, _ => none
 | k + 1, x3, x11, x16, x171000, x171001, x185000 => (batonref32_find.f k x11 x185000).bind fun bt185 => (if bt185.2 = true then (if x16.length < 140737488355328 then (batonref32_Take.l1 k x3 x11 (x16 ++ [bt185.1]) x171000 x171001 (wrap64 (x185000 + 1))) else (none)) else (if (x16.length : Int) > x3 then (some (x171000, x171001, ([] : List Int), 2)) else (batonref32_Take.l2 k x11 x16 x185000 x185000 ([] : List (S144)))))
def batonref32_Take.l2 : Nat → List (S144) → List Int → Int → Int → List (S144) → Option (Int × (List (S144)) × List Int × Int)
 | 0, _, _, _, _, _ => none
 | k + 1, x11, x16, x19, x185000, x185001 => if x19 < (wrap64 (x185000 + 64)) then ((batonref32_find.f k x11 x19).bind fun bt190 => (if bt190.2 = true then (if x185001.length < 8796093022208 then (batonref32_Take.l2 k x11 x16 (wrap64 (x19 + 1)) x185000 (x185001 ++ [(⟨x19, bt190.1⟩ : S144)])) else (none)) else (batonref32_Take.l2 k x11 x16 (wrap64 (x19 + 1)) x185000 x185001))) else (some (x185000, x185001, x16, 0))
end
def batonref32_Take.f (k : Nat) (a0_0 : Int) (l0_1 : List (S144)) (a1 : Int) (l2 : List Int) (a3 : Int) : Option (Int × (List (S144)) × List Int × Int) := if a1 < 0 then (some (a0_0, l0_1, ([] : List Int), 1)) else (if (l2.length : Int) > 281474976710656 then (batonref32_Take.j0 k a1 l2 a3 true a0_0 l0_1) else (batonref32_Take.j0 k a1 l2 a3 (decide (a1 > (wrap64 (281474976710656 - (l2.length : Int))))) a0_0 l0_1))
theorem batonref32_Take.mono_l : ∀ k, (∀ y0 y1 y2 y3 y4 y5, LeO (batonref32_Take.j0 k y0 y1 y2 y3 y4 y5) (batonref32_Take.j0 (k + 1) y0 y1 y2 y3 y4 y5)) ∧ (∀ y0 y1 y2 y3 y4 y5, LeO (batonref32_Take.j1 k y0 y1 y2 y3 y4 y5) (batonref32_Take.j1 (k + 1) y0 y1 y2 y3 y4 y5)) ∧ (∀ y0 y1 y2 y3 y4 y5 y6, LeO (batonref32_Take.l0 k y0 y1 y2 y3 y4 y5 y6) (batonref32_Take.l0 (k + 1) y0 y1 y2 y3 y4 y5 y6)) ∧ (∀ y0 y1 y2 y3 y4 y5, LeO (batonref32_Take.l1 k y0 y1 y2 y3 y4 y5) (batonref32_Take.l1 (k + 1) y0 y1 y2 y3 y4 y5)) ∧ (∀ y0 y1 y2 y3 y4, LeO (batonref32_Take.l2 k y0 y1 y2 y3 y4) (batonref32_Take.l2 (k + 1) y0 y1 y2 y3 y4))
 | 0 => ⟨fun _ _ _ _ _ _ r h => by simp [batonref32_Take.j0] at h, fun _ _ _ _ _ _ r h => by simp [batonref32_Take.j1] at h, fun _ _ _ _ _ _ _ r h => by simp [batonref32_Take.l0] at h, fun _ _ _ _ _ _ r h => by simp [batonref32_Take.l1] at h, fun _ _ _ _ _ r h => by simp [batonref32_Take.l2] at h⟩
 | k + 1 => by
  obtain ⟨ih0, ih1, ih2, ih3, ih4⟩ := batonref32_Take.mono_l k
  refine ⟨?_, ?_, ?_, ?_, ?_⟩
  ·intro y0 y1 y2 y3 y4 y5
   unfold batonref32_Take.j0
   repeat' first
   | (with_reducible exact ih0 _ _ _ _ _ _)
   | (with_reducible exact ih1 _ _ _ _ _ _)
   | (with_reducible exact ih2 _ _ _ _ _ _ _)
   | (with_reducible exact ih3 _ _ _ _ _ _)
   | (with_reducible exact ih4 _ _ _ _ _)
   | (with_reducible exact batonref32_find.mono _ _ _)
   | (with_reducible exact LeO.refl _)
   | (with_reducible exact LeO.none _)
   | (with_reducible refine LeO.ite ?_ ?_)
   | (with_reducible refine LeO.bind ?_ (fun _ => ?_))
   | exact ih0 _ _ _ _ _ _
   | exact ih1 _ _ _ _ _ _
   | exact ih2 _ _ _ _ _ _ _
   | exact ih3 _ _ _ _ _ _
   | exact ih4 _ _ _ _ _
   | exact batonref32_find.mono _ _ _
   | exact LeO.none _
   | refine LeO.ite ?_ ?_
   | refine LeO.bind ?_ (fun _ => ?_)
  ·intro y0 y1 y2 y3 y4 y5
   unfold batonref32_Take.j1
   repeat' first
   | (with_reducible exact ih0 _ _ _ _ _ _)
   | (with_reducible exact ih1 _ _ _ _ _ _)
   | (with_reducible exact ih2 _ _ _ _ _ _ _)
   | (with_reducible exact ih3 _ _ _ _ _ _)
   | (with_reducible exact ih4 _ _ _ _ _)
   | (with_reducible exact batonref32_find.mono _ _ _)
   | (with_reducible exact LeO.refl _)
   | (with_reducible exact LeO.none _)
   | (with_reducible refine LeO.ite ?_ ?_)
   | (with_reducible refine LeO.bind ?_ (fun _ => ?_))
   | exact ih0 _ _ _ _ _ _
   | exact ih1 _ _ _ _ _ _
   | exact ih2 _ _ _ _ _ _ _
   | exact ih3 _ _ _ _ _ _
   | exact ih4 _ _ _ _ _
   | exact batonref32_find.mono _ _ _
   | exact LeO.none _
   | refine LeO.ite ?_ ?_
   | refine LeO.bind ?_ (fun _ => ?_)
  ·intro y0 y1 y2 y3 y4 y5 y6
   unfold batonref32_Take.l0
   repeat' first
   | (with_reducible exact ih0 _ _ _ _ _ _)
   | (with_reducible exact ih1 _ _ _ _ _ _)
   | (with_reducible exact ih2 _ _ _ _ _ _ _)
   | (with_reducible exact ih3 _ _ _ _ _ _)
   | (with_reducible exact ih4 _ _ _ _ _)
   | (with_reducible exact batonref32_find.mono _ _ _)
   | (with_reducible exact LeO.refl _)
   | (with_reducible exact LeO.none _)
   | (with_reducible refine LeO.ite ?_ ?_)
   | (with_reducible refine LeO.bind ?_ (fun _ => ?_))
   | exact ih0 _ _ _ _ _ _
   | exact ih1 _ _ _ _ _ _
   | exact ih2 _ _ _ _ _ _ _
   | exact ih3 _ _ _ _ _ _
   | exact ih4 _ _ _ _ _
   | exact batonref32_find.mono _ _ _
   | exact LeO.none _
   | refine LeO.ite ?_ ?_
   | refine LeO.bind ?_ (fun _ => ?_)
  ·intro y0 y1 y2 y3 y4 y5
   unfold batonref32_Take.l1
   repeat' first
   | (with_reducible exact ih0 _ _ _ _ _ _)
   | (with_reducible exact ih1 _ _ _ _ _ _)
   | (with_reducible exact ih2 _ _ _ _ _ _ _)
   | (with_reducible exact ih3 _ _ _ _ _ _)
   | (with_reducible exact ih4 _ _ _ _ _)
   | (with_reducible exact batonref32_find.mono _ _ _)
   | (with_reducible exact LeO.refl _)
   | (with_reducible exact LeO.none _)
   | (with_reducible refine LeO.ite ?_ ?_)
   | (with_reducible refine LeO.bind ?_ (fun _ => ?_))
   | exact ih0 _ _ _ _ _ _
   | exact ih1 _ _ _ _ _ _
   | exact ih2 _ _ _ _ _ _ _
   | exact ih3 _ _ _ _ _ _
   | exact ih4 _ _ _ _ _
   | exact batonref32_find.mono _ _ _
   | exact LeO.none _
   | refine LeO.ite ?_ ?_
   | refine LeO.bind ?_ (fun _ => ?_)
  ·intro y0 y1 y2 y3 y4
   unfold batonref32_Take.l2
   repeat' first
   | (with_reducible exact ih0 _ _ _ _ _ _)
   | (with_reducible exact ih1 _ _ _ _ _ _)
   | (with_reducible exact ih2 _ _ _ _ _ _ _)
   | (with_reducible exact ih3 _ _ _ _ _ _)
   | (with_reducible exact ih4 _ _ _ _ _)
   | (with_reducible exact batonref32_find.mono _ _ _)
   | (with_reducible exact LeO.refl _)
   | (with_reducible exact LeO.none _)
   | (with_reducible refine LeO.ite ?_ ?_)
   | (with_reducible refine LeO.bind ?_ (fun _ => ?_))
   | exact ih0 _ _ _ _ _ _
   | exact ih1 _ _ _ _ _ _
   | exact ih2 _ _ _ _ _ _ _
   | exact ih3 _ _ _ _ _ _
   | exact ih4 _ _ _ _ _
   | exact batonref32_find.mono _ _ _
   | exact LeO.none _
   | refine LeO.ite ?_ ?_
   | refine LeO.bind ?_ (fun _ => ?_)
theorem batonref32_Take.mono : ∀ a0 a1 a2 a3 a4 k, LeO (batonref32_Take.f k a0 a1 a2 a3 a4) (batonref32_Take.f (k + 1) a0 a1 a2 a3 a4) := by
 intro a0 a1 a2 a3 a4 k
 obtain ⟨ih0, ih1, ih2, ih3, ih4⟩ := batonref32_Take.mono_l k
 unfold batonref32_Take.f
 repeat' first
   | (with_reducible exact ih0 _ _ _ _ _ _)
   | (with_reducible exact ih1 _ _ _ _ _ _)
   | (with_reducible exact ih2 _ _ _ _ _ _ _)
   | (with_reducible exact ih3 _ _ _ _ _ _)
   | (with_reducible exact ih4 _ _ _ _ _)
   | (with_reducible exact batonref32_find.mono _ _ _)
   | (with_reducible exact LeO.refl _)
   | (with_reducible exact LeO.none _)
   | (with_reducible refine LeO.ite ?_ ?_)
   | (with_reducible refine LeO.bind ?_ (fun _ => ?_))
   | exact ih0 _ _ _ _ _ _
   | exact ih1 _ _ _ _ _ _
   | exact ih2 _ _ _ _ _ _ _
   | exact ih3 _ _ _ _ _ _
   | exact ih4 _ _ _ _ _
   | exact batonref32_find.mono _ _ _
   | exact LeO.none _
   | refine LeO.ite ?_ ?_
   | refine LeO.bind ?_ (fun _ => ?_)
theorem q6_1 {p : Prop} (h : p := by repeat (first | (with_reducible first | exact HB.out | apply below_alloc | apply pw_below_drewN | apply below_drew1 | refine below_set ?_ GE170.out | refine below_set ?_ GE171.out | refine below_set ?_ GE184.out) | exact HB.out)) : p := h
theorem q6_2 {p : Prop} (h : p := by repeat (first | (with_reducible first | exact HB.out | apply below_alloc | apply pw_below_drewN | apply below_drew1 | refine below_set ?_ GE170.out | refine below_set ?_ GE171.out) | exact HB.out)) : p := h
theorem q6_3 {p : Prop} (h : p := by (with_reducible repeat (first | refine blk_drewN ?_ _ | refine blk_drew ?_ | refine blk_alloc ?_ _)); exact BK170.out) : p := h
theorem q6_4 {p : Prop} (h : p := by (with_reducible repeat (first | refine blk_drewN ?_ _ | refine blk_drew ?_ | refine blk_alloc ?_ _)); exact BK171.out) : p := h
theorem q6_5 {p : Prop} (h : p := by rw [hw]; exact (by (with_reducible repeat (first | refine blk_drewN ?_ _ | refine blk_drew ?_ | refine blk_alloc ?_ _)); refine blk_far ?_ NB170_171.out _; (with_reducible repeat (first | refine blk_drewN ?_ _ | refine blk_drew ?_ | refine blk_alloc ?_ _)); refine blk_far ?_ NB170_171.out _; (with_reducible repeat (first | refine blk_drewN ?_ _ | refine blk_drew ?_ | refine blk_alloc ?_ _)); exact BK170.out)) : p := h
theorem q6_6 {p : Prop} (h : p := by rw [hw]; exact (by (with_reducible repeat (first | refine blk_drewN ?_ _ | refine blk_drew ?_ | refine blk_alloc ?_ _)); refine blk_put (cs := #[.int .i64 a0_0, .slice none 0 0]) ?_ 1 _ rfl; (with_reducible repeat (first | refine blk_drewN ?_ _ | refine blk_drew ?_ | refine blk_alloc ?_ _)); refine blk_put (cs := #[.int .i64 0, .slice none 0 0]) ?_ 0 _ rfl; (with_reducible repeat (first | refine blk_drewN ?_ _ | refine blk_drew ?_ | refine blk_alloc ?_ _)); exact BK171.out)) : p := h
theorem q6_7 {p : Prop} (h : p := by (try simp only [List.map_toArray, List.map_cons, List.map_nil]); first | done | rfl | (simp only [List.length_drop, List.length_take]; rfl)) : p := h
theorem q6_8 {p : Prop} (h : p := by repeat (first | (with_reducible first | exact HB.out | apply below_alloc | apply pw_below_drewN | apply below_drew1 | refine below_set ?_ GE170.out) | exact HB.out)) : p := h
theorem q6_9 {p : Prop} (h : p := by (with_reducible repeat (first | apply Kd.R_alloc | apply Kd.R_drewN | apply Kd.R_drew)); exact HO_11.out) : p := h
theorem q6_10 {p : Prop} (h : p := by repeat (first | (with_reducible first | exact HB.out | apply below_alloc | apply pw_below_drewN | apply below_drew1) | exact HB.out)) : p := h
theorem q6_11 {p : Prop} (h : p := by (with_reducible repeat (first | apply Kd.V_alloc | apply Kd.V_drewN | apply Kd.V_drew)); exact HO_171001.out) : p := h
theorem q6_12 {p : Prop} (h : p := by (with_reducible repeat (first | apply Kd.R_alloc | apply Kd.R_drewN | apply Kd.R_drew)); exact HO_16.out) : p := h
theorem q6_13 {p : Prop} (h : p := by (with_reducible repeat (first | refine blk_drewN ?_ _ | refine blk_drew ?_ | refine blk_alloc ?_ _)); exact BK184.out) : p := h
theorem q6_14 {p : Prop} (h : p := by first | rfl | (simp; done) | (simp [*]; done)) : p := h
theorem q6_15 {p : Prop} (h : p := by rw [hw]; exact (by (with_reducible repeat (first | apply Kd.V_alloc | apply Kd.V_drewN | apply Kd.V_drew)); exact Kd.V_mono (Kd.V_far (p := ⟨gb171, 1, none⟩) (Kd.V_far (p := ⟨gb171, 0, none⟩) (Kd.V_mono HO_171001.out (fun k_ hk => (⟨hk, hk.2.2⟩ : _ ∧ k_ ≠ gb171))) (fun _ hk => hk.2) (.int .i64 a0_0)) (fun _ hk => hk.2) (.slice A0_1 l0_1.length c0_1)) (fun _ hk => ⟨hk.1.1, ⟨hk.1.2.1, hk.1.2.2⟩⟩))) : p := h
theorem q6_16 {p : Prop} (h : p := by rw [hw]; exact (by (with_reducible repeat (first | refine blk_drewN ?_ _ | refine blk_drew ?_ | refine blk_alloc ?_ _)); refine blk_far ?_ NB184_171.out _; (with_reducible repeat (first | refine blk_drewN ?_ _ | refine blk_drew ?_ | refine blk_alloc ?_ _)); refine blk_far ?_ NB184_171.out _; (with_reducible repeat (first | refine blk_drewN ?_ _ | refine blk_drew ?_ | refine blk_alloc ?_ _)); exact BK184.out)) : p := h
theorem q6_17 {p : Prop} (h : p := by (with_reducible repeat (first | apply Kd.V_alloc | apply Kd.V_drewN | apply Kd.V_drew)); exact HO0_1.out) : p := h
theorem q6_18 {p : Prop} (h : p := by rw [hw]; exact (by (with_reducible repeat (first | refine blk_drewN ?_ _ | refine blk_drew ?_ | refine blk_alloc ?_ _)); refine blk_far ?_ NB171_184.out _; (with_reducible repeat (first | refine blk_drewN ?_ _ | refine blk_drew ?_ | refine blk_alloc ?_ _)); exact BK171.out)) : p := h
theorem q6_19 {p : Prop} (h : p := by rw [hw]; exact (by (with_reducible repeat (first | refine blk_drewN ?_ _ | refine blk_drew ?_ | refine blk_alloc ?_ _)); refine blk_far ?_ NB170_184.out _; (with_reducible repeat (first | refine blk_drewN ?_ _ | refine blk_drew ?_ | refine blk_alloc ?_ _)); exact BK170.out)) : p := h
theorem q6_20 {p : Prop} (h : p := by (with_reducible repeat (first | apply Kd.R_alloc | apply Kd.R_drewN | apply Kd.R_drew)); exact HO_185001.out) : p := h
theorem q6_21 {p : Prop} (h : p := by decide) : p := h
set_option maxHeartbeats 8000000 in
set_option maxRecDepth 100000 in
theorem batonref32_Take.calls (k : Nat) (a0_0 : Int) (P0_1_ : Nat → Prop) (A0_1 : Option Addr) (c0_1 : Nat) (l0_1 : List (S144)) (a1 : Int) (A2 : Option Addr) (c2 : Nat) (l2 : List Int) (a3 : Int) (r1 : Int) (r2 : List (S144)) (r3 : List Int) (r4 : Int) (w : World) (hs0_1 : Kd.V k144 144 w w.heap.size (fun k_ => P0_1_ k_) (.slice A0_1 l0_1.length c0_1) l0_1) (hr2 : Kd.C (Kd.int .u8) w A2 l2.length l2) (hc2 : l2.length ≤ c2) (h : batonref32_Take.f k a0_0 l0_1 a1 l2 a3 = some (r1, r2, r3, r4)) :
  Calls Try.prog 41 #[.agg #[.int .i64 a0_0, .slice A0_1 l0_1.length c0_1], .int .i64 a1, .slice A2 l2.length c2, .int .i64 a3] w fun e w' => ∃ v1_ v2_ : Value, e = .returned (.tuple #[.agg #[.int .i64 r1, v1_], v2_, .int .i64 r4]) ∧ Kd.V k144 144 w' w.heap.size (fun k_ => (P0_1_ k_ ∨ w.heap.size ≤ k_) ∧ some k_ ≠ (v2_ : Value).ownBlock) v1_ r2 ∧ Kd.R (Kd.int .u8) 5 w' w.heap.size (fun k_ => (w.heap.size ≤ k_)) v2_ r3 ∧ Below w.heap.size w w' := by
 have hu77 := Try.underlying77
 have hu144 := Try.underlying144
 have HO0_1 := Aside0.mk (show Kd.V k144 144 w w.heap.size (fun k_ => (P0_1_ k_ ∨ w.heap.size ≤ k_)) (.slice A0_1 l0_1.length c0_1) l0_1 from Kd.V_mono hs0_1 (fun k_ hk => .inl hk))
 have HR2 := Aside0.mk hr2
 have HC2 := Aside0.mk hc2
 clear hr2 hc2
 have HB := Aside0.mk (Below.refl w.heap.size w)
 have H : (if a1 < 0 then (some (a0_0, l0_1, ([] : List Int), 1)) else (if (l2.length : Int) > 281474976710656 then (batonref32_Take.j0 k a1 l2 a3 true a0_0 l0_1) else (batonref32_Take.j0 k a1 l2 a3 (decide (a1 > (wrap64 (281474976710656 - (l2.length : Int))))) a0_0 l0_1))) = some (r1, r2, r3, r4) := h
 clear h
 by_cases c5 : a1 < 0
 ·rw [if_pos c5] at H
  have c5b0 : decide (a1 < 0) = true := decide_eq_true c5
  clear c5
  simp only [Option.some.injEq, Prod.mk.injEq] at H
  obtain ⟨rfl, rfl, rfl, rfl⟩ := H
  go_enter Try.func41, Try.ntmps41
  go_wp2_with (first | ((with_reducible refine gate_dst (N := 4) rfl ?_); (try (refine gate_guard (by rfl) ?_; dsimp only)); refine box_event ?hg (N := 4) ?hd (cs := #[.int .i64 a0_0, .slice A0_1 l0_1.length c0_1]) (t := 77) ?hr ?_; (case hd => rfl); (case hg => rfl); (case hr => first | (go_simp; done) | (go_simp; rfl)); intro gb170 hg w6 hbox hb; have n0_ := Aside0.mk (Kd.V_below (Kd.V_elderB q6_17 gb170 (Nat.le_of_eq hg.symm)) hb); have n1_ := Aside0.mk (below_step q6_10 hb); have n2_ := Aside0.mk (hbox); have n3_ := Aside0.mk ((by rw [hg]; exact (below_size q6_10) : w.heap.size ≤ gb170)); have n4_ := Aside0.mk ((by rw [hg]; exact (below_size q6_10) : w.heap.size ≤ gb170)); clear HO0_1 HB; have HO0_1 := n0_; have HB := n1_; have BK170 := n2_; have GW170 := n3_; have GE170 := n4_; clear n0_ n1_ n2_ n3_ n4_; clear hb hbox hg) | ((with_reducible refine gate_dst (N := 8) rfl ?_); (try (refine gate_guard (by rfl) ?_; dsimp only)); refine box_event ?hg (N := 8) ?hd (cs := #[.int .i64 0, .slice none 0 0]) (t := 77) ?hr ?_; (case hd => rfl); (case hg => rfl); (case hr => first | (go_simp; done) | (go_simp; rfl)); intro gb171 hg w7 hbox hb; have n0_ := Aside0.mk (Kd.V_below (Kd.V_elderB q6_17 gb171 (Nat.le_of_eq hg.symm)) hb); have n1_ := Aside0.mk (blk_below (g := gb170) (o := .cells #[.int .i64 a0_0, .slice A0_1 l0_1.length c0_1] 77 (0, 0)) q6_3 hb); have n2_ := Aside0.mk (below_step q6_8 hb); have n3_ := Aside0.mk (hbox); have n4_ := Aside0.mk ((by rw [hg]; exact (below_size q6_8) : w.heap.size ≤ gb171)); have n5_ := Aside0.mk ((by rw [hg]; exact (below_size q6_8) : w.heap.size ≤ gb171)); have n6_ := Aside0.mk ((by rw [hg]; exact Nat.ne_of_lt (blk_lt (g := gb170) (o := .cells #[.int .i64 a0_0, .slice A0_1 l0_1.length c0_1] 77 (0, 0)) q6_3) : gb170 ≠ gb171)); have n7_ := Aside0.mk ((by rw [hg]; exact Nat.ne_of_gt (blk_lt (g := gb170) (o := .cells #[.int .i64 a0_0, .slice A0_1 l0_1.length c0_1] 77 (0, 0)) q6_3) : gb171 ≠ gb170)); clear HO0_1 BK170 HB; have HO0_1 := n0_; have BK170 := n1_; have HB := n2_; have BK171 := n3_; have GW171 := n4_; have GE171 := n5_; have NB170_171 := n6_; have NB171_170 := n7_; clear n0_ n1_ n2_ n3_ n4_ n5_ n6_ n7_; clear hb hbox hg; have hnb8 := NB170_171.out; have hnc8 := NB171_170.out; have hcz9_0 : w7.cell? ⟨gb170, 0, none⟩ = some (.int .i64 a0_0) := (blk_cell BK170.out 0).trans rfl; have hcz9_1 : w7.cell? ⟨gb170, 1, none⟩ = some (.slice A0_1 l0_1.length c0_1) := (blk_cell BK170.out 1).trans rfl; have hfz9_0 := blk_frozen BK170.out 0; have hfz9_1 := blk_frozen BK170.out 1; have hcz10_0 : w7.cell? ⟨gb171, 0, none⟩ = some (.int .i64 0) := (blk_cell BK171.out 0).trans rfl; have hcz10_1 : w7.cell? ⟨gb171, 1, none⟩ = some (.slice none 0 0) := (blk_cell BK171.out 1).trans rfl; have hfz10_0 := blk_frozen BK171.out 0; have hfz10_1 := blk_frozen BK171.out 1) | ((with_reducible refine gate_store (t := 77) (p := 8) rfl ?_); refine store_event (t := 77) (p := 8) (v := ?vo_w11) (w1 := ((w7.setCell ⟨gb171, 0, none⟩ (.int .i64 a0_0)).setCell ⟨gb171, 1, none⟩ (.slice A0_1 l0_1.length c0_1))) ?hg ?ho ?hn ?hr ?_; (case ho => rfl); (case hg => rfl); (case hn => rfl); (case hr => first | (go_simp; done) | (go_simp; rfl)); intro w11 hw; have n0_ : Aside0 (Kd.V k144 144 w11 w.heap.size (fun k_ => (P0_1_ k_ ∨ w.heap.size ≤ k_) ∧ k_ ≠ gb170 ∧ k_ ≠ gb171) (.slice A0_1 l0_1.length c0_1) l0_1) := ⟨(by rw [hw]; exact (by (with_reducible repeat (first | apply Kd.V_alloc | apply Kd.V_drewN | apply Kd.V_drew)); exact Kd.V_mono (Kd.V_far (p := ⟨gb171, 1, none⟩) (Kd.V_far (p := ⟨gb171, 0, none⟩) (Kd.V_mono HO0_1.out (fun k_ hk => (⟨hk, hk.2⟩ : _ ∧ k_ ≠ gb171))) (fun _ hk => hk.2) (.int .i64 a0_0)) (fun _ hk => hk.2) (.slice A0_1 l0_1.length c0_1)) (fun _ hk => ⟨hk.1.1.1, ⟨hk.1.1.2, hk.1.2⟩⟩)))⟩; have n1_ : Aside0 (w11.heap[gb170]? = some (.cells #[.int .i64 a0_0, .slice A0_1 l0_1.length c0_1] 77 (0, 0))) := ⟨q6_5⟩; have n2_ : Aside0 (w11.heap[gb171]? = some (.cells #[.int .i64 a0_0, .slice A0_1 l0_1.length c0_1] 77 (0, 0))) := ⟨q6_6⟩; have n3_ : Aside0 (Below w.heap.size w w11) := ⟨(by rw [hw]; exact q6_2)⟩; clear hw HO0_1 BK170 BK171 HB; have HO0_1 := n0_; have BK170 := n1_; have BK171 := n2_; have HB := n3_; clear n0_ n1_ n2_ n3_))
  refine bodyPost_ret (results_ctt rfl _ _ gb171 77 #[.int .i64 a0_0, .slice A0_1 l0_1.length c0_1] (0, 0) _ rfl q6_4 Try.underlying77 rfl (by kernel_rfl)) rfl ?_
  exact ⟨_, _, by first | rfl | (simp [errW_none, errW_some] <;> rfl) | (simp [*, errW_none, errW_some] <;> rfl), by (with_reducible repeat (first | apply Kd.V_alloc | apply Kd.V_drewN | apply Kd.V_drew)); exact Kd.V_mono HO0_1.out (fun _ hk => ⟨hk.1, (by simp [Value.ownBlock])⟩), by first | exact Kd.R_nil _ _ _ _ _ | exact Kd.N_nil _ _ _ _ _ | exact Kd.V_nil _ _ _ _ _ | exact Kd.Q_nil _ _ _ _ _ | exact Kd.S_nil _ _ _ _ _, by repeat (first | (with_reducible first | exact HB.out | apply below_alloc | apply pw_below_drewN | apply below_drew1 | refine below_set ?_ GE170.out | refine below_set ?_ GE171.out) | exact HB.out)⟩
 ·rw [if_neg c5] at H
  have c5b0 : decide (a1 < 0) = false := decide_eq_false c5
  clear c5
  have HC12 := Aside0.mk H
  clear H
  go_enter Try.func41, Try.ntmps41
  go_upto_region 3 with (first | ((with_reducible refine gate_dst (N := 4) rfl ?_); (try (refine gate_guard (by rfl) ?_; dsimp only)); refine box_event ?hg (N := 4) ?hd (cs := #[.int .i64 a0_0, .slice A0_1 l0_1.length c0_1]) (t := 77) ?hr ?_; (case hd => rfl); (case hg => rfl); (case hr => first | (go_simp; done) | (go_simp; rfl)); intro gb170 hg w13 hbox hb; have n0_ := Aside0.mk (Kd.V_below (Kd.V_elderB q6_17 gb170 (Nat.le_of_eq hg.symm)) hb); have n1_ := Aside0.mk (below_step q6_10 hb); have n2_ := Aside0.mk (hbox); have n3_ := Aside0.mk ((by rw [hg]; exact (below_size q6_10) : w.heap.size ≤ gb170)); have n4_ := Aside0.mk ((by rw [hg]; exact (below_size q6_10) : w.heap.size ≤ gb170)); clear HO0_1 HB; have HO0_1 := n0_; have HB := n1_; have BK170 := n2_; have GW170 := n3_; have GE170 := n4_; clear n0_ n1_ n2_ n3_ n4_; clear hb hbox hg) | ((with_reducible refine gate_dst (N := 8) rfl ?_); (try (refine gate_guard (by rfl) ?_; dsimp only)); refine box_event ?hg (N := 8) ?hd (cs := #[.int .i64 0, .slice none 0 0]) (t := 77) ?hr ?_; (case hd => rfl); (case hg => rfl); (case hr => first | (go_simp; done) | (go_simp; rfl)); intro gb171 hg w14 hbox hb; have n0_ := Aside0.mk (Kd.V_below (Kd.V_elderB q6_17 gb171 (Nat.le_of_eq hg.symm)) hb); have n1_ := Aside0.mk (blk_below (g := gb170) (o := .cells #[.int .i64 a0_0, .slice A0_1 l0_1.length c0_1] 77 (0, 0)) q6_3 hb); have n2_ := Aside0.mk (below_step q6_8 hb); have n3_ := Aside0.mk (hbox); have n4_ := Aside0.mk ((by rw [hg]; exact (below_size q6_8) : w.heap.size ≤ gb171)); have n5_ := Aside0.mk ((by rw [hg]; exact (below_size q6_8) : w.heap.size ≤ gb171)); have n6_ := Aside0.mk ((by rw [hg]; exact Nat.ne_of_lt (blk_lt (g := gb170) (o := .cells #[.int .i64 a0_0, .slice A0_1 l0_1.length c0_1] 77 (0, 0)) q6_3) : gb170 ≠ gb171)); have n7_ := Aside0.mk ((by rw [hg]; exact Nat.ne_of_gt (blk_lt (g := gb170) (o := .cells #[.int .i64 a0_0, .slice A0_1 l0_1.length c0_1] 77 (0, 0)) q6_3) : gb171 ≠ gb170)); clear HO0_1 BK170 HB; have HO0_1 := n0_; have BK170 := n1_; have HB := n2_; have BK171 := n3_; have GW171 := n4_; have GE171 := n5_; have NB170_171 := n6_; have NB171_170 := n7_; clear n0_ n1_ n2_ n3_ n4_ n5_ n6_ n7_; clear hb hbox hg))
  (try simp only [Act.put, List.setIfInBounds_toArray, List.set_cons_zero, List.set_cons_succ])
  go_cut [34] (fun v34 wc => ∃ (kq : Nat) (x34_11 : Bool), v34 = .bool x34_11 ∧ Aside0 (batonref32_Take.j0 kq a1 l2 a3 x34_11 a0_0 l0_1 = some (r1, r2, r3, r4)) ∧ Aside0 (kq ≤ k) ∧ Aside0 (Kd.V k144 144 wc w.heap.size (fun k_ => (P0_1_ k_ ∨ w.heap.size ≤ k_) ∧ k_ ≠ gb170 ∧ k_ ≠ gb171) (.slice A0_1 l0_1.length c0_1) l0_1) ∧ Aside0 (wc.heap[gb170]? = some (.cells #[.int .i64 a0_0, (.slice A0_1 l0_1.length c0_1)] 77 (0, 0))) ∧ Aside0 (wc.heap[gb171]? = some (.cells #[.int .i64 0, (.slice none 0 0)] 77 (0, 0))) ∧ Aside0 (Below w.heap.size w wc))
  case first =>
   have H := HC12.out
   clear HC12
   by_cases c15 : (l2.length : Int) > 281474976710656
   ·rw [if_pos c15] at H
    have c15b0 : decide (281474976710656 < (l2.length : Int)) = true := decide_eq_true c15
    have c15b1 : decide (281474976710656 < l2.length) = true := decide_eq_true (by omega)
    clear c15
    (first | rw [c15b0] | (simp only [i64_w, i32_w]; rw [c15b0]) | rw [c15b1] | rw [c15b2] | skip)
    have H' := Aside0.mk H
    clear H
    go_wp2
    go_meet
    case rel => exact ⟨_, (true), q6_14, H', ⟨by first | omega | exact Nat.le_refl _⟩, ⟨by (with_reducible repeat (first | apply Kd.V_alloc | apply Kd.V_drewN | apply Kd.V_drew)); exact Kd.V_mono HO0_1.out (fun _ hk => ⟨hk.1.1, ⟨hk.1.2, hk.2⟩⟩)⟩, ⟨by (with_reducible repeat (first | refine blk_drewN ?_ _ | refine blk_drew ?_ | refine blk_alloc ?_ _)); exact BK170.out⟩, ⟨by (with_reducible repeat (first | refine blk_drewN ?_ _ | refine blk_drew ?_ | refine blk_alloc ?_ _)); exact BK171.out⟩, ⟨by repeat (first | (with_reducible first | exact HB.out | apply below_alloc | apply pw_below_drewN | apply below_drew1 | refine below_set ?_ GE170.out | refine below_set ?_ GE171.out) | exact HB.out)⟩⟩
   ·rw [if_neg c15] at H
    have c15b0 : decide (281474976710656 < (l2.length : Int)) = false := decide_eq_false c15
    have c15b1 : decide (281474976710656 < l2.length) = false := decide_eq_false (by omega)
    clear c15
    (first | rw [c15b0] | (simp only [i64_w, i32_w]; rw [c15b0]) | rw [c15b1] | rw [c15b2] | skip)
    have H' := Aside0.mk H
    clear H
    go_wp2
    go_meet
    case rel => exact ⟨_, (decide (a1 > (wrap64 (281474976710656 - (l2.length : Int))))), q6_14, H', ⟨by first | omega | exact Nat.le_refl _⟩, ⟨by (with_reducible repeat (first | apply Kd.V_alloc | apply Kd.V_drewN | apply Kd.V_drew)); exact Kd.V_mono HO0_1.out (fun _ hk => ⟨hk.1.1, ⟨hk.1.2, hk.2⟩⟩)⟩, ⟨by (with_reducible repeat (first | refine blk_drewN ?_ _ | refine blk_drew ?_ | refine blk_alloc ?_ _)); exact BK170.out⟩, ⟨by (with_reducible repeat (first | refine blk_drewN ?_ _ | refine blk_drew ?_ | refine blk_alloc ?_ _)); exact BK171.out⟩, ⟨by repeat (first | (with_reducible first | exact HB.out | apply below_alloc | apply pw_below_drewN | apply below_drew1 | refine below_set ?_ GE170.out | refine below_set ?_ GE171.out) | exact HB.out)⟩⟩
  case rest =>
   clear HC12
   try clear c1
   try clear c2
   try clear p2
   try clear c4
   try clear c5
   try clear c5b0
   try clear p6
   try clear c8
   try clear c15
   try clear c15b0
   try clear c15b1
   try clear c15b2
   try clear hcz10_0
   try clear hcz10_1
   try clear hcz9_0
   try clear hcz9_1
   try clear hfz10_0
   try clear hfz10_1
   try clear hfz9_0
   try clear hfz9_1
   obtain ⟨kq, x34_11, rfl, HA, HJ11, HO_171001, BK170, BK171, HB⟩ := hcut
   cases kq with
   | zero => exact absurd HA.out (by simp [batonref32_Take.j0])
   | succ kj11 =>
    have H := HA.out
    clear HA
    simp only [batonref32_Take.j0] at H
    by_cases c16 : x34_11 = true
    ·subst c16
     have H1 : (some (a0_0, l0_1, ([] : List Int), 16)) = some (r1, r2, r3, r4) := by rw [if_pos rfl] at H; exact H
     clear H
     have H := H1
     clear H1
     simp only [Option.some.injEq, Prod.mk.injEq] at H
     obtain ⟨rfl, rfl, rfl, rfl⟩ := H
     have hnb17 := NB170_171.out
     have hnc17 := NB171_170.out
     have hcz18_0 : wc.cell? ⟨gb170, 0, none⟩ = some (.int .i64 a0_0) := (blk_cell BK170.out 0).trans rfl
     have hcz18_1 : wc.cell? ⟨gb170, 1, none⟩ = some (.slice A0_1 l0_1.length c0_1) := (blk_cell BK170.out 1).trans rfl
     have hfz18_0 := blk_frozen BK170.out 0
     have hfz18_1 := blk_frozen BK170.out 1
     have hcz19_0 : wc.cell? ⟨gb171, 0, none⟩ = some (.int .i64 0) := (blk_cell BK171.out 0).trans rfl
     have hcz19_1 : wc.cell? ⟨gb171, 1, none⟩ = some (.slice none 0 0) := (blk_cell BK171.out 1).trans rfl
     have hfz19_0 := blk_frozen BK171.out 0
     have hfz19_1 := blk_frozen BK171.out 1
     go_wp2_with (first | ((with_reducible refine gate_store (t := 77) (p := 8) rfl ?_); refine store_event (t := 77) (p := 8) (v := ?vo_w20) (w1 := ((wc.setCell ⟨gb171, 0, none⟩ (.int .i64 a0_0)).setCell ⟨gb171, 1, none⟩ (.slice A0_1 l0_1.length c0_1))) ?hg ?ho ?hn ?hr ?_; (case ho => rfl); (case hg => rfl); (case hn => rfl); (case hr => first | (go_simp; done) | (go_simp; rfl)); intro w20 hw; have n0_ : Aside0 (Kd.V k144 144 w20 w.heap.size (fun k_ => (P0_1_ k_ ∨ w.heap.size ≤ k_) ∧ k_ ≠ gb170 ∧ k_ ≠ gb171) (.slice A0_1 l0_1.length c0_1) l0_1) := ⟨q6_15⟩; have n1_ : Aside0 (w20.heap[gb170]? = some (.cells #[.int .i64 a0_0, .slice A0_1 l0_1.length c0_1] 77 (0, 0))) := ⟨q6_5⟩; have n2_ : Aside0 (w20.heap[gb171]? = some (.cells #[.int .i64 a0_0, .slice A0_1 l0_1.length c0_1] 77 (0, 0))) := ⟨q6_6⟩; have n3_ : Aside0 (Below w.heap.size w w20) := ⟨(by rw [hw]; exact q6_2)⟩; clear hw HO_171001 BK170 BK171 HB; have HO_171001 := n0_; have BK170 := n1_; have BK171 := n2_; have HB := n3_; clear n0_ n1_ n2_ n3_))
     refine bodyPost_ret (results_ctt rfl _ _ gb171 77 #[.int .i64 a0_0, .slice A0_1 l0_1.length c0_1] (0, 0) _ rfl q6_4 Try.underlying77 rfl (by kernel_rfl)) rfl ?_
     exact ⟨_, _, by first | rfl | (simp [errW_none, errW_some] <;> rfl) | (simp [*, errW_none, errW_some] <;> rfl), by (with_reducible repeat (first | apply Kd.V_alloc | apply Kd.V_drewN | apply Kd.V_drew)); exact Kd.V_mono HO_171001.out (fun _ hk => ⟨hk.1, (by simp [Value.ownBlock])⟩), by first | exact Kd.R_nil _ _ _ _ _ | exact Kd.N_nil _ _ _ _ _ | exact Kd.V_nil _ _ _ _ _ | exact Kd.Q_nil _ _ _ _ _ | exact Kd.S_nil _ _ _ _ _, by repeat (first | (with_reducible first | exact HB.out | apply below_alloc | apply pw_below_drewN | apply below_drew1 | refine below_set ?_ GE170.out | refine below_set ?_ GE171.out) | exact HB.out)⟩
    ·replace c16 := Bool.eq_false_iff.mpr c16
     subst c16
     have H1 : (if (l2.length : Int) > 0 then (batonref32_Take.j1 kj11 a1 l2 a3 (decide ((wrap64 ((wrap64 (a1 + (l2.length : Int))) - 1)) ≥ (wrap64 (a0_0 + 64)))) a0_0 l0_1) else (batonref32_Take.j1 kj11 a1 l2 a3 false a0_0 l0_1)) = some (r1, r2, r3, r4) := by rw [if_neg (show ¬ (false = true) by decide)] at H; exact H
     clear H
     have H := H1
     clear H1
     have HC21 := Aside0.mk H
     clear H
     go_upto_region 5 with (fail)
     go_cut [49] (fun v49 wc => ∃ (kq : Nat) (x49_20 : Bool), v49 = .bool x49_20 ∧ Aside0 (batonref32_Take.j1 kq a1 l2 a3 x49_20 a0_0 l0_1 = some (r1, r2, r3, r4)) ∧ Aside0 (kq ≤ kj11) ∧ Aside0 (Kd.V k144 144 wc w.heap.size (fun k_ => (P0_1_ k_ ∨ w.heap.size ≤ k_) ∧ k_ ≠ gb170 ∧ k_ ≠ gb171) (.slice A0_1 l0_1.length c0_1) l0_1) ∧ Aside0 (wc.heap[gb170]? = some (.cells #[.int .i64 a0_0, (.slice A0_1 l0_1.length c0_1)] 77 (0, 0))) ∧ Aside0 (wc.heap[gb171]? = some (.cells #[.int .i64 0, (.slice none 0 0)] 77 (0, 0))) ∧ Aside0 (Below w.heap.size w wc))
     case first =>
      have H := HC21.out
      clear HC21
      by_cases c22 : (l2.length : Int) > 0
      ·rw [if_pos c22] at H
       have c22b0 : decide (0 < (l2.length : Int)) = true := decide_eq_true c22
       have c22b1 : decide (0 < l2.length) = true := decide_eq_true (by omega)
       clear c22
       (first | rw [c22b0] | (simp only [i64_w, i32_w]; rw [c22b0]) | rw [c22b1] | rw [c22b2] | skip)
       have H' := Aside0.mk H
       clear H
       have hnb23 := NB170_171.out
       have hnc23 := NB171_170.out
       have hcz24_0 : wc.cell? ⟨gb170, 0, none⟩ = some (.int .i64 a0_0) := (blk_cell BK170.out 0).trans rfl
       have hcz24_1 : wc.cell? ⟨gb170, 1, none⟩ = some (.slice A0_1 l0_1.length c0_1) := (blk_cell BK170.out 1).trans rfl
       have hfz24_0 := blk_frozen BK170.out 0
       have hfz24_1 := blk_frozen BK170.out 1
       go_wp2
       go_meet
       case rel => exact ⟨_, (decide ((wrap64 ((wrap64 (a1 + (l2.length : Int))) - 1)) ≥ (wrap64 (a0_0 + 64)))), q6_14, H', ⟨by have := HJ11.out; first | omega | exact Nat.le_refl _⟩, ⟨by (with_reducible repeat (first | apply Kd.V_alloc | apply Kd.V_drewN | apply Kd.V_drew)); exact HO_171001.out⟩, ⟨by (with_reducible repeat (first | refine blk_drewN ?_ _ | refine blk_drew ?_ | refine blk_alloc ?_ _)); exact BK170.out⟩, ⟨by (with_reducible repeat (first | refine blk_drewN ?_ _ | refine blk_drew ?_ | refine blk_alloc ?_ _)); exact BK171.out⟩, ⟨by repeat (first | (with_reducible first | exact HB.out | apply below_alloc | apply pw_below_drewN | apply below_drew1 | refine below_set ?_ GE170.out | refine below_set ?_ GE171.out) | exact HB.out)⟩⟩
      ·rw [if_neg c22] at H
       have c22b0 : decide (0 < (l2.length : Int)) = false := decide_eq_false c22
       have c22b1 : decide (0 < l2.length) = false := decide_eq_false (by omega)
       clear c22
       (first | rw [c22b0] | (simp only [i64_w, i32_w]; rw [c22b0]) | rw [c22b1] | rw [c22b2] | skip)
       have H' := Aside0.mk H
       clear H
       go_wp2
       go_meet
       case rel => exact ⟨_, (false), q6_14, H', ⟨by have := HJ11.out; first | omega | exact Nat.le_refl _⟩, ⟨by (with_reducible repeat (first | apply Kd.V_alloc | apply Kd.V_drewN | apply Kd.V_drew)); exact HO_171001.out⟩, ⟨by (with_reducible repeat (first | refine blk_drewN ?_ _ | refine blk_drew ?_ | refine blk_alloc ?_ _)); exact BK170.out⟩, ⟨by (with_reducible repeat (first | refine blk_drewN ?_ _ | refine blk_drew ?_ | refine blk_alloc ?_ _)); exact BK171.out⟩, ⟨by repeat (first | (with_reducible first | exact HB.out | apply below_alloc | apply pw_below_drewN | apply below_drew1 | refine below_set ?_ GE170.out | refine below_set ?_ GE171.out) | exact HB.out)⟩⟩
     case rest =>
      clear HC21
      try clear c1
      try clear c2
      try clear p2
      try clear c4
      try clear c5
      try clear c5b0
      try clear p6
      try clear c8
      try clear c15
      try clear c15b0
      try clear c15b1
      try clear c15b2
      try clear c16
      try clear c17
      try clear c22
      try clear c22b0
      try clear c22b1
      try clear c22b2
      try clear c23
      try clear hcz10_0
      try clear hcz10_1
      try clear hcz18_0
      try clear hcz18_1
      try clear hcz19_0
      try clear hcz19_1
      try clear hcz24_0
      try clear hcz24_1
      try clear hcz9_0
      try clear hcz9_1
      try clear hfz10_0
      try clear hfz10_1
      try clear hfz18_0
      try clear hfz18_1
      try clear hfz19_0
      try clear hfz19_1
      try clear hfz24_0
      try clear hfz24_1
      try clear hfz9_0
      try clear hfz9_1
      try clear p2
      try clear p6
      obtain ⟨kq, x49_20, rfl, HA, HJ20, HO_171001, BK170, BK171, HB⟩ := hcut
      cases kq with
      | zero => exact absurd HA.out (by simp [batonref32_Take.j1])
      | succ kj20 =>
       have H := HA.out
       clear HA
       simp only [batonref32_Take.j1] at H
       by_cases c25 : x49_20 = true
       ·subst c25
        have H1 : (some (a0_0, l0_1, ([] : List Int), 2)) = some (r1, r2, r3, r4) := by rw [if_pos rfl] at H; exact H
        clear H
        have H := H1
        clear H1
        simp only [Option.some.injEq, Prod.mk.injEq] at H
        obtain ⟨rfl, rfl, rfl, rfl⟩ := H
        have hnb26 := NB170_171.out
        have hnc26 := NB171_170.out
        have hcz27_0 : wc.cell? ⟨gb170, 0, none⟩ = some (.int .i64 a0_0) := (blk_cell BK170.out 0).trans rfl
        have hcz27_1 : wc.cell? ⟨gb170, 1, none⟩ = some (.slice A0_1 l0_1.length c0_1) := (blk_cell BK170.out 1).trans rfl
        have hfz27_0 := blk_frozen BK170.out 0
        have hfz27_1 := blk_frozen BK170.out 1
        have hcz28_0 : wc.cell? ⟨gb171, 0, none⟩ = some (.int .i64 0) := (blk_cell BK171.out 0).trans rfl
        have hcz28_1 : wc.cell? ⟨gb171, 1, none⟩ = some (.slice none 0 0) := (blk_cell BK171.out 1).trans rfl
        have hfz28_0 := blk_frozen BK171.out 0
        have hfz28_1 := blk_frozen BK171.out 1
        go_wp2_with (first | ((with_reducible refine gate_store (t := 77) (p := 8) rfl ?_); refine store_event (t := 77) (p := 8) (v := ?vo_w29) (w1 := ((wc.setCell ⟨gb171, 0, none⟩ (.int .i64 a0_0)).setCell ⟨gb171, 1, none⟩ (.slice A0_1 l0_1.length c0_1))) ?hg ?ho ?hn ?hr ?_; (case ho => rfl); (case hg => rfl); (case hn => rfl); (case hr => first | (go_simp; done) | (go_simp; rfl)); intro w29 hw; have n0_ : Aside0 (Kd.V k144 144 w29 w.heap.size (fun k_ => (P0_1_ k_ ∨ w.heap.size ≤ k_) ∧ k_ ≠ gb170 ∧ k_ ≠ gb171) (.slice A0_1 l0_1.length c0_1) l0_1) := ⟨q6_15⟩; have n1_ : Aside0 (w29.heap[gb170]? = some (.cells #[.int .i64 a0_0, .slice A0_1 l0_1.length c0_1] 77 (0, 0))) := ⟨q6_5⟩; have n2_ : Aside0 (w29.heap[gb171]? = some (.cells #[.int .i64 a0_0, .slice A0_1 l0_1.length c0_1] 77 (0, 0))) := ⟨q6_6⟩; have n3_ : Aside0 (Below w.heap.size w w29) := ⟨(by rw [hw]; exact q6_2)⟩; clear hw HO_171001 BK170 BK171 HB; have HO_171001 := n0_; have BK170 := n1_; have BK171 := n2_; have HB := n3_; clear n0_ n1_ n2_ n3_))
        refine bodyPost_ret (results_ctt rfl _ _ gb171 77 #[.int .i64 a0_0, .slice A0_1 l0_1.length c0_1] (0, 0) _ rfl q6_4 Try.underlying77 rfl (by kernel_rfl)) rfl ?_
        exact ⟨_, _, by first | rfl | (simp [errW_none, errW_some] <;> rfl) | (simp [*, errW_none, errW_some] <;> rfl), by (with_reducible repeat (first | apply Kd.V_alloc | apply Kd.V_drewN | apply Kd.V_drew)); exact Kd.V_mono HO_171001.out (fun _ hk => ⟨hk.1, (by simp [Value.ownBlock])⟩), by first | exact Kd.R_nil _ _ _ _ _ | exact Kd.N_nil _ _ _ _ _ | exact Kd.V_nil _ _ _ _ _ | exact Kd.Q_nil _ _ _ _ _ | exact Kd.S_nil _ _ _ _ _, by repeat (first | (with_reducible first | exact HB.out | apply below_alloc | apply pw_below_drewN | apply below_drew1 | refine below_set ?_ GE170.out | refine below_set ?_ GE171.out) | exact HB.out)⟩
       ·replace c25 := Bool.eq_false_iff.mpr c25
        subst c25
        have H1 : ((some (([] : List (S144)) : List (S144))).bind fun y172 => (if y172.length + l0_1.length < 8796093022208 then (batonref32_Take.l0 kj20 a1 l2 a3 (y172 ++ l0_1) 0 a0_0 l0_1) else (none))) = some (r1, r2, r3, r4) := by rw [if_neg (show ¬ (false = true) by decide)] at H; exact H
        clear H
        have H := H1
        clear H1
        obtain ⟨y172, hy172⟩ : ∃ y_ : List (S144), y_ = (([] : List (S144))) := ⟨_, rfl⟩
        replace H : (if y172.length + l0_1.length < 8796093022208 then (batonref32_Take.l0 kj20 a1 l2 a3 (y172 ++ l0_1) 0 a0_0 l0_1) else (none)) = some (r1, r2, r3, r4) := by first | (rw [hy172]; with_reducible exact H) | (have H2_ := (Option.bind_some _ _).symm.trans H; rw [hy172]; with_reducible exact H2_) | (have H2_ := (Option.bind_some _ _).symm.trans H; with_reducible exact H2_) | with_reducible exact H | (rw [hy172]; exact H) | exact H
        have Ny172 := Aside0.mk hy172
        clear hy172
        by_cases c30 : y172.length + l0_1.length < 8796093022208
        ·rw [if_pos c30] at H
         have LMc30 := Aside0.mk c30
         clear c30
         obtain ⟨y175, hy175⟩ : ∃ y_ : List (S144), y_ = (y172 ++ l0_1) := ⟨_, rfl⟩
         replace H : (batonref32_Take.l0 kj20 a1 l2 a3 y175 0 a0_0 l0_1) = some (r1, r2, r3, r4) := by first | (rw [hy175]; with_reducible exact H) | (have H2_ := (Option.bind_some _ _).symm.trans H; rw [hy175]; with_reducible exact H2_) | (have H2_ := (Option.bind_some _ _).symm.trans H; with_reducible exact H2_) | with_reducible exact H | (rw [hy175]; exact H) | exact H
         have Ny175 := Aside0.mk hy175
         clear hy175
         have H' := Aside0.mk H
         clear H
         go_wp2_with (first | ((with_reducible refine gate_dst (N := 51) rfl ?_); (try (refine gate_guard (by rfl) ?_; dsimp only)); refine Kd.R_lit k144 _ 144 ?hg (N := 51) ?hd (xs := ([] : List (S144))) (inner := []) (ok := fun _ => True) (okp := fun _ => True) ?hr ?hp (fun _ hk => hk) trivial (Below.refl _ _) (Nat.le_refl _) (by simp) ?_; (case hd => rfl); (case hg => rfl); (case hr => first | (go_simp; done) | (go_simp; rfl)); (case hp => exact (Reps.none _ _)); intro v173 w31 ho32 hb hg_ hnew_; clear hg_ hnew_; (first | rw [← Ny172.out] at ho32 | (simp only [Int.reduceToNat] at ho32; rw [← Ny172.out] at ho32)); have n0_ := Aside0.mk (Kd.V_elder' q6_11 (Kd.R_base ho32) hb); have n1_ := Aside0.mk (Kd.R_lower (Kd.R_newM (M := fun k_ => (w.heap.size ≤ k_)) ho32 (below_size q6_2) (fun k_ h_ => h_)) (below_size q6_2)); have n2_ := Aside0.mk (blk_below (g := gb170) (o := .cells #[.int .i64 a0_0, .slice A0_1 l0_1.length c0_1] 77 (0, 0)) q6_3 hb); have n3_ := Aside0.mk (blk_below (g := gb171) (o := .cells #[.int .i64 0, .slice none 0 0] 77 (0, 0)) q6_4 hb); have n4_ := Aside0.mk (below_step q6_2 hb); clear HO_171001 BK170 BK171 HB; have HO_171001 := n0_; have HO174 := n1_; have BK170 := n2_; have BK171 := n3_; have HB := n4_; clear n0_ n1_ n2_ n3_ n4_; clear hb ho32; have hnb33 := NB170_171.out; have hnc33 := NB171_170.out; have hcz34_0 : w31.cell? ⟨gb170, 0, none⟩ = some (.int .i64 a0_0) := (blk_cell BK170.out 0).trans rfl; have hcz34_1 : w31.cell? ⟨gb170, 1, none⟩ = some (.slice A0_1 l0_1.length c0_1) := (blk_cell BK170.out 1).trans rfl; have hfz34_0 := blk_frozen BK170.out 0; have hfz34_1 := blk_frozen BK170.out 1) | ((with_reducible refine gate_builtin (b := .append) (xs := #[.tmp 51, .tmp 53]) rfl ?_); (try (refine gate_guard (by rfl) ?_; dsimp only)); at_builtin; refine Kd.R_append_rows k144 (w0 := w) w.heap.size rfl (.tmp 51) (.tmp 53) 75 144 (.agg #[(.int .i64 0), (.int .u8 0)]) 16 rfl Try.underlying75 info144 rfl q6_21 (by omega) v173 y172 l0_1 _ _ _ (fun k_ => (w.heap.size ≤ k_)) (fun _ => False) rfl rfl ?aO ?aR (fun _ _ h => h) (fun _ h => h.elim) ?aF ?aB ?aS ?aL ?_; (case aR => repeat (first | exact (Kd.V_reads' HO_171001.out).2.2 | (with_reducible refine Kd.C_alloc ?_ _) | (with_reducible refine Kd.C_drewN ?_ _) | (with_reducible refine Kd.C_drew ?_))); (case aB => exact q6_2); (case aF => exact (fun k_ hk => (Nat.le_trans (below_size q6_2) hk))); (case aO => exact (by (with_reducible repeat (first | apply Kd.R_alloc | apply Kd.R_drewN | apply Kd.R_drew)); exact Kd.R_mono HO174.out (fun _ hk => hk.1))); (case aS => exact (below_size q6_2)); (case aL => have := LMc30.out; omega); intro v176 w35 ho hb hg hat; rw [← Ny175.out] at ho; have n0_ := Aside0.mk (Kd.V_afterv (ok := (fun k_ => (P0_1_ k_ ∨ w.heap.size ≤ k_) ∧ k_ ≠ gb170 ∧ k_ ≠ gb171)) q6_11 hg hat); have n1_ := Aside0.mk (blk_grown (g := gb170) (o := .cells #[.int .i64 a0_0, .slice A0_1 l0_1.length c0_1] 77 (0, 0)) q6_3 hg (Kd.R_ne HO174.out BK170.out q6_21)); have n2_ := Aside0.mk (blk_grown (g := gb171) (o := .cells #[.int .i64 0, .slice none 0 0] 77 (0, 0)) q6_4 hg (Kd.R_ne HO174.out BK171.out q6_21)); have n3_ := Aside0.mk (hb); have n4_ := Aside0.mk (ho); clear HO_171001 BK170 BK171 HB HO174; have HO_171001 := n0_; have BK170 := n1_; have BK171 := n2_; have HB := n3_; have HO177 := n4_; clear n0_ n1_ n2_ n3_ n4_; clear ho hb hg hat))
         go_loopg [11, 12] kj20 (fun kq v11 v12 w' => ∃ (x11_3 : List (S144)) (x12_3 : Int), v12 = .int .i64 x12_3 ∧ Aside0 (batonref32_Take.l0 kq a1 l2 a3 x11_3 x12_3 a0_0 l0_1 = some (r1, r2, r3, r4)) ∧ Aside0 (kq ≤ kj20) ∧ Aside0 (Kd.R k144 144 w' w.heap.size (fun k_ => (w.heap.size ≤ k_)) v11 x11_3) ∧ Aside0 (Kd.V k144 144 w' w.heap.size (fun k_ => (P0_1_ k_ ∨ w.heap.size ≤ k_) ∧ some k_ ≠ (v11 : Value).ownBlock ∧ k_ ≠ gb170 ∧ k_ ≠ gb171) (.slice A0_1 l0_1.length c0_1) l0_1) ∧ Aside0 (w'.heap[gb170]? = some (.cells #[.int .i64 a0_0, (.slice A0_1 l0_1.length c0_1)] 77 (0, 0))) ∧ Aside0 (w'.heap[gb171]? = some (.cells #[.int .i64 0, (.slice none 0 0)] 77 (0, 0))) ∧ Aside0 (Below w.heap.size w w'))
         case atStart => exact ⟨(y175), (0), q6_14, H', ⟨Nat.le_refl _⟩, ⟨by (with_reducible repeat (first | apply Kd.R_alloc | apply Kd.R_drewN | apply Kd.R_drew)); exact HO177.out⟩, ⟨by (with_reducible repeat (first | apply Kd.V_alloc | apply Kd.V_drewN | apply Kd.V_drew)); exact Kd.V_mono HO_171001.out (fun _ hk => ⟨hk.1.1, ⟨hk.2, ⟨hk.1.2.1, hk.1.2.2⟩⟩⟩)⟩, ⟨by (with_reducible repeat (first | refine blk_drewN ?_ _ | refine blk_drew ?_ | refine blk_alloc ?_ _)); exact BK170.out⟩, ⟨by (with_reducible repeat (first | refine blk_drewN ?_ _ | refine blk_drew ?_ | refine blk_alloc ?_ _)); exact BK171.out⟩, ⟨by repeat (first | (with_reducible first | exact HB.out | apply below_alloc | apply pw_below_drewN | apply below_drew1 | refine below_set ?_ GE170.out | refine below_set ?_ GE171.out) | exact HB.out)⟩⟩
         case round =>
          clear H'
          try clear c1
          try clear c2
          try clear p2
          try clear c3
          try clear c4
          try clear c5
          try clear c5b0
          try clear p6
          try clear c8
          try clear c15
          try clear c15b0
          try clear c15b1
          try clear c15b2
          try clear c16
          try clear c17
          try clear c22
          try clear c22b0
          try clear c22b1
          try clear c22b2
          try clear c23
          try clear c25
          try clear c26
          try clear c30
          try clear c33
          try clear hcz10_0
          try clear hcz10_1
          try clear hcz18_0
          try clear hcz18_1
          try clear hcz19_0
          try clear hcz19_1
          try clear hcz24_0
          try clear hcz24_1
          try clear hcz27_0
          try clear hcz27_1
          try clear hcz28_0
          try clear hcz28_1
          try clear hcz34_0
          try clear hcz34_1
          try clear hcz9_0
          try clear hcz9_1
          try clear hfz10_0
          try clear hfz10_1
          try clear hfz18_0
          try clear hfz18_1
          try clear hfz19_0
          try clear hfz19_1
          try clear hfz24_0
          try clear hfz24_1
          try clear hfz27_0
          try clear hfz27_1
          try clear hfz28_0
          try clear hfz28_1
          try clear hfz34_0
          try clear hfz34_1
          try clear hfz9_0
          try clear hfz9_1
          try clear p2
          try clear p6
          obtain ⟨x11_3, x12_3, rfl, HA, HK3, HO_11, HO_171001, BK170, BK171, HB⟩ := hrel
          cases gk with
          | zero => exact absurd HA.out (by simp [batonref32_Take.l0])
          | succ k3 =>
           have H := HA.out
           clear HA
           simp only [batonref32_Take.l0] at H
           by_cases c36 : x12_3 < (l2.length : Int)
           ·rw [if_pos c36] at H
            have c36b0 : decide (x12_3 < (l2.length : Int)) = true := decide_eq_true c36
            clear c36
            replace H := Option.bind_eq_some_iff.mp H
            obtain ⟨⟨t178, t179⟩, A370, H⟩ := H
            replace H : (if t179 = true then (batonref32_Take.l0 k3 a1 l2 a3 x11_3 (wrap64 (x12_3 + 1)) a0_0 l0_1) else (if (wrap64 (a1 + x12_3)) ≥ a0_0 then (if 0 ≤ x12_3 then (if x11_3.length < 8796093022208 then (batonref32_Take.l0 k3 a1 l2 a3 (x11_3 ++ [(⟨wrap64 (a1 + x12_3), rd l2 x12_3⟩ : S144)]) (wrap64 (x12_3 + 1)) a0_0 l0_1) else (none)) else (none)) else (batonref32_Take.l0 k3 a1 l2 a3 x11_3 (wrap64 (x12_3 + 1)) a0_0 l0_1))) = some (r1, r2, r3, r4) := H
            have A37 := Aside0.mk A370
            clear A370
            by_cases c38 : t179 = true
            ·subst c38
             have H1 : (batonref32_Take.l0 k3 a1 l2 a3 x11_3 (wrap64 (x12_3 + 1)) a0_0 l0_1) = some (r1, r2, r3, r4) := by rw [if_pos rfl] at H; exact H
             clear H
             have H := H1
             clear H1
             have H' := Aside0.mk H
             clear H
             obtain ⟨Ao39, co39, eo39⟩ := Kd.R_slice HO_11.out
             subst eo39
             go_wp2_with (first | ((with_reducible refine gate_callee (f := 75) rfl ?_); refine goesL_ (some 66) rfl rfl Try.func75 (by kernel_rfl) rfl #[.slice Ao39 x11_3.length co39, .int .i64 (wrap64 (a1 + x12_3))] rfl q6_7 ?_; (with_reducible refine (batonref32_find.calls k3 _ _ x11_3 (wrap64 (a1 + x12_3)) t178 true _ ?side1 ?side2 A37.out).mono ?_); (case side1 => repeat (first | exact (Kd.R_reads' HO_11.out).2.2 | (with_reducible refine Kd.C_alloc ?_ _) | (with_reducible refine Kd.C_drewN ?_ _) | (with_reducible refine Kd.C_drew ?_))); (case side2 => exact (Kd.R_reads' HO_11.out).2.1); rintro e w' ⟨rfl, ⟨nd, rfl⟩⟩; refine ⟨_, rfl, ?_⟩))
             go_roundg k3
             case measure => have := HJ11.out; have := HJ20.out; have := HK3.out; omega
             case rel => exact ⟨(x11_3), (wrap64 (x12_3 + 1)), q6_14, H', ⟨by have := HJ11.out; have := HJ20.out; have := HK3.out; omega⟩, ⟨by (with_reducible repeat (first | apply Kd.R_alloc | apply Kd.R_drewN | apply Kd.R_drew)); exact HO_11.out⟩, ⟨by (with_reducible repeat (first | apply Kd.V_alloc | apply Kd.V_drewN | apply Kd.V_drew)); exact HO_171001.out⟩, ⟨by (with_reducible repeat (first | refine blk_drewN ?_ _ | refine blk_drew ?_ | refine blk_alloc ?_ _)); exact BK170.out⟩, ⟨by (with_reducible repeat (first | refine blk_drewN ?_ _ | refine blk_drew ?_ | refine blk_alloc ?_ _)); exact BK171.out⟩, ⟨by repeat (first | (with_reducible first | exact HB.out | apply below_alloc | apply pw_below_drewN | apply below_drew1 | refine below_set ?_ GE170.out | refine below_set ?_ GE171.out) | exact HB.out)⟩⟩
            ·replace c38 := Bool.eq_false_iff.mpr c38
             subst c38
             have H1 : (if (wrap64 (a1 + x12_3)) ≥ a0_0 then (if 0 ≤ x12_3 then (if x11_3.length < 8796093022208 then (batonref32_Take.l0 k3 a1 l2 a3 (x11_3 ++ [(⟨wrap64 (a1 + x12_3), rd l2 x12_3⟩ : S144)]) (wrap64 (x12_3 + 1)) a0_0 l0_1) else (none)) else (none)) else (batonref32_Take.l0 k3 a1 l2 a3 x11_3 (wrap64 (x12_3 + 1)) a0_0 l0_1)) = some (r1, r2, r3, r4) := by rw [if_neg (show ¬ (false = true) by decide)] at H; exact H
             clear H
             have H := H1
             clear H1
             by_cases c40 : (wrap64 (a1 + x12_3)) ≥ a0_0
             ·rw [if_pos c40] at H
              have c40b0 : decide (a0_0 ≤ (wrap64 (a1 + x12_3))) = true := decide_eq_true c40
              clear c40
              by_cases c41 : 0 ≤ x12_3
              ·rw [if_pos c41] at H
               have c41b0 : decide (0 ≤ x12_3) = true := decide_eq_true c41
               clear c41
               by_cases c42 : x11_3.length < 8796093022208
               ·rw [if_pos c42] at H
                have LMc42 := Aside0.mk c42
                clear c42
                obtain ⟨y181, hy181⟩ : ∃ y_ : List (S144), y_ = (x11_3 ++ [(⟨wrap64 (a1 + x12_3), rd l2 x12_3⟩ : S144)]) := ⟨_, rfl⟩
                replace H : (batonref32_Take.l0 k3 a1 l2 a3 y181 (wrap64 (x12_3 + 1)) a0_0 l0_1) = some (r1, r2, r3, r4) := by first | (rw [hy181]; with_reducible exact H) | (have H2_ := (Option.bind_some _ _).symm.trans H; rw [hy181]; with_reducible exact H2_) | (have H2_ := (Option.bind_some _ _).symm.trans H; with_reducible exact H2_) | with_reducible exact H | (rw [hy181]; exact H) | exact H
                have Ny181 := Aside0.mk hy181
                clear hy181
                have H' := Aside0.mk H
                clear H
                obtain ⟨Ao43, co43, eo43⟩ := Kd.R_slice HO_11.out
                subst eo43
                go_wp2_with (first | ((with_reducible refine gate_callee (f := 75) rfl ?_); refine goesL_ (some 66) rfl rfl Try.func75 (by kernel_rfl) rfl #[.slice Ao43 x11_3.length co43, .int .i64 (wrap64 (a1 + x12_3))] rfl q6_7 ?_; (with_reducible refine (batonref32_find.calls k3 _ _ x11_3 (wrap64 (a1 + x12_3)) t178 false _ ?side1 ?side2 A37.out).mono ?_); (case side1 => repeat (first | exact (Kd.R_reads' HO_11.out).2.2 | (with_reducible refine Kd.C_alloc ?_ _) | (with_reducible refine Kd.C_drewN ?_ _) | (with_reducible refine Kd.C_drew ?_))); (case side2 => exact (Kd.R_reads' HO_11.out).2.1); rintro e w' ⟨rfl, ⟨nd, rfl⟩⟩; refine ⟨_, rfl, ?_⟩; have hnb44 := NB170_171.out; have hnc44 := NB171_170.out; have hcz45_0 : wr.cell? ⟨gb170, 0, none⟩ = some (.int .i64 a0_0) := (blk_cell BK170.out 0).trans rfl; have hcz45_1 : wr.cell? ⟨gb170, 1, none⟩ = some (.slice A0_1 l0_1.length c0_1) := (blk_cell BK170.out 1).trans rfl; have hfz45_0 := blk_frozen BK170.out 0; have hfz45_1 := blk_frozen BK170.out 1; have p180 : 0 ≤ (x12_3 : Int) := of_decide_eq_true (by first | (with_reducible assumption) | assumption); have q180 : x12_3 < (l2.length : Int) := of_decide_eq_true (by first | (with_reducible assumption) | assumption); obtain ⟨ad180, e180, hx180_0⟩ := Kd.at_int HR2.out x12_3 p180 q180; cases e180; replace hx180_0 := (HB.out.cell (World.block_lt_of_cell? w _ hx180_0)).trans hx180_0; replace p180 := eq_true p180; replace q180 := eq_true q180) | ((with_reducible refine gate_builtin (b := .append) (xs := #[.tmp 79, .tmp 88]) rfl ?_); (try (refine gate_guard (by rfl) ?_; dsimp only)); at_builtin; refine Kd.R_append k144 (w0 := w) w.heap.size rfl (.tmp 79) (.tmp 88) 75 144 (.agg #[(.int .i64 0), (.int .u8 0)]) 16 rfl Try.underlying75 info144 rfl q6_21 (by omega) (.slice Ao43 x11_3.length co43) x11_3 (⟨wrap64 (a1 + x12_3), rd l2 x12_3⟩ : S144) [.int .i64 (wrap64 (a1 + x12_3)), .int .u8 (rd l2 x12_3)] (fun k_ => (w.heap.size ≤ k_)) (fun _ => False) rfl rfl ?aP (fun _ hk => hk.elim) ?aF ?aO ?aB ?aS ?aL ?_; (case aP => exact k144_mkM _ _ _ (⟨wrap64 (a1 + x12_3), rd l2 x12_3⟩ : S144)); (case aB => exact q6_2); (case aF => exact (fun k_ hk => (Nat.le_trans (below_size q6_2) hk))); (case aO => exact q6_9); (case aS => exact (below_size q6_2)); (case aL => have := LMc42.out; omega); intro v182 w46 ho hb hg hat; rw [← Ny181.out] at ho; have n0_ := Aside0.mk (Kd.V_afterv (ok := (fun k_ => (P0_1_ k_ ∨ w.heap.size ≤ k_) ∧ k_ ≠ gb170 ∧ k_ ≠ gb171)) (by (with_reducible repeat (first | apply Kd.V_alloc | apply Kd.V_drewN | apply Kd.V_drew)); exact Kd.V_mono HO_171001.out (fun _ hk => ⟨⟨hk.1, ⟨hk.2.2.1, hk.2.2.2⟩⟩, hk.2.1⟩)) hg hat); have n1_ := Aside0.mk (blk_grown (g := gb170) (o := .cells #[.int .i64 a0_0, .slice A0_1 l0_1.length c0_1] 77 (0, 0)) q6_3 hg (Kd.R_ne HO_11.out BK170.out q6_21)); have n2_ := Aside0.mk (blk_grown (g := gb171) (o := .cells #[.int .i64 0, .slice none 0 0] 77 (0, 0)) q6_4 hg (Kd.R_ne HO_11.out BK171.out q6_21)); have n3_ := Aside0.mk (hb); have n4_ := Aside0.mk (ho); clear HO_171001 BK170 BK171 HB HO_11; have HO_171001 := n0_; have BK170 := n1_; have BK171 := n2_; have HB := n3_; have HO183 := n4_; clear n0_ n1_ n2_ n3_ n4_; clear ho hb hg hat))
                go_roundg k3
                case measure => have := HJ11.out; have := HJ20.out; have := HK3.out; omega
                case rel => exact ⟨(y181), (wrap64 (x12_3 + 1)), q6_14, H', ⟨by have := HJ11.out; have := HJ20.out; have := HK3.out; omega⟩, ⟨by (with_reducible repeat (first | apply Kd.R_alloc | apply Kd.R_drewN | apply Kd.R_drew)); exact HO183.out⟩, ⟨by (with_reducible repeat (first | apply Kd.V_alloc | apply Kd.V_drewN | apply Kd.V_drew)); exact Kd.V_mono HO_171001.out (fun _ hk => ⟨hk.1.1, ⟨hk.2, ⟨hk.1.2.1, hk.1.2.2⟩⟩⟩)⟩, ⟨by (with_reducible repeat (first | refine blk_drewN ?_ _ | refine blk_drew ?_ | refine blk_alloc ?_ _)); exact BK170.out⟩, ⟨by (with_reducible repeat (first | refine blk_drewN ?_ _ | refine blk_drew ?_ | refine blk_alloc ?_ _)); exact BK171.out⟩, ⟨by repeat (first | (with_reducible first | exact HB.out | apply below_alloc | apply pw_below_drewN | apply below_drew1 | refine below_set ?_ GE170.out | refine below_set ?_ GE171.out) | exact HB.out)⟩⟩
               ·rw [if_neg c42] at H
                exact absurd H (by simp)
              ·rw [if_neg c41] at H
               exact absurd H (by simp)
             ·rw [if_neg c40] at H
              have c40b0 : decide (a0_0 ≤ (wrap64 (a1 + x12_3))) = false := decide_eq_false c40
              clear c40
              have H' := Aside0.mk H
              clear H
              obtain ⟨Ao47, co47, eo47⟩ := Kd.R_slice HO_11.out
              subst eo47
              go_wp2_with (first | ((with_reducible refine gate_callee (f := 75) rfl ?_); refine goesL_ (some 66) rfl rfl Try.func75 (by kernel_rfl) rfl #[.slice Ao47 x11_3.length co47, .int .i64 (wrap64 (a1 + x12_3))] rfl q6_7 ?_; (with_reducible refine (batonref32_find.calls k3 _ _ x11_3 (wrap64 (a1 + x12_3)) t178 false _ ?side1 ?side2 A37.out).mono ?_); (case side1 => repeat (first | exact (Kd.R_reads' HO_11.out).2.2 | (with_reducible refine Kd.C_alloc ?_ _) | (with_reducible refine Kd.C_drewN ?_ _) | (with_reducible refine Kd.C_drew ?_))); (case side2 => exact (Kd.R_reads' HO_11.out).2.1); rintro e w' ⟨rfl, ⟨nd, rfl⟩⟩; refine ⟨_, rfl, ?_⟩; have hnb48 := NB170_171.out; have hnc48 := NB171_170.out; have hcz49_0 : wr.cell? ⟨gb170, 0, none⟩ = some (.int .i64 a0_0) := (blk_cell BK170.out 0).trans rfl; have hcz49_1 : wr.cell? ⟨gb170, 1, none⟩ = some (.slice A0_1 l0_1.length c0_1) := (blk_cell BK170.out 1).trans rfl; have hfz49_0 := blk_frozen BK170.out 0; have hfz49_1 := blk_frozen BK170.out 1))
              go_roundg k3
              case measure => have := HJ11.out; have := HJ20.out; have := HK3.out; omega
              case rel => exact ⟨(x11_3), (wrap64 (x12_3 + 1)), q6_14, H', ⟨by have := HJ11.out; have := HJ20.out; have := HK3.out; omega⟩, ⟨by (with_reducible repeat (first | apply Kd.R_alloc | apply Kd.R_drewN | apply Kd.R_drew)); exact HO_11.out⟩, ⟨by (with_reducible repeat (first | apply Kd.V_alloc | apply Kd.V_drewN | apply Kd.V_drew)); exact HO_171001.out⟩, ⟨by (with_reducible repeat (first | refine blk_drewN ?_ _ | refine blk_drew ?_ | refine blk_alloc ?_ _)); exact BK170.out⟩, ⟨by (with_reducible repeat (first | refine blk_drewN ?_ _ | refine blk_drew ?_ | refine blk_alloc ?_ _)); exact BK171.out⟩, ⟨by repeat (first | (with_reducible first | exact HB.out | apply below_alloc | apply pw_below_drewN | apply below_drew1 | refine below_set ?_ GE170.out | refine below_set ?_ GE171.out) | exact HB.out)⟩⟩
           ·rw [if_neg c36] at H
            have c36b0 : decide (x12_3 < (l2.length : Int)) = false := decide_eq_false c36
            clear c36
            have H' := Aside0.mk H
            clear H
            have hnb50 := NB170_171.out
            have hnc50 := NB171_170.out
            have hcz51_0 : wr.cell? ⟨gb170, 0, none⟩ = some (.int .i64 a0_0) := (blk_cell BK170.out 0).trans rfl
            have hcz51_1 : wr.cell? ⟨gb170, 1, none⟩ = some (.slice A0_1 l0_1.length c0_1) := (blk_cell BK170.out 1).trans rfl
            have hfz51_0 := blk_frozen BK170.out 0
            have hfz51_1 := blk_frozen BK170.out 1
            go_wp2_with (first | ((with_reducible refine gate_dst (N := 15) rfl ?_); (try (refine gate_guard (by rfl) ?_; dsimp only)); refine box_event ?hg (N := 15) ?hd (cs := #[.int .i64 0, .slice none 0 0]) (t := 77) ?hr ?_; (case hd => rfl); (case hg => rfl); (case hr => first | (go_simp; done) | (go_simp; rfl)); intro gb184 hg w52 hbox hb; have n0_ := Aside0.mk (Kd.R_below q6_9 hb); have n1_ := Aside0.mk (Kd.V_below (Kd.V_elderB q6_11 gb184 (Nat.le_of_eq hg.symm)) hb); have n2_ := Aside0.mk (blk_below (g := gb170) (o := .cells #[.int .i64 a0_0, .slice A0_1 l0_1.length c0_1] 77 (0, 0)) q6_3 hb); have n3_ := Aside0.mk (blk_below (g := gb171) (o := .cells #[.int .i64 0, .slice none 0 0] 77 (0, 0)) q6_4 hb); have n4_ := Aside0.mk (below_step q6_2 hb); have n5_ := Aside0.mk (hbox); have n6_ := Aside0.mk ((by rw [hg]; exact (below_size q6_2) : w.heap.size ≤ gb184)); have n7_ := Aside0.mk ((by rw [hg]; exact (below_size q6_2) : w.heap.size ≤ gb184)); have n8_ := Aside0.mk ((by rw [hg]; exact Nat.ne_of_lt (blk_lt (g := gb170) (o := .cells #[.int .i64 a0_0, .slice A0_1 l0_1.length c0_1] 77 (0, 0)) q6_3) : gb170 ≠ gb184)); have n9_ := Aside0.mk ((by rw [hg]; exact Nat.ne_of_gt (blk_lt (g := gb170) (o := .cells #[.int .i64 a0_0, .slice A0_1 l0_1.length c0_1] 77 (0, 0)) q6_3) : gb184 ≠ gb170)); have n10_ := Aside0.mk ((by rw [hg]; exact Nat.ne_of_lt (blk_lt (g := gb171) (o := .cells #[.int .i64 0, .slice none 0 0] 77 (0, 0)) q6_4) : gb171 ≠ gb184)); have n11_ := Aside0.mk ((by rw [hg]; exact Nat.ne_of_gt (blk_lt (g := gb171) (o := .cells #[.int .i64 0, .slice none 0 0] 77 (0, 0)) q6_4) : gb184 ≠ gb171)); clear HO_11 HO_171001 BK170 BK171 HB; have HO_11 := n0_; have HO_171001 := n1_; have BK170 := n2_; have BK171 := n3_; have HB := n4_; have BK184 := n5_; have GW184 := n6_; have GE184 := n7_; have NB170_184 := n8_; have NB184_170 := n9_; have NB171_184 := n10_; have NB184_171 := n11_; clear n0_ n1_ n2_ n3_ n4_ n5_ n6_ n7_ n8_ n9_ n10_ n11_; clear hb hbox hg; have hnb53 := NB184_170.out; have hnc53 := NB170_184.out; have hnb54 := NB184_171.out; have hnc54 := NB171_184.out; have hcz55_0 : w52.cell? ⟨gb184, 0, none⟩ = some (.int .i64 0) := (blk_cell BK184.out 0).trans rfl; have hcz55_1 : w52.cell? ⟨gb184, 1, none⟩ = some (.slice none 0 0) := (blk_cell BK184.out 1).trans rfl; have hfz55_0 := blk_frozen BK184.out 0; have hfz55_1 := blk_frozen BK184.out 1) | ((with_reducible refine gate_store (t := 77) (p := 15) rfl ?_); refine store_event (t := 77) (p := 15) (v := ?vo_w56) (w1 := ((w52.setCell ⟨gb184, 0, none⟩ (.int .i64 a0_0)).setCell ⟨gb184, 1, none⟩ (.slice none 0 0))) ?hg ?ho ?hn ?hr ?_; (case ho => rfl); (case hg => rfl); (case hn => rfl); (case hr => first | (go_simp; done) | (go_simp; rfl)); intro w56 hw; have n0_ : Aside0 (Kd.R k144 144 w56 w.heap.size (fun k_ => (w.heap.size ≤ k_)) u11 x11_3) := ⟨(by rw [hw]; exact (by (with_reducible repeat (first | apply Kd.R_alloc | apply Kd.R_drewN | apply Kd.R_drew)); exact Kd.R_mono (Kd.R_far (p := ⟨gb184, 1, none⟩) (Kd.R_far (p := ⟨gb184, 0, none⟩) (Kd.R_types HO_11.out BK184.out q6_21) (fun _ hk => hk.2) (.int .i64 a0_0)) (fun _ hk => hk.2) (.slice none 0 0)) (fun _ hk => hk.1)))⟩; have n1_ : Aside0 (Kd.V k144 144 w56 w.heap.size (fun k_ => (P0_1_ k_ ∨ w.heap.size ≤ k_) ∧ some k_ ≠ (u11 : Value).ownBlock ∧ k_ ≠ gb170 ∧ k_ ≠ gb171 ∧ k_ ≠ gb184) (.slice A0_1 l0_1.length c0_1) l0_1) := ⟨(by rw [hw]; exact (by (with_reducible repeat (first | apply Kd.V_alloc | apply Kd.V_drewN | apply Kd.V_drew)); exact Kd.V_mono (Kd.V_far (p := ⟨gb184, 1, none⟩) (Kd.V_far (p := ⟨gb184, 0, none⟩) (Kd.V_mono HO_171001.out (fun k_ hk => (⟨hk, hk.2⟩ : _ ∧ k_ ≠ gb184))) (fun _ hk => hk.2) (.int .i64 a0_0)) (fun _ hk => hk.2) (.slice none 0 0)) (fun _ hk => ⟨hk.1.1.1, ⟨hk.1.1.2.1, ⟨hk.1.1.2.2.1, ⟨hk.1.1.2.2.2, hk.1.2⟩⟩⟩⟩)))⟩; have n2_ : Aside0 (w56.heap[gb170]? = some (.cells #[.int .i64 a0_0, .slice A0_1 l0_1.length c0_1] 77 (0, 0))) := ⟨(by rw [hw]; exact (by (with_reducible repeat (first | refine blk_drewN ?_ _ | refine blk_drew ?_ | refine blk_alloc ?_ _)); refine blk_far ?_ NB170_184.out _; (with_reducible repeat (first | refine blk_drewN ?_ _ | refine blk_drew ?_ | refine blk_alloc ?_ _)); refine blk_far ?_ NB170_184.out _; (with_reducible repeat (first | refine blk_drewN ?_ _ | refine blk_drew ?_ | refine blk_alloc ?_ _)); exact BK170.out))⟩; have n3_ : Aside0 (w56.heap[gb171]? = some (.cells #[.int .i64 0, .slice none 0 0] 77 (0, 0))) := ⟨(by rw [hw]; exact (by (with_reducible repeat (first | refine blk_drewN ?_ _ | refine blk_drew ?_ | refine blk_alloc ?_ _)); refine blk_far ?_ NB171_184.out _; (with_reducible repeat (first | refine blk_drewN ?_ _ | refine blk_drew ?_ | refine blk_alloc ?_ _)); refine blk_far ?_ NB171_184.out _; (with_reducible repeat (first | refine blk_drewN ?_ _ | refine blk_drew ?_ | refine blk_alloc ?_ _)); exact BK171.out))⟩; have n4_ : Aside0 (w56.heap[gb184]? = some (.cells #[.int .i64 a0_0, .slice none 0 0] 77 (0, 0))) := ⟨(by rw [hw]; exact (by (with_reducible repeat (first | refine blk_drewN ?_ _ | refine blk_drew ?_ | refine blk_alloc ?_ _)); refine blk_put (cs := #[.int .i64 a0_0, .slice none 0 0]) ?_ 1 _ rfl; (with_reducible repeat (first | refine blk_drewN ?_ _ | refine blk_drew ?_ | refine blk_alloc ?_ _)); refine blk_put (cs := #[.int .i64 0, .slice none 0 0]) ?_ 0 _ rfl; (with_reducible repeat (first | refine blk_drewN ?_ _ | refine blk_drew ?_ | refine blk_alloc ?_ _)); exact BK184.out))⟩; have n5_ : Aside0 (Below w.heap.size w w56) := ⟨(by rw [hw]; exact q6_1)⟩; clear hw HO_11 HO_171001 BK170 BK171 BK184 HB; have HO_11 := n0_; have HO_171001 := n1_; have BK170 := n2_; have BK171 := n3_; have BK184 := n4_; have HB := n5_; clear n0_ n1_ n2_ n3_ n4_ n5_))
            go_loopg [16] k3 (fun kq v16 w' => ∃ (x16_4 : List Int) (x185000_4 : Int), Aside0 (batonref32_Take.l1 kq a3 x11_3 x16_4 a0_0 l0_1 x185000_4 = some (r1, r2, r3, r4)) ∧ Aside0 (kq ≤ k3) ∧ Aside0 (Kd.R k144 144 w' w.heap.size (fun k_ => (w.heap.size ≤ k_)) u11 x11_3) ∧ Aside0 (Kd.R (Kd.int .u8) 5 w' w.heap.size (fun k_ => (w.heap.size ≤ k_)) v16 x16_4) ∧ Aside0 (Kd.V k144 144 w' w.heap.size (fun k_ => (P0_1_ k_ ∨ w.heap.size ≤ k_) ∧ some k_ ≠ (u11 : Value).ownBlock ∧ some k_ ≠ (v16 : Value).ownBlock ∧ k_ ≠ gb170 ∧ k_ ≠ gb171 ∧ k_ ≠ gb184) (.slice A0_1 l0_1.length c0_1) l0_1) ∧ Aside0 (w'.heap[gb170]? = some (.cells #[.int .i64 a0_0, (.slice A0_1 l0_1.length c0_1)] 77 (0, 0))) ∧ Aside0 (w'.heap[gb171]? = some (.cells #[.int .i64 0, (.slice none 0 0)] 77 (0, 0))) ∧ Aside0 (w'.heap[gb184]? = some (.cells #[.int .i64 x185000_4, (.slice none 0 0)] 77 (0, 0))) ∧ Aside0 (Below w.heap.size w w'))
            case atStart => exact ⟨(([] : List Int)), (a0_0), H', ⟨Nat.le_refl _⟩, ⟨by (with_reducible repeat (first | apply Kd.R_alloc | apply Kd.R_drewN | apply Kd.R_drew)); exact HO_11.out⟩, ⟨by first | exact Kd.R_nil _ _ _ _ _ | exact Kd.N_nil _ _ _ _ _ | exact Kd.V_nil _ _ _ _ _ | exact Kd.Q_nil _ _ _ _ _ | exact Kd.S_nil _ _ _ _ _⟩, ⟨by (with_reducible repeat (first | apply Kd.V_alloc | apply Kd.V_drewN | apply Kd.V_drew)); exact Kd.V_mono HO_171001.out (fun _ hk => ⟨hk.1, ⟨hk.2.1, ⟨(by simp [Value.ownBlock]), ⟨hk.2.2.1, ⟨hk.2.2.2.1, hk.2.2.2.2⟩⟩⟩⟩⟩)⟩, ⟨by (with_reducible repeat (first | refine blk_drewN ?_ _ | refine blk_drew ?_ | refine blk_alloc ?_ _)); exact BK170.out⟩, ⟨by (with_reducible repeat (first | refine blk_drewN ?_ _ | refine blk_drew ?_ | refine blk_alloc ?_ _)); exact BK171.out⟩, ⟨by (with_reducible repeat (first | refine blk_drewN ?_ _ | refine blk_drew ?_ | refine blk_alloc ?_ _)); exact BK184.out⟩, ⟨by repeat (first | (with_reducible first | exact HB.out | apply below_alloc | apply pw_below_drewN | apply below_drew1 | refine below_set ?_ GE170.out | refine below_set ?_ GE171.out | refine below_set ?_ GE184.out) | exact HB.out)⟩⟩
            case round =>
             clear H'
             try clear c1
             try clear p1
             try clear q1
             try clear hx1
             try clear c2
             try clear p2
             try clear c3
             try clear c4
             try clear c5
             try clear c5b0
             try clear p6
             try clear c7
             try clear c8
             try clear c15
             try clear c15b0
             try clear c15b1
             try clear c15b2
             try clear c16
             try clear c17
             try clear p18
             try clear q18
             try clear hx18
             try clear c22
             try clear c22b0
             try clear c22b1
             try clear c22b2
             try clear c23
             try clear c25
             try clear c26
             try clear c30
             try clear c33
             try clear c36
             try clear c36b0
             try clear c38
             try clear c40
             try clear c40b0
             try clear c41
             try clear c41b0
             try clear c42
             try clear c44
             try clear c48
             try clear c50
             try clear c53
             try clear c54
             try clear hcz10_0
             try clear hcz10_1
             try clear hcz18_0
             try clear hcz18_1
             try clear hcz19_0
             try clear hcz19_1
             try clear hcz24_0
             try clear hcz24_1
             try clear hcz27_0
             try clear hcz27_1
             try clear hcz28_0
             try clear hcz28_1
             try clear hcz34_0
             try clear hcz34_1
             try clear hcz45_0
             try clear hcz45_1
             try clear hcz49_0
             try clear hcz49_1
             try clear hcz51_0
             try clear hcz51_1
             try clear hcz55_0
             try clear hcz55_1
             try clear hcz9_0
             try clear hcz9_1
             try clear hfz10_0
             try clear hfz10_1
             try clear hfz18_0
             try clear hfz18_1
             try clear hfz19_0
             try clear hfz19_1
             try clear hfz24_0
             try clear hfz24_1
             try clear hfz27_0
             try clear hfz27_1
             try clear hfz28_0
             try clear hfz28_1
             try clear hfz34_0
             try clear hfz34_1
             try clear hfz45_0
             try clear hfz45_1
             try clear hfz49_0
             try clear hfz49_1
             try clear hfz51_0
             try clear hfz51_1
             try clear hfz55_0
             try clear hfz55_1
             try clear hfz9_0
             try clear hfz9_1
             try clear hx180_0
             try clear p180
             try clear p2
             try clear p6
             try clear q180
             obtain ⟨x16_4, x185000_4, HA, HK4, HO_11, HO_16, HO_171001, BK170, BK171, BK184, HB⟩ := hrel
             cases gk with
             | zero => exact absurd HA.out (by simp [batonref32_Take.l1])
             | succ k4 =>
              have H := HA.out
              clear HA
              simp only [batonref32_Take.l1] at H
              replace H := Option.bind_eq_some_iff.mp H
              obtain ⟨⟨t185, t186⟩, A570, H⟩ := H
              replace H : (if t186 = true then (if x16_4.length < 140737488355328 then (batonref32_Take.l1 k4 a3 x11_3 (x16_4 ++ [t185]) a0_0 l0_1 (wrap64 (x185000_4 + 1))) else (none)) else (if (x16_4.length : Int) > a3 then (some (a0_0, l0_1, ([] : List Int), 2)) else (batonref32_Take.l2 k4 x11_3 x16_4 x185000_4 x185000_4 ([] : List (S144))))) = some (r1, r2, r3, r4) := H
              have A57 := Aside0.mk A570
              clear A570
              by_cases c58 : t186 = true
              ·subst c58
               have H1 : (if x16_4.length < 140737488355328 then (batonref32_Take.l1 k4 a3 x11_3 (x16_4 ++ [t185]) a0_0 l0_1 (wrap64 (x185000_4 + 1))) else (none)) = some (r1, r2, r3, r4) := by rw [if_pos rfl] at H; exact H
               clear H
               have H := H1
               clear H1
               by_cases c59 : x16_4.length < 140737488355328
               ·rw [if_pos c59] at H
                have LMc59 := Aside0.mk c59
                clear c59
                obtain ⟨y187, hy187⟩ : ∃ y_ : List Int, y_ = (x16_4 ++ [t185]) := ⟨_, rfl⟩
                replace H : (batonref32_Take.l1 k4 a3 x11_3 y187 a0_0 l0_1 (wrap64 (x185000_4 + 1))) = some (r1, r2, r3, r4) := by first | (rw [hy187]; with_reducible exact H) | (have H2_ := (Option.bind_some _ _).symm.trans H; rw [hy187]; with_reducible exact H2_) | (have H2_ := (Option.bind_some _ _).symm.trans H; with_reducible exact H2_) | with_reducible exact H | (rw [hy187]; exact H) | exact H
                have Ny187 := Aside0.mk hy187
                clear hy187
                have H' := Aside0.mk H
                clear H
                have hnb60 := NB184_170.out
                have hnc60 := NB170_184.out
                have hnb61 := NB184_171.out
                have hnc61 := NB171_184.out
                have hcz62_0 : wr.cell? ⟨gb184, 0, none⟩ = some (.int .i64 x185000_4) := (blk_cell BK184.out 0).trans rfl
                have hcz62_1 : wr.cell? ⟨gb184, 1, none⟩ = some (.slice none 0 0) := (blk_cell BK184.out 1).trans rfl
                have hfz62_0 := blk_frozen BK184.out 0
                have hfz62_1 := blk_frozen BK184.out 1
                obtain ⟨Ao63, co63, eo63⟩ := Kd.R_slice HO_11.out
                subst eo63
                go_wp2_with (first | ((with_reducible refine gate_callee (f := 75) rfl ?_); refine goesL_ (some 97) rfl rfl Try.func75 (by kernel_rfl) rfl #[.slice Ao63 x11_3.length co63, .int .i64 x185000_4] rfl q6_7 ?_; (with_reducible refine (batonref32_find.calls k4 _ _ x11_3 x185000_4 t185 true _ ?side1 ?side2 A57.out).mono ?_); (case side1 => repeat (first | exact (Kd.R_reads' HO_11.out).2.2 | (with_reducible refine Kd.C_alloc ?_ _) | (with_reducible refine Kd.C_drewN ?_ _) | (with_reducible refine Kd.C_drew ?_))); (case side2 => exact (Kd.R_reads' HO_11.out).2.1); rintro e w' ⟨rfl, ⟨nd, rfl⟩⟩; refine ⟨_, rfl, ?_⟩; (try (rw [drewN_self wr]; generalize hq_ : World.drewN wr _ = wr; have n0_ : Aside0 (Kd.R k144 144 wr w.heap.size (fun k_ => (w.heap.size ≤ k_)) (.slice Ao63 x11_3.length co63) x11_3) := ⟨by rw [← hq_]; exact q6_9⟩; have n1_ : Aside0 (Kd.R (Kd.int .u8) 5 wr w.heap.size (fun k_ => (w.heap.size ≤ k_)) u16 x16_4) := ⟨by rw [← hq_]; exact q6_12⟩; have n2_ : Aside0 (Kd.V k144 144 wr w.heap.size (fun k_ => (P0_1_ k_ ∨ w.heap.size ≤ k_) ∧ some k_ ≠ (.slice Ao63 x11_3.length co63 : Value).ownBlock ∧ some k_ ≠ (u16 : Value).ownBlock ∧ k_ ≠ gb170 ∧ k_ ≠ gb171 ∧ k_ ≠ gb184) (.slice A0_1 l0_1.length c0_1) l0_1) := ⟨by rw [← hq_]; exact q6_11⟩; have n3_ : Aside0 (wr.heap[gb170]? = some (.cells #[.int .i64 a0_0, .slice A0_1 l0_1.length c0_1] 77 (0, 0))) := ⟨by rw [← hq_]; exact q6_3⟩; have n4_ : Aside0 (wr.heap[gb171]? = some (.cells #[.int .i64 0, .slice none 0 0] 77 (0, 0))) := ⟨by rw [← hq_]; exact q6_4⟩; have n5_ : Aside0 (wr.heap[gb184]? = some (.cells #[.int .i64 x185000_4, .slice none 0 0] 77 (0, 0))) := ⟨by rw [← hq_]; exact q6_13⟩; have n6_ : Aside0 (Below w.heap.size w wr) := ⟨by rw [← hq_]; exact q6_1⟩; clear HO_11 HO_16 HO_171001 BK170 BK171 BK184 HB hq_; have HO_11 := n0_; have HO_16 := n1_; have HO_171001 := n2_; have BK170 := n3_; have BK171 := n4_; have BK184 := n5_; have HB := n6_; clear n0_ n1_ n2_ n3_ n4_ n5_ n6_))) | ((with_reducible refine gate_builtin (b := .append) (xs := #[.tmp 102, .tmp 104]) rfl ?_); (try (refine gate_guard (by rfl) ?_; dsimp only)); at_builtin; refine Kd.R_append (Kd.int .u8) (w0 := w) w.heap.size rfl (.tmp 102) (.tmp 104) 22 5 (.int .u8 0) 1 rfl Try.underlying22 info5 rfl q6_21 (by omega) u16 x16_4 t185 [.int .u8 t185] (fun k_ => (w.heap.size ≤ k_)) (fun _ => False) rfl rfl ?aP (fun _ hk => hk.elim) ?aF ?aO ?aB ?aS ?aL ?_; (case aP => exact rfl); (case aB => exact q6_1); (case aF => exact (fun k_ hk => (Nat.le_trans (below_size q6_1) hk))); (case aO => exact q6_12); (case aS => exact (below_size q6_1)); (case aL => have := LMc59.out; omega); intro v188 w64 ho hb hg hat; rw [← Ny187.out] at ho; have n0_ := Aside0.mk (Kd.R_over' q6_9 (Kd.R_typed q6_12) q6_21 hg); have n1_ := Aside0.mk (Kd.V_afterv (ok := (fun k_ => (P0_1_ k_ ∨ w.heap.size ≤ k_) ∧ some k_ ≠ (.slice Ao63 x11_3.length co63 : Value).ownBlock ∧ k_ ≠ gb170 ∧ k_ ≠ gb171 ∧ k_ ≠ gb184)) (by (with_reducible repeat (first | apply Kd.V_alloc | apply Kd.V_drewN | apply Kd.V_drew)); exact Kd.V_mono HO_171001.out (fun _ hk => ⟨⟨hk.1, ⟨hk.2.1, ⟨hk.2.2.2.1, ⟨hk.2.2.2.2.1, hk.2.2.2.2.2⟩⟩⟩⟩, hk.2.2.1⟩)) hg hat); have n2_ := Aside0.mk (blk_grown (g := gb170) (o := .cells #[.int .i64 a0_0, .slice A0_1 l0_1.length c0_1] 77 (0, 0)) q6_3 hg (Kd.R_ne HO_16.out BK170.out q6_21)); have n3_ := Aside0.mk (blk_grown (g := gb171) (o := .cells #[.int .i64 0, .slice none 0 0] 77 (0, 0)) q6_4 hg (Kd.R_ne HO_16.out BK171.out q6_21)); have n4_ := Aside0.mk (blk_grown (g := gb184) (o := .cells #[.int .i64 x185000_4, .slice none 0 0] 77 (0, 0)) q6_13 hg (Kd.R_ne HO_16.out BK184.out q6_21)); have n5_ := Aside0.mk (hb); have n6_ := Aside0.mk (ho); clear HO_11 HO_171001 BK170 BK171 BK184 HB HO_16; have HO_11 := n0_; have HO_171001 := n1_; have BK170 := n2_; have BK171 := n3_; have BK184 := n4_; have HB := n5_; have HO189 := n6_; clear n0_ n1_ n2_ n3_ n4_ n5_ n6_; clear ho hb hg hat; have hcz65_0 : w64.cell? ⟨gb184, 0, none⟩ = some (.int .i64 x185000_4) := (blk_cell BK184.out 0).trans rfl; have hcz65_1 : w64.cell? ⟨gb184, 1, none⟩ = some (.slice none 0 0) := (blk_cell BK184.out 1).trans rfl; have hfz65_0 := blk_frozen BK184.out 0; have hfz65_1 := blk_frozen BK184.out 1) | ((with_reducible refine gate_store (t := 3) (p := 109) rfl ?_); refine store_event (t := 3) (p := 109) (v := ?vo_w66) (w1 := (w64.setCell ⟨gb184, 0, none⟩ (.int .i64 (wrap64 (x185000_4 + 1))))) ?hg ?ho ?hn ?hr ?_; (case ho => rfl); (case hg => rfl); (case hn => rfl); (case hr => first | (go_simp; done) | (go_simp; rfl)); intro w66 hw; have n0_ : Aside0 (Kd.R k144 144 w66 w.heap.size (fun k_ => (w.heap.size ≤ k_)) (.slice Ao63 x11_3.length co63) x11_3) := ⟨(by rw [hw]; exact (by (with_reducible repeat (first | apply Kd.R_alloc | apply Kd.R_drewN | apply Kd.R_drew)); exact Kd.R_mono (Kd.R_far (p := ⟨gb184, 0, none⟩) (Kd.R_types HO_11.out BK184.out q6_21) (fun _ hk => hk.2) (.int .i64 (wrap64 (x185000_4 + 1)))) (fun _ hk => hk.1)))⟩; have n1_ : Aside0 (Kd.V k144 144 w66 w.heap.size (fun k_ => (P0_1_ k_ ∨ w.heap.size ≤ k_) ∧ some k_ ≠ (.slice Ao63 x11_3.length co63 : Value).ownBlock ∧ some k_ ≠ (v188 : Value).ownBlock ∧ k_ ≠ gb170 ∧ k_ ≠ gb171 ∧ k_ ≠ gb184) (.slice A0_1 l0_1.length c0_1) l0_1) := ⟨(by rw [hw]; exact (by (with_reducible repeat (first | apply Kd.V_alloc | apply Kd.V_drewN | apply Kd.V_drew)); exact Kd.V_mono (Kd.V_far (p := ⟨gb184, 0, none⟩) (Kd.V_mono HO_171001.out (fun k_ hk => (⟨hk, hk.1.2.2.2.2⟩ : _ ∧ k_ ≠ gb184))) (fun _ hk => hk.2) (.int .i64 (wrap64 (x185000_4 + 1)))) (fun _ hk => ⟨hk.1.1.1, ⟨hk.1.1.2.1, ⟨hk.1.2, ⟨hk.1.1.2.2.1, ⟨hk.1.1.2.2.2.1, hk.1.1.2.2.2.2⟩⟩⟩⟩⟩)))⟩; have n2_ : Aside0 (Kd.R (Kd.int .u8) 5 w66 w.heap.size (fun k_ => (w.heap.size ≤ k_)) v188 y187) := ⟨(by rw [hw]; exact (by (with_reducible repeat (first | apply Kd.R_alloc | apply Kd.R_drewN | apply Kd.R_drew)); exact Kd.R_mono (Kd.R_far (p := ⟨gb184, 0, none⟩) (Kd.R_types HO189.out BK184.out q6_21) (fun _ hk => hk.2) (.int .i64 (wrap64 (x185000_4 + 1)))) (fun _ hk => hk.1)))⟩; have n3_ : Aside0 (w66.heap[gb170]? = some (.cells #[.int .i64 a0_0, .slice A0_1 l0_1.length c0_1] 77 (0, 0))) := ⟨q6_19⟩; have n4_ : Aside0 (w66.heap[gb171]? = some (.cells #[.int .i64 0, .slice none 0 0] 77 (0, 0))) := ⟨q6_18⟩; have n5_ : Aside0 (w66.heap[gb184]? = some (.cells #[.int .i64 (wrap64 (x185000_4 + 1)), .slice none 0 0] 77 (0, 0))) := ⟨(by rw [hw]; exact (by (with_reducible repeat (first | refine blk_drewN ?_ _ | refine blk_drew ?_ | refine blk_alloc ?_ _)); refine blk_put (cs := #[.int .i64 x185000_4, .slice none 0 0]) ?_ 0 _ rfl; (with_reducible repeat (first | refine blk_drewN ?_ _ | refine blk_drew ?_ | refine blk_alloc ?_ _)); exact BK184.out))⟩; have n6_ : Aside0 (Below w.heap.size w w66) := ⟨(by rw [hw]; exact q6_1)⟩; clear hw HO_11 HO_171001 HO189 BK170 BK171 BK184 HB; have HO_11 := n0_; have HO_171001 := n1_; have HO189 := n2_; have BK170 := n3_; have BK171 := n4_; have BK184 := n5_; have HB := n6_; clear n0_ n1_ n2_ n3_ n4_ n5_ n6_))
                go_roundg k4
                case measure => have := HJ11.out; have := HJ20.out; have := HK3.out; have := HK4.out; omega
                case rel => exact ⟨(y187), (wrap64 (x185000_4 + 1)), H', ⟨by have := HJ11.out; have := HJ20.out; have := HK3.out; have := HK4.out; omega⟩, ⟨by (with_reducible repeat (first | apply Kd.R_alloc | apply Kd.R_drewN | apply Kd.R_drew)); exact HO_11.out⟩, ⟨by (with_reducible repeat (first | apply Kd.R_alloc | apply Kd.R_drewN | apply Kd.R_drew)); exact HO189.out⟩, ⟨by (with_reducible repeat (first | apply Kd.V_alloc | apply Kd.V_drewN | apply Kd.V_drew)); exact HO_171001.out⟩, ⟨by (with_reducible repeat (first | refine blk_drewN ?_ _ | refine blk_drew ?_ | refine blk_alloc ?_ _)); exact BK170.out⟩, ⟨by (with_reducible repeat (first | refine blk_drewN ?_ _ | refine blk_drew ?_ | refine blk_alloc ?_ _)); exact BK171.out⟩, ⟨by (with_reducible repeat (first | refine blk_drewN ?_ _ | refine blk_drew ?_ | refine blk_alloc ?_ _)); exact BK184.out⟩, ⟨by repeat (first | (with_reducible first | exact HB.out | apply below_alloc | apply pw_below_drewN | apply below_drew1 | refine below_set ?_ GE170.out | refine below_set ?_ GE171.out | refine below_set ?_ GE184.out) | exact HB.out)⟩⟩
               ·rw [if_neg c59] at H
                exact absurd H (by simp)
              ·replace c58 := Bool.eq_false_iff.mpr c58
               subst c58
               have H1 : (if (x16_4.length : Int) > a3 then (some (a0_0, l0_1, ([] : List Int), 2)) else (batonref32_Take.l2 k4 x11_3 x16_4 x185000_4 x185000_4 ([] : List (S144)))) = some (r1, r2, r3, r4) := by rw [if_neg (show ¬ (false = true) by decide)] at H; exact H
               clear H
               have H := H1
               clear H1
               by_cases c67 : (x16_4.length : Int) > a3
               ·rw [if_pos c67] at H
                have c67b0 : decide (a3 < (x16_4.length : Int)) = true := decide_eq_true c67
                clear c67
                simp only [Option.some.injEq, Prod.mk.injEq] at H
                obtain ⟨rfl, rfl, rfl, rfl⟩ := H
                have hnb68 := NB184_170.out
                have hnc68 := NB170_184.out
                have hnb69 := NB184_171.out
                have hnc69 := NB171_184.out
                have hcz70_0 : wr.cell? ⟨gb184, 0, none⟩ = some (.int .i64 x185000_4) := (blk_cell BK184.out 0).trans rfl
                have hcz70_1 : wr.cell? ⟨gb184, 1, none⟩ = some (.slice none 0 0) := (blk_cell BK184.out 1).trans rfl
                have hfz70_0 := blk_frozen BK184.out 0
                have hfz70_1 := blk_frozen BK184.out 1
                obtain ⟨Ao71, co71, eo71⟩ := Kd.R_slice HO_11.out
                subst eo71
                go_wp2_with (first | ((with_reducible refine gate_callee (f := 75) rfl ?_); refine goesL_ (some 97) rfl rfl Try.func75 (by kernel_rfl) rfl #[.slice Ao71 x11_3.length co71, .int .i64 x185000_4] rfl q6_7 ?_; (with_reducible refine (batonref32_find.calls k4 _ _ x11_3 x185000_4 t185 false _ ?side1 ?side2 A57.out).mono ?_); (case side1 => repeat (first | exact (Kd.R_reads' HO_11.out).2.2 | (with_reducible refine Kd.C_alloc ?_ _) | (with_reducible refine Kd.C_drewN ?_ _) | (with_reducible refine Kd.C_drew ?_))); (case side2 => exact (Kd.R_reads' HO_11.out).2.1); rintro e w' ⟨rfl, ⟨nd, rfl⟩⟩; refine ⟨_, rfl, ?_⟩; (try (rw [drewN_self wr]; generalize hq_ : World.drewN wr _ = wr; have n0_ : Aside0 (Kd.R k144 144 wr w.heap.size (fun k_ => (w.heap.size ≤ k_)) (.slice Ao71 x11_3.length co71) x11_3) := ⟨by rw [← hq_]; exact q6_9⟩; have n1_ : Aside0 (Kd.R (Kd.int .u8) 5 wr w.heap.size (fun k_ => (w.heap.size ≤ k_)) u16 x16_4) := ⟨by rw [← hq_]; exact q6_12⟩; have n2_ : Aside0 (Kd.V k144 144 wr w.heap.size (fun k_ => (P0_1_ k_ ∨ w.heap.size ≤ k_) ∧ some k_ ≠ (.slice Ao71 x11_3.length co71 : Value).ownBlock ∧ some k_ ≠ (u16 : Value).ownBlock ∧ k_ ≠ gb170 ∧ k_ ≠ gb171 ∧ k_ ≠ gb184) (.slice A0_1 l0_1.length c0_1) l0_1) := ⟨by rw [← hq_]; exact q6_11⟩; have n3_ : Aside0 (wr.heap[gb170]? = some (.cells #[.int .i64 a0_0, .slice A0_1 l0_1.length c0_1] 77 (0, 0))) := ⟨by rw [← hq_]; exact q6_3⟩; have n4_ : Aside0 (wr.heap[gb171]? = some (.cells #[.int .i64 0, .slice none 0 0] 77 (0, 0))) := ⟨by rw [← hq_]; exact q6_4⟩; have n5_ : Aside0 (wr.heap[gb184]? = some (.cells #[.int .i64 x185000_4, .slice none 0 0] 77 (0, 0))) := ⟨by rw [← hq_]; exact q6_13⟩; have n6_ : Aside0 (Below w.heap.size w wr) := ⟨by rw [← hq_]; exact q6_1⟩; clear HO_11 HO_16 HO_171001 BK170 BK171 BK184 HB hq_; have HO_11 := n0_; have HO_16 := n1_; have HO_171001 := n2_; have BK170 := n3_; have BK171 := n4_; have BK184 := n5_; have HB := n6_; clear n0_ n1_ n2_ n3_ n4_ n5_ n6_)); obtain ⟨Ao72, co72, eo72⟩ := Kd.R_slice HO_16.out; subst eo72; have hnb73 := NB170_171.out; have hnc73 := NB171_170.out; have hcz74_0 : wr.cell? ⟨gb170, 0, none⟩ = some (.int .i64 a0_0) := (blk_cell BK170.out 0).trans rfl; have hcz74_1 : wr.cell? ⟨gb170, 1, none⟩ = some (.slice A0_1 l0_1.length c0_1) := (blk_cell BK170.out 1).trans rfl; have hfz74_0 := blk_frozen BK170.out 0; have hfz74_1 := blk_frozen BK170.out 1; have hcz75_0 : wr.cell? ⟨gb171, 0, none⟩ = some (.int .i64 0) := (blk_cell BK171.out 0).trans rfl; have hcz75_1 : wr.cell? ⟨gb171, 1, none⟩ = some (.slice none 0 0) := (blk_cell BK171.out 1).trans rfl; have hfz75_0 := blk_frozen BK171.out 0; have hfz75_1 := blk_frozen BK171.out 1) | ((with_reducible refine gate_store (t := 77) (p := 8) rfl ?_); refine store_event (t := 77) (p := 8) (v := ?vo_w76) (w1 := ((wr.setCell ⟨gb171, 0, none⟩ (.int .i64 a0_0)).setCell ⟨gb171, 1, none⟩ (.slice A0_1 l0_1.length c0_1))) ?hg ?ho ?hn ?hr ?_; (case ho => rfl); (case hg => rfl); (case hn => rfl); (case hr => first | (go_simp; done) | (go_simp; rfl)); intro w76 hw; have n0_ : Aside0 (Kd.R k144 144 w76 w.heap.size (fun k_ => (w.heap.size ≤ k_)) (.slice Ao71 x11_3.length co71) x11_3) := ⟨(by rw [hw]; exact (by (with_reducible repeat (first | apply Kd.R_alloc | apply Kd.R_drewN | apply Kd.R_drew)); exact Kd.R_mono (Kd.R_far (p := ⟨gb171, 1, none⟩) (Kd.R_far (p := ⟨gb171, 0, none⟩) (Kd.R_types HO_11.out BK171.out q6_21) (fun _ hk => hk.2) (.int .i64 a0_0)) (fun _ hk => hk.2) (.slice A0_1 l0_1.length c0_1)) (fun _ hk => hk.1)))⟩; have n1_ : Aside0 (Kd.R (Kd.int .u8) 5 w76 w.heap.size (fun k_ => (w.heap.size ≤ k_)) (.slice Ao72 x16_4.length co72) x16_4) := ⟨(by rw [hw]; exact (by (with_reducible repeat (first | apply Kd.R_alloc | apply Kd.R_drewN | apply Kd.R_drew)); exact Kd.R_mono (Kd.R_far (p := ⟨gb171, 1, none⟩) (Kd.R_far (p := ⟨gb171, 0, none⟩) (Kd.R_types HO_16.out BK171.out q6_21) (fun _ hk => hk.2) (.int .i64 a0_0)) (fun _ hk => hk.2) (.slice A0_1 l0_1.length c0_1)) (fun _ hk => hk.1)))⟩; have n2_ : Aside0 (Kd.V k144 144 w76 w.heap.size (fun k_ => (P0_1_ k_ ∨ w.heap.size ≤ k_) ∧ some k_ ≠ (.slice Ao71 x11_3.length co71 : Value).ownBlock ∧ some k_ ≠ (.slice Ao72 x16_4.length co72 : Value).ownBlock ∧ k_ ≠ gb170 ∧ k_ ≠ gb171 ∧ k_ ≠ gb184) (.slice A0_1 l0_1.length c0_1) l0_1) := ⟨(by rw [hw]; exact (by (with_reducible repeat (first | apply Kd.V_alloc | apply Kd.V_drewN | apply Kd.V_drew)); exact Kd.V_mono (Kd.V_far (p := ⟨gb171, 1, none⟩) (Kd.V_far (p := ⟨gb171, 0, none⟩) (Kd.V_mono HO_171001.out (fun k_ hk => (⟨hk, hk.2.2.2.2.1⟩ : _ ∧ k_ ≠ gb171))) (fun _ hk => hk.2) (.int .i64 a0_0)) (fun _ hk => hk.2) (.slice A0_1 l0_1.length c0_1)) (fun _ hk => ⟨hk.1.1, ⟨hk.1.2.1, ⟨hk.1.2.2.1, ⟨hk.1.2.2.2.1, ⟨hk.1.2.2.2.2.1, hk.1.2.2.2.2.2⟩⟩⟩⟩⟩)))⟩; have n3_ : Aside0 (w76.heap[gb170]? = some (.cells #[.int .i64 a0_0, .slice A0_1 l0_1.length c0_1] 77 (0, 0))) := ⟨q6_5⟩; have n4_ : Aside0 (w76.heap[gb171]? = some (.cells #[.int .i64 a0_0, .slice A0_1 l0_1.length c0_1] 77 (0, 0))) := ⟨q6_6⟩; have n5_ : Aside0 (w76.heap[gb184]? = some (.cells #[.int .i64 x185000_4, .slice none 0 0] 77 (0, 0))) := ⟨q6_16⟩; have n6_ : Aside0 (Below w.heap.size w w76) := ⟨(by rw [hw]; exact q6_1)⟩; clear hw HO_11 HO_16 HO_171001 BK170 BK171 BK184 HB; have HO_11 := n0_; have HO_16 := n1_; have HO_171001 := n2_; have BK170 := n3_; have BK171 := n4_; have BK184 := n5_; have HB := n6_; clear n0_ n1_ n2_ n3_ n4_ n5_ n6_))
                refine bodyPost_ret (results_ctt rfl _ _ gb171 77 #[.int .i64 a0_0, .slice A0_1 l0_1.length c0_1] (0, 0) _ rfl q6_4 Try.underlying77 rfl (by kernel_rfl)) rfl ?_
                exact ⟨_, _, by first | rfl | (simp [errW_none, errW_some] <;> rfl) | (simp [*, errW_none, errW_some] <;> rfl), by (with_reducible repeat (first | apply Kd.V_alloc | apply Kd.V_drewN | apply Kd.V_drew)); exact Kd.V_mono HO_171001.out (fun _ hk => ⟨hk.1, (by simp [Value.ownBlock])⟩), by first | exact Kd.R_nil _ _ _ _ _ | exact Kd.N_nil _ _ _ _ _ | exact Kd.V_nil _ _ _ _ _ | exact Kd.Q_nil _ _ _ _ _ | exact Kd.S_nil _ _ _ _ _, by repeat (first | (with_reducible first | exact HB.out | apply below_alloc | apply pw_below_drewN | apply below_drew1 | refine below_set ?_ GE170.out | refine below_set ?_ GE171.out | refine below_set ?_ GE184.out) | exact HB.out)⟩
               ·rw [if_neg c67] at H
                have c67b0 : decide (a3 < (x16_4.length : Int)) = false := decide_eq_false c67
                clear c67
                have H' := Aside0.mk H
                clear H
                have hnb77 := NB184_170.out
                have hnc77 := NB170_184.out
                have hnb78 := NB184_171.out
                have hnc78 := NB171_184.out
                have hcz79_0 : wr.cell? ⟨gb184, 0, none⟩ = some (.int .i64 x185000_4) := (blk_cell BK184.out 0).trans rfl
                have hcz79_1 : wr.cell? ⟨gb184, 1, none⟩ = some (.slice none 0 0) := (blk_cell BK184.out 1).trans rfl
                have hfz79_0 := blk_frozen BK184.out 0
                have hfz79_1 := blk_frozen BK184.out 1
                obtain ⟨Ao80, co80, eo80⟩ := Kd.R_slice HO_11.out
                subst eo80
                go_wp2_with (first | ((with_reducible refine gate_callee (f := 75) rfl ?_); refine goesL_ (some 97) rfl rfl Try.func75 (by kernel_rfl) rfl #[.slice Ao80 x11_3.length co80, .int .i64 x185000_4] rfl q6_7 ?_; (with_reducible refine (batonref32_find.calls k4 _ _ x11_3 x185000_4 t185 false _ ?side1 ?side2 A57.out).mono ?_); (case side1 => repeat (first | exact (Kd.R_reads' HO_11.out).2.2 | (with_reducible refine Kd.C_alloc ?_ _) | (with_reducible refine Kd.C_drewN ?_ _) | (with_reducible refine Kd.C_drew ?_))); (case side2 => exact (Kd.R_reads' HO_11.out).2.1); rintro e w' ⟨rfl, ⟨nd, rfl⟩⟩; refine ⟨_, rfl, ?_⟩; obtain ⟨Ao81, co81, eo81⟩ := Kd.R_slice HO_16.out; subst eo81))
                go_loopg [19] k4 (fun kq v19 w' => ∃ (x19_5 : Int) (x185001_5 : List (S144)) (u185001 : Value), v19 = .int .i64 x19_5 ∧ Aside0 (batonref32_Take.l2 kq x11_3 x16_4 x19_5 x185000_4 x185001_5 = some (r1, r2, r3, r4)) ∧ Aside0 (kq ≤ k4) ∧ Aside0 (Kd.R k144 144 w' w.heap.size (fun k_ => (w.heap.size ≤ k_) ∧ some k_ ≠ (u185001 : Value).ownBlock) (.slice Ao80 x11_3.length co80) x11_3) ∧ Aside0 (Kd.R (Kd.int .u8) 5 w' w.heap.size (fun k_ => (w.heap.size ≤ k_)) (.slice Ao81 x16_4.length co81) x16_4) ∧ Aside0 (Kd.V k144 144 w' w.heap.size (fun k_ => (P0_1_ k_ ∨ w.heap.size ≤ k_) ∧ some k_ ≠ ((.slice Ao80 x11_3.length co80) : Value).ownBlock ∧ some k_ ≠ ((.slice Ao81 x16_4.length co81) : Value).ownBlock ∧ some k_ ≠ (u185001 : Value).ownBlock ∧ k_ ≠ gb170 ∧ k_ ≠ gb171 ∧ k_ ≠ gb184) (.slice A0_1 l0_1.length c0_1) l0_1) ∧ Aside0 (Kd.R k144 144 w' w.heap.size (fun k_ => (w.heap.size ≤ k_) ∧ some k_ ≠ ((.slice Ao80 x11_3.length co80) : Value).ownBlock) u185001 x185001_5) ∧ Aside0 (w'.heap[gb170]? = some (.cells #[.int .i64 a0_0, (.slice A0_1 l0_1.length c0_1)] 77 (0, 0))) ∧ Aside0 (w'.heap[gb171]? = some (.cells #[.int .i64 0, (.slice none 0 0)] 77 (0, 0))) ∧ Aside0 (w'.heap[gb184]? = some (.cells #[.int .i64 x185000_4, u185001] 77 (0, 0))) ∧ Aside0 (Below w.heap.size w w'))
                case atStart => exact ⟨(x185000_4), (([] : List (S144))), (.slice none 0 0), q6_14, H', ⟨Nat.le_refl _⟩, ⟨by (with_reducible repeat (first | apply Kd.R_alloc | apply Kd.R_drewN | apply Kd.R_drew)); exact Kd.R_mono HO_11.out (fun _ hk => ⟨hk, (by simp [Value.ownBlock])⟩)⟩, ⟨by (with_reducible repeat (first | apply Kd.R_alloc | apply Kd.R_drewN | apply Kd.R_drew)); exact HO_16.out⟩, ⟨by (with_reducible repeat (first | apply Kd.V_alloc | apply Kd.V_drewN | apply Kd.V_drew)); exact Kd.V_mono HO_171001.out (fun _ hk => ⟨hk.1, ⟨hk.2.1, ⟨hk.2.2.1, ⟨(by simp [Value.ownBlock]), ⟨hk.2.2.2.1, ⟨hk.2.2.2.2.1, hk.2.2.2.2.2⟩⟩⟩⟩⟩⟩)⟩, ⟨by first | exact Kd.R_nil _ _ _ _ _ | exact Kd.N_nil _ _ _ _ _ | exact Kd.V_nil _ _ _ _ _ | exact Kd.Q_nil _ _ _ _ _ | exact Kd.S_nil _ _ _ _ _⟩, ⟨by (with_reducible repeat (first | refine blk_drewN ?_ _ | refine blk_drew ?_ | refine blk_alloc ?_ _)); exact BK170.out⟩, ⟨by (with_reducible repeat (first | refine blk_drewN ?_ _ | refine blk_drew ?_ | refine blk_alloc ?_ _)); exact BK171.out⟩, ⟨by (with_reducible repeat (first | refine blk_drewN ?_ _ | refine blk_drew ?_ | refine blk_alloc ?_ _)); exact BK184.out⟩, ⟨by repeat (first | (with_reducible first | exact HB.out | apply below_alloc | apply pw_below_drewN | apply below_drew1 | refine below_set ?_ GE170.out | refine below_set ?_ GE171.out | refine below_set ?_ GE184.out) | exact HB.out)⟩⟩
                case round =>
                 clear H'
                 try clear c1
                 try clear p1
                 try clear q1
                 try clear hx1
                 try clear c2
                 try clear p2
                 try clear c3
                 try clear c4
                 try clear c5
                 try clear c5b0
                 try clear c6
                 try clear p6
                 try clear c7
                 try clear c8
                 try clear c15
                 try clear c15b0
                 try clear c15b1
                 try clear c15b2
                 try clear c16
                 try clear c17
                 try clear p18
                 try clear q18
                 try clear hx18
                 try clear c22
                 try clear c22b0
                 try clear c22b1
                 try clear c22b2
                 try clear c23
                 try clear c25
                 try clear c26
                 try clear c30
                 try clear c33
                 try clear c36
                 try clear c36b0
                 try clear c38
                 try clear c40
                 try clear c40b0
                 try clear c41
                 try clear c41b0
                 try clear c42
                 try clear c44
                 try clear c48
                 try clear c50
                 try clear c53
                 try clear c54
                 try clear c58
                 try clear c59
                 try clear c60
                 try clear c61
                 try clear p64
                 try clear c67
                 try clear c67b0
                 try clear c68
                 try clear c69
                 try clear c73
                 try clear c75
                 try clear c77
                 try clear c78
                 try clear hcz10_0
                 try clear hcz10_1
                 try clear hcz18_0
                 try clear hcz18_1
                 try clear hcz19_0
                 try clear hcz19_1
                 try clear hcz24_0
                 try clear hcz24_1
                 try clear hcz27_0
                 try clear hcz27_1
                 try clear hcz28_0
                 try clear hcz28_1
                 try clear hcz34_0
                 try clear hcz34_1
                 try clear hcz45_0
                 try clear hcz45_1
                 try clear hcz49_0
                 try clear hcz49_1
                 try clear hcz51_0
                 try clear hcz51_1
                 try clear hcz55_0
                 try clear hcz55_1
                 try clear hcz62_0
                 try clear hcz62_1
                 try clear hcz65_0
                 try clear hcz65_1
                 try clear hcz70_0
                 try clear hcz70_1
                 try clear hcz74_0
                 try clear hcz74_1
                 try clear hcz75_0
                 try clear hcz75_1
                 try clear hcz79_0
                 try clear hcz79_1
                 try clear hcz9_0
                 try clear hcz9_1
                 try clear hfz10_0
                 try clear hfz10_1
                 try clear hfz18_0
                 try clear hfz18_1
                 try clear hfz19_0
                 try clear hfz19_1
                 try clear hfz24_0
                 try clear hfz24_1
                 try clear hfz27_0
                 try clear hfz27_1
                 try clear hfz28_0
                 try clear hfz28_1
                 try clear hfz34_0
                 try clear hfz34_1
                 try clear hfz45_0
                 try clear hfz45_1
                 try clear hfz49_0
                 try clear hfz49_1
                 try clear hfz51_0
                 try clear hfz51_1
                 try clear hfz55_0
                 try clear hfz55_1
                 try clear hfz62_0
                 try clear hfz62_1
                 try clear hfz65_0
                 try clear hfz65_1
                 try clear hfz70_0
                 try clear hfz70_1
                 try clear hfz74_0
                 try clear hfz74_1
                 try clear hfz75_0
                 try clear hfz75_1
                 try clear hfz79_0
                 try clear hfz79_1
                 try clear hfz9_0
                 try clear hfz9_1
                 try clear hx180_0
                 try clear p1
                 try clear p18
                 try clear p180
                 try clear p2
                 try clear p6
                 try clear q1
                 try clear q18
                 try clear q180
                 obtain ⟨x19_5, x185001_5, u185001, rfl, HA, HK5, HO_11, HO_16, HO_171001, HO_185001, BK170, BK171, BK184, HB⟩ := hrel
                 cases gk with
                 | zero => exact absurd HA.out (by simp [batonref32_Take.l2])
                 | succ k5 =>
                  have H := HA.out
                  clear HA
                  simp only [batonref32_Take.l2] at H
                  by_cases c82 : x19_5 < (wrap64 (x185000_4 + 64))
                  ·rw [if_pos c82] at H
                   have c82b0 : decide (x19_5 < (wrap64 (x185000_4 + 64))) = true := decide_eq_true c82
                   clear c82
                   replace H := Option.bind_eq_some_iff.mp H
                   obtain ⟨⟨t190, t191⟩, A830, H⟩ := H
                   replace H : (if t191 = true then (if x185001_5.length < 8796093022208 then (batonref32_Take.l2 k5 x11_3 x16_4 (wrap64 (x19_5 + 1)) x185000_4 (x185001_5 ++ [(⟨x19_5, t190⟩ : S144)])) else (none)) else (batonref32_Take.l2 k5 x11_3 x16_4 (wrap64 (x19_5 + 1)) x185000_4 x185001_5)) = some (r1, r2, r3, r4) := H
                   have A83 := Aside0.mk A830
                   clear A830
                   by_cases c84 : t191 = true
                   ·subst c84
                    have H1 : (if x185001_5.length < 8796093022208 then (batonref32_Take.l2 k5 x11_3 x16_4 (wrap64 (x19_5 + 1)) x185000_4 (x185001_5 ++ [(⟨x19_5, t190⟩ : S144)])) else (none)) = some (r1, r2, r3, r4) := by rw [if_pos rfl] at H; exact H
                    clear H
                    have H := H1
                    clear H1
                    by_cases c85 : x185001_5.length < 8796093022208
                    ·rw [if_pos c85] at H
                     have LMc85 := Aside0.mk c85
                     clear c85
                     obtain ⟨y192, hy192⟩ : ∃ y_ : List (S144), y_ = (x185001_5 ++ [(⟨x19_5, t190⟩ : S144)]) := ⟨_, rfl⟩
                     replace H : (batonref32_Take.l2 k5 x11_3 x16_4 (wrap64 (x19_5 + 1)) x185000_4 y192) = some (r1, r2, r3, r4) := by first | (rw [hy192]; with_reducible exact H) | (have H2_ := (Option.bind_some _ _).symm.trans H; rw [hy192]; with_reducible exact H2_) | (have H2_ := (Option.bind_some _ _).symm.trans H; with_reducible exact H2_) | with_reducible exact H | (rw [hy192]; exact H) | exact H
                     have Ny192 := Aside0.mk hy192
                     clear hy192
                     have H' := Aside0.mk H
                     clear H
                     have hnb86 := NB184_170.out
                     have hnc86 := NB170_184.out
                     have hnb87 := NB184_171.out
                     have hnc87 := NB171_184.out
                     have hcz88_0 : wr.cell? ⟨gb184, 0, none⟩ = some (.int .i64 x185000_4) := (blk_cell BK184.out 0).trans rfl
                     have hcz88_1 : wr.cell? ⟨gb184, 1, none⟩ = some (u185001) := (blk_cell BK184.out 1).trans rfl
                     have hfz88_0 := blk_frozen BK184.out 0
                     have hfz88_1 := blk_frozen BK184.out 1
                     go_wp2_with (first | ((with_reducible refine gate_callee (f := 75) rfl ?_); refine goesL_ (some 127) rfl rfl Try.func75 (by kernel_rfl) rfl #[.slice Ao80 x11_3.length co80, .int .i64 x19_5] rfl q6_7 ?_; (with_reducible refine (batonref32_find.calls k5 _ _ x11_3 x19_5 t190 true _ ?side1 ?side2 A83.out).mono ?_); (case side1 => repeat (first | exact (Kd.R_reads' HO_11.out).2.2 | (with_reducible refine Kd.C_alloc ?_ _) | (with_reducible refine Kd.C_drewN ?_ _) | (with_reducible refine Kd.C_drew ?_))); (case side2 => exact (Kd.R_reads' HO_11.out).2.1); rintro e w' ⟨rfl, ⟨nd, rfl⟩⟩; refine ⟨_, rfl, ?_⟩; (try (rw [drewN_self wr]; generalize hq_ : World.drewN wr _ = wr; have n0_ : Aside0 (Kd.R k144 144 wr w.heap.size (fun k_ => (w.heap.size ≤ k_) ∧ some k_ ≠ (u185001 : Value).ownBlock) (.slice Ao80 x11_3.length co80) x11_3) := ⟨by rw [← hq_]; exact q6_9⟩; have n1_ : Aside0 (Kd.R (Kd.int .u8) 5 wr w.heap.size (fun k_ => (w.heap.size ≤ k_)) (.slice Ao81 x16_4.length co81) x16_4) := ⟨by rw [← hq_]; exact q6_12⟩; have n2_ : Aside0 (Kd.V k144 144 wr w.heap.size (fun k_ => (P0_1_ k_ ∨ w.heap.size ≤ k_) ∧ some k_ ≠ (.slice Ao80 x11_3.length co80 : Value).ownBlock ∧ some k_ ≠ (.slice Ao81 x16_4.length co81 : Value).ownBlock ∧ some k_ ≠ (u185001 : Value).ownBlock ∧ k_ ≠ gb170 ∧ k_ ≠ gb171 ∧ k_ ≠ gb184) (.slice A0_1 l0_1.length c0_1) l0_1) := ⟨by rw [← hq_]; exact q6_11⟩; have n3_ : Aside0 (Kd.R k144 144 wr w.heap.size (fun k_ => (w.heap.size ≤ k_) ∧ some k_ ≠ (.slice Ao80 x11_3.length co80 : Value).ownBlock) u185001 x185001_5) := ⟨by rw [← hq_]; exact q6_20⟩; have n4_ : Aside0 (wr.heap[gb170]? = some (.cells #[.int .i64 a0_0, .slice A0_1 l0_1.length c0_1] 77 (0, 0))) := ⟨by rw [← hq_]; exact q6_3⟩; have n5_ : Aside0 (wr.heap[gb171]? = some (.cells #[.int .i64 0, .slice none 0 0] 77 (0, 0))) := ⟨by rw [← hq_]; exact q6_4⟩; have n6_ : Aside0 (wr.heap[gb184]? = some (.cells #[.int .i64 x185000_4, u185001] 77 (0, 0))) := ⟨by rw [← hq_]; exact q6_13⟩; have n7_ : Aside0 (Below w.heap.size w wr) := ⟨by rw [← hq_]; exact q6_1⟩; clear HO_11 HO_16 HO_171001 HO_185001 BK170 BK171 BK184 HB hq_; have HO_11 := n0_; have HO_16 := n1_; have HO_171001 := n2_; have HO_185001 := n3_; have BK170 := n4_; have BK171 := n5_; have BK184 := n6_; have HB := n7_; clear n0_ n1_ n2_ n3_ n4_ n5_ n6_ n7_)); have hcz89_0 : wr.cell? ⟨gb184, 0, none⟩ = some (.int .i64 x185000_4) := (blk_cell BK184.out 0).trans rfl; have hcz89_1 : wr.cell? ⟨gb184, 1, none⟩ = some (u185001) := (blk_cell BK184.out 1).trans rfl; have hfz89_0 := blk_frozen BK184.out 0; have hfz89_1 := blk_frozen BK184.out 1) | ((with_reducible refine gate_builtin (b := .append) (xs := #[.tmp 132, .tmp 136]) rfl ?_); (try (refine gate_guard (by rfl) ?_; dsimp only)); at_builtin; refine Kd.R_append k144 (w0 := w) w.heap.size rfl (.tmp 132) (.tmp 136) 75 144 (.agg #[(.int .i64 0), (.int .u8 0)]) 16 rfl Try.underlying75 info144 rfl q6_21 (by omega) u185001 x185001_5 (⟨x19_5, t190⟩ : S144) [.int .i64 x19_5, .int .u8 t190] (fun k_ => (w.heap.size ≤ k_) ∧ some k_ ≠ (.slice Ao80 x11_3.length co80 : Value).ownBlock) (fun _ => False) rfl rfl ?aP (fun _ hk => hk.elim) ?aF ?aO ?aB ?aS ?aL ?_; (case aP => exact k144_mkM _ _ _ (⟨x19_5, t190⟩ : S144)); (case aB => exact q6_1); (case aF => exact (fun k_ hk => ⟨(Nat.le_trans (below_size q6_1) hk), Kd.fresh' (Kd.R_lt q6_9) k_ hk⟩)); (case aO => exact q6_20); (case aS => exact (below_size q6_1)); (case aL => have := LMc85.out; omega); intro v193 w90 ho hb hg hat; rw [← Ny192.out] at ho; have n0_ := Aside0.mk (Kd.R_after (ok := (fun k_ => (w.heap.size ≤ k_))) q6_9 hg hat); have n1_ := Aside0.mk (Kd.R_over' q6_12 (Kd.R_typed q6_20) q6_21 hg); have n2_ := Aside0.mk (Kd.V_afterv (ok := (fun k_ => (P0_1_ k_ ∨ w.heap.size ≤ k_) ∧ some k_ ≠ (.slice Ao80 x11_3.length co80 : Value).ownBlock ∧ some k_ ≠ (.slice Ao81 x16_4.length co81 : Value).ownBlock ∧ k_ ≠ gb170 ∧ k_ ≠ gb171 ∧ k_ ≠ gb184)) (by (with_reducible repeat (first | apply Kd.V_alloc | apply Kd.V_drewN | apply Kd.V_drew)); exact Kd.V_mono HO_171001.out (fun _ hk => ⟨⟨hk.1, ⟨hk.2.1, ⟨hk.2.2.1, ⟨hk.2.2.2.2.1, ⟨hk.2.2.2.2.2.1, hk.2.2.2.2.2.2⟩⟩⟩⟩⟩, hk.2.2.2.1⟩)) hg hat); have n3_ := Aside0.mk (blk_grown (g := gb170) (o := .cells #[.int .i64 a0_0, .slice A0_1 l0_1.length c0_1] 77 (0, 0)) q6_3 hg (Kd.R_ne HO_185001.out BK170.out q6_21)); have n4_ := Aside0.mk (blk_grown (g := gb171) (o := .cells #[.int .i64 0, .slice none 0 0] 77 (0, 0)) q6_4 hg (Kd.R_ne HO_185001.out BK171.out q6_21)); have n5_ := Aside0.mk (blk_grown (g := gb184) (o := .cells #[.int .i64 x185000_4, u185001] 77 (0, 0)) q6_13 hg (Kd.R_ne HO_185001.out BK184.out q6_21)); have n6_ := Aside0.mk (hb); have n7_ := Aside0.mk (ho); clear HO_11 HO_16 HO_171001 BK170 BK171 BK184 HB HO_185001; have HO_11 := n0_; have HO_16 := n1_; have HO_171001 := n2_; have BK170 := n3_; have BK171 := n4_; have BK184 := n5_; have HB := n6_; have HO194 := n7_; clear n0_ n1_ n2_ n3_ n4_ n5_ n6_ n7_; clear ho hb hg hat; obtain ⟨Ao91, co91, eo91⟩ := Kd.R_slice HO194.out; subst eo91; have hcz92_0 : w90.cell? ⟨gb184, 0, none⟩ = some (.int .i64 x185000_4) := (blk_cell BK184.out 0).trans rfl; have hcz92_1 : w90.cell? ⟨gb184, 1, none⟩ = some (u185001) := (blk_cell BK184.out 1).trans rfl; have hfz92_0 := blk_frozen BK184.out 0; have hfz92_1 := blk_frozen BK184.out 1) | ((with_reducible refine gate_store (t := 75) (p := 138) rfl ?_); refine store_event (t := 75) (p := 138) (v := ?vo_w93) (w1 := (w90.setCell ⟨gb184, 1, none⟩ (.slice Ao91 y192.length co91))) ?hg ?ho ?hn ?hr ?_; (case ho => rfl); (case hg => rfl); (case hn => rfl); (case hr => first | (go_simp; done) | (go_simp; rfl)); intro w93 hw; have n0_ : Aside0 (Kd.R k144 144 w93 w.heap.size (fun k_ => (w.heap.size ≤ k_) ∧ some k_ ≠ (.slice Ao91 y192.length co91 : Value).ownBlock) (.slice Ao80 x11_3.length co80) x11_3) := ⟨(by rw [hw]; exact (by (with_reducible repeat (first | apply Kd.R_alloc | apply Kd.R_drewN | apply Kd.R_drew)); exact Kd.R_mono (Kd.R_far (p := ⟨gb184, 1, none⟩) (Kd.R_types HO_11.out BK184.out q6_21) (fun _ hk => hk.2) (.slice Ao91 y192.length co91)) (fun _ hk => ⟨hk.1.1, hk.1.2⟩)))⟩; have n1_ : Aside0 (Kd.R (Kd.int .u8) 5 w93 w.heap.size (fun k_ => (w.heap.size ≤ k_)) (.slice Ao81 x16_4.length co81) x16_4) := ⟨(by rw [hw]; exact (by (with_reducible repeat (first | apply Kd.R_alloc | apply Kd.R_drewN | apply Kd.R_drew)); exact Kd.R_mono (Kd.R_far (p := ⟨gb184, 1, none⟩) (Kd.R_types HO_16.out BK184.out q6_21) (fun _ hk => hk.2) (.slice Ao91 y192.length co91)) (fun _ hk => hk.1)))⟩; have n2_ : Aside0 (Kd.V k144 144 w93 w.heap.size (fun k_ => (P0_1_ k_ ∨ w.heap.size ≤ k_) ∧ some k_ ≠ (.slice Ao80 x11_3.length co80 : Value).ownBlock ∧ some k_ ≠ (.slice Ao81 x16_4.length co81 : Value).ownBlock ∧ some k_ ≠ (.slice Ao91 y192.length co91 : Value).ownBlock ∧ k_ ≠ gb170 ∧ k_ ≠ gb171 ∧ k_ ≠ gb184) (.slice A0_1 l0_1.length c0_1) l0_1) := ⟨(by rw [hw]; exact (by (with_reducible repeat (first | apply Kd.V_alloc | apply Kd.V_drewN | apply Kd.V_drew)); exact Kd.V_mono (Kd.V_far (p := ⟨gb184, 1, none⟩) (Kd.V_mono HO_171001.out (fun k_ hk => (⟨hk, hk.1.2.2.2.2.2⟩ : _ ∧ k_ ≠ gb184))) (fun _ hk => hk.2) (.slice Ao91 y192.length co91)) (fun _ hk => ⟨hk.1.1.1, ⟨hk.1.1.2.1, ⟨hk.1.1.2.2.1, ⟨hk.1.2, ⟨hk.1.1.2.2.2.1, ⟨hk.1.1.2.2.2.2.1, hk.1.1.2.2.2.2.2⟩⟩⟩⟩⟩⟩)))⟩; have n3_ : Aside0 (Kd.R k144 144 w93 w.heap.size (fun k_ => (w.heap.size ≤ k_) ∧ some k_ ≠ (.slice Ao80 x11_3.length co80 : Value).ownBlock) (.slice Ao91 y192.length co91) y192) := ⟨(by rw [hw]; exact (by (with_reducible repeat (first | apply Kd.R_alloc | apply Kd.R_drewN | apply Kd.R_drew)); exact Kd.R_mono (Kd.R_far (p := ⟨gb184, 1, none⟩) (Kd.R_types HO194.out BK184.out q6_21) (fun _ hk => hk.2) (.slice Ao91 y192.length co91)) (fun _ hk => ⟨hk.1.1, hk.1.2⟩)))⟩; have n4_ : Aside0 (w93.heap[gb170]? = some (.cells #[.int .i64 a0_0, .slice A0_1 l0_1.length c0_1] 77 (0, 0))) := ⟨q6_19⟩; have n5_ : Aside0 (w93.heap[gb171]? = some (.cells #[.int .i64 0, .slice none 0 0] 77 (0, 0))) := ⟨q6_18⟩; have n6_ : Aside0 (w93.heap[gb184]? = some (.cells #[.int .i64 x185000_4, .slice Ao91 y192.length co91] 77 (0, 0))) := ⟨(by rw [hw]; exact (by (with_reducible repeat (first | refine blk_drewN ?_ _ | refine blk_drew ?_ | refine blk_alloc ?_ _)); refine blk_put (cs := #[.int .i64 x185000_4, u185001]) ?_ 1 _ rfl; (with_reducible repeat (first | refine blk_drewN ?_ _ | refine blk_drew ?_ | refine blk_alloc ?_ _)); exact BK184.out))⟩; have n7_ : Aside0 (Below w.heap.size w w93) := ⟨(by rw [hw]; exact q6_1)⟩; clear hw HO_11 HO_16 HO_171001 HO194 BK170 BK171 BK184 HB; have HO_11 := n0_; have HO_16 := n1_; have HO_171001 := n2_; have HO194 := n3_; have BK170 := n4_; have BK171 := n5_; have BK184 := n6_; have HB := n7_; clear n0_ n1_ n2_ n3_ n4_ n5_ n6_ n7_))
                     go_roundg k5
                     case measure => have := HJ11.out; have := HJ20.out; have := HK3.out; have := HK4.out; have := HK5.out; omega
                     case rel => exact ⟨(wrap64 (x19_5 + 1)), (y192), (.slice Ao91 y192.length co91), q6_14, H', ⟨by have := HJ11.out; have := HJ20.out; have := HK3.out; have := HK4.out; have := HK5.out; omega⟩, ⟨by (with_reducible repeat (first | apply Kd.R_alloc | apply Kd.R_drewN | apply Kd.R_drew)); exact HO_11.out⟩, ⟨by (with_reducible repeat (first | apply Kd.R_alloc | apply Kd.R_drewN | apply Kd.R_drew)); exact HO_16.out⟩, ⟨by (with_reducible repeat (first | apply Kd.V_alloc | apply Kd.V_drewN | apply Kd.V_drew)); exact HO_171001.out⟩, ⟨by (with_reducible repeat (first | apply Kd.R_alloc | apply Kd.R_drewN | apply Kd.R_drew)); exact HO194.out⟩, ⟨by (with_reducible repeat (first | refine blk_drewN ?_ _ | refine blk_drew ?_ | refine blk_alloc ?_ _)); exact BK170.out⟩, ⟨by (with_reducible repeat (first | refine blk_drewN ?_ _ | refine blk_drew ?_ | refine blk_alloc ?_ _)); exact BK171.out⟩, ⟨by (with_reducible repeat (first | refine blk_drewN ?_ _ | refine blk_drew ?_ | refine blk_alloc ?_ _)); exact BK184.out⟩, ⟨by repeat (first | (with_reducible first | exact HB.out | apply below_alloc | apply pw_below_drewN | apply below_drew1 | refine below_set ?_ GE170.out | refine below_set ?_ GE171.out | refine below_set ?_ GE184.out) | exact HB.out)⟩⟩
                    ·rw [if_neg c85] at H
                     exact absurd H (by simp)
                   ·replace c84 := Bool.eq_false_iff.mpr c84
                    subst c84
                    have H1 : (batonref32_Take.l2 k5 x11_3 x16_4 (wrap64 (x19_5 + 1)) x185000_4 x185001_5) = some (r1, r2, r3, r4) := by rw [if_neg (show ¬ (false = true) by decide)] at H; exact H
                    clear H
                    have H := H1
                    clear H1
                    have H' := Aside0.mk H
                    clear H
                    have hnb94 := NB184_170.out
                    have hnc94 := NB170_184.out
                    have hnb95 := NB184_171.out
                    have hnc95 := NB171_184.out
                    have hcz96_0 : wr.cell? ⟨gb184, 0, none⟩ = some (.int .i64 x185000_4) := (blk_cell BK184.out 0).trans rfl
                    have hcz96_1 : wr.cell? ⟨gb184, 1, none⟩ = some (u185001) := (blk_cell BK184.out 1).trans rfl
                    have hfz96_0 := blk_frozen BK184.out 0
                    have hfz96_1 := blk_frozen BK184.out 1
                    go_wp2_with (first | ((with_reducible refine gate_callee (f := 75) rfl ?_); refine goesL_ (some 127) rfl rfl Try.func75 (by kernel_rfl) rfl #[.slice Ao80 x11_3.length co80, .int .i64 x19_5] rfl q6_7 ?_; (with_reducible refine (batonref32_find.calls k5 _ _ x11_3 x19_5 t190 false _ ?side1 ?side2 A83.out).mono ?_); (case side1 => repeat (first | exact (Kd.R_reads' HO_11.out).2.2 | (with_reducible refine Kd.C_alloc ?_ _) | (with_reducible refine Kd.C_drewN ?_ _) | (with_reducible refine Kd.C_drew ?_))); (case side2 => exact (Kd.R_reads' HO_11.out).2.1); rintro e w' ⟨rfl, ⟨nd, rfl⟩⟩; refine ⟨_, rfl, ?_⟩))
                    go_roundg k5
                    case measure => have := HJ11.out; have := HJ20.out; have := HK3.out; have := HK4.out; have := HK5.out; omega
                    case rel => exact ⟨(wrap64 (x19_5 + 1)), (x185001_5), (u185001), q6_14, H', ⟨by have := HJ11.out; have := HJ20.out; have := HK3.out; have := HK4.out; have := HK5.out; omega⟩, ⟨by (with_reducible repeat (first | apply Kd.R_alloc | apply Kd.R_drewN | apply Kd.R_drew)); exact HO_11.out⟩, ⟨by (with_reducible repeat (first | apply Kd.R_alloc | apply Kd.R_drewN | apply Kd.R_drew)); exact HO_16.out⟩, ⟨by (with_reducible repeat (first | apply Kd.V_alloc | apply Kd.V_drewN | apply Kd.V_drew)); exact HO_171001.out⟩, ⟨by (with_reducible repeat (first | apply Kd.R_alloc | apply Kd.R_drewN | apply Kd.R_drew)); exact HO_185001.out⟩, ⟨by (with_reducible repeat (first | refine blk_drewN ?_ _ | refine blk_drew ?_ | refine blk_alloc ?_ _)); exact BK170.out⟩, ⟨by (with_reducible repeat (first | refine blk_drewN ?_ _ | refine blk_drew ?_ | refine blk_alloc ?_ _)); exact BK171.out⟩, ⟨by (with_reducible repeat (first | refine blk_drewN ?_ _ | refine blk_drew ?_ | refine blk_alloc ?_ _)); exact BK184.out⟩, ⟨by repeat (first | (with_reducible first | exact HB.out | apply below_alloc | apply pw_below_drewN | apply below_drew1 | refine below_set ?_ GE170.out | refine below_set ?_ GE171.out | refine below_set ?_ GE184.out) | exact HB.out)⟩⟩
                  ·rw [if_neg c82] at H
                   have c82b0 : decide (x19_5 < (wrap64 (x185000_4 + 64))) = false := decide_eq_false c82
                   clear c82
                   simp only [Option.some.injEq, Prod.mk.injEq] at H
                   obtain ⟨rfl, rfl, rfl, rfl⟩ := H
                   have hnb97 := NB184_170.out
                   have hnc97 := NB170_184.out
                   have hnb98 := NB184_171.out
                   have hnc98 := NB171_184.out
                   have hcz99_0 : wr.cell? ⟨gb184, 0, none⟩ = some (.int .i64 x185000_4) := (blk_cell BK184.out 0).trans rfl
                   have hcz99_1 : wr.cell? ⟨gb184, 1, none⟩ = some (u185001) := (blk_cell BK184.out 1).trans rfl
                   have hfz99_0 := blk_frozen BK184.out 0
                   have hfz99_1 := blk_frozen BK184.out 1
                   have hnb100 := NB171_170.out
                   have hnc100 := NB170_171.out
                   have hcz101_0 : wr.cell? ⟨gb171, 0, none⟩ = some (.int .i64 0) := (blk_cell BK171.out 0).trans rfl
                   have hcz101_1 : wr.cell? ⟨gb171, 1, none⟩ = some (.slice none 0 0) := (blk_cell BK171.out 1).trans rfl
                   have hfz101_0 := blk_frozen BK171.out 0
                   have hfz101_1 := blk_frozen BK171.out 1
                   obtain ⟨Ao102, co102, eo102⟩ := Kd.R_slice HO_185001.out
                   subst eo102
                   go_wp2_with (first | ((with_reducible refine gate_store (t := 77) (p := 8) rfl ?_); refine store_event (t := 77) (p := 8) (v := ?vo_w103) (w1 := ((wr.setCell ⟨gb171, 0, none⟩ (.int .i64 x185000_4)).setCell ⟨gb171, 1, none⟩ (.slice Ao102 x185001_5.length co102))) ?hg ?ho ?hn ?hr ?_; (case ho => rfl); (case hg => rfl); (case hn => rfl); (case hr => first | (go_simp; done) | (go_simp; rfl)); intro w103 hw; have n0_ : Aside0 (Kd.R k144 144 w103 w.heap.size (fun k_ => (w.heap.size ≤ k_) ∧ some k_ ≠ (.slice Ao102 x185001_5.length co102 : Value).ownBlock) (.slice Ao80 x11_3.length co80) x11_3) := ⟨(by rw [hw]; exact (by (with_reducible repeat (first | apply Kd.R_alloc | apply Kd.R_drewN | apply Kd.R_drew)); exact Kd.R_mono (Kd.R_far (p := ⟨gb171, 1, none⟩) (Kd.R_far (p := ⟨gb171, 0, none⟩) (Kd.R_types HO_11.out BK171.out q6_21) (fun _ hk => hk.2) (.int .i64 x185000_4)) (fun _ hk => hk.2) (.slice Ao102 x185001_5.length co102)) (fun _ hk => ⟨hk.1.1, hk.1.2⟩)))⟩; have n1_ : Aside0 (Kd.R (Kd.int .u8) 5 w103 w.heap.size (fun k_ => (w.heap.size ≤ k_)) (.slice Ao81 x16_4.length co81) x16_4) := ⟨(by rw [hw]; exact (by (with_reducible repeat (first | apply Kd.R_alloc | apply Kd.R_drewN | apply Kd.R_drew)); exact Kd.R_mono (Kd.R_far (p := ⟨gb171, 1, none⟩) (Kd.R_far (p := ⟨gb171, 0, none⟩) (Kd.R_types HO_16.out BK171.out q6_21) (fun _ hk => hk.2) (.int .i64 x185000_4)) (fun _ hk => hk.2) (.slice Ao102 x185001_5.length co102)) (fun _ hk => hk.1)))⟩; have n2_ : Aside0 (Kd.V k144 144 w103 w.heap.size (fun k_ => (P0_1_ k_ ∨ w.heap.size ≤ k_) ∧ some k_ ≠ (.slice Ao80 x11_3.length co80 : Value).ownBlock ∧ some k_ ≠ (.slice Ao81 x16_4.length co81 : Value).ownBlock ∧ some k_ ≠ (.slice Ao102 x185001_5.length co102 : Value).ownBlock ∧ k_ ≠ gb170 ∧ k_ ≠ gb171 ∧ k_ ≠ gb184) (.slice A0_1 l0_1.length c0_1) l0_1) := ⟨(by rw [hw]; exact (by (with_reducible repeat (first | apply Kd.V_alloc | apply Kd.V_drewN | apply Kd.V_drew)); exact Kd.V_mono (Kd.V_far (p := ⟨gb171, 1, none⟩) (Kd.V_far (p := ⟨gb171, 0, none⟩) (Kd.V_mono HO_171001.out (fun k_ hk => (⟨hk, hk.2.2.2.2.2.1⟩ : _ ∧ k_ ≠ gb171))) (fun _ hk => hk.2) (.int .i64 x185000_4)) (fun _ hk => hk.2) (.slice Ao102 x185001_5.length co102)) (fun _ hk => ⟨hk.1.1, ⟨hk.1.2.1, ⟨hk.1.2.2.1, ⟨hk.1.2.2.2.1, ⟨hk.1.2.2.2.2.1, ⟨hk.1.2.2.2.2.2.1, hk.1.2.2.2.2.2.2⟩⟩⟩⟩⟩⟩)))⟩; have n3_ : Aside0 (Kd.R k144 144 w103 w.heap.size (fun k_ => (w.heap.size ≤ k_) ∧ some k_ ≠ (.slice Ao80 x11_3.length co80 : Value).ownBlock) (.slice Ao102 x185001_5.length co102) x185001_5) := ⟨(by rw [hw]; exact (by (with_reducible repeat (first | apply Kd.R_alloc | apply Kd.R_drewN | apply Kd.R_drew)); exact Kd.R_mono (Kd.R_far (p := ⟨gb171, 1, none⟩) (Kd.R_far (p := ⟨gb171, 0, none⟩) (Kd.R_types HO_185001.out BK171.out q6_21) (fun _ hk => hk.2) (.int .i64 x185000_4)) (fun _ hk => hk.2) (.slice Ao102 x185001_5.length co102)) (fun _ hk => ⟨hk.1.1, hk.1.2⟩)))⟩; have n4_ : Aside0 (w103.heap[gb170]? = some (.cells #[.int .i64 a0_0, .slice A0_1 l0_1.length c0_1] 77 (0, 0))) := ⟨q6_5⟩; have n5_ : Aside0 (w103.heap[gb171]? = some (.cells #[.int .i64 x185000_4, .slice Ao102 x185001_5.length co102] 77 (0, 0))) := ⟨(by rw [hw]; exact (by (with_reducible repeat (first | refine blk_drewN ?_ _ | refine blk_drew ?_ | refine blk_alloc ?_ _)); refine blk_put (cs := #[.int .i64 x185000_4, .slice none 0 0]) ?_ 1 _ rfl; (with_reducible repeat (first | refine blk_drewN ?_ _ | refine blk_drew ?_ | refine blk_alloc ?_ _)); refine blk_put (cs := #[.int .i64 0, .slice none 0 0]) ?_ 0 _ rfl; (with_reducible repeat (first | refine blk_drewN ?_ _ | refine blk_drew ?_ | refine blk_alloc ?_ _)); exact BK171.out))⟩; have n6_ : Aside0 (w103.heap[gb184]? = some (.cells #[.int .i64 x185000_4, .slice Ao102 x185001_5.length co102] 77 (0, 0))) := ⟨q6_16⟩; have n7_ : Aside0 (Below w.heap.size w w103) := ⟨(by rw [hw]; exact q6_1)⟩; clear hw HO_11 HO_16 HO_171001 HO_185001 BK170 BK171 BK184 HB; have HO_11 := n0_; have HO_16 := n1_; have HO_171001 := n2_; have HO_185001 := n3_; have BK170 := n4_; have BK171 := n5_; have BK184 := n6_; have HB := n7_; clear n0_ n1_ n2_ n3_ n4_ n5_ n6_ n7_))
                   refine bodyPost_ret (results_ctt rfl _ _ gb171 77 #[.int .i64 x185000_4, .slice Ao102 x185001_5.length co102] (0, 0) _ rfl q6_4 Try.underlying77 rfl (by kernel_rfl)) rfl ?_
                   exact ⟨_, _, by first | rfl | (simp [errW_none, errW_some] <;> rfl) | (simp [*, errW_none, errW_some] <;> rfl), Kd.V_mono (Kd.R_V (by (with_reducible repeat (first | apply Kd.R_alloc | apply Kd.R_drewN | apply Kd.R_drew)); exact Kd.R_mono (Kd.R_apart' HO_185001.out (Kd.R_typed HO_16.out) q6_21) (fun _ hk => (⟨hk.1.1, hk.2⟩ : _ ∧ _)))) (fun k_ hk => by first | exact ⟨(.inr (hk.1)), hk.2⟩ | exact (.inr (hk))), by (with_reducible repeat (first | apply Kd.R_alloc | apply Kd.R_drewN | apply Kd.R_drew)); exact HO_16.out, by repeat (first | (with_reducible first | exact HB.out | apply below_alloc | apply pw_below_drewN | apply below_drew1 | refine below_set ?_ GE170.out | refine below_set ?_ GE171.out | refine below_set ?_ GE184.out) | exact HB.out)⟩
        ·rw [if_neg c30] at H
         exact absurd H (by simp)

end Go.Proofs.Ytdbfclfglpbpmaa.PF32T
