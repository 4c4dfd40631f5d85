/- By a program of this session (wip/tool/pp.py): plain Lean functions of the Go functions that this family of laws uses, the walks that the Go code comes to their answers, and the row of the law. No condition beside those that the row itself gives. -/
import Derived.Test.YtkckojgjkmcokaaPF10x0
import Derived.Test.YtkckojgjkmcokaaPF10x1
import Derived.Test.YtkckojgjkmcokaaPF10x2
import Derived.Test.YtkckojgjkmcokaaPF10x3
namespace Go.Proofs.Ytkckojgjkmcokaa.PF10
open Go.RowKit Go.Proofs.YtkckojgjkmcokaaW.Hand Go.Proofs.YtkckojgjkmcokaaW.PrintWords Go.Proofs.YtkckojgjkmcokaaW.PrintLast Go.Proofs.YtkckojgjkmcokaaW.PrintMore
attribute [local go_sem] max2_int min2_int max_two min_two max_three min_three max_four min_four   -- for this text's walks alone
open List (setIfInBounds_toArray set_cons_zero set_cons_succ)
set_option linter.unusedVariables false
set_option linter.unusedSimpArgs false

attribute [local go_sem high] eqA53
/-! ### batonref10_Same: function 51 -/
def batonref10_Same.f (k : Nat) (a0_0 : Int) (a0_1 : Int) (l0_2 : List (S53)) (a1_0 : Int) (a1_1 : Int) (l1_2 : List (S53)) : Option (Bool) := if a0_0 = a1_0 then (if a0_1 = a1_1 then ((batonref09_Same.f k l0_2 l1_2).bind fun t228 => (some t228)) else (some false)) else (some false)
theorem batonref10_Same.mono : ∀ a0 a1 a2 a3 a4 a5 k, LeO (batonref10_Same.f k a0 a1 a2 a3 a4 a5) (batonref10_Same.f (k + 1) a0 a1 a2 a3 a4 a5) := by
 intro a0 a1 a2 a3 a4 a5 k
 unfold batonref10_Same.f
 repeat' first
   | (with_reducible exact batonref09_Same.mono _ _ _)
   | (with_reducible exact LeO.refl _)
   | (with_reducible exact LeO.none _)
   | (with_reducible refine LeO.ite ?_ ?_)
   | (with_reducible refine LeO.bind ?_ (fun _ => ?_))
   | exact batonref09_Same.mono _ _ _
   | exact LeO.none _
   | refine LeO.ite ?_ ?_
   | refine LeO.bind ?_ (fun _ => ?_)
theorem bc7_ {W : World} {g : Nat} {cs : Array Value} {t : TypeId} (h : Aside0 (W.heap[g]? = some (.cells cs t (0, 0)))) (j : Nat) {v : Value} (hv : cs[j]? = some v := by rfl) : W.cell? ⟨g, j, none⟩ = some v := (blk_cell h.out j).trans hv
theorem A7_ {p : Prop} (h : p) : Aside0 p := ⟨h⟩
theorem q7_3 {p : Prop} (h : p := by first | exact Kd.own_blk (Kd.R_away HO240.out (fun _ hk => hk.2)) | (rw [add_block]; exact Kd.own_blk (Kd.R_away HO240.out (fun _ hk => hk.2))) | (show (Addr.add _ _).block ≠ _; rw [add_block]; exact Kd.own_blk (Kd.R_away HO240.out (fun _ hk => hk.2))) | (dsimp only; exact Kd.own_blk (Kd.R_away HO240.out (fun _ hk => hk.2)))) : p := h
theorem q7_4 {p : Prop} (h : p := by repeat (first | (with_reducible first | exact HB.out | apply below_alloc | apply pw_below_drewN | apply below_drew1) | exact HB.out)) : p := h
theorem q7_5 {p : Prop} (h : p := by (with_reducible repeat (first | refine blk_drewN ?_ _ | refine blk_drew ?_ | refine blk_alloc ?_ _)); exact BK243.out) : p := h
theorem q7_6 {p : Prop} (h : p := by repeat (first | (with_reducible first | exact HB.out | apply below_alloc | apply pw_below_drewN | apply below_drew1 | refine below_set ?_ GE231.out) | exact HB.out)) : p := h
theorem q7_7 {p : Prop} (h : p := by repeat (first | (with_reducible first | exact HB.out | apply below_alloc | apply pw_below_drewN | apply below_drew1 | refine below_set ?_ GE226.out) | exact HB.out)) : p := h
theorem q7_8 {p : Prop} (h : p := by repeat (first | (with_reducible first | exact HB.out | apply below_alloc | apply pw_below_drewN | apply below_drew1 | refine below_set ?_ GE243.out | refine below_set ?_ GE244.out) | exact HB.out)) : p := h
theorem q7_9 {p : Prop} (h : p := by (with_reducible repeat (first | refine blk_drewN ?_ _ | refine blk_drew ?_ | refine blk_alloc ?_ _)); exact BK231.out) : p := h
theorem q7_10 {p : Prop} (h : p := by (with_reducible repeat (first | refine blk_drewN ?_ _ | refine blk_drew ?_ | refine blk_alloc ?_ _)); exact BK226.out) : p := h
theorem q7_11 {p : Prop} (h : p := by (with_reducible repeat (first | refine blk_drewN ?_ _ | refine blk_drew ?_ | refine blk_alloc ?_ _)); exact BK244.out) : p := h
theorem q7_12 {p : Prop} (h : p := by repeat (first | (with_reducible first | exact HB.out | apply below_alloc | apply pw_below_drewN | apply below_drew1 | refine below_set ?_ GE243.out) | exact HB.out)) : p := h
theorem q7_13 {p : Prop} (h : p := by (with_reducible repeat (first | refine blk_drewN ?_ _ | refine blk_drew ?_ | refine blk_alloc ?_ _)); exact BK0.out) : p := h
theorem q7_14 {p : Prop} (h : p := by (with_reducible repeat (first | refine blk_drewN ?_ _ | refine blk_drew ?_ | refine blk_alloc ?_ _)); refine blk_far ?_ NB0_234.out _; (with_reducible repeat (first | refine blk_drewN ?_ _ | refine blk_drew ?_ | refine blk_alloc ?_ _)); refine blk_far ?_ NB0_234.out _; (with_reducible repeat (first | refine blk_drewN ?_ _ | refine blk_drew ?_ | refine blk_alloc ?_ _)); refine blk_far ?_ NB0_234.out _; (with_reducible repeat (first | refine blk_drewN ?_ _ | refine blk_drew ?_ | refine blk_alloc ?_ _)); refine blk_far ?_ NB0_234.out _; (with_reducible repeat (first | refine blk_drewN ?_ _ | refine blk_drew ?_ | refine blk_alloc ?_ _)); exact BK0.out) : p := h
theorem q7_15 {p : Prop} (h : p := by first | (with_reducible assumption) | assumption) : p := h
theorem q7_16 {p : Prop} (h : p := by repeat (first | (with_reducible first | exact HB.out | apply below_alloc | apply pw_below_drewN | apply below_drew1 | refine below_set ?_ GE0.out) | exact HB.out)) : p := h
theorem q7_17 {p : Prop} (h : p := by (try simp only [List.map_toArray, List.map_cons, List.map_nil]); first | done | rfl | (simp only [List.length_drop, List.length_take]; rfl)) : p := h
theorem q7_18 {p : Prop} (h : p := by (with_reducible repeat (first | refine blk_drewN ?_ _ | refine blk_drew ?_ | refine blk_alloc ?_ _)); exact BK234.out) : p := h
theorem q7_19 {p : Prop} (h : p := by first | exact HK.out.1 | exact (show Kept w _ (fun k_ => (P0_2_ k_) ∨ k_ = g) from by repeat (first | (with_reducible first | exact HK.out | apply Kept.alloc | apply Kept.drewN | apply Kept.drew | refine Kept.setCell ?_ (.inl (.inr rfl)) _ | refine Kept.setCell ?_ (.inr GW234.out) _) | exact HK.out)).1) : p := h
theorem q7_20 {p : Prop} (h : p := by kernel_rfl) : p := h
theorem q7_21 {p : Prop} (h : p := by first | exact HK.out.1 | exact (show Kept w _ (fun k_ => (P0_2_ k_) ∨ k_ = g) from by repeat (first | (with_reducible first | exact HK.out | apply Kept.alloc | apply Kept.drewN | apply Kept.drew | refine Kept.setCell ?_ (.inl (.inr rfl)) _) | exact HK.out)).1) : p := h
theorem q7_22 {p : Prop} (h : p := by repeat (first | (with_reducible first | exact HB.out | apply below_alloc | apply pw_below_drewN | apply below_drew1 | refine below_set ?_ GE243.out | refine below_set ?_ GE244.out | refine below_set ?_ GE245.out) | exact HB.out)) : p := h
theorem q7_23 {p : Prop} (h : p := by repeat (first | (with_reducible first | exact HK.out | apply Kept.alloc | apply Kept.drewN | apply Kept.drew | refine Kept.setCell ?_ (.inl (.inr rfl)) _ | refine Kept.setCell ?_ (.inr GW234.out) _) | exact HK.out)) : p := h
theorem q7_24 {p : Prop} (h : p := by repeat (first | (with_reducible first | exact HK.out | apply Kept.alloc | apply Kept.drewN | apply Kept.drew | refine Kept.setCell ?_ (.inl (.inr rfl)) _) | exact HK.out)) : p := h
set_option maxHeartbeats 8000000 in
set_option maxRecDepth 100000 in
theorem batonref10_Same.calls (k : Nat) (a0_0 : Int) (a0_1 : Int) (A0_2 : Option Addr) (c0_2 : Nat) (l0_2 : List (S53)) (a1_0 : Int) (a1_1 : Int) (A1_2 : Option Addr) (c1_2 : Nat) (l1_2 : List (S53)) (r : Bool) (w : World) (hr0_2 : Kd.C k53 w A0_2 l0_2.length l0_2) (hc0_2 : l0_2.length ≤ c0_2) (hr1_2 : Kd.C k53 w A1_2 l1_2.length l1_2) (hc1_2 : l1_2.length ≤ c1_2) (h : batonref10_Same.f k a0_0 a0_1 l0_2 a1_0 a1_1 l1_2 = some r) :
  Calls Try.prog 51 #[.agg #[.int .i64 a0_0, .int .i64 a0_1, .slice A0_2 l0_2.length c0_2], .agg #[.int .i64 a1_0, .int .i64 a1_1, .slice A1_2 l1_2.length c1_2]] w fun e w' => e = .returned (.bool r) ∧ Below w.heap.size w w' := by
 have hu75 := Try.underlying75
 have HR0_2 := A7_ hr0_2
 have HC0_2 := A7_ hc0_2
 clear hr0_2 hc0_2
 have HR1_2 := A7_ hr1_2
 have HC1_2 := A7_ hc1_2
 clear hr1_2 hc1_2
 have HB := A7_ (Below.refl w.heap.size w)
 have H : (if a0_0 = a1_0 then (if a0_1 = a1_1 then ((batonref09_Same.f k l0_2 l1_2).bind fun t228 => (some t228)) else (some false)) else (some false)) = some r := h
 clear h
 by_cases c3 : a0_0 = a1_0
 ·rw [if_pos c3] at H
  have c3b0 : (a0_0 == a1_0) = true := beq_iff_eq.mpr c3
  have c3b1 : (a0_0 != a1_0) = false := bne_eq_false_iff_eq.mpr c3
  clear c3
  by_cases c4 : a0_1 = a1_1
  ·rw [if_pos c4] at H
   have c4b0 : (a0_1 == a1_1) = true := beq_iff_eq.mpr c4
   have c4b1 : (a0_1 != a1_1) = false := bne_eq_false_iff_eq.mpr c4
   clear c4
   replace H := Option.bind_eq_some_iff.mp H
   obtain ⟨t228, A50, H⟩ := H
   replace H : (some t228) = some r := H
   have A5 := A7_ A50
   clear A50
   obtain rfl := Option.some.inj H
   go_enter Try.func51, Try.ntmps51
   go_wp2_with (first | ((with_reducible refine gate_dst (N := 2) rfl ?_); refine box_event ?hg (N := 2) ?hd (cs := #[.int .i64 a0_0, .int .i64 a0_1, .slice A0_2 l0_2.length c0_2]) (t := 75) ?hr ?_; (case hd => rfl); (case hg => rfl); (case hr => first | (go_simp; done) | (go_simp; rfl)); intro gb226 hg w6 hbox hb; have n0_ := A7_ (below_step q7_4 hb); have n1_ := A7_ (hbox); have n2_ := A7_ ((by rw [hg]; exact (below_size q7_4) : w.heap.size ≤ gb226)); have n3_ := A7_ ((by rw [hg]; exact (below_size q7_4) : w.heap.size ≤ gb226)); clear HB; have HB := n0_; have BK226 := n1_; have GW226 := n2_; have GE226 := n3_; clear n0_ n1_ n2_ n3_; clear hb hbox hg) | ((with_reducible refine gate_dst (N := 3) rfl ?_); refine box_event ?hg (N := 3) ?hd (cs := #[.int .i64 a1_0, .int .i64 a1_1, .slice A1_2 l1_2.length c1_2]) (t := 75) ?hr ?_; (case hd => rfl); (case hg => rfl); (case hr => first | (go_simp; done) | (go_simp; rfl)); intro gb227 hg w7 hbox hb; have n0_ := A7_ (blk_below (g := gb226) (o := .cells #[.int .i64 a0_0, .int .i64 a0_1, .slice A0_2 l0_2.length c0_2] 75 (0, 0)) q7_10 hb); have n1_ := A7_ (below_step q7_7 hb); have n2_ := A7_ (hbox); have n3_ := A7_ ((by rw [hg]; exact (below_size q7_7) : w.heap.size ≤ gb227)); have n4_ := A7_ ((by rw [hg]; exact (below_size q7_7) : w.heap.size ≤ gb227)); have n5_ := A7_ ((by rw [hg]; exact Nat.ne_of_lt (blk_lt (g := gb226) (o := .cells #[.int .i64 a0_0, .int .i64 a0_1, .slice A0_2 l0_2.length c0_2] 75 (0, 0)) q7_10) : gb226 ≠ gb227)); have n6_ := A7_ ((by rw [hg]; exact Nat.ne_of_gt (blk_lt (g := gb226) (o := .cells #[.int .i64 a0_0, .int .i64 a0_1, .slice A0_2 l0_2.length c0_2] 75 (0, 0)) q7_10) : gb227 ≠ gb226)); clear BK226 HB; have BK226 := n0_; have HB := n1_; have BK227 := n2_; have GW227 := n3_; have GE227 := n4_; have NB226_227 := n5_; have NB227_226 := n6_; clear n0_ n1_ n2_ n3_ n4_ n5_ n6_; clear hb hbox hg; have hnb8 := NB226_227.out; have hnc8 := NB227_226.out; have hcz9_0 : w7.cell? ⟨gb226, 0, none⟩ = some (.int .i64 a0_0) := bc7_ BK226 0; have hcz9_1 : w7.cell? ⟨gb226, 1, none⟩ = some (.int .i64 a0_1) := bc7_ BK226 1; have hcz9_2 : w7.cell? ⟨gb226, 2, none⟩ = some (.slice A0_2 l0_2.length c0_2) := bc7_ BK226 2; have hfz9_0 := blk_frozen BK226.out 0; have hfz9_1 := blk_frozen BK226.out 1; have hfz9_2 := blk_frozen BK226.out 2; have hcz10_0 : w7.cell? ⟨gb227, 0, none⟩ = some (.int .i64 a1_0) := bc7_ BK227 0; have hcz10_1 : w7.cell? ⟨gb227, 1, none⟩ = some (.int .i64 a1_1) := bc7_ BK227 1; have hcz10_2 : w7.cell? ⟨gb227, 2, none⟩ = some (.slice A1_2 l1_2.length c1_2) := bc7_ BK227 2; have hfz10_0 := blk_frozen BK227.out 0; have hfz10_1 := blk_frozen BK227.out 1; have hfz10_2 := blk_frozen BK227.out 2) | (go_at_call 32; (with_reducible refine (batonref09_Same.calls k _ _ l0_2 _ _ l1_2 t228 _ ?side1 ?side2 ?side3 ?side4 A5.out).mono ?_); (case side1 => repeat (first | exact (Kd.C_below HR0_2.out HB.out) | (with_reducible refine Kd.C_alloc ?_ _) | (with_reducible refine Kd.C_drewN ?_ _) | (with_reducible refine Kd.C_drew ?_))); (case side2 => exact HC0_2.out); (case side3 => repeat (first | exact (Kd.C_below HR1_2.out HB.out) | (with_reducible refine Kd.C_alloc ?_ _) | (with_reducible refine Kd.C_drewN ?_ _) | (with_reducible refine Kd.C_drew ?_))); (case side4 => exact HC1_2.out); rintro e w' ⟨rfl, ⟨nd, rfl⟩⟩))
   go_ret
   exact ⟨by first | rfl | (simp [errW_none, errW_some] <;> rfl) | (simp [*, errW_none, errW_some] <;> rfl), by repeat (first | (with_reducible first | exact HB.out | apply below_alloc | apply pw_below_drewN | apply below_drew1 | refine below_set ?_ GE226.out | refine below_set ?_ GE227.out) | exact HB.out)⟩
  ·rw [if_neg c4] at H
   have c4b0 : (a0_1 == a1_1) = false := beq_eq_false_iff_ne.mpr c4
   have c4b1 : (a0_1 != a1_1) = true := bne_iff_ne.mpr c4
   obtain rfl := Option.some.inj H
   go_enter Try.func51, Try.ntmps51
   go_wp2_with (first | ((with_reducible refine gate_dst (N := 2) rfl ?_); refine box_event ?hg (N := 2) ?hd (cs := #[.int .i64 a0_0, .int .i64 a0_1, .slice A0_2 l0_2.length c0_2]) (t := 75) ?hr ?_; (case hd => rfl); (case hg => rfl); (case hr => first | (go_simp; done) | (go_simp; rfl)); intro gb226 hg w11 hbox hb; have n0_ := A7_ (below_step q7_4 hb); have n1_ := A7_ (hbox); have n2_ := A7_ ((by rw [hg]; exact (below_size q7_4) : w.heap.size ≤ gb226)); have n3_ := A7_ ((by rw [hg]; exact (below_size q7_4) : w.heap.size ≤ gb226)); clear HB; have HB := n0_; have BK226 := n1_; have GW226 := n2_; have GE226 := n3_; clear n0_ n1_ n2_ n3_; clear hb hbox hg) | ((with_reducible refine gate_dst (N := 3) rfl ?_); refine box_event ?hg (N := 3) ?hd (cs := #[.int .i64 a1_0, .int .i64 a1_1, .slice A1_2 l1_2.length c1_2]) (t := 75) ?hr ?_; (case hd => rfl); (case hg => rfl); (case hr => first | (go_simp; done) | (go_simp; rfl)); intro gb227 hg w12 hbox hb; have n0_ := A7_ (blk_below (g := gb226) (o := .cells #[.int .i64 a0_0, .int .i64 a0_1, .slice A0_2 l0_2.length c0_2] 75 (0, 0)) q7_10 hb); have n1_ := A7_ (below_step q7_7 hb); have n2_ := A7_ (hbox); have n3_ := A7_ ((by rw [hg]; exact (below_size q7_7) : w.heap.size ≤ gb227)); have n4_ := A7_ ((by rw [hg]; exact (below_size q7_7) : w.heap.size ≤ gb227)); have n5_ := A7_ ((by rw [hg]; exact Nat.ne_of_lt (blk_lt (g := gb226) (o := .cells #[.int .i64 a0_0, .int .i64 a0_1, .slice A0_2 l0_2.length c0_2] 75 (0, 0)) q7_10) : gb226 ≠ gb227)); have n6_ := A7_ ((by rw [hg]; exact Nat.ne_of_gt (blk_lt (g := gb226) (o := .cells #[.int .i64 a0_0, .int .i64 a0_1, .slice A0_2 l0_2.length c0_2] 75 (0, 0)) q7_10) : gb227 ≠ gb226)); clear BK226 HB; have BK226 := n0_; have HB := n1_; have BK227 := n2_; have GW227 := n3_; have GE227 := n4_; have NB226_227 := n5_; have NB227_226 := n6_; clear n0_ n1_ n2_ n3_ n4_ n5_ n6_; clear hb hbox hg; have hnb13 := NB226_227.out; have hnc13 := NB227_226.out; have hcz14_0 : w12.cell? ⟨gb226, 0, none⟩ = some (.int .i64 a0_0) := bc7_ BK226 0; have hcz14_1 : w12.cell? ⟨gb226, 1, none⟩ = some (.int .i64 a0_1) := bc7_ BK226 1; have hcz14_2 : w12.cell? ⟨gb226, 2, none⟩ = some (.slice A0_2 l0_2.length c0_2) := bc7_ BK226 2; have hfz14_0 := blk_frozen BK226.out 0; have hfz14_1 := blk_frozen BK226.out 1; have hfz14_2 := blk_frozen BK226.out 2; have hcz15_0 : w12.cell? ⟨gb227, 0, none⟩ = some (.int .i64 a1_0) := bc7_ BK227 0; have hcz15_1 : w12.cell? ⟨gb227, 1, none⟩ = some (.int .i64 a1_1) := bc7_ BK227 1; have hcz15_2 : w12.cell? ⟨gb227, 2, none⟩ = some (.slice A1_2 l1_2.length c1_2) := bc7_ BK227 2; have hfz15_0 := blk_frozen BK227.out 0; have hfz15_1 := blk_frozen BK227.out 1; have hfz15_2 := blk_frozen BK227.out 2))
   go_ret
   exact ⟨by first | rfl | (simp [errW_none, errW_some] <;> rfl) | (simp [*, errW_none, errW_some] <;> rfl), by repeat (first | (with_reducible first | exact HB.out | apply below_alloc | apply pw_below_drewN | apply below_drew1 | refine below_set ?_ GE226.out | refine below_set ?_ GE227.out) | exact HB.out)⟩
 ·rw [if_neg c3] at H
  have c3b0 : (a0_0 == a1_0) = false := beq_eq_false_iff_ne.mpr c3
  have c3b1 : (a0_0 != a1_0) = true := bne_iff_ne.mpr c3
  obtain rfl := Option.some.inj H
  go_enter Try.func51, Try.ntmps51
  go_wp2_with (first | ((with_reducible refine gate_dst (N := 2) rfl ?_); refine box_event ?hg (N := 2) ?hd (cs := #[.int .i64 a0_0, .int .i64 a0_1, .slice A0_2 l0_2.length c0_2]) (t := 75) ?hr ?_; (case hd => rfl); (case hg => rfl); (case hr => first | (go_simp; done) | (go_simp; rfl)); intro gb226 hg w16 hbox hb; have n0_ := A7_ (below_step q7_4 hb); have n1_ := A7_ (hbox); have n2_ := A7_ ((by rw [hg]; exact (below_size q7_4) : w.heap.size ≤ gb226)); have n3_ := A7_ ((by rw [hg]; exact (below_size q7_4) : w.heap.size ≤ gb226)); clear HB; have HB := n0_; have BK226 := n1_; have GW226 := n2_; have GE226 := n3_; clear n0_ n1_ n2_ n3_; clear hb hbox hg) | ((with_reducible refine gate_dst (N := 3) rfl ?_); refine box_event ?hg (N := 3) ?hd (cs := #[.int .i64 a1_0, .int .i64 a1_1, .slice A1_2 l1_2.length c1_2]) (t := 75) ?hr ?_; (case hd => rfl); (case hg => rfl); (case hr => first | (go_simp; done) | (go_simp; rfl)); intro gb227 hg w17 hbox hb; have n0_ := A7_ (blk_below (g := gb226) (o := .cells #[.int .i64 a0_0, .int .i64 a0_1, .slice A0_2 l0_2.length c0_2] 75 (0, 0)) q7_10 hb); have n1_ := A7_ (below_step q7_7 hb); have n2_ := A7_ (hbox); have n3_ := A7_ ((by rw [hg]; exact (below_size q7_7) : w.heap.size ≤ gb227)); have n4_ := A7_ ((by rw [hg]; exact (below_size q7_7) : w.heap.size ≤ gb227)); have n5_ := A7_ ((by rw [hg]; exact Nat.ne_of_lt (blk_lt (g := gb226) (o := .cells #[.int .i64 a0_0, .int .i64 a0_1, .slice A0_2 l0_2.length c0_2] 75 (0, 0)) q7_10) : gb226 ≠ gb227)); have n6_ := A7_ ((by rw [hg]; exact Nat.ne_of_gt (blk_lt (g := gb226) (o := .cells #[.int .i64 a0_0, .int .i64 a0_1, .slice A0_2 l0_2.length c0_2] 75 (0, 0)) q7_10) : gb227 ≠ gb226)); clear BK226 HB; have BK226 := n0_; have HB := n1_; have BK227 := n2_; have GW227 := n3_; have GE227 := n4_; have NB226_227 := n5_; have NB227_226 := n6_; clear n0_ n1_ n2_ n3_ n4_ n5_ n6_; clear hb hbox hg; have hnb18 := NB226_227.out; have hnc18 := NB227_226.out; have hcz19_0 : w17.cell? ⟨gb226, 0, none⟩ = some (.int .i64 a0_0) := bc7_ BK226 0; have hcz19_1 : w17.cell? ⟨gb226, 1, none⟩ = some (.int .i64 a0_1) := bc7_ BK226 1; have hcz19_2 : w17.cell? ⟨gb226, 2, none⟩ = some (.slice A0_2 l0_2.length c0_2) := bc7_ BK226 2; have hfz19_0 := blk_frozen BK226.out 0; have hfz19_1 := blk_frozen BK226.out 1; have hfz19_2 := blk_frozen BK226.out 2; have hcz20_0 : w17.cell? ⟨gb227, 0, none⟩ = some (.int .i64 a1_0) := bc7_ BK227 0; have hcz20_1 : w17.cell? ⟨gb227, 1, none⟩ = some (.int .i64 a1_1) := bc7_ BK227 1; have hcz20_2 : w17.cell? ⟨gb227, 2, none⟩ = some (.slice A1_2 l1_2.length c1_2) := bc7_ BK227 2; have hfz20_0 := blk_frozen BK227.out 0; have hfz20_1 := blk_frozen BK227.out 1; have hfz20_2 := blk_frozen BK227.out 2))
  go_ret
  exact ⟨by first | rfl | (simp [errW_none, errW_some] <;> rfl) | (simp [*, errW_none, errW_some] <;> rfl), by repeat (first | (with_reducible first | exact HB.out | apply below_alloc | apply pw_below_drewN | apply below_drew1 | refine below_set ?_ GE226.out | refine below_set ?_ GE227.out) | exact HB.out)⟩

/-! ### api_Cell_79: function 79 -/
def api_Cell_79.l0 : Nat → List (S53) → List (S53) → Int → Int → Option (Bool)
 | 0, _, _, _, _ => none
 | k + 1, x0, x1, x12, x13 => if x13 < x12 then (if 0 ≤ x13 then (if x13 < (x0.length : Int) then (if x13 < (x1.length : Int) then (if (!(((rd_T53 x0 x13).f0) == ((rd_T53 x1 x13).f0)) || ((!(((rd_T53 x0 x13).f1.f0) == ((rd_T53 x1 x13).f1.f0)) || (!(((rd_T53 x0 x13).f1.f1) == ((rd_T53 x1 x13).f1.f1)) || (!(((rd_T53 x0 x13).f1.f2) == ((rd_T53 x1 x13).f1.f2))))))) = true then (some false) else (api_Cell_79.l0 k x0 x1 x12 (wrap64 (x13 + 1)))) else (none)) else (none)) else (none)) else (some true)
def api_Cell_79.f (k : Nat) (l0 : List (S53)) (l1 : List (S53)) : Option (Bool) := if (l0.length : Int) = (l1.length : Int) then (api_Cell_79.l0 k l0 l1 (l0.length : Int) 0) else (some false)
theorem api_Cell_79.mono_l : ∀ k, (∀ y0 y1 y2 y3, LeO (api_Cell_79.l0 k y0 y1 y2 y3) (api_Cell_79.l0 (k + 1) y0 y1 y2 y3))
 | 0 => fun _ _ _ _ r h => by simp [api_Cell_79.l0] at h
 | k + 1 => by
  have ih0 := api_Cell_79.mono_l k
  ·intro y0 y1 y2 y3
   unfold api_Cell_79.l0
   repeat' first
   | (with_reducible exact ih0 _ _ _ _)
   | (with_reducible exact LeO.refl _)
   | (with_reducible exact LeO.none _)
   | (with_reducible refine LeO.ite ?_ ?_)
   | (with_reducible refine LeO.bind ?_ (fun _ => ?_))
   | exact ih0 _ _ _ _
   | exact LeO.none _
   | refine LeO.ite ?_ ?_
   | refine LeO.bind ?_ (fun _ => ?_)
theorem api_Cell_79.mono : ∀ a0 a1 k, LeO (api_Cell_79.f k a0 a1) (api_Cell_79.f (k + 1) a0 a1) := by
 intro a0 a1 k
 have ih0 := api_Cell_79.mono_l k
 unfold api_Cell_79.f
 repeat' first
   | (with_reducible exact ih0 _ _ _ _)
   | (with_reducible exact LeO.refl _)
   | (with_reducible exact LeO.none _)
   | (with_reducible refine LeO.ite ?_ ?_)
   | (with_reducible refine LeO.bind ?_ (fun _ => ?_))
   | exact ih0 _ _ _ _
   | exact LeO.none _
   | refine LeO.ite ?_ ?_
   | refine LeO.bind ?_ (fun _ => ?_)
set_option maxHeartbeats 8000000 in
set_option maxRecDepth 100000 in
theorem api_Cell_79.calls (k : Nat) (A0 : Option Addr) (c0 : Nat) (l0 : List (S53)) (A1 : Option Addr) (c1 : Nat) (l1 : List (S53)) (r : Bool) (w : World) (hr0 : Kd.C k53 w A0 l0.length l0) (hc0 : l0.length ≤ c0) (hr1 : Kd.C k53 w A1 l1.length l1) (hc1 : l1.length ≤ c1) (h : api_Cell_79.f k l0 l1 = some r) :
  Calls Try.prog 79 #[.slice A0 l0.length c0, .slice A1 l1.length c1] w fun e w' => e = .returned (.bool r) ∧ Drawn0 w w' := by
 have hu53 := Try.underlying53
 have HR0 := A7_ hr0
 have HC0 := A7_ hc0
 clear hr0 hc0
 have HR1 := A7_ hr1
 have HC1 := A7_ hc1
 clear hr1 hc1
 have H : (if (l0.length : Int) = (l1.length : Int) then (api_Cell_79.l0 k l0 l1 (l0.length : Int) 0) else (some false)) = some r := h
 clear h
 by_cases c3 : (l0.length : Int) = (l1.length : Int)
 ·rw [if_pos c3] at H
  have c3b0 : ((l0.length : Int) == (l1.length : Int)) = true := beq_iff_eq.mpr c3
  have c3b1 : ((l0.length : Int) != (l1.length : Int)) = false := bne_eq_false_iff_eq.mpr c3
  have c3b2 : (l0.length == l1.length) = true := by first | simpa using c3 | (simp at c3 ⊢; omega)
  clear c3
  have H' := A7_ H
  clear H
  go_enter Try.func79, Try.ntmps79
  go_wp2
  repeat (go_quiet (fail); try go_wp2)
  go_loopg [13] k (fun kq v13 w' => ∃ (x13_1 : Int), v13 = .int .i64 x13_1 ∧ Aside0 (api_Cell_79.l0 kq l0 l1 (l0.length : Int) x13_1 = some r) ∧ Aside0 (kq ≤ k) ∧ Drawn0 w w')
  case atStart => exact ⟨(0), (by first | rfl | (simp; done) | (simp [*]; done)), H', ⟨Nat.le_refl _⟩, by repeat (first | exact Drawn0.refl _ | apply Drawn0.step)⟩
  case round =>
   clear H'
   try clear c1
   try clear p2
   try clear c3
   try clear c3b0
   try clear c3b1
   try clear c3b2
   obtain ⟨x13_1, rfl, HA, HK1, ⟨m1, rfl⟩⟩ := hrel
   cases gk with
   | zero => exact absurd HA.out (by simp [api_Cell_79.l0])
   | succ k1 =>
    have H := HA.out
    clear HA
    simp only [api_Cell_79.l0] at H
    by_cases c4 : x13_1 < (l0.length : Int)
    ·rw [if_pos c4] at H
     have c4b0 : decide (x13_1 < (l0.length : Int)) = true := decide_eq_true c4
     clear c4
     by_cases c5 : 0 ≤ x13_1
     ·rw [if_pos c5] at H
      have c5b0 : decide (0 ≤ x13_1) = true := decide_eq_true c5
      clear c5
      by_cases c6 : x13_1 < (l0.length : Int)
      ·rw [if_pos c6] at H
       have c6b0 : decide (x13_1 < (l0.length : Int)) = true := decide_eq_true c6
       clear c6
       by_cases c7 : x13_1 < (l1.length : Int)
       ·rw [if_pos c7] at H
        have c7b0 : decide (x13_1 < (l1.length : Int)) = true := decide_eq_true c7
        clear c7
        by_cases c8 : (!(((rd_T53 l0 x13_1).f0) == ((rd_T53 l1 x13_1).f0)) || ((!(((rd_T53 l0 x13_1).f1.f0) == ((rd_T53 l1 x13_1).f1.f0)) || (!(((rd_T53 l0 x13_1).f1.f1) == ((rd_T53 l1 x13_1).f1.f1)) || (!(((rd_T53 l0 x13_1).f1.f2) == ((rd_T53 l1 x13_1).f1.f2))))))) = true
        ·rw [if_pos c8] at H
         have c8b0 : (!(((rd_T53 l0 x13_1).f0) == ((rd_T53 l1 x13_1).f0)) || ((!(((rd_T53 l0 x13_1).f1.f0) == ((rd_T53 l1 x13_1).f1.f0)) || (!(((rd_T53 l0 x13_1).f1.f1) == ((rd_T53 l1 x13_1).f1.f1)) || (!(((rd_T53 l0 x13_1).f1.f2) == ((rd_T53 l1 x13_1).f1.f2))))))) = true := c8
         clear c8
         obtain rfl := Option.some.inj H
         have p229 : 0 ≤ (x13_1 : Int) := of_decide_eq_true q7_15
         have q229 : x13_1 < (l0.length : Int) := of_decide_eq_true q7_15
         obtain ⟨ad229, e229, hx229_0, hx229_1, hx229_2, hx229_3⟩ := at_T53 HR0.out x13_1 p229 q229
         cases e229
         replace p229 := eq_true p229
         replace q229 := eq_true q229
         have p230 : 0 ≤ (x13_1 : Int) := of_decide_eq_true q7_15
         have q230 : x13_1 < (l1.length : Int) := of_decide_eq_true q7_15
         obtain ⟨ad230, e230, hx230_0, hx230_1, hx230_2, hx230_3⟩ := at_T53 HR1.out x13_1 p230 q230
         cases e230
         replace p230 := eq_true p230
         replace q230 := eq_true q230
         go_wp2
         repeat (go_quiet (fail); try go_wp2)
         go_ret
         exact ⟨by first | rfl | (simp; done) | (simp [*]; done), by repeat (first | exact Drawn0.refl _ | apply Drawn0.step)⟩
        ·rw [if_neg c8] at H
         have c8b0 : (!(((rd_T53 l0 x13_1).f0) == ((rd_T53 l1 x13_1).f0)) || ((!(((rd_T53 l0 x13_1).f1.f0) == ((rd_T53 l1 x13_1).f1.f0)) || (!(((rd_T53 l0 x13_1).f1.f1) == ((rd_T53 l1 x13_1).f1.f1)) || (!(((rd_T53 l0 x13_1).f1.f2) == ((rd_T53 l1 x13_1).f1.f2))))))) = false := by simpa using c8
         clear c8
         have H' := A7_ H
         clear H
         have p229 : 0 ≤ (x13_1 : Int) := of_decide_eq_true q7_15
         have q229 : x13_1 < (l0.length : Int) := of_decide_eq_true q7_15
         obtain ⟨ad229, e229, hx229_0, hx229_1, hx229_2, hx229_3⟩ := at_T53 HR0.out x13_1 p229 q229
         cases e229
         replace p229 := eq_true p229
         replace q229 := eq_true q229
         have p230 : 0 ≤ (x13_1 : Int) := of_decide_eq_true q7_15
         have q230 : x13_1 < (l1.length : Int) := of_decide_eq_true q7_15
         obtain ⟨ad230, e230, hx230_0, hx230_1, hx230_2, hx230_3⟩ := at_T53 HR1.out x13_1 p230 q230
         cases e230
         replace p230 := eq_true p230
         replace q230 := eq_true q230
         go_wp2
         repeat (go_quiet (fail); try go_wp2)
         go_roundg k1
         case measure => have := HK1.out; omega
         case rel => exact ⟨(wrap64 (x13_1 + 1)), (by first | rfl | (simp; done) | (simp [*]; done)), H', ⟨by have := HK1.out; omega⟩, by repeat (first | exact Drawn0.refl _ | apply Drawn0.step)⟩
       ·rw [if_neg c7] at H
        exact absurd H (by simp)
      ·rw [if_neg c6] at H
       exact absurd H (by simp)
     ·rw [if_neg c5] at H
      exact absurd H (by simp)
    ·rw [if_neg c4] at H
     have c4b0 : decide (x13_1 < (l0.length : Int)) = false := decide_eq_false c4
     clear c4
     obtain rfl := Option.some.inj H
     go_wp2
     repeat (go_quiet (fail); try go_wp2)
     go_ret
     exact ⟨by first | rfl | (simp; done) | (simp [*]; done), by repeat (first | exact Drawn0.refl _ | apply Drawn0.step)⟩
 ·rw [if_neg c3] at H
  have c3b0 : ((l0.length : Int) == (l1.length : Int)) = false := beq_eq_false_iff_ne.mpr c3
  have c3b1 : ((l0.length : Int) != (l1.length : Int)) = true := bne_iff_ne.mpr c3
  have c3b2 : (l0.length == l1.length) = false := by first | simpa using c3 | (simp at c3 ⊢; omega)
  obtain rfl := Option.some.inj H
  go_enter Try.func79, Try.ntmps79
  go_wp2
  repeat (go_quiet (fail); try go_wp2)
  go_ret
  exact ⟨by first | rfl | (simp; done) | (simp [*]; done), by repeat (first | exact Drawn0.refl _ | apply Drawn0.step)⟩

/-! ### grid_Same: function 53 -/
def grid_Same.f (k : Nat) (a0_0 : Int) (a0_1 : Int) (l0_2 : List (S53)) (a1_0 : Int) (a1_1 : Int) (l1_2 : List (S53)) : Option (Bool) := if a0_0 = a1_0 then (if a0_1 = a1_1 then ((api_Cell_79.f k l0_2 l1_2).bind fun t233 => (some t233)) else (some false)) else (some false)
theorem grid_Same.mono : ∀ a0 a1 a2 a3 a4 a5 k, LeO (grid_Same.f k a0 a1 a2 a3 a4 a5) (grid_Same.f (k + 1) a0 a1 a2 a3 a4 a5) := by
 intro a0 a1 a2 a3 a4 a5 k
 unfold grid_Same.f
 repeat' first
   | (with_reducible exact api_Cell_79.mono _ _ _)
   | (with_reducible exact LeO.refl _)
   | (with_reducible exact LeO.none _)
   | (with_reducible refine LeO.ite ?_ ?_)
   | (with_reducible refine LeO.bind ?_ (fun _ => ?_))
   | exact api_Cell_79.mono _ _ _
   | exact LeO.none _
   | refine LeO.ite ?_ ?_
   | refine LeO.bind ?_ (fun _ => ?_)
set_option maxHeartbeats 8000000 in
set_option maxRecDepth 100000 in
theorem grid_Same.calls (k : Nat) (a0_0 : Int) (a0_1 : Int) (A0_2 : Option Addr) (c0_2 : Nat) (l0_2 : List (S53)) (a1_0 : Int) (a1_1 : Int) (A1_2 : Option Addr) (c1_2 : Nat) (l1_2 : List (S53)) (r : Bool) (w : World) (hr0_2 : Kd.C k53 w A0_2 l0_2.length l0_2) (hc0_2 : l0_2.length ≤ c0_2) (hr1_2 : Kd.C k53 w A1_2 l1_2.length l1_2) (hc1_2 : l1_2.length ≤ c1_2) (h : grid_Same.f k a0_0 a0_1 l0_2 a1_0 a1_1 l1_2 = some r) :
  Calls Try.prog 53 #[.agg #[.int .i64 a0_0, .int .i64 a0_1, .slice A0_2 l0_2.length c0_2], .agg #[.int .i64 a1_0, .int .i64 a1_1, .slice A1_2 l1_2.length c1_2]] w fun e w' => e = .returned (.bool r) ∧ Below w.heap.size w w' := by
 have hu75 := Try.underlying75
 have HR0_2 := A7_ hr0_2
 have HC0_2 := A7_ hc0_2
 clear hr0_2 hc0_2
 have HR1_2 := A7_ hr1_2
 have HC1_2 := A7_ hc1_2
 clear hr1_2 hc1_2
 have HB := A7_ (Below.refl w.heap.size w)
 have H : (if a0_0 = a1_0 then (if a0_1 = a1_1 then ((api_Cell_79.f k l0_2 l1_2).bind fun t233 => (some t233)) else (some false)) else (some false)) = some r := h
 clear h
 by_cases c3 : a0_0 = a1_0
 ·rw [if_pos c3] at H
  have c3b0 : (a0_0 == a1_0) = true := beq_iff_eq.mpr c3
  have c3b1 : (a0_0 != a1_0) = false := bne_eq_false_iff_eq.mpr c3
  clear c3
  by_cases c4 : a0_1 = a1_1
  ·rw [if_pos c4] at H
   have c4b0 : (a0_1 == a1_1) = true := beq_iff_eq.mpr c4
   have c4b1 : (a0_1 != a1_1) = false := bne_eq_false_iff_eq.mpr c4
   clear c4
   replace H := Option.bind_eq_some_iff.mp H
   obtain ⟨t233, A50, H⟩ := H
   replace H : (some t233) = some r := H
   have A5 := A7_ A50
   clear A50
   obtain rfl := Option.some.inj H
   go_enter Try.func53, Try.ntmps53
   go_wp2_with (first | ((with_reducible refine gate_dst (N := 2) rfl ?_); refine box_event ?hg (N := 2) ?hd (cs := #[.int .i64 a0_0, .int .i64 a0_1, .slice A0_2 l0_2.length c0_2]) (t := 75) ?hr ?_; (case hd => rfl); (case hg => rfl); (case hr => first | (go_simp; done) | (go_simp; rfl)); intro gb231 hg w6 hbox hb; have n0_ := A7_ (below_step q7_4 hb); have n1_ := A7_ (hbox); have n2_ := A7_ ((by rw [hg]; exact (below_size q7_4) : w.heap.size ≤ gb231)); have n3_ := A7_ ((by rw [hg]; exact (below_size q7_4) : w.heap.size ≤ gb231)); clear HB; have HB := n0_; have BK231 := n1_; have GW231 := n2_; have GE231 := n3_; clear n0_ n1_ n2_ n3_; clear hb hbox hg) | ((with_reducible refine gate_dst (N := 3) rfl ?_); refine box_event ?hg (N := 3) ?hd (cs := #[.int .i64 a1_0, .int .i64 a1_1, .slice A1_2 l1_2.length c1_2]) (t := 75) ?hr ?_; (case hd => rfl); (case hg => rfl); (case hr => first | (go_simp; done) | (go_simp; rfl)); intro gb232 hg w7 hbox hb; have n0_ := A7_ (blk_below (g := gb231) (o := .cells #[.int .i64 a0_0, .int .i64 a0_1, .slice A0_2 l0_2.length c0_2] 75 (0, 0)) q7_9 hb); have n1_ := A7_ (below_step q7_6 hb); have n2_ := A7_ (hbox); have n3_ := A7_ ((by rw [hg]; exact (below_size q7_6) : w.heap.size ≤ gb232)); have n4_ := A7_ ((by rw [hg]; exact (below_size q7_6) : w.heap.size ≤ gb232)); have n5_ := A7_ ((by rw [hg]; exact Nat.ne_of_lt (blk_lt (g := gb231) (o := .cells #[.int .i64 a0_0, .int .i64 a0_1, .slice A0_2 l0_2.length c0_2] 75 (0, 0)) q7_9) : gb231 ≠ gb232)); have n6_ := A7_ ((by rw [hg]; exact Nat.ne_of_gt (blk_lt (g := gb231) (o := .cells #[.int .i64 a0_0, .int .i64 a0_1, .slice A0_2 l0_2.length c0_2] 75 (0, 0)) q7_9) : gb232 ≠ gb231)); clear BK231 HB; have BK231 := n0_; have HB := n1_; have BK232 := n2_; have GW232 := n3_; have GE232 := n4_; have NB231_232 := n5_; have NB232_231 := n6_; clear n0_ n1_ n2_ n3_ n4_ n5_ n6_; clear hb hbox hg; have hnb8 := NB231_232.out; have hnc8 := NB232_231.out; have hcz9_0 : w7.cell? ⟨gb231, 0, none⟩ = some (.int .i64 a0_0) := bc7_ BK231 0; have hcz9_1 : w7.cell? ⟨gb231, 1, none⟩ = some (.int .i64 a0_1) := bc7_ BK231 1; have hcz9_2 : w7.cell? ⟨gb231, 2, none⟩ = some (.slice A0_2 l0_2.length c0_2) := bc7_ BK231 2; have hfz9_0 := blk_frozen BK231.out 0; have hfz9_1 := blk_frozen BK231.out 1; have hfz9_2 := blk_frozen BK231.out 2; have hcz10_0 : w7.cell? ⟨gb232, 0, none⟩ = some (.int .i64 a1_0) := bc7_ BK232 0; have hcz10_1 : w7.cell? ⟨gb232, 1, none⟩ = some (.int .i64 a1_1) := bc7_ BK232 1; have hcz10_2 : w7.cell? ⟨gb232, 2, none⟩ = some (.slice A1_2 l1_2.length c1_2) := bc7_ BK232 2; have hfz10_0 := blk_frozen BK232.out 0; have hfz10_1 := blk_frozen BK232.out 1; have hfz10_2 := blk_frozen BK232.out 2) | (go_at_call 79; (with_reducible refine (api_Cell_79.calls k _ _ l0_2 _ _ l1_2 t233 _ ?side1 ?side2 ?side3 ?side4 A5.out).mono ?_); (case side1 => repeat (first | exact (Kd.C_below HR0_2.out HB.out) | (with_reducible refine Kd.C_alloc ?_ _) | (with_reducible refine Kd.C_drewN ?_ _) | (with_reducible refine Kd.C_drew ?_))); (case side2 => exact HC0_2.out); (case side3 => repeat (first | exact (Kd.C_below HR1_2.out HB.out) | (with_reducible refine Kd.C_alloc ?_ _) | (with_reducible refine Kd.C_drewN ?_ _) | (with_reducible refine Kd.C_drew ?_))); (case side4 => exact HC1_2.out); rintro e w' ⟨rfl, ⟨nd, rfl⟩⟩))
   go_ret
   exact ⟨by first | rfl | (simp [errW_none, errW_some] <;> rfl) | (simp [*, errW_none, errW_some] <;> rfl), by repeat (first | (with_reducible first | exact HB.out | apply below_alloc | apply pw_below_drewN | apply below_drew1 | refine below_set ?_ GE231.out | refine below_set ?_ GE232.out) | exact HB.out)⟩
  ·rw [if_neg c4] at H
   have c4b0 : (a0_1 == a1_1) = false := beq_eq_false_iff_ne.mpr c4
   have c4b1 : (a0_1 != a1_1) = true := bne_iff_ne.mpr c4
   obtain rfl := Option.some.inj H
   go_enter Try.func53, Try.ntmps53
   go_wp2_with (first | ((with_reducible refine gate_dst (N := 2) rfl ?_); refine box_event ?hg (N := 2) ?hd (cs := #[.int .i64 a0_0, .int .i64 a0_1, .slice A0_2 l0_2.length c0_2]) (t := 75) ?hr ?_; (case hd => rfl); (case hg => rfl); (case hr => first | (go_simp; done) | (go_simp; rfl)); intro gb231 hg w11 hbox hb; have n0_ := A7_ (below_step q7_4 hb); have n1_ := A7_ (hbox); have n2_ := A7_ ((by rw [hg]; exact (below_size q7_4) : w.heap.size ≤ gb231)); have n3_ := A7_ ((by rw [hg]; exact (below_size q7_4) : w.heap.size ≤ gb231)); clear HB; have HB := n0_; have BK231 := n1_; have GW231 := n2_; have GE231 := n3_; clear n0_ n1_ n2_ n3_; clear hb hbox hg) | ((with_reducible refine gate_dst (N := 3) rfl ?_); refine box_event ?hg (N := 3) ?hd (cs := #[.int .i64 a1_0, .int .i64 a1_1, .slice A1_2 l1_2.length c1_2]) (t := 75) ?hr ?_; (case hd => rfl); (case hg => rfl); (case hr => first | (go_simp; done) | (go_simp; rfl)); intro gb232 hg w12 hbox hb; have n0_ := A7_ (blk_below (g := gb231) (o := .cells #[.int .i64 a0_0, .int .i64 a0_1, .slice A0_2 l0_2.length c0_2] 75 (0, 0)) q7_9 hb); have n1_ := A7_ (below_step q7_6 hb); have n2_ := A7_ (hbox); have n3_ := A7_ ((by rw [hg]; exact (below_size q7_6) : w.heap.size ≤ gb232)); have n4_ := A7_ ((by rw [hg]; exact (below_size q7_6) : w.heap.size ≤ gb232)); have n5_ := A7_ ((by rw [hg]; exact Nat.ne_of_lt (blk_lt (g := gb231) (o := .cells #[.int .i64 a0_0, .int .i64 a0_1, .slice A0_2 l0_2.length c0_2] 75 (0, 0)) q7_9) : gb231 ≠ gb232)); have n6_ := A7_ ((by rw [hg]; exact Nat.ne_of_gt (blk_lt (g := gb231) (o := .cells #[.int .i64 a0_0, .int .i64 a0_1, .slice A0_2 l0_2.length c0_2] 75 (0, 0)) q7_9) : gb232 ≠ gb231)); clear BK231 HB; have BK231 := n0_; have HB := n1_; have BK232 := n2_; have GW232 := n3_; have GE232 := n4_; have NB231_232 := n5_; have NB232_231 := n6_; clear n0_ n1_ n2_ n3_ n4_ n5_ n6_; clear hb hbox hg; have hnb13 := NB231_232.out; have hnc13 := NB232_231.out; have hcz14_0 : w12.cell? ⟨gb231, 0, none⟩ = some (.int .i64 a0_0) := bc7_ BK231 0; have hcz14_1 : w12.cell? ⟨gb231, 1, none⟩ = some (.int .i64 a0_1) := bc7_ BK231 1; have hcz14_2 : w12.cell? ⟨gb231, 2, none⟩ = some (.slice A0_2 l0_2.length c0_2) := bc7_ BK231 2; have hfz14_0 := blk_frozen BK231.out 0; have hfz14_1 := blk_frozen BK231.out 1; have hfz14_2 := blk_frozen BK231.out 2; have hcz15_0 : w12.cell? ⟨gb232, 0, none⟩ = some (.int .i64 a1_0) := bc7_ BK232 0; have hcz15_1 : w12.cell? ⟨gb232, 1, none⟩ = some (.int .i64 a1_1) := bc7_ BK232 1; have hcz15_2 : w12.cell? ⟨gb232, 2, none⟩ = some (.slice A1_2 l1_2.length c1_2) := bc7_ BK232 2; have hfz15_0 := blk_frozen BK232.out 0; have hfz15_1 := blk_frozen BK232.out 1; have hfz15_2 := blk_frozen BK232.out 2))
   go_ret
   exact ⟨by first | rfl | (simp [errW_none, errW_some] <;> rfl) | (simp [*, errW_none, errW_some] <;> rfl), by repeat (first | (with_reducible first | exact HB.out | apply below_alloc | apply pw_below_drewN | apply below_drew1 | refine below_set ?_ GE231.out | refine below_set ?_ GE232.out) | exact HB.out)⟩
 ·rw [if_neg c3] at H
  have c3b0 : (a0_0 == a1_0) = false := beq_eq_false_iff_ne.mpr c3
  have c3b1 : (a0_0 != a1_0) = true := bne_iff_ne.mpr c3
  obtain rfl := Option.some.inj H
  go_enter Try.func53, Try.ntmps53
  go_wp2_with (first | ((with_reducible refine gate_dst (N := 2) rfl ?_); refine box_event ?hg (N := 2) ?hd (cs := #[.int .i64 a0_0, .int .i64 a0_1, .slice A0_2 l0_2.length c0_2]) (t := 75) ?hr ?_; (case hd => rfl); (case hg => rfl); (case hr => first | (go_simp; done) | (go_simp; rfl)); intro gb231 hg w16 hbox hb; have n0_ := A7_ (below_step q7_4 hb); have n1_ := A7_ (hbox); have n2_ := A7_ ((by rw [hg]; exact (below_size q7_4) : w.heap.size ≤ gb231)); have n3_ := A7_ ((by rw [hg]; exact (below_size q7_4) : w.heap.size ≤ gb231)); clear HB; have HB := n0_; have BK231 := n1_; have GW231 := n2_; have GE231 := n3_; clear n0_ n1_ n2_ n3_; clear hb hbox hg) | ((with_reducible refine gate_dst (N := 3) rfl ?_); refine box_event ?hg (N := 3) ?hd (cs := #[.int .i64 a1_0, .int .i64 a1_1, .slice A1_2 l1_2.length c1_2]) (t := 75) ?hr ?_; (case hd => rfl); (case hg => rfl); (case hr => first | (go_simp; done) | (go_simp; rfl)); intro gb232 hg w17 hbox hb; have n0_ := A7_ (blk_below (g := gb231) (o := .cells #[.int .i64 a0_0, .int .i64 a0_1, .slice A0_2 l0_2.length c0_2] 75 (0, 0)) q7_9 hb); have n1_ := A7_ (below_step q7_6 hb); have n2_ := A7_ (hbox); have n3_ := A7_ ((by rw [hg]; exact (below_size q7_6) : w.heap.size ≤ gb232)); have n4_ := A7_ ((by rw [hg]; exact (below_size q7_6) : w.heap.size ≤ gb232)); have n5_ := A7_ ((by rw [hg]; exact Nat.ne_of_lt (blk_lt (g := gb231) (o := .cells #[.int .i64 a0_0, .int .i64 a0_1, .slice A0_2 l0_2.length c0_2] 75 (0, 0)) q7_9) : gb231 ≠ gb232)); have n6_ := A7_ ((by rw [hg]; exact Nat.ne_of_gt (blk_lt (g := gb231) (o := .cells #[.int .i64 a0_0, .int .i64 a0_1, .slice A0_2 l0_2.length c0_2] 75 (0, 0)) q7_9) : gb232 ≠ gb231)); clear BK231 HB; have BK231 := n0_; have HB := n1_; have BK232 := n2_; have GW232 := n3_; have GE232 := n4_; have NB231_232 := n5_; have NB232_231 := n6_; clear n0_ n1_ n2_ n3_ n4_ n5_ n6_; clear hb hbox hg; have hnb18 := NB231_232.out; have hnc18 := NB232_231.out; have hcz19_0 : w17.cell? ⟨gb231, 0, none⟩ = some (.int .i64 a0_0) := bc7_ BK231 0; have hcz19_1 : w17.cell? ⟨gb231, 1, none⟩ = some (.int .i64 a0_1) := bc7_ BK231 1; have hcz19_2 : w17.cell? ⟨gb231, 2, none⟩ = some (.slice A0_2 l0_2.length c0_2) := bc7_ BK231 2; have hfz19_0 := blk_frozen BK231.out 0; have hfz19_1 := blk_frozen BK231.out 1; have hfz19_2 := blk_frozen BK231.out 2; have hcz20_0 : w17.cell? ⟨gb232, 0, none⟩ = some (.int .i64 a1_0) := bc7_ BK232 0; have hcz20_1 : w17.cell? ⟨gb232, 1, none⟩ = some (.int .i64 a1_1) := bc7_ BK232 1; have hcz20_2 : w17.cell? ⟨gb232, 2, none⟩ = some (.slice A1_2 l1_2.length c1_2) := bc7_ BK232 2; have hfz20_0 := blk_frozen BK232.out 0; have hfz20_1 := blk_frozen BK232.out 1; have hfz20_2 := blk_frozen BK232.out 2))
  go_ret
  exact ⟨by first | rfl | (simp [errW_none, errW_some] <;> rfl) | (simp [*, errW_none, errW_some] <;> rfl), by repeat (first | (with_reducible first | exact HB.out | apply below_alloc | apply pw_below_drewN | apply below_drew1 | refine below_set ?_ GE231.out | refine below_set ?_ GE232.out) | exact HB.out)⟩

/-! ### grid_Board_Rows: function 54 -/
def grid_Board_Rows.f (a0_0 : Int) (a0_1 : Int) (l0_2 : List (S53)) : Option (Int × Int × Int × (List (S53))) := some (a0_0, a0_0, a0_1, l0_2)
set_option maxHeartbeats 8000000 in
set_option maxRecDepth 100000 in
theorem grid_Board_Rows.calls (g : Nat) (a0_0 : Int) (a0_1 : Int) (P0_2_ : Nat → Prop) (u9000_ : Value) (l0_2 : List (S53)) (r1 : Int) (r2 : Int) (r3 : Int) (r4 : List (S53)) (w0 w : World) (hb : w.heap[g]? = some (.cells #[.int .i64 a0_0, .int .i64 a0_1, u9000_] 112 (0, 0))) (hg : w0.heap.size ≤ g) (hB : Below w0.heap.size w0 w) (ho0_2 : Kd.R k53 53 w w0.heap.size P0_2_ u9000_ l0_2) (h : grid_Board_Rows.f a0_0 a0_1 l0_2 = some (r1, r2, r3, r4)) :
  Calls Try.prog 54 #[.pointer (some ⟨g, 0, none⟩)] w fun e w' => ∃ v3_ : Value, Aside0 (e = .returned (.int .i64 r1) ∧ Kd.R k53 53 w' w0.heap.size (fun k_ => (P0_2_ k_ ∨ w.heap.size ≤ k_)) v3_ r4 ∧ w'.heap[g]? = some (.cells #[.int .i64 r2, .int .i64 r3, v3_] 112 (0, 0)) ∧ Below w0.heap.size w0 w' ∧ Kept w w' (fun k_ => (P0_2_ k_) ∨ k_ = g)) := by
 have HO0_2 := A7_ (show Kd.R k53 53 w w0.heap.size (fun k_ => (P0_2_ k_ ∨ w.heap.size ≤ k_)) u9000_ l0_2 from Kd.R_mono ho0_2 (fun k_ hk => (.inl hk)))
 have HK := A7_ (Kept.refl w (fun k_ => (P0_2_ k_) ∨ k_ = g))
 have BK0 := A7_ hb
 have GE0 := A7_ hg
 clear hb hg
 have HW0 := A7_ hB.size
 have HB := A7_ hB
 clear hB
 have H : (some (a0_0, a0_0, a0_1, l0_2)) = some (r1, r2, r3, r4) := h
 clear h
 simp only [Option.some.injEq, Prod.mk.injEq] at H
 obtain ⟨rfl, rfl, rfl, rfl⟩ := H
 have hcz2_0 : w.cell? ⟨g, 0, none⟩ = some (.int .i64 a0_0) := bc7_ BK0 0
 have hcz2_1 : w.cell? ⟨g, 1, none⟩ = some (.int .i64 a0_1) := bc7_ BK0 1
 have hcz2_2 : w.cell? ⟨g, 2, none⟩ = some (u9000_) := bc7_ BK0 2
 have hfz2_0 := blk_frozen BK0.out 0
 have hfz2_1 := blk_frozen BK0.out 1
 have hfz2_2 := blk_frozen BK0.out 2
 go_enter Try.func54, Try.ntmps54
 go_wp2
 go_ret
 exact ⟨(u9000_), by first | rfl | (simp [errW_none, errW_some, ptrW_true, ptrW_false] <;> rfl) | (simp [*, errW_none, errW_some, ptrW_true, ptrW_false] <;> rfl), by (with_reducible repeat (first | apply Kd.R_alloc | apply Kd.R_drewN | apply Kd.R_drew)); exact HO0_2.out, q7_13, by repeat (first | (with_reducible first | exact HB.out | apply below_alloc | apply pw_below_drewN | apply below_drew1 | refine below_set ?_ GE0.out) | exact HB.out), by repeat (first | (with_reducible first | exact HK.out | apply Kept.alloc | apply Kept.drewN | apply Kept.drew | refine Kept.setCell ?_ (.inl (.inr rfl)) _) | exact HK.out)⟩

/-! ### grid_Board_Cols: function 55 -/
def grid_Board_Cols.f (a0_0 : Int) (a0_1 : Int) (l0_2 : List (S53)) : Option (Int × Int × Int × (List (S53))) := some (a0_1, a0_0, a0_1, l0_2)
set_option maxHeartbeats 8000000 in
set_option maxRecDepth 100000 in
theorem grid_Board_Cols.calls (g : Nat) (a0_0 : Int) (a0_1 : Int) (P0_2_ : Nat → Prop) (u9000_ : Value) (l0_2 : List (S53)) (r1 : Int) (r2 : Int) (r3 : Int) (r4 : List (S53)) (w0 w : World) (hb : w.heap[g]? = some (.cells #[.int .i64 a0_0, .int .i64 a0_1, u9000_] 112 (0, 0))) (hg : w0.heap.size ≤ g) (hB : Below w0.heap.size w0 w) (ho0_2 : Kd.R k53 53 w w0.heap.size P0_2_ u9000_ l0_2) (h : grid_Board_Cols.f a0_0 a0_1 l0_2 = some (r1, r2, r3, r4)) :
  Calls Try.prog 55 #[.pointer (some ⟨g, 0, none⟩)] w fun e w' => ∃ v3_ : Value, Aside0 (e = .returned (.int .i64 r1) ∧ Kd.R k53 53 w' w0.heap.size (fun k_ => (P0_2_ k_ ∨ w.heap.size ≤ k_)) v3_ r4 ∧ w'.heap[g]? = some (.cells #[.int .i64 r2, .int .i64 r3, v3_] 112 (0, 0)) ∧ Below w0.heap.size w0 w' ∧ Kept w w' (fun k_ => (P0_2_ k_) ∨ k_ = g)) := by
 have HO0_2 := A7_ (show Kd.R k53 53 w w0.heap.size (fun k_ => (P0_2_ k_ ∨ w.heap.size ≤ k_)) u9000_ l0_2 from Kd.R_mono ho0_2 (fun k_ hk => (.inl hk)))
 have HK := A7_ (Kept.refl w (fun k_ => (P0_2_ k_) ∨ k_ = g))
 have BK0 := A7_ hb
 have GE0 := A7_ hg
 clear hb hg
 have HW0 := A7_ hB.size
 have HB := A7_ hB
 clear hB
 have H : (some (a0_1, a0_0, a0_1, l0_2)) = some (r1, r2, r3, r4) := h
 clear h
 simp only [Option.some.injEq, Prod.mk.injEq] at H
 obtain ⟨rfl, rfl, rfl, rfl⟩ := H
 have hcz2_0 : w.cell? ⟨g, 0, none⟩ = some (.int .i64 a0_0) := bc7_ BK0 0
 have hcz2_1 : w.cell? ⟨g, 1, none⟩ = some (.int .i64 a0_1) := bc7_ BK0 1
 have hcz2_2 : w.cell? ⟨g, 2, none⟩ = some (u9000_) := bc7_ BK0 2
 have hfz2_0 := blk_frozen BK0.out 0
 have hfz2_1 := blk_frozen BK0.out 1
 have hfz2_2 := blk_frozen BK0.out 2
 go_enter Try.func55, Try.ntmps55
 go_wp2
 go_ret
 exact ⟨(u9000_), by first | rfl | (simp [errW_none, errW_some, ptrW_true, ptrW_false] <;> rfl) | (simp [*, errW_none, errW_some, ptrW_true, ptrW_false] <;> rfl), by (with_reducible repeat (first | apply Kd.R_alloc | apply Kd.R_drewN | apply Kd.R_drew)); exact HO0_2.out, q7_13, by repeat (first | (with_reducible first | exact HB.out | apply below_alloc | apply pw_below_drewN | apply below_drew1 | refine below_set ?_ GE0.out) | exact HB.out), by repeat (first | (with_reducible first | exact HK.out | apply Kept.alloc | apply Kept.drewN | apply Kept.drew | refine Kept.setCell ?_ (.inl (.inr rfl)) _) | exact HK.out)⟩

/-! ### grid_Board_At: function 56 -/
def grid_Board_At.f (a0_0 : Int) (a0_1 : Int) (l0_2 : List (S53)) (a1 : Int) (a2 : Int) : Option (Int × Int × Int × Int × Int × Int × (List (S53))) := (grid_Board_there.f a0_0 a0_1 l0_2 a1 a2).bind fun bt235 => (if bt235.1 = true then (if 0 ≤ (wrap64 ((wrap64 (a1 * bt235.2.2.1)) + a2)) then (if (wrap64 ((wrap64 (a1 * bt235.2.2.1)) + a2)) < (bt235.2.2.2.length : Int) then (some ((rd_T53 bt235.2.2.2 (wrap64 ((wrap64 (a1 * bt235.2.2.1)) + a2))).f0, (rd_T53 bt235.2.2.2 (wrap64 ((wrap64 (a1 * bt235.2.2.1)) + a2))).f1.f0, (rd_T53 bt235.2.2.2 (wrap64 ((wrap64 (a1 * bt235.2.2.1)) + a2))).f1.f1, (rd_T53 bt235.2.2.2 (wrap64 ((wrap64 (a1 * bt235.2.2.1)) + a2))).f1.f2, bt235.2.1, bt235.2.2.1, bt235.2.2.2)) else (none)) else (none)) else (some (0, 0, 0, 0, bt235.2.1, bt235.2.2.1, bt235.2.2.2)))
def grid_Board_At.T3 : Bool × List (List Nat × List Nat) := (true, [([], []), ([0], [0]), ([1], [1]), ([2], [2]), ([], []), ([], []), ([5], [5]), ([6], [6]), ([7], [7]), ([4, 8], [4, 8]), ([], []), ([9, 10], [9, 10]), ([3, 11], [3, 11]), ([12], [12]), ([13, 0, 1, 2, 3, 4, 5, 6, 7, 8, 9, 10, 11, 12, 13], [13])])
def grid_Board_At.B3 : List Nat := [0, 1, 3, 7, 0, 0, 32, 96, 224, 496, 0, 2032, 4095, 8191, 16383]
theorem grid_Board_At.tab3 : rtab .any (opsOf Try.f56 3) = grid_Board_At.T3 := by kernel_rfl
theorem grid_Board_At.bits3 : waitsOk grid_Board_At.T3.2 grid_Board_At.B3 = true := by kernel_rfl
set_option maxHeartbeats 8000000 in
set_option maxRecDepth 100000 in
theorem grid_Board_At.calls (g : Nat) (a0_0 : Int) (a0_1 : Int) (P0_2_ : Nat → Prop) (u9000_ : Value) (l0_2 : List (S53)) (a1 : Int) (a2 : Int) (r1 : Int) (r2 : Int) (r3 : Int) (r4 : Int) (r5 : Int) (r6 : Int) (r7 : List (S53)) (w0 w : World) (hb : w.heap[g]? = some (.cells #[.int .i64 a0_0, .int .i64 a0_1, u9000_] 112 (0, 0))) (hg : w0.heap.size ≤ g) (hB : Below w0.heap.size w0 w) (ho0_2 : Kd.R k53 53 w w0.heap.size P0_2_ u9000_ l0_2) (h : grid_Board_At.f a0_0 a0_1 l0_2 a1 a2 = some (r1, r2, r3, r4, r5, r6, r7)) :
  Calls Try.prog 56 #[.pointer (some ⟨g, 0, none⟩), .int .i64 a1, .int .i64 a2] w fun e w' => ∃ v6_ : Value, Aside0 (e = .returned (.agg #[.int .i32 r1, .int .i64 r2, .int .i64 r3, .int .i64 r4]) ∧ Kd.R k53 53 w' w0.heap.size (fun k_ => (P0_2_ k_ ∨ w.heap.size ≤ k_)) v6_ r7 ∧ w'.heap[g]? = some (.cells #[.int .i64 r5, .int .i64 r6, v6_] 112 (0, 0)) ∧ Below w0.heap.size w0 w' ∧ Kept w w' (fun k_ => (P0_2_ k_) ∨ k_ = g)) := by
 have hu53 := Try.underlying53
 have HO0_2 := A7_ (show Kd.R k53 53 w w0.heap.size (fun k_ => (P0_2_ k_ ∨ w.heap.size ≤ k_)) u9000_ l0_2 from Kd.R_mono ho0_2 (fun k_ hk => (.inl hk)))
 have HK := A7_ (Kept.refl w (fun k_ => (P0_2_ k_) ∨ k_ = g))
 have BK0 := A7_ hb
 have GE0 := A7_ hg
 clear hb hg
 have HW0 := A7_ hB.size
 have HB := A7_ hB
 clear hB
 have H : ((grid_Board_there.f a0_0 a0_1 l0_2 a1 a2).bind fun bt235 => (if bt235.1 = true then (if 0 ≤ (wrap64 ((wrap64 (a1 * bt235.2.2.1)) + a2)) then (if (wrap64 ((wrap64 (a1 * bt235.2.2.1)) + a2)) < (bt235.2.2.2.length : Int) then (some ((rd_T53 bt235.2.2.2 (wrap64 ((wrap64 (a1 * bt235.2.2.1)) + a2))).f0, (rd_T53 bt235.2.2.2 (wrap64 ((wrap64 (a1 * bt235.2.2.1)) + a2))).f1.f0, (rd_T53 bt235.2.2.2 (wrap64 ((wrap64 (a1 * bt235.2.2.1)) + a2))).f1.f1, (rd_T53 bt235.2.2.2 (wrap64 ((wrap64 (a1 * bt235.2.2.1)) + a2))).f1.f2, bt235.2.1, bt235.2.2.1, bt235.2.2.2)) else (none)) else (none)) else (some (0, 0, 0, 0, bt235.2.1, bt235.2.2.1, bt235.2.2.2)))) = some (r1, r2, r3, r4, r5, r6, r7) := h
 clear h
 replace H := Option.bind_eq_some_iff.mp H
 obtain ⟨⟨t235, t236, t237, t238⟩, A40, H⟩ := H
 replace H : (if t235 = true then (if 0 ≤ (wrap64 ((wrap64 (a1 * t237)) + a2)) then (if (wrap64 ((wrap64 (a1 * t237)) + a2)) < (t238.length : Int) then (some ((rd_T53 t238 (wrap64 ((wrap64 (a1 * t237)) + a2))).f0, (rd_T53 t238 (wrap64 ((wrap64 (a1 * t237)) + a2))).f1.f0, (rd_T53 t238 (wrap64 ((wrap64 (a1 * t237)) + a2))).f1.f1, (rd_T53 t238 (wrap64 ((wrap64 (a1 * t237)) + a2))).f1.f2, t236, t237, t238)) else (none)) else (none)) else (some (0, 0, 0, 0, t236, t237, t238))) = some (r1, r2, r3, r4, r5, r6, r7) := H
 have A4 := A7_ A40
 clear A40
 by_cases c5 : t235 = true
 ·subst c5
  have H1 : (if 0 ≤ (wrap64 ((wrap64 (a1 * t237)) + a2)) then (if (wrap64 ((wrap64 (a1 * t237)) + a2)) < (t238.length : Int) then (some ((rd_T53 t238 (wrap64 ((wrap64 (a1 * t237)) + a2))).f0, (rd_T53 t238 (wrap64 ((wrap64 (a1 * t237)) + a2))).f1.f0, (rd_T53 t238 (wrap64 ((wrap64 (a1 * t237)) + a2))).f1.f1, (rd_T53 t238 (wrap64 ((wrap64 (a1 * t237)) + a2))).f1.f2, t236, t237, t238)) else (none)) else (none)) = some (r1, r2, r3, r4, r5, r6, r7) := by rw [if_pos rfl] at H; exact H
  clear H; have H := H1; clear H1
  obtain ⟨ji6, hji6⟩ : ∃ j_ : Int, (wrap64 ((wrap64 (a1 * t237)) + a2)) = j_ := ⟨_, rfl⟩
  replace H : (if 0 ≤ (ji6) then (if (ji6) < (t238.length : Int) then (some ((rd_T53 t238 (ji6)).f0, (rd_T53 t238 (ji6)).f1.f0, (rd_T53 t238 (ji6)).f1.f1, (rd_T53 t238 (ji6)).f1.f2, t236, t237, t238)) else (none)) else (none)) = some (r1, r2, r3, r4, r5, r6, r7) := by first | (rw [hji6] at H; exact H) | (simp only [hji6] at H ⊢; exact H)
  (try rw [hji6] at A4)
  have hji6w : (IntKind.i64.wrap ((wrap64 (a1 * t237)) + a2)) = ji6 := (i64_w _).trans hji6
  by_cases c7 : 0 ≤ (ji6)
  ·rw [if_pos c7] at H
   have c7b0 : decide (0 ≤ (ji6)) = true := decide_eq_true c7
   clear c7
   by_cases c8 : (ji6) < (t238.length : Int)
   ·rw [if_pos c8] at H
    have c8b0 : decide ((ji6) < (t238.length : Int)) = true := decide_eq_true c8
    clear c8
    simp only [Option.some.injEq, Prod.mk.injEq] at H
    obtain ⟨rfl, rfl, rfl, rfl, rfl, rfl, rfl⟩ := H
    go_enter Try.func56, Try.ntmps56
    try go_wp2_with (first | ((with_reducible refine gate_dst (N := 6) rfl ?_); refine box_event ?hg (N := 6) ?hd (cs := #[.int .i32 0, .int .i64 0, .int .i64 0, .int .i64 0]) (t := 53) ?hr ?_; (case hd => rfl); (case hg => rfl); (case hr => first | (go_simp; done) | (go_simp; rfl)); intro gb234 hg w9 hbox hb; have n0_ := A7_ (Kd.R_below (Kd.R_elderB (by (with_reducible repeat (first | apply Kd.R_alloc | apply Kd.R_drewN | apply Kd.R_drew)); exact HO0_2.out) gb234 (Nat.le_of_eq hg.symm)) hb); have n1_ := A7_ (blk_below (g := g) (o := .cells #[.int .i64 a0_0, .int .i64 a0_1, u9000_] 112 (0, 0)) q7_13 hb); have n2_ := A7_ (Kept.below (S := (fun k_ => (P0_2_ k_) ∨ k_ = g)) q7_24 hb); have n3_ := A7_ (below_step q7_16 hb); have n4_ := A7_ (hbox); have n5_ := A7_ ((by rw [hg]; exact q7_21 : w.heap.size ≤ gb234)); have n6_ := A7_ ((by rw [hg]; exact (below_size q7_16) : w0.heap.size ≤ gb234)); have n7_ := A7_ ((by rw [hg]; exact Nat.ne_of_lt (blk_lt (g := g) (o := .cells #[.int .i64 a0_0, .int .i64 a0_1, u9000_] 112 (0, 0)) q7_13) : g ≠ gb234)); have n8_ := A7_ ((by rw [hg]; exact Nat.ne_of_gt (blk_lt (g := g) (o := .cells #[.int .i64 a0_0, .int .i64 a0_1, u9000_] 112 (0, 0)) q7_13) : gb234 ≠ g)); clear HO0_2 BK0 HK HB; have HO0_2 := n0_; have BK0 := n1_; have HK := n2_; have HB := n3_; have BK234 := n4_; have GW234 := n5_; have GE234 := n6_; have NB0_234 := n7_; have NB234_0 := n8_; clear n0_ n1_ n2_ n3_ n4_ n5_ n6_ n7_ n8_; clear hb hbox hg; obtain ⟨Ao10, co10, eo10⟩ := Kd.R_slice HO0_2.out; subst eo10) | ((with_reducible refine gate_callee (f := 76) rfl ?_); refine goesL_ (some 10) rfl rfl Try.func76 q7_20 rfl #[.pointer (some ⟨g, 0, none⟩), .int .i64 a1, .int .i64 a2] rfl q7_17 ?_; (with_reducible refine (grid_Board_there.calls g a0_0 a0_1 (fun k_ => some k_ = (.slice Ao10 l0_2.length co10 : Value).ownBlock) (.slice Ao10 l0_2.length co10) l0_2 a1 a2 true t236 t237 t238 w0 _ ?side2 ?side3 ?side1 ?side4 A4.out).mono ?_); (case side1 => repeat (first | (with_reducible first | exact HB.out | apply below_alloc | apply pw_below_drewN | apply below_drew1 | refine below_set ?_ GE0.out | refine below_set ?_ GE234.out) | exact HB.out)); (case side2 => (with_reducible repeat (first | refine blk_drewN ?_ _ | refine blk_drew ?_ | refine blk_alloc ?_ _)); exact BK0.out); (case side3 => exact GE0.out); (case side4 => exact Kd.R_tight rfl HO0_2.out); rintro e w11 ⟨v239, rfl, ho0, hbx, hb, hkp⟩; refine ⟨_, rfl, ?_⟩; have n0_ := A7_ (hbx); have n1_ := A7_ (blk_kept q7_18 hkp (fun hs_ => Or.elim hs_ (fun hs_ => (fun e_ => (Kd.R_away HO0_2.out (fun _ hk => hk.2)) e_) hs_) (fun e_ => NB234_0.out e_))); have n2_ := A7_ (Kd.R_mono (ok' := fun k_ => (P0_2_ k_ ∨ w.heap.size ≤ k_) ∧ k_ ≠ gb234) ho0 (fun k_ hk_ => ⟨Or.elim hk_ (fun hs_ => (HO0_2.out.1 k_ (hs_).symm).1) (fun hn_ => (.inr (Nat.le_trans q7_19 hn_))), Or.elim hk_ (fun hs_ => fun e_ => (Kd.R_away HO0_2.out (fun _ hk => hk.2)) (by rw [← e_]; exact hs_)) (fun hn_ => (Kd.freshB (g := gb234) (o := .cells #[.int .i32 0, .int .i64 0, .int .i64 0, .int .i64 0] 53 (0, 0)) q7_18 k_ hn_))⟩)); have n3_ := A7_ (Kept.then_ (S := (fun k_ => (P0_2_ k_) ∨ k_ = g)) q7_23 hkp (fun k_ hs_ => Or.elim hs_ (fun hs_ => (fun e_ => Or.imp_left Or.inl ((HO0_2.out.1 k_ e_.symm).1)) hs_) (fun e_ => .inl (.inr e_)))); have n4_ := A7_ (hb); clear BK0 BK234 HK HB HO0_2; have BK0 := n0_; have BK234 := n1_; have HO240 := n2_; have HK := n3_; have HB := n4_; clear n0_ n1_ n2_ n3_ n4_; (try clear hbx); (try clear hbn); (try clear hgn); (try clear hb); (try clear hkp); (try clear ho0)))
    have n0_ := A7_ (Kd.R_drew HO240.out)
    have n1_ := A7_ (blk_drew BK0.out)
    have n2_ := A7_ (blk_drew BK234.out)
    have n3_ := A7_ (Kept.drew HK.out)
    have n4_ := A7_ (below_drew1 HB.out)
    clear HO240; clear BK0; clear BK234; clear HK; clear HB; have HO240 := n0_; have BK0 := n1_; have BK234 := n2_; have HK := n3_; have HB := n4_; clear n0_ n1_ n2_ n3_ n4_
    obtain ⟨Ao13, co13, eo13⟩ := Kd.R_slice HO240.out
    (first | subst eo13 | (injection eo13 with f1_ f2_ f3_; have f4_ := f1_.symm; have f5_ := f3_.symm; clear f1_ f2_ f3_; subst f4_; subst f5_))
    have p241 : 0 ≤ ((ji6) : Int) := of_decide_eq_true q7_15
    have q241 : (ji6) < (t238.length : Int) := of_decide_eq_true q7_15
    obtain ⟨ad241, e241, hx241_0, hx241_1, hx241_2, hx241_3⟩ := at_T53 (Kd.R_reads' HO240.out).2.2 (ji6) p241 q241
    cases e241
    replace p241 := eq_true p241
    replace q241 := eq_true q241
    refine start_ (n := 15) (S := fun w' => w'.cell? ⟨g, 0, none⟩ = some (.int .i64 t236) ∧ w'.cell? ⟨g, 1, none⟩ = some (.int .i64 t237) ∧ w'.cell? ⟨g, 2, none⟩ = some (.slice (some ad241) t238.length co13) ∧ w'.cell? (ad241.add (((ji6)).toNat * 4)) = some (.int .i32 ((rd_T53 t238 (ji6)).f0)) ∧ w'.cell? ⟨(ad241.add (((ji6)).toNat * 4)).block, (ad241.add (((ji6)).toNat * 4)).off + 1, none⟩ = some (.int .i64 ((rd_T53 t238 (ji6)).f1.f0)) ∧ w'.cell? ⟨(ad241.add (((ji6)).toNat * 4)).block, (ad241.add (((ji6)).toNat * 4)).off + 2, none⟩ = some (.int .i64 ((rd_T53 t238 (ji6)).f1.f1)) ∧ w'.cell? ⟨(ad241.add (((ji6)).toNat * 4)).block, (ad241.add (((ji6)).toNat * 4)).off + 3, none⟩ = some (.int .i64 ((rd_T53 t238 (ji6)).f1.f2))) (ds := []) #[false, false, false, false, false, false, false, false, false, false, false, false, false, false, false] q7_20 rfl rfl ⟨bc7_ BK0 0, bc7_ BK0 1, bc7_ BK0 2, hx241_0, hx241_1, hx241_2, hx241_3⟩ (fun hHeld => ?_); refine with_tabW grid_Board_At.tab3 grid_Board_At.bits3 (fun HT_ HW_ => ?_)
    generalize w11.drew = w12 at HO240 BK0 BK234 HK HB hx241_0 hx241_1 hx241_2 hx241_3 hHeld ⊢
    refine pure_ (i := 0) (N := some 13) (v := ?_) (a' := ?_) #[true, false, false, false, false, false, false, false, false, false, false, false, false, false, false] rfl rfl (any_of HT_.out q7_20) (fun _ _ _ h => h) (Or.inl ⟨by rfl, ?_⟩) ?_ ?_
    rotate_left; · intro w'; go_simp; with_reducible rfl
    rotate_left; · simp only [Act.put, setIfInBounds_toArray, set_cons_zero, set_cons_succ, i64_w, i32_w]; rfl
    refine pure_ (i := 1) (N := some 14) (v := ?_) (a' := ?_) #[true, true, false, false, false, false, false, false, false, false, false, false, false, false, false] rfl rfl (any_of HT_.out q7_20) (fun _ _ _ h => h) (Or.inl ⟨by rfl, ?_⟩) ?_ ?_
    rotate_left; · intro w'; go_simp; with_reducible rfl
    rotate_left; · simp only [Act.put, setIfInBounds_toArray, set_cons_zero, set_cons_succ, i64_w, i32_w]; rfl
    refine pure_ (i := 2) (N := some 15) (v := ?_) (a' := ?_) #[true, true, true, false, false, false, false, false, false, false, false, false, false, false, false] rfl rfl (any_of HT_.out q7_20) (fun _ _ _ h => h) (Or.inl ⟨by rfl, ?_⟩) ?_ ?_
    rotate_left; · intro w'; go_simp; with_reducible rfl
    rotate_left; · simp only [Act.put, setIfInBounds_toArray, set_cons_zero, set_cons_succ, i64_w, i32_w]; rfl
    refine pure_ (i := 4) (N := some 17) (v := ?_) (a' := ?_) #[true, true, true, false, true, false, false, false, false, false, false, false, false, false, false] rfl rfl (any_of HT_.out q7_20) (fun _ _ _ h => h) (Or.inl ⟨by rfl, ?_⟩) ?_ ?_
    rotate_left; · intro w'; go_simp; with_reducible rfl
    rotate_left; · simp only [Act.put, setIfInBounds_toArray, set_cons_zero, set_cons_succ, i64_w, i32_w]; rfl
    refine pure_ (i := 5) (N := some 18) (v := ?_) (a' := ?_) #[true, true, true, false, true, true, false, false, false, false, false, false, false, false, false] rfl rfl (any_of HT_.out q7_20) (fun _ _ _ h => h) (Or.inl ⟨by rfl, ?_⟩) ?_ ?_
    rotate_left; · intro w'; go_simp; with_reducible rfl
    rotate_left; · simp only [Act.put, setIfInBounds_toArray, set_cons_zero, set_cons_succ, i64_w, i32_w]; rfl
    refine pure_ (i := 6) (N := some 19) (v := ?_) (a' := ?_) #[true, true, true, false, true, true, true, false, false, false, false, false, false, false, false] rfl rfl (any_of HT_.out q7_20) (fun _ _ _ h => h) (Or.inl ⟨by rfl, ?_⟩) ?_ ?_
    rotate_left; · intro w'; go_simp; with_reducible rfl
    rotate_left; · simp only [Act.put, setIfInBounds_toArray, set_cons_zero, set_cons_succ, i64_w, i32_w]; rfl
    refine pure_ (i := 7) (N := some 20) (v := ?_) (a' := ?_) #[true, true, true, false, true, true, true, true, false, false, false, false, false, false, false] rfl rfl (any_of HT_.out q7_20) (fun _ _ _ h => h) (Or.inl ⟨by rfl, ?_⟩) ?_ ?_
    rotate_left; · intro w'; go_simp; with_reducible rfl
    rotate_left; · simp only [Act.put, setIfInBounds_toArray, set_cons_zero, set_cons_succ, i64_w, i32_w]; rfl
    refine pure_ (i := 10) (N := some 23) (v := ?_) (a' := ?_) #[true, true, true, false, true, true, true, true, false, false, true, false, false, false, false] rfl rfl (any_of HT_.out q7_20) (fun _ _ _ h => h) (Or.inl ⟨by rfl, ?_⟩) ?_ ?_
    rotate_left; · intro w'; go_simp; with_reducible rfl
    rotate_left; · simp only [Act.put, setIfInBounds_toArray, set_cons_zero, set_cons_succ, i64_w, i32_w]; rfl
    refine take_ (i := 3) (N := some 16) (v := ?_) (a' := ?_) #[true, true, true, true, true, true, true, true, false, false, true, false, false, false, false] rfl rfl (take_ofW HT_.out HW_.out q7_20) (fun _ _ _ h => h) (Or.inl ⟨by rfl, ?_⟩) hHeld ?_ ?_
    rotate_left; · rintro w' ⟨s0, s1, s2, s3, s4, s5, s6⟩; go_simp; with_reducible rfl
    rotate_left; · simp only [Act.put, setIfInBounds_toArray, set_cons_zero, set_cons_succ, i64_w, i32_w]; rfl
    refine take_ (i := 8) (N := some 21) (v := ?_) (a' := ?_) #[true, true, true, true, true, true, true, true, true, false, true, false, false, false, false] rfl rfl (take_ofW HT_.out HW_.out q7_20) (fun _ _ _ h => h) (Or.inl ⟨by rfl, ?_⟩) hHeld ?_ ?_
    rotate_left; · rintro w' ⟨s0, s1, s2, s3, s4, s5, s6⟩; go_simp; with_reducible rfl
    rotate_left; · simp only [Act.put, setIfInBounds_toArray, set_cons_zero, set_cons_succ, i64_w, i32_w]; rfl
    refine pure_ (i := 9) (N := some 22) (v := ?_) (a' := ?_) #[true, true, true, true, true, true, true, true, true, true, true, false, false, false, false] rfl rfl (any_of HT_.out q7_20) (fun _ _ _ h => h) (Or.inl ⟨by rfl, ?_⟩) ?_ ?_
    rotate_left; · intro w'; go_simp; with_reducible rfl
    rotate_left; · simp only [Act.put, setIfInBounds_toArray, set_cons_zero, set_cons_succ, i64_w, i32_w]; rfl
    refine pure_ (i := 11) (N := some 24) (v := ?_) (a' := ?_) #[true, true, true, true, true, true, true, true, true, true, true, true, false, false, false] rfl rfl (any_of HT_.out q7_20) (fun _ _ _ h => h) (Or.inl ⟨by rfl, ?_⟩) ?_ ?_
    rotate_left; · intro w'; go_simp; with_reducible rfl
    rotate_left; · simp only [Act.put, setIfInBounds_toArray, set_cons_zero, set_cons_succ, i64_w, i32_w]; rfl
    refine pure_ (i := 12) (N := some 25) (v := ?_) (a' := ?_) #[true, true, true, true, true, true, true, true, true, true, true, true, true, false, false] rfl rfl (any_of HT_.out q7_20) (fun _ _ _ h => h) (Or.inl ⟨by rfl, ?_⟩) ?_ ?_
    rotate_left; · intro w'; go_simp; with_reducible rfl
    rotate_left; · simp only [Act.put, setIfInBounds_toArray, set_cons_zero, set_cons_succ, i64_w, i32_w]; rfl
    refine take_ (i := 13) (N := some 26) (v := ?_) (a' := ?_) #[true, true, true, true, true, true, true, true, true, true, true, true, true, true, false] rfl rfl (take_ofW HT_.out HW_.out q7_20) (fun _ _ _ h => h) (Or.inl ⟨by rfl, ?_⟩) hHeld ?_ ?_
    rotate_left; · rintro w' ⟨s0, s1, s2, s3, s4, s5, s6⟩; go_simp; with_reducible rfl
    rotate_left; · simp only [Act.put, setIfInBounds_toArray, set_cons_zero, set_cons_succ, i64_w, i32_w]; rfl
    refine one_ (i := 14) (N := none) #[true, true, true, true, true, true, true, true, true, true, true, true, true, true, true] rfl rfl (one_of HT_.out q7_20) (by decide) (fun K hK => ?_)
    have hs14 : w12.cell? ⟨gb234, 0, none⟩ = some (.int .i32 0) := bc7_ BK234 0
    have hfs14 := blk_frozen BK234.out 0
    have hns14_0 := NB0_234.out
    have hms14_0 := NB234_0.out
    have hs15 : w12.cell? ⟨gb234, 1, none⟩ = some (.int .i64 0) := bc7_ BK234 1
    have hfs15 := blk_frozen BK234.out 1
    have hns15_0 := NB0_234.out
    have hms15_0 := NB234_0.out
    have hs16 : w12.cell? ⟨gb234, 2, none⟩ = some (.int .i64 0) := bc7_ BK234 2
    have hfs16 := blk_frozen BK234.out 2
    have hns16_0 := NB0_234.out
    have hms16_0 := NB234_0.out
    have hs17 : w12.cell? ⟨gb234, 3, none⟩ = some (.int .i64 0) := bc7_ BK234 3
    have hfs17 := blk_frozen BK234.out 3
    have hns17_0 := NB0_234.out
    have hms17_0 := NB234_0.out
    refine skip_ (w1 := ?_) (by rfl) rfl ?_ ?_
    rotate_left; · go_simp; rfl
    refine hK.out _ _ ⟨((cell_far (p := ⟨gb234, _, none⟩) NB0_234.out _).trans (((cell_far (p := ⟨gb234, _, none⟩) NB0_234.out _).trans (((cell_far (p := ⟨gb234, _, none⟩) NB0_234.out _).trans (((cell_far (p := ⟨gb234, _, none⟩) NB0_234.out _).trans (hHeld.1)))))))), ((cell_far (p := ⟨gb234, _, none⟩) NB0_234.out _).trans (((cell_far (p := ⟨gb234, _, none⟩) NB0_234.out _).trans (((cell_far (p := ⟨gb234, _, none⟩) NB0_234.out _).trans (((cell_far (p := ⟨gb234, _, none⟩) NB0_234.out _).trans (hHeld.2.1)))))))), ((cell_far (p := ⟨gb234, _, none⟩) NB0_234.out _).trans (((cell_far (p := ⟨gb234, _, none⟩) NB0_234.out _).trans (((cell_far (p := ⟨gb234, _, none⟩) NB0_234.out _).trans (((cell_far (p := ⟨gb234, _, none⟩) NB0_234.out _).trans (hHeld.2.2.1)))))))), ((cell_far (p := ⟨gb234, _, none⟩) q7_3 _).trans (((cell_far (p := ⟨gb234, _, none⟩) q7_3 _).trans (((cell_far (p := ⟨gb234, _, none⟩) q7_3 _).trans (((cell_far (p := ⟨gb234, _, none⟩) q7_3 _).trans (hHeld.2.2.2.1)))))))), ((cell_far (p := ⟨gb234, _, none⟩) q7_3 _).trans (((cell_far (p := ⟨gb234, _, none⟩) q7_3 _).trans (((cell_far (p := ⟨gb234, _, none⟩) q7_3 _).trans (((cell_far (p := ⟨gb234, _, none⟩) q7_3 _).trans (hHeld.2.2.2.2.1)))))))), ((cell_far (p := ⟨gb234, _, none⟩) q7_3 _).trans (((cell_far (p := ⟨gb234, _, none⟩) q7_3 _).trans (((cell_far (p := ⟨gb234, _, none⟩) q7_3 _).trans (((cell_far (p := ⟨gb234, _, none⟩) q7_3 _).trans (hHeld.2.2.2.2.2.1)))))))), ((cell_far (p := ⟨gb234, _, none⟩) q7_3 _).trans (((cell_far (p := ⟨gb234, _, none⟩) q7_3 _).trans (((cell_far (p := ⟨gb234, _, none⟩) q7_3 _).trans (((cell_far (p := ⟨gb234, _, none⟩) q7_3 _).trans (hHeld.2.2.2.2.2.2))))))))⟩ (fun hHeld => ?_)
    clear hK K
    refine done_ (done_of HT_.out q7_20) ?_
    try go_wp2
    refine bodyPost_ret (results_cell_row rfl _ _ gb234 53 #[.int .i32 ((rd_T53 t238 (ji6)).f0), .int .i64 ((rd_T53 t238 (ji6)).f1.f0), .int .i64 ((rd_T53 t238 (ji6)).f1.f1), .int .i64 ((rd_T53 t238 (ji6)).f1.f2)] (0, 0) _ rfl (by (with_reducible repeat (first | refine blk_drewN ?_ _ | refine blk_drew ?_ | refine blk_alloc ?_ _)); refine blk_put (cs := #[.int .i32 ((rd_T53 t238 (ji6)).f0), .int .i64 ((rd_T53 t238 (ji6)).f1.f0), .int .i64 ((rd_T53 t238 (ji6)).f1.f1), .int .i64 0]) ?_ 3 _ rfl; (with_reducible repeat (first | refine blk_drewN ?_ _ | refine blk_drew ?_ | refine blk_alloc ?_ _)); refine blk_put (cs := #[.int .i32 ((rd_T53 t238 (ji6)).f0), .int .i64 ((rd_T53 t238 (ji6)).f1.f0), .int .i64 0, .int .i64 0]) ?_ 2 _ rfl; (with_reducible repeat (first | refine blk_drewN ?_ _ | refine blk_drew ?_ | refine blk_alloc ?_ _)); refine blk_put (cs := #[.int .i32 ((rd_T53 t238 (ji6)).f0), .int .i64 0, .int .i64 0, .int .i64 0]) ?_ 1 _ rfl; (with_reducible repeat (first | refine blk_drewN ?_ _ | refine blk_drew ?_ | refine blk_alloc ?_ _)); refine blk_put (cs := #[.int .i32 0, .int .i64 0, .int .i64 0, .int .i64 0]) ?_ 0 _ rfl; (with_reducible repeat (first | refine blk_drewN ?_ _ | refine blk_drew ?_ | refine blk_alloc ?_ _)); exact BK234.out) Try.underlying53 rfl q7_20) rfl ?_
    exact ⟨(.slice (some ad241) t238.length co13), by first | rfl | (simp [errW_none, errW_some, ptrW_true, ptrW_false] <;> rfl) | (simp only [← hji6]; first | rfl | (simp [errW_none, errW_some, ptrW_true, ptrW_false] <;> rfl)) | (simp [*, errW_none, errW_some, ptrW_true, ptrW_false] <;> rfl), by (with_reducible repeat (first | apply Kd.R_alloc | apply Kd.R_drewN | apply Kd.R_drew)); exact Kd.R_mono (Kd.R_far (p := ⟨gb234, 3, none⟩) (Kd.R_far (p := ⟨gb234, 2, none⟩) (Kd.R_far (p := ⟨gb234, 1, none⟩) (Kd.R_far (p := ⟨gb234, 0, none⟩) (Kd.R_mono HO240.out (fun k_ hk => (⟨hk, hk.2⟩ : _ ∧ k_ ≠ gb234))) (fun _ hk => hk.2) (.int .i32 ((rd_T53 t238 (ji6)).f0))) (fun _ hk => hk.2) (.int .i64 ((rd_T53 t238 (ji6)).f1.f0))) (fun _ hk => hk.2) (.int .i64 ((rd_T53 t238 (ji6)).f1.f1))) (fun _ hk => hk.2) (.int .i64 ((rd_T53 t238 (ji6)).f1.f2))) (fun _ hk => hk.1.1), q7_14, by repeat (first | (with_reducible first | exact HB.out | apply below_alloc | apply pw_below_drewN | apply below_drew1 | refine below_set ?_ GE0.out | refine below_set ?_ GE234.out) | exact HB.out), by repeat (first | (with_reducible first | exact HK.out | apply Kept.alloc | apply Kept.drewN | apply Kept.drew | refine Kept.setCell ?_ (.inl (.inr rfl)) _ | refine Kept.setCell ?_ (.inr GW234.out) _) | exact HK.out)⟩
   ·rw [if_neg c8] at H
    exact absurd H (by simp)
  ·rw [if_neg c7] at H
   exact absurd H (by simp)
 ·replace c5 := Bool.eq_false_iff.mpr c5
  subst c5
  have H1 : (some (0, 0, 0, 0, t236, t237, t238)) = some (r1, r2, r3, r4, r5, r6, r7) := by rw [if_neg (show ¬ (false = true) by decide)] at H; exact H
  clear H; have H := H1; clear H1
  simp only [Option.some.injEq, Prod.mk.injEq] at H
  obtain ⟨rfl, rfl, rfl, rfl, rfl, rfl, rfl⟩ := H
  go_enter Try.func56, Try.ntmps56
  go_wp2_with (first | ((with_reducible refine gate_dst (N := 6) rfl ?_); refine box_event ?hg (N := 6) ?hd (cs := #[.int .i32 0, .int .i64 0, .int .i64 0, .int .i64 0]) (t := 53) ?hr ?_; (case hd => rfl); (case hg => rfl); (case hr => first | (go_simp; done) | (go_simp; rfl)); intro gb234 hg w18 hbox hb; have n0_ := A7_ (Kd.R_below (Kd.R_elderB (by (with_reducible repeat (first | apply Kd.R_alloc | apply Kd.R_drewN | apply Kd.R_drew)); exact HO0_2.out) gb234 (Nat.le_of_eq hg.symm)) hb); have n1_ := A7_ (blk_below (g := g) (o := .cells #[.int .i64 a0_0, .int .i64 a0_1, u9000_] 112 (0, 0)) q7_13 hb); have n2_ := A7_ (Kept.below (S := (fun k_ => (P0_2_ k_) ∨ k_ = g)) q7_24 hb); have n3_ := A7_ (below_step q7_16 hb); have n4_ := A7_ (hbox); have n5_ := A7_ ((by rw [hg]; exact q7_21 : w.heap.size ≤ gb234)); have n6_ := A7_ ((by rw [hg]; exact (below_size q7_16) : w0.heap.size ≤ gb234)); have n7_ := A7_ ((by rw [hg]; exact Nat.ne_of_lt (blk_lt (g := g) (o := .cells #[.int .i64 a0_0, .int .i64 a0_1, u9000_] 112 (0, 0)) q7_13) : g ≠ gb234)); have n8_ := A7_ ((by rw [hg]; exact Nat.ne_of_gt (blk_lt (g := g) (o := .cells #[.int .i64 a0_0, .int .i64 a0_1, u9000_] 112 (0, 0)) q7_13) : gb234 ≠ g)); clear HO0_2 BK0 HK HB; have HO0_2 := n0_; have BK0 := n1_; have HK := n2_; have HB := n3_; have BK234 := n4_; have GW234 := n5_; have GE234 := n6_; have NB0_234 := n7_; have NB234_0 := n8_; clear n0_ n1_ n2_ n3_ n4_ n5_ n6_ n7_ n8_; clear hb hbox hg; obtain ⟨Ao19, co19, eo19⟩ := Kd.R_slice HO0_2.out; subst eo19) | ((with_reducible refine gate_callee (f := 76) rfl ?_); refine goesL_ (some 10) rfl rfl Try.func76 q7_20 rfl #[.pointer (some ⟨g, 0, none⟩), .int .i64 a1, .int .i64 a2] rfl q7_17 ?_; (with_reducible refine (grid_Board_there.calls g a0_0 a0_1 (fun k_ => some k_ = (.slice Ao19 l0_2.length co19 : Value).ownBlock) (.slice Ao19 l0_2.length co19) l0_2 a1 a2 false t236 t237 t238 w0 _ ?side2 ?side3 ?side1 ?side4 A4.out).mono ?_); (case side1 => repeat (first | (with_reducible first | exact HB.out | apply below_alloc | apply pw_below_drewN | apply below_drew1 | refine below_set ?_ GE0.out | refine below_set ?_ GE234.out) | exact HB.out)); (case side2 => (with_reducible repeat (first | refine blk_drewN ?_ _ | refine blk_drew ?_ | refine blk_alloc ?_ _)); exact BK0.out); (case side3 => exact GE0.out); (case side4 => exact Kd.R_tight rfl HO0_2.out); rintro e w20 ⟨v239, rfl, ho0, hbx, hb, hkp⟩; refine ⟨_, rfl, ?_⟩; have n0_ := A7_ (hbx); have n1_ := A7_ (blk_kept q7_18 hkp (fun hs_ => Or.elim hs_ (fun hs_ => (fun e_ => (Kd.R_away HO0_2.out (fun _ hk => hk.2)) e_) hs_) (fun e_ => NB234_0.out e_))); have n2_ := A7_ (Kd.R_mono (ok' := fun k_ => (P0_2_ k_ ∨ w.heap.size ≤ k_) ∧ k_ ≠ gb234) ho0 (fun k_ hk_ => ⟨Or.elim hk_ (fun hs_ => (HO0_2.out.1 k_ (hs_).symm).1) (fun hn_ => (.inr (Nat.le_trans q7_19 hn_))), Or.elim hk_ (fun hs_ => fun e_ => (Kd.R_away HO0_2.out (fun _ hk => hk.2)) (by rw [← e_]; exact hs_)) (fun hn_ => (Kd.freshB (g := gb234) (o := .cells #[.int .i32 0, .int .i64 0, .int .i64 0, .int .i64 0] 53 (0, 0)) q7_18 k_ hn_))⟩)); have n3_ := A7_ (Kept.then_ (S := (fun k_ => (P0_2_ k_) ∨ k_ = g)) q7_23 hkp (fun k_ hs_ => Or.elim hs_ (fun hs_ => (fun e_ => Or.imp_left Or.inl ((HO0_2.out.1 k_ e_.symm).1)) hs_) (fun e_ => .inl (.inr e_)))); have n4_ := A7_ (hb); clear BK0 BK234 HK HB HO0_2; have BK0 := n0_; have BK234 := n1_; have HO240 := n2_; have HK := n3_; have HB := n4_; clear n0_ n1_ n2_ n3_ n4_; (try clear hbx); (try clear hbn); (try clear hgn); (try clear hb); (try clear hkp); (try clear ho0); have hnb21 := NB234_0.out; have hnc21 := NB0_234.out; have hcz22_0 : w20.cell? ⟨gb234, 0, none⟩ = some (.int .i32 0) := bc7_ BK234 0; have hcz22_1 : w20.cell? ⟨gb234, 1, none⟩ = some (.int .i64 0) := bc7_ BK234 1; have hcz22_2 : w20.cell? ⟨gb234, 2, none⟩ = some (.int .i64 0) := bc7_ BK234 2; have hcz22_3 : w20.cell? ⟨gb234, 3, none⟩ = some (.int .i64 0) := bc7_ BK234 3; have hfz22_0 := blk_frozen BK234.out 0; have hfz22_1 := blk_frozen BK234.out 1; have hfz22_2 := blk_frozen BK234.out 2; have hfz22_3 := blk_frozen BK234.out 3))
  refine bodyPost_ret (results_cell_row rfl _ _ gb234 53 #[.int .i32 0, .int .i64 0, .int .i64 0, .int .i64 0] (0, 0) _ rfl (by (with_reducible repeat (first | refine blk_drewN ?_ _ | refine blk_drew ?_ | refine blk_alloc ?_ _)); refine blk_put (cs := #[.int .i32 0, .int .i64 0, .int .i64 0, .int .i64 0]) ?_ 3 _ rfl; (with_reducible repeat (first | refine blk_drewN ?_ _ | refine blk_drew ?_ | refine blk_alloc ?_ _)); refine blk_put (cs := #[.int .i32 0, .int .i64 0, .int .i64 0, .int .i64 0]) ?_ 2 _ rfl; (with_reducible repeat (first | refine blk_drewN ?_ _ | refine blk_drew ?_ | refine blk_alloc ?_ _)); refine blk_put (cs := #[.int .i32 0, .int .i64 0, .int .i64 0, .int .i64 0]) ?_ 1 _ rfl; (with_reducible repeat (first | refine blk_drewN ?_ _ | refine blk_drew ?_ | refine blk_alloc ?_ _)); refine blk_put (cs := #[.int .i32 0, .int .i64 0, .int .i64 0, .int .i64 0]) ?_ 0 _ rfl; (with_reducible repeat (first | refine blk_drewN ?_ _ | refine blk_drew ?_ | refine blk_alloc ?_ _)); exact BK234.out) Try.underlying53 rfl q7_20) rfl ?_
  exact ⟨(v239), by first | rfl | (simp [errW_none, errW_some, ptrW_true, ptrW_false] <;> rfl) | (simp [*, errW_none, errW_some, ptrW_true, ptrW_false] <;> rfl), by (with_reducible repeat (first | apply Kd.R_alloc | apply Kd.R_drewN | apply Kd.R_drew)); exact Kd.R_mono (Kd.R_far (p := ⟨gb234, 3, none⟩) (Kd.R_far (p := ⟨gb234, 2, none⟩) (Kd.R_far (p := ⟨gb234, 1, none⟩) (Kd.R_far (p := ⟨gb234, 0, none⟩) (Kd.R_mono HO240.out (fun k_ hk => (⟨hk, hk.2⟩ : _ ∧ k_ ≠ gb234))) (fun _ hk => hk.2) (.int .i32 0)) (fun _ hk => hk.2) (.int .i64 0)) (fun _ hk => hk.2) (.int .i64 0)) (fun _ hk => hk.2) (.int .i64 0)) (fun _ hk => hk.1.1), q7_14, by repeat (first | (with_reducible first | exact HB.out | apply below_alloc | apply pw_below_drewN | apply below_drew1 | refine below_set ?_ GE0.out | refine below_set ?_ GE234.out) | exact HB.out), by repeat (first | (with_reducible first | exact HK.out | apply Kept.alloc | apply Kept.drewN | apply Kept.drew | refine Kept.setCell ?_ (.inl (.inr rfl)) _ | refine Kept.setCell ?_ (.inr GW234.out) _) | exact HK.out)⟩

/-! ### batonref10_There: function 80 -/
def batonref10_There.f (a0_0 : Int) (a0_1 : Int) (l0_2 : List (S53)) (a1 : Int) (a2 : Int) : Option (Bool) := if a1 ≥ 0 then (if a1 < a0_0 then (if a2 ≥ 0 then (some (decide (a2 < a0_1))) else (some false)) else (some false)) else (some false)
set_option maxHeartbeats 8000000 in
set_option maxRecDepth 100000 in
theorem batonref10_There.calls (a0_0 : Int) (a0_1 : Int) (A0_2 : Option Addr) (c0_2 : Nat) (l0_2 : List (S53)) (a1 : Int) (a2 : Int) (r : Bool) (w : World) (hr0_2 : Kd.C k53 w A0_2 l0_2.length l0_2) (hc0_2 : l0_2.length ≤ c0_2) (h : batonref10_There.f a0_0 a0_1 l0_2 a1 a2 = some r) :
  Calls Try.prog 80 #[.agg #[.int .i64 a0_0, .int .i64 a0_1, .slice A0_2 l0_2.length c0_2], .int .i64 a1, .int .i64 a2] w fun e w' => e = .returned (.bool r) ∧ Below w.heap.size w w' := by
 have hu75 := Try.underlying75
 have HR0_2 := A7_ hr0_2
 have HC0_2 := A7_ hc0_2
 clear hr0_2 hc0_2
 have HB := A7_ (Below.refl w.heap.size w)
 have H : (if a1 ≥ 0 then (if a1 < a0_0 then (if a2 ≥ 0 then (some (decide (a2 < a0_1))) else (some false)) else (some false)) else (some false)) = some r := h
 clear h
 by_cases c4 : a1 ≥ 0
 ·rw [if_pos c4] at H
  have c4b0 : decide (0 ≤ a1) = true := decide_eq_true c4
  clear c4
  by_cases c5 : a1 < a0_0
  ·rw [if_pos c5] at H
   have c5b0 : decide (a1 < a0_0) = true := decide_eq_true c5
   clear c5
   by_cases c6 : a2 ≥ 0
   ·rw [if_pos c6] at H
    have c6b0 : decide (0 ≤ a2) = true := decide_eq_true c6
    clear c6
    obtain rfl := Option.some.inj H
    go_enter Try.func80, Try.ntmps80
    go_wp2_with (first | ((with_reducible refine gate_dst (N := 3) rfl ?_); refine box_event ?hg (N := 3) ?hd (cs := #[.int .i64 a0_0, .int .i64 a0_1, .slice A0_2 l0_2.length c0_2]) (t := 75) ?hr ?_; (case hd => rfl); (case hg => rfl); (case hr => first | (go_simp; done) | (go_simp; rfl)); intro gb242 hg w7 hbox hb; have n0_ := A7_ (below_step q7_4 hb); have n1_ := A7_ (hbox); have n2_ := A7_ ((by rw [hg]; exact (below_size q7_4) : w.heap.size ≤ gb242)); have n3_ := A7_ ((by rw [hg]; exact (below_size q7_4) : w.heap.size ≤ gb242)); clear HB; have HB := n0_; have BK242 := n1_; have GW242 := n2_; have GE242 := n3_; clear n0_ n1_ n2_ n3_; clear hb hbox hg; have hcz8_0 : w7.cell? ⟨gb242, 0, none⟩ = some (.int .i64 a0_0) := bc7_ BK242 0; have hcz8_1 : w7.cell? ⟨gb242, 1, none⟩ = some (.int .i64 a0_1) := bc7_ BK242 1; have hcz8_2 : w7.cell? ⟨gb242, 2, none⟩ = some (.slice A0_2 l0_2.length c0_2) := bc7_ BK242 2; have hfz8_0 := blk_frozen BK242.out 0; have hfz8_1 := blk_frozen BK242.out 1; have hfz8_2 := blk_frozen BK242.out 2))
    go_ret
    exact ⟨by first | rfl | (simp [errW_none, errW_some] <;> rfl) | (simp [*, errW_none, errW_some] <;> rfl), by repeat (first | (with_reducible first | exact HB.out | apply below_alloc | apply pw_below_drewN | apply below_drew1 | refine below_set ?_ GE242.out) | exact HB.out)⟩
   ·rw [if_neg c6] at H
    have c6b0 : decide (0 ≤ a2) = false := decide_eq_false c6
    clear c6
    obtain rfl := Option.some.inj H
    go_enter Try.func80, Try.ntmps80
    go_wp2_with (first | ((with_reducible refine gate_dst (N := 3) rfl ?_); refine box_event ?hg (N := 3) ?hd (cs := #[.int .i64 a0_0, .int .i64 a0_1, .slice A0_2 l0_2.length c0_2]) (t := 75) ?hr ?_; (case hd => rfl); (case hg => rfl); (case hr => first | (go_simp; done) | (go_simp; rfl)); intro gb242 hg w9 hbox hb; have n0_ := A7_ (below_step q7_4 hb); have n1_ := A7_ (hbox); have n2_ := A7_ ((by rw [hg]; exact (below_size q7_4) : w.heap.size ≤ gb242)); have n3_ := A7_ ((by rw [hg]; exact (below_size q7_4) : w.heap.size ≤ gb242)); clear HB; have HB := n0_; have BK242 := n1_; have GW242 := n2_; have GE242 := n3_; clear n0_ n1_ n2_ n3_; clear hb hbox hg; have hcz10_0 : w9.cell? ⟨gb242, 0, none⟩ = some (.int .i64 a0_0) := bc7_ BK242 0; have hcz10_1 : w9.cell? ⟨gb242, 1, none⟩ = some (.int .i64 a0_1) := bc7_ BK242 1; have hcz10_2 : w9.cell? ⟨gb242, 2, none⟩ = some (.slice A0_2 l0_2.length c0_2) := bc7_ BK242 2; have hfz10_0 := blk_frozen BK242.out 0; have hfz10_1 := blk_frozen BK242.out 1; have hfz10_2 := blk_frozen BK242.out 2))
    go_ret
    exact ⟨by first | rfl | (simp [errW_none, errW_some] <;> rfl) | (simp [*, errW_none, errW_some] <;> rfl), by repeat (first | (with_reducible first | exact HB.out | apply below_alloc | apply pw_below_drewN | apply below_drew1 | refine below_set ?_ GE242.out) | exact HB.out)⟩
  ·rw [if_neg c5] at H
   have c5b0 : decide (a1 < a0_0) = false := decide_eq_false c5
   clear c5
   obtain rfl := Option.some.inj H
   go_enter Try.func80, Try.ntmps80
   go_wp2_with (first | ((with_reducible refine gate_dst (N := 3) rfl ?_); refine box_event ?hg (N := 3) ?hd (cs := #[.int .i64 a0_0, .int .i64 a0_1, .slice A0_2 l0_2.length c0_2]) (t := 75) ?hr ?_; (case hd => rfl); (case hg => rfl); (case hr => first | (go_simp; done) | (go_simp; rfl)); intro gb242 hg w11 hbox hb; have n0_ := A7_ (below_step q7_4 hb); have n1_ := A7_ (hbox); have n2_ := A7_ ((by rw [hg]; exact (below_size q7_4) : w.heap.size ≤ gb242)); have n3_ := A7_ ((by rw [hg]; exact (below_size q7_4) : w.heap.size ≤ gb242)); clear HB; have HB := n0_; have BK242 := n1_; have GW242 := n2_; have GE242 := n3_; clear n0_ n1_ n2_ n3_; clear hb hbox hg; have hcz12_0 : w11.cell? ⟨gb242, 0, none⟩ = some (.int .i64 a0_0) := bc7_ BK242 0; have hcz12_1 : w11.cell? ⟨gb242, 1, none⟩ = some (.int .i64 a0_1) := bc7_ BK242 1; have hcz12_2 : w11.cell? ⟨gb242, 2, none⟩ = some (.slice A0_2 l0_2.length c0_2) := bc7_ BK242 2; have hfz12_0 := blk_frozen BK242.out 0; have hfz12_1 := blk_frozen BK242.out 1; have hfz12_2 := blk_frozen BK242.out 2))
   go_ret
   exact ⟨by first | rfl | (simp [errW_none, errW_some] <;> rfl) | (simp [*, errW_none, errW_some] <;> rfl), by repeat (first | (with_reducible first | exact HB.out | apply below_alloc | apply pw_below_drewN | apply below_drew1 | refine below_set ?_ GE242.out) | exact HB.out)⟩
 ·rw [if_neg c4] at H
  have c4b0 : decide (0 ≤ a1) = false := decide_eq_false c4
  clear c4
  obtain rfl := Option.some.inj H
  go_enter Try.func80, Try.ntmps80
  go_wp2_with (first | ((with_reducible refine gate_dst (N := 3) rfl ?_); refine box_event ?hg (N := 3) ?hd (cs := #[.int .i64 a0_0, .int .i64 a0_1, .slice A0_2 l0_2.length c0_2]) (t := 75) ?hr ?_; (case hd => rfl); (case hg => rfl); (case hr => first | (go_simp; done) | (go_simp; rfl)); intro gb242 hg w13 hbox hb; have n0_ := A7_ (below_step q7_4 hb); have n1_ := A7_ (hbox); have n2_ := A7_ ((by rw [hg]; exact (below_size q7_4) : w.heap.size ≤ gb242)); have n3_ := A7_ ((by rw [hg]; exact (below_size q7_4) : w.heap.size ≤ gb242)); clear HB; have HB := n0_; have BK242 := n1_; have GW242 := n2_; have GE242 := n3_; clear n0_ n1_ n2_ n3_; clear hb hbox hg))
  go_ret
  exact ⟨by first | rfl | (simp [errW_none, errW_some] <;> rfl) | (simp [*, errW_none, errW_some] <;> rfl), by repeat (first | (with_reducible first | exact HB.out | apply below_alloc | apply pw_below_drewN | apply below_drew1 | refine below_set ?_ GE242.out) | exact HB.out)⟩

/-! ### batonref10_At: function 57 -/
def batonref10_At.f (a0_0 : Int) (a0_1 : Int) (l0_2 : List (S53)) (a1 : Int) (a2 : Int) (a3_0 : Int) (a3_1 : Int) (a3_2 : Int) (a3_3 : Int) : Option (Int × Int × Int × Int) := (batonref10_There.f a0_0 a0_1 l0_2 a1 a2).bind fun t246 => (if t246 = true then (if 0 ≤ (wrap64 ((wrap64 (a1 * a0_1)) + a2)) then (if (wrap64 ((wrap64 (a1 * a0_1)) + a2)) < (l0_2.length : Int) then (some ((rd_T53 l0_2 (wrap64 ((wrap64 (a1 * a0_1)) + a2))).f0, (rd_T53 l0_2 (wrap64 ((wrap64 (a1 * a0_1)) + a2))).f1.f0, (rd_T53 l0_2 (wrap64 ((wrap64 (a1 * a0_1)) + a2))).f1.f1, (rd_T53 l0_2 (wrap64 ((wrap64 (a1 * a0_1)) + a2))).f1.f2)) else (none)) else (none)) else (some (a3_0, a3_1, a3_2, a3_3)))
set_option maxHeartbeats 8000000 in
set_option maxRecDepth 100000 in
theorem batonref10_At.calls (a0_0 : Int) (a0_1 : Int) (A0_2 : Option Addr) (c0_2 : Nat) (l0_2 : List (S53)) (a1 : Int) (a2 : Int) (a3_0 : Int) (a3_1 : Int) (a3_2 : Int) (a3_3 : Int) (r1 : Int) (r2 : Int) (r3 : Int) (r4 : Int) (w : World) (hr0_2 : Kd.C k53 w A0_2 l0_2.length l0_2) (hc0_2 : l0_2.length ≤ c0_2) (h : batonref10_At.f a0_0 a0_1 l0_2 a1 a2 a3_0 a3_1 a3_2 a3_3 = some (r1, r2, r3, r4)) :
  Calls Try.prog 57 #[.agg #[.int .i64 a0_0, .int .i64 a0_1, .slice A0_2 l0_2.length c0_2], .int .i64 a1, .int .i64 a2, .agg #[.int .i32 a3_0, .int .i64 a3_1, .int .i64 a3_2, .int .i64 a3_3]] w fun e w' => e = .returned (.agg #[.int .i32 r1, .int .i64 r2, .int .i64 r3, .int .i64 r4]) ∧ Below w.heap.size w w' := by
 have hu75 := Try.underlying75
 have hu53 := Try.underlying53
 have HR0_2 := A7_ hr0_2
 have HC0_2 := A7_ hc0_2
 clear hr0_2 hc0_2
 have HB := A7_ (Below.refl w.heap.size w)
 have H : ((batonref10_There.f a0_0 a0_1 l0_2 a1 a2).bind fun t246 => (if t246 = true then (if 0 ≤ (wrap64 ((wrap64 (a1 * a0_1)) + a2)) then (if (wrap64 ((wrap64 (a1 * a0_1)) + a2)) < (l0_2.length : Int) then (some ((rd_T53 l0_2 (wrap64 ((wrap64 (a1 * a0_1)) + a2))).f0, (rd_T53 l0_2 (wrap64 ((wrap64 (a1 * a0_1)) + a2))).f1.f0, (rd_T53 l0_2 (wrap64 ((wrap64 (a1 * a0_1)) + a2))).f1.f1, (rd_T53 l0_2 (wrap64 ((wrap64 (a1 * a0_1)) + a2))).f1.f2)) else (none)) else (none)) else (some (a3_0, a3_1, a3_2, a3_3)))) = some (r1, r2, r3, r4) := h
 clear h
 replace H := Option.bind_eq_some_iff.mp H
 obtain ⟨t246, A50, H⟩ := H
 replace H : (if t246 = true then (if 0 ≤ (wrap64 ((wrap64 (a1 * a0_1)) + a2)) then (if (wrap64 ((wrap64 (a1 * a0_1)) + a2)) < (l0_2.length : Int) then (some ((rd_T53 l0_2 (wrap64 ((wrap64 (a1 * a0_1)) + a2))).f0, (rd_T53 l0_2 (wrap64 ((wrap64 (a1 * a0_1)) + a2))).f1.f0, (rd_T53 l0_2 (wrap64 ((wrap64 (a1 * a0_1)) + a2))).f1.f1, (rd_T53 l0_2 (wrap64 ((wrap64 (a1 * a0_1)) + a2))).f1.f2)) else (none)) else (none)) else (some (a3_0, a3_1, a3_2, a3_3))) = some (r1, r2, r3, r4) := H
 have A5 := A7_ A50
 clear A50
 by_cases c6 : t246 = true
 ·subst c6
  have H1 : (if 0 ≤ (wrap64 ((wrap64 (a1 * a0_1)) + a2)) then (if (wrap64 ((wrap64 (a1 * a0_1)) + a2)) < (l0_2.length : Int) then (some ((rd_T53 l0_2 (wrap64 ((wrap64 (a1 * a0_1)) + a2))).f0, (rd_T53 l0_2 (wrap64 ((wrap64 (a1 * a0_1)) + a2))).f1.f0, (rd_T53 l0_2 (wrap64 ((wrap64 (a1 * a0_1)) + a2))).f1.f1, (rd_T53 l0_2 (wrap64 ((wrap64 (a1 * a0_1)) + a2))).f1.f2)) else (none)) else (none)) = some (r1, r2, r3, r4) := by rw [if_pos rfl] at H; exact H
  clear H; have H := H1; clear H1
  obtain ⟨ji7, hji7⟩ : ∃ j_ : Int, (wrap64 ((wrap64 (a1 * a0_1)) + a2)) = j_ := ⟨_, rfl⟩
  replace H : (if 0 ≤ (ji7) then (if (ji7) < (l0_2.length : Int) then (some ((rd_T53 l0_2 (ji7)).f0, (rd_T53 l0_2 (ji7)).f1.f0, (rd_T53 l0_2 (ji7)).f1.f1, (rd_T53 l0_2 (ji7)).f1.f2)) else (none)) else (none)) = some (r1, r2, r3, r4) := by first | (rw [hji7] at H; exact H) | (simp only [hji7] at H ⊢; exact H)
  (try rw [hji7] at A5)
  have hji7w : (IntKind.i64.wrap ((wrap64 (a1 * a0_1)) + a2)) = ji7 := (i64_w _).trans hji7
  by_cases c8 : 0 ≤ (ji7)
  ·rw [if_pos c8] at H
   have c8b0 : decide (0 ≤ (ji7)) = true := decide_eq_true c8
   clear c8
   by_cases c9 : (ji7) < (l0_2.length : Int)
   ·rw [if_pos c9] at H
    have c9b0 : decide ((ji7) < (l0_2.length : Int)) = true := decide_eq_true c9
    clear c9
    simp only [Option.some.injEq, Prod.mk.injEq] at H
    obtain ⟨rfl, rfl, rfl, rfl⟩ := H
    go_enter Try.func57, Try.ntmps57
    go_wp2_with (first | ((with_reducible refine gate_dst (N := 4) rfl ?_); refine box_event ?hg (N := 4) ?hd (cs := #[.int .i64 a0_0, .int .i64 a0_1, .slice A0_2 l0_2.length c0_2]) (t := 75) ?hr ?_; (case hd => rfl); (case hg => rfl); (case hr => first | (go_simp; done) | (go_simp; rfl)); intro gb243 hg w10 hbox hb; have n0_ := A7_ (below_step q7_4 hb); have n1_ := A7_ (hbox); have n2_ := A7_ ((by rw [hg]; exact (below_size q7_4) : w.heap.size ≤ gb243)); have n3_ := A7_ ((by rw [hg]; exact (below_size q7_4) : w.heap.size ≤ gb243)); clear HB; have HB := n0_; have BK243 := n1_; have GW243 := n2_; have GE243 := n3_; clear n0_ n1_ n2_ n3_; clear hb hbox hg) | ((with_reducible refine gate_dst (N := 7) rfl ?_); refine box_event ?hg (N := 7) ?hd (cs := #[.int .i32 a3_0, .int .i64 a3_1, .int .i64 a3_2, .int .i64 a3_3]) (t := 53) ?hr ?_; (case hd => rfl); (case hg => rfl); (case hr => first | (go_simp; done) | (go_simp; rfl)); intro gb244 hg w11 hbox hb; have n0_ := A7_ (blk_below (g := gb243) (o := .cells #[.int .i64 a0_0, .int .i64 a0_1, .slice A0_2 l0_2.length c0_2] 75 (0, 0)) q7_5 hb); have n1_ := A7_ (below_step q7_12 hb); have n2_ := A7_ (hbox); have n3_ := A7_ ((by rw [hg]; exact (below_size q7_12) : w.heap.size ≤ gb244)); have n4_ := A7_ ((by rw [hg]; exact (below_size q7_12) : w.heap.size ≤ gb244)); have n5_ := A7_ ((by rw [hg]; exact Nat.ne_of_lt (blk_lt (g := gb243) (o := .cells #[.int .i64 a0_0, .int .i64 a0_1, .slice A0_2 l0_2.length c0_2] 75 (0, 0)) q7_5) : gb243 ≠ gb244)); have n6_ := A7_ ((by rw [hg]; exact Nat.ne_of_gt (blk_lt (g := gb243) (o := .cells #[.int .i64 a0_0, .int .i64 a0_1, .slice A0_2 l0_2.length c0_2] 75 (0, 0)) q7_5) : gb244 ≠ gb243)); clear BK243 HB; have BK243 := n0_; have HB := n1_; have BK244 := n2_; have GW244 := n3_; have GE244 := n4_; have NB243_244 := n5_; have NB244_243 := n6_; clear n0_ n1_ n2_ n3_ n4_ n5_ n6_; clear hb hbox hg) | ((with_reducible refine gate_dst (N := 8) rfl ?_); refine box_event ?hg (N := 8) ?hd (cs := #[.int .i32 0, .int .i64 0, .int .i64 0, .int .i64 0]) (t := 53) ?hr ?_; (case hd => rfl); (case hg => rfl); (case hr => first | (go_simp; done) | (go_simp; rfl)); intro gb245 hg w12 hbox hb; have n0_ := A7_ (blk_below (g := gb243) (o := .cells #[.int .i64 a0_0, .int .i64 a0_1, .slice A0_2 l0_2.length c0_2] 75 (0, 0)) q7_5 hb); have n1_ := A7_ (blk_below (g := gb244) (o := .cells #[.int .i32 a3_0, .int .i64 a3_1, .int .i64 a3_2, .int .i64 a3_3] 53 (0, 0)) q7_11 hb); have n2_ := A7_ (below_step q7_8 hb); have n3_ := A7_ (hbox); have n4_ := A7_ ((by rw [hg]; exact (below_size q7_8) : w.heap.size ≤ gb245)); have n5_ := A7_ ((by rw [hg]; exact (below_size q7_8) : w.heap.size ≤ gb245)); have n6_ := A7_ ((by rw [hg]; exact Nat.ne_of_lt (blk_lt (g := gb243) (o := .cells #[.int .i64 a0_0, .int .i64 a0_1, .slice A0_2 l0_2.length c0_2] 75 (0, 0)) q7_5) : gb243 ≠ gb245)); have n7_ := A7_ ((by rw [hg]; exact Nat.ne_of_gt (blk_lt (g := gb243) (o := .cells #[.int .i64 a0_0, .int .i64 a0_1, .slice A0_2 l0_2.length c0_2] 75 (0, 0)) q7_5) : gb245 ≠ gb243)); have n8_ := A7_ ((by rw [hg]; exact Nat.ne_of_lt (blk_lt (g := gb244) (o := .cells #[.int .i32 a3_0, .int .i64 a3_1, .int .i64 a3_2, .int .i64 a3_3] 53 (0, 0)) q7_11) : gb244 ≠ gb245)); have n9_ := A7_ ((by rw [hg]; exact Nat.ne_of_gt (blk_lt (g := gb244) (o := .cells #[.int .i32 a3_0, .int .i64 a3_1, .int .i64 a3_2, .int .i64 a3_3] 53 (0, 0)) q7_11) : gb245 ≠ gb244)); clear BK243 BK244 HB; have BK243 := n0_; have BK244 := n1_; have HB := n2_; have BK245 := n3_; have GW245 := n4_; have GE245 := n5_; have NB243_245 := n6_; have NB245_243 := n7_; have NB244_245 := n8_; have NB245_244 := n9_; clear n0_ n1_ n2_ n3_ n4_ n5_ n6_ n7_ n8_ n9_; clear hb hbox hg; have hnb13 := NB243_244.out; have hnc13 := NB244_243.out; have hnb14 := NB243_245.out; have hnc14 := NB245_243.out; have hcz15_0 : w12.cell? ⟨gb243, 0, none⟩ = some (.int .i64 a0_0) := bc7_ BK243 0; have hcz15_1 : w12.cell? ⟨gb243, 1, none⟩ = some (.int .i64 a0_1) := bc7_ BK243 1; have hcz15_2 : w12.cell? ⟨gb243, 2, none⟩ = some (.slice A0_2 l0_2.length c0_2) := bc7_ BK243 2; have hfz15_0 := blk_frozen BK243.out 0; have hfz15_1 := blk_frozen BK243.out 1; have hfz15_2 := blk_frozen BK243.out 2) | ((with_reducible refine gate_callee (f := 80) rfl ?_); refine goesL_ (some 12) rfl rfl Try.func80 q7_20 rfl #[.agg #[.int .i64 a0_0, .int .i64 a0_1, .slice A0_2 l0_2.length c0_2], .int .i64 a1, .int .i64 a2] rfl q7_17 ?_; (with_reducible refine (batonref10_There.calls a0_0 a0_1 _ _ l0_2 a1 a2 true _ ?side1 ?side2 A5.out).mono ?_); (case side1 => repeat (first | exact (Kd.C_below HR0_2.out HB.out) | (with_reducible refine Kd.C_alloc ?_ _) | (with_reducible refine Kd.C_drewN ?_ _) | (with_reducible refine Kd.C_drew ?_))); (case side2 => exact HC0_2.out); rintro e w16 ⟨rfl, hb⟩; refine ⟨_, rfl, ?_⟩; have n0_ := A7_ (blk_below (g := gb243) (o := .cells #[.int .i64 a0_0, .int .i64 a0_1, .slice A0_2 l0_2.length c0_2] 75 (0, 0)) q7_5 hb); have n1_ := A7_ (blk_below (g := gb244) (o := .cells #[.int .i32 a3_0, .int .i64 a3_1, .int .i64 a3_2, .int .i64 a3_3] 53 (0, 0)) q7_11 hb); have n2_ := A7_ (blk_below (g := gb245) (o := .cells #[.int .i32 0, .int .i64 0, .int .i64 0, .int .i64 0] 53 (0, 0)) (by (with_reducible repeat (first | refine blk_drewN ?_ _ | refine blk_drew ?_ | refine blk_alloc ?_ _)); exact BK245.out) hb); have n3_ := A7_ (below_step q7_22 hb); clear BK243 BK244 BK245 HB; have BK243 := n0_; have BK244 := n1_; have BK245 := n2_; have HB := n3_; clear n0_ n1_ n2_ n3_; (try clear hb); (try clear hb2); (try clear hk); (try clear hi); have hcz17_0 : w16.cell? ⟨gb243, 0, none⟩ = some (.int .i64 a0_0) := bc7_ BK243 0; have hcz17_1 : w16.cell? ⟨gb243, 1, none⟩ = some (.int .i64 a0_1) := bc7_ BK243 1; have hcz17_2 : w16.cell? ⟨gb243, 2, none⟩ = some (.slice A0_2 l0_2.length c0_2) := bc7_ BK243 2; have hfz17_0 := blk_frozen BK243.out 0; have hfz17_1 := blk_frozen BK243.out 1; have hfz17_2 := blk_frozen BK243.out 2; have p247 : 0 ≤ ((ji7) : Int) := of_decide_eq_true q7_15; have q247 : (ji7) < (l0_2.length : Int) := of_decide_eq_true q7_15; obtain ⟨ad247, e247, hx247_0, hx247_1, hx247_2, hx247_3⟩ := at_T53 HR0_2.out (ji7) p247 q247; cases e247; replace hx247_0 := (HB.out.cell (World.block_lt_of_cell? w _ hx247_0)).trans hx247_0; replace hx247_1 := (HB.out.cell (World.block_lt_of_cell? w _ hx247_1)).trans hx247_1; replace hx247_2 := (HB.out.cell (World.block_lt_of_cell? w _ hx247_2)).trans hx247_2; replace hx247_3 := (HB.out.cell (World.block_lt_of_cell? w _ hx247_3)).trans hx247_3; replace p247 := eq_true p247; replace q247 := eq_true q247; have hnb18 := NB245_244.out; have hnc18 := NB244_245.out; have hcz19_0 : w16.cell? ⟨gb245, 0, none⟩ = some (.int .i32 0) := bc7_ BK245 0; have hcz19_1 : w16.cell? ⟨gb245, 1, none⟩ = some (.int .i64 0) := bc7_ BK245 1; have hcz19_2 : w16.cell? ⟨gb245, 2, none⟩ = some (.int .i64 0) := bc7_ BK245 2; have hcz19_3 : w16.cell? ⟨gb245, 3, none⟩ = some (.int .i64 0) := bc7_ BK245 3; have hfz19_0 := blk_frozen BK245.out 0; have hfz19_1 := blk_frozen BK245.out 1; have hfz19_2 := blk_frozen BK245.out 2; have hfz19_3 := blk_frozen BK245.out 3))
    refine bodyPost_ret (results_cell_row rfl _ _ gb245 53 #[.int .i32 ((rd_T53 l0_2 (ji7)).f0), .int .i64 ((rd_T53 l0_2 (ji7)).f1.f0), .int .i64 ((rd_T53 l0_2 (ji7)).f1.f1), .int .i64 ((rd_T53 l0_2 (ji7)).f1.f2)] (0, 0) _ rfl (by (with_reducible repeat (first | refine blk_drewN ?_ _ | refine blk_drew ?_ | refine blk_alloc ?_ _)); refine blk_put (cs := #[.int .i32 ((rd_T53 l0_2 (ji7)).f0), .int .i64 ((rd_T53 l0_2 (ji7)).f1.f0), .int .i64 ((rd_T53 l0_2 (ji7)).f1.f1), .int .i64 0]) ?_ 3 _ rfl; (with_reducible repeat (first | refine blk_drewN ?_ _ | refine blk_drew ?_ | refine blk_alloc ?_ _)); refine blk_put (cs := #[.int .i32 ((rd_T53 l0_2 (ji7)).f0), .int .i64 ((rd_T53 l0_2 (ji7)).f1.f0), .int .i64 0, .int .i64 0]) ?_ 2 _ rfl; (with_reducible repeat (first | refine blk_drewN ?_ _ | refine blk_drew ?_ | refine blk_alloc ?_ _)); refine blk_put (cs := #[.int .i32 ((rd_T53 l0_2 (ji7)).f0), .int .i64 0, .int .i64 0, .int .i64 0]) ?_ 1 _ rfl; (with_reducible repeat (first | refine blk_drewN ?_ _ | refine blk_drew ?_ | refine blk_alloc ?_ _)); refine blk_put (cs := #[.int .i32 0, .int .i64 0, .int .i64 0, .int .i64 0]) ?_ 0 _ rfl; (with_reducible repeat (first | refine blk_drewN ?_ _ | refine blk_drew ?_ | refine blk_alloc ?_ _)); exact BK245.out) Try.underlying53 rfl q7_20) rfl ?_
    exact ⟨by first | rfl | (simp [errW_none, errW_some] <;> rfl) | (simp only [← hji7]; first | rfl | (simp [errW_none, errW_some] <;> rfl)) | (simp [*, errW_none, errW_some] <;> rfl), by repeat (first | (with_reducible first | exact HB.out | apply below_alloc | apply pw_below_drewN | apply below_drew1 | refine below_set ?_ GE243.out | refine below_set ?_ GE244.out | refine below_set ?_ GE245.out) | exact HB.out)⟩
   ·rw [if_neg c9] at H
    exact absurd H (by simp)
  ·rw [if_neg c8] at H
   exact absurd H (by simp)
 ·replace c6 := Bool.eq_false_iff.mpr c6
  subst c6
  have H1 : (some (a3_0, a3_1, a3_2, a3_3)) = some (r1, r2, r3, r4) := by rw [if_neg (show ¬ (false = true) by decide)] at H; exact H
  clear H; have H := H1; clear H1
  simp only [Option.some.injEq, Prod.mk.injEq] at H
  obtain ⟨rfl, rfl, rfl, rfl⟩ := H
  go_enter Try.func57, Try.ntmps57
  go_wp2_with (first | ((with_reducible refine gate_dst (N := 4) rfl ?_); refine box_event ?hg (N := 4) ?hd (cs := #[.int .i64 a0_0, .int .i64 a0_1, .slice A0_2 l0_2.length c0_2]) (t := 75) ?hr ?_; (case hd => rfl); (case hg => rfl); (case hr => first | (go_simp; done) | (go_simp; rfl)); intro gb243 hg w20 hbox hb; have n0_ := A7_ (below_step q7_4 hb); have n1_ := A7_ (hbox); have n2_ := A7_ ((by rw [hg]; exact (below_size q7_4) : w.heap.size ≤ gb243)); have n3_ := A7_ ((by rw [hg]; exact (below_size q7_4) : w.heap.size ≤ gb243)); clear HB; have HB := n0_; have BK243 := n1_; have GW243 := n2_; have GE243 := n3_; clear n0_ n1_ n2_ n3_; clear hb hbox hg) | ((with_reducible refine gate_dst (N := 7) rfl ?_); refine box_event ?hg (N := 7) ?hd (cs := #[.int .i32 a3_0, .int .i64 a3_1, .int .i64 a3_2, .int .i64 a3_3]) (t := 53) ?hr ?_; (case hd => rfl); (case hg => rfl); (case hr => first | (go_simp; done) | (go_simp; rfl)); intro gb244 hg w21 hbox hb; have n0_ := A7_ (blk_below (g := gb243) (o := .cells #[.int .i64 a0_0, .int .i64 a0_1, .slice A0_2 l0_2.length c0_2] 75 (0, 0)) q7_5 hb); have n1_ := A7_ (below_step q7_12 hb); have n2_ := A7_ (hbox); have n3_ := A7_ ((by rw [hg]; exact (below_size q7_12) : w.heap.size ≤ gb244)); have n4_ := A7_ ((by rw [hg]; exact (below_size q7_12) : w.heap.size ≤ gb244)); have n5_ := A7_ ((by rw [hg]; exact Nat.ne_of_lt (blk_lt (g := gb243) (o := .cells #[.int .i64 a0_0, .int .i64 a0_1, .slice A0_2 l0_2.length c0_2] 75 (0, 0)) q7_5) : gb243 ≠ gb244)); have n6_ := A7_ ((by rw [hg]; exact Nat.ne_of_gt (blk_lt (g := gb243) (o := .cells #[.int .i64 a0_0, .int .i64 a0_1, .slice A0_2 l0_2.length c0_2] 75 (0, 0)) q7_5) : gb244 ≠ gb243)); clear BK243 HB; have BK243 := n0_; have HB := n1_; have BK244 := n2_; have GW244 := n3_; have GE244 := n4_; have NB243_244 := n5_; have NB244_243 := n6_; clear n0_ n1_ n2_ n3_ n4_ n5_ n6_; clear hb hbox hg) | ((with_reducible refine gate_dst (N := 8) rfl ?_); refine box_event ?hg (N := 8) ?hd (cs := #[.int .i32 0, .int .i64 0, .int .i64 0, .int .i64 0]) (t := 53) ?hr ?_; (case hd => rfl); (case hg => rfl); (case hr => first | (go_simp; done) | (go_simp; rfl)); intro gb245 hg w22 hbox hb; have n0_ := A7_ (blk_below (g := gb243) (o := .cells #[.int .i64 a0_0, .int .i64 a0_1, .slice A0_2 l0_2.length c0_2] 75 (0, 0)) q7_5 hb); have n1_ := A7_ (blk_below (g := gb244) (o := .cells #[.int .i32 a3_0, .int .i64 a3_1, .int .i64 a3_2, .int .i64 a3_3] 53 (0, 0)) q7_11 hb); have n2_ := A7_ (below_step q7_8 hb); have n3_ := A7_ (hbox); have n4_ := A7_ ((by rw [hg]; exact (below_size q7_8) : w.heap.size ≤ gb245)); have n5_ := A7_ ((by rw [hg]; exact (below_size q7_8) : w.heap.size ≤ gb245)); have n6_ := A7_ ((by rw [hg]; exact Nat.ne_of_lt (blk_lt (g := gb243) (o := .cells #[.int .i64 a0_0, .int .i64 a0_1, .slice A0_2 l0_2.length c0_2] 75 (0, 0)) q7_5) : gb243 ≠ gb245)); have n7_ := A7_ ((by rw [hg]; exact Nat.ne_of_gt (blk_lt (g := gb243) (o := .cells #[.int .i64 a0_0, .int .i64 a0_1, .slice A0_2 l0_2.length c0_2] 75 (0, 0)) q7_5) : gb245 ≠ gb243)); have n8_ := A7_ ((by rw [hg]; exact Nat.ne_of_lt (blk_lt (g := gb244) (o := .cells #[.int .i32 a3_0, .int .i64 a3_1, .int .i64 a3_2, .int .i64 a3_3] 53 (0, 0)) q7_11) : gb244 ≠ gb245)); have n9_ := A7_ ((by rw [hg]; exact Nat.ne_of_gt (blk_lt (g := gb244) (o := .cells #[.int .i32 a3_0, .int .i64 a3_1, .int .i64 a3_2, .int .i64 a3_3] 53 (0, 0)) q7_11) : gb245 ≠ gb244)); clear BK243 BK244 HB; have BK243 := n0_; have BK244 := n1_; have HB := n2_; have BK245 := n3_; have GW245 := n4_; have GE245 := n5_; have NB243_245 := n6_; have NB245_243 := n7_; have NB244_245 := n8_; have NB245_244 := n9_; clear n0_ n1_ n2_ n3_ n4_ n5_ n6_ n7_ n8_ n9_; clear hb hbox hg; have hnb23 := NB243_244.out; have hnc23 := NB244_243.out; have hnb24 := NB243_245.out; have hnc24 := NB245_243.out; have hcz25_0 : w22.cell? ⟨gb243, 0, none⟩ = some (.int .i64 a0_0) := bc7_ BK243 0; have hcz25_1 : w22.cell? ⟨gb243, 1, none⟩ = some (.int .i64 a0_1) := bc7_ BK243 1; have hcz25_2 : w22.cell? ⟨gb243, 2, none⟩ = some (.slice A0_2 l0_2.length c0_2) := bc7_ BK243 2; have hfz25_0 := blk_frozen BK243.out 0; have hfz25_1 := blk_frozen BK243.out 1; have hfz25_2 := blk_frozen BK243.out 2) | ((with_reducible refine gate_callee (f := 80) rfl ?_); refine goesL_ (some 12) rfl rfl Try.func80 q7_20 rfl #[.agg #[.int .i64 a0_0, .int .i64 a0_1, .slice A0_2 l0_2.length c0_2], .int .i64 a1, .int .i64 a2] rfl q7_17 ?_; (with_reducible refine (batonref10_There.calls a0_0 a0_1 _ _ l0_2 a1 a2 false _ ?side1 ?side2 A5.out).mono ?_); (case side1 => repeat (first | exact (Kd.C_below HR0_2.out HB.out) | (with_reducible refine Kd.C_alloc ?_ _) | (with_reducible refine Kd.C_drewN ?_ _) | (with_reducible refine Kd.C_drew ?_))); (case side2 => exact HC0_2.out); rintro e w26 ⟨rfl, hb⟩; refine ⟨_, rfl, ?_⟩; have n0_ := A7_ (blk_below (g := gb243) (o := .cells #[.int .i64 a0_0, .int .i64 a0_1, .slice A0_2 l0_2.length c0_2] 75 (0, 0)) q7_5 hb); have n1_ := A7_ (blk_below (g := gb244) (o := .cells #[.int .i32 a3_0, .int .i64 a3_1, .int .i64 a3_2, .int .i64 a3_3] 53 (0, 0)) q7_11 hb); have n2_ := A7_ (blk_below (g := gb245) (o := .cells #[.int .i32 0, .int .i64 0, .int .i64 0, .int .i64 0] 53 (0, 0)) (by (with_reducible repeat (first | refine blk_drewN ?_ _ | refine blk_drew ?_ | refine blk_alloc ?_ _)); exact BK245.out) hb); have n3_ := A7_ (below_step q7_22 hb); clear BK243 BK244 BK245 HB; have BK243 := n0_; have BK244 := n1_; have BK245 := n2_; have HB := n3_; clear n0_ n1_ n2_ n3_; (try clear hb); (try clear hb2); (try clear hk); (try clear hi); have hnb27 := NB244_245.out; have hnc27 := NB245_244.out; have hcz28_0 : w26.cell? ⟨gb244, 0, none⟩ = some (.int .i32 a3_0) := bc7_ BK244 0; have hcz28_1 : w26.cell? ⟨gb244, 1, none⟩ = some (.int .i64 a3_1) := bc7_ BK244 1; have hcz28_2 : w26.cell? ⟨gb244, 2, none⟩ = some (.int .i64 a3_2) := bc7_ BK244 2; have hcz28_3 : w26.cell? ⟨gb244, 3, none⟩ = some (.int .i64 a3_3) := bc7_ BK244 3; have hfz28_0 := blk_frozen BK244.out 0; have hfz28_1 := blk_frozen BK244.out 1; have hfz28_2 := blk_frozen BK244.out 2; have hfz28_3 := blk_frozen BK244.out 3; have hcz29_0 : w26.cell? ⟨gb245, 0, none⟩ = some (.int .i32 0) := bc7_ BK245 0; have hcz29_1 : w26.cell? ⟨gb245, 1, none⟩ = some (.int .i64 0) := bc7_ BK245 1; have hcz29_2 : w26.cell? ⟨gb245, 2, none⟩ = some (.int .i64 0) := bc7_ BK245 2; have hcz29_3 : w26.cell? ⟨gb245, 3, none⟩ = some (.int .i64 0) := bc7_ BK245 3; have hfz29_0 := blk_frozen BK245.out 0; have hfz29_1 := blk_frozen BK245.out 1; have hfz29_2 := blk_frozen BK245.out 2; have hfz29_3 := blk_frozen BK245.out 3))
  refine bodyPost_ret (results_cell_row rfl _ _ gb245 53 #[.int .i32 a3_0, .int .i64 a3_1, .int .i64 a3_2, .int .i64 a3_3] (0, 0) _ rfl (by (with_reducible repeat (first | refine blk_drewN ?_ _ | refine blk_drew ?_ | refine blk_alloc ?_ _)); refine blk_put (cs := #[.int .i32 a3_0, .int .i64 a3_1, .int .i64 a3_2, .int .i64 0]) ?_ 3 _ rfl; (with_reducible repeat (first | refine blk_drewN ?_ _ | refine blk_drew ?_ | refine blk_alloc ?_ _)); refine blk_put (cs := #[.int .i32 a3_0, .int .i64 a3_1, .int .i64 0, .int .i64 0]) ?_ 2 _ rfl; (with_reducible repeat (first | refine blk_drewN ?_ _ | refine blk_drew ?_ | refine blk_alloc ?_ _)); refine blk_put (cs := #[.int .i32 a3_0, .int .i64 0, .int .i64 0, .int .i64 0]) ?_ 1 _ rfl; (with_reducible repeat (first | refine blk_drewN ?_ _ | refine blk_drew ?_ | refine blk_alloc ?_ _)); refine blk_put (cs := #[.int .i32 0, .int .i64 0, .int .i64 0, .int .i64 0]) ?_ 0 _ rfl; (with_reducible repeat (first | refine blk_drewN ?_ _ | refine blk_drew ?_ | refine blk_alloc ?_ _)); exact BK245.out) Try.underlying53 rfl q7_20) rfl ?_
  exact ⟨by first | rfl | (simp [errW_none, errW_some] <;> rfl) | (simp [*, errW_none, errW_some] <;> rfl), by repeat (first | (with_reducible first | exact HB.out | apply below_alloc | apply pw_below_drewN | apply below_drew1 | refine below_set ?_ GE243.out | refine below_set ?_ GE244.out | refine below_set ?_ GE245.out) | exact HB.out)⟩

end Go.Proofs.Ytkckojgjkmcokaa.PF10
