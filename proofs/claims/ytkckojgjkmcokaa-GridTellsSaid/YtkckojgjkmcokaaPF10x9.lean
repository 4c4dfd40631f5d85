/- By a program of this session (wip/tool/pp.py): plain Lean functions of the Go functions that this family of laws uses, the walks that the Go code comes to their answers, and the row of the law. No condition beside those that the row itself gives. -/
import Derived.Test.YtkckojgjkmcokaaPF10x0
import Derived.Test.YtkckojgjkmcokaaPF10x1
import Derived.Test.YtkckojgjkmcokaaPF10x2
import Derived.Test.YtkckojgjkmcokaaPF10x5
import Derived.Test.YtkckojgjkmcokaaPF10x6
import Derived.Test.YtkckojgjkmcokaaPF10x7
import Derived.Test.YtkckojgjkmcokaaPF10x8
namespace Go.Proofs.Ytkckojgjkmcokaa.PF10
open Go.RowKit Go.Proofs.YtkckojgjkmcokaaW.Hand Go.Proofs.YtkckojgjkmcokaaW.PrintWords Go.Proofs.YtkckojgjkmcokaaW.PrintLast Go.Proofs.YtkckojgjkmcokaaW.PrintMore
attribute [local go_sem] max2_int min2_int max_two min_two max_three min_three max_four min_four   -- for this text's walks alone
open List (setIfInBounds_toArray set_cons_zero set_cons_succ)
set_option linter.unusedVariables false
set_option linter.unusedSimpArgs false
attribute [local go_sem high] eqA53
set_option maxHeartbeats 8000000 in
set_option maxRecDepth 100000 in
theorem batonlaw10_GridTells.calls (k : Nat) (a0_0 : Int) (a0_1 : Int) (A0_2 : Option Addr) (c0_2 : Nat) (l0_2 : List (S53)) (a1_0 : Int) (a1_1 : Int) (A1_2 : Option Addr) (c1_2 : Nat) (l1_2 : List (S53)) (a2_0 : Int) (a2_1 : Int) (r : Bool) (w : World) (hr0_2 : Kd.C k53 w A0_2 l0_2.length l0_2) (hc0_2 : l0_2.length <= c0_2) (hr1_2 : Kd.C k53 w A1_2 l1_2.length l1_2) (hc1_2 : l1_2.length <= c1_2) (h : batonlaw10_GridTells.f k a0_0 a0_1 l0_2 a1_0 a1_1 l1_2 a2_0 a2_1 = some r) :
  Calls Try.prog 11 #[.agg #[.int .i64 a0_0, .int .i64 a0_1, .slice A0_2 l0_2.length c0_2], .agg #[.int .i64 a1_0, .int .i64 a1_1, .slice A1_2 l1_2.length c1_2], .agg #[.int .i64 a2_0, .int .i64 a2_1]] w fun e w' => e = .returned (.bool r) /\ Below w.heap.size w w' := by
 have hu75 := Try.underlying75
 have hu84 := Try.underlying84
 have hu53 := Try.underlying53
 have HR0_2 := A8_ hr0_2
 have HC0_2 := A8_ hc0_2
 clear hr0_2 hc0_2
 have HR1_2 := A8_ hr1_2
 have HC1_2 := A8_ hc1_2
 clear hr1_2 hc1_2
 have HB := A8_ (Below.refl w.heap.size w)
 have H : ((batonlaw10_awake.f k).bind fun t251 => (if t251 = true then (if (l0_2.length : Int) > 400 then (batonlaw10_GridTells.j0 k true a0_0 a0_1 l0_2 a1_0 a1_1 l1_2 a2_0 a2_1) else (batonlaw10_GridTells.j0 k (decide ((l1_2.length : Int) > 400)) a0_0 a0_1 l0_2 a1_0 a1_1 l1_2 a2_0 a2_1)) else (some false))) = some r := h
 clear h
 replace H := Option.bind_eq_some_iff.mp H
 obtain ⟨t251, A40, H⟩ := H
 replace H : (if t251 = true then (if (l0_2.length : Int) > 400 then (batonlaw10_GridTells.j0 k true a0_0 a0_1 l0_2 a1_0 a1_1 l1_2 a2_0 a2_1) else (batonlaw10_GridTells.j0 k (decide ((l1_2.length : Int) > 400)) a0_0 a0_1 l0_2 a1_0 a1_1 l1_2 a2_0 a2_1)) else (some false)) = some r := H
 have A4 := A8_ A40
 clear A40
 by_cases c5 : t251 = true
 ·subst c5
  have H1 : (if (l0_2.length : Int) > 400 then (batonlaw10_GridTells.j0 k true a0_0 a0_1 l0_2 a1_0 a1_1 l1_2 a2_0 a2_1) else (batonlaw10_GridTells.j0 k (decide ((l1_2.length : Int) > 400)) a0_0 a0_1 l0_2 a1_0 a1_1 l1_2 a2_0 a2_1)) = some r := by rw [if_pos rfl] at H; exact H
  clear H; have H := H1; clear H1
  have HC6 := A8_ H
  clear H
  go_enter Try.func11, Try.ntmps11
  go_upto_region 3 with (first | ((with_reducible refine gate_dst (N := 3) rfl ?_); (try (refine gate_guard (by rfl) ?_; dsimp only)); refine box_event ?hg (N := 3) ?hd (cs := #[.int .i64 a0_0, .int .i64 a0_1, .slice A0_2 l0_2.length c0_2]) (t := 75) ?hr ?_; (case hd => rfl); (case hg => rfl); (case hr => first | (go_simp; done) | (go_simp; rfl)); intro gb248 hg w7 hbox hb; have n0_ := A8_ (below_step q8_88 hb); have n1_ := A8_ (hbox); have n2_ := A8_ ((by rw [hg]; exact (below_size q8_88) : w.heap.size <= gb248)); have n3_ := A8_ ((by rw [hg]; exact (below_size q8_88) : w.heap.size <= gb248)); clear HB; have HB := n0_; have BK248 := n1_; have GW248 := n2_; have GE248 := n3_; clear n0_ n1_ n2_ n3_; clear hb hbox hg) | ((with_reducible refine gate_dst (N := 4) rfl ?_); (try (refine gate_guard (by rfl) ?_; dsimp only)); refine box_event ?hg (N := 4) ?hd (cs := #[.int .i64 a1_0, .int .i64 a1_1, .slice A1_2 l1_2.length c1_2]) (t := 75) ?hr ?_; (case hd => rfl); (case hg => rfl); (case hr => first | (go_simp; done) | (go_simp; rfl)); intro gb249 hg w8 hbox hb; have n0_ := A8_ (blk_below (g := gb248) (o := .cells #[.int .i64 a0_0, .int .i64 a0_1, .slice A0_2 l0_2.length c0_2] 75 (0, 0)) q8_78 hb); have n1_ := A8_ (below_step q8_87 hb); have n2_ := A8_ (hbox); have n3_ := A8_ ((by rw [hg]; exact (below_size q8_87) : w.heap.size <= gb249)); have n4_ := A8_ ((by rw [hg]; exact (below_size q8_87) : w.heap.size <= gb249)); have n5_ := A8_ ((by rw [hg]; exact Nat.ne_of_lt (blk_lt (g := gb248) (o := .cells #[.int .i64 a0_0, .int .i64 a0_1, .slice A0_2 l0_2.length c0_2] 75 (0, 0)) q8_78) : gb248 ≠ gb249)); have n6_ := A8_ ((by rw [hg]; exact Nat.ne_of_gt (blk_lt (g := gb248) (o := .cells #[.int .i64 a0_0, .int .i64 a0_1, .slice A0_2 l0_2.length c0_2] 75 (0, 0)) q8_78) : gb249 ≠ gb248)); clear BK248 HB; have BK248 := n0_; have HB := n1_; have BK249 := n2_; have GW249 := n3_; have GE249 := n4_; have NB248_249 := n5_; have NB249_248 := n6_; clear n0_ n1_ n2_ n3_ n4_ n5_ n6_; clear hb hbox hg) | ((with_reducible refine gate_dst (N := 5) rfl ?_); (try (refine gate_guard (by rfl) ?_; dsimp only)); refine box_event ?hg (N := 5) ?hd (cs := #[.int .i64 a2_0, .int .i64 a2_1]) (t := 84) ?hr ?_; (case hd => rfl); (case hg => rfl); (case hr => first | (go_simp; done) | (go_simp; rfl)); intro gb250 hg w9 hbox hb; have n0_ := A8_ (blk_below (g := gb248) (o := .cells #[.int .i64 a0_0, .int .i64 a0_1, .slice A0_2 l0_2.length c0_2] 75 (0, 0)) q8_78 hb); have n1_ := A8_ (blk_below (g := gb249) (o := .cells #[.int .i64 a1_0, .int .i64 a1_1, .slice A1_2 l1_2.length c1_2] 75 (0, 0)) q8_80 hb); have n2_ := A8_ (below_step q8_85 hb); have n3_ := A8_ (hbox); have n4_ := A8_ ((by rw [hg]; exact (below_size q8_85) : w.heap.size <= gb250)); have n5_ := A8_ ((by rw [hg]; exact (below_size q8_85) : w.heap.size <= gb250)); have n6_ := A8_ ((by rw [hg]; exact Nat.ne_of_lt (blk_lt (g := gb248) (o := .cells #[.int .i64 a0_0, .int .i64 a0_1, .slice A0_2 l0_2.length c0_2] 75 (0, 0)) q8_78) : gb248 ≠ gb250)); have n7_ := A8_ ((by rw [hg]; exact Nat.ne_of_gt (blk_lt (g := gb248) (o := .cells #[.int .i64 a0_0, .int .i64 a0_1, .slice A0_2 l0_2.length c0_2] 75 (0, 0)) q8_78) : gb250 ≠ gb248)); have n8_ := A8_ ((by rw [hg]; exact Nat.ne_of_lt (blk_lt (g := gb249) (o := .cells #[.int .i64 a1_0, .int .i64 a1_1, .slice A1_2 l1_2.length c1_2] 75 (0, 0)) q8_80) : gb249 ≠ gb250)); have n9_ := A8_ ((by rw [hg]; exact Nat.ne_of_gt (blk_lt (g := gb249) (o := .cells #[.int .i64 a1_0, .int .i64 a1_1, .slice A1_2 l1_2.length c1_2] 75 (0, 0)) q8_80) : gb250 ≠ gb249)); clear BK248 BK249 HB; have BK248 := n0_; have BK249 := n1_; have HB := n2_; have BK250 := n3_; have GW250 := n4_; have GE250 := n5_; have NB248_250 := n6_; have NB250_248 := n7_; have NB249_250 := n8_; have NB250_249 := n9_; clear n0_ n1_ n2_ n3_ n4_ n5_ n6_ n7_ n8_ n9_; clear hb hbox hg) | ((with_reducible refine gate_callee (f := 46) rfl ?_); refine goesL_ (some 11) rfl rfl Try.func46 q8_82 rfl #[] rfl q8_79 ?_; (with_reducible refine (batonlaw10_awake.calls k  true _ A4.out).mono ?_); rintro e w10 ⟨rfl, hb⟩; refine ⟨_, rfl, ?_⟩; have n0_ := A8_ (blk_below (g := gb248) (o := .cells #[.int .i64 a0_0, .int .i64 a0_1, .slice A0_2 l0_2.length c0_2] 75 (0, 0)) q8_78 hb); have n1_ := A8_ (blk_below (g := gb249) (o := .cells #[.int .i64 a1_0, .int .i64 a1_1, .slice A1_2 l1_2.length c1_2] 75 (0, 0)) q8_80 hb); have n2_ := A8_ (blk_below (g := gb250) (o := .cells #[.int .i64 a2_0, .int .i64 a2_1] 84 (0, 0)) q8_81 hb); have n3_ := A8_ (below_step q8_77 hb); clear BK248 BK249 BK250 HB; have BK248 := n0_; have BK249 := n1_; have BK250 := n2_; have HB := n3_; clear n0_ n1_ n2_ n3_; (try clear hb); (try clear hb2); (try clear hk); (try clear hi)))
  (try simp only [Act.put, setIfInBounds_toArray, set_cons_zero, set_cons_succ])
  go_cut [22] (fun v22 wc => ∃ (kq : Nat) (x22_5 : Bool), v22 = .bool x22_5 /\ Aside0 (batonlaw10_GridTells.j0 kq x22_5 a0_0 a0_1 l0_2 a1_0 a1_1 l1_2 a2_0 a2_1 = some r) /\ Aside0 (kq <= k) /\ Aside0 (wc.heap[gb248]? = some (.cells #[.int .i64 a0_0, .int .i64 a0_1, (.slice A0_2 l0_2.length c0_2)] 75 (0, 0))) /\ Aside0 (wc.heap[gb249]? = some (.cells #[.int .i64 a1_0, .int .i64 a1_1, (.slice A1_2 l1_2.length c1_2)] 75 (0, 0))) /\ Aside0 (wc.heap[gb250]? = some (.cells #[.int .i64 a2_0, .int .i64 a2_1] 84 (0, 0))) /\ Aside0 (Below w.heap.size w wc))
  case first => as_aux_lemma =>
   have H := HC6.out
   clear HC6
   by_cases c11 : (l0_2.length : Int) > 400
   ·rw [if_pos c11] at H
    have c11b0 : decide (400 < (l0_2.length : Int)) = true := decide_eq_true c11
    have c11b1 : decide (400 < l0_2.length) = true := decide_eq_true (by omega)
    clear c11
    (first | rw [c11b0] | (simp only [i64_w, i32_w]; rw [c11b0]) | rw [c11b1] | rw [c11b2] | skip)
    have H' := A8_ H
    clear H
    have hnb12 := NB248_249.out
    have hnc12 := NB249_248.out
    have hnb13 := NB248_250.out
    have hnc13 := NB250_248.out
    have hcz14_0 : w10.cell? ⟨gb248, 0, none⟩ = some (.int .i64 a0_0) := bc8_ BK248 0
    have hcz14_1 : w10.cell? ⟨gb248, 1, none⟩ = some (.int .i64 a0_1) := bc8_ BK248 1
    have hcz14_2 : w10.cell? ⟨gb248, 2, none⟩ = some (.slice A0_2 l0_2.length c0_2) := bc8_ BK248 2
    have hfz14_0 := blk_frozen BK248.out 0
    have hfz14_1 := blk_frozen BK248.out 1
    have hfz14_2 := blk_frozen BK248.out 2
    go_wp2
    go_meet
    case rel => exact ⟨_, (true), q8_91, H', ⟨by first | omega | exact Nat.le_refl _⟩, ⟨by (with_reducible repeat (first | refine blk_drewN ?_ _ | refine blk_drew ?_ | refine blk_alloc ?_ _)); exact BK248.out⟩, ⟨by (with_reducible repeat (first | refine blk_drewN ?_ _ | refine blk_drew ?_ | refine blk_alloc ?_ _)); exact BK249.out⟩, ⟨by (with_reducible repeat (first | refine blk_drewN ?_ _ | refine blk_drew ?_ | refine blk_alloc ?_ _)); exact BK250.out⟩, ⟨by repeat (first | (with_reducible first | exact HB.out | apply below_alloc | apply pw_below_drewN | apply below_drew1 | refine below_set ?_ GE248.out | refine below_set ?_ GE249.out | refine below_set ?_ GE250.out) | exact HB.out)⟩⟩
   ·rw [if_neg c11] at H
    have c11b0 : decide (400 < (l0_2.length : Int)) = false := decide_eq_false c11
    have c11b1 : decide (400 < l0_2.length) = false := decide_eq_false (by omega)
    clear c11
    (first | rw [c11b0] | (simp only [i64_w, i32_w]; rw [c11b0]) | rw [c11b1] | rw [c11b2] | skip)
    have H' := A8_ H
    clear H
    have hnb15 := NB248_249.out
    have hnc15 := NB249_248.out
    have hnb16 := NB248_250.out
    have hnc16 := NB250_248.out
    have hcz17_0 : w10.cell? ⟨gb248, 0, none⟩ = some (.int .i64 a0_0) := bc8_ BK248 0
    have hcz17_1 : w10.cell? ⟨gb248, 1, none⟩ = some (.int .i64 a0_1) := bc8_ BK248 1
    have hcz17_2 : w10.cell? ⟨gb248, 2, none⟩ = some (.slice A0_2 l0_2.length c0_2) := bc8_ BK248 2
    have hfz17_0 := blk_frozen BK248.out 0
    have hfz17_1 := blk_frozen BK248.out 1
    have hfz17_2 := blk_frozen BK248.out 2
    have hnb18 := NB249_250.out
    have hnc18 := NB250_249.out
    have hcz19_0 : w10.cell? ⟨gb249, 0, none⟩ = some (.int .i64 a1_0) := bc8_ BK249 0
    have hcz19_1 : w10.cell? ⟨gb249, 1, none⟩ = some (.int .i64 a1_1) := bc8_ BK249 1
    have hcz19_2 : w10.cell? ⟨gb249, 2, none⟩ = some (.slice A1_2 l1_2.length c1_2) := bc8_ BK249 2
    have hfz19_0 := blk_frozen BK249.out 0
    have hfz19_1 := blk_frozen BK249.out 1
    have hfz19_2 := blk_frozen BK249.out 2
    go_wp2
    go_meet
    case rel => exact ⟨_, (decide ((l1_2.length : Int) > 400)), q8_91, H', ⟨by first | omega | exact Nat.le_refl _⟩, ⟨by (with_reducible repeat (first | refine blk_drewN ?_ _ | refine blk_drew ?_ | refine blk_alloc ?_ _)); exact BK248.out⟩, ⟨by (with_reducible repeat (first | refine blk_drewN ?_ _ | refine blk_drew ?_ | refine blk_alloc ?_ _)); exact BK249.out⟩, ⟨by (with_reducible repeat (first | refine blk_drewN ?_ _ | refine blk_drew ?_ | refine blk_alloc ?_ _)); exact BK250.out⟩, ⟨by repeat (first | (with_reducible first | exact HB.out | apply below_alloc | apply pw_below_drewN | apply below_drew1 | refine below_set ?_ GE248.out | refine below_set ?_ GE249.out | refine below_set ?_ GE250.out) | exact HB.out)⟩⟩
  case rest => as_aux_lemma =>
   clear HC6
   try clear c1
   try clear p2
   try clear c4
   try clear c5
   try clear c11
   try clear c11b0
   try clear c11b1
   try clear c11b2
   try clear c12
   try clear c13
   try clear c15
   try clear c16
   try clear c18
   try clear hcz14_0
   try clear hcz14_1
   try clear hcz14_2
   try clear hcz17_0
   try clear hcz17_1
   try clear hcz17_2
   try clear hcz19_0
   try clear hcz19_1
   try clear hcz19_2
   try clear hfz14_0
   try clear hfz14_1
   try clear hfz14_2
   try clear hfz17_0
   try clear hfz17_1
   try clear hfz17_2
   try clear hfz19_0
   try clear hfz19_1
   try clear hfz19_2
   obtain ⟨kq, x22_5, rfl, HA, HJ5, BK248, BK249, BK250, HB⟩ := hcut
   cases kq with
   | zero => exact absurd HA.out (by simp [batonlaw10_GridTells.j0])
   | succ kj5 =>
    have H := HA.out
    clear HA
    simp only [batonlaw10_GridTells.j0] at H
    by_cases c20 : x22_5 = true
    ·subst c20
     have H1 : (some true) = some r := by rw [if_pos rfl] at H; exact H
     clear H; have H := H1; clear H1
     obtain rfl := Option.some.inj H
     go_wp2
     go_ret
     exact ⟨by first | rfl | (simp [errW_none, errW_some] <;> rfl) | (simp [*, errW_none, errW_some] <;> rfl), by repeat (first | (with_reducible first | exact HB.out | apply below_alloc | apply pw_below_drewN | apply below_drew1 | refine below_set ?_ GE248.out | refine below_set ?_ GE249.out | refine below_set ?_ GE250.out) | exact HB.out)⟩
    ·replace c20 := Bool.eq_false_iff.mpr c20
     subst c20
     have H1 : ((batonref10_Right.f kj5 a0_0 a0_1 l0_2).bind fun t252 => ((grid_Of.f kj5 a0_0 a0_1 l0_2).bind fun bt253 => (if bt253.1 = true then ((grid_Right.f kj5 a0_0 a0_1 l0_2).bind fun t261 => (if (t261 != t252) = true then (batonlaw10_GridTells.j1 kj5 t252 bt253.2.2.2.2 true a0_0 a0_1 l0_2 a2_0 a2_1 bt253.2.1 bt253.2.2.1 bt253.2.2.2.1) else ((grid_Same.f kj5 a0_0 a0_1 l0_2 a1_0 a1_1 l1_2).bind fun t262 => ((batonref10_Same.f kj5 a0_0 a0_1 l0_2 a1_0 a1_1 l1_2).bind fun t263 => (batonlaw10_GridTells.j1 kj5 t252 bt253.2.2.2.2 (t262 != t263) a0_0 a0_1 l0_2 a2_0 a2_1 bt253.2.1 bt253.2.2.1 bt253.2.2.2.1))))) else ((grid_Right.f kj5 a0_0 a0_1 l0_2).bind fun t322 => (if (t322 != t252) = true then (some false) else ((grid_Same.f kj5 a0_0 a0_1 l0_2 a1_0 a1_1 l1_2).bind fun t323 => ((batonref10_Same.f kj5 a0_0 a0_1 l0_2 a1_0 a1_1 l1_2).bind fun t324 => (if (t323 != t324) = true then (some false) else (if t252 = true then (if bt253.2.2.2.2 = 0 then (some false) else (some false)) else (some (bt253.2.2.2.2 == 22))))))))))) = some r := by rw [if_neg (show ¬ (false = true) by decide)] at H; exact H
     clear H; have H := H1; clear H1
     replace H := Option.bind_eq_some_iff.mp H
     obtain ⟨t252, A210, H⟩ := H
     replace H : ((grid_Of.f kj5 a0_0 a0_1 l0_2).bind fun bt253 => (if bt253.1 = true then ((grid_Right.f kj5 a0_0 a0_1 l0_2).bind fun t261 => (if (t261 != t252) = true then (batonlaw10_GridTells.j1 kj5 t252 bt253.2.2.2.2 true a0_0 a0_1 l0_2 a2_0 a2_1 bt253.2.1 bt253.2.2.1 bt253.2.2.2.1) else ((grid_Same.f kj5 a0_0 a0_1 l0_2 a1_0 a1_1 l1_2).bind fun t262 => ((batonref10_Same.f kj5 a0_0 a0_1 l0_2 a1_0 a1_1 l1_2).bind fun t263 => (batonlaw10_GridTells.j1 kj5 t252 bt253.2.2.2.2 (t262 != t263) a0_0 a0_1 l0_2 a2_0 a2_1 bt253.2.1 bt253.2.2.1 bt253.2.2.2.1))))) else ((grid_Right.f kj5 a0_0 a0_1 l0_2).bind fun t322 => (if (t322 != t252) = true then (some false) else ((grid_Same.f kj5 a0_0 a0_1 l0_2 a1_0 a1_1 l1_2).bind fun t323 => ((batonref10_Same.f kj5 a0_0 a0_1 l0_2 a1_0 a1_1 l1_2).bind fun t324 => (if (t323 != t324) = true then (some false) else (if t252 = true then (if bt253.2.2.2.2 = 0 then (some false) else (some false)) else (some (bt253.2.2.2.2 == 22)))))))))) = some r := H
     have A21 := A8_ A210
     clear A210
     replace H := Option.bind_eq_some_iff.mp H
     obtain ⟨⟨t253, t254, t255, t256, t260⟩, A220, H⟩ := H
     replace H : (if t253 = true then ((grid_Right.f kj5 a0_0 a0_1 l0_2).bind fun t261 => (if (t261 != t252) = true then (batonlaw10_GridTells.j1 kj5 t252 t260 true a0_0 a0_1 l0_2 a2_0 a2_1 t254 t255 t256) else ((grid_Same.f kj5 a0_0 a0_1 l0_2 a1_0 a1_1 l1_2).bind fun t262 => ((batonref10_Same.f kj5 a0_0 a0_1 l0_2 a1_0 a1_1 l1_2).bind fun t263 => (batonlaw10_GridTells.j1 kj5 t252 t260 (t262 != t263) a0_0 a0_1 l0_2 a2_0 a2_1 t254 t255 t256))))) else ((grid_Right.f kj5 a0_0 a0_1 l0_2).bind fun t322 => (if (t322 != t252) = true then (some false) else ((grid_Same.f kj5 a0_0 a0_1 l0_2 a1_0 a1_1 l1_2).bind fun t323 => ((batonref10_Same.f kj5 a0_0 a0_1 l0_2 a1_0 a1_1 l1_2).bind fun t324 => (if (t323 != t324) = true then (some false) else (if t252 = true then (if t260 = 0 then (some false) else (some false)) else (some (t260 == 22))))))))) = some r := H
     have A22 := A8_ A220
     clear A220
     by_cases c23 : t253 = true
     ·subst c23
      have H1 : ((grid_Right.f kj5 a0_0 a0_1 l0_2).bind fun t261 => (if (t261 != t252) = true then (batonlaw10_GridTells.j1 kj5 t252 t260 true a0_0 a0_1 l0_2 a2_0 a2_1 t254 t255 t256) else ((grid_Same.f kj5 a0_0 a0_1 l0_2 a1_0 a1_1 l1_2).bind fun t262 => ((batonref10_Same.f kj5 a0_0 a0_1 l0_2 a1_0 a1_1 l1_2).bind fun t263 => (batonlaw10_GridTells.j1 kj5 t252 t260 (t262 != t263) a0_0 a0_1 l0_2 a2_0 a2_1 t254 t255 t256))))) = some r := by rw [if_pos rfl] at H; exact H
      clear H; have H := H1; clear H1
      have HC24 := A8_ H
      clear H
      have hnb25 := NB248_249.out
      have hnc25 := NB249_248.out
      have hnb26 := NB248_250.out
      have hnc26 := NB250_248.out
      have hcz27_0 : wc.cell? ⟨gb248, 0, none⟩ = some (.int .i64 a0_0) := bc8_ BK248 0
      have hcz27_1 : wc.cell? ⟨gb248, 1, none⟩ = some (.int .i64 a0_1) := bc8_ BK248 1
      have hcz27_2 : wc.cell? ⟨gb248, 2, none⟩ = some (.slice A0_2 l0_2.length c0_2) := bc8_ BK248 2
      have hfz27_0 := blk_frozen BK248.out 0
      have hfz27_1 := blk_frozen BK248.out 1
      have hfz27_2 := blk_frozen BK248.out 2
      go_upto_region 7 with (first | ((with_reducible refine gate_callee (f := 47) rfl ?_); refine goesL_ (some 24) rfl rfl Try.func47 q8_82 rfl #[.agg #[.int .i64 a0_0, .int .i64 a0_1, .slice A0_2 l0_2.length c0_2]] rfl q8_79 ?_; (with_reducible refine (batonref10_Right.calls kj5 a0_0 a0_1 _ _ l0_2 t252 _ ?side1 ?side2 A21.out).mono ?_); (case side1 => repeat (first | exact (Kd.C_below HR0_2.out HB.out) | (with_reducible refine Kd.C_alloc ?_ _) | (with_reducible refine Kd.C_drewN ?_ _) | (with_reducible refine Kd.C_drew ?_))); (case side2 => exact HC0_2.out); rintro e w28 ⟨rfl, hb⟩; refine ⟨_, rfl, ?_⟩; have n0_ := A8_ (blk_below (g := gb248) (o := .cells #[.int .i64 a0_0, .int .i64 a0_1, .slice A0_2 l0_2.length c0_2] 75 (0, 0)) q8_78 hb); have n1_ := A8_ (blk_below (g := gb249) (o := .cells #[.int .i64 a1_0, .int .i64 a1_1, .slice A1_2 l1_2.length c1_2] 75 (0, 0)) q8_80 hb); have n2_ := A8_ (blk_below (g := gb250) (o := .cells #[.int .i64 a2_0, .int .i64 a2_1] 84 (0, 0)) q8_81 hb); have n3_ := A8_ (below_step q8_77 hb); clear BK248 BK249 BK250 HB; have BK248 := n0_; have BK249 := n1_; have BK250 := n2_; have HB := n3_; clear n0_ n1_ n2_ n3_; (try clear hb); (try clear hb2); (try clear hk); (try clear hi); have hcz29_0 : w28.cell? ⟨gb248, 0, none⟩ = some (.int .i64 a0_0) := bc8_ BK248 0; have hcz29_1 : w28.cell? ⟨gb248, 1, none⟩ = some (.int .i64 a0_1) := bc8_ BK248 1; have hcz29_2 : w28.cell? ⟨gb248, 2, none⟩ = some (.slice A0_2 l0_2.length c0_2) := bc8_ BK248 2; have hfz29_0 := blk_frozen BK248.out 0; have hfz29_1 := blk_frozen BK248.out 1; have hfz29_2 := blk_frozen BK248.out 2) | ((with_reducible refine gate_callee (f := 48) rfl ?_); refine goesL_ (some 27) rfl rfl Try.func48 q8_82 rfl #[.agg #[.int .i64 a0_0, .int .i64 a0_1, .slice A0_2 l0_2.length c0_2]] rfl q8_79 ?_; (with_reducible refine (grid_Of.calls kj5 a0_0 a0_1 _ _ l0_2 true t254 t255 t256 t260 _ ?side1 ?side2 A22.out).mono ?_); (case side1 => repeat (first | exact (Kd.C_below HR0_2.out HB.out) | (with_reducible refine Kd.C_alloc ?_ _) | (with_reducible refine Kd.C_drewN ?_ _) | (with_reducible refine Kd.C_drew ?_))); (case side2 => exact HC0_2.out); rintro e w30 ⟨v257, gb259, rfl, ho0, hbn, hgn, hb⟩; refine ⟨_, rfl, ?_⟩; have n0_ := A8_ (Kd.R_lower ho0 (below_size q8_77)); have n1_ := A8_ (blk_below (g := gb248) (o := .cells #[.int .i64 a0_0, .int .i64 a0_1, .slice A0_2 l0_2.length c0_2] 75 (0, 0)) q8_78 hb); have n2_ := A8_ (blk_below (g := gb249) (o := .cells #[.int .i64 a1_0, .int .i64 a1_1, .slice A1_2 l1_2.length c1_2] 75 (0, 0)) q8_80 hb); have n3_ := A8_ (blk_below (g := gb250) (o := .cells #[.int .i64 a2_0, .int .i64 a2_1] 84 (0, 0)) q8_81 hb); have n4_ := A8_ (hbn rfl); have n5_ := A8_ ((Nat.le_trans (below_size q8_77) hgn : w.heap.size <= gb259)); have n6_ := A8_ ((Nat.le_trans (below_size q8_77) hgn : w.heap.size <= gb259)); have n7_ := A8_ ((Nat.ne_of_lt (Nat.lt_of_lt_of_le (blk_lt (g := gb248) (o := .cells #[.int .i64 a0_0, .int .i64 a0_1, .slice A0_2 l0_2.length c0_2] 75 (0, 0)) q8_78) hgn) : gb248 ≠ gb259)); have n8_ := A8_ ((Nat.ne_of_gt (Nat.lt_of_lt_of_le (blk_lt (g := gb248) (o := .cells #[.int .i64 a0_0, .int .i64 a0_1, .slice A0_2 l0_2.length c0_2] 75 (0, 0)) q8_78) hgn) : gb259 ≠ gb248)); have n9_ := A8_ ((Nat.ne_of_lt (Nat.lt_of_lt_of_le (blk_lt (g := gb249) (o := .cells #[.int .i64 a1_0, .int .i64 a1_1, .slice A1_2 l1_2.length c1_2] 75 (0, 0)) q8_80) hgn) : gb249 ≠ gb259)); have n10_ := A8_ ((Nat.ne_of_gt (Nat.lt_of_lt_of_le (blk_lt (g := gb249) (o := .cells #[.int .i64 a1_0, .int .i64 a1_1, .slice A1_2 l1_2.length c1_2] 75 (0, 0)) q8_80) hgn) : gb259 ≠ gb249)); have n11_ := A8_ ((Nat.ne_of_lt (Nat.lt_of_lt_of_le (blk_lt (g := gb250) (o := .cells #[.int .i64 a2_0, .int .i64 a2_1] 84 (0, 0)) q8_81) hgn) : gb250 ≠ gb259)); have n12_ := A8_ ((Nat.ne_of_gt (Nat.lt_of_lt_of_le (blk_lt (g := gb250) (o := .cells #[.int .i64 a2_0, .int .i64 a2_1] 84 (0, 0)) q8_81) hgn) : gb259 ≠ gb250)); have n13_ := A8_ (below_step q8_77 hb); clear BK248 BK249 BK250 HB; have HO258 := n0_; have BK248 := n1_; have BK249 := n2_; have BK250 := n3_; have BK259 := n4_; have GW259 := n5_; have GE259 := n6_; have NB248_259 := n7_; have NB259_248 := n8_; have NB249_259 := n9_; have NB259_249 := n10_; have NB250_259 := n11_; have NB259_250 := n12_; have HB := n13_; clear n0_ n1_ n2_ n3_ n4_ n5_ n6_ n7_ n8_ n9_ n10_ n11_ n12_ n13_; (try simp only [ptrW_true, ptrW_false]); (try clear hbn); (try clear hgn); (try clear hb); (try clear hb2); (try clear hk); (try clear hi); (try clear ho0)))
      (try simp only [Act.put, setIfInBounds_toArray, set_cons_zero, set_cons_succ])
      go_cut [42] (fun v42 wc => ∃ (kq : Nat) (x42_23 : Bool), v42 = .bool x42_23 /\ Aside0 (batonlaw10_GridTells.j1 kq t252 t260 x42_23 a0_0 a0_1 l0_2 a2_0 a2_1 t254 t255 t256 = some r) /\ Aside0 (kq <= kj5) /\ Aside0 (Kd.R k53 53 wc w.heap.size (fun _ => True) v257 t256) /\ Aside0 (wc.heap[gb248]? = some (.cells #[.int .i64 a0_0, .int .i64 a0_1, (.slice A0_2 l0_2.length c0_2)] 75 (0, 0))) /\ Aside0 (wc.heap[gb249]? = some (.cells #[.int .i64 a1_0, .int .i64 a1_1, (.slice A1_2 l1_2.length c1_2)] 75 (0, 0))) /\ Aside0 (wc.heap[gb250]? = some (.cells #[.int .i64 a2_0, .int .i64 a2_1] 84 (0, 0))) /\ Aside0 (wc.heap[gb259]? = some (.cells #[.int .i64 t254, .int .i64 t255, v257] 112 (0, 0))) /\ Aside0 (Below w.heap.size w wc))
      case first => as_aux_lemma =>
       have H := HC24.out
       clear HC24
       replace H := Option.bind_eq_some_iff.mp H
       obtain ⟨t261, A310, H⟩ := H
       replace H : (if (t261 != t252) = true then (batonlaw10_GridTells.j1 kj5 t252 t260 true a0_0 a0_1 l0_2 a2_0 a2_1 t254 t255 t256) else ((grid_Same.f kj5 a0_0 a0_1 l0_2 a1_0 a1_1 l1_2).bind fun t262 => ((batonref10_Same.f kj5 a0_0 a0_1 l0_2 a1_0 a1_1 l1_2).bind fun t263 => (batonlaw10_GridTells.j1 kj5 t252 t260 (t262 != t263) a0_0 a0_1 l0_2 a2_0 a2_1 t254 t255 t256)))) = some r := H
       have A31 := A8_ A310
       clear A310
       by_cases c32 : (t261 != t252) = true
       ·rw [if_pos c32] at H
        have c32b0 : (t261 != t252) = true := c32
        (try (have c32b1 : decide (t261 = t252) = false := by simpa using c32))
        (try (have c32b2 : (t261 == t252) = false := by simpa using c32))
        (try (have c32b3 : ¬ (t261 = t252) := by simpa using c32))
        clear c32
        (first | rw [c32b0] | (simp only [i64_w, i32_w]; rw [c32b0]) | rw [c32b1] | rw [c32b2] | skip)
        have H' := A8_ H
        clear H
        try go_wp2
        have n0_ := A8_ (Kd.R_drew HO258.out)
        have n1_ := A8_ (blk_drew BK248.out)
        have n2_ := A8_ (blk_drew BK249.out)
        have n3_ := A8_ (blk_drew BK250.out)
        have n4_ := A8_ (blk_drew BK259.out)
        have n5_ := A8_ (below_drew1 HB.out)
        clear HO258; clear BK248; clear BK249; clear BK250; clear BK259; clear HB; have HO258 := n0_; have BK248 := n1_; have BK249 := n2_; have BK250 := n3_; have BK259 := n4_; have HB := n5_; clear n0_ n1_ n2_ n3_ n4_ n5_
        refine start_ (n := 13) (S := fun w' => w'.cell? ⟨gb248, 0, none⟩ = some (.int .i64 a0_0) /\ w'.cell? ⟨gb248, 1, none⟩ = some (.int .i64 a0_1) /\ w'.cell? ⟨gb248, 2, none⟩ = some (.slice A0_2 l0_2.length c0_2)) (ds := []) m8_2 q8_82 rfl rfl ⟨bc8_ BK248 0, bc8_ BK248 1, bc8_ BK248 2⟩ (fun hHeld => ?_); refine with_tabW batonlaw10_GridTells.tab7 batonlaw10_GridTells.bits7 (fun HT_ HW_ => ?_)
        generalize w30.drew = w33 at HO258 BK248 BK249 BK250 BK259 HB hHeld ⊢
        refine pure_ (i := 2) (N := some 32) (v := ?_) (a' := ?_) m8_3 rfl rfl (any_of HT_.out q8_82) (fun _ _ _ h => h) (Or.inl ⟨by rfl, ?_⟩) ?_ ?_
        rotate_left; · intro w'; go_simp; with_reducible rfl
        rotate_left; · simp only [Act.put, setIfInBounds_toArray, set_cons_zero, set_cons_succ, i64_w, i32_w]; rfl
        refine take_ (i := 0) (N := some 30) (v := ?_) (a' := ?_) m8_6 rfl rfl (take_ofW HT_.out HW_.out q8_82) (fun _ _ _ h => h) (Or.inl ⟨by rfl, ?_⟩) hHeld ?_ ?_
        rotate_left; · rintro w' ⟨s0, s1, s2⟩; go_simp; with_reducible rfl
        rotate_left; · simp only [Act.put, setIfInBounds_toArray, set_cons_zero, set_cons_succ, i64_w, i32_w]; rfl
        refine one_ (i := 1) (N := some 31) m8_15 rfl rfl (one_of HT_.out q8_82) q8_90 (fun K hK => ?_)
        refine goes_ Try.func52 q8_82 rfl #[.agg #[.int .i64 a0_0, .int .i64 a0_1, .slice A0_2 l0_2.length c0_2]] (by rfl) rfl rfl q8_79 ?_
        with_reducible refine (grid_Right.calls kj5 a0_0 a0_1 _ _ l0_2 t261 _ ?side1 ?side2 A31.out).mono ?_
        (case side1 => repeat (first | exact (Kd.C_below HR0_2.out HB.out) | (with_reducible refine Kd.C_alloc ?_ _) | (with_reducible refine Kd.C_drewN ?_ _) | (with_reducible refine Kd.C_drew ?_)))
        (case side2 => exact HC0_2.out)
        rintro e w34 ⟨rfl, hb⟩
        refine ⟨_, rfl, ?_⟩
        have n0_ := A8_ (Kd.R_below q8_84 hb)
        have n1_ := A8_ (blk_below (g := gb248) (o := .cells #[.int .i64 a0_0, .int .i64 a0_1, .slice A0_2 l0_2.length c0_2] 75 (0, 0)) q8_78 hb)
        have n2_ := A8_ (blk_below (g := gb249) (o := .cells #[.int .i64 a1_0, .int .i64 a1_1, .slice A1_2 l1_2.length c1_2] 75 (0, 0)) q8_80 hb)
        have n3_ := A8_ (blk_below (g := gb250) (o := .cells #[.int .i64 a2_0, .int .i64 a2_1] 84 (0, 0)) q8_81 hb)
        have n4_ := A8_ (blk_below (g := gb259) (o := .cells #[.int .i64 t254, .int .i64 t255, v257] 112 (0, 0)) q8_86 hb)
        have n5_ := A8_ (below_step q8_83 hb)
        clear HO258; clear BK248; clear BK249; clear BK250; clear BK259; clear HB; have HO258 := n0_; have BK248 := n1_; have BK249 := n2_; have BK250 := n3_; have BK259 := n4_; have HB := n5_; clear n0_ n1_ n2_ n3_ n4_ n5_; (try clear hb); (try clear hb2); (try clear hk); (try clear hi)
        refine hK.out _ _ ⟨bc8_ BK248 0, bc8_ BK248 1, bc8_ BK248 2⟩ (fun hHeld => ?_)
        clear hK K
        refine norm_ (a' := ?_) ?_ ?_
        rotate_left; · show Act.put _ (some 31) _ = _; simp only [Act.put, setIfInBounds_toArray, set_cons_zero, set_cons_succ, i64_w, i32_w]; rfl
        refine pure_ (i := 3) (N := some 33) (v := ?_) (a' := ?_) m8_17 rfl rfl (any_of HT_.out q8_82) (fun _ _ _ h => h) (Or.inl ⟨by rfl, ?_⟩) ?_ ?_
        rotate_left; · intro w'; go_simp; with_reducible rfl
        rotate_left; · simp only [Act.put, setIfInBounds_toArray, set_cons_zero, set_cons_succ, i64_w, i32_w]; rfl
        refine pure_ (i := 4) (N := some 34) (v := ?_) (a' := ?_) m8_20 rfl rfl (any_of HT_.out q8_82) (fun _ _ _ h => h) (Or.inl ⟨by rfl, ?_⟩) ?_ ?_
        rotate_left; · intro w'; go_simp; with_reducible rfl
        rotate_left; · simp only [Act.put, setIfInBounds_toArray, set_cons_zero, set_cons_succ, i64_w, i32_w]; rfl
        refine pure_ (i := 5) (N := some 35) (v := undef) (a' := ?_) m8_22 rfl rfl (any_of HT_.out q8_82) (fun _ _ _ h => h) (Or.inr ⟨by rfl, rfl⟩) ?_ ?_
        rotate_left; · simp only [Act.put, setIfInBounds_toArray, set_cons_zero, set_cons_succ, i64_w, i32_w]; rfl
        refine pure_ (i := 6) (N := some 36) (v := undef) (a' := ?_) m8_25 rfl rfl (any_of HT_.out q8_82) (fun _ _ _ h => h) (Or.inr ⟨by rfl, rfl⟩) ?_ ?_
        rotate_left; · simp only [Act.put, setIfInBounds_toArray, set_cons_zero, set_cons_succ, i64_w, i32_w]; rfl
        refine pure_ (i := 7) (N := some 37) (v := undef) (a' := ?_) m8_30 rfl rfl (any_of HT_.out q8_82) (fun _ _ _ h => h) (Or.inr ⟨by rfl, rfl⟩) ?_ ?_
        rotate_left; · simp only [Act.put, setIfInBounds_toArray, set_cons_zero, set_cons_succ, i64_w, i32_w]; rfl
        refine pure_ (i := 8) (N := some 38) (v := undef) (a' := ?_) m8_33 rfl rfl (any_of HT_.out q8_82) (fun _ _ _ h => h) (Or.inr ⟨by rfl, rfl⟩) ?_ ?_
        rotate_left; · simp only [Act.put, setIfInBounds_toArray, set_cons_zero, set_cons_succ, i64_w, i32_w]; rfl
        refine pure_ (i := 9) (N := some 39) (v := undef) (a' := ?_) m8_36 rfl rfl (any_of HT_.out q8_82) (fun _ _ _ h => h) (Or.inr ⟨by rfl, rfl⟩) ?_ ?_
        rotate_left; · simp only [Act.put, setIfInBounds_toArray, set_cons_zero, set_cons_succ, i64_w, i32_w]; rfl
        refine pure_ (i := 10) (N := some 40) (v := undef) (a' := ?_) m8_39 rfl rfl (any_of HT_.out q8_82) (fun _ _ _ h => h) (Or.inr ⟨by rfl, rfl⟩) ?_ ?_
        rotate_left; · simp only [Act.put, setIfInBounds_toArray, set_cons_zero, set_cons_succ, i64_w, i32_w]; rfl
        refine pure_ (i := 11) (N := some 41) (v := undef) (a' := ?_) m8_42 rfl rfl (any_of HT_.out q8_82) (fun _ _ _ h => h) (Or.inr ⟨by rfl, rfl⟩) ?_ ?_
        rotate_left; · simp only [Act.put, setIfInBounds_toArray, set_cons_zero, set_cons_succ, i64_w, i32_w]; rfl
        refine pure_ (i := 12) (N := some 42) (v := ?_) (a' := ?_) m8_93 rfl rfl (any_of HT_.out q8_82) (fun _ _ _ h => h) (Or.inl ⟨by rfl, ?_⟩) ?_ ?_
        rotate_left; · intro w'; go_simp; with_reducible rfl
        rotate_left; · simp only [Act.put, setIfInBounds_toArray, set_cons_zero, set_cons_succ, i64_w, i32_w]; rfl
        refine done_ (done_of HT_.out q8_82) ?_
        try go_wp2
        go_meet
        case rel => exact ⟨_, (true), q8_91, H', ⟨by have := HJ5.out; first | omega | exact Nat.le_refl _⟩, ⟨by (with_reducible repeat (first | apply Kd.R_alloc | apply Kd.R_drewN | apply Kd.R_drew)); exact HO258.out⟩, ⟨by (with_reducible repeat (first | refine blk_drewN ?_ _ | refine blk_drew ?_ | refine blk_alloc ?_ _)); exact BK248.out⟩, ⟨by (with_reducible repeat (first | refine blk_drewN ?_ _ | refine blk_drew ?_ | refine blk_alloc ?_ _)); exact BK249.out⟩, ⟨by (with_reducible repeat (first | refine blk_drewN ?_ _ | refine blk_drew ?_ | refine blk_alloc ?_ _)); exact BK250.out⟩, ⟨by (with_reducible repeat (first | refine blk_drewN ?_ _ | refine blk_drew ?_ | refine blk_alloc ?_ _)); exact BK259.out⟩, ⟨by repeat (first | (with_reducible first | exact HB.out | apply below_alloc | apply pw_below_drewN | apply below_drew1 | refine below_set ?_ GE248.out | refine below_set ?_ GE249.out | refine below_set ?_ GE250.out | refine below_set ?_ GE259.out) | exact HB.out)⟩⟩
       ·rw [if_neg c32] at H
        have c32b0 : (t261 != t252) = false := by simpa using c32
        (try (have c32b1 : decide (t261 = t252) = true := by simpa using c32))
        (try (have c32b2 : (t261 == t252) = true := by simpa using c32))
        clear c32
        (first | rw [c32b0] | (simp only [i64_w, i32_w]; rw [c32b0]) | rw [c32b1] | rw [c32b2] | skip)
        replace H := Option.bind_eq_some_iff.mp H
        obtain ⟨t262, A350, H⟩ := H
        replace H : ((batonref10_Same.f kj5 a0_0 a0_1 l0_2 a1_0 a1_1 l1_2).bind fun t263 => (batonlaw10_GridTells.j1 kj5 t252 t260 (t262 != t263) a0_0 a0_1 l0_2 a2_0 a2_1 t254 t255 t256)) = some r := H
        have A35 := A8_ A350
        clear A350
        replace H := Option.bind_eq_some_iff.mp H
        obtain ⟨t263, A360, H⟩ := H
        replace H : (batonlaw10_GridTells.j1 kj5 t252 t260 (t262 != t263) a0_0 a0_1 l0_2 a2_0 a2_1 t254 t255 t256) = some r := H
        have A36 := A8_ A360
        clear A360
        have H' := A8_ H
        clear H
        try go_wp2
        have n0_ := A8_ (Kd.R_drew HO258.out)
        have n1_ := A8_ (blk_drew BK248.out)
        have n2_ := A8_ (blk_drew BK249.out)
        have n3_ := A8_ (blk_drew BK250.out)
        have n4_ := A8_ (blk_drew BK259.out)
        have n5_ := A8_ (below_drew1 HB.out)
        clear HO258; clear BK248; clear BK249; clear BK250; clear BK259; clear HB; have HO258 := n0_; have BK248 := n1_; have BK249 := n2_; have BK250 := n3_; have BK259 := n4_; have HB := n5_; clear n0_ n1_ n2_ n3_ n4_ n5_
        refine start_ (n := 13) (S := fun w' => w'.cell? ⟨gb248, 0, none⟩ = some (.int .i64 a0_0) /\ w'.cell? ⟨gb248, 1, none⟩ = some (.int .i64 a0_1) /\ w'.cell? ⟨gb248, 2, none⟩ = some (.slice A0_2 l0_2.length c0_2) /\ w'.cell? ⟨gb249, 0, none⟩ = some (.int .i64 a1_0) /\ w'.cell? ⟨gb249, 1, none⟩ = some (.int .i64 a1_1) /\ w'.cell? ⟨gb249, 2, none⟩ = some (.slice A1_2 l1_2.length c1_2)) (ds := []) m8_2 q8_82 rfl rfl ⟨bc8_ BK248 0, bc8_ BK248 1, bc8_ BK248 2, bc8_ BK249 0, bc8_ BK249 1, bc8_ BK249 2⟩ (fun hHeld => ?_); refine with_tabW batonlaw10_GridTells.tab7 batonlaw10_GridTells.bits7 (fun HT_ HW_ => ?_)
        generalize w30.drew = w37 at HO258 BK248 BK249 BK250 BK259 HB hHeld ⊢
        refine pure_ (i := 2) (N := some 32) (v := ?_) (a' := ?_) m8_3 rfl rfl (any_of HT_.out q8_82) (fun _ _ _ h => h) (Or.inl ⟨by rfl, ?_⟩) ?_ ?_
        rotate_left; · intro w'; go_simp; with_reducible rfl
        rotate_left; · simp only [Act.put, setIfInBounds_toArray, set_cons_zero, set_cons_succ, i64_w, i32_w]; rfl
        refine take_ (i := 0) (N := some 30) (v := ?_) (a' := ?_) m8_6 rfl rfl (take_ofW HT_.out HW_.out q8_82) (fun _ _ _ h => h) (Or.inl ⟨by rfl, ?_⟩) hHeld ?_ ?_
        rotate_left; · rintro w' ⟨s0, s1, s2, s3, s4, s5⟩; go_simp; with_reducible rfl
        rotate_left; · simp only [Act.put, setIfInBounds_toArray, set_cons_zero, set_cons_succ, i64_w, i32_w]; rfl
        refine one_ (i := 1) (N := some 31) m8_15 rfl rfl (one_of HT_.out q8_82) q8_90 (fun K hK => ?_)
        refine goes_ Try.func52 q8_82 rfl #[.agg #[.int .i64 a0_0, .int .i64 a0_1, .slice A0_2 l0_2.length c0_2]] (by rfl) rfl rfl q8_79 ?_
        with_reducible refine (grid_Right.calls kj5 a0_0 a0_1 _ _ l0_2 t261 _ ?side1 ?side2 A31.out).mono ?_
        (case side1 => repeat (first | exact (Kd.C_below HR0_2.out HB.out) | (with_reducible refine Kd.C_alloc ?_ _) | (with_reducible refine Kd.C_drewN ?_ _) | (with_reducible refine Kd.C_drew ?_)))
        (case side2 => exact HC0_2.out)
        rintro e w38 ⟨rfl, hb⟩
        refine ⟨_, rfl, ?_⟩
        have n0_ := A8_ (Kd.R_below q8_84 hb)
        have n1_ := A8_ (blk_below (g := gb248) (o := .cells #[.int .i64 a0_0, .int .i64 a0_1, .slice A0_2 l0_2.length c0_2] 75 (0, 0)) q8_78 hb)
        have n2_ := A8_ (blk_below (g := gb249) (o := .cells #[.int .i64 a1_0, .int .i64 a1_1, .slice A1_2 l1_2.length c1_2] 75 (0, 0)) q8_80 hb)
        have n3_ := A8_ (blk_below (g := gb250) (o := .cells #[.int .i64 a2_0, .int .i64 a2_1] 84 (0, 0)) q8_81 hb)
        have n4_ := A8_ (blk_below (g := gb259) (o := .cells #[.int .i64 t254, .int .i64 t255, v257] 112 (0, 0)) q8_86 hb)
        have n5_ := A8_ (below_step q8_83 hb)
        clear HO258; clear BK248; clear BK249; clear BK250; clear BK259; clear HB; have HO258 := n0_; have BK248 := n1_; have BK249 := n2_; have BK250 := n3_; have BK259 := n4_; have HB := n5_; clear n0_ n1_ n2_ n3_ n4_ n5_; (try clear hb); (try clear hb2); (try clear hk); (try clear hi)
        refine hK.out _ _ ⟨bc8_ BK248 0, bc8_ BK248 1, bc8_ BK248 2, bc8_ BK249 0, bc8_ BK249 1, bc8_ BK249 2⟩ (fun hHeld => ?_)
        clear hK K
        refine norm_ (a' := ?_) ?_ ?_
        rotate_left; · show Act.put _ (some 31) _ = _; simp only [Act.put, setIfInBounds_toArray, set_cons_zero, set_cons_succ, i64_w, i32_w]; rfl
        refine pure_ (i := 3) (N := some 33) (v := ?_) (a' := ?_) m8_17 rfl rfl (any_of HT_.out q8_82) (fun _ _ _ h => h) (Or.inl ⟨by rfl, ?_⟩) ?_ ?_
        rotate_left; · intro w'; go_simp; with_reducible rfl
        rotate_left; · simp only [Act.put, setIfInBounds_toArray, set_cons_zero, set_cons_succ, i64_w, i32_w]; rfl
        refine pure_ (i := 4) (N := some 34) (v := ?_) (a' := ?_) m8_20 rfl rfl (any_of HT_.out q8_82) (fun _ _ _ h => h) (Or.inl ⟨by rfl, ?_⟩) ?_ ?_
        rotate_left; · intro w'; go_simp; with_reducible rfl
        rotate_left; · simp only [Act.put, setIfInBounds_toArray, set_cons_zero, set_cons_succ, i64_w, i32_w]; rfl
        refine take_ (i := 5) (N := some 35) (v := ?_) (a' := ?_) m8_22 rfl rfl (take_ofW HT_.out HW_.out q8_82) (fun _ _ _ h => h) (Or.inl ⟨by rfl, ?_⟩) hHeld ?_ ?_
        rotate_left; · rintro w' ⟨s0, s1, s2, s3, s4, s5⟩; go_simp; with_reducible rfl
        rotate_left; · simp only [Act.put, setIfInBounds_toArray, set_cons_zero, set_cons_succ, i64_w, i32_w]; rfl
        refine take_ (i := 6) (N := some 36) (v := ?_) (a' := ?_) m8_25 rfl rfl (take_ofW HT_.out HW_.out q8_82) (fun _ _ _ h => h) (Or.inl ⟨by rfl, ?_⟩) hHeld ?_ ?_
        rotate_left; · rintro w' ⟨s0, s1, s2, s3, s4, s5⟩; go_simp; with_reducible rfl
        rotate_left; · simp only [Act.put, setIfInBounds_toArray, set_cons_zero, set_cons_succ, i64_w, i32_w]; rfl
        refine take_ (i := 8) (N := some 38) (v := ?_) (a' := ?_) m8_26 rfl rfl (take_ofW HT_.out HW_.out q8_82) (fun _ _ _ h => h) (Or.inl ⟨by rfl, ?_⟩) hHeld ?_ ?_
        rotate_left; · rintro w' ⟨s0, s1, s2, s3, s4, s5⟩; go_simp; with_reducible rfl
        rotate_left; · simp only [Act.put, setIfInBounds_toArray, set_cons_zero, set_cons_succ, i64_w, i32_w]; rfl
        refine take_ (i := 9) (N := some 39) (v := ?_) (a' := ?_) m8_28 rfl rfl (take_ofW HT_.out HW_.out q8_82) (fun _ _ _ h => h) (Or.inl ⟨by rfl, ?_⟩) hHeld ?_ ?_
        rotate_left; · rintro w' ⟨s0, s1, s2, s3, s4, s5⟩; go_simp; with_reducible rfl
        rotate_left; · simp only [Act.put, setIfInBounds_toArray, set_cons_zero, set_cons_succ, i64_w, i32_w]; rfl
        refine one_ (i := 7) (N := some 37) m8_36 rfl rfl (one_of HT_.out q8_82) q8_90 (fun K hK => ?_)
        refine goes_ Try.func53 q8_82 rfl #[.agg #[.int .i64 a0_0, .int .i64 a0_1, .slice A0_2 l0_2.length c0_2], .agg #[.int .i64 a1_0, .int .i64 a1_1, .slice A1_2 l1_2.length c1_2]] (by rfl) rfl rfl q8_79 ?_
        with_reducible refine (grid_Same.calls kj5 a0_0 a0_1 _ _ l0_2 a1_0 a1_1 _ _ l1_2 t262 _ ?side1 ?side2 ?side3 ?side4 A35.out).mono ?_
        (case side1 => repeat (first | exact (Kd.C_below HR0_2.out HB.out) | (with_reducible refine Kd.C_alloc ?_ _) | (with_reducible refine Kd.C_drewN ?_ _) | (with_reducible refine Kd.C_drew ?_)))
        (case side2 => exact HC0_2.out)
        (case side3 => repeat (first | exact (Kd.C_below HR1_2.out HB.out) | (with_reducible refine Kd.C_alloc ?_ _) | (with_reducible refine Kd.C_drewN ?_ _) | (with_reducible refine Kd.C_drew ?_)))
        (case side4 => exact HC1_2.out)
        rintro e w39 ⟨rfl, hb⟩
        refine ⟨_, rfl, ?_⟩
        have n0_ := A8_ (Kd.R_below q8_84 hb)
        have n1_ := A8_ (blk_below (g := gb248) (o := .cells #[.int .i64 a0_0, .int .i64 a0_1, .slice A0_2 l0_2.length c0_2] 75 (0, 0)) q8_78 hb)
        have n2_ := A8_ (blk_below (g := gb249) (o := .cells #[.int .i64 a1_0, .int .i64 a1_1, .slice A1_2 l1_2.length c1_2] 75 (0, 0)) q8_80 hb)
        have n3_ := A8_ (blk_below (g := gb250) (o := .cells #[.int .i64 a2_0, .int .i64 a2_1] 84 (0, 0)) q8_81 hb)
        have n4_ := A8_ (blk_below (g := gb259) (o := .cells #[.int .i64 t254, .int .i64 t255, v257] 112 (0, 0)) q8_86 hb)
        have n5_ := A8_ (below_step q8_83 hb)
        clear HO258; clear BK248; clear BK249; clear BK250; clear BK259; clear HB; have HO258 := n0_; have BK248 := n1_; have BK249 := n2_; have BK250 := n3_; have BK259 := n4_; have HB := n5_; clear n0_ n1_ n2_ n3_ n4_ n5_; (try clear hb); (try clear hb2); (try clear hk); (try clear hi)
        refine hK.out _ _ ⟨bc8_ BK248 0, bc8_ BK248 1, bc8_ BK248 2, bc8_ BK249 0, bc8_ BK249 1, bc8_ BK249 2⟩ (fun hHeld => ?_)
        clear hK K
        refine norm_ (a' := ?_) ?_ ?_
        rotate_left; · show Act.put _ (some 37) _ = _; simp only [Act.put, setIfInBounds_toArray, set_cons_zero, set_cons_succ, i64_w, i32_w]; rfl
        refine one_ (i := 10) (N := some 40) m8_39 rfl rfl (one_of HT_.out q8_82) q8_90 (fun K hK => ?_)
        refine goes_ Try.func51 q8_82 rfl #[.agg #[.int .i64 a0_0, .int .i64 a0_1, .slice A0_2 l0_2.length c0_2], .agg #[.int .i64 a1_0, .int .i64 a1_1, .slice A1_2 l1_2.length c1_2]] (by rfl) rfl rfl q8_79 ?_
        with_reducible refine (batonref10_Same.calls kj5 a0_0 a0_1 _ _ l0_2 a1_0 a1_1 _ _ l1_2 t263 _ ?side1 ?side2 ?side3 ?side4 A36.out).mono ?_
        (case side1 => repeat (first | exact (Kd.C_below HR0_2.out HB.out) | (with_reducible refine Kd.C_alloc ?_ _) | (with_reducible refine Kd.C_drewN ?_ _) | (with_reducible refine Kd.C_drew ?_)))
        (case side2 => exact HC0_2.out)
        (case side3 => repeat (first | exact (Kd.C_below HR1_2.out HB.out) | (with_reducible refine Kd.C_alloc ?_ _) | (with_reducible refine Kd.C_drewN ?_ _) | (with_reducible refine Kd.C_drew ?_)))
        (case side4 => exact HC1_2.out)
        rintro e w40 ⟨rfl, hb⟩
        refine ⟨_, rfl, ?_⟩
        have n0_ := A8_ (Kd.R_below q8_84 hb)
        have n1_ := A8_ (blk_below (g := gb248) (o := .cells #[.int .i64 a0_0, .int .i64 a0_1, .slice A0_2 l0_2.length c0_2] 75 (0, 0)) q8_78 hb)
        have n2_ := A8_ (blk_below (g := gb249) (o := .cells #[.int .i64 a1_0, .int .i64 a1_1, .slice A1_2 l1_2.length c1_2] 75 (0, 0)) q8_80 hb)
        have n3_ := A8_ (blk_below (g := gb250) (o := .cells #[.int .i64 a2_0, .int .i64 a2_1] 84 (0, 0)) q8_81 hb)
        have n4_ := A8_ (blk_below (g := gb259) (o := .cells #[.int .i64 t254, .int .i64 t255, v257] 112 (0, 0)) q8_86 hb)
        have n5_ := A8_ (below_step q8_83 hb)
        clear HO258; clear BK248; clear BK249; clear BK250; clear BK259; clear HB; have HO258 := n0_; have BK248 := n1_; have BK249 := n2_; have BK250 := n3_; have BK259 := n4_; have HB := n5_; clear n0_ n1_ n2_ n3_ n4_ n5_; (try clear hb); (try clear hb2); (try clear hk); (try clear hi)
        refine hK.out _ _ ⟨bc8_ BK248 0, bc8_ BK248 1, bc8_ BK248 2, bc8_ BK249 0, bc8_ BK249 1, bc8_ BK249 2⟩ (fun hHeld => ?_)
        clear hK K
        refine norm_ (a' := ?_) ?_ ?_
        rotate_left; · show Act.put _ (some 40) _ = _; simp only [Act.put, setIfInBounds_toArray, set_cons_zero, set_cons_succ, i64_w, i32_w]; rfl
        refine pure_ (i := 11) (N := some 41) (v := ?_) (a' := ?_) m8_42 rfl rfl (any_of HT_.out q8_82) (fun _ _ _ h => h) (Or.inl ⟨by rfl, ?_⟩) ?_ ?_
        rotate_left; · intro w'; go_simp; with_reducible rfl
        rotate_left; · simp only [Act.put, setIfInBounds_toArray, set_cons_zero, set_cons_succ, i64_w, i32_w]; rfl
        refine pure_ (i := 12) (N := some 42) (v := ?_) (a' := ?_) m8_93 rfl rfl (any_of HT_.out q8_82) (fun _ _ _ h => h) (Or.inl ⟨by rfl, ?_⟩) ?_ ?_
        rotate_left; · intro w'; go_simp; with_reducible rfl
        rotate_left; · simp only [Act.put, setIfInBounds_toArray, set_cons_zero, set_cons_succ, i64_w, i32_w]; rfl
        refine done_ (done_of HT_.out q8_82) ?_
        try go_wp2
        go_meet
        case rel => exact ⟨_, ((t262 != t263)), q8_91, H', ⟨by have := HJ5.out; first | omega | exact Nat.le_refl _⟩, ⟨by (with_reducible repeat (first | apply Kd.R_alloc | apply Kd.R_drewN | apply Kd.R_drew)); exact HO258.out⟩, ⟨by (with_reducible repeat (first | refine blk_drewN ?_ _ | refine blk_drew ?_ | refine blk_alloc ?_ _)); exact BK248.out⟩, ⟨by (with_reducible repeat (first | refine blk_drewN ?_ _ | refine blk_drew ?_ | refine blk_alloc ?_ _)); exact BK249.out⟩, ⟨by (with_reducible repeat (first | refine blk_drewN ?_ _ | refine blk_drew ?_ | refine blk_alloc ?_ _)); exact BK250.out⟩, ⟨by (with_reducible repeat (first | refine blk_drewN ?_ _ | refine blk_drew ?_ | refine blk_alloc ?_ _)); exact BK259.out⟩, ⟨by repeat (first | (with_reducible first | exact HB.out | apply below_alloc | apply pw_below_drewN | apply below_drew1 | refine below_set ?_ GE248.out | refine below_set ?_ GE249.out | refine below_set ?_ GE250.out | refine below_set ?_ GE259.out) | exact HB.out)⟩⟩
      case rest => as_aux_lemma =>
       clear HC24
       try clear c1
       try clear c2
       try clear p2
       try clear c3
       try clear c4
       try clear c5
       try clear c11
       try clear c11b0
       try clear c11b1
       try clear c11b2
       try clear c12
       try clear c13
       try clear c15
       try clear c16
       try clear c18
       try clear c20
       try clear c23
       try clear c25
       try clear c26
       try clear c32
       try clear c32b0
       try clear c32b1
       try clear c32b2
       try clear hcz14_0
       try clear hcz14_1
       try clear hcz14_2
       try clear hcz17_0
       try clear hcz17_1
       try clear hcz17_2
       try clear hcz19_0
       try clear hcz19_1
       try clear hcz19_2
       try clear hcz27_0
       try clear hcz27_1
       try clear hcz27_2
       try clear hcz29_0
       try clear hcz29_1
       try clear hcz29_2
       try clear hfz14_0
       try clear hfz14_1
       try clear hfz14_2
       try clear hfz17_0
       try clear hfz17_1
       try clear hfz17_2
       try clear hfz19_0
       try clear hfz19_1
       try clear hfz19_2
       try clear hfz27_0
       try clear hfz27_1
       try clear hfz27_2
       try clear hfz29_0
       try clear hfz29_1
       try clear hfz29_2
       try clear p2
       obtain ⟨kq, x42_23, rfl, HA, HJ23, HO_260002, BK248, BK249, BK250, BK259, HB⟩ := hcut
       cases kq with
       | zero => exact absurd HA.out (by simp [batonlaw10_GridTells.j1])
       | succ kj23 =>
        have H := HA.out
        clear HA
        simp only [batonlaw10_GridTells.j1] at H
        by_cases c41 : x42_23 = true
        ·subst c41
         have H1 : (some false) = some r := by rw [if_pos rfl] at H; exact H
         clear H; have H := H1; clear H1
         obtain rfl := Option.some.inj H
         go_wp2
         go_ret
         exact ⟨by first | rfl | (simp [errW_none, errW_some] <;> rfl) | (simp [*, errW_none, errW_some] <;> rfl), by repeat (first | (with_reducible first | exact HB.out | apply below_alloc | apply pw_below_drewN | apply below_drew1 | refine below_set ?_ GE248.out | refine below_set ?_ GE249.out | refine below_set ?_ GE250.out | refine below_set ?_ GE259.out) | exact HB.out)⟩
        ·replace c41 := Bool.eq_false_iff.mpr c41
         subst c41
         have H1 : (if t252 = true then (if t260 = 0 then ((grid_Board_Grid.f t254 t255 t256).bind fun bt264 => ((grid_Same.f kj23 bt264.1 bt264.2.1 bt264.2.2.1 a0_0 a0_1 l0_2).bind fun t274 => (if t274 = true then ((grid_Board_Rows.f bt264.2.2.2.1 bt264.2.2.2.2.1 bt264.2.2.2.2.2).bind fun bt275 => (if bt275.1 = a0_0 then ((grid_Board_Cols.f bt275.2.1 bt275.2.2.1 bt275.2.2.2).bind fun bt281 => (batonlaw10_GridTells.j2 kj23 (bt281.1 != a0_1) a0_0 a0_1 l0_2 a2_0 a2_1 bt281.2.1 bt281.2.2.1 bt281.2.2.2)) else (batonlaw10_GridTells.j2 kj23 true a0_0 a0_1 l0_2 a2_0 a2_1 bt275.2.1 bt275.2.2.1 bt275.2.2.2))) else (batonlaw10_GridTells.j2 kj23 true a0_0 a0_1 l0_2 a2_0 a2_1 bt264.2.2.2.1 bt264.2.2.2.2.1 bt264.2.2.2.2.2)))) else (batonlaw10_GridTells.j2 kj23 true a0_0 a0_1 l0_2 a2_0 a2_1 t254 t255 t256)) else (some false)) = some r := by rw [if_neg (show ¬ (false = true) by decide)] at H; exact H
         clear H; have H := H1; clear H1
         by_cases c42 : t252 = true
         ·subst c42
          have H1 : (if t260 = 0 then ((grid_Board_Grid.f t254 t255 t256).bind fun bt264 => ((grid_Same.f kj23 bt264.1 bt264.2.1 bt264.2.2.1 a0_0 a0_1 l0_2).bind fun t274 => (if t274 = true then ((grid_Board_Rows.f bt264.2.2.2.1 bt264.2.2.2.2.1 bt264.2.2.2.2.2).bind fun bt275 => (if bt275.1 = a0_0 then ((grid_Board_Cols.f bt275.2.1 bt275.2.2.1 bt275.2.2.2).bind fun bt281 => (batonlaw10_GridTells.j2 kj23 (bt281.1 != a0_1) a0_0 a0_1 l0_2 a2_0 a2_1 bt281.2.1 bt281.2.2.1 bt281.2.2.2)) else (batonlaw10_GridTells.j2 kj23 true a0_0 a0_1 l0_2 a2_0 a2_1 bt275.2.1 bt275.2.2.1 bt275.2.2.2))) else (batonlaw10_GridTells.j2 kj23 true a0_0 a0_1 l0_2 a2_0 a2_1 bt264.2.2.2.1 bt264.2.2.2.2.1 bt264.2.2.2.2.2)))) else (batonlaw10_GridTells.j2 kj23 true a0_0 a0_1 l0_2 a2_0 a2_1 t254 t255 t256)) = some r := by rw [if_pos rfl] at H; exact H
          clear H; have H := H1; clear H1
          have HC43 := A8_ H
          clear H
          go_upto_region 11 with (fail)
          go_cut [77] (fun v77 wc => ∃ (kq : Nat) (x77_42 : Bool) (x260000_42 : Int) (x260001_42 : Int) (x260002_42 : List (S53)) (u260002 : Value), v77 = .bool x77_42 /\ Aside0 (batonlaw10_GridTells.j2 kq x77_42 a0_0 a0_1 l0_2 a2_0 a2_1 x260000_42 x260001_42 x260002_42 = some r) /\ Aside0 (kq <= kj23) /\ Aside0 (Kd.R k53 53 wc w.heap.size (fun _ => True) u260002 x260002_42) /\ Aside0 (wc.heap[gb248]? = some (.cells #[.int .i64 a0_0, .int .i64 a0_1, (.slice A0_2 l0_2.length c0_2)] 75 (0, 0))) /\ Aside0 (wc.heap[gb249]? = some (.cells #[.int .i64 a1_0, .int .i64 a1_1, (.slice A1_2 l1_2.length c1_2)] 75 (0, 0))) /\ Aside0 (wc.heap[gb250]? = some (.cells #[.int .i64 a2_0, .int .i64 a2_1] 84 (0, 0))) /\ Aside0 (wc.heap[gb259]? = some (.cells #[.int .i64 x260000_42, .int .i64 x260001_42, u260002] 112 (0, 0))) /\ Aside0 (Below w.heap.size w wc))
          case first => as_aux_lemma =>
           have H := HC43.out
           clear HC43
           by_cases c44 : t260 = 0
           ·rw [if_pos c44] at H
            have c44b0 : (t260 == 0) = true := beq_iff_eq.mpr c44
            have c44b1 : (t260 != 0) = false := bne_eq_false_iff_eq.mpr c44
            clear c44
            (first | rw [c44b0] | (simp only [i64_w, i32_w]; rw [c44b0]) | rw [c44b1] | rw [c44b2] | skip)
            replace H := Option.bind_eq_some_iff.mp H
            obtain ⟨⟨t264, t265, t266, t269, t270, t271⟩, A450, H⟩ := H
            replace H : ((grid_Same.f kj23 t264 t265 t266 a0_0 a0_1 l0_2).bind fun t274 => (if t274 = true then ((grid_Board_Rows.f t269 t270 t271).bind fun bt275 => (if bt275.1 = a0_0 then ((grid_Board_Cols.f bt275.2.1 bt275.2.2.1 bt275.2.2.2).bind fun bt281 => (batonlaw10_GridTells.j2 kj23 (bt281.1 != a0_1) a0_0 a0_1 l0_2 a2_0 a2_1 bt281.2.1 bt281.2.2.1 bt281.2.2.2)) else (batonlaw10_GridTells.j2 kj23 true a0_0 a0_1 l0_2 a2_0 a2_1 bt275.2.1 bt275.2.2.1 bt275.2.2.2))) else (batonlaw10_GridTells.j2 kj23 true a0_0 a0_1 l0_2 a2_0 a2_1 t269 t270 t271))) = some r := H
            have A45 := A8_ A450
            clear A450
            replace H := Option.bind_eq_some_iff.mp H
            obtain ⟨t274, A460, H⟩ := H
            replace H : (if t274 = true then ((grid_Board_Rows.f t269 t270 t271).bind fun bt275 => (if bt275.1 = a0_0 then ((grid_Board_Cols.f bt275.2.1 bt275.2.2.1 bt275.2.2.2).bind fun bt281 => (batonlaw10_GridTells.j2 kj23 (bt281.1 != a0_1) a0_0 a0_1 l0_2 a2_0 a2_1 bt281.2.1 bt281.2.2.1 bt281.2.2.2)) else (batonlaw10_GridTells.j2 kj23 true a0_0 a0_1 l0_2 a2_0 a2_1 bt275.2.1 bt275.2.2.1 bt275.2.2.2))) else (batonlaw10_GridTells.j2 kj23 true a0_0 a0_1 l0_2 a2_0 a2_1 t269 t270 t271)) = some r := H
            have A46 := A8_ A460
            clear A460
            by_cases c47 : t274 = true
            ·subst c47
             have H1 : ((grid_Board_Rows.f t269 t270 t271).bind fun bt275 => (if bt275.1 = a0_0 then ((grid_Board_Cols.f bt275.2.1 bt275.2.2.1 bt275.2.2.2).bind fun bt281 => (batonlaw10_GridTells.j2 kj23 (bt281.1 != a0_1) a0_0 a0_1 l0_2 a2_0 a2_1 bt281.2.1 bt281.2.2.1 bt281.2.2.2)) else (batonlaw10_GridTells.j2 kj23 true a0_0 a0_1 l0_2 a2_0 a2_1 bt275.2.1 bt275.2.2.1 bt275.2.2.2))) = some r := by rw [if_pos rfl] at H; exact H
             clear H; have H := H1; clear H1
             replace H := Option.bind_eq_some_iff.mp H
             obtain ⟨⟨t275, t276, t277, t278⟩, A480, H⟩ := H
             replace H : (if t275 = a0_0 then ((grid_Board_Cols.f t276 t277 t278).bind fun bt281 => (batonlaw10_GridTells.j2 kj23 (bt281.1 != a0_1) a0_0 a0_1 l0_2 a2_0 a2_1 bt281.2.1 bt281.2.2.1 bt281.2.2.2)) else (batonlaw10_GridTells.j2 kj23 true a0_0 a0_1 l0_2 a2_0 a2_1 t276 t277 t278)) = some r := H
             have A48 := A8_ A480
             clear A480
             by_cases c49 : t275 = a0_0
             ·rw [if_pos c49] at H
              have c49b0 : (t275 == a0_0) = true := beq_iff_eq.mpr c49
              have c49b1 : (t275 != a0_0) = false := bne_eq_false_iff_eq.mpr c49
              clear c49
              replace H := Option.bind_eq_some_iff.mp H
              obtain ⟨⟨t281, t282, t283, t284⟩, A500, H⟩ := H
              replace H : (batonlaw10_GridTells.j2 kj23 (t281 != a0_1) a0_0 a0_1 l0_2 a2_0 a2_1 t282 t283 t284) = some r := H
              have A50 := A8_ A500
              clear A500
              have H' := A8_ H
              clear H
              try go_wp2
              have n0_ := A8_ (Kd.R_drew HO_260002.out)
              have n1_ := A8_ (blk_drew BK248.out)
              have n2_ := A8_ (blk_drew BK249.out)
              have n3_ := A8_ (blk_drew BK250.out)
              have n4_ := A8_ (blk_drew BK259.out)
              have n5_ := A8_ (below_drew1 HB.out)
              clear HO_260002; clear BK248; clear BK249; clear BK250; clear BK259; clear HB; have HO_260002 := n0_; have BK248 := n1_; have BK249 := n2_; have BK250 := n3_; have BK259 := n4_; have HB := n5_; clear n0_ n1_ n2_ n3_ n4_ n5_
              obtain ⟨Ao52, co52, eo52⟩ := Kd.R_slice HO_260002.out
              (first | subst eo52 | (injection eo52 with f1_ f2_ f3_; have f4_ := f1_.symm; have f5_ := f3_.symm; clear f1_ f2_ f3_; subst f4_; subst f5_))
              refine start_ (n := 27) (S := fun w' => w'.cell? ⟨gb248, 0, none⟩ = some (.int .i64 a0_0) /\ w'.cell? ⟨gb248, 1, none⟩ = some (.int .i64 a0_1) /\ w'.cell? ⟨gb248, 2, none⟩ = some (.slice A0_2 l0_2.length c0_2)) (ds := []) m8_1 q8_82 rfl rfl ⟨bc8_ BK248 0, bc8_ BK248 1, bc8_ BK248 2⟩ (fun hHeld => ?_); refine with_tabW batonlaw10_GridTells.tab11 batonlaw10_GridTells.bits11 (fun HT_ HW_ => ?_)
              generalize wc.drew = w51 at HO_260002 BK248 BK249 BK250 BK259 HB hHeld ⊢
              refine pure_ (i := 0) (N := some 51) (v := ?_) (a' := ?_) m8_5 rfl rfl (any_of HT_.out q8_82) (fun _ _ _ h => h) (Or.inl ⟨by rfl, ?_⟩) ?_ ?_
              rotate_left; · intro w'; go_simp; with_reducible rfl
              rotate_left; · simp only [Act.put, setIfInBounds_toArray, set_cons_zero, set_cons_succ, i64_w, i32_w]; rfl
              refine pure_ (i := 1) (N := some 52) (v := ?_) (a' := ?_) m8_8 rfl rfl (any_of HT_.out q8_82) (fun _ _ _ h => h) (Or.inl ⟨by rfl, ?_⟩) ?_ ?_
              rotate_left; · intro w'; go_simp; with_reducible rfl
              rotate_left; · simp only [Act.put, setIfInBounds_toArray, set_cons_zero, set_cons_succ, i64_w, i32_w]; rfl
              refine pure_ (i := 2) (N := some 53) (v := ?_) (a' := ?_) m8_14 rfl rfl (any_of HT_.out q8_82) (fun _ _ _ h => h) (Or.inl ⟨by rfl, ?_⟩) ?_ ?_
              rotate_left; · intro w'; go_simp; with_reducible rfl
              rotate_left; · simp only [Act.put, setIfInBounds_toArray, set_cons_zero, set_cons_succ, i64_w, i32_w]; rfl
              refine pure_ (i := 3) (N := some 54) (v := ?_) (a' := ?_) m8_16 rfl rfl (any_of HT_.out q8_82) (fun _ _ _ h => h) (Or.inl ⟨by rfl, ?_⟩) ?_ ?_
              rotate_left; · intro w'; go_simp; with_reducible rfl
              rotate_left; · simp only [Act.put, setIfInBounds_toArray, set_cons_zero, set_cons_succ, i64_w, i32_w]; rfl
              refine pure_ (i := 4) (N := some 55) (v := ?_) (a' := ?_) m8_19 rfl rfl (any_of HT_.out q8_82) (fun _ _ _ h => h) (Or.inl ⟨by rfl, ?_⟩) ?_ ?_
              rotate_left; · intro w'; go_simp; with_reducible rfl
              rotate_left; · simp only [Act.put, setIfInBounds_toArray, set_cons_zero, set_cons_succ, i64_w, i32_w]; rfl
              refine pure_ (i := 5) (N := some 56) (v := ?_) (a' := ?_) m8_21 rfl rfl (any_of HT_.out q8_82) (fun _ _ _ h => h) (Or.inl ⟨by rfl, ?_⟩) ?_ ?_
              rotate_left; · intro w'; go_simp; with_reducible rfl
              rotate_left; · simp only [Act.put, setIfInBounds_toArray, set_cons_zero, set_cons_succ, i64_w, i32_w]; rfl
              refine pure_ (i := 6) (N := some 57) (v := ?_) (a' := ?_) m8_24 rfl rfl (any_of HT_.out q8_82) (fun _ _ _ h => h) (Or.inl ⟨by rfl, ?_⟩) ?_ ?_
              rotate_left; · intro w'; go_simp; with_reducible rfl
              rotate_left; · simp only [Act.put, setIfInBounds_toArray, set_cons_zero, set_cons_succ, i64_w, i32_w]; rfl
              refine pure_ (i := 7) (N := some 58) (v := ?_) (a' := ?_) m8_29 rfl rfl (any_of HT_.out q8_82) (fun _ _ _ h => h) (Or.inl ⟨by rfl, ?_⟩) ?_ ?_
              rotate_left; · intro w'; go_simp; with_reducible rfl
              rotate_left; · simp only [Act.put, setIfInBounds_toArray, set_cons_zero, set_cons_succ, i64_w, i32_w]; rfl
              refine take_ (i := 9) (N := some 60) (v := ?_) (a' := ?_) m8_31 rfl rfl (take_ofW HT_.out HW_.out q8_82) (fun _ _ _ h => h) (Or.inl ⟨by rfl, ?_⟩) hHeld ?_ ?_
              rotate_left; · rintro w' ⟨s0, s1, s2⟩; go_simp; with_reducible rfl
              rotate_left; · simp only [Act.put, setIfInBounds_toArray, set_cons_zero, set_cons_succ, i64_w, i32_w]; rfl
              refine one_ (i := 8) (N := some 59) m8_35 rfl rfl (one_of HT_.out q8_82) q8_90 (fun K hK => ?_)
              refine goes_ Try.func49 q8_82 rfl #[.pointer (some ⟨gb259, 0, none⟩)] (by rfl) rfl rfl q8_79 ?_
              with_reducible refine (grid_Board_Grid.calls gb259 t254 t255 (fun k_ => some k_ = (.slice Ao52 t256.length co52 : Value).ownBlock) (.slice Ao52 t256.length co52) t256 t264 t265 t266 t269 t270 t271 w _ ?side2 ?side3 ?side1 ?side4 A45.out).mono ?_
              (case side1 => repeat (first | (with_reducible first | exact HB.out | apply below_alloc | apply pw_below_drewN | apply below_drew1 | refine below_set ?_ GE248.out | refine below_set ?_ GE249.out | refine below_set ?_ GE250.out | refine below_set ?_ GE259.out) | exact HB.out))
              (case side2 => (with_reducible repeat (first | refine blk_drewN ?_ _ | refine blk_drew ?_ | refine blk_alloc ?_ _)); exact BK259.out)
              (case side3 => exact GE259.out)
              (case side4 => exact Kd.R_tight rfl HO_260002.out)
              rintro e w53 ⟨v267, v272, rfl, ho0, ho1, hbx, hb, hkp⟩
              refine ⟨_, rfl, ?_⟩
              have n0_ := A8_ (blk_kept q8_78 hkp (fun hs_ => Or.elim hs_ (fun hs_ => (fun e_ => (Kd.R_ne HO_260002.out BK248.out q8_90) e_) hs_) (fun e_ => NB248_259.out e_)))
              have n1_ := A8_ (blk_kept q8_80 hkp (fun hs_ => Or.elim hs_ (fun hs_ => (fun e_ => (Kd.R_ne HO_260002.out BK249.out q8_90) e_) hs_) (fun e_ => NB249_259.out e_)))
              have n2_ := A8_ (blk_kept q8_81 hkp (fun hs_ => Or.elim hs_ (fun hs_ => (fun e_ => (Kd.R_ne HO_260002.out BK250.out q8_90) e_) hs_) (fun e_ => NB250_259.out e_)))
              have n3_ := A8_ (hbx)
              have n4_ := A8_ (Kd.R_mono (ok' := fun k_ => some k_ ≠ (v272 : Value).ownBlock) ho0 (fun k_ hk_ => hk_.2))
              have n5_ := A8_ (Kd.R_mono (ok' := fun k_ => some k_ ≠ (v267 : Value).ownBlock) ho1 (fun k_ hk_ => hk_.2))
              have n6_ := A8_ (hb)
              clear BK248; clear BK249; clear BK250; clear BK259; clear HB; clear HO_260002; have BK248 := n0_; have BK249 := n1_; have BK250 := n2_; have BK259 := n3_; have HO268 := n4_; have HO273 := n5_; have HB := n6_; clear n0_ n1_ n2_ n3_ n4_ n5_ n6_; (try clear hbx); (try clear hbn); (try clear hgn); (try clear hb); (try clear hkp); (try clear ho0); (try clear ho1)
              obtain ⟨Ao54, co54, eo54⟩ := Kd.R_slice HO268.out
              (first | subst eo54 | (injection eo54 with f1_ f2_ f3_; have f4_ := f1_.symm; have f5_ := f3_.symm; clear f1_ f2_ f3_; subst f4_; subst f5_))
              refine hK.out _ _ ⟨bc8_ BK248 0, bc8_ BK248 1, bc8_ BK248 2⟩ (fun hHeld => ?_)
              clear hK K
              refine norm_ (a' := ?_) ?_ ?_
              rotate_left; · show Act.put _ (some 59) _ = _; simp only [Act.put, setIfInBounds_toArray, set_cons_zero, set_cons_succ, i64_w, i32_w]; rfl
              refine one_ (i := 10) (N := some 61) m8_37 rfl rfl (one_of HT_.out q8_82) q8_90 (fun K hK => ?_)
              refine goes_ Try.func53 q8_82 rfl #[.agg #[.int .i64 t264, .int .i64 t265, .slice Ao54 t266.length co54], .agg #[.int .i64 a0_0, .int .i64 a0_1, .slice A0_2 l0_2.length c0_2]] (by rfl) rfl rfl q8_79 ?_
              with_reducible refine (grid_Same.calls kj23 t264 t265 _ _ t266 a0_0 a0_1 _ _ l0_2 true _ ?side1 ?side2 ?side3 ?side4 A46.out).mono ?_
              (case side1 => repeat (first | exact (Kd.R_reads' HO268.out).2.2 | (with_reducible refine Kd.C_alloc ?_ _) | (with_reducible refine Kd.C_drewN ?_ _) | (with_reducible refine Kd.C_drew ?_)))
              (case side2 => exact (Kd.R_reads' HO268.out).2.1)
              (case side3 => repeat (first | exact (Kd.C_below HR0_2.out HB.out) | (with_reducible refine Kd.C_alloc ?_ _) | (with_reducible refine Kd.C_drewN ?_ _) | (with_reducible refine Kd.C_drew ?_)))
              (case side4 => exact HC0_2.out)
              rintro e w55 ⟨rfl, hb⟩
              refine ⟨_, rfl, ?_⟩
              have n0_ := A8_ (Kd.R_below q8_89 hb)
              have n1_ := A8_ (Kd.R_below q8_94 hb)
              have n2_ := A8_ (blk_below (g := gb248) (o := .cells #[.int .i64 a0_0, .int .i64 a0_1, .slice A0_2 l0_2.length c0_2] 75 (0, 0)) q8_78 hb)
              have n3_ := A8_ (blk_below (g := gb249) (o := .cells #[.int .i64 a1_0, .int .i64 a1_1, .slice A1_2 l1_2.length c1_2] 75 (0, 0)) q8_80 hb)
              have n4_ := A8_ (blk_below (g := gb250) (o := .cells #[.int .i64 a2_0, .int .i64 a2_1] 84 (0, 0)) q8_81 hb)
              have n5_ := A8_ (blk_below (g := gb259) (o := .cells #[.int .i64 t269, .int .i64 t270, v272] 112 (0, 0)) q8_86 hb)
              have n6_ := A8_ (below_step q8_83 hb)
              clear HO268; clear HO273; clear BK248; clear BK249; clear BK250; clear BK259; clear HB; have HO268 := n0_; have HO273 := n1_; have BK248 := n2_; have BK249 := n3_; have BK250 := n4_; have BK259 := n5_; have HB := n6_; clear n0_ n1_ n2_ n3_ n4_ n5_ n6_; (try clear hb); (try clear hb2); (try clear hk); (try clear hi)
              obtain ⟨Ao56, co56, eo56⟩ := Kd.R_slice HO273.out
              (first | subst eo56 | (injection eo56 with f1_ f2_ f3_; have f4_ := f1_.symm; have f5_ := f3_.symm; clear f1_ f2_ f3_; subst f4_; subst f5_))
              refine hK.out _ _ ⟨bc8_ BK248 0, bc8_ BK248 1, bc8_ BK248 2⟩ (fun hHeld => ?_)
              clear hK K
              refine norm_ (a' := ?_) ?_ ?_
              rotate_left; · show Act.put _ (some 61) _ = _; simp only [Act.put, setIfInBounds_toArray, set_cons_zero, set_cons_succ, i64_w, i32_w]; rfl
              refine pure_ (i := 11) (N := some 62) (v := ?_) (a' := ?_) m8_40 rfl rfl (any_of HT_.out q8_82) (fun _ _ _ h => h) (Or.inl ⟨by rfl, ?_⟩) ?_ ?_
              rotate_left; · intro w'; go_simp; with_reducible rfl
              rotate_left; · simp only [Act.put, setIfInBounds_toArray, set_cons_zero, set_cons_succ, i64_w, i32_w]; rfl
              refine pure_ (i := 12) (N := some 63) (v := ?_) (a' := ?_) m8_43 rfl rfl (any_of HT_.out q8_82) (fun _ _ _ h => h) (Or.inl ⟨by rfl, ?_⟩) ?_ ?_
              rotate_left; · intro w'; go_simp; with_reducible rfl
              rotate_left; · simp only [Act.put, setIfInBounds_toArray, set_cons_zero, set_cons_succ, i64_w, i32_w]; rfl
              refine pure_ (i := 13) (N := some 64) (v := ?_) (a' := ?_) m8_45 rfl rfl (any_of HT_.out q8_82) (fun _ _ _ h => h) (Or.inl ⟨by rfl, ?_⟩) ?_ ?_
              rotate_left; · intro w'; go_simp; with_reducible rfl
              rotate_left; · simp only [Act.put, setIfInBounds_toArray, set_cons_zero, set_cons_succ, i64_w, i32_w]; rfl
              refine pure_ (i := 14) (N := some 65) (v := ?_) (a' := ?_) m8_47 rfl rfl (any_of HT_.out q8_82) (fun _ _ _ h => h) (Or.inl ⟨by rfl, ?_⟩) ?_ ?_
              rotate_left; · intro w'; go_simp; with_reducible rfl
              rotate_left; · simp only [Act.put, setIfInBounds_toArray, set_cons_zero, set_cons_succ, i64_w, i32_w]; rfl
              refine pure_ (i := 16) (N := some 67) (v := ?_) (a' := ?_) m8_48 rfl rfl (any_of HT_.out q8_82) (fun _ _ _ h => h) (Or.inl ⟨by rfl, ?_⟩) ?_ ?_
              rotate_left; · intro w'; go_simp; with_reducible rfl
              rotate_left; · simp only [Act.put, setIfInBounds_toArray, set_cons_zero, set_cons_succ, i64_w, i32_w]; rfl
              refine take_ (i := 17) (N := some 68) (v := ?_) (a' := ?_) m8_49 rfl rfl (take_ofW HT_.out HW_.out q8_82) (fun _ _ _ h => h) (Or.inl ⟨by rfl, ?_⟩) hHeld ?_ ?_
              rotate_left; · rintro w' ⟨s0, s1, s2⟩; go_simp; with_reducible rfl
              rotate_left; · simp only [Act.put, setIfInBounds_toArray, set_cons_zero, set_cons_succ, i64_w, i32_w]; rfl
              refine one_ (i := 15) (N := some 66) m8_55 rfl rfl (one_of HT_.out q8_82) q8_90 (fun K hK => ?_)
              refine goes_ Try.func54 q8_82 rfl #[.pointer (some ⟨gb259, 0, none⟩)] (by rfl) rfl rfl q8_79 ?_
              with_reducible refine (grid_Board_Rows.calls gb259 t269 t270 (fun k_ => some k_ = (.slice Ao56 t271.length co56 : Value).ownBlock) (.slice Ao56 t271.length co56) t271 t275 t276 t277 t278 w _ ?side2 ?side3 ?side1 ?side4 A48.out).mono ?_
              (case side1 => repeat (first | (with_reducible first | exact HB.out | apply below_alloc | apply pw_below_drewN | apply below_drew1 | refine below_set ?_ GE248.out | refine below_set ?_ GE249.out | refine below_set ?_ GE250.out | refine below_set ?_ GE259.out) | exact HB.out))
              (case side2 => (with_reducible repeat (first | refine blk_drewN ?_ _ | refine blk_drew ?_ | refine blk_alloc ?_ _)); exact BK259.out)
              (case side3 => exact GE259.out)
              (case side4 => exact Kd.R_tight rfl HO273.out)
              rintro e w57 ⟨v279, rfl, ho0, hbx, hb, hkp⟩
              refine ⟨_, rfl, ?_⟩
              have n0_ := A8_ (blk_kept q8_78 hkp (fun hs_ => Or.elim hs_ (fun hs_ => (fun e_ => (Kd.R_ne HO273.out BK248.out q8_90) e_) hs_) (fun e_ => NB248_259.out e_)))
              have n1_ := A8_ (blk_kept q8_80 hkp (fun hs_ => Or.elim hs_ (fun hs_ => (fun e_ => (Kd.R_ne HO273.out BK249.out q8_90) e_) hs_) (fun e_ => NB249_259.out e_)))
              have n2_ := A8_ (blk_kept q8_81 hkp (fun hs_ => Or.elim hs_ (fun hs_ => (fun e_ => (Kd.R_ne HO273.out BK250.out q8_90) e_) hs_) (fun e_ => NB250_259.out e_)))
              have n3_ := A8_ (hbx)
              have n4_ := A8_ (Kd.R_mono (ok' := fun k_ => some k_ ≠ (v279 : Value).ownBlock) (Kd.R_keptB ((Kd.R_types HO268.out (show (World.heap _)[gb259]? = some (.cells #[.int .i64 t269, .int .i64 t270, .slice Ao56 t271.length co56] 112 (0, 0)) from by (with_reducible repeat (first | refine blk_drewN ?_ _ | refine blk_drew ?_ | refine blk_alloc ?_ _)); exact BK259.out) q8_90)) hkp (fun k_ hk_ hs_ => Or.elim hs_ (fun hs_ => (hk_.1) hs_) (fun e_ => (hk_.2) e_))) (fun k_ hk_ => fun e_ => Or.elim (ho0.1 k_ e_.symm) (fun hs_ => hk_.2.1 (.inl hs_)) (fun hn_ => Nat.not_le.2 hk_.2.2 hn_)))
              have n5_ := A8_ (Kd.R_mono (ok' := fun k_ => some k_ ≠ (.slice Ao54 t266.length co54 : Value).ownBlock) ho0 (fun k_ hk_ => Or.elim hk_ (fun hs_ => fun e_ => ((((Kd.R_types HO268.out (show (World.heap _)[gb259]? = some (.cells #[.int .i64 t269, .int .i64 t270, .slice Ao56 t271.length co56] 112 (0, 0)) from by (with_reducible repeat (first | refine blk_drewN ?_ _ | refine blk_drew ?_ | refine blk_alloc ?_ _)); exact BK259.out) q8_90)).1 k_ e_.symm).1) hs_) (fun hn_ => (Kd.fresh' (Kd.R_lt q8_89) k_ hn_))))
              have n6_ := A8_ (hb)
              clear BK248; clear BK249; clear BK250; clear BK259; clear HO268; clear HB; clear HO273; have BK248 := n0_; have BK249 := n1_; have BK250 := n2_; have BK259 := n3_; have HO268 := n4_; have HO280 := n5_; have HB := n6_; clear n0_ n1_ n2_ n3_ n4_ n5_ n6_; (try clear hbx); (try clear hbn); (try clear hgn); (try clear hb); (try clear hkp); (try clear ho0)
              obtain ⟨Ao58, co58, eo58⟩ := Kd.R_slice HO280.out
              (first | subst eo58 | (injection eo58 with f1_ f2_ f3_; have f4_ := f1_.symm; have f5_ := f3_.symm; clear f1_ f2_ f3_; subst f4_; subst f5_))
              refine hK.out _ _ ⟨bc8_ BK248 0, bc8_ BK248 1, bc8_ BK248 2⟩ (fun hHeld => ?_)
              clear hK K
              refine norm_ (a' := ?_) ?_ ?_
              rotate_left; · show Act.put _ (some 66) _ = _; simp only [Act.put, setIfInBounds_toArray, set_cons_zero, set_cons_succ, i64_w, i32_w]; rfl
              refine pure_ (i := 18) (N := some 69) (v := ?_) (a' := ?_) m8_57 rfl rfl (any_of HT_.out q8_82) (fun _ _ _ h => h) (Or.inl ⟨by rfl, ?_⟩) ?_ ?_
              rotate_left; · intro w'; go_simp; with_reducible rfl
              rotate_left; · simp only [Act.put, setIfInBounds_toArray, set_cons_zero, set_cons_succ, i64_w, i32_w]; rfl
              refine pure_ (i := 19) (N := some 70) (v := ?_) (a' := ?_) m8_59 rfl rfl (any_of HT_.out q8_82) (fun _ _ _ h => h) (Or.inl ⟨by rfl, ?_⟩) ?_ ?_
              rotate_left; · intro w'; go_simp; with_reducible rfl
              rotate_left; · simp only [Act.put, setIfInBounds_toArray, set_cons_zero, set_cons_succ, i64_w, i32_w]; rfl
              refine pure_ (i := 20) (N := some 71) (v := ?_) (a' := ?_) m8_61 rfl rfl (any_of HT_.out q8_82) (fun _ _ _ h => h) (Or.inl ⟨by rfl, ?_⟩) ?_ ?_
              rotate_left; · intro w'; go_simp; with_reducible rfl
              rotate_left; · simp only [Act.put, setIfInBounds_toArray, set_cons_zero, set_cons_succ, i64_w, i32_w]; rfl
              refine pure_ (i := 21) (N := some 72) (v := ?_) (a' := ?_) m8_67 rfl rfl (any_of HT_.out q8_82) (fun _ _ _ h => h) (Or.inl ⟨by rfl, ?_⟩) ?_ ?_
              rotate_left; · intro w'; go_simp; with_reducible rfl
              rotate_left; · simp only [Act.put, setIfInBounds_toArray, set_cons_zero, set_cons_succ, i64_w, i32_w]; rfl
              refine pure_ (i := 23) (N := some 74) (v := ?_) (a' := ?_) #[true, true, true, true, true, true, true, true, true, true, true, true, true, true, true, true, true, true, true, true, true, true, false, true, false, false, false] rfl rfl (any_of HT_.out q8_82) (fun _ _ _ h => h) (Or.inl ⟨by rfl, ?_⟩) ?_ ?_
              rotate_left; · intro w'; go_simp; with_reducible rfl
              rotate_left; · simp only [Act.put, setIfInBounds_toArray, set_cons_zero, set_cons_succ, i64_w, i32_w]; rfl
              refine take_ (i := 24) (N := some 75) (v := ?_) (a' := ?_) #[true, true, true, true, true, true, true, true, true, true, true, true, true, true, true, true, true, true, true, true, true, true, false, true, true, false, false] rfl rfl (take_ofW HT_.out HW_.out q8_82) (fun _ _ _ h => h) (Or.inl ⟨by rfl, ?_⟩) hHeld ?_ ?_
              rotate_left; · rintro w' ⟨s0, s1, s2⟩; go_simp; with_reducible rfl
              rotate_left; · simp only [Act.put, setIfInBounds_toArray, set_cons_zero, set_cons_succ, i64_w, i32_w]; rfl
              refine one_ (i := 22) (N := some 73) m8_80 rfl rfl (one_of HT_.out q8_82) q8_90 (fun K hK => ?_)
              refine goes_ Try.func55 q8_82 rfl #[.pointer (some ⟨gb259, 0, none⟩)] (by rfl) rfl rfl q8_79 ?_
              with_reducible refine (grid_Board_Cols.calls gb259 t276 t277 (fun k_ => some k_ = (.slice Ao58 t278.length co58 : Value).ownBlock) (.slice Ao58 t278.length co58) t278 t281 t282 t283 t284 w _ ?side2 ?side3 ?side1 ?side4 A50.out).mono ?_
              (case side1 => repeat (first | (with_reducible first | exact HB.out | apply below_alloc | apply pw_below_drewN | apply below_drew1 | refine below_set ?_ GE248.out | refine below_set ?_ GE249.out | refine below_set ?_ GE250.out | refine below_set ?_ GE259.out) | exact HB.out))
              (case side2 => (with_reducible repeat (first | refine blk_drewN ?_ _ | refine blk_drew ?_ | refine blk_alloc ?_ _)); exact BK259.out)
              (case side3 => exact GE259.out)
              (case side4 => exact Kd.R_tight rfl HO280.out)
              rintro e w59 ⟨v285, rfl, ho0, hbx, hb, hkp⟩
              refine ⟨_, rfl, ?_⟩
              have n0_ := A8_ (blk_kept q8_78 hkp (fun hs_ => Or.elim hs_ (fun hs_ => (fun e_ => (Kd.R_ne HO280.out BK248.out q8_90) e_) hs_) (fun e_ => NB248_259.out e_)))
              have n1_ := A8_ (blk_kept q8_80 hkp (fun hs_ => Or.elim hs_ (fun hs_ => (fun e_ => (Kd.R_ne HO280.out BK249.out q8_90) e_) hs_) (fun e_ => NB249_259.out e_)))
              have n2_ := A8_ (blk_kept q8_81 hkp (fun hs_ => Or.elim hs_ (fun hs_ => (fun e_ => (Kd.R_ne HO280.out BK250.out q8_90) e_) hs_) (fun e_ => NB250_259.out e_)))
              have n3_ := A8_ (hbx)
              have n4_ := A8_ (Kd.R_mono (ok' := fun k_ => some k_ ≠ (v285 : Value).ownBlock) (Kd.R_keptB ((Kd.R_types HO268.out (show (World.heap _)[gb259]? = some (.cells #[.int .i64 t276, .int .i64 t277, .slice Ao58 t278.length co58] 112 (0, 0)) from by (with_reducible repeat (first | refine blk_drewN ?_ _ | refine blk_drew ?_ | refine blk_alloc ?_ _)); exact BK259.out) q8_90)) hkp (fun k_ hk_ hs_ => Or.elim hs_ (fun hs_ => (hk_.1) hs_) (fun e_ => (hk_.2) e_))) (fun k_ hk_ => fun e_ => Or.elim (ho0.1 k_ e_.symm) (fun hs_ => hk_.2.1 (.inl hs_)) (fun hn_ => Nat.not_le.2 hk_.2.2 hn_)))
              have n5_ := A8_ (Kd.R_mono (ok' := fun k_ => some k_ ≠ (.slice Ao54 t266.length co54 : Value).ownBlock) ho0 (fun k_ hk_ => Or.elim hk_ (fun hs_ => fun e_ => ((((Kd.R_types HO268.out (show (World.heap _)[gb259]? = some (.cells #[.int .i64 t276, .int .i64 t277, .slice Ao58 t278.length co58] 112 (0, 0)) from by (with_reducible repeat (first | refine blk_drewN ?_ _ | refine blk_drew ?_ | refine blk_alloc ?_ _)); exact BK259.out) q8_90)).1 k_ e_.symm).1) hs_) (fun hn_ => (Kd.fresh' (Kd.R_lt q8_89) k_ hn_))))
              have n6_ := A8_ (hb)
              clear BK248; clear BK249; clear BK250; clear BK259; clear HO268; clear HB; clear HO280; have BK248 := n0_; have BK249 := n1_; have BK250 := n2_; have BK259 := n3_; have HO268 := n4_; have HO286 := n5_; have HB := n6_; clear n0_ n1_ n2_ n3_ n4_ n5_ n6_; (try clear hbx); (try clear hbn); (try clear hgn); (try clear hb); (try clear hkp); (try clear ho0)
              refine hK.out _ _ ⟨bc8_ BK248 0, bc8_ BK248 1, bc8_ BK248 2⟩ (fun hHeld => ?_)
              clear hK K
              refine norm_ (a' := ?_) ?_ ?_
              rotate_left; · show Act.put _ (some 73) _ = _; simp only [Act.put, setIfInBounds_toArray, set_cons_zero, set_cons_succ, i64_w, i32_w]; rfl
              refine pure_ (i := 25) (N := some 76) (v := ?_) (a' := ?_) m8_82 rfl rfl (any_of HT_.out q8_82) (fun _ _ _ h => h) (Or.inl ⟨by rfl, ?_⟩) ?_ ?_
              rotate_left; · intro w'; go_simp; with_reducible rfl
              rotate_left; · simp only [Act.put, setIfInBounds_toArray, set_cons_zero, set_cons_succ, i64_w, i32_w]; rfl
              refine pure_ (i := 26) (N := some 77) (v := ?_) (a' := ?_) m8_92 rfl rfl (any_of HT_.out q8_82) (fun _ _ _ h => h) (Or.inl ⟨by rfl, ?_⟩) ?_ ?_
              rotate_left; · intro w'; go_simp; with_reducible rfl
              rotate_left; · simp only [Act.put, setIfInBounds_toArray, set_cons_zero, set_cons_succ, i64_w, i32_w]; rfl
              refine done_ (done_of HT_.out q8_82) ?_
              try go_wp2
              go_meet
              case rel => exact ⟨_, ((t281 != a0_1)), (t282), (t283), (t284), (v285), q8_91, H', ⟨by have := HJ5.out; have := HJ23.out; first | omega | exact Nat.le_refl _⟩, ⟨by (with_reducible repeat (first | apply Kd.R_alloc | apply Kd.R_drewN | apply Kd.R_drew)); exact Kd.R_mono HO286.out (fun _ hk => trivial)⟩, ⟨by (with_reducible repeat (first | refine blk_drewN ?_ _ | refine blk_drew ?_ | refine blk_alloc ?_ _)); exact BK248.out⟩, ⟨by (with_reducible repeat (first | refine blk_drewN ?_ _ | refine blk_drew ?_ | refine blk_alloc ?_ _)); exact BK249.out⟩, ⟨by (with_reducible repeat (first | refine blk_drewN ?_ _ | refine blk_drew ?_ | refine blk_alloc ?_ _)); exact BK250.out⟩, ⟨by (with_reducible repeat (first | refine blk_drewN ?_ _ | refine blk_drew ?_ | refine blk_alloc ?_ _)); exact BK259.out⟩, ⟨by repeat (first | (with_reducible first | exact HB.out | apply below_alloc | apply pw_below_drewN | apply below_drew1 | refine below_set ?_ GE248.out | refine below_set ?_ GE249.out | refine below_set ?_ GE250.out | refine below_set ?_ GE259.out) | exact HB.out)⟩⟩
             ·rw [if_neg c49] at H
              have c49b0 : (t275 == a0_0) = false := beq_eq_false_iff_ne.mpr c49
              have c49b1 : (t275 != a0_0) = true := bne_iff_ne.mpr c49
              have H' := A8_ H
              clear H
              try go_wp2
              have n0_ := A8_ (Kd.R_drew HO_260002.out)
              have n1_ := A8_ (blk_drew BK248.out)
              have n2_ := A8_ (blk_drew BK249.out)
              have n3_ := A8_ (blk_drew BK250.out)
              have n4_ := A8_ (blk_drew BK259.out)
              have n5_ := A8_ (below_drew1 HB.out)
              clear HO_260002; clear BK248; clear BK249; clear BK250; clear BK259; clear HB; have HO_260002 := n0_; have BK248 := n1_; have BK249 := n2_; have BK250 := n3_; have BK259 := n4_; have HB := n5_; clear n0_ n1_ n2_ n3_ n4_ n5_
              obtain ⟨Ao61, co61, eo61⟩ := Kd.R_slice HO_260002.out
              (first | subst eo61 | (injection eo61 with f1_ f2_ f3_; have f4_ := f1_.symm; have f5_ := f3_.symm; clear f1_ f2_ f3_; subst f4_; subst f5_))
              refine start_ (n := 27) (S := fun w' => w'.cell? ⟨gb248, 0, none⟩ = some (.int .i64 a0_0) /\ w'.cell? ⟨gb248, 1, none⟩ = some (.int .i64 a0_1) /\ w'.cell? ⟨gb248, 2, none⟩ = some (.slice A0_2 l0_2.length c0_2)) (ds := []) m8_1 q8_82 rfl rfl ⟨bc8_ BK248 0, bc8_ BK248 1, bc8_ BK248 2⟩ (fun hHeld => ?_); refine with_tabW batonlaw10_GridTells.tab11 batonlaw10_GridTells.bits11 (fun HT_ HW_ => ?_)
              generalize wc.drew = w60 at HO_260002 BK248 BK249 BK250 BK259 HB hHeld ⊢
              refine pure_ (i := 0) (N := some 51) (v := ?_) (a' := ?_) m8_5 rfl rfl (any_of HT_.out q8_82) (fun _ _ _ h => h) (Or.inl ⟨by rfl, ?_⟩) ?_ ?_
              rotate_left; · intro w'; go_simp; with_reducible rfl
              rotate_left; · simp only [Act.put, setIfInBounds_toArray, set_cons_zero, set_cons_succ, i64_w, i32_w]; rfl
              refine pure_ (i := 1) (N := some 52) (v := ?_) (a' := ?_) m8_8 rfl rfl (any_of HT_.out q8_82) (fun _ _ _ h => h) (Or.inl ⟨by rfl, ?_⟩) ?_ ?_
              rotate_left; · intro w'; go_simp; with_reducible rfl
              rotate_left; · simp only [Act.put, setIfInBounds_toArray, set_cons_zero, set_cons_succ, i64_w, i32_w]; rfl
              refine pure_ (i := 2) (N := some 53) (v := ?_) (a' := ?_) m8_14 rfl rfl (any_of HT_.out q8_82) (fun _ _ _ h => h) (Or.inl ⟨by rfl, ?_⟩) ?_ ?_
              rotate_left; · intro w'; go_simp; with_reducible rfl
              rotate_left; · simp only [Act.put, setIfInBounds_toArray, set_cons_zero, set_cons_succ, i64_w, i32_w]; rfl
              refine pure_ (i := 3) (N := some 54) (v := ?_) (a' := ?_) m8_16 rfl rfl (any_of HT_.out q8_82) (fun _ _ _ h => h) (Or.inl ⟨by rfl, ?_⟩) ?_ ?_
              rotate_left; · intro w'; go_simp; with_reducible rfl
              rotate_left; · simp only [Act.put, setIfInBounds_toArray, set_cons_zero, set_cons_succ, i64_w, i32_w]; rfl
              refine pure_ (i := 4) (N := some 55) (v := ?_) (a' := ?_) m8_19 rfl rfl (any_of HT_.out q8_82) (fun _ _ _ h => h) (Or.inl ⟨by rfl, ?_⟩) ?_ ?_
              rotate_left; · intro w'; go_simp; with_reducible rfl
              rotate_left; · simp only [Act.put, setIfInBounds_toArray, set_cons_zero, set_cons_succ, i64_w, i32_w]; rfl
              refine pure_ (i := 5) (N := some 56) (v := ?_) (a' := ?_) m8_21 rfl rfl (any_of HT_.out q8_82) (fun _ _ _ h => h) (Or.inl ⟨by rfl, ?_⟩) ?_ ?_
              rotate_left; · intro w'; go_simp; with_reducible rfl
              rotate_left; · simp only [Act.put, setIfInBounds_toArray, set_cons_zero, set_cons_succ, i64_w, i32_w]; rfl
              refine pure_ (i := 6) (N := some 57) (v := ?_) (a' := ?_) m8_24 rfl rfl (any_of HT_.out q8_82) (fun _ _ _ h => h) (Or.inl ⟨by rfl, ?_⟩) ?_ ?_
              rotate_left; · intro w'; go_simp; with_reducible rfl
              rotate_left; · simp only [Act.put, setIfInBounds_toArray, set_cons_zero, set_cons_succ, i64_w, i32_w]; rfl
              refine pure_ (i := 7) (N := some 58) (v := ?_) (a' := ?_) m8_29 rfl rfl (any_of HT_.out q8_82) (fun _ _ _ h => h) (Or.inl ⟨by rfl, ?_⟩) ?_ ?_
              rotate_left; · intro w'; go_simp; with_reducible rfl
              rotate_left; · simp only [Act.put, setIfInBounds_toArray, set_cons_zero, set_cons_succ, i64_w, i32_w]; rfl
              refine take_ (i := 9) (N := some 60) (v := ?_) (a' := ?_) m8_31 rfl rfl (take_ofW HT_.out HW_.out q8_82) (fun _ _ _ h => h) (Or.inl ⟨by rfl, ?_⟩) hHeld ?_ ?_
              rotate_left; · rintro w' ⟨s0, s1, s2⟩; go_simp; with_reducible rfl
              rotate_left; · simp only [Act.put, setIfInBounds_toArray, set_cons_zero, set_cons_succ, i64_w, i32_w]; rfl
              refine one_ (i := 8) (N := some 59) m8_35 rfl rfl (one_of HT_.out q8_82) q8_90 (fun K hK => ?_)
              refine goes_ Try.func49 q8_82 rfl #[.pointer (some ⟨gb259, 0, none⟩)] (by rfl) rfl rfl q8_79 ?_
              with_reducible refine (grid_Board_Grid.calls gb259 t254 t255 (fun k_ => some k_ = (.slice Ao61 t256.length co61 : Value).ownBlock) (.slice Ao61 t256.length co61) t256 t264 t265 t266 t269 t270 t271 w _ ?side2 ?side3 ?side1 ?side4 A45.out).mono ?_
              (case side1 => repeat (first | (with_reducible first | exact HB.out | apply below_alloc | apply pw_below_drewN | apply below_drew1 | refine below_set ?_ GE248.out | refine below_set ?_ GE249.out | refine below_set ?_ GE250.out | refine below_set ?_ GE259.out) | exact HB.out))
              (case side2 => (with_reducible repeat (first | refine blk_drewN ?_ _ | refine blk_drew ?_ | refine blk_alloc ?_ _)); exact BK259.out)
              (case side3 => exact GE259.out)
              (case side4 => exact Kd.R_tight rfl HO_260002.out)
              rintro e w62 ⟨v267, v272, rfl, ho0, ho1, hbx, hb, hkp⟩
              refine ⟨_, rfl, ?_⟩
              have n0_ := A8_ (blk_kept q8_78 hkp (fun hs_ => Or.elim hs_ (fun hs_ => (fun e_ => (Kd.R_ne HO_260002.out BK248.out q8_90) e_) hs_) (fun e_ => NB248_259.out e_)))
              have n1_ := A8_ (blk_kept q8_80 hkp (fun hs_ => Or.elim hs_ (fun hs_ => (fun e_ => (Kd.R_ne HO_260002.out BK249.out q8_90) e_) hs_) (fun e_ => NB249_259.out e_)))
              have n2_ := A8_ (blk_kept q8_81 hkp (fun hs_ => Or.elim hs_ (fun hs_ => (fun e_ => (Kd.R_ne HO_260002.out BK250.out q8_90) e_) hs_) (fun e_ => NB250_259.out e_)))
              have n3_ := A8_ (hbx)
              have n4_ := A8_ (Kd.R_mono (ok' := fun k_ => some k_ ≠ (v272 : Value).ownBlock) ho0 (fun k_ hk_ => hk_.2))
              have n5_ := A8_ (Kd.R_mono (ok' := fun k_ => some k_ ≠ (v267 : Value).ownBlock) ho1 (fun k_ hk_ => hk_.2))
              have n6_ := A8_ (hb)
              clear BK248; clear BK249; clear BK250; clear BK259; clear HB; clear HO_260002; have BK248 := n0_; have BK249 := n1_; have BK250 := n2_; have BK259 := n3_; have HO268 := n4_; have HO273 := n5_; have HB := n6_; clear n0_ n1_ n2_ n3_ n4_ n5_ n6_; (try clear hbx); (try clear hbn); (try clear hgn); (try clear hb); (try clear hkp); (try clear ho0); (try clear ho1)
              obtain ⟨Ao63, co63, eo63⟩ := Kd.R_slice HO268.out
              (first | subst eo63 | (injection eo63 with f1_ f2_ f3_; have f4_ := f1_.symm; have f5_ := f3_.symm; clear f1_ f2_ f3_; subst f4_; subst f5_))
              refine hK.out _ _ ⟨bc8_ BK248 0, bc8_ BK248 1, bc8_ BK248 2⟩ (fun hHeld => ?_)
              clear hK K
              refine norm_ (a' := ?_) ?_ ?_
              rotate_left; · show Act.put _ (some 59) _ = _; simp only [Act.put, setIfInBounds_toArray, set_cons_zero, set_cons_succ, i64_w, i32_w]; rfl
              refine one_ (i := 10) (N := some 61) m8_37 rfl rfl (one_of HT_.out q8_82) q8_90 (fun K hK => ?_)
              refine goes_ Try.func53 q8_82 rfl #[.agg #[.int .i64 t264, .int .i64 t265, .slice Ao63 t266.length co63], .agg #[.int .i64 a0_0, .int .i64 a0_1, .slice A0_2 l0_2.length c0_2]] (by rfl) rfl rfl q8_79 ?_
              with_reducible refine (grid_Same.calls kj23 t264 t265 _ _ t266 a0_0 a0_1 _ _ l0_2 true _ ?side1 ?side2 ?side3 ?side4 A46.out).mono ?_
              (case side1 => repeat (first | exact (Kd.R_reads' HO268.out).2.2 | (with_reducible refine Kd.C_alloc ?_ _) | (with_reducible refine Kd.C_drewN ?_ _) | (with_reducible refine Kd.C_drew ?_)))
              (case side2 => exact (Kd.R_reads' HO268.out).2.1)
              (case side3 => repeat (first | exact (Kd.C_below HR0_2.out HB.out) | (with_reducible refine Kd.C_alloc ?_ _) | (with_reducible refine Kd.C_drewN ?_ _) | (with_reducible refine Kd.C_drew ?_)))
              (case side4 => exact HC0_2.out)
              rintro e w64 ⟨rfl, hb⟩
              refine ⟨_, rfl, ?_⟩
              have n0_ := A8_ (Kd.R_below q8_89 hb)
              have n1_ := A8_ (Kd.R_below q8_94 hb)
              have n2_ := A8_ (blk_below (g := gb248) (o := .cells #[.int .i64 a0_0, .int .i64 a0_1, .slice A0_2 l0_2.length c0_2] 75 (0, 0)) q8_78 hb)
              have n3_ := A8_ (blk_below (g := gb249) (o := .cells #[.int .i64 a1_0, .int .i64 a1_1, .slice A1_2 l1_2.length c1_2] 75 (0, 0)) q8_80 hb)
              have n4_ := A8_ (blk_below (g := gb250) (o := .cells #[.int .i64 a2_0, .int .i64 a2_1] 84 (0, 0)) q8_81 hb)
              have n5_ := A8_ (blk_below (g := gb259) (o := .cells #[.int .i64 t269, .int .i64 t270, v272] 112 (0, 0)) q8_86 hb)
              have n6_ := A8_ (below_step q8_83 hb)
              clear HO268; clear HO273; clear BK248; clear BK249; clear BK250; clear BK259; clear HB; have HO268 := n0_; have HO273 := n1_; have BK248 := n2_; have BK249 := n3_; have BK250 := n4_; have BK259 := n5_; have HB := n6_; clear n0_ n1_ n2_ n3_ n4_ n5_ n6_; (try clear hb); (try clear hb2); (try clear hk); (try clear hi)
              obtain ⟨Ao65, co65, eo65⟩ := Kd.R_slice HO273.out
              (first | subst eo65 | (injection eo65 with f1_ f2_ f3_; have f4_ := f1_.symm; have f5_ := f3_.symm; clear f1_ f2_ f3_; subst f4_; subst f5_))
              refine hK.out _ _ ⟨bc8_ BK248 0, bc8_ BK248 1, bc8_ BK248 2⟩ (fun hHeld => ?_)
              clear hK K
              refine norm_ (a' := ?_) ?_ ?_
              rotate_left; · show Act.put _ (some 61) _ = _; simp only [Act.put, setIfInBounds_toArray, set_cons_zero, set_cons_succ, i64_w, i32_w]; rfl
              refine pure_ (i := 11) (N := some 62) (v := ?_) (a' := ?_) m8_40 rfl rfl (any_of HT_.out q8_82) (fun _ _ _ h => h) (Or.inl ⟨by rfl, ?_⟩) ?_ ?_
              rotate_left; · intro w'; go_simp; with_reducible rfl
              rotate_left; · simp only [Act.put, setIfInBounds_toArray, set_cons_zero, set_cons_succ, i64_w, i32_w]; rfl
              refine pure_ (i := 12) (N := some 63) (v := ?_) (a' := ?_) m8_43 rfl rfl (any_of HT_.out q8_82) (fun _ _ _ h => h) (Or.inl ⟨by rfl, ?_⟩) ?_ ?_
              rotate_left; · intro w'; go_simp; with_reducible rfl
              rotate_left; · simp only [Act.put, setIfInBounds_toArray, set_cons_zero, set_cons_succ, i64_w, i32_w]; rfl
              refine pure_ (i := 13) (N := some 64) (v := ?_) (a' := ?_) m8_45 rfl rfl (any_of HT_.out q8_82) (fun _ _ _ h => h) (Or.inl ⟨by rfl, ?_⟩) ?_ ?_
              rotate_left; · intro w'; go_simp; with_reducible rfl
              rotate_left; · simp only [Act.put, setIfInBounds_toArray, set_cons_zero, set_cons_succ, i64_w, i32_w]; rfl
              refine pure_ (i := 14) (N := some 65) (v := ?_) (a' := ?_) m8_47 rfl rfl (any_of HT_.out q8_82) (fun _ _ _ h => h) (Or.inl ⟨by rfl, ?_⟩) ?_ ?_
              rotate_left; · intro w'; go_simp; with_reducible rfl
              rotate_left; · simp only [Act.put, setIfInBounds_toArray, set_cons_zero, set_cons_succ, i64_w, i32_w]; rfl
              refine pure_ (i := 16) (N := some 67) (v := ?_) (a' := ?_) m8_48 rfl rfl (any_of HT_.out q8_82) (fun _ _ _ h => h) (Or.inl ⟨by rfl, ?_⟩) ?_ ?_
              rotate_left; · intro w'; go_simp; with_reducible rfl
              rotate_left; · simp only [Act.put, setIfInBounds_toArray, set_cons_zero, set_cons_succ, i64_w, i32_w]; rfl
              refine take_ (i := 17) (N := some 68) (v := ?_) (a' := ?_) m8_49 rfl rfl (take_ofW HT_.out HW_.out q8_82) (fun _ _ _ h => h) (Or.inl ⟨by rfl, ?_⟩) hHeld ?_ ?_
              rotate_left; · rintro w' ⟨s0, s1, s2⟩; go_simp; with_reducible rfl
              rotate_left; · simp only [Act.put, setIfInBounds_toArray, set_cons_zero, set_cons_succ, i64_w, i32_w]; rfl
              refine one_ (i := 15) (N := some 66) m8_55 rfl rfl (one_of HT_.out q8_82) q8_90 (fun K hK => ?_)
              refine goes_ Try.func54 q8_82 rfl #[.pointer (some ⟨gb259, 0, none⟩)] (by rfl) rfl rfl q8_79 ?_
              with_reducible refine (grid_Board_Rows.calls gb259 t269 t270 (fun k_ => some k_ = (.slice Ao65 t271.length co65 : Value).ownBlock) (.slice Ao65 t271.length co65) t271 t275 t276 t277 t278 w _ ?side2 ?side3 ?side1 ?side4 A48.out).mono ?_
              (case side1 => repeat (first | (with_reducible first | exact HB.out | apply below_alloc | apply pw_below_drewN | apply below_drew1 | refine below_set ?_ GE248.out | refine below_set ?_ GE249.out | refine below_set ?_ GE250.out | refine below_set ?_ GE259.out) | exact HB.out))
              (case side2 => (with_reducible repeat (first | refine blk_drewN ?_ _ | refine blk_drew ?_ | refine blk_alloc ?_ _)); exact BK259.out)
              (case side3 => exact GE259.out)
              (case side4 => exact Kd.R_tight rfl HO273.out)
              rintro e w66 ⟨v279, rfl, ho0, hbx, hb, hkp⟩
              refine ⟨_, rfl, ?_⟩
              have n0_ := A8_ (blk_kept q8_78 hkp (fun hs_ => Or.elim hs_ (fun hs_ => (fun e_ => (Kd.R_ne HO273.out BK248.out q8_90) e_) hs_) (fun e_ => NB248_259.out e_)))
              have n1_ := A8_ (blk_kept q8_80 hkp (fun hs_ => Or.elim hs_ (fun hs_ => (fun e_ => (Kd.R_ne HO273.out BK249.out q8_90) e_) hs_) (fun e_ => NB249_259.out e_)))
              have n2_ := A8_ (blk_kept q8_81 hkp (fun hs_ => Or.elim hs_ (fun hs_ => (fun e_ => (Kd.R_ne HO273.out BK250.out q8_90) e_) hs_) (fun e_ => NB250_259.out e_)))
              have n3_ := A8_ (hbx)
              have n4_ := A8_ (Kd.R_mono (ok' := fun k_ => some k_ ≠ (v279 : Value).ownBlock) (Kd.R_keptB ((Kd.R_types HO268.out (show (World.heap _)[gb259]? = some (.cells #[.int .i64 t269, .int .i64 t270, .slice Ao65 t271.length co65] 112 (0, 0)) from by (with_reducible repeat (first | refine blk_drewN ?_ _ | refine blk_drew ?_ | refine blk_alloc ?_ _)); exact BK259.out) q8_90)) hkp (fun k_ hk_ hs_ => Or.elim hs_ (fun hs_ => (hk_.1) hs_) (fun e_ => (hk_.2) e_))) (fun k_ hk_ => fun e_ => Or.elim (ho0.1 k_ e_.symm) (fun hs_ => hk_.2.1 (.inl hs_)) (fun hn_ => Nat.not_le.2 hk_.2.2 hn_)))
              have n5_ := A8_ (Kd.R_mono (ok' := fun k_ => some k_ ≠ (.slice Ao63 t266.length co63 : Value).ownBlock) ho0 (fun k_ hk_ => Or.elim hk_ (fun hs_ => fun e_ => ((((Kd.R_types HO268.out (show (World.heap _)[gb259]? = some (.cells #[.int .i64 t269, .int .i64 t270, .slice Ao65 t271.length co65] 112 (0, 0)) from by (with_reducible repeat (first | refine blk_drewN ?_ _ | refine blk_drew ?_ | refine blk_alloc ?_ _)); exact BK259.out) q8_90)).1 k_ e_.symm).1) hs_) (fun hn_ => (Kd.fresh' (Kd.R_lt q8_89) k_ hn_))))
              have n6_ := A8_ (hb)
              clear BK248; clear BK249; clear BK250; clear BK259; clear HO268; clear HB; clear HO273; have BK248 := n0_; have BK249 := n1_; have BK250 := n2_; have BK259 := n3_; have HO268 := n4_; have HO280 := n5_; have HB := n6_; clear n0_ n1_ n2_ n3_ n4_ n5_ n6_; (try clear hbx); (try clear hbn); (try clear hgn); (try clear hb); (try clear hkp); (try clear ho0)
              refine hK.out _ _ ⟨bc8_ BK248 0, bc8_ BK248 1, bc8_ BK248 2⟩ (fun hHeld => ?_)
              clear hK K
              refine norm_ (a' := ?_) ?_ ?_
              rotate_left; · show Act.put _ (some 66) _ = _; simp only [Act.put, setIfInBounds_toArray, set_cons_zero, set_cons_succ, i64_w, i32_w]; rfl
              refine pure_ (i := 18) (N := some 69) (v := ?_) (a' := ?_) m8_57 rfl rfl (any_of HT_.out q8_82) (fun _ _ _ h => h) (Or.inl ⟨by rfl, ?_⟩) ?_ ?_
              rotate_left; · intro w'; go_simp; with_reducible rfl
              rotate_left; · simp only [Act.put, setIfInBounds_toArray, set_cons_zero, set_cons_succ, i64_w, i32_w]; rfl
              refine pure_ (i := 19) (N := some 70) (v := ?_) (a' := ?_) m8_59 rfl rfl (any_of HT_.out q8_82) (fun _ _ _ h => h) (Or.inl ⟨by rfl, ?_⟩) ?_ ?_
              rotate_left; · intro w'; go_simp; with_reducible rfl
              rotate_left; · simp only [Act.put, setIfInBounds_toArray, set_cons_zero, set_cons_succ, i64_w, i32_w]; rfl
              refine pure_ (i := 20) (N := some 71) (v := ?_) (a' := ?_) m8_61 rfl rfl (any_of HT_.out q8_82) (fun _ _ _ h => h) (Or.inl ⟨by rfl, ?_⟩) ?_ ?_
              rotate_left; · intro w'; go_simp; with_reducible rfl
              rotate_left; · simp only [Act.put, setIfInBounds_toArray, set_cons_zero, set_cons_succ, i64_w, i32_w]; rfl
              refine pure_ (i := 21) (N := some 72) (v := undef) (a' := ?_) m8_67 rfl rfl (any_of HT_.out q8_82) (fun _ _ _ h => h) (Or.inr ⟨by rfl, rfl⟩) ?_ ?_
              rotate_left; · simp only [Act.put, setIfInBounds_toArray, set_cons_zero, set_cons_succ, i64_w, i32_w]; rfl
              refine pure_ (i := 22) (N := some 73) (v := undef) (a' := ?_) m8_71 rfl rfl (any_of HT_.out q8_82) (fun _ _ _ h => h) (Or.inr ⟨by rfl, rfl⟩) ?_ ?_
              rotate_left; · simp only [Act.put, setIfInBounds_toArray, set_cons_zero, set_cons_succ, i64_w, i32_w]; rfl
              refine pure_ (i := 23) (N := some 74) (v := undef) (a' := ?_) m8_74 rfl rfl (any_of HT_.out q8_82) (fun _ _ _ h => h) (Or.inr ⟨by rfl, rfl⟩) ?_ ?_
              rotate_left; · simp only [Act.put, setIfInBounds_toArray, set_cons_zero, set_cons_succ, i64_w, i32_w]; rfl
              refine pure_ (i := 24) (N := some 75) (v := undef) (a' := ?_) m8_80 rfl rfl (any_of HT_.out q8_82) (fun _ _ _ h => h) (Or.inr ⟨by rfl, rfl⟩) ?_ ?_
              rotate_left; · simp only [Act.put, setIfInBounds_toArray, set_cons_zero, set_cons_succ, i64_w, i32_w]; rfl
              refine pure_ (i := 25) (N := some 76) (v := undef) (a' := ?_) m8_82 rfl rfl (any_of HT_.out q8_82) (fun _ _ _ h => h) (Or.inr ⟨by rfl, rfl⟩) ?_ ?_
              rotate_left; · simp only [Act.put, setIfInBounds_toArray, set_cons_zero, set_cons_succ, i64_w, i32_w]; rfl
              refine pure_ (i := 26) (N := some 77) (v := ?_) (a' := ?_) m8_92 rfl rfl (any_of HT_.out q8_82) (fun _ _ _ h => h) (Or.inl ⟨by rfl, ?_⟩) ?_ ?_
              rotate_left; · intro w'; go_simp; with_reducible rfl
              rotate_left; · simp only [Act.put, setIfInBounds_toArray, set_cons_zero, set_cons_succ, i64_w, i32_w]; rfl
              refine done_ (done_of HT_.out q8_82) ?_
              try go_wp2
              go_meet
              case rel => exact ⟨_, (true), (t276), (t277), (t278), (v279), q8_91, H', ⟨by have := HJ5.out; have := HJ23.out; first | omega | exact Nat.le_refl _⟩, ⟨by (with_reducible repeat (first | apply Kd.R_alloc | apply Kd.R_drewN | apply Kd.R_drew)); exact Kd.R_mono HO280.out (fun _ hk => trivial)⟩, ⟨by (with_reducible repeat (first | refine blk_drewN ?_ _ | refine blk_drew ?_ | refine blk_alloc ?_ _)); exact BK248.out⟩, ⟨by (with_reducible repeat (first | refine blk_drewN ?_ _ | refine blk_drew ?_ | refine blk_alloc ?_ _)); exact BK249.out⟩, ⟨by (with_reducible repeat (first | refine blk_drewN ?_ _ | refine blk_drew ?_ | refine blk_alloc ?_ _)); exact BK250.out⟩, ⟨by (with_reducible repeat (first | refine blk_drewN ?_ _ | refine blk_drew ?_ | refine blk_alloc ?_ _)); exact BK259.out⟩, ⟨by repeat (first | (with_reducible first | exact HB.out | apply below_alloc | apply pw_below_drewN | apply below_drew1 | refine below_set ?_ GE248.out | refine below_set ?_ GE249.out | refine below_set ?_ GE250.out | refine below_set ?_ GE259.out) | exact HB.out)⟩⟩
            ·replace c47 := Bool.eq_false_iff.mpr c47
             subst c47
             have H1 : (batonlaw10_GridTells.j2 kj23 true a0_0 a0_1 l0_2 a2_0 a2_1 t269 t270 t271) = some r := by rw [if_neg (show ¬ (false = true) by decide)] at H; exact H
             clear H; have H := H1; clear H1
             have H' := A8_ H
             clear H
             try go_wp2
             have n0_ := A8_ (Kd.R_drew HO_260002.out)
             have n1_ := A8_ (blk_drew BK248.out)
             have n2_ := A8_ (blk_drew BK249.out)
             have n3_ := A8_ (blk_drew BK250.out)
             have n4_ := A8_ (blk_drew BK259.out)
             have n5_ := A8_ (below_drew1 HB.out)
             clear HO_260002; clear BK248; clear BK249; clear BK250; clear BK259; clear HB; have HO_260002 := n0_; have BK248 := n1_; have BK249 := n2_; have BK250 := n3_; have BK259 := n4_; have HB := n5_; clear n0_ n1_ n2_ n3_ n4_ n5_
             obtain ⟨Ao68, co68, eo68⟩ := Kd.R_slice HO_260002.out
             (first | subst eo68 | (injection eo68 with f1_ f2_ f3_; have f4_ := f1_.symm; have f5_ := f3_.symm; clear f1_ f2_ f3_; subst f4_; subst f5_))
             refine start_ (n := 27) (S := fun w' => w'.cell? ⟨gb248, 0, none⟩ = some (.int .i64 a0_0) /\ w'.cell? ⟨gb248, 1, none⟩ = some (.int .i64 a0_1) /\ w'.cell? ⟨gb248, 2, none⟩ = some (.slice A0_2 l0_2.length c0_2)) (ds := []) m8_1 q8_82 rfl rfl ⟨bc8_ BK248 0, bc8_ BK248 1, bc8_ BK248 2⟩ (fun hHeld => ?_); refine with_tabW batonlaw10_GridTells.tab11 batonlaw10_GridTells.bits11 (fun HT_ HW_ => ?_)
             generalize wc.drew = w67 at HO_260002 BK248 BK249 BK250 BK259 HB hHeld ⊢
             refine pure_ (i := 0) (N := some 51) (v := ?_) (a' := ?_) m8_5 rfl rfl (any_of HT_.out q8_82) (fun _ _ _ h => h) (Or.inl ⟨by rfl, ?_⟩) ?_ ?_
             rotate_left; · intro w'; go_simp; with_reducible rfl
             rotate_left; · simp only [Act.put, setIfInBounds_toArray, set_cons_zero, set_cons_succ, i64_w, i32_w]; rfl
             refine pure_ (i := 1) (N := some 52) (v := ?_) (a' := ?_) m8_8 rfl rfl (any_of HT_.out q8_82) (fun _ _ _ h => h) (Or.inl ⟨by rfl, ?_⟩) ?_ ?_
             rotate_left; · intro w'; go_simp; with_reducible rfl
             rotate_left; · simp only [Act.put, setIfInBounds_toArray, set_cons_zero, set_cons_succ, i64_w, i32_w]; rfl
             refine pure_ (i := 2) (N := some 53) (v := ?_) (a' := ?_) m8_14 rfl rfl (any_of HT_.out q8_82) (fun _ _ _ h => h) (Or.inl ⟨by rfl, ?_⟩) ?_ ?_
             rotate_left; · intro w'; go_simp; with_reducible rfl
             rotate_left; · simp only [Act.put, setIfInBounds_toArray, set_cons_zero, set_cons_succ, i64_w, i32_w]; rfl
             refine pure_ (i := 3) (N := some 54) (v := ?_) (a' := ?_) m8_16 rfl rfl (any_of HT_.out q8_82) (fun _ _ _ h => h) (Or.inl ⟨by rfl, ?_⟩) ?_ ?_
             rotate_left; · intro w'; go_simp; with_reducible rfl
             rotate_left; · simp only [Act.put, setIfInBounds_toArray, set_cons_zero, set_cons_succ, i64_w, i32_w]; rfl
             refine pure_ (i := 4) (N := some 55) (v := ?_) (a' := ?_) m8_19 rfl rfl (any_of HT_.out q8_82) (fun _ _ _ h => h) (Or.inl ⟨by rfl, ?_⟩) ?_ ?_
             rotate_left; · intro w'; go_simp; with_reducible rfl
             rotate_left; · simp only [Act.put, setIfInBounds_toArray, set_cons_zero, set_cons_succ, i64_w, i32_w]; rfl
             refine pure_ (i := 5) (N := some 56) (v := ?_) (a' := ?_) m8_21 rfl rfl (any_of HT_.out q8_82) (fun _ _ _ h => h) (Or.inl ⟨by rfl, ?_⟩) ?_ ?_
             rotate_left; · intro w'; go_simp; with_reducible rfl
             rotate_left; · simp only [Act.put, setIfInBounds_toArray, set_cons_zero, set_cons_succ, i64_w, i32_w]; rfl
             refine pure_ (i := 6) (N := some 57) (v := ?_) (a' := ?_) m8_24 rfl rfl (any_of HT_.out q8_82) (fun _ _ _ h => h) (Or.inl ⟨by rfl, ?_⟩) ?_ ?_
             rotate_left; · intro w'; go_simp; with_reducible rfl
             rotate_left; · simp only [Act.put, setIfInBounds_toArray, set_cons_zero, set_cons_succ, i64_w, i32_w]; rfl
             refine pure_ (i := 7) (N := some 58) (v := ?_) (a' := ?_) m8_29 rfl rfl (any_of HT_.out q8_82) (fun _ _ _ h => h) (Or.inl ⟨by rfl, ?_⟩) ?_ ?_
             rotate_left; · intro w'; go_simp; with_reducible rfl
             rotate_left; · simp only [Act.put, setIfInBounds_toArray, set_cons_zero, set_cons_succ, i64_w, i32_w]; rfl
             refine take_ (i := 9) (N := some 60) (v := ?_) (a' := ?_) m8_31 rfl rfl (take_ofW HT_.out HW_.out q8_82) (fun _ _ _ h => h) (Or.inl ⟨by rfl, ?_⟩) hHeld ?_ ?_
             rotate_left; · rintro w' ⟨s0, s1, s2⟩; go_simp; with_reducible rfl
             rotate_left; · simp only [Act.put, setIfInBounds_toArray, set_cons_zero, set_cons_succ, i64_w, i32_w]; rfl
             refine one_ (i := 8) (N := some 59) m8_35 rfl rfl (one_of HT_.out q8_82) q8_90 (fun K hK => ?_)
             refine goes_ Try.func49 q8_82 rfl #[.pointer (some ⟨gb259, 0, none⟩)] (by rfl) rfl rfl q8_79 ?_
             with_reducible refine (grid_Board_Grid.calls gb259 t254 t255 (fun k_ => some k_ = (.slice Ao68 t256.length co68 : Value).ownBlock) (.slice Ao68 t256.length co68) t256 t264 t265 t266 t269 t270 t271 w _ ?side2 ?side3 ?side1 ?side4 A45.out).mono ?_
             (case side1 => repeat (first | (with_reducible first | exact HB.out | apply below_alloc | apply pw_below_drewN | apply below_drew1 | refine below_set ?_ GE248.out | refine below_set ?_ GE249.out | refine below_set ?_ GE250.out | refine below_set ?_ GE259.out) | exact HB.out))
             (case side2 => (with_reducible repeat (first | refine blk_drewN ?_ _ | refine blk_drew ?_ | refine blk_alloc ?_ _)); exact BK259.out)
             (case side3 => exact GE259.out)
             (case side4 => exact Kd.R_tight rfl HO_260002.out)
             rintro e w69 ⟨v267, v272, rfl, ho0, ho1, hbx, hb, hkp⟩
             refine ⟨_, rfl, ?_⟩
             have n0_ := A8_ (blk_kept q8_78 hkp (fun hs_ => Or.elim hs_ (fun hs_ => (fun e_ => (Kd.R_ne HO_260002.out BK248.out q8_90) e_) hs_) (fun e_ => NB248_259.out e_)))
             have n1_ := A8_ (blk_kept q8_80 hkp (fun hs_ => Or.elim hs_ (fun hs_ => (fun e_ => (Kd.R_ne HO_260002.out BK249.out q8_90) e_) hs_) (fun e_ => NB249_259.out e_)))
             have n2_ := A8_ (blk_kept q8_81 hkp (fun hs_ => Or.elim hs_ (fun hs_ => (fun e_ => (Kd.R_ne HO_260002.out BK250.out q8_90) e_) hs_) (fun e_ => NB250_259.out e_)))
             have n3_ := A8_ (hbx)
             have n4_ := A8_ (Kd.R_mono (ok' := fun k_ => some k_ ≠ (v272 : Value).ownBlock) ho0 (fun k_ hk_ => hk_.2))
             have n5_ := A8_ (Kd.R_mono (ok' := fun k_ => some k_ ≠ (v267 : Value).ownBlock) ho1 (fun k_ hk_ => hk_.2))
             have n6_ := A8_ (hb)
             clear BK248; clear BK249; clear BK250; clear BK259; clear HB; clear HO_260002; have BK248 := n0_; have BK249 := n1_; have BK250 := n2_; have BK259 := n3_; have HO268 := n4_; have HO273 := n5_; have HB := n6_; clear n0_ n1_ n2_ n3_ n4_ n5_ n6_; (try clear hbx); (try clear hbn); (try clear hgn); (try clear hb); (try clear hkp); (try clear ho0); (try clear ho1)
             obtain ⟨Ao70, co70, eo70⟩ := Kd.R_slice HO268.out
             (first | subst eo70 | (injection eo70 with f1_ f2_ f3_; have f4_ := f1_.symm; have f5_ := f3_.symm; clear f1_ f2_ f3_; subst f4_; subst f5_))
             refine hK.out _ _ ⟨bc8_ BK248 0, bc8_ BK248 1, bc8_ BK248 2⟩ (fun hHeld => ?_)
             clear hK K
             refine norm_ (a' := ?_) ?_ ?_
             rotate_left; · show Act.put _ (some 59) _ = _; simp only [Act.put, setIfInBounds_toArray, set_cons_zero, set_cons_succ, i64_w, i32_w]; rfl
             refine one_ (i := 10) (N := some 61) m8_37 rfl rfl (one_of HT_.out q8_82) q8_90 (fun K hK => ?_)
             refine goes_ Try.func53 q8_82 rfl #[.agg #[.int .i64 t264, .int .i64 t265, .slice Ao70 t266.length co70], .agg #[.int .i64 a0_0, .int .i64 a0_1, .slice A0_2 l0_2.length c0_2]] (by rfl) rfl rfl q8_79 ?_
             with_reducible refine (grid_Same.calls kj23 t264 t265 _ _ t266 a0_0 a0_1 _ _ l0_2 false _ ?side1 ?side2 ?side3 ?side4 A46.out).mono ?_
             (case side1 => repeat (first | exact (Kd.R_reads' HO268.out).2.2 | (with_reducible refine Kd.C_alloc ?_ _) | (with_reducible refine Kd.C_drewN ?_ _) | (with_reducible refine Kd.C_drew ?_)))
             (case side2 => exact (Kd.R_reads' HO268.out).2.1)
             (case side3 => repeat (first | exact (Kd.C_below HR0_2.out HB.out) | (with_reducible refine Kd.C_alloc ?_ _) | (with_reducible refine Kd.C_drewN ?_ _) | (with_reducible refine Kd.C_drew ?_)))
             (case side4 => exact HC0_2.out)
             rintro e w71 ⟨rfl, hb⟩
             refine ⟨_, rfl, ?_⟩
             have n0_ := A8_ (Kd.R_below q8_89 hb)
             have n1_ := A8_ (Kd.R_below q8_94 hb)
             have n2_ := A8_ (blk_below (g := gb248) (o := .cells #[.int .i64 a0_0, .int .i64 a0_1, .slice A0_2 l0_2.length c0_2] 75 (0, 0)) q8_78 hb)
             have n3_ := A8_ (blk_below (g := gb249) (o := .cells #[.int .i64 a1_0, .int .i64 a1_1, .slice A1_2 l1_2.length c1_2] 75 (0, 0)) q8_80 hb)
             have n4_ := A8_ (blk_below (g := gb250) (o := .cells #[.int .i64 a2_0, .int .i64 a2_1] 84 (0, 0)) q8_81 hb)
             have n5_ := A8_ (blk_below (g := gb259) (o := .cells #[.int .i64 t269, .int .i64 t270, v272] 112 (0, 0)) q8_86 hb)
             have n6_ := A8_ (below_step q8_83 hb)
             clear HO268; clear HO273; clear BK248; clear BK249; clear BK250; clear BK259; clear HB; have HO268 := n0_; have HO273 := n1_; have BK248 := n2_; have BK249 := n3_; have BK250 := n4_; have BK259 := n5_; have HB := n6_; clear n0_ n1_ n2_ n3_ n4_ n5_ n6_; (try clear hb); (try clear hb2); (try clear hk); (try clear hi)
             refine hK.out _ _ ⟨bc8_ BK248 0, bc8_ BK248 1, bc8_ BK248 2⟩ (fun hHeld => ?_)
             clear hK K
             refine norm_ (a' := ?_) ?_ ?_
             rotate_left; · show Act.put _ (some 61) _ = _; simp only [Act.put, setIfInBounds_toArray, set_cons_zero, set_cons_succ, i64_w, i32_w]; rfl
             refine pure_ (i := 11) (N := some 62) (v := ?_) (a' := ?_) m8_40 rfl rfl (any_of HT_.out q8_82) (fun _ _ _ h => h) (Or.inl ⟨by rfl, ?_⟩) ?_ ?_
             rotate_left; · intro w'; go_simp; with_reducible rfl
             rotate_left; · simp only [Act.put, setIfInBounds_toArray, set_cons_zero, set_cons_succ, i64_w, i32_w]; rfl
             refine pure_ (i := 12) (N := some 63) (v := ?_) (a' := ?_) m8_43 rfl rfl (any_of HT_.out q8_82) (fun _ _ _ h => h) (Or.inl ⟨by rfl, ?_⟩) ?_ ?_
             rotate_left; · intro w'; go_simp; with_reducible rfl
             rotate_left; · simp only [Act.put, setIfInBounds_toArray, set_cons_zero, set_cons_succ, i64_w, i32_w]; rfl
             refine pure_ (i := 13) (N := some 64) (v := ?_) (a' := ?_) m8_45 rfl rfl (any_of HT_.out q8_82) (fun _ _ _ h => h) (Or.inl ⟨by rfl, ?_⟩) ?_ ?_
             rotate_left; · intro w'; go_simp; with_reducible rfl
             rotate_left; · simp only [Act.put, setIfInBounds_toArray, set_cons_zero, set_cons_succ, i64_w, i32_w]; rfl
             refine pure_ (i := 14) (N := some 65) (v := undef) (a' := ?_) m8_47 rfl rfl (any_of HT_.out q8_82) (fun _ _ _ h => h) (Or.inr ⟨by rfl, rfl⟩) ?_ ?_
             rotate_left; · simp only [Act.put, setIfInBounds_toArray, set_cons_zero, set_cons_succ, i64_w, i32_w]; rfl
             refine pure_ (i := 15) (N := some 66) (v := undef) (a' := ?_) m8_51 rfl rfl (any_of HT_.out q8_82) (fun _ _ _ h => h) (Or.inr ⟨by rfl, rfl⟩) ?_ ?_
             rotate_left; · simp only [Act.put, setIfInBounds_toArray, set_cons_zero, set_cons_succ, i64_w, i32_w]; rfl
             refine pure_ (i := 16) (N := some 67) (v := undef) (a' := ?_) m8_53 rfl rfl (any_of HT_.out q8_82) (fun _ _ _ h => h) (Or.inr ⟨by rfl, rfl⟩) ?_ ?_
             rotate_left; · simp only [Act.put, setIfInBounds_toArray, set_cons_zero, set_cons_succ, i64_w, i32_w]; rfl
             refine pure_ (i := 17) (N := some 68) (v := undef) (a' := ?_) m8_55 rfl rfl (any_of HT_.out q8_82) (fun _ _ _ h => h) (Or.inr ⟨by rfl, rfl⟩) ?_ ?_
             rotate_left; · simp only [Act.put, setIfInBounds_toArray, set_cons_zero, set_cons_succ, i64_w, i32_w]; rfl
             refine pure_ (i := 18) (N := some 69) (v := undef) (a' := ?_) m8_57 rfl rfl (any_of HT_.out q8_82) (fun _ _ _ h => h) (Or.inr ⟨by rfl, rfl⟩) ?_ ?_
             rotate_left; · simp only [Act.put, setIfInBounds_toArray, set_cons_zero, set_cons_succ, i64_w, i32_w]; rfl
             refine pure_ (i := 19) (N := some 70) (v := ?_) (a' := ?_) m8_59 rfl rfl (any_of HT_.out q8_82) (fun _ _ _ h => h) (Or.inl ⟨by rfl, ?_⟩) ?_ ?_
             rotate_left; · intro w'; go_simp; with_reducible rfl
             rotate_left; · simp only [Act.put, setIfInBounds_toArray, set_cons_zero, set_cons_succ, i64_w, i32_w]; rfl
             refine pure_ (i := 20) (N := some 71) (v := ?_) (a' := ?_) m8_61 rfl rfl (any_of HT_.out q8_82) (fun _ _ _ h => h) (Or.inl ⟨by rfl, ?_⟩) ?_ ?_
             rotate_left; · intro w'; go_simp; with_reducible rfl
             rotate_left; · simp only [Act.put, setIfInBounds_toArray, set_cons_zero, set_cons_succ, i64_w, i32_w]; rfl
             refine pure_ (i := 21) (N := some 72) (v := undef) (a' := ?_) m8_67 rfl rfl (any_of HT_.out q8_82) (fun _ _ _ h => h) (Or.inr ⟨by rfl, rfl⟩) ?_ ?_
             rotate_left; · simp only [Act.put, setIfInBounds_toArray, set_cons_zero, set_cons_succ, i64_w, i32_w]; rfl
             refine pure_ (i := 22) (N := some 73) (v := undef) (a' := ?_) m8_71 rfl rfl (any_of HT_.out q8_82) (fun _ _ _ h => h) (Or.inr ⟨by rfl, rfl⟩) ?_ ?_
             rotate_left; · simp only [Act.put, setIfInBounds_toArray, set_cons_zero, set_cons_succ, i64_w, i32_w]; rfl
             refine pure_ (i := 23) (N := some 74) (v := undef) (a' := ?_) m8_74 rfl rfl (any_of HT_.out q8_82) (fun _ _ _ h => h) (Or.inr ⟨by rfl, rfl⟩) ?_ ?_
             rotate_left; · simp only [Act.put, setIfInBounds_toArray, set_cons_zero, set_cons_succ, i64_w, i32_w]; rfl
             refine pure_ (i := 24) (N := some 75) (v := undef) (a' := ?_) m8_80 rfl rfl (any_of HT_.out q8_82) (fun _ _ _ h => h) (Or.inr ⟨by rfl, rfl⟩) ?_ ?_
             rotate_left; · simp only [Act.put, setIfInBounds_toArray, set_cons_zero, set_cons_succ, i64_w, i32_w]; rfl
             refine pure_ (i := 25) (N := some 76) (v := undef) (a' := ?_) m8_82 rfl rfl (any_of HT_.out q8_82) (fun _ _ _ h => h) (Or.inr ⟨by rfl, rfl⟩) ?_ ?_
             rotate_left; · simp only [Act.put, setIfInBounds_toArray, set_cons_zero, set_cons_succ, i64_w, i32_w]; rfl
             refine pure_ (i := 26) (N := some 77) (v := ?_) (a' := ?_) m8_92 rfl rfl (any_of HT_.out q8_82) (fun _ _ _ h => h) (Or.inl ⟨by rfl, ?_⟩) ?_ ?_
             rotate_left; · intro w'; go_simp; with_reducible rfl
             rotate_left; · simp only [Act.put, setIfInBounds_toArray, set_cons_zero, set_cons_succ, i64_w, i32_w]; rfl
             refine done_ (done_of HT_.out q8_82) ?_
             try go_wp2
             go_meet
             case rel => exact ⟨_, (true), (t269), (t270), (t271), (v272), q8_91, H', ⟨by have := HJ5.out; have := HJ23.out; first | omega | exact Nat.le_refl _⟩, ⟨by (with_reducible repeat (first | apply Kd.R_alloc | apply Kd.R_drewN | apply Kd.R_drew)); exact Kd.R_mono HO273.out (fun _ hk => trivial)⟩, ⟨by (with_reducible repeat (first | refine blk_drewN ?_ _ | refine blk_drew ?_ | refine blk_alloc ?_ _)); exact BK248.out⟩, ⟨by (with_reducible repeat (first | refine blk_drewN ?_ _ | refine blk_drew ?_ | refine blk_alloc ?_ _)); exact BK249.out⟩, ⟨by (with_reducible repeat (first | refine blk_drewN ?_ _ | refine blk_drew ?_ | refine blk_alloc ?_ _)); exact BK250.out⟩, ⟨by (with_reducible repeat (first | refine blk_drewN ?_ _ | refine blk_drew ?_ | refine blk_alloc ?_ _)); exact BK259.out⟩, ⟨by repeat (first | (with_reducible first | exact HB.out | apply below_alloc | apply pw_below_drewN | apply below_drew1 | refine below_set ?_ GE248.out | refine below_set ?_ GE249.out | refine below_set ?_ GE250.out | refine below_set ?_ GE259.out) | exact HB.out)⟩⟩
           ·rw [if_neg c44] at H
            have c44b0 : (t260 == 0) = false := beq_eq_false_iff_ne.mpr c44
            have c44b1 : (t260 != 0) = true := bne_iff_ne.mpr c44
            (first | rw [c44b0] | (simp only [i64_w, i32_w]; rw [c44b0]) | rw [c44b1] | rw [c44b2] | skip)
            have H' := A8_ H
            clear H
            try go_wp2
            have n0_ := A8_ (Kd.R_drew HO_260002.out)
            have n1_ := A8_ (blk_drew BK248.out)
            have n2_ := A8_ (blk_drew BK249.out)
            have n3_ := A8_ (blk_drew BK250.out)
            have n4_ := A8_ (blk_drew BK259.out)
            have n5_ := A8_ (below_drew1 HB.out)
            clear HO_260002; clear BK248; clear BK249; clear BK250; clear BK259; clear HB; have HO_260002 := n0_; have BK248 := n1_; have BK249 := n2_; have BK250 := n3_; have BK259 := n4_; have HB := n5_; clear n0_ n1_ n2_ n3_ n4_ n5_
            refine start_ (n := 27) (S := fun w' => True) (ds := []) m8_1 q8_82 rfl rfl trivial (fun hHeld => ?_); refine with_tabW batonlaw10_GridTells.tab11 batonlaw10_GridTells.bits11 (fun HT_ HW_ => ?_)
            generalize wc.drew = w72 at HO_260002 BK248 BK249 BK250 BK259 HB hHeld ⊢
            refine pure_ (i := 0) (N := some 51) (v := ?_) (a' := ?_) m8_5 rfl rfl (any_of HT_.out q8_82) (fun _ _ _ h => h) (Or.inl ⟨by rfl, ?_⟩) ?_ ?_
            rotate_left; · intro w'; go_simp; with_reducible rfl
            rotate_left; · simp only [Act.put, setIfInBounds_toArray, set_cons_zero, set_cons_succ, i64_w, i32_w]; rfl
            refine pure_ (i := 1) (N := some 52) (v := ?_) (a' := ?_) m8_8 rfl rfl (any_of HT_.out q8_82) (fun _ _ _ h => h) (Or.inl ⟨by rfl, ?_⟩) ?_ ?_
            rotate_left; · intro w'; go_simp; with_reducible rfl
            rotate_left; · simp only [Act.put, setIfInBounds_toArray, set_cons_zero, set_cons_succ, i64_w, i32_w]; rfl
            refine pure_ (i := 2) (N := some 53) (v := ?_) (a' := ?_) m8_14 rfl rfl (any_of HT_.out q8_82) (fun _ _ _ h => h) (Or.inl ⟨by rfl, ?_⟩) ?_ ?_
            rotate_left; · intro w'; go_simp; with_reducible rfl
            rotate_left; · simp only [Act.put, setIfInBounds_toArray, set_cons_zero, set_cons_succ, i64_w, i32_w]; rfl
            refine pure_ (i := 3) (N := some 54) (v := undef) (a' := ?_) m8_16 rfl rfl (any_of HT_.out q8_82) (fun _ _ _ h => h) (Or.inr ⟨by rfl, rfl⟩) ?_ ?_
            rotate_left; · simp only [Act.put, setIfInBounds_toArray, set_cons_zero, set_cons_succ, i64_w, i32_w]; rfl
            refine pure_ (i := 4) (N := some 55) (v := undef) (a' := ?_) m8_19 rfl rfl (any_of HT_.out q8_82) (fun _ _ _ h => h) (Or.inr ⟨by rfl, rfl⟩) ?_ ?_
            rotate_left; · simp only [Act.put, setIfInBounds_toArray, set_cons_zero, set_cons_succ, i64_w, i32_w]; rfl
            refine pure_ (i := 5) (N := some 56) (v := ?_) (a' := ?_) m8_21 rfl rfl (any_of HT_.out q8_82) (fun _ _ _ h => h) (Or.inl ⟨by rfl, ?_⟩) ?_ ?_
            rotate_left; · intro w'; go_simp; with_reducible rfl
            rotate_left; · simp only [Act.put, setIfInBounds_toArray, set_cons_zero, set_cons_succ, i64_w, i32_w]; rfl
            refine pure_ (i := 6) (N := some 57) (v := ?_) (a' := ?_) m8_24 rfl rfl (any_of HT_.out q8_82) (fun _ _ _ h => h) (Or.inl ⟨by rfl, ?_⟩) ?_ ?_
            rotate_left; · intro w'; go_simp; with_reducible rfl
            rotate_left; · simp only [Act.put, setIfInBounds_toArray, set_cons_zero, set_cons_succ, i64_w, i32_w]; rfl
            refine pure_ (i := 7) (N := some 58) (v := undef) (a' := ?_) m8_29 rfl rfl (any_of HT_.out q8_82) (fun _ _ _ h => h) (Or.inr ⟨by rfl, rfl⟩) ?_ ?_
            rotate_left; · simp only [Act.put, setIfInBounds_toArray, set_cons_zero, set_cons_succ, i64_w, i32_w]; rfl
            refine pure_ (i := 8) (N := some 59) (v := undef) (a' := ?_) m8_32 rfl rfl (any_of HT_.out q8_82) (fun _ _ _ h => h) (Or.inr ⟨by rfl, rfl⟩) ?_ ?_
            rotate_left; · simp only [Act.put, setIfInBounds_toArray, set_cons_zero, set_cons_succ, i64_w, i32_w]; rfl
            refine pure_ (i := 9) (N := some 60) (v := undef) (a' := ?_) m8_35 rfl rfl (any_of HT_.out q8_82) (fun _ _ _ h => h) (Or.inr ⟨by rfl, rfl⟩) ?_ ?_
            rotate_left; · simp only [Act.put, setIfInBounds_toArray, set_cons_zero, set_cons_succ, i64_w, i32_w]; rfl
            refine pure_ (i := 10) (N := some 61) (v := undef) (a' := ?_) m8_37 rfl rfl (any_of HT_.out q8_82) (fun _ _ _ h => h) (Or.inr ⟨by rfl, rfl⟩) ?_ ?_
            rotate_left; · simp only [Act.put, setIfInBounds_toArray, set_cons_zero, set_cons_succ, i64_w, i32_w]; rfl
            refine pure_ (i := 11) (N := some 62) (v := undef) (a' := ?_) m8_40 rfl rfl (any_of HT_.out q8_82) (fun _ _ _ h => h) (Or.inr ⟨by rfl, rfl⟩) ?_ ?_
            rotate_left; · simp only [Act.put, setIfInBounds_toArray, set_cons_zero, set_cons_succ, i64_w, i32_w]; rfl
            refine pure_ (i := 12) (N := some 63) (v := ?_) (a' := ?_) m8_43 rfl rfl (any_of HT_.out q8_82) (fun _ _ _ h => h) (Or.inl ⟨by rfl, ?_⟩) ?_ ?_
            rotate_left; · intro w'; go_simp; with_reducible rfl
            rotate_left; · simp only [Act.put, setIfInBounds_toArray, set_cons_zero, set_cons_succ, i64_w, i32_w]; rfl
            refine pure_ (i := 13) (N := some 64) (v := ?_) (a' := ?_) m8_45 rfl rfl (any_of HT_.out q8_82) (fun _ _ _ h => h) (Or.inl ⟨by rfl, ?_⟩) ?_ ?_
            rotate_left; · intro w'; go_simp; with_reducible rfl
            rotate_left; · simp only [Act.put, setIfInBounds_toArray, set_cons_zero, set_cons_succ, i64_w, i32_w]; rfl
            refine pure_ (i := 14) (N := some 65) (v := undef) (a' := ?_) m8_47 rfl rfl (any_of HT_.out q8_82) (fun _ _ _ h => h) (Or.inr ⟨by rfl, rfl⟩) ?_ ?_
            rotate_left; · simp only [Act.put, setIfInBounds_toArray, set_cons_zero, set_cons_succ, i64_w, i32_w]; rfl
            refine pure_ (i := 15) (N := some 66) (v := undef) (a' := ?_) m8_51 rfl rfl (any_of HT_.out q8_82) (fun _ _ _ h => h) (Or.inr ⟨by rfl, rfl⟩) ?_ ?_
            rotate_left; · simp only [Act.put, setIfInBounds_toArray, set_cons_zero, set_cons_succ, i64_w, i32_w]; rfl
            refine pure_ (i := 16) (N := some 67) (v := undef) (a' := ?_) m8_53 rfl rfl (any_of HT_.out q8_82) (fun _ _ _ h => h) (Or.inr ⟨by rfl, rfl⟩) ?_ ?_
            rotate_left; · simp only [Act.put, setIfInBounds_toArray, set_cons_zero, set_cons_succ, i64_w, i32_w]; rfl
            refine pure_ (i := 17) (N := some 68) (v := undef) (a' := ?_) m8_55 rfl rfl (any_of HT_.out q8_82) (fun _ _ _ h => h) (Or.inr ⟨by rfl, rfl⟩) ?_ ?_
            rotate_left; · simp only [Act.put, setIfInBounds_toArray, set_cons_zero, set_cons_succ, i64_w, i32_w]; rfl
            refine pure_ (i := 18) (N := some 69) (v := undef) (a' := ?_) m8_57 rfl rfl (any_of HT_.out q8_82) (fun _ _ _ h => h) (Or.inr ⟨by rfl, rfl⟩) ?_ ?_
            rotate_left; · simp only [Act.put, setIfInBounds_toArray, set_cons_zero, set_cons_succ, i64_w, i32_w]; rfl
            refine pure_ (i := 19) (N := some 70) (v := ?_) (a' := ?_) m8_59 rfl rfl (any_of HT_.out q8_82) (fun _ _ _ h => h) (Or.inl ⟨by rfl, ?_⟩) ?_ ?_
            rotate_left; · intro w'; go_simp; with_reducible rfl
            rotate_left; · simp only [Act.put, setIfInBounds_toArray, set_cons_zero, set_cons_succ, i64_w, i32_w]; rfl
            refine pure_ (i := 20) (N := some 71) (v := ?_) (a' := ?_) m8_61 rfl rfl (any_of HT_.out q8_82) (fun _ _ _ h => h) (Or.inl ⟨by rfl, ?_⟩) ?_ ?_
            rotate_left; · intro w'; go_simp; with_reducible rfl
            rotate_left; · simp only [Act.put, setIfInBounds_toArray, set_cons_zero, set_cons_succ, i64_w, i32_w]; rfl
            refine pure_ (i := 21) (N := some 72) (v := undef) (a' := ?_) m8_67 rfl rfl (any_of HT_.out q8_82) (fun _ _ _ h => h) (Or.inr ⟨by rfl, rfl⟩) ?_ ?_
            rotate_left; · simp only [Act.put, setIfInBounds_toArray, set_cons_zero, set_cons_succ, i64_w, i32_w]; rfl
            refine pure_ (i := 22) (N := some 73) (v := undef) (a' := ?_) m8_71 rfl rfl (any_of HT_.out q8_82) (fun _ _ _ h => h) (Or.inr ⟨by rfl, rfl⟩) ?_ ?_
            rotate_left; · simp only [Act.put, setIfInBounds_toArray, set_cons_zero, set_cons_succ, i64_w, i32_w]; rfl
            refine pure_ (i := 23) (N := some 74) (v := undef) (a' := ?_) m8_74 rfl rfl (any_of HT_.out q8_82) (fun _ _ _ h => h) (Or.inr ⟨by rfl, rfl⟩) ?_ ?_
            rotate_left; · simp only [Act.put, setIfInBounds_toArray, set_cons_zero, set_cons_succ, i64_w, i32_w]; rfl
            refine pure_ (i := 24) (N := some 75) (v := undef) (a' := ?_) m8_80 rfl rfl (any_of HT_.out q8_82) (fun _ _ _ h => h) (Or.inr ⟨by rfl, rfl⟩) ?_ ?_
            rotate_left; · simp only [Act.put, setIfInBounds_toArray, set_cons_zero, set_cons_succ, i64_w, i32_w]; rfl
            refine pure_ (i := 25) (N := some 76) (v := undef) (a' := ?_) m8_82 rfl rfl (any_of HT_.out q8_82) (fun _ _ _ h => h) (Or.inr ⟨by rfl, rfl⟩) ?_ ?_
            rotate_left; · simp only [Act.put, setIfInBounds_toArray, set_cons_zero, set_cons_succ, i64_w, i32_w]; rfl
            refine pure_ (i := 26) (N := some 77) (v := ?_) (a' := ?_) m8_92 rfl rfl (any_of HT_.out q8_82) (fun _ _ _ h => h) (Or.inl ⟨by rfl, ?_⟩) ?_ ?_
            rotate_left; · intro w'; go_simp; with_reducible rfl
            rotate_left; · simp only [Act.put, setIfInBounds_toArray, set_cons_zero, set_cons_succ, i64_w, i32_w]; rfl
            refine done_ (done_of HT_.out q8_82) ?_
            try go_wp2
            go_meet
            case rel => exact ⟨_, (true), (t254), (t255), (t256), (v257), q8_91, H', ⟨by have := HJ5.out; have := HJ23.out; first | omega | exact Nat.le_refl _⟩, ⟨by (with_reducible repeat (first | apply Kd.R_alloc | apply Kd.R_drewN | apply Kd.R_drew)); exact HO_260002.out⟩, ⟨by (with_reducible repeat (first | refine blk_drewN ?_ _ | refine blk_drew ?_ | refine blk_alloc ?_ _)); exact BK248.out⟩, ⟨by (with_reducible repeat (first | refine blk_drewN ?_ _ | refine blk_drew ?_ | refine blk_alloc ?_ _)); exact BK249.out⟩, ⟨by (with_reducible repeat (first | refine blk_drewN ?_ _ | refine blk_drew ?_ | refine blk_alloc ?_ _)); exact BK250.out⟩, ⟨by (with_reducible repeat (first | refine blk_drewN ?_ _ | refine blk_drew ?_ | refine blk_alloc ?_ _)); exact BK259.out⟩, ⟨by repeat (first | (with_reducible first | exact HB.out | apply below_alloc | apply pw_below_drewN | apply below_drew1 | refine below_set ?_ GE248.out | refine below_set ?_ GE249.out | refine below_set ?_ GE250.out | refine below_set ?_ GE259.out) | exact HB.out)⟩⟩
          case rest => as_aux_lemma =>
           clear HC43
           try clear c1
           try clear p2
           try clear c4
           try clear c5
           try clear c44
           try clear c44b0
           try clear c44b1
           try clear c44b2
           try clear c47
           try clear c49
           try clear c53
           try clear c54
           obtain ⟨kq, x77_42, x260000_42, x260001_42, x260002_42, u260002, rfl, HA, HJ42, HO_260002, BK248, BK249, BK250, BK259, HB⟩ := hcut
           cases kq with
           | zero => exact absurd HA.out (by simp [batonlaw10_GridTells.j2])
           | succ kj42 =>
            have H := HA.out
            clear HA
            simp only [batonlaw10_GridTells.j2] at H
            by_cases c73 : x77_42 = true
            ·subst c73
             have H1 : (some false) = some r := by rw [if_pos rfl] at H; exact H
             clear H; have H := H1; clear H1
             obtain rfl := Option.some.inj H
             go_wp2
             go_ret
             exact ⟨by first | rfl | (simp [errW_none, errW_some] <;> rfl) | (simp [*, errW_none, errW_some] <;> rfl), by repeat (first | (with_reducible first | exact HB.out | apply below_alloc | apply pw_below_drewN | apply below_drew1 | refine below_set ?_ GE248.out | refine below_set ?_ GE249.out | refine below_set ?_ GE250.out | refine below_set ?_ GE259.out) | exact HB.out)⟩
            ·replace c73 := Bool.eq_false_iff.mpr c73
             subst c73
             have H1 : ((grid_Board_Row.f x260000_42 x260001_42 x260002_42 a2_0).bind fun bt287 => (if a2_0 < 0 then (batonlaw10_GridTells.j3 kj42 bt287.1 true a0_0 a0_1 l0_2 a2_0 a2_1 bt287.2.1 bt287.2.2.1 bt287.2.2.2) else (batonlaw10_GridTells.j3 kj42 bt287.1 (decide (a2_0 ≥ a0_0)) a0_0 a0_1 l0_2 a2_0 a2_1 bt287.2.1 bt287.2.2.1 bt287.2.2.2))) = some r := by rw [if_neg (show ¬ (false = true) by decide)] at H; exact H
             clear H; have H := H1; clear H1
             replace H := Option.bind_eq_some_iff.mp H
             obtain ⟨⟨t287, t290, t291, t292⟩, A740, H⟩ := H
             replace H : (if a2_0 < 0 then (batonlaw10_GridTells.j3 kj42 t287 true a0_0 a0_1 l0_2 a2_0 a2_1 t290 t291 t292) else (batonlaw10_GridTells.j3 kj42 t287 (decide (a2_0 ≥ a0_0)) a0_0 a0_1 l0_2 a2_0 a2_1 t290 t291 t292)) = some r := H
             have A74 := A8_ A740
             clear A740
             have HC75 := A8_ H
             clear H
             have hnb76 := NB250_248.out
             have hnc76 := NB248_250.out
             have hnb77 := NB250_249.out
             have hnc77 := NB249_250.out
             have hnb78 := NB250_259.out
             have hnc78 := NB259_250.out
             have hcz79_0 : wc.cell? ⟨gb250, 0, none⟩ = some (.int .i64 a2_0) := bc8_ BK250 0
             have hcz79_1 : wc.cell? ⟨gb250, 1, none⟩ = some (.int .i64 a2_1) := bc8_ BK250 1
             have hfz79_0 := blk_frozen BK250.out 0
             have hfz79_1 := blk_frozen BK250.out 1
             obtain ⟨Ao80, co80, eo80⟩ := Kd.R_slice HO_260002.out
             subst eo80
             go_upto_region 14 with (first | ((with_reducible refine gate_callee (f := 50) rfl ?_); refine goesL_ (some 81) rfl rfl Try.func50 q8_82 rfl #[.pointer (some ⟨gb259, 0, none⟩), .int .i64 a2_0] rfl q8_79 ?_; (with_reducible refine (grid_Board_Row.calls gb259 x260000_42 x260001_42 (fun k_ => some k_ = (.slice Ao80 x260002_42.length co80 : Value).ownBlock) (.slice Ao80 x260002_42.length co80) x260002_42 a2_0 t287 t290 t291 t292 w _ ?side2 ?side3 ?side1 ?side4 A74.out).mono ?_); (case side1 => repeat (first | (with_reducible first | exact HB.out | apply below_alloc | apply pw_below_drewN | apply below_drew1 | refine below_set ?_ GE248.out | refine below_set ?_ GE249.out | refine below_set ?_ GE250.out | refine below_set ?_ GE259.out) | exact HB.out)); (case side2 => (with_reducible repeat (first | refine blk_drewN ?_ _ | refine blk_drew ?_ | refine blk_alloc ?_ _)); exact BK259.out); (case side3 => exact GE259.out); (case side4 => exact Kd.R_tight rfl HO_260002.out); rintro e w81 ⟨v288, v293, rfl, ho0, ho1, hbx, hb, hkp⟩; refine ⟨_, rfl, ?_⟩; have n0_ := A8_ (blk_kept q8_78 hkp (fun hs_ => Or.elim hs_ (fun hs_ => (fun e_ => (Kd.R_ne HO_260002.out BK248.out q8_90) e_) hs_) (fun e_ => NB248_259.out e_))); have n1_ := A8_ (blk_kept q8_80 hkp (fun hs_ => Or.elim hs_ (fun hs_ => (fun e_ => (Kd.R_ne HO_260002.out BK249.out q8_90) e_) hs_) (fun e_ => NB249_259.out e_))); have n2_ := A8_ (blk_kept q8_81 hkp (fun hs_ => Or.elim hs_ (fun hs_ => (fun e_ => (Kd.R_ne HO_260002.out BK250.out q8_90) e_) hs_) (fun e_ => NB250_259.out e_))); have n3_ := A8_ (hbx); have n4_ := A8_ (Kd.R_mono (ok' := fun k_ => some k_ ≠ (v293 : Value).ownBlock) ho0 (fun k_ hk_ => hk_.2)); have n5_ := A8_ (Kd.R_mono (ok' := fun k_ => some k_ ≠ (v288 : Value).ownBlock) ho1 (fun k_ hk_ => hk_.2)); have n6_ := A8_ (hb); clear BK248 BK249 BK250 BK259 HB HO_260002; have BK248 := n0_; have BK249 := n1_; have BK250 := n2_; have BK259 := n3_; have HO289 := n4_; have HO294 := n5_; have HB := n6_; clear n0_ n1_ n2_ n3_ n4_ n5_ n6_; (try clear hbx); (try clear hbn); (try clear hgn); (try clear hb); (try clear hkp); (try clear ho0); (try clear ho1)))
             (try simp only [Act.put, setIfInBounds_toArray, set_cons_zero, set_cons_succ])
             go_cut [91] (fun v91 wc => ∃ (kq : Nat) (x91_74 : Bool), v91 = .bool x91_74 /\ Aside0 (batonlaw10_GridTells.j3 kq t287 x91_74 a0_0 a0_1 l0_2 a2_0 a2_1 t290 t291 t292 = some r) /\ Aside0 (kq <= kj42) /\ Aside0 (Kd.R k53 53 wc w.heap.size (fun k_ => some k_ ≠ (v293 : Value).ownBlock) v288 t287) /\ Aside0 (Kd.R k53 53 wc w.heap.size (fun k_ => some k_ ≠ (v288 : Value).ownBlock) v293 t292) /\ Aside0 (wc.heap[gb248]? = some (.cells #[.int .i64 a0_0, .int .i64 a0_1, (.slice A0_2 l0_2.length c0_2)] 75 (0, 0))) /\ Aside0 (wc.heap[gb249]? = some (.cells #[.int .i64 a1_0, .int .i64 a1_1, (.slice A1_2 l1_2.length c1_2)] 75 (0, 0))) /\ Aside0 (wc.heap[gb250]? = some (.cells #[.int .i64 a2_0, .int .i64 a2_1] 84 (0, 0))) /\ Aside0 (wc.heap[gb259]? = some (.cells #[.int .i64 t290, .int .i64 t291, v293] 112 (0, 0))) /\ Aside0 (Below w.heap.size w wc))
             case first => as_aux_lemma =>
              have H := HC75.out
              clear HC75
              by_cases c82 : a2_0 < 0
              ·rw [if_pos c82] at H
               have c82b0 : decide (a2_0 < 0) = true := decide_eq_true c82
               clear c82
               (first | rw [c82b0] | (simp only [i64_w, i32_w]; rw [c82b0]) | rw [c82b1] | rw [c82b2] | skip)
               have H' := A8_ H
               clear H
               have hnb83 := NB250_248.out
               have hnc83 := NB248_250.out
               have hnb84 := NB250_249.out
               have hnc84 := NB249_250.out
               have hnb85 := NB250_259.out
               have hnc85 := NB259_250.out
               have hcz86_0 : w81.cell? ⟨gb250, 0, none⟩ = some (.int .i64 a2_0) := bc8_ BK250 0
               have hcz86_1 : w81.cell? ⟨gb250, 1, none⟩ = some (.int .i64 a2_1) := bc8_ BK250 1
               have hfz86_0 := blk_frozen BK250.out 0
               have hfz86_1 := blk_frozen BK250.out 1
               go_wp2
               go_meet
               case rel => exact ⟨_, (true), q8_91, H', ⟨by have := HJ5.out; have := HJ23.out; have := HJ42.out; first | omega | exact Nat.le_refl _⟩, ⟨by (with_reducible repeat (first | apply Kd.R_alloc | apply Kd.R_drewN | apply Kd.R_drew)); exact HO289.out⟩, ⟨by (with_reducible repeat (first | apply Kd.R_alloc | apply Kd.R_drewN | apply Kd.R_drew)); exact HO294.out⟩, ⟨by (with_reducible repeat (first | refine blk_drewN ?_ _ | refine blk_drew ?_ | refine blk_alloc ?_ _)); exact BK248.out⟩, ⟨by (with_reducible repeat (first | refine blk_drewN ?_ _ | refine blk_drew ?_ | refine blk_alloc ?_ _)); exact BK249.out⟩, ⟨by (with_reducible repeat (first | refine blk_drewN ?_ _ | refine blk_drew ?_ | refine blk_alloc ?_ _)); exact BK250.out⟩, ⟨by (with_reducible repeat (first | refine blk_drewN ?_ _ | refine blk_drew ?_ | refine blk_alloc ?_ _)); exact BK259.out⟩, ⟨by repeat (first | (with_reducible first | exact HB.out | apply below_alloc | apply pw_below_drewN | apply below_drew1 | refine below_set ?_ GE248.out | refine below_set ?_ GE249.out | refine below_set ?_ GE250.out | refine below_set ?_ GE259.out) | exact HB.out)⟩⟩
              ·rw [if_neg c82] at H
               have c82b0 : decide (a2_0 < 0) = false := decide_eq_false c82
               clear c82
               (first | rw [c82b0] | (simp only [i64_w, i32_w]; rw [c82b0]) | rw [c82b1] | rw [c82b2] | skip)
               have H' := A8_ H
               clear H
               have hnb87 := NB250_248.out
               have hnc87 := NB248_250.out
               have hnb88 := NB250_249.out
               have hnc88 := NB249_250.out
               have hnb89 := NB250_259.out
               have hnc89 := NB259_250.out
               have hcz90_0 : w81.cell? ⟨gb250, 0, none⟩ = some (.int .i64 a2_0) := bc8_ BK250 0
               have hcz90_1 : w81.cell? ⟨gb250, 1, none⟩ = some (.int .i64 a2_1) := bc8_ BK250 1
               have hfz90_0 := blk_frozen BK250.out 0
               have hfz90_1 := blk_frozen BK250.out 1
               have hnb91 := NB248_249.out
               have hnc91 := NB249_248.out
               have hnb92 := NB248_259.out
               have hnc92 := NB259_248.out
               have hcz93_0 : w81.cell? ⟨gb248, 0, none⟩ = some (.int .i64 a0_0) := bc8_ BK248 0
               have hcz93_1 : w81.cell? ⟨gb248, 1, none⟩ = some (.int .i64 a0_1) := bc8_ BK248 1
               have hcz93_2 : w81.cell? ⟨gb248, 2, none⟩ = some (.slice A0_2 l0_2.length c0_2) := bc8_ BK248 2
               have hfz93_0 := blk_frozen BK248.out 0
               have hfz93_1 := blk_frozen BK248.out 1
               have hfz93_2 := blk_frozen BK248.out 2
               go_wp2
               go_meet
               case rel => exact ⟨_, (decide (a2_0 ≥ a0_0)), q8_91, H', ⟨by have := HJ5.out; have := HJ23.out; have := HJ42.out; first | omega | exact Nat.le_refl _⟩, ⟨by (with_reducible repeat (first | apply Kd.R_alloc | apply Kd.R_drewN | apply Kd.R_drew)); exact HO289.out⟩, ⟨by (with_reducible repeat (first | apply Kd.R_alloc | apply Kd.R_drewN | apply Kd.R_drew)); exact HO294.out⟩, ⟨by (with_reducible repeat (first | refine blk_drewN ?_ _ | refine blk_drew ?_ | refine blk_alloc ?_ _)); exact BK248.out⟩, ⟨by (with_reducible repeat (first | refine blk_drewN ?_ _ | refine blk_drew ?_ | refine blk_alloc ?_ _)); exact BK249.out⟩, ⟨by (with_reducible repeat (first | refine blk_drewN ?_ _ | refine blk_drew ?_ | refine blk_alloc ?_ _)); exact BK250.out⟩, ⟨by (with_reducible repeat (first | refine blk_drewN ?_ _ | refine blk_drew ?_ | refine blk_alloc ?_ _)); exact BK259.out⟩, ⟨by repeat (first | (with_reducible first | exact HB.out | apply below_alloc | apply pw_below_drewN | apply below_drew1 | refine below_set ?_ GE248.out | refine below_set ?_ GE249.out | refine below_set ?_ GE250.out | refine below_set ?_ GE259.out) | exact HB.out)⟩⟩
             case rest => as_aux_lemma =>
              clear HC75
              try clear c1
              try clear p2
              try clear c4
              try clear c5
              try clear c7
              try clear c8
              try clear c9
              try clear c44
              try clear c44b0
              try clear c44b1
              try clear c44b2
              try clear c47
              try clear c49
              try clear c50
              try clear c53
              try clear c54
              try clear c73
              try clear c76
              try clear c77
              try clear c78
              try clear c82
              try clear c82b0
              try clear c82b1
              try clear c82b2
              try clear c83
              try clear c84
              try clear c85
              try clear c87
              try clear c88
              try clear c89
              try clear c91
              try clear c92
              try clear hcz79_0
              try clear hcz79_1
              try clear hcz86_0
              try clear hcz86_1
              try clear hcz90_0
              try clear hcz90_1
              try clear hcz93_0
              try clear hcz93_1
              try clear hcz93_2
              try clear hfz79_0
              try clear hfz79_1
              try clear hfz86_0
              try clear hfz86_1
              try clear hfz90_0
              try clear hfz90_1
              try clear hfz93_0
              try clear hfz93_1
              try clear hfz93_2
              try clear p2
              obtain ⟨kq, x91_74, rfl, HA, HJ74, HO_10, HO_260002, BK248, BK249, BK250, BK259, HB⟩ := hcut
              cases kq with
              | zero => exact absurd HA.out (by simp [batonlaw10_GridTells.j3])
              | succ kj74 =>
               have H := HA.out
               clear HA
               simp only [batonlaw10_GridTells.j3] at H
               by_cases c94 : x91_74 = true
               ·subst c94
                have H1 : (if (t287.length : Int) = 0 then ((grid_Board_At.f t290 t291 t292 a2_0 a2_1).bind fun bt295 => (some (bt295.1 == 0 && ((bt295.2.1 == 0 && (bt295.2.2.1 == 0 && (bt295.2.2.2.1 == 0))))))) else (some false)) = some r := by rw [if_pos rfl] at H; exact H
                clear H; have H := H1; clear H1
                by_cases c95 : (t287.length : Int) = 0
                ·rw [if_pos c95] at H
                 have c95b0 : ((t287.length : Int) == 0) = true := beq_iff_eq.mpr c95
                 have c95b1 : ((t287.length : Int) != 0) = false := bne_eq_false_iff_eq.mpr c95
                 clear c95
                 replace H := Option.bind_eq_some_iff.mp H
                 obtain ⟨⟨t295, t296, t297, t298, t299, t300, t301⟩, A960, H⟩ := H
                 replace H : (some (t295 == 0 && ((t296 == 0 && (t297 == 0 && (t298 == 0)))))) = some r := H
                 have A96 := A8_ A960
                 clear A960
                 obtain rfl := Option.some.inj H
                 obtain ⟨Ao97, co97, eo97⟩ := Kd.R_slice HO_10.out
                 subst eo97
                 have hnb98 := NB250_248.out
                 have hnc98 := NB248_250.out
                 have hnb99 := NB250_249.out
                 have hnc99 := NB249_250.out
                 have hnb100 := NB250_259.out
                 have hnc100 := NB259_250.out
                 have hcz101_0 : wc.cell? ⟨gb250, 0, none⟩ = some (.int .i64 a2_0) := bc8_ BK250 0
                 have hcz101_1 : wc.cell? ⟨gb250, 1, none⟩ = some (.int .i64 a2_1) := bc8_ BK250 1
                 have hfz101_0 := blk_frozen BK250.out 0
                 have hfz101_1 := blk_frozen BK250.out 1
                 obtain ⟨Ao102, co102, eo102⟩ := Kd.R_slice HO_260002.out
                 subst eo102
                 go_wp2_with (first | (go_at_call 56; (with_reducible refine (grid_Board_At.calls gb259 t290 t291 (fun k_ => some k_ = (.slice Ao102 t292.length co102 : Value).ownBlock) (.slice Ao102 t292.length co102) t292 a2_0 a2_1 t295 t296 t297 t298 t299 t300 t301 w _ ?side2 ?side3 ?side1 ?side4 A96.out).mono ?_); (case side1 => repeat (first | (with_reducible first | exact HB.out | apply below_alloc | apply pw_below_drewN | apply below_drew1 | refine below_set ?_ GE248.out | refine below_set ?_ GE249.out | refine below_set ?_ GE250.out | refine below_set ?_ GE259.out) | exact HB.out)); (case side2 => (with_reducible repeat (first | refine blk_drewN ?_ _ | refine blk_drew ?_ | refine blk_alloc ?_ _)); exact BK259.out); (case side3 => exact GE259.out); (case side4 => exact Kd.R_tight rfl HO_260002.out); rintro e w103 ⟨v302, rfl, ho0, hbx, hb, hkp⟩; have n0_ := A8_ (Kd.R_mono (ok' := fun k_ => some k_ ≠ (v302 : Value).ownBlock) (Kd.R_keptB ((Kd.R_types HO_10.out (show (World.heap _)[gb259]? = some (.cells #[.int .i64 t290, .int .i64 t291, .slice Ao102 t292.length co102] 112 (0, 0)) from by (with_reducible repeat (first | refine blk_drewN ?_ _ | refine blk_drew ?_ | refine blk_alloc ?_ _)); exact BK259.out) q8_90)) hkp (fun k_ hk_ hs_ => Or.elim hs_ (fun hs_ => (hk_.1) hs_) (fun e_ => (hk_.2) e_))) (fun k_ hk_ => fun e_ => Or.elim (ho0.1 k_ e_.symm) (fun hs_ => hk_.2.1 (.inl hs_)) (fun hn_ => Nat.not_le.2 hk_.2.2 hn_))); have n1_ := A8_ (blk_kept q8_78 hkp (fun hs_ => Or.elim hs_ (fun hs_ => (fun e_ => (Kd.R_ne HO_260002.out BK248.out q8_90) e_) hs_) (fun e_ => NB248_259.out e_))); have n2_ := A8_ (blk_kept q8_80 hkp (fun hs_ => Or.elim hs_ (fun hs_ => (fun e_ => (Kd.R_ne HO_260002.out BK249.out q8_90) e_) hs_) (fun e_ => NB249_259.out e_))); have n3_ := A8_ (blk_kept q8_81 hkp (fun hs_ => Or.elim hs_ (fun hs_ => (fun e_ => (Kd.R_ne HO_260002.out BK250.out q8_90) e_) hs_) (fun e_ => NB250_259.out e_))); have n4_ := A8_ (hbx); have n5_ := A8_ (Kd.R_mono (ok' := fun k_ => some k_ ≠ (.slice Ao97 t287.length co97 : Value).ownBlock) ho0 (fun k_ hk_ => Or.elim hk_ (fun hs_ => fun e_ => ((((Kd.R_types HO_10.out (show (World.heap _)[gb259]? = some (.cells #[.int .i64 t290, .int .i64 t291, .slice Ao102 t292.length co102] 112 (0, 0)) from by (with_reducible repeat (first | refine blk_drewN ?_ _ | refine blk_drew ?_ | refine blk_alloc ?_ _)); exact BK259.out) q8_90)).1 k_ e_.symm).1) hs_) (fun hn_ => (Kd.fresh' (Kd.R_lt q8_93) k_ hn_)))); have n6_ := A8_ (hb); clear HO_10 BK248 BK249 BK250 BK259 HB HO_260002; have HO_10 := n0_; have BK248 := n1_; have BK249 := n2_; have BK250 := n3_; have BK259 := n4_; have HO303 := n5_; have HB := n6_; clear n0_ n1_ n2_ n3_ n4_ n5_ n6_; (try clear hbx); (try clear hbn); (try clear hgn); (try clear hb); (try clear hkp); (try clear ho0)))
                 go_ret
                 exact ⟨by first | rfl | (simp [errW_none, errW_some] <;> rfl) | (simp [*, errW_none, errW_some] <;> rfl), by repeat (first | (with_reducible first | exact HB.out | apply below_alloc | apply pw_below_drewN | apply below_drew1 | refine below_set ?_ GE248.out | refine below_set ?_ GE249.out | refine below_set ?_ GE250.out | refine below_set ?_ GE259.out) | exact HB.out)⟩
                ·rw [if_neg c95] at H
                 have c95b0 : ((t287.length : Int) == 0) = false := beq_eq_false_iff_ne.mpr c95
                 have c95b1 : ((t287.length : Int) != 0) = true := bne_iff_ne.mpr c95
                 have c95b2 : ¬ (t287 = []) := fun h_ => c95 (by rw [h_]; rfl)
                 obtain rfl := Option.some.inj H
                 obtain ⟨Ao104, co104, eo104⟩ := Kd.R_slice HO_10.out
                 subst eo104
                 go_wp2
                 go_ret
                 exact ⟨by first | rfl | (simp [errW_none, errW_some] <;> rfl) | (simp [*, errW_none, errW_some] <;> rfl), by repeat (first | (with_reducible first | exact HB.out | apply below_alloc | apply pw_below_drewN | apply below_drew1 | refine below_set ?_ GE248.out | refine below_set ?_ GE249.out | refine below_set ?_ GE250.out | refine below_set ?_ GE259.out) | exact HB.out)⟩
               ·replace c94 := Bool.eq_false_iff.mpr c94
                subst c94
                have H1 : (if 0 <= (wrap64 (a2_0 * a0_1)) then (if (wrap64 (a2_0 * a0_1)) <= (wrap64 ((wrap64 (a2_0 * a0_1)) + a0_1)) then (if (wrap64 ((wrap64 (a2_0 * a0_1)) + a0_1)) <= (l0_2.length : Int) then ((batonref09_Same.f kj74 t287 ((l0_2.take ((wrap64 ((wrap64 (a2_0 * a0_1)) + a0_1)) : Int).toNat).drop ((wrap64 (a2_0 * a0_1)) : Int).toNat)).bind fun t308 => (if t308 = true then ((grid_Board_At.f t290 t291 t292 a2_0 a2_1).bind fun bt309 => ((batonref10_At.f a0_0 a0_1 l0_2 a2_0 a2_1 0 0 0 0).bind fun bt318 => (some (bt309.1 == bt318.1 && ((bt309.2.1 == bt318.2.1 && (bt309.2.2.1 == bt318.2.2.1 && (bt309.2.2.2.1 == bt318.2.2.2)))))))) else (some false))) else (none)) else (none)) else (none)) = some r := by rw [if_neg (show ¬ (false = true) by decide)] at H; exact H
                clear H; have H := H1; clear H1
                obtain ⟨ji105, hji105⟩ : ∃ j_ : Int, (wrap64 (a2_0 * a0_1)) = j_ := ⟨_, rfl⟩
                replace H : (if 0 <= (ji105) then (if (ji105) <= (wrap64 ((ji105) + a0_1)) then (if (wrap64 ((ji105) + a0_1)) <= (l0_2.length : Int) then ((batonref09_Same.f kj74 t287 ((l0_2.take ((wrap64 ((ji105) + a0_1)) : Int).toNat).drop ((ji105) : Int).toNat)).bind fun t308 => (if t308 = true then ((grid_Board_At.f t290 t291 t292 a2_0 a2_1).bind fun bt309 => ((batonref10_At.f a0_0 a0_1 l0_2 a2_0 a2_1 0 0 0 0).bind fun bt318 => (some (bt309.1 == bt318.1 && ((bt309.2.1 == bt318.2.1 && (bt309.2.2.1 == bt318.2.2.1 && (bt309.2.2.2.1 == bt318.2.2.2)))))))) else (some false))) else (none)) else (none)) else (none)) = some r := by first | (rw [hji105] at H; exact H) | (simp only [hji105] at H ⊢; exact H)
                have hji105w : (IntKind.i64.wrap (a2_0 * a0_1)) = ji105 := (i64_w _).trans hji105
                by_cases c106 : 0 <= (ji105)
                ·rw [if_pos c106] at H
                 have c106b0 := eq_true c106
                 have c106b1 : decide (0 <= (ji105)) = true := decide_eq_true c106
                 clear c106
                 obtain ⟨ji107, hji107⟩ : ∃ j_ : Int, (wrap64 ((ji105) + a0_1)) = j_ := ⟨_, rfl⟩
                 replace H : (if (ji105) <= (ji107) then (if (ji107) <= (l0_2.length : Int) then ((batonref09_Same.f kj74 t287 ((l0_2.take ((ji107) : Int).toNat).drop ((ji105) : Int).toNat)).bind fun t308 => (if t308 = true then ((grid_Board_At.f t290 t291 t292 a2_0 a2_1).bind fun bt309 => ((batonref10_At.f a0_0 a0_1 l0_2 a2_0 a2_1 0 0 0 0).bind fun bt318 => (some (bt309.1 == bt318.1 && ((bt309.2.1 == bt318.2.1 && (bt309.2.2.1 == bt318.2.2.1 && (bt309.2.2.2.1 == bt318.2.2.2)))))))) else (some false))) else (none)) else (none)) = some r := by first | (rw [hji107] at H; exact H) | (simp only [hji107] at H ⊢; exact H)
                 have hji107w : (IntKind.i64.wrap ((ji105) + a0_1)) = ji107 := (i64_w _).trans hji107
                 by_cases c108 : (ji105) <= (ji107)
                 ·rw [if_pos c108] at H
                  have c108b0 := eq_true c108
                  have c108b1 : decide ((ji105) <= (ji107)) = true := decide_eq_true c108
                  clear c108
                  by_cases c109 : (ji107) <= (l0_2.length : Int)
                  ·rw [if_pos c109] at H
                   have c109b0 := eq_true c109
                   have c109b1 : decide ((ji107) <= (l0_2.length : Int)) = true := decide_eq_true c109
                   clear c109
                   obtain ⟨y304, hy304⟩ : ∃ y_ : List (S53), y_ = ((l0_2.take ((ji107) : Int).toNat).drop ((ji105) : Int).toNat) := ⟨_, rfl⟩
                   replace H : ((batonref09_Same.f kj74 t287 y304).bind fun t308 => (if t308 = true then ((grid_Board_At.f t290 t291 t292 a2_0 a2_1).bind fun bt309 => ((batonref10_At.f a0_0 a0_1 l0_2 a2_0 a2_1 0 0 0 0).bind fun bt318 => (some (bt309.1 == bt318.1 && ((bt309.2.1 == bt318.2.1 && (bt309.2.2.1 == bt318.2.2.1 && (bt309.2.2.2.1 == bt318.2.2.2)))))))) else (some false))) = some r := by first | (rw [hy304]; with_reducible exact H) | (have H2_ := (Option.bind_some _ _).symm.trans H; rw [hy304]; with_reducible exact H2_) | (have H2_ := (Option.bind_some _ _).symm.trans H; with_reducible exact H2_) | with_reducible exact H | (rw [hy304]; exact H) | exact H
                   have Ny304 := A8_ hy304
                   clear hy304
                   replace H := Option.bind_eq_some_iff.mp H
                   obtain ⟨t308, A1100, H⟩ := H
                   replace H : (if t308 = true then ((grid_Board_At.f t290 t291 t292 a2_0 a2_1).bind fun bt309 => ((batonref10_At.f a0_0 a0_1 l0_2 a2_0 a2_1 0 0 0 0).bind fun bt318 => (some (bt309.1 == bt318.1 && ((bt309.2.1 == bt318.2.1 && (bt309.2.2.1 == bt318.2.2.1 && (bt309.2.2.2.1 == bt318.2.2.2)))))))) else (some false)) = some r := H
                   have A110 := A8_ A1100
                   clear A1100
                   by_cases c111 : t308 = true
                   ·subst c111
                    have H1 : ((grid_Board_At.f t290 t291 t292 a2_0 a2_1).bind fun bt309 => ((batonref10_At.f a0_0 a0_1 l0_2 a2_0 a2_1 0 0 0 0).bind fun bt318 => (some (bt309.1 == bt318.1 && ((bt309.2.1 == bt318.2.1 && (bt309.2.2.1 == bt318.2.2.1 && (bt309.2.2.2.1 == bt318.2.2.2)))))))) = some r := by rw [if_pos rfl] at H; exact H
                    clear H; have H := H1; clear H1
                    replace H := Option.bind_eq_some_iff.mp H
                    obtain ⟨⟨t309, t310, t311, t312, t313, t314, t315⟩, A1120, H⟩ := H
                    replace H : ((batonref10_At.f a0_0 a0_1 l0_2 a2_0 a2_1 0 0 0 0).bind fun bt318 => (some (t309 == bt318.1 && ((t310 == bt318.2.1 && (t311 == bt318.2.2.1 && (t312 == bt318.2.2.2))))))) = some r := H
                    have A112 := A8_ A1120
                    clear A1120
                    replace H := Option.bind_eq_some_iff.mp H
                    obtain ⟨⟨t318, t319, t320, t321⟩, A1130, H⟩ := H
                    replace H : (some (t309 == t318 && ((t310 == t319 && (t311 == t320 && (t312 == t321)))))) = some r := H
                    have A113 := A8_ A1130
                    clear A1130
                    obtain rfl := Option.some.inj H
                    try go_wp2
                    have n0_ := A8_ (Kd.R_drew HO_10.out)
                    have n1_ := A8_ (Kd.R_drew HO_260002.out)
                    have n2_ := A8_ (blk_drew BK248.out)
                    have n3_ := A8_ (blk_drew BK249.out)
                    have n4_ := A8_ (blk_drew BK250.out)
                    have n5_ := A8_ (blk_drew BK259.out)
                    have n6_ := A8_ (below_drew1 HB.out)
                    clear HO_10; clear HO_260002; clear BK248; clear BK249; clear BK250; clear BK259; clear HB; have HO_10 := n0_; have HO_260002 := n1_; have BK248 := n2_; have BK249 := n3_; have BK250 := n4_; have BK259 := n5_; have HB := n6_; clear n0_ n1_ n2_ n3_ n4_ n5_ n6_
                    have q115 : ((ji107) : Int) <= ((l0_2.length : Int) : Int) := of_decide_eq_true q8_92
                    obtain ⟨i0115, hi0115, _, hsz115, _⟩ := info_parts info53
                    have hroom115 : l0_2.length <= c0_2 := HC0_2.out
                    have hC115 : Kd.C k53 _ A0_2 l0_2.length l0_2 := HR0_2.out
                    have ql115 : ((ji105) : Int) <= ((ji107) : Int) := of_decide_eq_true q8_92
                    have q0115 : (0 : Int) <= ((ji105) : Int) := of_decide_eq_true q8_92
                    have hcut115 := fun kl_ kh_ => cut_mid (P := Try.prog) 47 53 kl_ kh_ Try.underlying47 hi0115 4 hsz115 A0_2 l0_2.length c0_2 (ji105) (ji107) q0115 ql115 q115 hroom115
                    have hr115 := Kd.C_mid (lo := ((ji105) : Int).toNat) (hi := ((ji107) : Int).toNat) (c := c0_2) hC115 (by omega) (by omega) hroom115
                    obtain ⟨A115, hA115⟩ : ∃ A1, A1 = (if c0_2 = ((ji105) : Int).toNat then A0_2 else (A0_2 : Option Addr).map (·.add (((ji105) : Int).toNat * 4))) := ⟨_, rfl⟩
                    obtain ⟨c115, hc115⟩ : ∃ c1, c1 = c0_2 - ((ji105) : Int).toNat := ⟨_, rfl⟩
                    have hy115 : y304.length = ((ji107) : Int).toNat - ((ji105) : Int).toNat := (by rw [Ny304.out, List.length_drop, List.length_take] <;> omega)
                    rw [show ((l0_2).take ((ji107) : Int).toNat).drop ((ji105) : Int).toNat = y304 from Ny304.out.symm] at hr115
                    replace hr115 : Kd.C k53 _ A115 y304.length y304 := (by rw [hA115]; exact hr115)
                    rw [← hy115, ← hA115, ← hc115] at hcut115
                    have HR307 := A8_ hr115
                    have HC307 := A8_ (show y304.length <= c115 from by rw [hy115, hc115]; exact Nat.sub_le_sub_right (Nat.le_trans (by omega) hroom115) _)
                    clear hr115 hC115 hroom115 hi0115 hsz115 hc115
                    have KY115 := A8_ hy115
                    have KA115 := A8_ hA115
                    clear hy115 hA115
                    replace q115 := eq_true q115
                    obtain ⟨Ao116, co116, eo116⟩ := Kd.R_slice HO_10.out
                    (first | subst eo116 | (injection eo116 with f1_ f2_ f3_; have f4_ := f1_.symm; have f5_ := f3_.symm; clear f1_ f2_ f3_; subst f4_; subst f5_))
                    refine start_ (n := 35) (S := fun w' => w'.cell? ⟨gb248, 0, none⟩ = some (.int .i64 a0_0) /\ w'.cell? ⟨gb248, 1, none⟩ = some (.int .i64 a0_1) /\ w'.cell? ⟨gb248, 2, none⟩ = some (.slice A0_2 l0_2.length c0_2) /\ w'.cell? ⟨gb250, 0, none⟩ = some (.int .i64 a2_0) /\ w'.cell? ⟨gb250, 1, none⟩ = some (.int .i64 a2_1)) (ds := []) m8_0 q8_82 rfl rfl ⟨bc8_ BK248 0, bc8_ BK248 1, bc8_ BK248 2, bc8_ BK250 0, bc8_ BK250 1⟩ (fun hHeld => ?_); refine with_tabW batonlaw10_GridTells.tab16 batonlaw10_GridTells.bits16 (fun HT_ HW_ => ?_)
                    generalize wc.drew = w114 at HO_10 HO_260002 BK248 BK249 BK250 BK259 HB HR307 hHeld ⊢
                    refine pure_ (i := 0) (N := some 105) (v := ?_) (a' := ?_) m8_4 rfl rfl (any_of HT_.out q8_82) (fun _ _ _ h => h) (Or.inl ⟨by rfl, ?_⟩) ?_ ?_
                    rotate_left; · intro w'; go_simp; with_reducible rfl
                    rotate_left; · simp only [Act.put, setIfInBounds_toArray, set_cons_zero, set_cons_succ, i64_w, i32_w]; rfl
                    refine pure_ (i := 1) (N := some 106) (v := ?_) (a' := ?_) m8_7 rfl rfl (any_of HT_.out q8_82) (fun _ _ _ h => h) (Or.inl ⟨by rfl, ?_⟩) ?_ ?_
                    rotate_left; · intro w'; go_simp; with_reducible rfl
                    rotate_left; · simp only [Act.put, setIfInBounds_toArray, set_cons_zero, set_cons_succ, i64_w, i32_w]; rfl
                    refine pure_ (i := 3) (N := some 108) (v := ?_) (a' := ?_) m8_9 rfl rfl (any_of HT_.out q8_82) (fun _ _ _ h => h) (Or.inl ⟨by rfl, ?_⟩) ?_ ?_
                    rotate_left; · intro w'; go_simp; with_reducible rfl
                    rotate_left; · simp only [Act.put, setIfInBounds_toArray, set_cons_zero, set_cons_succ, i64_w, i32_w]; rfl
                    refine pure_ (i := 5) (N := some 110) (v := ?_) (a' := ?_) m8_10 rfl rfl (any_of HT_.out q8_82) (fun _ _ _ h => h) (Or.inl ⟨by rfl, ?_⟩) ?_ ?_
                    rotate_left; · intro w'; go_simp; with_reducible rfl
                    rotate_left; · simp only [Act.put, setIfInBounds_toArray, set_cons_zero, set_cons_succ, i64_w, i32_w]; rfl
                    refine pure_ (i := 8) (N := some 113) (v := ?_) (a' := ?_) m8_11 rfl rfl (any_of HT_.out q8_82) (fun _ _ _ h => h) (Or.inl ⟨by rfl, ?_⟩) ?_ ?_
                    rotate_left; · intro w'; go_simp; with_reducible rfl
                    rotate_left; · simp only [Act.put, setIfInBounds_toArray, set_cons_zero, set_cons_succ, i64_w, i32_w]; rfl
                    refine pure_ (i := 10) (N := some 115) (v := ?_) (a' := ?_) m8_12 rfl rfl (any_of HT_.out q8_82) (fun _ _ _ h => h) (Or.inl ⟨by rfl, ?_⟩) ?_ ?_
                    rotate_left; · intro w'; go_simp; with_reducible rfl
                    rotate_left; · simp only [Act.put, setIfInBounds_toArray, set_cons_zero, set_cons_succ, i64_w, i32_w]; rfl
                    refine pure_ (i := 13) (N := some 118) (v := ?_) (a' := ?_) m8_13 rfl rfl (any_of HT_.out q8_82) (fun _ _ _ h => h) (Or.inl ⟨by rfl, ?_⟩) ?_ ?_
                    rotate_left; · intro w'; go_simp; with_reducible rfl
                    rotate_left; · simp only [Act.put, setIfInBounds_toArray, set_cons_zero, set_cons_succ, i64_w, i32_w]; rfl
                    refine take_ (i := 2) (N := some 107) (v := ?_) (a' := ?_) m8_18 rfl rfl (take_ofW HT_.out HW_.out q8_82) (fun _ _ _ h => h) (Or.inl ⟨by rfl, ?_⟩) hHeld ?_ ?_
                    rotate_left; · rintro w' ⟨s0, s1, s2, s3, s4⟩; go_simp; with_reducible rfl
                    rotate_left; · simp only [Act.put, setIfInBounds_toArray, set_cons_zero, set_cons_succ, i64_w, i32_w]; rfl
                    refine take_ (i := 4) (N := some 109) (v := ?_) (a' := ?_) m8_23 rfl rfl (take_ofW HT_.out HW_.out q8_82) (fun _ _ _ h => h) (Or.inl ⟨by rfl, ?_⟩) hHeld ?_ ?_
                    rotate_left; · rintro w' ⟨s0, s1, s2, s3, s4⟩; go_simp; with_reducible rfl
                    rotate_left; · simp only [Act.put, setIfInBounds_toArray, set_cons_zero, set_cons_succ, i64_w, i32_w]; rfl
                    refine take_ (i := 6) (N := some 111) (v := ?_) (a' := ?_) m8_27 rfl rfl (take_ofW HT_.out HW_.out q8_82) (fun _ _ _ h => h) (Or.inl ⟨by rfl, ?_⟩) hHeld ?_ ?_
                    rotate_left; · rintro w' ⟨s0, s1, s2, s3, s4⟩; go_simp; with_reducible rfl
                    rotate_left; · simp only [Act.put, setIfInBounds_toArray, set_cons_zero, set_cons_succ, i64_w, i32_w]; rfl
                    refine pure_ (i := 7) (N := some 112) (v := ?_) (a' := ?_) m8_34 rfl rfl (any_of HT_.out q8_82) (fun _ _ _ h => h) (Or.inl ⟨by rfl, ?_⟩) ?_ ?_
                    rotate_left; · intro w'; go_simp; with_reducible rfl
                    rotate_left; · simp only [Act.put, setIfInBounds_toArray, set_cons_zero, set_cons_succ, i64_w, i32_w]; rfl
                    refine take_ (i := 9) (N := some 114) (v := ?_) (a' := ?_) m8_38 rfl rfl (take_ofW HT_.out HW_.out q8_82) (fun _ _ _ h => h) (Or.inl ⟨by rfl, ?_⟩) hHeld ?_ ?_
                    rotate_left; · rintro w' ⟨s0, s1, s2, s3, s4⟩; go_simp; with_reducible rfl
                    rotate_left; · simp only [Act.put, setIfInBounds_toArray, set_cons_zero, set_cons_succ, i64_w, i32_w]; rfl
                    refine take_ (i := 11) (N := some 116) (v := ?_) (a' := ?_) m8_41 rfl rfl (take_ofW HT_.out HW_.out q8_82) (fun _ _ _ h => h) (Or.inl ⟨by rfl, ?_⟩) hHeld ?_ ?_
                    rotate_left; · rintro w' ⟨s0, s1, s2, s3, s4⟩; go_simp; with_reducible rfl
                    rotate_left; · simp only [Act.put, setIfInBounds_toArray, set_cons_zero, set_cons_succ, i64_w, i32_w]; rfl
                    refine pure_ (i := 12) (N := some 117) (v := ?_) (a' := ?_) m8_44 rfl rfl (any_of HT_.out q8_82) (fun _ _ _ h => h) (Or.inl ⟨by rfl, ?_⟩) ?_ ?_
                    rotate_left; · intro w'; go_simp; with_reducible rfl
                    rotate_left; · simp only [Act.put, setIfInBounds_toArray, set_cons_zero, set_cons_succ, i64_w, i32_w]; rfl
                    refine take_ (i := 14) (N := some 119) (v := ?_) (a' := ?_) m8_46 rfl rfl (take_ofW HT_.out HW_.out q8_82) (fun _ _ _ h => h) (Or.inl ⟨by rfl, ?_⟩) hHeld ?_ ?_
                    rotate_left; · rintro w' ⟨s0, s1, s2, s3, s4⟩; go_simp; with_reducible rfl
                    rotate_left; · simp only [Act.put, setIfInBounds_toArray, set_cons_zero, set_cons_succ, i64_w, i32_w]; rfl
                    refine pure_ (i := 15) (N := some 120) (v := ?_) (a' := ?_) m8_50 rfl rfl (any_of HT_.out q8_82) (fun _ _ _ h => h) (Or.inl ⟨by rfl, ?_⟩) ?_ ?_
                    rotate_left; · intro w'; go_simp; with_reducible rfl
                    rotate_left; · simp only [Act.put, setIfInBounds_toArray, set_cons_zero, set_cons_succ, i64_w, i32_w]; rfl
                    refine pure_ (i := 16) (N := some 121) (v := ?_) (a' := ?_) m8_52 rfl rfl (any_of HT_.out q8_82) (fun _ _ _ h => h) (Or.inl ⟨by rfl, ?_⟩) ?_ ?_
                    rotate_left; · intro w'; go_simp; with_reducible rfl
                    rotate_left; · simp only [Act.put, setIfInBounds_toArray, set_cons_zero, set_cons_succ, i64_w, i32_w]; rfl
                    refine one_ (i := 17) (N := some 122) m8_54 rfl rfl (one_of HT_.out q8_82) q8_90 (fun K hK => ?_)
                    refine goes_ Try.func32 q8_82 rfl #[.slice Ao116 t287.length co116, .slice A115 y304.length c115] (by rfl) rfl rfl q8_79 ?_
                    with_reducible refine (batonref09_Same.calls kj74 _ _ t287 _ _ y304 true _ ?side1 ?side2 ?side3 ?side4 A110.out).mono ?_
                    (case side1 => repeat (first | exact (Kd.R_reads' HO_10.out).2.2 | (with_reducible refine Kd.C_alloc ?_ _) | (with_reducible refine Kd.C_drewN ?_ _) | (with_reducible refine Kd.C_drew ?_)))
                    (case side2 => exact (Kd.R_reads' HO_10.out).2.1)
                    (case side3 => repeat (first | exact (Kd.C_below HR307.out HB.out) | (with_reducible refine Kd.C_alloc ?_ _) | (with_reducible refine Kd.C_drewN ?_ _) | (with_reducible refine Kd.C_drew ?_)))
                    (case side4 => exact HC307.out)
                    rintro e w' ⟨rfl, ⟨nd, rfl⟩⟩
                    refine ⟨_, rfl, ?_⟩
                    obtain ⟨Ao117, co117, eo117⟩ := Kd.R_slice HO_260002.out
                    (first | subst eo117 | (injection eo117 with f1_ f2_ f3_; have f4_ := f1_.symm; have f5_ := f3_.symm; clear f1_ f2_ f3_; subst f4_; subst f5_))
                    refine hK.out _ _ ⟨bc8_ BK248 0, bc8_ BK248 1, bc8_ BK248 2, bc8_ BK250 0, bc8_ BK250 1⟩ (fun hHeld => ?_)
                    clear hK K
                    refine norm_ (a' := ?_) ?_ ?_
                    rotate_left; · show Act.put _ (some 122) _ = _; simp only [Act.put, setIfInBounds_toArray, set_cons_zero, set_cons_succ, i64_w, i32_w]; rfl
                    refine pure_ (i := 18) (N := some 123) (v := ?_) (a' := ?_) m8_56 rfl rfl (any_of HT_.out q8_82) (fun _ _ _ h => h) (Or.inl ⟨by rfl, ?_⟩) ?_ ?_
                    rotate_left; · intro w'; go_simp; with_reducible rfl
                    rotate_left; · simp only [Act.put, setIfInBounds_toArray, set_cons_zero, set_cons_succ, i64_w, i32_w]; rfl
                    refine pure_ (i := 19) (N := some 124) (v := ?_) (a' := ?_) m8_58 rfl rfl (any_of HT_.out q8_82) (fun _ _ _ h => h) (Or.inl ⟨by rfl, ?_⟩) ?_ ?_
                    rotate_left; · intro w'; go_simp; with_reducible rfl
                    rotate_left; · simp only [Act.put, setIfInBounds_toArray, set_cons_zero, set_cons_succ, i64_w, i32_w]; rfl
                    refine pure_ (i := 20) (N := some 125) (v := ?_) (a' := ?_) m8_60 rfl rfl (any_of HT_.out q8_82) (fun _ _ _ h => h) (Or.inl ⟨by rfl, ?_⟩) ?_ ?_
                    rotate_left; · intro w'; go_simp; with_reducible rfl
                    rotate_left; · simp only [Act.put, setIfInBounds_toArray, set_cons_zero, set_cons_succ, i64_w, i32_w]; rfl
                    refine pure_ (i := 22) (N := some 127) (v := ?_) (a' := ?_) #[true, true, true, true, true, true, true, true, true, true, true, true, true, true, true, true, true, true, true, true, true, false, true, false, false, false, false, false, false, false, false, false, false, false, false] rfl rfl (any_of HT_.out q8_82) (fun _ _ _ h => h) (Or.inl ⟨by rfl, ?_⟩) ?_ ?_
                    rotate_left; · intro w'; go_simp; with_reducible rfl
                    rotate_left; · simp only [Act.put, setIfInBounds_toArray, set_cons_zero, set_cons_succ, i64_w, i32_w]; rfl
                    refine pure_ (i := 26) (N := some 131) (v := ?_) (a' := ?_) #[true, true, true, true, true, true, true, true, true, true, true, true, true, true, true, true, true, true, true, true, true, false, true, false, false, false, true, false, false, false, false, false, false, false, false] rfl rfl (any_of HT_.out q8_82) (fun _ _ _ h => h) (Or.inl ⟨by rfl, ?_⟩) ?_ ?_
                    rotate_left; · intro w'; go_simp; with_reducible rfl
                    rotate_left; · simp only [Act.put, setIfInBounds_toArray, set_cons_zero, set_cons_succ, i64_w, i32_w]; rfl
                    refine pure_ (i := 28) (N := some 133) (v := ?_) (a' := ?_) #[true, true, true, true, true, true, true, true, true, true, true, true, true, true, true, true, true, true, true, true, true, false, true, false, false, false, true, false, true, false, false, false, false, false, false] rfl rfl (any_of HT_.out q8_82) (fun _ _ _ h => h) (Or.inl ⟨by rfl, ?_⟩) ?_ ?_
                    rotate_left; · intro w'; go_simp; with_reducible rfl
                    rotate_left; · simp only [Act.put, setIfInBounds_toArray, set_cons_zero, set_cons_succ, i64_w, i32_w]; rfl
                    refine pure_ (i := 30) (N := some 135) (v := ?_) (a' := ?_) #[true, true, true, true, true, true, true, true, true, true, true, true, true, true, true, true, true, true, true, true, true, false, true, false, false, false, true, false, true, false, true, false, false, false, false] rfl rfl (any_of HT_.out q8_82) (fun _ _ _ h => h) (Or.inl ⟨by rfl, ?_⟩) ?_ ?_
                    rotate_left; · intro w'; go_simp; with_reducible rfl
                    rotate_left; · simp only [Act.put, setIfInBounds_toArray, set_cons_zero, set_cons_succ, i64_w, i32_w]; rfl
                    refine take_ (i := 21) (N := some 126) (v := ?_) (a' := ?_) #[true, true, true, true, true, true, true, true, true, true, true, true, true, true, true, true, true, true, true, true, true, true, true, false, false, false, true, false, true, false, true, false, false, false, false] rfl rfl (take_ofW HT_.out HW_.out q8_82) (fun _ _ _ h => h) (Or.inl ⟨by rfl, ?_⟩) hHeld ?_ ?_
                    rotate_left; · rintro w' ⟨s0, s1, s2, s3, s4⟩; go_simp; with_reducible rfl
                    rotate_left; · simp only [Act.put, setIfInBounds_toArray, set_cons_zero, set_cons_succ, i64_w, i32_w]; rfl
                    refine take_ (i := 23) (N := some 128) (v := ?_) (a' := ?_) #[true, true, true, true, true, true, true, true, true, true, true, true, true, true, true, true, true, true, true, true, true, true, true, true, false, false, true, false, true, false, true, false, false, false, false] rfl rfl (take_ofW HT_.out HW_.out q8_82) (fun _ _ _ h => h) (Or.inl ⟨by rfl, ?_⟩) hHeld ?_ ?_
                    rotate_left; · rintro w' ⟨s0, s1, s2, s3, s4⟩; go_simp; with_reducible rfl
                    rotate_left; · simp only [Act.put, setIfInBounds_toArray, set_cons_zero, set_cons_succ, i64_w, i32_w]; rfl
                    refine take_ (i := 25) (N := some 130) (v := ?_) (a' := ?_) #[true, true, true, true, true, true, true, true, true, true, true, true, true, true, true, true, true, true, true, true, true, true, true, true, false, true, true, false, true, false, true, false, false, false, false] rfl rfl (take_ofW HT_.out HW_.out q8_82) (fun _ _ _ h => h) (Or.inl ⟨by rfl, ?_⟩) hHeld ?_ ?_
                    rotate_left; · rintro w' ⟨s0, s1, s2, s3, s4⟩; go_simp; with_reducible rfl
                    rotate_left; · simp only [Act.put, setIfInBounds_toArray, set_cons_zero, set_cons_succ, i64_w, i32_w]; rfl
                    refine take_ (i := 27) (N := some 132) (v := ?_) (a' := ?_) #[true, true, true, true, true, true, true, true, true, true, true, true, true, true, true, true, true, true, true, true, true, true, true, true, false, true, true, true, true, false, true, false, false, false, false] rfl rfl (take_ofW HT_.out HW_.out q8_82) (fun _ _ _ h => h) (Or.inl ⟨by rfl, ?_⟩) hHeld ?_ ?_
                    rotate_left; · rintro w' ⟨s0, s1, s2, s3, s4⟩; go_simp; with_reducible rfl
                    rotate_left; · simp only [Act.put, setIfInBounds_toArray, set_cons_zero, set_cons_succ, i64_w, i32_w]; rfl
                    refine take_ (i := 29) (N := some 134) (v := ?_) (a' := ?_) #[true, true, true, true, true, true, true, true, true, true, true, true, true, true, true, true, true, true, true, true, true, true, true, true, false, true, true, true, true, true, true, false, false, false, false] rfl rfl (take_ofW HT_.out HW_.out q8_82) (fun _ _ _ h => h) (Or.inl ⟨by rfl, ?_⟩) hHeld ?_ ?_
                    rotate_left; · rintro w' ⟨s0, s1, s2, s3, s4⟩; go_simp; with_reducible rfl
                    rotate_left; · simp only [Act.put, setIfInBounds_toArray, set_cons_zero, set_cons_succ, i64_w, i32_w]; rfl
                    refine one_ (i := 24) (N := some 129) m8_87 rfl rfl (one_of HT_.out q8_82) q8_90 (fun K hK => ?_)
                    refine goes_ Try.func56 q8_82 rfl #[.pointer (some ⟨gb259, 0, none⟩), .int .i64 a2_0, .int .i64 a2_1] (by rfl) rfl rfl q8_79 ?_
                    with_reducible refine (grid_Board_At.calls gb259 t290 t291 (fun k_ => some k_ = (.slice Ao117 t292.length co117 : Value).ownBlock) (.slice Ao117 t292.length co117) t292 a2_0 a2_1 t309 t310 t311 t312 t313 t314 t315 w _ ?side2 ?side3 ?side1 ?side4 A112.out).mono ?_
                    (case side1 => repeat (first | (with_reducible first | exact HB.out | apply below_alloc | apply pw_below_drewN | apply below_drew1 | refine below_set ?_ GE248.out | refine below_set ?_ GE249.out | refine below_set ?_ GE250.out | refine below_set ?_ GE259.out) | exact HB.out))
                    (case side2 => (with_reducible repeat (first | refine blk_drewN ?_ _ | refine blk_drew ?_ | refine blk_alloc ?_ _)); exact BK259.out)
                    (case side3 => exact GE259.out)
                    (case side4 => exact Kd.R_tight rfl HO_260002.out)
                    rintro e w118 ⟨v316, rfl, ho0, hbx, hb, hkp⟩
                    refine ⟨_, rfl, ?_⟩
                    have n0_ := A8_ (Kd.R_mono (ok' := fun k_ => some k_ ≠ (v316 : Value).ownBlock) (Kd.R_keptB ((Kd.R_types HO_10.out (show (World.heap _)[gb259]? = some (.cells #[.int .i64 t290, .int .i64 t291, .slice Ao117 t292.length co117] 112 (0, 0)) from by (with_reducible repeat (first | refine blk_drewN ?_ _ | refine blk_drew ?_ | refine blk_alloc ?_ _)); exact BK259.out) q8_90)) hkp (fun k_ hk_ hs_ => Or.elim hs_ (fun hs_ => (hk_.1) hs_) (fun e_ => (hk_.2) e_))) (fun k_ hk_ => fun e_ => Or.elim (ho0.1 k_ e_.symm) (fun hs_ => hk_.2.1 (.inl hs_)) (fun hn_ => Nat.not_le.2 hk_.2.2 hn_)))
                    have n1_ := A8_ (blk_kept BK248.out hkp (fun hs_ => Or.elim hs_ (fun hs_ => (fun e_ => (Kd.R_ne HO_260002.out BK248.out q8_90) e_) hs_) (fun e_ => NB248_259.out e_)))
                    have n2_ := A8_ (blk_kept BK249.out hkp (fun hs_ => Or.elim hs_ (fun hs_ => (fun e_ => (Kd.R_ne HO_260002.out BK249.out q8_90) e_) hs_) (fun e_ => NB249_259.out e_)))
                    have n3_ := A8_ (blk_kept BK250.out hkp (fun hs_ => Or.elim hs_ (fun hs_ => (fun e_ => (Kd.R_ne HO_260002.out BK250.out q8_90) e_) hs_) (fun e_ => NB250_259.out e_)))
                    have n4_ := A8_ (hbx)
                    have n5_ := A8_ (Kd.R_mono (ok' := fun k_ => some k_ ≠ (.slice Ao116 t287.length co116 : Value).ownBlock) ho0 (fun k_ hk_ => Or.elim hk_ (fun hs_ => fun e_ => ((((Kd.R_types HO_10.out (show (World.heap _)[gb259]? = some (.cells #[.int .i64 t290, .int .i64 t291, .slice Ao117 t292.length co117] 112 (0, 0)) from by (with_reducible repeat (first | refine blk_drewN ?_ _ | refine blk_drew ?_ | refine blk_alloc ?_ _)); exact BK259.out) q8_90)).1 k_ e_.symm).1) hs_) (fun hn_ => (Kd.fresh' (Kd.R_lt q8_93) k_ hn_))))
                    have n6_ := A8_ (hb)
                    clear HO_10; clear BK248; clear BK249; clear BK250; clear BK259; clear HB; clear HO_260002; have HO_10 := n0_; have BK248 := n1_; have BK249 := n2_; have BK250 := n3_; have BK259 := n4_; have HO317 := n5_; have HB := n6_; clear n0_ n1_ n2_ n3_ n4_ n5_ n6_; (try clear hbx); (try clear hbn); (try clear hgn); (try clear hb); (try clear hkp); (try clear ho0)
                    refine hK.out _ _ ⟨bc8_ BK248 0, bc8_ BK248 1, bc8_ BK248 2, bc8_ BK250 0, bc8_ BK250 1⟩ (fun hHeld => ?_)
                    clear hK K
                    refine norm_ (a' := ?_) ?_ ?_
                    rotate_left; · show Act.put _ (some 129) _ = _; simp only [Act.put, setIfInBounds_toArray, set_cons_zero, set_cons_succ, i64_w, i32_w]; rfl
                    refine one_ (i := 31) (N := some 136) m8_88 rfl rfl (one_of HT_.out q8_82) q8_90 (fun K hK => ?_)
                    refine goes_ Try.func57 q8_82 rfl #[.agg #[.int .i64 a0_0, .int .i64 a0_1, .slice A0_2 l0_2.length c0_2], .int .i64 a2_0, .int .i64 a2_1, .agg #[.int .i32 0, .int .i64 0, .int .i64 0, .int .i64 0]] (by rfl) rfl rfl q8_79 ?_
                    with_reducible refine (batonref10_At.calls a0_0 a0_1 _ _ l0_2 a2_0 a2_1 0 0 0 0 t318 t319 t320 t321 _ ?side1 ?side2 A113.out).mono ?_
                    (case side1 => repeat (first | exact (Kd.C_below HR0_2.out HB.out) | (with_reducible refine Kd.C_alloc ?_ _) | (with_reducible refine Kd.C_drewN ?_ _) | (with_reducible refine Kd.C_drew ?_)))
                    (case side2 => exact HC0_2.out)
                    rintro e w119 ⟨rfl, hb⟩
                    refine ⟨_, rfl, ?_⟩
                    have n0_ := A8_ (Kd.R_below q8_93 hb)
                    have n1_ := A8_ (Kd.R_below (by (with_reducible repeat (first | apply Kd.R_alloc | apply Kd.R_drewN | apply Kd.R_drew)); exact HO317.out) hb)
                    have n2_ := A8_ (blk_below (g := gb248) (o := .cells #[.int .i64 a0_0, .int .i64 a0_1, .slice A0_2 l0_2.length c0_2] 75 (0, 0)) q8_78 hb)
                    have n3_ := A8_ (blk_below (g := gb249) (o := .cells #[.int .i64 a1_0, .int .i64 a1_1, .slice A1_2 l1_2.length c1_2] 75 (0, 0)) q8_80 hb)
                    have n4_ := A8_ (blk_below (g := gb250) (o := .cells #[.int .i64 a2_0, .int .i64 a2_1] 84 (0, 0)) q8_81 hb)
                    have n5_ := A8_ (blk_below (g := gb259) (o := .cells #[.int .i64 t313, .int .i64 t314, v316] 112 (0, 0)) q8_86 hb)
                    have n6_ := A8_ (below_step q8_83 hb)
                    clear HO_10; clear HO317; clear BK248; clear BK249; clear BK250; clear BK259; clear HB; have HO_10 := n0_; have HO317 := n1_; have BK248 := n2_; have BK249 := n3_; have BK250 := n4_; have BK259 := n5_; have HB := n6_; clear n0_ n1_ n2_ n3_ n4_ n5_ n6_; (try clear hb); (try clear hb2); (try clear hk); (try clear hi)
                    refine hK.out _ _ ⟨bc8_ BK248 0, bc8_ BK248 1, bc8_ BK248 2, bc8_ BK250 0, bc8_ BK250 1⟩ (fun hHeld => ?_)
                    clear hK K
                    refine norm_ (a' := ?_) ?_ ?_
                    rotate_left; · show Act.put _ (some 136) _ = _; simp only [Act.put, setIfInBounds_toArray, set_cons_zero, set_cons_succ, i64_w, i32_w]; rfl
                    refine pure_ (i := 32) (N := some 137) (v := ?_) (a' := ?_) m8_89 rfl rfl (any_of HT_.out q8_82) (fun _ _ _ h => h) (Or.inl ⟨by rfl, ?_⟩) ?_ ?_
                    rotate_left; · intro w'; go_simp; with_reducible rfl
                    rotate_left; · simp only [Act.put, setIfInBounds_toArray, set_cons_zero, set_cons_succ, i64_w, i32_w]; rfl
                    refine pure_ (i := 33) (N := some 138) (v := ?_) (a' := ?_) m8_90 rfl rfl (any_of HT_.out q8_82) (fun _ _ _ h => h) (Or.inl ⟨by rfl, ?_⟩) ?_ ?_
                    rotate_left; · intro w'; go_simp; with_reducible rfl
                    rotate_left; · simp only [Act.put, setIfInBounds_toArray, set_cons_zero, set_cons_succ, i64_w, i32_w]; rfl
                    refine pure_ (i := 34) (N := some 6) (v := ?_) (a' := ?_) m8_91 rfl rfl (any_of HT_.out q8_82) (fun _ _ _ h => h) (Or.inl ⟨by rfl, ?_⟩) ?_ ?_
                    rotate_left; · intro w'; go_simp; with_reducible rfl
                    rotate_left; · simp only [Act.put, setIfInBounds_toArray, set_cons_zero, set_cons_succ, i64_w, i32_w]; rfl
                    refine done_ (done_of HT_.out q8_82) ?_
                    try go_wp2
                    go_ret
                    exact ⟨by first | rfl | (simp [errW_none, errW_some] <;> rfl) | (simp only [← hji105, ← hji107]; first | rfl | (simp [errW_none, errW_some] <;> rfl)) | (simp [*, errW_none, errW_some] <;> rfl), by repeat (first | (with_reducible first | exact HB.out | apply below_alloc | apply pw_below_drewN | apply below_drew1 | refine below_set ?_ GE248.out | refine below_set ?_ GE249.out | refine below_set ?_ GE250.out | refine below_set ?_ GE259.out) | exact HB.out)⟩
                   ·replace c111 := Bool.eq_false_iff.mpr c111
                    subst c111
                    have H1 : (some false) = some r := by rw [if_neg (show ¬ (false = true) by decide)] at H; exact H
                    clear H; have H := H1; clear H1
                    obtain rfl := Option.some.inj H
                    try go_wp2
                    have n0_ := A8_ (Kd.R_drew HO_10.out)
                    have n1_ := A8_ (Kd.R_drew HO_260002.out)
                    have n2_ := A8_ (blk_drew BK248.out)
                    have n3_ := A8_ (blk_drew BK249.out)
                    have n4_ := A8_ (blk_drew BK250.out)
                    have n5_ := A8_ (blk_drew BK259.out)
                    have n6_ := A8_ (below_drew1 HB.out)
                    clear HO_10; clear HO_260002; clear BK248; clear BK249; clear BK250; clear BK259; clear HB; have HO_10 := n0_; have HO_260002 := n1_; have BK248 := n2_; have BK249 := n3_; have BK250 := n4_; have BK259 := n5_; have HB := n6_; clear n0_ n1_ n2_ n3_ n4_ n5_ n6_
                    have q121 : ((ji107) : Int) <= ((l0_2.length : Int) : Int) := of_decide_eq_true q8_92
                    obtain ⟨i0121, hi0121, _, hsz121, _⟩ := info_parts info53
                    have hroom121 : l0_2.length <= c0_2 := HC0_2.out
                    have hC121 : Kd.C k53 _ A0_2 l0_2.length l0_2 := HR0_2.out
                    have ql121 : ((ji105) : Int) <= ((ji107) : Int) := of_decide_eq_true q8_92
                    have q0121 : (0 : Int) <= ((ji105) : Int) := of_decide_eq_true q8_92
                    have hcut121 := fun kl_ kh_ => cut_mid (P := Try.prog) 47 53 kl_ kh_ Try.underlying47 hi0121 4 hsz121 A0_2 l0_2.length c0_2 (ji105) (ji107) q0121 ql121 q121 hroom121
                    have hr121 := Kd.C_mid (lo := ((ji105) : Int).toNat) (hi := ((ji107) : Int).toNat) (c := c0_2) hC121 (by omega) (by omega) hroom121
                    obtain ⟨A121, hA121⟩ : ∃ A1, A1 = (if c0_2 = ((ji105) : Int).toNat then A0_2 else (A0_2 : Option Addr).map (·.add (((ji105) : Int).toNat * 4))) := ⟨_, rfl⟩
                    obtain ⟨c121, hc121⟩ : ∃ c1, c1 = c0_2 - ((ji105) : Int).toNat := ⟨_, rfl⟩
                    have hy121 : y304.length = ((ji107) : Int).toNat - ((ji105) : Int).toNat := (by rw [Ny304.out, List.length_drop, List.length_take] <;> omega)
                    rw [show ((l0_2).take ((ji107) : Int).toNat).drop ((ji105) : Int).toNat = y304 from Ny304.out.symm] at hr121
                    replace hr121 : Kd.C k53 _ A121 y304.length y304 := (by rw [hA121]; exact hr121)
                    rw [← hy121, ← hA121, ← hc121] at hcut121
                    have HR307 := A8_ hr121
                    have HC307 := A8_ (show y304.length <= c121 from by rw [hy121, hc121]; exact Nat.sub_le_sub_right (Nat.le_trans (by omega) hroom121) _)
                    clear hr121 hC121 hroom121 hi0121 hsz121 hc121
                    have KY121 := A8_ hy121
                    have KA121 := A8_ hA121
                    clear hy121 hA121
                    replace q121 := eq_true q121
                    obtain ⟨Ao122, co122, eo122⟩ := Kd.R_slice HO_10.out
                    (first | subst eo122 | (injection eo122 with f1_ f2_ f3_; have f4_ := f1_.symm; have f5_ := f3_.symm; clear f1_ f2_ f3_; subst f4_; subst f5_))
                    refine start_ (n := 35) (S := fun w' => w'.cell? ⟨gb248, 0, none⟩ = some (.int .i64 a0_0) /\ w'.cell? ⟨gb248, 1, none⟩ = some (.int .i64 a0_1) /\ w'.cell? ⟨gb248, 2, none⟩ = some (.slice A0_2 l0_2.length c0_2) /\ w'.cell? ⟨gb250, 0, none⟩ = some (.int .i64 a2_0) /\ w'.cell? ⟨gb250, 1, none⟩ = some (.int .i64 a2_1)) (ds := []) m8_0 q8_82 rfl rfl ⟨bc8_ BK248 0, bc8_ BK248 1, bc8_ BK248 2, bc8_ BK250 0, bc8_ BK250 1⟩ (fun hHeld => ?_); refine with_tabW batonlaw10_GridTells.tab16 batonlaw10_GridTells.bits16 (fun HT_ HW_ => ?_)
                    generalize wc.drew = w120 at HO_10 HO_260002 BK248 BK249 BK250 BK259 HB HR307 hHeld ⊢
                    refine pure_ (i := 0) (N := some 105) (v := ?_) (a' := ?_) m8_4 rfl rfl (any_of HT_.out q8_82) (fun _ _ _ h => h) (Or.inl ⟨by rfl, ?_⟩) ?_ ?_
                    rotate_left; · intro w'; go_simp; with_reducible rfl
                    rotate_left; · simp only [Act.put, setIfInBounds_toArray, set_cons_zero, set_cons_succ, i64_w, i32_w]; rfl
                    refine pure_ (i := 1) (N := some 106) (v := ?_) (a' := ?_) m8_7 rfl rfl (any_of HT_.out q8_82) (fun _ _ _ h => h) (Or.inl ⟨by rfl, ?_⟩) ?_ ?_
                    rotate_left; · intro w'; go_simp; with_reducible rfl
                    rotate_left; · simp only [Act.put, setIfInBounds_toArray, set_cons_zero, set_cons_succ, i64_w, i32_w]; rfl
                    refine pure_ (i := 3) (N := some 108) (v := ?_) (a' := ?_) m8_9 rfl rfl (any_of HT_.out q8_82) (fun _ _ _ h => h) (Or.inl ⟨by rfl, ?_⟩) ?_ ?_
                    rotate_left; · intro w'; go_simp; with_reducible rfl
                    rotate_left; · simp only [Act.put, setIfInBounds_toArray, set_cons_zero, set_cons_succ, i64_w, i32_w]; rfl
                    refine pure_ (i := 5) (N := some 110) (v := ?_) (a' := ?_) m8_10 rfl rfl (any_of HT_.out q8_82) (fun _ _ _ h => h) (Or.inl ⟨by rfl, ?_⟩) ?_ ?_
                    rotate_left; · intro w'; go_simp; with_reducible rfl
                    rotate_left; · simp only [Act.put, setIfInBounds_toArray, set_cons_zero, set_cons_succ, i64_w, i32_w]; rfl
                    refine pure_ (i := 8) (N := some 113) (v := ?_) (a' := ?_) m8_11 rfl rfl (any_of HT_.out q8_82) (fun _ _ _ h => h) (Or.inl ⟨by rfl, ?_⟩) ?_ ?_
                    rotate_left; · intro w'; go_simp; with_reducible rfl
                    rotate_left; · simp only [Act.put, setIfInBounds_toArray, set_cons_zero, set_cons_succ, i64_w, i32_w]; rfl
                    refine pure_ (i := 10) (N := some 115) (v := ?_) (a' := ?_) m8_12 rfl rfl (any_of HT_.out q8_82) (fun _ _ _ h => h) (Or.inl ⟨by rfl, ?_⟩) ?_ ?_
                    rotate_left; · intro w'; go_simp; with_reducible rfl
                    rotate_left; · simp only [Act.put, setIfInBounds_toArray, set_cons_zero, set_cons_succ, i64_w, i32_w]; rfl
                    refine pure_ (i := 13) (N := some 118) (v := ?_) (a' := ?_) m8_13 rfl rfl (any_of HT_.out q8_82) (fun _ _ _ h => h) (Or.inl ⟨by rfl, ?_⟩) ?_ ?_
                    rotate_left; · intro w'; go_simp; with_reducible rfl
                    rotate_left; · simp only [Act.put, setIfInBounds_toArray, set_cons_zero, set_cons_succ, i64_w, i32_w]; rfl
                    refine take_ (i := 2) (N := some 107) (v := ?_) (a' := ?_) m8_18 rfl rfl (take_ofW HT_.out HW_.out q8_82) (fun _ _ _ h => h) (Or.inl ⟨by rfl, ?_⟩) hHeld ?_ ?_
                    rotate_left; · rintro w' ⟨s0, s1, s2, s3, s4⟩; go_simp; with_reducible rfl
                    rotate_left; · simp only [Act.put, setIfInBounds_toArray, set_cons_zero, set_cons_succ, i64_w, i32_w]; rfl
                    refine take_ (i := 4) (N := some 109) (v := ?_) (a' := ?_) m8_23 rfl rfl (take_ofW HT_.out HW_.out q8_82) (fun _ _ _ h => h) (Or.inl ⟨by rfl, ?_⟩) hHeld ?_ ?_
                    rotate_left; · rintro w' ⟨s0, s1, s2, s3, s4⟩; go_simp; with_reducible rfl
                    rotate_left; · simp only [Act.put, setIfInBounds_toArray, set_cons_zero, set_cons_succ, i64_w, i32_w]; rfl
                    refine take_ (i := 6) (N := some 111) (v := ?_) (a' := ?_) m8_27 rfl rfl (take_ofW HT_.out HW_.out q8_82) (fun _ _ _ h => h) (Or.inl ⟨by rfl, ?_⟩) hHeld ?_ ?_
                    rotate_left; · rintro w' ⟨s0, s1, s2, s3, s4⟩; go_simp; with_reducible rfl
                    rotate_left; · simp only [Act.put, setIfInBounds_toArray, set_cons_zero, set_cons_succ, i64_w, i32_w]; rfl
                    refine pure_ (i := 7) (N := some 112) (v := ?_) (a' := ?_) m8_34 rfl rfl (any_of HT_.out q8_82) (fun _ _ _ h => h) (Or.inl ⟨by rfl, ?_⟩) ?_ ?_
                    rotate_left; · intro w'; go_simp; with_reducible rfl
                    rotate_left; · simp only [Act.put, setIfInBounds_toArray, set_cons_zero, set_cons_succ, i64_w, i32_w]; rfl
                    refine take_ (i := 9) (N := some 114) (v := ?_) (a' := ?_) m8_38 rfl rfl (take_ofW HT_.out HW_.out q8_82) (fun _ _ _ h => h) (Or.inl ⟨by rfl, ?_⟩) hHeld ?_ ?_
                    rotate_left; · rintro w' ⟨s0, s1, s2, s3, s4⟩; go_simp; with_reducible rfl
                    rotate_left; · simp only [Act.put, setIfInBounds_toArray, set_cons_zero, set_cons_succ, i64_w, i32_w]; rfl
                    refine take_ (i := 11) (N := some 116) (v := ?_) (a' := ?_) m8_41 rfl rfl (take_ofW HT_.out HW_.out q8_82) (fun _ _ _ h => h) (Or.inl ⟨by rfl, ?_⟩) hHeld ?_ ?_
                    rotate_left; · rintro w' ⟨s0, s1, s2, s3, s4⟩; go_simp; with_reducible rfl
                    rotate_left; · simp only [Act.put, setIfInBounds_toArray, set_cons_zero, set_cons_succ, i64_w, i32_w]; rfl
                    refine pure_ (i := 12) (N := some 117) (v := ?_) (a' := ?_) m8_44 rfl rfl (any_of HT_.out q8_82) (fun _ _ _ h => h) (Or.inl ⟨by rfl, ?_⟩) ?_ ?_
                    rotate_left; · intro w'; go_simp; with_reducible rfl
                    rotate_left; · simp only [Act.put, setIfInBounds_toArray, set_cons_zero, set_cons_succ, i64_w, i32_w]; rfl
                    refine take_ (i := 14) (N := some 119) (v := ?_) (a' := ?_) m8_46 rfl rfl (take_ofW HT_.out HW_.out q8_82) (fun _ _ _ h => h) (Or.inl ⟨by rfl, ?_⟩) hHeld ?_ ?_
                    rotate_left; · rintro w' ⟨s0, s1, s2, s3, s4⟩; go_simp; with_reducible rfl
                    rotate_left; · simp only [Act.put, setIfInBounds_toArray, set_cons_zero, set_cons_succ, i64_w, i32_w]; rfl
                    refine pure_ (i := 15) (N := some 120) (v := ?_) (a' := ?_) m8_50 rfl rfl (any_of HT_.out q8_82) (fun _ _ _ h => h) (Or.inl ⟨by rfl, ?_⟩) ?_ ?_
                    rotate_left; · intro w'; go_simp; with_reducible rfl
                    rotate_left; · simp only [Act.put, setIfInBounds_toArray, set_cons_zero, set_cons_succ, i64_w, i32_w]; rfl
                    refine pure_ (i := 16) (N := some 121) (v := ?_) (a' := ?_) m8_52 rfl rfl (any_of HT_.out q8_82) (fun _ _ _ h => h) (Or.inl ⟨by rfl, ?_⟩) ?_ ?_
                    rotate_left; · intro w'; go_simp; with_reducible rfl
                    rotate_left; · simp only [Act.put, setIfInBounds_toArray, set_cons_zero, set_cons_succ, i64_w, i32_w]; rfl
                    refine one_ (i := 17) (N := some 122) m8_54 rfl rfl (one_of HT_.out q8_82) q8_90 (fun K hK => ?_)
                    refine goes_ Try.func32 q8_82 rfl #[.slice Ao122 t287.length co122, .slice A121 y304.length c121] (by rfl) rfl rfl q8_79 ?_
                    with_reducible refine (batonref09_Same.calls kj74 _ _ t287 _ _ y304 false _ ?side1 ?side2 ?side3 ?side4 A110.out).mono ?_
                    (case side1 => repeat (first | exact (Kd.R_reads' HO_10.out).2.2 | (with_reducible refine Kd.C_alloc ?_ _) | (with_reducible refine Kd.C_drewN ?_ _) | (with_reducible refine Kd.C_drew ?_)))
                    (case side2 => exact (Kd.R_reads' HO_10.out).2.1)
                    (case side3 => repeat (first | exact (Kd.C_below HR307.out HB.out) | (with_reducible refine Kd.C_alloc ?_ _) | (with_reducible refine Kd.C_drewN ?_ _) | (with_reducible refine Kd.C_drew ?_)))
                    (case side4 => exact HC307.out)
                    rintro e w' ⟨rfl, ⟨nd, rfl⟩⟩
                    refine ⟨_, rfl, ?_⟩
                    refine hK.out _ _ ⟨bc8_ BK248 0, bc8_ BK248 1, bc8_ BK248 2, bc8_ BK250 0, bc8_ BK250 1⟩ (fun hHeld => ?_)
                    clear hK K
                    refine norm_ (a' := ?_) ?_ ?_
                    rotate_left; · show Act.put _ (some 122) _ = _; simp only [Act.put, setIfInBounds_toArray, set_cons_zero, set_cons_succ, i64_w, i32_w]; rfl
                    refine pure_ (i := 18) (N := some 123) (v := ?_) (a' := ?_) m8_56 rfl rfl (any_of HT_.out q8_82) (fun _ _ _ h => h) (Or.inl ⟨by rfl, ?_⟩) ?_ ?_
                    rotate_left; · intro w'; go_simp; with_reducible rfl
                    rotate_left; · simp only [Act.put, setIfInBounds_toArray, set_cons_zero, set_cons_succ, i64_w, i32_w]; rfl
                    refine pure_ (i := 19) (N := some 124) (v := undef) (a' := ?_) m8_58 rfl rfl (any_of HT_.out q8_82) (fun _ _ _ h => h) (Or.inr ⟨by rfl, rfl⟩) ?_ ?_
                    rotate_left; · simp only [Act.put, setIfInBounds_toArray, set_cons_zero, set_cons_succ, i64_w, i32_w]; rfl
                    refine pure_ (i := 20) (N := some 125) (v := undef) (a' := ?_) m8_60 rfl rfl (any_of HT_.out q8_82) (fun _ _ _ h => h) (Or.inr ⟨by rfl, rfl⟩) ?_ ?_
                    rotate_left; · simp only [Act.put, setIfInBounds_toArray, set_cons_zero, set_cons_succ, i64_w, i32_w]; rfl
                    refine pure_ (i := 21) (N := some 126) (v := undef) (a' := ?_) #[true, true, true, true, true, true, true, true, true, true, true, true, true, true, true, true, true, true, true, true, true, true, false, false, false, false, false, false, false, false, false, false, false, false, false] rfl rfl (any_of HT_.out q8_82) (fun _ _ _ h => h) (Or.inr ⟨by rfl, rfl⟩) ?_ ?_
                    rotate_left; · simp only [Act.put, setIfInBounds_toArray, set_cons_zero, set_cons_succ, i64_w, i32_w]; rfl
                    refine pure_ (i := 22) (N := some 127) (v := undef) (a' := ?_) #[true, true, true, true, true, true, true, true, true, true, true, true, true, true, true, true, true, true, true, true, true, true, true, false, false, false, false, false, false, false, false, false, false, false, false] rfl rfl (any_of HT_.out q8_82) (fun _ _ _ h => h) (Or.inr ⟨by rfl, rfl⟩) ?_ ?_
                    rotate_left; · simp only [Act.put, setIfInBounds_toArray, set_cons_zero, set_cons_succ, i64_w, i32_w]; rfl
                    refine pure_ (i := 23) (N := some 128) (v := undef) (a' := ?_) #[true, true, true, true, true, true, true, true, true, true, true, true, true, true, true, true, true, true, true, true, true, true, true, true, false, false, false, false, false, false, false, false, false, false, false] rfl rfl (any_of HT_.out q8_82) (fun _ _ _ h => h) (Or.inr ⟨by rfl, rfl⟩) ?_ ?_
                    rotate_left; · simp only [Act.put, setIfInBounds_toArray, set_cons_zero, set_cons_succ, i64_w, i32_w]; rfl
                    refine pure_ (i := 24) (N := some 129) (v := undef) (a' := ?_) #[true, true, true, true, true, true, true, true, true, true, true, true, true, true, true, true, true, true, true, true, true, true, true, true, true, false, false, false, false, false, false, false, false, false, false] rfl rfl (any_of HT_.out q8_82) (fun _ _ _ h => h) (Or.inr ⟨by rfl, rfl⟩) ?_ ?_
                    rotate_left; · simp only [Act.put, setIfInBounds_toArray, set_cons_zero, set_cons_succ, i64_w, i32_w]; rfl
                    refine pure_ (i := 25) (N := some 130) (v := undef) (a' := ?_) #[true, true, true, true, true, true, true, true, true, true, true, true, true, true, true, true, true, true, true, true, true, true, true, true, true, true, false, false, false, false, false, false, false, false, false] rfl rfl (any_of HT_.out q8_82) (fun _ _ _ h => h) (Or.inr ⟨by rfl, rfl⟩) ?_ ?_
                    rotate_left; · simp only [Act.put, setIfInBounds_toArray, set_cons_zero, set_cons_succ, i64_w, i32_w]; rfl
                    refine pure_ (i := 26) (N := some 131) (v := undef) (a' := ?_) #[true, true, true, true, true, true, true, true, true, true, true, true, true, true, true, true, true, true, true, true, true, true, true, true, true, true, true, false, false, false, false, false, false, false, false] rfl rfl (any_of HT_.out q8_82) (fun _ _ _ h => h) (Or.inr ⟨by rfl, rfl⟩) ?_ ?_
                    rotate_left; · simp only [Act.put, setIfInBounds_toArray, set_cons_zero, set_cons_succ, i64_w, i32_w]; rfl
                    refine pure_ (i := 27) (N := some 132) (v := undef) (a' := ?_) #[true, true, true, true, true, true, true, true, true, true, true, true, true, true, true, true, true, true, true, true, true, true, true, true, true, true, true, true, false, false, false, false, false, false, false] rfl rfl (any_of HT_.out q8_82) (fun _ _ _ h => h) (Or.inr ⟨by rfl, rfl⟩) ?_ ?_
                    rotate_left; · simp only [Act.put, setIfInBounds_toArray, set_cons_zero, set_cons_succ, i64_w, i32_w]; rfl
                    refine pure_ (i := 28) (N := some 133) (v := undef) (a' := ?_) #[true, true, true, true, true, true, true, true, true, true, true, true, true, true, true, true, true, true, true, true, true, true, true, true, true, true, true, true, true, false, false, false, false, false, false] rfl rfl (any_of HT_.out q8_82) (fun _ _ _ h => h) (Or.inr ⟨by rfl, rfl⟩) ?_ ?_
                    rotate_left; · simp only [Act.put, setIfInBounds_toArray, set_cons_zero, set_cons_succ, i64_w, i32_w]; rfl
                    refine pure_ (i := 29) (N := some 134) (v := undef) (a' := ?_) #[true, true, true, true, true, true, true, true, true, true, true, true, true, true, true, true, true, true, true, true, true, true, true, true, true, true, true, true, true, true, false, false, false, false, false] rfl rfl (any_of HT_.out q8_82) (fun _ _ _ h => h) (Or.inr ⟨by rfl, rfl⟩) ?_ ?_
                    rotate_left; · simp only [Act.put, setIfInBounds_toArray, set_cons_zero, set_cons_succ, i64_w, i32_w]; rfl
                    refine pure_ (i := 30) (N := some 135) (v := undef) (a' := ?_) m8_87 rfl rfl (any_of HT_.out q8_82) (fun _ _ _ h => h) (Or.inr ⟨by rfl, rfl⟩) ?_ ?_
                    rotate_left; · simp only [Act.put, setIfInBounds_toArray, set_cons_zero, set_cons_succ, i64_w, i32_w]; rfl
                    refine pure_ (i := 31) (N := some 136) (v := undef) (a' := ?_) m8_88 rfl rfl (any_of HT_.out q8_82) (fun _ _ _ h => h) (Or.inr ⟨by rfl, rfl⟩) ?_ ?_
                    rotate_left; · simp only [Act.put, setIfInBounds_toArray, set_cons_zero, set_cons_succ, i64_w, i32_w]; rfl
                    refine pure_ (i := 32) (N := some 137) (v := undef) (a' := ?_) m8_89 rfl rfl (any_of HT_.out q8_82) (fun _ _ _ h => h) (Or.inr ⟨by rfl, rfl⟩) ?_ ?_
                    rotate_left; · simp only [Act.put, setIfInBounds_toArray, set_cons_zero, set_cons_succ, i64_w, i32_w]; rfl
                    refine pure_ (i := 33) (N := some 138) (v := ?_) (a' := ?_) m8_90 rfl rfl (any_of HT_.out q8_82) (fun _ _ _ h => h) (Or.inl ⟨by rfl, ?_⟩) ?_ ?_
                    rotate_left; · intro w'; go_simp; with_reducible rfl
                    rotate_left; · simp only [Act.put, setIfInBounds_toArray, set_cons_zero, set_cons_succ, i64_w, i32_w]; rfl
                    refine pure_ (i := 34) (N := some 6) (v := ?_) (a' := ?_) m8_91 rfl rfl (any_of HT_.out q8_82) (fun _ _ _ h => h) (Or.inl ⟨by rfl, ?_⟩) ?_ ?_
                    rotate_left; · intro w'; go_simp; with_reducible rfl
                    rotate_left; · simp only [Act.put, setIfInBounds_toArray, set_cons_zero, set_cons_succ, i64_w, i32_w]; rfl
                    refine done_ (done_of HT_.out q8_82) ?_
                    try go_wp2
                    go_ret
                    exact ⟨by first | rfl | (simp [errW_none, errW_some] <;> rfl) | (simp only [← hji105, ← hji107]; first | rfl | (simp [errW_none, errW_some] <;> rfl)) | (simp [*, errW_none, errW_some] <;> rfl), by repeat (first | (with_reducible first | exact HB.out | apply below_alloc | apply pw_below_drewN | apply below_drew1 | refine below_set ?_ GE248.out | refine below_set ?_ GE249.out | refine below_set ?_ GE250.out | refine below_set ?_ GE259.out) | exact HB.out)⟩
                  ·rw [if_neg c109] at H
                   exact absurd H (by simp)
                 ·rw [if_neg c108] at H
                  exact absurd H (by simp)
                ·rw [if_neg c106] at H
                 exact absurd H (by simp)
         ·replace c42 := Bool.eq_false_iff.mpr c42
          subst c42
          have H1 : (some false) = some r := by rw [if_neg (show ¬ (false = true) by decide)] at H; exact H
          clear H; have H := H1; clear H1
          obtain rfl := Option.some.inj H
          go_wp2
          go_ret
          exact ⟨by first | rfl | (simp [errW_none, errW_some] <;> rfl) | (simp [*, errW_none, errW_some] <;> rfl), by repeat (first | (with_reducible first | exact HB.out | apply below_alloc | apply pw_below_drewN | apply below_drew1 | refine below_set ?_ GE248.out | refine below_set ?_ GE249.out | refine below_set ?_ GE250.out | refine below_set ?_ GE259.out) | exact HB.out)⟩
     ·replace c23 := Bool.eq_false_iff.mpr c23
      subst c23
      have H1 : ((grid_Right.f kj5 a0_0 a0_1 l0_2).bind fun t322 => (if (t322 != t252) = true then (some false) else ((grid_Same.f kj5 a0_0 a0_1 l0_2 a1_0 a1_1 l1_2).bind fun t323 => ((batonref10_Same.f kj5 a0_0 a0_1 l0_2 a1_0 a1_1 l1_2).bind fun t324 => (if (t323 != t324) = true then (some false) else (if t252 = true then (if t260 = 0 then (some false) else (some false)) else (some (t260 == 22)))))))) = some r := by rw [if_neg (show ¬ (false = true) by decide)] at H; exact H
      clear H; have H := H1; clear H1
      replace H := Option.bind_eq_some_iff.mp H
      obtain ⟨t322, A1230, H⟩ := H
      replace H : (if (t322 != t252) = true then (some false) else ((grid_Same.f kj5 a0_0 a0_1 l0_2 a1_0 a1_1 l1_2).bind fun t323 => ((batonref10_Same.f kj5 a0_0 a0_1 l0_2 a1_0 a1_1 l1_2).bind fun t324 => (if (t323 != t324) = true then (some false) else (if t252 = true then (if t260 = 0 then (some false) else (some false)) else (some (t260 == 22))))))) = some r := H
      have A123 := A8_ A1230
      clear A1230
      by_cases c124 : (t322 != t252) = true
      ·rw [if_pos c124] at H
       have c124b0 : (t322 != t252) = true := c124
       (try (have c124b1 : decide (t322 = t252) = false := by simpa using c124))
       (try (have c124b2 : (t322 == t252) = false := by simpa using c124))
       (try (have c124b3 : ¬ (t322 = t252) := by simpa using c124))
       clear c124
       obtain rfl := Option.some.inj H
       have hnb125 := NB248_249.out
       have hnc125 := NB249_248.out
       have hnb126 := NB248_250.out
       have hnc126 := NB250_248.out
       have hcz127_0 : wc.cell? ⟨gb248, 0, none⟩ = some (.int .i64 a0_0) := bc8_ BK248 0
       have hcz127_1 : wc.cell? ⟨gb248, 1, none⟩ = some (.int .i64 a0_1) := bc8_ BK248 1
       have hcz127_2 : wc.cell? ⟨gb248, 2, none⟩ = some (.slice A0_2 l0_2.length c0_2) := bc8_ BK248 2
       have hfz127_0 := blk_frozen BK248.out 0
       have hfz127_1 := blk_frozen BK248.out 1
       have hfz127_2 := blk_frozen BK248.out 2
       try go_wp2_with (first | ((with_reducible refine gate_callee (f := 47) rfl ?_); refine goesL_ (some 24) rfl rfl Try.func47 q8_82 rfl #[.agg #[.int .i64 a0_0, .int .i64 a0_1, .slice A0_2 l0_2.length c0_2]] rfl q8_79 ?_; (with_reducible refine (batonref10_Right.calls kj5 a0_0 a0_1 _ _ l0_2 t252 _ ?side1 ?side2 A21.out).mono ?_); (case side1 => repeat (first | exact (Kd.C_below HR0_2.out HB.out) | (with_reducible refine Kd.C_alloc ?_ _) | (with_reducible refine Kd.C_drewN ?_ _) | (with_reducible refine Kd.C_drew ?_))); (case side2 => exact HC0_2.out); rintro e w128 ⟨rfl, hb⟩; refine ⟨_, rfl, ?_⟩; have n0_ := A8_ (blk_below (g := gb248) (o := .cells #[.int .i64 a0_0, .int .i64 a0_1, .slice A0_2 l0_2.length c0_2] 75 (0, 0)) q8_78 hb); have n1_ := A8_ (blk_below (g := gb249) (o := .cells #[.int .i64 a1_0, .int .i64 a1_1, .slice A1_2 l1_2.length c1_2] 75 (0, 0)) q8_80 hb); have n2_ := A8_ (blk_below (g := gb250) (o := .cells #[.int .i64 a2_0, .int .i64 a2_1] 84 (0, 0)) q8_81 hb); have n3_ := A8_ (below_step q8_77 hb); clear BK248 BK249 BK250 HB; have BK248 := n0_; have BK249 := n1_; have BK250 := n2_; have HB := n3_; clear n0_ n1_ n2_ n3_; (try clear hb); (try clear hb2); (try clear hk); (try clear hi); have hcz129_0 : w128.cell? ⟨gb248, 0, none⟩ = some (.int .i64 a0_0) := bc8_ BK248 0; have hcz129_1 : w128.cell? ⟨gb248, 1, none⟩ = some (.int .i64 a0_1) := bc8_ BK248 1; have hcz129_2 : w128.cell? ⟨gb248, 2, none⟩ = some (.slice A0_2 l0_2.length c0_2) := bc8_ BK248 2; have hfz129_0 := blk_frozen BK248.out 0; have hfz129_1 := blk_frozen BK248.out 1; have hfz129_2 := blk_frozen BK248.out 2) | ((with_reducible refine gate_callee (f := 48) rfl ?_); refine goesL_ (some 27) rfl rfl Try.func48 q8_82 rfl #[.agg #[.int .i64 a0_0, .int .i64 a0_1, .slice A0_2 l0_2.length c0_2]] rfl q8_79 ?_; (with_reducible refine (grid_Of.calls kj5 a0_0 a0_1 _ _ l0_2 false t254 t255 t256 t260 _ ?side1 ?side2 A22.out).mono ?_); (case side1 => repeat (first | exact (Kd.C_below HR0_2.out HB.out) | (with_reducible refine Kd.C_alloc ?_ _) | (with_reducible refine Kd.C_drewN ?_ _) | (with_reducible refine Kd.C_drew ?_))); (case side2 => exact HC0_2.out); rintro e w130 ⟨v257, gb259, rfl, ho0, hbn, hgn, hb⟩; refine ⟨_, rfl, ?_⟩; have n0_ := A8_ (Kd.R_lower ho0 (below_size q8_77)); have n1_ := A8_ (blk_below (g := gb248) (o := .cells #[.int .i64 a0_0, .int .i64 a0_1, .slice A0_2 l0_2.length c0_2] 75 (0, 0)) q8_78 hb); have n2_ := A8_ (blk_below (g := gb249) (o := .cells #[.int .i64 a1_0, .int .i64 a1_1, .slice A1_2 l1_2.length c1_2] 75 (0, 0)) q8_80 hb); have n3_ := A8_ (blk_below (g := gb250) (o := .cells #[.int .i64 a2_0, .int .i64 a2_1] 84 (0, 0)) q8_81 hb); have n4_ := A8_ (below_step q8_77 hb); clear BK248 BK249 BK250 HB; have HO258 := n0_; have BK248 := n1_; have BK249 := n2_; have BK250 := n3_; have HB := n4_; clear n0_ n1_ n2_ n3_ n4_; (try simp only [ptrW_true, ptrW_false]); (try clear hbn); (try clear hgn); (try clear hb); (try clear hb2); (try clear hk); (try clear hi); (try clear ho0)))
       have n0_ := A8_ (Kd.R_drew HO258.out)
       have n1_ := A8_ (blk_drew BK248.out)
       have n2_ := A8_ (blk_drew BK249.out)
       have n3_ := A8_ (blk_drew BK250.out)
       have n4_ := A8_ (below_drew1 HB.out)
       clear HO258; clear BK248; clear BK249; clear BK250; clear HB; have HO258 := n0_; have BK248 := n1_; have BK249 := n2_; have BK250 := n3_; have HB := n4_; clear n0_ n1_ n2_ n3_ n4_
       refine start_ (n := 13) (S := fun w' => w'.cell? ⟨gb248, 0, none⟩ = some (.int .i64 a0_0) /\ w'.cell? ⟨gb248, 1, none⟩ = some (.int .i64 a0_1) /\ w'.cell? ⟨gb248, 2, none⟩ = some (.slice A0_2 l0_2.length c0_2)) (ds := []) m8_2 q8_82 rfl rfl ⟨bc8_ BK248 0, bc8_ BK248 1, bc8_ BK248 2⟩ (fun hHeld => ?_); refine with_tabW batonlaw10_GridTells.tab7 batonlaw10_GridTells.bits7 (fun HT_ HW_ => ?_)
       generalize w130.drew = w131 at HO258 BK248 BK249 BK250 HB hHeld ⊢
       refine pure_ (i := 2) (N := some 32) (v := ?_) (a' := ?_) m8_3 rfl rfl (any_of HT_.out q8_82) (fun _ _ _ h => h) (Or.inl ⟨by rfl, ?_⟩) ?_ ?_
       rotate_left; · intro w'; go_simp; with_reducible rfl
       rotate_left; · simp only [Act.put, setIfInBounds_toArray, set_cons_zero, set_cons_succ, i64_w, i32_w]; rfl
       refine take_ (i := 0) (N := some 30) (v := ?_) (a' := ?_) m8_6 rfl rfl (take_ofW HT_.out HW_.out q8_82) (fun _ _ _ h => h) (Or.inl ⟨by rfl, ?_⟩) hHeld ?_ ?_
       rotate_left; · rintro w' ⟨s0, s1, s2⟩; go_simp; with_reducible rfl
       rotate_left; · simp only [Act.put, setIfInBounds_toArray, set_cons_zero, set_cons_succ, i64_w, i32_w]; rfl
       refine one_ (i := 1) (N := some 31) m8_15 rfl rfl (one_of HT_.out q8_82) q8_90 (fun K hK => ?_)
       refine goes_ Try.func52 q8_82 rfl #[.agg #[.int .i64 a0_0, .int .i64 a0_1, .slice A0_2 l0_2.length c0_2]] (by rfl) rfl rfl q8_79 ?_
       with_reducible refine (grid_Right.calls kj5 a0_0 a0_1 _ _ l0_2 t322 _ ?side1 ?side2 A123.out).mono ?_
       (case side1 => repeat (first | exact (Kd.C_below HR0_2.out HB.out) | (with_reducible refine Kd.C_alloc ?_ _) | (with_reducible refine Kd.C_drewN ?_ _) | (with_reducible refine Kd.C_drew ?_)))
       (case side2 => exact HC0_2.out)
       rintro e w132 ⟨rfl, hb⟩
       refine ⟨_, rfl, ?_⟩
       have n0_ := A8_ (Kd.R_below q8_84 hb)
       have n1_ := A8_ (blk_below (g := gb248) (o := .cells #[.int .i64 a0_0, .int .i64 a0_1, .slice A0_2 l0_2.length c0_2] 75 (0, 0)) q8_78 hb)
       have n2_ := A8_ (blk_below (g := gb249) (o := .cells #[.int .i64 a1_0, .int .i64 a1_1, .slice A1_2 l1_2.length c1_2] 75 (0, 0)) q8_80 hb)
       have n3_ := A8_ (blk_below (g := gb250) (o := .cells #[.int .i64 a2_0, .int .i64 a2_1] 84 (0, 0)) q8_81 hb)
       have n4_ := A8_ (below_step q8_77 hb)
       clear HO258; clear BK248; clear BK249; clear BK250; clear HB; have HO258 := n0_; have BK248 := n1_; have BK249 := n2_; have BK250 := n3_; have HB := n4_; clear n0_ n1_ n2_ n3_ n4_; (try clear hb); (try clear hb2); (try clear hk); (try clear hi)
       refine hK.out _ _ ⟨bc8_ BK248 0, bc8_ BK248 1, bc8_ BK248 2⟩ (fun hHeld => ?_)
       clear hK K
       refine norm_ (a' := ?_) ?_ ?_
       rotate_left; · show Act.put _ (some 31) _ = _; simp only [Act.put, setIfInBounds_toArray, set_cons_zero, set_cons_succ, i64_w, i32_w]; rfl
       refine pure_ (i := 3) (N := some 33) (v := ?_) (a' := ?_) m8_17 rfl rfl (any_of HT_.out q8_82) (fun _ _ _ h => h) (Or.inl ⟨by rfl, ?_⟩) ?_ ?_
       rotate_left; · intro w'; go_simp; with_reducible rfl
       rotate_left; · simp only [Act.put, setIfInBounds_toArray, set_cons_zero, set_cons_succ, i64_w, i32_w]; rfl
       refine pure_ (i := 4) (N := some 34) (v := ?_) (a' := ?_) m8_20 rfl rfl (any_of HT_.out q8_82) (fun _ _ _ h => h) (Or.inl ⟨by rfl, ?_⟩) ?_ ?_
       rotate_left; · intro w'; go_simp; with_reducible rfl
       rotate_left; · simp only [Act.put, setIfInBounds_toArray, set_cons_zero, set_cons_succ, i64_w, i32_w]; rfl
       refine pure_ (i := 5) (N := some 35) (v := undef) (a' := ?_) m8_22 rfl rfl (any_of HT_.out q8_82) (fun _ _ _ h => h) (Or.inr ⟨by rfl, rfl⟩) ?_ ?_
       rotate_left; · simp only [Act.put, setIfInBounds_toArray, set_cons_zero, set_cons_succ, i64_w, i32_w]; rfl
       refine pure_ (i := 6) (N := some 36) (v := undef) (a' := ?_) m8_25 rfl rfl (any_of HT_.out q8_82) (fun _ _ _ h => h) (Or.inr ⟨by rfl, rfl⟩) ?_ ?_
       rotate_left; · simp only [Act.put, setIfInBounds_toArray, set_cons_zero, set_cons_succ, i64_w, i32_w]; rfl
       refine pure_ (i := 7) (N := some 37) (v := undef) (a' := ?_) m8_30 rfl rfl (any_of HT_.out q8_82) (fun _ _ _ h => h) (Or.inr ⟨by rfl, rfl⟩) ?_ ?_
       rotate_left; · simp only [Act.put, setIfInBounds_toArray, set_cons_zero, set_cons_succ, i64_w, i32_w]; rfl
       refine pure_ (i := 8) (N := some 38) (v := undef) (a' := ?_) m8_33 rfl rfl (any_of HT_.out q8_82) (fun _ _ _ h => h) (Or.inr ⟨by rfl, rfl⟩) ?_ ?_
       rotate_left; · simp only [Act.put, setIfInBounds_toArray, set_cons_zero, set_cons_succ, i64_w, i32_w]; rfl
       refine pure_ (i := 9) (N := some 39) (v := undef) (a' := ?_) m8_36 rfl rfl (any_of HT_.out q8_82) (fun _ _ _ h => h) (Or.inr ⟨by rfl, rfl⟩) ?_ ?_
       rotate_left; · simp only [Act.put, setIfInBounds_toArray, set_cons_zero, set_cons_succ, i64_w, i32_w]; rfl
       refine pure_ (i := 10) (N := some 40) (v := undef) (a' := ?_) m8_39 rfl rfl (any_of HT_.out q8_82) (fun _ _ _ h => h) (Or.inr ⟨by rfl, rfl⟩) ?_ ?_
       rotate_left; · simp only [Act.put, setIfInBounds_toArray, set_cons_zero, set_cons_succ, i64_w, i32_w]; rfl
       refine pure_ (i := 11) (N := some 41) (v := undef) (a' := ?_) m8_42 rfl rfl (any_of HT_.out q8_82) (fun _ _ _ h => h) (Or.inr ⟨by rfl, rfl⟩) ?_ ?_
       rotate_left; · simp only [Act.put, setIfInBounds_toArray, set_cons_zero, set_cons_succ, i64_w, i32_w]; rfl
       refine pure_ (i := 12) (N := some 42) (v := ?_) (a' := ?_) m8_93 rfl rfl (any_of HT_.out q8_82) (fun _ _ _ h => h) (Or.inl ⟨by rfl, ?_⟩) ?_ ?_
       rotate_left; · intro w'; go_simp; with_reducible rfl
       rotate_left; · simp only [Act.put, setIfInBounds_toArray, set_cons_zero, set_cons_succ, i64_w, i32_w]; rfl
       refine done_ (done_of HT_.out q8_82) ?_
       try go_wp2
       go_ret
       exact ⟨by first | rfl | (simp [errW_none, errW_some] <;> rfl) | (simp [*, errW_none, errW_some] <;> rfl), by repeat (first | (with_reducible first | exact HB.out | apply below_alloc | apply pw_below_drewN | apply below_drew1 | refine below_set ?_ GE248.out | refine below_set ?_ GE249.out | refine below_set ?_ GE250.out) | exact HB.out)⟩
      ·rw [if_neg c124] at H
       have c124b0 : (t322 != t252) = false := by simpa using c124
       (try (have c124b1 : decide (t322 = t252) = true := by simpa using c124))
       (try (have c124b2 : (t322 == t252) = true := by simpa using c124))
       clear c124
       replace H := Option.bind_eq_some_iff.mp H
       obtain ⟨t323, A1330, H⟩ := H
       replace H : ((batonref10_Same.f kj5 a0_0 a0_1 l0_2 a1_0 a1_1 l1_2).bind fun t324 => (if (t323 != t324) = true then (some false) else (if t252 = true then (if t260 = 0 then (some false) else (some false)) else (some (t260 == 22))))) = some r := H
       have A133 := A8_ A1330
       clear A1330
       replace H := Option.bind_eq_some_iff.mp H
       obtain ⟨t324, A1340, H⟩ := H
       replace H : (if (t323 != t324) = true then (some false) else (if t252 = true then (if t260 = 0 then (some false) else (some false)) else (some (t260 == 22)))) = some r := H
       have A134 := A8_ A1340
       clear A1340
       by_cases c135 : (t323 != t324) = true
       ·rw [if_pos c135] at H
        have c135b0 : (t323 != t324) = true := c135
        (try (have c135b1 : decide (t323 = t324) = false := by simpa using c135))
        (try (have c135b2 : (t323 == t324) = false := by simpa using c135))
        (try (have c135b3 : ¬ (t323 = t324) := by simpa using c135))
        clear c135
        obtain rfl := Option.some.inj H
        have hnb136 := NB248_249.out
        have hnc136 := NB249_248.out
        have hnb137 := NB248_250.out
        have hnc137 := NB250_248.out
        have hcz138_0 : wc.cell? ⟨gb248, 0, none⟩ = some (.int .i64 a0_0) := bc8_ BK248 0
        have hcz138_1 : wc.cell? ⟨gb248, 1, none⟩ = some (.int .i64 a0_1) := bc8_ BK248 1
        have hcz138_2 : wc.cell? ⟨gb248, 2, none⟩ = some (.slice A0_2 l0_2.length c0_2) := bc8_ BK248 2
        have hfz138_0 := blk_frozen BK248.out 0
        have hfz138_1 := blk_frozen BK248.out 1
        have hfz138_2 := blk_frozen BK248.out 2
        try go_wp2_with (first | ((with_reducible refine gate_callee (f := 47) rfl ?_); refine goesL_ (some 24) rfl rfl Try.func47 q8_82 rfl #[.agg #[.int .i64 a0_0, .int .i64 a0_1, .slice A0_2 l0_2.length c0_2]] rfl q8_79 ?_; (with_reducible refine (batonref10_Right.calls kj5 a0_0 a0_1 _ _ l0_2 t252 _ ?side1 ?side2 A21.out).mono ?_); (case side1 => repeat (first | exact (Kd.C_below HR0_2.out HB.out) | (with_reducible refine Kd.C_alloc ?_ _) | (with_reducible refine Kd.C_drewN ?_ _) | (with_reducible refine Kd.C_drew ?_))); (case side2 => exact HC0_2.out); rintro e w139 ⟨rfl, hb⟩; refine ⟨_, rfl, ?_⟩; have n0_ := A8_ (blk_below (g := gb248) (o := .cells #[.int .i64 a0_0, .int .i64 a0_1, .slice A0_2 l0_2.length c0_2] 75 (0, 0)) q8_78 hb); have n1_ := A8_ (blk_below (g := gb249) (o := .cells #[.int .i64 a1_0, .int .i64 a1_1, .slice A1_2 l1_2.length c1_2] 75 (0, 0)) q8_80 hb); have n2_ := A8_ (blk_below (g := gb250) (o := .cells #[.int .i64 a2_0, .int .i64 a2_1] 84 (0, 0)) q8_81 hb); have n3_ := A8_ (below_step q8_77 hb); clear BK248 BK249 BK250 HB; have BK248 := n0_; have BK249 := n1_; have BK250 := n2_; have HB := n3_; clear n0_ n1_ n2_ n3_; (try clear hb); (try clear hb2); (try clear hk); (try clear hi); have hcz140_0 : w139.cell? ⟨gb248, 0, none⟩ = some (.int .i64 a0_0) := bc8_ BK248 0; have hcz140_1 : w139.cell? ⟨gb248, 1, none⟩ = some (.int .i64 a0_1) := bc8_ BK248 1; have hcz140_2 : w139.cell? ⟨gb248, 2, none⟩ = some (.slice A0_2 l0_2.length c0_2) := bc8_ BK248 2; have hfz140_0 := blk_frozen BK248.out 0; have hfz140_1 := blk_frozen BK248.out 1; have hfz140_2 := blk_frozen BK248.out 2) | ((with_reducible refine gate_callee (f := 48) rfl ?_); refine goesL_ (some 27) rfl rfl Try.func48 q8_82 rfl #[.agg #[.int .i64 a0_0, .int .i64 a0_1, .slice A0_2 l0_2.length c0_2]] rfl q8_79 ?_; (with_reducible refine (grid_Of.calls kj5 a0_0 a0_1 _ _ l0_2 false t254 t255 t256 t260 _ ?side1 ?side2 A22.out).mono ?_); (case side1 => repeat (first | exact (Kd.C_below HR0_2.out HB.out) | (with_reducible refine Kd.C_alloc ?_ _) | (with_reducible refine Kd.C_drewN ?_ _) | (with_reducible refine Kd.C_drew ?_))); (case side2 => exact HC0_2.out); rintro e w141 ⟨v257, gb259, rfl, ho0, hbn, hgn, hb⟩; refine ⟨_, rfl, ?_⟩; have n0_ := A8_ (Kd.R_lower ho0 (below_size q8_77)); have n1_ := A8_ (blk_below (g := gb248) (o := .cells #[.int .i64 a0_0, .int .i64 a0_1, .slice A0_2 l0_2.length c0_2] 75 (0, 0)) q8_78 hb); have n2_ := A8_ (blk_below (g := gb249) (o := .cells #[.int .i64 a1_0, .int .i64 a1_1, .slice A1_2 l1_2.length c1_2] 75 (0, 0)) q8_80 hb); have n3_ := A8_ (blk_below (g := gb250) (o := .cells #[.int .i64 a2_0, .int .i64 a2_1] 84 (0, 0)) q8_81 hb); have n4_ := A8_ (below_step q8_77 hb); clear BK248 BK249 BK250 HB; have HO258 := n0_; have BK248 := n1_; have BK249 := n2_; have BK250 := n3_; have HB := n4_; clear n0_ n1_ n2_ n3_ n4_; (try simp only [ptrW_true, ptrW_false]); (try clear hbn); (try clear hgn); (try clear hb); (try clear hb2); (try clear hk); (try clear hi); (try clear ho0)))
        have n0_ := A8_ (Kd.R_drew HO258.out)
        have n1_ := A8_ (blk_drew BK248.out)
        have n2_ := A8_ (blk_drew BK249.out)
        have n3_ := A8_ (blk_drew BK250.out)
        have n4_ := A8_ (below_drew1 HB.out)
        clear HO258; clear BK248; clear BK249; clear BK250; clear HB; have HO258 := n0_; have BK248 := n1_; have BK249 := n2_; have BK250 := n3_; have HB := n4_; clear n0_ n1_ n2_ n3_ n4_
        refine start_ (n := 13) (S := fun w' => w'.cell? ⟨gb248, 0, none⟩ = some (.int .i64 a0_0) /\ w'.cell? ⟨gb248, 1, none⟩ = some (.int .i64 a0_1) /\ w'.cell? ⟨gb248, 2, none⟩ = some (.slice A0_2 l0_2.length c0_2) /\ w'.cell? ⟨gb249, 0, none⟩ = some (.int .i64 a1_0) /\ w'.cell? ⟨gb249, 1, none⟩ = some (.int .i64 a1_1) /\ w'.cell? ⟨gb249, 2, none⟩ = some (.slice A1_2 l1_2.length c1_2)) (ds := []) m8_2 q8_82 rfl rfl ⟨bc8_ BK248 0, bc8_ BK248 1, bc8_ BK248 2, bc8_ BK249 0, bc8_ BK249 1, bc8_ BK249 2⟩ (fun hHeld => ?_); refine with_tabW batonlaw10_GridTells.tab7 batonlaw10_GridTells.bits7 (fun HT_ HW_ => ?_)
        generalize w141.drew = w142 at HO258 BK248 BK249 BK250 HB hHeld ⊢
        refine pure_ (i := 2) (N := some 32) (v := ?_) (a' := ?_) m8_3 rfl rfl (any_of HT_.out q8_82) (fun _ _ _ h => h) (Or.inl ⟨by rfl, ?_⟩) ?_ ?_
        rotate_left; · intro w'; go_simp; with_reducible rfl
        rotate_left; · simp only [Act.put, setIfInBounds_toArray, set_cons_zero, set_cons_succ, i64_w, i32_w]; rfl
        refine take_ (i := 0) (N := some 30) (v := ?_) (a' := ?_) m8_6 rfl rfl (take_ofW HT_.out HW_.out q8_82) (fun _ _ _ h => h) (Or.inl ⟨by rfl, ?_⟩) hHeld ?_ ?_
        rotate_left; · rintro w' ⟨s0, s1, s2, s3, s4, s5⟩; go_simp; with_reducible rfl
        rotate_left; · simp only [Act.put, setIfInBounds_toArray, set_cons_zero, set_cons_succ, i64_w, i32_w]; rfl
        refine one_ (i := 1) (N := some 31) m8_15 rfl rfl (one_of HT_.out q8_82) q8_90 (fun K hK => ?_)
        refine goes_ Try.func52 q8_82 rfl #[.agg #[.int .i64 a0_0, .int .i64 a0_1, .slice A0_2 l0_2.length c0_2]] (by rfl) rfl rfl q8_79 ?_
        with_reducible refine (grid_Right.calls kj5 a0_0 a0_1 _ _ l0_2 t322 _ ?side1 ?side2 A123.out).mono ?_
        (case side1 => repeat (first | exact (Kd.C_below HR0_2.out HB.out) | (with_reducible refine Kd.C_alloc ?_ _) | (with_reducible refine Kd.C_drewN ?_ _) | (with_reducible refine Kd.C_drew ?_)))
        (case side2 => exact HC0_2.out)
        rintro e w143 ⟨rfl, hb⟩
        refine ⟨_, rfl, ?_⟩
        have n0_ := A8_ (Kd.R_below q8_84 hb)
        have n1_ := A8_ (blk_below (g := gb248) (o := .cells #[.int .i64 a0_0, .int .i64 a0_1, .slice A0_2 l0_2.length c0_2] 75 (0, 0)) q8_78 hb)
        have n2_ := A8_ (blk_below (g := gb249) (o := .cells #[.int .i64 a1_0, .int .i64 a1_1, .slice A1_2 l1_2.length c1_2] 75 (0, 0)) q8_80 hb)
        have n3_ := A8_ (blk_below (g := gb250) (o := .cells #[.int .i64 a2_0, .int .i64 a2_1] 84 (0, 0)) q8_81 hb)
        have n4_ := A8_ (below_step q8_77 hb)
        clear HO258; clear BK248; clear BK249; clear BK250; clear HB; have HO258 := n0_; have BK248 := n1_; have BK249 := n2_; have BK250 := n3_; have HB := n4_; clear n0_ n1_ n2_ n3_ n4_; (try clear hb); (try clear hb2); (try clear hk); (try clear hi)
        refine hK.out _ _ ⟨bc8_ BK248 0, bc8_ BK248 1, bc8_ BK248 2, bc8_ BK249 0, bc8_ BK249 1, bc8_ BK249 2⟩ (fun hHeld => ?_)
        clear hK K
        refine norm_ (a' := ?_) ?_ ?_
        rotate_left; · show Act.put _ (some 31) _ = _; simp only [Act.put, setIfInBounds_toArray, set_cons_zero, set_cons_succ, i64_w, i32_w]; rfl
        refine pure_ (i := 3) (N := some 33) (v := ?_) (a' := ?_) m8_17 rfl rfl (any_of HT_.out q8_82) (fun _ _ _ h => h) (Or.inl ⟨by rfl, ?_⟩) ?_ ?_
        rotate_left; · intro w'; go_simp; with_reducible rfl
        rotate_left; · simp only [Act.put, setIfInBounds_toArray, set_cons_zero, set_cons_succ, i64_w, i32_w]; rfl
        refine pure_ (i := 4) (N := some 34) (v := ?_) (a' := ?_) m8_20 rfl rfl (any_of HT_.out q8_82) (fun _ _ _ h => h) (Or.inl ⟨by rfl, ?_⟩) ?_ ?_
        rotate_left; · intro w'; go_simp; with_reducible rfl
        rotate_left; · simp only [Act.put, setIfInBounds_toArray, set_cons_zero, set_cons_succ, i64_w, i32_w]; rfl
        refine take_ (i := 5) (N := some 35) (v := ?_) (a' := ?_) m8_22 rfl rfl (take_ofW HT_.out HW_.out q8_82) (fun _ _ _ h => h) (Or.inl ⟨by rfl, ?_⟩) hHeld ?_ ?_
        rotate_left; · rintro w' ⟨s0, s1, s2, s3, s4, s5⟩; go_simp; with_reducible rfl
        rotate_left; · simp only [Act.put, setIfInBounds_toArray, set_cons_zero, set_cons_succ, i64_w, i32_w]; rfl
        refine take_ (i := 6) (N := some 36) (v := ?_) (a' := ?_) m8_25 rfl rfl (take_ofW HT_.out HW_.out q8_82) (fun _ _ _ h => h) (Or.inl ⟨by rfl, ?_⟩) hHeld ?_ ?_
        rotate_left; · rintro w' ⟨s0, s1, s2, s3, s4, s5⟩; go_simp; with_reducible rfl
        rotate_left; · simp only [Act.put, setIfInBounds_toArray, set_cons_zero, set_cons_succ, i64_w, i32_w]; rfl
        refine take_ (i := 8) (N := some 38) (v := ?_) (a' := ?_) m8_26 rfl rfl (take_ofW HT_.out HW_.out q8_82) (fun _ _ _ h => h) (Or.inl ⟨by rfl, ?_⟩) hHeld ?_ ?_
        rotate_left; · rintro w' ⟨s0, s1, s2, s3, s4, s5⟩; go_simp; with_reducible rfl
        rotate_left; · simp only [Act.put, setIfInBounds_toArray, set_cons_zero, set_cons_succ, i64_w, i32_w]; rfl
        refine take_ (i := 9) (N := some 39) (v := ?_) (a' := ?_) m8_28 rfl rfl (take_ofW HT_.out HW_.out q8_82) (fun _ _ _ h => h) (Or.inl ⟨by rfl, ?_⟩) hHeld ?_ ?_
        rotate_left; · rintro w' ⟨s0, s1, s2, s3, s4, s5⟩; go_simp; with_reducible rfl
        rotate_left; · simp only [Act.put, setIfInBounds_toArray, set_cons_zero, set_cons_succ, i64_w, i32_w]; rfl
        refine one_ (i := 7) (N := some 37) m8_36 rfl rfl (one_of HT_.out q8_82) q8_90 (fun K hK => ?_)
        refine goes_ Try.func53 q8_82 rfl #[.agg #[.int .i64 a0_0, .int .i64 a0_1, .slice A0_2 l0_2.length c0_2], .agg #[.int .i64 a1_0, .int .i64 a1_1, .slice A1_2 l1_2.length c1_2]] (by rfl) rfl rfl q8_79 ?_
        with_reducible refine (grid_Same.calls kj5 a0_0 a0_1 _ _ l0_2 a1_0 a1_1 _ _ l1_2 t323 _ ?side1 ?side2 ?side3 ?side4 A133.out).mono ?_
        (case side1 => repeat (first | exact (Kd.C_below HR0_2.out HB.out) | (with_reducible refine Kd.C_alloc ?_ _) | (with_reducible refine Kd.C_drewN ?_ _) | (with_reducible refine Kd.C_drew ?_)))
        (case side2 => exact HC0_2.out)
        (case side3 => repeat (first | exact (Kd.C_below HR1_2.out HB.out) | (with_reducible refine Kd.C_alloc ?_ _) | (with_reducible refine Kd.C_drewN ?_ _) | (with_reducible refine Kd.C_drew ?_)))
        (case side4 => exact HC1_2.out)
        rintro e w144 ⟨rfl, hb⟩
        refine ⟨_, rfl, ?_⟩
        have n0_ := A8_ (Kd.R_below q8_84 hb)
        have n1_ := A8_ (blk_below (g := gb248) (o := .cells #[.int .i64 a0_0, .int .i64 a0_1, .slice A0_2 l0_2.length c0_2] 75 (0, 0)) q8_78 hb)
        have n2_ := A8_ (blk_below (g := gb249) (o := .cells #[.int .i64 a1_0, .int .i64 a1_1, .slice A1_2 l1_2.length c1_2] 75 (0, 0)) q8_80 hb)
        have n3_ := A8_ (blk_below (g := gb250) (o := .cells #[.int .i64 a2_0, .int .i64 a2_1] 84 (0, 0)) q8_81 hb)
        have n4_ := A8_ (below_step q8_77 hb)
        clear HO258; clear BK248; clear BK249; clear BK250; clear HB; have HO258 := n0_; have BK248 := n1_; have BK249 := n2_; have BK250 := n3_; have HB := n4_; clear n0_ n1_ n2_ n3_ n4_; (try clear hb); (try clear hb2); (try clear hk); (try clear hi)
        refine hK.out _ _ ⟨bc8_ BK248 0, bc8_ BK248 1, bc8_ BK248 2, bc8_ BK249 0, bc8_ BK249 1, bc8_ BK249 2⟩ (fun hHeld => ?_)
        clear hK K
        refine norm_ (a' := ?_) ?_ ?_
        rotate_left; · show Act.put _ (some 37) _ = _; simp only [Act.put, setIfInBounds_toArray, set_cons_zero, set_cons_succ, i64_w, i32_w]; rfl
        refine one_ (i := 10) (N := some 40) m8_39 rfl rfl (one_of HT_.out q8_82) q8_90 (fun K hK => ?_)
        refine goes_ Try.func51 q8_82 rfl #[.agg #[.int .i64 a0_0, .int .i64 a0_1, .slice A0_2 l0_2.length c0_2], .agg #[.int .i64 a1_0, .int .i64 a1_1, .slice A1_2 l1_2.length c1_2]] (by rfl) rfl rfl q8_79 ?_
        with_reducible refine (batonref10_Same.calls kj5 a0_0 a0_1 _ _ l0_2 a1_0 a1_1 _ _ l1_2 t324 _ ?side1 ?side2 ?side3 ?side4 A134.out).mono ?_
        (case side1 => repeat (first | exact (Kd.C_below HR0_2.out HB.out) | (with_reducible refine Kd.C_alloc ?_ _) | (with_reducible refine Kd.C_drewN ?_ _) | (with_reducible refine Kd.C_drew ?_)))
        (case side2 => exact HC0_2.out)
        (case side3 => repeat (first | exact (Kd.C_below HR1_2.out HB.out) | (with_reducible refine Kd.C_alloc ?_ _) | (with_reducible refine Kd.C_drewN ?_ _) | (with_reducible refine Kd.C_drew ?_)))
        (case side4 => exact HC1_2.out)
        rintro e w145 ⟨rfl, hb⟩
        refine ⟨_, rfl, ?_⟩
        have n0_ := A8_ (Kd.R_below q8_84 hb)
        have n1_ := A8_ (blk_below (g := gb248) (o := .cells #[.int .i64 a0_0, .int .i64 a0_1, .slice A0_2 l0_2.length c0_2] 75 (0, 0)) q8_78 hb)
        have n2_ := A8_ (blk_below (g := gb249) (o := .cells #[.int .i64 a1_0, .int .i64 a1_1, .slice A1_2 l1_2.length c1_2] 75 (0, 0)) q8_80 hb)
        have n3_ := A8_ (blk_below (g := gb250) (o := .cells #[.int .i64 a2_0, .int .i64 a2_1] 84 (0, 0)) q8_81 hb)
        have n4_ := A8_ (below_step q8_77 hb)
        clear HO258; clear BK248; clear BK249; clear BK250; clear HB; have HO258 := n0_; have BK248 := n1_; have BK249 := n2_; have BK250 := n3_; have HB := n4_; clear n0_ n1_ n2_ n3_ n4_; (try clear hb); (try clear hb2); (try clear hk); (try clear hi)
        refine hK.out _ _ ⟨bc8_ BK248 0, bc8_ BK248 1, bc8_ BK248 2, bc8_ BK249 0, bc8_ BK249 1, bc8_ BK249 2⟩ (fun hHeld => ?_)
        clear hK K
        refine norm_ (a' := ?_) ?_ ?_
        rotate_left; · show Act.put _ (some 40) _ = _; simp only [Act.put, setIfInBounds_toArray, set_cons_zero, set_cons_succ, i64_w, i32_w]; rfl
        refine pure_ (i := 11) (N := some 41) (v := ?_) (a' := ?_) m8_42 rfl rfl (any_of HT_.out q8_82) (fun _ _ _ h => h) (Or.inl ⟨by rfl, ?_⟩) ?_ ?_
        rotate_left; · intro w'; go_simp; with_reducible rfl
        rotate_left; · simp only [Act.put, setIfInBounds_toArray, set_cons_zero, set_cons_succ, i64_w, i32_w]; rfl
        refine pure_ (i := 12) (N := some 42) (v := ?_) (a' := ?_) m8_93 rfl rfl (any_of HT_.out q8_82) (fun _ _ _ h => h) (Or.inl ⟨by rfl, ?_⟩) ?_ ?_
        rotate_left; · intro w'; go_simp; with_reducible rfl
        rotate_left; · simp only [Act.put, setIfInBounds_toArray, set_cons_zero, set_cons_succ, i64_w, i32_w]; rfl
        refine done_ (done_of HT_.out q8_82) ?_
        try go_wp2
        go_ret
        exact ⟨by first | rfl | (simp [errW_none, errW_some] <;> rfl) | (simp [*, errW_none, errW_some] <;> rfl), by repeat (first | (with_reducible first | exact HB.out | apply below_alloc | apply pw_below_drewN | apply below_drew1 | refine below_set ?_ GE248.out | refine below_set ?_ GE249.out | refine below_set ?_ GE250.out) | exact HB.out)⟩
       ·rw [if_neg c135] at H
        have c135b0 : (t323 != t324) = false := by simpa using c135
        (try (have c135b1 : decide (t323 = t324) = true := by simpa using c135))
        (try (have c135b2 : (t323 == t324) = true := by simpa using c135))
        clear c135
        by_cases c146 : t252 = true
        ·subst c146
         have H1 : (if t260 = 0 then (some false) else (some false)) = some r := by rw [if_pos rfl] at H; exact H
         clear H; have H := H1; clear H1
         by_cases c147 : t260 = 0
         ·rw [if_pos c147] at H
          have c147b0 : (t260 == 0) = true := beq_iff_eq.mpr c147
          have c147b1 : (t260 != 0) = false := bne_eq_false_iff_eq.mpr c147
          clear c147
          obtain rfl := Option.some.inj H
          have hnb148 := NB248_249.out
          have hnc148 := NB249_248.out
          have hnb149 := NB248_250.out
          have hnc149 := NB250_248.out
          have hcz150_0 : wc.cell? ⟨gb248, 0, none⟩ = some (.int .i64 a0_0) := bc8_ BK248 0
          have hcz150_1 : wc.cell? ⟨gb248, 1, none⟩ = some (.int .i64 a0_1) := bc8_ BK248 1
          have hcz150_2 : wc.cell? ⟨gb248, 2, none⟩ = some (.slice A0_2 l0_2.length c0_2) := bc8_ BK248 2
          have hfz150_0 := blk_frozen BK248.out 0
          have hfz150_1 := blk_frozen BK248.out 1
          have hfz150_2 := blk_frozen BK248.out 2
          try go_wp2_with (first | ((with_reducible refine gate_callee (f := 47) rfl ?_); refine goesL_ (some 24) rfl rfl Try.func47 q8_82 rfl #[.agg #[.int .i64 a0_0, .int .i64 a0_1, .slice A0_2 l0_2.length c0_2]] rfl q8_79 ?_; (with_reducible refine (batonref10_Right.calls kj5 a0_0 a0_1 _ _ l0_2 true _ ?side1 ?side2 A21.out).mono ?_); (case side1 => repeat (first | exact (Kd.C_below HR0_2.out HB.out) | (with_reducible refine Kd.C_alloc ?_ _) | (with_reducible refine Kd.C_drewN ?_ _) | (with_reducible refine Kd.C_drew ?_))); (case side2 => exact HC0_2.out); rintro e w151 ⟨rfl, hb⟩; refine ⟨_, rfl, ?_⟩; have n0_ := A8_ (blk_below (g := gb248) (o := .cells #[.int .i64 a0_0, .int .i64 a0_1, .slice A0_2 l0_2.length c0_2] 75 (0, 0)) q8_78 hb); have n1_ := A8_ (blk_below (g := gb249) (o := .cells #[.int .i64 a1_0, .int .i64 a1_1, .slice A1_2 l1_2.length c1_2] 75 (0, 0)) q8_80 hb); have n2_ := A8_ (blk_below (g := gb250) (o := .cells #[.int .i64 a2_0, .int .i64 a2_1] 84 (0, 0)) q8_81 hb); have n3_ := A8_ (below_step q8_77 hb); clear BK248 BK249 BK250 HB; have BK248 := n0_; have BK249 := n1_; have BK250 := n2_; have HB := n3_; clear n0_ n1_ n2_ n3_; (try clear hb); (try clear hb2); (try clear hk); (try clear hi); have hcz152_0 : w151.cell? ⟨gb248, 0, none⟩ = some (.int .i64 a0_0) := bc8_ BK248 0; have hcz152_1 : w151.cell? ⟨gb248, 1, none⟩ = some (.int .i64 a0_1) := bc8_ BK248 1; have hcz152_2 : w151.cell? ⟨gb248, 2, none⟩ = some (.slice A0_2 l0_2.length c0_2) := bc8_ BK248 2; have hfz152_0 := blk_frozen BK248.out 0; have hfz152_1 := blk_frozen BK248.out 1; have hfz152_2 := blk_frozen BK248.out 2) | ((with_reducible refine gate_callee (f := 48) rfl ?_); refine goesL_ (some 27) rfl rfl Try.func48 q8_82 rfl #[.agg #[.int .i64 a0_0, .int .i64 a0_1, .slice A0_2 l0_2.length c0_2]] rfl q8_79 ?_; (with_reducible refine (grid_Of.calls kj5 a0_0 a0_1 _ _ l0_2 false t254 t255 t256 t260 _ ?side1 ?side2 A22.out).mono ?_); (case side1 => repeat (first | exact (Kd.C_below HR0_2.out HB.out) | (with_reducible refine Kd.C_alloc ?_ _) | (with_reducible refine Kd.C_drewN ?_ _) | (with_reducible refine Kd.C_drew ?_))); (case side2 => exact HC0_2.out); rintro e w153 ⟨v257, gb259, rfl, ho0, hbn, hgn, hb⟩; refine ⟨_, rfl, ?_⟩; have n0_ := A8_ (Kd.R_lower ho0 (below_size q8_77)); have n1_ := A8_ (blk_below (g := gb248) (o := .cells #[.int .i64 a0_0, .int .i64 a0_1, .slice A0_2 l0_2.length c0_2] 75 (0, 0)) q8_78 hb); have n2_ := A8_ (blk_below (g := gb249) (o := .cells #[.int .i64 a1_0, .int .i64 a1_1, .slice A1_2 l1_2.length c1_2] 75 (0, 0)) q8_80 hb); have n3_ := A8_ (blk_below (g := gb250) (o := .cells #[.int .i64 a2_0, .int .i64 a2_1] 84 (0, 0)) q8_81 hb); have n4_ := A8_ (below_step q8_77 hb); clear BK248 BK249 BK250 HB; have HO258 := n0_; have BK248 := n1_; have BK249 := n2_; have BK250 := n3_; have HB := n4_; clear n0_ n1_ n2_ n3_ n4_; (try simp only [ptrW_true, ptrW_false]); (try clear hbn); (try clear hgn); (try clear hb); (try clear hb2); (try clear hk); (try clear hi); (try clear ho0)))
          have n0_ := A8_ (Kd.R_drew HO258.out)
          have n1_ := A8_ (blk_drew BK248.out)
          have n2_ := A8_ (blk_drew BK249.out)
          have n3_ := A8_ (blk_drew BK250.out)
          have n4_ := A8_ (below_drew1 HB.out)
          clear HO258; clear BK248; clear BK249; clear BK250; clear HB; have HO258 := n0_; have BK248 := n1_; have BK249 := n2_; have BK250 := n3_; have HB := n4_; clear n0_ n1_ n2_ n3_ n4_
          refine start_ (n := 13) (S := fun w' => w'.cell? ⟨gb248, 0, none⟩ = some (.int .i64 a0_0) /\ w'.cell? ⟨gb248, 1, none⟩ = some (.int .i64 a0_1) /\ w'.cell? ⟨gb248, 2, none⟩ = some (.slice A0_2 l0_2.length c0_2) /\ w'.cell? ⟨gb249, 0, none⟩ = some (.int .i64 a1_0) /\ w'.cell? ⟨gb249, 1, none⟩ = some (.int .i64 a1_1) /\ w'.cell? ⟨gb249, 2, none⟩ = some (.slice A1_2 l1_2.length c1_2)) (ds := []) m8_2 q8_82 rfl rfl ⟨bc8_ BK248 0, bc8_ BK248 1, bc8_ BK248 2, bc8_ BK249 0, bc8_ BK249 1, bc8_ BK249 2⟩ (fun hHeld => ?_); refine with_tabW batonlaw10_GridTells.tab7 batonlaw10_GridTells.bits7 (fun HT_ HW_ => ?_)
          generalize w153.drew = w154 at HO258 BK248 BK249 BK250 HB hHeld ⊢
          refine pure_ (i := 2) (N := some 32) (v := ?_) (a' := ?_) m8_3 rfl rfl (any_of HT_.out q8_82) (fun _ _ _ h => h) (Or.inl ⟨by rfl, ?_⟩) ?_ ?_
          rotate_left; · intro w'; go_simp; with_reducible rfl
          rotate_left; · simp only [Act.put, setIfInBounds_toArray, set_cons_zero, set_cons_succ, i64_w, i32_w]; rfl
          refine take_ (i := 0) (N := some 30) (v := ?_) (a' := ?_) m8_6 rfl rfl (take_ofW HT_.out HW_.out q8_82) (fun _ _ _ h => h) (Or.inl ⟨by rfl, ?_⟩) hHeld ?_ ?_
          rotate_left; · rintro w' ⟨s0, s1, s2, s3, s4, s5⟩; go_simp; with_reducible rfl
          rotate_left; · simp only [Act.put, setIfInBounds_toArray, set_cons_zero, set_cons_succ, i64_w, i32_w]; rfl
          refine one_ (i := 1) (N := some 31) m8_15 rfl rfl (one_of HT_.out q8_82) q8_90 (fun K hK => ?_)
          refine goes_ Try.func52 q8_82 rfl #[.agg #[.int .i64 a0_0, .int .i64 a0_1, .slice A0_2 l0_2.length c0_2]] (by rfl) rfl rfl q8_79 ?_
          with_reducible refine (grid_Right.calls kj5 a0_0 a0_1 _ _ l0_2 t322 _ ?side1 ?side2 A123.out).mono ?_
          (case side1 => repeat (first | exact (Kd.C_below HR0_2.out HB.out) | (with_reducible refine Kd.C_alloc ?_ _) | (with_reducible refine Kd.C_drewN ?_ _) | (with_reducible refine Kd.C_drew ?_)))
          (case side2 => exact HC0_2.out)
          rintro e w155 ⟨rfl, hb⟩
          refine ⟨_, rfl, ?_⟩
          have n0_ := A8_ (Kd.R_below q8_84 hb)
          have n1_ := A8_ (blk_below (g := gb248) (o := .cells #[.int .i64 a0_0, .int .i64 a0_1, .slice A0_2 l0_2.length c0_2] 75 (0, 0)) q8_78 hb)
          have n2_ := A8_ (blk_below (g := gb249) (o := .cells #[.int .i64 a1_0, .int .i64 a1_1, .slice A1_2 l1_2.length c1_2] 75 (0, 0)) q8_80 hb)
          have n3_ := A8_ (blk_below (g := gb250) (o := .cells #[.int .i64 a2_0, .int .i64 a2_1] 84 (0, 0)) q8_81 hb)
          have n4_ := A8_ (below_step q8_77 hb)
          clear HO258; clear BK248; clear BK249; clear BK250; clear HB; have HO258 := n0_; have BK248 := n1_; have BK249 := n2_; have BK250 := n3_; have HB := n4_; clear n0_ n1_ n2_ n3_ n4_; (try clear hb); (try clear hb2); (try clear hk); (try clear hi)
          refine hK.out _ _ ⟨bc8_ BK248 0, bc8_ BK248 1, bc8_ BK248 2, bc8_ BK249 0, bc8_ BK249 1, bc8_ BK249 2⟩ (fun hHeld => ?_)
          clear hK K
          refine norm_ (a' := ?_) ?_ ?_
          rotate_left; · show Act.put _ (some 31) _ = _; simp only [Act.put, setIfInBounds_toArray, set_cons_zero, set_cons_succ, i64_w, i32_w]; rfl
          refine pure_ (i := 3) (N := some 33) (v := ?_) (a' := ?_) m8_17 rfl rfl (any_of HT_.out q8_82) (fun _ _ _ h => h) (Or.inl ⟨by rfl, ?_⟩) ?_ ?_
          rotate_left; · intro w'; go_simp; with_reducible rfl
          rotate_left; · simp only [Act.put, setIfInBounds_toArray, set_cons_zero, set_cons_succ, i64_w, i32_w]; rfl
          refine pure_ (i := 4) (N := some 34) (v := ?_) (a' := ?_) m8_20 rfl rfl (any_of HT_.out q8_82) (fun _ _ _ h => h) (Or.inl ⟨by rfl, ?_⟩) ?_ ?_
          rotate_left; · intro w'; go_simp; with_reducible rfl
          rotate_left; · simp only [Act.put, setIfInBounds_toArray, set_cons_zero, set_cons_succ, i64_w, i32_w]; rfl
          refine take_ (i := 5) (N := some 35) (v := ?_) (a' := ?_) m8_22 rfl rfl (take_ofW HT_.out HW_.out q8_82) (fun _ _ _ h => h) (Or.inl ⟨by rfl, ?_⟩) hHeld ?_ ?_
          rotate_left; · rintro w' ⟨s0, s1, s2, s3, s4, s5⟩; go_simp; with_reducible rfl
          rotate_left; · simp only [Act.put, setIfInBounds_toArray, set_cons_zero, set_cons_succ, i64_w, i32_w]; rfl
          refine take_ (i := 6) (N := some 36) (v := ?_) (a' := ?_) m8_25 rfl rfl (take_ofW HT_.out HW_.out q8_82) (fun _ _ _ h => h) (Or.inl ⟨by rfl, ?_⟩) hHeld ?_ ?_
          rotate_left; · rintro w' ⟨s0, s1, s2, s3, s4, s5⟩; go_simp; with_reducible rfl
          rotate_left; · simp only [Act.put, setIfInBounds_toArray, set_cons_zero, set_cons_succ, i64_w, i32_w]; rfl
          refine take_ (i := 8) (N := some 38) (v := ?_) (a' := ?_) m8_26 rfl rfl (take_ofW HT_.out HW_.out q8_82) (fun _ _ _ h => h) (Or.inl ⟨by rfl, ?_⟩) hHeld ?_ ?_
          rotate_left; · rintro w' ⟨s0, s1, s2, s3, s4, s5⟩; go_simp; with_reducible rfl
          rotate_left; · simp only [Act.put, setIfInBounds_toArray, set_cons_zero, set_cons_succ, i64_w, i32_w]; rfl
          refine take_ (i := 9) (N := some 39) (v := ?_) (a' := ?_) m8_28 rfl rfl (take_ofW HT_.out HW_.out q8_82) (fun _ _ _ h => h) (Or.inl ⟨by rfl, ?_⟩) hHeld ?_ ?_
          rotate_left; · rintro w' ⟨s0, s1, s2, s3, s4, s5⟩; go_simp; with_reducible rfl
          rotate_left; · simp only [Act.put, setIfInBounds_toArray, set_cons_zero, set_cons_succ, i64_w, i32_w]; rfl
          refine one_ (i := 7) (N := some 37) m8_36 rfl rfl (one_of HT_.out q8_82) q8_90 (fun K hK => ?_)
          refine goes_ Try.func53 q8_82 rfl #[.agg #[.int .i64 a0_0, .int .i64 a0_1, .slice A0_2 l0_2.length c0_2], .agg #[.int .i64 a1_0, .int .i64 a1_1, .slice A1_2 l1_2.length c1_2]] (by rfl) rfl rfl q8_79 ?_
          with_reducible refine (grid_Same.calls kj5 a0_0 a0_1 _ _ l0_2 a1_0 a1_1 _ _ l1_2 t323 _ ?side1 ?side2 ?side3 ?side4 A133.out).mono ?_
          (case side1 => repeat (first | exact (Kd.C_below HR0_2.out HB.out) | (with_reducible refine Kd.C_alloc ?_ _) | (with_reducible refine Kd.C_drewN ?_ _) | (with_reducible refine Kd.C_drew ?_)))
          (case side2 => exact HC0_2.out)
          (case side3 => repeat (first | exact (Kd.C_below HR1_2.out HB.out) | (with_reducible refine Kd.C_alloc ?_ _) | (with_reducible refine Kd.C_drewN ?_ _) | (with_reducible refine Kd.C_drew ?_)))
          (case side4 => exact HC1_2.out)
          rintro e w156 ⟨rfl, hb⟩
          refine ⟨_, rfl, ?_⟩
          have n0_ := A8_ (Kd.R_below q8_84 hb)
          have n1_ := A8_ (blk_below (g := gb248) (o := .cells #[.int .i64 a0_0, .int .i64 a0_1, .slice A0_2 l0_2.length c0_2] 75 (0, 0)) q8_78 hb)
          have n2_ := A8_ (blk_below (g := gb249) (o := .cells #[.int .i64 a1_0, .int .i64 a1_1, .slice A1_2 l1_2.length c1_2] 75 (0, 0)) q8_80 hb)
          have n3_ := A8_ (blk_below (g := gb250) (o := .cells #[.int .i64 a2_0, .int .i64 a2_1] 84 (0, 0)) q8_81 hb)
          have n4_ := A8_ (below_step q8_77 hb)
          clear HO258; clear BK248; clear BK249; clear BK250; clear HB; have HO258 := n0_; have BK248 := n1_; have BK249 := n2_; have BK250 := n3_; have HB := n4_; clear n0_ n1_ n2_ n3_ n4_; (try clear hb); (try clear hb2); (try clear hk); (try clear hi)
          refine hK.out _ _ ⟨bc8_ BK248 0, bc8_ BK248 1, bc8_ BK248 2, bc8_ BK249 0, bc8_ BK249 1, bc8_ BK249 2⟩ (fun hHeld => ?_)
          clear hK K
          refine norm_ (a' := ?_) ?_ ?_
          rotate_left; · show Act.put _ (some 37) _ = _; simp only [Act.put, setIfInBounds_toArray, set_cons_zero, set_cons_succ, i64_w, i32_w]; rfl
          refine one_ (i := 10) (N := some 40) m8_39 rfl rfl (one_of HT_.out q8_82) q8_90 (fun K hK => ?_)
          refine goes_ Try.func51 q8_82 rfl #[.agg #[.int .i64 a0_0, .int .i64 a0_1, .slice A0_2 l0_2.length c0_2], .agg #[.int .i64 a1_0, .int .i64 a1_1, .slice A1_2 l1_2.length c1_2]] (by rfl) rfl rfl q8_79 ?_
          with_reducible refine (batonref10_Same.calls kj5 a0_0 a0_1 _ _ l0_2 a1_0 a1_1 _ _ l1_2 t324 _ ?side1 ?side2 ?side3 ?side4 A134.out).mono ?_
          (case side1 => repeat (first | exact (Kd.C_below HR0_2.out HB.out) | (with_reducible refine Kd.C_alloc ?_ _) | (with_reducible refine Kd.C_drewN ?_ _) | (with_reducible refine Kd.C_drew ?_)))
          (case side2 => exact HC0_2.out)
          (case side3 => repeat (first | exact (Kd.C_below HR1_2.out HB.out) | (with_reducible refine Kd.C_alloc ?_ _) | (with_reducible refine Kd.C_drewN ?_ _) | (with_reducible refine Kd.C_drew ?_)))
          (case side4 => exact HC1_2.out)
          rintro e w157 ⟨rfl, hb⟩
          refine ⟨_, rfl, ?_⟩
          have n0_ := A8_ (Kd.R_below q8_84 hb)
          have n1_ := A8_ (blk_below (g := gb248) (o := .cells #[.int .i64 a0_0, .int .i64 a0_1, .slice A0_2 l0_2.length c0_2] 75 (0, 0)) q8_78 hb)
          have n2_ := A8_ (blk_below (g := gb249) (o := .cells #[.int .i64 a1_0, .int .i64 a1_1, .slice A1_2 l1_2.length c1_2] 75 (0, 0)) q8_80 hb)
          have n3_ := A8_ (blk_below (g := gb250) (o := .cells #[.int .i64 a2_0, .int .i64 a2_1] 84 (0, 0)) q8_81 hb)
          have n4_ := A8_ (below_step q8_77 hb)
          clear HO258; clear BK248; clear BK249; clear BK250; clear HB; have HO258 := n0_; have BK248 := n1_; have BK249 := n2_; have BK250 := n3_; have HB := n4_; clear n0_ n1_ n2_ n3_ n4_; (try clear hb); (try clear hb2); (try clear hk); (try clear hi)
          refine hK.out _ _ ⟨bc8_ BK248 0, bc8_ BK248 1, bc8_ BK248 2, bc8_ BK249 0, bc8_ BK249 1, bc8_ BK249 2⟩ (fun hHeld => ?_)
          clear hK K
          refine norm_ (a' := ?_) ?_ ?_
          rotate_left; · show Act.put _ (some 40) _ = _; simp only [Act.put, setIfInBounds_toArray, set_cons_zero, set_cons_succ, i64_w, i32_w]; rfl
          refine pure_ (i := 11) (N := some 41) (v := ?_) (a' := ?_) m8_42 rfl rfl (any_of HT_.out q8_82) (fun _ _ _ h => h) (Or.inl ⟨by rfl, ?_⟩) ?_ ?_
          rotate_left; · intro w'; go_simp; with_reducible rfl
          rotate_left; · simp only [Act.put, setIfInBounds_toArray, set_cons_zero, set_cons_succ, i64_w, i32_w]; rfl
          refine pure_ (i := 12) (N := some 42) (v := ?_) (a' := ?_) m8_93 rfl rfl (any_of HT_.out q8_82) (fun _ _ _ h => h) (Or.inl ⟨by rfl, ?_⟩) ?_ ?_
          rotate_left; · intro w'; go_simp; with_reducible rfl
          rotate_left; · simp only [Act.put, setIfInBounds_toArray, set_cons_zero, set_cons_succ, i64_w, i32_w]; rfl
          refine done_ (done_of HT_.out q8_82) ?_
          try go_wp2
          have n0_ := A8_ (Kd.R_drew HO258.out)
          have n1_ := A8_ (blk_drew BK248.out)
          have n2_ := A8_ (blk_drew BK249.out)
          have n3_ := A8_ (blk_drew BK250.out)
          have n4_ := A8_ (below_drew1 HB.out)
          clear HO258; clear BK248; clear BK249; clear BK250; clear HB; have HO258 := n0_; have BK248 := n1_; have BK249 := n2_; have BK250 := n3_; have HB := n4_; clear n0_ n1_ n2_ n3_ n4_
          refine start_ (n := 27) (S := fun w' => True) (ds := []) m8_1 q8_82 rfl rfl trivial (fun hHeld => ?_); refine with_tabW batonlaw10_GridTells.tab11 batonlaw10_GridTells.bits11 (fun HT_ HW_ => ?_)
          generalize w157.drew = w158 at HO258 BK248 BK249 BK250 HB hHeld ⊢
          refine pure_ (i := 0) (N := some 51) (v := ?_) (a' := ?_) m8_5 rfl rfl (any_of HT_.out q8_82) (fun _ _ _ h => h) (Or.inl ⟨by rfl, ?_⟩) ?_ ?_
          rotate_left; · intro w'; go_simp; with_reducible rfl
          rotate_left; · simp only [Act.put, setIfInBounds_toArray, set_cons_zero, set_cons_succ, i64_w, i32_w]; rfl
          refine pure_ (i := 1) (N := some 52) (v := ?_) (a' := ?_) m8_8 rfl rfl (any_of HT_.out q8_82) (fun _ _ _ h => h) (Or.inl ⟨by rfl, ?_⟩) ?_ ?_
          rotate_left; · intro w'; go_simp; with_reducible rfl
          rotate_left; · simp only [Act.put, setIfInBounds_toArray, set_cons_zero, set_cons_succ, i64_w, i32_w]; rfl
          refine pure_ (i := 2) (N := some 53) (v := ?_) (a' := ?_) m8_14 rfl rfl (any_of HT_.out q8_82) (fun _ _ _ h => h) (Or.inl ⟨by rfl, ?_⟩) ?_ ?_
          rotate_left; · intro w'; go_simp; with_reducible rfl
          rotate_left; · simp only [Act.put, setIfInBounds_toArray, set_cons_zero, set_cons_succ, i64_w, i32_w]; rfl
          refine pure_ (i := 3) (N := some 54) (v := ?_) (a' := ?_) m8_16 rfl rfl (any_of HT_.out q8_82) (fun _ _ _ h => h) (Or.inl ⟨by rfl, ?_⟩) ?_ ?_
          rotate_left; · intro w'; go_simp; with_reducible rfl
          rotate_left; · simp only [Act.put, setIfInBounds_toArray, set_cons_zero, set_cons_succ, i64_w, i32_w]; rfl
          refine pure_ (i := 4) (N := some 55) (v := ?_) (a' := ?_) m8_19 rfl rfl (any_of HT_.out q8_82) (fun _ _ _ h => h) (Or.inl ⟨by rfl, ?_⟩) ?_ ?_
          rotate_left; · intro w'; go_simp; with_reducible rfl
          rotate_left; · simp only [Act.put, setIfInBounds_toArray, set_cons_zero, set_cons_succ, i64_w, i32_w]; rfl
          refine pure_ (i := 5) (N := some 56) (v := ?_) (a' := ?_) m8_21 rfl rfl (any_of HT_.out q8_82) (fun _ _ _ h => h) (Or.inl ⟨by rfl, ?_⟩) ?_ ?_
          rotate_left; · intro w'; go_simp; with_reducible rfl
          rotate_left; · simp only [Act.put, setIfInBounds_toArray, set_cons_zero, set_cons_succ, i64_w, i32_w]; rfl
          refine pure_ (i := 6) (N := some 57) (v := ?_) (a' := ?_) m8_24 rfl rfl (any_of HT_.out q8_82) (fun _ _ _ h => h) (Or.inl ⟨by rfl, ?_⟩) ?_ ?_
          rotate_left; · intro w'; go_simp; with_reducible rfl
          rotate_left; · simp only [Act.put, setIfInBounds_toArray, set_cons_zero, set_cons_succ, i64_w, i32_w]; rfl
          refine pure_ (i := 7) (N := some 58) (v := undef) (a' := ?_) m8_29 rfl rfl (any_of HT_.out q8_82) (fun _ _ _ h => h) (Or.inr ⟨by rfl, rfl⟩) ?_ ?_
          rotate_left; · simp only [Act.put, setIfInBounds_toArray, set_cons_zero, set_cons_succ, i64_w, i32_w]; rfl
          refine pure_ (i := 8) (N := some 59) (v := undef) (a' := ?_) m8_32 rfl rfl (any_of HT_.out q8_82) (fun _ _ _ h => h) (Or.inr ⟨by rfl, rfl⟩) ?_ ?_
          rotate_left; · simp only [Act.put, setIfInBounds_toArray, set_cons_zero, set_cons_succ, i64_w, i32_w]; rfl
          refine pure_ (i := 9) (N := some 60) (v := undef) (a' := ?_) m8_35 rfl rfl (any_of HT_.out q8_82) (fun _ _ _ h => h) (Or.inr ⟨by rfl, rfl⟩) ?_ ?_
          rotate_left; · simp only [Act.put, setIfInBounds_toArray, set_cons_zero, set_cons_succ, i64_w, i32_w]; rfl
          refine pure_ (i := 10) (N := some 61) (v := undef) (a' := ?_) m8_37 rfl rfl (any_of HT_.out q8_82) (fun _ _ _ h => h) (Or.inr ⟨by rfl, rfl⟩) ?_ ?_
          rotate_left; · simp only [Act.put, setIfInBounds_toArray, set_cons_zero, set_cons_succ, i64_w, i32_w]; rfl
          refine pure_ (i := 11) (N := some 62) (v := undef) (a' := ?_) m8_40 rfl rfl (any_of HT_.out q8_82) (fun _ _ _ h => h) (Or.inr ⟨by rfl, rfl⟩) ?_ ?_
          rotate_left; · simp only [Act.put, setIfInBounds_toArray, set_cons_zero, set_cons_succ, i64_w, i32_w]; rfl
          refine pure_ (i := 12) (N := some 63) (v := ?_) (a' := ?_) m8_43 rfl rfl (any_of HT_.out q8_82) (fun _ _ _ h => h) (Or.inl ⟨by rfl, ?_⟩) ?_ ?_
          rotate_left; · intro w'; go_simp; with_reducible rfl
          rotate_left; · simp only [Act.put, setIfInBounds_toArray, set_cons_zero, set_cons_succ, i64_w, i32_w]; rfl
          refine pure_ (i := 13) (N := some 64) (v := ?_) (a' := ?_) m8_45 rfl rfl (any_of HT_.out q8_82) (fun _ _ _ h => h) (Or.inl ⟨by rfl, ?_⟩) ?_ ?_
          rotate_left; · intro w'; go_simp; with_reducible rfl
          rotate_left; · simp only [Act.put, setIfInBounds_toArray, set_cons_zero, set_cons_succ, i64_w, i32_w]; rfl
          refine pure_ (i := 14) (N := some 65) (v := undef) (a' := ?_) m8_47 rfl rfl (any_of HT_.out q8_82) (fun _ _ _ h => h) (Or.inr ⟨by rfl, rfl⟩) ?_ ?_
          rotate_left; · simp only [Act.put, setIfInBounds_toArray, set_cons_zero, set_cons_succ, i64_w, i32_w]; rfl
          refine pure_ (i := 15) (N := some 66) (v := undef) (a' := ?_) m8_51 rfl rfl (any_of HT_.out q8_82) (fun _ _ _ h => h) (Or.inr ⟨by rfl, rfl⟩) ?_ ?_
          rotate_left; · simp only [Act.put, setIfInBounds_toArray, set_cons_zero, set_cons_succ, i64_w, i32_w]; rfl
          refine pure_ (i := 16) (N := some 67) (v := undef) (a' := ?_) m8_53 rfl rfl (any_of HT_.out q8_82) (fun _ _ _ h => h) (Or.inr ⟨by rfl, rfl⟩) ?_ ?_
          rotate_left; · simp only [Act.put, setIfInBounds_toArray, set_cons_zero, set_cons_succ, i64_w, i32_w]; rfl
          refine pure_ (i := 17) (N := some 68) (v := undef) (a' := ?_) m8_55 rfl rfl (any_of HT_.out q8_82) (fun _ _ _ h => h) (Or.inr ⟨by rfl, rfl⟩) ?_ ?_
          rotate_left; · simp only [Act.put, setIfInBounds_toArray, set_cons_zero, set_cons_succ, i64_w, i32_w]; rfl
          refine pure_ (i := 18) (N := some 69) (v := undef) (a' := ?_) m8_57 rfl rfl (any_of HT_.out q8_82) (fun _ _ _ h => h) (Or.inr ⟨by rfl, rfl⟩) ?_ ?_
          rotate_left; · simp only [Act.put, setIfInBounds_toArray, set_cons_zero, set_cons_succ, i64_w, i32_w]; rfl
          refine pure_ (i := 19) (N := some 70) (v := ?_) (a' := ?_) m8_59 rfl rfl (any_of HT_.out q8_82) (fun _ _ _ h => h) (Or.inl ⟨by rfl, ?_⟩) ?_ ?_
          rotate_left; · intro w'; go_simp; with_reducible rfl
          rotate_left; · simp only [Act.put, setIfInBounds_toArray, set_cons_zero, set_cons_succ, i64_w, i32_w]; rfl
          refine pure_ (i := 20) (N := some 71) (v := ?_) (a' := ?_) m8_61 rfl rfl (any_of HT_.out q8_82) (fun _ _ _ h => h) (Or.inl ⟨by rfl, ?_⟩) ?_ ?_
          rotate_left; · intro w'; go_simp; with_reducible rfl
          rotate_left; · simp only [Act.put, setIfInBounds_toArray, set_cons_zero, set_cons_succ, i64_w, i32_w]; rfl
          refine pure_ (i := 21) (N := some 72) (v := undef) (a' := ?_) m8_67 rfl rfl (any_of HT_.out q8_82) (fun _ _ _ h => h) (Or.inr ⟨by rfl, rfl⟩) ?_ ?_
          rotate_left; · simp only [Act.put, setIfInBounds_toArray, set_cons_zero, set_cons_succ, i64_w, i32_w]; rfl
          refine pure_ (i := 22) (N := some 73) (v := undef) (a' := ?_) m8_71 rfl rfl (any_of HT_.out q8_82) (fun _ _ _ h => h) (Or.inr ⟨by rfl, rfl⟩) ?_ ?_
          rotate_left; · simp only [Act.put, setIfInBounds_toArray, set_cons_zero, set_cons_succ, i64_w, i32_w]; rfl
          refine pure_ (i := 23) (N := some 74) (v := undef) (a' := ?_) m8_74 rfl rfl (any_of HT_.out q8_82) (fun _ _ _ h => h) (Or.inr ⟨by rfl, rfl⟩) ?_ ?_
          rotate_left; · simp only [Act.put, setIfInBounds_toArray, set_cons_zero, set_cons_succ, i64_w, i32_w]; rfl
          refine pure_ (i := 24) (N := some 75) (v := undef) (a' := ?_) m8_80 rfl rfl (any_of HT_.out q8_82) (fun _ _ _ h => h) (Or.inr ⟨by rfl, rfl⟩) ?_ ?_
          rotate_left; · simp only [Act.put, setIfInBounds_toArray, set_cons_zero, set_cons_succ, i64_w, i32_w]; rfl
          refine pure_ (i := 25) (N := some 76) (v := undef) (a' := ?_) m8_82 rfl rfl (any_of HT_.out q8_82) (fun _ _ _ h => h) (Or.inr ⟨by rfl, rfl⟩) ?_ ?_
          rotate_left; · simp only [Act.put, setIfInBounds_toArray, set_cons_zero, set_cons_succ, i64_w, i32_w]; rfl
          refine pure_ (i := 26) (N := some 77) (v := ?_) (a' := ?_) m8_92 rfl rfl (any_of HT_.out q8_82) (fun _ _ _ h => h) (Or.inl ⟨by rfl, ?_⟩) ?_ ?_
          rotate_left; · intro w'; go_simp; with_reducible rfl
          rotate_left; · simp only [Act.put, setIfInBounds_toArray, set_cons_zero, set_cons_succ, i64_w, i32_w]; rfl
          refine done_ (done_of HT_.out q8_82) ?_
          try go_wp2
          go_ret
          exact ⟨by first | rfl | (simp [errW_none, errW_some] <;> rfl) | (simp [*, errW_none, errW_some] <;> rfl), by repeat (first | (with_reducible first | exact HB.out | apply below_alloc | apply pw_below_drewN | apply below_drew1 | refine below_set ?_ GE248.out | refine below_set ?_ GE249.out | refine below_set ?_ GE250.out) | exact HB.out)⟩
         ·rw [if_neg c147] at H
          have c147b0 : (t260 == 0) = false := beq_eq_false_iff_ne.mpr c147
          have c147b1 : (t260 != 0) = true := bne_iff_ne.mpr c147
          obtain rfl := Option.some.inj H
          have hnb159 := NB248_249.out
          have hnc159 := NB249_248.out
          have hnb160 := NB248_250.out
          have hnc160 := NB250_248.out
          have hcz161_0 : wc.cell? ⟨gb248, 0, none⟩ = some (.int .i64 a0_0) := bc8_ BK248 0
          have hcz161_1 : wc.cell? ⟨gb248, 1, none⟩ = some (.int .i64 a0_1) := bc8_ BK248 1
          have hcz161_2 : wc.cell? ⟨gb248, 2, none⟩ = some (.slice A0_2 l0_2.length c0_2) := bc8_ BK248 2
          have hfz161_0 := blk_frozen BK248.out 0
          have hfz161_1 := blk_frozen BK248.out 1
          have hfz161_2 := blk_frozen BK248.out 2
          try go_wp2_with (first | ((with_reducible refine gate_callee (f := 47) rfl ?_); refine goesL_ (some 24) rfl rfl Try.func47 q8_82 rfl #[.agg #[.int .i64 a0_0, .int .i64 a0_1, .slice A0_2 l0_2.length c0_2]] rfl q8_79 ?_; (with_reducible refine (batonref10_Right.calls kj5 a0_0 a0_1 _ _ l0_2 true _ ?side1 ?side2 A21.out).mono ?_); (case side1 => repeat (first | exact (Kd.C_below HR0_2.out HB.out) | (with_reducible refine Kd.C_alloc ?_ _) | (with_reducible refine Kd.C_drewN ?_ _) | (with_reducible refine Kd.C_drew ?_))); (case side2 => exact HC0_2.out); rintro e w162 ⟨rfl, hb⟩; refine ⟨_, rfl, ?_⟩; have n0_ := A8_ (blk_below (g := gb248) (o := .cells #[.int .i64 a0_0, .int .i64 a0_1, .slice A0_2 l0_2.length c0_2] 75 (0, 0)) q8_78 hb); have n1_ := A8_ (blk_below (g := gb249) (o := .cells #[.int .i64 a1_0, .int .i64 a1_1, .slice A1_2 l1_2.length c1_2] 75 (0, 0)) q8_80 hb); have n2_ := A8_ (blk_below (g := gb250) (o := .cells #[.int .i64 a2_0, .int .i64 a2_1] 84 (0, 0)) q8_81 hb); have n3_ := A8_ (below_step q8_77 hb); clear BK248 BK249 BK250 HB; have BK248 := n0_; have BK249 := n1_; have BK250 := n2_; have HB := n3_; clear n0_ n1_ n2_ n3_; (try clear hb); (try clear hb2); (try clear hk); (try clear hi); have hcz163_0 : w162.cell? ⟨gb248, 0, none⟩ = some (.int .i64 a0_0) := bc8_ BK248 0; have hcz163_1 : w162.cell? ⟨gb248, 1, none⟩ = some (.int .i64 a0_1) := bc8_ BK248 1; have hcz163_2 : w162.cell? ⟨gb248, 2, none⟩ = some (.slice A0_2 l0_2.length c0_2) := bc8_ BK248 2; have hfz163_0 := blk_frozen BK248.out 0; have hfz163_1 := blk_frozen BK248.out 1; have hfz163_2 := blk_frozen BK248.out 2) | ((with_reducible refine gate_callee (f := 48) rfl ?_); refine goesL_ (some 27) rfl rfl Try.func48 q8_82 rfl #[.agg #[.int .i64 a0_0, .int .i64 a0_1, .slice A0_2 l0_2.length c0_2]] rfl q8_79 ?_; (with_reducible refine (grid_Of.calls kj5 a0_0 a0_1 _ _ l0_2 false t254 t255 t256 t260 _ ?side1 ?side2 A22.out).mono ?_); (case side1 => repeat (first | exact (Kd.C_below HR0_2.out HB.out) | (with_reducible refine Kd.C_alloc ?_ _) | (with_reducible refine Kd.C_drewN ?_ _) | (with_reducible refine Kd.C_drew ?_))); (case side2 => exact HC0_2.out); rintro e w164 ⟨v257, gb259, rfl, ho0, hbn, hgn, hb⟩; refine ⟨_, rfl, ?_⟩; have n0_ := A8_ (Kd.R_lower ho0 (below_size q8_77)); have n1_ := A8_ (blk_below (g := gb248) (o := .cells #[.int .i64 a0_0, .int .i64 a0_1, .slice A0_2 l0_2.length c0_2] 75 (0, 0)) q8_78 hb); have n2_ := A8_ (blk_below (g := gb249) (o := .cells #[.int .i64 a1_0, .int .i64 a1_1, .slice A1_2 l1_2.length c1_2] 75 (0, 0)) q8_80 hb); have n3_ := A8_ (blk_below (g := gb250) (o := .cells #[.int .i64 a2_0, .int .i64 a2_1] 84 (0, 0)) q8_81 hb); have n4_ := A8_ (below_step q8_77 hb); clear BK248 BK249 BK250 HB; have HO258 := n0_; have BK248 := n1_; have BK249 := n2_; have BK250 := n3_; have HB := n4_; clear n0_ n1_ n2_ n3_ n4_; (try simp only [ptrW_true, ptrW_false]); (try clear hbn); (try clear hgn); (try clear hb); (try clear hb2); (try clear hk); (try clear hi); (try clear ho0)))
          have n0_ := A8_ (Kd.R_drew HO258.out)
          have n1_ := A8_ (blk_drew BK248.out)
          have n2_ := A8_ (blk_drew BK249.out)
          have n3_ := A8_ (blk_drew BK250.out)
          have n4_ := A8_ (below_drew1 HB.out)
          clear HO258; clear BK248; clear BK249; clear BK250; clear HB; have HO258 := n0_; have BK248 := n1_; have BK249 := n2_; have BK250 := n3_; have HB := n4_; clear n0_ n1_ n2_ n3_ n4_
          refine start_ (n := 13) (S := fun w' => w'.cell? ⟨gb248, 0, none⟩ = some (.int .i64 a0_0) /\ w'.cell? ⟨gb248, 1, none⟩ = some (.int .i64 a0_1) /\ w'.cell? ⟨gb248, 2, none⟩ = some (.slice A0_2 l0_2.length c0_2) /\ w'.cell? ⟨gb249, 0, none⟩ = some (.int .i64 a1_0) /\ w'.cell? ⟨gb249, 1, none⟩ = some (.int .i64 a1_1) /\ w'.cell? ⟨gb249, 2, none⟩ = some (.slice A1_2 l1_2.length c1_2)) (ds := []) m8_2 q8_82 rfl rfl ⟨bc8_ BK248 0, bc8_ BK248 1, bc8_ BK248 2, bc8_ BK249 0, bc8_ BK249 1, bc8_ BK249 2⟩ (fun hHeld => ?_); refine with_tabW batonlaw10_GridTells.tab7 batonlaw10_GridTells.bits7 (fun HT_ HW_ => ?_)
          generalize w164.drew = w165 at HO258 BK248 BK249 BK250 HB hHeld ⊢
          refine pure_ (i := 2) (N := some 32) (v := ?_) (a' := ?_) m8_3 rfl rfl (any_of HT_.out q8_82) (fun _ _ _ h => h) (Or.inl ⟨by rfl, ?_⟩) ?_ ?_
          rotate_left; · intro w'; go_simp; with_reducible rfl
          rotate_left; · simp only [Act.put, setIfInBounds_toArray, set_cons_zero, set_cons_succ, i64_w, i32_w]; rfl
          refine take_ (i := 0) (N := some 30) (v := ?_) (a' := ?_) m8_6 rfl rfl (take_ofW HT_.out HW_.out q8_82) (fun _ _ _ h => h) (Or.inl ⟨by rfl, ?_⟩) hHeld ?_ ?_
          rotate_left; · rintro w' ⟨s0, s1, s2, s3, s4, s5⟩; go_simp; with_reducible rfl
          rotate_left; · simp only [Act.put, setIfInBounds_toArray, set_cons_zero, set_cons_succ, i64_w, i32_w]; rfl
          refine one_ (i := 1) (N := some 31) m8_15 rfl rfl (one_of HT_.out q8_82) q8_90 (fun K hK => ?_)
          refine goes_ Try.func52 q8_82 rfl #[.agg #[.int .i64 a0_0, .int .i64 a0_1, .slice A0_2 l0_2.length c0_2]] (by rfl) rfl rfl q8_79 ?_
          with_reducible refine (grid_Right.calls kj5 a0_0 a0_1 _ _ l0_2 t322 _ ?side1 ?side2 A123.out).mono ?_
          (case side1 => repeat (first | exact (Kd.C_below HR0_2.out HB.out) | (with_reducible refine Kd.C_alloc ?_ _) | (with_reducible refine Kd.C_drewN ?_ _) | (with_reducible refine Kd.C_drew ?_)))
          (case side2 => exact HC0_2.out)
          rintro e w166 ⟨rfl, hb⟩
          refine ⟨_, rfl, ?_⟩
          have n0_ := A8_ (Kd.R_below q8_84 hb)
          have n1_ := A8_ (blk_below (g := gb248) (o := .cells #[.int .i64 a0_0, .int .i64 a0_1, .slice A0_2 l0_2.length c0_2] 75 (0, 0)) q8_78 hb)
          have n2_ := A8_ (blk_below (g := gb249) (o := .cells #[.int .i64 a1_0, .int .i64 a1_1, .slice A1_2 l1_2.length c1_2] 75 (0, 0)) q8_80 hb)
          have n3_ := A8_ (blk_below (g := gb250) (o := .cells #[.int .i64 a2_0, .int .i64 a2_1] 84 (0, 0)) q8_81 hb)
          have n4_ := A8_ (below_step q8_77 hb)
          clear HO258; clear BK248; clear BK249; clear BK250; clear HB; have HO258 := n0_; have BK248 := n1_; have BK249 := n2_; have BK250 := n3_; have HB := n4_; clear n0_ n1_ n2_ n3_ n4_; (try clear hb); (try clear hb2); (try clear hk); (try clear hi)
          refine hK.out _ _ ⟨bc8_ BK248 0, bc8_ BK248 1, bc8_ BK248 2, bc8_ BK249 0, bc8_ BK249 1, bc8_ BK249 2⟩ (fun hHeld => ?_)
          clear hK K
          refine norm_ (a' := ?_) ?_ ?_
          rotate_left; · show Act.put _ (some 31) _ = _; simp only [Act.put, setIfInBounds_toArray, set_cons_zero, set_cons_succ, i64_w, i32_w]; rfl
          refine pure_ (i := 3) (N := some 33) (v := ?_) (a' := ?_) m8_17 rfl rfl (any_of HT_.out q8_82) (fun _ _ _ h => h) (Or.inl ⟨by rfl, ?_⟩) ?_ ?_
          rotate_left; · intro w'; go_simp; with_reducible rfl
          rotate_left; · simp only [Act.put, setIfInBounds_toArray, set_cons_zero, set_cons_succ, i64_w, i32_w]; rfl
          refine pure_ (i := 4) (N := some 34) (v := ?_) (a' := ?_) m8_20 rfl rfl (any_of HT_.out q8_82) (fun _ _ _ h => h) (Or.inl ⟨by rfl, ?_⟩) ?_ ?_
          rotate_left; · intro w'; go_simp; with_reducible rfl
          rotate_left; · simp only [Act.put, setIfInBounds_toArray, set_cons_zero, set_cons_succ, i64_w, i32_w]; rfl
          refine take_ (i := 5) (N := some 35) (v := ?_) (a' := ?_) m8_22 rfl rfl (take_ofW HT_.out HW_.out q8_82) (fun _ _ _ h => h) (Or.inl ⟨by rfl, ?_⟩) hHeld ?_ ?_
          rotate_left; · rintro w' ⟨s0, s1, s2, s3, s4, s5⟩; go_simp; with_reducible rfl
          rotate_left; · simp only [Act.put, setIfInBounds_toArray, set_cons_zero, set_cons_succ, i64_w, i32_w]; rfl
          refine take_ (i := 6) (N := some 36) (v := ?_) (a' := ?_) m8_25 rfl rfl (take_ofW HT_.out HW_.out q8_82) (fun _ _ _ h => h) (Or.inl ⟨by rfl, ?_⟩) hHeld ?_ ?_
          rotate_left; · rintro w' ⟨s0, s1, s2, s3, s4, s5⟩; go_simp; with_reducible rfl
          rotate_left; · simp only [Act.put, setIfInBounds_toArray, set_cons_zero, set_cons_succ, i64_w, i32_w]; rfl
          refine take_ (i := 8) (N := some 38) (v := ?_) (a' := ?_) m8_26 rfl rfl (take_ofW HT_.out HW_.out q8_82) (fun _ _ _ h => h) (Or.inl ⟨by rfl, ?_⟩) hHeld ?_ ?_
          rotate_left; · rintro w' ⟨s0, s1, s2, s3, s4, s5⟩; go_simp; with_reducible rfl
          rotate_left; · simp only [Act.put, setIfInBounds_toArray, set_cons_zero, set_cons_succ, i64_w, i32_w]; rfl
          refine take_ (i := 9) (N := some 39) (v := ?_) (a' := ?_) m8_28 rfl rfl (take_ofW HT_.out HW_.out q8_82) (fun _ _ _ h => h) (Or.inl ⟨by rfl, ?_⟩) hHeld ?_ ?_
          rotate_left; · rintro w' ⟨s0, s1, s2, s3, s4, s5⟩; go_simp; with_reducible rfl
          rotate_left; · simp only [Act.put, setIfInBounds_toArray, set_cons_zero, set_cons_succ, i64_w, i32_w]; rfl
          refine one_ (i := 7) (N := some 37) m8_36 rfl rfl (one_of HT_.out q8_82) q8_90 (fun K hK => ?_)
          refine goes_ Try.func53 q8_82 rfl #[.agg #[.int .i64 a0_0, .int .i64 a0_1, .slice A0_2 l0_2.length c0_2], .agg #[.int .i64 a1_0, .int .i64 a1_1, .slice A1_2 l1_2.length c1_2]] (by rfl) rfl rfl q8_79 ?_
          with_reducible refine (grid_Same.calls kj5 a0_0 a0_1 _ _ l0_2 a1_0 a1_1 _ _ l1_2 t323 _ ?side1 ?side2 ?side3 ?side4 A133.out).mono ?_
          (case side1 => repeat (first | exact (Kd.C_below HR0_2.out HB.out) | (with_reducible refine Kd.C_alloc ?_ _) | (with_reducible refine Kd.C_drewN ?_ _) | (with_reducible refine Kd.C_drew ?_)))
          (case side2 => exact HC0_2.out)
          (case side3 => repeat (first | exact (Kd.C_below HR1_2.out HB.out) | (with_reducible refine Kd.C_alloc ?_ _) | (with_reducible refine Kd.C_drewN ?_ _) | (with_reducible refine Kd.C_drew ?_)))
          (case side4 => exact HC1_2.out)
          rintro e w167 ⟨rfl, hb⟩
          refine ⟨_, rfl, ?_⟩
          have n0_ := A8_ (Kd.R_below q8_84 hb)
          have n1_ := A8_ (blk_below (g := gb248) (o := .cells #[.int .i64 a0_0, .int .i64 a0_1, .slice A0_2 l0_2.length c0_2] 75 (0, 0)) q8_78 hb)
          have n2_ := A8_ (blk_below (g := gb249) (o := .cells #[.int .i64 a1_0, .int .i64 a1_1, .slice A1_2 l1_2.length c1_2] 75 (0, 0)) q8_80 hb)
          have n3_ := A8_ (blk_below (g := gb250) (o := .cells #[.int .i64 a2_0, .int .i64 a2_1] 84 (0, 0)) q8_81 hb)
          have n4_ := A8_ (below_step q8_77 hb)
          clear HO258; clear BK248; clear BK249; clear BK250; clear HB; have HO258 := n0_; have BK248 := n1_; have BK249 := n2_; have BK250 := n3_; have HB := n4_; clear n0_ n1_ n2_ n3_ n4_; (try clear hb); (try clear hb2); (try clear hk); (try clear hi)
          refine hK.out _ _ ⟨bc8_ BK248 0, bc8_ BK248 1, bc8_ BK248 2, bc8_ BK249 0, bc8_ BK249 1, bc8_ BK249 2⟩ (fun hHeld => ?_)
          clear hK K
          refine norm_ (a' := ?_) ?_ ?_
          rotate_left; · show Act.put _ (some 37) _ = _; simp only [Act.put, setIfInBounds_toArray, set_cons_zero, set_cons_succ, i64_w, i32_w]; rfl
          refine one_ (i := 10) (N := some 40) m8_39 rfl rfl (one_of HT_.out q8_82) q8_90 (fun K hK => ?_)
          refine goes_ Try.func51 q8_82 rfl #[.agg #[.int .i64 a0_0, .int .i64 a0_1, .slice A0_2 l0_2.length c0_2], .agg #[.int .i64 a1_0, .int .i64 a1_1, .slice A1_2 l1_2.length c1_2]] (by rfl) rfl rfl q8_79 ?_
          with_reducible refine (batonref10_Same.calls kj5 a0_0 a0_1 _ _ l0_2 a1_0 a1_1 _ _ l1_2 t324 _ ?side1 ?side2 ?side3 ?side4 A134.out).mono ?_
          (case side1 => repeat (first | exact (Kd.C_below HR0_2.out HB.out) | (with_reducible refine Kd.C_alloc ?_ _) | (with_reducible refine Kd.C_drewN ?_ _) | (with_reducible refine Kd.C_drew ?_)))
          (case side2 => exact HC0_2.out)
          (case side3 => repeat (first | exact (Kd.C_below HR1_2.out HB.out) | (with_reducible refine Kd.C_alloc ?_ _) | (with_reducible refine Kd.C_drewN ?_ _) | (with_reducible refine Kd.C_drew ?_)))
          (case side4 => exact HC1_2.out)
          rintro e w168 ⟨rfl, hb⟩
          refine ⟨_, rfl, ?_⟩
          have n0_ := A8_ (Kd.R_below q8_84 hb)
          have n1_ := A8_ (blk_below (g := gb248) (o := .cells #[.int .i64 a0_0, .int .i64 a0_1, .slice A0_2 l0_2.length c0_2] 75 (0, 0)) q8_78 hb)
          have n2_ := A8_ (blk_below (g := gb249) (o := .cells #[.int .i64 a1_0, .int .i64 a1_1, .slice A1_2 l1_2.length c1_2] 75 (0, 0)) q8_80 hb)
          have n3_ := A8_ (blk_below (g := gb250) (o := .cells #[.int .i64 a2_0, .int .i64 a2_1] 84 (0, 0)) q8_81 hb)
          have n4_ := A8_ (below_step q8_77 hb)
          clear HO258; clear BK248; clear BK249; clear BK250; clear HB; have HO258 := n0_; have BK248 := n1_; have BK249 := n2_; have BK250 := n3_; have HB := n4_; clear n0_ n1_ n2_ n3_ n4_; (try clear hb); (try clear hb2); (try clear hk); (try clear hi)
          refine hK.out _ _ ⟨bc8_ BK248 0, bc8_ BK248 1, bc8_ BK248 2, bc8_ BK249 0, bc8_ BK249 1, bc8_ BK249 2⟩ (fun hHeld => ?_)
          clear hK K
          refine norm_ (a' := ?_) ?_ ?_
          rotate_left; · show Act.put _ (some 40) _ = _; simp only [Act.put, setIfInBounds_toArray, set_cons_zero, set_cons_succ, i64_w, i32_w]; rfl
          refine pure_ (i := 11) (N := some 41) (v := ?_) (a' := ?_) m8_42 rfl rfl (any_of HT_.out q8_82) (fun _ _ _ h => h) (Or.inl ⟨by rfl, ?_⟩) ?_ ?_
          rotate_left; · intro w'; go_simp; with_reducible rfl
          rotate_left; · simp only [Act.put, setIfInBounds_toArray, set_cons_zero, set_cons_succ, i64_w, i32_w]; rfl
          refine pure_ (i := 12) (N := some 42) (v := ?_) (a' := ?_) m8_93 rfl rfl (any_of HT_.out q8_82) (fun _ _ _ h => h) (Or.inl ⟨by rfl, ?_⟩) ?_ ?_
          rotate_left; · intro w'; go_simp; with_reducible rfl
          rotate_left; · simp only [Act.put, setIfInBounds_toArray, set_cons_zero, set_cons_succ, i64_w, i32_w]; rfl
          refine done_ (done_of HT_.out q8_82) ?_
          try go_wp2
          have n0_ := A8_ (Kd.R_drew HO258.out)
          have n1_ := A8_ (blk_drew BK248.out)
          have n2_ := A8_ (blk_drew BK249.out)
          have n3_ := A8_ (blk_drew BK250.out)
          have n4_ := A8_ (below_drew1 HB.out)
          clear HO258; clear BK248; clear BK249; clear BK250; clear HB; have HO258 := n0_; have BK248 := n1_; have BK249 := n2_; have BK250 := n3_; have HB := n4_; clear n0_ n1_ n2_ n3_ n4_
          refine start_ (n := 27) (S := fun w' => True) (ds := []) m8_1 q8_82 rfl rfl trivial (fun hHeld => ?_); refine with_tabW batonlaw10_GridTells.tab11 batonlaw10_GridTells.bits11 (fun HT_ HW_ => ?_)
          generalize w168.drew = w169 at HO258 BK248 BK249 BK250 HB hHeld ⊢
          refine pure_ (i := 0) (N := some 51) (v := ?_) (a' := ?_) m8_5 rfl rfl (any_of HT_.out q8_82) (fun _ _ _ h => h) (Or.inl ⟨by rfl, ?_⟩) ?_ ?_
          rotate_left; · intro w'; go_simp; with_reducible rfl
          rotate_left; · simp only [Act.put, setIfInBounds_toArray, set_cons_zero, set_cons_succ, i64_w, i32_w]; rfl
          refine pure_ (i := 1) (N := some 52) (v := ?_) (a' := ?_) m8_8 rfl rfl (any_of HT_.out q8_82) (fun _ _ _ h => h) (Or.inl ⟨by rfl, ?_⟩) ?_ ?_
          rotate_left; · intro w'; go_simp; with_reducible rfl
          rotate_left; · simp only [Act.put, setIfInBounds_toArray, set_cons_zero, set_cons_succ, i64_w, i32_w]; rfl
          refine pure_ (i := 2) (N := some 53) (v := ?_) (a' := ?_) m8_14 rfl rfl (any_of HT_.out q8_82) (fun _ _ _ h => h) (Or.inl ⟨by rfl, ?_⟩) ?_ ?_
          rotate_left; · intro w'; go_simp; with_reducible rfl
          rotate_left; · simp only [Act.put, setIfInBounds_toArray, set_cons_zero, set_cons_succ, i64_w, i32_w]; rfl
          refine pure_ (i := 3) (N := some 54) (v := undef) (a' := ?_) m8_16 rfl rfl (any_of HT_.out q8_82) (fun _ _ _ h => h) (Or.inr ⟨by rfl, rfl⟩) ?_ ?_
          rotate_left; · simp only [Act.put, setIfInBounds_toArray, set_cons_zero, set_cons_succ, i64_w, i32_w]; rfl
          refine pure_ (i := 4) (N := some 55) (v := undef) (a' := ?_) m8_19 rfl rfl (any_of HT_.out q8_82) (fun _ _ _ h => h) (Or.inr ⟨by rfl, rfl⟩) ?_ ?_
          rotate_left; · simp only [Act.put, setIfInBounds_toArray, set_cons_zero, set_cons_succ, i64_w, i32_w]; rfl
          refine pure_ (i := 5) (N := some 56) (v := ?_) (a' := ?_) m8_21 rfl rfl (any_of HT_.out q8_82) (fun _ _ _ h => h) (Or.inl ⟨by rfl, ?_⟩) ?_ ?_
          rotate_left; · intro w'; go_simp; with_reducible rfl
          rotate_left; · simp only [Act.put, setIfInBounds_toArray, set_cons_zero, set_cons_succ, i64_w, i32_w]; rfl
          refine pure_ (i := 6) (N := some 57) (v := ?_) (a' := ?_) m8_24 rfl rfl (any_of HT_.out q8_82) (fun _ _ _ h => h) (Or.inl ⟨by rfl, ?_⟩) ?_ ?_
          rotate_left; · intro w'; go_simp; with_reducible rfl
          rotate_left; · simp only [Act.put, setIfInBounds_toArray, set_cons_zero, set_cons_succ, i64_w, i32_w]; rfl
          refine pure_ (i := 7) (N := some 58) (v := undef) (a' := ?_) m8_29 rfl rfl (any_of HT_.out q8_82) (fun _ _ _ h => h) (Or.inr ⟨by rfl, rfl⟩) ?_ ?_
          rotate_left; · simp only [Act.put, setIfInBounds_toArray, set_cons_zero, set_cons_succ, i64_w, i32_w]; rfl
          refine pure_ (i := 8) (N := some 59) (v := undef) (a' := ?_) m8_32 rfl rfl (any_of HT_.out q8_82) (fun _ _ _ h => h) (Or.inr ⟨by rfl, rfl⟩) ?_ ?_
          rotate_left; · simp only [Act.put, setIfInBounds_toArray, set_cons_zero, set_cons_succ, i64_w, i32_w]; rfl
          refine pure_ (i := 9) (N := some 60) (v := undef) (a' := ?_) m8_35 rfl rfl (any_of HT_.out q8_82) (fun _ _ _ h => h) (Or.inr ⟨by rfl, rfl⟩) ?_ ?_
          rotate_left; · simp only [Act.put, setIfInBounds_toArray, set_cons_zero, set_cons_succ, i64_w, i32_w]; rfl
          refine pure_ (i := 10) (N := some 61) (v := undef) (a' := ?_) m8_37 rfl rfl (any_of HT_.out q8_82) (fun _ _ _ h => h) (Or.inr ⟨by rfl, rfl⟩) ?_ ?_
          rotate_left; · simp only [Act.put, setIfInBounds_toArray, set_cons_zero, set_cons_succ, i64_w, i32_w]; rfl
          refine pure_ (i := 11) (N := some 62) (v := undef) (a' := ?_) m8_40 rfl rfl (any_of HT_.out q8_82) (fun _ _ _ h => h) (Or.inr ⟨by rfl, rfl⟩) ?_ ?_
          rotate_left; · simp only [Act.put, setIfInBounds_toArray, set_cons_zero, set_cons_succ, i64_w, i32_w]; rfl
          refine pure_ (i := 12) (N := some 63) (v := ?_) (a' := ?_) m8_43 rfl rfl (any_of HT_.out q8_82) (fun _ _ _ h => h) (Or.inl ⟨by rfl, ?_⟩) ?_ ?_
          rotate_left; · intro w'; go_simp; with_reducible rfl
          rotate_left; · simp only [Act.put, setIfInBounds_toArray, set_cons_zero, set_cons_succ, i64_w, i32_w]; rfl
          refine pure_ (i := 13) (N := some 64) (v := ?_) (a' := ?_) m8_45 rfl rfl (any_of HT_.out q8_82) (fun _ _ _ h => h) (Or.inl ⟨by rfl, ?_⟩) ?_ ?_
          rotate_left; · intro w'; go_simp; with_reducible rfl
          rotate_left; · simp only [Act.put, setIfInBounds_toArray, set_cons_zero, set_cons_succ, i64_w, i32_w]; rfl
          refine pure_ (i := 14) (N := some 65) (v := undef) (a' := ?_) m8_47 rfl rfl (any_of HT_.out q8_82) (fun _ _ _ h => h) (Or.inr ⟨by rfl, rfl⟩) ?_ ?_
          rotate_left; · simp only [Act.put, setIfInBounds_toArray, set_cons_zero, set_cons_succ, i64_w, i32_w]; rfl
          refine pure_ (i := 15) (N := some 66) (v := undef) (a' := ?_) m8_51 rfl rfl (any_of HT_.out q8_82) (fun _ _ _ h => h) (Or.inr ⟨by rfl, rfl⟩) ?_ ?_
          rotate_left; · simp only [Act.put, setIfInBounds_toArray, set_cons_zero, set_cons_succ, i64_w, i32_w]; rfl
          refine pure_ (i := 16) (N := some 67) (v := undef) (a' := ?_) m8_53 rfl rfl (any_of HT_.out q8_82) (fun _ _ _ h => h) (Or.inr ⟨by rfl, rfl⟩) ?_ ?_
          rotate_left; · simp only [Act.put, setIfInBounds_toArray, set_cons_zero, set_cons_succ, i64_w, i32_w]; rfl
          refine pure_ (i := 17) (N := some 68) (v := undef) (a' := ?_) m8_55 rfl rfl (any_of HT_.out q8_82) (fun _ _ _ h => h) (Or.inr ⟨by rfl, rfl⟩) ?_ ?_
          rotate_left; · simp only [Act.put, setIfInBounds_toArray, set_cons_zero, set_cons_succ, i64_w, i32_w]; rfl
          refine pure_ (i := 18) (N := some 69) (v := undef) (a' := ?_) m8_57 rfl rfl (any_of HT_.out q8_82) (fun _ _ _ h => h) (Or.inr ⟨by rfl, rfl⟩) ?_ ?_
          rotate_left; · simp only [Act.put, setIfInBounds_toArray, set_cons_zero, set_cons_succ, i64_w, i32_w]; rfl
          refine pure_ (i := 19) (N := some 70) (v := ?_) (a' := ?_) m8_59 rfl rfl (any_of HT_.out q8_82) (fun _ _ _ h => h) (Or.inl ⟨by rfl, ?_⟩) ?_ ?_
          rotate_left; · intro w'; go_simp; with_reducible rfl
          rotate_left; · simp only [Act.put, setIfInBounds_toArray, set_cons_zero, set_cons_succ, i64_w, i32_w]; rfl
          refine pure_ (i := 20) (N := some 71) (v := ?_) (a' := ?_) m8_61 rfl rfl (any_of HT_.out q8_82) (fun _ _ _ h => h) (Or.inl ⟨by rfl, ?_⟩) ?_ ?_
          rotate_left; · intro w'; go_simp; with_reducible rfl
          rotate_left; · simp only [Act.put, setIfInBounds_toArray, set_cons_zero, set_cons_succ, i64_w, i32_w]; rfl
          refine pure_ (i := 21) (N := some 72) (v := undef) (a' := ?_) m8_67 rfl rfl (any_of HT_.out q8_82) (fun _ _ _ h => h) (Or.inr ⟨by rfl, rfl⟩) ?_ ?_
          rotate_left; · simp only [Act.put, setIfInBounds_toArray, set_cons_zero, set_cons_succ, i64_w, i32_w]; rfl
          refine pure_ (i := 22) (N := some 73) (v := undef) (a' := ?_) m8_71 rfl rfl (any_of HT_.out q8_82) (fun _ _ _ h => h) (Or.inr ⟨by rfl, rfl⟩) ?_ ?_
          rotate_left; · simp only [Act.put, setIfInBounds_toArray, set_cons_zero, set_cons_succ, i64_w, i32_w]; rfl
          refine pure_ (i := 23) (N := some 74) (v := undef) (a' := ?_) m8_74 rfl rfl (any_of HT_.out q8_82) (fun _ _ _ h => h) (Or.inr ⟨by rfl, rfl⟩) ?_ ?_
          rotate_left; · simp only [Act.put, setIfInBounds_toArray, set_cons_zero, set_cons_succ, i64_w, i32_w]; rfl
          refine pure_ (i := 24) (N := some 75) (v := undef) (a' := ?_) m8_80 rfl rfl (any_of HT_.out q8_82) (fun _ _ _ h => h) (Or.inr ⟨by rfl, rfl⟩) ?_ ?_
          rotate_left; · simp only [Act.put, setIfInBounds_toArray, set_cons_zero, set_cons_succ, i64_w, i32_w]; rfl
          refine pure_ (i := 25) (N := some 76) (v := undef) (a' := ?_) m8_82 rfl rfl (any_of HT_.out q8_82) (fun _ _ _ h => h) (Or.inr ⟨by rfl, rfl⟩) ?_ ?_
          rotate_left; · simp only [Act.put, setIfInBounds_toArray, set_cons_zero, set_cons_succ, i64_w, i32_w]; rfl
          refine pure_ (i := 26) (N := some 77) (v := ?_) (a' := ?_) m8_92 rfl rfl (any_of HT_.out q8_82) (fun _ _ _ h => h) (Or.inl ⟨by rfl, ?_⟩) ?_ ?_
          rotate_left; · intro w'; go_simp; with_reducible rfl
          rotate_left; · simp only [Act.put, setIfInBounds_toArray, set_cons_zero, set_cons_succ, i64_w, i32_w]; rfl
          refine done_ (done_of HT_.out q8_82) ?_
          try go_wp2
          go_ret
          exact ⟨by first | rfl | (simp [errW_none, errW_some] <;> rfl) | (simp [*, errW_none, errW_some] <;> rfl), by repeat (first | (with_reducible first | exact HB.out | apply below_alloc | apply pw_below_drewN | apply below_drew1 | refine below_set ?_ GE248.out | refine below_set ?_ GE249.out | refine below_set ?_ GE250.out) | exact HB.out)⟩
        ·replace c146 := Bool.eq_false_iff.mpr c146
         subst c146
         have H1 : (some (t260 == 22)) = some r := by rw [if_neg (show ¬ (false = true) by decide)] at H; exact H
         clear H; have H := H1; clear H1
         obtain rfl := Option.some.inj H
         have hnb170 := NB248_249.out
         have hnc170 := NB249_248.out
         have hnb171 := NB248_250.out
         have hnc171 := NB250_248.out
         have hcz172_0 : wc.cell? ⟨gb248, 0, none⟩ = some (.int .i64 a0_0) := bc8_ BK248 0
         have hcz172_1 : wc.cell? ⟨gb248, 1, none⟩ = some (.int .i64 a0_1) := bc8_ BK248 1
         have hcz172_2 : wc.cell? ⟨gb248, 2, none⟩ = some (.slice A0_2 l0_2.length c0_2) := bc8_ BK248 2
         have hfz172_0 := blk_frozen BK248.out 0
         have hfz172_1 := blk_frozen BK248.out 1
         have hfz172_2 := blk_frozen BK248.out 2
         try go_wp2_with (first | ((with_reducible refine gate_callee (f := 47) rfl ?_); refine goesL_ (some 24) rfl rfl Try.func47 q8_82 rfl #[.agg #[.int .i64 a0_0, .int .i64 a0_1, .slice A0_2 l0_2.length c0_2]] rfl q8_79 ?_; (with_reducible refine (batonref10_Right.calls kj5 a0_0 a0_1 _ _ l0_2 false _ ?side1 ?side2 A21.out).mono ?_); (case side1 => repeat (first | exact (Kd.C_below HR0_2.out HB.out) | (with_reducible refine Kd.C_alloc ?_ _) | (with_reducible refine Kd.C_drewN ?_ _) | (with_reducible refine Kd.C_drew ?_))); (case side2 => exact HC0_2.out); rintro e w173 ⟨rfl, hb⟩; refine ⟨_, rfl, ?_⟩; have n0_ := A8_ (blk_below (g := gb248) (o := .cells #[.int .i64 a0_0, .int .i64 a0_1, .slice A0_2 l0_2.length c0_2] 75 (0, 0)) q8_78 hb); have n1_ := A8_ (blk_below (g := gb249) (o := .cells #[.int .i64 a1_0, .int .i64 a1_1, .slice A1_2 l1_2.length c1_2] 75 (0, 0)) q8_80 hb); have n2_ := A8_ (blk_below (g := gb250) (o := .cells #[.int .i64 a2_0, .int .i64 a2_1] 84 (0, 0)) q8_81 hb); have n3_ := A8_ (below_step q8_77 hb); clear BK248 BK249 BK250 HB; have BK248 := n0_; have BK249 := n1_; have BK250 := n2_; have HB := n3_; clear n0_ n1_ n2_ n3_; (try clear hb); (try clear hb2); (try clear hk); (try clear hi); have hcz174_0 : w173.cell? ⟨gb248, 0, none⟩ = some (.int .i64 a0_0) := bc8_ BK248 0; have hcz174_1 : w173.cell? ⟨gb248, 1, none⟩ = some (.int .i64 a0_1) := bc8_ BK248 1; have hcz174_2 : w173.cell? ⟨gb248, 2, none⟩ = some (.slice A0_2 l0_2.length c0_2) := bc8_ BK248 2; have hfz174_0 := blk_frozen BK248.out 0; have hfz174_1 := blk_frozen BK248.out 1; have hfz174_2 := blk_frozen BK248.out 2) | ((with_reducible refine gate_callee (f := 48) rfl ?_); refine goesL_ (some 27) rfl rfl Try.func48 q8_82 rfl #[.agg #[.int .i64 a0_0, .int .i64 a0_1, .slice A0_2 l0_2.length c0_2]] rfl q8_79 ?_; (with_reducible refine (grid_Of.calls kj5 a0_0 a0_1 _ _ l0_2 false t254 t255 t256 t260 _ ?side1 ?side2 A22.out).mono ?_); (case side1 => repeat (first | exact (Kd.C_below HR0_2.out HB.out) | (with_reducible refine Kd.C_alloc ?_ _) | (with_reducible refine Kd.C_drewN ?_ _) | (with_reducible refine Kd.C_drew ?_))); (case side2 => exact HC0_2.out); rintro e w175 ⟨v257, gb259, rfl, ho0, hbn, hgn, hb⟩; refine ⟨_, rfl, ?_⟩; have n0_ := A8_ (Kd.R_lower ho0 (below_size q8_77)); have n1_ := A8_ (blk_below (g := gb248) (o := .cells #[.int .i64 a0_0, .int .i64 a0_1, .slice A0_2 l0_2.length c0_2] 75 (0, 0)) q8_78 hb); have n2_ := A8_ (blk_below (g := gb249) (o := .cells #[.int .i64 a1_0, .int .i64 a1_1, .slice A1_2 l1_2.length c1_2] 75 (0, 0)) q8_80 hb); have n3_ := A8_ (blk_below (g := gb250) (o := .cells #[.int .i64 a2_0, .int .i64 a2_1] 84 (0, 0)) q8_81 hb); have n4_ := A8_ (below_step q8_77 hb); clear BK248 BK249 BK250 HB; have HO258 := n0_; have BK248 := n1_; have BK249 := n2_; have BK250 := n3_; have HB := n4_; clear n0_ n1_ n2_ n3_ n4_; (try simp only [ptrW_true, ptrW_false]); (try clear hbn); (try clear hgn); (try clear hb); (try clear hb2); (try clear hk); (try clear hi); (try clear ho0)))
         have n0_ := A8_ (Kd.R_drew HO258.out)
         have n1_ := A8_ (blk_drew BK248.out)
         have n2_ := A8_ (blk_drew BK249.out)
         have n3_ := A8_ (blk_drew BK250.out)
         have n4_ := A8_ (below_drew1 HB.out)
         clear HO258; clear BK248; clear BK249; clear BK250; clear HB; have HO258 := n0_; have BK248 := n1_; have BK249 := n2_; have BK250 := n3_; have HB := n4_; clear n0_ n1_ n2_ n3_ n4_
         refine start_ (n := 13) (S := fun w' => w'.cell? ⟨gb248, 0, none⟩ = some (.int .i64 a0_0) /\ w'.cell? ⟨gb248, 1, none⟩ = some (.int .i64 a0_1) /\ w'.cell? ⟨gb248, 2, none⟩ = some (.slice A0_2 l0_2.length c0_2) /\ w'.cell? ⟨gb249, 0, none⟩ = some (.int .i64 a1_0) /\ w'.cell? ⟨gb249, 1, none⟩ = some (.int .i64 a1_1) /\ w'.cell? ⟨gb249, 2, none⟩ = some (.slice A1_2 l1_2.length c1_2)) (ds := []) m8_2 q8_82 rfl rfl ⟨bc8_ BK248 0, bc8_ BK248 1, bc8_ BK248 2, bc8_ BK249 0, bc8_ BK249 1, bc8_ BK249 2⟩ (fun hHeld => ?_); refine with_tabW batonlaw10_GridTells.tab7 batonlaw10_GridTells.bits7 (fun HT_ HW_ => ?_)
         generalize w175.drew = w176 at HO258 BK248 BK249 BK250 HB hHeld ⊢
         refine pure_ (i := 2) (N := some 32) (v := ?_) (a' := ?_) m8_3 rfl rfl (any_of HT_.out q8_82) (fun _ _ _ h => h) (Or.inl ⟨by rfl, ?_⟩) ?_ ?_
         rotate_left; · intro w'; go_simp; with_reducible rfl
         rotate_left; · simp only [Act.put, setIfInBounds_toArray, set_cons_zero, set_cons_succ, i64_w, i32_w]; rfl
         refine take_ (i := 0) (N := some 30) (v := ?_) (a' := ?_) m8_6 rfl rfl (take_ofW HT_.out HW_.out q8_82) (fun _ _ _ h => h) (Or.inl ⟨by rfl, ?_⟩) hHeld ?_ ?_
         rotate_left; · rintro w' ⟨s0, s1, s2, s3, s4, s5⟩; go_simp; with_reducible rfl
         rotate_left; · simp only [Act.put, setIfInBounds_toArray, set_cons_zero, set_cons_succ, i64_w, i32_w]; rfl
         refine one_ (i := 1) (N := some 31) m8_15 rfl rfl (one_of HT_.out q8_82) q8_90 (fun K hK => ?_)
         refine goes_ Try.func52 q8_82 rfl #[.agg #[.int .i64 a0_0, .int .i64 a0_1, .slice A0_2 l0_2.length c0_2]] (by rfl) rfl rfl q8_79 ?_
         with_reducible refine (grid_Right.calls kj5 a0_0 a0_1 _ _ l0_2 t322 _ ?side1 ?side2 A123.out).mono ?_
         (case side1 => repeat (first | exact (Kd.C_below HR0_2.out HB.out) | (with_reducible refine Kd.C_alloc ?_ _) | (with_reducible refine Kd.C_drewN ?_ _) | (with_reducible refine Kd.C_drew ?_)))
         (case side2 => exact HC0_2.out)
         rintro e w177 ⟨rfl, hb⟩
         refine ⟨_, rfl, ?_⟩
         have n0_ := A8_ (Kd.R_below q8_84 hb)
         have n1_ := A8_ (blk_below (g := gb248) (o := .cells #[.int .i64 a0_0, .int .i64 a0_1, .slice A0_2 l0_2.length c0_2] 75 (0, 0)) q8_78 hb)
         have n2_ := A8_ (blk_below (g := gb249) (o := .cells #[.int .i64 a1_0, .int .i64 a1_1, .slice A1_2 l1_2.length c1_2] 75 (0, 0)) q8_80 hb)
         have n3_ := A8_ (blk_below (g := gb250) (o := .cells #[.int .i64 a2_0, .int .i64 a2_1] 84 (0, 0)) q8_81 hb)
         have n4_ := A8_ (below_step q8_77 hb)
         clear HO258; clear BK248; clear BK249; clear BK250; clear HB; have HO258 := n0_; have BK248 := n1_; have BK249 := n2_; have BK250 := n3_; have HB := n4_; clear n0_ n1_ n2_ n3_ n4_; (try clear hb); (try clear hb2); (try clear hk); (try clear hi)
         refine hK.out _ _ ⟨bc8_ BK248 0, bc8_ BK248 1, bc8_ BK248 2, bc8_ BK249 0, bc8_ BK249 1, bc8_ BK249 2⟩ (fun hHeld => ?_)
         clear hK K
         refine norm_ (a' := ?_) ?_ ?_
         rotate_left; · show Act.put _ (some 31) _ = _; simp only [Act.put, setIfInBounds_toArray, set_cons_zero, set_cons_succ, i64_w, i32_w]; rfl
         refine pure_ (i := 3) (N := some 33) (v := ?_) (a' := ?_) m8_17 rfl rfl (any_of HT_.out q8_82) (fun _ _ _ h => h) (Or.inl ⟨by rfl, ?_⟩) ?_ ?_
         rotate_left; · intro w'; go_simp; with_reducible rfl
         rotate_left; · simp only [Act.put, setIfInBounds_toArray, set_cons_zero, set_cons_succ, i64_w, i32_w]; rfl
         refine pure_ (i := 4) (N := some 34) (v := ?_) (a' := ?_) m8_20 rfl rfl (any_of HT_.out q8_82) (fun _ _ _ h => h) (Or.inl ⟨by rfl, ?_⟩) ?_ ?_
         rotate_left; · intro w'; go_simp; with_reducible rfl
         rotate_left; · simp only [Act.put, setIfInBounds_toArray, set_cons_zero, set_cons_succ, i64_w, i32_w]; rfl
         refine take_ (i := 5) (N := some 35) (v := ?_) (a' := ?_) m8_22 rfl rfl (take_ofW HT_.out HW_.out q8_82) (fun _ _ _ h => h) (Or.inl ⟨by rfl, ?_⟩) hHeld ?_ ?_
         rotate_left; · rintro w' ⟨s0, s1, s2, s3, s4, s5⟩; go_simp; with_reducible rfl
         rotate_left; · simp only [Act.put, setIfInBounds_toArray, set_cons_zero, set_cons_succ, i64_w, i32_w]; rfl
         refine take_ (i := 6) (N := some 36) (v := ?_) (a' := ?_) m8_25 rfl rfl (take_ofW HT_.out HW_.out q8_82) (fun _ _ _ h => h) (Or.inl ⟨by rfl, ?_⟩) hHeld ?_ ?_
         rotate_left; · rintro w' ⟨s0, s1, s2, s3, s4, s5⟩; go_simp; with_reducible rfl
         rotate_left; · simp only [Act.put, setIfInBounds_toArray, set_cons_zero, set_cons_succ, i64_w, i32_w]; rfl
         refine take_ (i := 8) (N := some 38) (v := ?_) (a' := ?_) m8_26 rfl rfl (take_ofW HT_.out HW_.out q8_82) (fun _ _ _ h => h) (Or.inl ⟨by rfl, ?_⟩) hHeld ?_ ?_
         rotate_left; · rintro w' ⟨s0, s1, s2, s3, s4, s5⟩; go_simp; with_reducible rfl
         rotate_left; · simp only [Act.put, setIfInBounds_toArray, set_cons_zero, set_cons_succ, i64_w, i32_w]; rfl
         refine take_ (i := 9) (N := some 39) (v := ?_) (a' := ?_) m8_28 rfl rfl (take_ofW HT_.out HW_.out q8_82) (fun _ _ _ h => h) (Or.inl ⟨by rfl, ?_⟩) hHeld ?_ ?_
         rotate_left; · rintro w' ⟨s0, s1, s2, s3, s4, s5⟩; go_simp; with_reducible rfl
         rotate_left; · simp only [Act.put, setIfInBounds_toArray, set_cons_zero, set_cons_succ, i64_w, i32_w]; rfl
         refine one_ (i := 7) (N := some 37) m8_36 rfl rfl (one_of HT_.out q8_82) q8_90 (fun K hK => ?_)
         refine goes_ Try.func53 q8_82 rfl #[.agg #[.int .i64 a0_0, .int .i64 a0_1, .slice A0_2 l0_2.length c0_2], .agg #[.int .i64 a1_0, .int .i64 a1_1, .slice A1_2 l1_2.length c1_2]] (by rfl) rfl rfl q8_79 ?_
         with_reducible refine (grid_Same.calls kj5 a0_0 a0_1 _ _ l0_2 a1_0 a1_1 _ _ l1_2 t323 _ ?side1 ?side2 ?side3 ?side4 A133.out).mono ?_
         (case side1 => repeat (first | exact (Kd.C_below HR0_2.out HB.out) | (with_reducible refine Kd.C_alloc ?_ _) | (with_reducible refine Kd.C_drewN ?_ _) | (with_reducible refine Kd.C_drew ?_)))
         (case side2 => exact HC0_2.out)
         (case side3 => repeat (first | exact (Kd.C_below HR1_2.out HB.out) | (with_reducible refine Kd.C_alloc ?_ _) | (with_reducible refine Kd.C_drewN ?_ _) | (with_reducible refine Kd.C_drew ?_)))
         (case side4 => exact HC1_2.out)
         rintro e w178 ⟨rfl, hb⟩
         refine ⟨_, rfl, ?_⟩
         have n0_ := A8_ (Kd.R_below q8_84 hb)
         have n1_ := A8_ (blk_below (g := gb248) (o := .cells #[.int .i64 a0_0, .int .i64 a0_1, .slice A0_2 l0_2.length c0_2] 75 (0, 0)) q8_78 hb)
         have n2_ := A8_ (blk_below (g := gb249) (o := .cells #[.int .i64 a1_0, .int .i64 a1_1, .slice A1_2 l1_2.length c1_2] 75 (0, 0)) q8_80 hb)
         have n3_ := A8_ (blk_below (g := gb250) (o := .cells #[.int .i64 a2_0, .int .i64 a2_1] 84 (0, 0)) q8_81 hb)
         have n4_ := A8_ (below_step q8_77 hb)
         clear HO258; clear BK248; clear BK249; clear BK250; clear HB; have HO258 := n0_; have BK248 := n1_; have BK249 := n2_; have BK250 := n3_; have HB := n4_; clear n0_ n1_ n2_ n3_ n4_; (try clear hb); (try clear hb2); (try clear hk); (try clear hi)
         refine hK.out _ _ ⟨bc8_ BK248 0, bc8_ BK248 1, bc8_ BK248 2, bc8_ BK249 0, bc8_ BK249 1, bc8_ BK249 2⟩ (fun hHeld => ?_)
         clear hK K
         refine norm_ (a' := ?_) ?_ ?_
         rotate_left; · show Act.put _ (some 37) _ = _; simp only [Act.put, setIfInBounds_toArray, set_cons_zero, set_cons_succ, i64_w, i32_w]; rfl
         refine one_ (i := 10) (N := some 40) m8_39 rfl rfl (one_of HT_.out q8_82) q8_90 (fun K hK => ?_)
         refine goes_ Try.func51 q8_82 rfl #[.agg #[.int .i64 a0_0, .int .i64 a0_1, .slice A0_2 l0_2.length c0_2], .agg #[.int .i64 a1_0, .int .i64 a1_1, .slice A1_2 l1_2.length c1_2]] (by rfl) rfl rfl q8_79 ?_
         with_reducible refine (batonref10_Same.calls kj5 a0_0 a0_1 _ _ l0_2 a1_0 a1_1 _ _ l1_2 t324 _ ?side1 ?side2 ?side3 ?side4 A134.out).mono ?_
         (case side1 => repeat (first | exact (Kd.C_below HR0_2.out HB.out) | (with_reducible refine Kd.C_alloc ?_ _) | (with_reducible refine Kd.C_drewN ?_ _) | (with_reducible refine Kd.C_drew ?_)))
         (case side2 => exact HC0_2.out)
         (case side3 => repeat (first | exact (Kd.C_below HR1_2.out HB.out) | (with_reducible refine Kd.C_alloc ?_ _) | (with_reducible refine Kd.C_drewN ?_ _) | (with_reducible refine Kd.C_drew ?_)))
         (case side4 => exact HC1_2.out)
         rintro e w179 ⟨rfl, hb⟩
         refine ⟨_, rfl, ?_⟩
         have n0_ := A8_ (Kd.R_below q8_84 hb)
         have n1_ := A8_ (blk_below (g := gb248) (o := .cells #[.int .i64 a0_0, .int .i64 a0_1, .slice A0_2 l0_2.length c0_2] 75 (0, 0)) q8_78 hb)
         have n2_ := A8_ (blk_below (g := gb249) (o := .cells #[.int .i64 a1_0, .int .i64 a1_1, .slice A1_2 l1_2.length c1_2] 75 (0, 0)) q8_80 hb)
         have n3_ := A8_ (blk_below (g := gb250) (o := .cells #[.int .i64 a2_0, .int .i64 a2_1] 84 (0, 0)) q8_81 hb)
         have n4_ := A8_ (below_step q8_77 hb)
         clear HO258; clear BK248; clear BK249; clear BK250; clear HB; have HO258 := n0_; have BK248 := n1_; have BK249 := n2_; have BK250 := n3_; have HB := n4_; clear n0_ n1_ n2_ n3_ n4_; (try clear hb); (try clear hb2); (try clear hk); (try clear hi)
         refine hK.out _ _ ⟨bc8_ BK248 0, bc8_ BK248 1, bc8_ BK248 2, bc8_ BK249 0, bc8_ BK249 1, bc8_ BK249 2⟩ (fun hHeld => ?_)
         clear hK K
         refine norm_ (a' := ?_) ?_ ?_
         rotate_left; · show Act.put _ (some 40) _ = _; simp only [Act.put, setIfInBounds_toArray, set_cons_zero, set_cons_succ, i64_w, i32_w]; rfl
         refine pure_ (i := 11) (N := some 41) (v := ?_) (a' := ?_) m8_42 rfl rfl (any_of HT_.out q8_82) (fun _ _ _ h => h) (Or.inl ⟨by rfl, ?_⟩) ?_ ?_
         rotate_left; · intro w'; go_simp; with_reducible rfl
         rotate_left; · simp only [Act.put, setIfInBounds_toArray, set_cons_zero, set_cons_succ, i64_w, i32_w]; rfl
         refine pure_ (i := 12) (N := some 42) (v := ?_) (a' := ?_) m8_93 rfl rfl (any_of HT_.out q8_82) (fun _ _ _ h => h) (Or.inl ⟨by rfl, ?_⟩) ?_ ?_
         rotate_left; · intro w'; go_simp; with_reducible rfl
         rotate_left; · simp only [Act.put, setIfInBounds_toArray, set_cons_zero, set_cons_succ, i64_w, i32_w]; rfl
         refine done_ (done_of HT_.out q8_82) ?_
         try go_wp2
         go_ret
         exact ⟨by first | rfl | (simp [errW_none, errW_some] <;> rfl) | (simp [*, errW_none, errW_some] <;> rfl), by repeat (first | (with_reducible first | exact HB.out | apply below_alloc | apply pw_below_drewN | apply below_drew1 | refine below_set ?_ GE248.out | refine below_set ?_ GE249.out | refine below_set ?_ GE250.out) | exact HB.out)⟩
 ·replace c5 := Bool.eq_false_iff.mpr c5
  subst c5
  have H1 : (some false) = some r := by rw [if_neg (show ¬ (false = true) by decide)] at H; exact H
  clear H; have H := H1; clear H1
  obtain rfl := Option.some.inj H
  go_enter Try.func11, Try.ntmps11
  go_wp2_with (first | ((with_reducible refine gate_dst (N := 3) rfl ?_); (try (refine gate_guard (by rfl) ?_; dsimp only)); refine box_event ?hg (N := 3) ?hd (cs := #[.int .i64 a0_0, .int .i64 a0_1, .slice A0_2 l0_2.length c0_2]) (t := 75) ?hr ?_; (case hd => rfl); (case hg => rfl); (case hr => first | (go_simp; done) | (go_simp; rfl)); intro gb248 hg w180 hbox hb; have n0_ := A8_ (below_step q8_88 hb); have n1_ := A8_ (hbox); have n2_ := A8_ ((by rw [hg]; exact (below_size q8_88) : w.heap.size <= gb248)); have n3_ := A8_ ((by rw [hg]; exact (below_size q8_88) : w.heap.size <= gb248)); clear HB; have HB := n0_; have BK248 := n1_; have GW248 := n2_; have GE248 := n3_; clear n0_ n1_ n2_ n3_; clear hb hbox hg) | ((with_reducible refine gate_dst (N := 4) rfl ?_); (try (refine gate_guard (by rfl) ?_; dsimp only)); refine box_event ?hg (N := 4) ?hd (cs := #[.int .i64 a1_0, .int .i64 a1_1, .slice A1_2 l1_2.length c1_2]) (t := 75) ?hr ?_; (case hd => rfl); (case hg => rfl); (case hr => first | (go_simp; done) | (go_simp; rfl)); intro gb249 hg w181 hbox hb; have n0_ := A8_ (blk_below (g := gb248) (o := .cells #[.int .i64 a0_0, .int .i64 a0_1, .slice A0_2 l0_2.length c0_2] 75 (0, 0)) q8_78 hb); have n1_ := A8_ (below_step q8_87 hb); have n2_ := A8_ (hbox); have n3_ := A8_ ((by rw [hg]; exact (below_size q8_87) : w.heap.size <= gb249)); have n4_ := A8_ ((by rw [hg]; exact (below_size q8_87) : w.heap.size <= gb249)); have n5_ := A8_ ((by rw [hg]; exact Nat.ne_of_lt (blk_lt (g := gb248) (o := .cells #[.int .i64 a0_0, .int .i64 a0_1, .slice A0_2 l0_2.length c0_2] 75 (0, 0)) q8_78) : gb248 ≠ gb249)); have n6_ := A8_ ((by rw [hg]; exact Nat.ne_of_gt (blk_lt (g := gb248) (o := .cells #[.int .i64 a0_0, .int .i64 a0_1, .slice A0_2 l0_2.length c0_2] 75 (0, 0)) q8_78) : gb249 ≠ gb248)); clear BK248 HB; have BK248 := n0_; have HB := n1_; have BK249 := n2_; have GW249 := n3_; have GE249 := n4_; have NB248_249 := n5_; have NB249_248 := n6_; clear n0_ n1_ n2_ n3_ n4_ n5_ n6_; clear hb hbox hg) | ((with_reducible refine gate_dst (N := 5) rfl ?_); (try (refine gate_guard (by rfl) ?_; dsimp only)); refine box_event ?hg (N := 5) ?hd (cs := #[.int .i64 a2_0, .int .i64 a2_1]) (t := 84) ?hr ?_; (case hd => rfl); (case hg => rfl); (case hr => first | (go_simp; done) | (go_simp; rfl)); intro gb250 hg w182 hbox hb; have n0_ := A8_ (blk_below (g := gb248) (o := .cells #[.int .i64 a0_0, .int .i64 a0_1, .slice A0_2 l0_2.length c0_2] 75 (0, 0)) q8_78 hb); have n1_ := A8_ (blk_below (g := gb249) (o := .cells #[.int .i64 a1_0, .int .i64 a1_1, .slice A1_2 l1_2.length c1_2] 75 (0, 0)) q8_80 hb); have n2_ := A8_ (below_step q8_85 hb); have n3_ := A8_ (hbox); have n4_ := A8_ ((by rw [hg]; exact (below_size q8_85) : w.heap.size <= gb250)); have n5_ := A8_ ((by rw [hg]; exact (below_size q8_85) : w.heap.size <= gb250)); have n6_ := A8_ ((by rw [hg]; exact Nat.ne_of_lt (blk_lt (g := gb248) (o := .cells #[.int .i64 a0_0, .int .i64 a0_1, .slice A0_2 l0_2.length c0_2] 75 (0, 0)) q8_78) : gb248 ≠ gb250)); have n7_ := A8_ ((by rw [hg]; exact Nat.ne_of_gt (blk_lt (g := gb248) (o := .cells #[.int .i64 a0_0, .int .i64 a0_1, .slice A0_2 l0_2.length c0_2] 75 (0, 0)) q8_78) : gb250 ≠ gb248)); have n8_ := A8_ ((by rw [hg]; exact Nat.ne_of_lt (blk_lt (g := gb249) (o := .cells #[.int .i64 a1_0, .int .i64 a1_1, .slice A1_2 l1_2.length c1_2] 75 (0, 0)) q8_80) : gb249 ≠ gb250)); have n9_ := A8_ ((by rw [hg]; exact Nat.ne_of_gt (blk_lt (g := gb249) (o := .cells #[.int .i64 a1_0, .int .i64 a1_1, .slice A1_2 l1_2.length c1_2] 75 (0, 0)) q8_80) : gb250 ≠ gb249)); clear BK248 BK249 HB; have BK248 := n0_; have BK249 := n1_; have HB := n2_; have BK250 := n3_; have GW250 := n4_; have GE250 := n5_; have NB248_250 := n6_; have NB250_248 := n7_; have NB249_250 := n8_; have NB250_249 := n9_; clear n0_ n1_ n2_ n3_ n4_ n5_ n6_ n7_ n8_ n9_; clear hb hbox hg) | ((with_reducible refine gate_callee (f := 46) rfl ?_); refine goesL_ (some 11) rfl rfl Try.func46 q8_82 rfl #[] rfl q8_79 ?_; (with_reducible refine (batonlaw10_awake.calls k  false _ A4.out).mono ?_); rintro e w183 ⟨rfl, hb⟩; refine ⟨_, rfl, ?_⟩; have n0_ := A8_ (blk_below (g := gb248) (o := .cells #[.int .i64 a0_0, .int .i64 a0_1, .slice A0_2 l0_2.length c0_2] 75 (0, 0)) q8_78 hb); have n1_ := A8_ (blk_below (g := gb249) (o := .cells #[.int .i64 a1_0, .int .i64 a1_1, .slice A1_2 l1_2.length c1_2] 75 (0, 0)) q8_80 hb); have n2_ := A8_ (blk_below (g := gb250) (o := .cells #[.int .i64 a2_0, .int .i64 a2_1] 84 (0, 0)) q8_81 hb); have n3_ := A8_ (below_step q8_77 hb); clear BK248 BK249 BK250 HB; have BK248 := n0_; have BK249 := n1_; have BK250 := n2_; have HB := n3_; clear n0_ n1_ n2_ n3_; (try clear hb); (try clear hb2); (try clear hk); (try clear hi)))
  go_ret
  exact ⟨by first | rfl | (simp [errW_none, errW_some] <;> rfl) | (simp [*, errW_none, errW_some] <;> rfl), by repeat (first | (with_reducible first | exact HB.out | apply below_alloc | apply pw_below_drewN | apply below_drew1 | refine below_set ?_ GE248.out | refine below_set ?_ GE249.out | refine below_set ?_ GE250.out) | exact HB.out)⟩

/-- THE ONE PURE STATEMENT of batonlaw10_GridTells. -/
def WF51 (x : S51) : Prop := (Lit.int .i64 x.f0).wf = true /\ (Lit.int .i64 x.f1).wf = true /\ (Lit.int .i64 x.f2).wf = true
def WF53 (x : S53) : Prop := (Lit.int .i32 x.f0).wf = true /\ WF51 x.f1
def WF75 (x : S75) : Prop := (Lit.int .i64 x.f0).wf = true /\ (Lit.int .i64 x.f1).wf = true /\ (x.f2.length <= maxLen /\ ∀ x_ ∈ x.f2, WF53 x_)
def WF84 (x : S84) : Prop := (Lit.int .i64 x.f0).wf = true /\ (Lit.int .i64 x.f1).wf = true
def batonlaw10_GridTells.Pure : Prop := ∀ (a0_0 : Int) (a0_1 : Int) (l0_2 : List (S53)) (a1_0 : Int) (a1_1 : Int) (l1_2 : List (S53)) (a2_0 : Int) (a2_1 : Int), (Lit.int .i64 a0_0).wf = true -> (Lit.int .i64 a0_1).wf = true -> (l0_2.length <= maxLen /\ ∀ x_ ∈ l0_2, WF53 x_) -> (Lit.int .i64 a1_0).wf = true -> (Lit.int .i64 a1_1).wf = true -> (l1_2.length <= maxLen /\ ∀ x_ ∈ l1_2, WF53 x_) -> (Lit.int .i64 a2_0).wf = true -> (Lit.int .i64 a2_1).wf = true -> ∃ k, batonlaw10_GridTells.f k a0_0 a0_1 l0_2 a1_0 a1_1 l1_2 a2_0 a2_1 = some true

end Go.Proofs.Ytkckojgjkmcokaa.PF10
