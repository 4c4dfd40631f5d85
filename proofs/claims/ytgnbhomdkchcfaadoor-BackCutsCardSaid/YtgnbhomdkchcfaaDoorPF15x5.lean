/- By a program of this session (wip/tool/pp.py): plain Lean functions of the Go functions that this family of laws uses, the walks that the Go code comes to their answers, and the row of the law. No condition beside those that the row itself gives. -/
import Derived.Test.YtgnbhomdkchcfaaDoorPF15x0
import Derived.Test.YtgnbhomdkchcfaaDoorPF15x1
import Derived.Test.YtgnbhomdkchcfaaDoorPF15x2
import Derived.Test.YtgnbhomdkchcfaaDoorPF15x4
namespace Go.Proofs.YtgnbhomdkchcfaaDoor.PF15
open Go.RowKit Go.Proofs.YtgnbhomdkchcfaaDoorW.Hand Go.Proofs.YtgnbhomdkchcfaaDoorW.PrintWords Go.Proofs.YtgnbhomdkchcfaaDoorW.PrintLast Go.Proofs.YtgnbhomdkchcfaaDoorW.PrintMore
attribute [local go_sem] max2_int min2_int max_two min_two max_three min_three max_four min_four   -- for this text's walks alone
set_option linter.unusedVariables false
set_option linter.unusedSimpArgs false

attribute [local go_sem high] eqA28
/-! ### batonlaw15_BackCuts: function 3 -/
mutual
def batonlaw15_BackCuts.j0 : Nat → List (S28) → List (S28) → Bool → Option (Bool)
  | 0, _, _, _ => none
  | k + 1, x0, x3, x31 => if x31 = true then (some false) else (batonlaw15_BackCuts.l0 k x0 x3 0)
def batonlaw15_BackCuts.l0 : Nat → List (S28) → List (S28) → Int → Option (Bool)
  | 0, _, _, _ => none
  | k + 1, x0, x3, x4 => if x4 < (x0.length : Int) then (if x4 < (x3.length : Int) then (if 0 ≤ x4 then (if (!(((rd_T28 x3 x4).f0) == ((rd_T28 x0 x4).f0)) || ((!(((rd_T28 x3 x4).f1.f0) == ((rd_T28 x0 x4).f1.f0)) || (!(((rd_T28 x3 x4).f1.f1) == ((rd_T28 x0 x4).f1.f1)) || (!(((rd_T28 x3 x4).f1.f2) == ((rd_T28 x0 x4).f1.f2))))))) = true then (some false) else (if x4 ≥ (x3.length : Int) then (if (!(((rd_T28 x0 x4).f0) == 32) || ((!(((rd_T28 x0 x4).f1.f0) == 0) || (!(((rd_T28 x0 x4).f1.f1) == 0) || (!(((rd_T28 x0 x4).f1.f2) == 0)))))) = true then (some false) else (batonlaw15_BackCuts.l0 k x0 x3 (wrap64 (x4 + 1)))) else (batonlaw15_BackCuts.l0 k x0 x3 (wrap64 (x4 + 1))))) else (none)) else (if x4 ≥ (x3.length : Int) then (if 0 ≤ x4 then (if (!(((rd_T28 x0 x4).f0) == 32) || ((!(((rd_T28 x0 x4).f1.f0) == 0) || (!(((rd_T28 x0 x4).f1.f1) == 0) || (!(((rd_T28 x0 x4).f1.f2) == 0)))))) = true then (some false) else (batonlaw15_BackCuts.l0 k x0 x3 (wrap64 (x4 + 1)))) else (none)) else (batonlaw15_BackCuts.l0 k x0 x3 (wrap64 (x4 + 1))))) else (some true)
end
def batonlaw15_BackCuts.f (k : Nat) (l0 : List (S28)) : Option (Bool) := (batonlaw15_awake.f).bind fun t141 => (if t141 = true then (if (l0.length : Int) > 100 then (some true) else ((back_Cut.f k l0).bind fun t142 => (if (t142.length : Int) > (l0.length : Int) then (batonlaw15_BackCuts.j0 k l0 t142 true) else (if (t142.length : Int) > 0 then (if 0 ≤ (wrap64 ((t142.length : Int) - 1)) then (if (wrap64 ((t142.length : Int) - 1)) < (t142.length : Int) then (batonlaw15_BackCuts.j0 k l0 t142 (((rd_T28 t142 (wrap64 ((t142.length : Int) - 1))).f0) == 32 && ((((rd_T28 t142 (wrap64 ((t142.length : Int) - 1))).f1.f0) == 0 && (((rd_T28 t142 (wrap64 ((t142.length : Int) - 1))).f1.f1) == 0 && (((rd_T28 t142 (wrap64 ((t142.length : Int) - 1))).f1.f2) == 0)))))) else (none)) else (none)) else (batonlaw15_BackCuts.j0 k l0 t142 false))))) else (some false))
theorem batonlaw15_BackCuts.mono_l : ∀ k, (∀ y0 y1 y2, LeO (batonlaw15_BackCuts.j0 k y0 y1 y2) (batonlaw15_BackCuts.j0 (k + 1) y0 y1 y2)) ∧ (∀ y0 y1 y2, LeO (batonlaw15_BackCuts.l0 k y0 y1 y2) (batonlaw15_BackCuts.l0 (k + 1) y0 y1 y2))
  | 0 => ⟨fun _ _ _ r h => by simp [batonlaw15_BackCuts.j0] at h, fun _ _ _ r h => by simp [batonlaw15_BackCuts.l0] at h⟩
  | k + 1 => by
    obtain ⟨ih0, ih1⟩ := batonlaw15_BackCuts.mono_l k
    refine ⟨?_, ?_⟩
    · intro y0 y1 y2
      unfold batonlaw15_BackCuts.j0
      repeat' first
      | (with_reducible exact ih0 _ _ _)
      | (with_reducible exact ih1 _ _ _)
      | (with_reducible exact back_Cut.mono _ _)
      | (with_reducible exact LeO.refl _)
      | (with_reducible exact LeO.none _)
      | (with_reducible refine LeO.ite ?_ ?_)
      | (with_reducible refine LeO.bind ?_ (fun _ => ?_))
      | exact ih0 _ _ _
      | exact ih1 _ _ _
      | exact back_Cut.mono _ _
      | exact LeO.none _
      | refine LeO.ite ?_ ?_
      | refine LeO.bind ?_ (fun _ => ?_)
    · intro y0 y1 y2
      unfold batonlaw15_BackCuts.l0
      repeat' first
      | (with_reducible exact ih0 _ _ _)
      | (with_reducible exact ih1 _ _ _)
      | (with_reducible exact back_Cut.mono _ _)
      | (with_reducible exact LeO.refl _)
      | (with_reducible exact LeO.none _)
      | (with_reducible refine LeO.ite ?_ ?_)
      | (with_reducible refine LeO.bind ?_ (fun _ => ?_))
      | exact ih0 _ _ _
      | exact ih1 _ _ _
      | exact back_Cut.mono _ _
      | exact LeO.none _
      | refine LeO.ite ?_ ?_
      | refine LeO.bind ?_ (fun _ => ?_)
theorem batonlaw15_BackCuts.mono : ∀ a0 k, LeO (batonlaw15_BackCuts.f k a0) (batonlaw15_BackCuts.f (k + 1) a0) := by
  intro a0 k
  obtain ⟨ih0, ih1⟩ := batonlaw15_BackCuts.mono_l k
  unfold batonlaw15_BackCuts.f
  repeat' first
      | (with_reducible exact ih0 _ _ _)
      | (with_reducible exact ih1 _ _ _)
      | (with_reducible exact back_Cut.mono _ _)
      | (with_reducible exact LeO.refl _)
      | (with_reducible exact LeO.none _)
      | (with_reducible refine LeO.ite ?_ ?_)
      | (with_reducible refine LeO.bind ?_ (fun _ => ?_))
      | exact ih0 _ _ _
      | exact ih1 _ _ _
      | exact back_Cut.mono _ _
      | exact LeO.none _
      | refine LeO.ite ?_ ?_
      | refine LeO.bind ?_ (fun _ => ?_)
set_option maxHeartbeats 8000000 in
set_option maxRecDepth 100000 in
theorem batonlaw15_BackCuts.calls (k : Nat) (A0 : Option Addr) (c0 : Nat) (l0 : List (S28)) (r : Bool) (w : World) (hr0 : Kd.C k28 w A0 l0.length l0) (hc0 : l0.length ≤ c0) (h : batonlaw15_BackCuts.f k l0 = some r) :
    Calls Tryd.prog 3 #[.slice A0 l0.length c0] w fun e w' => e = .returned (.bool r) ∧ Below w.heap.size w w' := by
  have hu28 := Tryd.underlying28
  have HR0 := Aside0.mk hr0
  have HC0 := Aside0.mk hc0
  clear hr0 hc0
  have HB := Aside0.mk (Below.refl w.heap.size w)
  have H : ((batonlaw15_awake.f).bind fun t141 => (if t141 = true then (if (l0.length : Int) > 100 then (some true) else ((back_Cut.f k l0).bind fun t142 => (if (t142.length : Int) > (l0.length : Int) then (batonlaw15_BackCuts.j0 k l0 t142 true) else (if (t142.length : Int) > 0 then (if 0 ≤ (wrap64 ((t142.length : Int) - 1)) then (if (wrap64 ((t142.length : Int) - 1)) < (t142.length : Int) then (batonlaw15_BackCuts.j0 k l0 t142 (((rd_T28 t142 (wrap64 ((t142.length : Int) - 1))).f0) == 32 && ((((rd_T28 t142 (wrap64 ((t142.length : Int) - 1))).f1.f0) == 0 && (((rd_T28 t142 (wrap64 ((t142.length : Int) - 1))).f1.f1) == 0 && (((rd_T28 t142 (wrap64 ((t142.length : Int) - 1))).f1.f2) == 0)))))) else (none)) else (none)) else (batonlaw15_BackCuts.j0 k l0 t142 false))))) else (some false))) = some r := h
  clear h
  replace H := Option.bind_eq_some_iff.mp H
  obtain ⟨t141, A20, H⟩ := H
  replace H : (if t141 = true then (if (l0.length : Int) > 100 then (some true) else ((back_Cut.f k l0).bind fun t142 => (if (t142.length : Int) > (l0.length : Int) then (batonlaw15_BackCuts.j0 k l0 t142 true) else (if (t142.length : Int) > 0 then (if 0 ≤ (wrap64 ((t142.length : Int) - 1)) then (if (wrap64 ((t142.length : Int) - 1)) < (t142.length : Int) then (batonlaw15_BackCuts.j0 k l0 t142 (((rd_T28 t142 (wrap64 ((t142.length : Int) - 1))).f0) == 32 && ((((rd_T28 t142 (wrap64 ((t142.length : Int) - 1))).f1.f0) == 0 && (((rd_T28 t142 (wrap64 ((t142.length : Int) - 1))).f1.f1) == 0 && (((rd_T28 t142 (wrap64 ((t142.length : Int) - 1))).f1.f2) == 0)))))) else (none)) else (none)) else (batonlaw15_BackCuts.j0 k l0 t142 false))))) else (some false)) = some r := H
  have A2 := Aside0.mk A20
  clear A20
  by_cases c3 : t141 = true
  · subst c3
    have H1 : (if (l0.length : Int) > 100 then (some true) else ((back_Cut.f k l0).bind fun t142 => (if (t142.length : Int) > (l0.length : Int) then (batonlaw15_BackCuts.j0 k l0 t142 true) else (if (t142.length : Int) > 0 then (if 0 ≤ (wrap64 ((t142.length : Int) - 1)) then (if (wrap64 ((t142.length : Int) - 1)) < (t142.length : Int) then (batonlaw15_BackCuts.j0 k l0 t142 (((rd_T28 t142 (wrap64 ((t142.length : Int) - 1))).f0) == 32 && ((((rd_T28 t142 (wrap64 ((t142.length : Int) - 1))).f1.f0) == 0 && (((rd_T28 t142 (wrap64 ((t142.length : Int) - 1))).f1.f1) == 0 && (((rd_T28 t142 (wrap64 ((t142.length : Int) - 1))).f1.f2) == 0)))))) else (none)) else (none)) else (batonlaw15_BackCuts.j0 k l0 t142 false))))) = some r := by rw [if_pos rfl] at H; exact H
    clear H
    have H := H1
    clear H1
    by_cases c4 : (l0.length : Int) > 100
    · rw [if_pos c4] at H
      have c4b0 : decide (100 < (l0.length : Int)) = true := decide_eq_true c4
      have c4b1 : decide (100 < l0.length) = true := decide_eq_true (by omega)
      clear c4
      obtain rfl := Option.some.inj H
      go_enter Tryd.func3, Tryd.ntmps3
      go_wp2_with (first | (first | (go_at_call 5; (with_reducible refine (batonlaw15_awake.calls  true _ A2.out).mono ?_); rintro e w5 ⟨rfl, hb⟩; have n0_ := Aside0.mk (below_step (by repeat (first | (with_reducible first | exact HB.out | apply below_alloc | apply pw_below_drewN | apply below_drew1) | exact HB.out)) hb); clear HB; have HB := n0_; clear n0_; (try clear hb); (try clear hb2); (try clear hk); (try clear hi))) | go_quiet (first | (go_at_call 5; (with_reducible refine (batonlaw15_awake.calls  true _ A2.out).mono ?_); rintro e w5 ⟨rfl, hb⟩; have n0_ := Aside0.mk (below_step (by repeat (first | (with_reducible first | exact HB.out | apply below_alloc | apply pw_below_drewN | apply below_drew1) | exact HB.out)) hb); clear HB; have HB := n0_; clear n0_; (try clear hb); (try clear hb2); (try clear hk); (try clear hi))))
      go_ret
      exact ⟨by first | rfl | (simp [errW_none, errW_some] <;> rfl) | (simp [*, errW_none, errW_some] <;> rfl), by repeat (first | (with_reducible first | exact HB.out | apply below_alloc | apply pw_below_drewN | apply below_drew1) | exact HB.out)⟩
    · rw [if_neg c4] at H
      have c4b0 : decide (100 < (l0.length : Int)) = false := decide_eq_false c4
      have c4b1 : decide (100 < l0.length) = false := decide_eq_false (by omega)
      clear c4
      replace H := Option.bind_eq_some_iff.mp H
      obtain ⟨t142, A60, H⟩ := H
      replace H : (if (t142.length : Int) > (l0.length : Int) then (batonlaw15_BackCuts.j0 k l0 t142 true) else (if (t142.length : Int) > 0 then (if 0 ≤ (wrap64 ((t142.length : Int) - 1)) then (if (wrap64 ((t142.length : Int) - 1)) < (t142.length : Int) then (batonlaw15_BackCuts.j0 k l0 t142 (((rd_T28 t142 (wrap64 ((t142.length : Int) - 1))).f0) == 32 && ((((rd_T28 t142 (wrap64 ((t142.length : Int) - 1))).f1.f0) == 0 && (((rd_T28 t142 (wrap64 ((t142.length : Int) - 1))).f1.f1) == 0 && (((rd_T28 t142 (wrap64 ((t142.length : Int) - 1))).f1.f2) == 0)))))) else (none)) else (none)) else (batonlaw15_BackCuts.j0 k l0 t142 false))) = some r := H
      have A6 := Aside0.mk A60
      clear A60
      have HC7 := Aside0.mk H
      clear H
      go_enter Tryd.func3, Tryd.ntmps3
      go_upto_region 6 with (first | (first | (go_at_call 5; (with_reducible refine (batonlaw15_awake.calls  true _ A2.out).mono ?_); rintro e w8 ⟨rfl, hb⟩; have n0_ := Aside0.mk (below_step (by repeat (first | (with_reducible first | exact HB.out | apply below_alloc | apply pw_below_drewN | apply below_drew1) | exact HB.out)) hb); clear HB; have HB := n0_; clear n0_; (try clear hb); (try clear hb2); (try clear hk); (try clear hi)) | (go_at_call 6; (with_reducible refine (back_Cut.calls k _ _ l0 t142 _ ?side1 ?side2 A6.out).mono ?_); (case side1 => repeat (first | exact (Kd.C_below HR0.out HB.out) | (with_reducible refine Kd.C_alloc ?_ _) | (with_reducible refine Kd.C_drewN ?_ _) | (with_reducible refine Kd.C_drew ?_))); (case side2 => exact HC0.out); rintro e w9 ⟨v143, rfl, ho0, hb⟩; have n0_ := Aside0.mk (Kd.R_lower ho0 (below_size (by repeat (first | (with_reducible first | exact HB.out | apply below_alloc | apply pw_below_drewN | apply below_drew1) | exact HB.out)))); have n1_ := Aside0.mk (below_step (by repeat (first | (with_reducible first | exact HB.out | apply below_alloc | apply pw_below_drewN | apply below_drew1) | exact HB.out)) hb); clear HB; have HO144 := n0_; have HB := n1_; clear n0_ n1_; (try clear hb); (try clear hb2); (try clear hk); (try clear hi); (try clear ho0))) | go_quiet (first | (go_at_call 5; (with_reducible refine (batonlaw15_awake.calls  true _ A2.out).mono ?_); rintro e w8 ⟨rfl, hb⟩; have n0_ := Aside0.mk (below_step (by repeat (first | (with_reducible first | exact HB.out | apply below_alloc | apply pw_below_drewN | apply below_drew1) | exact HB.out)) hb); clear HB; have HB := n0_; clear n0_; (try clear hb); (try clear hb2); (try clear hk); (try clear hi)) | (go_at_call 6; (with_reducible refine (back_Cut.calls k _ _ l0 t142 _ ?side1 ?side2 A6.out).mono ?_); (case side1 => repeat (first | exact (Kd.C_below HR0.out HB.out) | (with_reducible refine Kd.C_alloc ?_ _) | (with_reducible refine Kd.C_drewN ?_ _) | (with_reducible refine Kd.C_drew ?_))); (case side2 => exact HC0.out); rintro e w9 ⟨v143, rfl, ho0, hb⟩; have n0_ := Aside0.mk (Kd.R_lower ho0 (below_size (by repeat (first | (with_reducible first | exact HB.out | apply below_alloc | apply pw_below_drewN | apply below_drew1) | exact HB.out)))); have n1_ := Aside0.mk (below_step (by repeat (first | (with_reducible first | exact HB.out | apply below_alloc | apply pw_below_drewN | apply below_drew1) | exact HB.out)) hb); clear HB; have HO144 := n0_; have HB := n1_; clear n0_ n1_; (try clear hb); (try clear hb2); (try clear hk); (try clear hi); (try clear ho0))))
      (try simp only [Act.put, List.setIfInBounds_toArray, List.set_cons_zero, List.set_cons_succ])
      go_cut [31] (fun v31 wc => ∃ (kq : Nat) (x31_6 : Bool), v31 = .bool x31_6 ∧ Aside0 (batonlaw15_BackCuts.j0 kq l0 t142 x31_6 = some r) ∧ Aside0 (kq ≤ k) ∧ Aside0 (Kd.R k28 28 wc w.heap.size (fun _ => True) v143 t142) ∧ Aside0 (Below w.heap.size w wc))
      case first =>
        have H := HC7.out
        clear HC7
        by_cases c10 : (t142.length : Int) > (l0.length : Int)
        · rw [if_pos c10] at H
          have c10b0 : decide ((l0.length : Int) < (t142.length : Int)) = true := decide_eq_true c10
          have c10b1 : decide (l0.length < t142.length) = true := decide_eq_true (Int.ofNat_lt.mp c10)
          clear c10
          (first | rw [c10b0] | (simp only [i64_w, i32_w]; rw [c10b0]) | rw [c10b1] | rw [c10b2] | skip)
          have H' := Aside0.mk H
          clear H
          obtain ⟨Ao11, co11, eo11⟩ := Kd.R_slice HO144.out
          subst eo11
          go_wp2
          repeat (go_quiet (fail); try go_wp2)
          go_meet
          case rel => exact ⟨_, (true), (by first | rfl | (simp; done) | (simp [*]; done)), H', ⟨by first | omega | exact Nat.le_refl _⟩, ⟨by (with_reducible repeat (first | apply Kd.R_alloc | apply Kd.R_drewN | apply Kd.R_drew)); exact HO144.out⟩, ⟨by repeat (first | (with_reducible first | exact HB.out | apply below_alloc | apply pw_below_drewN | apply below_drew1) | exact HB.out)⟩⟩
        · rw [if_neg c10] at H
          have c10b0 : decide ((l0.length : Int) < (t142.length : Int)) = false := decide_eq_false c10
          have c10b1 : decide (l0.length < t142.length) = false := decide_eq_false (fun h => c10 (Int.ofNat_lt.mpr h))
          clear c10
          (first | rw [c10b0] | (simp only [i64_w, i32_w]; rw [c10b0]) | rw [c10b1] | rw [c10b2] | skip)
          by_cases c12 : (t142.length : Int) > 0
          · rw [if_pos c12] at H
            have c12b0 : decide (0 < (t142.length : Int)) = true := decide_eq_true c12
            have c12b1 : decide (0 < t142.length) = true := decide_eq_true (by omega)
            clear c12
            obtain ⟨ji13, hji13⟩ : ∃ j_ : Int, (wrap64 ((t142.length : Int) - 1)) = j_ := ⟨_, rfl⟩
            replace H : (if 0 ≤ (ji13) then (if (ji13) < (t142.length : Int) then (batonlaw15_BackCuts.j0 k l0 t142 (((rd_T28 t142 (ji13)).f0) == 32 && ((((rd_T28 t142 (ji13)).f1.f0) == 0 && (((rd_T28 t142 (ji13)).f1.f1) == 0 && (((rd_T28 t142 (ji13)).f1.f2) == 0)))))) else (none)) else (none)) = some r := by first | (rw [hji13] at H; exact H) | (simp only [hji13] at H ⊢; exact H)
            have hji13w : (IntKind.i64.wrap ((t142.length : Int) - 1)) = ji13 := (i64_w _).trans hji13
            by_cases c14 : 0 ≤ (ji13)
            · rw [if_pos c14] at H
              have c14b0 : decide (0 ≤ (ji13)) = true := decide_eq_true c14
              clear c14
              by_cases c15 : (ji13) < (t142.length : Int)
              · rw [if_pos c15] at H
                have c15b0 : decide ((ji13) < (t142.length : Int)) = true := decide_eq_true c15
                clear c15
                have H' := Aside0.mk H
                clear H
                obtain ⟨Ao16, co16, eo16⟩ := Kd.R_slice HO144.out
                subst eo16
                have p145 : 0 ≤ ((ji13) : Int) := of_decide_eq_true (by first | (with_reducible assumption) | assumption)
                have q145 : (ji13) < (t142.length : Int) := of_decide_eq_true (by first | (with_reducible assumption) | assumption)
                obtain ⟨ad145, e145, hx145_0, hx145_1, hx145_2, hx145_3⟩ := at_T28 (Kd.R_reads' HO144.out).2.2 (ji13) p145 q145
                cases e145
                replace p145 := eq_true p145
                replace q145 := eq_true q145
                go_wp2
                repeat (go_quiet (fail); try go_wp2)
                go_meet
                case rel => exact ⟨_, ((((rd_T28 t142 (ji13)).f0) == 32 && ((((rd_T28 t142 (ji13)).f1.f0) == 0 && (((rd_T28 t142 (ji13)).f1.f1) == 0 && (((rd_T28 t142 (ji13)).f1.f2) == 0)))))), (by first | rfl | (simp; done) | (simp only [← hji13] <;> (first | rfl | simp)) | (simp [*]; done)), H', ⟨by first | omega | exact Nat.le_refl _⟩, ⟨by (with_reducible repeat (first | apply Kd.R_alloc | apply Kd.R_drewN | apply Kd.R_drew)); exact HO144.out⟩, ⟨by repeat (first | (with_reducible first | exact HB.out | apply below_alloc | apply pw_below_drewN | apply below_drew1) | exact HB.out)⟩⟩
              · rw [if_neg c15] at H
                exact absurd H (by simp)
            · rw [if_neg c14] at H
              exact absurd H (by simp)
          · rw [if_neg c12] at H
            have c12b0 : decide (0 < (t142.length : Int)) = false := decide_eq_false c12
            have c12b1 : decide (0 < t142.length) = false := decide_eq_false (by omega)
            clear c12
            have H' := Aside0.mk H
            clear H
            obtain ⟨Ao17, co17, eo17⟩ := Kd.R_slice HO144.out
            subst eo17
            go_wp2
            repeat (go_quiet (fail); try go_wp2)
            go_meet
            case rel => exact ⟨_, (false), (by first | rfl | (simp; done) | (simp [*]; done)), H', ⟨by first | omega | exact Nat.le_refl _⟩, ⟨by (with_reducible repeat (first | apply Kd.R_alloc | apply Kd.R_drewN | apply Kd.R_drew)); exact HO144.out⟩, ⟨by repeat (first | (with_reducible first | exact HB.out | apply below_alloc | apply pw_below_drewN | apply below_drew1) | exact HB.out)⟩⟩
      case rest =>
        clear HC7
        try clear c1
        try clear p1
        try clear q1
        try clear hx1
        try clear p2
        try clear c3
        try clear c4
        try clear c4b0
        try clear c4b1
        try clear p6
        try clear c10
        try clear c10b0
        try clear c10b1
        try clear c10b2
        try clear c12
        try clear c12b0
        try clear c12b1
        try clear c14
        try clear c14b0
        try clear p14
        try clear q14
        try clear hx14
        try clear c15
        try clear c15b0
        try clear hx145_0
        try clear hx145_1
        try clear hx145_2
        try clear hx145_3
        try clear p145
        try clear q145
        obtain ⟨kq, x31_6, rfl, HA, HJ6, HO_3, HB⟩ := hcut
        cases kq with
        | zero => exact absurd HA.out (by simp [batonlaw15_BackCuts.j0])
        | succ kj6 =>
          have H := HA.out
          clear HA
          simp only [batonlaw15_BackCuts.j0] at H
          by_cases c18 : x31_6 = true
          · subst c18
            have H1 : (some false) = some r := by rw [if_pos rfl] at H; exact H
            clear H
            have H := H1
            clear H1
            obtain rfl := Option.some.inj H
            go_wp2
            repeat (go_quiet (fail); try go_wp2)
            go_ret
            exact ⟨by first | rfl | (simp [errW_none, errW_some] <;> rfl) | (simp [*, errW_none, errW_some] <;> rfl), by repeat (first | (with_reducible first | exact HB.out | apply below_alloc | apply pw_below_drewN | apply below_drew1) | exact HB.out)⟩
          · replace c18 := Bool.eq_false_iff.mpr c18
            subst c18
            have H1 : (batonlaw15_BackCuts.l0 kj6 l0 t142 0) = some r := by rw [if_neg (show ¬ (false = true) by decide)] at H; exact H
            clear H
            have H := H1
            clear H1
            have H' := Aside0.mk H
            clear H
            go_wp2
            repeat (go_quiet (fail); try go_wp2)
            go_loopg [4] kj6 (fun kq v4 w' => ∃ (x4_2 : Int), v4 = .int .i64 x4_2 ∧ Aside0 (batonlaw15_BackCuts.l0 kq l0 t142 x4_2 = some r) ∧ Aside0 (kq ≤ kj6) ∧ Aside0 (Kd.R k28 28 w' w.heap.size (fun _ => True) v143 t142) ∧ Aside0 (Below w.heap.size w w'))
            case atStart => exact ⟨(0), (by first | rfl | (simp; done) | (simp [*]; done)), H', ⟨Nat.le_refl _⟩, ⟨by (with_reducible repeat (first | apply Kd.R_alloc | apply Kd.R_drewN | apply Kd.R_drew)); exact HO_3.out⟩, ⟨by repeat (first | (with_reducible first | exact HB.out | apply below_alloc | apply pw_below_drewN | apply below_drew1) | exact HB.out)⟩⟩
            case round =>
              clear H'
              try clear c1
              try clear p1
              try clear q1
              try clear hx1
              try clear p2
              try clear c3
              try clear c4
              try clear c4b0
              try clear c4b1
              try clear p6
              try clear c10
              try clear c10b0
              try clear c10b1
              try clear c10b2
              try clear c12
              try clear c12b0
              try clear c12b1
              try clear c14
              try clear c14b0
              try clear p14
              try clear q14
              try clear hx14
              try clear c15
              try clear c15b0
              try clear c18
              try clear hx145_0
              try clear hx145_1
              try clear hx145_2
              try clear hx145_3
              try clear p1
              try clear p14
              try clear p145
              try clear p2
              try clear p6
              try clear q1
              try clear q14
              try clear q145
              obtain ⟨x4_2, rfl, HA, HK2, HO_3, HB⟩ := hrel
              cases gk with
              | zero => exact absurd HA.out (by simp [batonlaw15_BackCuts.l0])
              | succ k2 =>
                have H := HA.out
                clear HA
                simp only [batonlaw15_BackCuts.l0] at H
                by_cases c19 : x4_2 < (l0.length : Int)
                · rw [if_pos c19] at H
                  have c19b0 : decide (x4_2 < (l0.length : Int)) = true := decide_eq_true c19
                  clear c19
                  by_cases c20 : x4_2 < (t142.length : Int)
                  · rw [if_pos c20] at H
                    have c20b0 : decide (x4_2 < (t142.length : Int)) = true := decide_eq_true c20
                    clear c20
                    by_cases c21 : 0 ≤ x4_2
                    · rw [if_pos c21] at H
                      have c21b0 : decide (0 ≤ x4_2) = true := decide_eq_true c21
                      clear c21
                      by_cases c22 : (!(((rd_T28 t142 x4_2).f0) == ((rd_T28 l0 x4_2).f0)) || ((!(((rd_T28 t142 x4_2).f1.f0) == ((rd_T28 l0 x4_2).f1.f0)) || (!(((rd_T28 t142 x4_2).f1.f1) == ((rd_T28 l0 x4_2).f1.f1)) || (!(((rd_T28 t142 x4_2).f1.f2) == ((rd_T28 l0 x4_2).f1.f2))))))) = true
                      · rw [if_pos c22] at H
                        have c22b0 : (!(((rd_T28 t142 x4_2).f0) == ((rd_T28 l0 x4_2).f0)) || ((!(((rd_T28 t142 x4_2).f1.f0) == ((rd_T28 l0 x4_2).f1.f0)) || (!(((rd_T28 t142 x4_2).f1.f1) == ((rd_T28 l0 x4_2).f1.f1)) || (!(((rd_T28 t142 x4_2).f1.f2) == ((rd_T28 l0 x4_2).f1.f2))))))) = true := c22
                        clear c22
                        obtain rfl := Option.some.inj H
                        obtain ⟨Ao23, co23, eo23⟩ := Kd.R_slice HO_3.out
                        subst eo23
                        have p146 : 0 ≤ (x4_2 : Int) := of_decide_eq_true (by first | (with_reducible assumption) | assumption)
                        have q146 : x4_2 < (t142.length : Int) := of_decide_eq_true (by first | (with_reducible assumption) | assumption)
                        obtain ⟨ad146, e146, hx146_0, hx146_1, hx146_2, hx146_3⟩ := at_T28 (Kd.R_reads' HO_3.out).2.2 x4_2 p146 q146
                        cases e146
                        replace p146 := eq_true p146
                        replace q146 := eq_true q146
                        have p147 : 0 ≤ (x4_2 : Int) := of_decide_eq_true (by first | (with_reducible assumption) | assumption)
                        have q147 : x4_2 < (l0.length : Int) := of_decide_eq_true (by first | (with_reducible assumption) | assumption)
                        obtain ⟨ad147, e147, hx147_0, hx147_1, hx147_2, hx147_3⟩ := at_T28 HR0.out x4_2 p147 q147
                        cases e147
                        replace hx147_0 := (HB.out.cell (World.block_lt_of_cell? w _ hx147_0)).trans hx147_0
                        replace hx147_1 := (HB.out.cell (World.block_lt_of_cell? w _ hx147_1)).trans hx147_1
                        replace hx147_2 := (HB.out.cell (World.block_lt_of_cell? w _ hx147_2)).trans hx147_2
                        replace hx147_3 := (HB.out.cell (World.block_lt_of_cell? w _ hx147_3)).trans hx147_3
                        replace p147 := eq_true p147
                        replace q147 := eq_true q147
                        go_wp2
                        repeat (go_quiet (fail); try go_wp2)
                        go_ret
                        exact ⟨by first | rfl | (simp [errW_none, errW_some] <;> rfl) | (simp [*, errW_none, errW_some] <;> rfl), by repeat (first | (with_reducible first | exact HB.out | apply below_alloc | apply pw_below_drewN | apply below_drew1) | exact HB.out)⟩
                      · rw [if_neg c22] at H
                        have c22b0 : (!(((rd_T28 t142 x4_2).f0) == ((rd_T28 l0 x4_2).f0)) || ((!(((rd_T28 t142 x4_2).f1.f0) == ((rd_T28 l0 x4_2).f1.f0)) || (!(((rd_T28 t142 x4_2).f1.f1) == ((rd_T28 l0 x4_2).f1.f1)) || (!(((rd_T28 t142 x4_2).f1.f2) == ((rd_T28 l0 x4_2).f1.f2))))))) = false := by simpa using c22
                        clear c22
                        by_cases c24 : x4_2 ≥ (t142.length : Int)
                        · rw [if_pos c24] at H
                          have c24b0 : decide ((t142.length : Int) ≤ x4_2) = true := decide_eq_true c24
                          clear c24
                          by_cases c25 : (!(((rd_T28 l0 x4_2).f0) == 32) || ((!(((rd_T28 l0 x4_2).f1.f0) == 0) || (!(((rd_T28 l0 x4_2).f1.f1) == 0) || (!(((rd_T28 l0 x4_2).f1.f2) == 0)))))) = true
                          · rw [if_pos c25] at H
                            have c25b0 : (!(((rd_T28 l0 x4_2).f0) == 32) || ((!(((rd_T28 l0 x4_2).f1.f0) == 0) || (!(((rd_T28 l0 x4_2).f1.f1) == 0) || (!(((rd_T28 l0 x4_2).f1.f2) == 0)))))) = true := c25
                            clear c25
                            obtain rfl := Option.some.inj H
                            obtain ⟨Ao26, co26, eo26⟩ := Kd.R_slice HO_3.out
                            subst eo26
                            have p146 : 0 ≤ (x4_2 : Int) := of_decide_eq_true (by first | (with_reducible assumption) | assumption)
                            have q146 : x4_2 < (t142.length : Int) := of_decide_eq_true (by first | (with_reducible assumption) | assumption)
                            obtain ⟨ad146, e146, hx146_0, hx146_1, hx146_2, hx146_3⟩ := at_T28 (Kd.R_reads' HO_3.out).2.2 x4_2 p146 q146
                            cases e146
                            replace p146 := eq_true p146
                            replace q146 := eq_true q146
                            have p147 : 0 ≤ (x4_2 : Int) := of_decide_eq_true (by first | (with_reducible assumption) | assumption)
                            have q147 : x4_2 < (l0.length : Int) := of_decide_eq_true (by first | (with_reducible assumption) | assumption)
                            obtain ⟨ad147, e147, hx147_0, hx147_1, hx147_2, hx147_3⟩ := at_T28 HR0.out x4_2 p147 q147
                            cases e147
                            replace hx147_0 := (HB.out.cell (World.block_lt_of_cell? w _ hx147_0)).trans hx147_0
                            replace hx147_1 := (HB.out.cell (World.block_lt_of_cell? w _ hx147_1)).trans hx147_1
                            replace hx147_2 := (HB.out.cell (World.block_lt_of_cell? w _ hx147_2)).trans hx147_2
                            replace hx147_3 := (HB.out.cell (World.block_lt_of_cell? w _ hx147_3)).trans hx147_3
                            replace p147 := eq_true p147
                            replace q147 := eq_true q147
                            have p148 : 0 ≤ (x4_2 : Int) := of_decide_eq_true (by first | (with_reducible assumption) | assumption)
                            have q148 : x4_2 < (l0.length : Int) := of_decide_eq_true (by first | (with_reducible assumption) | assumption)
                            obtain ⟨ad148, e148, hx148_0, hx148_1, hx148_2, hx148_3⟩ := at_T28 HR0.out x4_2 p148 q148
                            obtain rfl : ad147 = ad148 := (by injection e148)
                            replace hx148_0 := (HB.out.cell (World.block_lt_of_cell? w _ hx148_0)).trans hx148_0
                            replace hx148_1 := (HB.out.cell (World.block_lt_of_cell? w _ hx148_1)).trans hx148_1
                            replace hx148_2 := (HB.out.cell (World.block_lt_of_cell? w _ hx148_2)).trans hx148_2
                            replace hx148_3 := (HB.out.cell (World.block_lt_of_cell? w _ hx148_3)).trans hx148_3
                            replace p148 := eq_true p148
                            replace q148 := eq_true q148
                            go_wp2
                            repeat (go_quiet (fail); try go_wp2)
                            go_ret
                            exact ⟨by first | rfl | (simp [errW_none, errW_some] <;> rfl) | (simp [*, errW_none, errW_some] <;> rfl), by repeat (first | (with_reducible first | exact HB.out | apply below_alloc | apply pw_below_drewN | apply below_drew1) | exact HB.out)⟩
                          · rw [if_neg c25] at H
                            have c25b0 : (!(((rd_T28 l0 x4_2).f0) == 32) || ((!(((rd_T28 l0 x4_2).f1.f0) == 0) || (!(((rd_T28 l0 x4_2).f1.f1) == 0) || (!(((rd_T28 l0 x4_2).f1.f2) == 0)))))) = false := by simpa using c25
                            clear c25
                            have H' := Aside0.mk H
                            clear H
                            obtain ⟨Ao27, co27, eo27⟩ := Kd.R_slice HO_3.out
                            subst eo27
                            have p146 : 0 ≤ (x4_2 : Int) := of_decide_eq_true (by first | (with_reducible assumption) | assumption)
                            have q146 : x4_2 < (t142.length : Int) := of_decide_eq_true (by first | (with_reducible assumption) | assumption)
                            obtain ⟨ad146, e146, hx146_0, hx146_1, hx146_2, hx146_3⟩ := at_T28 (Kd.R_reads' HO_3.out).2.2 x4_2 p146 q146
                            cases e146
                            replace p146 := eq_true p146
                            replace q146 := eq_true q146
                            have p147 : 0 ≤ (x4_2 : Int) := of_decide_eq_true (by first | (with_reducible assumption) | assumption)
                            have q147 : x4_2 < (l0.length : Int) := of_decide_eq_true (by first | (with_reducible assumption) | assumption)
                            obtain ⟨ad147, e147, hx147_0, hx147_1, hx147_2, hx147_3⟩ := at_T28 HR0.out x4_2 p147 q147
                            cases e147
                            replace hx147_0 := (HB.out.cell (World.block_lt_of_cell? w _ hx147_0)).trans hx147_0
                            replace hx147_1 := (HB.out.cell (World.block_lt_of_cell? w _ hx147_1)).trans hx147_1
                            replace hx147_2 := (HB.out.cell (World.block_lt_of_cell? w _ hx147_2)).trans hx147_2
                            replace hx147_3 := (HB.out.cell (World.block_lt_of_cell? w _ hx147_3)).trans hx147_3
                            replace p147 := eq_true p147
                            replace q147 := eq_true q147
                            have p148 : 0 ≤ (x4_2 : Int) := of_decide_eq_true (by first | (with_reducible assumption) | assumption)
                            have q148 : x4_2 < (l0.length : Int) := of_decide_eq_true (by first | (with_reducible assumption) | assumption)
                            obtain ⟨ad148, e148, hx148_0, hx148_1, hx148_2, hx148_3⟩ := at_T28 HR0.out x4_2 p148 q148
                            obtain rfl : ad147 = ad148 := (by injection e148)
                            replace hx148_0 := (HB.out.cell (World.block_lt_of_cell? w _ hx148_0)).trans hx148_0
                            replace hx148_1 := (HB.out.cell (World.block_lt_of_cell? w _ hx148_1)).trans hx148_1
                            replace hx148_2 := (HB.out.cell (World.block_lt_of_cell? w _ hx148_2)).trans hx148_2
                            replace hx148_3 := (HB.out.cell (World.block_lt_of_cell? w _ hx148_3)).trans hx148_3
                            replace p148 := eq_true p148
                            replace q148 := eq_true q148
                            go_wp2
                            repeat (go_quiet (fail); try go_wp2)
                            go_roundg k2
                            case measure => have := HJ6.out; have := HK2.out; omega
                            case rel => exact ⟨(wrap64 (x4_2 + 1)), (by first | rfl | (simp; done) | (simp [*]; done)), H', ⟨by have := HJ6.out; have := HK2.out; omega⟩, ⟨by (with_reducible repeat (first | apply Kd.R_alloc | apply Kd.R_drewN | apply Kd.R_drew)); exact HO_3.out⟩, ⟨by repeat (first | (with_reducible first | exact HB.out | apply below_alloc | apply pw_below_drewN | apply below_drew1) | exact HB.out)⟩⟩
                        · rw [if_neg c24] at H
                          have c24b0 : decide ((t142.length : Int) ≤ x4_2) = false := decide_eq_false c24
                          clear c24
                          have H' := Aside0.mk H
                          clear H
                          obtain ⟨Ao28, co28, eo28⟩ := Kd.R_slice HO_3.out
                          subst eo28
                          have p146 : 0 ≤ (x4_2 : Int) := of_decide_eq_true (by first | (with_reducible assumption) | assumption)
                          have q146 : x4_2 < (t142.length : Int) := of_decide_eq_true (by first | (with_reducible assumption) | assumption)
                          obtain ⟨ad146, e146, hx146_0, hx146_1, hx146_2, hx146_3⟩ := at_T28 (Kd.R_reads' HO_3.out).2.2 x4_2 p146 q146
                          cases e146
                          replace p146 := eq_true p146
                          replace q146 := eq_true q146
                          have p147 : 0 ≤ (x4_2 : Int) := of_decide_eq_true (by first | (with_reducible assumption) | assumption)
                          have q147 : x4_2 < (l0.length : Int) := of_decide_eq_true (by first | (with_reducible assumption) | assumption)
                          obtain ⟨ad147, e147, hx147_0, hx147_1, hx147_2, hx147_3⟩ := at_T28 HR0.out x4_2 p147 q147
                          cases e147
                          replace hx147_0 := (HB.out.cell (World.block_lt_of_cell? w _ hx147_0)).trans hx147_0
                          replace hx147_1 := (HB.out.cell (World.block_lt_of_cell? w _ hx147_1)).trans hx147_1
                          replace hx147_2 := (HB.out.cell (World.block_lt_of_cell? w _ hx147_2)).trans hx147_2
                          replace hx147_3 := (HB.out.cell (World.block_lt_of_cell? w _ hx147_3)).trans hx147_3
                          replace p147 := eq_true p147
                          replace q147 := eq_true q147
                          go_wp2
                          repeat (go_quiet (fail); try go_wp2)
                          go_roundg k2
                          case measure => have := HJ6.out; have := HK2.out; omega
                          case rel => exact ⟨(wrap64 (x4_2 + 1)), (by first | rfl | (simp; done) | (simp [*]; done)), H', ⟨by have := HJ6.out; have := HK2.out; omega⟩, ⟨by (with_reducible repeat (first | apply Kd.R_alloc | apply Kd.R_drewN | apply Kd.R_drew)); exact HO_3.out⟩, ⟨by repeat (first | (with_reducible first | exact HB.out | apply below_alloc | apply pw_below_drewN | apply below_drew1) | exact HB.out)⟩⟩
                    · rw [if_neg c21] at H
                      exact absurd H (by simp)
                  · rw [if_neg c20] at H
                    have c20b0 : decide (x4_2 < (t142.length : Int)) = false := decide_eq_false c20
                    clear c20
                    by_cases c29 : x4_2 ≥ (t142.length : Int)
                    · rw [if_pos c29] at H
                      have c29b0 : decide ((t142.length : Int) ≤ x4_2) = true := decide_eq_true c29
                      clear c29
                      by_cases c30 : 0 ≤ x4_2
                      · rw [if_pos c30] at H
                        have c30b0 : decide (0 ≤ x4_2) = true := decide_eq_true c30
                        clear c30
                        by_cases c31 : (!(((rd_T28 l0 x4_2).f0) == 32) || ((!(((rd_T28 l0 x4_2).f1.f0) == 0) || (!(((rd_T28 l0 x4_2).f1.f1) == 0) || (!(((rd_T28 l0 x4_2).f1.f2) == 0)))))) = true
                        · rw [if_pos c31] at H
                          have c31b0 : (!(((rd_T28 l0 x4_2).f0) == 32) || ((!(((rd_T28 l0 x4_2).f1.f0) == 0) || (!(((rd_T28 l0 x4_2).f1.f1) == 0) || (!(((rd_T28 l0 x4_2).f1.f2) == 0)))))) = true := c31
                          clear c31
                          obtain rfl := Option.some.inj H
                          obtain ⟨Ao32, co32, eo32⟩ := Kd.R_slice HO_3.out
                          subst eo32
                          have p149 : 0 ≤ (x4_2 : Int) := of_decide_eq_true (by first | (with_reducible assumption) | assumption)
                          have q149 : x4_2 < (l0.length : Int) := of_decide_eq_true (by first | (with_reducible assumption) | assumption)
                          obtain ⟨ad149, e149, hx149_0, hx149_1, hx149_2, hx149_3⟩ := at_T28 HR0.out x4_2 p149 q149
                          cases e149
                          replace hx149_0 := (HB.out.cell (World.block_lt_of_cell? w _ hx149_0)).trans hx149_0
                          replace hx149_1 := (HB.out.cell (World.block_lt_of_cell? w _ hx149_1)).trans hx149_1
                          replace hx149_2 := (HB.out.cell (World.block_lt_of_cell? w _ hx149_2)).trans hx149_2
                          replace hx149_3 := (HB.out.cell (World.block_lt_of_cell? w _ hx149_3)).trans hx149_3
                          replace p149 := eq_true p149
                          replace q149 := eq_true q149
                          go_wp2
                          repeat (go_quiet (fail); try go_wp2)
                          go_ret
                          exact ⟨by first | rfl | (simp [errW_none, errW_some] <;> rfl) | (simp [*, errW_none, errW_some] <;> rfl), by repeat (first | (with_reducible first | exact HB.out | apply below_alloc | apply pw_below_drewN | apply below_drew1) | exact HB.out)⟩
                        · rw [if_neg c31] at H
                          have c31b0 : (!(((rd_T28 l0 x4_2).f0) == 32) || ((!(((rd_T28 l0 x4_2).f1.f0) == 0) || (!(((rd_T28 l0 x4_2).f1.f1) == 0) || (!(((rd_T28 l0 x4_2).f1.f2) == 0)))))) = false := by simpa using c31
                          clear c31
                          have H' := Aside0.mk H
                          clear H
                          obtain ⟨Ao33, co33, eo33⟩ := Kd.R_slice HO_3.out
                          subst eo33
                          have p149 : 0 ≤ (x4_2 : Int) := of_decide_eq_true (by first | (with_reducible assumption) | assumption)
                          have q149 : x4_2 < (l0.length : Int) := of_decide_eq_true (by first | (with_reducible assumption) | assumption)
                          obtain ⟨ad149, e149, hx149_0, hx149_1, hx149_2, hx149_3⟩ := at_T28 HR0.out x4_2 p149 q149
                          cases e149
                          replace hx149_0 := (HB.out.cell (World.block_lt_of_cell? w _ hx149_0)).trans hx149_0
                          replace hx149_1 := (HB.out.cell (World.block_lt_of_cell? w _ hx149_1)).trans hx149_1
                          replace hx149_2 := (HB.out.cell (World.block_lt_of_cell? w _ hx149_2)).trans hx149_2
                          replace hx149_3 := (HB.out.cell (World.block_lt_of_cell? w _ hx149_3)).trans hx149_3
                          replace p149 := eq_true p149
                          replace q149 := eq_true q149
                          go_wp2
                          repeat (go_quiet (fail); try go_wp2)
                          go_roundg k2
                          case measure => have := HJ6.out; have := HK2.out; omega
                          case rel => exact ⟨(wrap64 (x4_2 + 1)), (by first | rfl | (simp; done) | (simp [*]; done)), H', ⟨by have := HJ6.out; have := HK2.out; omega⟩, ⟨by (with_reducible repeat (first | apply Kd.R_alloc | apply Kd.R_drewN | apply Kd.R_drew)); exact HO_3.out⟩, ⟨by repeat (first | (with_reducible first | exact HB.out | apply below_alloc | apply pw_below_drewN | apply below_drew1) | exact HB.out)⟩⟩
                      · rw [if_neg c30] at H
                        exact absurd H (by simp)
                    · rw [if_neg c29] at H
                      have c29b0 : decide ((t142.length : Int) ≤ x4_2) = false := decide_eq_false c29
                      clear c29
                      have H' := Aside0.mk H
                      clear H
                      obtain ⟨Ao34, co34, eo34⟩ := Kd.R_slice HO_3.out
                      subst eo34
                      go_wp2
                      repeat (go_quiet (fail); try go_wp2)
                      go_roundg k2
                      case measure => have := HJ6.out; have := HK2.out; omega
                      case rel => exact ⟨(wrap64 (x4_2 + 1)), (by first | rfl | (simp; done) | (simp [*]; done)), H', ⟨by have := HJ6.out; have := HK2.out; omega⟩, ⟨by (with_reducible repeat (first | apply Kd.R_alloc | apply Kd.R_drewN | apply Kd.R_drew)); exact HO_3.out⟩, ⟨by repeat (first | (with_reducible first | exact HB.out | apply below_alloc | apply pw_below_drewN | apply below_drew1) | exact HB.out)⟩⟩
                · rw [if_neg c19] at H
                  have c19b0 : decide (x4_2 < (l0.length : Int)) = false := decide_eq_false c19
                  clear c19
                  obtain rfl := Option.some.inj H
                  go_wp2
                  repeat (go_quiet (fail); try go_wp2)
                  go_ret
                  exact ⟨by first | rfl | (simp [errW_none, errW_some] <;> rfl) | (simp [*, errW_none, errW_some] <;> rfl), by repeat (first | (with_reducible first | exact HB.out | apply below_alloc | apply pw_below_drewN | apply below_drew1) | exact HB.out)⟩
  · replace c3 := Bool.eq_false_iff.mpr c3
    subst c3
    have H1 : (some false) = some r := by rw [if_neg (show ¬ (false = true) by decide)] at H; exact H
    clear H
    have H := H1
    clear H1
    obtain rfl := Option.some.inj H
    go_enter Tryd.func3, Tryd.ntmps3
    go_wp2_with (first | (first | (go_at_call 5; (with_reducible refine (batonlaw15_awake.calls  false _ A2.out).mono ?_); rintro e w35 ⟨rfl, hb⟩; have n0_ := Aside0.mk (below_step (by repeat (first | (with_reducible first | exact HB.out | apply below_alloc | apply pw_below_drewN | apply below_drew1) | exact HB.out)) hb); clear HB; have HB := n0_; clear n0_; (try clear hb); (try clear hb2); (try clear hk); (try clear hi))) | go_quiet (first | (go_at_call 5; (with_reducible refine (batonlaw15_awake.calls  false _ A2.out).mono ?_); rintro e w35 ⟨rfl, hb⟩; have n0_ := Aside0.mk (below_step (by repeat (first | (with_reducible first | exact HB.out | apply below_alloc | apply pw_below_drewN | apply below_drew1) | exact HB.out)) hb); clear HB; have HB := n0_; clear n0_; (try clear hb); (try clear hb2); (try clear hk); (try clear hi))))
    go_ret
    exact ⟨by first | rfl | (simp [errW_none, errW_some] <;> rfl) | (simp [*, errW_none, errW_some] <;> rfl), by repeat (first | (with_reducible first | exact HB.out | apply below_alloc | apply pw_below_drewN | apply below_drew1) | exact HB.out)⟩

/-- THE ONE PURE STATEMENT of batonlaw15_BackCuts. -/
def WF26 (x : S26) : Prop := (Lit.int .i64 x.f0).wf = true ∧ (Lit.int .i64 x.f1).wf = true ∧ (Lit.int .i64 x.f2).wf = true
def WF28 (x : S28) : Prop := (Lit.int .i32 x.f0).wf = true ∧ WF26 x.f1
def batonlaw15_BackCuts.Pure : Prop := ∀ (l0 : List (S28)), (l0.length ≤ maxLen ∧ ∀ x_ ∈ l0, WF28 x_) → ∃ k, batonlaw15_BackCuts.f k l0 = some true

end Go.Proofs.YtgnbhomdkchcfaaDoor.PF15
