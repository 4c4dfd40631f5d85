/- By a program of this session (wip/tool/pp.py): plain Lean functions of the Go functions that this family of laws uses, the walks that the Go code comes to their answers, and the row of the law. No condition beside those that the row itself gives. -/
import Derived.Test.YtkckojgjkmcokaaPF08Tx0
import Derived.Test.YtkckojgjkmcokaaPF08Tx3
namespace Go.Proofs.Ytkckojgjkmcokaa.PF08T
open Go.RowKit Go.Proofs.YtkckojgjkmcokaaW.Hand Go.Proofs.YtkckojgjkmcokaaW.PrintWords Go.Proofs.YtkckojgjkmcokaaW.PrintLast Go.Proofs.YtkckojgjkmcokaaW.PrintMore
attribute [local go_sem] max2_int min2_int max_two min_two max_three min_three max_four min_four   -- for this text's walks alone
set_option linter.unusedVariables false
set_option linter.unusedSimpArgs false

/-! ### batonref08_Valid: function 25 -/
mutual
def batonref08_Valid.l0 : Nat → List Int → Int → Option (Bool)
  | 0, _, _ => none
  | k + 1, x0, x3 => if x3 < (x0.length : Int) then (batonref08_Valid.l1 k x0 x3 1) else (some true)
def batonref08_Valid.l1 : Nat → List Int → Int → Int → Option (Bool)
  | 0, _, _, _ => none
  | k + 1, x0, x3, x4 => if x4 ≤ 4 then (if (wrap64 (x3 + x4)) ≤ (x0.length : Int) then (if 0 ≤ x3 then (if x3 ≤ (wrap64 (x3 + x4)) then ((batonref08_Whole.f k ((x0.take ((wrap64 (x3 + x4)) : Int).toNat).drop (x3 : Int).toNat)).bind fun t258 => (if t258 < 0 then (batonref08_Valid.l1 k x0 x3 (wrap64 (x4 + 1))) else (if x4 > 4 then (some false) else (if (wrap64 (x3 + x4)) > (x0.length : Int) then (some false) else (batonref08_Valid.l0 k x0 (wrap64 (x3 + x4))))))) else (none)) else (none)) else (if x4 > 4 then (some false) else (if (wrap64 (x3 + x4)) > (x0.length : Int) then (some false) else (batonref08_Valid.l0 k x0 (wrap64 (x3 + x4)))))) else (if x4 > 4 then (some false) else (if (wrap64 (x3 + x4)) > (x0.length : Int) then (some false) else (batonref08_Valid.l0 k x0 (wrap64 (x3 + x4)))))
end
def batonref08_Valid.f (k : Nat) (l0 : List Int) : Option (Bool) := batonref08_Valid.l0 k l0 0
theorem batonref08_Valid.mono_l : ∀ k, (∀ y0 y1, LeO (batonref08_Valid.l0 k y0 y1) (batonref08_Valid.l0 (k + 1) y0 y1)) ∧ (∀ y0 y1 y2, LeO (batonref08_Valid.l1 k y0 y1 y2) (batonref08_Valid.l1 (k + 1) y0 y1 y2))
  | 0 => ⟨fun _ _ r h => by simp [batonref08_Valid.l0] at h, fun _ _ _ r h => by simp [batonref08_Valid.l1] at h⟩
  | k + 1 => by
    obtain ⟨ih0, ih1⟩ := batonref08_Valid.mono_l k
    refine ⟨?_, ?_⟩
    · intro y0 y1
      unfold batonref08_Valid.l0
      repeat' first
      | (with_reducible exact ih0 _ _)
      | (with_reducible exact ih1 _ _ _)
      | (with_reducible exact batonref08_Whole.mono _ _)
      | (with_reducible exact LeO.refl _)
      | (with_reducible exact LeO.none _)
      | (with_reducible refine LeO.ite ?_ ?_)
      | (with_reducible refine LeO.bind ?_ (fun _ => ?_))
      | exact ih0 _ _
      | exact ih1 _ _ _
      | exact batonref08_Whole.mono _ _
      | exact LeO.none _
      | refine LeO.ite ?_ ?_
      | refine LeO.bind ?_ (fun _ => ?_)
    · intro y0 y1 y2
      unfold batonref08_Valid.l1
      repeat' first
      | (with_reducible exact ih0 _ _)
      | (with_reducible exact ih1 _ _ _)
      | (with_reducible exact batonref08_Whole.mono _ _)
      | (with_reducible exact LeO.refl _)
      | (with_reducible exact LeO.none _)
      | (with_reducible refine LeO.ite ?_ ?_)
      | (with_reducible refine LeO.bind ?_ (fun _ => ?_))
      | exact ih0 _ _
      | exact ih1 _ _ _
      | exact batonref08_Whole.mono _ _
      | exact LeO.none _
      | refine LeO.ite ?_ ?_
      | refine LeO.bind ?_ (fun _ => ?_)
theorem batonref08_Valid.mono : ∀ a0 k, LeO (batonref08_Valid.f k a0) (batonref08_Valid.f (k + 1) a0) := by
  intro a0 k
  obtain ⟨ih0, ih1⟩ := batonref08_Valid.mono_l k
  unfold batonref08_Valid.f
  repeat' first
      | (with_reducible exact ih0 _ _)
      | (with_reducible exact ih1 _ _ _)
      | (with_reducible exact batonref08_Whole.mono _ _)
      | (with_reducible exact LeO.refl _)
      | (with_reducible exact LeO.none _)
      | (with_reducible refine LeO.ite ?_ ?_)
      | (with_reducible refine LeO.bind ?_ (fun _ => ?_))
      | exact ih0 _ _
      | exact ih1 _ _ _
      | exact batonref08_Whole.mono _ _
      | exact LeO.none _
      | refine LeO.ite ?_ ?_
      | refine LeO.bind ?_ (fun _ => ?_)
set_option maxHeartbeats 8000000 in
set_option maxRecDepth 100000 in
theorem batonref08_Valid.calls (k : Nat) (A0 : Option Addr) (c0 : Nat) (l0 : List Int) (r : Bool) (w : World) (hr0 : Kd.C (Kd.int .u8) w A0 l0.length l0) (hc0 : l0.length ≤ c0) (h : batonref08_Valid.f k l0 = some r) :
    Calls Try.prog 25 #[.slice A0 l0.length c0] w fun e w' => e = .returned (.bool r) ∧ Below w.heap.size w w' := by
  have HR0 := Aside0.mk hr0
  have HC0 := Aside0.mk hc0
  clear hr0 hc0
  have HB := Aside0.mk (Below.refl w.heap.size w)
  have H : (batonref08_Valid.l0 k l0 0) = some r := h
  clear h
  have H' := Aside0.mk H
  clear H
  go_enter Try.func25, Try.ntmps25
  go_wp2
  go_loopg [3] k (fun kq v3 w' => ∃ (x3_1 : Int), v3 = .int .i64 x3_1 ∧ Aside0 (batonref08_Valid.l0 kq l0 x3_1 = some r) ∧ Aside0 (kq ≤ k) ∧ Aside0 (Below w.heap.size w w'))
  case atStart => exact ⟨(0), (by first | rfl | (simp; done) | (simp [*]; done)), H', ⟨Nat.le_refl _⟩, ⟨by repeat (first | (with_reducible first | exact HB.out | apply below_alloc | apply pw_below_drewN | apply below_drew1) | exact HB.out)⟩⟩
  case round =>
    clear H'
    obtain ⟨x3_1, rfl, HA, HK1, HB⟩ := hrel
    cases gk with
    | zero => exact absurd HA.out (by simp [batonref08_Valid.l0])
    | succ k1 =>
      have H := HA.out
      clear HA
      simp only [batonref08_Valid.l0] at H
      by_cases c2 : x3_1 < (l0.length : Int)
      · rw [if_pos c2] at H
        have c2b0 : decide (x3_1 < (l0.length : Int)) = true := decide_eq_true c2
        clear c2
        have H' := Aside0.mk H
        clear H
        go_wp2
        go_loopg [4] k1 (fun kq v4 w' => ∃ (x4_2 : Int), v4 = .int .i64 x4_2 ∧ Aside0 (batonref08_Valid.l1 kq l0 x3_1 x4_2 = some r) ∧ Aside0 (kq ≤ k1) ∧ Aside0 (Below w.heap.size w w'))
        case atStart => exact ⟨(1), (by first | rfl | (simp; done) | (simp [*]; done)), H', ⟨Nat.le_refl _⟩, ⟨by repeat (first | (with_reducible first | exact HB.out | apply below_alloc | apply pw_below_drewN | apply below_drew1) | exact HB.out)⟩⟩
        case round =>
          clear H'
          try clear c2
          try clear c2b0
          try clear p2
          obtain ⟨x4_2, rfl, HA, HK2, HB⟩ := hrel
          cases gk with
          | zero => exact absurd HA.out (by simp [batonref08_Valid.l1])
          | succ k2 =>
            have H := HA.out
            clear HA
            simp only [batonref08_Valid.l1] at H
            by_cases c3 : x4_2 ≤ 4
            · rw [if_pos c3] at H
              have c3b0 : decide (x4_2 ≤ 4) = true := decide_eq_true c3
              clear c3
              by_cases c4 : (wrap64 (x3_1 + x4_2)) ≤ (l0.length : Int)
              · rw [if_pos c4] at H
                have c4b0 : decide ((wrap64 (x3_1 + x4_2)) ≤ (l0.length : Int)) = true := decide_eq_true c4
                clear c4
                by_cases c5 : 0 ≤ x3_1
                · rw [if_pos c5] at H
                  have c5b0 := eq_true c5
                  have c5b1 : decide (0 ≤ x3_1) = true := decide_eq_true c5
                  clear c5
                  obtain ⟨ji6, hji6⟩ : ∃ j_ : Int, (wrap64 (x3_1 + x4_2)) = j_ := ⟨_, rfl⟩
                  replace H : (if x3_1 ≤ (ji6) then ((batonref08_Whole.f k2 ((l0.take ((ji6) : Int).toNat).drop (x3_1 : Int).toNat)).bind fun t258 => (if t258 < 0 then (batonref08_Valid.l1 k2 l0 x3_1 (wrap64 (x4_2 + 1))) else (if x4_2 > 4 then (some false) else (if (ji6) > (l0.length : Int) then (some false) else (batonref08_Valid.l0 k2 l0 ji6))))) else (none)) = some r := by first | (rw [hji6] at H; exact H) | (simp only [hji6] at H ⊢; exact H)
                  (try rw [hji6] at c4b0)
                  have hji6w : (IntKind.i64.wrap (x3_1 + x4_2)) = ji6 := (i64_w _).trans hji6
                  by_cases c7 : x3_1 ≤ (ji6)
                  · rw [if_pos c7] at H
                    have c7b0 := eq_true c7
                    have c7b1 : decide (x3_1 ≤ (ji6)) = true := decide_eq_true c7
                    clear c7
                    have c8b0 := eq_true (of_decide_eq_true (by first | (with_reducible assumption) | assumption) : (ji6) ≤ (l0.length : Int))
                    replace H := Option.bind_eq_some_iff.mp H
                    obtain ⟨t258, A90, H⟩ := H
                    replace H : (if t258 < 0 then (batonref08_Valid.l1 k2 l0 x3_1 (wrap64 (x4_2 + 1))) else (if x4_2 > 4 then (some false) else (if (ji6) > (l0.length : Int) then (some false) else (batonref08_Valid.l0 k2 l0 ji6)))) = some r := H
                    have A9 := Aside0.mk A90
                    clear A90
                    by_cases c10 : t258 < 0
                    · rw [if_pos c10] at H
                      have c10b0 : decide (t258 < 0) = true := decide_eq_true c10
                      clear c10
                      have H' := Aside0.mk H
                      clear H
                      obtain ⟨i011, hi011, _, hsz11, _⟩ := info_parts info5
                      obtain ⟨A11, hcut11, hA11, hC11⟩ := print_mid_of (P := Try.prog) (Value.int .u8) 0 22 5 .i64 .i64 Try.underlying22 hi011 hsz11 A0 c0 l0 x3_1 (ji6) (of_decide_eq_true (by first | (with_reducible assumption) | assumption)) (by first | omega | exact of_decide_eq_true (by first | (with_reducible assumption) | assumption)) (of_decide_eq_true (by first | (with_reducible assumption) | assumption)) HC0.out
                      have HR257 := Aside0.mk (Kd.C_of_reads (h1 := fun _ => rfl) (hA11 _ (Kd.reads_of_C HR0.out)))
                      have HC257 := Aside0.mk hC11
                      clear hA11 hC11 hi011 hsz11
                      go_wp2_with (first | (go_at_call 62; refine calls_of_args (args' := #[.slice A11 ((l0.take ((ji6) : Int).toNat).drop (x3_1 : Int).toNat).length (c0 - x3_1.toNat)]) (by first | rfl | (simp only [List.length_take, List.length_drop, Int.toNat_natCast]; done) | (rw [show ((l0.take ((ji6) : Int).toNat).drop (x3_1 : Int).toNat).length = ((ji6).toNat - x3_1.toNat) from (by rw [List.length_drop, List.length_take]; have h_ : ((ji6) : Int) ≤ (l0.length : Int) := of_decide_eq_true (by first | (with_reducible assumption) | assumption); omega)] <;> rfl) | (simp; done)) ?_; (with_reducible refine (batonref08_Whole.calls k2 _ _ ((l0.take ((ji6) : Int).toNat).drop (x3_1 : Int).toNat) t258 _ ?side1 ?side2 A9.out).mono ?_); (case side1 => repeat (first | exact (Kd.C_below HR257.out HB.out) | (with_reducible refine Kd.C_alloc ?_ _) | (with_reducible refine Kd.C_drewN ?_ _) | (with_reducible refine Kd.C_drew ?_))); (case side2 => exact HC257.out); rintro e w12 ⟨rfl, hb⟩; have n0_ := Aside0.mk (below_step (by repeat (first | (with_reducible first | exact HB.out | apply below_alloc | apply pw_below_drewN | apply below_drew1) | exact HB.out)) hb); clear HB; have HB := n0_; clear n0_; (try clear hb); (try clear hb2); (try clear hk); (try clear hi)))
                      go_roundg k2
                      case measure => have := HK1.out; have := HK2.out; omega
                      case rel => exact ⟨(wrap64 (x4_2 + 1)), (by first | rfl | (simp; done) | (simp [*]; done)), H', ⟨by have := HK1.out; have := HK2.out; omega⟩, ⟨by repeat (first | (with_reducible first | exact HB.out | apply below_alloc | apply pw_below_drewN | apply below_drew1) | exact HB.out)⟩⟩
                    · rw [if_neg c10] at H
                      have c10b0 : decide (t258 < 0) = false := decide_eq_false c10
                      clear c10
                      by_cases c13 : x4_2 > 4
                      · rw [if_pos c13] at H
                        have c13b0 : decide (4 < x4_2) = true := decide_eq_true c13
                        clear c13
                        obtain rfl := Option.some.inj H
                        obtain ⟨i014, hi014, _, hsz14, _⟩ := info_parts info5
                        obtain ⟨A14, hcut14, hA14, hC14⟩ := print_mid_of (P := Try.prog) (Value.int .u8) 0 22 5 .i64 .i64 Try.underlying22 hi014 hsz14 A0 c0 l0 x3_1 (ji6) (of_decide_eq_true (by first | (with_reducible assumption) | assumption)) (by first | omega | exact of_decide_eq_true (by first | (with_reducible assumption) | assumption)) (of_decide_eq_true (by first | (with_reducible assumption) | assumption)) HC0.out
                        have HR257 := Aside0.mk (Kd.C_of_reads (h1 := fun _ => rfl) (hA14 _ (Kd.reads_of_C HR0.out)))
                        have HC257 := Aside0.mk hC14
                        clear hA14 hC14 hi014 hsz14
                        go_wp2_with (first | (go_at_call 62; refine calls_of_args (args' := #[.slice A14 ((l0.take ((ji6) : Int).toNat).drop (x3_1 : Int).toNat).length (c0 - x3_1.toNat)]) (by first | rfl | (simp only [List.length_take, List.length_drop, Int.toNat_natCast]; done) | (rw [show ((l0.take ((ji6) : Int).toNat).drop (x3_1 : Int).toNat).length = ((ji6).toNat - x3_1.toNat) from (by rw [List.length_drop, List.length_take]; have h_ : ((ji6) : Int) ≤ (l0.length : Int) := of_decide_eq_true (by first | (with_reducible assumption) | assumption); omega)] <;> rfl) | (simp; done)) ?_; (with_reducible refine (batonref08_Whole.calls k2 _ _ ((l0.take ((ji6) : Int).toNat).drop (x3_1 : Int).toNat) t258 _ ?side1 ?side2 A9.out).mono ?_); (case side1 => repeat (first | exact (Kd.C_below HR257.out HB.out) | (with_reducible refine Kd.C_alloc ?_ _) | (with_reducible refine Kd.C_drewN ?_ _) | (with_reducible refine Kd.C_drew ?_))); (case side2 => exact HC257.out); rintro e w15 ⟨rfl, hb⟩; have n0_ := Aside0.mk (below_step (by repeat (first | (with_reducible first | exact HB.out | apply below_alloc | apply pw_below_drewN | apply below_drew1) | exact HB.out)) hb); clear HB; have HB := n0_; clear n0_; (try clear hb); (try clear hb2); (try clear hk); (try clear hi)))
                        go_ret
                        exact ⟨by first | rfl | (simp [errW_none, errW_some] <;> rfl) | (simp only [← hji6]; first | rfl | (simp [errW_none, errW_some] <;> rfl)) | (simp [*, errW_none, errW_some] <;> rfl), by repeat (first | (with_reducible first | exact HB.out | apply below_alloc | apply pw_below_drewN | apply below_drew1) | exact HB.out)⟩
                      · rw [if_neg c13] at H
                        have c13b0 : decide (4 < x4_2) = false := decide_eq_false c13
                        clear c13
                        by_cases c16 : (ji6) > (l0.length : Int)
                        · rw [if_pos c16] at H
                          have c16b0 : decide ((l0.length : Int) < (ji6)) = true := decide_eq_true c16
                          clear c16
                          obtain rfl := Option.some.inj H
                          obtain ⟨i017, hi017, _, hsz17, _⟩ := info_parts info5
                          obtain ⟨A17, hcut17, hA17, hC17⟩ := print_mid_of (P := Try.prog) (Value.int .u8) 0 22 5 .i64 .i64 Try.underlying22 hi017 hsz17 A0 c0 l0 x3_1 (ji6) (of_decide_eq_true (by first | (with_reducible assumption) | assumption)) (by first | omega | exact of_decide_eq_true (by first | (with_reducible assumption) | assumption)) (of_decide_eq_true (by first | (with_reducible assumption) | assumption)) HC0.out
                          have HR257 := Aside0.mk (Kd.C_of_reads (h1 := fun _ => rfl) (hA17 _ (Kd.reads_of_C HR0.out)))
                          have HC257 := Aside0.mk hC17
                          clear hA17 hC17 hi017 hsz17
                          go_wp2_with (first | (go_at_call 62; refine calls_of_args (args' := #[.slice A17 ((l0.take ((ji6) : Int).toNat).drop (x3_1 : Int).toNat).length (c0 - x3_1.toNat)]) (by first | rfl | (simp only [List.length_take, List.length_drop, Int.toNat_natCast]; done) | (rw [show ((l0.take ((ji6) : Int).toNat).drop (x3_1 : Int).toNat).length = ((ji6).toNat - x3_1.toNat) from (by rw [List.length_drop, List.length_take]; have h_ : ((ji6) : Int) ≤ (l0.length : Int) := of_decide_eq_true (by first | (with_reducible assumption) | assumption); omega)] <;> rfl) | (simp; done)) ?_; (with_reducible refine (batonref08_Whole.calls k2 _ _ ((l0.take ((ji6) : Int).toNat).drop (x3_1 : Int).toNat) t258 _ ?side1 ?side2 A9.out).mono ?_); (case side1 => repeat (first | exact (Kd.C_below HR257.out HB.out) | (with_reducible refine Kd.C_alloc ?_ _) | (with_reducible refine Kd.C_drewN ?_ _) | (with_reducible refine Kd.C_drew ?_))); (case side2 => exact HC257.out); rintro e w18 ⟨rfl, hb⟩; have n0_ := Aside0.mk (below_step (by repeat (first | (with_reducible first | exact HB.out | apply below_alloc | apply pw_below_drewN | apply below_drew1) | exact HB.out)) hb); clear HB; have HB := n0_; clear n0_; (try clear hb); (try clear hb2); (try clear hk); (try clear hi)))
                          go_ret
                          exact ⟨by first | rfl | (simp [errW_none, errW_some] <;> rfl) | (simp only [← hji6]; first | rfl | (simp [errW_none, errW_some] <;> rfl)) | (simp [*, errW_none, errW_some] <;> rfl), by repeat (first | (with_reducible first | exact HB.out | apply below_alloc | apply pw_below_drewN | apply below_drew1) | exact HB.out)⟩
                        · rw [if_neg c16] at H
                          have c16b0 : decide ((l0.length : Int) < (ji6)) = false := decide_eq_false c16
                          clear c16
                          have H' := Aside0.mk H
                          clear H
                          obtain ⟨i019, hi019, _, hsz19, _⟩ := info_parts info5
                          obtain ⟨A19, hcut19, hA19, hC19⟩ := print_mid_of (P := Try.prog) (Value.int .u8) 0 22 5 .i64 .i64 Try.underlying22 hi019 hsz19 A0 c0 l0 x3_1 (ji6) (of_decide_eq_true (by first | (with_reducible assumption) | assumption)) (by first | omega | exact of_decide_eq_true (by first | (with_reducible assumption) | assumption)) (of_decide_eq_true (by first | (with_reducible assumption) | assumption)) HC0.out
                          have HR257 := Aside0.mk (Kd.C_of_reads (h1 := fun _ => rfl) (hA19 _ (Kd.reads_of_C HR0.out)))
                          have HC257 := Aside0.mk hC19
                          clear hA19 hC19 hi019 hsz19
                          go_wp2_with (first | (go_at_call 62; refine calls_of_args (args' := #[.slice A19 ((l0.take ((ji6) : Int).toNat).drop (x3_1 : Int).toNat).length (c0 - x3_1.toNat)]) (by first | rfl | (simp only [List.length_take, List.length_drop, Int.toNat_natCast]; done) | (rw [show ((l0.take ((ji6) : Int).toNat).drop (x3_1 : Int).toNat).length = ((ji6).toNat - x3_1.toNat) from (by rw [List.length_drop, List.length_take]; have h_ : ((ji6) : Int) ≤ (l0.length : Int) := of_decide_eq_true (by first | (with_reducible assumption) | assumption); omega)] <;> rfl) | (simp; done)) ?_; (with_reducible refine (batonref08_Whole.calls k2 _ _ ((l0.take ((ji6) : Int).toNat).drop (x3_1 : Int).toNat) t258 _ ?side1 ?side2 A9.out).mono ?_); (case side1 => repeat (first | exact (Kd.C_below HR257.out HB.out) | (with_reducible refine Kd.C_alloc ?_ _) | (with_reducible refine Kd.C_drewN ?_ _) | (with_reducible refine Kd.C_drew ?_))); (case side2 => exact HC257.out); rintro e w20 ⟨rfl, hb⟩; have n0_ := Aside0.mk (below_step (by repeat (first | (with_reducible first | exact HB.out | apply below_alloc | apply pw_below_drewN | apply below_drew1) | exact HB.out)) hb); clear HB; have HB := n0_; clear n0_; (try clear hb); (try clear hb2); (try clear hk); (try clear hi)))
                          go_roundg k2
                          case measure => have := HK1.out; have := HK2.out; omega
                          case rel => exact ⟨(ji6), (by first | rfl | (simp; done) | (simp only [← hji6] <;> (first | rfl | simp)) | (simp [*]; done)), H', ⟨by have := HK1.out; have := HK2.out; omega⟩, ⟨by repeat (first | (with_reducible first | exact HB.out | apply below_alloc | apply pw_below_drewN | apply below_drew1) | exact HB.out)⟩⟩
                  · rw [if_neg c7] at H
                    exact absurd H (by simp)
                · rw [if_neg c5] at H
                  exact absurd H (by simp)
              · rw [if_neg c4] at H
                have c4b0 : decide ((wrap64 (x3_1 + x4_2)) ≤ (l0.length : Int)) = false := decide_eq_false c4
                clear c4
                by_cases c21 : x4_2 > 4
                · rw [if_pos c21] at H
                  have c21b0 : decide (4 < x4_2) = true := decide_eq_true c21
                  clear c21
                  obtain rfl := Option.some.inj H
                  go_wp2
                  go_ret
                  exact ⟨by first | rfl | (simp [errW_none, errW_some] <;> rfl) | (simp [*, errW_none, errW_some] <;> rfl), by repeat (first | (with_reducible first | exact HB.out | apply below_alloc | apply pw_below_drewN | apply below_drew1) | exact HB.out)⟩
                · rw [if_neg c21] at H
                  have c21b0 : decide (4 < x4_2) = false := decide_eq_false c21
                  clear c21
                  by_cases c22 : (wrap64 (x3_1 + x4_2)) > (l0.length : Int)
                  · rw [if_pos c22] at H
                    have c22b0 : decide ((l0.length : Int) < (wrap64 (x3_1 + x4_2))) = true := decide_eq_true c22
                    clear c22
                    obtain rfl := Option.some.inj H
                    go_wp2
                    go_ret
                    exact ⟨by first | rfl | (simp [errW_none, errW_some] <;> rfl) | (simp [*, errW_none, errW_some] <;> rfl), by repeat (first | (with_reducible first | exact HB.out | apply below_alloc | apply pw_below_drewN | apply below_drew1) | exact HB.out)⟩
                  · rw [if_neg c22] at H
                    have c22b0 : decide ((l0.length : Int) < (wrap64 (x3_1 + x4_2))) = false := decide_eq_false c22
                    clear c22
                    have H' := Aside0.mk H
                    clear H
                    go_wp2
                    go_roundg k2
                    case measure => have := HK1.out; have := HK2.out; omega
                    case rel => exact ⟨(wrap64 (x3_1 + x4_2)), (by first | rfl | (simp; done) | (simp [*]; done)), H', ⟨by have := HK1.out; have := HK2.out; omega⟩, ⟨by repeat (first | (with_reducible first | exact HB.out | apply below_alloc | apply pw_below_drewN | apply below_drew1) | exact HB.out)⟩⟩
            · rw [if_neg c3] at H
              have c3b0 : decide (x4_2 ≤ 4) = false := decide_eq_false c3
              clear c3
              by_cases c23 : x4_2 > 4
              · rw [if_pos c23] at H
                have c23b0 : decide (4 < x4_2) = true := decide_eq_true c23
                clear c23
                obtain rfl := Option.some.inj H
                go_wp2
                go_ret
                exact ⟨by first | rfl | (simp [errW_none, errW_some] <;> rfl) | (simp [*, errW_none, errW_some] <;> rfl), by repeat (first | (with_reducible first | exact HB.out | apply below_alloc | apply pw_below_drewN | apply below_drew1) | exact HB.out)⟩
              · rw [if_neg c23] at H
                have c23b0 : decide (4 < x4_2) = false := decide_eq_false c23
                clear c23
                by_cases c24 : (wrap64 (x3_1 + x4_2)) > (l0.length : Int)
                · rw [if_pos c24] at H
                  have c24b0 : decide ((l0.length : Int) < (wrap64 (x3_1 + x4_2))) = true := decide_eq_true c24
                  clear c24
                  obtain rfl := Option.some.inj H
                  go_wp2
                  go_ret
                  exact ⟨by first | rfl | (simp [errW_none, errW_some] <;> rfl) | (simp [*, errW_none, errW_some] <;> rfl), by repeat (first | (with_reducible first | exact HB.out | apply below_alloc | apply pw_below_drewN | apply below_drew1) | exact HB.out)⟩
                · rw [if_neg c24] at H
                  have c24b0 : decide ((l0.length : Int) < (wrap64 (x3_1 + x4_2))) = false := decide_eq_false c24
                  clear c24
                  have H' := Aside0.mk H
                  clear H
                  go_wp2
                  go_roundg k2
                  case measure => have := HK1.out; have := HK2.out; omega
                  case rel => exact ⟨(wrap64 (x3_1 + x4_2)), (by first | rfl | (simp; done) | (simp [*]; done)), H', ⟨by have := HK1.out; have := HK2.out; omega⟩, ⟨by repeat (first | (with_reducible first | exact HB.out | apply below_alloc | apply pw_below_drewN | apply below_drew1) | exact HB.out)⟩⟩
      · rw [if_neg c2] at H
        have c2b0 : decide (x3_1 < (l0.length : Int)) = false := decide_eq_false c2
        clear c2
        obtain rfl := Option.some.inj H
        go_wp2
        go_ret
        exact ⟨by first | rfl | (simp [errW_none, errW_some] <;> rfl) | (simp [*, errW_none, errW_some] <;> rfl), by repeat (first | (with_reducible first | exact HB.out | apply below_alloc | apply pw_below_drewN | apply below_drew1) | exact HB.out)⟩

/-! ### runes_Bytes: function 19 (by hand) -/
def enc8 (c : Int) : List Int := (Utf8.encode c).data.toList.map (fun b => (b.toNat : Int))
def runes_Bytes.f (a0 : Int) : Option (List Int) := some (enc8 (if a0 < 0 ∨ a0 > 1114111 ∨ (a0 ≥ 55296 ∧ a0 ≤ 57343) then 65533 else a0))
/-- A text turned into bytes: a new row that is only read from there on. -/
theorem bytes_V (w : World) (e : TypeId) (s : ByteArray) (hm : s.size ≤ 9223372036854775807) : Kd.V (Kd.int .u8) e (Lib.bytesWorld w e s) w.heap.size (fun k_ => (w.heap.size ≤ k_)) (.slice (some ⟨w.heap.size, 0, none⟩) s.size (grownCap w s.size 0 e)) (s.data.toList.map (fun b => (b.toNat : Int))) := by
  have hl : (s.data.toList.map (fun b => (b.toNat : Int))).length = s.size := by simp
  refine ⟨some ⟨w.heap.size, 0, none⟩, grownCap w s.size 0 e, by rw [hl], by rw [hl]; exact grownCap_ge _ _ _ _, fun W' hW => ?_⟩
  have hb : W'.heap[w.heap.size]? = (Lib.bytesWorld w e s).heap[w.heap.size]? := hW w.heap.size (Nat.le_refl _) (by rw [Lib.bytesWorld_size]; omega)
  rw [hl]
  refine ⟨hl, hm, fun _ => ⟨_, rfl, fun j p hj => ⟨[.int .u8 p], rfl, rfl, fun i u hi => ?_⟩⟩⟩
  have hi0 : i = 0 := by
    have := (List.getElem?_eq_some_iff.1 hi).1
    simp at this
    omega
  subst hi0
  have hu : Value.int .u8 p = u := by simpa using hi
  subst hu
  have hjl : j < s.size := by
    have := (List.getElem?_eq_some_iff.1 hj).1
    rwa [hl] at this
  have hp : ((s.data.toList.getD j 0).toNat : Int) = p := by
    rw [List.getElem?_map] at hj
    have hjd : j < s.data.toList.length := by simpa using hjl
    rw [List.getElem?_eq_getElem hjd] at hj
    rw [List.getD_eq_getElem?_getD, List.getElem?_eq_getElem hjd]
    simpa using hj
  have h1 : (Addr.mk w.heap.size 0 none).add (j * (Kd.int .u8).sz + 0) = ⟨w.heap.size, j, none⟩ := by rw [add_plain]; show (⟨_, j * 1 + 0, none⟩ : Addr) = _; rw [Nat.mul_one, Nat.add_zero]
  rw [h1, ← hp, ← Lib.bytesWorld_cell w e s j hjl]
  simp only [World.cell?]
  rw [hb]
theorem enc8_size (c : Int) : (Utf8.encode c).size ≤ 4 := by
  unfold Utf8.encode
  generalize (if Utf8.valid c = true then c.toNat else Utf8.runeError) = n
  dsimp only
  split
  · show 1 ≤ 4; omega
  · split
    · show 2 ≤ 4; omega
    · split
      · show 3 ≤ 4; omega
      · show 4 ≤ 4; omega
set_option maxHeartbeats 8000000 in
set_option maxRecDepth 100000 in
theorem runes_Bytes.calls (a0 : Int) (r : List Int) (w : World) (h : runes_Bytes.f a0 = some r) :
    Calls Try.prog 19 #[.int .i32 a0] w fun e w' => ∃ v0_ : Value, e = .returned (v0_) ∧ Kd.V (Kd.int .u8) 5 w' w.heap.size (fun k_ => (w.heap.size ≤ k_)) v0_ r ∧ Below w.heap.size w w' := by
  obtain rfl := Option.some.inj h
  clear h
  have kc := fun (W : World) (s : ByteArray) => Lib.run_convert_string_bytes (P := Try.prog) W 9 22 5 s Try.underlying9 Try.underlying22 Try.underlying5
  have hV := fun c : Int => bytes_V w 5 (Utf8.encode c) (Nat.le_trans (enc8_size c) (by decide))
  have hV2 := Aside0.mk hV
  clear hV
  have hB := Aside0.mk (fun c : Int => (⟨rfl, rfl, rfl, by rw [Lib.bytesWorld_size]; omega, fun k hk => Lib.bytesWorld_at_old w 5 (Utf8.encode c) k hk⟩ : Below w.heap.size w (Lib.bytesWorld w 5 (Utf8.encode c))))
  have ks := fun (W : World) (c : Int) => run_convert_int_string (P := Try.prog) W 21 9 .i32 c (by rw [Try.underlying21]; rfl) Try.underlying9
  by_cases c1 : a0 < 0
  · rw [if_pos (.inl c1)]
    have b1 : decide (a0 < 0) = true := decide_eq_true c1
    clear c1
    go_enter Try.func19, Try.ntmps19
    go_wp2
    go_ret
    exact ⟨_, rfl, hV2.out 65533, hB.out 65533⟩
  · by_cases c2 : a0 > 1114111
    · rw [if_pos (.inr (.inl c2))]
      have b1 : decide (a0 < 0) = false := decide_eq_false c1
      have b2 : decide (1114111 < a0) = true := decide_eq_true c2
      clear c1 c2
      go_enter Try.func19, Try.ntmps19
      go_wp2
      go_ret
      exact ⟨_, rfl, hV2.out 65533, hB.out 65533⟩
    · by_cases c3 : a0 ≥ 55296
      · by_cases c4 : a0 ≤ 57343
        · rw [if_pos (.inr (.inr ⟨c3, c4⟩))]
          have b1 : decide (a0 < 0) = false := decide_eq_false c1
          have b2 : decide (1114111 < a0) = false := decide_eq_false c2
          have b3 : decide (55296 ≤ a0) = true := decide_eq_true c3
          have b4 : decide (a0 ≤ 57343) = true := decide_eq_true c4
          clear c1 c2 c3 c4
          go_enter Try.func19, Try.ntmps19
          go_wp2
          go_ret
          exact ⟨_, rfl, hV2.out 65533, hB.out 65533⟩
        · rw [if_neg (by omega)]
          have b1 : decide (a0 < 0) = false := decide_eq_false c1
          have b2 : decide (1114111 < a0) = false := decide_eq_false c2
          have b3 : decide (55296 ≤ a0) = true := decide_eq_true c3
          have b4 : decide (a0 ≤ 57343) = false := decide_eq_false c4
          clear c1 c2 c3 c4
          go_enter Try.func19, Try.ntmps19
          go_wp2
          go_ret
          exact ⟨_, rfl, hV2.out a0, hB.out a0⟩
      · rw [if_neg (by omega)]
        have b1 : decide (a0 < 0) = false := decide_eq_false c1
        have b2 : decide (1114111 < a0) = false := decide_eq_false c2
        have b3 : decide (55296 ≤ a0) = false := decide_eq_false c3
        clear c1 c2 c3
        go_enter Try.func19, Try.ntmps19
        go_wp2
        go_ret
        exact ⟨_, rfl, hV2.out a0, hB.out a0⟩

/-! ### runes_broken: function 65 -/
def runes_broken.f (a0 : ByteArray) : Option (Bool) := if (a0.size : Int) ≥ 3 then (if 0 ≤ 3 then (if 3 ≤ (a0.size : Int) then (some ((a0.extract 0 3).toList == ([239, 191, 189] : List UInt8))) else (none)) else (none)) else (some false)
set_option maxHeartbeats 8000000 in
set_option maxRecDepth 100000 in
theorem runes_broken.calls (a0 : ByteArray) (r : Bool) (w : World) (h : runes_broken.f a0 = some r) :
    Calls Try.prog 65 #[.string a0] w fun e w' => e = .returned (.bool r) ∧ Drawn0 w w' := by
  have H : (if (a0.size : Int) ≥ 3 then (if 0 ≤ 3 then (if 3 ≤ (a0.size : Int) then (some ((a0.extract 0 3).toList == ([239, 191, 189] : List UInt8))) else (none)) else (none)) else (some false)) = some r := h
  clear h
  by_cases c2 : (a0.size : Int) ≥ 3
  · rw [if_pos c2] at H
    have c2b0 : decide (3 ≤ (a0.size : Int)) = true := decide_eq_true c2
    have c2b1 : decide (3 ≤ a0.size) = true := decide_eq_true (by omega)
    clear c2
    by_cases c3 : 0 ≤ 3
    · rw [if_pos c3] at H
      have c3b0 := eq_true c3
      have c3b1 : decide (0 ≤ 3) = true := decide_eq_true c3
      clear c3
      by_cases c4 : 3 ≤ (a0.size : Int)
      · rw [if_pos c4] at H
        have c4b0 := eq_true c4
        have c4b1 : decide (3 ≤ (a0.size : Int)) = true := decide_eq_true c4
        clear c4
        obtain rfl := Option.some.inj H
        go_enter Try.func65, Try.ntmps65
        go_wp2
        go_ret
        exact ⟨by first | rfl | (simp; done) | (simp [*]; done), by repeat (first | exact Drawn0.refl _ | apply Drawn0.step)⟩
      · rw [if_neg c4] at H
        exact absurd H (by simp)
    · rw [if_neg c3] at H
      exact absurd H (by simp)
  · rw [if_neg c2] at H
    have c2b0 : decide (3 ≤ (a0.size : Int)) = false := decide_eq_false c2
    have c2b1 : decide (3 ≤ a0.size) = false := decide_eq_false (by omega)
    clear c2
    obtain rfl := Option.some.inj H
    go_enter Try.func65, Try.ntmps65
    go_wp2
    go_ret
    exact ⟨by first | rfl | (simp; done) | (simp [*]; done), by repeat (first | exact Drawn0.refl _ | apply Drawn0.step)⟩

-- NOT PRINTED: function 28 (runes_Valid)

-- NOT PRINTED: function 26 (runes_Runes)

-- NOT PRINTED: function 27 (runes_Count)

/-! ### runes_Text: function 29 -/
def runes_Text.l0 : Nat → List Int → List Int → Int → Int → Option (ByteArray)
  | 0, _, _, _, _ => none
  | k + 1, x3, x6, x7, x8 => if x8 < x7 then (if 0 ≤ x8 then (if x8 < (x6.length : Int) then ((runes_Bytes.f (rd x6 x8)).bind fun t260 => (if x3.length + t260.length < 140737488355328 then (runes_Text.l0 k (x3 ++ t260) x6 x7 (wrap64 (x8 + 1))) else (none))) else (none)) else (none)) else (some (strOfNums x3))
def runes_Text.f (k : Nat) (l0 : List Int) : Option (ByteArray) := runes_Text.l0 k ([] : List Int) l0 (l0.length : Int) 0
theorem runes_Text.mono_l : ∀ k, (∀ y0 y1 y2 y3, LeO (runes_Text.l0 k y0 y1 y2 y3) (runes_Text.l0 (k + 1) y0 y1 y2 y3))
  | 0 => fun _ _ _ _ r h => by simp [runes_Text.l0] at h
  | k + 1 => by
    have ih0 := runes_Text.mono_l k
    · intro y0 y1 y2 y3
      unfold runes_Text.l0
      repeat' first
      | (with_reducible exact ih0 _ _ _ _)
      | (with_reducible exact LeO.refl _)
      | (with_reducible exact LeO.none _)
      | (with_reducible refine LeO.ite ?_ ?_)
      | (with_reducible refine LeO.bind ?_ (fun _ => ?_))
      | exact ih0 _ _ _ _
      | exact LeO.none _
      | refine LeO.ite ?_ ?_
      | refine LeO.bind ?_ (fun _ => ?_)
theorem runes_Text.mono : ∀ a0 k, LeO (runes_Text.f k a0) (runes_Text.f (k + 1) a0) := by
  intro a0 k
  have ih0 := runes_Text.mono_l k
  unfold runes_Text.f
  repeat' first
      | (with_reducible exact ih0 _ _ _ _)
      | (with_reducible exact LeO.refl _)
      | (with_reducible exact LeO.none _)
      | (with_reducible refine LeO.ite ?_ ?_)
      | (with_reducible refine LeO.bind ?_ (fun _ => ?_))
      | exact ih0 _ _ _ _
      | exact LeO.none _
      | refine LeO.ite ?_ ?_
      | refine LeO.bind ?_ (fun _ => ?_)
set_option maxHeartbeats 8000000 in
set_option maxRecDepth 100000 in
theorem runes_Text.calls (k : Nat) (A0 : Option Addr) (c0 : Nat) (l0 : List Int) (r : ByteArray) (w : World) (hr0 : Kd.C (Kd.int .i32) w A0 l0.length l0) (hc0 : l0.length ≤ c0) (h : runes_Text.f k l0 = some r) :
    Calls Try.prog 29 #[.slice A0 l0.length c0] w fun e w' => e = .returned (.string r) ∧ Below w.heap.size w w' := by
  have HR0 := Aside0.mk hr0
  have HC0 := Aside0.mk hc0
  clear hr0 hc0
  have HB := Aside0.mk (Below.refl w.heap.size w)
  have H : (runes_Text.l0 k ([] : List Int) l0 (l0.length : Int) 0) = some r := h
  clear h
  have H' := Aside0.mk H
  clear H
  go_enter Try.func29, Try.ntmps29
  go_wp2
  go_loopg [3, 8] k (fun kq v3 v8 w' => ∃ (x3_1 : List Int) (x8_1 : Int), v8 = .int .i64 x8_1 ∧ Aside0 (runes_Text.l0 kq x3_1 l0 (l0.length : Int) x8_1 = some r) ∧ Aside0 (kq ≤ k) ∧ Aside0 (Kd.R (Kd.int .u8) 5 w' w.heap.size (fun _ => True) v3 x3_1) ∧ Aside0 (Below w.heap.size w w'))
  case atStart => exact ⟨(([] : List Int)), (0), (by first | rfl | (simp; done) | (simp [*]; done)), H', ⟨Nat.le_refl _⟩, ⟨by first | exact Kd.R_nil _ _ _ _ _ | exact Kd.N_nil _ _ _ _ _ | exact Kd.V_nil _ _ _ _ _ | exact Kd.Q_nil _ _ _ _ _ | exact Kd.S_nil _ _ _ _ _⟩, ⟨by repeat (first | (with_reducible first | exact HB.out | apply below_alloc | apply pw_below_drewN | apply below_drew1) | exact HB.out)⟩⟩
  case round =>
    clear H'
    obtain ⟨x3_1, x8_1, rfl, HA, HK1, HO_3, HB⟩ := hrel
    cases gk with
    | zero => exact absurd HA.out (by simp [runes_Text.l0])
    | succ k1 =>
      have H := HA.out
      clear HA
      simp only [runes_Text.l0] at H
      by_cases c2 : x8_1 < (l0.length : Int)
      · rw [if_pos c2] at H
        have c2b0 : decide (x8_1 < (l0.length : Int)) = true := decide_eq_true c2
        clear c2
        by_cases c3 : 0 ≤ x8_1
        · rw [if_pos c3] at H
          have c3b0 : decide (0 ≤ x8_1) = true := decide_eq_true c3
          clear c3
          by_cases c4 : x8_1 < (l0.length : Int)
          · rw [if_pos c4] at H
            have c4b0 : decide (x8_1 < (l0.length : Int)) = true := decide_eq_true c4
            clear c4
            replace H := Option.bind_eq_some_iff.mp H
            obtain ⟨t260, A50, H⟩ := H
            replace H : (if x3_1.length + t260.length < 140737488355328 then (runes_Text.l0 k1 (x3_1 ++ t260) l0 (l0.length : Int) (wrap64 (x8_1 + 1))) else (none)) = some r := H
            have A5 := Aside0.mk A50
            clear A50
            by_cases c6 : x3_1.length + t260.length < 140737488355328
            · rw [if_pos c6] at H
              have LMc6 := Aside0.mk c6
              clear c6
              obtain ⟨y263, hy263⟩ : ∃ y_ : List Int, y_ = (x3_1 ++ t260) := ⟨_, rfl⟩
              replace H : (runes_Text.l0 k1 y263 l0 (l0.length : Int) (wrap64 (x8_1 + 1))) = some r := by first | (rw [hy263]; with_reducible exact H) | (have H2_ := (Option.bind_some _ _).symm.trans H; rw [hy263]; with_reducible exact H2_) | (have H2_ := (Option.bind_some _ _).symm.trans H; with_reducible exact H2_) | with_reducible exact H | (rw [hy263]; exact H) | exact H
              have Ny263 := Aside0.mk hy263
              clear hy263
              have H' := Aside0.mk H
              clear H
              have p259 : 0 ≤ (x8_1 : Int) := of_decide_eq_true (by first | (with_reducible assumption) | assumption)
              have q259 : x8_1 < (l0.length : Int) := of_decide_eq_true (by first | (with_reducible assumption) | assumption)
              obtain ⟨ad259, e259, hx259_0⟩ := Kd.at_int HR0.out x8_1 p259 q259
              cases e259
              replace hx259_0 := (HB.out.cell (World.block_lt_of_cell? w _ hx259_0)).trans hx259_0
              replace p259 := eq_true p259
              replace q259 := eq_true q259
              go_wp2_with (first | ((with_reducible refine gate_callee (f := 19) rfl ?_); refine goesL_ (some 14) rfl rfl Try.func19 (by kernel_rfl) rfl #[.int .i32 (rd l0 x8_1)] rfl (by (try simp only [List.map_toArray, List.map_cons, List.map_nil]); first | done | rfl | (simp only [List.length_drop, List.length_take]; rfl)) ?_; (with_reducible refine (runes_Bytes.calls (rd l0 x8_1) t260 _ A5.out).mono ?_); rintro e w7 ⟨v261, rfl, ho0, hb⟩; refine ⟨_, rfl, ?_⟩; have n0_ := Aside0.mk (Kd.R_below (by (with_reducible repeat (first | apply Kd.R_alloc | apply Kd.R_drewN | apply Kd.R_drew)); exact HO_3.out) hb); have n1_ := Aside0.mk (Kd.V_lower (Kd.V_mono (ok' := fun k_ => some k_ ≠ (u3 : Value).ownBlock) ho0 (fun k_ hk_ => (Kd.fresh' (Kd.R_lt (by (with_reducible repeat (first | apply Kd.R_alloc | apply Kd.R_drewN | apply Kd.R_drew)); exact HO_3.out)) k_ hk_))) (below_size (by repeat (first | (with_reducible first | exact HB.out | apply below_alloc | apply pw_below_drewN | apply below_drew1) | exact HB.out)))); have n2_ := Aside0.mk (below_step (by repeat (first | (with_reducible first | exact HB.out | apply below_alloc | apply pw_below_drewN | apply below_drew1) | exact HB.out)) hb); clear HO_3; clear HB; have HO_3 := n0_; have HO262 := n1_; have HB := n2_; clear n0_ n1_ n2_; (try clear hb); (try clear hb2); (try clear hk); (try clear hi); (try clear ho0); obtain ⟨Ao9, co9, eo9⟩ := Kd.V_slice HO262.out; subst eo9) | ((with_reducible refine gate_builtin (b := .append) (xs := #[.tmp 12, .tmp 14]) rfl ?_); at_builtin; refine Kd.R_append_rows (Kd.int .u8) (w0 := w) w.heap.size rfl (.tmp 12) (.tmp 14) 22 5 (.int .u8 0) 1 rfl Try.underlying22 info5 rfl (by decide) (by omega) u3 x3_1 t260 _ _ _ (fun _ => True) (fun _ => False) rfl rfl ?aO ?aR (fun _ _ h => h) (fun _ h => h.elim) ?aF ?aB ?aS ?aL ?_; (case aR => repeat (first | exact (Kd.V_reads' HO262.out).2.2 | (with_reducible refine Kd.C_alloc ?_ _) | (with_reducible refine Kd.C_drewN ?_ _) | (with_reducible refine Kd.C_drew ?_))); (case aB => exact (by repeat (first | (with_reducible first | exact HB.out | apply below_alloc | apply pw_below_drewN | apply below_drew1) | exact HB.out))); (case aF => exact (fun _ _ => trivial)); (case aO => exact (by (with_reducible repeat (first | apply Kd.R_alloc | apply Kd.R_drewN | apply Kd.R_drew)); exact HO_3.out)); (case aS => exact (below_size (by repeat (first | (with_reducible first | exact HB.out | apply below_alloc | apply pw_below_drewN | apply below_drew1) | exact HB.out)))); (case aL => have := LMc6.out; omega); intro v264 w8 ho hb hg hat; rw [← Ny263.out] at ho; have n0_ := Aside0.mk (Kd.V_afterv (ok := (fun _ => True)) (by (with_reducible repeat (first | apply Kd.V_alloc | apply Kd.V_drewN | apply Kd.V_drew)); exact Kd.V_mono HO262.out (fun _ hk => ⟨trivial, hk⟩)) hg hat); have n1_ := Aside0.mk (hb); have n2_ := Aside0.mk (ho); clear HO262; clear HB; clear HO_3; have HO262 := n0_; have HB := n1_; have HO265 := n2_; clear n0_ n1_ n2_; clear ho hb hg hat))
              go_roundg k1
              case measure => have := HK1.out; omega
              case rel => exact ⟨(y263), (wrap64 (x8_1 + 1)), (by first | rfl | (simp; done) | (simp [*]; done)), H', ⟨by have := HK1.out; omega⟩, ⟨by (with_reducible repeat (first | apply Kd.R_alloc | apply Kd.R_drewN | apply Kd.R_drew)); exact HO265.out⟩, ⟨by repeat (first | (with_reducible first | exact HB.out | apply below_alloc | apply pw_below_drewN | apply below_drew1) | exact HB.out)⟩⟩
            · rw [if_neg c6] at H
              exact absurd H (by simp)
          · rw [if_neg c4] at H
            exact absurd H (by simp)
        · rw [if_neg c3] at H
          exact absurd H (by simp)
      · rw [if_neg c2] at H
        have c2b0 : decide (x8_1 < (l0.length : Int)) = false := decide_eq_false c2
        clear c2
        obtain rfl := Option.some.inj H
        have hcv10 := own_string (P := Try.prog) Try.underlying22 Try.underlying5 Try.underlying9 (Kd.own_of_R HO_3.out)
        go_wp2
        go_ret
        exact ⟨by first | rfl | (simp [errW_none, errW_some] <;> rfl) | (simp [*, errW_none, errW_some] <;> rfl), by repeat (first | (with_reducible first | exact HB.out | apply below_alloc | apply pw_below_drewN | apply below_drew1) | exact HB.out)⟩

-- NOT PRINTED: function 5 (batonlaw08_RunesTexts)

-- NOT PRINTED: function 6 (batonlaw08_RunesPieces)

end Go.Proofs.Ytkckojgjkmcokaa.PF08T
