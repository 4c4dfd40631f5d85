/- By a program of this session (wip/tool/pp.py): plain Lean functions of the Go functions that this family of laws uses, the walks that the Go code comes to their answers, and the row of the law. No condition beside those that the row itself gives. -/
import Derived.Test.YthcpfkkddfgamaaPF39x0
namespace Go.Proofs.Ythcpfkkddfgamaa.PF39
open Go.RowKit Go.Proofs.YthcpfkkddfgamaaW.Hand Go.Proofs.YthcpfkkddfgamaaW.PrintWords Go.Proofs.YthcpfkkddfgamaaW.PrintLast Go.Proofs.YthcpfkkddfgamaaW.PrintMore
attribute [local go_sem] max2_int min2_int max_two min_two max_three min_three max_four min_four   -- for this text's walks alone
set_option linter.unusedVariables false
set_option linter.unusedSimpArgs false

/-! ### batonref39_Same: function 29 -/
def batonref39_Same.l0 : Nat → List (S108) → List (S108) → Int → Option (Bool)
  | 0, _, _, _ => none
  | k + 1, x0, x1, x5 => if x5 < (x0.length : Int) then (if 0 ≤ x5 then (if x5 < (x1.length : Int) then (if ((rd_T108 x0 x5).f0) = ((rd_T108 x1 x5).f0) then (if ((rd_T108 x0 x5).f1) = ((rd_T108 x1 x5).f1) then (if ((rd_T108 x0 x5).f2) = ((rd_T108 x1 x5).f2) then (if (strOfNums ((rd_T108 x0 x5).f3)).toList = (strOfNums ((rd_T108 x1 x5).f3)).toList then (batonref39_Same.l0 k x0 x1 (wrap64 (x5 + 1))) else (some false)) else (some false)) else (some false)) else (some false)) else (none)) else (none)) else (some true)
def batonref39_Same.f (k : Nat) (l0 : List (S108)) (l1 : List (S108)) : Option (Bool) := if (l0.length : Int) = (l1.length : Int) then (batonref39_Same.l0 k l0 l1 0) else (some false)
theorem batonref39_Same.mono_l : ∀ k, (∀ y0 y1 y2, LeO (batonref39_Same.l0 k y0 y1 y2) (batonref39_Same.l0 (k + 1) y0 y1 y2))
  | 0 => fun _ _ _ r h => by simp [batonref39_Same.l0] at h
  | k + 1 => by
    have ih0 := batonref39_Same.mono_l k
    · intro y0 y1 y2
      unfold batonref39_Same.l0
      repeat' first
      | (with_reducible exact ih0 _ _ _)
      | (with_reducible exact LeO.refl _)
      | (with_reducible exact LeO.none _)
      | (with_reducible refine LeO.ite ?_ ?_)
      | (with_reducible refine LeO.bind ?_ (fun _ => ?_))
      | exact ih0 _ _ _
      | exact LeO.none _
      | refine LeO.ite ?_ ?_
      | refine LeO.bind ?_ (fun _ => ?_)
theorem batonref39_Same.mono : ∀ a0 a1 k, LeO (batonref39_Same.f k a0 a1) (batonref39_Same.f (k + 1) a0 a1) := by
  intro a0 a1 k
  have ih0 := batonref39_Same.mono_l k
  unfold batonref39_Same.f
  repeat' first
      | (with_reducible exact ih0 _ _ _)
      | (with_reducible exact LeO.refl _)
      | (with_reducible exact LeO.none _)
      | (with_reducible refine LeO.ite ?_ ?_)
      | (with_reducible refine LeO.bind ?_ (fun _ => ?_))
      | exact ih0 _ _ _
      | exact LeO.none _
      | refine LeO.ite ?_ ?_
      | refine LeO.bind ?_ (fun _ => ?_)
set_option maxHeartbeats 8000000 in
set_option maxRecDepth 100000 in
theorem batonref39_Same.calls (k : Nat) (A0 : Option Addr) (c0 : Nat) (l0 : List (S108)) (A1 : Option Addr) (c1 : Nat) (l1 : List (S108)) (r : Bool) (w : World) (hr0 : Kd.C k108 w A0 l0.length l0) (hc0 : l0.length ≤ c0) (hr1 : Kd.C k108 w A1 l1.length l1) (hc1 : l1.length ≤ c1) (h : batonref39_Same.f k l0 l1 = some r) :
    Calls Try.prog 29 #[.slice A0 l0.length c0, .slice A1 l1.length c1] w fun e w' => e = .returned (.bool r) ∧ Drawn0 w w' := by
  have HR0 := Aside0.mk hr0
  have HC0 := Aside0.mk hc0
  clear hr0 hc0
  have HR1 := Aside0.mk hr1
  have HC1 := Aside0.mk hc1
  clear hr1 hc1
  have H : (if (l0.length : Int) = (l1.length : Int) then (batonref39_Same.l0 k l0 l1 0) else (some false)) = some r := h
  clear h
  by_cases c3 : (l0.length : Int) = (l1.length : Int)
  · rw [if_pos c3] at H
    have c3b0 : ((l0.length : Int) == (l1.length : Int)) = true := beq_iff_eq.mpr c3
    have c3b1 : ((l0.length : Int) != (l1.length : Int)) = false := bne_eq_false_iff_eq.mpr c3
    have c3b2 : (l0.length == l1.length) = true := by first | simpa using c3 | (simp at c3 ⊢; omega)
    clear c3
    have H' := Aside0.mk H
    clear H
    go_enter Try.func29, Try.ntmps29
    go_wp2
    repeat (go_quiet (fail); try go_wp2)
    go_loopg [5] k (fun kq v5 w' => ∃ (x5_1 : Int), v5 = .int .i64 x5_1 ∧ Aside0 (batonref39_Same.l0 kq l0 l1 x5_1 = some r) ∧ Aside0 (kq ≤ k) ∧ Drawn0 w w')
    case atStart => exact ⟨(0), (by first | rfl | (simp; done) | (simp [*]; done)), H', ⟨Nat.le_refl _⟩, by repeat (first | exact Drawn0.refl _ | apply Drawn0.step)⟩
    case round =>
      clear H'
      try clear c1
      try clear c2
      try clear p2
      try clear c3
      try clear c3b0
      try clear c3b1
      try clear c3b2
      obtain ⟨x5_1, rfl, HA, HK1, ⟨m1, rfl⟩⟩ := hrel
      cases gk with
      | zero => exact absurd HA.out (by simp [batonref39_Same.l0])
      | succ k1 =>
        have H := HA.out
        clear HA
        simp only [batonref39_Same.l0] at H
        by_cases c4 : x5_1 < (l0.length : Int)
        · rw [if_pos c4] at H
          have c4b0 : decide (x5_1 < (l0.length : Int)) = true := decide_eq_true c4
          clear c4
          by_cases c5 : 0 ≤ x5_1
          · rw [if_pos c5] at H
            have c5b0 : decide (0 ≤ x5_1) = true := decide_eq_true c5
            clear c5
            by_cases c6 : x5_1 < (l1.length : Int)
            · rw [if_pos c6] at H
              have c6b0 : decide (x5_1 < (l1.length : Int)) = true := decide_eq_true c6
              clear c6
              by_cases c7 : ((rd_T108 l0 x5_1).f0) = ((rd_T108 l1 x5_1).f0)
              · rw [if_pos c7] at H
                have c7b0 : (((rd_T108 l0 x5_1).f0) == ((rd_T108 l1 x5_1).f0)) = true := beq_iff_eq.mpr c7
                have c7b1 : (((rd_T108 l0 x5_1).f0) != ((rd_T108 l1 x5_1).f0)) = false := bne_eq_false_iff_eq.mpr c7
                clear c7
                by_cases c8 : ((rd_T108 l0 x5_1).f1) = ((rd_T108 l1 x5_1).f1)
                · rw [if_pos c8] at H
                  have c8b0 : (((rd_T108 l0 x5_1).f1) == ((rd_T108 l1 x5_1).f1)) = true := beq_iff_eq.mpr c8
                  have c8b1 : (((rd_T108 l0 x5_1).f1) != ((rd_T108 l1 x5_1).f1)) = false := bne_eq_false_iff_eq.mpr c8
                  clear c8
                  by_cases c9 : ((rd_T108 l0 x5_1).f2) = ((rd_T108 l1 x5_1).f2)
                  · rw [if_pos c9] at H
                    have c9b0 : (((rd_T108 l0 x5_1).f2) == ((rd_T108 l1 x5_1).f2)) = true := beq_iff_eq.mpr c9
                    have c9b1 : (((rd_T108 l0 x5_1).f2) != ((rd_T108 l1 x5_1).f2)) = false := bne_eq_false_iff_eq.mpr c9
                    clear c9
                    by_cases c10 : (strOfNums ((rd_T108 l0 x5_1).f3)).toList = (strOfNums ((rd_T108 l1 x5_1).f3)).toList
                    · rw [if_pos c10] at H
                      have c10b0 : ((strOfNums ((rd_T108 l0 x5_1).f3)).toList == (strOfNums ((rd_T108 l1 x5_1).f3)).toList) = true := beq_iff_eq.mpr c10
                      have c10b1 : ((strOfNums ((rd_T108 l0 x5_1).f3)).toList != (strOfNums ((rd_T108 l1 x5_1).f3)).toList) = false := bne_eq_false_iff_eq.mpr c10
                      clear c10
                      have H' := Aside0.mk H
                      clear H
                      have p135 : 0 ≤ (x5_1 : Int) := of_decide_eq_true (by first | (with_reducible assumption) | assumption)
                      have q135 : x5_1 < (l0.length : Int) := of_decide_eq_true (by first | (with_reducible assumption) | assumption)
                      obtain ⟨ad135, A135_3, c135_3, e135, hx135_0, hx135_1, hx135_2, hx135_3, hl135_3, hi135_3⟩ := at_T108 HR0.out x5_1 p135 q135
                      cases e135
                      have HR135_3 := Aside0.mk hi135_3
                      have HC135_3 := Aside0.mk hl135_3
                      clear hi135_3 hl135_3
                      replace p135 := eq_true p135
                      replace q135 := eq_true q135
                      have p136 : 0 ≤ (x5_1 : Int) := of_decide_eq_true (by first | (with_reducible assumption) | assumption)
                      have q136 : x5_1 < (l1.length : Int) := of_decide_eq_true (by first | (with_reducible assumption) | assumption)
                      obtain ⟨ad136, A136_3, c136_3, e136, hx136_0, hx136_1, hx136_2, hx136_3, hl136_3, hi136_3⟩ := at_T108 HR1.out x5_1 p136 q136
                      cases e136
                      have HR136_3 := Aside0.mk hi136_3
                      have HC136_3 := Aside0.mk hl136_3
                      clear hi136_3 hl136_3
                      replace p136 := eq_true p136
                      replace q136 := eq_true q136
                      have p137 : 0 ≤ (x5_1 : Int) := of_decide_eq_true (by first | (with_reducible assumption) | assumption)
                      have q137 : x5_1 < (l0.length : Int) := of_decide_eq_true (by first | (with_reducible assumption) | assumption)
                      obtain ⟨ad137, A137_3, c137_3, e137, hx137_0, hx137_1, hx137_2, hx137_3, hl137_3, hi137_3⟩ := at_T108 HR0.out x5_1 p137 q137
                      obtain rfl : ad135 = ad137 := (by injection e137)
                      have HR137_3 := Aside0.mk hi137_3
                      have HC137_3 := Aside0.mk hl137_3
                      clear hi137_3 hl137_3
                      replace p137 := eq_true p137
                      replace q137 := eq_true q137
                      have ea_ := Option.some.inj (hx135_3.symm.trans hx137_3)
                      injection ea_ with ea_ en_ ec_
                      subst ea_
                      subst ec_
                      clear en_
                      have p138 : 0 ≤ (x5_1 : Int) := of_decide_eq_true (by first | (with_reducible assumption) | assumption)
                      have q138 : x5_1 < (l1.length : Int) := of_decide_eq_true (by first | (with_reducible assumption) | assumption)
                      obtain ⟨ad138, A138_3, c138_3, e138, hx138_0, hx138_1, hx138_2, hx138_3, hl138_3, hi138_3⟩ := at_T108 HR1.out x5_1 p138 q138
                      obtain rfl : ad136 = ad138 := (by injection e138)
                      have HR138_3 := Aside0.mk hi138_3
                      have HC138_3 := Aside0.mk hl138_3
                      clear hi138_3 hl138_3
                      replace p138 := eq_true p138
                      replace q138 := eq_true q138
                      have ea_ := Option.some.inj (hx136_3.symm.trans hx138_3)
                      injection ea_ with ea_ en_ ec_
                      subst ea_
                      subst ec_
                      clear en_
                      have p139 : 0 ≤ (x5_1 : Int) := of_decide_eq_true (by first | (with_reducible assumption) | assumption)
                      have q139 : x5_1 < (l0.length : Int) := of_decide_eq_true (by first | (with_reducible assumption) | assumption)
                      obtain ⟨ad139, A139_3, c139_3, e139, hx139_0, hx139_1, hx139_2, hx139_3, hl139_3, hi139_3⟩ := at_T108 HR0.out x5_1 p139 q139
                      obtain rfl : ad135 = ad139 := (by injection e139)
                      have HR139_3 := Aside0.mk hi139_3
                      have HC139_3 := Aside0.mk hl139_3
                      clear hi139_3 hl139_3
                      replace p139 := eq_true p139
                      replace q139 := eq_true q139
                      have ea_ := Option.some.inj (hx135_3.symm.trans hx139_3)
                      injection ea_ with ea_ en_ ec_
                      subst ea_
                      subst ec_
                      clear en_
                      have p140 : 0 ≤ (x5_1 : Int) := of_decide_eq_true (by first | (with_reducible assumption) | assumption)
                      have q140 : x5_1 < (l1.length : Int) := of_decide_eq_true (by first | (with_reducible assumption) | assumption)
                      obtain ⟨ad140, A140_3, c140_3, e140, hx140_0, hx140_1, hx140_2, hx140_3, hl140_3, hi140_3⟩ := at_T108 HR1.out x5_1 p140 q140
                      obtain rfl : ad136 = ad140 := (by injection e140)
                      have HR140_3 := Aside0.mk hi140_3
                      have HC140_3 := Aside0.mk hl140_3
                      clear hi140_3 hl140_3
                      replace p140 := eq_true p140
                      replace q140 := eq_true q140
                      have ea_ := Option.some.inj (hx136_3.symm.trans hx140_3)
                      injection ea_ with ea_ en_ ec_
                      subst ea_
                      subst ec_
                      clear en_
                      have p141 : 0 ≤ (x5_1 : Int) := of_decide_eq_true (by first | (with_reducible assumption) | assumption)
                      have q141 : x5_1 < (l0.length : Int) := of_decide_eq_true (by first | (with_reducible assumption) | assumption)
                      obtain ⟨ad141, A141_3, c141_3, e141, hx141_0, hx141_1, hx141_2, hx141_3, hl141_3, hi141_3⟩ := at_T108 HR0.out x5_1 p141 q141
                      obtain rfl : ad135 = ad141 := (by injection e141)
                      have HR141_3 := Aside0.mk hi141_3
                      have HC141_3 := Aside0.mk hl141_3
                      clear hi141_3 hl141_3
                      replace p141 := eq_true p141
                      replace q141 := eq_true q141
                      have ea_ := Option.some.inj (hx135_3.symm.trans hx141_3)
                      injection ea_ with ea_ en_ ec_
                      subst ea_
                      subst ec_
                      clear en_
                      have hcv11 := Kd.C_string (P := Try.prog) (A := A135_3) (c := c135_3) Try.underlying28 Try.underlying5 Try.underlying9 HR141_3.out
                      have hcw11 := fun n_ : Nat => Kd.C_string (P := Try.prog) (A := A135_3) (c := c135_3) Try.underlying28 Try.underlying5 Try.underlying9 (Kd.C_drewN HR141_3.out n_)
                      have hcx11 := fun m_ n_ : Nat => Kd.C_string (P := Try.prog) (A := A135_3) (c := c135_3) Try.underlying28 Try.underlying5 Try.underlying9 (Kd.C_drewN (Kd.C_drewN HR141_3.out m_) n_)
                      have p142 : 0 ≤ (x5_1 : Int) := of_decide_eq_true (by first | (with_reducible assumption) | assumption)
                      have q142 : x5_1 < (l1.length : Int) := of_decide_eq_true (by first | (with_reducible assumption) | assumption)
                      obtain ⟨ad142, A142_3, c142_3, e142, hx142_0, hx142_1, hx142_2, hx142_3, hl142_3, hi142_3⟩ := at_T108 HR1.out x5_1 p142 q142
                      obtain rfl : ad136 = ad142 := (by injection e142)
                      have HR142_3 := Aside0.mk hi142_3
                      have HC142_3 := Aside0.mk hl142_3
                      clear hi142_3 hl142_3
                      replace p142 := eq_true p142
                      replace q142 := eq_true q142
                      have ea_ := Option.some.inj (hx136_3.symm.trans hx142_3)
                      injection ea_ with ea_ en_ ec_
                      subst ea_
                      subst ec_
                      clear en_
                      have hcv12 := Kd.C_string (P := Try.prog) (A := A136_3) (c := c136_3) Try.underlying28 Try.underlying5 Try.underlying9 HR142_3.out
                      have hcw12 := fun n_ : Nat => Kd.C_string (P := Try.prog) (A := A136_3) (c := c136_3) Try.underlying28 Try.underlying5 Try.underlying9 (Kd.C_drewN HR142_3.out n_)
                      have hcx12 := fun m_ n_ : Nat => Kd.C_string (P := Try.prog) (A := A136_3) (c := c136_3) Try.underlying28 Try.underlying5 Try.underlying9 (Kd.C_drewN (Kd.C_drewN HR142_3.out m_) n_)
                      go_wp2
                      repeat (go_quiet (fail); try go_wp2)
                      go_roundg k1
                      case measure => have := HK1.out; omega
                      case rel => exact ⟨(wrap64 (x5_1 + 1)), (by first | rfl | (simp; done) | (simp [*]; done)), H', ⟨by have := HK1.out; omega⟩, by repeat (first | exact Drawn0.refl _ | apply Drawn0.step)⟩
                    · rw [if_neg c10] at H
                      have c10b0 : ((strOfNums ((rd_T108 l0 x5_1).f3)).toList == (strOfNums ((rd_T108 l1 x5_1).f3)).toList) = false := beq_eq_false_iff_ne.mpr c10
                      have c10b1 : ((strOfNums ((rd_T108 l0 x5_1).f3)).toList != (strOfNums ((rd_T108 l1 x5_1).f3)).toList) = true := bne_iff_ne.mpr c10
                      obtain rfl := Option.some.inj H
                      have p135 : 0 ≤ (x5_1 : Int) := of_decide_eq_true (by first | (with_reducible assumption) | assumption)
                      have q135 : x5_1 < (l0.length : Int) := of_decide_eq_true (by first | (with_reducible assumption) | assumption)
                      obtain ⟨ad135, A135_3, c135_3, e135, hx135_0, hx135_1, hx135_2, hx135_3, hl135_3, hi135_3⟩ := at_T108 HR0.out x5_1 p135 q135
                      cases e135
                      have HR135_3 := Aside0.mk hi135_3
                      have HC135_3 := Aside0.mk hl135_3
                      clear hi135_3 hl135_3
                      replace p135 := eq_true p135
                      replace q135 := eq_true q135
                      have p136 : 0 ≤ (x5_1 : Int) := of_decide_eq_true (by first | (with_reducible assumption) | assumption)
                      have q136 : x5_1 < (l1.length : Int) := of_decide_eq_true (by first | (with_reducible assumption) | assumption)
                      obtain ⟨ad136, A136_3, c136_3, e136, hx136_0, hx136_1, hx136_2, hx136_3, hl136_3, hi136_3⟩ := at_T108 HR1.out x5_1 p136 q136
                      cases e136
                      have HR136_3 := Aside0.mk hi136_3
                      have HC136_3 := Aside0.mk hl136_3
                      clear hi136_3 hl136_3
                      replace p136 := eq_true p136
                      replace q136 := eq_true q136
                      have p137 : 0 ≤ (x5_1 : Int) := of_decide_eq_true (by first | (with_reducible assumption) | assumption)
                      have q137 : x5_1 < (l0.length : Int) := of_decide_eq_true (by first | (with_reducible assumption) | assumption)
                      obtain ⟨ad137, A137_3, c137_3, e137, hx137_0, hx137_1, hx137_2, hx137_3, hl137_3, hi137_3⟩ := at_T108 HR0.out x5_1 p137 q137
                      obtain rfl : ad135 = ad137 := (by injection e137)
                      have HR137_3 := Aside0.mk hi137_3
                      have HC137_3 := Aside0.mk hl137_3
                      clear hi137_3 hl137_3
                      replace p137 := eq_true p137
                      replace q137 := eq_true q137
                      have ea_ := Option.some.inj (hx135_3.symm.trans hx137_3)
                      injection ea_ with ea_ en_ ec_
                      subst ea_
                      subst ec_
                      clear en_
                      have p138 : 0 ≤ (x5_1 : Int) := of_decide_eq_true (by first | (with_reducible assumption) | assumption)
                      have q138 : x5_1 < (l1.length : Int) := of_decide_eq_true (by first | (with_reducible assumption) | assumption)
                      obtain ⟨ad138, A138_3, c138_3, e138, hx138_0, hx138_1, hx138_2, hx138_3, hl138_3, hi138_3⟩ := at_T108 HR1.out x5_1 p138 q138
                      obtain rfl : ad136 = ad138 := (by injection e138)
                      have HR138_3 := Aside0.mk hi138_3
                      have HC138_3 := Aside0.mk hl138_3
                      clear hi138_3 hl138_3
                      replace p138 := eq_true p138
                      replace q138 := eq_true q138
                      have ea_ := Option.some.inj (hx136_3.symm.trans hx138_3)
                      injection ea_ with ea_ en_ ec_
                      subst ea_
                      subst ec_
                      clear en_
                      have p139 : 0 ≤ (x5_1 : Int) := of_decide_eq_true (by first | (with_reducible assumption) | assumption)
                      have q139 : x5_1 < (l0.length : Int) := of_decide_eq_true (by first | (with_reducible assumption) | assumption)
                      obtain ⟨ad139, A139_3, c139_3, e139, hx139_0, hx139_1, hx139_2, hx139_3, hl139_3, hi139_3⟩ := at_T108 HR0.out x5_1 p139 q139
                      obtain rfl : ad135 = ad139 := (by injection e139)
                      have HR139_3 := Aside0.mk hi139_3
                      have HC139_3 := Aside0.mk hl139_3
                      clear hi139_3 hl139_3
                      replace p139 := eq_true p139
                      replace q139 := eq_true q139
                      have ea_ := Option.some.inj (hx135_3.symm.trans hx139_3)
                      injection ea_ with ea_ en_ ec_
                      subst ea_
                      subst ec_
                      clear en_
                      have p140 : 0 ≤ (x5_1 : Int) := of_decide_eq_true (by first | (with_reducible assumption) | assumption)
                      have q140 : x5_1 < (l1.length : Int) := of_decide_eq_true (by first | (with_reducible assumption) | assumption)
                      obtain ⟨ad140, A140_3, c140_3, e140, hx140_0, hx140_1, hx140_2, hx140_3, hl140_3, hi140_3⟩ := at_T108 HR1.out x5_1 p140 q140
                      obtain rfl : ad136 = ad140 := (by injection e140)
                      have HR140_3 := Aside0.mk hi140_3
                      have HC140_3 := Aside0.mk hl140_3
                      clear hi140_3 hl140_3
                      replace p140 := eq_true p140
                      replace q140 := eq_true q140
                      have ea_ := Option.some.inj (hx136_3.symm.trans hx140_3)
                      injection ea_ with ea_ en_ ec_
                      subst ea_
                      subst ec_
                      clear en_
                      have p141 : 0 ≤ (x5_1 : Int) := of_decide_eq_true (by first | (with_reducible assumption) | assumption)
                      have q141 : x5_1 < (l0.length : Int) := of_decide_eq_true (by first | (with_reducible assumption) | assumption)
                      obtain ⟨ad141, A141_3, c141_3, e141, hx141_0, hx141_1, hx141_2, hx141_3, hl141_3, hi141_3⟩ := at_T108 HR0.out x5_1 p141 q141
                      obtain rfl : ad135 = ad141 := (by injection e141)
                      have HR141_3 := Aside0.mk hi141_3
                      have HC141_3 := Aside0.mk hl141_3
                      clear hi141_3 hl141_3
                      replace p141 := eq_true p141
                      replace q141 := eq_true q141
                      have ea_ := Option.some.inj (hx135_3.symm.trans hx141_3)
                      injection ea_ with ea_ en_ ec_
                      subst ea_
                      subst ec_
                      clear en_
                      have hcv13 := Kd.C_string (P := Try.prog) (A := A135_3) (c := c135_3) Try.underlying28 Try.underlying5 Try.underlying9 HR141_3.out
                      have hcw13 := fun n_ : Nat => Kd.C_string (P := Try.prog) (A := A135_3) (c := c135_3) Try.underlying28 Try.underlying5 Try.underlying9 (Kd.C_drewN HR141_3.out n_)
                      have hcx13 := fun m_ n_ : Nat => Kd.C_string (P := Try.prog) (A := A135_3) (c := c135_3) Try.underlying28 Try.underlying5 Try.underlying9 (Kd.C_drewN (Kd.C_drewN HR141_3.out m_) n_)
                      have p142 : 0 ≤ (x5_1 : Int) := of_decide_eq_true (by first | (with_reducible assumption) | assumption)
                      have q142 : x5_1 < (l1.length : Int) := of_decide_eq_true (by first | (with_reducible assumption) | assumption)
                      obtain ⟨ad142, A142_3, c142_3, e142, hx142_0, hx142_1, hx142_2, hx142_3, hl142_3, hi142_3⟩ := at_T108 HR1.out x5_1 p142 q142
                      obtain rfl : ad136 = ad142 := (by injection e142)
                      have HR142_3 := Aside0.mk hi142_3
                      have HC142_3 := Aside0.mk hl142_3
                      clear hi142_3 hl142_3
                      replace p142 := eq_true p142
                      replace q142 := eq_true q142
                      have ea_ := Option.some.inj (hx136_3.symm.trans hx142_3)
                      injection ea_ with ea_ en_ ec_
                      subst ea_
                      subst ec_
                      clear en_
                      have hcv14 := Kd.C_string (P := Try.prog) (A := A136_3) (c := c136_3) Try.underlying28 Try.underlying5 Try.underlying9 HR142_3.out
                      have hcw14 := fun n_ : Nat => Kd.C_string (P := Try.prog) (A := A136_3) (c := c136_3) Try.underlying28 Try.underlying5 Try.underlying9 (Kd.C_drewN HR142_3.out n_)
                      have hcx14 := fun m_ n_ : Nat => Kd.C_string (P := Try.prog) (A := A136_3) (c := c136_3) Try.underlying28 Try.underlying5 Try.underlying9 (Kd.C_drewN (Kd.C_drewN HR142_3.out m_) n_)
                      go_wp2
                      repeat (go_quiet (fail); try go_wp2)
                      go_ret
                      exact ⟨by first | rfl | (simp; done) | (simp [*]; done), by repeat (first | exact Drawn0.refl _ | apply Drawn0.step)⟩
                  · rw [if_neg c9] at H
                    have c9b0 : (((rd_T108 l0 x5_1).f2) == ((rd_T108 l1 x5_1).f2)) = false := beq_eq_false_iff_ne.mpr c9
                    have c9b1 : (((rd_T108 l0 x5_1).f2) != ((rd_T108 l1 x5_1).f2)) = true := bne_iff_ne.mpr c9
                    obtain rfl := Option.some.inj H
                    have p135 : 0 ≤ (x5_1 : Int) := of_decide_eq_true (by first | (with_reducible assumption) | assumption)
                    have q135 : x5_1 < (l0.length : Int) := of_decide_eq_true (by first | (with_reducible assumption) | assumption)
                    obtain ⟨ad135, A135_3, c135_3, e135, hx135_0, hx135_1, hx135_2, hx135_3, hl135_3, hi135_3⟩ := at_T108 HR0.out x5_1 p135 q135
                    cases e135
                    have HR135_3 := Aside0.mk hi135_3
                    have HC135_3 := Aside0.mk hl135_3
                    clear hi135_3 hl135_3
                    replace p135 := eq_true p135
                    replace q135 := eq_true q135
                    have p136 : 0 ≤ (x5_1 : Int) := of_decide_eq_true (by first | (with_reducible assumption) | assumption)
                    have q136 : x5_1 < (l1.length : Int) := of_decide_eq_true (by first | (with_reducible assumption) | assumption)
                    obtain ⟨ad136, A136_3, c136_3, e136, hx136_0, hx136_1, hx136_2, hx136_3, hl136_3, hi136_3⟩ := at_T108 HR1.out x5_1 p136 q136
                    cases e136
                    have HR136_3 := Aside0.mk hi136_3
                    have HC136_3 := Aside0.mk hl136_3
                    clear hi136_3 hl136_3
                    replace p136 := eq_true p136
                    replace q136 := eq_true q136
                    have p137 : 0 ≤ (x5_1 : Int) := of_decide_eq_true (by first | (with_reducible assumption) | assumption)
                    have q137 : x5_1 < (l0.length : Int) := of_decide_eq_true (by first | (with_reducible assumption) | assumption)
                    obtain ⟨ad137, A137_3, c137_3, e137, hx137_0, hx137_1, hx137_2, hx137_3, hl137_3, hi137_3⟩ := at_T108 HR0.out x5_1 p137 q137
                    obtain rfl : ad135 = ad137 := (by injection e137)
                    have HR137_3 := Aside0.mk hi137_3
                    have HC137_3 := Aside0.mk hl137_3
                    clear hi137_3 hl137_3
                    replace p137 := eq_true p137
                    replace q137 := eq_true q137
                    have ea_ := Option.some.inj (hx135_3.symm.trans hx137_3)
                    injection ea_ with ea_ en_ ec_
                    subst ea_
                    subst ec_
                    clear en_
                    have p138 : 0 ≤ (x5_1 : Int) := of_decide_eq_true (by first | (with_reducible assumption) | assumption)
                    have q138 : x5_1 < (l1.length : Int) := of_decide_eq_true (by first | (with_reducible assumption) | assumption)
                    obtain ⟨ad138, A138_3, c138_3, e138, hx138_0, hx138_1, hx138_2, hx138_3, hl138_3, hi138_3⟩ := at_T108 HR1.out x5_1 p138 q138
                    obtain rfl : ad136 = ad138 := (by injection e138)
                    have HR138_3 := Aside0.mk hi138_3
                    have HC138_3 := Aside0.mk hl138_3
                    clear hi138_3 hl138_3
                    replace p138 := eq_true p138
                    replace q138 := eq_true q138
                    have ea_ := Option.some.inj (hx136_3.symm.trans hx138_3)
                    injection ea_ with ea_ en_ ec_
                    subst ea_
                    subst ec_
                    clear en_
                    have p139 : 0 ≤ (x5_1 : Int) := of_decide_eq_true (by first | (with_reducible assumption) | assumption)
                    have q139 : x5_1 < (l0.length : Int) := of_decide_eq_true (by first | (with_reducible assumption) | assumption)
                    obtain ⟨ad139, A139_3, c139_3, e139, hx139_0, hx139_1, hx139_2, hx139_3, hl139_3, hi139_3⟩ := at_T108 HR0.out x5_1 p139 q139
                    obtain rfl : ad135 = ad139 := (by injection e139)
                    have HR139_3 := Aside0.mk hi139_3
                    have HC139_3 := Aside0.mk hl139_3
                    clear hi139_3 hl139_3
                    replace p139 := eq_true p139
                    replace q139 := eq_true q139
                    have ea_ := Option.some.inj (hx135_3.symm.trans hx139_3)
                    injection ea_ with ea_ en_ ec_
                    subst ea_
                    subst ec_
                    clear en_
                    have p140 : 0 ≤ (x5_1 : Int) := of_decide_eq_true (by first | (with_reducible assumption) | assumption)
                    have q140 : x5_1 < (l1.length : Int) := of_decide_eq_true (by first | (with_reducible assumption) | assumption)
                    obtain ⟨ad140, A140_3, c140_3, e140, hx140_0, hx140_1, hx140_2, hx140_3, hl140_3, hi140_3⟩ := at_T108 HR1.out x5_1 p140 q140
                    obtain rfl : ad136 = ad140 := (by injection e140)
                    have HR140_3 := Aside0.mk hi140_3
                    have HC140_3 := Aside0.mk hl140_3
                    clear hi140_3 hl140_3
                    replace p140 := eq_true p140
                    replace q140 := eq_true q140
                    have ea_ := Option.some.inj (hx136_3.symm.trans hx140_3)
                    injection ea_ with ea_ en_ ec_
                    subst ea_
                    subst ec_
                    clear en_
                    go_wp2
                    repeat (go_quiet (fail); try go_wp2)
                    go_ret
                    exact ⟨by first | rfl | (simp; done) | (simp [*]; done), by repeat (first | exact Drawn0.refl _ | apply Drawn0.step)⟩
                · rw [if_neg c8] at H
                  have c8b0 : (((rd_T108 l0 x5_1).f1) == ((rd_T108 l1 x5_1).f1)) = false := beq_eq_false_iff_ne.mpr c8
                  have c8b1 : (((rd_T108 l0 x5_1).f1) != ((rd_T108 l1 x5_1).f1)) = true := bne_iff_ne.mpr c8
                  obtain rfl := Option.some.inj H
                  have p135 : 0 ≤ (x5_1 : Int) := of_decide_eq_true (by first | (with_reducible assumption) | assumption)
                  have q135 : x5_1 < (l0.length : Int) := of_decide_eq_true (by first | (with_reducible assumption) | assumption)
                  obtain ⟨ad135, A135_3, c135_3, e135, hx135_0, hx135_1, hx135_2, hx135_3, hl135_3, hi135_3⟩ := at_T108 HR0.out x5_1 p135 q135
                  cases e135
                  have HR135_3 := Aside0.mk hi135_3
                  have HC135_3 := Aside0.mk hl135_3
                  clear hi135_3 hl135_3
                  replace p135 := eq_true p135
                  replace q135 := eq_true q135
                  have p136 : 0 ≤ (x5_1 : Int) := of_decide_eq_true (by first | (with_reducible assumption) | assumption)
                  have q136 : x5_1 < (l1.length : Int) := of_decide_eq_true (by first | (with_reducible assumption) | assumption)
                  obtain ⟨ad136, A136_3, c136_3, e136, hx136_0, hx136_1, hx136_2, hx136_3, hl136_3, hi136_3⟩ := at_T108 HR1.out x5_1 p136 q136
                  cases e136
                  have HR136_3 := Aside0.mk hi136_3
                  have HC136_3 := Aside0.mk hl136_3
                  clear hi136_3 hl136_3
                  replace p136 := eq_true p136
                  replace q136 := eq_true q136
                  have p137 : 0 ≤ (x5_1 : Int) := of_decide_eq_true (by first | (with_reducible assumption) | assumption)
                  have q137 : x5_1 < (l0.length : Int) := of_decide_eq_true (by first | (with_reducible assumption) | assumption)
                  obtain ⟨ad137, A137_3, c137_3, e137, hx137_0, hx137_1, hx137_2, hx137_3, hl137_3, hi137_3⟩ := at_T108 HR0.out x5_1 p137 q137
                  obtain rfl : ad135 = ad137 := (by injection e137)
                  have HR137_3 := Aside0.mk hi137_3
                  have HC137_3 := Aside0.mk hl137_3
                  clear hi137_3 hl137_3
                  replace p137 := eq_true p137
                  replace q137 := eq_true q137
                  have ea_ := Option.some.inj (hx135_3.symm.trans hx137_3)
                  injection ea_ with ea_ en_ ec_
                  subst ea_
                  subst ec_
                  clear en_
                  have p138 : 0 ≤ (x5_1 : Int) := of_decide_eq_true (by first | (with_reducible assumption) | assumption)
                  have q138 : x5_1 < (l1.length : Int) := of_decide_eq_true (by first | (with_reducible assumption) | assumption)
                  obtain ⟨ad138, A138_3, c138_3, e138, hx138_0, hx138_1, hx138_2, hx138_3, hl138_3, hi138_3⟩ := at_T108 HR1.out x5_1 p138 q138
                  obtain rfl : ad136 = ad138 := (by injection e138)
                  have HR138_3 := Aside0.mk hi138_3
                  have HC138_3 := Aside0.mk hl138_3
                  clear hi138_3 hl138_3
                  replace p138 := eq_true p138
                  replace q138 := eq_true q138
                  have ea_ := Option.some.inj (hx136_3.symm.trans hx138_3)
                  injection ea_ with ea_ en_ ec_
                  subst ea_
                  subst ec_
                  clear en_
                  go_wp2
                  repeat (go_quiet (fail); try go_wp2)
                  go_ret
                  exact ⟨by first | rfl | (simp; done) | (simp [*]; done), by repeat (first | exact Drawn0.refl _ | apply Drawn0.step)⟩
              · rw [if_neg c7] at H
                have c7b0 : (((rd_T108 l0 x5_1).f0) == ((rd_T108 l1 x5_1).f0)) = false := beq_eq_false_iff_ne.mpr c7
                have c7b1 : (((rd_T108 l0 x5_1).f0) != ((rd_T108 l1 x5_1).f0)) = true := bne_iff_ne.mpr c7
                obtain rfl := Option.some.inj H
                have p135 : 0 ≤ (x5_1 : Int) := of_decide_eq_true (by first | (with_reducible assumption) | assumption)
                have q135 : x5_1 < (l0.length : Int) := of_decide_eq_true (by first | (with_reducible assumption) | assumption)
                obtain ⟨ad135, A135_3, c135_3, e135, hx135_0, hx135_1, hx135_2, hx135_3, hl135_3, hi135_3⟩ := at_T108 HR0.out x5_1 p135 q135
                cases e135
                have HR135_3 := Aside0.mk hi135_3
                have HC135_3 := Aside0.mk hl135_3
                clear hi135_3 hl135_3
                replace p135 := eq_true p135
                replace q135 := eq_true q135
                have p136 : 0 ≤ (x5_1 : Int) := of_decide_eq_true (by first | (with_reducible assumption) | assumption)
                have q136 : x5_1 < (l1.length : Int) := of_decide_eq_true (by first | (with_reducible assumption) | assumption)
                obtain ⟨ad136, A136_3, c136_3, e136, hx136_0, hx136_1, hx136_2, hx136_3, hl136_3, hi136_3⟩ := at_T108 HR1.out x5_1 p136 q136
                cases e136
                have HR136_3 := Aside0.mk hi136_3
                have HC136_3 := Aside0.mk hl136_3
                clear hi136_3 hl136_3
                replace p136 := eq_true p136
                replace q136 := eq_true q136
                go_wp2
                repeat (go_quiet (fail); try go_wp2)
                go_ret
                exact ⟨by first | rfl | (simp; done) | (simp [*]; done), by repeat (first | exact Drawn0.refl _ | apply Drawn0.step)⟩
            · rw [if_neg c6] at H
              exact absurd H (by simp)
          · rw [if_neg c5] at H
            exact absurd H (by simp)
        · rw [if_neg c4] at H
          have c4b0 : decide (x5_1 < (l0.length : Int)) = false := decide_eq_false c4
          clear c4
          obtain rfl := Option.some.inj H
          go_wp2
          repeat (go_quiet (fail); try go_wp2)
          go_ret
          exact ⟨by first | rfl | (simp; done) | (simp [*]; done), by repeat (first | exact Drawn0.refl _ | apply Drawn0.step)⟩
  · rw [if_neg c3] at H
    have c3b0 : ((l0.length : Int) == (l1.length : Int)) = false := beq_eq_false_iff_ne.mpr c3
    have c3b1 : ((l0.length : Int) != (l1.length : Int)) = true := bne_iff_ne.mpr c3
    have c3b2 : (l0.length == l1.length) = false := by first | simpa using c3 | (simp at c3 ⊢; omega)
    obtain rfl := Option.some.inj H
    go_enter Try.func29, Try.ntmps29
    go_wp2
    repeat (go_quiet (fail); try go_wp2)
    go_ret
    exact ⟨by first | rfl | (simp; done) | (simp [*]; done), by repeat (first | exact Drawn0.refl _ | apply Drawn0.step)⟩

end Go.Proofs.Ythcpfkkddfgamaa.PF39
