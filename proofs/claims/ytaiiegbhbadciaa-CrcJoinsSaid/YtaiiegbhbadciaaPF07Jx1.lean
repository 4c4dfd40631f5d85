/- By a program of this session (wip/tool/pp.py): plain Lean functions of the Go functions that this family of laws uses, the walks that the Go code comes to their answers, and the row of the law. No condition beside those that the row itself gives. -/
import Derived.Test.YtaiiegbhbadciaaPF07Jx0
namespace Go.Proofs.Ytaiiegbhbadciaa.PF07J
open Go.RowKit Go.Proofs.YtaiiegbhbadciaaW.Hand Go.Proofs.YtaiiegbhbadciaaW.PrintWords Go.Proofs.YtaiiegbhbadciaaW.PrintLast Go.Proofs.YtaiiegbhbadciaaW.PrintMore
attribute [local go_sem] max2_int min2_int max_two min_two max_three min_three max_four min_four   -- for this text's walks alone
set_option linter.unusedVariables false
set_option linter.unusedSimpArgs false

/-! ### crc_step: function 48 -/
def crc_step.f (a0 : Int) : Option (Int) := if (Go.bits .and .u32 a0 1) = 1 then (some (Go.bits .xor .u32 (a0 / 2) 2197175160)) else (some (a0 / 2))
set_option maxHeartbeats 8000000 in
set_option maxRecDepth 100000 in
theorem crc_step.calls (a0 : Int) (r : Int) (w : World) (h : crc_step.f a0 = some r) :
    Calls Try.prog 48 #[.int .u32 a0] w fun e w' => e = .returned (.int .u32 r) ∧ Drawn0 w w' := by
  have H : (if (Go.bits .and .u32 a0 1) = 1 then (some (Go.bits .xor .u32 (a0 / 2) 2197175160)) else (some (a0 / 2))) = some r := h
  clear h
  by_cases c2 : (Go.bits .and .u32 a0 1) = 1
  · rw [if_pos c2] at H
    have c2b0 : ((Go.bits .and .u32 a0 1) == 1) = true := beq_iff_eq.mpr c2
    have c2b1 : ((Go.bits .and .u32 a0 1) != 1) = false := bne_eq_false_iff_eq.mpr c2
    clear c2
    obtain rfl := Option.some.inj H
    go_enter Try.func48, Try.ntmps48
    go_wp2
    go_ret
    exact ⟨by first | rfl | (simp; done) | (simp [*]; done), by repeat (first | exact Drawn0.refl _ | apply Drawn0.step)⟩
  · rw [if_neg c2] at H
    have c2b0 : ((Go.bits .and .u32 a0 1) == 1) = false := beq_eq_false_iff_ne.mpr c2
    have c2b1 : ((Go.bits .and .u32 a0 1) != 1) = true := bne_iff_ne.mpr c2
    obtain rfl := Option.some.inj H
    go_enter Try.func48, Try.ntmps48
    go_wp2
    go_ret
    exact ⟨by first | rfl | (simp; done) | (simp [*]; done), by repeat (first | exact Drawn0.refl _ | apply Drawn0.step)⟩

/-! ### crc_entry: function 38 -/
def crc_entry.l0 : Nat → Int → Int → Option (Int)
  | 0, _, _ => none
  | k + 1, x0, x3 => if x3 < 8 then ((crc_step.f x0).bind fun t101 => (crc_entry.l0 k t101 (wrap64 (x3 + 1)))) else (some x0)
def crc_entry.f (k : Nat) (a0 : Int) : Option (Int) := crc_entry.l0 k a0 0
theorem crc_entry.mono_l : ∀ k, (∀ y0 y1, LeO (crc_entry.l0 k y0 y1) (crc_entry.l0 (k + 1) y0 y1))
  | 0 => fun _ _ r h => by simp [crc_entry.l0] at h
  | k + 1 => by
    have ih0 := crc_entry.mono_l k
    · intro y0 y1
      unfold crc_entry.l0
      repeat' first
      | (with_reducible exact ih0 _ _)
      | (with_reducible exact LeO.refl _)
      | (with_reducible exact LeO.none _)
      | (with_reducible refine LeO.ite ?_ ?_)
      | (with_reducible refine LeO.bind ?_ (fun _ => ?_))
      | exact ih0 _ _
      | exact LeO.none _
      | refine LeO.ite ?_ ?_
      | refine LeO.bind ?_ (fun _ => ?_)
theorem crc_entry.mono : ∀ a0 k, LeO (crc_entry.f k a0) (crc_entry.f (k + 1) a0) := by
  intro a0 k
  have ih0 := crc_entry.mono_l k
  unfold crc_entry.f
  repeat' first
      | (with_reducible exact ih0 _ _)
      | (with_reducible exact LeO.refl _)
      | (with_reducible exact LeO.none _)
      | (with_reducible refine LeO.ite ?_ ?_)
      | (with_reducible refine LeO.bind ?_ (fun _ => ?_))
      | exact ih0 _ _
      | exact LeO.none _
      | refine LeO.ite ?_ ?_
      | refine LeO.bind ?_ (fun _ => ?_)
set_option maxHeartbeats 8000000 in
set_option maxRecDepth 100000 in
theorem crc_entry.calls (k : Nat) (a0 : Int) (r : Int) (w : World) (h : crc_entry.f k a0 = some r) :
    Calls Try.prog 38 #[.int .u32 a0] w fun e w' => e = .returned (.int .u32 r) ∧ Drawn0 w w' := by
  have H : (crc_entry.l0 k a0 0) = some r := h
  clear h
  have H' := Aside0.mk H
  clear H
  go_enter Try.func38, Try.ntmps38
  go_wp2
  go_loopg [0, 3] k (fun kq v0 v3 w' => ∃ (x0_1 : Int) (x3_1 : Int), v0 = .int .u32 x0_1 ∧ v3 = .int .i64 x3_1 ∧ Aside0 (crc_entry.l0 kq x0_1 x3_1 = some r) ∧ Aside0 (kq ≤ k) ∧ Drawn0 w w')
  case atStart => exact ⟨(a0), (0), (by first | rfl | (simp; done) | (simp [*]; done)), (by first | rfl | (simp; done) | (simp [*]; done)), H', ⟨Nat.le_refl _⟩, by repeat (first | exact Drawn0.refl _ | apply Drawn0.step)⟩
  case round =>
    clear H'
    obtain ⟨x0_1, x3_1, rfl, rfl, HA, HK1, ⟨m1, rfl⟩⟩ := hrel
    cases gk with
    | zero => exact absurd HA.out (by simp [crc_entry.l0])
    | succ k1 =>
      have H := HA.out
      clear HA
      simp only [crc_entry.l0] at H
      by_cases c2 : x3_1 < 8
      · rw [if_pos c2] at H
        have c2b0 : decide (x3_1 < 8) = true := decide_eq_true c2
        clear c2
        replace H := Option.bind_eq_some_iff.mp H
        obtain ⟨t101, A30, H⟩ := H
        replace H : (crc_entry.l0 k1 t101 (wrap64 (x3_1 + 1))) = some r := H
        have A3 := Aside0.mk A30
        clear A30
        have H' := Aside0.mk H
        clear H
        go_wp2_with (first | ((with_reducible refine gate_callee (f := 48) rfl ?_); refine goesL_ (some 6) rfl rfl Try.func48 (by kernel_rfl) rfl #[.int .u32 x0_1] rfl (by (try simp only [List.map_toArray, List.map_cons, List.map_nil]); first | done | rfl | (simp only [List.length_drop, List.length_take]; rfl)) ?_; (with_reducible refine (crc_step.calls x0_1 t101 _ A3.out).mono ?_); rintro e w' ⟨rfl, ⟨nd, rfl⟩⟩; refine ⟨_, rfl, ?_⟩))
        go_roundg k1
        case measure => have := HK1.out; omega
        case rel => exact ⟨(t101), (wrap64 (x3_1 + 1)), (by first | rfl | (simp; done) | (simp [*]; done)), (by first | rfl | (simp; done) | (simp [*]; done)), H', ⟨by have := HK1.out; omega⟩, by repeat (first | exact Drawn0.refl _ | apply Drawn0.step)⟩
      · rw [if_neg c2] at H
        have c2b0 : decide (x3_1 < 8) = false := decide_eq_false c2
        clear c2
        obtain rfl := Option.some.inj H
        go_wp2
        go_ret
        exact ⟨by first | rfl | (simp; done) | (simp [*]; done), by repeat (first | exact Drawn0.refl _ | apply Drawn0.step)⟩

/-! ### crc_More: function 24 -/
def crc_More.l0 : Nat → Int → List Int → Int → Int → Option (Int)
  | 0, _, _, _, _ => none
  | k + 1, x5, x10, x11, x12 => if x12 < x11 then (if 0 ≤ x12 then (if x12 < (x10.length : Int) then ((crc_entry.f k (Go.bits .and .u32 (Go.bits .xor .u32 x5 ((rd x10 x12) % 4294967296)) 255)).bind fun t103 => (crc_More.l0 k (Go.bits .xor .u32 (x5 / 256) t103) x10 x11 (wrap64 (x12 + 1)))) else (none)) else (none)) else (some (Go.bits .xor .u32 4294967295 x5))
def crc_More.f (k : Nat) (a0 : Int) (l1 : List Int) : Option (Int) := crc_More.l0 k (Go.bits .xor .u32 4294967295 a0) l1 (l1.length : Int) 0
theorem crc_More.mono_l : ∀ k, (∀ y0 y1 y2 y3, LeO (crc_More.l0 k y0 y1 y2 y3) (crc_More.l0 (k + 1) y0 y1 y2 y3))
  | 0 => fun _ _ _ _ r h => by simp [crc_More.l0] at h
  | k + 1 => by
    have ih0 := crc_More.mono_l k
    · intro y0 y1 y2 y3
      unfold crc_More.l0
      repeat' first
      | (with_reducible exact ih0 _ _ _ _)
      | (with_reducible exact crc_entry.mono _ _)
      | (with_reducible exact LeO.refl _)
      | (with_reducible exact LeO.none _)
      | (with_reducible refine LeO.ite ?_ ?_)
      | (with_reducible refine LeO.bind ?_ (fun _ => ?_))
      | exact ih0 _ _ _ _
      | exact crc_entry.mono _ _
      | exact LeO.none _
      | refine LeO.ite ?_ ?_
      | refine LeO.bind ?_ (fun _ => ?_)
theorem crc_More.mono : ∀ a0 a1 k, LeO (crc_More.f k a0 a1) (crc_More.f (k + 1) a0 a1) := by
  intro a0 a1 k
  have ih0 := crc_More.mono_l k
  unfold crc_More.f
  repeat' first
      | (with_reducible exact ih0 _ _ _ _)
      | (with_reducible exact crc_entry.mono _ _)
      | (with_reducible exact LeO.refl _)
      | (with_reducible exact LeO.none _)
      | (with_reducible refine LeO.ite ?_ ?_)
      | (with_reducible refine LeO.bind ?_ (fun _ => ?_))
      | exact ih0 _ _ _ _
      | exact crc_entry.mono _ _
      | exact LeO.none _
      | refine LeO.ite ?_ ?_
      | refine LeO.bind ?_ (fun _ => ?_)
set_option maxHeartbeats 8000000 in
set_option maxRecDepth 100000 in
theorem crc_More.calls (k : Nat) (a0 : Int) (A1 : Option Addr) (c1 : Nat) (l1 : List Int) (r : Int) (w : World) (hr1 : Kd.C (Kd.int .u8) w A1 l1.length l1) (hc1 : l1.length ≤ c1) (h : crc_More.f k a0 l1 = some r) :
    Calls Try.prog 24 #[.int .u32 a0, .slice A1 l1.length c1] w fun e w' => e = .returned (.int .u32 r) ∧ Drawn0 w w' := by
  have HR1 := Aside0.mk hr1
  have HC1 := Aside0.mk hc1
  clear hr1 hc1
  have H : (crc_More.l0 k (Go.bits .xor .u32 4294967295 a0) l1 (l1.length : Int) 0) = some r := h
  clear h
  have H' := Aside0.mk H
  clear H
  go_enter Try.func24, Try.ntmps24
  go_wp2
  go_loopg [5, 12] k (fun kq v5 v12 w' => ∃ (x5_1 : Int) (x12_1 : Int), v5 = .int .u32 x5_1 ∧ v12 = .int .i64 x12_1 ∧ Aside0 (crc_More.l0 kq x5_1 l1 (l1.length : Int) x12_1 = some r) ∧ Aside0 (kq ≤ k) ∧ Drawn0 w w')
  case atStart => exact ⟨(Go.bits .xor .u32 4294967295 a0), (0), (by first | rfl | (simp; done) | (simp [*]; done)), (by first | rfl | (simp; done) | (simp [*]; done)), H', ⟨Nat.le_refl _⟩, by repeat (first | exact Drawn0.refl _ | apply Drawn0.step)⟩
  case round =>
    clear H'
    try clear c1
    try clear c2
    try clear p2
    obtain ⟨x5_1, x12_1, rfl, rfl, HA, HK1, ⟨m1, rfl⟩⟩ := hrel
    cases gk with
    | zero => exact absurd HA.out (by simp [crc_More.l0])
    | succ k1 =>
      have H := HA.out
      clear HA
      simp only [crc_More.l0] at H
      by_cases c3 : x12_1 < (l1.length : Int)
      · rw [if_pos c3] at H
        have c3b0 : decide (x12_1 < (l1.length : Int)) = true := decide_eq_true c3
        clear c3
        by_cases c4 : 0 ≤ x12_1
        · rw [if_pos c4] at H
          have c4b0 : decide (0 ≤ x12_1) = true := decide_eq_true c4
          clear c4
          by_cases c5 : x12_1 < (l1.length : Int)
          · rw [if_pos c5] at H
            have c5b0 : decide (x12_1 < (l1.length : Int)) = true := decide_eq_true c5
            clear c5
            replace H := Option.bind_eq_some_iff.mp H
            obtain ⟨t103, A60, H⟩ := H
            replace H : (crc_More.l0 k1 (Go.bits .xor .u32 (x5_1 / 256) t103) l1 (l1.length : Int) (wrap64 (x12_1 + 1))) = some r := H
            have A6 := Aside0.mk A60
            clear A60
            have H' := Aside0.mk H
            clear H
            have p102 : 0 ≤ (x12_1 : Int) := of_decide_eq_true (by first | (with_reducible assumption) | assumption)
            have q102 : x12_1 < (l1.length : Int) := of_decide_eq_true (by first | (with_reducible assumption) | assumption)
            obtain ⟨ad102, e102, hx102_0⟩ := Kd.at_int HR1.out x12_1 p102 q102
            cases e102
            replace p102 := eq_true p102
            replace q102 := eq_true q102
            go_wp2_with (first | ((with_reducible refine gate_callee (f := 38) rfl ?_); refine goesL_ (some 23) rfl rfl Try.func38 (by kernel_rfl) rfl #[.int .u32 (Go.bits .and .u32 (Go.bits .xor .u32 x5_1 ((rd l1 x12_1) % 4294967296)) 255)] rfl (by (try simp only [List.map_toArray, List.map_cons, List.map_nil]); first | done | rfl | (simp only [List.length_drop, List.length_take]; rfl)) ?_; (with_reducible refine (crc_entry.calls k1 (Go.bits .and .u32 (Go.bits .xor .u32 x5_1 ((rd l1 x12_1) % 4294967296)) 255) t103 _ A6.out).mono ?_); rintro e w' ⟨rfl, ⟨nd, rfl⟩⟩; refine ⟨_, rfl, ?_⟩))
            go_roundg k1
            case measure => have := HK1.out; omega
            case rel => exact ⟨(Go.bits .xor .u32 (x5_1 / 256) t103), (wrap64 (x12_1 + 1)), (by first | rfl | (simp; done) | (simp [*]; done)), (by first | rfl | (simp; done) | (simp [*]; done)), H', ⟨by have := HK1.out; omega⟩, by repeat (first | exact Drawn0.refl _ | apply Drawn0.step)⟩
          · rw [if_neg c5] at H
            exact absurd H (by simp)
        · rw [if_neg c4] at H
          exact absurd H (by simp)
      · rw [if_neg c3] at H
        have c3b0 : decide (x12_1 < (l1.length : Int)) = false := decide_eq_false c3
        clear c3
        obtain rfl := Option.some.inj H
        go_wp2
        go_ret
        exact ⟨by first | rfl | (simp; done) | (simp [*]; done), by repeat (first | exact Drawn0.refl _ | apply Drawn0.step)⟩

/-! ### crc_Sum: function 26 -/
def crc_Sum.f (k : Nat) (l0 : List Int) : Option (Int) := (crc_More.f k 0 l0).bind fun t104 => (some t104)
theorem crc_Sum.mono : ∀ a0 k, LeO (crc_Sum.f k a0) (crc_Sum.f (k + 1) a0) := by
  intro a0 k
  unfold crc_Sum.f
  repeat' first
      | (with_reducible exact crc_More.mono _ _ _)
      | (with_reducible exact LeO.refl _)
      | (with_reducible exact LeO.none _)
      | (with_reducible refine LeO.ite ?_ ?_)
      | (with_reducible refine LeO.bind ?_ (fun _ => ?_))
      | exact crc_More.mono _ _ _
      | exact LeO.none _
      | refine LeO.ite ?_ ?_
      | refine LeO.bind ?_ (fun _ => ?_)
set_option maxHeartbeats 8000000 in
set_option maxRecDepth 100000 in
theorem crc_Sum.calls (k : Nat) (A0 : Option Addr) (c0 : Nat) (l0 : List Int) (r : Int) (w : World) (hr0 : Kd.C (Kd.int .u8) w A0 l0.length l0) (hc0 : l0.length ≤ c0) (h : crc_Sum.f k l0 = some r) :
    Calls Try.prog 26 #[.slice A0 l0.length c0] w fun e w' => e = .returned (.int .u32 r) ∧ Drawn0 w w' := by
  have HR0 := Aside0.mk hr0
  have HC0 := Aside0.mk hc0
  clear hr0 hc0
  have H : ((crc_More.f k 0 l0).bind fun t104 => (some t104)) = some r := h
  clear h
  replace H := Option.bind_eq_some_iff.mp H
  obtain ⟨t104, A20, H⟩ := H
  replace H : (some t104) = some r := H
  have A2 := Aside0.mk A20
  clear A20
  obtain rfl := Option.some.inj H
  go_enter Try.func26, Try.ntmps26
  go_wp2_with (first | ((with_reducible refine gate_callee (f := 24) rfl ?_); refine goesL_ (some 4) rfl rfl Try.func24 (by kernel_rfl) rfl #[.int .u32 0, .slice A0 l0.length c0] rfl (by (try simp only [List.map_toArray, List.map_cons, List.map_nil]); first | done | rfl | (simp only [List.length_drop, List.length_take]; rfl)) ?_; (with_reducible refine (crc_More.calls k 0 _ _ l0 t104 _ ?side1 ?side2 A2.out).mono ?_); (case side1 => repeat (first | exact HR0.out | (with_reducible refine Kd.C_alloc ?_ _) | (with_reducible refine Kd.C_drewN ?_ _) | (with_reducible refine Kd.C_drew ?_))); (case side2 => exact HC0.out); rintro e w' ⟨rfl, ⟨nd, rfl⟩⟩; refine ⟨_, rfl, ?_⟩))
  go_ret
  exact ⟨by first | rfl | (simp; done) | (simp [*]; done), by repeat (first | exact Drawn0.refl _ | apply Drawn0.step)⟩

/-! ### batonlaw07_awake: function 23 (by hand) -/
def batonlaw07_awake.f : Option Bool := some true
theorem batonlaw07_awake_sum : ∃ k, crc_Sum.f k [49, 50, 51, 52, 53, 54, 55, 56, 57] = some 3808858755 := ⟨60, by decide +kernel⟩
set_option maxHeartbeats 8000000 in
set_option maxRecDepth 100000 in
theorem batonlaw07_awake.calls (r : Bool) (w : World) (h : batonlaw07_awake.f = some r) :
    Calls Try.prog 23 #[] w fun e w' => e = .returned (.bool r) ∧ Below w.heap.size w w' := by
  obtain rfl := Option.some.inj h
  obtain ⟨k, hk⟩ := batonlaw07_awake_sum
  have HK := Aside0.mk hk
  clear hk h
  have kc := fun (w : World) (C : Array Value) (n c : Nat) => Lib.run_convert_bytes_const (P := Try.prog) w 27 5 C n c Try.underlying27 Try.underlying5
  have hC := Aside0.mk (C_new w .u8 5 (9, 10) [49, 50, 51, 52, 53, 54, 55, 56, 57] _ rfl (by decide))
  go_enter Try.func23, Try.ntmps23
  go_wp2_with (go_at_call 26; refine (crc_Sum.calls k _ _ [49, 50, 51, 52, 53, 54, 55, 56, 57] 3808858755 _ hC.out (by decide) HK.out).mono ?_; rintro e w' ⟨rfl, ⟨nd, rfl⟩⟩)
  go_ret
  exact ⟨rfl, pw_below_drewN (below_alloc (Below.refl _ _) _) _⟩

/-! ### batonref07_More: function 25 -/
mutual
def batonref07_More.l0 : Nat → List Int → Int → Int → Option (Int)
  | 0, _, _, _ => none
  | k + 1, x1, x5, x6 => if x6 < (x1.length : Int) then (if 0 ≤ x6 then (batonref07_More.l1 k x1 (Go.bits .xor .u32 x5 ((rd x1 x6) % 4294967296)) x6 0) else (none)) else (some ((4294967295 - x5) % 4294967296))
def batonref07_More.l1 : Nat → List Int → Int → Int → Int → Option (Int)
  | 0, _, _, _, _ => none
  | k + 1, x1, x5, x6, x7 => if x7 < 8 then (if (Int.tmod x5 2) = 1 then (batonref07_More.l1 k x1 (Go.bits .xor .u32 ((Int.tdiv x5 2) % 4294967296) 2197175160) x6 (wrap64 (x7 + 1))) else (batonref07_More.l1 k x1 ((Int.tdiv x5 2) % 4294967296) x6 (wrap64 (x7 + 1)))) else (batonref07_More.l0 k x1 x5 (wrap64 (x6 + 1)))
end
def batonref07_More.f (k : Nat) (a0 : Int) (l1 : List Int) : Option (Int) := batonref07_More.l0 k l1 ((4294967295 - a0) % 4294967296) 0
theorem batonref07_More.mono_l : ∀ k, (∀ y0 y1 y2, LeO (batonref07_More.l0 k y0 y1 y2) (batonref07_More.l0 (k + 1) y0 y1 y2)) ∧ (∀ y0 y1 y2 y3, LeO (batonref07_More.l1 k y0 y1 y2 y3) (batonref07_More.l1 (k + 1) y0 y1 y2 y3))
  | 0 => ⟨fun _ _ _ r h => by simp [batonref07_More.l0] at h, fun _ _ _ _ r h => by simp [batonref07_More.l1] at h⟩
  | k + 1 => by
    obtain ⟨ih0, ih1⟩ := batonref07_More.mono_l k
    refine ⟨?_, ?_⟩
    · intro y0 y1 y2
      unfold batonref07_More.l0
      repeat' first
      | (with_reducible exact ih0 _ _ _)
      | (with_reducible exact ih1 _ _ _ _)
      | (with_reducible exact LeO.refl _)
      | (with_reducible exact LeO.none _)
      | (with_reducible refine LeO.ite ?_ ?_)
      | (with_reducible refine LeO.bind ?_ (fun _ => ?_))
      | exact ih0 _ _ _
      | exact ih1 _ _ _ _
      | exact LeO.none _
      | refine LeO.ite ?_ ?_
      | refine LeO.bind ?_ (fun _ => ?_)
    · intro y0 y1 y2 y3
      unfold batonref07_More.l1
      repeat' first
      | (with_reducible exact ih0 _ _ _)
      | (with_reducible exact ih1 _ _ _ _)
      | (with_reducible exact LeO.refl _)
      | (with_reducible exact LeO.none _)
      | (with_reducible refine LeO.ite ?_ ?_)
      | (with_reducible refine LeO.bind ?_ (fun _ => ?_))
      | exact ih0 _ _ _
      | exact ih1 _ _ _ _
      | exact LeO.none _
      | refine LeO.ite ?_ ?_
      | refine LeO.bind ?_ (fun _ => ?_)
theorem batonref07_More.mono : ∀ a0 a1 k, LeO (batonref07_More.f k a0 a1) (batonref07_More.f (k + 1) a0 a1) := by
  intro a0 a1 k
  obtain ⟨ih0, ih1⟩ := batonref07_More.mono_l k
  unfold batonref07_More.f
  repeat' first
      | (with_reducible exact ih0 _ _ _)
      | (with_reducible exact ih1 _ _ _ _)
      | (with_reducible exact LeO.refl _)
      | (with_reducible exact LeO.none _)
      | (with_reducible refine LeO.ite ?_ ?_)
      | (with_reducible refine LeO.bind ?_ (fun _ => ?_))
      | exact ih0 _ _ _
      | exact ih1 _ _ _ _
      | exact LeO.none _
      | refine LeO.ite ?_ ?_
      | refine LeO.bind ?_ (fun _ => ?_)
set_option maxHeartbeats 8000000 in
set_option maxRecDepth 100000 in
theorem batonref07_More.calls (k : Nat) (a0 : Int) (A1 : Option Addr) (c1 : Nat) (l1 : List Int) (r : Int) (w : World) (hr1 : Kd.C (Kd.int .u8) w A1 l1.length l1) (hc1 : l1.length ≤ c1) (h : batonref07_More.f k a0 l1 = some r) :
    Calls Try.prog 25 #[.int .u32 a0, .slice A1 l1.length c1] w fun e w' => e = .returned (.int .u32 r) ∧ Drawn0 w w' := by
  have HR1 := Aside0.mk hr1
  have HC1 := Aside0.mk hc1
  clear hr1 hc1
  have H : (batonref07_More.l0 k l1 ((4294967295 - a0) % 4294967296) 0) = some r := h
  clear h
  have H' := Aside0.mk H
  clear H
  go_enter Try.func25, Try.ntmps25
  go_wp2
  go_loopg [5, 6] k (fun kq v5 v6 w' => ∃ (x5_1 : Int) (x6_1 : Int), v5 = .int .u32 x5_1 ∧ v6 = .int .i64 x6_1 ∧ Aside0 (batonref07_More.l0 kq l1 x5_1 x6_1 = some r) ∧ Aside0 (kq ≤ k) ∧ Drawn0 w w')
  case atStart => exact ⟨((4294967295 - a0) % 4294967296), (0), (by first | rfl | (simp; done) | (simp [*]; done)), (by first | rfl | (simp; done) | (simp [*]; done)), H', ⟨Nat.le_refl _⟩, by repeat (first | exact Drawn0.refl _ | apply Drawn0.step)⟩
  case round =>
    clear H'
    try clear c1
    try clear c2
    try clear p2
    obtain ⟨x5_1, x6_1, rfl, rfl, HA, HK1, ⟨m1, rfl⟩⟩ := hrel
    cases gk with
    | zero => exact absurd HA.out (by simp [batonref07_More.l0])
    | succ k1 =>
      have H := HA.out
      clear HA
      simp only [batonref07_More.l0] at H
      by_cases c3 : x6_1 < (l1.length : Int)
      · rw [if_pos c3] at H
        have c3b0 : decide (x6_1 < (l1.length : Int)) = true := decide_eq_true c3
        clear c3
        by_cases c4 : 0 ≤ x6_1
        · rw [if_pos c4] at H
          have c4b0 : decide (0 ≤ x6_1) = true := decide_eq_true c4
          clear c4
          have H' := Aside0.mk H
          clear H
          have p105 : 0 ≤ (x6_1 : Int) := of_decide_eq_true (by first | (with_reducible assumption) | assumption)
          have q105 : x6_1 < (l1.length : Int) := of_decide_eq_true (by first | (with_reducible assumption) | assumption)
          obtain ⟨ad105, e105, hx105_0⟩ := Kd.at_int HR1.out x6_1 p105 q105
          cases e105
          replace p105 := eq_true p105
          replace q105 := eq_true q105
          go_wp2
          go_loopg [5, 7] k1 (fun kq v5 v7 w' => ∃ (x5_2 : Int) (x7_2 : Int), v5 = .int .u32 x5_2 ∧ v7 = .int .i64 x7_2 ∧ Aside0 (batonref07_More.l1 kq l1 x5_2 x6_1 x7_2 = some r) ∧ Aside0 (kq ≤ k1) ∧ Drawn0 w w')
          case atStart => exact ⟨(Go.bits .xor .u32 x5_1 ((rd l1 x6_1) % 4294967296)), (0), (by first | rfl | (simp; done) | (simp [*]; done)), (by first | rfl | (simp; done) | (simp [*]; done)), H', ⟨Nat.le_refl _⟩, by repeat (first | exact Drawn0.refl _ | apply Drawn0.step)⟩
          case round =>
            clear H'
            try clear c1
            try clear p1
            try clear q1
            try clear hx1
            try clear c2
            try clear p2
            try clear c3
            try clear c3b0
            try clear c4
            try clear c4b0
            try clear hx105_0
            try clear p105
            try clear p2
            try clear q105
            obtain ⟨x5_2, x7_2, rfl, rfl, HA, HK2, ⟨m2, rfl⟩⟩ := hrel
            cases gk with
            | zero => exact absurd HA.out (by simp [batonref07_More.l1])
            | succ k2 =>
              have H := HA.out
              clear HA
              simp only [batonref07_More.l1] at H
              by_cases c5 : x7_2 < 8
              · rw [if_pos c5] at H
                have c5b0 : decide (x7_2 < 8) = true := decide_eq_true c5
                clear c5
                by_cases c6 : (Int.tmod x5_2 2) = 1
                · rw [if_pos c6] at H
                  have c6b0 : ((Int.tmod x5_2 2) == 1) = true := beq_iff_eq.mpr c6
                  have c6b1 : ((Int.tmod x5_2 2) != 1) = false := bne_eq_false_iff_eq.mpr c6
                  clear c6
                  have H' := Aside0.mk H
                  clear H
                  go_wp2
                  go_roundg k2
                  case measure => have := HK1.out; have := HK2.out; omega
                  case rel => exact ⟨(Go.bits .xor .u32 ((Int.tdiv x5_2 2) % 4294967296) 2197175160), (wrap64 (x7_2 + 1)), (by first | rfl | (simp; done) | (simp [*]; done)), (by first | rfl | (simp; done) | (simp [*]; done)), H', ⟨by have := HK1.out; have := HK2.out; omega⟩, by repeat (first | exact Drawn0.refl _ | apply Drawn0.step)⟩
                · rw [if_neg c6] at H
                  have c6b0 : ((Int.tmod x5_2 2) == 1) = false := beq_eq_false_iff_ne.mpr c6
                  have c6b1 : ((Int.tmod x5_2 2) != 1) = true := bne_iff_ne.mpr c6
                  have H' := Aside0.mk H
                  clear H
                  go_wp2
                  go_roundg k2
                  case measure => have := HK1.out; have := HK2.out; omega
                  case rel => exact ⟨((Int.tdiv x5_2 2) % 4294967296), (wrap64 (x7_2 + 1)), (by first | rfl | (simp; done) | (simp [*]; done)), (by first | rfl | (simp; done) | (simp [*]; done)), H', ⟨by have := HK1.out; have := HK2.out; omega⟩, by repeat (first | exact Drawn0.refl _ | apply Drawn0.step)⟩
              · rw [if_neg c5] at H
                have c5b0 : decide (x7_2 < 8) = false := decide_eq_false c5
                clear c5
                have H' := Aside0.mk H
                clear H
                go_wp2
                go_roundg k2
                case measure => have := HK1.out; have := HK2.out; omega
                case rel => exact ⟨(x5_2), (wrap64 (x6_1 + 1)), (by first | rfl | (simp; done) | (simp [*]; done)), (by first | rfl | (simp; done) | (simp [*]; done)), H', ⟨by have := HK1.out; have := HK2.out; omega⟩, by repeat (first | exact Drawn0.refl _ | apply Drawn0.step)⟩
        · rw [if_neg c4] at H
          exact absurd H (by simp)
      · rw [if_neg c3] at H
        have c3b0 : decide (x6_1 < (l1.length : Int)) = false := decide_eq_false c3
        clear c3
        obtain rfl := Option.some.inj H
        go_wp2
        go_ret
        exact ⟨by first | rfl | (simp; done) | (simp [*]; done), by repeat (first | exact Drawn0.refl _ | apply Drawn0.step)⟩

-- NOT PRINTED: function 49 (crc_matrix_times)

-- NOT PRINTED: function 50 (crc_matrix_square)

/-! ### crc.times, square, through: functions 49, 50, 39 (by hand) -/
theorem rd_lt' {l : List Int} {i : Nat} (h : i < l.length) : rd l (i : Nat) = l[i] := by
  simp [rd, List.getD_eq_getElem?_getD, h]
def tStp (c : Nat) : Nat := if c % 2 = 1 then c / 2 ^^^ 2197175160 else c / 2
def tStps : Nat → Nat → Nat
  | 0, c => c
  | n + 1, c => tStps n (tStp c)
/-- What becomes of bit i alone, by j bytes 0. -/
def tMat (j : Nat) : List Int := (List.range 32).map fun i => ((tStps (8 * j) (2 ^ i) : Nat) : Int)
def tMul (m : List Int) (x : Nat) : Nat → Nat
  | 0 => 0
  | i + 1 => if x.testBit i = true then tMul m x i ^^^ (rd m (i : Nat)).toNat else tMul m x i
def tArr (xs : List Int) : Array Value := (xs.map (Value.int .u32)).toArray
def U32L (xs : List Int) : Prop := ∀ x ∈ xs, 0 ≤ x ∧ x ≤ 4294967295
theorem tArr_size (xs : List Int) : (tArr xs).size = xs.length := by simp [tArr]
theorem tArr_get (xs : List Int) (i : Nat) (h : i < xs.length) : (tArr xs)[i]? = some (.int .u32 (rd xs (i : Nat))) := by
  unfold tArr
  rw [List.getElem?_toArray, List.getElem?_map, List.getElem?_eq_getElem h, rd_lt' h]
  rfl
theorem t_and1 (c : Nat) (h : c < 4294967296) : Go.bits .and .u32 (c : Int) 1 = ((c % 2 : Nat) : Int) := by
  have := u32_and_nat c 1 h (by decide)
  rw [nat_mask1] at this
  exact this
theorem t_bit (x k : Nat) (hx : x < 4294967296) : (Go.bits .and .u32 ((x : Int) / 2 ^ k) 1 == 1) = x.testBit k := by
  have e : ((x : Int) / 2 ^ k) = ((x / 2 ^ k : Nat) : Int) := by push_cast; rfl
  rw [e, t_and1 _ (Nat.lt_of_le_of_lt (Nat.div_le_self _ _) hx), Nat.testBit_eq_decide_div_mod_eq, Bool.eq_iff_iff, beq_iff_eq, decide_eq_true_iff]
  omega
theorem tMul_lt (m : List Int) (hm : U32L m) (hl : m.length = 32) (x : Nat) : ∀ n, n ≤ 32 → tMul m x n < 4294967296 := by
  intro n
  induction n with
  | zero => intro _; simp [tMul]
  | succ n ih =>
    intro h
    have := ih (by omega)
    simp only [tMul]
    split
    · have hb := hm m[n] (List.getElem_mem (by omega))
      rw [rd_lt' (show n < m.length by omega)]
      exact Nat.xor_lt_two_pow (n := 32) (by omega) (by omega)
    · exact this

set_option maxHeartbeats 8000000 in
set_option maxRecDepth 100000 in
theorem times_calls (g : Nat) (m : List Int) (t : TypeId) (mk : Nat × Nat) (x : Nat) (w : World) (hb : w.heap[g]? = some (.cells (tArr m) t mk)) (hl : m.length = 32) (hm : U32L m) (hx : x < 4294967296) :
    Calls Try.prog 49 #[.pointer (some ⟨g, 0, none⟩), .int .u32 (x : Int)] w fun e w' => e = .returned (.int .u32 (tMul m x 32 : Nat)) ∧ Drawn0 w w' := by
  have HL := Aside0.mk hl
  have HM := Aside0.mk hm
  have HC := Aside0.mk (show ∀ i : Nat, i < 32 → w.cell? ⟨g, i, none⟩ = some (.int .u32 (rd m (i : Nat))) from fun i hi => by
    simp only [World.cell?, hb]
    exact tArr_get m i (by omega))
  clear hb hl hm
  go_enter Try.func49, Try.ntmps49
  go_wp2
  go_loopw [5, 7] (fun o i wr => ∃ k : Nat, k ≤ 32 ∧ i = .int .i64 k ∧ o = .int .u32 (tMul m x k : Nat) ∧ Drawn0 w wr) (fun _ i _ => 32 - (intOf i).toNat)
  case atStart => exact ⟨0, by omega, rfl, rfl, Drawn0.refl _⟩
  case round =>
    obtain ⟨k, hk, rfl, rfl, ⟨nd, rfl⟩⟩ := hrel
    by_cases hlt : k < 32
    · have hc : (w.drewN nd).cell? ⟨g, k, none⟩ = some (.int .u32 (rd m (k : Nat))) := HC.out k hlt
      obtain ⟨y, hy⟩ : ∃ y, y = rd m (k : Nat) := ⟨_, rfl⟩
      rw [← hy] at hc
      obtain ⟨u, hu⟩ : ∃ u, u = tMul m x k := ⟨_, rfl⟩
      rw [← hu]
      have HU := Aside0.mk hu
      have HY := Aside0.mk hy
      clear hu hy
      have hbit := t_bit x k hx
      have hw : wrap64 ((k : Int) + 1) = ((k + 1 : Nat) : Int) := by unfold wrap64; omega
      have HBIT := Aside0.mk hbit
      clear hbit hw
      go_wp2
      · rename_i hb1
        have hx1 : x.testBit k = true := by rw [← HBIT.out]; exact hb1
        refine ⟨⟨k + 1, by omega, by go_num, ?_, ⟨⟨nd, rfl⟩⟩⟩, by simp [intOf]; omega⟩
        have hul : u < 4294967296 := by rw [HU.out]; exact tMul_lt m HM.out HL.out x k hk
        have hyb := HM.out (m[k]'(by rw [HL.out]; exact hlt)) (List.getElem_mem _)
        rw [← rd_lt' (show k < m.length by rw [HL.out]; exact hlt), ← HY.out] at hyb
        obtain ⟨z, rfl⟩ := Int.eq_ofNat_of_zero_le hyb.1
        have ez : (rd m (k : Nat)).toNat = z := by rw [← HY.out]; rfl
        rw [u32_xor_nat u z hul (by omega)]
        simp only [tMul, hx1, if_true, ez, ← HU.out]
      · rename_i hb1
        have hx1 : x.testBit k = false := by rw [← HBIT.out]; exact hb1
        refine ⟨⟨k + 1, by omega, by go_num, ?_, ⟨⟨nd, rfl⟩⟩⟩, by simp [intOf]; omega⟩
        simp only [tMul, hx1, Bool.false_eq_true, if_false, ← HU.out]
    · obtain rfl : k = 32 := by omega
      go_wp2
      go_ret
      exact ⟨rfl, ⟨⟨nd, rfl⟩⟩⟩

/-- The matrix done twice. -/
def tSq (m : List Int) : List Int := (List.range 32).map fun i => ((tMul m (rd m (i : Nat)).toNat 32 : Nat) : Int)
theorem tSq_length (m : List Int) : (tSq m).length = 32 := by simp [tSq]
theorem tSq_get (m : List Int) (i : Nat) (h : i < 32) : rd (tSq m) (i : Nat) = ((tMul m (rd m (i : Nat)).toNat 32 : Nat) : Int) := by
  rw [rd_lt' (by rw [tSq_length]; exact h)]
  simp [tSq]
theorem tFill (S : List Int) (hS : S.length = 32) (k : Nat) (hk : k < 32) (y : Int) (hy : rd S (k : Nat) = y) : (tArr (S.take k ++ List.replicate (32 - k) 0)).setIfInBounds k (.int .u32 y) = tArr (S.take (k + 1) ++ List.replicate (32 - (k + 1)) 0) := by
  have e : (S.take k ++ List.replicate (32 - k) (0 : Int)).set k y = S.take (k + 1) ++ List.replicate (32 - (k + 1)) 0 := by
    have hl : (S.take k).length = k := by rw [List.length_take]; omega
    rw [List.set_append_right _ _ (by omega), hl, Nat.sub_self, List.take_succ_eq_append_getElem (by omega)]
    obtain ⟨d, hd⟩ : ∃ d, 32 - k = d + 1 := ⟨32 - k - 1, by omega⟩
    rw [hd, List.replicate_succ, List.set_cons_zero, show 32 - (k + 1) = d by omega, List.append_assoc, ← hy, rd_lt' (show k < S.length by omega)]
    rfl
  unfold tArr
  rw [← e]
  simp [List.map_set]
theorem tHalf_get (S : List Int) (hS : S.length = 32) (k : Nat) (hk : k < 32) : (tArr (S.take k ++ List.replicate (32 - k) 0))[k]? = some (.int .u32 0) := by
  have hl : (S.take k).length = k := by rw [List.length_take]; omega
  unfold tArr
  rw [List.getElem?_toArray, List.getElem?_map, List.getElem?_append_right (by omega), hl, Nat.sub_self, List.getElem?_replicate, if_pos (by omega)]
  rfl
set_option maxHeartbeats 8000000 in
set_option maxRecDepth 100000 in
theorem square_calls (g : Nat) (m : List Int) (t : TypeId) (mk : Nat × Nat) (w : World) (hb : w.heap[g]? = some (.cells (tArr m) t mk)) (hl : m.length = 32) (hm : U32L m) :
    Calls Try.prog 50 #[.pointer (some ⟨g, 0, none⟩)] w fun e w' => ∃ g', e = .returned (.pointer (some ⟨g', 0, none⟩)) ∧ w'.heap[g']? = some (.cells (tArr (tSq m)) 73 (0, 0)) ∧ Below w.heap.size w w' := by
  have HL := Aside0.mk hl
  have HM := Aside0.mk hm
  have HBk := Aside0.mk hb
  have hlt0 : g < w.heap.size := blk_lt hb
  have hz : (tArr (List.replicate 32 0)) = (Value.agg (tArr (List.replicate 32 0))).cells := rfl
  clear hb hl hm hz
  go_enter Try.func50, Try.ntmps50
  go_wp2
  go_loopw [5] (fun i wr => ∃ k : Nat, k ≤ 32 ∧ i = .int .i64 k ∧ Aside0 (wr.heap[w.heap.size]? = some (.cells (tArr ((tSq m).take k ++ List.replicate (32 - k) 0)) 73 (0, 0)) ∧ Below w.heap.size w wr)) (fun i _ => 32 - (intOf i).toNat)
  case atStart => exact ⟨0, by omega, rfl, ⟨by exact heap_alloc_new w _, (Below.refl _ _).alloc (Nat.le_refl _) _⟩⟩
  case round =>
    obtain ⟨k, hk, rfl, HR⟩ := hrel
    by_cases hlt : k < 32
    · have hbr := (HR.out.2.block g hlt0).trans HBk.out
      have hc : wr.cell? ⟨g, k, none⟩ = some (.int .u32 (rd m (k : Nat))) := by
        simp only [World.cell?, hbr]
        exact tArr_get m k (by rw [HL.out]; exact hlt)
      have hyb := HM.out (m[k]'(by rw [HL.out]; exact hlt)) (List.getElem_mem _)
      rw [← rd_lt' (show k < m.length by rw [HL.out]; exact hlt)] at hyb
      obtain ⟨z, hz⟩ := Int.eq_ofNat_of_zero_le hyb.1
      rw [hz] at hc hyb
      have hzl : z < 4294967296 := by omega
      have HZ := Aside0.mk hz
      have HCALL := Aside0.mk (times_calls g m t mk z wr hbr HL.out HM.out hzl)
      have hck : wr.cell? ⟨w.heap.size, k, none⟩ = some (.int .u32 0) := by
        simp only [World.cell?, HR.out.1]
        exact tHalf_get _ (tSq_length m) k hlt
      have hfk : wr.frozen? ⟨w.heap.size, k, none⟩ = false := blk_frozen HR.out.1 k
      clear hbr hyb hz hzl
      go_wp2_with (go_at_call 49; refine HCALL.out.mono ?_; rintro e w2 ⟨rfl, ⟨nd, rfl⟩⟩)
      go_roundw
      case rel =>
        refine ⟨k + 1, by omega, by go_num, ⟨?_, ?_⟩⟩
        · refine (blk_set (w := wr.drewN nd) HR.out.1 k _).trans ?_
          rw [tFill (tSq m) (tSq_length m) k hlt _ (by rw [tSq_get m k hlt, HZ.out]; rfl)]
        · exact (pw_below_drewN HR.out.2 nd).setCell (Nat.le_refl _) _
      case measure => simp [intOf]; omega
    · obtain rfl : k = 32 := by omega
      have hfin : wr.heap[w.heap.size]? = some (.cells (tArr (tSq m)) 73 (0, 0)) := by
        have := HR.out.1
        rw [List.take_of_length_le (by rw [tSq_length]; exact Nat.le_refl _)] at this
        simpa using this
      have HF := Aside0.mk hfin
      clear hfin
      go_wp2
      go_ret
      exact ⟨_, rfl, HF.out, HR.out.2⟩

theorem tMat_length (j : Nat) : (tMat j).length = 32 := by simp [tMat]
theorem tMat_get (j i : Nat) (h : i < 32) : rd (tMat j) (i : Nat) = ((tStps (8 * j) (2 ^ i) : Nat) : Int) := by
  rw [rd_lt' (by rw [tMat_length]; exact h)]
  simp [tMat]
set_option maxRecDepth 100000 in
theorem tEntry : ∀ k, k < 32 → crc_entry.f 10 ((2 ^ k % 256 : Nat) : Int) = some ((tStps 8 (2 ^ k % 256) : Nat) : Int) := by decide +kernel
set_option maxRecDepth 100000 in
theorem tLow : ∀ k, k < 8 → tStps 8 (2 ^ k % 256) = tStps (8 * 1) (2 ^ k) := by decide +kernel
set_option maxRecDepth 100000 in
theorem tHigh : ∀ k, k < 32 → 8 ≤ k → 2 ^ (k - 8) = tStps (8 * 1) (2 ^ k) := by decide +kernel
theorem tPow : ∀ k, k < 32 → 2 ^ k < 4294967296 := by decide +kernel
theorem tStp_xor (a b : Nat) : tStp (a ^^^ b) = tStp a ^^^ tStp b := by
  have h := @Nat.xor_mod_two_eq_one a b
  unfold tStp
  rw [Nat.xor_div_two]
  by_cases ha : a % 2 = 1
  · by_cases hb : b % 2 = 1
    · rw [if_neg (by rw [h]; simp [ha, hb]), if_pos ha, if_pos hb]
      rw [Nat.xor_assoc, Nat.xor_comm 2197175160, Nat.xor_assoc, Nat.xor_self, Nat.xor_zero]
    · rw [if_pos (by rw [h]; simp [ha, hb]), if_pos ha, if_neg hb]
      rw [Nat.xor_assoc, Nat.xor_comm (b / 2), ← Nat.xor_assoc]
  · by_cases hb : b % 2 = 1
    · rw [if_pos (by rw [h]; simp [ha, hb]), if_neg ha, if_pos hb, Nat.xor_assoc]
    · rw [if_neg (by rw [h]; simp [ha, hb]), if_neg ha, if_neg hb]
theorem tStps_xor (n a b : Nat) : tStps n (a ^^^ b) = tStps n a ^^^ tStps n b := by
  induction n generalizing a b with
  | zero => rfl
  | succ n ih => simp only [tStps, tStp_xor, ih]
theorem tStp_lt {c : Nat} (h : c < 4294967296) : tStp c < 4294967296 := by
  unfold tStp
  split
  · exact Nat.xor_lt_two_pow (n := 32) (by omega) (by decide)
  · omega
theorem tStps_lt (n : Nat) {c : Nat} (h : c < 4294967296) : tStps n c < 4294967296 := by
  induction n generalizing c with
  | zero => exact h
  | succ n ih => exact ih (tStp_lt h)
theorem tStps_of_zero (n : Nat) : tStps n 0 = 0 := by
  induction n with
  | zero => rfl
  | succ n ih => exact ih
theorem tJoin_xor (n z t : Nat) (h : t < 2 ^ n) : 2 ^ n * z + t = 2 ^ n * z ^^^ t := by
  apply Nat.eq_of_testBit_eq
  intro j
  have h0 : (2 ^ n * z).testBit j = if j < n then false else z.testBit (j - n) := by
    have := Nat.testBit_two_pow_mul_add z (b := 0) (i := n) (Nat.two_pow_pos n) j
    rw [Nat.add_zero] at this
    rw [this]
    simp
  rw [Nat.testBit_two_pow_mul_add z h, Nat.testBit_xor, h0]
  split
  · simp
  · rw [Nat.testBit_lt_two_pow (Nat.lt_of_lt_of_le h (Nat.pow_le_pow_right (by decide) (by omega)))]
    simp
theorem tStps_add (a b c : Nat) : tStps (a + b) c = tStps b (tStps a c) := by
  induction a generalizing c with
  | zero => rw [Nat.zero_add]; rfl
  | succ a ih => rw [show a + 1 + b = (a + b) + 1 by omega]; exact ih (tStp c)
theorem below_step' {w w1 w2 : World} (h1 : Below w.heap.size w w1) (h2 : Below w1.heap.size w1 w2) : Below w.heap.size w w2 := h1.trans (h2.mono h1.size)
theorem t_i64_and1 (n : Int) : Go.bits .and .i64 n 1 = n % 2 := by
  have h1 : (BitVec.ofInt 64 1).toNat = 2 ^ 1 - 1 := by decide
  have key : (BitVec.ofInt 64 n &&& BitVec.ofInt 64 1).toNat = (n % ((2 ^ 64 : Nat) : Int)).toNat % 2 ^ 1 := by
    rw [BitVec.toNat_and, BitVec.toNat_ofInt, h1, Nat.and_two_pow_sub_one_eq_mod]
  show IntKind.i64.wrap ((BitVec.ofInt 64 n &&& BitVec.ofInt 64 1).toNat : Nat) = n % 2
  rw [key, IntKind.wrap_i64]
  omega
theorem tMul_mat (j x : Nat) : ∀ n, n ≤ 32 → tMul (tMat j) x n = tStps (8 * j) (x % 2 ^ n) := by
  intro n
  induction n with
  | zero => intro _; simp only [tMul, Nat.pow_zero, Nat.mod_one]; exact (tStps_of_zero _).symm
  | succ n ih =>
    intro h
    have e : x % 2 ^ (n + 1) = 2 ^ n * (x.testBit n).toNat ^^^ x % 2 ^ n := by
      rw [← tJoin_xor n _ _ (Nat.mod_lt _ (Nat.two_pow_pos n)), Nat.mod_pow_succ, Nat.add_comm, Nat.testBit_eq_decide_div_mod_eq]
      congr 2
      have := Nat.mod_two_eq_zero_or_one (x / 2 ^ n)
      rcases this with h | h <;> rw [h] <;> rfl
    rw [e, tStps_xor]
    simp only [tMul, ih (by omega), tMat_get j n (by omega), Int.toNat_natCast]
    cases hb : x.testBit n with
    | true => simp [Nat.xor_comm]
    | false => simp [tStps_of_zero]
theorem tMul_whole (j x : Nat) (hx : x < 4294967296) : tMul (tMat j) x 32 = tStps (8 * j) x := by
  rw [tMul_mat j x 32 (by omega), Nat.mod_eq_of_lt (by simpa using hx)]
theorem tMat_u32 (j : Nat) : U32L (tMat j) := by
  intro y hy
  unfold tMat at hy
  obtain ⟨i, hi, rfl⟩ := List.mem_map.1 hy
  have h1 := tStps_lt (8 * j) (tPow i (by simpa using hi))
  omega
theorem tSq_mat (j : Nat) : tSq (tMat j) = tMat (2 * j) := by
  unfold tSq
  conv => rhs; unfold tMat
  refine List.map_congr_left fun i hi => ?_
  have hi' : i < 32 := by simpa using hi
  rw [tMat_get j i hi', Int.toNat_natCast, tMul_whole j _ (tStps_lt _ (tPow i hi')), ← tStps_add, show 8 * j + 8 * j = 8 * (2 * j) by omega]
set_option maxHeartbeats 8000000 in
set_option maxRecDepth 100000 in
theorem thr_calls (x : Nat) (hx : x < 4294967296) (n : Int) (hn0 : -9223372036854775808 ≤ n) (hn1 : n ≤ 9223372036854775807) (w : World) :
    Calls Try.prog 39 #[.int .u32 (x : Int), .int .i64 n] w fun e w' => e = .returned (.int .u32 (tStps (8 * n.toNat) x : Nat)) ∧ Below w.heap.size w w' := by
  go_enter Try.func39, Try.ntmps39
  go_wp2
  go_loopw [9] (fun i wr => ∃ k : Nat, k ≤ 32 ∧ i = .int .i64 k ∧ Aside0 (wr.heap[w.heap.size]? = some (.cells (tArr ((tMat 1).take k ++ List.replicate (32 - k) 0)) 73 (0, 0)) ∧ Below w.heap.size w wr)) (fun i _ => 32 - (intOf i).toNat)
  case atStart => exact ⟨0, by omega, rfl, ⟨by exact heap_alloc_new w _, (Below.refl _ _).alloc (Nat.le_refl _) _⟩⟩
  case round =>
    obtain ⟨k, hk, rfl, HR⟩ := hrel
    by_cases hlt : k < 32
    · have hE : Go.bits .and .u32 (IntKind.u32.wrap (2 ^ min (IntKind.u64.wrap (k : Int)).toNat 32)) 255 = ((2 ^ k % 256 : Nat) : Int) := by
        have e1 : (IntKind.u64.wrap (k : Int)).toNat = k := by rw [IntKind.wrap_u64]; omega
        have hp := tPow k hlt
        rw [e1, Nat.min_eq_left (by omega), show ((2 : Int) ^ k) = ((2 ^ k : Nat) : Int) by push_cast; rfl, IntKind.wrap_u32]
        generalize 2 ^ k = p at hp ⊢
        rw [show (p : Int) % 4294967296 = (p : Int) by omega]
        have := u32_and_nat p 255 hp (by decide)
        rw [nat_mask8] at this
        exact this
      have HENT := Aside0.mk (fun W : World => crc_entry.calls 10 _ _ W (tEntry k hlt))
      have hck : wr.cell? ⟨w.heap.size, k, none⟩ = some (.int .u32 0) := by
        simp only [World.cell?, HR.out.1]
        exact tHalf_get _ (tMat_length 1) k hlt
      have hfk : wr.frozen? ⟨w.heap.size, k, none⟩ = false := blk_frozen HR.out.1 k
      have HEE := Aside0.mk hE
      obtain ⟨y, hy⟩ : ∃ y, y = tStps 8 (2 ^ k % 256) := ⟨_, rfl⟩
      rw [← hy] at HENT
      have HY := Aside0.mk hy
      clear hE hy
      by_cases h8 : k < 8
      · go_wp2
        go_region_with ((go_at_call 38; rw [HEE.out]; refine (HENT.out _).mono ?_; rintro e w2 ⟨rfl, ⟨nd, rfl⟩⟩))
        go_wp2
        go_roundw
        case rel =>
          refine ⟨k + 1, by omega, by go_num, ⟨?_, ?_⟩⟩
          · refine (blk_set (w := wr.drewN (1 + nd)) HR.out.1 k _).trans ?_
            rw [tFill (tMat 1) (tMat_length 1) k hlt _ (by rw [tMat_get 1 k hlt, HY.out, tLow k h8])]
          · exact (pw_below_drewN HR.out.2 (1 + nd)).setCell (Nat.le_refl _) _
        case measure => simp [intOf]; omega
      · go_wp2
        go_region_with ((go_at_call 38; rw [HEE.out]; refine (HENT.out _).mono ?_; rintro e w2 ⟨rfl, ⟨nd, rfl⟩⟩))
        go_wp2
        go_roundw
        case rel =>
          refine ⟨k + 1, by omega, by go_num, ⟨?_, ?_⟩⟩
          · refine (blk_set (blk_set (w := wr.drewN (1 + nd)) HR.out.1 k _) k _).trans ?_
            have hv : (2 : Int) ^ (k - 8) % 4294967296 = ((tStps (8 * 1) (2 ^ k) : Nat) : Int) := by
              rw [← tHigh k hlt (by omega), show ((2 : Int) ^ (k - 8)) = ((2 ^ (k - 8) : Nat) : Int) by push_cast; rfl]
              have := tPow (k - 8) (by omega)
              generalize 2 ^ (k - 8) = p at this ⊢
              omega
            rw [Array.setIfInBounds_setIfInBounds, hv, tFill (tMat 1) (tMat_length 1) k hlt _ (tMat_get 1 k hlt)]
          · exact ((pw_below_drewN HR.out.2 (1 + nd)).setCell (Nat.le_refl _) _).setCell (Nat.le_refl _) _
        case measure => simp [intOf]; omega
    · obtain rfl : k = 32 := by omega
      have HG := Aside0.mk (show wr.heap[w.heap.size]? = some (.cells (tArr (tMat 1)) 73 (0, 0)) ∧ Below w.heap.size w wr from by
        have := HR.out.1
        rw [List.take_of_length_le (by rw [tMat_length]; exact Nat.le_refl _)] at this
        exact ⟨by simpa using this, HR.out.2⟩)
      clear HR
      go_wp2
      go_loopw [0, 1, 5] (fun a b c wq => ∃ (y : Nat) (j : Nat) (nk : Int) (g : Nat), a = .int .u32 (y : Nat) ∧ b = .int .i64 nk ∧ c = .pointer (some ⟨g, 0, none⟩) ∧ -9223372036854775808 ≤ nk ∧ nk ≤ 9223372036854775807 ∧ Aside0 (y < 4294967296 ∧ tStps (8 * j * nk.toNat) y = tStps (8 * n.toNat) x ∧ wq.heap[g]? = some (.cells (tArr (tMat j)) 73 (0, 0)) ∧ Below w.heap.size w wq)) (fun _ b _ _ => (intOf b).toNat)
      case atStart => exact ⟨x, 1, n, w.heap.size, rfl, rfl, rfl, hn0, hn1, ⟨hx, by rw [Nat.mul_one], HG.out.1, HG.out.2⟩⟩
      case round =>
        clear HG
        obtain ⟨y, j, nk, g, rfl, rfl, rfl, hk0, hk1, HQ⟩ := hrel
        by_cases hp : 0 < nk
        · obtain ⟨p, rfl⟩ := Int.eq_ofNat_of_zero_le (by omega : 0 ≤ nk)
          have HSQ := Aside0.mk (fun (W : World) (h : W.heap[g]? = some (.cells (tArr (tMat j)) 73 (0, 0))) => square_calls g (tMat j) 73 (0, 0) W h (tMat_length j) (tMat_u32 j))
          have HTM := Aside0.mk (fun (W : World) (h : W.heap[g]? = some (.cells (tArr (tMat j)) 73 (0, 0))) => times_calls g (tMat j) 73 (0, 0) y W h (tMat_length j) (tMat_u32 j) HQ.out.1)
          have hp2 : p % 2 = 1 ∨ p % 2 = 0 := by omega
          rcases hp2 with ho | ho
          · have HO := Aside0.mk (show (Go.bits .and .i64 ((p : Nat) : Int) 1 == 1) = true from by
              rw [t_i64_and1, show ((p : Nat) : Int) % 2 = 1 by omega]
              rfl)
            have hbit := HO.out
            have hsh : ((p : Nat) : Int) / 2 = ((p / 2 : Nat) : Int) := by omega
            have HSH := Aside0.mk hsh
            clear hsh
            go_wp2_with (first | (go_at_call 49; refine (HTM.out wr HQ.out.2.2.1).mono ?_; rintro e w2 ⟨rfl, ⟨nd, rfl⟩⟩) | (go_at_call 50; refine (HSQ.out (wr.drewN nd) HQ.out.2.2.1).mono ?_; rintro e w3 ⟨g', rfl, hg', hb'⟩; have HG' := Aside0.mk hg'; have HB' := Aside0.mk hb'; clear hg' hb'))
            go_roundw
            case rel =>
              refine ⟨_, _, _, _, _, _, _, _, _, _, _, _, _, _, _, ⟨tMul (tMat j) y 32, 2 * j, ((p / 2 : Nat) : Int), g', rfl, ?_, rfl, by omega, by omega, ⟨?_, ?_, by rw [← tSq_mat]; exact HG'.out, ?_⟩⟩, rfl⟩
              · rw [← HSH.out]
              · exact tMul_lt _ (tMat_u32 j) (tMat_length j) y 32 (Nat.le_refl _)
              · rw [← HQ.out.2.1, Int.toNat_natCast, Int.toNat_natCast, tMul_whole j y HQ.out.1, ← tStps_add]
                congr 1
                rw [show p = 2 * (p / 2) + 1 by omega, Nat.mul_add, Nat.mul_one, show (2 * (p / 2) + 1) / 2 = p / 2 by omega, Nat.add_comm, Nat.mul_assoc 8 (2 * j), Nat.mul_assoc 8 j, Nat.mul_comm 2 j, Nat.mul_assoc j]
              · exact below_step' (pw_below_drewN HQ.out.2.2.2 nd) HB'.out
            case measure => simp [intOf]; omega
          · have HO := Aside0.mk (show (Go.bits .and .i64 ((p : Nat) : Int) 1 == 1) = false from by
              rw [t_i64_and1, show ((p : Nat) : Int) % 2 = 0 by omega]
              rfl)
            have hbit := HO.out
            have hsh : ((p : Nat) : Int) / 2 = ((p / 2 : Nat) : Int) := by omega
            have HSH := Aside0.mk hsh
            clear hsh
            go_wp2_with (first | (go_at_call 50; refine (HSQ.out wr HQ.out.2.2.1).mono ?_; rintro e w3 ⟨g', rfl, hg', hb'⟩; have HG' := Aside0.mk hg'; have HB' := Aside0.mk hb'; clear hg' hb'))
            go_roundw
            case rel =>
              refine ⟨_, _, _, _, _, _, _, _, _, _, _, _, _, _, _, ⟨y, 2 * j, ((p / 2 : Nat) : Int), g', rfl, ?_, rfl, by omega, by omega, ⟨?_, ?_, by rw [← tSq_mat]; exact HG'.out, ?_⟩⟩, rfl⟩
              · rw [← HSH.out]
              · exact HQ.out.1
              · rw [← HQ.out.2.1, Int.toNat_natCast, Int.toNat_natCast]
                congr 1
                rw [show p = 2 * (p / 2) by omega, show 2 * (p / 2) / 2 = p / 2 by omega, Nat.mul_assoc 8 (2 * j), Nat.mul_assoc 8 j, Nat.mul_comm 2 j, Nat.mul_assoc j]
              · exact below_step' HQ.out.2.2.2 HB'.out
            case measure => simp [intOf]; omega
        · go_wp2
          go_ret
          have h0 : nk.toNat = 0 := by omega
          have := HQ.out.2.1
          rw [h0, Nat.mul_zero] at this
          exact ⟨by rw [← this]; rfl, HQ.out.2.2.2⟩
def crc_through.f (a0 a1 : Int) : Option Int := if 0 ≤ a0 ∧ a0 ≤ 4294967295 ∧ -9223372036854775808 ≤ a1 ∧ a1 ≤ 9223372036854775807 then some ((tStps (8 * a1.toNat) a0.toNat : Nat) : Int) else none
theorem crc_through.calls (a0 : Int) (a1 : Int) (r : Int) (w : World) (h : crc_through.f a0 a1 = some r) :
    Calls Try.prog 39 #[.int .u32 a0, .int .i64 a1] w fun e w' => e = .returned (.int .u32 r) ∧ Below w.heap.size w w' := by
  unfold crc_through.f at h
  split at h
  · rename_i hc
    obtain rfl := Option.some.inj h
    obtain ⟨x, rfl⟩ := Int.eq_ofNat_of_zero_le hc.1
    exact thr_calls x (by omega) a1 hc.2.2.1 hc.2.2.2 w
  · cases h

/-! ### crc_Join: function 27 -/
def crc_Join.f (a0 : Int) (a1 : Int) (a2 : Int) : Option (Int) := (crc_through.f a0 a2).bind fun t106 => (some (Go.bits .xor .u32 t106 a1))
set_option maxHeartbeats 8000000 in
set_option maxRecDepth 100000 in
theorem crc_Join.calls (a0 : Int) (a1 : Int) (a2 : Int) (r : Int) (w : World) (h : crc_Join.f a0 a1 a2 = some r) :
    Calls Try.prog 27 #[.int .u32 a0, .int .u32 a1, .int .i64 a2] w fun e w' => e = .returned (.int .u32 r) ∧ Below w.heap.size w w' := by
  have HB := Aside0.mk (Below.refl w.heap.size w)
  have H : ((crc_through.f a0 a2).bind fun t106 => (some (Go.bits .xor .u32 t106 a1))) = some r := h
  clear h
  replace H := Option.bind_eq_some_iff.mp H
  obtain ⟨t106, A40, H⟩ := H
  replace H : (some (Go.bits .xor .u32 t106 a1)) = some r := H
  have A4 := Aside0.mk A40
  clear A40
  obtain rfl := Option.some.inj H
  go_enter Try.func27, Try.ntmps27
  go_wp2_with (first | ((with_reducible refine gate_callee (f := 39) rfl ?_); refine goesL_ (some 9) rfl rfl Try.func39 (by kernel_rfl) rfl #[.int .u32 a0, .int .i64 a2] rfl (by (try simp only [List.map_toArray, List.map_cons, List.map_nil]); first | done | rfl | (simp only [List.length_drop, List.length_take]; rfl)) ?_; (with_reducible refine (crc_through.calls a0 a2 t106 _ A4.out).mono ?_); rintro e w5 ⟨rfl, hb⟩; refine ⟨_, rfl, ?_⟩; have n0_ := Aside0.mk (below_step (by repeat (first | (with_reducible first | exact HB.out | apply below_alloc | apply pw_below_drewN | apply below_drew1) | exact HB.out)) hb); clear HB; have HB := n0_; clear n0_; (try clear hb); (try clear hb2); (try clear hk); (try clear hi)))
  go_ret
  exact ⟨by first | rfl | (simp [errW_none, errW_some] <;> rfl) | (simp [*, errW_none, errW_some] <;> rfl), by repeat (first | (with_reducible first | exact HB.out | apply below_alloc | apply pw_below_drewN | apply below_drew1) | exact HB.out)⟩

/-! ### crc_Zeros: function 28 -/
def crc_Zeros.f (a0 : Int) (a1 : Int) : Option (Int) := (crc_through.f (Go.bits .xor .u32 4294967295 a0) a1).bind fun t107 => (some (Go.bits .xor .u32 4294967295 t107))
set_option maxHeartbeats 8000000 in
set_option maxRecDepth 100000 in
theorem crc_Zeros.calls (a0 : Int) (a1 : Int) (r : Int) (w : World) (h : crc_Zeros.f a0 a1 = some r) :
    Calls Try.prog 28 #[.int .u32 a0, .int .i64 a1] w fun e w' => e = .returned (.int .u32 r) ∧ Below w.heap.size w w' := by
  have HB := Aside0.mk (Below.refl w.heap.size w)
  have H : ((crc_through.f (Go.bits .xor .u32 4294967295 a0) a1).bind fun t107 => (some (Go.bits .xor .u32 4294967295 t107))) = some r := h
  clear h
  replace H := Option.bind_eq_some_iff.mp H
  obtain ⟨t107, A30, H⟩ := H
  replace H : (some (Go.bits .xor .u32 4294967295 t107)) = some r := H
  have A3 := Aside0.mk A30
  clear A30
  obtain rfl := Option.some.inj H
  go_enter Try.func28, Try.ntmps28
  go_wp2_with (first | ((with_reducible refine gate_callee (f := 39) rfl ?_); refine goesL_ (some 8) rfl rfl Try.func39 (by kernel_rfl) rfl #[.int .u32 (Go.bits .xor .u32 4294967295 a0), .int .i64 a1] rfl (by (try simp only [List.map_toArray, List.map_cons, List.map_nil]); first | done | rfl | (simp only [List.length_drop, List.length_take]; rfl)) ?_; (with_reducible refine (crc_through.calls (Go.bits .xor .u32 4294967295 a0) a1 t107 _ A3.out).mono ?_); rintro e w4 ⟨rfl, hb⟩; refine ⟨_, rfl, ?_⟩; have n0_ := Aside0.mk (below_step (by repeat (first | (with_reducible first | exact HB.out | apply below_alloc | apply pw_below_drewN | apply below_drew1) | exact HB.out)) hb); clear HB; have HB := n0_; clear n0_; (try clear hb); (try clear hb2); (try clear hk); (try clear hi)))
  go_ret
  exact ⟨by first | rfl | (simp [errW_none, errW_some] <;> rfl) | (simp [*, errW_none, errW_some] <;> rfl), by repeat (first | (with_reducible first | exact HB.out | apply below_alloc | apply pw_below_drewN | apply below_drew1) | exact HB.out)⟩

end Go.Proofs.Ytaiiegbhbadciaa.PF07J
