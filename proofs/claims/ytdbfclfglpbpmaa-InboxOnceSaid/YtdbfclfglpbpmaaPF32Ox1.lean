/- By a program of this session (wip/tool/pp.py): plain Lean functions of the Go functions that this family of laws uses, the walks that the Go code comes to their answers, and the row of the law. No condition beside those that the row itself gives. -/
import Derived.Test.YtdbfclfglpbpmaaPF32Ox0
namespace Go.Proofs.Ytdbfclfglpbpmaa.PF32O
open Go.RowKit Go.Proofs.YtdbfclfglpbpmaaW.Hand Go.Proofs.YtdbfclfglpbpmaaW.PrintWords Go.Proofs.YtdbfclfglpbpmaaW.PrintLast Go.Proofs.YtdbfclfglpbpmaaW.PrintMore
attribute [local go_sem] max2_int min2_int max_two min_two max_three min_three max_four min_four   -- for this text's walks alone
set_option linter.unusedVariables false
set_option linter.unusedSimpArgs false

/-! ### batonref01_Same: function 19 -/
def batonref01_Same.l0 : Nat → List Int → List Int → Int → Option (Bool)
  | 0, _, _, _ => none
  | k + 1, x0, x1, x5 => if x5 < (x0.length : Int) then (if 0 ≤ x5 then (if x5 < (x1.length : Int) then (if (rd x0 x5) = (rd x1 x5) then (batonref01_Same.l0 k x0 x1 (wrap64 (x5 + 1))) else (some false)) else (none)) else (none)) else (some true)
def batonref01_Same.f (k : Nat) (l0 : List Int) (l1 : List Int) : Option (Bool) := if (l0.length : Int) = (l1.length : Int) then (batonref01_Same.l0 k l0 l1 0) else (some false)
theorem batonref01_Same.mono_l : ∀ k, (∀ y0 y1 y2, LeO (batonref01_Same.l0 k y0 y1 y2) (batonref01_Same.l0 (k + 1) y0 y1 y2))
  | 0 => fun _ _ _ r h => by simp [batonref01_Same.l0] at h
  | k + 1 => by
    have ih0 := batonref01_Same.mono_l k
    · intro y0 y1 y2
      unfold batonref01_Same.l0
      repeat' first
      | (with_reducible exact ih0 _ _ _)
      | (with_reducible exact LeO.refl _)
      | (with_reducible exact LeO.none _)
      | (with_reducible refine LeO.ite ?_ ?_)
      | (with_reducible refine LeO.bind ?_ (fun _ => ?_))
      | exact ih0 _ _ _
      | exact LeO.none _
      | refine LeO.ite ?_ ?_
      | refine LeO.bind ?_ (fun _ => ?_)
theorem batonref01_Same.mono : ∀ a0 a1 k, LeO (batonref01_Same.f k a0 a1) (batonref01_Same.f (k + 1) a0 a1) := by
  intro a0 a1 k
  have ih0 := batonref01_Same.mono_l k
  unfold batonref01_Same.f
  repeat' first
      | (with_reducible exact ih0 _ _ _)
      | (with_reducible exact LeO.refl _)
      | (with_reducible exact LeO.none _)
      | (with_reducible refine LeO.ite ?_ ?_)
      | (with_reducible refine LeO.bind ?_ (fun _ => ?_))
      | exact ih0 _ _ _
      | exact LeO.none _
      | refine LeO.ite ?_ ?_
      | refine LeO.bind ?_ (fun _ => ?_)
set_option maxHeartbeats 8000000 in
set_option maxRecDepth 100000 in
theorem batonref01_Same.calls (k : Nat) (A0 : Option Addr) (c0 : Nat) (l0 : List Int) (A1 : Option Addr) (c1 : Nat) (l1 : List Int) (r : Bool) (w : World) (hr0 : Kd.C (Kd.int .u8) w A0 l0.length l0) (hc0 : l0.length ≤ c0) (hr1 : Kd.C (Kd.int .u8) w A1 l1.length l1) (hc1 : l1.length ≤ c1) (h : batonref01_Same.f k l0 l1 = some r) :
    Calls Try.prog 19 #[.slice A0 l0.length c0, .slice A1 l1.length c1] w fun e w' => e = .returned (.bool r) ∧ Drawn0 w w' := by
  have HR0 := Aside0.mk hr0
  have HC0 := Aside0.mk hc0
  clear hr0 hc0
  have HR1 := Aside0.mk hr1
  have HC1 := Aside0.mk hc1
  clear hr1 hc1
  have H : (if (l0.length : Int) = (l1.length : Int) then (batonref01_Same.l0 k l0 l1 0) else (some false)) = some r := h
  clear h
  by_cases c3 : (l0.length : Int) = (l1.length : Int)
  · rw [if_pos c3] at H
    have c3b0 : ((l0.length : Int) == (l1.length : Int)) = true := beq_iff_eq.mpr c3
    have c3b1 : ((l0.length : Int) != (l1.length : Int)) = false := bne_eq_false_iff_eq.mpr c3
    have c3b2 : (l0.length == l1.length) = true := by first | simpa using c3 | (simp at c3 ⊢; omega)
    clear c3
    have H' := Aside0.mk H
    clear H
    go_enter Try.func19, Try.ntmps19
    go_wp2
    repeat (go_quiet (fail); try go_wp2)
    go_loopg [5] k (fun kq v5 w' => ∃ (x5_1 : Int), v5 = .int .i64 x5_1 ∧ Aside0 (batonref01_Same.l0 kq l0 l1 x5_1 = some r) ∧ Aside0 (kq ≤ k) ∧ Drawn0 w w')
    case atStart => exact ⟨(0), (by first | rfl | (simp; done) | (simp [*]; done)), H', ⟨Nat.le_refl _⟩, by repeat (first | exact Drawn0.refl _ | apply Drawn0.step)⟩
    case round =>
      clear H'
      try clear c1
      try clear p2
      try clear c3
      try clear c3b0
      try clear c3b1
      try clear c3b2
      obtain ⟨x5_1, rfl, HA, HK1, ⟨m1, rfl⟩⟩ := hrel
      cases gk with
      | zero => exact absurd HA.out (by simp [batonref01_Same.l0])
      | succ k1 =>
        have H := HA.out
        clear HA
        simp only [batonref01_Same.l0] at H
        by_cases c4 : x5_1 < (l0.length : Int)
        · rw [if_pos c4] at H
          have c4b0 : decide (x5_1 < (l0.length : Int)) = true := decide_eq_true c4
          clear c4
          by_cases c5 : 0 ≤ x5_1
          · rw [if_pos c5] at H
            have c5b0 : decide (0 ≤ x5_1) = true := decide_eq_true c5
            clear c5
            by_cases c6 : x5_1 < (l1.length : Int)
            · rw [if_pos c6] at H
              have c6b0 : decide (x5_1 < (l1.length : Int)) = true := decide_eq_true c6
              clear c6
              by_cases c7 : (rd l0 x5_1) = (rd l1 x5_1)
              · rw [if_pos c7] at H
                have c7b0 : ((rd l0 x5_1) == (rd l1 x5_1)) = true := beq_iff_eq.mpr c7
                have c7b1 : ((rd l0 x5_1) != (rd l1 x5_1)) = false := bne_eq_false_iff_eq.mpr c7
                clear c7
                have H' := Aside0.mk H
                clear H
                have p101 : 0 ≤ (x5_1 : Int) := of_decide_eq_true (by first | (with_reducible assumption) | assumption)
                have q101 : x5_1 < (l0.length : Int) := of_decide_eq_true (by first | (with_reducible assumption) | assumption)
                obtain ⟨ad101, e101, hx101_0⟩ := Kd.at_int HR0.out x5_1 p101 q101
                cases e101
                replace p101 := eq_true p101
                replace q101 := eq_true q101
                have p102 : 0 ≤ (x5_1 : Int) := of_decide_eq_true (by first | (with_reducible assumption) | assumption)
                have q102 : x5_1 < (l1.length : Int) := of_decide_eq_true (by first | (with_reducible assumption) | assumption)
                obtain ⟨ad102, e102, hx102_0⟩ := Kd.at_int HR1.out x5_1 p102 q102
                cases e102
                replace p102 := eq_true p102
                replace q102 := eq_true q102
                go_wp2
                repeat (go_quiet (fail); try go_wp2)
                go_roundg k1
                case measure => have := HK1.out; omega
                case rel => exact ⟨(wrap64 (x5_1 + 1)), (by first | rfl | (simp; done) | (simp [*]; done)), H', ⟨by have := HK1.out; omega⟩, by repeat (first | exact Drawn0.refl _ | apply Drawn0.step)⟩
              · rw [if_neg c7] at H
                have c7b0 : ((rd l0 x5_1) == (rd l1 x5_1)) = false := beq_eq_false_iff_ne.mpr c7
                have c7b1 : ((rd l0 x5_1) != (rd l1 x5_1)) = true := bne_iff_ne.mpr c7
                obtain rfl := Option.some.inj H
                have p101 : 0 ≤ (x5_1 : Int) := of_decide_eq_true (by first | (with_reducible assumption) | assumption)
                have q101 : x5_1 < (l0.length : Int) := of_decide_eq_true (by first | (with_reducible assumption) | assumption)
                obtain ⟨ad101, e101, hx101_0⟩ := Kd.at_int HR0.out x5_1 p101 q101
                cases e101
                replace p101 := eq_true p101
                replace q101 := eq_true q101
                have p102 : 0 ≤ (x5_1 : Int) := of_decide_eq_true (by first | (with_reducible assumption) | assumption)
                have q102 : x5_1 < (l1.length : Int) := of_decide_eq_true (by first | (with_reducible assumption) | assumption)
                obtain ⟨ad102, e102, hx102_0⟩ := Kd.at_int HR1.out x5_1 p102 q102
                cases e102
                replace p102 := eq_true p102
                replace q102 := eq_true q102
                go_wp2
                repeat (go_quiet (fail); try go_wp2)
                go_ret
                exact ⟨by first | rfl | (simp; done) | (simp [*]; done), by repeat (first | exact Drawn0.refl _ | apply Drawn0.step)⟩
            · rw [if_neg c6] at H
              exact absurd H (by simp)
          · rw [if_neg c5] at H
            exact absurd H (by simp)
        · rw [if_neg c4] at H
          have c4b0 : decide (x5_1 < (l0.length : Int)) = false := decide_eq_false c4
          clear c4
          obtain rfl := Option.some.inj H
          go_wp2
          repeat (go_quiet (fail); try go_wp2)
          go_ret
          exact ⟨by first | rfl | (simp; done) | (simp [*]; done), by repeat (first | exact Drawn0.refl _ | apply Drawn0.step)⟩
  · rw [if_neg c3] at H
    have c3b0 : ((l0.length : Int) == (l1.length : Int)) = false := beq_eq_false_iff_ne.mpr c3
    have c3b1 : ((l0.length : Int) != (l1.length : Int)) = true := bne_iff_ne.mpr c3
    have c3b2 : (l0.length == l1.length) = false := by first | simpa using c3 | (simp at c3 ⊢; omega)
    obtain rfl := Option.some.inj H
    go_enter Try.func19, Try.ntmps19
    go_wp2
    repeat (go_quiet (fail); try go_wp2)
    go_ret
    exact ⟨by first | rfl | (simp; done) | (simp [*]; done), by repeat (first | exact Drawn0.refl _ | apply Drawn0.step)⟩

/-! ### inbox_Held_73: function 73 (by hand) -/
def inbox_Held_73.f (l0 : List (S142)) : Option (List (S142)) := if l0.length < 8796093022208 then some l0 else none
set_option maxHeartbeats 8000000 in
set_option maxRecDepth 100000 in
theorem inbox_Held_73.calls (A0 : Option Addr) (c0 : Nat) (l0 : List (S142)) (r : List (S142)) (w : World) (hr0 : Kd.C k142 w A0 l0.length l0) (hc0 : l0.length ≤ c0) (h : inbox_Held_73.f l0 = some r) :
    Calls Try.prog 73 #[.slice A0 l0.length c0] w fun e w' => ∃ v0_ : Value, e = .returned (v0_) ∧ Kd.R k142 142 w' w.heap.size (fun _ => True) v0_ r ∧ Below w.heap.size w w' := by
  unfold inbox_Held_73.f at h
  split at h
  · rename_i hlim
    obtain rfl := Option.some.inj h
    clear h
    have HL := Aside0.mk hlim
    clear hlim
    have HB := Aside0.mk (Below.refl w.heap.size w)
    have HR := Aside0.mk hr0
    clear hr0 hc0
    rcases A0 with _ | ad
    · obtain rfl := C_none HR.out
      have hq := fun (W : World) => Lib.run_eql_slice_nil (P := Try.prog) W 66 142 none 0 c0 0 0 Try.underlying66
      go_enter Try.func73, Try.ntmps73
      go_wp2
      go_ret
      exact ⟨_, rfl, Kd.R_nil _ _ _ _ _, HB.out⟩
    · have hq := fun (W : World) => Lib.run_eql_slice_nil (P := Try.prog) W 66 142 (some ad) l0.length c0 0 0 Try.underlying66
      go_enter Try.func73, Try.ntmps73
      go_wp2_with (first | ((with_reducible refine gate_dst (N := 5) rfl ?_); refine Kd.R_lit k142 (w0 := w) w.heap.size 142 ?hg (N := 5) ?hd (xs := []) (inner := []) (ok := fun _ => True) (okp := fun _ => True) ?hr ?hp (fun _ hk => hk) trivial HB.out (Nat.le_refl _) (by simp) ?_; (case hd => rfl); (case hg => rfl); (case hr => first | (go_simp; done) | (go_simp; rfl)); (case hp => exact Reps.none _ _); intro v1 w1 ho hb hg hat; have HO := Aside0.mk ho; have HB1 := Aside0.mk hb; clear ho hb hg hat) | ((with_reducible refine gate_dst (N := 7) rfl ?_); refine Kd.R_append_rows k142 (w0 := w) w.heap.size rfl (.tmp 5) (.tmp 6) 66 142 (.agg #[(.int .i64 0), (.int .u8 0)]) 16 rfl Try.underlying66 info142 rfl (by decide) (by omega) v1 [] l0 _ _ _ (fun _ => True) (fun _ => False) rfl rfl HO.out (Kd.C_below HR.out HB1.out) (fun _ _ h => h) (fun _ h => h.elim) (fun _ _ => trivial) HB1.out HB1.out.size (by have := HL.out; simp only [List.length_nil]; omega) ?_; intro v2 w2 ho hb hg hat; have HO2 := Aside0.mk ho; have HB2 := Aside0.mk hb; clear ho hb hg hat))
      go_ret
      exact ⟨_, rfl, HO2.out, HB2.out⟩
  · cases h

/-! ### inbox_Held_int: function 98, with the order of the first field (by hand) -/
def cmp3 (x y : Int) : Int := if x < y then -1 else if y < x then 1 else 0
set_option maxHeartbeats 8000000 in
set_option maxRecDepth 100000 in
theorem inbox_Held_int_nan.calls (x : Int) (w : World) : Calls Try.prog 112 #[.int .i64 x] w fun e w' => e = .returned (.bool false) ∧ Below w.heap.size w w' := by
  go_enter Try.func112, Try.ntmps112
  go_wp2
  go_ret
  exact ⟨by first | rfl | simp, by repeat (first | exact Below.refl _ _ | apply Below.drew | refine Below.alloc ?_ (Nat.le_refl _) _)⟩
set_option maxHeartbeats 8000000 in
set_option maxRecDepth 100000 in
theorem inbox_Held_int_cmp.calls (x y : Int) (w : World) : Calls Try.prog 100 #[.int .i64 x, .int .i64 y] w fun e w' => e = .returned (.int .i64 (cmp3 x y)) ∧ Below w.heap.size w w' := by
  have key : ∀ (b1 b2 : Bool), decide (x < y) = b1 → decide (y < x) = b2 → cmp3 x y = if b1 = true then -1 else if b2 = true then 1 else 0 := by
    rintro b1 b2 rfl rfl
    unfold cmp3
    simp
  obtain ⟨b1, h1⟩ : ∃ b, decide (x < y) = b := ⟨_, rfl⟩
  obtain ⟨b2, h2⟩ : ∃ b, decide (y < x) = b := ⟨_, rfl⟩
  rw [key b1 b2 h1 h2]
  clear key
  have HB0 := Aside0.mk (Below.refl w.heap.size w)
  cases b1 <;> cases b2 <;> (
    go_enter Try.func100, Try.ntmps100
    go_wp2_with (first | (go_at_call 112; refine (inbox_Held_int_nan.calls x _).mono ?_; rintro e w1 ⟨rfl, hb1⟩; have HB1 := Aside0.mk (HB0.out.trans hb1); clear hb1) | (go_at_call 112; refine (inbox_Held_int_nan.calls y _).mono ?_; rintro e w2 ⟨rfl, hb2⟩; have HB2 := Aside0.mk (HB1.out.trans (hb2.mono HB1.out.size)); clear hb2))
    go_ret
    exact ⟨rfl, HB2.out⟩)
set_option maxHeartbeats 8000000 in
set_option maxRecDepth 100000 in
theorem inbox_Held_int_1.calls (x : S142) (id : Int) (w : World) : Calls Try.prog 99 #[.agg #[.int .i64 x.f0, .int .u8 x.f1], .int .i64 id] w fun e w' => e = .returned (.int .i64 (cmp3 x.f0 id)) ∧ Below w.heap.size w w' := by
  have HB0 := Aside0.mk (Below.refl w.heap.size w)
  go_enter Try.func99, Try.ntmps99
  go_wp2_with (go_at_call 100; refine (inbox_Held_int_cmp.calls x.f0 id _).mono ?_; rintro e w1 ⟨rfl, hb1⟩)
  go_ret
  exact ⟨rfl, by first | exact hb1 | exact (Below.alloc HB0.out (Nat.le_refl _) _).trans (hb1.mono (by simp))⟩
def bsI (id : Int) (l : List S142) : Nat → Int → Int → Int
  | 0, i, _ => i
  | d + 1, i, j => if i < j then (if (rd_T142 l ((i + j) / 2)).f0 < id then bsI id l d ((i + j) / 2 + 1) j else bsI id l d i ((i + j) / 2)) else i
theorem cmp3_neg (x y : Int) : decide (cmp3 x y < 0) = decide (x < y) := by
  unfold cmp3
  split
  · rename_i h; simp [h]
  · rename_i h
    split <;> simp [h]
theorem cmp3_zero (x y : Int) : (cmp3 x y == 0) = (x == y) := by
  unfold cmp3
  split
  · rename_i h
    rw [beq_eq_false_iff_ne.2 (show (-1 : Int) ≠ 0 by decide), eq_comm]
    exact beq_eq_false_iff_ne.2 (by omega)
  · rename_i h
    split
    · rename_i h2
      rw [beq_eq_false_iff_ne.2 (show (1 : Int) ≠ 0 by decide), eq_comm]
      exact beq_eq_false_iff_ne.2 (by omega)
    · rename_i h2
      rw [beq_iff_eq.2 (show (0 : Int) = 0 from rfl), eq_comm]
      exact beq_iff_eq.2 (by omega)
def inbox_Held_int.f (l0 : List S142) (a1 : Int) : Option (Int × Bool) := if l0.length < 1000000000 then some (bsI a1 l0 l0.length 0 (l0.length : Int), decide (bsI a1 l0 l0.length 0 (l0.length : Int) < (l0.length : Int)) && (rd_T142 l0 (bsI a1 l0 l0.length 0 (l0.length : Int))).f0 == a1) else none
theorem mid_u64 (i j : Int) (h0 : 0 ≤ i) (h1 : i ≤ j) (h2 : j < 1000000000) : wrap64 (i + j) = i + j ∧ IntKind.u64.wrap (i + j) = i + j ∧ wrap64 ((i + j) / 2) = (i + j) / 2 := by
  refine ⟨by unfold wrap64; omega, by rw [IntKind.wrap_u64]; omega, by unfold wrap64; omega⟩
set_option maxHeartbeats 8000000 in
set_option maxRecDepth 100000 in
theorem inbox_Held_int.calls (A0 : Option Addr) (c0 : Nat) (l0 : List S142) (a1 : Int) (r1 : Int) (r2 : Bool) (w : World) (hr0 : Kd.C k142 w A0 l0.length l0) (hc0 : l0.length ≤ c0) (h : inbox_Held_int.f l0 a1 = some (r1, r2)) :
    Calls Try.prog 98 #[.slice A0 l0.length c0, .int .i64 a1, .func (.func 99) #[] #[]] w fun e w' => e = .returned (.tuple #[.int .i64 r1, .bool r2]) ∧ Below w.heap.size w w' := by
  unfold inbox_Held_int.f at h
  split at h
  · rename_i hlim
    simp only [Option.some.injEq, Prod.mk.injEq] at h
    obtain ⟨rfl, rfl⟩ := h
    have hu142 := Try.underlying142
    have eg : ∀ args w, (callFunc 99 args).run Try.prog w = .ok (.enter 99 args) w := enters_of Try.func99 (by kernel_rfl) rfl
    have HR0 := Aside0.mk hr0
    have HM := Aside0.mk hlim
    clear hr0 hlim hc0
    have HB := Aside0.mk (Below.refl w.heap.size w)
    go_enter Try.func98, Try.ntmps98
    go_wp2
    go_loopg [9, 10, 11] l0.length (fun gg v9 v10 _ w' => ∃ (i j : Int) (d : Nat), v9 = .int .i64 i ∧ v10 = .int .i64 j ∧ Aside0 (0 ≤ i ∧ i ≤ j ∧ j ≤ (l0.length : Int)) ∧ Aside0 ((j - i).toNat ≤ gg ∧ (j - i).toNat ≤ d) ∧ Aside0 (bsI a1 l0 l0.length 0 (l0.length : Int) = bsI a1 l0 d i j) ∧ Aside0 (Below w.heap.size w w'))
    case atStart => exact ⟨0, (l0.length : Int), l0.length, rfl, rfl, ⟨by omega⟩, ⟨by omega⟩, ⟨rfl⟩, HB⟩
    case round =>
      obtain ⟨i, j, d, rfl, rfl, HX, HG, HI, HB⟩ := hrel
      by_cases hlt : i < j
      · have b0 : decide (i < j) = true := decide_eq_true hlt
        have hx := HX.out
        have hm := HM.out
        obtain ⟨d', rfl⟩ : ∃ d', d = d' + 1 := ⟨d - 1, by have := HG.out.2; omega⟩
        have HW := Aside0.mk (mid_u64 i j hx.1 hx.2.1 (by omega))
        obtain ⟨ad, e1, hx0, hx1⟩ := at_T142 HR0.out ((i + j) / 2) (by omega) (by omega)
        cases e1
        replace hx0 := (HB.out.cell (World.block_lt_of_cell? w _ hx0)).trans hx0
        replace hx1 := (HB.out.cell (World.block_lt_of_cell? w _ hx1)).trans hx1
        have px : (0 ≤ (i + j) / 2) = True := eq_true (by omega)
        have qx : ((i + j) / 2 < (l0.length : Int)) = True := eq_true (by omega)
        have HQ := Aside0.mk (show i ≤ (i + j) / 2 ∧ (i + j) / 2 < j from by omega)
        have HD := Aside0.mk (show bsI a1 l0 l0.length 0 (l0.length : Int) = if (rd_T142 l0 ((i + j) / 2)).f0 < a1 then bsI a1 l0 d' ((i + j) / 2 + 1) j else bsI a1 l0 d' i ((i + j) / 2) from HI.out.trans (if_pos hlt))
        have hcall := fun W => inbox_Held_int_1.calls (rd_T142 l0 ((i + j) / 2)) a1 W
        have HL := Aside0.mk hlt
        clear hlt hx hm
        generalize rd_T142 l0 ((i + j) / 2) = y at hx0 hx1 HD hcall
        have hc3 := cmp3_neg y.f0 a1
        cases hq : decide (y.f0 < a1) with
        | true =>
          rw [hq] at hc3
          obtain ⟨m1, m2, m3⟩ := HW.out
          have m1' := (i64_w _).trans m1
          have m3' := (i64_w _).trans m3
          go_wp2_with (go_at_call 99; refine (hcall _).mono ?_; rintro e w' ⟨rfl, hb'⟩; have HB2 := Aside0.mk (HB.out.trans (hb'.mono HB.out.size)); clear hb')
          go_roundg ((j - ((i + j) / 2 + 1)).toNat)
          case measure => have := HG.out; have := HQ.out; omega
          case rel =>
            have hx := HX.out
            have hQ := HQ.out
            have hm := HM.out
            have hg := HG.out
            have hw : wrap64 ((i + j) / 2 + 1) = (i + j) / 2 + 1 := by unfold wrap64; omega
            refine ⟨wrap64 ((i + j) / 2 + 1), j, d', (by first | rfl | (simp; done) | (simp [*]; done)), rfl, ⟨by rw [hw]; omega⟩, ⟨by rw [hw]; omega⟩, ⟨?_⟩, HB2⟩
            rw [hw, HD.out, if_pos (of_decide_eq_true hq)]
        | false =>
          rw [hq] at hc3
          obtain ⟨m1, m2, m3⟩ := HW.out
          have m1' := (i64_w _).trans m1
          have m3' := (i64_w _).trans m3
          go_wp2_with (go_at_call 99; refine (hcall _).mono ?_; rintro e w' ⟨rfl, hb'⟩; have HB2 := Aside0.mk (HB.out.trans (hb'.mono HB.out.size)); clear hb')
          go_roundg ((((i + j) / 2) - i).toNat)
          case measure => have := HG.out; have := HQ.out; omega
          case rel =>
            have hx := HX.out
            have hQ := HQ.out
            have hg := HG.out
            refine ⟨i, (i + j) / 2, d', rfl, (by first | rfl | (simp; done) | (simp [*]; done)), ⟨by omega⟩, ⟨by omega⟩, ⟨?_⟩, HB2⟩
            rw [HD.out, if_neg (of_decide_eq_false hq)]
      · have b0 : decide (i < j) = false := decide_eq_false hlt
        have hI : bsI a1 l0 l0.length 0 (l0.length : Int) = i := by
          rw [HI.out]
          cases d with
          | zero => rfl
          | succ d => exact if_neg hlt
        have HI2 := Aside0.mk hI
        have HX2 := Aside0.mk HX.out
        clear hlt HI HX HG hI
        by_cases hn : i < (l0.length : Int)
        · have b1 : decide (i < (l0.length : Int)) = true := decide_eq_true hn
          obtain ⟨ad, e1, hx0, hx1⟩ := at_T142 HR0.out i HX2.out.1 hn
          cases e1
          replace hx0 := (HB.out.cell (World.block_lt_of_cell? w _ hx0)).trans hx0
          replace hx1 := (HB.out.cell (World.block_lt_of_cell? w _ hx1)).trans hx1
          have px : (0 ≤ i) = True := eq_true HX2.out.1
          have qx : (i < (l0.length : Int)) = True := eq_true hn
          have hcall := fun W => inbox_Held_int_1.calls (rd_T142 l0 i) a1 W
          clear hn
          obtain ⟨y, hy⟩ : ∃ y, rd_T142 l0 i = y := ⟨_, rfl⟩
          have HY := Aside0.mk hy
          rw [hy] at hx0 hx1 hcall
          clear hy
          have hc3 := cmp3_zero y.f0 a1
          go_wp2_with (go_at_call 99; refine (hcall _).mono ?_; rintro e w' ⟨rfl, hb'⟩; have HB2 := Aside0.mk (HB.out.trans (hb'.mono HB.out.size)); clear hb')
          go_ret2
          refine ⟨?_, HB2.out⟩
          rw [HI2.out, HY.out]
          first | rfl | (simp [b1, hc3]; done)
        · have b1 : decide (i < (l0.length : Int)) = false := decide_eq_false hn
          clear hn
          go_wp2
          go_ret2
          refine ⟨?_, HB.out⟩
          rw [HI2.out]
          first | rfl | (simp [b1]; done)
  · cases h

-- NOT PRINTED: function 113 (inbox_Held_113)

-- NOT PRINTED: function 134 (inbox_Held_134)

-- NOT PRINTED: function 121 (inbox_Held_121)

-- NOT PRINTED: function 114 (inbox_Held_114)

/-! ### inbox_Held_101: function 101, of one element (by hand) -/
/-- copy of whole elements, into a row that has room for them. -/
theorem run_copy_sz {P : Program} (w : World) (dT sT ty elem : TypeId) (b o dLen dCap : Nat) (a : Addr) (sLen sCap size m : Nat) (cs : List Value) (hu : P.underlying dT = some (.slice elem)) (hs : (P.info? elem).map (·.size) = some size) (hm : Nat.min sLen dLen = m) (hn : cs.length = m * size)
    (hsrc : ∀ j v, cs[j]? = some v → w.cell? (a.add j) = some v) (hsp : ∀ j, j < cs.length → (w.cell? ⟨b, o + j, none⟩).isSome = true) (hfz : ∀ j, j < cs.length → w.frozen? ⟨b, o + j, none⟩ = false) (h1 : ∀ v ∈ cs, v.oneCell' = true) :
    (Builtin.copy_ #[dT, sT] ty #[.slice (some ⟨b, o, none⟩) dLen dCap, .slice (some a) sLen sCap]).run P w = .ok (goInt m) (w.setCells b o cs) := by
  have hl := run_loadCells_list (P := P) w a cs hsrc
  have hst := run_storeCells_cells (P := P) b o cs 0 w (by simpa using hsp) (by simpa using hfz) h1
  simp only [Nat.add_zero] at hst
  cases hq : P.info? elem with
  | none => simp [hq] at hs
  | some i =>
    have hi : i.size = size := by simpa [hq] using hs
    rw [hn] at hl
    simp [Builtin.copy_, run_underlying hu, Builtin.lenOf, Builtin.firstCells, sizeOf, typeInfo, hq, hi, hm, hl, hst]
/-- One operation 'copy' whose run is known, in a region that draws. -/
theorem step_copy_known {P : Program} {ops : Array Oper} {o : Oper} {a : Act} {w : World} {K : Act → World → Prop} {Q : Exit → Act → World → Prop} {E : Prop}
    (hg : o.guard = none) (d x : Operand) (dT sT : TypeId) (hop : o.op = Op.call { callee := Callee.builtin Builtin.copy, args := #[d, x], argTypes := #[dT, sT] })
    (v u : Value) (hd : a.eval d = v) (hx : a.eval x = u) {v' : Value} {w' : World} (hr : (Builtin.copy_ #[dT, sT] o.type #[v, u]).run P w = .ok v' w') (hK : K (a.put o.dst v') w') :
    if Region.wanted o (yielded ops a.tmps) = true then Oper.wp P o a w K Q else E := by
  rw [if_pos (by simp [Region.wanted, hg])]
  simp [Oper.wp, execOp, hop, resolve, invoke, builtin, hd, hx, hr, Result.andThen]
  exact hK
/-- Cells that say what a row's elements are, as a row of one's own. -/
theorem R_ofcells {α : Type} {d : Kd α} {e base g cap : Nat} {w W : World} {ok ok1 : Nat → Prop} {b1 : Nat} {xs : List α} {inner : List Value} (hM : ∀ (w w' : World) (b b' : Nat) (ok ok' : Nat → Prop) (x : α) (c : List Value), d.M w b ok x c → d.M w' b' ok' x c)
    (hr : Reps (d.M w b1 ok1) d.sz xs inner) {cur : Array Value} (hb : base ≤ g) (hh : W.heap[g]? = some (.cells cur e (0, 0))) (hnc : xs.length ≤ cap) (hcm : cap ≤ maxLen) (hcs : cur.size = cap * d.sz) (ht : cur.toList.take (xs.length * d.sz) = inner) (hok : ok g) :
    d.R e W base ok (.slice (some ⟨g, 0, none⟩) xs.length cap) xs := by
  refine ⟨fun k hk => ?_, inner, ⟨hr.1, .inr ⟨g, cap, cur, rfl, hb, hh, hnc, hcm, hcs, ht⟩⟩, hr.imp_ (fun x c h => hM _ _ _ _ _ _ x c h)⟩
  have : g = k := by simpa [Value.ownBlock] using hk
  subst this
  exact hok
/-- The cells of a row in which some have been moved up by one element and another one stands between. -/
theorem cells_ins {z n i : Nat} {cur cur1 cur2 ins v : List Value} (hi : i ≤ n) (hv : v.length = z) (hins : cur.take (n * z) = ins) (hl : n * z ≤ cur.length) (h1 : cur1 = cur.take ((i + 1) * z) ++ ins.drop (i * z) ++ cur.drop ((i + 1) * z + (ins.drop (i * z)).length)) (h2 : cur2 = cur1.take (i * z) ++ v ++ cur1.drop (i * z + v.length)) (hroom : (n + 1) * z ≤ cur.length) :
    cur2.take ((n + 1) * z) = ins.take (i * z) ++ v ++ ins.drop (i * z) := by
  have e1 : (i + 1) * z = i * z + z := by rw [Nat.add_mul, Nat.one_mul]
  have e2 : (n + 1) * z = n * z + z := by rw [Nat.add_mul, Nat.one_mul]
  have e3 : i * z ≤ n * z := Nat.mul_le_mul_right _ hi
  have hil : ins.length = n * z := by rw [← hins, List.length_take]; omega
  have hdl : (ins.drop (i * z)).length = n * z - i * z := by rw [List.length_drop, hil]
  have ht1 : cur1.take (i * z) = ins.take (i * z) := by
    rw [h1, List.append_assoc, List.take_append_of_le_length (by rw [List.length_take]; omega), List.take_take, ← hins, List.take_take]
    congr 1
    omega
  have hd1 : cur1.drop (i * z + v.length) = ins.drop (i * z) ++ cur.drop ((i + 1) * z + (ins.drop (i * z)).length) := by
    rw [h1, hv, ← e1, List.append_assoc, List.drop_append_of_le_length (by rw [List.length_take]; omega), List.drop_of_length_le (by rw [List.length_take]; omega), List.nil_append]
  rw [h2, ht1, hd1, ← List.append_assoc, List.take_append_of_le_length (by rw [List.length_append, List.length_append, List.length_take, hdl, hv, hil]; omega), List.take_of_length_le (by rw [List.length_append, List.length_append, List.length_take, hdl, hv, hil]; omega)]
theorem wrap_suc (n : Nat) (h : n < 1000000000) : wrap64 ((n : Int) + 1) = (n : Int) + 1 := by unfold wrap64; omega
theorem wrap_dif (n i : Nat) (h : n < 1000000000) (hi : i ≤ n) : wrap64 ((n : Int) + 1 - (i : Int)) = (n : Int) + 1 - (i : Int) := by unfold wrap64; omega
/-- The cells of a new row: what stood ahead, another one, and what stood behind. -/
theorem cells_grow {z n i : Nat} {row cur1 cur2 ins v : List Value} (hi : i ≤ n) (hv : v.length = z) (hins : ins.length = n * z) (hr : row.take (i * z) = ins.take (i * z)) (hl : (n + 1) * z ≤ row.length) (h1 : cur1 = row.take (i * z) ++ v ++ row.drop (i * z + v.length)) (h2 : cur2 = cur1.take ((i + 1) * z) ++ ins.drop (i * z) ++ cur1.drop ((i + 1) * z + (ins.drop (i * z)).length)) :
    cur2.take ((n + 1) * z) = ins.take (i * z) ++ v ++ ins.drop (i * z) := by
  have e1 : (i + 1) * z = i * z + z := by rw [Nat.add_mul, Nat.one_mul]
  have e2 : (n + 1) * z = n * z + z := by rw [Nat.add_mul, Nat.one_mul]
  have e3 : i * z ≤ n * z := Nat.mul_le_mul_right _ hi
  have hdl : (ins.drop (i * z)).length = n * z - i * z := by rw [List.length_drop, hins]
  have htl : (ins.take (i * z)).length = i * z := by rw [List.length_take, hins]; omega
  have hp : cur1.take ((i + 1) * z) = ins.take (i * z) ++ v := by
    rw [h1, hr, List.take_append_of_le_length (by rw [List.length_append, htl, hv]; omega), List.take_of_length_le (by rw [List.length_append, htl, hv]; omega)]
  rw [h2, hp, List.take_append_of_le_length (by rw [List.length_append, List.length_append, htl, hv, hdl]; omega), List.take_of_length_le (by rw [List.length_append, List.length_append, htl, hv, hdl]; omega)]
def inbox_Held_101.f (l0 : List S142) (a1 : Int) (l2 : List S142) : Option (List S142) := if 0 ≤ a1 ∧ a1 ≤ (l0.length : Int) ∧ l2.length = 1 ∧ l0.length < 1000000000 then some (l0.take a1.toNat ++ l2 ++ l0.drop a1.toNat) else none
theorem k142_flat (w w' : World) (b b' : Nat) (ok ok' : Nat → Prop) (x : S142) (c : List Value) (h : k142.M w b ok x c) : k142.M w' b' ok' x c := h
set_option maxHeartbeats 8000000 in
set_option maxRecDepth 100000 in
theorem inbox_Held_101.calls (P0_ : Nat → Prop) (u9000_ : Value) (l0 : List S142) (a1 : Int) (P2_ : Nat → Prop) (u9001_ : Value) (l2 : List S142) (r : List S142) (w0 w : World) (hB : Below w0.heap.size w0 w) (ho0 : Kd.R k142 142 w w0.heap.size P0_ u9000_ l0) (hp0_2 : ∀ k_, P0_ k_ → ¬ P2_ k_) (ho2 : Kd.R k142 142 w w0.heap.size P2_ u9001_ l2) (hp2_0 : ∀ k_, P2_ k_ → ¬ P0_ k_) (h : inbox_Held_101.f l0 a1 l2 = some r) :
    Calls Try.prog 101 #[u9000_, .int .i64 a1, u9001_] w fun e w' => ∃ v0_ : Value, e = .returned (v0_) ∧ Kd.R k142 142 w' w0.heap.size (fun k_ => ((P0_ k_ ∨ P2_ k_) ∨ w.heap.size ≤ k_)) v0_ r ∧ Below w0.heap.size w0 w' ∧ Kept w w' (fun k_ => P0_ k_ ∨ P2_ k_) := by
  unfold inbox_Held_101.f at h
  split at h
  · rename_i hc
    obtain ⟨hc0, hc1, hc2, hc3⟩ := hc
    obtain rfl := Option.some.inj h
    clear h
    obtain ⟨i, rfl⟩ := Int.eq_ofNat_of_zero_le hc0
    obtain ⟨x, rfl⟩ := List.length_eq_one_iff.1 hc2
    simp only [Int.toNat_natCast]
    have hi : i ≤ l0.length := by omega
    obtain ⟨i0, hi0, hz0, hsz0, hby0⟩ := info_parts info142
    have HC2 := (Kd.R_reads ho2)
    obtain ⟨A2, c2, rfl, hnc2, hC2⟩ := HC2
    obtain ⟨A, c, rfl, hnc, hC0⟩ := Kd.R_reads ho0
    have hcf := cut_from (P := Try.prog) 66 142 .i64 Try.underlying66 hi0 2 hsz0 A l0.length c (i : Int) (by omega) (by omega)
    simp only [List.length_singleton, Int.toNat_natCast] at hnc2 hC2 hcf ho2 ⊢
    by_cases hin : i = l0.length
    · subst hin
      obtain ⟨vc, hcv⟩ : ∃ v, ∀ W : World, (Instr.slice 66 (.slice A l0.length c) (some (.int .i64 (l0.length : Int))) none none).run Try.prog W = .ok v W := ⟨_, hcf⟩
      clear hcf
      rw [List.take_length, List.drop_length, List.append_nil]
      have HO := Aside0.mk (show Kd.R k142 142 w w0.heap.size (fun k_ => ((P0_ k_ ∨ P2_ k_) ∨ w.heap.size ≤ k_)) (.slice A l0.length c) l0 from Kd.R_mono ho0 (fun _ hk => .inl (.inl hk)))
      have HOK := Aside0.mk ho0.1
      have HC := Aside0.mk hC2
      have HB := Aside0.mk hB
      have HL := Aside0.mk hc3
      clear ho0 ho2 hC0 hC2 hB hc0 hc1 hc2 hc3 hi hp0_2 hp2_0 hnc hnc2 hi0 hz0 hsz0 hby0
      go_enter Try.func101, Try.ntmps101
      go_wp2_with ((with_reducible refine gate_dst (N := 25) rfl ?_); refine Kd.R_append_rows k142 (w0 := w0) w0.heap.size rfl (.tmp 23) (.tmp 24) 66 142 (.agg #[(.int .i64 0), (.int .u8 0)]) 16 rfl Try.underlying66 info142 rfl (by decide) (by omega) (.slice A l0.length c) l0 [x] A2 1 c2 (fun k_ => ((P0_ k_ ∨ P2_ k_) ∨ w.heap.size ≤ k_)) (fun _ => False) rfl rfl HO.out HC.out (fun _ _ h => h) (fun _ hk => hk.elim) (fun k hk => .inr hk) HB.out HB.out.size (by have := HL.out; omega) ?_; intro v1 w1 ho hb hg hat; have HO2 := Aside0.mk ho; have HB2 := Aside0.mk hb; have HG2 := Aside0.mk hg; clear ho hb hg hat)
      go_ret
      exact ⟨_, rfl, HO2.out, HB2.out, ⟨HG2.out.size, fun k hk hS => HG2.out.block k hk (fun e => hS (.inl (HOK.out k e.symm)))⟩⟩
    · have hlt : i < l0.length := by omega
      obtain ⟨hok0, in0, hown0, hr0⟩ := ho0
      obtain ⟨hok2, in2, hown2, hr2⟩ := ho2
      rcases hown2.2 with ⟨_, hn2⟩ | ⟨g2, cap2, cur2, hv2, hb2, hh2, hnn2, hcm2, hcs2, ht2⟩
      · cases hn2
      injection hv2 with ha2 hl_ hcc2
      clear hl_
      subst ha2; subst hcc2
      rcases hown0.2 with ⟨_, hn0⟩ | ⟨g, cap, cur, hv, hb, hh, hnn, hcm, hcs, ht⟩
      · omega
      injection hv with ha hl_ hcc
      clear hl_
      subst ha; subst hcc
      have hcs4 : cur.size = c * 2 := hcs
      have hcs24 : cur2.size = c2 * 2 := hcs2
      have HCM := Aside0.mk hcm
      have HZ := Aside0.mk hz0
      have HBY := Aside0.mk hby0
      clear hcs hcs2 hcm hcm2 hby0 hz0 hnn hnn2
      have hin2 : in2 = [.int .i64 x.f0, .int .u8 x.f1] := by
        have hl2 : in2.length = 2 := hr2.1
        have := k142_openM (hr2.2 0 x rfl)
        rw [Nat.zero_mul, List.drop_zero, List.take_of_length_le (by rw [hl2]; exact Nat.le_refl _)] at this
        exact this
      have hl0 : in0.length = l0.length * 2 := hr0.1
      have hl2 : in2.length = 2 := hr2.1
      have hg2 : g2 ≠ g := fun e => hp0_2 g (hok0 g rfl) (by rw [← e]; exact hok2 g2 rfl)
      have hc0' : ∀ j v, in0[j]? = some v → w.cell? ⟨g, j, none⟩ = some v := fun j v hj => by
        have := hown0.cells (g := g) rfl j v hj
        rwa [add_plain] at this
      have hc2' : ∀ j v, in2[j]? = some v → w.cell? ⟨g2, j, none⟩ = some v := fun j v hj => by
        have := hown2.cells (g := g2) rfl j v hj
        rwa [add_plain] at this
      have h1c : ∀ v ∈ in0, v.oneCell' = true := Kd.reps_one hr0 (by decide) (fun _ _ hp => k142.K_one (k142.K_of_M hp))
      have h1v : ∀ v ∈ in2, v.oneCell' = true := Kd.reps_one hr2 (by decide) (fun _ _ hp => k142.K_one (k142.K_of_M hp))
      have hgl : g < w.heap.size := blk_lt hh
      have hg2l : g2 < w.heap.size := blk_lt hh2
      have hsz : (Try.prog.info? 142).map (·.size) = some 2 := by rw [hi0]; simp [hsz0]
      have hsz' : ∀ W, (sizeOf 142).run Try.prog W = .ok 2 W := fun W => by simp [sizeOf, typeInfo, hi0, hsz0]
      have hb1 : ((1 : Int) == 0) = false := rfl
      have hb2' : ((i : Int) == (l0.length : Int)) = false := beq_eq_false_iff_ne.2 (by omega)
      have hrall : Reps (k142.M w w0.heap.size (fun _ => True)) 2 (l0.take i ++ [x] ++ l0.drop i) (in0.take (i * 2) ++ in2 ++ in0.drop (i * 2)) := by
        refine Kd.reps_append (Kd.reps_append (Kd.reps_take (hr0.imp_ (fun x c h => k142_flat _ _ _ _ _ _ x c h)) (by omega)) (hr2.imp_ (fun x c h => k142_flat _ _ _ _ _ _ x c h))) (Kd.reps_drop (hr0.imp_ (fun x c h => k142_flat _ _ _ _ _ _ x c h)))
      by_cases hroom : l0.length + 1 ≤ c
      · have hov : ∀ lb cb, (callFunc 113 #[.slice (some ⟨g2, 0, none⟩) 1 c2, .slice (some ⟨g, (i + 1) * 2, none⟩) lb cb]).run Try.prog w = .ok (.value (.bool false)) w := fun lb cb => by
          rw [run_callFunc_extern Try.func113 (by kernel_rfl) (by kernel_rfl) (by kernel_rfl) (e := Extern.SlicesOverlaps.overlaps #[66, 66] #[4]) (by kernel_rfl),
            Lib.run_overlaps_apart w 66 4 142 Try.underlying66 2 hsz' ⟨g2, 0, none⟩ ⟨g, (i + 1) * 2, none⟩ 1 c2 lb cb hg2 142 142 cur2.size cur.size (by simp [World.shape?, hh2]) (by simp [World.shape?, hh]) (by omega) (blk_frozen hh2 _) (blk_frozen hh2 _)]
          rfl
        have hbr : decide ((c : Int) < (l0.length : Int) + 1) = false := decide_eq_false (by omega)
        have hcf1 := hcf
        rw [if_neg (show ¬ c = i by omega), show (some (⟨g, 0, none⟩ : Addr)).map (·.add (i * 2)) = some ⟨g, i * 2, none⟩ from by rw [Option.map_some, add_plain]] at hcf1
        have hct : ∀ W : World, (Instr.slice 66 (.slice (some ⟨g, 0, none⟩) l0.length c) none (some (.int .i64 ((l0.length : Int) + 1))) none).run Try.prog W = .ok (.slice (some ⟨g, 0, none⟩) (l0.length + 1) c) W := by
          intro W
          have hel : Try.prog.elem 66 = 142 := by simp [Program.elem, Try.underlying66]
          have hu : Try.prog.underlying 66 = some (.slice (Try.prog.elem 66)) := by rw [hel]; exact Try.underlying66
          rw [run_slice_h W 66 (some ⟨g, 0, none⟩) l0.length c hu .i64 ((l0.length : Int) + 1) (by omega) (by omega), hel]
          simp [sizeOf, typeInfo, hi0, sliced, Result.andThen, add_plain]
        have hcf2 := cut_from (P := Try.prog) 66 142 .i64 Try.underlying66 hi0 2 hsz0 (some ⟨g, 0, none⟩) (l0.length + 1) c ((i : Int) + 1) (by omega) (by omega)
        rw [show ((i : Int) + 1).toNat = i + 1 by omega, if_neg (show ¬ c = i + 1 by omega), show (some (⟨g, 0, none⟩ : Addr)).map (·.add ((i + 1) * 2)) = some ⟨g, (i + 1) * 2, none⟩ from by rw [Option.map_some, add_plain]] at hcf2
        have hcf3 := cut_from (P := Try.prog) 66 142 .i64 Try.underlying66 hi0 2 hsz0 (some ⟨g, 0, none⟩) (l0.length + 1) c (i : Int) (by omega) (by omega)
        rw [Int.toNat_natCast, if_neg (show ¬ c = i by omega), show (some (⟨g, 0, none⟩ : Addr)).map (·.add (i * 2)) = some ⟨g, i * 2, none⟩ from by rw [Option.map_some, add_plain]] at hcf3
        have hdl : (in0.drop (i * 2)).length = (l0.length - i) * 2 := by rw [List.length_drop, hl0, Nat.sub_mul]
        have hcell : ∀ (W : World), W.heap[g]? = w.heap[g]? → ∀ j, j < c * 2 → (W.cell? ⟨g, j, none⟩).isSome = true := fun W hW j hj => by
          rw [cell_of_row W g j cur 142 (0, 0) (hW.trans hh), Array.getElem?_eq_getElem (by omega)]
          rfl
        have hcp1 : ∀ ty, (Builtin.copy_ #[66, 66] ty #[.slice (some ⟨g, (i + 1) * 2, none⟩) (l0.length + 1 - (i + 1)) (c - (i + 1)), .slice (some ⟨g, i * 2, none⟩) (l0.length + 1 - i) (c - i)]).run Try.prog w.drew = .ok (goInt ((l0.length - i : Nat) : Int)) (w.drew.setCells g ((i + 1) * 2) (in0.drop (i * 2))) := fun ty =>
          run_copy_sz w.drew 66 66 ty 142 g ((i + 1) * 2) (l0.length + 1 - (i + 1)) (c - (i + 1)) ⟨g, i * 2, none⟩ (l0.length + 1 - i) (c - i) 2 (l0.length - i) (in0.drop (i * 2)) Try.underlying66 hsz (by simp only [Nat.min_def]; split <;> omega) hdl
            (fun j v hj => by rw [add_at]; exact hc0' (i * 2 + j) v (by rwa [List.getElem?_drop] at hj))
            (fun j hj => hcell w.drew rfl _ (by omega)) (fun j hj => blk_frozen (w := w.drew) hh _) (fun v hv => h1c v (List.mem_of_mem_drop hv))
        obtain ⟨W1, hW1⟩ : ∃ W1, W1 = w.drew.setCells g ((i + 1) * 2) (in0.drop (i * 2)) := ⟨_, rfl⟩
        obtain ⟨cur1, e1, e2, e3⟩ := setCells_row (in0.drop (i * 2)) ((i + 1) * 2) w.drew cur hh (by omega)
        have f1 : ∀ k, k ≠ g → W1.heap[k]? = w.heap[k]? := fun k hk => by rw [hW1]; exact setCells_far (w := w.drew) _ _ k hk
        obtain ⟨s1, s2, s3, s4⟩ := setCells_same g (in0.drop (i * 2)) ((i + 1) * 2) w.drew
        rw [← hW1] at hcp1 e1 s1 s2 s3 s4
        have hcp2 : ∀ ty, (Builtin.copy_ #[66, 66] ty #[.slice (some ⟨g, i * 2, none⟩) (l0.length + 1 - i) (c - i), .slice (some ⟨g2, 0, none⟩) 1 c2]).run Try.prog W1 = .ok (goInt 1) (W1.setCells g (i * 2) in2) := fun ty =>
          run_copy_sz W1 66 66 ty 142 g (i * 2) (l0.length + 1 - i) (c - i) ⟨g2, 0, none⟩ 1 c2 2 1 in2 Try.underlying66 hsz (by simp only [Nat.min_def]; split <;> omega) hl2
            (fun j v hj => by
              rw [add_plain]
              have := hc2' j v hj
              simp only [World.cell?] at this ⊢
              rw [f1 g2 hg2]
              exact this)
            (fun j hj => by rw [cell_of_row W1 g _ cur1 142 (0, 0) e1, Array.getElem?_eq_getElem (by omega)]; rfl) (fun j hj => blk_frozen e1 _) h1v
        obtain ⟨W2, hW2⟩ : ∃ W2, W2 = W1.setCells g (i * 2) in2 := ⟨_, rfl⟩
        obtain ⟨cur3, e4, e5, e6⟩ := setCells_row in2 (i * 2) W1 cur1 e1 (by omega)
        obtain ⟨s5, s6, s7, s8⟩ := setCells_same g in2 (i * 2) W1
        have f2 : ∀ k, k ≠ g → W2.heap[k]? = w.heap[k]? := fun k hk => by rw [hW2, setCells_far (w := W1) _ _ k hk]; exact f1 k hk
        rw [← hW2] at hcp2 e4 s5 s6 s7 s8
        have hcl : cur.toList.length = cur.size := Array.length_toList
        have hfin := cells_ins (z := 2) (n := l0.length) (i := i) (cur := cur.toList) (ins := in0) (v := in2) hi hl2 ht (by omega) e3 e6 (by omega)
        have hlen : (l0.take i ++ [x] ++ l0.drop i).length = l0.length + 1 := by simp; omega
        have HR := Aside0.mk (show Kd.R k142 142 W2 w0.heap.size (fun k_ => ((P0_ k_ ∨ P2_ k_) ∨ w.heap.size ≤ k_)) (.slice (some ⟨g, 0, none⟩) (l0.length + 1) c) (l0.take i ++ [x] ++ l0.drop i) from by
          have h := R_ofcells (d := k142) (e := 142) (base := w0.heap.size) (g := g) (cap := c) (W := W2) (ok := fun k_ => ((P0_ k_ ∨ P2_ k_) ∨ w.heap.size ≤ k_)) k142_flat hrall hb e4 (by rw [hlen]; exact hroom) HCM.out (by rw [e5, e2]; exact hcs4) (by rw [hlen]; exact hfin) (.inl (.inl (hok0 g rfl)))
          rw [hlen] at h
          exact h)
        have hsize : W2.heap.size = w.heap.size := by rw [s8, s4]; rfl
        have HF := Aside0.mk f2
        have HK := Aside0.mk (show Kept w W2 (fun k_ => P0_ k_ ∨ P2_ k_) from ⟨by rw [hsize]; exact Nat.le_refl _, fun k _ hS => f2 k (fun e => hS (.inl (by rw [e]; exact hok0 g rfl)))⟩)
        have HB := Aside0.mk (show Below w0.heap.size w0 W2 from ⟨by rw [s5, s1]; exact hB.os, by rw [s6, s2]; exact hB.tape, by rw [s7, s3]; exact hB.output, by rw [hsize]; exact hB.size, fun k hk => (f2 k (by omega)).trans (hB.block k hk)⟩)
        clear hown0 hown2 hr0 hr2 hok0 hok2 hh hh2 ht ht2 hrall hfin e1 e2 e3 e4 e5 e6 s1 s2 s3 s4 s5 s6 s7 s8 f1 f2 hsize hcell h1c h1v hc0' hc2' hC0 hC2 hB hp0_2 hp2_0 hlen hcl hdl hcf hW1 hW2 hl0 hl2 hin2
        have hw1 : wrap64 ((l0.length : Int) + 1) = (l0.length : Int) + 1 := wrap_suc _ hc3
        have hw2 : wrap64 ((i : Int) + 1) = (i : Int) + 1 := wrap_suc _ (Nat.lt_trans hlt hc3)
        have hw1' : IntKind.i64.wrap ((l0.length : Int) + 1) = (l0.length : Int) + 1 := (i64_w _).trans hw1
        have hw2' : IntKind.i64.wrap ((i : Int) + 1) = (i : Int) + 1 := (i64_w _).trans hw2
        go_enter Try.func101, Try.ntmps101
        go_wp2_with (simp only [hov])
        go_region_law (refine step_copy_known rfl _ _ 66 66 rfl _ _ (by simp [Act.eval, Act.put]) (by simp [Act.eval, Act.put]) (hcp1 _) ?_)
        go_wp2
        go_ret
        exact ⟨_, rfl, HR.out, HB.out, HK.out⟩
      · have hrm : c < l0.length + 1 := by omega
        have hpos : 0 < l0.length + 1 - i := by omega
        have hct : ∀ W : World, (Instr.slice 66 (.slice (some ⟨g, 0, none⟩) l0.length c) none (some (.int .i64 (i : Int))) none).run Try.prog W = .ok (.slice (some ⟨g, 0, none⟩) i c) W := by
          have := cut_to (P := Try.prog) 66 142 .i64 Try.underlying66 hi0 (some ⟨g, 0, none⟩) l0.length c (i : Int) (by omega) (by omega) hnc
          simpa only [Int.toNat_natCast] using this
        have hcf1 := hcf
        rw [if_neg (show ¬ c = i by omega), show (some (⟨g, 0, none⟩ : Addr)).map (·.add (i * 2)) = some ⟨g, i * 2, none⟩ from by rw [Option.map_some, add_plain]] at hcf1
        have hdl : (in0.drop (i * 2)).length = (l0.length - i) * 2 := by rw [List.length_drop, hl0, Nat.sub_mul]
        have htl : (in0.take (i * 2)).length = i * 2 := by rw [List.length_take, hl0]; omega
        have hold : (Builtin.firstCells i0.size i (.slice (some ⟨g, 0, none⟩) i c)).run Try.prog w.drew = .ok (in0.take (i * 2)).toArray w.drew := by
          rw [hsz0]
          exact run_firstCells_some w.drew 2 i ⟨g, 0, none⟩ i c (in0.take (i * 2)) htl (fun j v hj => by
            rw [add_plain]
            rw [List.getElem?_take] at hj
            split at hj
            · exact hc0' j v hj
            · cases hj)
        have hik : i + (l0.length + 1 - i) = l0.length + 1 := by omega
        have hrz0 := fun ty => Lib.run_append_grow_zeros (P := Try.prog) w 66 3 ty 142 i0 _ .i64 .i64 Try.underlying66 Try.underlying3 hi0 HZ.out (some ⟨g, 0, none⟩) i c (in0.take (i * 2)) hold (l0.length + 1 - i) hpos (by omega) (by omega) (by omega) (by rw [HBY.out]; omega) (by rw [HBY.out, hik]; exact growslice_fits hrm (by omega))
        rw [hik] at hrz0
        rw [show ((l0.length + 1 - i : Nat) : Int) = (l0.length : Int) + 1 - (i : Int) by omega] at hrz0
        obtain ⟨G, hG⟩ : ∃ G, G = grownCap w (l0.length + 1) c 142 := ⟨_, rfl⟩
        obtain ⟨ROW, hROW⟩ : ∃ ROW : Array Value, ROW = (in0.take (i * 2)).toArray ++ Builtin.zeroCells ((.agg #[(.int .i64 0), (.int .u8 0)]) : Value).cells (l0.length + 1 - i) ++ Builtin.zeroCells ((.agg #[(.int .i64 0), (.int .u8 0)]) : Value).cells (grownCap w (l0.length + 1) c 142 - (l0.length + 1)) := ⟨_, rfl⟩
        have hGn : l0.length + 1 ≤ G := by rw [hG]; exact grownCap_ge w _ _ _
        have hGm : G ≤ maxLen := by rw [hG]; exact grownCap_le_maxLen w _ _ _ (by unfold maxLen; omega)
        have hRs : ROW.size = G * 2 := by
          rw [hROW, hG]
          simp only [Array.size_append, size_zeroCells, List.size_toArray, htl]
          have := grownCap_ge w (l0.length + 1) c 142
          show i * 2 + (l0.length + 1 - i) * 2 + (grownCap w (l0.length + 1) c 142 - (l0.length + 1)) * 2 = _
          omega
        have hRt : ROW.toList.take (i * 2) = in0.take (i * 2) := by
          rw [hROW]
          simp only [Array.toList_append, List.append_assoc]
          rw [List.take_append_of_le_length (by rw [htl]; exact Nat.le_refl _), List.take_of_length_le (by rw [htl]; exact Nat.le_refl _)]
        rw [← hROW, ← hG] at hrz0
        have HGM := Aside0.mk hGm
        clear hGm
        obtain ⟨W1, hW1⟩ : ∃ W1, W1 = w.drew.alloc (.cells ROW 142) := ⟨_, rfl⟩
        rw [← hW1] at hrz0
        have n1 : W1.heap[w.heap.size]? = some (.cells ROW 142 (0, 0)) := by rw [hW1]; exact heap_alloc_new w.drew _
        have n2 : ∀ k, k < w.heap.size → W1.heap[k]? = w.heap[k]? := fun k hk => by rw [hW1]; exact heap_alloc_old w.drew _ hk
        have n3 : W1.heap.size = w.heap.size + 1 := by rw [hW1]; simp
        have n4 : W1.os = w.os ∧ W1.tape = w.tape ∧ W1.output = w.output := by rw [hW1]; exact ⟨rfl, rfl, rfl⟩
        have hcf2 := cut_from (P := Try.prog) 66 142 .i64 Try.underlying66 hi0 2 hsz0 (some ⟨w.heap.size, 0, none⟩) (l0.length + 1) G (i : Int) (by omega) (by omega)
        rw [Int.toNat_natCast, if_neg (show ¬ G = i by omega), show (some (⟨w.heap.size, 0, none⟩ : Addr)).map (·.add (i * 2)) = some ⟨w.heap.size, i * 2, none⟩ from by rw [Option.map_some, add_plain]] at hcf2
        have hcf3 := cut_from (P := Try.prog) 66 142 .i64 Try.underlying66 hi0 2 hsz0 (some ⟨w.heap.size, 0, none⟩) (l0.length + 1) G ((i : Int) + 1) (by omega) (by omega)
        rw [show ((i : Int) + 1).toNat = i + 1 by omega, if_neg (show ¬ G = i + 1 by omega), show (some (⟨w.heap.size, 0, none⟩ : Addr)).map (·.add ((i + 1) * 2)) = some ⟨w.heap.size, (i + 1) * 2, none⟩ from by rw [Option.map_some, add_plain]] at hcf3
        have hcp1 : ∀ ty, (Builtin.copy_ #[66, 66] ty #[.slice (some ⟨w.heap.size, i * 2, none⟩) (l0.length + 1 - i) (G - i), .slice (some ⟨g2, 0, none⟩) 1 c2]).run Try.prog W1 = .ok (goInt 1) (W1.setCells w.heap.size (i * 2) in2) := fun ty =>
          run_copy_sz W1 66 66 ty 142 w.heap.size (i * 2) (l0.length + 1 - i) (G - i) ⟨g2, 0, none⟩ 1 c2 2 1 in2 Try.underlying66 hsz (by simp only [Nat.min_def]; split <;> omega) hl2
            (fun j v hj => by
              rw [add_plain]
              have := hc2' j v hj
              simp only [World.cell?] at this ⊢
              rw [n2 g2 hg2l]
              exact this)
            (fun j hj => by rw [cell_of_row W1 w.heap.size _ ROW 142 (0, 0) n1, Array.getElem?_eq_getElem (by omega)]; rfl) (fun j hj => blk_frozen n1 _) h1v
        obtain ⟨W2, hW2⟩ : ∃ W2, W2 = W1.setCells w.heap.size (i * 2) in2 := ⟨_, rfl⟩
        obtain ⟨cur1, e1, e2, e3⟩ := setCells_row in2 (i * 2) W1 ROW n1 (by omega)
        have f1 : ∀ k, k < w.heap.size → W2.heap[k]? = w.heap[k]? := fun k hk => by rw [hW2, setCells_far (w := W1) _ _ k (by omega)]; exact n2 k hk
        obtain ⟨s1, s2, s3, s4⟩ := setCells_same w.heap.size in2 (i * 2) W1
        rw [← hW2] at hcp1 e1 s1 s2 s3 s4
        have hcp2 : ∀ ty, (Builtin.copy_ #[66, 66] ty #[.slice (some ⟨w.heap.size, (i + 1) * 2, none⟩) (l0.length + 1 - (i + 1)) (G - (i + 1)), .slice (some ⟨g, i * 2, none⟩) (l0.length - i) (c - i)]).run Try.prog W2.drew = .ok (goInt ((l0.length - i : Nat) : Int)) (W2.drew.setCells w.heap.size ((i + 1) * 2) (in0.drop (i * 2))) := fun ty =>
          run_copy_sz W2.drew 66 66 ty 142 w.heap.size ((i + 1) * 2) (l0.length + 1 - (i + 1)) (G - (i + 1)) ⟨g, i * 2, none⟩ (l0.length - i) (c - i) 2 (l0.length - i) (in0.drop (i * 2)) Try.underlying66 hsz (by simp only [Nat.min_def]; split <;> omega) hdl
            (fun j v hj => by
              rw [add_at]
              have := hc0' (i * 2 + j) v (by rwa [List.getElem?_drop] at hj)
              have h2 : W2.heap[g]? = w.heap[g]? := f1 g hgl
              show W2.cell? _ = _
              simp only [World.cell?] at this ⊢
              rw [h2]
              exact this)
            (fun j hj => by
              show (W2.cell? _).isSome = true
              rw [cell_of_row W2 w.heap.size _ cur1 142 (0, 0) e1, Array.getElem?_eq_getElem (by omega)]
              rfl) (fun j hj => blk_frozen (w := W2.drew) e1 _) (fun v hv => h1c v (List.mem_of_mem_drop hv))
        obtain ⟨W3, hW3⟩ : ∃ W3, W3 = W2.drew.setCells w.heap.size ((i + 1) * 2) (in0.drop (i * 2)) := ⟨_, rfl⟩
        obtain ⟨cur3, e4, e5, e6⟩ := setCells_row (in0.drop (i * 2)) ((i + 1) * 2) W2.drew cur1 e1 (by omega)
        obtain ⟨s5, s6, s7, s8⟩ := setCells_same w.heap.size (in0.drop (i * 2)) ((i + 1) * 2) W2.drew
        have f2 : ∀ k, k < w.heap.size → W3.heap[k]? = w.heap[k]? := fun k hk => by rw [hW3, setCells_far (w := W2.drew) _ _ k (by omega)]; exact f1 k hk
        rw [← hW3] at hcp2 e4 s5 s6 s7 s8
        have hcl : ROW.toList.length = ROW.size := Array.length_toList
        have hfin := cells_grow (z := 2) (n := l0.length) (i := i) (row := ROW.toList) (ins := in0) (v := in2) hi hl2 hl0 hRt (by omega) e3 e6
        have hlen : (l0.take i ++ [x] ++ l0.drop i).length = l0.length + 1 := by simp; omega
        have HR := Aside0.mk (show Kd.R k142 142 W3 w0.heap.size (fun k_ => ((P0_ k_ ∨ P2_ k_) ∨ w.heap.size ≤ k_)) (.slice (some ⟨w.heap.size, 0, none⟩) (l0.length + 1) G) (l0.take i ++ [x] ++ l0.drop i) from by
          have h := R_ofcells (d := k142) (e := 142) (base := w0.heap.size) (g := w.heap.size) (cap := G) (W := W3) (ok := fun k_ => ((P0_ k_ ∨ P2_ k_) ∨ w.heap.size ≤ k_)) k142_flat hrall hB.size e4 (by rw [hlen]; exact hGn) HGM.out (by rw [e5, e2]; exact hRs) (by rw [hlen]; exact hfin) (.inr (Nat.le_refl _))
          rw [hlen] at h
          exact h)
        have hsize : W3.heap.size = w.heap.size + 1 := by rw [s8]; show W2.heap.size = _; rw [s4, n3]
        have HK := Aside0.mk (show Kept w W3 (fun k_ => P0_ k_ ∨ P2_ k_) from ⟨by rw [hsize]; omega, fun k hk _ => f2 k hk⟩)
        have HB := Aside0.mk (show Below w0.heap.size w0 W3 from ⟨by rw [s5]; show W2.os = _; rw [s1, n4.1]; exact hB.os, by rw [s6]; show W2.tape = _; rw [s2, n4.2.1]; exact hB.tape, by rw [s7]; show W2.output = _; rw [s3, n4.2.2]; exact hB.output, by rw [hsize]; have := hB.size; omega, fun k hk => (f2 k (by have := hB.size; omega)).trans (hB.block k hk)⟩)
        have hbr : decide ((c : Int) < (l0.length : Int) + 1) = true := decide_eq_true (by omega)
        have hw3 : wrap64 ((l0.length : Int) + 1 - (i : Int)) = (l0.length : Int) + 1 - (i : Int) := wrap_dif _ _ hc3 hi
        have hw3' : IntKind.i64.wrap ((l0.length : Int) + 1 - (i : Int)) = (l0.length : Int) + 1 - (i : Int) := (i64_w _).trans hw3
        have HRZ := Aside0.mk hrz0
        clear hrz0 hown0 hown2 hr0 hr2 hok0 hok2 hh hh2 ht ht2 hrall hfin e1 e2 e3 e4 e5 e6 s1 s2 s3 s4 s5 s6 s7 s8 f1 f2 n1 n2 n3 n4 hsize h1c h1v hc0' hc2' hC0 hC2 hB hp0_2 hp2_0 hlen hcl hdl htl hcf hW1 hW2 hW3 hl0 hl2 hin2 hold hik hROW hRs hRt hG
        have hw1 : wrap64 ((l0.length : Int) + 1) = (l0.length : Int) + 1 := wrap_suc _ hc3
        have hw2 : wrap64 ((i : Int) + 1) = (i : Int) + 1 := wrap_suc _ (Nat.lt_trans hlt hc3)
        have hw1' : IntKind.i64.wrap ((l0.length : Int) + 1) = (l0.length : Int) + 1 := (i64_w _).trans hw1
        have hw2' : IntKind.i64.wrap ((i : Int) + 1) = (i : Int) + 1 := (i64_w _).trans hw2
        have hrz := HRZ.out
        go_enter Try.func101, Try.ntmps101
        go_wp2_with (at_builtin; refine Lib.wpList_append_run _ rfl _ _ _ _ rfl _ _ rfl rfl _ _ (hrz _) ?_)
        go_region_law (refine step_copy_known rfl _ _ 66 66 rfl _ _ (by simp [Act.eval, Act.put]) (by simp [Act.eval, Act.put]) (hcp2 _) ?_)
        go_wp2
        go_ret
        exact ⟨_, rfl, HR.out, HB.out, HK.out⟩
  · cases h

/-! ### inbox_hold: function 74 -/
def inbox_hold.f (l0 : List (S142)) (a1 : Int) (a2_0 : Int) (a2_1 : Int) : Option ((List (S142))) := (inbox_Held_int.f l0 a2_0).bind fun bt104 => (if bt104.2 = true then (some l0) else (if a2_0 < a1 then (some l0) else ((inbox_Held_101.f l0 bt104.1 (([(⟨a2_0, a2_1⟩ : S142)] : List (S142)))).bind fun t109 => (some t109))))
set_option maxHeartbeats 8000000 in
set_option maxRecDepth 100000 in
theorem inbox_hold.calls (P0_ : Nat → Prop) (u9000_ : Value) (l0 : List (S142)) (a1 : Int) (a2_0 : Int) (a2_1 : Int) (r : List (S142)) (w0 w : World) (hB : Below w0.heap.size w0 w) (ho0 : Kd.R k142 142 w w0.heap.size P0_ u9000_ l0) (h : inbox_hold.f l0 a1 a2_0 a2_1 = some r) :
    Calls Try.prog 74 #[u9000_, .int .i64 a1, .agg #[.int .i64 a2_0, .int .u8 a2_1]] w fun e w' => ∃ v0_ : Value, e = .returned (v0_) ∧ Kd.R k142 142 w' w0.heap.size (fun k_ => (P0_ k_ ∨ w.heap.size ≤ k_)) v0_ r ∧ Below w0.heap.size w0 w' ∧ Kept w w' (fun k_ => P0_ k_) := by
  have hu142 := Try.underlying142
  have HO0 := Aside0.mk (show Kd.R k142 142 w w0.heap.size (fun k_ => (P0_ k_ ∨ w.heap.size ≤ k_)) u9000_ l0 from Kd.R_mono ho0 (fun k_ hk => (.inl hk)))
  have HK := Aside0.mk (Kept.refl w (fun k_ => P0_ k_))
  have HW0 := Aside0.mk hB.size
  have HB := Aside0.mk hB
  clear hB
  have H : ((inbox_Held_int.f l0 a2_0).bind fun bt104 => (if bt104.2 = true then (some l0) else (if a2_0 < a1 then (some l0) else ((inbox_Held_101.f l0 bt104.1 (([(⟨a2_0, a2_1⟩ : S142)] : List (S142)))).bind fun t109 => (some t109))))) = some r := h
  clear h
  replace H := Option.bind_eq_some_iff.mp H
  obtain ⟨⟨t104, t105⟩, A40, H⟩ := H
  replace H : (if t105 = true then (some l0) else (if a2_0 < a1 then (some l0) else ((inbox_Held_101.f l0 t104 (([(⟨a2_0, a2_1⟩ : S142)] : List (S142)))).bind fun t109 => (some t109)))) = some r := H
  have A4 := Aside0.mk A40
  clear A40
  by_cases c5 : t105 = true
  · subst c5
    have H1 : (some l0) = some r := by rw [if_pos rfl] at H; exact H
    clear H
    have H := H1
    clear H1
    obtain rfl := Option.some.inj H
    go_enter Try.func74, Try.ntmps74
    go_wp2_with (first | ((with_reducible refine gate_dst (N := 5) rfl ?_); refine box_event ?hg (N := 5) ?hd (cs := #[.int .i64 a2_0, .int .u8 a2_1]) (t := 142) ?hr ?_; (case hd => rfl); (case hg => rfl); (case hr => first | (go_simp; done) | (go_simp; rfl)); intro gb103 hg w6 hbox hb; have n0_ := Aside0.mk (Kd.R_below (Kd.R_elderB (by (with_reducible repeat (first | apply Kd.R_alloc | apply Kd.R_drewN | apply Kd.R_drew)); exact HO0.out) gb103 (Nat.le_of_eq hg.symm)) hb); have n1_ := Aside0.mk (Kept.below (S := (fun k_ => P0_ k_)) (by repeat (first | (with_reducible first | exact HK.out | apply Kept.alloc | apply Kept.drewN | apply Kept.drew) | exact HK.out)) hb); have n2_ := Aside0.mk (below_step (by repeat (first | (with_reducible first | exact HB.out | apply below_alloc | apply pw_below_drewN | apply below_drew1) | exact HB.out)) hb); have n3_ := Aside0.mk (hbox); have n4_ := Aside0.mk ((by rw [hg]; exact (by first | exact HK.out.1 | exact (show Kept w _ (fun k_ => P0_ k_) from by repeat (first | (with_reducible first | exact HK.out | apply Kept.alloc | apply Kept.drewN | apply Kept.drew) | exact HK.out)).1) : w.heap.size ≤ gb103)); have n5_ := Aside0.mk ((by rw [hg]; exact (below_size (by repeat (first | (with_reducible first | exact HB.out | apply below_alloc | apply pw_below_drewN | apply below_drew1) | exact HB.out))) : w0.heap.size ≤ gb103)); clear HO0; clear HK; clear HB; have HO0 := n0_; have HK := n1_; have HB := n2_; have BK103 := n3_; have GW103 := n4_; have GE103 := n5_; clear n0_ n1_ n2_ n3_ n4_ n5_; clear hb hbox hg; have hcz7_0 : w6.cell? ⟨gb103, 0, none⟩ = some (.int .i64 a2_0) := (blk_cell BK103.out 0).trans rfl; have hcz7_1 : w6.cell? ⟨gb103, 1, none⟩ = some (.int .u8 a2_1) := (blk_cell BK103.out 1).trans rfl; have hfz7_0 := blk_frozen BK103.out 0; have hfz7_1 := blk_frozen BK103.out 1; obtain ⟨Ao8, co8, eo8⟩ := Kd.R_slice HO0.out; subst eo8) | ((with_reducible refine gate_callee (f := 98) rfl ?_); refine goesL_ (some 13) rfl rfl Try.func98 (by kernel_rfl) rfl #[.slice Ao8 l0.length co8, .int .i64 a2_0, .func (.func 99) #[] #[]] rfl (by (try simp only [List.map_toArray, List.map_cons, List.map_nil]); first | done | rfl | (simp only [List.length_drop, List.length_take]; rfl)) ?_; (with_reducible refine (inbox_Held_int.calls _ _ l0 a2_0 t104 true _ ?side1 ?side2 A4.out).mono ?_); (case side1 => repeat (first | exact (Kd.R_reads' HO0.out).2.2 | (with_reducible refine Kd.C_alloc ?_ _) | (with_reducible refine Kd.C_drewN ?_ _) | (with_reducible refine Kd.C_drew ?_))); (case side2 => exact (Kd.R_reads' HO0.out).2.1); rintro e w9 ⟨rfl, hb⟩; refine ⟨_, rfl, ?_⟩; have n0_ := Aside0.mk (Kd.R_below (by (with_reducible repeat (first | apply Kd.R_alloc | apply Kd.R_drewN | apply Kd.R_drew)); exact HO0.out) hb); have n1_ := Aside0.mk (blk_below (g := gb103) (o := .cells #[.int .i64 a2_0, .int .u8 a2_1] 142 (0, 0)) (by (with_reducible repeat (first | refine blk_drewN ?_ _ | refine blk_drew ?_ | refine blk_alloc ?_ _)); exact BK103.out) hb); have n2_ := Aside0.mk (Kept.below (S := (fun k_ => P0_ k_)) (by repeat (first | (with_reducible first | exact HK.out | apply Kept.alloc | apply Kept.drewN | apply Kept.drew | refine Kept.setCell ?_ (.inr GW103.out) _) | exact HK.out)) hb); have n3_ := Aside0.mk (below_step (by repeat (first | (with_reducible first | exact HB.out | apply below_alloc | apply pw_below_drewN | apply below_drew1 | refine below_set ?_ GE103.out) | exact HB.out)) hb); clear HO0; clear BK103; clear HK; clear HB; have HO0 := n0_; have BK103 := n1_; have HK := n2_; have HB := n3_; clear n0_ n1_ n2_ n3_; (try clear hb); (try clear hb2); (try clear hk); (try clear hi)))
    go_ret
    exact ⟨_, by first | rfl | (simp [errW_none, errW_some] <;> rfl) | (simp [*, errW_none, errW_some] <;> rfl), by (with_reducible repeat (first | apply Kd.R_alloc | apply Kd.R_drewN | apply Kd.R_drew)); exact Kd.R_mono HO0.out (fun _ hk => hk.1), by repeat (first | (with_reducible first | exact HB.out | apply below_alloc | apply pw_below_drewN | apply below_drew1 | refine below_set ?_ GE103.out) | exact HB.out), by repeat (first | (with_reducible first | exact HK.out | apply Kept.alloc | apply Kept.drewN | apply Kept.drew | refine Kept.setCell ?_ (.inr GW103.out) _) | exact HK.out)⟩
  · replace c5 := Bool.eq_false_iff.mpr c5
    subst c5
    have H1 : (if a2_0 < a1 then (some l0) else ((inbox_Held_101.f l0 t104 (([(⟨a2_0, a2_1⟩ : S142)] : List (S142)))).bind fun t109 => (some t109))) = some r := by rw [if_neg (show ¬ (false = true) by decide)] at H; exact H
    clear H
    have H := H1
    clear H1
    by_cases c10 : a2_0 < a1
    · rw [if_pos c10] at H
      have c10b0 : decide (a2_0 < a1) = true := decide_eq_true c10
      clear c10
      obtain rfl := Option.some.inj H
      go_enter Try.func74, Try.ntmps74
      go_wp2_with (first | ((with_reducible refine gate_dst (N := 5) rfl ?_); refine box_event ?hg (N := 5) ?hd (cs := #[.int .i64 a2_0, .int .u8 a2_1]) (t := 142) ?hr ?_; (case hd => rfl); (case hg => rfl); (case hr => first | (go_simp; done) | (go_simp; rfl)); intro gb103 hg w11 hbox hb; have n0_ := Aside0.mk (Kd.R_below (Kd.R_elderB (by (with_reducible repeat (first | apply Kd.R_alloc | apply Kd.R_drewN | apply Kd.R_drew)); exact HO0.out) gb103 (Nat.le_of_eq hg.symm)) hb); have n1_ := Aside0.mk (Kept.below (S := (fun k_ => P0_ k_)) (by repeat (first | (with_reducible first | exact HK.out | apply Kept.alloc | apply Kept.drewN | apply Kept.drew) | exact HK.out)) hb); have n2_ := Aside0.mk (below_step (by repeat (first | (with_reducible first | exact HB.out | apply below_alloc | apply pw_below_drewN | apply below_drew1) | exact HB.out)) hb); have n3_ := Aside0.mk (hbox); have n4_ := Aside0.mk ((by rw [hg]; exact (by first | exact HK.out.1 | exact (show Kept w _ (fun k_ => P0_ k_) from by repeat (first | (with_reducible first | exact HK.out | apply Kept.alloc | apply Kept.drewN | apply Kept.drew) | exact HK.out)).1) : w.heap.size ≤ gb103)); have n5_ := Aside0.mk ((by rw [hg]; exact (below_size (by repeat (first | (with_reducible first | exact HB.out | apply below_alloc | apply pw_below_drewN | apply below_drew1) | exact HB.out))) : w0.heap.size ≤ gb103)); clear HO0; clear HK; clear HB; have HO0 := n0_; have HK := n1_; have HB := n2_; have BK103 := n3_; have GW103 := n4_; have GE103 := n5_; clear n0_ n1_ n2_ n3_ n4_ n5_; clear hb hbox hg; have hcz12_0 : w11.cell? ⟨gb103, 0, none⟩ = some (.int .i64 a2_0) := (blk_cell BK103.out 0).trans rfl; have hcz12_1 : w11.cell? ⟨gb103, 1, none⟩ = some (.int .u8 a2_1) := (blk_cell BK103.out 1).trans rfl; have hfz12_0 := blk_frozen BK103.out 0; have hfz12_1 := blk_frozen BK103.out 1; obtain ⟨Ao13, co13, eo13⟩ := Kd.R_slice HO0.out; subst eo13) | ((with_reducible refine gate_callee (f := 98) rfl ?_); refine goesL_ (some 13) rfl rfl Try.func98 (by kernel_rfl) rfl #[.slice Ao13 l0.length co13, .int .i64 a2_0, .func (.func 99) #[] #[]] rfl (by (try simp only [List.map_toArray, List.map_cons, List.map_nil]); first | done | rfl | (simp only [List.length_drop, List.length_take]; rfl)) ?_; (with_reducible refine (inbox_Held_int.calls _ _ l0 a2_0 t104 false _ ?side1 ?side2 A4.out).mono ?_); (case side1 => repeat (first | exact (Kd.R_reads' HO0.out).2.2 | (with_reducible refine Kd.C_alloc ?_ _) | (with_reducible refine Kd.C_drewN ?_ _) | (with_reducible refine Kd.C_drew ?_))); (case side2 => exact (Kd.R_reads' HO0.out).2.1); rintro e w14 ⟨rfl, hb⟩; refine ⟨_, rfl, ?_⟩; have n0_ := Aside0.mk (Kd.R_below (by (with_reducible repeat (first | apply Kd.R_alloc | apply Kd.R_drewN | apply Kd.R_drew)); exact HO0.out) hb); have n1_ := Aside0.mk (blk_below (g := gb103) (o := .cells #[.int .i64 a2_0, .int .u8 a2_1] 142 (0, 0)) (by (with_reducible repeat (first | refine blk_drewN ?_ _ | refine blk_drew ?_ | refine blk_alloc ?_ _)); exact BK103.out) hb); have n2_ := Aside0.mk (Kept.below (S := (fun k_ => P0_ k_)) (by repeat (first | (with_reducible first | exact HK.out | apply Kept.alloc | apply Kept.drewN | apply Kept.drew | refine Kept.setCell ?_ (.inr GW103.out) _) | exact HK.out)) hb); have n3_ := Aside0.mk (below_step (by repeat (first | (with_reducible first | exact HB.out | apply below_alloc | apply pw_below_drewN | apply below_drew1 | refine below_set ?_ GE103.out) | exact HB.out)) hb); clear HO0; clear BK103; clear HK; clear HB; have HO0 := n0_; have BK103 := n1_; have HK := n2_; have HB := n3_; clear n0_ n1_ n2_ n3_; (try clear hb); (try clear hb2); (try clear hk); (try clear hi); have hcz15_0 : w14.cell? ⟨gb103, 0, none⟩ = some (.int .i64 a2_0) := (blk_cell BK103.out 0).trans rfl; have hcz15_1 : w14.cell? ⟨gb103, 1, none⟩ = some (.int .u8 a2_1) := (blk_cell BK103.out 1).trans rfl; have hfz15_0 := blk_frozen BK103.out 0; have hfz15_1 := blk_frozen BK103.out 1))
      go_ret
      exact ⟨_, by first | rfl | (simp [errW_none, errW_some] <;> rfl) | (simp [*, errW_none, errW_some] <;> rfl), by (with_reducible repeat (first | apply Kd.R_alloc | apply Kd.R_drewN | apply Kd.R_drew)); exact Kd.R_mono HO0.out (fun _ hk => hk.1), by repeat (first | (with_reducible first | exact HB.out | apply below_alloc | apply pw_below_drewN | apply below_drew1 | refine below_set ?_ GE103.out) | exact HB.out), by repeat (first | (with_reducible first | exact HK.out | apply Kept.alloc | apply Kept.drewN | apply Kept.drew | refine Kept.setCell ?_ (.inr GW103.out) _) | exact HK.out)⟩
    · rw [if_neg c10] at H
      have c10b0 : decide (a2_0 < a1) = false := decide_eq_false c10
      clear c10
      obtain ⟨y106, hy106⟩ : ∃ y_ : List (S142), y_ = (([(⟨a2_0, a2_1⟩ : S142)] : List (S142))) := ⟨_, rfl⟩
      replace H : ((inbox_Held_101.f l0 t104 y106).bind fun t109 => (some t109)) = some r := by first | (rw [hy106]; with_reducible exact H) | (have H2_ := (Option.bind_some _ _).symm.trans H; rw [hy106]; with_reducible exact H2_) | (have H2_ := (Option.bind_some _ _).symm.trans H; with_reducible exact H2_) | with_reducible exact H | (rw [hy106]; exact H) | exact H
      have Ny106 := Aside0.mk hy106
      clear hy106
      replace H := Option.bind_eq_some_iff.mp H
      obtain ⟨t109, A160, H⟩ := H
      replace H : (some t109) = some r := H
      have A16 := Aside0.mk A160
      clear A160
      obtain rfl := Option.some.inj H
      go_enter Try.func74, Try.ntmps74
      go_wp2_with (first | ((with_reducible refine gate_dst (N := 5) rfl ?_); refine box_event ?hg (N := 5) ?hd (cs := #[.int .i64 a2_0, .int .u8 a2_1]) (t := 142) ?hr ?_; (case hd => rfl); (case hg => rfl); (case hr => first | (go_simp; done) | (go_simp; rfl)); intro gb103 hg w17 hbox hb; have n0_ := Aside0.mk (Kd.R_below (Kd.R_elderB (by (with_reducible repeat (first | apply Kd.R_alloc | apply Kd.R_drewN | apply Kd.R_drew)); exact HO0.out) gb103 (Nat.le_of_eq hg.symm)) hb); have n1_ := Aside0.mk (Kept.below (S := (fun k_ => P0_ k_)) (by repeat (first | (with_reducible first | exact HK.out | apply Kept.alloc | apply Kept.drewN | apply Kept.drew) | exact HK.out)) hb); have n2_ := Aside0.mk (below_step (by repeat (first | (with_reducible first | exact HB.out | apply below_alloc | apply pw_below_drewN | apply below_drew1) | exact HB.out)) hb); have n3_ := Aside0.mk (hbox); have n4_ := Aside0.mk ((by rw [hg]; exact (by first | exact HK.out.1 | exact (show Kept w _ (fun k_ => P0_ k_) from by repeat (first | (with_reducible first | exact HK.out | apply Kept.alloc | apply Kept.drewN | apply Kept.drew) | exact HK.out)).1) : w.heap.size ≤ gb103)); have n5_ := Aside0.mk ((by rw [hg]; exact (below_size (by repeat (first | (with_reducible first | exact HB.out | apply below_alloc | apply pw_below_drewN | apply below_drew1) | exact HB.out))) : w0.heap.size ≤ gb103)); clear HO0; clear HK; clear HB; have HO0 := n0_; have HK := n1_; have HB := n2_; have BK103 := n3_; have GW103 := n4_; have GE103 := n5_; clear n0_ n1_ n2_ n3_ n4_ n5_; clear hb hbox hg; have hcz18_0 : w17.cell? ⟨gb103, 0, none⟩ = some (.int .i64 a2_0) := (blk_cell BK103.out 0).trans rfl; have hcz18_1 : w17.cell? ⟨gb103, 1, none⟩ = some (.int .u8 a2_1) := (blk_cell BK103.out 1).trans rfl; have hfz18_0 := blk_frozen BK103.out 0; have hfz18_1 := blk_frozen BK103.out 1; obtain ⟨Ao19, co19, eo19⟩ := Kd.R_slice HO0.out; subst eo19) | ((with_reducible refine gate_callee (f := 98) rfl ?_); refine goesL_ (some 13) rfl rfl Try.func98 (by kernel_rfl) rfl #[.slice Ao19 l0.length co19, .int .i64 a2_0, .func (.func 99) #[] #[]] rfl (by (try simp only [List.map_toArray, List.map_cons, List.map_nil]); first | done | rfl | (simp only [List.length_drop, List.length_take]; rfl)) ?_; (with_reducible refine (inbox_Held_int.calls _ _ l0 a2_0 t104 false _ ?side1 ?side2 A4.out).mono ?_); (case side1 => repeat (first | exact (Kd.R_reads' HO0.out).2.2 | (with_reducible refine Kd.C_alloc ?_ _) | (with_reducible refine Kd.C_drewN ?_ _) | (with_reducible refine Kd.C_drew ?_))); (case side2 => exact (Kd.R_reads' HO0.out).2.1); rintro e w20 ⟨rfl, hb⟩; refine ⟨_, rfl, ?_⟩; have n0_ := Aside0.mk (Kd.R_below (by (with_reducible repeat (first | apply Kd.R_alloc | apply Kd.R_drewN | apply Kd.R_drew)); exact HO0.out) hb); have n1_ := Aside0.mk (blk_below (g := gb103) (o := .cells #[.int .i64 a2_0, .int .u8 a2_1] 142 (0, 0)) (by (with_reducible repeat (first | refine blk_drewN ?_ _ | refine blk_drew ?_ | refine blk_alloc ?_ _)); exact BK103.out) hb); have n2_ := Aside0.mk (Kept.below (S := (fun k_ => P0_ k_)) (by repeat (first | (with_reducible first | exact HK.out | apply Kept.alloc | apply Kept.drewN | apply Kept.drew | refine Kept.setCell ?_ (.inr GW103.out) _) | exact HK.out)) hb); have n3_ := Aside0.mk (below_step (by repeat (first | (with_reducible first | exact HB.out | apply below_alloc | apply pw_below_drewN | apply below_drew1 | refine below_set ?_ GE103.out) | exact HB.out)) hb); clear HO0; clear BK103; clear HK; clear HB; have HO0 := n0_; have BK103 := n1_; have HK := n2_; have HB := n3_; clear n0_ n1_ n2_ n3_; (try clear hb); (try clear hb2); (try clear hk); (try clear hi); have hcz21_0 : w20.cell? ⟨gb103, 0, none⟩ = some (.int .i64 a2_0) := (blk_cell BK103.out 0).trans rfl; have hcz21_1 : w20.cell? ⟨gb103, 1, none⟩ = some (.int .u8 a2_1) := (blk_cell BK103.out 1).trans rfl; have hfz21_0 := blk_frozen BK103.out 0; have hfz21_1 := blk_frozen BK103.out 1) | ((with_reducible refine gate_dst (N := 27) rfl ?_); refine Kd.R_lit k142 _ 142 ?hg (N := 27) ?hd (xs := ([(⟨a2_0, a2_1⟩ : S142)] : List (S142))) (inner := [.int .i64 a2_0, .int .u8 a2_1]) (ok := fun _ => True) (okp := fun _ => True) ?hr ?hp (fun _ hk => hk) trivial (Below.refl _ _) (Nat.le_refl _) (by simp) ?_; (case hd => rfl); (case hg => rfl); (case hr => first | (go_simp; done) | (go_simp; rfl)); (case hp => exact (Reps.c2 (show Kd.M k142 _ _ _ (⟨a2_0, a2_1⟩ : S142) [.int .i64 a2_0, .int .u8 a2_1] from (k142_mkM _ _ _ (⟨a2_0, a2_1⟩ : S142) )) (Reps.none _ _))); intro v107 w22 ho23 hb hg_ hnew_; clear hg_ hnew_; (first | rw [← Ny106.out] at ho23 | (simp only [Int.reduceToNat] at ho23; rw [← Ny106.out] at ho23)); have n0_ := Aside0.mk (Kd.R_elder' (by (with_reducible repeat (first | apply Kd.R_alloc | apply Kd.R_drewN | apply Kd.R_drew)); exact HO0.out) (Kd.R_base ho23) hb); have n1_ := Aside0.mk (Kd.R_lower (Kd.R_newB (Kd.R_new' (Kd.R_newM (M := fun k_ => (P0_ k_ ∨ w.heap.size ≤ k_)) ho23 (by first | exact HK.out.1 | exact (show Kept w _ (fun k_ => P0_ k_) from by repeat (first | (with_reducible first | exact HK.out | apply Kept.alloc | apply Kept.drewN | apply Kept.drew | refine Kept.setCell ?_ (.inr GW103.out) _) | exact HK.out)).1) (fun k_ h_ => .inr h_)) (Kd.R_lt (by (with_reducible repeat (first | apply Kd.R_alloc | apply Kd.R_drewN | apply Kd.R_drew)); exact HO0.out))) (g := gb103) (o := .cells #[.int .i64 a2_0, .int .u8 a2_1] 142 (0, 0)) (by (with_reducible repeat (first | refine blk_drewN ?_ _ | refine blk_drew ?_ | refine blk_alloc ?_ _)); exact BK103.out)) (below_size (by repeat (first | (with_reducible first | exact HB.out | apply below_alloc | apply pw_below_drewN | apply below_drew1 | refine below_set ?_ GE103.out) | exact HB.out)))); have n2_ := Aside0.mk (blk_below (g := gb103) (o := .cells #[.int .i64 a2_0, .int .u8 a2_1] 142 (0, 0)) (by (with_reducible repeat (first | refine blk_drewN ?_ _ | refine blk_drew ?_ | refine blk_alloc ?_ _)); exact BK103.out) hb); have n3_ := Aside0.mk (Kept.below (S := (fun k_ => P0_ k_)) (by repeat (first | (with_reducible first | exact HK.out | apply Kept.alloc | apply Kept.drewN | apply Kept.drew | refine Kept.setCell ?_ (.inr GW103.out) _) | exact HK.out)) hb); have n4_ := Aside0.mk (below_step (by repeat (first | (with_reducible first | exact HB.out | apply below_alloc | apply pw_below_drewN | apply below_drew1 | refine below_set ?_ GE103.out) | exact HB.out)) hb); clear HO0; clear BK103; clear HK; clear HB; have HO0 := n0_; have HO108 := n1_; have BK103 := n2_; have HK := n3_; have HB := n4_; clear n0_ n1_ n2_ n3_ n4_; clear hb ho23; obtain ⟨Ao24, co24, eo24⟩ := Kd.R_slice HO108.out; subst eo24) | ((with_reducible refine gate_callee (f := 101) rfl ?_); refine goesL_ (some 28) rfl rfl Try.func101 (by kernel_rfl) rfl #[.slice Ao19 l0.length co19, .int .i64 t104, .slice Ao24 y106.length co24] rfl (by (try simp only [List.map_toArray, List.map_cons, List.map_nil]); first | done | rfl | (simp only [List.length_drop, List.length_take]; rfl)) ?_; (with_reducible refine (inbox_Held_101.calls (fun k_ => some k_ = (.slice Ao19 l0.length co19 : Value).ownBlock) (.slice Ao19 l0.length co19) l0 t104 (fun k_ => some k_ = (.slice Ao24 y106.length co24 : Value).ownBlock) (.slice Ao24 y106.length co24) y106 t109 w0 _ ?side1 ?side2 ?side3 ?side4 ?side5 A16.out).mono ?_); (case side1 => repeat (first | (with_reducible first | exact HB.out | apply below_alloc | apply pw_below_drewN | apply below_drew1 | refine below_set ?_ GE103.out) | exact HB.out)); (case side2 => exact Kd.R_tight rfl HO0.out); (case side3 => exact fun k_ e_ => (HO0.out.1 k_ e_.symm).2); (case side4 => exact Kd.R_tight rfl HO108.out); (case side5 => exact fun k_ e_ => (HO108.out.1 k_ e_.symm).1.2); rintro e w25 ⟨v110, rfl, ho0, hb, hkp⟩; refine ⟨_, rfl, ?_⟩; have n0_ := Aside0.mk (blk_kept (by (with_reducible repeat (first | refine blk_drewN ?_ _ | refine blk_drew ?_ | refine blk_alloc ?_ _)); exact BK103.out) hkp (fun hs_ => Or.elim hs_ (fun e_ => (fun e_ => (Kd.R_away HO0.out (fun _ hk => hk.1.2)) e_) e_) (fun e_ => (fun e_ => (Kd.R_away HO108.out (fun _ hk => hk.2)) e_) e_))); have n1_ := Aside0.mk (Kd.R_mono (ok' := fun k_ => (P0_ k_ ∨ w.heap.size ≤ k_) ∧ k_ ≠ gb103) ho0 (fun k_ hk_ => ⟨Or.elim hk_ (fun hs_ => Or.elim hs_ (fun hs_ => (HO0.out.1 k_ (hs_).symm).1.1) (fun hs_ => (HO108.out.1 k_ (hs_).symm).1.1.1)) (fun hn_ => (.inr (Nat.le_trans (by first | exact HK.out.1 | exact (show Kept w _ (fun k_ => P0_ k_) from by repeat (first | (with_reducible first | exact HK.out | apply Kept.alloc | apply Kept.drewN | apply Kept.drew | refine Kept.setCell ?_ (.inr GW103.out) _) | exact HK.out)).1) hn_))), Or.elim hk_ (fun hs_ => Or.elim hs_ (fun hs_ => fun e_ => (Kd.R_away HO0.out (fun _ hk => hk.1.2)) (by rw [← e_]; exact hs_)) (fun hs_ => fun e_ => (Kd.R_away HO108.out (fun _ hk => hk.2)) (by rw [← e_]; exact hs_))) (fun hn_ => (Kd.freshB (g := gb103) (o := .cells #[.int .i64 a2_0, .int .u8 a2_1] 142 (0, 0)) (by (with_reducible repeat (first | refine blk_drewN ?_ _ | refine blk_drew ?_ | refine blk_alloc ?_ _)); exact BK103.out) k_ hn_))⟩)); have n2_ := Aside0.mk (Kept.then_ (S := (fun k_ => P0_ k_)) (by repeat (first | (with_reducible first | exact HK.out | apply Kept.alloc | apply Kept.drewN | apply Kept.drew | refine Kept.setCell ?_ (.inr GW103.out) _) | exact HK.out)) hkp (fun k_ hs_ => Or.elim hs_ (fun e_ => (fun e_ => (HO0.out.1 k_ e_.symm).1.1) e_) (fun e_ => (fun e_ => (HO108.out.1 k_ e_.symm).1.1.1) e_))); have n3_ := Aside0.mk (hb); clear BK103; clear HK; clear HB; clear HO0; clear HO108; have BK103 := n0_; have HO111 := n1_; have HK := n2_; have HB := n3_; clear n0_ n1_ n2_ n3_; (try clear hb); (try clear hkp); (try clear ho0)))
      go_ret
      exact ⟨_, by first | rfl | (simp [errW_none, errW_some] <;> rfl) | (simp [*, errW_none, errW_some] <;> rfl), by (with_reducible repeat (first | apply Kd.R_alloc | apply Kd.R_drewN | apply Kd.R_drew)); exact Kd.R_mono HO111.out (fun _ hk => hk.1), by repeat (first | (with_reducible first | exact HB.out | apply below_alloc | apply pw_below_drewN | apply below_drew1 | refine below_set ?_ GE103.out) | exact HB.out), by repeat (first | (with_reducible first | exact HK.out | apply Kept.alloc | apply Kept.drewN | apply Kept.drew | refine Kept.setCell ?_ (.inr GW103.out) _) | exact HK.out)⟩

end Go.Proofs.Ytdbfclfglpbpmaa.PF32O
