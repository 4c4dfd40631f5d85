/- By a program of this session (wip/tool/pp.py): plain Lean functions of the Go functions that this family of laws uses, the walks that the Go code comes to their answers, and the row of the law. No condition beside those that the row itself gives. -/
import Derived.Test.YthcpfkkddfgamaaPF39x0
import Derived.Test.YthcpfkkddfgamaaPF39x1
import Derived.Test.YthcpfkkddfgamaaPF39x2
import Derived.Test.YthcpfkkddfgamaaPF39x3
namespace Go.Proofs.Ythcpfkkddfgamaa.PF39
open Go.RowKit Go.Proofs.YthcpfkkddfgamaaW.Hand Go.Proofs.YthcpfkkddfgamaaW.PrintWords Go.Proofs.YthcpfkkddfgamaaW.PrintLast Go.Proofs.YthcpfkkddfgamaaW.PrintMore
attribute [local go_sem] max2_int min2_int max_two min_two max_three min_three max_four min_four   -- for this text's walks alone
set_option linter.unusedVariables false
set_option linter.unusedSimpArgs false

/-! ### batonlaw39_BagPuts: function 6 -/
mutual
def batonlaw39_BagPuts.j0 : Nat → List (S50) → List (S50) → Int → Bool → Option (Bool)
  | 0, _, _, _, _ => none
  | k + 1, x0, x1, x2, x22 => if x22 = true then (some true) else ((batonlaw39_Ref.f k x0).bind fun t146 => ((bag_Put.f k x0 x1).bind fun t149 => ((some (([] : List (S108)) : List (S108))).bind fun y152 => (if y152.length + t146.length < 2932031007402 then ((some (y152 ++ t146 : List (S108))).bind fun y155 => ((batonlaw39_Ref.f k x1).bind fun t158 => (if y155.length + t158.length < 2932031007402 then ((some (y155 ++ t158 : List (S108))).bind fun y161 => ((bag_At.f t149 x2).bind fun bt164 => ((batonlaw39_Ref.f k t149).bind fun t172 => ((batonref39_Same.f k t172 y161).bind fun t175 => (if t175 = true then (if x2 ≥ 0 then (batonlaw39_BagPuts.j1 k x0 x2 t146 t149 y161 bt164.2.2.2.2 (bt164.2.2.2.2 != (decide (x2 < (y161.length : Int)))) bt164.1 bt164.2.1 bt164.2.2.1 bt164.2.2.2.1) else (batonlaw39_BagPuts.j1 k x0 x2 t146 t149 y161 bt164.2.2.2.2 (bt164.2.2.2.2 != false) bt164.1 bt164.2.1 bt164.2.2.1 bt164.2.2.2.1)) else (batonlaw39_BagPuts.j1 k x0 x2 t146 t149 y161 bt164.2.2.2.2 true bt164.1 bt164.2.1 bt164.2.2.1 bt164.2.2.2.1)))))) else (none)))) else (none)))))
def batonlaw39_BagPuts.j1 : Nat → List (S50) → Int → List (S108) → List (S50) → List (S108) → Bool → Bool → Int → Int → Int → List Int → Option (Bool)
  | 0, _, _, _, _, _, _, _, _, _, _, _ => none
  | k + 1, x0, x2, x7, x8, x9, x11, x56, x172000, x172001, x172002, x172003 => if x56 = true then (some false) else (if x11 = true then ((batonlaw39_Ref.f k (([(⟨x172000, x172001, x172002, x172003⟩ : S50)] : List (S50)))).bind fun t179 => (if 0 ≤ x2 then (if x2 ≤ (wrap64 (x2 + 1)) then (if (wrap64 (x2 + 1)) ≤ (x9.length : Int) then ((batonref39_Same.f k t179 ((x9.take ((wrap64 (x2 + 1)) : Int).toNat).drop (x2 : Int).toNat)).bind fun t187 => (if t187 = true then (batonlaw39_BagPuts.l0 k x0 x7 x8 x9 0 x172000 x172001 x172002 x172003) else (some false))) else (none)) else (none)) else (none))) else (if x172000 = 0 then (some ((x172003.length : Int) == 0)) else (some false)))
def batonlaw39_BagPuts.l0 : Nat → List (S50) → List (S108) → List (S50) → List (S108) → Int → Int → Int → Int → List Int → Option (Bool)
  | 0, _, _, _, _, _, _, _, _, _ => none
  | k + 1, x0, x7, x8, x9, x12, x172000, x172001, x172002, x172003 => if x12 < (x172003.length : Int) then (if 0 ≤ x12 then (batonlaw39_BagPuts.l0 k x0 x7 x8 x9 (wrap64 (x12 + 1)) x172000 x172001 x172002 (x172003.set (x12 : Int).toNat 7)) else (none)) else ((bag_Put.f k x8 (([(⟨x172000, x172001, x172002, x172003⟩ : S50)] : List (S50)))).bind fun t192 => ((batonlaw39_Ref.f k x8).bind fun t195 => ((batonref39_Same.f k t195 x9).bind fun t198 => (if t198 = true then ((batonlaw39_Ref.f k x0).bind fun t199 => ((batonref39_Same.f k t199 x7).bind fun t202 => (some t202))) else (some false)))))
end
def batonlaw39_BagPuts.f (k : Nat) (l0 : List (S50)) (l1 : List (S50)) (a2 : Int) : Option (Bool) := (batonlaw39_awake.f k).bind fun t143 => (if t143 = true then ((batonlaw39_few.f k l0).bind fun t144 => (if t144 = true then ((batonlaw39_few.f k l1).bind fun t145 => (batonlaw39_BagPuts.j0 k l0 l1 a2 (!t145))) else (batonlaw39_BagPuts.j0 k l0 l1 a2 true))) else (some false))
theorem batonlaw39_BagPuts.mono_l : ∀ k, (∀ y0 y1 y2 y3, LeO (batonlaw39_BagPuts.j0 k y0 y1 y2 y3) (batonlaw39_BagPuts.j0 (k + 1) y0 y1 y2 y3)) ∧ (∀ y0 y1 y2 y3 y4 y5 y6 y7 y8 y9 y10, LeO (batonlaw39_BagPuts.j1 k y0 y1 y2 y3 y4 y5 y6 y7 y8 y9 y10) (batonlaw39_BagPuts.j1 (k + 1) y0 y1 y2 y3 y4 y5 y6 y7 y8 y9 y10)) ∧ (∀ y0 y1 y2 y3 y4 y5 y6 y7 y8, LeO (batonlaw39_BagPuts.l0 k y0 y1 y2 y3 y4 y5 y6 y7 y8) (batonlaw39_BagPuts.l0 (k + 1) y0 y1 y2 y3 y4 y5 y6 y7 y8))
  | 0 => ⟨fun _ _ _ _ r h => by simp [batonlaw39_BagPuts.j0] at h, fun _ _ _ _ _ _ _ _ _ _ _ r h => by simp [batonlaw39_BagPuts.j1] at h, fun _ _ _ _ _ _ _ _ _ r h => by simp [batonlaw39_BagPuts.l0] at h⟩
  | k + 1 => by
    obtain ⟨ih0, ih1, ih2⟩ := batonlaw39_BagPuts.mono_l k
    refine ⟨?_, ?_, ?_⟩
    · intro y0 y1 y2 y3
      unfold batonlaw39_BagPuts.j0
      repeat' first
      | (with_reducible exact ih0 _ _ _ _)
      | (with_reducible exact ih1 _ _ _ _ _ _ _ _ _ _ _)
      | (with_reducible exact ih2 _ _ _ _ _ _ _ _ _)
      | (with_reducible exact bag_Put.mono _ _ _)
      | (with_reducible exact batonlaw39_Ref.mono _ _)
      | (with_reducible exact batonlaw39_awake.mono _)
      | (with_reducible exact batonlaw39_few.mono _ _)
      | (with_reducible exact batonref39_Same.mono _ _ _)
      | (with_reducible exact LeO.refl _)
      | (with_reducible exact LeO.none _)
      | (with_reducible refine LeO.ite ?_ ?_)
      | (with_reducible refine LeO.bind ?_ (fun _ => ?_))
      | exact ih0 _ _ _ _
      | exact ih1 _ _ _ _ _ _ _ _ _ _ _
      | exact ih2 _ _ _ _ _ _ _ _ _
      | exact bag_Put.mono _ _ _
      | exact batonlaw39_Ref.mono _ _
      | exact batonlaw39_awake.mono _
      | exact batonlaw39_few.mono _ _
      | exact batonref39_Same.mono _ _ _
      | exact LeO.none _
      | refine LeO.ite ?_ ?_
      | refine LeO.bind ?_ (fun _ => ?_)
    · intro y0 y1 y2 y3 y4 y5 y6 y7 y8 y9 y10
      unfold batonlaw39_BagPuts.j1
      repeat' first
      | (with_reducible exact ih0 _ _ _ _)
      | (with_reducible exact ih1 _ _ _ _ _ _ _ _ _ _ _)
      | (with_reducible exact ih2 _ _ _ _ _ _ _ _ _)
      | (with_reducible exact bag_Put.mono _ _ _)
      | (with_reducible exact batonlaw39_Ref.mono _ _)
      | (with_reducible exact batonlaw39_awake.mono _)
      | (with_reducible exact batonlaw39_few.mono _ _)
      | (with_reducible exact batonref39_Same.mono _ _ _)
      | (with_reducible exact LeO.refl _)
      | (with_reducible exact LeO.none _)
      | (with_reducible refine LeO.ite ?_ ?_)
      | (with_reducible refine LeO.bind ?_ (fun _ => ?_))
      | exact ih0 _ _ _ _
      | exact ih1 _ _ _ _ _ _ _ _ _ _ _
      | exact ih2 _ _ _ _ _ _ _ _ _
      | exact bag_Put.mono _ _ _
      | exact batonlaw39_Ref.mono _ _
      | exact batonlaw39_awake.mono _
      | exact batonlaw39_few.mono _ _
      | exact batonref39_Same.mono _ _ _
      | exact LeO.none _
      | refine LeO.ite ?_ ?_
      | refine LeO.bind ?_ (fun _ => ?_)
    · intro y0 y1 y2 y3 y4 y5 y6 y7 y8
      unfold batonlaw39_BagPuts.l0
      repeat' first
      | (with_reducible exact ih0 _ _ _ _)
      | (with_reducible exact ih1 _ _ _ _ _ _ _ _ _ _ _)
      | (with_reducible exact ih2 _ _ _ _ _ _ _ _ _)
      | (with_reducible exact bag_Put.mono _ _ _)
      | (with_reducible exact batonlaw39_Ref.mono _ _)
      | (with_reducible exact batonlaw39_awake.mono _)
      | (with_reducible exact batonlaw39_few.mono _ _)
      | (with_reducible exact batonref39_Same.mono _ _ _)
      | (with_reducible exact LeO.refl _)
      | (with_reducible exact LeO.none _)
      | (with_reducible refine LeO.ite ?_ ?_)
      | (with_reducible refine LeO.bind ?_ (fun _ => ?_))
      | exact ih0 _ _ _ _
      | exact ih1 _ _ _ _ _ _ _ _ _ _ _
      | exact ih2 _ _ _ _ _ _ _ _ _
      | exact bag_Put.mono _ _ _
      | exact batonlaw39_Ref.mono _ _
      | exact batonlaw39_awake.mono _
      | exact batonlaw39_few.mono _ _
      | exact batonref39_Same.mono _ _ _
      | exact LeO.none _
      | refine LeO.ite ?_ ?_
      | refine LeO.bind ?_ (fun _ => ?_)
theorem batonlaw39_BagPuts.mono : ∀ a0 a1 a2 k, LeO (batonlaw39_BagPuts.f k a0 a1 a2) (batonlaw39_BagPuts.f (k + 1) a0 a1 a2) := by
  intro a0 a1 a2 k
  obtain ⟨ih0, ih1, ih2⟩ := batonlaw39_BagPuts.mono_l k
  unfold batonlaw39_BagPuts.f
  repeat' first
      | (with_reducible exact ih0 _ _ _ _)
      | (with_reducible exact ih1 _ _ _ _ _ _ _ _ _ _ _)
      | (with_reducible exact ih2 _ _ _ _ _ _ _ _ _)
      | (with_reducible exact bag_Put.mono _ _ _)
      | (with_reducible exact batonlaw39_Ref.mono _ _)
      | (with_reducible exact batonlaw39_awake.mono _)
      | (with_reducible exact batonlaw39_few.mono _ _)
      | (with_reducible exact batonref39_Same.mono _ _ _)
      | (with_reducible exact LeO.refl _)
      | (with_reducible exact LeO.none _)
      | (with_reducible refine LeO.ite ?_ ?_)
      | (with_reducible refine LeO.bind ?_ (fun _ => ?_))
      | exact ih0 _ _ _ _
      | exact ih1 _ _ _ _ _ _ _ _ _ _ _
      | exact ih2 _ _ _ _ _ _ _ _ _
      | exact bag_Put.mono _ _ _
      | exact batonlaw39_Ref.mono _ _
      | exact batonlaw39_awake.mono _
      | exact batonlaw39_few.mono _ _
      | exact batonref39_Same.mono _ _ _
      | exact LeO.none _
      | refine LeO.ite ?_ ?_
      | refine LeO.bind ?_ (fun _ => ?_)
def batonlaw39_BagPuts.T13 : Bool × List (List Nat × List Nat) := (true, [([], []), ([0], [0]), ([1], [1]), ([], []), ([], []), ([], []), ([5], [5]), ([3, 4, 6], [3, 4, 6]), ([2, 7, 2], [2, 7]), ([8], [8])])
def batonlaw39_BagPuts.B13 : List Nat := [0, 1, 3, 0, 0, 0, 32, 120, 255, 511]
theorem batonlaw39_BagPuts.tab13 : rtab .any (opsOf Try.f6 13) = batonlaw39_BagPuts.T13 := by kernel_rfl
theorem batonlaw39_BagPuts.bits13 : waitsOk batonlaw39_BagPuts.T13.2 batonlaw39_BagPuts.B13 = true := by kernel_rfl
set_option maxHeartbeats 8000000 in
set_option maxRecDepth 100000 in
theorem batonlaw39_BagPuts.calls (k : Nat) (A0 : Option Addr) (c0 : Nat) (l0 : List (S50)) (A1 : Option Addr) (c1 : Nat) (l1 : List (S50)) (a2 : Int) (r : Bool) (w : World) (hr0 : Kd.C k50 w A0 l0.length l0) (hc0 : l0.length ≤ c0) (hr1 : Kd.C k50 w A1 l1.length l1) (hc1 : l1.length ≤ c1) (h : batonlaw39_BagPuts.f k l0 l1 a2 = some r) :
    Calls Try.prog 6 #[.slice A0 l0.length c0, .slice A1 l1.length c1, .int .i64 a2] w fun e w' => e = .returned (.bool r) ∧ Below w.heap.size w w' := by
  have hu50 := Try.underlying50
  have HR0 := Aside0.mk hr0
  have HC0 := Aside0.mk hc0
  clear hr0 hc0
  have HR1 := Aside0.mk hr1
  have HC1 := Aside0.mk hc1
  clear hr1 hc1
  have HB := Aside0.mk (Below.refl w.heap.size w)
  have H : ((batonlaw39_awake.f k).bind fun t143 => (if t143 = true then ((batonlaw39_few.f k l0).bind fun t144 => (if t144 = true then ((batonlaw39_few.f k l1).bind fun t145 => (batonlaw39_BagPuts.j0 k l0 l1 a2 (!t145))) else (batonlaw39_BagPuts.j0 k l0 l1 a2 true))) else (some false))) = some r := h
  clear h
  replace H := Option.bind_eq_some_iff.mp H
  obtain ⟨t143, A40, H⟩ := H
  replace H : (if t143 = true then ((batonlaw39_few.f k l0).bind fun t144 => (if t144 = true then ((batonlaw39_few.f k l1).bind fun t145 => (batonlaw39_BagPuts.j0 k l0 l1 a2 (!t145))) else (batonlaw39_BagPuts.j0 k l0 l1 a2 true))) else (some false)) = some r := H
  have A4 := Aside0.mk A40
  clear A40
  by_cases c5 : t143 = true
  · subst c5
    have H1 : ((batonlaw39_few.f k l0).bind fun t144 => (if t144 = true then ((batonlaw39_few.f k l1).bind fun t145 => (batonlaw39_BagPuts.j0 k l0 l1 a2 (!t145))) else (batonlaw39_BagPuts.j0 k l0 l1 a2 true))) = some r := by rw [if_pos rfl] at H; exact H
    clear H
    have H := H1
    clear H1
    have HC6 := Aside0.mk H
    clear H
    go_enter Try.func6, Try.ntmps6
    go_upto_region 3 with (first | ((with_reducible refine gate_callee (f := 24) rfl ?_); refine goesL_ (some 13) rfl rfl Try.func24 (by kernel_rfl) rfl #[] rfl (by (try simp only [List.map_toArray, List.map_cons, List.map_nil]); first | done | rfl | (simp only [List.length_drop, List.length_take]; rfl)) ?_; (with_reducible refine (batonlaw39_awake.calls k  true _ A4.out).mono ?_); rintro e w7 ⟨rfl, hb⟩; refine ⟨_, rfl, ?_⟩; have n0_ := Aside0.mk (below_step (by repeat (first | (with_reducible first | exact HB.out | apply below_alloc | apply pw_below_drewN | apply below_drew1) | exact HB.out)) hb); clear HB; have HB := n0_; clear n0_; (try clear hb); (try clear hb2); (try clear hk); (try clear hi)))
    (try simp only [Act.put, List.setIfInBounds_toArray, List.set_cons_zero, List.set_cons_succ])
    go_cut [22] (fun v22 wc => ∃ (kq : Nat) (x22_5 : Bool), v22 = .bool x22_5 ∧ Aside0 (batonlaw39_BagPuts.j0 kq l0 l1 a2 x22_5 = some r) ∧ Aside0 (kq ≤ k) ∧ Aside0 (Below w.heap.size w wc))
    case first =>
      have H := HC6.out
      clear HC6
      replace H := Option.bind_eq_some_iff.mp H
      obtain ⟨t144, A80, H⟩ := H
      replace H : (if t144 = true then ((batonlaw39_few.f k l1).bind fun t145 => (batonlaw39_BagPuts.j0 k l0 l1 a2 (!t145))) else (batonlaw39_BagPuts.j0 k l0 l1 a2 true)) = some r := H
      have A8 := Aside0.mk A80
      clear A80
      by_cases c9 : t144 = true
      · subst c9
        have H1 : ((batonlaw39_few.f k l1).bind fun t145 => (batonlaw39_BagPuts.j0 k l0 l1 a2 (!t145))) = some r := by rw [if_pos rfl] at H; exact H
        clear H
        have H := H1
        clear H1
        replace H := Option.bind_eq_some_iff.mp H
        obtain ⟨t145, A100, H⟩ := H
        replace H : (batonlaw39_BagPuts.j0 k l0 l1 a2 (!t145)) = some r := H
        have A10 := Aside0.mk A100
        clear A100
        have H' := Aside0.mk H
        clear H
        go_wp2_with (first | ((with_reducible refine gate_callee (f := 25) rfl ?_); refine goesL_ (some 16) rfl rfl Try.func25 (by kernel_rfl) rfl #[.slice A0 l0.length c0] rfl (by (try simp only [List.map_toArray, List.map_cons, List.map_nil]); first | done | rfl | (simp only [List.length_drop, List.length_take]; rfl)) ?_; (with_reducible refine (batonlaw39_few.calls k _ _ l0 true _ ?side1 ?side2 A8.out).mono ?_); (case side1 => repeat (first | exact (Kd.C_below HR0.out HB.out) | (with_reducible refine Kd.C_alloc ?_ _) | (with_reducible refine Kd.C_drewN ?_ _) | (with_reducible refine Kd.C_drew ?_))); (case side2 => exact HC0.out); rintro e w' ⟨rfl, ⟨nd, rfl⟩⟩; refine ⟨_, rfl, ?_⟩) | (go_at_call 25; (with_reducible refine (batonlaw39_few.calls k _ _ l1 t145 _ ?side1 ?side2 A10.out).mono ?_); (case side1 => repeat (first | exact (Kd.C_below HR1.out (by repeat (first | (with_reducible first | exact HB.out | apply below_alloc | apply pw_below_drewN | apply below_drew1) | exact HB.out))) | (with_reducible refine Kd.C_alloc ?_ _) | (with_reducible refine Kd.C_drewN ?_ _) | (with_reducible refine Kd.C_drew ?_))); (case side2 => exact HC1.out); rintro e w' ⟨rfl, ⟨nd, rfl⟩⟩))
        go_meet
        case rel => exact ⟨_, (!t145), (by first | rfl | (simp; done) | (simp [*]; done)), H', ⟨by first | omega | exact Nat.le_refl _⟩, ⟨by repeat (first | (with_reducible first | exact HB.out | apply below_alloc | apply pw_below_drewN | apply below_drew1) | exact HB.out)⟩⟩
      · replace c9 := Bool.eq_false_iff.mpr c9
        subst c9
        have H1 : (batonlaw39_BagPuts.j0 k l0 l1 a2 true) = some r := by rw [if_neg (show ¬ (false = true) by decide)] at H; exact H
        clear H
        have H := H1
        clear H1
        have H' := Aside0.mk H
        clear H
        go_wp2_with (first | ((with_reducible refine gate_callee (f := 25) rfl ?_); refine goesL_ (some 16) rfl rfl Try.func25 (by kernel_rfl) rfl #[.slice A0 l0.length c0] rfl (by (try simp only [List.map_toArray, List.map_cons, List.map_nil]); first | done | rfl | (simp only [List.length_drop, List.length_take]; rfl)) ?_; (with_reducible refine (batonlaw39_few.calls k _ _ l0 false _ ?side1 ?side2 A8.out).mono ?_); (case side1 => repeat (first | exact (Kd.C_below HR0.out HB.out) | (with_reducible refine Kd.C_alloc ?_ _) | (with_reducible refine Kd.C_drewN ?_ _) | (with_reducible refine Kd.C_drew ?_))); (case side2 => exact HC0.out); rintro e w' ⟨rfl, ⟨nd, rfl⟩⟩; refine ⟨_, rfl, ?_⟩))
        go_meet
        case rel => exact ⟨_, (true), (by first | rfl | (simp; done) | (simp [*]; done)), H', ⟨by first | omega | exact Nat.le_refl _⟩, ⟨by repeat (first | (with_reducible first | exact HB.out | apply below_alloc | apply pw_below_drewN | apply below_drew1) | exact HB.out)⟩⟩
    case rest =>
      clear HC6
      try clear c1
      try clear c2
      try clear p2
      try clear c5
      try clear c6
      try clear c9
      obtain ⟨kq, x22_5, rfl, HA, HJ5, HB⟩ := hcut
      cases kq with
      | zero => exact absurd HA.out (by simp [batonlaw39_BagPuts.j0])
      | succ kj5 =>
        have H := HA.out
        clear HA
        simp only [batonlaw39_BagPuts.j0] at H
        by_cases c11 : x22_5 = true
        · subst c11
          have H1 : (some true) = some r := by rw [if_pos rfl] at H; exact H
          clear H
          have H := H1
          clear H1
          obtain rfl := Option.some.inj H
          go_wp2
          go_ret
          exact ⟨by first | rfl | (simp [errW_none, errW_some] <;> rfl) | (simp [*, errW_none, errW_some] <;> rfl), by repeat (first | (with_reducible first | exact HB.out | apply below_alloc | apply pw_below_drewN | apply below_drew1) | exact HB.out)⟩
        · replace c11 := Bool.eq_false_iff.mpr c11
          subst c11
          have H1 : ((batonlaw39_Ref.f kj5 l0).bind fun t146 => ((bag_Put.f kj5 l0 l1).bind fun t149 => ((some (([] : List (S108)) : List (S108))).bind fun y152 => (if y152.length + t146.length < 2932031007402 then ((some (y152 ++ t146 : List (S108))).bind fun y155 => ((batonlaw39_Ref.f kj5 l1).bind fun t158 => (if y155.length + t158.length < 2932031007402 then ((some (y155 ++ t158 : List (S108))).bind fun y161 => ((bag_At.f t149 a2).bind fun bt164 => ((batonlaw39_Ref.f kj5 t149).bind fun t172 => ((batonref39_Same.f kj5 t172 y161).bind fun t175 => (if t175 = true then (if a2 ≥ 0 then (batonlaw39_BagPuts.j1 kj5 l0 a2 t146 t149 y161 bt164.2.2.2.2 (bt164.2.2.2.2 != (decide (a2 < (y161.length : Int)))) bt164.1 bt164.2.1 bt164.2.2.1 bt164.2.2.2.1) else (batonlaw39_BagPuts.j1 kj5 l0 a2 t146 t149 y161 bt164.2.2.2.2 (bt164.2.2.2.2 != false) bt164.1 bt164.2.1 bt164.2.2.1 bt164.2.2.2.1)) else (batonlaw39_BagPuts.j1 kj5 l0 a2 t146 t149 y161 bt164.2.2.2.2 true bt164.1 bt164.2.1 bt164.2.2.1 bt164.2.2.2.1)))))) else (none)))) else (none))))) = some r := by rw [if_neg (show ¬ (false = true) by decide)] at H; exact H
          clear H
          have H := H1
          clear H1
          replace H := Option.bind_eq_some_iff.mp H
          obtain ⟨t146, A120, H⟩ := H
          replace H : ((bag_Put.f kj5 l0 l1).bind fun t149 => ((some (([] : List (S108)) : List (S108))).bind fun y152 => (if y152.length + t146.length < 2932031007402 then ((some (y152 ++ t146 : List (S108))).bind fun y155 => ((batonlaw39_Ref.f kj5 l1).bind fun t158 => (if y155.length + t158.length < 2932031007402 then ((some (y155 ++ t158 : List (S108))).bind fun y161 => ((bag_At.f t149 a2).bind fun bt164 => ((batonlaw39_Ref.f kj5 t149).bind fun t172 => ((batonref39_Same.f kj5 t172 y161).bind fun t175 => (if t175 = true then (if a2 ≥ 0 then (batonlaw39_BagPuts.j1 kj5 l0 a2 t146 t149 y161 bt164.2.2.2.2 (bt164.2.2.2.2 != (decide (a2 < (y161.length : Int)))) bt164.1 bt164.2.1 bt164.2.2.1 bt164.2.2.2.1) else (batonlaw39_BagPuts.j1 kj5 l0 a2 t146 t149 y161 bt164.2.2.2.2 (bt164.2.2.2.2 != false) bt164.1 bt164.2.1 bt164.2.2.1 bt164.2.2.2.1)) else (batonlaw39_BagPuts.j1 kj5 l0 a2 t146 t149 y161 bt164.2.2.2.2 true bt164.1 bt164.2.1 bt164.2.2.1 bt164.2.2.2.1)))))) else (none)))) else (none)))) = some r := H
          have A12 := Aside0.mk A120
          clear A120
          replace H := Option.bind_eq_some_iff.mp H
          obtain ⟨t149, A130, H⟩ := H
          replace H : ((some (([] : List (S108)) : List (S108))).bind fun y152 => (if y152.length + t146.length < 2932031007402 then ((some (y152 ++ t146 : List (S108))).bind fun y155 => ((batonlaw39_Ref.f kj5 l1).bind fun t158 => (if y155.length + t158.length < 2932031007402 then ((some (y155 ++ t158 : List (S108))).bind fun y161 => ((bag_At.f t149 a2).bind fun bt164 => ((batonlaw39_Ref.f kj5 t149).bind fun t172 => ((batonref39_Same.f kj5 t172 y161).bind fun t175 => (if t175 = true then (if a2 ≥ 0 then (batonlaw39_BagPuts.j1 kj5 l0 a2 t146 t149 y161 bt164.2.2.2.2 (bt164.2.2.2.2 != (decide (a2 < (y161.length : Int)))) bt164.1 bt164.2.1 bt164.2.2.1 bt164.2.2.2.1) else (batonlaw39_BagPuts.j1 kj5 l0 a2 t146 t149 y161 bt164.2.2.2.2 (bt164.2.2.2.2 != false) bt164.1 bt164.2.1 bt164.2.2.1 bt164.2.2.2.1)) else (batonlaw39_BagPuts.j1 kj5 l0 a2 t146 t149 y161 bt164.2.2.2.2 true bt164.1 bt164.2.1 bt164.2.2.1 bt164.2.2.2.1)))))) else (none)))) else (none))) = some r := H
          have A13 := Aside0.mk A130
          clear A130
          obtain ⟨y152, hy152⟩ : ∃ y_ : List (S108), y_ = (([] : List (S108))) := ⟨_, rfl⟩
          replace H : (if y152.length + t146.length < 2932031007402 then ((some (y152 ++ t146 : List (S108))).bind fun y155 => ((batonlaw39_Ref.f kj5 l1).bind fun t158 => (if y155.length + t158.length < 2932031007402 then ((some (y155 ++ t158 : List (S108))).bind fun y161 => ((bag_At.f t149 a2).bind fun bt164 => ((batonlaw39_Ref.f kj5 t149).bind fun t172 => ((batonref39_Same.f kj5 t172 y161).bind fun t175 => (if t175 = true then (if a2 ≥ 0 then (batonlaw39_BagPuts.j1 kj5 l0 a2 t146 t149 y161 bt164.2.2.2.2 (bt164.2.2.2.2 != (decide (a2 < (y161.length : Int)))) bt164.1 bt164.2.1 bt164.2.2.1 bt164.2.2.2.1) else (batonlaw39_BagPuts.j1 kj5 l0 a2 t146 t149 y161 bt164.2.2.2.2 (bt164.2.2.2.2 != false) bt164.1 bt164.2.1 bt164.2.2.1 bt164.2.2.2.1)) else (batonlaw39_BagPuts.j1 kj5 l0 a2 t146 t149 y161 bt164.2.2.2.2 true bt164.1 bt164.2.1 bt164.2.2.1 bt164.2.2.2.1)))))) else (none)))) else (none)) = some r := by first | (rw [hy152]; with_reducible exact H) | (have H2_ := (Option.bind_some _ _).symm.trans H; rw [hy152]; with_reducible exact H2_) | (have H2_ := (Option.bind_some _ _).symm.trans H; with_reducible exact H2_) | with_reducible exact H | (rw [hy152]; exact H) | exact H
          have Ny152 := Aside0.mk hy152
          clear hy152
          by_cases c14 : y152.length + t146.length < 2932031007402
          · rw [if_pos c14] at H
            have LMc14 := Aside0.mk c14
            clear c14
            obtain ⟨y155, hy155⟩ : ∃ y_ : List (S108), y_ = (y152 ++ t146) := ⟨_, rfl⟩
            replace H : ((batonlaw39_Ref.f kj5 l1).bind fun t158 => (if y155.length + t158.length < 2932031007402 then ((some (y155 ++ t158 : List (S108))).bind fun y161 => ((bag_At.f t149 a2).bind fun bt164 => ((batonlaw39_Ref.f kj5 t149).bind fun t172 => ((batonref39_Same.f kj5 t172 y161).bind fun t175 => (if t175 = true then (if a2 ≥ 0 then (batonlaw39_BagPuts.j1 kj5 l0 a2 t146 t149 y161 bt164.2.2.2.2 (bt164.2.2.2.2 != (decide (a2 < (y161.length : Int)))) bt164.1 bt164.2.1 bt164.2.2.1 bt164.2.2.2.1) else (batonlaw39_BagPuts.j1 kj5 l0 a2 t146 t149 y161 bt164.2.2.2.2 (bt164.2.2.2.2 != false) bt164.1 bt164.2.1 bt164.2.2.1 bt164.2.2.2.1)) else (batonlaw39_BagPuts.j1 kj5 l0 a2 t146 t149 y161 bt164.2.2.2.2 true bt164.1 bt164.2.1 bt164.2.2.1 bt164.2.2.2.1)))))) else (none))) = some r := by first | (rw [hy155]; with_reducible exact H) | (have H2_ := (Option.bind_some _ _).symm.trans H; rw [hy155]; with_reducible exact H2_) | (have H2_ := (Option.bind_some _ _).symm.trans H; with_reducible exact H2_) | with_reducible exact H | (rw [hy155]; exact H) | exact H
            have Ny155 := Aside0.mk hy155
            clear hy155
            replace H := Option.bind_eq_some_iff.mp H
            obtain ⟨t158, A150, H⟩ := H
            replace H : (if y155.length + t158.length < 2932031007402 then ((some (y155 ++ t158 : List (S108))).bind fun y161 => ((bag_At.f t149 a2).bind fun bt164 => ((batonlaw39_Ref.f kj5 t149).bind fun t172 => ((batonref39_Same.f kj5 t172 y161).bind fun t175 => (if t175 = true then (if a2 ≥ 0 then (batonlaw39_BagPuts.j1 kj5 l0 a2 t146 t149 y161 bt164.2.2.2.2 (bt164.2.2.2.2 != (decide (a2 < (y161.length : Int)))) bt164.1 bt164.2.1 bt164.2.2.1 bt164.2.2.2.1) else (batonlaw39_BagPuts.j1 kj5 l0 a2 t146 t149 y161 bt164.2.2.2.2 (bt164.2.2.2.2 != false) bt164.1 bt164.2.1 bt164.2.2.1 bt164.2.2.2.1)) else (batonlaw39_BagPuts.j1 kj5 l0 a2 t146 t149 y161 bt164.2.2.2.2 true bt164.1 bt164.2.1 bt164.2.2.1 bt164.2.2.2.1)))))) else (none)) = some r := H
            have A15 := Aside0.mk A150
            clear A150
            by_cases c16 : y155.length + t158.length < 2932031007402
            · rw [if_pos c16] at H
              have LMc16 := Aside0.mk c16
              clear c16
              obtain ⟨y161, hy161⟩ : ∃ y_ : List (S108), y_ = (y155 ++ t158) := ⟨_, rfl⟩
              replace H : ((bag_At.f t149 a2).bind fun bt164 => ((batonlaw39_Ref.f kj5 t149).bind fun t172 => ((batonref39_Same.f kj5 t172 y161).bind fun t175 => (if t175 = true then (if a2 ≥ 0 then (batonlaw39_BagPuts.j1 kj5 l0 a2 t146 t149 y161 bt164.2.2.2.2 (bt164.2.2.2.2 != (decide (a2 < (y161.length : Int)))) bt164.1 bt164.2.1 bt164.2.2.1 bt164.2.2.2.1) else (batonlaw39_BagPuts.j1 kj5 l0 a2 t146 t149 y161 bt164.2.2.2.2 (bt164.2.2.2.2 != false) bt164.1 bt164.2.1 bt164.2.2.1 bt164.2.2.2.1)) else (batonlaw39_BagPuts.j1 kj5 l0 a2 t146 t149 y161 bt164.2.2.2.2 true bt164.1 bt164.2.1 bt164.2.2.1 bt164.2.2.2.1))))) = some r := by first | (rw [hy161]; with_reducible exact H) | (have H2_ := (Option.bind_some _ _).symm.trans H; rw [hy161]; with_reducible exact H2_) | (have H2_ := (Option.bind_some _ _).symm.trans H; with_reducible exact H2_) | with_reducible exact H | (rw [hy161]; exact H) | exact H
              have Ny161 := Aside0.mk hy161
              clear hy161
              replace H := Option.bind_eq_some_iff.mp H
              obtain ⟨⟨t164, t165, t166, t167, t170⟩, A170, H⟩ := H
              replace H : ((batonlaw39_Ref.f kj5 t149).bind fun t172 => ((batonref39_Same.f kj5 t172 y161).bind fun t175 => (if t175 = true then (if a2 ≥ 0 then (batonlaw39_BagPuts.j1 kj5 l0 a2 t146 t149 y161 t170 (t170 != (decide (a2 < (y161.length : Int)))) t164 t165 t166 t167) else (batonlaw39_BagPuts.j1 kj5 l0 a2 t146 t149 y161 t170 (t170 != false) t164 t165 t166 t167)) else (batonlaw39_BagPuts.j1 kj5 l0 a2 t146 t149 y161 t170 true t164 t165 t166 t167)))) = some r := H
              have A17 := Aside0.mk A170
              clear A170
              have HC18 := Aside0.mk H
              clear H
              go_upto_region 9 with (first | ((with_reducible refine gate_callee (f := 26) rfl ?_); refine goesL_ (some 24) rfl rfl Try.func26 (by kernel_rfl) rfl #[.slice A0 l0.length c0] rfl (by (try simp only [List.map_toArray, List.map_cons, List.map_nil]); first | done | rfl | (simp only [List.length_drop, List.length_take]; rfl)) ?_; (with_reducible refine (batonlaw39_Ref.calls kj5 (fun k_ => k_ < w.heap.size) _ _ l0 t146 _ ?side1 A12.out).mono ?_); (case side1 => exact Kd.V_mk HC0.out (Kd.F_below (Kd.C_F k50_heap HR0.out) (by repeat (first | (with_reducible first | exact HB.out | apply below_alloc | apply pw_below_drewN | apply below_drew1) | exact HB.out)))); rintro e w19 ⟨v147, rfl, ho0, hb⟩; refine ⟨_, rfl, ?_⟩; have n0_ := Aside0.mk (Kd.N_lower (Kd.N_mono (ok' := fun k_ => True) ho0 (fun k_ hk_ => trivial)) (below_size (by repeat (first | (with_reducible first | exact HB.out | apply below_alloc | apply pw_below_drewN | apply below_drew1) | exact HB.out)))); have n1_ := Aside0.mk (below_step (by repeat (first | (with_reducible first | exact HB.out | apply below_alloc | apply pw_below_drewN | apply below_drew1) | exact HB.out)) hb); clear HB; have HO148 := n0_; have HB := n1_; clear n0_ n1_; (try clear hb); (try clear hb2); (try clear hk); (try clear hi); (try clear ho0)) | ((with_reducible refine gate_callee (f := 27) rfl ?_); refine goesL_ (some 27) rfl rfl Try.func27 (by kernel_rfl) rfl #[.slice A0 l0.length c0, .slice A1 l1.length c1] rfl (by (try simp only [List.map_toArray, List.map_cons, List.map_nil]); first | done | rfl | (simp only [List.length_drop, List.length_take]; rfl)) ?_; (with_reducible refine (bag_Put.calls kj5 (fun k_ => k_ < w.heap.size) _ _ l0 _ _ l1 t149 _ ?side1 ?side2 ?side3 A13.out).mono ?_); (case side1 => exact Kd.V_mk HC0.out (Kd.F_below (Kd.C_F k50_heap HR0.out) (by repeat (first | (with_reducible first | exact HB.out | apply below_alloc | apply pw_below_drewN | apply below_drew1) | exact HB.out)))); (case side2 => repeat (first | exact (Kd.C_below HR1.out HB.out) | (with_reducible refine Kd.C_alloc ?_ _) | (with_reducible refine Kd.C_drewN ?_ _) | (with_reducible refine Kd.C_drew ?_))); (case side3 => exact HC1.out); rintro e w20 ⟨v150, rfl, ho0, hb⟩; refine ⟨_, rfl, ?_⟩; have n0_ := Aside0.mk (Kd.N_elder' (by (with_reducible repeat (first | apply Kd.N_alloc | apply Kd.N_drewN | apply Kd.N_drew)); exact HO148.out) (Kd.N_base ho0) hb); have n1_ := Aside0.mk (Kd.N_lower (Kd.N_mono (ok' := fun k_ => some k_ ≠ (v147 : Value).ownBlock) ho0 (fun k_ hk_ => Or.elim hk_ (fun hs_ => fun e_ => Nat.not_le.2 hs_ (Kd.N_base HO148.out k_ e_.symm)) (fun hn_ => (Kd.fresh' (Kd.N_lt (by (with_reducible repeat (first | apply Kd.N_alloc | apply Kd.N_drewN | apply Kd.N_drew)); exact HO148.out)) k_ hn_)))) (below_size (by repeat (first | (with_reducible first | exact HB.out | apply below_alloc | apply pw_below_drewN | apply below_drew1) | exact HB.out)))); have n2_ := Aside0.mk (below_step (by repeat (first | (with_reducible first | exact HB.out | apply below_alloc | apply pw_below_drewN | apply below_drew1) | exact HB.out)) hb); clear HO148; clear HB; have HO148 := n0_; have HO151 := n1_; have HB := n2_; clear n0_ n1_ n2_; (try clear hb); (try clear hb2); (try clear hk); (try clear hi); (try clear ho0)) | ((with_reducible refine gate_dst (N := 28) rfl ?_); (try (refine gate_guard (by rfl) ?_; dsimp only)); refine Kd.N_lit k108 _ 108 ?hg (N' := 28) ?hd (xs := ([] : List (S108))) (inner := []) (ok := (fun k_ => some k_ ≠ (v147 : Value).ownBlock ∧ some k_ ≠ (v150 : Value).ownBlock)) (okp := (fun k_ => some k_ ≠ (v147 : Value).ownBlock ∧ some k_ ≠ (v150 : Value).ownBlock)) ?hr ?hp (fun _ hk => hk) ((show ∀ k_, w20.heap.size ≤ k_ → (fun k_ => some k_ ≠ (v147 : Value).ownBlock ∧ some k_ ≠ (v150 : Value).ownBlock) k_ from fun k_ hk => ⟨Kd.fresh' (Kd.N_lt (by (with_reducible repeat (first | apply Kd.N_alloc | apply Kd.N_drewN | apply Kd.N_drew)); exact HO148.out)) k_ hk, Kd.fresh' (Kd.N_lt (by (with_reducible repeat (first | apply Kd.N_alloc | apply Kd.N_drewN | apply Kd.N_drew)); exact HO151.out)) k_ hk⟩) _ (Nat.le_refl _)) (Below.refl _ _) (Nat.le_refl _) (by simp) ?_; (case hd => rfl); (case hg => rfl); (case hr => first | (go_simp; done) | (go_simp; rfl)); (case hp => exact (Reps.none _ _)); intro v153 w21 ho22 hb hg_ hnew_; clear hg_ hnew_; (first | rw [← Ny152.out] at ho22 | (simp only [Int.reduceToNat] at ho22; rw [← Ny152.out] at ho22)); have n0_ := Aside0.mk (Kd.N_elder' (by (with_reducible repeat (first | apply Kd.N_alloc | apply Kd.N_drewN | apply Kd.N_drew)); exact HO148.out) (Kd.N_base ho22) hb); have n1_ := Aside0.mk (Kd.N_elder' (by (with_reducible repeat (first | apply Kd.N_alloc | apply Kd.N_drewN | apply Kd.N_drew)); exact HO151.out) (Kd.N_base ho22) hb); have n2_ := Aside0.mk (Kd.N_lower ho22 (below_size (by repeat (first | (with_reducible first | exact HB.out | apply below_alloc | apply pw_below_drewN | apply below_drew1) | exact HB.out)))); have n3_ := Aside0.mk (below_step (by repeat (first | (with_reducible first | exact HB.out | apply below_alloc | apply pw_below_drewN | apply below_drew1) | exact HB.out)) hb); clear HO148; clear HO151; clear HB; have HO148 := n0_; have HO151 := n1_; have HO154 := n2_; have HB := n3_; clear n0_ n1_ n2_ n3_; clear hb ho22; obtain ⟨Ao24, co24, eo24⟩ := Kd.N_slice HO148.out; subst eo24) | ((with_reducible refine gate_builtin (b := .append) (xs := #[.tmp 28, .tmp 29]) rfl ?_); (try (refine gate_guard (by rfl) ?_; dsimp only)); at_builtin; refine Kd.N_append_rows k108 (w0 := w) w.heap.size rfl (.tmp 28) (.tmp 29) 46 108 (.agg #[(.int .i64 0), (.int .i64 0), (.int .i64 0), (.slice none 0 0)]) 48 rfl Try.underlying46 info108 rfl (by decide) (by omega) v153 y152 t146 _ _ _ (fun k_ => some k_ ≠ (v150 : Value).ownBlock) (fun k_ => ((fun k_ => some k_ ≠ (v150 : Value).ownBlock)) k_ ∧ some k_ ≠ (v153 : Value).ownBlock) rfl rfl ?aO ?aR (fun _ hk => hk) ?aF ?aB ?aS ?aL ?_; (case aR => exact (by skip; exact Kd.N_F (Kd.N_mono (ok' := (fun k_ => ((fun k_ => some k_ ≠ (v150 : Value).ownBlock)) k_ ∧ some k_ ≠ (v153 : Value).ownBlock)) (HO148.out) (fun k_ hk => ⟨hk.1.2, hk.2⟩)))); (case aB => exact (by repeat (first | (with_reducible first | exact HB.out | apply below_alloc | apply pw_below_drewN | apply below_drew1) | exact HB.out))); (case aF => exact (fun k_ hk => Kd.fresh' (Kd.N_lt (by (with_reducible repeat (first | apply Kd.N_alloc | apply Kd.N_drewN | apply Kd.N_drew)); exact HO151.out)) k_ hk)); (case aO => exact (by (with_reducible repeat (first | apply Kd.N_alloc | apply Kd.N_drewN | apply Kd.N_drew)); exact Kd.N_mono HO154.out (fun _ hk => hk.2))); (case aS => exact (below_size (by repeat (first | (with_reducible first | exact HB.out | apply below_alloc | apply pw_below_drewN | apply below_drew1) | exact HB.out)))); (case aL => have := LMc14.out; omega); intro v156 w23 ho hb hg hat; rw [← Ny155.out] at ho; have n0_ := Aside0.mk (Kd.N_afterv (ok := (fun k_ => some k_ ≠ (v150 : Value).ownBlock)) (by (with_reducible repeat (first | apply Kd.N_alloc | apply Kd.N_drewN | apply Kd.N_drew)); exact Kd.N_mono HO148.out (fun _ hk => ⟨hk.1.2, hk.2⟩)) hg hat); have n1_ := Aside0.mk (Kd.N_afterv (ok := (fun k_ => some k_ ≠ (.slice Ao24 t146.length co24 : Value).ownBlock)) (by (with_reducible repeat (first | apply Kd.N_alloc | apply Kd.N_drewN | apply Kd.N_drew)); exact HO151.out) hg hat); have n2_ := Aside0.mk (hb); have n3_ := Aside0.mk (ho); clear HO148; clear HO151; clear HB; clear HO154; have HO148 := n0_; have HO151 := n1_; have HB := n2_; have HO157 := n3_; clear n0_ n1_ n2_ n3_; clear ho hb hg hat) | ((with_reducible refine gate_callee (f := 26) rfl ?_); refine goesL_ (some 32) rfl rfl Try.func26 (by kernel_rfl) rfl #[.slice A1 l1.length c1] rfl (by (try simp only [List.map_toArray, List.map_cons, List.map_nil]); first | done | rfl | (simp only [List.length_drop, List.length_take]; rfl)) ?_; (with_reducible refine (batonlaw39_Ref.calls kj5 (fun k_ => k_ < w.heap.size) _ _ l1 t158 _ ?side1 A15.out).mono ?_); (case side1 => exact Kd.V_mk HC1.out (Kd.F_below (Kd.C_F k50_heap HR1.out) (by repeat (first | (with_reducible first | exact HB.out | apply below_alloc | apply pw_below_drewN | apply below_drew1) | exact HB.out)))); rintro e w25 ⟨v159, rfl, ho0, hb⟩; refine ⟨_, rfl, ?_⟩; have n0_ := Aside0.mk (Kd.N_elder' (by (with_reducible repeat (first | apply Kd.N_alloc | apply Kd.N_drewN | apply Kd.N_drew)); exact HO148.out) (Kd.N_base ho0) hb); have n1_ := Aside0.mk (Kd.N_elder' (by (with_reducible repeat (first | apply Kd.N_alloc | apply Kd.N_drewN | apply Kd.N_drew)); exact HO151.out) (Kd.N_base ho0) hb); have n2_ := Aside0.mk (Kd.N_elder' (by (with_reducible repeat (first | apply Kd.N_alloc | apply Kd.N_drewN | apply Kd.N_drew)); exact HO157.out) (Kd.N_base ho0) hb); have n3_ := Aside0.mk (Kd.N_lower (Kd.N_mono (ok' := fun k_ => some k_ ≠ (.slice Ao24 t146.length co24 : Value).ownBlock ∧ some k_ ≠ (v150 : Value).ownBlock ∧ some k_ ≠ (v156 : Value).ownBlock) ho0 (fun k_ hk_ => ⟨Or.elim hk_ (fun hs_ => fun e_ => Nat.not_le.2 hs_ (Kd.N_base HO148.out k_ e_.symm)) (fun hn_ => (Kd.fresh' (Kd.N_lt (by (with_reducible repeat (first | apply Kd.N_alloc | apply Kd.N_drewN | apply Kd.N_drew)); exact HO148.out)) k_ hn_)), Or.elim hk_ (fun hs_ => fun e_ => Nat.not_le.2 hs_ (Kd.N_base HO151.out k_ e_.symm)) (fun hn_ => (Kd.fresh' (Kd.N_lt (by (with_reducible repeat (first | apply Kd.N_alloc | apply Kd.N_drewN | apply Kd.N_drew)); exact HO151.out)) k_ hn_)), Or.elim hk_ (fun hs_ => fun e_ => Nat.not_le.2 hs_ (Kd.N_base HO157.out k_ e_.symm)) (fun hn_ => (Kd.fresh' (Kd.N_lt (by (with_reducible repeat (first | apply Kd.N_alloc | apply Kd.N_drewN | apply Kd.N_drew)); exact HO157.out)) k_ hn_))⟩)) (below_size (by repeat (first | (with_reducible first | exact HB.out | apply below_alloc | apply pw_below_drewN | apply below_drew1) | exact HB.out)))); have n4_ := Aside0.mk (below_step (by repeat (first | (with_reducible first | exact HB.out | apply below_alloc | apply pw_below_drewN | apply below_drew1) | exact HB.out)) hb); clear HO148; clear HO151; clear HO157; clear HB; have HO148 := n0_; have HO151 := n1_; have HO157 := n2_; have HO160 := n3_; have HB := n4_; clear n0_ n1_ n2_ n3_ n4_; (try clear hb); (try clear hb2); (try clear hk); (try clear hi); (try clear ho0); obtain ⟨Ao27, co27, eo27⟩ := Kd.N_slice HO160.out; subst eo27) | ((with_reducible refine gate_builtin (b := .append) (xs := #[.tmp 30, .tmp 32]) rfl ?_); (try (refine gate_guard (by rfl) ?_; dsimp only)); at_builtin; refine Kd.N_append_rows k108 (w0 := w) w.heap.size rfl (.tmp 30) (.tmp 32) 46 108 (.agg #[(.int .i64 0), (.int .i64 0), (.int .i64 0), (.slice none 0 0)]) 48 rfl Try.underlying46 info108 rfl (by decide) (by omega) v156 y155 t158 _ _ _ (fun k_ => some k_ ≠ (v150 : Value).ownBlock) (fun k_ => ((fun k_ => some k_ ≠ (v150 : Value).ownBlock)) k_ ∧ some k_ ≠ (v156 : Value).ownBlock) rfl rfl ?aO ?aR (fun _ hk => hk) ?aF ?aB ?aS ?aL ?_; (case aR => exact (by skip; exact Kd.N_F (Kd.N_mono (ok' := (fun k_ => ((fun k_ => some k_ ≠ (v150 : Value).ownBlock)) k_ ∧ some k_ ≠ (v156 : Value).ownBlock)) (HO160.out) (fun k_ hk => ⟨hk.2.1, hk.2.2⟩)))); (case aB => exact (by repeat (first | (with_reducible first | exact HB.out | apply below_alloc | apply pw_below_drewN | apply below_drew1) | exact HB.out))); (case aF => exact (fun k_ hk => Kd.fresh' (Kd.N_lt (by (with_reducible repeat (first | apply Kd.N_alloc | apply Kd.N_drewN | apply Kd.N_drew)); exact HO151.out)) k_ hk)); (case aO => exact (by (with_reducible repeat (first | apply Kd.N_alloc | apply Kd.N_drewN | apply Kd.N_drew)); exact Kd.N_mono HO157.out (fun _ hk => hk.1))); (case aS => exact (below_size (by repeat (first | (with_reducible first | exact HB.out | apply below_alloc | apply pw_below_drewN | apply below_drew1) | exact HB.out)))); (case aL => have := LMc16.out; omega); intro v162 w26 ho hb hg hat; rw [← Ny161.out] at ho; have n0_ := Aside0.mk (Kd.N_afterv (ok := (fun k_ => some k_ ≠ (v150 : Value).ownBlock ∧ some k_ ≠ (.slice Ao27 t158.length co27 : Value).ownBlock)) (by (with_reducible repeat (first | apply Kd.N_alloc | apply Kd.N_drewN | apply Kd.N_drew)); exact Kd.N_mono HO148.out (fun _ hk => ⟨⟨hk.1.1, hk.2⟩, hk.1.2⟩)) hg hat); have n1_ := Aside0.mk (Kd.N_afterv (ok := (fun k_ => some k_ ≠ (.slice Ao24 t146.length co24 : Value).ownBlock ∧ some k_ ≠ (.slice Ao27 t158.length co27 : Value).ownBlock)) (by (with_reducible repeat (first | apply Kd.N_alloc | apply Kd.N_drewN | apply Kd.N_drew)); exact Kd.N_mono HO151.out (fun _ hk => ⟨⟨hk.1.1, hk.2⟩, hk.1.2⟩)) hg hat); have n2_ := Aside0.mk (Kd.N_afterv (ok := (fun k_ => some k_ ≠ (.slice Ao24 t146.length co24 : Value).ownBlock ∧ some k_ ≠ (v150 : Value).ownBlock)) (by (with_reducible repeat (first | apply Kd.N_alloc | apply Kd.N_drewN | apply Kd.N_drew)); exact Kd.N_mono HO160.out (fun _ hk => ⟨⟨hk.1, hk.2.1⟩, hk.2.2⟩)) hg hat); have n3_ := Aside0.mk (hb); have n4_ := Aside0.mk (ho); clear HO148; clear HO151; clear HO160; clear HB; clear HO157; have HO148 := n0_; have HO151 := n1_; have HO160 := n2_; have HB := n3_; have HO163 := n4_; clear n0_ n1_ n2_ n3_ n4_; clear ho hb hg hat; obtain ⟨Ao28, co28, eo28⟩ := Kd.N_slice HO151.out; subst eo28) | ((with_reducible refine gate_callee (f := 28) rfl ?_); refine goesL_ (some 37) rfl rfl Try.func28 (by kernel_rfl) rfl #[.slice Ao28 t149.length co28, .int .i64 a2] rfl (by (try simp only [List.map_toArray, List.map_cons, List.map_nil]); first | done | rfl | (simp only [List.length_drop, List.length_take]; rfl)) ?_; (with_reducible refine (bag_At.calls _ _ t149 a2 t164 t165 t166 t167 t170 _ ?side1 ?side2 A17.out).mono ?_); (case side1 => repeat (first | exact (Kd.N_reads' HO151.out).2.2 | (with_reducible refine Kd.C_alloc ?_ _) | (with_reducible refine Kd.C_drewN ?_ _) | (with_reducible refine Kd.C_drew ?_))); (case side2 => exact (Kd.N_reads' HO151.out).2.1); rintro e w29 ⟨v168, rfl, ho0, hb⟩; refine ⟨_, rfl, ?_⟩; have n0_ := Aside0.mk (Kd.N_elder' (by (with_reducible repeat (first | apply Kd.N_alloc | apply Kd.N_drewN | apply Kd.N_drew)); exact HO148.out) (Kd.R_base ho0) hb); have n1_ := Aside0.mk (Kd.N_elder' (by (with_reducible repeat (first | apply Kd.N_alloc | apply Kd.N_drewN | apply Kd.N_drew)); exact HO151.out) (Kd.R_base ho0) hb); have n2_ := Aside0.mk (Kd.N_elder' (by (with_reducible repeat (first | apply Kd.N_alloc | apply Kd.N_drewN | apply Kd.N_drew)); exact HO160.out) (Kd.R_base ho0) hb); have n3_ := Aside0.mk (Kd.N_elder' (by (with_reducible repeat (first | apply Kd.N_alloc | apply Kd.N_drewN | apply Kd.N_drew)); exact HO163.out) (Kd.R_base ho0) hb); have n4_ := Aside0.mk (Kd.R_lower ho0 (below_size (by repeat (first | (with_reducible first | exact HB.out | apply below_alloc | apply pw_below_drewN | apply below_drew1) | exact HB.out)))); have n5_ := Aside0.mk (below_step (by repeat (first | (with_reducible first | exact HB.out | apply below_alloc | apply pw_below_drewN | apply below_drew1) | exact HB.out)) hb); clear HO148; clear HO151; clear HO160; clear HO163; clear HB; have HO148 := n0_; have HO151 := n1_; have HO160 := n2_; have HO163 := n3_; have HO169 := n4_; have HB := n5_; clear n0_ n1_ n2_ n3_ n4_ n5_; (try clear hb); (try clear hb2); (try clear hk); (try clear hi); (try clear ho0)) | ((with_reducible refine gate_dst (N := 10) rfl ?_); (try (refine gate_guard (by rfl) ?_; dsimp only)); refine box_event ?hg (N := 10) ?hd (cs := #[.int .i64 0, .int .i64 0, .int .i64 0, .slice none 0 0]) (t := 50) ?hr ?_; (case hd => rfl); (case hg => rfl); (case hr => first | (go_simp; done) | (go_simp; rfl)); intro gb171 hg w30 hbox hb; have n0_ := Aside0.mk (Kd.N_below (Kd.N_elderB (by (with_reducible repeat (first | apply Kd.N_alloc | apply Kd.N_drewN | apply Kd.N_drew)); exact HO148.out) gb171 (Nat.le_of_eq hg.symm)) hb); have n1_ := Aside0.mk (Kd.N_below (Kd.N_elderB (by (with_reducible repeat (first | apply Kd.N_alloc | apply Kd.N_drewN | apply Kd.N_drew)); exact HO151.out) gb171 (Nat.le_of_eq hg.symm)) hb); have n2_ := Aside0.mk (Kd.N_below (Kd.N_elderB (by (with_reducible repeat (first | apply Kd.N_alloc | apply Kd.N_drewN | apply Kd.N_drew)); exact HO160.out) gb171 (Nat.le_of_eq hg.symm)) hb); have n3_ := Aside0.mk (Kd.N_below (Kd.N_elderB (by (with_reducible repeat (first | apply Kd.N_alloc | apply Kd.N_drewN | apply Kd.N_drew)); exact HO163.out) gb171 (Nat.le_of_eq hg.symm)) hb); have n4_ := Aside0.mk (Kd.R_below (by (with_reducible repeat (first | apply Kd.R_alloc | apply Kd.R_drewN | apply Kd.R_drew)); exact HO169.out) hb); have n5_ := Aside0.mk (below_step (by repeat (first | (with_reducible first | exact HB.out | apply below_alloc | apply pw_below_drewN | apply below_drew1) | exact HB.out)) hb); have n6_ := Aside0.mk (hbox); have n7_ := Aside0.mk ((by rw [hg]; exact (below_size (by repeat (first | (with_reducible first | exact HB.out | apply below_alloc | apply pw_below_drewN | apply below_drew1) | exact HB.out))) : w.heap.size ≤ gb171)); have n8_ := Aside0.mk ((by rw [hg]; exact (below_size (by repeat (first | (with_reducible first | exact HB.out | apply below_alloc | apply pw_below_drewN | apply below_drew1) | exact HB.out))) : w.heap.size ≤ gb171)); clear HO148; clear HO151; clear HO160; clear HO163; clear HO169; clear HB; have HO148 := n0_; have HO151 := n1_; have HO160 := n2_; have HO163 := n3_; have HO169 := n4_; have HB := n5_; have BK171 := n6_; have GW171 := n7_; have GE171 := n8_; clear n0_ n1_ n2_ n3_ n4_ n5_ n6_ n7_ n8_; clear hb hbox hg; have hcz31_0 : w30.cell? ⟨gb171, 0, none⟩ = some (.int .i64 0) := (blk_cell BK171.out 0).trans rfl; have hcz31_1 : w30.cell? ⟨gb171, 1, none⟩ = some (.int .i64 0) := (blk_cell BK171.out 1).trans rfl; have hcz31_2 : w30.cell? ⟨gb171, 2, none⟩ = some (.int .i64 0) := (blk_cell BK171.out 2).trans rfl; have hcz31_3 : w30.cell? ⟨gb171, 3, none⟩ = some (.slice none 0 0) := (blk_cell BK171.out 3).trans rfl; have hfz31_0 := blk_frozen BK171.out 0; have hfz31_1 := blk_frozen BK171.out 1; have hfz31_2 := blk_frozen BK171.out 2; have hfz31_3 := blk_frozen BK171.out 3; obtain ⟨Ao32, co32, eo32⟩ := Kd.R_slice HO169.out; subst eo32))
              (try simp only [Act.put, List.setIfInBounds_toArray, List.set_cons_zero, List.set_cons_succ])
              go_cut [56] (fun v56 wc => ∃ (kq : Nat) (x56_17 : Bool), v56 = .bool x56_17 ∧ Aside0 (batonlaw39_BagPuts.j1 kq l0 a2 t146 t149 y161 t170 x56_17 t164 t165 t166 t167 = some r) ∧ Aside0 (kq ≤ kj5) ∧ Aside0 (Kd.N k108 108 wc w.heap.size (fun k_ => some k_ ≠ ((.slice Ao28 t149.length co28) : Value).ownBlock ∧ some k_ ≠ (v162 : Value).ownBlock ∧ some k_ ≠ ((.slice Ao32 t167.length co32) : Value).ownBlock ∧ k_ ≠ gb171) (.slice Ao24 t146.length co24) t146) ∧ Aside0 (Kd.N k50 50 wc w.heap.size (fun k_ => some k_ ≠ ((.slice Ao24 t146.length co24) : Value).ownBlock ∧ some k_ ≠ (v162 : Value).ownBlock ∧ some k_ ≠ ((.slice Ao32 t167.length co32) : Value).ownBlock ∧ k_ ≠ gb171) (.slice Ao28 t149.length co28) t149) ∧ Aside0 (Kd.N k108 108 wc w.heap.size (fun k_ => some k_ ≠ ((.slice Ao28 t149.length co28) : Value).ownBlock ∧ some k_ ≠ ((.slice Ao32 t167.length co32) : Value).ownBlock ∧ k_ ≠ gb171) v162 y161) ∧ Aside0 (Kd.R (Kd.int .u8) 5 wc w.heap.size (fun _ => True) (.slice Ao32 t167.length co32) t167) ∧ Aside0 (wc.heap[gb171]? = some (.cells #[.int .i64 t164, .int .i64 t165, .int .i64 t166, (.slice Ao32 t167.length co32)] 50 (0, 0))) ∧ Aside0 (Below w.heap.size w wc))
              case first =>
                have H := HC18.out
                clear HC18
                replace H := Option.bind_eq_some_iff.mp H
                obtain ⟨t172, A330, H⟩ := H
                replace H : ((batonref39_Same.f kj5 t172 y161).bind fun t175 => (if t175 = true then (if a2 ≥ 0 then (batonlaw39_BagPuts.j1 kj5 l0 a2 t146 t149 y161 t170 (t170 != (decide (a2 < (y161.length : Int)))) t164 t165 t166 t167) else (batonlaw39_BagPuts.j1 kj5 l0 a2 t146 t149 y161 t170 (t170 != false) t164 t165 t166 t167)) else (batonlaw39_BagPuts.j1 kj5 l0 a2 t146 t149 y161 t170 true t164 t165 t166 t167))) = some r := H
                have A33 := Aside0.mk A330
                clear A330
                replace H := Option.bind_eq_some_iff.mp H
                obtain ⟨t175, A340, H⟩ := H
                replace H : (if t175 = true then (if a2 ≥ 0 then (batonlaw39_BagPuts.j1 kj5 l0 a2 t146 t149 y161 t170 (t170 != (decide (a2 < (y161.length : Int)))) t164 t165 t166 t167) else (batonlaw39_BagPuts.j1 kj5 l0 a2 t146 t149 y161 t170 (t170 != false) t164 t165 t166 t167)) else (batonlaw39_BagPuts.j1 kj5 l0 a2 t146 t149 y161 t170 true t164 t165 t166 t167)) = some r := H
                have A34 := Aside0.mk A340
                clear A340
                by_cases c35 : t175 = true
                · subst c35
                  have H1 : (if a2 ≥ 0 then (batonlaw39_BagPuts.j1 kj5 l0 a2 t146 t149 y161 t170 (t170 != (decide (a2 < (y161.length : Int)))) t164 t165 t166 t167) else (batonlaw39_BagPuts.j1 kj5 l0 a2 t146 t149 y161 t170 (t170 != false) t164 t165 t166 t167)) = some r := by rw [if_pos rfl] at H; exact H
                  clear H
                  have H := H1
                  clear H1
                  by_cases c36 : a2 ≥ 0
                  · rw [if_pos c36] at H
                    have c36b0 : decide (0 ≤ a2) = true := decide_eq_true c36
                    clear c36
                    (first | rw [c36b0] | (simp only [i64_w, i32_w]; rw [c36b0]) | skip)
                    have H' := Aside0.mk H
                    clear H
                    go_wp2_with (first | ((with_reducible refine gate_callee (f := 26) rfl ?_); refine goesL_ (some 41) rfl rfl Try.func26 (by kernel_rfl) rfl #[.slice Ao28 t149.length co28] rfl (by (try simp only [List.map_toArray, List.map_cons, List.map_nil]); first | done | rfl | (simp only [List.length_drop, List.length_take]; rfl)) ?_; (with_reducible refine (batonlaw39_Ref.calls kj5 (fun k_ => ((((some k_ ≠ (.slice Ao24 t146.length co24 : Value).ownBlock ∧ some k_ ≠ (.slice Ao27 t158.length co27 : Value).ownBlock) ∧ some k_ ≠ (v162 : Value).ownBlock) ∧ some k_ ≠ (.slice Ao32 t167.length co32 : Value).ownBlock) ∧ k_ ≠ gb171)) _ _ t149 t172 _ ?side1 A33.out).mono ?_); (case side1 => exact Kd.N_V ((Kd.N_mono (Kd.N_far (p := ⟨gb171, 3, none⟩) (Kd.N_far (p := ⟨gb171, 2, none⟩) (Kd.N_far (p := ⟨gb171, 1, none⟩) (Kd.N_far (p := ⟨gb171, 0, none⟩) (Kd.N_mono HO151.out (fun k_ hk => (⟨hk, hk.2⟩ : _ ∧ k_ ≠ gb171))) (fun _ hk => hk.2) (.int .i64 t164)) (fun _ hk => hk.2) (.int .i64 t165)) (fun _ hk => hk.2) (.int .i64 t166)) (fun _ hk => hk.2) (.slice Ao32 t167.length co32)) (fun _ h_ => h_.1)))); rintro e w37 ⟨v173, rfl, ho0, hb⟩; refine ⟨_, rfl, ?_⟩; have n0_ := Aside0.mk (Kd.N_elder' (by (with_reducible repeat (first | apply Kd.N_alloc | apply Kd.N_drewN | apply Kd.N_drew)); exact (Kd.N_mono (Kd.N_far (p := ⟨gb171, 3, none⟩) (Kd.N_far (p := ⟨gb171, 2, none⟩) (Kd.N_far (p := ⟨gb171, 1, none⟩) (Kd.N_far (p := ⟨gb171, 0, none⟩) (Kd.N_mono HO148.out (fun k_ hk => (⟨hk, hk.2⟩ : _ ∧ k_ ≠ gb171))) (fun _ hk => hk.2) (.int .i64 t164)) (fun _ hk => hk.2) (.int .i64 t165)) (fun _ hk => hk.2) (.int .i64 t166)) (fun _ hk => hk.2) (.slice Ao32 t167.length co32)) (fun _ h_ => h_.1))) (Kd.N_base ho0) hb); have n1_ := Aside0.mk (Kd.N_elder' (by (with_reducible repeat (first | apply Kd.N_alloc | apply Kd.N_drewN | apply Kd.N_drew)); exact (Kd.N_mono (Kd.N_far (p := ⟨gb171, 3, none⟩) (Kd.N_far (p := ⟨gb171, 2, none⟩) (Kd.N_far (p := ⟨gb171, 1, none⟩) (Kd.N_far (p := ⟨gb171, 0, none⟩) (Kd.N_mono HO151.out (fun k_ hk => (⟨hk, hk.2⟩ : _ ∧ k_ ≠ gb171))) (fun _ hk => hk.2) (.int .i64 t164)) (fun _ hk => hk.2) (.int .i64 t165)) (fun _ hk => hk.2) (.int .i64 t166)) (fun _ hk => hk.2) (.slice Ao32 t167.length co32)) (fun _ h_ => h_.1))) (Kd.N_base ho0) hb); have n2_ := Aside0.mk (Kd.N_elder' (by (with_reducible repeat (first | apply Kd.N_alloc | apply Kd.N_drewN | apply Kd.N_drew)); exact (Kd.N_mono (Kd.N_far (p := ⟨gb171, 3, none⟩) (Kd.N_far (p := ⟨gb171, 2, none⟩) (Kd.N_far (p := ⟨gb171, 1, none⟩) (Kd.N_far (p := ⟨gb171, 0, none⟩) (Kd.N_mono HO160.out (fun k_ hk => (⟨hk, hk.2⟩ : _ ∧ k_ ≠ gb171))) (fun _ hk => hk.2) (.int .i64 t164)) (fun _ hk => hk.2) (.int .i64 t165)) (fun _ hk => hk.2) (.int .i64 t166)) (fun _ hk => hk.2) (.slice Ao32 t167.length co32)) (fun _ h_ => h_.1))) (Kd.N_base ho0) hb); have n3_ := Aside0.mk (Kd.N_elder' (by (with_reducible repeat (first | apply Kd.N_alloc | apply Kd.N_drewN | apply Kd.N_drew)); exact (Kd.N_mono (Kd.N_far (p := ⟨gb171, 3, none⟩) (Kd.N_far (p := ⟨gb171, 2, none⟩) (Kd.N_far (p := ⟨gb171, 1, none⟩) (Kd.N_far (p := ⟨gb171, 0, none⟩) (Kd.N_mono HO163.out (fun k_ hk => (⟨hk, hk.2⟩ : _ ∧ k_ ≠ gb171))) (fun _ hk => hk.2) (.int .i64 t164)) (fun _ hk => hk.2) (.int .i64 t165)) (fun _ hk => hk.2) (.int .i64 t166)) (fun _ hk => hk.2) (.slice Ao32 t167.length co32)) (fun _ h_ => h_.1))) (Kd.N_base ho0) hb); have n4_ := Aside0.mk (Kd.R_below (by (with_reducible repeat (first | apply Kd.R_alloc | apply Kd.R_drewN | apply Kd.R_drew)); exact (Kd.R_mono (Kd.R_far (p := ⟨gb171, 3, none⟩) (Kd.R_far (p := ⟨gb171, 2, none⟩) (Kd.R_far (p := ⟨gb171, 1, none⟩) (Kd.R_far (p := ⟨gb171, 0, none⟩) (Kd.R_types HO169.out BK171.out (by decide)) (fun _ hk => hk.2) (.int .i64 t164)) (fun _ hk => hk.2) (.int .i64 t165)) (fun _ hk => hk.2) (.int .i64 t166)) (fun _ hk => hk.2) (.slice Ao32 t167.length co32)) (fun _ h_ => h_.1))) hb); have n5_ := Aside0.mk (Kd.N_lower (Kd.N_mono (ok' := fun k_ => some k_ ≠ (.slice Ao24 t146.length co24 : Value).ownBlock ∧ some k_ ≠ (.slice Ao27 t158.length co27 : Value).ownBlock ∧ some k_ ≠ (v162 : Value).ownBlock ∧ some k_ ≠ (.slice Ao32 t167.length co32 : Value).ownBlock ∧ k_ ≠ gb171) ho0 (fun k_ hk_ => ⟨Or.elim hk_ (fun hs_ => hs_.1.1.1.1) (fun hn_ => (Kd.fresh' (Kd.N_lt (by (with_reducible repeat (first | apply Kd.N_alloc | apply Kd.N_drewN | apply Kd.N_drew)); exact (Kd.N_mono (Kd.N_far (p := ⟨gb171, 3, none⟩) (Kd.N_far (p := ⟨gb171, 2, none⟩) (Kd.N_far (p := ⟨gb171, 1, none⟩) (Kd.N_far (p := ⟨gb171, 0, none⟩) (Kd.N_mono HO148.out (fun k_ hk => (⟨hk, hk.2⟩ : _ ∧ k_ ≠ gb171))) (fun _ hk => hk.2) (.int .i64 t164)) (fun _ hk => hk.2) (.int .i64 t165)) (fun _ hk => hk.2) (.int .i64 t166)) (fun _ hk => hk.2) (.slice Ao32 t167.length co32)) (fun _ h_ => h_.1)))) k_ hn_)), Or.elim hk_ (fun hs_ => hs_.1.1.1.2) (fun hn_ => (Kd.fresh' (Kd.N_lt (by (with_reducible repeat (first | apply Kd.N_alloc | apply Kd.N_drewN | apply Kd.N_drew)); exact (Kd.N_mono (Kd.N_far (p := ⟨gb171, 3, none⟩) (Kd.N_far (p := ⟨gb171, 2, none⟩) (Kd.N_far (p := ⟨gb171, 1, none⟩) (Kd.N_far (p := ⟨gb171, 0, none⟩) (Kd.N_mono HO160.out (fun k_ hk => (⟨hk, hk.2⟩ : _ ∧ k_ ≠ gb171))) (fun _ hk => hk.2) (.int .i64 t164)) (fun _ hk => hk.2) (.int .i64 t165)) (fun _ hk => hk.2) (.int .i64 t166)) (fun _ hk => hk.2) (.slice Ao32 t167.length co32)) (fun _ h_ => h_.1)))) k_ hn_)), Or.elim hk_ (fun hs_ => hs_.1.1.2) (fun hn_ => (Kd.fresh' (Kd.N_lt (by (with_reducible repeat (first | apply Kd.N_alloc | apply Kd.N_drewN | apply Kd.N_drew)); exact (Kd.N_mono (Kd.N_far (p := ⟨gb171, 3, none⟩) (Kd.N_far (p := ⟨gb171, 2, none⟩) (Kd.N_far (p := ⟨gb171, 1, none⟩) (Kd.N_far (p := ⟨gb171, 0, none⟩) (Kd.N_mono HO163.out (fun k_ hk => (⟨hk, hk.2⟩ : _ ∧ k_ ≠ gb171))) (fun _ hk => hk.2) (.int .i64 t164)) (fun _ hk => hk.2) (.int .i64 t165)) (fun _ hk => hk.2) (.int .i64 t166)) (fun _ hk => hk.2) (.slice Ao32 t167.length co32)) (fun _ h_ => h_.1)))) k_ hn_)), Or.elim hk_ (fun hs_ => hs_.1.2) (fun hn_ => (Kd.fresh' (Kd.R_lt (by (with_reducible repeat (first | apply Kd.R_alloc | apply Kd.R_drewN | apply Kd.R_drew)); exact (Kd.R_mono (Kd.R_far (p := ⟨gb171, 3, none⟩) (Kd.R_far (p := ⟨gb171, 2, none⟩) (Kd.R_far (p := ⟨gb171, 1, none⟩) (Kd.R_far (p := ⟨gb171, 0, none⟩) (Kd.R_types HO169.out BK171.out (by decide)) (fun _ hk => hk.2) (.int .i64 t164)) (fun _ hk => hk.2) (.int .i64 t165)) (fun _ hk => hk.2) (.int .i64 t166)) (fun _ hk => hk.2) (.slice Ao32 t167.length co32)) (fun _ h_ => h_.1)))) k_ hn_)), Or.elim hk_ (fun hs_ => hs_.2) (fun hn_ => (Kd.freshB (g := gb171) (o := .cells #[.int .i64 t164, .int .i64 t165, .int .i64 t166, .slice Ao32 t167.length co32] 50 (0, 0)) (by (with_reducible repeat (first | refine blk_drewN ?_ _ | refine blk_drew ?_ | refine blk_alloc ?_ _)); refine blk_put (cs := #[.int .i64 t164, .int .i64 t165, .int .i64 t166, .slice none 0 0]) ?_ 3 _ rfl; (with_reducible repeat (first | refine blk_drewN ?_ _ | refine blk_drew ?_ | refine blk_alloc ?_ _)); refine blk_put (cs := #[.int .i64 t164, .int .i64 t165, .int .i64 0, .slice none 0 0]) ?_ 2 _ rfl; (with_reducible repeat (first | refine blk_drewN ?_ _ | refine blk_drew ?_ | refine blk_alloc ?_ _)); refine blk_put (cs := #[.int .i64 t164, .int .i64 0, .int .i64 0, .slice none 0 0]) ?_ 1 _ rfl; (with_reducible repeat (first | refine blk_drewN ?_ _ | refine blk_drew ?_ | refine blk_alloc ?_ _)); refine blk_put (cs := #[.int .i64 0, .int .i64 0, .int .i64 0, .slice none 0 0]) ?_ 0 _ rfl; (with_reducible repeat (first | refine blk_drewN ?_ _ | refine blk_drew ?_ | refine blk_alloc ?_ _)); exact BK171.out) k_ hn_))⟩)) (below_size (by repeat (first | (with_reducible first | exact HB.out | apply below_alloc | apply pw_below_drewN | apply below_drew1 | refine below_set ?_ GE171.out) | exact HB.out)))); have n6_ := Aside0.mk (blk_below (g := gb171) (o := .cells #[.int .i64 t164, .int .i64 t165, .int .i64 t166, .slice Ao32 t167.length co32] 50 (0, 0)) (by (with_reducible repeat (first | refine blk_drewN ?_ _ | refine blk_drew ?_ | refine blk_alloc ?_ _)); refine blk_put (cs := #[.int .i64 t164, .int .i64 t165, .int .i64 t166, .slice none 0 0]) ?_ 3 _ rfl; (with_reducible repeat (first | refine blk_drewN ?_ _ | refine blk_drew ?_ | refine blk_alloc ?_ _)); refine blk_put (cs := #[.int .i64 t164, .int .i64 t165, .int .i64 0, .slice none 0 0]) ?_ 2 _ rfl; (with_reducible repeat (first | refine blk_drewN ?_ _ | refine blk_drew ?_ | refine blk_alloc ?_ _)); refine blk_put (cs := #[.int .i64 t164, .int .i64 0, .int .i64 0, .slice none 0 0]) ?_ 1 _ rfl; (with_reducible repeat (first | refine blk_drewN ?_ _ | refine blk_drew ?_ | refine blk_alloc ?_ _)); refine blk_put (cs := #[.int .i64 0, .int .i64 0, .int .i64 0, .slice none 0 0]) ?_ 0 _ rfl; (with_reducible repeat (first | refine blk_drewN ?_ _ | refine blk_drew ?_ | refine blk_alloc ?_ _)); exact BK171.out) hb); have n7_ := Aside0.mk (below_step (by repeat (first | (with_reducible first | exact HB.out | apply below_alloc | apply pw_below_drewN | apply below_drew1 | refine below_set ?_ GE171.out) | exact HB.out)) hb); clear HO148; clear HO151; clear HO160; clear HO163; clear HO169; clear BK171; clear HB; have HO148 := n0_; have HO151 := n1_; have HO160 := n2_; have HO163 := n3_; have HO169 := n4_; have HO174 := n5_; have BK171 := n6_; have HB := n7_; clear n0_ n1_ n2_ n3_ n4_ n5_ n6_ n7_; (try clear hb); (try clear hb2); (try clear hk); (try clear hi); (try clear ho0); obtain ⟨Ao38, co38, eo38⟩ := Kd.N_slice HO174.out; subst eo38; obtain ⟨Ao39, co39, eo39⟩ := Kd.N_slice HO163.out; subst eo39) | ((with_reducible refine gate_callee (f := 29) rfl ?_); refine goesL_ (some 43) rfl rfl Try.func29 (by kernel_rfl) rfl #[.slice Ao38 t172.length co38, .slice Ao39 y161.length co39] rfl (by (try simp only [List.map_toArray, List.map_cons, List.map_nil]); first | done | rfl | (simp only [List.length_drop, List.length_take]; rfl)) ?_; (with_reducible refine (batonref39_Same.calls kj5 _ _ t172 _ _ y161 true _ ?side1 ?side2 ?side3 ?side4 A34.out).mono ?_); (case side1 => repeat (first | exact (Kd.N_reads' HO174.out).2.2 | (with_reducible refine Kd.C_alloc ?_ _) | (with_reducible refine Kd.C_drewN ?_ _) | (with_reducible refine Kd.C_drew ?_))); (case side2 => exact (Kd.N_reads' HO174.out).2.1); (case side3 => repeat (first | exact (Kd.N_reads' HO163.out).2.2 | (with_reducible refine Kd.C_alloc ?_ _) | (with_reducible refine Kd.C_drewN ?_ _) | (with_reducible refine Kd.C_drew ?_))); (case side4 => exact (Kd.N_reads' HO163.out).2.1); rintro e w' ⟨rfl, ⟨nd, rfl⟩⟩; refine ⟨_, rfl, ?_⟩))
                    go_meet
                    case rel => exact ⟨_, ((t170 != (decide (a2 < (y161.length : Int))))), (by first | rfl | (simp; done) | (simp [*]; done)), H', ⟨by have := HJ5.out; first | omega | exact Nat.le_refl _⟩, ⟨by (with_reducible repeat (first | apply Kd.N_alloc | apply Kd.N_drewN | apply Kd.N_drew)); exact Kd.N_mono HO148.out (fun _ hk => ⟨hk.1.1.1.1.1, ⟨hk.1.1.1.2, ⟨hk.1.1.2, hk.1.2⟩⟩⟩)⟩, ⟨by (with_reducible repeat (first | apply Kd.N_alloc | apply Kd.N_drewN | apply Kd.N_drew)); exact Kd.N_mono HO151.out (fun _ hk => ⟨hk.1.1.1.1.1, ⟨hk.1.1.1.2, ⟨hk.1.1.2, hk.1.2⟩⟩⟩)⟩, ⟨by (with_reducible repeat (first | apply Kd.N_alloc | apply Kd.N_drewN | apply Kd.N_drew)); exact Kd.N_mono HO163.out (fun _ hk => ⟨hk.1.1.1, ⟨hk.1.1.2, hk.1.2⟩⟩)⟩, ⟨by (with_reducible repeat (first | apply Kd.R_alloc | apply Kd.R_drewN | apply Kd.R_drew)); exact HO169.out⟩, ⟨by (with_reducible repeat (first | refine blk_drewN ?_ _ | refine blk_drew ?_ | refine blk_alloc ?_ _)); exact BK171.out⟩, ⟨by repeat (first | (with_reducible first | exact HB.out | apply below_alloc | apply pw_below_drewN | apply below_drew1 | refine below_set ?_ GE171.out) | exact HB.out)⟩⟩
                  · rw [if_neg c36] at H
                    have c36b0 : decide (0 ≤ a2) = false := decide_eq_false c36
                    clear c36
                    (first | rw [c36b0] | (simp only [i64_w, i32_w]; rw [c36b0]) | skip)
                    have H' := Aside0.mk H
                    clear H
                    go_wp2_with (first | ((with_reducible refine gate_callee (f := 26) rfl ?_); refine goesL_ (some 41) rfl rfl Try.func26 (by kernel_rfl) rfl #[.slice Ao28 t149.length co28] rfl (by (try simp only [List.map_toArray, List.map_cons, List.map_nil]); first | done | rfl | (simp only [List.length_drop, List.length_take]; rfl)) ?_; (with_reducible refine (batonlaw39_Ref.calls kj5 (fun k_ => ((((some k_ ≠ (.slice Ao24 t146.length co24 : Value).ownBlock ∧ some k_ ≠ (.slice Ao27 t158.length co27 : Value).ownBlock) ∧ some k_ ≠ (v162 : Value).ownBlock) ∧ some k_ ≠ (.slice Ao32 t167.length co32 : Value).ownBlock) ∧ k_ ≠ gb171)) _ _ t149 t172 _ ?side1 A33.out).mono ?_); (case side1 => exact Kd.N_V ((Kd.N_mono (Kd.N_far (p := ⟨gb171, 3, none⟩) (Kd.N_far (p := ⟨gb171, 2, none⟩) (Kd.N_far (p := ⟨gb171, 1, none⟩) (Kd.N_far (p := ⟨gb171, 0, none⟩) (Kd.N_mono HO151.out (fun k_ hk => (⟨hk, hk.2⟩ : _ ∧ k_ ≠ gb171))) (fun _ hk => hk.2) (.int .i64 t164)) (fun _ hk => hk.2) (.int .i64 t165)) (fun _ hk => hk.2) (.int .i64 t166)) (fun _ hk => hk.2) (.slice Ao32 t167.length co32)) (fun _ h_ => h_.1)))); rintro e w40 ⟨v173, rfl, ho0, hb⟩; refine ⟨_, rfl, ?_⟩; have n0_ := Aside0.mk (Kd.N_elder' (by (with_reducible repeat (first | apply Kd.N_alloc | apply Kd.N_drewN | apply Kd.N_drew)); exact (Kd.N_mono (Kd.N_far (p := ⟨gb171, 3, none⟩) (Kd.N_far (p := ⟨gb171, 2, none⟩) (Kd.N_far (p := ⟨gb171, 1, none⟩) (Kd.N_far (p := ⟨gb171, 0, none⟩) (Kd.N_mono HO148.out (fun k_ hk => (⟨hk, hk.2⟩ : _ ∧ k_ ≠ gb171))) (fun _ hk => hk.2) (.int .i64 t164)) (fun _ hk => hk.2) (.int .i64 t165)) (fun _ hk => hk.2) (.int .i64 t166)) (fun _ hk => hk.2) (.slice Ao32 t167.length co32)) (fun _ h_ => h_.1))) (Kd.N_base ho0) hb); have n1_ := Aside0.mk (Kd.N_elder' (by (with_reducible repeat (first | apply Kd.N_alloc | apply Kd.N_drewN | apply Kd.N_drew)); exact (Kd.N_mono (Kd.N_far (p := ⟨gb171, 3, none⟩) (Kd.N_far (p := ⟨gb171, 2, none⟩) (Kd.N_far (p := ⟨gb171, 1, none⟩) (Kd.N_far (p := ⟨gb171, 0, none⟩) (Kd.N_mono HO151.out (fun k_ hk => (⟨hk, hk.2⟩ : _ ∧ k_ ≠ gb171))) (fun _ hk => hk.2) (.int .i64 t164)) (fun _ hk => hk.2) (.int .i64 t165)) (fun _ hk => hk.2) (.int .i64 t166)) (fun _ hk => hk.2) (.slice Ao32 t167.length co32)) (fun _ h_ => h_.1))) (Kd.N_base ho0) hb); have n2_ := Aside0.mk (Kd.N_elder' (by (with_reducible repeat (first | apply Kd.N_alloc | apply Kd.N_drewN | apply Kd.N_drew)); exact (Kd.N_mono (Kd.N_far (p := ⟨gb171, 3, none⟩) (Kd.N_far (p := ⟨gb171, 2, none⟩) (Kd.N_far (p := ⟨gb171, 1, none⟩) (Kd.N_far (p := ⟨gb171, 0, none⟩) (Kd.N_mono HO160.out (fun k_ hk => (⟨hk, hk.2⟩ : _ ∧ k_ ≠ gb171))) (fun _ hk => hk.2) (.int .i64 t164)) (fun _ hk => hk.2) (.int .i64 t165)) (fun _ hk => hk.2) (.int .i64 t166)) (fun _ hk => hk.2) (.slice Ao32 t167.length co32)) (fun _ h_ => h_.1))) (Kd.N_base ho0) hb); have n3_ := Aside0.mk (Kd.N_elder' (by (with_reducible repeat (first | apply Kd.N_alloc | apply Kd.N_drewN | apply Kd.N_drew)); exact (Kd.N_mono (Kd.N_far (p := ⟨gb171, 3, none⟩) (Kd.N_far (p := ⟨gb171, 2, none⟩) (Kd.N_far (p := ⟨gb171, 1, none⟩) (Kd.N_far (p := ⟨gb171, 0, none⟩) (Kd.N_mono HO163.out (fun k_ hk => (⟨hk, hk.2⟩ : _ ∧ k_ ≠ gb171))) (fun _ hk => hk.2) (.int .i64 t164)) (fun _ hk => hk.2) (.int .i64 t165)) (fun _ hk => hk.2) (.int .i64 t166)) (fun _ hk => hk.2) (.slice Ao32 t167.length co32)) (fun _ h_ => h_.1))) (Kd.N_base ho0) hb); have n4_ := Aside0.mk (Kd.R_below (by (with_reducible repeat (first | apply Kd.R_alloc | apply Kd.R_drewN | apply Kd.R_drew)); exact (Kd.R_mono (Kd.R_far (p := ⟨gb171, 3, none⟩) (Kd.R_far (p := ⟨gb171, 2, none⟩) (Kd.R_far (p := ⟨gb171, 1, none⟩) (Kd.R_far (p := ⟨gb171, 0, none⟩) (Kd.R_types HO169.out BK171.out (by decide)) (fun _ hk => hk.2) (.int .i64 t164)) (fun _ hk => hk.2) (.int .i64 t165)) (fun _ hk => hk.2) (.int .i64 t166)) (fun _ hk => hk.2) (.slice Ao32 t167.length co32)) (fun _ h_ => h_.1))) hb); have n5_ := Aside0.mk (Kd.N_lower (Kd.N_mono (ok' := fun k_ => some k_ ≠ (.slice Ao24 t146.length co24 : Value).ownBlock ∧ some k_ ≠ (.slice Ao27 t158.length co27 : Value).ownBlock ∧ some k_ ≠ (v162 : Value).ownBlock ∧ some k_ ≠ (.slice Ao32 t167.length co32 : Value).ownBlock ∧ k_ ≠ gb171) ho0 (fun k_ hk_ => ⟨Or.elim hk_ (fun hs_ => hs_.1.1.1.1) (fun hn_ => (Kd.fresh' (Kd.N_lt (by (with_reducible repeat (first | apply Kd.N_alloc | apply Kd.N_drewN | apply Kd.N_drew)); exact (Kd.N_mono (Kd.N_far (p := ⟨gb171, 3, none⟩) (Kd.N_far (p := ⟨gb171, 2, none⟩) (Kd.N_far (p := ⟨gb171, 1, none⟩) (Kd.N_far (p := ⟨gb171, 0, none⟩) (Kd.N_mono HO148.out (fun k_ hk => (⟨hk, hk.2⟩ : _ ∧ k_ ≠ gb171))) (fun _ hk => hk.2) (.int .i64 t164)) (fun _ hk => hk.2) (.int .i64 t165)) (fun _ hk => hk.2) (.int .i64 t166)) (fun _ hk => hk.2) (.slice Ao32 t167.length co32)) (fun _ h_ => h_.1)))) k_ hn_)), Or.elim hk_ (fun hs_ => hs_.1.1.1.2) (fun hn_ => (Kd.fresh' (Kd.N_lt (by (with_reducible repeat (first | apply Kd.N_alloc | apply Kd.N_drewN | apply Kd.N_drew)); exact (Kd.N_mono (Kd.N_far (p := ⟨gb171, 3, none⟩) (Kd.N_far (p := ⟨gb171, 2, none⟩) (Kd.N_far (p := ⟨gb171, 1, none⟩) (Kd.N_far (p := ⟨gb171, 0, none⟩) (Kd.N_mono HO160.out (fun k_ hk => (⟨hk, hk.2⟩ : _ ∧ k_ ≠ gb171))) (fun _ hk => hk.2) (.int .i64 t164)) (fun _ hk => hk.2) (.int .i64 t165)) (fun _ hk => hk.2) (.int .i64 t166)) (fun _ hk => hk.2) (.slice Ao32 t167.length co32)) (fun _ h_ => h_.1)))) k_ hn_)), Or.elim hk_ (fun hs_ => hs_.1.1.2) (fun hn_ => (Kd.fresh' (Kd.N_lt (by (with_reducible repeat (first | apply Kd.N_alloc | apply Kd.N_drewN | apply Kd.N_drew)); exact (Kd.N_mono (Kd.N_far (p := ⟨gb171, 3, none⟩) (Kd.N_far (p := ⟨gb171, 2, none⟩) (Kd.N_far (p := ⟨gb171, 1, none⟩) (Kd.N_far (p := ⟨gb171, 0, none⟩) (Kd.N_mono HO163.out (fun k_ hk => (⟨hk, hk.2⟩ : _ ∧ k_ ≠ gb171))) (fun _ hk => hk.2) (.int .i64 t164)) (fun _ hk => hk.2) (.int .i64 t165)) (fun _ hk => hk.2) (.int .i64 t166)) (fun _ hk => hk.2) (.slice Ao32 t167.length co32)) (fun _ h_ => h_.1)))) k_ hn_)), Or.elim hk_ (fun hs_ => hs_.1.2) (fun hn_ => (Kd.fresh' (Kd.R_lt (by (with_reducible repeat (first | apply Kd.R_alloc | apply Kd.R_drewN | apply Kd.R_drew)); exact (Kd.R_mono (Kd.R_far (p := ⟨gb171, 3, none⟩) (Kd.R_far (p := ⟨gb171, 2, none⟩) (Kd.R_far (p := ⟨gb171, 1, none⟩) (Kd.R_far (p := ⟨gb171, 0, none⟩) (Kd.R_types HO169.out BK171.out (by decide)) (fun _ hk => hk.2) (.int .i64 t164)) (fun _ hk => hk.2) (.int .i64 t165)) (fun _ hk => hk.2) (.int .i64 t166)) (fun _ hk => hk.2) (.slice Ao32 t167.length co32)) (fun _ h_ => h_.1)))) k_ hn_)), Or.elim hk_ (fun hs_ => hs_.2) (fun hn_ => (Kd.freshB (g := gb171) (o := .cells #[.int .i64 t164, .int .i64 t165, .int .i64 t166, .slice Ao32 t167.length co32] 50 (0, 0)) (by (with_reducible repeat (first | refine blk_drewN ?_ _ | refine blk_drew ?_ | refine blk_alloc ?_ _)); refine blk_put (cs := #[.int .i64 t164, .int .i64 t165, .int .i64 t166, .slice none 0 0]) ?_ 3 _ rfl; (with_reducible repeat (first | refine blk_drewN ?_ _ | refine blk_drew ?_ | refine blk_alloc ?_ _)); refine blk_put (cs := #[.int .i64 t164, .int .i64 t165, .int .i64 0, .slice none 0 0]) ?_ 2 _ rfl; (with_reducible repeat (first | refine blk_drewN ?_ _ | refine blk_drew ?_ | refine blk_alloc ?_ _)); refine blk_put (cs := #[.int .i64 t164, .int .i64 0, .int .i64 0, .slice none 0 0]) ?_ 1 _ rfl; (with_reducible repeat (first | refine blk_drewN ?_ _ | refine blk_drew ?_ | refine blk_alloc ?_ _)); refine blk_put (cs := #[.int .i64 0, .int .i64 0, .int .i64 0, .slice none 0 0]) ?_ 0 _ rfl; (with_reducible repeat (first | refine blk_drewN ?_ _ | refine blk_drew ?_ | refine blk_alloc ?_ _)); exact BK171.out) k_ hn_))⟩)) (below_size (by repeat (first | (with_reducible first | exact HB.out | apply below_alloc | apply pw_below_drewN | apply below_drew1 | refine below_set ?_ GE171.out) | exact HB.out)))); have n6_ := Aside0.mk (blk_below (g := gb171) (o := .cells #[.int .i64 t164, .int .i64 t165, .int .i64 t166, .slice Ao32 t167.length co32] 50 (0, 0)) (by (with_reducible repeat (first | refine blk_drewN ?_ _ | refine blk_drew ?_ | refine blk_alloc ?_ _)); refine blk_put (cs := #[.int .i64 t164, .int .i64 t165, .int .i64 t166, .slice none 0 0]) ?_ 3 _ rfl; (with_reducible repeat (first | refine blk_drewN ?_ _ | refine blk_drew ?_ | refine blk_alloc ?_ _)); refine blk_put (cs := #[.int .i64 t164, .int .i64 t165, .int .i64 0, .slice none 0 0]) ?_ 2 _ rfl; (with_reducible repeat (first | refine blk_drewN ?_ _ | refine blk_drew ?_ | refine blk_alloc ?_ _)); refine blk_put (cs := #[.int .i64 t164, .int .i64 0, .int .i64 0, .slice none 0 0]) ?_ 1 _ rfl; (with_reducible repeat (first | refine blk_drewN ?_ _ | refine blk_drew ?_ | refine blk_alloc ?_ _)); refine blk_put (cs := #[.int .i64 0, .int .i64 0, .int .i64 0, .slice none 0 0]) ?_ 0 _ rfl; (with_reducible repeat (first | refine blk_drewN ?_ _ | refine blk_drew ?_ | refine blk_alloc ?_ _)); exact BK171.out) hb); have n7_ := Aside0.mk (below_step (by repeat (first | (with_reducible first | exact HB.out | apply below_alloc | apply pw_below_drewN | apply below_drew1 | refine below_set ?_ GE171.out) | exact HB.out)) hb); clear HO148; clear HO151; clear HO160; clear HO163; clear HO169; clear BK171; clear HB; have HO148 := n0_; have HO151 := n1_; have HO160 := n2_; have HO163 := n3_; have HO169 := n4_; have HO174 := n5_; have BK171 := n6_; have HB := n7_; clear n0_ n1_ n2_ n3_ n4_ n5_ n6_ n7_; (try clear hb); (try clear hb2); (try clear hk); (try clear hi); (try clear ho0); obtain ⟨Ao41, co41, eo41⟩ := Kd.N_slice HO174.out; subst eo41; obtain ⟨Ao42, co42, eo42⟩ := Kd.N_slice HO163.out; subst eo42) | ((with_reducible refine gate_callee (f := 29) rfl ?_); refine goesL_ (some 43) rfl rfl Try.func29 (by kernel_rfl) rfl #[.slice Ao41 t172.length co41, .slice Ao42 y161.length co42] rfl (by (try simp only [List.map_toArray, List.map_cons, List.map_nil]); first | done | rfl | (simp only [List.length_drop, List.length_take]; rfl)) ?_; (with_reducible refine (batonref39_Same.calls kj5 _ _ t172 _ _ y161 true _ ?side1 ?side2 ?side3 ?side4 A34.out).mono ?_); (case side1 => repeat (first | exact (Kd.N_reads' HO174.out).2.2 | (with_reducible refine Kd.C_alloc ?_ _) | (with_reducible refine Kd.C_drewN ?_ _) | (with_reducible refine Kd.C_drew ?_))); (case side2 => exact (Kd.N_reads' HO174.out).2.1); (case side3 => repeat (first | exact (Kd.N_reads' HO163.out).2.2 | (with_reducible refine Kd.C_alloc ?_ _) | (with_reducible refine Kd.C_drewN ?_ _) | (with_reducible refine Kd.C_drew ?_))); (case side4 => exact (Kd.N_reads' HO163.out).2.1); rintro e w' ⟨rfl, ⟨nd, rfl⟩⟩; refine ⟨_, rfl, ?_⟩))
                    go_meet
                    case rel => exact ⟨_, ((t170 != false)), (by first | rfl | (simp; done) | (simp [*]; done)), H', ⟨by have := HJ5.out; first | omega | exact Nat.le_refl _⟩, ⟨by (with_reducible repeat (first | apply Kd.N_alloc | apply Kd.N_drewN | apply Kd.N_drew)); exact Kd.N_mono HO148.out (fun _ hk => ⟨hk.1.1.1.1.1, ⟨hk.1.1.1.2, ⟨hk.1.1.2, hk.1.2⟩⟩⟩)⟩, ⟨by (with_reducible repeat (first | apply Kd.N_alloc | apply Kd.N_drewN | apply Kd.N_drew)); exact Kd.N_mono HO151.out (fun _ hk => ⟨hk.1.1.1.1.1, ⟨hk.1.1.1.2, ⟨hk.1.1.2, hk.1.2⟩⟩⟩)⟩, ⟨by (with_reducible repeat (first | apply Kd.N_alloc | apply Kd.N_drewN | apply Kd.N_drew)); exact Kd.N_mono HO163.out (fun _ hk => ⟨hk.1.1.1, ⟨hk.1.1.2, hk.1.2⟩⟩)⟩, ⟨by (with_reducible repeat (first | apply Kd.R_alloc | apply Kd.R_drewN | apply Kd.R_drew)); exact HO169.out⟩, ⟨by (with_reducible repeat (first | refine blk_drewN ?_ _ | refine blk_drew ?_ | refine blk_alloc ?_ _)); exact BK171.out⟩, ⟨by repeat (first | (with_reducible first | exact HB.out | apply below_alloc | apply pw_below_drewN | apply below_drew1 | refine below_set ?_ GE171.out) | exact HB.out)⟩⟩
                · replace c35 := Bool.eq_false_iff.mpr c35
                  subst c35
                  have H1 : (batonlaw39_BagPuts.j1 kj5 l0 a2 t146 t149 y161 t170 true t164 t165 t166 t167) = some r := by rw [if_neg (show ¬ (false = true) by decide)] at H; exact H
                  clear H
                  have H := H1
                  clear H1
                  have H' := Aside0.mk H
                  clear H
                  go_wp2_with (first | ((with_reducible refine gate_callee (f := 26) rfl ?_); refine goesL_ (some 41) rfl rfl Try.func26 (by kernel_rfl) rfl #[.slice Ao28 t149.length co28] rfl (by (try simp only [List.map_toArray, List.map_cons, List.map_nil]); first | done | rfl | (simp only [List.length_drop, List.length_take]; rfl)) ?_; (with_reducible refine (batonlaw39_Ref.calls kj5 (fun k_ => ((((some k_ ≠ (.slice Ao24 t146.length co24 : Value).ownBlock ∧ some k_ ≠ (.slice Ao27 t158.length co27 : Value).ownBlock) ∧ some k_ ≠ (v162 : Value).ownBlock) ∧ some k_ ≠ (.slice Ao32 t167.length co32 : Value).ownBlock) ∧ k_ ≠ gb171)) _ _ t149 t172 _ ?side1 A33.out).mono ?_); (case side1 => exact Kd.N_V ((Kd.N_mono (Kd.N_far (p := ⟨gb171, 3, none⟩) (Kd.N_far (p := ⟨gb171, 2, none⟩) (Kd.N_far (p := ⟨gb171, 1, none⟩) (Kd.N_far (p := ⟨gb171, 0, none⟩) (Kd.N_mono HO151.out (fun k_ hk => (⟨hk, hk.2⟩ : _ ∧ k_ ≠ gb171))) (fun _ hk => hk.2) (.int .i64 t164)) (fun _ hk => hk.2) (.int .i64 t165)) (fun _ hk => hk.2) (.int .i64 t166)) (fun _ hk => hk.2) (.slice Ao32 t167.length co32)) (fun _ h_ => h_.1)))); rintro e w43 ⟨v173, rfl, ho0, hb⟩; refine ⟨_, rfl, ?_⟩; have n0_ := Aside0.mk (Kd.N_elder' (by (with_reducible repeat (first | apply Kd.N_alloc | apply Kd.N_drewN | apply Kd.N_drew)); exact (Kd.N_mono (Kd.N_far (p := ⟨gb171, 3, none⟩) (Kd.N_far (p := ⟨gb171, 2, none⟩) (Kd.N_far (p := ⟨gb171, 1, none⟩) (Kd.N_far (p := ⟨gb171, 0, none⟩) (Kd.N_mono HO148.out (fun k_ hk => (⟨hk, hk.2⟩ : _ ∧ k_ ≠ gb171))) (fun _ hk => hk.2) (.int .i64 t164)) (fun _ hk => hk.2) (.int .i64 t165)) (fun _ hk => hk.2) (.int .i64 t166)) (fun _ hk => hk.2) (.slice Ao32 t167.length co32)) (fun _ h_ => h_.1))) (Kd.N_base ho0) hb); have n1_ := Aside0.mk (Kd.N_elder' (by (with_reducible repeat (first | apply Kd.N_alloc | apply Kd.N_drewN | apply Kd.N_drew)); exact (Kd.N_mono (Kd.N_far (p := ⟨gb171, 3, none⟩) (Kd.N_far (p := ⟨gb171, 2, none⟩) (Kd.N_far (p := ⟨gb171, 1, none⟩) (Kd.N_far (p := ⟨gb171, 0, none⟩) (Kd.N_mono HO151.out (fun k_ hk => (⟨hk, hk.2⟩ : _ ∧ k_ ≠ gb171))) (fun _ hk => hk.2) (.int .i64 t164)) (fun _ hk => hk.2) (.int .i64 t165)) (fun _ hk => hk.2) (.int .i64 t166)) (fun _ hk => hk.2) (.slice Ao32 t167.length co32)) (fun _ h_ => h_.1))) (Kd.N_base ho0) hb); have n2_ := Aside0.mk (Kd.N_elder' (by (with_reducible repeat (first | apply Kd.N_alloc | apply Kd.N_drewN | apply Kd.N_drew)); exact (Kd.N_mono (Kd.N_far (p := ⟨gb171, 3, none⟩) (Kd.N_far (p := ⟨gb171, 2, none⟩) (Kd.N_far (p := ⟨gb171, 1, none⟩) (Kd.N_far (p := ⟨gb171, 0, none⟩) (Kd.N_mono HO160.out (fun k_ hk => (⟨hk, hk.2⟩ : _ ∧ k_ ≠ gb171))) (fun _ hk => hk.2) (.int .i64 t164)) (fun _ hk => hk.2) (.int .i64 t165)) (fun _ hk => hk.2) (.int .i64 t166)) (fun _ hk => hk.2) (.slice Ao32 t167.length co32)) (fun _ h_ => h_.1))) (Kd.N_base ho0) hb); have n3_ := Aside0.mk (Kd.N_elder' (by (with_reducible repeat (first | apply Kd.N_alloc | apply Kd.N_drewN | apply Kd.N_drew)); exact (Kd.N_mono (Kd.N_far (p := ⟨gb171, 3, none⟩) (Kd.N_far (p := ⟨gb171, 2, none⟩) (Kd.N_far (p := ⟨gb171, 1, none⟩) (Kd.N_far (p := ⟨gb171, 0, none⟩) (Kd.N_mono HO163.out (fun k_ hk => (⟨hk, hk.2⟩ : _ ∧ k_ ≠ gb171))) (fun _ hk => hk.2) (.int .i64 t164)) (fun _ hk => hk.2) (.int .i64 t165)) (fun _ hk => hk.2) (.int .i64 t166)) (fun _ hk => hk.2) (.slice Ao32 t167.length co32)) (fun _ h_ => h_.1))) (Kd.N_base ho0) hb); have n4_ := Aside0.mk (Kd.R_below (by (with_reducible repeat (first | apply Kd.R_alloc | apply Kd.R_drewN | apply Kd.R_drew)); exact (Kd.R_mono (Kd.R_far (p := ⟨gb171, 3, none⟩) (Kd.R_far (p := ⟨gb171, 2, none⟩) (Kd.R_far (p := ⟨gb171, 1, none⟩) (Kd.R_far (p := ⟨gb171, 0, none⟩) (Kd.R_types HO169.out BK171.out (by decide)) (fun _ hk => hk.2) (.int .i64 t164)) (fun _ hk => hk.2) (.int .i64 t165)) (fun _ hk => hk.2) (.int .i64 t166)) (fun _ hk => hk.2) (.slice Ao32 t167.length co32)) (fun _ h_ => h_.1))) hb); have n5_ := Aside0.mk (Kd.N_lower (Kd.N_mono (ok' := fun k_ => some k_ ≠ (.slice Ao24 t146.length co24 : Value).ownBlock ∧ some k_ ≠ (.slice Ao27 t158.length co27 : Value).ownBlock ∧ some k_ ≠ (v162 : Value).ownBlock ∧ some k_ ≠ (.slice Ao32 t167.length co32 : Value).ownBlock ∧ k_ ≠ gb171) ho0 (fun k_ hk_ => ⟨Or.elim hk_ (fun hs_ => hs_.1.1.1.1) (fun hn_ => (Kd.fresh' (Kd.N_lt (by (with_reducible repeat (first | apply Kd.N_alloc | apply Kd.N_drewN | apply Kd.N_drew)); exact (Kd.N_mono (Kd.N_far (p := ⟨gb171, 3, none⟩) (Kd.N_far (p := ⟨gb171, 2, none⟩) (Kd.N_far (p := ⟨gb171, 1, none⟩) (Kd.N_far (p := ⟨gb171, 0, none⟩) (Kd.N_mono HO148.out (fun k_ hk => (⟨hk, hk.2⟩ : _ ∧ k_ ≠ gb171))) (fun _ hk => hk.2) (.int .i64 t164)) (fun _ hk => hk.2) (.int .i64 t165)) (fun _ hk => hk.2) (.int .i64 t166)) (fun _ hk => hk.2) (.slice Ao32 t167.length co32)) (fun _ h_ => h_.1)))) k_ hn_)), Or.elim hk_ (fun hs_ => hs_.1.1.1.2) (fun hn_ => (Kd.fresh' (Kd.N_lt (by (with_reducible repeat (first | apply Kd.N_alloc | apply Kd.N_drewN | apply Kd.N_drew)); exact (Kd.N_mono (Kd.N_far (p := ⟨gb171, 3, none⟩) (Kd.N_far (p := ⟨gb171, 2, none⟩) (Kd.N_far (p := ⟨gb171, 1, none⟩) (Kd.N_far (p := ⟨gb171, 0, none⟩) (Kd.N_mono HO160.out (fun k_ hk => (⟨hk, hk.2⟩ : _ ∧ k_ ≠ gb171))) (fun _ hk => hk.2) (.int .i64 t164)) (fun _ hk => hk.2) (.int .i64 t165)) (fun _ hk => hk.2) (.int .i64 t166)) (fun _ hk => hk.2) (.slice Ao32 t167.length co32)) (fun _ h_ => h_.1)))) k_ hn_)), Or.elim hk_ (fun hs_ => hs_.1.1.2) (fun hn_ => (Kd.fresh' (Kd.N_lt (by (with_reducible repeat (first | apply Kd.N_alloc | apply Kd.N_drewN | apply Kd.N_drew)); exact (Kd.N_mono (Kd.N_far (p := ⟨gb171, 3, none⟩) (Kd.N_far (p := ⟨gb171, 2, none⟩) (Kd.N_far (p := ⟨gb171, 1, none⟩) (Kd.N_far (p := ⟨gb171, 0, none⟩) (Kd.N_mono HO163.out (fun k_ hk => (⟨hk, hk.2⟩ : _ ∧ k_ ≠ gb171))) (fun _ hk => hk.2) (.int .i64 t164)) (fun _ hk => hk.2) (.int .i64 t165)) (fun _ hk => hk.2) (.int .i64 t166)) (fun _ hk => hk.2) (.slice Ao32 t167.length co32)) (fun _ h_ => h_.1)))) k_ hn_)), Or.elim hk_ (fun hs_ => hs_.1.2) (fun hn_ => (Kd.fresh' (Kd.R_lt (by (with_reducible repeat (first | apply Kd.R_alloc | apply Kd.R_drewN | apply Kd.R_drew)); exact (Kd.R_mono (Kd.R_far (p := ⟨gb171, 3, none⟩) (Kd.R_far (p := ⟨gb171, 2, none⟩) (Kd.R_far (p := ⟨gb171, 1, none⟩) (Kd.R_far (p := ⟨gb171, 0, none⟩) (Kd.R_types HO169.out BK171.out (by decide)) (fun _ hk => hk.2) (.int .i64 t164)) (fun _ hk => hk.2) (.int .i64 t165)) (fun _ hk => hk.2) (.int .i64 t166)) (fun _ hk => hk.2) (.slice Ao32 t167.length co32)) (fun _ h_ => h_.1)))) k_ hn_)), Or.elim hk_ (fun hs_ => hs_.2) (fun hn_ => (Kd.freshB (g := gb171) (o := .cells #[.int .i64 t164, .int .i64 t165, .int .i64 t166, .slice Ao32 t167.length co32] 50 (0, 0)) (by (with_reducible repeat (first | refine blk_drewN ?_ _ | refine blk_drew ?_ | refine blk_alloc ?_ _)); refine blk_put (cs := #[.int .i64 t164, .int .i64 t165, .int .i64 t166, .slice none 0 0]) ?_ 3 _ rfl; (with_reducible repeat (first | refine blk_drewN ?_ _ | refine blk_drew ?_ | refine blk_alloc ?_ _)); refine blk_put (cs := #[.int .i64 t164, .int .i64 t165, .int .i64 0, .slice none 0 0]) ?_ 2 _ rfl; (with_reducible repeat (first | refine blk_drewN ?_ _ | refine blk_drew ?_ | refine blk_alloc ?_ _)); refine blk_put (cs := #[.int .i64 t164, .int .i64 0, .int .i64 0, .slice none 0 0]) ?_ 1 _ rfl; (with_reducible repeat (first | refine blk_drewN ?_ _ | refine blk_drew ?_ | refine blk_alloc ?_ _)); refine blk_put (cs := #[.int .i64 0, .int .i64 0, .int .i64 0, .slice none 0 0]) ?_ 0 _ rfl; (with_reducible repeat (first | refine blk_drewN ?_ _ | refine blk_drew ?_ | refine blk_alloc ?_ _)); exact BK171.out) k_ hn_))⟩)) (below_size (by repeat (first | (with_reducible first | exact HB.out | apply below_alloc | apply pw_below_drewN | apply below_drew1 | refine below_set ?_ GE171.out) | exact HB.out)))); have n6_ := Aside0.mk (blk_below (g := gb171) (o := .cells #[.int .i64 t164, .int .i64 t165, .int .i64 t166, .slice Ao32 t167.length co32] 50 (0, 0)) (by (with_reducible repeat (first | refine blk_drewN ?_ _ | refine blk_drew ?_ | refine blk_alloc ?_ _)); refine blk_put (cs := #[.int .i64 t164, .int .i64 t165, .int .i64 t166, .slice none 0 0]) ?_ 3 _ rfl; (with_reducible repeat (first | refine blk_drewN ?_ _ | refine blk_drew ?_ | refine blk_alloc ?_ _)); refine blk_put (cs := #[.int .i64 t164, .int .i64 t165, .int .i64 0, .slice none 0 0]) ?_ 2 _ rfl; (with_reducible repeat (first | refine blk_drewN ?_ _ | refine blk_drew ?_ | refine blk_alloc ?_ _)); refine blk_put (cs := #[.int .i64 t164, .int .i64 0, .int .i64 0, .slice none 0 0]) ?_ 1 _ rfl; (with_reducible repeat (first | refine blk_drewN ?_ _ | refine blk_drew ?_ | refine blk_alloc ?_ _)); refine blk_put (cs := #[.int .i64 0, .int .i64 0, .int .i64 0, .slice none 0 0]) ?_ 0 _ rfl; (with_reducible repeat (first | refine blk_drewN ?_ _ | refine blk_drew ?_ | refine blk_alloc ?_ _)); exact BK171.out) hb); have n7_ := Aside0.mk (below_step (by repeat (first | (with_reducible first | exact HB.out | apply below_alloc | apply pw_below_drewN | apply below_drew1 | refine below_set ?_ GE171.out) | exact HB.out)) hb); clear HO148; clear HO151; clear HO160; clear HO163; clear HO169; clear BK171; clear HB; have HO148 := n0_; have HO151 := n1_; have HO160 := n2_; have HO163 := n3_; have HO169 := n4_; have HO174 := n5_; have BK171 := n6_; have HB := n7_; clear n0_ n1_ n2_ n3_ n4_ n5_ n6_ n7_; (try clear hb); (try clear hb2); (try clear hk); (try clear hi); (try clear ho0); obtain ⟨Ao44, co44, eo44⟩ := Kd.N_slice HO174.out; subst eo44; obtain ⟨Ao45, co45, eo45⟩ := Kd.N_slice HO163.out; subst eo45) | ((with_reducible refine gate_callee (f := 29) rfl ?_); refine goesL_ (some 43) rfl rfl Try.func29 (by kernel_rfl) rfl #[.slice Ao44 t172.length co44, .slice Ao45 y161.length co45] rfl (by (try simp only [List.map_toArray, List.map_cons, List.map_nil]); first | done | rfl | (simp only [List.length_drop, List.length_take]; rfl)) ?_; (with_reducible refine (batonref39_Same.calls kj5 _ _ t172 _ _ y161 false _ ?side1 ?side2 ?side3 ?side4 A34.out).mono ?_); (case side1 => repeat (first | exact (Kd.N_reads' HO174.out).2.2 | (with_reducible refine Kd.C_alloc ?_ _) | (with_reducible refine Kd.C_drewN ?_ _) | (with_reducible refine Kd.C_drew ?_))); (case side2 => exact (Kd.N_reads' HO174.out).2.1); (case side3 => repeat (first | exact (Kd.N_reads' HO163.out).2.2 | (with_reducible refine Kd.C_alloc ?_ _) | (with_reducible refine Kd.C_drewN ?_ _) | (with_reducible refine Kd.C_drew ?_))); (case side4 => exact (Kd.N_reads' HO163.out).2.1); rintro e w' ⟨rfl, ⟨nd, rfl⟩⟩; refine ⟨_, rfl, ?_⟩))
                  go_meet
                  case rel => exact ⟨_, (true), (by first | rfl | (simp; done) | (simp [*]; done)), H', ⟨by have := HJ5.out; first | omega | exact Nat.le_refl _⟩, ⟨by (with_reducible repeat (first | apply Kd.N_alloc | apply Kd.N_drewN | apply Kd.N_drew)); exact Kd.N_mono HO148.out (fun _ hk => ⟨hk.1.1.1.1.1, ⟨hk.1.1.1.2, ⟨hk.1.1.2, hk.1.2⟩⟩⟩)⟩, ⟨by (with_reducible repeat (first | apply Kd.N_alloc | apply Kd.N_drewN | apply Kd.N_drew)); exact Kd.N_mono HO151.out (fun _ hk => ⟨hk.1.1.1.1.1, ⟨hk.1.1.1.2, ⟨hk.1.1.2, hk.1.2⟩⟩⟩)⟩, ⟨by (with_reducible repeat (first | apply Kd.N_alloc | apply Kd.N_drewN | apply Kd.N_drew)); exact Kd.N_mono HO163.out (fun _ hk => ⟨hk.1.1.1, ⟨hk.1.1.2, hk.1.2⟩⟩)⟩, ⟨by (with_reducible repeat (first | apply Kd.R_alloc | apply Kd.R_drewN | apply Kd.R_drew)); exact HO169.out⟩, ⟨by (with_reducible repeat (first | refine blk_drewN ?_ _ | refine blk_drew ?_ | refine blk_alloc ?_ _)); exact BK171.out⟩, ⟨by repeat (first | (with_reducible first | exact HB.out | apply below_alloc | apply pw_below_drewN | apply below_drew1 | refine below_set ?_ GE171.out) | exact HB.out)⟩⟩
              case rest =>
                clear HC18
                try clear c1
                try clear c2
                try clear p2
                try clear c3
                try clear c5
                try clear c6
                try clear c9
                try clear c11
                try clear c14
                try clear c16
                try clear c24
                try clear c25
                try clear c26
                try clear c27
                try clear c28
                try clear c29
                try clear c35
                try clear c36
                try clear c36b0
                try clear hcz31_0
                try clear hcz31_1
                try clear hcz31_2
                try clear hcz31_3
                try clear hfz31_0
                try clear hfz31_1
                try clear hfz31_2
                try clear hfz31_3
                try clear p2
                obtain ⟨kq, x56_17, rfl, HA, HJ17, HO_7, HO_8, HO_9, HO_172003, BK171, HB⟩ := hcut
                cases kq with
                | zero => exact absurd HA.out (by simp [batonlaw39_BagPuts.j1])
                | succ kj17 =>
                  have H := HA.out
                  clear HA
                  simp only [batonlaw39_BagPuts.j1] at H
                  by_cases c46 : x56_17 = true
                  · subst c46
                    have H1 : (some false) = some r := by rw [if_pos rfl] at H; exact H
                    clear H
                    have H := H1
                    clear H1
                    obtain rfl := Option.some.inj H
                    go_wp2
                    go_ret
                    exact ⟨by first | rfl | (simp [errW_none, errW_some] <;> rfl) | (simp [*, errW_none, errW_some] <;> rfl), by repeat (first | (with_reducible first | exact HB.out | apply below_alloc | apply pw_below_drewN | apply below_drew1 | refine below_set ?_ GE171.out) | exact HB.out)⟩
                  · replace c46 := Bool.eq_false_iff.mpr c46
                    subst c46
                    have H1 : (if t170 = true then ((batonlaw39_Ref.f kj17 (([(⟨t164, t165, t166, t167⟩ : S50)] : List (S50)))).bind fun t179 => (if 0 ≤ a2 then (if a2 ≤ (wrap64 (a2 + 1)) then (if (wrap64 (a2 + 1)) ≤ (y161.length : Int) then ((batonref39_Same.f kj17 t179 ((y161.take ((wrap64 (a2 + 1)) : Int).toNat).drop (a2 : Int).toNat)).bind fun t187 => (if t187 = true then (batonlaw39_BagPuts.l0 kj17 l0 t146 t149 y161 0 t164 t165 t166 t167) else (some false))) else (none)) else (none)) else (none))) else (if t164 = 0 then (some ((t167.length : Int) == 0)) else (some false))) = some r := by rw [if_neg (show ¬ (false = true) by decide)] at H; exact H
                    clear H
                    have H := H1
                    clear H1
                    by_cases c47 : t170 = true
                    · subst c47
                      have H1 : ((batonlaw39_Ref.f kj17 (([(⟨t164, t165, t166, t167⟩ : S50)] : List (S50)))).bind fun t179 => (if 0 ≤ a2 then (if a2 ≤ (wrap64 (a2 + 1)) then (if (wrap64 (a2 + 1)) ≤ (y161.length : Int) then ((batonref39_Same.f kj17 t179 ((y161.take ((wrap64 (a2 + 1)) : Int).toNat).drop (a2 : Int).toNat)).bind fun t187 => (if t187 = true then (batonlaw39_BagPuts.l0 kj17 l0 t146 t149 y161 0 t164 t165 t166 t167) else (some false))) else (none)) else (none)) else (none))) = some r := by rw [if_pos rfl] at H; exact H
                      clear H
                      have H := H1
                      clear H1
                      obtain ⟨y176, hy176⟩ : ∃ y_ : List (S50), y_ = (([(⟨t164, t165, t166, t167⟩ : S50)] : List (S50))) := ⟨_, rfl⟩
                      replace H : ((batonlaw39_Ref.f kj17 y176).bind fun t179 => (if 0 ≤ a2 then (if a2 ≤ (wrap64 (a2 + 1)) then (if (wrap64 (a2 + 1)) ≤ (y161.length : Int) then ((batonref39_Same.f kj17 t179 ((y161.take ((wrap64 (a2 + 1)) : Int).toNat).drop (a2 : Int).toNat)).bind fun t187 => (if t187 = true then (batonlaw39_BagPuts.l0 kj17 l0 t146 t149 y161 0 t164 t165 t166 t167) else (some false))) else (none)) else (none)) else (none))) = some r := by first | (rw [hy176]; with_reducible exact H) | (have H2_ := (Option.bind_some _ _).symm.trans H; rw [hy176]; with_reducible exact H2_) | (have H2_ := (Option.bind_some _ _).symm.trans H; with_reducible exact H2_) | with_reducible exact H | (rw [hy176]; exact H) | exact H
                      have Ny176 := Aside0.mk hy176
                      clear hy176
                      replace H := Option.bind_eq_some_iff.mp H
                      obtain ⟨t179, A480, H⟩ := H
                      replace H : (if 0 ≤ a2 then (if a2 ≤ (wrap64 (a2 + 1)) then (if (wrap64 (a2 + 1)) ≤ (y161.length : Int) then ((batonref39_Same.f kj17 t179 ((y161.take ((wrap64 (a2 + 1)) : Int).toNat).drop (a2 : Int).toNat)).bind fun t187 => (if t187 = true then (batonlaw39_BagPuts.l0 kj17 l0 t146 t149 y161 0 t164 t165 t166 t167) else (some false))) else (none)) else (none)) else (none)) = some r := H
                      have A48 := Aside0.mk A480
                      clear A480
                      by_cases c49 : 0 ≤ a2
                      · rw [if_pos c49] at H
                        have c49b0 := eq_true c49
                        have c49b1 : decide (0 ≤ a2) = true := decide_eq_true c49
                        clear c49
                        obtain ⟨ji50, hji50⟩ : ∃ j_ : Int, (wrap64 (a2 + 1)) = j_ := ⟨_, rfl⟩
                        replace H : (if a2 ≤ (ji50) then (if (ji50) ≤ (y161.length : Int) then ((batonref39_Same.f kj17 t179 ((y161.take ((ji50) : Int).toNat).drop (a2 : Int).toNat)).bind fun t187 => (if t187 = true then (batonlaw39_BagPuts.l0 kj17 l0 t146 t149 y161 0 t164 t165 t166 t167) else (some false))) else (none)) else (none)) = some r := by first | (rw [hji50] at H; exact H) | (simp only [hji50] at H ⊢; exact H)
                        (try rw [hji50] at A48)
                        have hji50w : (IntKind.i64.wrap (a2 + 1)) = ji50 := (i64_w _).trans hji50
                        by_cases c51 : a2 ≤ (ji50)
                        · rw [if_pos c51] at H
                          have c51b0 := eq_true c51
                          have c51b1 : decide (a2 ≤ (ji50)) = true := decide_eq_true c51
                          clear c51
                          by_cases c52 : (ji50) ≤ (y161.length : Int)
                          · rw [if_pos c52] at H
                            have c52b0 := eq_true c52
                            have c52b1 : decide ((ji50) ≤ (y161.length : Int)) = true := decide_eq_true c52
                            clear c52
                            obtain ⟨y182, hy182⟩ : ∃ y_ : List (S108), y_ = ((y161.take ((ji50) : Int).toNat).drop (a2 : Int).toNat) := ⟨_, rfl⟩
                            replace H : ((batonref39_Same.f kj17 t179 y182).bind fun t187 => (if t187 = true then (batonlaw39_BagPuts.l0 kj17 l0 t146 t149 y161 0 t164 t165 t166 t167) else (some false))) = some r := by first | (rw [hy182]; with_reducible exact H) | (have H2_ := (Option.bind_some _ _).symm.trans H; rw [hy182]; with_reducible exact H2_) | (have H2_ := (Option.bind_some _ _).symm.trans H; with_reducible exact H2_) | with_reducible exact H | (rw [hy182]; exact H) | exact H
                            have Ny182 := Aside0.mk hy182
                            clear hy182
                            replace H := Option.bind_eq_some_iff.mp H
                            obtain ⟨t187, A530, H⟩ := H
                            replace H : (if t187 = true then (batonlaw39_BagPuts.l0 kj17 l0 t146 t149 y161 0 t164 t165 t166 t167) else (some false)) = some r := H
                            have A53 := Aside0.mk A530
                            clear A530
                            by_cases c54 : t187 = true
                            · subst c54
                              have H1 : (batonlaw39_BagPuts.l0 kj17 l0 t146 t149 y161 0 t164 t165 t166 t167) = some r := by rw [if_pos rfl] at H; exact H
                              clear H
                              have H := H1
                              clear H1
                              have H' := Aside0.mk H
                              clear H
                              try go_wp2
                              have n0_ := Aside0.mk (Kd.N_drew HO_7.out)
                              have n1_ := Aside0.mk (Kd.N_drew HO_8.out)
                              have n2_ := Aside0.mk (Kd.N_drew HO_9.out)
                              have n3_ := Aside0.mk (Kd.R_drew HO_172003.out)
                              have n4_ := Aside0.mk (blk_drew BK171.out)
                              have n5_ := Aside0.mk (below_drew1 HB.out)
                              clear HO_7
                              clear HO_8
                              clear HO_9
                              clear HO_172003
                              clear BK171
                              clear HB
                              have HO_7 := n0_
                              have HO_8 := n1_
                              have HO_9 := n2_
                              have HO_172003 := n3_
                              have BK171 := n4_
                              have HB := n5_
                              clear n0_ n1_ n2_ n3_ n4_ n5_
                              obtain ⟨Ao57, co57, eo57⟩ := Kd.N_slice HO_9.out
                              (first | subst eo57 | (injection eo57 with f1_ f2_ f3_; have f4_ := f1_.symm; have f5_ := f3_.symm; clear f1_ f2_ f3_; subst f4_; subst f5_))
                              have q56 : ((ji50) : Int) ≤ ((y161.length : Int) : Int) := of_decide_eq_true (by first | (with_reducible assumption) | assumption)
                              obtain ⟨i056, hi056, _, hsz56, _⟩ := info_parts info108
                              have hroom56 : y161.length ≤ co57 := (Kd.N_reads' HO_9.out).2.1
                              have hC56 : Kd.F k108 _ _ Ao57 y161.length y161 := (Kd.V_at (base := w.heap.size) (Kd.N_V HO_9.out)).2.2
                              have ql56 : (a2 : Int) ≤ ((ji50) : Int) := of_decide_eq_true (by first | (with_reducible assumption) | assumption)
                              have q056 : (0 : Int) ≤ (a2 : Int) := of_decide_eq_true (by first | (with_reducible assumption) | assumption)
                              have hcut56 := fun kl_ kh_ => cut_mid (P := Try.prog) 46 108 kl_ kh_ Try.underlying46 hi056 4 hsz56 Ao57 y161.length co57 a2 (ji50) q056 ql56 q56 hroom56
                              have hr56 := Kd.F_mid (lo := (a2 : Int).toNat) (hi := ((ji50) : Int).toNat) (c := co57) hC56 (by omega) (by omega) hroom56
                              obtain ⟨A56, hA56⟩ : ∃ A1, A1 = (if co57 = (a2 : Int).toNat then Ao57 else (Ao57 : Option Addr).map (·.add ((a2 : Int).toNat * 4))) := ⟨_, rfl⟩
                              obtain ⟨c56, hc56⟩ : ∃ c1, c1 = co57 - (a2 : Int).toNat := ⟨_, rfl⟩
                              have hy56 : y182.length = ((ji50) : Int).toNat - (a2 : Int).toNat := (by rw [Ny182.out, List.length_drop, List.length_take] <;> omega)
                              rw [show ((y161).take ((ji50) : Int).toNat).drop (a2 : Int).toNat = y182 from Ny182.out.symm] at hr56
                              replace hr56 : Kd.F k108 _ _ A56 y182.length y182 := (by rw [hA56]; exact hr56)
                              rw [← hy56, ← hA56, ← hc56] at hcut56
                              have HO186 := Aside0.mk (show Kd.V k108 108 _ w.heap.size _ (.slice A56 y182.length c56) y182 from Kd.V_mk (by rw [hy56, hc56]; exact Nat.sub_le_sub_right (Nat.le_trans (by omega) hroom56) _) hr56)
                              have HC186 := Aside0.mk (show y182.length ≤ c56 from by rw [hy56, hc56]; exact Nat.sub_le_sub_right (Nat.le_trans (by omega) hroom56) _)
                              clear hr56 hC56 hroom56 hi056 hsz56 hc56
                              have KY56 := Aside0.mk hy56
                              have KA56 := Aside0.mk hA56
                              clear hy56 hA56
                              replace q56 := eq_true q56
                              refine start_ (n := 10) (S := fun w' => w'.cell? ⟨gb171, 0, none⟩ = some (.int .i64 t164) ∧ w'.cell? ⟨gb171, 1, none⟩ = some (.int .i64 t165) ∧ w'.cell? ⟨gb171, 2, none⟩ = some (.int .i64 t166) ∧ w'.cell? ⟨gb171, 3, none⟩ = some (.slice Ao32 t167.length co32)) (ds := []) #[false, false, false, false, false, false, false, false, false, false] (by kernel_rfl) rfl rfl ⟨(blk_cell BK171.out 0).trans rfl, (blk_cell BK171.out 1).trans rfl, (blk_cell BK171.out 2).trans rfl, (blk_cell BK171.out 3).trans rfl⟩ (fun hHeld => ?_); refine with_tabW batonlaw39_BagPuts.tab13 batonlaw39_BagPuts.bits13 (fun HT_ HW_ => ?_)
                              generalize wc.drew = w55 at HO_7 HO_8 HO_9 HO_172003 BK171 HB HO186 hHeld ⊢
                              refine pure_ (i := 3) (N := some 71) (v := ?_) (a' := ?_) #[false, false, false, true, false, false, false, false, false, false] rfl rfl (any_of HT_.out (by kernel_rfl)) (fun _ _ _ h => h) (Or.inl ⟨by rfl, ?_⟩) ?_ ?_
                              rotate_left
                              · intro w'
                                go_simp
                                with_reducible rfl
                              rotate_left
                              · simp only [Act.put, List.setIfInBounds_toArray, List.set_cons_zero, List.set_cons_succ, i64_w, i32_w]
                                rfl
                              refine pure_ (i := 4) (N := some 72) (v := ?_) (a' := ?_) #[false, false, false, true, true, false, false, false, false, false] rfl rfl (any_of HT_.out (by kernel_rfl)) (fun _ _ _ h => h) (Or.inl ⟨by rfl, ?_⟩) ?_ ?_
                              rotate_left
                              · intro w'
                                go_simp
                                with_reducible rfl
                              rotate_left
                              · simp only [Act.put, List.setIfInBounds_toArray, List.set_cons_zero, List.set_cons_succ, i64_w, i32_w]
                                rfl
                              refine pure_ (i := 5) (N := some 73) (v := ?_) (a' := ?_) #[false, false, false, true, true, true, false, false, false, false] rfl rfl (any_of HT_.out (by kernel_rfl)) (fun _ _ _ h => h) (Or.inl ⟨by rfl, ?_⟩) ?_ ?_
                              rotate_left
                              · intro w'
                                go_simp
                                with_reducible rfl
                              rotate_left
                              · simp only [Act.put, List.setIfInBounds_toArray, List.set_cons_zero, List.set_cons_succ, i64_w, i32_w]
                                rfl
                              refine pure_ (i := 6) (N := some 74) (v := ?_) (a' := ?_) #[false, false, false, true, true, true, true, false, false, false] rfl rfl (any_of HT_.out (by kernel_rfl)) (fun _ _ _ h => h) (Or.inl ⟨by rfl, ?_⟩) ?_ ?_
                              rotate_left
                              · intro w'
                                go_simp
                                with_reducible rfl
                              rotate_left
                              · simp only [Act.put, List.setIfInBounds_toArray, List.set_cons_zero, List.set_cons_succ, i64_w, i32_w]
                                rfl
                              refine pure_ (i := 7) (N := some 75) (v := ?_) (a' := ?_) #[false, false, false, true, true, true, true, true, false, false] rfl rfl (any_of HT_.out (by kernel_rfl)) (fun _ _ _ h => h) (Or.inl ⟨by rfl, ?_⟩) ?_ ?_
                              rotate_left
                              · intro w'
                                go_simp
                                with_reducible rfl
                              rotate_left
                              · simp only [Act.put, List.setIfInBounds_toArray, List.set_cons_zero, List.set_cons_succ, i64_w, i32_w]
                                rfl
                              refine take_ (i := 0) (N := some 68) (v := ?_) (a' := ?_) #[true, false, false, true, true, true, true, true, false, false] rfl rfl (take_ofW HT_.out HW_.out (by kernel_rfl)) (fun _ _ _ h => h) (Or.inl ⟨by rfl, ?_⟩) hHeld ?_ ?_
                              rotate_left
                              · rintro w' ⟨s0, s1, s2, s3⟩
                                go_simp
                                with_reducible rfl
                              rotate_left
                              · simp only [Act.put, List.setIfInBounds_toArray, List.set_cons_zero, List.set_cons_succ, i64_w, i32_w]
                                rfl
                              refine one_ (i := 1) (N := some 69) #[true, true, false, true, true, true, true, true, false, false] rfl rfl (one_of HT_.out (by kernel_rfl)) (by decide) (fun K hK => ?_)
                              refine Kd.N_lit_step k50 _ 50 ?hg (N' := 69) ?hd (xs := ([(⟨t164, t165, t166, t167⟩ : S50)] : List (S50))) (inner := [.int .i64 t164, .int .i64 t165, .int .i64 t166, .slice Ao32 t167.length co32]) (ok := (fun k_ => some k_ ≠ (.slice Ao24 t146.length co24 : Value).ownBlock ∧ some k_ ≠ (.slice Ao28 t149.length co28 : Value).ownBlock ∧ some k_ ≠ (.slice Ao57 y161.length co57 : Value).ownBlock ∧ k_ ≠ gb171)) (okp := (fun k_ => some k_ ≠ (.slice Ao24 t146.length co24 : Value).ownBlock ∧ some k_ ≠ (.slice Ao28 t149.length co28 : Value).ownBlock ∧ some k_ ≠ (.slice Ao57 y161.length co57 : Value).ownBlock ∧ k_ ≠ gb171)) ?hr ?hp (fun _ hk => hk) ((show ∀ k_, w55.heap.size ≤ k_ → (fun k_ => some k_ ≠ (.slice Ao24 t146.length co24 : Value).ownBlock ∧ some k_ ≠ (.slice Ao28 t149.length co28 : Value).ownBlock ∧ some k_ ≠ (.slice Ao57 y161.length co57 : Value).ownBlock ∧ k_ ≠ gb171) k_ from fun k_ hk => ⟨Kd.fresh' (Kd.N_lt (by (with_reducible repeat (first | apply Kd.N_alloc | apply Kd.N_drewN | apply Kd.N_drew)); exact HO_7.out)) k_ hk, Kd.fresh' (Kd.N_lt (by (with_reducible repeat (first | apply Kd.N_alloc | apply Kd.N_drewN | apply Kd.N_drew)); exact HO_8.out)) k_ hk, Kd.fresh' (Kd.N_lt (by (with_reducible repeat (first | apply Kd.N_alloc | apply Kd.N_drewN | apply Kd.N_drew)); exact HO_9.out)) k_ hk, Kd.freshB (g := gb171) (o := .cells #[.int .i64 t164, .int .i64 t165, .int .i64 t166, .slice Ao32 t167.length co32] 50 (0, 0)) (by (with_reducible repeat (first | refine blk_drewN ?_ _ | refine blk_drew ?_ | refine blk_alloc ?_ _)); exact BK171.out) k_ hk⟩) _ (Nat.le_refl _)) (Below.refl _ _) (Nat.le_refl _) (by simp) ?_; (case hd => rfl); (case hg => rfl); (case hr => first | (go_simp; done) | (go_simp; rfl)); (case hp => exact (Reps.c4 (show Kd.FK k50 _ _ (⟨t164, t165, t166, t167⟩ : S50) [.int .i64 t164, .int .i64 t165, .int .i64 t166, .slice Ao32 t167.length co32] from (k50_mkF _ _ (⟨t164, t165, t166, t167⟩ : S50) (Kd.R_reads' (Kd.R_mono (ok' := (fun k_ => some k_ ≠ (.slice Ao24 t146.length co24 : Value).ownBlock ∧ some k_ ≠ (.slice Ao28 t149.length co28 : Value).ownBlock ∧ some k_ ≠ (.slice Ao57 y161.length co57 : Value).ownBlock ∧ k_ ≠ gb171)) (Kd.R_types (Kd.R_apart' (Kd.R_apart' (Kd.R_apart' (HO_172003.out) (Kd.N_typed HO_7.out) (by decide)) (Kd.N_typed HO_8.out) (by decide)) (Kd.N_typed HO_9.out) (by decide)) BK171.out (by decide)) (fun k_ hk => ⟨hk.1.1.1.2, ⟨hk.1.1.2, ⟨hk.1.2, hk.2⟩⟩⟩))).2.1 (Kd.R_F (Kd.R_mono (ok' := (fun k_ => some k_ ≠ (.slice Ao24 t146.length co24 : Value).ownBlock ∧ some k_ ≠ (.slice Ao28 t149.length co28 : Value).ownBlock ∧ some k_ ≠ (.slice Ao57 y161.length co57 : Value).ownBlock ∧ k_ ≠ gb171)) (Kd.R_types (Kd.R_apart' (Kd.R_apart' (Kd.R_apart' (HO_172003.out) (Kd.N_typed HO_7.out) (by decide)) (Kd.N_typed HO_8.out) (by decide)) (Kd.N_typed HO_9.out) (by decide)) BK171.out (by decide)) (fun k_ hk => ⟨hk.1.1.1.2, ⟨hk.1.1.2, ⟨hk.1.2, hk.2⟩⟩⟩))))) (Reps.none _ _)))
                              intro v177 w58 ho59 hb hg_ hnew_
                              clear hg_ hnew_
                              (first | rw [← Ny176.out] at ho59 | (simp only [Int.reduceToNat] at ho59; rw [← Ny176.out] at ho59))
                              have n0_ := Aside0.mk (Kd.N_elder' (by (with_reducible repeat (first | apply Kd.N_alloc | apply Kd.N_drewN | apply Kd.N_drew)); exact HO_7.out) (Kd.N_base ho59) hb)
                              have n1_ := Aside0.mk (Kd.N_elder' (by (with_reducible repeat (first | apply Kd.N_alloc | apply Kd.N_drewN | apply Kd.N_drew)); exact HO_8.out) (Kd.N_base ho59) hb)
                              have n2_ := Aside0.mk (Kd.N_elder' (by (with_reducible repeat (first | apply Kd.N_alloc | apply Kd.N_drewN | apply Kd.N_drew)); exact HO_9.out) (Kd.N_base ho59) hb)
                              have n3_ := Aside0.mk (Kd.V_elder' (by (with_reducible repeat (first | apply Kd.V_alloc | apply Kd.V_drewN | apply Kd.V_drew)); exact HO186.out) (Kd.N_base ho59) hb)
                              have n4_ := Aside0.mk (Kd.N_lower ho59 (below_size (by repeat (first | (with_reducible first | exact HB.out | apply below_alloc | apply pw_below_drewN | apply below_drew1 | refine below_set ?_ GE171.out) | exact HB.out))))
                              have n5_ := Aside0.mk (blk_below (g := gb171) (o := .cells #[.int .i64 t164, .int .i64 t165, .int .i64 t166, .slice Ao32 t167.length co32] 50 (0, 0)) (by (with_reducible repeat (first | refine blk_drewN ?_ _ | refine blk_drew ?_ | refine blk_alloc ?_ _)); exact BK171.out) hb)
                              have n6_ := Aside0.mk (below_step (by repeat (first | (with_reducible first | exact HB.out | apply below_alloc | apply pw_below_drewN | apply below_drew1 | refine below_set ?_ GE171.out) | exact HB.out)) hb)
                              clear HO_7
                              clear HO_8
                              clear HO_9
                              clear HO186
                              clear BK171
                              clear HB
                              have HOK_ := Aside0.mk (Kd.R_below (by (with_reducible repeat (first | apply Kd.R_alloc | apply Kd.R_drewN | apply Kd.R_drew)); exact HO_172003.out) hb)
                              clear HO_172003
                              have HO_172003 := HOK_
                              clear HOK_
                              have HO_7 := n0_
                              have HO_8 := n1_
                              have HO_9 := n2_
                              have HO186 := n3_
                              have HO178 := n4_
                              have BK171 := n5_
                              have HB := n6_
                              clear n0_ n1_ n2_ n3_ n4_ n5_ n6_
                              clear hb ho59
                              obtain ⟨Ao60, co60, eo60⟩ := Kd.N_slice HO178.out
                              (first | subst eo60 | (injection eo60 with f1_ f2_ f3_; have f4_ := f1_.symm; have f5_ := f3_.symm; clear f1_ f2_ f3_; subst f4_; subst f5_))
                              refine hK.out _ _ ⟨(blk_cell BK171.out 0).trans rfl, (blk_cell BK171.out 1).trans rfl, (blk_cell BK171.out 2).trans rfl, (blk_cell BK171.out 3).trans rfl⟩ (fun hHeld => ?_)
                              clear hK K
                              refine norm_ (a' := ?_) ?_ ?_
                              rotate_left
                              · show Act.put _ (some 69) _ = _
                                simp only [Act.put, List.setIfInBounds_toArray, List.set_cons_zero, List.set_cons_succ, i64_w, i32_w]
                                rfl
                              refine one_ (i := 2) (N := some 70) #[true, true, true, true, true, true, true, true, false, false] rfl rfl (one_of HT_.out (by kernel_rfl)) (by decide) (fun K hK => ?_)
                              refine goes_ Try.func26 (by kernel_rfl) rfl #[.slice Ao60 y176.length co60] (by rfl) rfl rfl (by (try simp only [List.map_toArray, List.map_cons, List.map_nil]); first | done | rfl | (simp only [List.length_drop, List.length_take]; rfl)) ?_
                              with_reducible refine (batonlaw39_Ref.calls kj17 (fun k_ => (some k_ ≠ (.slice Ao24 t146.length co24 : Value).ownBlock ∧ (some k_ ≠ (.slice Ao28 t149.length co28 : Value).ownBlock ∧ (some k_ ≠ (.slice Ao57 y161.length co57 : Value).ownBlock ∧ k_ ≠ gb171)))) _ _ y176 t179 _ ?side1 A48.out).mono ?_
                              (case side1 => exact Kd.N_V (HO178.out))
                              rintro e w61 ⟨v180, rfl, ho0, hb⟩
                              refine ⟨_, rfl, ?_⟩
                              have n0_ := Aside0.mk (Kd.N_elder' (by (with_reducible repeat (first | apply Kd.N_alloc | apply Kd.N_drewN | apply Kd.N_drew)); exact HO_7.out) (Kd.N_base ho0) hb)
                              have n1_ := Aside0.mk (Kd.N_elder' (by (with_reducible repeat (first | apply Kd.N_alloc | apply Kd.N_drewN | apply Kd.N_drew)); exact HO_8.out) (Kd.N_base ho0) hb)
                              have n2_ := Aside0.mk (Kd.N_elder' (by (with_reducible repeat (first | apply Kd.N_alloc | apply Kd.N_drewN | apply Kd.N_drew)); exact HO_9.out) (Kd.N_base ho0) hb)
                              have n3_ := Aside0.mk (Kd.V_elder' (by (with_reducible repeat (first | apply Kd.V_alloc | apply Kd.V_drewN | apply Kd.V_drew)); exact HO186.out) (Kd.N_base ho0) hb)
                              have n4_ := Aside0.mk (Kd.N_elder' (by (with_reducible repeat (first | apply Kd.N_alloc | apply Kd.N_drewN | apply Kd.N_drew)); exact HO178.out) (Kd.N_base ho0) hb)
                              have n5_ := Aside0.mk (Kd.N_lower (Kd.N_mono (ok' := fun k_ => some k_ ≠ (.slice Ao24 t146.length co24 : Value).ownBlock ∧ some k_ ≠ (.slice Ao28 t149.length co28 : Value).ownBlock ∧ some k_ ≠ (.slice Ao57 y161.length co57 : Value).ownBlock ∧ k_ ≠ gb171) ho0 (fun k_ hk_ => ⟨Or.elim hk_ (fun hs_ => hs_.1) (fun hn_ => (Kd.fresh' (Kd.N_lt (by (with_reducible repeat (first | apply Kd.N_alloc | apply Kd.N_drewN | apply Kd.N_drew)); exact HO_7.out)) k_ hn_)), Or.elim hk_ (fun hs_ => hs_.2.1) (fun hn_ => (Kd.fresh' (Kd.N_lt (by (with_reducible repeat (first | apply Kd.N_alloc | apply Kd.N_drewN | apply Kd.N_drew)); exact HO_8.out)) k_ hn_)), Or.elim hk_ (fun hs_ => hs_.2.2.1) (fun hn_ => (Kd.fresh' (Kd.N_lt (by (with_reducible repeat (first | apply Kd.N_alloc | apply Kd.N_drewN | apply Kd.N_drew)); exact HO_9.out)) k_ hn_)), Or.elim hk_ (fun hs_ => hs_.2.2.2) (fun hn_ => (Kd.freshB (g := gb171) (o := .cells #[.int .i64 t164, .int .i64 t165, .int .i64 t166, .slice Ao32 t167.length co32] 50 (0, 0)) (by (with_reducible repeat (first | refine blk_drewN ?_ _ | refine blk_drew ?_ | refine blk_alloc ?_ _)); exact BK171.out) k_ hn_))⟩)) (below_size (by repeat (first | (with_reducible first | exact HB.out | apply below_alloc | apply pw_below_drewN | apply below_drew1 | refine below_set ?_ GE171.out) | exact HB.out))))
                              have n6_ := Aside0.mk (blk_below (g := gb171) (o := .cells #[.int .i64 t164, .int .i64 t165, .int .i64 t166, .slice Ao32 t167.length co32] 50 (0, 0)) (by (with_reducible repeat (first | refine blk_drewN ?_ _ | refine blk_drew ?_ | refine blk_alloc ?_ _)); exact BK171.out) hb)
                              have n7_ := Aside0.mk (below_step (by repeat (first | (with_reducible first | exact HB.out | apply below_alloc | apply pw_below_drewN | apply below_drew1 | refine below_set ?_ GE171.out) | exact HB.out)) hb)
                              clear HO_7
                              clear HO_8
                              clear HO_9
                              clear HO186
                              clear HO178
                              clear BK171
                              have HOK_ := Aside0.mk (Kd.R_below (by (with_reducible repeat (first | apply Kd.R_alloc | apply Kd.R_drewN | apply Kd.R_drew)); exact HO_172003.out) hb)
                              clear HB
                              clear HO_172003
                              have HO_172003 := HOK_
                              clear HOK_
                              have HO_7 := n0_
                              have HO_8 := n1_
                              have HO_9 := n2_
                              have HO186 := n3_
                              have HO178 := n4_
                              have HO181 := n5_
                              have BK171 := n6_
                              have HB := n7_
                              clear n0_ n1_ n2_ n3_ n4_ n5_ n6_ n7_
                              (try clear hb)
                              (try clear hb2)
                              (try clear hk)
                              (try clear hi)
                              (try clear ho0)
                              obtain ⟨Ao62, co62, eo62⟩ := Kd.N_slice HO181.out
                              (first | subst eo62 | (injection eo62 with f1_ f2_ f3_; have f4_ := f1_.symm; have f5_ := f3_.symm; clear f1_ f2_ f3_; subst f4_; subst f5_))
                              refine hK.out _ _ ⟨(blk_cell BK171.out 0).trans rfl, (blk_cell BK171.out 1).trans rfl, (blk_cell BK171.out 2).trans rfl, (blk_cell BK171.out 3).trans rfl⟩ (fun hHeld => ?_)
                              clear hK K
                              refine norm_ (a' := ?_) ?_ ?_
                              rotate_left
                              · show Act.put _ (some 70) _ = _
                                simp only [Act.put, List.setIfInBounds_toArray, List.set_cons_zero, List.set_cons_succ, i64_w, i32_w]
                                rfl
                              refine one_ (i := 8) (N := some 76) #[true, true, true, true, true, true, true, true, true, false] rfl rfl (one_of HT_.out (by kernel_rfl)) (by decide) (fun K hK => ?_)
                              refine goes_ Try.func29 (by kernel_rfl) rfl #[.slice Ao62 t179.length co62, .slice A56 y182.length c56] (by rfl) rfl rfl (by (try simp only [List.map_toArray, List.map_cons, List.map_nil]); first | done | rfl | (simp only [List.length_drop, List.length_take]; rfl)) ?_
                              with_reducible refine (batonref39_Same.calls kj17 _ _ t179 _ _ y182 true _ ?side1 ?side2 ?side3 ?side4 A53.out).mono ?_
                              (case side1 => repeat (first | exact (Kd.N_reads' HO181.out).2.2 | (with_reducible refine Kd.C_alloc ?_ _) | (with_reducible refine Kd.C_drewN ?_ _) | (with_reducible refine Kd.C_drew ?_)))
                              (case side2 => exact (Kd.N_reads' HO181.out).2.1)
                              (case side3 => repeat (first | exact (Kd.V_reads' HO186.out).2.2 | (with_reducible refine Kd.C_alloc ?_ _) | (with_reducible refine Kd.C_drewN ?_ _) | (with_reducible refine Kd.C_drew ?_)))
                              (case side4 => exact (Kd.V_reads' HO186.out).2.1)
                              rintro e w' ⟨rfl, ⟨nd, rfl⟩⟩
                              refine ⟨_, rfl, ?_⟩
                              refine hK.out _ _ ⟨(blk_cell BK171.out 0).trans rfl, (blk_cell BK171.out 1).trans rfl, (blk_cell BK171.out 2).trans rfl, (blk_cell BK171.out 3).trans rfl⟩ (fun hHeld => ?_)
                              clear hK K
                              refine norm_ (a' := ?_) ?_ ?_
                              rotate_left
                              · show Act.put _ (some 76) _ = _
                                simp only [Act.put, List.setIfInBounds_toArray, List.set_cons_zero, List.set_cons_succ, i64_w, i32_w]
                                rfl
                              refine pure_ (i := 9) (N := some 77) (v := ?_) (a' := ?_) #[true, true, true, true, true, true, true, true, true, true] rfl rfl (any_of HT_.out (by kernel_rfl)) (fun _ _ _ h => h) (Or.inl ⟨by rfl, ?_⟩) ?_ ?_
                              rotate_left
                              · intro w'
                                go_simp
                                with_reducible rfl
                              rotate_left
                              · simp only [Act.put, List.setIfInBounds_toArray, List.set_cons_zero, List.set_cons_succ, i64_w, i32_w]
                                rfl
                              refine done_ (done_of HT_.out (by kernel_rfl)) ?_
                              try go_wp2
                              go_loopg [12] kj17 (fun kq v12 w' => ∃ (x12_3 : Int) (x172003_3 : List Int) (u172003 : Value), v12 = .int .i64 x12_3 ∧ Aside0 (batonlaw39_BagPuts.l0 kq l0 t146 t149 y161 x12_3 t164 t165 t166 x172003_3 = some r) ∧ Aside0 (kq ≤ kj17) ∧ Aside0 (Kd.N k108 108 w' w.heap.size (fun k_ => some k_ ≠ ((.slice Ao28 t149.length co28) : Value).ownBlock ∧ some k_ ≠ ((.slice Ao57 y161.length co57) : Value).ownBlock ∧ some k_ ≠ (u172003 : Value).ownBlock ∧ k_ ≠ gb171) (.slice Ao24 t146.length co24) t146) ∧ Aside0 (Kd.N k50 50 w' w.heap.size (fun k_ => some k_ ≠ ((.slice Ao24 t146.length co24) : Value).ownBlock ∧ some k_ ≠ ((.slice Ao57 y161.length co57) : Value).ownBlock ∧ some k_ ≠ (u172003 : Value).ownBlock ∧ k_ ≠ gb171) (.slice Ao28 t149.length co28) t149) ∧ Aside0 (Kd.N k108 108 w' w.heap.size (fun k_ => some k_ ≠ ((.slice Ao28 t149.length co28) : Value).ownBlock ∧ some k_ ≠ (u172003 : Value).ownBlock ∧ k_ ≠ gb171) (.slice Ao57 y161.length co57) y161) ∧ Aside0 (Kd.R (Kd.int .u8) 5 w' w.heap.size (fun _ => True) u172003 x172003_3) ∧ Aside0 (w'.heap[gb171]? = some (.cells #[.int .i64 t164, .int .i64 t165, .int .i64 t166, u172003] 50 (0, 0))) ∧ Aside0 (Below w.heap.size w w'))
                              case atStart => exact ⟨(0), (t167), (.slice Ao32 t167.length co32), (by first | rfl | (simp; done) | (simp [*]; done)), H', ⟨Nat.le_refl _⟩, ⟨by (with_reducible repeat (first | apply Kd.N_alloc | apply Kd.N_drewN | apply Kd.N_drew)); exact Kd.N_mono HO_7.out (fun _ hk => ⟨hk.1.1.1, ⟨hk.1.1.2.1, ⟨hk.1.1.2.2.1, hk.1.1.2.2.2⟩⟩⟩)⟩, ⟨by (with_reducible repeat (first | apply Kd.N_alloc | apply Kd.N_drewN | apply Kd.N_drew)); exact Kd.N_mono HO_8.out (fun _ hk => ⟨hk.1.1.1, ⟨hk.1.1.2.1, ⟨hk.1.1.2.2.1, hk.1.1.2.2.2⟩⟩⟩)⟩, ⟨by (with_reducible repeat (first | apply Kd.N_alloc | apply Kd.N_drewN | apply Kd.N_drew)); exact Kd.N_mono HO_9.out (fun _ hk => ⟨hk.1.1.1, ⟨hk.1.1.2.1, hk.1.1.2.2⟩⟩)⟩, ⟨by (with_reducible repeat (first | apply Kd.R_alloc | apply Kd.R_drewN | apply Kd.R_drew)); exact HO_172003.out⟩, ⟨by (with_reducible repeat (first | refine blk_drewN ?_ _ | refine blk_drew ?_ | refine blk_alloc ?_ _)); exact BK171.out⟩, ⟨by repeat (first | (with_reducible first | exact HB.out | apply below_alloc | apply pw_below_drewN | apply below_drew1 | refine below_set ?_ GE171.out) | exact HB.out)⟩⟩
                              case round =>
                                clear H'
                                try clear c1
                                try clear c2
                                try clear p2
                                try clear c3
                                try clear c4
                                try clear c5
                                try clear q5
                                try clear c6
                                try clear p6
                                try clear c9
                                try clear c11
                                try clear c14
                                try clear c16
                                try clear c24
                                try clear c25
                                try clear c26
                                try clear c27
                                try clear c28
                                try clear c29
                                try clear c35
                                try clear c36
                                try clear c36b0
                                try clear c46
                                try clear c47
                                try clear c49
                                try clear c49b0
                                try clear c49b1
                                try clear c51
                                try clear c51b0
                                try clear c51b1
                                try clear c52
                                try clear c52b0
                                try clear c52b1
                                try clear c54
                                try clear c56
                                try clear q56
                                try clear hcz31_0
                                try clear hcz31_1
                                try clear hcz31_2
                                try clear hcz31_3
                                try clear hfz31_0
                                try clear hfz31_1
                                try clear hfz31_2
                                try clear hfz31_3
                                try clear p2
                                try clear q056
                                try clear q56
                                obtain ⟨x12_3, x172003_3, u172003, rfl, HA, HK3, HO_7, HO_8, HO_9, HO_172003, BK171, HB⟩ := hrel
                                cases gk with
                                | zero => exact absurd HA.out (by simp [batonlaw39_BagPuts.l0])
                                | succ k3 =>
                                  have H := HA.out
                                  clear HA
                                  simp only [batonlaw39_BagPuts.l0] at H
                                  by_cases c63 : x12_3 < (x172003_3.length : Int)
                                  · rw [if_pos c63] at H
                                    have c63b0 : decide (x12_3 < (x172003_3.length : Int)) = true := decide_eq_true c63
                                    clear c63
                                    by_cases c64 : 0 ≤ x12_3
                                    · rw [if_pos c64] at H
                                      have c64b0 : decide (0 ≤ x12_3) = true := decide_eq_true c64
                                      clear c64
                                      obtain ⟨y188, hy188⟩ : ∃ y_ : List Int, y_ = (x172003_3.set (x12_3 : Int).toNat 7) := ⟨_, rfl⟩
                                      replace H : (batonlaw39_BagPuts.l0 k3 l0 t146 t149 y161 (wrap64 (x12_3 + 1)) t164 t165 t166 y188) = some r := by first | (rw [hy188]; with_reducible exact H) | (have H2_ := (Option.bind_some _ _).symm.trans H; rw [hy188]; with_reducible exact H2_) | (have H2_ := (Option.bind_some _ _).symm.trans H; with_reducible exact H2_) | with_reducible exact H | (rw [hy188]; exact H) | exact H
                                      have Ny188 := Aside0.mk hy188
                                      clear hy188
                                      have H' := Aside0.mk H
                                      clear H
                                      have hcz66_0 : wr.cell? ⟨gb171, 0, none⟩ = some (.int .i64 t164) := (blk_cell BK171.out 0).trans rfl
                                      have hcz66_1 : wr.cell? ⟨gb171, 1, none⟩ = some (.int .i64 t165) := (blk_cell BK171.out 1).trans rfl
                                      have hcz66_2 : wr.cell? ⟨gb171, 2, none⟩ = some (.int .i64 t166) := (blk_cell BK171.out 2).trans rfl
                                      have hcz66_3 : wr.cell? ⟨gb171, 3, none⟩ = some (u172003) := (blk_cell BK171.out 3).trans rfl
                                      have hfz66_0 := blk_frozen BK171.out 0
                                      have hfz66_1 := blk_frozen BK171.out 1
                                      have hfz66_2 := blk_frozen BK171.out 2
                                      have hfz66_3 := blk_frozen BK171.out 3
                                      obtain ⟨Ao67, co67, eo67⟩ := Kd.R_slice HO_172003.out
                                      subst eo67
                                      have p65 : 0 ≤ (x12_3 : Int) := of_decide_eq_true (by first | (with_reducible assumption) | assumption)
                                      have q65 : (x12_3 : Int) < ((x172003_3.length : Int) : Int) := of_decide_eq_true (by first | (with_reducible assumption) | assumption)
                                      obtain ⟨go65, co65, eo65, gb65, gl65, cl65, HG65⟩ := Kd.R_form HO_172003.out (by omega)
                                      (first | cases eo65 | (injection eo65 with ea_ en_ ec_; (first | subst ea_ | (injection ea_ with ea_; subst ea_)); subst ec_; clear en_))
                                      have GB65 := Aside0.mk gb65
                                      have GG65 := Aside0.mk HG65
                                      clear gb65 gl65 HG65
                                      obtain ⟨hx65_0, hf65_0⟩ := Kd.R_celln 0 HO_172003.out (x12_3 : Int) p65 q65
                                      replace p65 := eq_true p65
                                      replace q65 := eq_true q65
                                      have HP68 := Kd.R_putg HO_172003.out (x12_3 : Int) 7
                                      go_wp2_with (first | ((with_reducible refine gate_store (t := 5) (p := 88) rfl ?_); refine store_event (t := 5) (p := 88) (v := ?vo_w69) (w1 := (wr.setCell ⟨go65, (x12_3 : Int).toNat, none⟩ (.int .u8 7))) ?hg ?ho ?hn ?hr ?_; (case ho => rfl); (case hg => rfl); (case hn => rfl); (case hr => first | (go_simp; done) | (go_simp; rfl)); intro w69 hw; have hg : wr.grownBy w69 (some go65) := (by rw [hw]; exact HP68.2); have hp_ : Kd.R (Kd.int .u8) 5 w69 w.heap.size (fun _ => True) (.slice (some ⟨go65, 0, none⟩) x172003_3.length co67) y188 := (by rw [hw, Ny188.out]; exact HP68.1); clear HP68; have n0_ := Aside0.mk (Kd.N_afterv (v := (.slice (some ⟨go65, 0, none⟩) x172003_3.length co67)) (v1 := (.slice (some ⟨go65, 0, none⟩) x172003_3.length co67)) (ok := (fun k_ => some k_ ≠ (.slice Ao28 t149.length co28 : Value).ownBlock ∧ some k_ ≠ (.slice Ao57 y161.length co57 : Value).ownBlock ∧ k_ ≠ gb171)) (by (with_reducible repeat (first | apply Kd.N_alloc | apply Kd.N_drewN | apply Kd.N_drew)); exact Kd.N_mono HO_7.out (fun _ hk => ⟨⟨hk.1, ⟨hk.2.1, hk.2.2.2⟩⟩, hk.2.2.1⟩)) hg (.inl rfl)); have n1_ := Aside0.mk (Kd.N_afterv (v := (.slice (some ⟨go65, 0, none⟩) x172003_3.length co67)) (v1 := (.slice (some ⟨go65, 0, none⟩) x172003_3.length co67)) (ok := (fun k_ => some k_ ≠ (.slice Ao24 t146.length co24 : Value).ownBlock ∧ some k_ ≠ (.slice Ao57 y161.length co57 : Value).ownBlock ∧ k_ ≠ gb171)) (by (with_reducible repeat (first | apply Kd.N_alloc | apply Kd.N_drewN | apply Kd.N_drew)); exact Kd.N_mono HO_8.out (fun _ hk => ⟨⟨hk.1, ⟨hk.2.1, hk.2.2.2⟩⟩, hk.2.2.1⟩)) hg (.inl rfl)); have n2_ := Aside0.mk (Kd.N_afterv (v := (.slice (some ⟨go65, 0, none⟩) x172003_3.length co67)) (v1 := (.slice (some ⟨go65, 0, none⟩) x172003_3.length co67)) (ok := (fun k_ => some k_ ≠ (.slice Ao28 t149.length co28 : Value).ownBlock ∧ k_ ≠ gb171)) (by (with_reducible repeat (first | apply Kd.N_alloc | apply Kd.N_drewN | apply Kd.N_drew)); exact Kd.N_mono HO_9.out (fun _ hk => ⟨⟨hk.1, hk.2.2⟩, hk.2.1⟩)) hg (.inl rfl)); have n3_ := Aside0.mk (hp_); have n4_ := Aside0.mk (blk_grown (g := gb171) (o := .cells #[.int .i64 t164, .int .i64 t165, .int .i64 t166, .slice (some ⟨go65, 0, none⟩) x172003_3.length co67] 50 (0, 0)) (by (with_reducible repeat (first | refine blk_drewN ?_ _ | refine blk_drew ?_ | refine blk_alloc ?_ _)); exact BK171.out) hg (Kd.R_ne HO_172003.out BK171.out (by decide))); have n5_ := Aside0.mk ((by rw [hw]; exact below_set (HB.out) GB65.out : Below w.heap.size w w69)); clear HO_7; clear HO_8; clear HO_9; clear HO_172003; clear BK171; clear HB; have HO_7 := n0_; have HO_8 := n1_; have HO_9 := n2_; have HO_172003 := n3_; have BK171 := n4_; have HB := n5_; clear n0_ n1_ n2_ n3_ n4_ n5_; clear hg hw hp_))
                                      go_roundg k3
                                      case measure => have := HJ5.out; have := HJ17.out; have := HK3.out; omega
                                      case rel => exact ⟨(wrap64 (x12_3 + 1)), (y188), (.slice (some ⟨go65, 0, none⟩) x172003_3.length co67), (by first | rfl | (simp; done) | (simp [*]; done)), H', ⟨by have := HJ5.out; have := HJ17.out; have := HK3.out; omega⟩, ⟨by (with_reducible repeat (first | apply Kd.N_alloc | apply Kd.N_drewN | apply Kd.N_drew)); exact Kd.N_mono HO_7.out (fun _ hk => ⟨hk.1.1, ⟨hk.1.2.1, ⟨hk.2, hk.1.2.2⟩⟩⟩)⟩, ⟨by (with_reducible repeat (first | apply Kd.N_alloc | apply Kd.N_drewN | apply Kd.N_drew)); exact Kd.N_mono HO_8.out (fun _ hk => ⟨hk.1.1, ⟨hk.1.2.1, ⟨hk.2, hk.1.2.2⟩⟩⟩)⟩, ⟨by (with_reducible repeat (first | apply Kd.N_alloc | apply Kd.N_drewN | apply Kd.N_drew)); exact Kd.N_mono HO_9.out (fun _ hk => ⟨hk.1.1, ⟨hk.2, hk.1.2⟩⟩)⟩, ⟨by (with_reducible repeat (first | apply Kd.R_alloc | apply Kd.R_drewN | apply Kd.R_drew)); exact HO_172003.out⟩, ⟨by (with_reducible repeat (first | refine blk_drewN ?_ _ | refine blk_drew ?_ | refine blk_alloc ?_ _)); exact BK171.out⟩, ⟨by repeat (first | (with_reducible first | exact HB.out | apply below_alloc | apply pw_below_drewN | apply below_drew1 | refine below_set ?_ GE171.out) | exact HB.out)⟩⟩
                                    · rw [if_neg c64] at H
                                      exact absurd H (by simp)
                                  · rw [if_neg c63] at H
                                    have c63b0 : decide (x12_3 < (x172003_3.length : Int)) = false := decide_eq_false c63
                                    clear c63
                                    obtain ⟨y189, hy189⟩ : ∃ y_ : List (S50), y_ = (([(⟨t164, t165, t166, x172003_3⟩ : S50)] : List (S50))) := ⟨_, rfl⟩
                                    replace H : ((bag_Put.f k3 t149 y189).bind fun t192 => ((batonlaw39_Ref.f k3 t149).bind fun t195 => ((batonref39_Same.f k3 t195 y161).bind fun t198 => (if t198 = true then ((batonlaw39_Ref.f k3 l0).bind fun t199 => ((batonref39_Same.f k3 t199 t146).bind fun t202 => (some t202))) else (some false))))) = some r := by first | (rw [hy189]; with_reducible exact H) | (have H2_ := (Option.bind_some _ _).symm.trans H; rw [hy189]; with_reducible exact H2_) | (have H2_ := (Option.bind_some _ _).symm.trans H; with_reducible exact H2_) | with_reducible exact H | (rw [hy189]; exact H) | exact H
                                    have Ny189 := Aside0.mk hy189
                                    clear hy189
                                    replace H := Option.bind_eq_some_iff.mp H
                                    obtain ⟨t192, A700, H⟩ := H
                                    replace H : ((batonlaw39_Ref.f k3 t149).bind fun t195 => ((batonref39_Same.f k3 t195 y161).bind fun t198 => (if t198 = true then ((batonlaw39_Ref.f k3 l0).bind fun t199 => ((batonref39_Same.f k3 t199 t146).bind fun t202 => (some t202))) else (some false)))) = some r := H
                                    have A70 := Aside0.mk A700
                                    clear A700
                                    replace H := Option.bind_eq_some_iff.mp H
                                    obtain ⟨t195, A710, H⟩ := H
                                    replace H : ((batonref39_Same.f k3 t195 y161).bind fun t198 => (if t198 = true then ((batonlaw39_Ref.f k3 l0).bind fun t199 => ((batonref39_Same.f k3 t199 t146).bind fun t202 => (some t202))) else (some false))) = some r := H
                                    have A71 := Aside0.mk A710
                                    clear A710
                                    replace H := Option.bind_eq_some_iff.mp H
                                    obtain ⟨t198, A720, H⟩ := H
                                    replace H : (if t198 = true then ((batonlaw39_Ref.f k3 l0).bind fun t199 => ((batonref39_Same.f k3 t199 t146).bind fun t202 => (some t202))) else (some false)) = some r := H
                                    have A72 := Aside0.mk A720
                                    clear A720
                                    by_cases c73 : t198 = true
                                    · subst c73
                                      have H1 : ((batonlaw39_Ref.f k3 l0).bind fun t199 => ((batonref39_Same.f k3 t199 t146).bind fun t202 => (some t202))) = some r := by rw [if_pos rfl] at H; exact H
                                      clear H
                                      have H := H1
                                      clear H1
                                      replace H := Option.bind_eq_some_iff.mp H
                                      obtain ⟨t199, A740, H⟩ := H
                                      replace H : ((batonref39_Same.f k3 t199 t146).bind fun t202 => (some t202)) = some r := H
                                      have A74 := Aside0.mk A740
                                      clear A740
                                      replace H := Option.bind_eq_some_iff.mp H
                                      obtain ⟨t202, A750, H⟩ := H
                                      replace H : (some t202) = some r := H
                                      have A75 := Aside0.mk A750
                                      clear A750
                                      obtain rfl := Option.some.inj H
                                      have hcz76_0 : wr.cell? ⟨gb171, 0, none⟩ = some (.int .i64 t164) := (blk_cell BK171.out 0).trans rfl
                                      have hcz76_1 : wr.cell? ⟨gb171, 1, none⟩ = some (.int .i64 t165) := (blk_cell BK171.out 1).trans rfl
                                      have hcz76_2 : wr.cell? ⟨gb171, 2, none⟩ = some (.int .i64 t166) := (blk_cell BK171.out 2).trans rfl
                                      have hcz76_3 : wr.cell? ⟨gb171, 3, none⟩ = some (u172003) := (blk_cell BK171.out 3).trans rfl
                                      have hfz76_0 := blk_frozen BK171.out 0
                                      have hfz76_1 := blk_frozen BK171.out 1
                                      have hfz76_2 := blk_frozen BK171.out 2
                                      have hfz76_3 := blk_frozen BK171.out 3
                                      obtain ⟨Ao77, co77, eo77⟩ := Kd.R_slice HO_172003.out
                                      subst eo77
                                      go_wp2_with (first | ((with_reducible refine gate_dst (N := 91) rfl ?_); (try (refine gate_guard (by rfl) ?_; dsimp only)); refine Kd.N_lit k50 _ 50 ?hg (N' := 91) ?hd (xs := ([(⟨t164, t165, t166, x172003_3⟩ : S50)] : List (S50))) (inner := [.int .i64 t164, .int .i64 t165, .int .i64 t166, .slice Ao77 x172003_3.length co77]) (ok := (fun k_ => some k_ ≠ (.slice Ao24 t146.length co24 : Value).ownBlock ∧ some k_ ≠ (.slice Ao28 t149.length co28 : Value).ownBlock ∧ some k_ ≠ (.slice Ao57 y161.length co57 : Value).ownBlock ∧ k_ ≠ gb171)) (okp := (fun k_ => some k_ ≠ (.slice Ao24 t146.length co24 : Value).ownBlock ∧ some k_ ≠ (.slice Ao28 t149.length co28 : Value).ownBlock ∧ some k_ ≠ (.slice Ao57 y161.length co57 : Value).ownBlock ∧ k_ ≠ gb171)) ?hr ?hp (fun _ hk => hk) ((show ∀ k_, wr.heap.size ≤ k_ → (fun k_ => some k_ ≠ (.slice Ao24 t146.length co24 : Value).ownBlock ∧ some k_ ≠ (.slice Ao28 t149.length co28 : Value).ownBlock ∧ some k_ ≠ (.slice Ao57 y161.length co57 : Value).ownBlock ∧ k_ ≠ gb171) k_ from fun k_ hk => ⟨Kd.fresh' (Kd.N_lt (by (with_reducible repeat (first | apply Kd.N_alloc | apply Kd.N_drewN | apply Kd.N_drew)); exact HO_7.out)) k_ hk, Kd.fresh' (Kd.N_lt (by (with_reducible repeat (first | apply Kd.N_alloc | apply Kd.N_drewN | apply Kd.N_drew)); exact HO_8.out)) k_ hk, Kd.fresh' (Kd.N_lt (by (with_reducible repeat (first | apply Kd.N_alloc | apply Kd.N_drewN | apply Kd.N_drew)); exact HO_9.out)) k_ hk, Kd.freshB (g := gb171) (o := .cells #[.int .i64 t164, .int .i64 t165, .int .i64 t166, .slice Ao77 x172003_3.length co77] 50 (0, 0)) (by (with_reducible repeat (first | refine blk_drewN ?_ _ | refine blk_drew ?_ | refine blk_alloc ?_ _)); exact BK171.out) k_ hk⟩) _ (Nat.le_refl _)) (Below.refl _ _) (Nat.le_refl _) (by simp) ?_; (case hd => rfl); (case hg => rfl); (case hr => first | (go_simp; done) | (go_simp; rfl)); (case hp => exact (Reps.c4 (show Kd.FK k50 _ _ (⟨t164, t165, t166, x172003_3⟩ : S50) [.int .i64 t164, .int .i64 t165, .int .i64 t166, .slice Ao77 x172003_3.length co77] from (k50_mkF _ _ (⟨t164, t165, t166, x172003_3⟩ : S50) (Kd.R_reads' (Kd.R_mono (ok' := (fun k_ => some k_ ≠ (.slice Ao24 t146.length co24 : Value).ownBlock ∧ some k_ ≠ (.slice Ao28 t149.length co28 : Value).ownBlock ∧ some k_ ≠ (.slice Ao57 y161.length co57 : Value).ownBlock ∧ k_ ≠ gb171)) (Kd.R_types (Kd.R_apart' (Kd.R_apart' (Kd.R_apart' (HO_172003.out) (Kd.N_typed HO_7.out) (by decide)) (Kd.N_typed HO_8.out) (by decide)) (Kd.N_typed HO_9.out) (by decide)) BK171.out (by decide)) (fun k_ hk => ⟨hk.1.1.1.2, ⟨hk.1.1.2, ⟨hk.1.2, hk.2⟩⟩⟩))).2.1 (Kd.R_F (Kd.R_mono (ok' := (fun k_ => some k_ ≠ (.slice Ao24 t146.length co24 : Value).ownBlock ∧ some k_ ≠ (.slice Ao28 t149.length co28 : Value).ownBlock ∧ some k_ ≠ (.slice Ao57 y161.length co57 : Value).ownBlock ∧ k_ ≠ gb171)) (Kd.R_types (Kd.R_apart' (Kd.R_apart' (Kd.R_apart' (HO_172003.out) (Kd.N_typed HO_7.out) (by decide)) (Kd.N_typed HO_8.out) (by decide)) (Kd.N_typed HO_9.out) (by decide)) BK171.out (by decide)) (fun k_ hk => ⟨hk.1.1.1.2, ⟨hk.1.1.2, ⟨hk.1.2, hk.2⟩⟩⟩))))) (Reps.none _ _))); intro v190 w78 ho79 hb hg_ hnew_; clear hg_ hnew_; (first | rw [← Ny189.out] at ho79 | (simp only [Int.reduceToNat] at ho79; rw [← Ny189.out] at ho79)); have n0_ := Aside0.mk (Kd.N_elder' (by (with_reducible repeat (first | apply Kd.N_alloc | apply Kd.N_drewN | apply Kd.N_drew)); exact HO_7.out) (Kd.N_base ho79) hb); have n1_ := Aside0.mk (Kd.N_elder' (by (with_reducible repeat (first | apply Kd.N_alloc | apply Kd.N_drewN | apply Kd.N_drew)); exact HO_8.out) (Kd.N_base ho79) hb); have n2_ := Aside0.mk (Kd.N_elder' (by (with_reducible repeat (first | apply Kd.N_alloc | apply Kd.N_drewN | apply Kd.N_drew)); exact HO_9.out) (Kd.N_base ho79) hb); have n3_ := Aside0.mk (Kd.N_lower ho79 (below_size (by repeat (first | (with_reducible first | exact HB.out | apply below_alloc | apply pw_below_drewN | apply below_drew1 | refine below_set ?_ GE171.out) | exact HB.out)))); have n4_ := Aside0.mk (blk_below (g := gb171) (o := .cells #[.int .i64 t164, .int .i64 t165, .int .i64 t166, .slice Ao77 x172003_3.length co77] 50 (0, 0)) (by (with_reducible repeat (first | refine blk_drewN ?_ _ | refine blk_drew ?_ | refine blk_alloc ?_ _)); exact BK171.out) hb); have n5_ := Aside0.mk (below_step (by repeat (first | (with_reducible first | exact HB.out | apply below_alloc | apply pw_below_drewN | apply below_drew1 | refine below_set ?_ GE171.out) | exact HB.out)) hb); clear HO_7; clear HO_8; clear HO_9; clear BK171; clear HB; clear HO_172003; have HO_7 := n0_; have HO_8 := n1_; have HO_9 := n2_; have HO191 := n3_; have BK171 := n4_; have HB := n5_; clear n0_ n1_ n2_ n3_ n4_ n5_; clear hb ho79; obtain ⟨Ao80, co80, eo80⟩ := Kd.N_slice HO191.out; subst eo80) | ((with_reducible refine gate_callee (f := 27) rfl ?_); refine goesL_ (some 92) rfl rfl Try.func27 (by kernel_rfl) rfl #[.slice Ao28 t149.length co28, .slice Ao80 y189.length co80] rfl (by (try simp only [List.map_toArray, List.map_cons, List.map_nil]); first | done | rfl | (simp only [List.length_drop, List.length_take]; rfl)) ?_; (with_reducible refine (bag_Put.calls k3 (fun k_ => ((some k_ ≠ (.slice Ao24 t146.length co24 : Value).ownBlock ∧ (some k_ ≠ (.slice Ao57 y161.length co57 : Value).ownBlock ∧ k_ ≠ gb171)) ∧ some k_ ≠ (.slice Ao80 y189.length co80 : Value).ownBlock)) _ _ t149 _ _ y189 t192 _ ?side1 ?side2 ?side3 A70.out).mono ?_); (case side1 => exact Kd.N_V ((Kd.N_mono HO_8.out (fun k_ h_ => ⟨⟨h_.1.1, ⟨h_.1.2.1, h_.1.2.2.2⟩⟩, h_.2⟩)))); (case side2 => repeat (first | exact (Kd.N_reads' HO191.out).2.2 | (with_reducible refine Kd.C_alloc ?_ _) | (with_reducible refine Kd.C_drewN ?_ _) | (with_reducible refine Kd.C_drew ?_))); (case side3 => exact (Kd.N_reads' HO191.out).2.1); rintro e w81 ⟨v193, rfl, ho0, hb⟩; refine ⟨_, rfl, ?_⟩; have n0_ := Aside0.mk (Kd.N_elder' (by (with_reducible repeat (first | apply Kd.N_alloc | apply Kd.N_drewN | apply Kd.N_drew)); exact HO_7.out) (Kd.N_base ho0) hb); have n1_ := Aside0.mk (Kd.N_elder' (by (with_reducible repeat (first | apply Kd.N_alloc | apply Kd.N_drewN | apply Kd.N_drew)); exact HO_8.out) (Kd.N_base ho0) hb); have n2_ := Aside0.mk (Kd.N_elder' (by (with_reducible repeat (first | apply Kd.N_alloc | apply Kd.N_drewN | apply Kd.N_drew)); exact HO_9.out) (Kd.N_base ho0) hb); have n3_ := Aside0.mk (Kd.N_elder' (by (with_reducible repeat (first | apply Kd.N_alloc | apply Kd.N_drewN | apply Kd.N_drew)); exact HO191.out) (Kd.N_base ho0) hb); have n4_ := Aside0.mk (Kd.N_lower (Kd.N_mono (ok' := fun k_ => some k_ ≠ (.slice Ao24 t146.length co24 : Value).ownBlock ∧ some k_ ≠ (.slice Ao57 y161.length co57 : Value).ownBlock ∧ some k_ ≠ (.slice Ao80 y189.length co80 : Value).ownBlock ∧ k_ ≠ gb171) ho0 (fun k_ hk_ => ⟨Or.elim hk_ (fun hs_ => hs_.1.1) (fun hn_ => (Kd.fresh' (Kd.N_lt (by (with_reducible repeat (first | apply Kd.N_alloc | apply Kd.N_drewN | apply Kd.N_drew)); exact HO_7.out)) k_ hn_)), Or.elim hk_ (fun hs_ => hs_.1.2.1) (fun hn_ => (Kd.fresh' (Kd.N_lt (by (with_reducible repeat (first | apply Kd.N_alloc | apply Kd.N_drewN | apply Kd.N_drew)); exact HO_9.out)) k_ hn_)), Or.elim hk_ (fun hs_ => hs_.2) (fun hn_ => (Kd.fresh' (Kd.N_lt (by (with_reducible repeat (first | apply Kd.N_alloc | apply Kd.N_drewN | apply Kd.N_drew)); exact HO191.out)) k_ hn_)), Or.elim hk_ (fun hs_ => hs_.1.2.2) (fun hn_ => (Kd.freshB (g := gb171) (o := .cells #[.int .i64 t164, .int .i64 t165, .int .i64 t166, .slice Ao77 x172003_3.length co77] 50 (0, 0)) (by (with_reducible repeat (first | refine blk_drewN ?_ _ | refine blk_drew ?_ | refine blk_alloc ?_ _)); exact BK171.out) k_ hn_))⟩)) (below_size (by repeat (first | (with_reducible first | exact HB.out | apply below_alloc | apply pw_below_drewN | apply below_drew1 | refine below_set ?_ GE171.out) | exact HB.out)))); have n5_ := Aside0.mk (blk_below (g := gb171) (o := .cells #[.int .i64 t164, .int .i64 t165, .int .i64 t166, .slice Ao77 x172003_3.length co77] 50 (0, 0)) (by (with_reducible repeat (first | refine blk_drewN ?_ _ | refine blk_drew ?_ | refine blk_alloc ?_ _)); exact BK171.out) hb); have n6_ := Aside0.mk (below_step (by repeat (first | (with_reducible first | exact HB.out | apply below_alloc | apply pw_below_drewN | apply below_drew1 | refine below_set ?_ GE171.out) | exact HB.out)) hb); clear HO_7; clear HO_8; clear HO_9; clear HO191; clear BK171; clear HB; have HO_7 := n0_; have HO_8 := n1_; have HO_9 := n2_; have HO191 := n3_; have HO194 := n4_; have BK171 := n5_; have HB := n6_; clear n0_ n1_ n2_ n3_ n4_ n5_ n6_; (try clear hb); (try clear hb2); (try clear hk); (try clear hi); (try clear ho0)) | ((with_reducible refine gate_callee (f := 26) rfl ?_); refine goesL_ (some 94) rfl rfl Try.func26 (by kernel_rfl) rfl #[.slice Ao28 t149.length co28] rfl (by (try simp only [List.map_toArray, List.map_cons, List.map_nil]); first | done | rfl | (simp only [List.length_drop, List.length_take]; rfl)) ?_; (with_reducible refine (batonlaw39_Ref.calls k3 (fun k_ => (((some k_ ≠ (.slice Ao24 t146.length co24 : Value).ownBlock ∧ (some k_ ≠ (.slice Ao57 y161.length co57 : Value).ownBlock ∧ k_ ≠ gb171)) ∧ some k_ ≠ (.slice Ao80 y189.length co80 : Value).ownBlock) ∧ some k_ ≠ (v193 : Value).ownBlock)) _ _ t149 t195 _ ?side1 A71.out).mono ?_); (case side1 => exact Kd.N_V ((Kd.N_mono HO_8.out (fun k_ h_ => ⟨⟨⟨h_.1.1.1, ⟨h_.1.1.2.1, h_.1.1.2.2.2⟩⟩, h_.1.2⟩, h_.2⟩)))); rintro e w82 ⟨v196, rfl, ho0, hb⟩; refine ⟨_, rfl, ?_⟩; have n0_ := Aside0.mk (Kd.N_elder' (by (with_reducible repeat (first | apply Kd.N_alloc | apply Kd.N_drewN | apply Kd.N_drew)); exact HO_7.out) (Kd.N_base ho0) hb); have n1_ := Aside0.mk (Kd.N_elder' (by (with_reducible repeat (first | apply Kd.N_alloc | apply Kd.N_drewN | apply Kd.N_drew)); exact HO_8.out) (Kd.N_base ho0) hb); have n2_ := Aside0.mk (Kd.N_elder' (by (with_reducible repeat (first | apply Kd.N_alloc | apply Kd.N_drewN | apply Kd.N_drew)); exact HO_9.out) (Kd.N_base ho0) hb); have n3_ := Aside0.mk (Kd.N_elder' (by (with_reducible repeat (first | apply Kd.N_alloc | apply Kd.N_drewN | apply Kd.N_drew)); exact HO191.out) (Kd.N_base ho0) hb); have n4_ := Aside0.mk (Kd.N_elder' (by (with_reducible repeat (first | apply Kd.N_alloc | apply Kd.N_drewN | apply Kd.N_drew)); exact HO194.out) (Kd.N_base ho0) hb); have n5_ := Aside0.mk (Kd.N_lower (Kd.N_mono (ok' := fun k_ => some k_ ≠ (.slice Ao24 t146.length co24 : Value).ownBlock ∧ some k_ ≠ (.slice Ao57 y161.length co57 : Value).ownBlock ∧ some k_ ≠ (.slice Ao80 y189.length co80 : Value).ownBlock ∧ some k_ ≠ (v193 : Value).ownBlock ∧ k_ ≠ gb171) ho0 (fun k_ hk_ => ⟨Or.elim hk_ (fun hs_ => hs_.1.1.1) (fun hn_ => (Kd.fresh' (Kd.N_lt (by (with_reducible repeat (first | apply Kd.N_alloc | apply Kd.N_drewN | apply Kd.N_drew)); exact HO_7.out)) k_ hn_)), Or.elim hk_ (fun hs_ => hs_.1.1.2.1) (fun hn_ => (Kd.fresh' (Kd.N_lt (by (with_reducible repeat (first | apply Kd.N_alloc | apply Kd.N_drewN | apply Kd.N_drew)); exact HO_9.out)) k_ hn_)), Or.elim hk_ (fun hs_ => hs_.1.2) (fun hn_ => (Kd.fresh' (Kd.N_lt (by (with_reducible repeat (first | apply Kd.N_alloc | apply Kd.N_drewN | apply Kd.N_drew)); exact HO191.out)) k_ hn_)), Or.elim hk_ (fun hs_ => hs_.2) (fun hn_ => (Kd.fresh' (Kd.N_lt (by (with_reducible repeat (first | apply Kd.N_alloc | apply Kd.N_drewN | apply Kd.N_drew)); exact HO194.out)) k_ hn_)), Or.elim hk_ (fun hs_ => hs_.1.1.2.2) (fun hn_ => (Kd.freshB (g := gb171) (o := .cells #[.int .i64 t164, .int .i64 t165, .int .i64 t166, .slice Ao77 x172003_3.length co77] 50 (0, 0)) (by (with_reducible repeat (first | refine blk_drewN ?_ _ | refine blk_drew ?_ | refine blk_alloc ?_ _)); exact BK171.out) k_ hn_))⟩)) (below_size (by repeat (first | (with_reducible first | exact HB.out | apply below_alloc | apply pw_below_drewN | apply below_drew1 | refine below_set ?_ GE171.out) | exact HB.out)))); have n6_ := Aside0.mk (blk_below (g := gb171) (o := .cells #[.int .i64 t164, .int .i64 t165, .int .i64 t166, .slice Ao77 x172003_3.length co77] 50 (0, 0)) (by (with_reducible repeat (first | refine blk_drewN ?_ _ | refine blk_drew ?_ | refine blk_alloc ?_ _)); exact BK171.out) hb); have n7_ := Aside0.mk (below_step (by repeat (first | (with_reducible first | exact HB.out | apply below_alloc | apply pw_below_drewN | apply below_drew1 | refine below_set ?_ GE171.out) | exact HB.out)) hb); clear HO_7; clear HO_8; clear HO_9; clear HO191; clear HO194; clear BK171; clear HB; have HO_7 := n0_; have HO_8 := n1_; have HO_9 := n2_; have HO191 := n3_; have HO194 := n4_; have HO197 := n5_; have BK171 := n6_; have HB := n7_; clear n0_ n1_ n2_ n3_ n4_ n5_ n6_ n7_; (try clear hb); (try clear hb2); (try clear hk); (try clear hi); (try clear ho0); obtain ⟨Ao83, co83, eo83⟩ := Kd.N_slice HO197.out; subst eo83) | ((with_reducible refine gate_callee (f := 29) rfl ?_); refine goesL_ (some 96) rfl rfl Try.func29 (by kernel_rfl) rfl #[.slice Ao83 t195.length co83, .slice Ao57 y161.length co57] rfl (by (try simp only [List.map_toArray, List.map_cons, List.map_nil]); first | done | rfl | (simp only [List.length_drop, List.length_take]; rfl)) ?_; (with_reducible refine (batonref39_Same.calls k3 _ _ t195 _ _ y161 true _ ?side1 ?side2 ?side3 ?side4 A72.out).mono ?_); (case side1 => repeat (first | exact (Kd.N_reads' HO197.out).2.2 | (with_reducible refine Kd.C_alloc ?_ _) | (with_reducible refine Kd.C_drewN ?_ _) | (with_reducible refine Kd.C_drew ?_))); (case side2 => exact (Kd.N_reads' HO197.out).2.1); (case side3 => repeat (first | exact (Kd.N_reads' HO_9.out).2.2 | (with_reducible refine Kd.C_alloc ?_ _) | (with_reducible refine Kd.C_drewN ?_ _) | (with_reducible refine Kd.C_drew ?_))); (case side4 => exact (Kd.N_reads' HO_9.out).2.1); rintro e w' ⟨rfl, ⟨nd, rfl⟩⟩; refine ⟨_, rfl, ?_⟩) | (go_at_call 26; (with_reducible refine (batonlaw39_Ref.calls k3 (fun k_ => k_ < w.heap.size) _ _ l0 t199 _ ?side1 A74.out).mono ?_); (case side1 => exact Kd.V_mk HC0.out (Kd.F_below (Kd.C_F k50_heap HR0.out) (by repeat (first | (with_reducible first | exact HB.out | apply below_alloc | apply pw_below_drewN | apply below_drew1 | refine below_set ?_ GE171.out) | exact HB.out)))); rintro e w84 ⟨v200, rfl, ho0, hb⟩; have n0_ := Aside0.mk (Kd.N_elder' (by (with_reducible repeat (first | apply Kd.N_alloc | apply Kd.N_drewN | apply Kd.N_drew)); exact HO_7.out) (Kd.N_base ho0) hb); have n1_ := Aside0.mk (Kd.N_elder' (by (with_reducible repeat (first | apply Kd.N_alloc | apply Kd.N_drewN | apply Kd.N_drew)); exact HO_8.out) (Kd.N_base ho0) hb); have n2_ := Aside0.mk (Kd.N_elder' (by (with_reducible repeat (first | apply Kd.N_alloc | apply Kd.N_drewN | apply Kd.N_drew)); exact HO_9.out) (Kd.N_base ho0) hb); have n3_ := Aside0.mk (Kd.N_elder' (by (with_reducible repeat (first | apply Kd.N_alloc | apply Kd.N_drewN | apply Kd.N_drew)); exact HO191.out) (Kd.N_base ho0) hb); have n4_ := Aside0.mk (Kd.N_elder' (by (with_reducible repeat (first | apply Kd.N_alloc | apply Kd.N_drewN | apply Kd.N_drew)); exact HO194.out) (Kd.N_base ho0) hb); have n5_ := Aside0.mk (Kd.N_elder' (by (with_reducible repeat (first | apply Kd.N_alloc | apply Kd.N_drewN | apply Kd.N_drew)); exact HO197.out) (Kd.N_base ho0) hb); have n6_ := Aside0.mk (Kd.N_lower (Kd.N_mono (ok' := fun k_ => some k_ ≠ (.slice Ao24 t146.length co24 : Value).ownBlock ∧ some k_ ≠ (.slice Ao28 t149.length co28 : Value).ownBlock ∧ some k_ ≠ (.slice Ao57 y161.length co57 : Value).ownBlock ∧ some k_ ≠ (.slice Ao80 y189.length co80 : Value).ownBlock ∧ some k_ ≠ (v193 : Value).ownBlock ∧ some k_ ≠ (.slice Ao83 t195.length co83 : Value).ownBlock ∧ k_ ≠ gb171) ho0 (fun k_ hk_ => ⟨Or.elim hk_ (fun hs_ => fun e_ => Nat.not_le.2 hs_ (Kd.N_base HO_7.out k_ e_.symm)) (fun hn_ => (Kd.fresh' (Kd.N_lt (by (with_reducible repeat (first | apply Kd.N_alloc | apply Kd.N_drewN | apply Kd.N_drew)); exact HO_7.out)) k_ hn_)), Or.elim hk_ (fun hs_ => fun e_ => Nat.not_le.2 hs_ (Kd.N_base HO_8.out k_ e_.symm)) (fun hn_ => (Kd.fresh' (Kd.N_lt (by (with_reducible repeat (first | apply Kd.N_alloc | apply Kd.N_drewN | apply Kd.N_drew)); exact HO_8.out)) k_ hn_)), Or.elim hk_ (fun hs_ => fun e_ => Nat.not_le.2 hs_ (Kd.N_base HO_9.out k_ e_.symm)) (fun hn_ => (Kd.fresh' (Kd.N_lt (by (with_reducible repeat (first | apply Kd.N_alloc | apply Kd.N_drewN | apply Kd.N_drew)); exact HO_9.out)) k_ hn_)), Or.elim hk_ (fun hs_ => fun e_ => Nat.not_le.2 hs_ (Kd.N_base HO191.out k_ e_.symm)) (fun hn_ => (Kd.fresh' (Kd.N_lt (by (with_reducible repeat (first | apply Kd.N_alloc | apply Kd.N_drewN | apply Kd.N_drew)); exact HO191.out)) k_ hn_)), Or.elim hk_ (fun hs_ => fun e_ => Nat.not_le.2 hs_ (Kd.N_base HO194.out k_ e_.symm)) (fun hn_ => (Kd.fresh' (Kd.N_lt (by (with_reducible repeat (first | apply Kd.N_alloc | apply Kd.N_drewN | apply Kd.N_drew)); exact HO194.out)) k_ hn_)), Or.elim hk_ (fun hs_ => fun e_ => Nat.not_le.2 hs_ (Kd.N_base HO197.out k_ e_.symm)) (fun hn_ => (Kd.fresh' (Kd.N_lt (by (with_reducible repeat (first | apply Kd.N_alloc | apply Kd.N_drewN | apply Kd.N_drew)); exact HO197.out)) k_ hn_)), Or.elim hk_ (fun hs_ => fun e_ => Nat.not_le.2 hs_ (by rw [e_]; exact GW171.out)) (fun hn_ => (Kd.freshB (g := gb171) (o := .cells #[.int .i64 t164, .int .i64 t165, .int .i64 t166, .slice Ao77 x172003_3.length co77] 50 (0, 0)) (by (with_reducible repeat (first | refine blk_drewN ?_ _ | refine blk_drew ?_ | refine blk_alloc ?_ _)); exact BK171.out) k_ hn_))⟩)) (below_size (by repeat (first | (with_reducible first | exact HB.out | apply below_alloc | apply pw_below_drewN | apply below_drew1 | refine below_set ?_ GE171.out) | exact HB.out)))); have n7_ := Aside0.mk (blk_below (g := gb171) (o := .cells #[.int .i64 t164, .int .i64 t165, .int .i64 t166, .slice Ao77 x172003_3.length co77] 50 (0, 0)) (by (with_reducible repeat (first | refine blk_drewN ?_ _ | refine blk_drew ?_ | refine blk_alloc ?_ _)); exact BK171.out) hb); have n8_ := Aside0.mk (below_step (by repeat (first | (with_reducible first | exact HB.out | apply below_alloc | apply pw_below_drewN | apply below_drew1 | refine below_set ?_ GE171.out) | exact HB.out)) hb); clear HO_7; clear HO_8; clear HO_9; clear HO191; clear HO194; clear HO197; clear BK171; clear HB; have HO_7 := n0_; have HO_8 := n1_; have HO_9 := n2_; have HO191 := n3_; have HO194 := n4_; have HO197 := n5_; have HO201 := n6_; have BK171 := n7_; have HB := n8_; clear n0_ n1_ n2_ n3_ n4_ n5_ n6_ n7_ n8_; (try clear hb); (try clear hb2); (try clear hk); (try clear hi); (try clear ho0); obtain ⟨Ao85, co85, eo85⟩ := Kd.N_slice HO201.out; subst eo85) | (go_at_call 29; (with_reducible refine (batonref39_Same.calls k3 _ _ t199 _ _ t146 t202 _ ?side1 ?side2 ?side3 ?side4 A75.out).mono ?_); (case side1 => repeat (first | exact (Kd.N_reads' HO201.out).2.2 | (with_reducible refine Kd.C_alloc ?_ _) | (with_reducible refine Kd.C_drewN ?_ _) | (with_reducible refine Kd.C_drew ?_))); (case side2 => exact (Kd.N_reads' HO201.out).2.1); (case side3 => repeat (first | exact (Kd.N_reads' HO_7.out).2.2 | (with_reducible refine Kd.C_alloc ?_ _) | (with_reducible refine Kd.C_drewN ?_ _) | (with_reducible refine Kd.C_drew ?_))); (case side4 => exact (Kd.N_reads' HO_7.out).2.1); rintro e w' ⟨rfl, ⟨nd, rfl⟩⟩))
                                      go_ret
                                      exact ⟨by first | rfl | (simp [errW_none, errW_some] <;> rfl) | (simp only [← hji50]; first | rfl | (simp [errW_none, errW_some] <;> rfl)) | (simp [*, errW_none, errW_some] <;> rfl), by repeat (first | (with_reducible first | exact HB.out | apply below_alloc | apply pw_below_drewN | apply below_drew1 | refine below_set ?_ GE171.out) | exact HB.out)⟩
                                    · replace c73 := Bool.eq_false_iff.mpr c73
                                      subst c73
                                      have H1 : (some false) = some r := by rw [if_neg (show ¬ (false = true) by decide)] at H; exact H
                                      clear H
                                      have H := H1
                                      clear H1
                                      obtain rfl := Option.some.inj H
                                      have hcz86_0 : wr.cell? ⟨gb171, 0, none⟩ = some (.int .i64 t164) := (blk_cell BK171.out 0).trans rfl
                                      have hcz86_1 : wr.cell? ⟨gb171, 1, none⟩ = some (.int .i64 t165) := (blk_cell BK171.out 1).trans rfl
                                      have hcz86_2 : wr.cell? ⟨gb171, 2, none⟩ = some (.int .i64 t166) := (blk_cell BK171.out 2).trans rfl
                                      have hcz86_3 : wr.cell? ⟨gb171, 3, none⟩ = some (u172003) := (blk_cell BK171.out 3).trans rfl
                                      have hfz86_0 := blk_frozen BK171.out 0
                                      have hfz86_1 := blk_frozen BK171.out 1
                                      have hfz86_2 := blk_frozen BK171.out 2
                                      have hfz86_3 := blk_frozen BK171.out 3
                                      obtain ⟨Ao87, co87, eo87⟩ := Kd.R_slice HO_172003.out
                                      subst eo87
                                      go_wp2_with (first | ((with_reducible refine gate_dst (N := 91) rfl ?_); (try (refine gate_guard (by rfl) ?_; dsimp only)); refine Kd.N_lit k50 _ 50 ?hg (N' := 91) ?hd (xs := ([(⟨t164, t165, t166, x172003_3⟩ : S50)] : List (S50))) (inner := [.int .i64 t164, .int .i64 t165, .int .i64 t166, .slice Ao87 x172003_3.length co87]) (ok := (fun k_ => some k_ ≠ (.slice Ao24 t146.length co24 : Value).ownBlock ∧ some k_ ≠ (.slice Ao28 t149.length co28 : Value).ownBlock ∧ some k_ ≠ (.slice Ao57 y161.length co57 : Value).ownBlock ∧ k_ ≠ gb171)) (okp := (fun k_ => some k_ ≠ (.slice Ao24 t146.length co24 : Value).ownBlock ∧ some k_ ≠ (.slice Ao28 t149.length co28 : Value).ownBlock ∧ some k_ ≠ (.slice Ao57 y161.length co57 : Value).ownBlock ∧ k_ ≠ gb171)) ?hr ?hp (fun _ hk => hk) ((show ∀ k_, wr.heap.size ≤ k_ → (fun k_ => some k_ ≠ (.slice Ao24 t146.length co24 : Value).ownBlock ∧ some k_ ≠ (.slice Ao28 t149.length co28 : Value).ownBlock ∧ some k_ ≠ (.slice Ao57 y161.length co57 : Value).ownBlock ∧ k_ ≠ gb171) k_ from fun k_ hk => ⟨Kd.fresh' (Kd.N_lt (by (with_reducible repeat (first | apply Kd.N_alloc | apply Kd.N_drewN | apply Kd.N_drew)); exact HO_7.out)) k_ hk, Kd.fresh' (Kd.N_lt (by (with_reducible repeat (first | apply Kd.N_alloc | apply Kd.N_drewN | apply Kd.N_drew)); exact HO_8.out)) k_ hk, Kd.fresh' (Kd.N_lt (by (with_reducible repeat (first | apply Kd.N_alloc | apply Kd.N_drewN | apply Kd.N_drew)); exact HO_9.out)) k_ hk, Kd.freshB (g := gb171) (o := .cells #[.int .i64 t164, .int .i64 t165, .int .i64 t166, .slice Ao87 x172003_3.length co87] 50 (0, 0)) (by (with_reducible repeat (first | refine blk_drewN ?_ _ | refine blk_drew ?_ | refine blk_alloc ?_ _)); exact BK171.out) k_ hk⟩) _ (Nat.le_refl _)) (Below.refl _ _) (Nat.le_refl _) (by simp) ?_; (case hd => rfl); (case hg => rfl); (case hr => first | (go_simp; done) | (go_simp; rfl)); (case hp => exact (Reps.c4 (show Kd.FK k50 _ _ (⟨t164, t165, t166, x172003_3⟩ : S50) [.int .i64 t164, .int .i64 t165, .int .i64 t166, .slice Ao87 x172003_3.length co87] from (k50_mkF _ _ (⟨t164, t165, t166, x172003_3⟩ : S50) (Kd.R_reads' (Kd.R_mono (ok' := (fun k_ => some k_ ≠ (.slice Ao24 t146.length co24 : Value).ownBlock ∧ some k_ ≠ (.slice Ao28 t149.length co28 : Value).ownBlock ∧ some k_ ≠ (.slice Ao57 y161.length co57 : Value).ownBlock ∧ k_ ≠ gb171)) (Kd.R_types (Kd.R_apart' (Kd.R_apart' (Kd.R_apart' (HO_172003.out) (Kd.N_typed HO_7.out) (by decide)) (Kd.N_typed HO_8.out) (by decide)) (Kd.N_typed HO_9.out) (by decide)) BK171.out (by decide)) (fun k_ hk => ⟨hk.1.1.1.2, ⟨hk.1.1.2, ⟨hk.1.2, hk.2⟩⟩⟩))).2.1 (Kd.R_F (Kd.R_mono (ok' := (fun k_ => some k_ ≠ (.slice Ao24 t146.length co24 : Value).ownBlock ∧ some k_ ≠ (.slice Ao28 t149.length co28 : Value).ownBlock ∧ some k_ ≠ (.slice Ao57 y161.length co57 : Value).ownBlock ∧ k_ ≠ gb171)) (Kd.R_types (Kd.R_apart' (Kd.R_apart' (Kd.R_apart' (HO_172003.out) (Kd.N_typed HO_7.out) (by decide)) (Kd.N_typed HO_8.out) (by decide)) (Kd.N_typed HO_9.out) (by decide)) BK171.out (by decide)) (fun k_ hk => ⟨hk.1.1.1.2, ⟨hk.1.1.2, ⟨hk.1.2, hk.2⟩⟩⟩))))) (Reps.none _ _))); intro v190 w88 ho89 hb hg_ hnew_; clear hg_ hnew_; (first | rw [← Ny189.out] at ho89 | (simp only [Int.reduceToNat] at ho89; rw [← Ny189.out] at ho89)); have n0_ := Aside0.mk (Kd.N_elder' (by (with_reducible repeat (first | apply Kd.N_alloc | apply Kd.N_drewN | apply Kd.N_drew)); exact HO_7.out) (Kd.N_base ho89) hb); have n1_ := Aside0.mk (Kd.N_elder' (by (with_reducible repeat (first | apply Kd.N_alloc | apply Kd.N_drewN | apply Kd.N_drew)); exact HO_8.out) (Kd.N_base ho89) hb); have n2_ := Aside0.mk (Kd.N_elder' (by (with_reducible repeat (first | apply Kd.N_alloc | apply Kd.N_drewN | apply Kd.N_drew)); exact HO_9.out) (Kd.N_base ho89) hb); have n3_ := Aside0.mk (Kd.N_lower ho89 (below_size (by repeat (first | (with_reducible first | exact HB.out | apply below_alloc | apply pw_below_drewN | apply below_drew1 | refine below_set ?_ GE171.out) | exact HB.out)))); have n4_ := Aside0.mk (blk_below (g := gb171) (o := .cells #[.int .i64 t164, .int .i64 t165, .int .i64 t166, .slice Ao87 x172003_3.length co87] 50 (0, 0)) (by (with_reducible repeat (first | refine blk_drewN ?_ _ | refine blk_drew ?_ | refine blk_alloc ?_ _)); exact BK171.out) hb); have n5_ := Aside0.mk (below_step (by repeat (first | (with_reducible first | exact HB.out | apply below_alloc | apply pw_below_drewN | apply below_drew1 | refine below_set ?_ GE171.out) | exact HB.out)) hb); clear HO_7; clear HO_8; clear HO_9; clear BK171; clear HB; clear HO_172003; have HO_7 := n0_; have HO_8 := n1_; have HO_9 := n2_; have HO191 := n3_; have BK171 := n4_; have HB := n5_; clear n0_ n1_ n2_ n3_ n4_ n5_; clear hb ho89; obtain ⟨Ao90, co90, eo90⟩ := Kd.N_slice HO191.out; subst eo90) | ((with_reducible refine gate_callee (f := 27) rfl ?_); refine goesL_ (some 92) rfl rfl Try.func27 (by kernel_rfl) rfl #[.slice Ao28 t149.length co28, .slice Ao90 y189.length co90] rfl (by (try simp only [List.map_toArray, List.map_cons, List.map_nil]); first | done | rfl | (simp only [List.length_drop, List.length_take]; rfl)) ?_; (with_reducible refine (bag_Put.calls k3 (fun k_ => ((some k_ ≠ (.slice Ao24 t146.length co24 : Value).ownBlock ∧ (some k_ ≠ (.slice Ao57 y161.length co57 : Value).ownBlock ∧ k_ ≠ gb171)) ∧ some k_ ≠ (.slice Ao90 y189.length co90 : Value).ownBlock)) _ _ t149 _ _ y189 t192 _ ?side1 ?side2 ?side3 A70.out).mono ?_); (case side1 => exact Kd.N_V ((Kd.N_mono HO_8.out (fun k_ h_ => ⟨⟨h_.1.1, ⟨h_.1.2.1, h_.1.2.2.2⟩⟩, h_.2⟩)))); (case side2 => repeat (first | exact (Kd.N_reads' HO191.out).2.2 | (with_reducible refine Kd.C_alloc ?_ _) | (with_reducible refine Kd.C_drewN ?_ _) | (with_reducible refine Kd.C_drew ?_))); (case side3 => exact (Kd.N_reads' HO191.out).2.1); rintro e w91 ⟨v193, rfl, ho0, hb⟩; refine ⟨_, rfl, ?_⟩; have n0_ := Aside0.mk (Kd.N_elder' (by (with_reducible repeat (first | apply Kd.N_alloc | apply Kd.N_drewN | apply Kd.N_drew)); exact HO_7.out) (Kd.N_base ho0) hb); have n1_ := Aside0.mk (Kd.N_elder' (by (with_reducible repeat (first | apply Kd.N_alloc | apply Kd.N_drewN | apply Kd.N_drew)); exact HO_8.out) (Kd.N_base ho0) hb); have n2_ := Aside0.mk (Kd.N_elder' (by (with_reducible repeat (first | apply Kd.N_alloc | apply Kd.N_drewN | apply Kd.N_drew)); exact HO_9.out) (Kd.N_base ho0) hb); have n3_ := Aside0.mk (Kd.N_elder' (by (with_reducible repeat (first | apply Kd.N_alloc | apply Kd.N_drewN | apply Kd.N_drew)); exact HO191.out) (Kd.N_base ho0) hb); have n4_ := Aside0.mk (Kd.N_lower (Kd.N_mono (ok' := fun k_ => some k_ ≠ (.slice Ao24 t146.length co24 : Value).ownBlock ∧ some k_ ≠ (.slice Ao57 y161.length co57 : Value).ownBlock ∧ some k_ ≠ (.slice Ao90 y189.length co90 : Value).ownBlock ∧ k_ ≠ gb171) ho0 (fun k_ hk_ => ⟨Or.elim hk_ (fun hs_ => hs_.1.1) (fun hn_ => (Kd.fresh' (Kd.N_lt (by (with_reducible repeat (first | apply Kd.N_alloc | apply Kd.N_drewN | apply Kd.N_drew)); exact HO_7.out)) k_ hn_)), Or.elim hk_ (fun hs_ => hs_.1.2.1) (fun hn_ => (Kd.fresh' (Kd.N_lt (by (with_reducible repeat (first | apply Kd.N_alloc | apply Kd.N_drewN | apply Kd.N_drew)); exact HO_9.out)) k_ hn_)), Or.elim hk_ (fun hs_ => hs_.2) (fun hn_ => (Kd.fresh' (Kd.N_lt (by (with_reducible repeat (first | apply Kd.N_alloc | apply Kd.N_drewN | apply Kd.N_drew)); exact HO191.out)) k_ hn_)), Or.elim hk_ (fun hs_ => hs_.1.2.2) (fun hn_ => (Kd.freshB (g := gb171) (o := .cells #[.int .i64 t164, .int .i64 t165, .int .i64 t166, .slice Ao87 x172003_3.length co87] 50 (0, 0)) (by (with_reducible repeat (first | refine blk_drewN ?_ _ | refine blk_drew ?_ | refine blk_alloc ?_ _)); exact BK171.out) k_ hn_))⟩)) (below_size (by repeat (first | (with_reducible first | exact HB.out | apply below_alloc | apply pw_below_drewN | apply below_drew1 | refine below_set ?_ GE171.out) | exact HB.out)))); have n5_ := Aside0.mk (blk_below (g := gb171) (o := .cells #[.int .i64 t164, .int .i64 t165, .int .i64 t166, .slice Ao87 x172003_3.length co87] 50 (0, 0)) (by (with_reducible repeat (first | refine blk_drewN ?_ _ | refine blk_drew ?_ | refine blk_alloc ?_ _)); exact BK171.out) hb); have n6_ := Aside0.mk (below_step (by repeat (first | (with_reducible first | exact HB.out | apply below_alloc | apply pw_below_drewN | apply below_drew1 | refine below_set ?_ GE171.out) | exact HB.out)) hb); clear HO_7; clear HO_8; clear HO_9; clear HO191; clear BK171; clear HB; have HO_7 := n0_; have HO_8 := n1_; have HO_9 := n2_; have HO191 := n3_; have HO194 := n4_; have BK171 := n5_; have HB := n6_; clear n0_ n1_ n2_ n3_ n4_ n5_ n6_; (try clear hb); (try clear hb2); (try clear hk); (try clear hi); (try clear ho0)) | ((with_reducible refine gate_callee (f := 26) rfl ?_); refine goesL_ (some 94) rfl rfl Try.func26 (by kernel_rfl) rfl #[.slice Ao28 t149.length co28] rfl (by (try simp only [List.map_toArray, List.map_cons, List.map_nil]); first | done | rfl | (simp only [List.length_drop, List.length_take]; rfl)) ?_; (with_reducible refine (batonlaw39_Ref.calls k3 (fun k_ => (((some k_ ≠ (.slice Ao24 t146.length co24 : Value).ownBlock ∧ (some k_ ≠ (.slice Ao57 y161.length co57 : Value).ownBlock ∧ k_ ≠ gb171)) ∧ some k_ ≠ (.slice Ao90 y189.length co90 : Value).ownBlock) ∧ some k_ ≠ (v193 : Value).ownBlock)) _ _ t149 t195 _ ?side1 A71.out).mono ?_); (case side1 => exact Kd.N_V ((Kd.N_mono HO_8.out (fun k_ h_ => ⟨⟨⟨h_.1.1.1, ⟨h_.1.1.2.1, h_.1.1.2.2.2⟩⟩, h_.1.2⟩, h_.2⟩)))); rintro e w92 ⟨v196, rfl, ho0, hb⟩; refine ⟨_, rfl, ?_⟩; have n0_ := Aside0.mk (Kd.N_elder' (by (with_reducible repeat (first | apply Kd.N_alloc | apply Kd.N_drewN | apply Kd.N_drew)); exact HO_7.out) (Kd.N_base ho0) hb); have n1_ := Aside0.mk (Kd.N_elder' (by (with_reducible repeat (first | apply Kd.N_alloc | apply Kd.N_drewN | apply Kd.N_drew)); exact HO_8.out) (Kd.N_base ho0) hb); have n2_ := Aside0.mk (Kd.N_elder' (by (with_reducible repeat (first | apply Kd.N_alloc | apply Kd.N_drewN | apply Kd.N_drew)); exact HO_9.out) (Kd.N_base ho0) hb); have n3_ := Aside0.mk (Kd.N_elder' (by (with_reducible repeat (first | apply Kd.N_alloc | apply Kd.N_drewN | apply Kd.N_drew)); exact HO191.out) (Kd.N_base ho0) hb); have n4_ := Aside0.mk (Kd.N_elder' (by (with_reducible repeat (first | apply Kd.N_alloc | apply Kd.N_drewN | apply Kd.N_drew)); exact HO194.out) (Kd.N_base ho0) hb); have n5_ := Aside0.mk (Kd.N_lower (Kd.N_mono (ok' := fun k_ => some k_ ≠ (.slice Ao24 t146.length co24 : Value).ownBlock ∧ some k_ ≠ (.slice Ao57 y161.length co57 : Value).ownBlock ∧ some k_ ≠ (.slice Ao90 y189.length co90 : Value).ownBlock ∧ some k_ ≠ (v193 : Value).ownBlock ∧ k_ ≠ gb171) ho0 (fun k_ hk_ => ⟨Or.elim hk_ (fun hs_ => hs_.1.1.1) (fun hn_ => (Kd.fresh' (Kd.N_lt (by (with_reducible repeat (first | apply Kd.N_alloc | apply Kd.N_drewN | apply Kd.N_drew)); exact HO_7.out)) k_ hn_)), Or.elim hk_ (fun hs_ => hs_.1.1.2.1) (fun hn_ => (Kd.fresh' (Kd.N_lt (by (with_reducible repeat (first | apply Kd.N_alloc | apply Kd.N_drewN | apply Kd.N_drew)); exact HO_9.out)) k_ hn_)), Or.elim hk_ (fun hs_ => hs_.1.2) (fun hn_ => (Kd.fresh' (Kd.N_lt (by (with_reducible repeat (first | apply Kd.N_alloc | apply Kd.N_drewN | apply Kd.N_drew)); exact HO191.out)) k_ hn_)), Or.elim hk_ (fun hs_ => hs_.2) (fun hn_ => (Kd.fresh' (Kd.N_lt (by (with_reducible repeat (first | apply Kd.N_alloc | apply Kd.N_drewN | apply Kd.N_drew)); exact HO194.out)) k_ hn_)), Or.elim hk_ (fun hs_ => hs_.1.1.2.2) (fun hn_ => (Kd.freshB (g := gb171) (o := .cells #[.int .i64 t164, .int .i64 t165, .int .i64 t166, .slice Ao87 x172003_3.length co87] 50 (0, 0)) (by (with_reducible repeat (first | refine blk_drewN ?_ _ | refine blk_drew ?_ | refine blk_alloc ?_ _)); exact BK171.out) k_ hn_))⟩)) (below_size (by repeat (first | (with_reducible first | exact HB.out | apply below_alloc | apply pw_below_drewN | apply below_drew1 | refine below_set ?_ GE171.out) | exact HB.out)))); have n6_ := Aside0.mk (blk_below (g := gb171) (o := .cells #[.int .i64 t164, .int .i64 t165, .int .i64 t166, .slice Ao87 x172003_3.length co87] 50 (0, 0)) (by (with_reducible repeat (first | refine blk_drewN ?_ _ | refine blk_drew ?_ | refine blk_alloc ?_ _)); exact BK171.out) hb); have n7_ := Aside0.mk (below_step (by repeat (first | (with_reducible first | exact HB.out | apply below_alloc | apply pw_below_drewN | apply below_drew1 | refine below_set ?_ GE171.out) | exact HB.out)) hb); clear HO_7; clear HO_8; clear HO_9; clear HO191; clear HO194; clear BK171; clear HB; have HO_7 := n0_; have HO_8 := n1_; have HO_9 := n2_; have HO191 := n3_; have HO194 := n4_; have HO197 := n5_; have BK171 := n6_; have HB := n7_; clear n0_ n1_ n2_ n3_ n4_ n5_ n6_ n7_; (try clear hb); (try clear hb2); (try clear hk); (try clear hi); (try clear ho0); obtain ⟨Ao93, co93, eo93⟩ := Kd.N_slice HO197.out; subst eo93) | ((with_reducible refine gate_callee (f := 29) rfl ?_); refine goesL_ (some 96) rfl rfl Try.func29 (by kernel_rfl) rfl #[.slice Ao93 t195.length co93, .slice Ao57 y161.length co57] rfl (by (try simp only [List.map_toArray, List.map_cons, List.map_nil]); first | done | rfl | (simp only [List.length_drop, List.length_take]; rfl)) ?_; (with_reducible refine (batonref39_Same.calls k3 _ _ t195 _ _ y161 false _ ?side1 ?side2 ?side3 ?side4 A72.out).mono ?_); (case side1 => repeat (first | exact (Kd.N_reads' HO197.out).2.2 | (with_reducible refine Kd.C_alloc ?_ _) | (with_reducible refine Kd.C_drewN ?_ _) | (with_reducible refine Kd.C_drew ?_))); (case side2 => exact (Kd.N_reads' HO197.out).2.1); (case side3 => repeat (first | exact (Kd.N_reads' HO_9.out).2.2 | (with_reducible refine Kd.C_alloc ?_ _) | (with_reducible refine Kd.C_drewN ?_ _) | (with_reducible refine Kd.C_drew ?_))); (case side4 => exact (Kd.N_reads' HO_9.out).2.1); rintro e w' ⟨rfl, ⟨nd, rfl⟩⟩; refine ⟨_, rfl, ?_⟩))
                                      go_ret
                                      exact ⟨by first | rfl | (simp [errW_none, errW_some] <;> rfl) | (simp only [← hji50]; first | rfl | (simp [errW_none, errW_some] <;> rfl)) | (simp [*, errW_none, errW_some] <;> rfl), by repeat (first | (with_reducible first | exact HB.out | apply below_alloc | apply pw_below_drewN | apply below_drew1 | refine below_set ?_ GE171.out) | exact HB.out)⟩
                            · replace c54 := Bool.eq_false_iff.mpr c54
                              subst c54
                              have H1 : (some false) = some r := by rw [if_neg (show ¬ (false = true) by decide)] at H; exact H
                              clear H
                              have H := H1
                              clear H1
                              obtain rfl := Option.some.inj H
                              try go_wp2
                              have n0_ := Aside0.mk (Kd.N_drew HO_7.out)
                              have n1_ := Aside0.mk (Kd.N_drew HO_8.out)
                              have n2_ := Aside0.mk (Kd.N_drew HO_9.out)
                              have n3_ := Aside0.mk (Kd.R_drew HO_172003.out)
                              have n4_ := Aside0.mk (blk_drew BK171.out)
                              have n5_ := Aside0.mk (below_drew1 HB.out)
                              clear HO_7
                              clear HO_8
                              clear HO_9
                              clear HO_172003
                              clear BK171
                              clear HB
                              have HO_7 := n0_
                              have HO_8 := n1_
                              have HO_9 := n2_
                              have HO_172003 := n3_
                              have BK171 := n4_
                              have HB := n5_
                              clear n0_ n1_ n2_ n3_ n4_ n5_
                              obtain ⟨Ao96, co96, eo96⟩ := Kd.N_slice HO_9.out
                              (first | subst eo96 | (injection eo96 with f1_ f2_ f3_; have f4_ := f1_.symm; have f5_ := f3_.symm; clear f1_ f2_ f3_; subst f4_; subst f5_))
                              have q95 : ((ji50) : Int) ≤ ((y161.length : Int) : Int) := of_decide_eq_true (by first | (with_reducible assumption) | assumption)
                              obtain ⟨i095, hi095, _, hsz95, _⟩ := info_parts info108
                              have hroom95 : y161.length ≤ co96 := (Kd.N_reads' HO_9.out).2.1
                              have hC95 : Kd.F k108 _ _ Ao96 y161.length y161 := (Kd.V_at (base := w.heap.size) (Kd.N_V HO_9.out)).2.2
                              have ql95 : (a2 : Int) ≤ ((ji50) : Int) := of_decide_eq_true (by first | (with_reducible assumption) | assumption)
                              have q095 : (0 : Int) ≤ (a2 : Int) := of_decide_eq_true (by first | (with_reducible assumption) | assumption)
                              have hcut95 := fun kl_ kh_ => cut_mid (P := Try.prog) 46 108 kl_ kh_ Try.underlying46 hi095 4 hsz95 Ao96 y161.length co96 a2 (ji50) q095 ql95 q95 hroom95
                              have hr95 := Kd.F_mid (lo := (a2 : Int).toNat) (hi := ((ji50) : Int).toNat) (c := co96) hC95 (by omega) (by omega) hroom95
                              obtain ⟨A95, hA95⟩ : ∃ A1, A1 = (if co96 = (a2 : Int).toNat then Ao96 else (Ao96 : Option Addr).map (·.add ((a2 : Int).toNat * 4))) := ⟨_, rfl⟩
                              obtain ⟨c95, hc95⟩ : ∃ c1, c1 = co96 - (a2 : Int).toNat := ⟨_, rfl⟩
                              have hy95 : y182.length = ((ji50) : Int).toNat - (a2 : Int).toNat := (by rw [Ny182.out, List.length_drop, List.length_take] <;> omega)
                              rw [show ((y161).take ((ji50) : Int).toNat).drop (a2 : Int).toNat = y182 from Ny182.out.symm] at hr95
                              replace hr95 : Kd.F k108 _ _ A95 y182.length y182 := (by rw [hA95]; exact hr95)
                              rw [← hy95, ← hA95, ← hc95] at hcut95
                              have HO186 := Aside0.mk (show Kd.V k108 108 _ w.heap.size _ (.slice A95 y182.length c95) y182 from Kd.V_mk (by rw [hy95, hc95]; exact Nat.sub_le_sub_right (Nat.le_trans (by omega) hroom95) _) hr95)
                              have HC186 := Aside0.mk (show y182.length ≤ c95 from by rw [hy95, hc95]; exact Nat.sub_le_sub_right (Nat.le_trans (by omega) hroom95) _)
                              clear hr95 hC95 hroom95 hi095 hsz95 hc95
                              have KY95 := Aside0.mk hy95
                              have KA95 := Aside0.mk hA95
                              clear hy95 hA95
                              replace q95 := eq_true q95
                              refine start_ (n := 10) (S := fun w' => w'.cell? ⟨gb171, 0, none⟩ = some (.int .i64 t164) ∧ w'.cell? ⟨gb171, 1, none⟩ = some (.int .i64 t165) ∧ w'.cell? ⟨gb171, 2, none⟩ = some (.int .i64 t166) ∧ w'.cell? ⟨gb171, 3, none⟩ = some (.slice Ao32 t167.length co32)) (ds := []) #[false, false, false, false, false, false, false, false, false, false] (by kernel_rfl) rfl rfl ⟨(blk_cell BK171.out 0).trans rfl, (blk_cell BK171.out 1).trans rfl, (blk_cell BK171.out 2).trans rfl, (blk_cell BK171.out 3).trans rfl⟩ (fun hHeld => ?_); refine with_tabW batonlaw39_BagPuts.tab13 batonlaw39_BagPuts.bits13 (fun HT_ HW_ => ?_)
                              generalize wc.drew = w94 at HO_7 HO_8 HO_9 HO_172003 BK171 HB HO186 hHeld ⊢
                              refine pure_ (i := 3) (N := some 71) (v := ?_) (a' := ?_) #[false, false, false, true, false, false, false, false, false, false] rfl rfl (any_of HT_.out (by kernel_rfl)) (fun _ _ _ h => h) (Or.inl ⟨by rfl, ?_⟩) ?_ ?_
                              rotate_left
                              · intro w'
                                go_simp
                                with_reducible rfl
                              rotate_left
                              · simp only [Act.put, List.setIfInBounds_toArray, List.set_cons_zero, List.set_cons_succ, i64_w, i32_w]
                                rfl
                              refine pure_ (i := 4) (N := some 72) (v := ?_) (a' := ?_) #[false, false, false, true, true, false, false, false, false, false] rfl rfl (any_of HT_.out (by kernel_rfl)) (fun _ _ _ h => h) (Or.inl ⟨by rfl, ?_⟩) ?_ ?_
                              rotate_left
                              · intro w'
                                go_simp
                                with_reducible rfl
                              rotate_left
                              · simp only [Act.put, List.setIfInBounds_toArray, List.set_cons_zero, List.set_cons_succ, i64_w, i32_w]
                                rfl
                              refine pure_ (i := 5) (N := some 73) (v := ?_) (a' := ?_) #[false, false, false, true, true, true, false, false, false, false] rfl rfl (any_of HT_.out (by kernel_rfl)) (fun _ _ _ h => h) (Or.inl ⟨by rfl, ?_⟩) ?_ ?_
                              rotate_left
                              · intro w'
                                go_simp
                                with_reducible rfl
                              rotate_left
                              · simp only [Act.put, List.setIfInBounds_toArray, List.set_cons_zero, List.set_cons_succ, i64_w, i32_w]
                                rfl
                              refine pure_ (i := 6) (N := some 74) (v := ?_) (a' := ?_) #[false, false, false, true, true, true, true, false, false, false] rfl rfl (any_of HT_.out (by kernel_rfl)) (fun _ _ _ h => h) (Or.inl ⟨by rfl, ?_⟩) ?_ ?_
                              rotate_left
                              · intro w'
                                go_simp
                                with_reducible rfl
                              rotate_left
                              · simp only [Act.put, List.setIfInBounds_toArray, List.set_cons_zero, List.set_cons_succ, i64_w, i32_w]
                                rfl
                              refine pure_ (i := 7) (N := some 75) (v := ?_) (a' := ?_) #[false, false, false, true, true, true, true, true, false, false] rfl rfl (any_of HT_.out (by kernel_rfl)) (fun _ _ _ h => h) (Or.inl ⟨by rfl, ?_⟩) ?_ ?_
                              rotate_left
                              · intro w'
                                go_simp
                                with_reducible rfl
                              rotate_left
                              · simp only [Act.put, List.setIfInBounds_toArray, List.set_cons_zero, List.set_cons_succ, i64_w, i32_w]
                                rfl
                              refine take_ (i := 0) (N := some 68) (v := ?_) (a' := ?_) #[true, false, false, true, true, true, true, true, false, false] rfl rfl (take_ofW HT_.out HW_.out (by kernel_rfl)) (fun _ _ _ h => h) (Or.inl ⟨by rfl, ?_⟩) hHeld ?_ ?_
                              rotate_left
                              · rintro w' ⟨s0, s1, s2, s3⟩
                                go_simp
                                with_reducible rfl
                              rotate_left
                              · simp only [Act.put, List.setIfInBounds_toArray, List.set_cons_zero, List.set_cons_succ, i64_w, i32_w]
                                rfl
                              refine one_ (i := 1) (N := some 69) #[true, true, false, true, true, true, true, true, false, false] rfl rfl (one_of HT_.out (by kernel_rfl)) (by decide) (fun K hK => ?_)
                              refine Kd.N_lit_step k50 _ 50 ?hg (N' := 69) ?hd (xs := ([(⟨t164, t165, t166, t167⟩ : S50)] : List (S50))) (inner := [.int .i64 t164, .int .i64 t165, .int .i64 t166, .slice Ao32 t167.length co32]) (ok := (fun k_ => some k_ ≠ (.slice Ao24 t146.length co24 : Value).ownBlock ∧ some k_ ≠ (.slice Ao28 t149.length co28 : Value).ownBlock ∧ some k_ ≠ (.slice Ao96 y161.length co96 : Value).ownBlock ∧ k_ ≠ gb171)) (okp := (fun k_ => some k_ ≠ (.slice Ao24 t146.length co24 : Value).ownBlock ∧ some k_ ≠ (.slice Ao28 t149.length co28 : Value).ownBlock ∧ some k_ ≠ (.slice Ao96 y161.length co96 : Value).ownBlock ∧ k_ ≠ gb171)) ?hr ?hp (fun _ hk => hk) ((show ∀ k_, w94.heap.size ≤ k_ → (fun k_ => some k_ ≠ (.slice Ao24 t146.length co24 : Value).ownBlock ∧ some k_ ≠ (.slice Ao28 t149.length co28 : Value).ownBlock ∧ some k_ ≠ (.slice Ao96 y161.length co96 : Value).ownBlock ∧ k_ ≠ gb171) k_ from fun k_ hk => ⟨Kd.fresh' (Kd.N_lt (by (with_reducible repeat (first | apply Kd.N_alloc | apply Kd.N_drewN | apply Kd.N_drew)); exact HO_7.out)) k_ hk, Kd.fresh' (Kd.N_lt (by (with_reducible repeat (first | apply Kd.N_alloc | apply Kd.N_drewN | apply Kd.N_drew)); exact HO_8.out)) k_ hk, Kd.fresh' (Kd.N_lt (by (with_reducible repeat (first | apply Kd.N_alloc | apply Kd.N_drewN | apply Kd.N_drew)); exact HO_9.out)) k_ hk, Kd.freshB (g := gb171) (o := .cells #[.int .i64 t164, .int .i64 t165, .int .i64 t166, .slice Ao32 t167.length co32] 50 (0, 0)) (by (with_reducible repeat (first | refine blk_drewN ?_ _ | refine blk_drew ?_ | refine blk_alloc ?_ _)); exact BK171.out) k_ hk⟩) _ (Nat.le_refl _)) (Below.refl _ _) (Nat.le_refl _) (by simp) ?_; (case hd => rfl); (case hg => rfl); (case hr => first | (go_simp; done) | (go_simp; rfl)); (case hp => exact (Reps.c4 (show Kd.FK k50 _ _ (⟨t164, t165, t166, t167⟩ : S50) [.int .i64 t164, .int .i64 t165, .int .i64 t166, .slice Ao32 t167.length co32] from (k50_mkF _ _ (⟨t164, t165, t166, t167⟩ : S50) (Kd.R_reads' (Kd.R_mono (ok' := (fun k_ => some k_ ≠ (.slice Ao24 t146.length co24 : Value).ownBlock ∧ some k_ ≠ (.slice Ao28 t149.length co28 : Value).ownBlock ∧ some k_ ≠ (.slice Ao96 y161.length co96 : Value).ownBlock ∧ k_ ≠ gb171)) (Kd.R_types (Kd.R_apart' (Kd.R_apart' (Kd.R_apart' (HO_172003.out) (Kd.N_typed HO_7.out) (by decide)) (Kd.N_typed HO_8.out) (by decide)) (Kd.N_typed HO_9.out) (by decide)) BK171.out (by decide)) (fun k_ hk => ⟨hk.1.1.1.2, ⟨hk.1.1.2, ⟨hk.1.2, hk.2⟩⟩⟩))).2.1 (Kd.R_F (Kd.R_mono (ok' := (fun k_ => some k_ ≠ (.slice Ao24 t146.length co24 : Value).ownBlock ∧ some k_ ≠ (.slice Ao28 t149.length co28 : Value).ownBlock ∧ some k_ ≠ (.slice Ao96 y161.length co96 : Value).ownBlock ∧ k_ ≠ gb171)) (Kd.R_types (Kd.R_apart' (Kd.R_apart' (Kd.R_apart' (HO_172003.out) (Kd.N_typed HO_7.out) (by decide)) (Kd.N_typed HO_8.out) (by decide)) (Kd.N_typed HO_9.out) (by decide)) BK171.out (by decide)) (fun k_ hk => ⟨hk.1.1.1.2, ⟨hk.1.1.2, ⟨hk.1.2, hk.2⟩⟩⟩))))) (Reps.none _ _)))
                              intro v177 w97 ho98 hb hg_ hnew_
                              clear hg_ hnew_
                              (first | rw [← Ny176.out] at ho98 | (simp only [Int.reduceToNat] at ho98; rw [← Ny176.out] at ho98))
                              have n0_ := Aside0.mk (Kd.N_elder' (by (with_reducible repeat (first | apply Kd.N_alloc | apply Kd.N_drewN | apply Kd.N_drew)); exact HO_7.out) (Kd.N_base ho98) hb)
                              have n1_ := Aside0.mk (Kd.N_elder' (by (with_reducible repeat (first | apply Kd.N_alloc | apply Kd.N_drewN | apply Kd.N_drew)); exact HO_8.out) (Kd.N_base ho98) hb)
                              have n2_ := Aside0.mk (Kd.N_elder' (by (with_reducible repeat (first | apply Kd.N_alloc | apply Kd.N_drewN | apply Kd.N_drew)); exact HO_9.out) (Kd.N_base ho98) hb)
                              have n3_ := Aside0.mk (Kd.V_elder' (by (with_reducible repeat (first | apply Kd.V_alloc | apply Kd.V_drewN | apply Kd.V_drew)); exact HO186.out) (Kd.N_base ho98) hb)
                              have n4_ := Aside0.mk (Kd.N_lower ho98 (below_size (by repeat (first | (with_reducible first | exact HB.out | apply below_alloc | apply pw_below_drewN | apply below_drew1 | refine below_set ?_ GE171.out) | exact HB.out))))
                              have n5_ := Aside0.mk (blk_below (g := gb171) (o := .cells #[.int .i64 t164, .int .i64 t165, .int .i64 t166, .slice Ao32 t167.length co32] 50 (0, 0)) (by (with_reducible repeat (first | refine blk_drewN ?_ _ | refine blk_drew ?_ | refine blk_alloc ?_ _)); exact BK171.out) hb)
                              have n6_ := Aside0.mk (below_step (by repeat (first | (with_reducible first | exact HB.out | apply below_alloc | apply pw_below_drewN | apply below_drew1 | refine below_set ?_ GE171.out) | exact HB.out)) hb)
                              clear HO_7
                              clear HO_8
                              clear HO_9
                              clear HO186
                              clear BK171
                              clear HB
                              clear HO_172003
                              have HO_7 := n0_
                              have HO_8 := n1_
                              have HO_9 := n2_
                              have HO186 := n3_
                              have HO178 := n4_
                              have BK171 := n5_
                              have HB := n6_
                              clear n0_ n1_ n2_ n3_ n4_ n5_ n6_
                              clear hb ho98
                              obtain ⟨Ao99, co99, eo99⟩ := Kd.N_slice HO178.out
                              (first | subst eo99 | (injection eo99 with f1_ f2_ f3_; have f4_ := f1_.symm; have f5_ := f3_.symm; clear f1_ f2_ f3_; subst f4_; subst f5_))
                              refine hK.out _ _ ⟨(blk_cell BK171.out 0).trans rfl, (blk_cell BK171.out 1).trans rfl, (blk_cell BK171.out 2).trans rfl, (blk_cell BK171.out 3).trans rfl⟩ (fun hHeld => ?_)
                              clear hK K
                              refine norm_ (a' := ?_) ?_ ?_
                              rotate_left
                              · show Act.put _ (some 69) _ = _
                                simp only [Act.put, List.setIfInBounds_toArray, List.set_cons_zero, List.set_cons_succ, i64_w, i32_w]
                                rfl
                              refine one_ (i := 2) (N := some 70) #[true, true, true, true, true, true, true, true, false, false] rfl rfl (one_of HT_.out (by kernel_rfl)) (by decide) (fun K hK => ?_)
                              refine goes_ Try.func26 (by kernel_rfl) rfl #[.slice Ao99 y176.length co99] (by rfl) rfl rfl (by (try simp only [List.map_toArray, List.map_cons, List.map_nil]); first | done | rfl | (simp only [List.length_drop, List.length_take]; rfl)) ?_
                              with_reducible refine (batonlaw39_Ref.calls kj17 (fun k_ => (some k_ ≠ (.slice Ao24 t146.length co24 : Value).ownBlock ∧ (some k_ ≠ (.slice Ao28 t149.length co28 : Value).ownBlock ∧ (some k_ ≠ (.slice Ao96 y161.length co96 : Value).ownBlock ∧ k_ ≠ gb171)))) _ _ y176 t179 _ ?side1 A48.out).mono ?_
                              (case side1 => exact Kd.N_V (HO178.out))
                              rintro e w100 ⟨v180, rfl, ho0, hb⟩
                              refine ⟨_, rfl, ?_⟩
                              have n0_ := Aside0.mk (Kd.N_elder' (by (with_reducible repeat (first | apply Kd.N_alloc | apply Kd.N_drewN | apply Kd.N_drew)); exact HO_7.out) (Kd.N_base ho0) hb)
                              have n1_ := Aside0.mk (Kd.N_elder' (by (with_reducible repeat (first | apply Kd.N_alloc | apply Kd.N_drewN | apply Kd.N_drew)); exact HO_8.out) (Kd.N_base ho0) hb)
                              have n2_ := Aside0.mk (Kd.N_elder' (by (with_reducible repeat (first | apply Kd.N_alloc | apply Kd.N_drewN | apply Kd.N_drew)); exact HO_9.out) (Kd.N_base ho0) hb)
                              have n3_ := Aside0.mk (Kd.V_elder' (by (with_reducible repeat (first | apply Kd.V_alloc | apply Kd.V_drewN | apply Kd.V_drew)); exact HO186.out) (Kd.N_base ho0) hb)
                              have n4_ := Aside0.mk (Kd.N_elder' (by (with_reducible repeat (first | apply Kd.N_alloc | apply Kd.N_drewN | apply Kd.N_drew)); exact HO178.out) (Kd.N_base ho0) hb)
                              have n5_ := Aside0.mk (Kd.N_lower (Kd.N_mono (ok' := fun k_ => some k_ ≠ (.slice Ao24 t146.length co24 : Value).ownBlock ∧ some k_ ≠ (.slice Ao28 t149.length co28 : Value).ownBlock ∧ some k_ ≠ (.slice Ao96 y161.length co96 : Value).ownBlock ∧ k_ ≠ gb171) ho0 (fun k_ hk_ => ⟨Or.elim hk_ (fun hs_ => hs_.1) (fun hn_ => (Kd.fresh' (Kd.N_lt (by (with_reducible repeat (first | apply Kd.N_alloc | apply Kd.N_drewN | apply Kd.N_drew)); exact HO_7.out)) k_ hn_)), Or.elim hk_ (fun hs_ => hs_.2.1) (fun hn_ => (Kd.fresh' (Kd.N_lt (by (with_reducible repeat (first | apply Kd.N_alloc | apply Kd.N_drewN | apply Kd.N_drew)); exact HO_8.out)) k_ hn_)), Or.elim hk_ (fun hs_ => hs_.2.2.1) (fun hn_ => (Kd.fresh' (Kd.N_lt (by (with_reducible repeat (first | apply Kd.N_alloc | apply Kd.N_drewN | apply Kd.N_drew)); exact HO_9.out)) k_ hn_)), Or.elim hk_ (fun hs_ => hs_.2.2.2) (fun hn_ => (Kd.freshB (g := gb171) (o := .cells #[.int .i64 t164, .int .i64 t165, .int .i64 t166, .slice Ao32 t167.length co32] 50 (0, 0)) (by (with_reducible repeat (first | refine blk_drewN ?_ _ | refine blk_drew ?_ | refine blk_alloc ?_ _)); exact BK171.out) k_ hn_))⟩)) (below_size (by repeat (first | (with_reducible first | exact HB.out | apply below_alloc | apply pw_below_drewN | apply below_drew1 | refine below_set ?_ GE171.out) | exact HB.out))))
                              have n6_ := Aside0.mk (blk_below (g := gb171) (o := .cells #[.int .i64 t164, .int .i64 t165, .int .i64 t166, .slice Ao32 t167.length co32] 50 (0, 0)) (by (with_reducible repeat (first | refine blk_drewN ?_ _ | refine blk_drew ?_ | refine blk_alloc ?_ _)); exact BK171.out) hb)
                              have n7_ := Aside0.mk (below_step (by repeat (first | (with_reducible first | exact HB.out | apply below_alloc | apply pw_below_drewN | apply below_drew1 | refine below_set ?_ GE171.out) | exact HB.out)) hb)
                              clear HO_7
                              clear HO_8
                              clear HO_9
                              clear HO186
                              clear HO178
                              clear BK171
                              clear HB
                              have HO_7 := n0_
                              have HO_8 := n1_
                              have HO_9 := n2_
                              have HO186 := n3_
                              have HO178 := n4_
                              have HO181 := n5_
                              have BK171 := n6_
                              have HB := n7_
                              clear n0_ n1_ n2_ n3_ n4_ n5_ n6_ n7_
                              (try clear hb)
                              (try clear hb2)
                              (try clear hk)
                              (try clear hi)
                              (try clear ho0)
                              obtain ⟨Ao101, co101, eo101⟩ := Kd.N_slice HO181.out
                              (first | subst eo101 | (injection eo101 with f1_ f2_ f3_; have f4_ := f1_.symm; have f5_ := f3_.symm; clear f1_ f2_ f3_; subst f4_; subst f5_))
                              refine hK.out _ _ ⟨(blk_cell BK171.out 0).trans rfl, (blk_cell BK171.out 1).trans rfl, (blk_cell BK171.out 2).trans rfl, (blk_cell BK171.out 3).trans rfl⟩ (fun hHeld => ?_)
                              clear hK K
                              refine norm_ (a' := ?_) ?_ ?_
                              rotate_left
                              · show Act.put _ (some 70) _ = _
                                simp only [Act.put, List.setIfInBounds_toArray, List.set_cons_zero, List.set_cons_succ, i64_w, i32_w]
                                rfl
                              refine one_ (i := 8) (N := some 76) #[true, true, true, true, true, true, true, true, true, false] rfl rfl (one_of HT_.out (by kernel_rfl)) (by decide) (fun K hK => ?_)
                              refine goes_ Try.func29 (by kernel_rfl) rfl #[.slice Ao101 t179.length co101, .slice A95 y182.length c95] (by rfl) rfl rfl (by (try simp only [List.map_toArray, List.map_cons, List.map_nil]); first | done | rfl | (simp only [List.length_drop, List.length_take]; rfl)) ?_
                              with_reducible refine (batonref39_Same.calls kj17 _ _ t179 _ _ y182 false _ ?side1 ?side2 ?side3 ?side4 A53.out).mono ?_
                              (case side1 => repeat (first | exact (Kd.N_reads' HO181.out).2.2 | (with_reducible refine Kd.C_alloc ?_ _) | (with_reducible refine Kd.C_drewN ?_ _) | (with_reducible refine Kd.C_drew ?_)))
                              (case side2 => exact (Kd.N_reads' HO181.out).2.1)
                              (case side3 => repeat (first | exact (Kd.V_reads' HO186.out).2.2 | (with_reducible refine Kd.C_alloc ?_ _) | (with_reducible refine Kd.C_drewN ?_ _) | (with_reducible refine Kd.C_drew ?_)))
                              (case side4 => exact (Kd.V_reads' HO186.out).2.1)
                              rintro e w' ⟨rfl, ⟨nd, rfl⟩⟩
                              refine ⟨_, rfl, ?_⟩
                              refine hK.out _ _ ⟨(blk_cell BK171.out 0).trans rfl, (blk_cell BK171.out 1).trans rfl, (blk_cell BK171.out 2).trans rfl, (blk_cell BK171.out 3).trans rfl⟩ (fun hHeld => ?_)
                              clear hK K
                              refine norm_ (a' := ?_) ?_ ?_
                              rotate_left
                              · show Act.put _ (some 76) _ = _
                                simp only [Act.put, List.setIfInBounds_toArray, List.set_cons_zero, List.set_cons_succ, i64_w, i32_w]
                                rfl
                              refine pure_ (i := 9) (N := some 77) (v := ?_) (a' := ?_) #[true, true, true, true, true, true, true, true, true, true] rfl rfl (any_of HT_.out (by kernel_rfl)) (fun _ _ _ h => h) (Or.inl ⟨by rfl, ?_⟩) ?_ ?_
                              rotate_left
                              · intro w'
                                go_simp
                                with_reducible rfl
                              rotate_left
                              · simp only [Act.put, List.setIfInBounds_toArray, List.set_cons_zero, List.set_cons_succ, i64_w, i32_w]
                                rfl
                              refine done_ (done_of HT_.out (by kernel_rfl)) ?_
                              try go_wp2
                              go_ret
                              exact ⟨by first | rfl | (simp [errW_none, errW_some] <;> rfl) | (simp only [← hji50]; first | rfl | (simp [errW_none, errW_some] <;> rfl)) | (simp [*, errW_none, errW_some] <;> rfl), by repeat (first | (with_reducible first | exact HB.out | apply below_alloc | apply pw_below_drewN | apply below_drew1 | refine below_set ?_ GE171.out) | exact HB.out)⟩
                          · rw [if_neg c52] at H
                            exact absurd H (by simp)
                        · rw [if_neg c51] at H
                          exact absurd H (by simp)
                      · rw [if_neg c49] at H
                        exact absurd H (by simp)
                    · replace c47 := Bool.eq_false_iff.mpr c47
                      subst c47
                      have H1 : (if t164 = 0 then (some ((t167.length : Int) == 0)) else (some false)) = some r := by rw [if_neg (show ¬ (false = true) by decide)] at H; exact H
                      clear H
                      have H := H1
                      clear H1
                      by_cases c102 : t164 = 0
                      · rw [if_pos c102] at H
                        have c102b0 : (t164 == 0) = true := beq_iff_eq.mpr c102
                        have c102b1 : (t164 != 0) = false := bne_eq_false_iff_eq.mpr c102
                        clear c102
                        obtain rfl := Option.some.inj H
                        have hcz103_0 : wc.cell? ⟨gb171, 0, none⟩ = some (.int .i64 t164) := (blk_cell BK171.out 0).trans rfl
                        have hcz103_1 : wc.cell? ⟨gb171, 1, none⟩ = some (.int .i64 t165) := (blk_cell BK171.out 1).trans rfl
                        have hcz103_2 : wc.cell? ⟨gb171, 2, none⟩ = some (.int .i64 t166) := (blk_cell BK171.out 2).trans rfl
                        have hcz103_3 : wc.cell? ⟨gb171, 3, none⟩ = some (.slice Ao32 t167.length co32) := (blk_cell BK171.out 3).trans rfl
                        have hfz103_0 := blk_frozen BK171.out 0
                        have hfz103_1 := blk_frozen BK171.out 1
                        have hfz103_2 := blk_frozen BK171.out 2
                        have hfz103_3 := blk_frozen BK171.out 3
                        go_wp2
                        go_ret
                        exact ⟨by first | rfl | (simp [errW_none, errW_some] <;> rfl) | (simp [*, errW_none, errW_some] <;> rfl), by repeat (first | (with_reducible first | exact HB.out | apply below_alloc | apply pw_below_drewN | apply below_drew1 | refine below_set ?_ GE171.out) | exact HB.out)⟩
                      · rw [if_neg c102] at H
                        have c102b0 : (t164 == 0) = false := beq_eq_false_iff_ne.mpr c102
                        have c102b1 : (t164 != 0) = true := bne_iff_ne.mpr c102
                        obtain rfl := Option.some.inj H
                        have hcz104_0 : wc.cell? ⟨gb171, 0, none⟩ = some (.int .i64 t164) := (blk_cell BK171.out 0).trans rfl
                        have hcz104_1 : wc.cell? ⟨gb171, 1, none⟩ = some (.int .i64 t165) := (blk_cell BK171.out 1).trans rfl
                        have hcz104_2 : wc.cell? ⟨gb171, 2, none⟩ = some (.int .i64 t166) := (blk_cell BK171.out 2).trans rfl
                        have hcz104_3 : wc.cell? ⟨gb171, 3, none⟩ = some (.slice Ao32 t167.length co32) := (blk_cell BK171.out 3).trans rfl
                        have hfz104_0 := blk_frozen BK171.out 0
                        have hfz104_1 := blk_frozen BK171.out 1
                        have hfz104_2 := blk_frozen BK171.out 2
                        have hfz104_3 := blk_frozen BK171.out 3
                        go_wp2
                        go_ret
                        exact ⟨by first | rfl | (simp [errW_none, errW_some] <;> rfl) | (simp [*, errW_none, errW_some] <;> rfl), by repeat (first | (with_reducible first | exact HB.out | apply below_alloc | apply pw_below_drewN | apply below_drew1 | refine below_set ?_ GE171.out) | exact HB.out)⟩
            · rw [if_neg c16] at H
              exact absurd H (by simp)
          · rw [if_neg c14] at H
            exact absurd H (by simp)
  · replace c5 := Bool.eq_false_iff.mpr c5
    subst c5
    have H1 : (some false) = some r := by rw [if_neg (show ¬ (false = true) by decide)] at H; exact H
    clear H
    have H := H1
    clear H1
    obtain rfl := Option.some.inj H
    go_enter Try.func6, Try.ntmps6
    go_wp2_with (first | ((with_reducible refine gate_callee (f := 24) rfl ?_); refine goesL_ (some 13) rfl rfl Try.func24 (by kernel_rfl) rfl #[] rfl (by (try simp only [List.map_toArray, List.map_cons, List.map_nil]); first | done | rfl | (simp only [List.length_drop, List.length_take]; rfl)) ?_; (with_reducible refine (batonlaw39_awake.calls k  false _ A4.out).mono ?_); rintro e w105 ⟨rfl, hb⟩; refine ⟨_, rfl, ?_⟩; have n0_ := Aside0.mk (below_step (by repeat (first | (with_reducible first | exact HB.out | apply below_alloc | apply pw_below_drewN | apply below_drew1) | exact HB.out)) hb); clear HB; have HB := n0_; clear n0_; (try clear hb); (try clear hb2); (try clear hk); (try clear hi)))
    go_ret
    exact ⟨by first | rfl | (simp [errW_none, errW_some] <;> rfl) | (simp [*, errW_none, errW_some] <;> rfl), by repeat (first | (with_reducible first | exact HB.out | apply below_alloc | apply pw_below_drewN | apply below_drew1) | exact HB.out)⟩

/-- THE ONE PURE STATEMENT of batonlaw39_BagPuts. -/
def WF50 (x : S50) : Prop := (Lit.int .i64 x.f0).wf = true ∧ (Lit.int .i64 x.f1).wf = true ∧ (Lit.int .i64 x.f2).wf = true ∧ (x.f3.length ≤ maxLen ∧ ∀ x_ ∈ x.f3, (Lit.int .u8 x_).wf = true)
def batonlaw39_BagPuts.Pure : Prop := ∀ (l0 : List (S50)) (l1 : List (S50)) (a2 : Int), (l0.length ≤ maxLen ∧ ∀ x_ ∈ l0, WF50 x_) → (l1.length ≤ maxLen ∧ ∀ x_ ∈ l1, WF50 x_) → (Lit.int .i64 a2).wf = true → ∃ k, batonlaw39_BagPuts.f k l0 l1 a2 = some true

end Go.Proofs.Ythcpfkkddfgamaa.PF39
