/- By a program of this session (wip/tool/pp.py): plain Lean functions of the Go functions that this family of laws uses, the walks that the Go code comes to their answers, and the row of the law. No condition beside those that the row itself gives. -/
import Derived.Test.YtgnbhomdkchcfaaPF11Px0
import Derived.Test.YtgnbhomdkchcfaaPF11Px3
import Derived.Test.YtgnbhomdkchcfaaPF11Px4
namespace Go.Proofs.Ytgnbhomdkchcfaa.PF11P
open Go.RowKit Go.Proofs.YtgnbhomdkchcfaaW.Hand Go.Proofs.YtgnbhomdkchcfaaW.PrintWords Go.Proofs.YtgnbhomdkchcfaaW.PrintLast Go.Proofs.YtgnbhomdkchcfaaW.PrintMore
attribute [local go_sem] max2_int min2_int max_two min_two max_three min_three max_four min_four   -- for this text's walks alone
set_option linter.unusedVariables false
set_option linter.unusedSimpArgs false

/-! ### batonlaw11_TabsPlays: function 4 -/
mutual
def batonlaw11_TabsPlays.j0 : Nat → Int → List (S38) → Int → Bool → Int → List Int → Option (Bool)
  | 0, _, _, _, _, _, _ => none
  | k + 1, x0, x1, x6, x28, x236000, x236001 => if x28 = true then (some false) else (if x6 = 0 then (batonlaw11_TabsPlays.j1 k x0 x1 false x236000 x236001) else (batonlaw11_TabsPlays.j1 k x0 x1 true x236000 x236001))
def batonlaw11_TabsPlays.j1 : Nat → Int → List (S38) → Bool → Int → List Int → Option (Bool)
  | 0, _, _, _, _, _ => none
  | k + 1, x0, x1, x40, x236000, x236001 => if x40 = true then (some false) else ((batonref11_New.f k x0).bind fun t237 => (batonlaw11_TabsPlays.l0 k x1 t237 0 x236000 x236001))
def batonlaw11_TabsPlays.l0 : Nat → List (S38) → List Bool → Int → Int → List Int → Option (Bool)
  | 0, _, _, _, _, _ => none
  | k + 1, x1, x7, x8, x236000, x236001 => if x8 < (x1.length : Int) then (if 0 ≤ x8 then ((batonlaw11_do.f k x236000 x236001 x7 ((rd_T38 x1 x8).f0) ((rd_T38 x1 x8).f1)).bind fun bt241 => ((tabs_Stops_List.f bt241.2.2.1 bt241.2.2.2).bind fun bt249 => (batonlaw11_TabsPlays.l1 k x1 bt241.1 x8 bt241.2.1 bt249.1 0 0 bt249.2.1 bt249.2.2))) else (none)) else (some true)
def batonlaw11_TabsPlays.l1 : Nat → List (S38) → List Bool → Int → Bool → List Int → Int → Int → Int → List Int → Option (Bool)
  | 0, _, _, _, _, _, _, _, _, _ => none
  | k + 1, x1, x7, x8, x9, x10, x11, x12, x236000, x236001 => if x12 < (x7.length : Int) then (batonlaw11_TabsPlays.j4 k x1 x7 x8 x9 x10 x11 x12 x9 x236000 x236001) else (batonlaw11_TabsPlays.j4 k x1 x7 x8 x9 x10 x11 x12 false x236000 x236001)
def batonlaw11_TabsPlays.j4 : Nat → List (S38) → List Bool → Int → Bool → List Int → Int → Int → Bool → Int → List Int → Option (Bool)
  | 0, _, _, _, _, _, _, _, _, _, _ => none
  | k + 1, x1, x7, x8, x9, x10, x11, x12, x67, x236000, x236001 => if x67 = true then (if 0 ≤ x12 then (if x12 < (x7.length : Int) then (if rdOf false x7 x12 = true then (if x11 ≥ (x10.length : Int) then (some false) else (if 0 ≤ x11 then (if x11 < (x10.length : Int) then (if (rd x10 x11) = x12 then (batonlaw11_TabsPlays.l1 k x1 x7 x8 x9 x10 (wrap64 (x11 + 1)) (wrap64 (x12 + 1)) x236000 x236001) else (some false)) else (none)) else (none))) else (batonlaw11_TabsPlays.l1 k x1 x7 x8 x9 x10 x11 (wrap64 (x12 + 1)) x236000 x236001)) else (none)) else (none)) else (if x9 = true then (if x11 = (x10.length : Int) then (batonlaw11_TabsPlays.l0 k x1 x7 (wrap64 (x8 + 1)) x236000 x236001) else (some false)) else (some false))
end
def batonlaw11_TabsPlays.f (k : Nat) (a0 : Int) (l1 : List (S38)) : Option (Bool) := (batonlaw11_awake.f k).bind fun t229 => (if t229 = true then (if (l1.length : Int) > 30 then (some true) else ((tabs_New.f k a0).bind fun bt230 => (if bt230.1 = true then (if a0 < 1 then (batonlaw11_TabsPlays.j0 k a0 l1 bt230.2.2.2 true bt230.2.1 bt230.2.2.1) else (batonlaw11_TabsPlays.j0 k a0 l1 bt230.2.2.2 (decide (a0 > 132)) bt230.2.1 bt230.2.2.1)) else (if a0 < 1 then (some (bt230.2.2.2 == 22)) else (if a0 > 132 then (some (bt230.2.2.2 == 22)) else (if bt230.2.2.2 = 0 then (some false) else (some false))))))) else (some false))
theorem batonlaw11_TabsPlays.mono_l : ∀ k, (∀ y0 y1 y2 y3 y4 y5, LeO (batonlaw11_TabsPlays.j0 k y0 y1 y2 y3 y4 y5) (batonlaw11_TabsPlays.j0 (k + 1) y0 y1 y2 y3 y4 y5)) ∧ (∀ y0 y1 y2 y3 y4, LeO (batonlaw11_TabsPlays.j1 k y0 y1 y2 y3 y4) (batonlaw11_TabsPlays.j1 (k + 1) y0 y1 y2 y3 y4)) ∧ (∀ y0 y1 y2 y3 y4, LeO (batonlaw11_TabsPlays.l0 k y0 y1 y2 y3 y4) (batonlaw11_TabsPlays.l0 (k + 1) y0 y1 y2 y3 y4)) ∧ (∀ y0 y1 y2 y3 y4 y5 y6 y7 y8, LeO (batonlaw11_TabsPlays.l1 k y0 y1 y2 y3 y4 y5 y6 y7 y8) (batonlaw11_TabsPlays.l1 (k + 1) y0 y1 y2 y3 y4 y5 y6 y7 y8)) ∧ (∀ y0 y1 y2 y3 y4 y5 y6 y7 y8 y9, LeO (batonlaw11_TabsPlays.j4 k y0 y1 y2 y3 y4 y5 y6 y7 y8 y9) (batonlaw11_TabsPlays.j4 (k + 1) y0 y1 y2 y3 y4 y5 y6 y7 y8 y9))
  | 0 => ⟨fun _ _ _ _ _ _ r h => by simp [batonlaw11_TabsPlays.j0] at h, fun _ _ _ _ _ r h => by simp [batonlaw11_TabsPlays.j1] at h, fun _ _ _ _ _ r h => by simp [batonlaw11_TabsPlays.l0] at h, fun _ _ _ _ _ _ _ _ _ r h => by simp [batonlaw11_TabsPlays.l1] at h, fun _ _ _ _ _ _ _ _ _ _ r h => by simp [batonlaw11_TabsPlays.j4] at h⟩
  | k + 1 => by
    obtain ⟨ih0, ih1, ih2, ih3, ih4⟩ := batonlaw11_TabsPlays.mono_l k
    refine ⟨?_, ?_, ?_, ?_, ?_⟩
    · intro y0 y1 y2 y3 y4 y5
      unfold batonlaw11_TabsPlays.j0
      repeat' first
      | (with_reducible exact ih0 _ _ _ _ _ _)
      | (with_reducible exact ih1 _ _ _ _ _)
      | (with_reducible exact ih2 _ _ _ _ _)
      | (with_reducible exact ih3 _ _ _ _ _ _ _ _ _)
      | (with_reducible exact ih4 _ _ _ _ _ _ _ _ _ _)
      | (with_reducible exact batonlaw11_awake.mono _)
      | (with_reducible exact batonlaw11_do.mono _ _ _ _ _ _)
      | (with_reducible exact batonref11_New.mono _ _)
      | (with_reducible exact tabs_New.mono _ _)
      | (with_reducible exact LeO.refl _)
      | (with_reducible exact LeO.none _)
      | (with_reducible refine LeO.ite ?_ ?_)
      | (with_reducible refine LeO.bind ?_ (fun _ => ?_))
      | exact ih0 _ _ _ _ _ _
      | exact ih1 _ _ _ _ _
      | exact ih2 _ _ _ _ _
      | exact ih3 _ _ _ _ _ _ _ _ _
      | exact ih4 _ _ _ _ _ _ _ _ _ _
      | exact batonlaw11_awake.mono _
      | exact batonlaw11_do.mono _ _ _ _ _ _
      | exact batonref11_New.mono _ _
      | exact tabs_New.mono _ _
      | exact LeO.none _
      | refine LeO.ite ?_ ?_
      | refine LeO.bind ?_ (fun _ => ?_)
    · intro y0 y1 y2 y3 y4
      unfold batonlaw11_TabsPlays.j1
      repeat' first
      | (with_reducible exact ih0 _ _ _ _ _ _)
      | (with_reducible exact ih1 _ _ _ _ _)
      | (with_reducible exact ih2 _ _ _ _ _)
      | (with_reducible exact ih3 _ _ _ _ _ _ _ _ _)
      | (with_reducible exact ih4 _ _ _ _ _ _ _ _ _ _)
      | (with_reducible exact batonlaw11_awake.mono _)
      | (with_reducible exact batonlaw11_do.mono _ _ _ _ _ _)
      | (with_reducible exact batonref11_New.mono _ _)
      | (with_reducible exact tabs_New.mono _ _)
      | (with_reducible exact LeO.refl _)
      | (with_reducible exact LeO.none _)
      | (with_reducible refine LeO.ite ?_ ?_)
      | (with_reducible refine LeO.bind ?_ (fun _ => ?_))
      | exact ih0 _ _ _ _ _ _
      | exact ih1 _ _ _ _ _
      | exact ih2 _ _ _ _ _
      | exact ih3 _ _ _ _ _ _ _ _ _
      | exact ih4 _ _ _ _ _ _ _ _ _ _
      | exact batonlaw11_awake.mono _
      | exact batonlaw11_do.mono _ _ _ _ _ _
      | exact batonref11_New.mono _ _
      | exact tabs_New.mono _ _
      | exact LeO.none _
      | refine LeO.ite ?_ ?_
      | refine LeO.bind ?_ (fun _ => ?_)
    · intro y0 y1 y2 y3 y4
      unfold batonlaw11_TabsPlays.l0
      repeat' first
      | (with_reducible exact ih0 _ _ _ _ _ _)
      | (with_reducible exact ih1 _ _ _ _ _)
      | (with_reducible exact ih2 _ _ _ _ _)
      | (with_reducible exact ih3 _ _ _ _ _ _ _ _ _)
      | (with_reducible exact ih4 _ _ _ _ _ _ _ _ _ _)
      | (with_reducible exact batonlaw11_awake.mono _)
      | (with_reducible exact batonlaw11_do.mono _ _ _ _ _ _)
      | (with_reducible exact batonref11_New.mono _ _)
      | (with_reducible exact tabs_New.mono _ _)
      | (with_reducible exact LeO.refl _)
      | (with_reducible exact LeO.none _)
      | (with_reducible refine LeO.ite ?_ ?_)
      | (with_reducible refine LeO.bind ?_ (fun _ => ?_))
      | exact ih0 _ _ _ _ _ _
      | exact ih1 _ _ _ _ _
      | exact ih2 _ _ _ _ _
      | exact ih3 _ _ _ _ _ _ _ _ _
      | exact ih4 _ _ _ _ _ _ _ _ _ _
      | exact batonlaw11_awake.mono _
      | exact batonlaw11_do.mono _ _ _ _ _ _
      | exact batonref11_New.mono _ _
      | exact tabs_New.mono _ _
      | exact LeO.none _
      | refine LeO.ite ?_ ?_
      | refine LeO.bind ?_ (fun _ => ?_)
    · intro y0 y1 y2 y3 y4 y5 y6 y7 y8
      unfold batonlaw11_TabsPlays.l1
      repeat' first
      | (with_reducible exact ih0 _ _ _ _ _ _)
      | (with_reducible exact ih1 _ _ _ _ _)
      | (with_reducible exact ih2 _ _ _ _ _)
      | (with_reducible exact ih3 _ _ _ _ _ _ _ _ _)
      | (with_reducible exact ih4 _ _ _ _ _ _ _ _ _ _)
      | (with_reducible exact batonlaw11_awake.mono _)
      | (with_reducible exact batonlaw11_do.mono _ _ _ _ _ _)
      | (with_reducible exact batonref11_New.mono _ _)
      | (with_reducible exact tabs_New.mono _ _)
      | (with_reducible exact LeO.refl _)
      | (with_reducible exact LeO.none _)
      | (with_reducible refine LeO.ite ?_ ?_)
      | (with_reducible refine LeO.bind ?_ (fun _ => ?_))
      | exact ih0 _ _ _ _ _ _
      | exact ih1 _ _ _ _ _
      | exact ih2 _ _ _ _ _
      | exact ih3 _ _ _ _ _ _ _ _ _
      | exact ih4 _ _ _ _ _ _ _ _ _ _
      | exact batonlaw11_awake.mono _
      | exact batonlaw11_do.mono _ _ _ _ _ _
      | exact batonref11_New.mono _ _
      | exact tabs_New.mono _ _
      | exact LeO.none _
      | refine LeO.ite ?_ ?_
      | refine LeO.bind ?_ (fun _ => ?_)
    · intro y0 y1 y2 y3 y4 y5 y6 y7 y8 y9
      unfold batonlaw11_TabsPlays.j4
      repeat' first
      | (with_reducible exact ih0 _ _ _ _ _ _)
      | (with_reducible exact ih1 _ _ _ _ _)
      | (with_reducible exact ih2 _ _ _ _ _)
      | (with_reducible exact ih3 _ _ _ _ _ _ _ _ _)
      | (with_reducible exact ih4 _ _ _ _ _ _ _ _ _ _)
      | (with_reducible exact batonlaw11_awake.mono _)
      | (with_reducible exact batonlaw11_do.mono _ _ _ _ _ _)
      | (with_reducible exact batonref11_New.mono _ _)
      | (with_reducible exact tabs_New.mono _ _)
      | (with_reducible exact LeO.refl _)
      | (with_reducible exact LeO.none _)
      | (with_reducible refine LeO.ite ?_ ?_)
      | (with_reducible refine LeO.bind ?_ (fun _ => ?_))
      | exact ih0 _ _ _ _ _ _
      | exact ih1 _ _ _ _ _
      | exact ih2 _ _ _ _ _
      | exact ih3 _ _ _ _ _ _ _ _ _
      | exact ih4 _ _ _ _ _ _ _ _ _ _
      | exact batonlaw11_awake.mono _
      | exact batonlaw11_do.mono _ _ _ _ _ _
      | exact batonref11_New.mono _ _
      | exact tabs_New.mono _ _
      | exact LeO.none _
      | refine LeO.ite ?_ ?_
      | refine LeO.bind ?_ (fun _ => ?_)
theorem batonlaw11_TabsPlays.mono : ∀ a0 a1 k, LeO (batonlaw11_TabsPlays.f k a0 a1) (batonlaw11_TabsPlays.f (k + 1) a0 a1) := by
  intro a0 a1 k
  obtain ⟨ih0, ih1, ih2, ih3, ih4⟩ := batonlaw11_TabsPlays.mono_l k
  unfold batonlaw11_TabsPlays.f
  repeat' first
      | (with_reducible exact ih0 _ _ _ _ _ _)
      | (with_reducible exact ih1 _ _ _ _ _)
      | (with_reducible exact ih2 _ _ _ _ _)
      | (with_reducible exact ih3 _ _ _ _ _ _ _ _ _)
      | (with_reducible exact ih4 _ _ _ _ _ _ _ _ _ _)
      | (with_reducible exact batonlaw11_awake.mono _)
      | (with_reducible exact batonlaw11_do.mono _ _ _ _ _ _)
      | (with_reducible exact batonref11_New.mono _ _)
      | (with_reducible exact tabs_New.mono _ _)
      | (with_reducible exact LeO.refl _)
      | (with_reducible exact LeO.none _)
      | (with_reducible refine LeO.ite ?_ ?_)
      | (with_reducible refine LeO.bind ?_ (fun _ => ?_))
      | exact ih0 _ _ _ _ _ _
      | exact ih1 _ _ _ _ _
      | exact ih2 _ _ _ _ _
      | exact ih3 _ _ _ _ _ _ _ _ _
      | exact ih4 _ _ _ _ _ _ _ _ _ _
      | exact batonlaw11_awake.mono _
      | exact batonlaw11_do.mono _ _ _ _ _ _
      | exact batonref11_New.mono _ _
      | exact tabs_New.mono _ _
      | exact LeO.none _
      | refine LeO.ite ?_ ?_
      | refine LeO.bind ?_ (fun _ => ?_)
set_option maxHeartbeats 8000000 in
set_option maxRecDepth 100000 in
theorem batonlaw11_TabsPlays.calls (k : Nat) (a0 : Int) (A1 : Option Addr) (c1 : Nat) (l1 : List (S38)) (r : Bool) (w : World) (hr1 : Kd.C k38 w A1 l1.length l1) (hc1 : l1.length ≤ c1) (h : batonlaw11_TabsPlays.f k a0 l1 = some r) :
    Calls Try.prog 4 #[.int .i64 a0, .slice A1 l1.length c1] w fun e w' => e = .returned (.bool r) ∧ Below w.heap.size w w' := by
  have hu38 := Try.underlying38
  have HR1 := Aside0.mk hr1
  have HC1 := Aside0.mk hc1
  clear hr1 hc1
  have HB := Aside0.mk (Below.refl w.heap.size w)
  have H : ((batonlaw11_awake.f k).bind fun t229 => (if t229 = true then (if (l1.length : Int) > 30 then (some true) else ((tabs_New.f k a0).bind fun bt230 => (if bt230.1 = true then (if a0 < 1 then (batonlaw11_TabsPlays.j0 k a0 l1 bt230.2.2.2 true bt230.2.1 bt230.2.2.1) else (batonlaw11_TabsPlays.j0 k a0 l1 bt230.2.2.2 (decide (a0 > 132)) bt230.2.1 bt230.2.2.1)) else (if a0 < 1 then (some (bt230.2.2.2 == 22)) else (if a0 > 132 then (some (bt230.2.2.2 == 22)) else (if bt230.2.2.2 = 0 then (some false) else (some false))))))) else (some false))) = some r := h
  clear h
  replace H := Option.bind_eq_some_iff.mp H
  obtain ⟨t229, A30, H⟩ := H
  replace H : (if t229 = true then (if (l1.length : Int) > 30 then (some true) else ((tabs_New.f k a0).bind fun bt230 => (if bt230.1 = true then (if a0 < 1 then (batonlaw11_TabsPlays.j0 k a0 l1 bt230.2.2.2 true bt230.2.1 bt230.2.2.1) else (batonlaw11_TabsPlays.j0 k a0 l1 bt230.2.2.2 (decide (a0 > 132)) bt230.2.1 bt230.2.2.1)) else (if a0 < 1 then (some (bt230.2.2.2 == 22)) else (if a0 > 132 then (some (bt230.2.2.2 == 22)) else (if bt230.2.2.2 = 0 then (some false) else (some false))))))) else (some false)) = some r := H
  have A3 := Aside0.mk A30
  clear A30
  by_cases c4 : t229 = true
  · subst c4
    have H1 : (if (l1.length : Int) > 30 then (some true) else ((tabs_New.f k a0).bind fun bt230 => (if bt230.1 = true then (if a0 < 1 then (batonlaw11_TabsPlays.j0 k a0 l1 bt230.2.2.2 true bt230.2.1 bt230.2.2.1) else (batonlaw11_TabsPlays.j0 k a0 l1 bt230.2.2.2 (decide (a0 > 132)) bt230.2.1 bt230.2.2.1)) else (if a0 < 1 then (some (bt230.2.2.2 == 22)) else (if a0 > 132 then (some (bt230.2.2.2 == 22)) else (if bt230.2.2.2 = 0 then (some false) else (some false))))))) = some r := by rw [if_pos rfl] at H; exact H
    clear H
    have H := H1
    clear H1
    by_cases c5 : (l1.length : Int) > 30
    · rw [if_pos c5] at H
      have c5b0 : decide (30 < (l1.length : Int)) = true := decide_eq_true c5
      have c5b1 : decide (30 < l1.length) = true := decide_eq_true (by omega)
      clear c5
      obtain rfl := Option.some.inj H
      go_enter Try.func4, Try.ntmps4
      go_wp2_with (first | ((with_reducible refine gate_callee (f := 8) rfl ?_); refine goesL_ (some 13) rfl rfl Try.func8 (by kernel_rfl) rfl #[] rfl (by (try simp only [List.map_toArray, List.map_cons, List.map_nil]); first | done | rfl | (simp only [List.length_drop, List.length_take]; rfl)) ?_; (with_reducible refine (batonlaw11_awake.calls k  true _ A3.out).mono ?_); rintro e w6 ⟨rfl, hb⟩; refine ⟨_, rfl, ?_⟩; have n0_ := Aside0.mk (below_step (by repeat (first | (with_reducible first | exact HB.out | apply below_alloc | apply pw_below_drewN | apply below_drew1) | exact HB.out)) hb); clear HB; have HB := n0_; clear n0_; (try clear hb); (try clear hb2); (try clear hk); (try clear hi)))
      go_ret
      exact ⟨by first | rfl | (simp [errW_none, errW_some] <;> rfl) | (simp [*, errW_none, errW_some] <;> rfl), by repeat (first | (with_reducible first | exact HB.out | apply below_alloc | apply pw_below_drewN | apply below_drew1) | exact HB.out)⟩
    · rw [if_neg c5] at H
      have c5b0 : decide (30 < (l1.length : Int)) = false := decide_eq_false c5
      have c5b1 : decide (30 < l1.length) = false := decide_eq_false (by omega)
      clear c5
      replace H := Option.bind_eq_some_iff.mp H
      obtain ⟨⟨t230, t231, t232, t236⟩, A70, H⟩ := H
      replace H : (if t230 = true then (if a0 < 1 then (batonlaw11_TabsPlays.j0 k a0 l1 t236 true t231 t232) else (batonlaw11_TabsPlays.j0 k a0 l1 t236 (decide (a0 > 132)) t231 t232)) else (if a0 < 1 then (some (t236 == 22)) else (if a0 > 132 then (some (t236 == 22)) else (if t236 = 0 then (some false) else (some false))))) = some r := H
      have A7 := Aside0.mk A70
      clear A70
      by_cases c8 : t230 = true
      · subst c8
        have H1 : (if a0 < 1 then (batonlaw11_TabsPlays.j0 k a0 l1 t236 true t231 t232) else (batonlaw11_TabsPlays.j0 k a0 l1 t236 (decide (a0 > 132)) t231 t232)) = some r := by rw [if_pos rfl] at H; exact H
        clear H
        have H := H1
        clear H1
        have HC9 := Aside0.mk H
        clear H
        go_enter Try.func4, Try.ntmps4
        go_upto_region 6 with (first | ((with_reducible refine gate_callee (f := 8) rfl ?_); refine goesL_ (some 13) rfl rfl Try.func8 (by kernel_rfl) rfl #[] rfl (by (try simp only [List.map_toArray, List.map_cons, List.map_nil]); first | done | rfl | (simp only [List.length_drop, List.length_take]; rfl)) ?_; (with_reducible refine (batonlaw11_awake.calls k  true _ A3.out).mono ?_); rintro e w10 ⟨rfl, hb⟩; refine ⟨_, rfl, ?_⟩; have n0_ := Aside0.mk (below_step (by repeat (first | (with_reducible first | exact HB.out | apply below_alloc | apply pw_below_drewN | apply below_drew1) | exact HB.out)) hb); clear HB; have HB := n0_; clear n0_; (try clear hb); (try clear hb2); (try clear hk); (try clear hi)) | ((with_reducible refine gate_callee (f := 9) rfl ?_); refine goesL_ (some 20) rfl rfl Try.func9 (by kernel_rfl) rfl #[.int .i64 a0] rfl (by (try simp only [List.map_toArray, List.map_cons, List.map_nil]); first | done | rfl | (simp only [List.length_drop, List.length_take]; rfl)) ?_; (with_reducible refine (tabs_New.calls k a0 true t231 t232 t236 _ A7.out).mono ?_); rintro e w11 ⟨v233, gb235, rfl, ho0, hbn, hgn, hb⟩; refine ⟨_, rfl, ?_⟩; have n0_ := Aside0.mk (Kd.R_lower ho0 (below_size (by repeat (first | (with_reducible first | exact HB.out | apply below_alloc | apply pw_below_drewN | apply below_drew1) | exact HB.out)))); have n1_ := Aside0.mk (hbn rfl); have n2_ := Aside0.mk ((Nat.le_trans (below_size (by repeat (first | (with_reducible first | exact HB.out | apply below_alloc | apply pw_below_drewN | apply below_drew1) | exact HB.out))) hgn : w.heap.size ≤ gb235)); have n3_ := Aside0.mk ((Nat.le_trans (below_size (by repeat (first | (with_reducible first | exact HB.out | apply below_alloc | apply pw_below_drewN | apply below_drew1) | exact HB.out))) hgn : w.heap.size ≤ gb235)); have n4_ := Aside0.mk (below_step (by repeat (first | (with_reducible first | exact HB.out | apply below_alloc | apply pw_below_drewN | apply below_drew1) | exact HB.out)) hb); clear HB; have HO234 := n0_; have BK235 := n1_; have GW235 := n2_; have GE235 := n3_; have HB := n4_; clear n0_ n1_ n2_ n3_ n4_; (try simp only [ptrW_true, ptrW_false]); (try clear hbn); (try clear hgn); (try clear hb); (try clear hb2); (try clear hk); (try clear hi); (try clear ho0)))
        (try simp only [Act.put, List.setIfInBounds_toArray, List.set_cons_zero, List.set_cons_succ])
        go_cut [28] (fun v28 wc => ∃ (kq : Nat) (x28_8 : Bool), v28 = .bool x28_8 ∧ Aside0 (batonlaw11_TabsPlays.j0 kq a0 l1 t236 x28_8 t231 t232 = some r) ∧ Aside0 (kq ≤ k) ∧ Aside0 (Kd.R (Kd.int .i64) 3 wc w.heap.size (fun _ => True) v233 t232) ∧ Aside0 (wc.heap[gb235]? = some (.cells #[.int .i64 t231, v233] 66 (0, 0))) ∧ Aside0 (Below w.heap.size w wc))
        case first => as_aux_lemma =>
          have H := HC9.out
          clear HC9
          by_cases c12 : a0 < 1
          · rw [if_pos c12] at H
            have c12b0 : decide (a0 < 1) = true := decide_eq_true c12
            clear c12
            (first | rw [c12b0] | (simp only [i64_w, i32_w]; rw [c12b0]) | rw [c12b1] | rw [c12b2] | skip)
            have H' := Aside0.mk H
            clear H
            go_wp2
            go_meet
            case rel => exact ⟨_, (true), (by first | rfl | (simp; done) | (simp [*]; done)), H', ⟨by first | omega | exact Nat.le_refl _⟩, ⟨by (with_reducible repeat (first | apply Kd.R_alloc | apply Kd.R_drewN | apply Kd.R_drew)); exact HO234.out⟩, ⟨by (with_reducible repeat (first | refine blk_drewN ?_ _ | refine blk_drew ?_ | refine blk_alloc ?_ _)); exact BK235.out⟩, ⟨by repeat (first | (with_reducible first | exact HB.out | apply below_alloc | apply pw_below_drewN | apply below_drew1 | refine below_set ?_ GE235.out) | exact HB.out)⟩⟩
          · rw [if_neg c12] at H
            have c12b0 : decide (a0 < 1) = false := decide_eq_false c12
            clear c12
            (first | rw [c12b0] | (simp only [i64_w, i32_w]; rw [c12b0]) | rw [c12b1] | rw [c12b2] | skip)
            have H' := Aside0.mk H
            clear H
            go_wp2
            go_meet
            case rel => exact ⟨_, (decide (a0 > 132)), (by first | rfl | (simp; done) | (simp [*]; done)), H', ⟨by first | omega | exact Nat.le_refl _⟩, ⟨by (with_reducible repeat (first | apply Kd.R_alloc | apply Kd.R_drewN | apply Kd.R_drew)); exact HO234.out⟩, ⟨by (with_reducible repeat (first | refine blk_drewN ?_ _ | refine blk_drew ?_ | refine blk_alloc ?_ _)); exact BK235.out⟩, ⟨by repeat (first | (with_reducible first | exact HB.out | apply below_alloc | apply pw_below_drewN | apply below_drew1 | refine below_set ?_ GE235.out) | exact HB.out)⟩⟩
        case rest => as_aux_lemma =>
          clear HC9
          try clear c1
          try clear p2
          try clear c4
          try clear c5
          try clear c5b0
          try clear c5b1
          try clear c8
          try clear c9
          try clear c12
          try clear c12b0
          try clear c12b1
          try clear c12b2
          obtain ⟨kq, x28_8, rfl, HA, HJ8, HO_236001, BK235, HB⟩ := hcut
          cases kq with
          | zero => exact absurd HA.out (by simp [batonlaw11_TabsPlays.j0])
          | succ kj8 =>
            have H := HA.out
            clear HA
            simp only [batonlaw11_TabsPlays.j0] at H
            by_cases c13 : x28_8 = true
            · subst c13
              have H1 : (some false) = some r := by rw [if_pos rfl] at H; exact H
              clear H
              have H := H1
              clear H1
              obtain rfl := Option.some.inj H
              go_wp2
              go_ret
              exact ⟨by first | rfl | (simp [errW_none, errW_some] <;> rfl) | (simp [*, errW_none, errW_some] <;> rfl), by repeat (first | (with_reducible first | exact HB.out | apply below_alloc | apply pw_below_drewN | apply below_drew1 | refine below_set ?_ GE235.out) | exact HB.out)⟩
            · replace c13 := Bool.eq_false_iff.mpr c13
              subst c13
              have H1 : (if t236 = 0 then (batonlaw11_TabsPlays.j1 kj8 a0 l1 false t231 t232) else (batonlaw11_TabsPlays.j1 kj8 a0 l1 true t231 t232)) = some r := by rw [if_neg (show ¬ (false = true) by decide)] at H; exact H
              clear H
              have H := H1
              clear H1
              have HC14 := Aside0.mk H
              clear H
              go_upto_region 8 with (fail)
              go_cut [40] (fun v40 wc => ∃ (kq : Nat) (x40_13 : Bool), v40 = .bool x40_13 ∧ Aside0 (batonlaw11_TabsPlays.j1 kq a0 l1 x40_13 t231 t232 = some r) ∧ Aside0 (kq ≤ kj8) ∧ Aside0 (Kd.R (Kd.int .i64) 3 wc w.heap.size (fun _ => True) v233 t232) ∧ Aside0 (wc.heap[gb235]? = some (.cells #[.int .i64 t231, v233] 66 (0, 0))) ∧ Aside0 (Below w.heap.size w wc))
              case first => as_aux_lemma =>
                have H := HC14.out
                clear HC14
                by_cases c15 : t236 = 0
                · rw [if_pos c15] at H
                  have c15b0 : (t236 == 0) = true := beq_iff_eq.mpr c15
                  have c15b1 : (t236 != 0) = false := bne_eq_false_iff_eq.mpr c15
                  clear c15
                  (first | rw [c15b0] | (simp only [i64_w, i32_w]; rw [c15b0]) | rw [c15b1] | rw [c15b2] | skip)
                  have H' := Aside0.mk H
                  clear H
                  go_wp2
                  go_meet
                  case rel => exact ⟨_, (false), (by first | rfl | (simp; done) | (simp [*]; done)), H', ⟨by have := HJ8.out; first | omega | exact Nat.le_refl _⟩, ⟨by (with_reducible repeat (first | apply Kd.R_alloc | apply Kd.R_drewN | apply Kd.R_drew)); exact HO_236001.out⟩, ⟨by (with_reducible repeat (first | refine blk_drewN ?_ _ | refine blk_drew ?_ | refine blk_alloc ?_ _)); exact BK235.out⟩, ⟨by repeat (first | (with_reducible first | exact HB.out | apply below_alloc | apply pw_below_drewN | apply below_drew1 | refine below_set ?_ GE235.out) | exact HB.out)⟩⟩
                · rw [if_neg c15] at H
                  have c15b0 : (t236 == 0) = false := beq_eq_false_iff_ne.mpr c15
                  have c15b1 : (t236 != 0) = true := bne_iff_ne.mpr c15
                  (first | rw [c15b0] | (simp only [i64_w, i32_w]; rw [c15b0]) | rw [c15b1] | rw [c15b2] | skip)
                  have H' := Aside0.mk H
                  clear H
                  go_wp2
                  go_meet
                  case rel => exact ⟨_, (true), (by first | rfl | (simp; done) | (simp [*]; done)), H', ⟨by have := HJ8.out; first | omega | exact Nat.le_refl _⟩, ⟨by (with_reducible repeat (first | apply Kd.R_alloc | apply Kd.R_drewN | apply Kd.R_drew)); exact HO_236001.out⟩, ⟨by (with_reducible repeat (first | refine blk_drewN ?_ _ | refine blk_drew ?_ | refine blk_alloc ?_ _)); exact BK235.out⟩, ⟨by repeat (first | (with_reducible first | exact HB.out | apply below_alloc | apply pw_below_drewN | apply below_drew1 | refine below_set ?_ GE235.out) | exact HB.out)⟩⟩
              case rest => as_aux_lemma =>
                clear HC14
                try clear c1
                try clear p2
                try clear c4
                try clear c5
                try clear c5b0
                try clear c5b1
                try clear c8
                try clear c9
                try clear c12
                try clear c12b0
                try clear c12b1
                try clear c12b2
                try clear c13
                try clear c15
                try clear c15b0
                try clear c15b1
                try clear c15b2
                try clear p2
                obtain ⟨kq, x40_13, rfl, HA, HJ13, HO_236001, BK235, HB⟩ := hcut
                cases kq with
                | zero => exact absurd HA.out (by simp [batonlaw11_TabsPlays.j1])
                | succ kj13 =>
                  have H := HA.out
                  clear HA
                  simp only [batonlaw11_TabsPlays.j1] at H
                  by_cases c16 : x40_13 = true
                  · subst c16
                    have H1 : (some false) = some r := by rw [if_pos rfl] at H; exact H
                    clear H
                    have H := H1
                    clear H1
                    obtain rfl := Option.some.inj H
                    go_wp2
                    go_ret
                    exact ⟨by first | rfl | (simp [errW_none, errW_some] <;> rfl) | (simp [*, errW_none, errW_some] <;> rfl), by repeat (first | (with_reducible first | exact HB.out | apply below_alloc | apply pw_below_drewN | apply below_drew1 | refine below_set ?_ GE235.out) | exact HB.out)⟩
                  · replace c16 := Bool.eq_false_iff.mpr c16
                    subst c16
                    have H1 : ((batonref11_New.f kj13 a0).bind fun t237 => (batonlaw11_TabsPlays.l0 kj13 l1 t237 0 t231 t232)) = some r := by rw [if_neg (show ¬ (false = true) by decide)] at H; exact H
                    clear H
                    have H := H1
                    clear H1
                    replace H := Option.bind_eq_some_iff.mp H
                    obtain ⟨t237, A170, H⟩ := H
                    replace H : (batonlaw11_TabsPlays.l0 kj13 l1 t237 0 t231 t232) = some r := H
                    have A17 := Aside0.mk A170
                    clear A170
                    have H' := Aside0.mk H
                    clear H
                    go_wp2_with (first | ((with_reducible refine gate_callee (f := 14) rfl ?_); refine goesL_ (some 42) rfl rfl Try.func14 (by kernel_rfl) rfl #[.int .i64 a0] rfl (by (try simp only [List.map_toArray, List.map_cons, List.map_nil]); first | done | rfl | (simp only [List.length_drop, List.length_take]; rfl)) ?_; (with_reducible refine (batonref11_New.calls kj13 a0 t237 _ A17.out).mono ?_); rintro e w18 ⟨v238, rfl, ho0, hb⟩; refine ⟨_, rfl, ?_⟩; have n0_ := Aside0.mk (Kd.R_below (by (with_reducible repeat (first | apply Kd.R_alloc | apply Kd.R_drewN | apply Kd.R_drew)); exact HO_236001.out) hb); have n1_ := Aside0.mk (Kd.R_lower ho0 (below_size (by repeat (first | (with_reducible first | exact HB.out | apply below_alloc | apply pw_below_drewN | apply below_drew1 | refine below_set ?_ GE235.out) | exact HB.out)))); have n2_ := Aside0.mk (blk_below (g := gb235) (o := .cells #[.int .i64 t231, v233] 66 (0, 0)) (by (with_reducible repeat (first | refine blk_drewN ?_ _ | refine blk_drew ?_ | refine blk_alloc ?_ _)); exact BK235.out) hb); have n3_ := Aside0.mk (below_step (by repeat (first | (with_reducible first | exact HB.out | apply below_alloc | apply pw_below_drewN | apply below_drew1 | refine below_set ?_ GE235.out) | exact HB.out)) hb); clear HO_236001; clear BK235; clear HB; have HO_236001 := n0_; have HO239 := n1_; have BK235 := n2_; have HB := n3_; clear n0_ n1_ n2_ n3_; (try clear hb); (try clear hb2); (try clear hk); (try clear hi); (try clear ho0)))
                    go_loopg [7, 8] kj13 (fun kq v7 v8 w' => ∃ (x7_3 : List Bool) (x8_3 : Int) (x236000_3 : Int) (x236001_3 : List Int) (u236001 : Value), v8 = .int .i64 x8_3 ∧ Aside0 (batonlaw11_TabsPlays.l0 kq l1 x7_3 x8_3 x236000_3 x236001_3 = some r) ∧ Aside0 (kq ≤ kj13) ∧ Aside0 (Kd.V Kd.bool 4 w' w.heap.size (fun k_ => some k_ ≠ (u236001 : Value).ownBlock ∧ k_ ≠ gb235) v7 x7_3) ∧ Aside0 (Kd.R (Kd.int .i64) 3 w' w.heap.size (fun _ => True) u236001 x236001_3) ∧ Aside0 (w'.heap[gb235]? = some (.cells #[.int .i64 x236000_3, u236001] 66 (0, 0))) ∧ Aside0 (Below w.heap.size w w'))
                    case atStart => exact ⟨(t237), (0), (t231), (t232), (v233), (by first | rfl | (simp; done) | (simp [*]; done)), H', ⟨Nat.le_refl _⟩, ⟨Kd.R_V (by (with_reducible repeat (first | apply Kd.R_alloc | apply Kd.R_drewN | apply Kd.R_drew)); exact Kd.R_mono (Kd.R_types (Kd.R_apart' HO239.out (Kd.R_typed HO_236001.out) (by decide)) BK235.out (by decide)) (fun _ hk => ⟨hk.1.2, hk.2⟩))⟩, ⟨by (with_reducible repeat (first | apply Kd.R_alloc | apply Kd.R_drewN | apply Kd.R_drew)); exact HO_236001.out⟩, ⟨by (with_reducible repeat (first | refine blk_drewN ?_ _ | refine blk_drew ?_ | refine blk_alloc ?_ _)); exact BK235.out⟩, ⟨by repeat (first | (with_reducible first | exact HB.out | apply below_alloc | apply pw_below_drewN | apply below_drew1 | refine below_set ?_ GE235.out) | exact HB.out)⟩⟩
                    case round => as_aux_lemma =>
                      clear H'
                      try clear c1
                      try clear p2
                      try clear c4
                      try clear c5
                      try clear c5b0
                      try clear c5b1
                      try clear c8
                      try clear c9
                      try clear c12
                      try clear c12b0
                      try clear c12b1
                      try clear c12b2
                      try clear c13
                      try clear c14
                      try clear c15
                      try clear c15b0
                      try clear c15b1
                      try clear c15b2
                      try clear c16
                      try clear p2
                      obtain ⟨x7_3, x8_3, x236000_3, x236001_3, u236001, rfl, HA, HK3, HO_7, HO_236001, BK235, HB⟩ := hrel
                      cases gk with
                      | zero => exact absurd HA.out (by simp [batonlaw11_TabsPlays.l0])
                      | succ k3 =>
                        have H := HA.out
                        clear HA
                        simp only [batonlaw11_TabsPlays.l0] at H
                        by_cases c19 : x8_3 < (l1.length : Int)
                        · rw [if_pos c19] at H
                          have c19b0 : decide (x8_3 < (l1.length : Int)) = true := decide_eq_true c19
                          clear c19
                          by_cases c20 : 0 ≤ x8_3
                          · rw [if_pos c20] at H
                            have c20b0 : decide (0 ≤ x8_3) = true := decide_eq_true c20
                            clear c20
                            replace H := Option.bind_eq_some_iff.mp H
                            obtain ⟨⟨t241, t244, t245, t246⟩, A210, H⟩ := H
                            replace H : ((tabs_Stops_List.f t245 t246).bind fun bt249 => (batonlaw11_TabsPlays.l1 k3 l1 t241 x8_3 t244 bt249.1 0 0 bt249.2.1 bt249.2.2)) = some r := H
                            have A21 := Aside0.mk A210
                            clear A210
                            replace H := Option.bind_eq_some_iff.mp H
                            obtain ⟨⟨t249, t252, t253⟩, A220, H⟩ := H
                            replace H : (batonlaw11_TabsPlays.l1 k3 l1 t241 x8_3 t244 t249 0 0 t252 t253) = some r := H
                            have A22 := Aside0.mk A220
                            clear A220
                            have H' := Aside0.mk H
                            clear H
                            have p240 : 0 ≤ (x8_3 : Int) := of_decide_eq_true (by first | (with_reducible assumption) | assumption)
                            have q240 : x8_3 < (l1.length : Int) := of_decide_eq_true (by first | (with_reducible assumption) | assumption)
                            obtain ⟨ad240, e240, hx240_0, hx240_1⟩ := at_T38 HR1.out x8_3 p240 q240
                            cases e240
                            replace hx240_0 := (HB.out.cell (World.block_lt_of_cell? w _ hx240_0)).trans hx240_0
                            replace hx240_1 := (HB.out.cell (World.block_lt_of_cell? w _ hx240_1)).trans hx240_1
                            replace p240 := eq_true p240
                            replace q240 := eq_true q240
                            obtain ⟨Ao23, co23, eo23⟩ := Kd.R_slice HO_236001.out
                            subst eo23
                            obtain ⟨Ao24, co24, eo24⟩ := Kd.V_slice HO_7.out
                            subst eo24
                            go_wp2_with (first | ((with_reducible refine gate_callee (f := 15) rfl ?_); refine goesL_ (some 56) rfl rfl Try.func15 (by kernel_rfl) rfl #[.pointer (some ⟨gb235, 0, none⟩), .slice Ao24 x7_3.length co24, .agg #[.int .i64 ((rd_T38 l1 x8_3).f0), .int .i64 ((rd_T38 l1 x8_3).f1)]] rfl (by (try simp only [List.map_toArray, List.map_cons, List.map_nil]); first | done | rfl | (simp only [List.length_drop, List.length_take]; rfl)) ?_; (with_reducible refine (batonlaw11_do.calls k3 gb235 x236000_3 (fun k_ => some k_ = (.slice Ao23 x236001_3.length co23 : Value).ownBlock) (.slice Ao23 x236001_3.length co23) x236001_3 (fun k_ => (some k_ ≠ (.slice Ao23 x236001_3.length co23 : Value).ownBlock ∧ k_ ≠ gb235)) _ _ x7_3 ((rd_T38 l1 x8_3).f0) ((rd_T38 l1 x8_3).f1) t241 t244 t245 t246 w _ ?side2 ?side3 ?side1 ?side4 ?side5 A21.out).mono ?_); (case side1 => repeat (first | (with_reducible first | exact HB.out | apply below_alloc | apply pw_below_drewN | apply below_drew1 | refine below_set ?_ GE235.out) | exact HB.out)); (case side2 => (with_reducible repeat (first | refine blk_drewN ?_ _ | refine blk_drew ?_ | refine blk_alloc ?_ _)); exact BK235.out); (case side3 => exact GE235.out); (case side4 => exact Kd.R_tight rfl HO_236001.out); (case side5 => exact Kd.V_mono (HO_7.out) (fun k_ hk_ => ⟨hk_, hk_.1, hk_.2⟩)); rintro e w25 ⟨v242, v247, rfl, ho0, ho1, hbx, hb, hkp⟩; refine ⟨_, rfl, ?_⟩; have n0_ := Aside0.mk (Kd.V_mono (ok' := fun k_ => k_ ≠ gb235 ∧ some k_ ≠ (v247 : Value).ownBlock) (Kd.V_keptB (HO_7.out) hkp (fun k_ hk_ hs_ => Or.elim hs_ (fun hs_ => (hk_.1) hs_) (fun e_ => (hk_.2) e_))) (fun k_ hk_ => ⟨hk_.1.2, fun e_ => Or.elim (ho1.1 k_ e_.symm) (fun hs_ => hk_.2.1 (.inl hs_)) (fun hn_ => Nat.not_le.2 hk_.2.2 hn_)⟩)); have n1_ := Aside0.mk (hbx); have n2_ := Aside0.mk (Kd.V_mono (ok' := fun k_ => some k_ ≠ (v247 : Value).ownBlock ∧ k_ ≠ gb235) ho0 (fun k_ hk_ => ⟨hk_.2, Or.elim hk_.1 (fun hs_ => Or.elim hs_ (fun hs_ => fun e_ => (Kd.R_ne HO_236001.out BK235.out (by decide)) (by rw [← e_]; exact hs_)) (fun hs_ => hs_.2)) (fun hn_ => (Kd.freshB (g := gb235) (o := .cells #[.int .i64 x236000_3, .slice Ao23 x236001_3.length co23] 66 (0, 0)) (by (with_reducible repeat (first | refine blk_drewN ?_ _ | refine blk_drew ?_ | refine blk_alloc ?_ _)); exact BK235.out) k_ hn_))⟩)); have n3_ := Aside0.mk (Kd.R_mono (ok' := fun k_ => True) ho1 (fun k_ hk_ => trivial)); have n4_ := Aside0.mk (hb); clear HO_7; clear BK235; clear HB; clear HO_236001; have HO_7 := n0_; have BK235 := n1_; have HO243 := n2_; have HO248 := n3_; have HB := n4_; clear n0_ n1_ n2_ n3_ n4_; (try clear hbx); (try clear hbn); (try clear hgn); (try clear hb); (try clear hkp); (try clear ho0); (try clear ho1); obtain ⟨Ao26, co26, eo26⟩ := Kd.R_slice HO248.out; subst eo26) | ((with_reducible refine gate_callee (f := 13) rfl ?_); refine goesL_ (some 60) rfl rfl Try.func13 (by kernel_rfl) rfl #[.pointer (some ⟨gb235, 0, none⟩)] rfl (by (try simp only [List.map_toArray, List.map_cons, List.map_nil]); first | done | rfl | (simp only [List.length_drop, List.length_take]; rfl)) ?_; (with_reducible refine (tabs_Stops_List.calls gb235 t245 (fun k_ => some k_ = (.slice Ao26 t246.length co26 : Value).ownBlock) (.slice Ao26 t246.length co26) t246 t249 t252 t253 w _ ?side2 ?side3 ?side1 ?side4 A22.out).mono ?_); (case side1 => repeat (first | (with_reducible first | exact HB.out | apply below_alloc | apply pw_below_drewN | apply below_drew1 | refine below_set ?_ GE235.out) | exact HB.out)); (case side2 => (with_reducible repeat (first | refine blk_drewN ?_ _ | refine blk_drew ?_ | refine blk_alloc ?_ _)); exact BK235.out); (case side3 => exact GE235.out); (case side4 => exact Kd.R_tight rfl HO248.out); rintro e w27 ⟨v250, v254, rfl, ho0, ho1, hbx, hb, hkp⟩; refine ⟨_, rfl, ?_⟩; have n0_ := Aside0.mk (Kd.V_mono (ok' := fun k_ => k_ ≠ gb235 ∧ some k_ ≠ (v250 : Value).ownBlock ∧ some k_ ≠ (v254 : Value).ownBlock) (Kd.V_keptB (HO_7.out) hkp (fun k_ hk_ hs_ => Or.elim hs_ (fun hs_ => (hk_.2) hs_) (fun e_ => (hk_.1) e_))) (fun k_ hk_ => ⟨hk_.1.1, fun e_ => Or.elim (ho0.1 k_ e_.symm).1 (fun hs_ => hk_.2.1 (.inl hs_)) (fun hn_ => Nat.not_le.2 hk_.2.2 hn_), fun e_ => Or.elim (ho1.1 k_ e_.symm).1 (fun hs_ => hk_.2.1 (.inl hs_)) (fun hn_ => Nat.not_le.2 hk_.2.2 hn_)⟩)); have n1_ := Aside0.mk (hbx); have n2_ := Aside0.mk (Kd.V_mono (ok' := fun k_ => k_ ≠ gb235 ∧ some k_ ≠ (v250 : Value).ownBlock ∧ some k_ ≠ (v254 : Value).ownBlock) (Kd.V_keptB (HO243.out) hkp (fun k_ hk_ hs_ => Or.elim hs_ (fun hs_ => (hk_.1) hs_) (fun e_ => (hk_.2) e_))) (fun k_ hk_ => ⟨hk_.1.2, fun e_ => Or.elim (ho0.1 k_ e_.symm).1 (fun hs_ => hk_.2.1 (.inl hs_)) (fun hn_ => Nat.not_le.2 hk_.2.2 hn_), fun e_ => Or.elim (ho1.1 k_ e_.symm).1 (fun hs_ => hk_.2.1 (.inl hs_)) (fun hn_ => Nat.not_le.2 hk_.2.2 hn_)⟩)); have n3_ := Aside0.mk (Kd.R_mono (ok' := fun k_ => some k_ ≠ (v254 : Value).ownBlock) ho0 (fun k_ hk_ => hk_.2)); have n4_ := Aside0.mk (Kd.R_mono (ok' := fun k_ => some k_ ≠ (v250 : Value).ownBlock) ho1 (fun k_ hk_ => hk_.2)); have n5_ := Aside0.mk (hb); clear HO_7; clear BK235; clear HO243; clear HB; clear HO248; have HO_7 := n0_; have BK235 := n1_; have HO243 := n2_; have HO251 := n3_; have HO255 := n4_; have HB := n5_; clear n0_ n1_ n2_ n3_ n4_ n5_; (try clear hbx); (try clear hbn); (try clear hgn); (try clear hb); (try clear hkp); (try clear ho0); (try clear ho1)))
                            go_loopg [11, 12] k3 (fun kq v11 v12 w' => ∃ (x11_4 : Int) (x12_4 : Int), v11 = .int .i64 x11_4 ∧ v12 = .int .i64 x12_4 ∧ Aside0 (batonlaw11_TabsPlays.l1 kq l1 t241 x8_3 t244 t249 x11_4 x12_4 t252 t253 = some r) ∧ Aside0 (kq ≤ k3) ∧ Aside0 (Kd.V Kd.bool 4 w' w.heap.size (fun k_ => some k_ ≠ (v250 : Value).ownBlock ∧ some k_ ≠ (v254 : Value).ownBlock ∧ k_ ≠ gb235) v242 t241) ∧ Aside0 (Kd.R (Kd.int .i64) 3 w' w.heap.size (fun k_ => some k_ ≠ (v254 : Value).ownBlock) v250 t249) ∧ Aside0 (Kd.R (Kd.int .i64) 3 w' w.heap.size (fun k_ => some k_ ≠ (v250 : Value).ownBlock) v254 t253) ∧ Aside0 (w'.heap[gb235]? = some (.cells #[.int .i64 t252, v254] 66 (0, 0))) ∧ Aside0 (Below w.heap.size w w'))
                            case atStart => exact ⟨(0), (0), (by first | rfl | (simp; done) | (simp [*]; done)), (by first | rfl | (simp; done) | (simp [*]; done)), H', ⟨Nat.le_refl _⟩, ⟨by (with_reducible repeat (first | apply Kd.V_alloc | apply Kd.V_drewN | apply Kd.V_drew)); exact Kd.V_mono HO243.out (fun _ hk => ⟨hk.2.1, ⟨hk.2.2, hk.1⟩⟩)⟩, ⟨by (with_reducible repeat (first | apply Kd.R_alloc | apply Kd.R_drewN | apply Kd.R_drew)); exact HO251.out⟩, ⟨by (with_reducible repeat (first | apply Kd.R_alloc | apply Kd.R_drewN | apply Kd.R_drew)); exact HO255.out⟩, ⟨by (with_reducible repeat (first | refine blk_drewN ?_ _ | refine blk_drew ?_ | refine blk_alloc ?_ _)); exact BK235.out⟩, ⟨by repeat (first | (with_reducible first | exact HB.out | apply below_alloc | apply pw_below_drewN | apply below_drew1 | refine below_set ?_ GE235.out) | exact HB.out)⟩⟩
                            case round => as_aux_lemma =>
                              clear H'
                              try clear c1
                              try clear c2
                              try clear p2
                              try clear q2
                              try clear hx2
                              try clear c4
                              try clear c5
                              try clear c5b0
                              try clear c5b1
                              try clear c8
                              try clear c9
                              try clear c12
                              try clear c12b0
                              try clear c12b1
                              try clear c12b2
                              try clear c13
                              try clear c14
                              try clear c15
                              try clear c15b0
                              try clear c15b1
                              try clear c15b2
                              try clear c16
                              try clear c19
                              try clear c19b0
                              try clear c20
                              try clear c20b0
                              try clear p24
                              try clear q24
                              try clear hx24
                              try clear hx240_0
                              try clear hx240_1
                              try clear p2
                              try clear p240
                              try clear q240
                              obtain ⟨x11_4, x12_4, rfl, rfl, HA, HK4, HO_7, HO_10, HO_236001, BK235, HB⟩ := hrel
                              cases gk with
                              | zero => exact absurd HA.out (by simp [batonlaw11_TabsPlays.l1])
                              | succ k4 =>
                                have H := HA.out
                                clear HA
                                simp only [batonlaw11_TabsPlays.l1] at H
                                have HC28 := Aside0.mk H
                                clear H
                                go_upto_region 18 with (fail)
                                go_cut [67] (fun v67 wc => ∃ (kq : Nat) (x67_27 : Bool), v67 = .bool x67_27 ∧ Aside0 (batonlaw11_TabsPlays.j4 kq l1 t241 x8_3 t244 t249 x11_4 x12_4 x67_27 t252 t253 = some r) ∧ Aside0 (kq ≤ k4) ∧ Aside0 (Kd.V Kd.bool 4 wc w.heap.size (fun k_ => some k_ ≠ (v250 : Value).ownBlock ∧ some k_ ≠ (v254 : Value).ownBlock ∧ k_ ≠ gb235) v242 t241) ∧ Aside0 (Kd.R (Kd.int .i64) 3 wc w.heap.size (fun k_ => some k_ ≠ (v254 : Value).ownBlock) v250 t249) ∧ Aside0 (Kd.R (Kd.int .i64) 3 wc w.heap.size (fun k_ => some k_ ≠ (v250 : Value).ownBlock) v254 t253) ∧ Aside0 (wc.heap[gb235]? = some (.cells #[.int .i64 t252, v254] 66 (0, 0))) ∧ Aside0 (Below w.heap.size w wc))
                                case first => as_aux_lemma =>
                                  have H := HC28.out
                                  clear HC28
                                  by_cases c29 : x12_4 < (t241.length : Int)
                                  · rw [if_pos c29] at H
                                    have c29b0 : decide (x12_4 < (t241.length : Int)) = true := decide_eq_true c29
                                    clear c29
                                    (first | rw [c29b0] | (simp only [i64_w, i32_w]; rw [c29b0]) | rw [c29b1] | rw [c29b2] | skip)
                                    have H' := Aside0.mk H
                                    clear H
                                    obtain ⟨Ao30, co30, eo30⟩ := Kd.V_slice HO_7.out
                                    subst eo30
                                    go_wp2
                                    go_meet
                                    case rel => exact ⟨_, (t244), (by first | rfl | (simp; done) | (simp [*]; done)), H', ⟨by have := HJ8.out; have := HJ13.out; have := HK3.out; have := HK4.out; first | omega | exact Nat.le_refl _⟩, ⟨by (with_reducible repeat (first | apply Kd.V_alloc | apply Kd.V_drewN | apply Kd.V_drew)); exact HO_7.out⟩, ⟨by (with_reducible repeat (first | apply Kd.R_alloc | apply Kd.R_drewN | apply Kd.R_drew)); exact HO_10.out⟩, ⟨by (with_reducible repeat (first | apply Kd.R_alloc | apply Kd.R_drewN | apply Kd.R_drew)); exact HO_236001.out⟩, ⟨by (with_reducible repeat (first | refine blk_drewN ?_ _ | refine blk_drew ?_ | refine blk_alloc ?_ _)); exact BK235.out⟩, ⟨by repeat (first | (with_reducible first | exact HB.out | apply below_alloc | apply pw_below_drewN | apply below_drew1 | refine below_set ?_ GE235.out) | exact HB.out)⟩⟩
                                  · rw [if_neg c29] at H
                                    have c29b0 : decide (x12_4 < (t241.length : Int)) = false := decide_eq_false c29
                                    clear c29
                                    (first | rw [c29b0] | (simp only [i64_w, i32_w]; rw [c29b0]) | rw [c29b1] | rw [c29b2] | skip)
                                    have H' := Aside0.mk H
                                    clear H
                                    obtain ⟨Ao31, co31, eo31⟩ := Kd.V_slice HO_7.out
                                    subst eo31
                                    go_wp2
                                    go_meet
                                    case rel => exact ⟨_, (false), (by first | rfl | (simp; done) | (simp [*]; done)), H', ⟨by have := HJ8.out; have := HJ13.out; have := HK3.out; have := HK4.out; first | omega | exact Nat.le_refl _⟩, ⟨by (with_reducible repeat (first | apply Kd.V_alloc | apply Kd.V_drewN | apply Kd.V_drew)); exact HO_7.out⟩, ⟨by (with_reducible repeat (first | apply Kd.R_alloc | apply Kd.R_drewN | apply Kd.R_drew)); exact HO_10.out⟩, ⟨by (with_reducible repeat (first | apply Kd.R_alloc | apply Kd.R_drewN | apply Kd.R_drew)); exact HO_236001.out⟩, ⟨by (with_reducible repeat (first | refine blk_drewN ?_ _ | refine blk_drew ?_ | refine blk_alloc ?_ _)); exact BK235.out⟩, ⟨by repeat (first | (with_reducible first | exact HB.out | apply below_alloc | apply pw_below_drewN | apply below_drew1 | refine below_set ?_ GE235.out) | exact HB.out)⟩⟩
                                case rest => as_aux_lemma =>
                                  clear HC28
                                  try clear c1
                                  try clear c2
                                  try clear p2
                                  try clear q2
                                  try clear hx2
                                  try clear c4
                                  try clear c5
                                  try clear c5b0
                                  try clear c5b1
                                  try clear c8
                                  try clear c9
                                  try clear c12
                                  try clear c12b0
                                  try clear c12b1
                                  try clear c12b2
                                  try clear c13
                                  try clear c14
                                  try clear c15
                                  try clear c15b0
                                  try clear c15b1
                                  try clear c15b2
                                  try clear c16
                                  try clear c19
                                  try clear c19b0
                                  try clear c20
                                  try clear c20b0
                                  try clear p24
                                  try clear q24
                                  try clear hx24
                                  try clear c29
                                  try clear c29b0
                                  try clear c29b1
                                  try clear c29b2
                                  try clear hx240_0
                                  try clear hx240_1
                                  try clear p2
                                  try clear p24
                                  try clear p240
                                  try clear q2
                                  try clear q24
                                  try clear q240
                                  obtain ⟨kq, x67_27, rfl, HA, HJ27, HO_7, HO_10, HO_236001, BK235, HB⟩ := hcut
                                  cases kq with
                                  | zero => exact absurd HA.out (by simp [batonlaw11_TabsPlays.j4])
                                  | succ kj27 =>
                                    have H := HA.out
                                    clear HA
                                    simp only [batonlaw11_TabsPlays.j4] at H
                                    by_cases c32 : x67_27 = true
                                    · subst c32
                                      have H1 : (if 0 ≤ x12_4 then (if x12_4 < (t241.length : Int) then (if rdOf false t241 x12_4 = true then (if x11_4 ≥ (t249.length : Int) then (some false) else (if 0 ≤ x11_4 then (if x11_4 < (t249.length : Int) then (if (rd t249 x11_4) = x12_4 then (batonlaw11_TabsPlays.l1 kj27 l1 t241 x8_3 t244 t249 (wrap64 (x11_4 + 1)) (wrap64 (x12_4 + 1)) t252 t253) else (some false)) else (none)) else (none))) else (batonlaw11_TabsPlays.l1 kj27 l1 t241 x8_3 t244 t249 x11_4 (wrap64 (x12_4 + 1)) t252 t253)) else (none)) else (none)) = some r := by rw [if_pos rfl] at H; exact H
                                      clear H
                                      have H := H1
                                      clear H1
                                      by_cases c33 : 0 ≤ x12_4
                                      · rw [if_pos c33] at H
                                        have c33b0 : decide (0 ≤ x12_4) = true := decide_eq_true c33
                                        clear c33
                                        by_cases c34 : x12_4 < (t241.length : Int)
                                        · rw [if_pos c34] at H
                                          have c34b0 : decide (x12_4 < (t241.length : Int)) = true := decide_eq_true c34
                                          clear c34
                                          obtain ⟨bq35, hbq35⟩ : ∃ b_ : Bool, b_ = (rdOf false t241 x12_4) := ⟨_, rfl⟩
                                          replace H : (if bq35 = true then (if x11_4 ≥ (t249.length : Int) then (some false) else (if 0 ≤ x11_4 then (if x11_4 < (t249.length : Int) then (if (rd t249 x11_4) = x12_4 then (batonlaw11_TabsPlays.l1 kj27 l1 t241 x8_3 t244 t249 (wrap64 (x11_4 + 1)) (wrap64 (x12_4 + 1)) t252 t253) else (some false)) else (none)) else (none))) else (batonlaw11_TabsPlays.l1 kj27 l1 t241 x8_3 t244 t249 x11_4 (wrap64 (x12_4 + 1)) t252 t253)) = some r := by rw [← hbq35] at H; exact H
                                          have Nbq35 := Aside0.mk hbq35
                                          clear hbq35
                                          by_cases c36 : bq35 = true
                                          · subst c36
                                            have H1 : (if x11_4 ≥ (t249.length : Int) then (some false) else (if 0 ≤ x11_4 then (if x11_4 < (t249.length : Int) then (if (rd t249 x11_4) = x12_4 then (batonlaw11_TabsPlays.l1 kj27 l1 t241 x8_3 t244 t249 (wrap64 (x11_4 + 1)) (wrap64 (x12_4 + 1)) t252 t253) else (some false)) else (none)) else (none))) = some r := by rw [if_pos rfl] at H; exact H
                                            clear H
                                            have H := H1
                                            clear H1
                                            by_cases c37 : x11_4 ≥ (t249.length : Int)
                                            · rw [if_pos c37] at H
                                              have c37b0 : decide ((t249.length : Int) ≤ x11_4) = true := decide_eq_true c37
                                              clear c37
                                              obtain rfl := Option.some.inj H
                                              obtain ⟨Ao38, co38, eo38⟩ := Kd.V_slice HO_7.out
                                              subst eo38
                                              have p256 : 0 ≤ (x12_4 : Int) := of_decide_eq_true (by first | (with_reducible assumption) | assumption)
                                              have q256 : x12_4 < (t241.length : Int) := of_decide_eq_true (by first | (with_reducible assumption) | assumption)
                                              obtain ⟨ad256, e256, hx256_0⟩ := Kd.at_bool (Kd.V_reads' HO_7.out).2.2 x12_4 p256 q256
                                              (try rw [← Nbq35.out] at hx256_0)
                                              cases e256
                                              replace p256 := eq_true p256
                                              replace q256 := eq_true q256
                                              obtain ⟨Ao39, co39, eo39⟩ := Kd.R_slice HO_10.out
                                              subst eo39
                                              go_wp2
                                              go_ret
                                              exact ⟨by first | rfl | (simp [errW_none, errW_some] <;> rfl) | (simp [*, errW_none, errW_some] <;> rfl), by repeat (first | (with_reducible first | exact HB.out | apply below_alloc | apply pw_below_drewN | apply below_drew1 | refine below_set ?_ GE235.out) | exact HB.out)⟩
                                            · rw [if_neg c37] at H
                                              have c37b0 : decide ((t249.length : Int) ≤ x11_4) = false := decide_eq_false c37
                                              clear c37
                                              by_cases c40 : 0 ≤ x11_4
                                              · rw [if_pos c40] at H
                                                have c40b0 : decide (0 ≤ x11_4) = true := decide_eq_true c40
                                                clear c40
                                                by_cases c41 : x11_4 < (t249.length : Int)
                                                · rw [if_pos c41] at H
                                                  have c41b0 : decide (x11_4 < (t249.length : Int)) = true := decide_eq_true c41
                                                  clear c41
                                                  by_cases c42 : (rd t249 x11_4) = x12_4
                                                  · rw [if_pos c42] at H
                                                    have c42b0 : ((rd t249 x11_4) == x12_4) = true := beq_iff_eq.mpr c42
                                                    have c42b1 : ((rd t249 x11_4) != x12_4) = false := bne_eq_false_iff_eq.mpr c42
                                                    clear c42
                                                    have H' := Aside0.mk H
                                                    clear H
                                                    obtain ⟨Ao43, co43, eo43⟩ := Kd.V_slice HO_7.out
                                                    subst eo43
                                                    have p256 : 0 ≤ (x12_4 : Int) := of_decide_eq_true (by first | (with_reducible assumption) | assumption)
                                                    have q256 : x12_4 < (t241.length : Int) := of_decide_eq_true (by first | (with_reducible assumption) | assumption)
                                                    obtain ⟨ad256, e256, hx256_0⟩ := Kd.at_bool (Kd.V_reads' HO_7.out).2.2 x12_4 p256 q256
                                                    (try rw [← Nbq35.out] at hx256_0)
                                                    cases e256
                                                    replace p256 := eq_true p256
                                                    replace q256 := eq_true q256
                                                    obtain ⟨Ao44, co44, eo44⟩ := Kd.R_slice HO_10.out
                                                    subst eo44
                                                    have p257 : 0 ≤ (x11_4 : Int) := of_decide_eq_true (by first | (with_reducible assumption) | assumption)
                                                    have q257 : x11_4 < (t249.length : Int) := of_decide_eq_true (by first | (with_reducible assumption) | assumption)
                                                    obtain ⟨ad257, e257, hx257_0⟩ := Kd.at_int (Kd.R_reads' HO_10.out).2.2 x11_4 p257 q257
                                                    cases e257
                                                    replace p257 := eq_true p257
                                                    replace q257 := eq_true q257
                                                    go_wp2
                                                    go_roundg kj27
                                                    case measure => have := HJ8.out; have := HJ13.out; have := HK3.out; have := HK4.out; have := HJ27.out; omega
                                                    case rel => exact ⟨(wrap64 (x11_4 + 1)), (wrap64 (x12_4 + 1)), (by first | rfl | (simp; done) | (simp [*]; done)), (by first | rfl | (simp; done) | (simp [*]; done)), H', ⟨by have := HJ8.out; have := HJ13.out; have := HK3.out; have := HK4.out; have := HJ27.out; omega⟩, ⟨by (with_reducible repeat (first | apply Kd.V_alloc | apply Kd.V_drewN | apply Kd.V_drew)); exact HO_7.out⟩, ⟨by (with_reducible repeat (first | apply Kd.R_alloc | apply Kd.R_drewN | apply Kd.R_drew)); exact HO_10.out⟩, ⟨by (with_reducible repeat (first | apply Kd.R_alloc | apply Kd.R_drewN | apply Kd.R_drew)); exact HO_236001.out⟩, ⟨by (with_reducible repeat (first | refine blk_drewN ?_ _ | refine blk_drew ?_ | refine blk_alloc ?_ _)); exact BK235.out⟩, ⟨by repeat (first | (with_reducible first | exact HB.out | apply below_alloc | apply pw_below_drewN | apply below_drew1 | refine below_set ?_ GE235.out) | exact HB.out)⟩⟩
                                                  · rw [if_neg c42] at H
                                                    have c42b0 : ((rd t249 x11_4) == x12_4) = false := beq_eq_false_iff_ne.mpr c42
                                                    have c42b1 : ((rd t249 x11_4) != x12_4) = true := bne_iff_ne.mpr c42
                                                    obtain rfl := Option.some.inj H
                                                    obtain ⟨Ao45, co45, eo45⟩ := Kd.V_slice HO_7.out
                                                    subst eo45
                                                    have p256 : 0 ≤ (x12_4 : Int) := of_decide_eq_true (by first | (with_reducible assumption) | assumption)
                                                    have q256 : x12_4 < (t241.length : Int) := of_decide_eq_true (by first | (with_reducible assumption) | assumption)
                                                    obtain ⟨ad256, e256, hx256_0⟩ := Kd.at_bool (Kd.V_reads' HO_7.out).2.2 x12_4 p256 q256
                                                    (try rw [← Nbq35.out] at hx256_0)
                                                    cases e256
                                                    replace p256 := eq_true p256
                                                    replace q256 := eq_true q256
                                                    obtain ⟨Ao46, co46, eo46⟩ := Kd.R_slice HO_10.out
                                                    subst eo46
                                                    have p257 : 0 ≤ (x11_4 : Int) := of_decide_eq_true (by first | (with_reducible assumption) | assumption)
                                                    have q257 : x11_4 < (t249.length : Int) := of_decide_eq_true (by first | (with_reducible assumption) | assumption)
                                                    obtain ⟨ad257, e257, hx257_0⟩ := Kd.at_int (Kd.R_reads' HO_10.out).2.2 x11_4 p257 q257
                                                    cases e257
                                                    replace p257 := eq_true p257
                                                    replace q257 := eq_true q257
                                                    go_wp2
                                                    go_ret
                                                    exact ⟨by first | rfl | (simp [errW_none, errW_some] <;> rfl) | (simp [*, errW_none, errW_some] <;> rfl), by repeat (first | (with_reducible first | exact HB.out | apply below_alloc | apply pw_below_drewN | apply below_drew1 | refine below_set ?_ GE235.out) | exact HB.out)⟩
                                                · rw [if_neg c41] at H
                                                  exact absurd H (by simp)
                                              · rw [if_neg c40] at H
                                                exact absurd H (by simp)
                                          · replace c36 := Bool.eq_false_iff.mpr c36
                                            subst c36
                                            have H1 : (batonlaw11_TabsPlays.l1 kj27 l1 t241 x8_3 t244 t249 x11_4 (wrap64 (x12_4 + 1)) t252 t253) = some r := by rw [if_neg (show ¬ (false = true) by decide)] at H; exact H
                                            clear H
                                            have H := H1
                                            clear H1
                                            have H' := Aside0.mk H
                                            clear H
                                            obtain ⟨Ao47, co47, eo47⟩ := Kd.V_slice HO_7.out
                                            subst eo47
                                            have p256 : 0 ≤ (x12_4 : Int) := of_decide_eq_true (by first | (with_reducible assumption) | assumption)
                                            have q256 : x12_4 < (t241.length : Int) := of_decide_eq_true (by first | (with_reducible assumption) | assumption)
                                            obtain ⟨ad256, e256, hx256_0⟩ := Kd.at_bool (Kd.V_reads' HO_7.out).2.2 x12_4 p256 q256
                                            (try rw [← Nbq35.out] at hx256_0)
                                            cases e256
                                            replace p256 := eq_true p256
                                            replace q256 := eq_true q256
                                            go_wp2
                                            go_roundg kj27
                                            case measure => have := HJ8.out; have := HJ13.out; have := HK3.out; have := HK4.out; have := HJ27.out; omega
                                            case rel => exact ⟨(x11_4), (wrap64 (x12_4 + 1)), (by first | rfl | (simp; done) | (simp [*]; done)), (by first | rfl | (simp; done) | (simp [*]; done)), H', ⟨by have := HJ8.out; have := HJ13.out; have := HK3.out; have := HK4.out; have := HJ27.out; omega⟩, ⟨by (with_reducible repeat (first | apply Kd.V_alloc | apply Kd.V_drewN | apply Kd.V_drew)); exact HO_7.out⟩, ⟨by (with_reducible repeat (first | apply Kd.R_alloc | apply Kd.R_drewN | apply Kd.R_drew)); exact HO_10.out⟩, ⟨by (with_reducible repeat (first | apply Kd.R_alloc | apply Kd.R_drewN | apply Kd.R_drew)); exact HO_236001.out⟩, ⟨by (with_reducible repeat (first | refine blk_drewN ?_ _ | refine blk_drew ?_ | refine blk_alloc ?_ _)); exact BK235.out⟩, ⟨by repeat (first | (with_reducible first | exact HB.out | apply below_alloc | apply pw_below_drewN | apply below_drew1 | refine below_set ?_ GE235.out) | exact HB.out)⟩⟩
                                        · rw [if_neg c34] at H
                                          exact absurd H (by simp)
                                      · rw [if_neg c33] at H
                                        exact absurd H (by simp)
                                    · replace c32 := Bool.eq_false_iff.mpr c32
                                      subst c32
                                      have H1 : (if t244 = true then (if x11_4 = (t249.length : Int) then (batonlaw11_TabsPlays.l0 kj27 l1 t241 (wrap64 (x8_3 + 1)) t252 t253) else (some false)) else (some false)) = some r := by rw [if_neg (show ¬ (false = true) by decide)] at H; exact H
                                      clear H
                                      have H := H1
                                      clear H1
                                      by_cases c48 : t244 = true
                                      · subst c48
                                        have H1 : (if x11_4 = (t249.length : Int) then (batonlaw11_TabsPlays.l0 kj27 l1 t241 (wrap64 (x8_3 + 1)) t252 t253) else (some false)) = some r := by rw [if_pos rfl] at H; exact H
                                        clear H
                                        have H := H1
                                        clear H1
                                        by_cases c49 : x11_4 = (t249.length : Int)
                                        · rw [if_pos c49] at H
                                          have c49b0 : (x11_4 == (t249.length : Int)) = true := beq_iff_eq.mpr c49
                                          have c49b1 : (x11_4 != (t249.length : Int)) = false := bne_eq_false_iff_eq.mpr c49
                                          clear c49
                                          have H' := Aside0.mk H
                                          clear H
                                          obtain ⟨Ao50, co50, eo50⟩ := Kd.R_slice HO_10.out
                                          subst eo50
                                          go_wp2
                                          go_roundg kj27
                                          case measure => have := HJ8.out; have := HJ13.out; have := HK3.out; have := HK4.out; have := HJ27.out; omega
                                          case rel => exact ⟨(t241), (wrap64 (x8_3 + 1)), (t252), (t253), (v254), (by first | rfl | (simp; done) | (simp [*]; done)), H', ⟨by have := HJ8.out; have := HJ13.out; have := HK3.out; have := HK4.out; have := HJ27.out; omega⟩, ⟨by (with_reducible repeat (first | apply Kd.V_alloc | apply Kd.V_drewN | apply Kd.V_drew)); exact Kd.V_mono HO_7.out (fun _ hk => ⟨hk.2.1, hk.2.2⟩)⟩, ⟨by (with_reducible repeat (first | apply Kd.R_alloc | apply Kd.R_drewN | apply Kd.R_drew)); exact Kd.R_mono HO_236001.out (fun _ hk => trivial)⟩, ⟨by (with_reducible repeat (first | refine blk_drewN ?_ _ | refine blk_drew ?_ | refine blk_alloc ?_ _)); exact BK235.out⟩, ⟨by repeat (first | (with_reducible first | exact HB.out | apply below_alloc | apply pw_below_drewN | apply below_drew1 | refine below_set ?_ GE235.out) | exact HB.out)⟩⟩
                                        · rw [if_neg c49] at H
                                          have c49b0 : (x11_4 == (t249.length : Int)) = false := beq_eq_false_iff_ne.mpr c49
                                          have c49b1 : (x11_4 != (t249.length : Int)) = true := bne_iff_ne.mpr c49
                                          obtain rfl := Option.some.inj H
                                          obtain ⟨Ao51, co51, eo51⟩ := Kd.R_slice HO_10.out
                                          subst eo51
                                          go_wp2
                                          go_ret
                                          exact ⟨by first | rfl | (simp [errW_none, errW_some] <;> rfl) | (simp [*, errW_none, errW_some] <;> rfl), by repeat (first | (with_reducible first | exact HB.out | apply below_alloc | apply pw_below_drewN | apply below_drew1 | refine below_set ?_ GE235.out) | exact HB.out)⟩
                                      · replace c48 := Bool.eq_false_iff.mpr c48
                                        subst c48
                                        have H1 : (some false) = some r := by rw [if_neg (show ¬ (false = true) by decide)] at H; exact H
                                        clear H
                                        have H := H1
                                        clear H1
                                        obtain rfl := Option.some.inj H
                                        go_wp2
                                        go_ret
                                        exact ⟨by first | rfl | (simp [errW_none, errW_some] <;> rfl) | (simp [*, errW_none, errW_some] <;> rfl), by repeat (first | (with_reducible first | exact HB.out | apply below_alloc | apply pw_below_drewN | apply below_drew1 | refine below_set ?_ GE235.out) | exact HB.out)⟩
                          · rw [if_neg c20] at H
                            exact absurd H (by simp)
                        · rw [if_neg c19] at H
                          have c19b0 : decide (x8_3 < (l1.length : Int)) = false := decide_eq_false c19
                          clear c19
                          obtain rfl := Option.some.inj H
                          go_wp2
                          go_ret
                          exact ⟨by first | rfl | (simp [errW_none, errW_some] <;> rfl) | (simp [*, errW_none, errW_some] <;> rfl), by repeat (first | (with_reducible first | exact HB.out | apply below_alloc | apply pw_below_drewN | apply below_drew1 | refine below_set ?_ GE235.out) | exact HB.out)⟩
      · replace c8 := Bool.eq_false_iff.mpr c8
        subst c8
        have H1 : (if a0 < 1 then (some (t236 == 22)) else (if a0 > 132 then (some (t236 == 22)) else (if t236 = 0 then (some false) else (some false)))) = some r := by rw [if_neg (show ¬ (false = true) by decide)] at H; exact H
        clear H
        have H := H1
        clear H1
        by_cases c52 : a0 < 1
        · rw [if_pos c52] at H
          have c52b0 : decide (a0 < 1) = true := decide_eq_true c52
          clear c52
          obtain rfl := Option.some.inj H
          go_enter Try.func4, Try.ntmps4
          go_wp2_with (first | ((with_reducible refine gate_callee (f := 8) rfl ?_); refine goesL_ (some 13) rfl rfl Try.func8 (by kernel_rfl) rfl #[] rfl (by (try simp only [List.map_toArray, List.map_cons, List.map_nil]); first | done | rfl | (simp only [List.length_drop, List.length_take]; rfl)) ?_; (with_reducible refine (batonlaw11_awake.calls k  true _ A3.out).mono ?_); rintro e w53 ⟨rfl, hb⟩; refine ⟨_, rfl, ?_⟩; have n0_ := Aside0.mk (below_step (by repeat (first | (with_reducible first | exact HB.out | apply below_alloc | apply pw_below_drewN | apply below_drew1) | exact HB.out)) hb); clear HB; have HB := n0_; clear n0_; (try clear hb); (try clear hb2); (try clear hk); (try clear hi)) | ((with_reducible refine gate_callee (f := 9) rfl ?_); refine goesL_ (some 20) rfl rfl Try.func9 (by kernel_rfl) rfl #[.int .i64 a0] rfl (by (try simp only [List.map_toArray, List.map_cons, List.map_nil]); first | done | rfl | (simp only [List.length_drop, List.length_take]; rfl)) ?_; (with_reducible refine (tabs_New.calls k a0 false t231 t232 t236 _ A7.out).mono ?_); rintro e w54 ⟨v233, gb235, rfl, ho0, hbn, hgn, hb⟩; refine ⟨_, rfl, ?_⟩; have n0_ := Aside0.mk (Kd.R_lower ho0 (below_size (by repeat (first | (with_reducible first | exact HB.out | apply below_alloc | apply pw_below_drewN | apply below_drew1) | exact HB.out)))); have n1_ := Aside0.mk (below_step (by repeat (first | (with_reducible first | exact HB.out | apply below_alloc | apply pw_below_drewN | apply below_drew1) | exact HB.out)) hb); clear HB; have HO234 := n0_; have HB := n1_; clear n0_ n1_; (try simp only [ptrW_true, ptrW_false]); (try clear hbn); (try clear hgn); (try clear hb); (try clear hb2); (try clear hk); (try clear hi); (try clear ho0)))
          go_ret
          exact ⟨by first | rfl | (simp [errW_none, errW_some] <;> rfl) | (simp [*, errW_none, errW_some] <;> rfl), by repeat (first | (with_reducible first | exact HB.out | apply below_alloc | apply pw_below_drewN | apply below_drew1) | exact HB.out)⟩
        · rw [if_neg c52] at H
          have c52b0 : decide (a0 < 1) = false := decide_eq_false c52
          clear c52
          by_cases c55 : a0 > 132
          · rw [if_pos c55] at H
            have c55b0 : decide (132 < a0) = true := decide_eq_true c55
            clear c55
            obtain rfl := Option.some.inj H
            go_enter Try.func4, Try.ntmps4
            go_wp2_with (first | ((with_reducible refine gate_callee (f := 8) rfl ?_); refine goesL_ (some 13) rfl rfl Try.func8 (by kernel_rfl) rfl #[] rfl (by (try simp only [List.map_toArray, List.map_cons, List.map_nil]); first | done | rfl | (simp only [List.length_drop, List.length_take]; rfl)) ?_; (with_reducible refine (batonlaw11_awake.calls k  true _ A3.out).mono ?_); rintro e w56 ⟨rfl, hb⟩; refine ⟨_, rfl, ?_⟩; have n0_ := Aside0.mk (below_step (by repeat (first | (with_reducible first | exact HB.out | apply below_alloc | apply pw_below_drewN | apply below_drew1) | exact HB.out)) hb); clear HB; have HB := n0_; clear n0_; (try clear hb); (try clear hb2); (try clear hk); (try clear hi)) | ((with_reducible refine gate_callee (f := 9) rfl ?_); refine goesL_ (some 20) rfl rfl Try.func9 (by kernel_rfl) rfl #[.int .i64 a0] rfl (by (try simp only [List.map_toArray, List.map_cons, List.map_nil]); first | done | rfl | (simp only [List.length_drop, List.length_take]; rfl)) ?_; (with_reducible refine (tabs_New.calls k a0 false t231 t232 t236 _ A7.out).mono ?_); rintro e w57 ⟨v233, gb235, rfl, ho0, hbn, hgn, hb⟩; refine ⟨_, rfl, ?_⟩; have n0_ := Aside0.mk (Kd.R_lower ho0 (below_size (by repeat (first | (with_reducible first | exact HB.out | apply below_alloc | apply pw_below_drewN | apply below_drew1) | exact HB.out)))); have n1_ := Aside0.mk (below_step (by repeat (first | (with_reducible first | exact HB.out | apply below_alloc | apply pw_below_drewN | apply below_drew1) | exact HB.out)) hb); clear HB; have HO234 := n0_; have HB := n1_; clear n0_ n1_; (try simp only [ptrW_true, ptrW_false]); (try clear hbn); (try clear hgn); (try clear hb); (try clear hb2); (try clear hk); (try clear hi); (try clear ho0)))
            go_ret
            exact ⟨by first | rfl | (simp [errW_none, errW_some] <;> rfl) | (simp [*, errW_none, errW_some] <;> rfl), by repeat (first | (with_reducible first | exact HB.out | apply below_alloc | apply pw_below_drewN | apply below_drew1) | exact HB.out)⟩
          · rw [if_neg c55] at H
            have c55b0 : decide (132 < a0) = false := decide_eq_false c55
            clear c55
            by_cases c58 : t236 = 0
            · rw [if_pos c58] at H
              have c58b0 : (t236 == 0) = true := beq_iff_eq.mpr c58
              have c58b1 : (t236 != 0) = false := bne_eq_false_iff_eq.mpr c58
              clear c58
              obtain rfl := Option.some.inj H
              go_enter Try.func4, Try.ntmps4
              go_wp2_with (first | ((with_reducible refine gate_callee (f := 8) rfl ?_); refine goesL_ (some 13) rfl rfl Try.func8 (by kernel_rfl) rfl #[] rfl (by (try simp only [List.map_toArray, List.map_cons, List.map_nil]); first | done | rfl | (simp only [List.length_drop, List.length_take]; rfl)) ?_; (with_reducible refine (batonlaw11_awake.calls k  true _ A3.out).mono ?_); rintro e w59 ⟨rfl, hb⟩; refine ⟨_, rfl, ?_⟩; have n0_ := Aside0.mk (below_step (by repeat (first | (with_reducible first | exact HB.out | apply below_alloc | apply pw_below_drewN | apply below_drew1) | exact HB.out)) hb); clear HB; have HB := n0_; clear n0_; (try clear hb); (try clear hb2); (try clear hk); (try clear hi)) | ((with_reducible refine gate_callee (f := 9) rfl ?_); refine goesL_ (some 20) rfl rfl Try.func9 (by kernel_rfl) rfl #[.int .i64 a0] rfl (by (try simp only [List.map_toArray, List.map_cons, List.map_nil]); first | done | rfl | (simp only [List.length_drop, List.length_take]; rfl)) ?_; (with_reducible refine (tabs_New.calls k a0 false t231 t232 t236 _ A7.out).mono ?_); rintro e w60 ⟨v233, gb235, rfl, ho0, hbn, hgn, hb⟩; refine ⟨_, rfl, ?_⟩; have n0_ := Aside0.mk (Kd.R_lower ho0 (below_size (by repeat (first | (with_reducible first | exact HB.out | apply below_alloc | apply pw_below_drewN | apply below_drew1) | exact HB.out)))); have n1_ := Aside0.mk (below_step (by repeat (first | (with_reducible first | exact HB.out | apply below_alloc | apply pw_below_drewN | apply below_drew1) | exact HB.out)) hb); clear HB; have HO234 := n0_; have HB := n1_; clear n0_ n1_; (try simp only [ptrW_true, ptrW_false]); (try clear hbn); (try clear hgn); (try clear hb); (try clear hb2); (try clear hk); (try clear hi); (try clear ho0)))
              go_ret
              exact ⟨by first | rfl | (simp [errW_none, errW_some] <;> rfl) | (simp [*, errW_none, errW_some] <;> rfl), by repeat (first | (with_reducible first | exact HB.out | apply below_alloc | apply pw_below_drewN | apply below_drew1) | exact HB.out)⟩
            · rw [if_neg c58] at H
              have c58b0 : (t236 == 0) = false := beq_eq_false_iff_ne.mpr c58
              have c58b1 : (t236 != 0) = true := bne_iff_ne.mpr c58
              obtain rfl := Option.some.inj H
              go_enter Try.func4, Try.ntmps4
              go_wp2_with (first | ((with_reducible refine gate_callee (f := 8) rfl ?_); refine goesL_ (some 13) rfl rfl Try.func8 (by kernel_rfl) rfl #[] rfl (by (try simp only [List.map_toArray, List.map_cons, List.map_nil]); first | done | rfl | (simp only [List.length_drop, List.length_take]; rfl)) ?_; (with_reducible refine (batonlaw11_awake.calls k  true _ A3.out).mono ?_); rintro e w61 ⟨rfl, hb⟩; refine ⟨_, rfl, ?_⟩; have n0_ := Aside0.mk (below_step (by repeat (first | (with_reducible first | exact HB.out | apply below_alloc | apply pw_below_drewN | apply below_drew1) | exact HB.out)) hb); clear HB; have HB := n0_; clear n0_; (try clear hb); (try clear hb2); (try clear hk); (try clear hi)) | ((with_reducible refine gate_callee (f := 9) rfl ?_); refine goesL_ (some 20) rfl rfl Try.func9 (by kernel_rfl) rfl #[.int .i64 a0] rfl (by (try simp only [List.map_toArray, List.map_cons, List.map_nil]); first | done | rfl | (simp only [List.length_drop, List.length_take]; rfl)) ?_; (with_reducible refine (tabs_New.calls k a0 false t231 t232 t236 _ A7.out).mono ?_); rintro e w62 ⟨v233, gb235, rfl, ho0, hbn, hgn, hb⟩; refine ⟨_, rfl, ?_⟩; have n0_ := Aside0.mk (Kd.R_lower ho0 (below_size (by repeat (first | (with_reducible first | exact HB.out | apply below_alloc | apply pw_below_drewN | apply below_drew1) | exact HB.out)))); have n1_ := Aside0.mk (below_step (by repeat (first | (with_reducible first | exact HB.out | apply below_alloc | apply pw_below_drewN | apply below_drew1) | exact HB.out)) hb); clear HB; have HO234 := n0_; have HB := n1_; clear n0_ n1_; (try simp only [ptrW_true, ptrW_false]); (try clear hbn); (try clear hgn); (try clear hb); (try clear hb2); (try clear hk); (try clear hi); (try clear ho0)))
              go_ret
              exact ⟨by first | rfl | (simp [errW_none, errW_some] <;> rfl) | (simp [*, errW_none, errW_some] <;> rfl), by repeat (first | (with_reducible first | exact HB.out | apply below_alloc | apply pw_below_drewN | apply below_drew1) | exact HB.out)⟩
  · replace c4 := Bool.eq_false_iff.mpr c4
    subst c4
    have H1 : (some false) = some r := by rw [if_neg (show ¬ (false = true) by decide)] at H; exact H
    clear H
    have H := H1
    clear H1
    obtain rfl := Option.some.inj H
    go_enter Try.func4, Try.ntmps4
    go_wp2_with (first | ((with_reducible refine gate_callee (f := 8) rfl ?_); refine goesL_ (some 13) rfl rfl Try.func8 (by kernel_rfl) rfl #[] rfl (by (try simp only [List.map_toArray, List.map_cons, List.map_nil]); first | done | rfl | (simp only [List.length_drop, List.length_take]; rfl)) ?_; (with_reducible refine (batonlaw11_awake.calls k  false _ A3.out).mono ?_); rintro e w63 ⟨rfl, hb⟩; refine ⟨_, rfl, ?_⟩; have n0_ := Aside0.mk (below_step (by repeat (first | (with_reducible first | exact HB.out | apply below_alloc | apply pw_below_drewN | apply below_drew1) | exact HB.out)) hb); clear HB; have HB := n0_; clear n0_; (try clear hb); (try clear hb2); (try clear hk); (try clear hi)))
    go_ret
    exact ⟨by first | rfl | (simp [errW_none, errW_some] <;> rfl) | (simp [*, errW_none, errW_some] <;> rfl), by repeat (first | (with_reducible first | exact HB.out | apply below_alloc | apply pw_below_drewN | apply below_drew1) | exact HB.out)⟩

/-- THE ONE PURE STATEMENT of batonlaw11_TabsPlays. -/
def WF38 (x : S38) : Prop := (Lit.int .i64 x.f0).wf = true ∧ (Lit.int .i64 x.f1).wf = true
def batonlaw11_TabsPlays.Pure : Prop := ∀ (a0 : Int) (l1 : List (S38)), (Lit.int .i64 a0).wf = true → (l1.length ≤ maxLen ∧ ∀ x_ ∈ l1, WF38 x_) → ∃ k, batonlaw11_TabsPlays.f k a0 l1 = some true

end Go.Proofs.Ytgnbhomdkchcfaa.PF11P
