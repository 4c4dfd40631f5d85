/- By a program of this session (wip/tool/pp.py): plain Lean functions of the Go functions that this family of laws uses, the walks that the Go code comes to their answers, and the row of the law. No condition beside those that the row itself gives. -/
import Derived.Test.YtgnbhomdkchcfaaPF11Mx0
import Derived.Test.YtgnbhomdkchcfaaPF11Mx3
import Derived.Test.YtgnbhomdkchcfaaPF11Mx4
import Derived.Test.YtgnbhomdkchcfaaPF11Mx5
namespace Go.Proofs.Ytgnbhomdkchcfaa.PF11M
open Go.RowKit Go.Proofs.YtgnbhomdkchcfaaW.Hand Go.Proofs.YtgnbhomdkchcfaaW.PrintWords Go.Proofs.YtgnbhomdkchcfaaW.PrintLast Go.Proofs.YtgnbhomdkchcfaaW.PrintMore
attribute [local go_sem] max2_int min2_int max_two min_two max_three min_three max_four min_four   -- for this text's walks alone
set_option linter.unusedVariables false
set_option linter.unusedSimpArgs false

/-! ### batonlaw11_TabsMoves: function 5 -/
mutual
def batonlaw11_TabsMoves.j0 : Nat → Int → List Int → Bool → Int → Int → Option (Bool)
  | 0, _, _, _, _, _ => none
  | k + 1, x0, x1, x28, x235000, x235001 => if x28 = true then (some true) else ((tabs_New.f k x0).bind fun bt236 => (if bt236.1 = true then (if bt236.2.2.2 = 0 then (batonlaw11_TabsMoves.j1 k x0 x1 false x235000 x235001 bt236.2.1 bt236.2.2.1) else (batonlaw11_TabsMoves.j1 k x0 x1 true x235000 x235001 bt236.2.1 bt236.2.2.1)) else (if bt236.2.2.2 = 0 then (some false) else (some false))))
def batonlaw11_TabsMoves.j1 : Nat → Int → List Int → Bool → Int → Int → Int → List Int → Option (Bool)
  | 0, _, _, _, _, _, _, _ => none
  | k + 1, x0, x1, x39, x235000, x235001, x242000, x242001 => if x39 = true then (some false) else ((batonref11_New.f k x0).bind fun t243 => (batonlaw11_TabsMoves.l0 k x0 x1 t243 0 x235000 x235001 x242000 x242001))
def batonlaw11_TabsMoves.l0 : Nat → Int → List Int → List Bool → Int → Int → Int → Int → List Int → Option (Bool)
  | 0, _, _, _, _, _, _, _, _ => none
  | k + 1, x0, x1, x9, x10, x235000, x235001, x242000, x242001 => if x10 < (x1.length : Int) then (if 0 ≤ x10 then ((batonlaw11_do.f k x242000 x242001 x9 (Int.tmod x10 2) (rd x1 x10)).bind fun bt247 => (batonlaw11_TabsMoves.l0 k x0 x1 bt247.1 (wrap64 (x10 + 1)) x235000 x235001 bt247.2.2.1 bt247.2.2.2)) else (none)) else (batonlaw11_TabsMoves.l1 k x9 x235001 (mn (mx x235000 0) (wrap64 (x0 - 1))) (mn (mx x235000 0) (wrap64 (x0 - 1))) 0 x235000 x235001 x242000 x242001)
def batonlaw11_TabsMoves.l1 : Nat → List Bool → Int → Int → Int → Int → Int → Int → Int → List Int → Option (Bool)
  | 0, _, _, _, _, _, _, _, _, _ => none
  | k + 1, x9, x12, x13, x14, x15, x235000, x235001, x242000, x242001 => if x15 < x12 then (batonlaw11_TabsMoves.j4 k x9 x12 x13 x14 x15 (decide (x15 < 200)) x235000 x235001 x242000 x242001) else (batonlaw11_TabsMoves.j4 k x9 x12 x13 x14 x15 false x235000 x235001 x242000 x242001)
def batonlaw11_TabsMoves.j4 : Nat → List Bool → Int → Int → Int → Int → Bool → Int → Int → Int → List Int → Option (Bool)
  | 0, _, _, _, _, _, _, _, _, _, _ => none
  | k + 1, x9, x12, x13, x14, x15, x77, x235000, x235001, x242000, x242001 => if x77 = true then ((batonref11_Next.f k x9 x13).bind fun t255 => ((batonref11_Back.f k x9 x14).bind fun t256 => (batonlaw11_TabsMoves.l1 k x9 x12 t255 t256 (wrap64 (x15 + 1)) x235000 x235001 x242000 x242001))) else ((tabs_Stops_Next.f k x242000 x242001 x235000 x12).bind fun bt257 => (if bt257.1 = x13 then ((tabs_Stops_Back.f k bt257.2.1 bt257.2.2 x235000 x12).bind fun bt262 => (some (bt262.1 == x14))) else (some false)))
end
def batonlaw11_TabsMoves.f (k : Nat) (a0 : Int) (l1 : List Int) (a2_0 : Int) (a2_1 : Int) : Option (Bool) := (batonlaw11_awake.f k).bind fun t235 => (if t235 = true then (if a0 < 1 then (batonlaw11_TabsMoves.j0 k a0 l1 true a2_0 a2_1) else (if a0 > 132 then (batonlaw11_TabsMoves.j0 k a0 l1 true a2_0 a2_1) else (batonlaw11_TabsMoves.j0 k a0 l1 (decide ((l1.length : Int) > 30)) a2_0 a2_1))) else (some false))
theorem batonlaw11_TabsMoves.mono_l : ∀ k, (∀ y0 y1 y2 y3 y4, LeO (batonlaw11_TabsMoves.j0 k y0 y1 y2 y3 y4) (batonlaw11_TabsMoves.j0 (k + 1) y0 y1 y2 y3 y4)) ∧ (∀ y0 y1 y2 y3 y4 y5 y6, LeO (batonlaw11_TabsMoves.j1 k y0 y1 y2 y3 y4 y5 y6) (batonlaw11_TabsMoves.j1 (k + 1) y0 y1 y2 y3 y4 y5 y6)) ∧ (∀ y0 y1 y2 y3 y4 y5 y6 y7, LeO (batonlaw11_TabsMoves.l0 k y0 y1 y2 y3 y4 y5 y6 y7) (batonlaw11_TabsMoves.l0 (k + 1) y0 y1 y2 y3 y4 y5 y6 y7)) ∧ (∀ y0 y1 y2 y3 y4 y5 y6 y7 y8, LeO (batonlaw11_TabsMoves.l1 k y0 y1 y2 y3 y4 y5 y6 y7 y8) (batonlaw11_TabsMoves.l1 (k + 1) y0 y1 y2 y3 y4 y5 y6 y7 y8)) ∧ (∀ y0 y1 y2 y3 y4 y5 y6 y7 y8 y9, LeO (batonlaw11_TabsMoves.j4 k y0 y1 y2 y3 y4 y5 y6 y7 y8 y9) (batonlaw11_TabsMoves.j4 (k + 1) y0 y1 y2 y3 y4 y5 y6 y7 y8 y9))
  | 0 => ⟨fun _ _ _ _ _ r h => by simp [batonlaw11_TabsMoves.j0] at h, fun _ _ _ _ _ _ _ r h => by simp [batonlaw11_TabsMoves.j1] at h, fun _ _ _ _ _ _ _ _ r h => by simp [batonlaw11_TabsMoves.l0] at h, fun _ _ _ _ _ _ _ _ _ r h => by simp [batonlaw11_TabsMoves.l1] at h, fun _ _ _ _ _ _ _ _ _ _ r h => by simp [batonlaw11_TabsMoves.j4] at h⟩
  | k + 1 => by
    obtain ⟨ih0, ih1, ih2, ih3, ih4⟩ := batonlaw11_TabsMoves.mono_l k
    refine ⟨?_, ?_, ?_, ?_, ?_⟩
    · intro y0 y1 y2 y3 y4
      unfold batonlaw11_TabsMoves.j0
      repeat' first
      | (with_reducible exact ih0 _ _ _ _ _)
      | (with_reducible exact ih1 _ _ _ _ _ _ _)
      | (with_reducible exact ih2 _ _ _ _ _ _ _ _)
      | (with_reducible exact ih3 _ _ _ _ _ _ _ _ _)
      | (with_reducible exact ih4 _ _ _ _ _ _ _ _ _ _)
      | (with_reducible exact batonlaw11_awake.mono _)
      | (with_reducible exact batonlaw11_do.mono _ _ _ _ _ _)
      | (with_reducible exact batonref11_Back.mono _ _ _)
      | (with_reducible exact batonref11_New.mono _ _)
      | (with_reducible exact batonref11_Next.mono _ _ _)
      | (with_reducible exact tabs_New.mono _ _)
      | (with_reducible exact tabs_Stops_Back.mono _ _ _ _ _)
      | (with_reducible exact tabs_Stops_Next.mono _ _ _ _ _)
      | (with_reducible exact LeO.refl _)
      | (with_reducible exact LeO.none _)
      | (with_reducible refine LeO.ite ?_ ?_)
      | (with_reducible refine LeO.bind ?_ (fun _ => ?_))
      | exact ih0 _ _ _ _ _
      | exact ih1 _ _ _ _ _ _ _
      | exact ih2 _ _ _ _ _ _ _ _
      | exact ih3 _ _ _ _ _ _ _ _ _
      | exact ih4 _ _ _ _ _ _ _ _ _ _
      | exact batonlaw11_awake.mono _
      | exact batonlaw11_do.mono _ _ _ _ _ _
      | exact batonref11_Back.mono _ _ _
      | exact batonref11_New.mono _ _
      | exact batonref11_Next.mono _ _ _
      | exact tabs_New.mono _ _
      | exact tabs_Stops_Back.mono _ _ _ _ _
      | exact tabs_Stops_Next.mono _ _ _ _ _
      | exact LeO.none _
      | refine LeO.ite ?_ ?_
      | refine LeO.bind ?_ (fun _ => ?_)
    · intro y0 y1 y2 y3 y4 y5 y6
      unfold batonlaw11_TabsMoves.j1
      repeat' first
      | (with_reducible exact ih0 _ _ _ _ _)
      | (with_reducible exact ih1 _ _ _ _ _ _ _)
      | (with_reducible exact ih2 _ _ _ _ _ _ _ _)
      | (with_reducible exact ih3 _ _ _ _ _ _ _ _ _)
      | (with_reducible exact ih4 _ _ _ _ _ _ _ _ _ _)
      | (with_reducible exact batonlaw11_awake.mono _)
      | (with_reducible exact batonlaw11_do.mono _ _ _ _ _ _)
      | (with_reducible exact batonref11_Back.mono _ _ _)
      | (with_reducible exact batonref11_New.mono _ _)
      | (with_reducible exact batonref11_Next.mono _ _ _)
      | (with_reducible exact tabs_New.mono _ _)
      | (with_reducible exact tabs_Stops_Back.mono _ _ _ _ _)
      | (with_reducible exact tabs_Stops_Next.mono _ _ _ _ _)
      | (with_reducible exact LeO.refl _)
      | (with_reducible exact LeO.none _)
      | (with_reducible refine LeO.ite ?_ ?_)
      | (with_reducible refine LeO.bind ?_ (fun _ => ?_))
      | exact ih0 _ _ _ _ _
      | exact ih1 _ _ _ _ _ _ _
      | exact ih2 _ _ _ _ _ _ _ _
      | exact ih3 _ _ _ _ _ _ _ _ _
      | exact ih4 _ _ _ _ _ _ _ _ _ _
      | exact batonlaw11_awake.mono _
      | exact batonlaw11_do.mono _ _ _ _ _ _
      | exact batonref11_Back.mono _ _ _
      | exact batonref11_New.mono _ _
      | exact batonref11_Next.mono _ _ _
      | exact tabs_New.mono _ _
      | exact tabs_Stops_Back.mono _ _ _ _ _
      | exact tabs_Stops_Next.mono _ _ _ _ _
      | exact LeO.none _
      | refine LeO.ite ?_ ?_
      | refine LeO.bind ?_ (fun _ => ?_)
    · intro y0 y1 y2 y3 y4 y5 y6 y7
      unfold batonlaw11_TabsMoves.l0
      repeat' first
      | (with_reducible exact ih0 _ _ _ _ _)
      | (with_reducible exact ih1 _ _ _ _ _ _ _)
      | (with_reducible exact ih2 _ _ _ _ _ _ _ _)
      | (with_reducible exact ih3 _ _ _ _ _ _ _ _ _)
      | (with_reducible exact ih4 _ _ _ _ _ _ _ _ _ _)
      | (with_reducible exact batonlaw11_awake.mono _)
      | (with_reducible exact batonlaw11_do.mono _ _ _ _ _ _)
      | (with_reducible exact batonref11_Back.mono _ _ _)
      | (with_reducible exact batonref11_New.mono _ _)
      | (with_reducible exact batonref11_Next.mono _ _ _)
      | (with_reducible exact tabs_New.mono _ _)
      | (with_reducible exact tabs_Stops_Back.mono _ _ _ _ _)
      | (with_reducible exact tabs_Stops_Next.mono _ _ _ _ _)
      | (with_reducible exact LeO.refl _)
      | (with_reducible exact LeO.none _)
      | (with_reducible refine LeO.ite ?_ ?_)
      | (with_reducible refine LeO.bind ?_ (fun _ => ?_))
      | exact ih0 _ _ _ _ _
      | exact ih1 _ _ _ _ _ _ _
      | exact ih2 _ _ _ _ _ _ _ _
      | exact ih3 _ _ _ _ _ _ _ _ _
      | exact ih4 _ _ _ _ _ _ _ _ _ _
      | exact batonlaw11_awake.mono _
      | exact batonlaw11_do.mono _ _ _ _ _ _
      | exact batonref11_Back.mono _ _ _
      | exact batonref11_New.mono _ _
      | exact batonref11_Next.mono _ _ _
      | exact tabs_New.mono _ _
      | exact tabs_Stops_Back.mono _ _ _ _ _
      | exact tabs_Stops_Next.mono _ _ _ _ _
      | exact LeO.none _
      | refine LeO.ite ?_ ?_
      | refine LeO.bind ?_ (fun _ => ?_)
    · intro y0 y1 y2 y3 y4 y5 y6 y7 y8
      unfold batonlaw11_TabsMoves.l1
      repeat' first
      | (with_reducible exact ih0 _ _ _ _ _)
      | (with_reducible exact ih1 _ _ _ _ _ _ _)
      | (with_reducible exact ih2 _ _ _ _ _ _ _ _)
      | (with_reducible exact ih3 _ _ _ _ _ _ _ _ _)
      | (with_reducible exact ih4 _ _ _ _ _ _ _ _ _ _)
      | (with_reducible exact batonlaw11_awake.mono _)
      | (with_reducible exact batonlaw11_do.mono _ _ _ _ _ _)
      | (with_reducible exact batonref11_Back.mono _ _ _)
      | (with_reducible exact batonref11_New.mono _ _)
      | (with_reducible exact batonref11_Next.mono _ _ _)
      | (with_reducible exact tabs_New.mono _ _)
      | (with_reducible exact tabs_Stops_Back.mono _ _ _ _ _)
      | (with_reducible exact tabs_Stops_Next.mono _ _ _ _ _)
      | (with_reducible exact LeO.refl _)
      | (with_reducible exact LeO.none _)
      | (with_reducible refine LeO.ite ?_ ?_)
      | (with_reducible refine LeO.bind ?_ (fun _ => ?_))
      | exact ih0 _ _ _ _ _
      | exact ih1 _ _ _ _ _ _ _
      | exact ih2 _ _ _ _ _ _ _ _
      | exact ih3 _ _ _ _ _ _ _ _ _
      | exact ih4 _ _ _ _ _ _ _ _ _ _
      | exact batonlaw11_awake.mono _
      | exact batonlaw11_do.mono _ _ _ _ _ _
      | exact batonref11_Back.mono _ _ _
      | exact batonref11_New.mono _ _
      | exact batonref11_Next.mono _ _ _
      | exact tabs_New.mono _ _
      | exact tabs_Stops_Back.mono _ _ _ _ _
      | exact tabs_Stops_Next.mono _ _ _ _ _
      | exact LeO.none _
      | refine LeO.ite ?_ ?_
      | refine LeO.bind ?_ (fun _ => ?_)
    · intro y0 y1 y2 y3 y4 y5 y6 y7 y8 y9
      unfold batonlaw11_TabsMoves.j4
      repeat' first
      | (with_reducible exact ih0 _ _ _ _ _)
      | (with_reducible exact ih1 _ _ _ _ _ _ _)
      | (with_reducible exact ih2 _ _ _ _ _ _ _ _)
      | (with_reducible exact ih3 _ _ _ _ _ _ _ _ _)
      | (with_reducible exact ih4 _ _ _ _ _ _ _ _ _ _)
      | (with_reducible exact batonlaw11_awake.mono _)
      | (with_reducible exact batonlaw11_do.mono _ _ _ _ _ _)
      | (with_reducible exact batonref11_Back.mono _ _ _)
      | (with_reducible exact batonref11_New.mono _ _)
      | (with_reducible exact batonref11_Next.mono _ _ _)
      | (with_reducible exact tabs_New.mono _ _)
      | (with_reducible exact tabs_Stops_Back.mono _ _ _ _ _)
      | (with_reducible exact tabs_Stops_Next.mono _ _ _ _ _)
      | (with_reducible exact LeO.refl _)
      | (with_reducible exact LeO.none _)
      | (with_reducible refine LeO.ite ?_ ?_)
      | (with_reducible refine LeO.bind ?_ (fun _ => ?_))
      | exact ih0 _ _ _ _ _
      | exact ih1 _ _ _ _ _ _ _
      | exact ih2 _ _ _ _ _ _ _ _
      | exact ih3 _ _ _ _ _ _ _ _ _
      | exact ih4 _ _ _ _ _ _ _ _ _ _
      | exact batonlaw11_awake.mono _
      | exact batonlaw11_do.mono _ _ _ _ _ _
      | exact batonref11_Back.mono _ _ _
      | exact batonref11_New.mono _ _
      | exact batonref11_Next.mono _ _ _
      | exact tabs_New.mono _ _
      | exact tabs_Stops_Back.mono _ _ _ _ _
      | exact tabs_Stops_Next.mono _ _ _ _ _
      | exact LeO.none _
      | refine LeO.ite ?_ ?_
      | refine LeO.bind ?_ (fun _ => ?_)
theorem batonlaw11_TabsMoves.mono : ∀ a0 a1 a2 a3 k, LeO (batonlaw11_TabsMoves.f k a0 a1 a2 a3) (batonlaw11_TabsMoves.f (k + 1) a0 a1 a2 a3) := by
  intro a0 a1 a2 a3 k
  obtain ⟨ih0, ih1, ih2, ih3, ih4⟩ := batonlaw11_TabsMoves.mono_l k
  unfold batonlaw11_TabsMoves.f
  repeat' first
      | (with_reducible exact ih0 _ _ _ _ _)
      | (with_reducible exact ih1 _ _ _ _ _ _ _)
      | (with_reducible exact ih2 _ _ _ _ _ _ _ _)
      | (with_reducible exact ih3 _ _ _ _ _ _ _ _ _)
      | (with_reducible exact ih4 _ _ _ _ _ _ _ _ _ _)
      | (with_reducible exact batonlaw11_awake.mono _)
      | (with_reducible exact batonlaw11_do.mono _ _ _ _ _ _)
      | (with_reducible exact batonref11_Back.mono _ _ _)
      | (with_reducible exact batonref11_New.mono _ _)
      | (with_reducible exact batonref11_Next.mono _ _ _)
      | (with_reducible exact tabs_New.mono _ _)
      | (with_reducible exact tabs_Stops_Back.mono _ _ _ _ _)
      | (with_reducible exact tabs_Stops_Next.mono _ _ _ _ _)
      | (with_reducible exact LeO.refl _)
      | (with_reducible exact LeO.none _)
      | (with_reducible refine LeO.ite ?_ ?_)
      | (with_reducible refine LeO.bind ?_ (fun _ => ?_))
      | exact ih0 _ _ _ _ _
      | exact ih1 _ _ _ _ _ _ _
      | exact ih2 _ _ _ _ _ _ _ _
      | exact ih3 _ _ _ _ _ _ _ _ _
      | exact ih4 _ _ _ _ _ _ _ _ _ _
      | exact batonlaw11_awake.mono _
      | exact batonlaw11_do.mono _ _ _ _ _ _
      | exact batonref11_Back.mono _ _ _
      | exact batonref11_New.mono _ _
      | exact batonref11_Next.mono _ _ _
      | exact tabs_New.mono _ _
      | exact tabs_Stops_Back.mono _ _ _ _ _
      | exact tabs_Stops_Next.mono _ _ _ _ _
      | exact LeO.none _
      | refine LeO.ite ?_ ?_
      | refine LeO.bind ?_ (fun _ => ?_)
set_option maxHeartbeats 8000000 in
set_option maxRecDepth 100000 in
theorem batonlaw11_TabsMoves.calls (k : Nat) (a0 : Int) (A1 : Option Addr) (c1 : Nat) (l1 : List Int) (a2_0 : Int) (a2_1 : Int) (r : Bool) (w : World) (hr1 : Kd.C (Kd.int .i64) w A1 l1.length l1) (hc1 : l1.length ≤ c1) (h : batonlaw11_TabsMoves.f k a0 l1 a2_0 a2_1 = some r) :
    Calls Try.prog 5 #[.int .i64 a0, .slice A1 l1.length c1, .agg #[.int .i64 a2_0, .int .i64 a2_1]] w fun e w' => e = .returned (.bool r) ∧ Below w.heap.size w w' := by
  have hu40 := Try.underlying40
  have hu38 := Try.underlying38
  have HR1 := Aside0.mk hr1
  have HC1 := Aside0.mk hc1
  clear hr1 hc1
  have HB := Aside0.mk (Below.refl w.heap.size w)
  have H : ((batonlaw11_awake.f k).bind fun t235 => (if t235 = true then (if a0 < 1 then (batonlaw11_TabsMoves.j0 k a0 l1 true a2_0 a2_1) else (if a0 > 132 then (batonlaw11_TabsMoves.j0 k a0 l1 true a2_0 a2_1) else (batonlaw11_TabsMoves.j0 k a0 l1 (decide ((l1.length : Int) > 30)) a2_0 a2_1))) else (some false))) = some r := h
  clear h
  replace H := Option.bind_eq_some_iff.mp H
  obtain ⟨t235, A40, H⟩ := H
  replace H : (if t235 = true then (if a0 < 1 then (batonlaw11_TabsMoves.j0 k a0 l1 true a2_0 a2_1) else (if a0 > 132 then (batonlaw11_TabsMoves.j0 k a0 l1 true a2_0 a2_1) else (batonlaw11_TabsMoves.j0 k a0 l1 (decide ((l1.length : Int) > 30)) a2_0 a2_1))) else (some false)) = some r := H
  have A4 := Aside0.mk A40
  clear A40
  by_cases c5 : t235 = true
  · subst c5
    have H1 : (if a0 < 1 then (batonlaw11_TabsMoves.j0 k a0 l1 true a2_0 a2_1) else (if a0 > 132 then (batonlaw11_TabsMoves.j0 k a0 l1 true a2_0 a2_1) else (batonlaw11_TabsMoves.j0 k a0 l1 (decide ((l1.length : Int) > 30)) a2_0 a2_1))) = some r := by rw [if_pos rfl] at H; exact H
    clear H
    have H := H1
    clear H1
    have HC6 := Aside0.mk H
    clear H
    go_enter Try.func5, Try.ntmps5
    go_upto_region 3 with (first | (first | ((with_reducible refine gate_dst (N := 5) rfl ?_); (try (refine gate_guard (by rfl) ?_; dsimp only)); refine box_event ?hg (N := 5) ?hd (cs := #[.int .i64 a2_0, .int .i64 a2_1]) (t := 40) ?hr ?_; (case hd => rfl); (case hg => rfl); (case hr => first | (go_simp; done) | (go_simp; rfl)); intro gb234 hg w7 hbox hb; have n0_ := Aside0.mk (below_step (by repeat (first | (with_reducible first | exact HB.out | apply below_alloc | apply pw_below_drewN | apply below_drew1) | exact HB.out)) hb); have n1_ := Aside0.mk (hbox); have n2_ := Aside0.mk ((by rw [hg]; exact (below_size (by repeat (first | (with_reducible first | exact HB.out | apply below_alloc | apply pw_below_drewN | apply below_drew1) | exact HB.out))) : w.heap.size ≤ gb234)); have n3_ := Aside0.mk ((by rw [hg]; exact (below_size (by repeat (first | (with_reducible first | exact HB.out | apply below_alloc | apply pw_below_drewN | apply below_drew1) | exact HB.out))) : w.heap.size ≤ gb234)); clear HB; have HB := n0_; have BK234 := n1_; have GW234 := n2_; have GE234 := n3_; clear n0_ n1_ n2_ n3_; clear hb hbox hg) | (go_at_call 8; (with_reducible refine (batonlaw11_awake.calls k  true _ A4.out).mono ?_); rintro e w8 ⟨rfl, hb⟩; have n0_ := Aside0.mk (blk_below (g := gb234) (o := .cells #[.int .i64 a2_0, .int .i64 a2_1] 40 (0, 0)) (by (with_reducible repeat (first | refine blk_drewN ?_ _ | refine blk_drew ?_ | refine blk_alloc ?_ _)); exact BK234.out) hb); have n1_ := Aside0.mk (below_step (by repeat (first | (with_reducible first | exact HB.out | apply below_alloc | apply pw_below_drewN | apply below_drew1 | refine below_set ?_ GE234.out) | exact HB.out)) hb); clear BK234; clear HB; have BK234 := n0_; have HB := n1_; clear n0_ n1_; (try clear hb); (try clear hb2); (try clear hk); (try clear hi))) | go_quiet (first | ((with_reducible refine gate_dst (N := 5) rfl ?_); (try (refine gate_guard (by rfl) ?_; dsimp only)); refine box_event ?hg (N := 5) ?hd (cs := #[.int .i64 a2_0, .int .i64 a2_1]) (t := 40) ?hr ?_; (case hd => rfl); (case hg => rfl); (case hr => first | (go_simp; done) | (go_simp; rfl)); intro gb234 hg w7 hbox hb; have n0_ := Aside0.mk (below_step (by repeat (first | (with_reducible first | exact HB.out | apply below_alloc | apply pw_below_drewN | apply below_drew1) | exact HB.out)) hb); have n1_ := Aside0.mk (hbox); have n2_ := Aside0.mk ((by rw [hg]; exact (below_size (by repeat (first | (with_reducible first | exact HB.out | apply below_alloc | apply pw_below_drewN | apply below_drew1) | exact HB.out))) : w.heap.size ≤ gb234)); have n3_ := Aside0.mk ((by rw [hg]; exact (below_size (by repeat (first | (with_reducible first | exact HB.out | apply below_alloc | apply pw_below_drewN | apply below_drew1) | exact HB.out))) : w.heap.size ≤ gb234)); clear HB; have HB := n0_; have BK234 := n1_; have GW234 := n2_; have GE234 := n3_; clear n0_ n1_ n2_ n3_; clear hb hbox hg) | (go_at_call 8; (with_reducible refine (batonlaw11_awake.calls k  true _ A4.out).mono ?_); rintro e w8 ⟨rfl, hb⟩; have n0_ := Aside0.mk (blk_below (g := gb234) (o := .cells #[.int .i64 a2_0, .int .i64 a2_1] 40 (0, 0)) (by (with_reducible repeat (first | refine blk_drewN ?_ _ | refine blk_drew ?_ | refine blk_alloc ?_ _)); exact BK234.out) hb); have n1_ := Aside0.mk (below_step (by repeat (first | (with_reducible first | exact HB.out | apply below_alloc | apply pw_below_drewN | apply below_drew1 | refine below_set ?_ GE234.out) | exact HB.out)) hb); clear BK234; clear HB; have BK234 := n0_; have HB := n1_; clear n0_ n1_; (try clear hb); (try clear hb2); (try clear hk); (try clear hi))))
    (try simp only [Act.put, List.setIfInBounds_toArray, List.set_cons_zero, List.set_cons_succ])
    go_cut [28] (fun v28 wc => ∃ (kq : Nat) (x28_5 : Bool), v28 = .bool x28_5 ∧ Aside0 (batonlaw11_TabsMoves.j0 kq a0 l1 x28_5 a2_0 a2_1 = some r) ∧ Aside0 (kq ≤ k) ∧ Aside0 (wc.heap[gb234]? = some (.cells #[.int .i64 a2_0, .int .i64 a2_1] 40 (0, 0))) ∧ Aside0 (Below w.heap.size w wc))
    case first => as_aux_lemma =>
      have H := HC6.out
      clear HC6
      by_cases c9 : a0 < 1
      · rw [if_pos c9] at H
        have c9b0 : decide (a0 < 1) = true := decide_eq_true c9
        clear c9
        (first | rw [c9b0] | (simp only [i64_w, i32_w]; rw [c9b0]) | rw [c9b1] | rw [c9b2] | skip)
        have H' := Aside0.mk H
        clear H
        go_wp2
        repeat (go_quiet (fail); try go_wp2)
        go_meet
        case rel => exact ⟨_, (true), (by first | rfl | (simp; done) | (simp [*]; done)), H', ⟨by first | omega | exact Nat.le_refl _⟩, ⟨by (with_reducible repeat (first | refine blk_drewN ?_ _ | refine blk_drew ?_ | refine blk_alloc ?_ _)); exact BK234.out⟩, ⟨by repeat (first | (with_reducible first | exact HB.out | apply below_alloc | apply pw_below_drewN | apply below_drew1 | refine below_set ?_ GE234.out) | exact HB.out)⟩⟩
      · rw [if_neg c9] at H
        have c9b0 : decide (a0 < 1) = false := decide_eq_false c9
        clear c9
        (first | rw [c9b0] | (simp only [i64_w, i32_w]; rw [c9b0]) | rw [c9b1] | rw [c9b2] | skip)
        by_cases c10 : a0 > 132
        · rw [if_pos c10] at H
          have c10b0 : decide (132 < a0) = true := decide_eq_true c10
          clear c10
          have H' := Aside0.mk H
          clear H
          go_wp2
          repeat (go_quiet (fail); try go_wp2)
          go_meet
          case rel => exact ⟨_, (true), (by first | rfl | (simp; done) | (simp [*]; done)), H', ⟨by first | omega | exact Nat.le_refl _⟩, ⟨by (with_reducible repeat (first | refine blk_drewN ?_ _ | refine blk_drew ?_ | refine blk_alloc ?_ _)); exact BK234.out⟩, ⟨by repeat (first | (with_reducible first | exact HB.out | apply below_alloc | apply pw_below_drewN | apply below_drew1 | refine below_set ?_ GE234.out) | exact HB.out)⟩⟩
        · rw [if_neg c10] at H
          have c10b0 : decide (132 < a0) = false := decide_eq_false c10
          clear c10
          have H' := Aside0.mk H
          clear H
          go_wp2
          repeat (go_quiet (fail); try go_wp2)
          go_meet
          case rel => exact ⟨_, (decide ((l1.length : Int) > 30)), (by first | rfl | (simp; done) | (simp [*]; done)), H', ⟨by first | omega | exact Nat.le_refl _⟩, ⟨by (with_reducible repeat (first | refine blk_drewN ?_ _ | refine blk_drew ?_ | refine blk_alloc ?_ _)); exact BK234.out⟩, ⟨by repeat (first | (with_reducible first | exact HB.out | apply below_alloc | apply pw_below_drewN | apply below_drew1 | refine below_set ?_ GE234.out) | exact HB.out)⟩⟩
    case rest => as_aux_lemma =>
      clear HC6
      try clear c1
      try clear p2
      try clear c5
      try clear c9
      try clear c9b0
      try clear c9b1
      try clear c9b2
      try clear c10
      try clear c10b0
      obtain ⟨kq, x28_5, rfl, HA, HJ5, BK234, HB⟩ := hcut
      cases kq with
      | zero => exact absurd HA.out (by simp [batonlaw11_TabsMoves.j0])
      | succ kj5 =>
        have H := HA.out
        clear HA
        simp only [batonlaw11_TabsMoves.j0] at H
        by_cases c11 : x28_5 = true
        · subst c11
          have H1 : (some true) = some r := by rw [if_pos rfl] at H; exact H
          clear H
          have H := H1
          clear H1
          obtain rfl := Option.some.inj H
          go_wp2
          repeat (go_quiet (fail); try go_wp2)
          go_ret
          exact ⟨by first | rfl | (simp [errW_none, errW_some] <;> rfl) | (simp [*, errW_none, errW_some] <;> rfl), by repeat (first | (with_reducible first | exact HB.out | apply below_alloc | apply pw_below_drewN | apply below_drew1 | refine below_set ?_ GE234.out) | exact HB.out)⟩
        · replace c11 := Bool.eq_false_iff.mpr c11
          subst c11
          have H1 : ((tabs_New.f kj5 a0).bind fun bt236 => (if bt236.1 = true then (if bt236.2.2.2 = 0 then (batonlaw11_TabsMoves.j1 kj5 a0 l1 false a2_0 a2_1 bt236.2.1 bt236.2.2.1) else (batonlaw11_TabsMoves.j1 kj5 a0 l1 true a2_0 a2_1 bt236.2.1 bt236.2.2.1)) else (if bt236.2.2.2 = 0 then (some false) else (some false)))) = some r := by rw [if_neg (show ¬ (false = true) by decide)] at H; exact H
          clear H
          have H := H1
          clear H1
          replace H := Option.bind_eq_some_iff.mp H
          obtain ⟨⟨t236, t237, t238, t242⟩, A120, H⟩ := H
          replace H : (if t236 = true then (if t242 = 0 then (batonlaw11_TabsMoves.j1 kj5 a0 l1 false a2_0 a2_1 t237 t238) else (batonlaw11_TabsMoves.j1 kj5 a0 l1 true a2_0 a2_1 t237 t238)) else (if t242 = 0 then (some false) else (some false))) = some r := H
          have A12 := Aside0.mk A120
          clear A120
          by_cases c13 : t236 = true
          · subst c13
            have H1 : (if t242 = 0 then (batonlaw11_TabsMoves.j1 kj5 a0 l1 false a2_0 a2_1 t237 t238) else (batonlaw11_TabsMoves.j1 kj5 a0 l1 true a2_0 a2_1 t237 t238)) = some r := by rw [if_pos rfl] at H; exact H
            clear H
            have H := H1
            clear H1
            have HC14 := Aside0.mk H
            clear H
            go_upto_region 6 with (first | (first | (go_at_call 9; (with_reducible refine (tabs_New.calls kj5 a0 true t237 t238 t242 _ A12.out).mono ?_); rintro e w15 ⟨v239, gb241, rfl, ho0, hbn, hgn, hb⟩; have n0_ := Aside0.mk (Kd.R_lower ho0 (below_size (by repeat (first | (with_reducible first | exact HB.out | apply below_alloc | apply pw_below_drewN | apply below_drew1 | refine below_set ?_ GE234.out) | exact HB.out)))); have n1_ := Aside0.mk (blk_below (g := gb234) (o := .cells #[.int .i64 a2_0, .int .i64 a2_1] 40 (0, 0)) (by (with_reducible repeat (first | refine blk_drewN ?_ _ | refine blk_drew ?_ | refine blk_alloc ?_ _)); exact BK234.out) hb); have n2_ := Aside0.mk (hbn rfl); have n3_ := Aside0.mk ((Nat.le_trans (below_size (by repeat (first | (with_reducible first | exact HB.out | apply below_alloc | apply pw_below_drewN | apply below_drew1 | refine below_set ?_ GE234.out) | exact HB.out))) hgn : w.heap.size ≤ gb241)); have n4_ := Aside0.mk ((Nat.le_trans (below_size (by repeat (first | (with_reducible first | exact HB.out | apply below_alloc | apply pw_below_drewN | apply below_drew1 | refine below_set ?_ GE234.out) | exact HB.out))) hgn : w.heap.size ≤ gb241)); have n5_ := Aside0.mk ((Nat.ne_of_lt (Nat.lt_of_lt_of_le (blk_lt (g := gb234) (o := .cells #[.int .i64 a2_0, .int .i64 a2_1] 40 (0, 0)) (by (with_reducible repeat (first | refine blk_drewN ?_ _ | refine blk_drew ?_ | refine blk_alloc ?_ _)); exact BK234.out)) hgn) : gb234 ≠ gb241)); have n6_ := Aside0.mk ((Nat.ne_of_gt (Nat.lt_of_lt_of_le (blk_lt (g := gb234) (o := .cells #[.int .i64 a2_0, .int .i64 a2_1] 40 (0, 0)) (by (with_reducible repeat (first | refine blk_drewN ?_ _ | refine blk_drew ?_ | refine blk_alloc ?_ _)); exact BK234.out)) hgn) : gb241 ≠ gb234)); have n7_ := Aside0.mk (below_step (by repeat (first | (with_reducible first | exact HB.out | apply below_alloc | apply pw_below_drewN | apply below_drew1 | refine below_set ?_ GE234.out) | exact HB.out)) hb); clear BK234; clear HB; have HO240 := n0_; have BK234 := n1_; have BK241 := n2_; have GW241 := n3_; have GE241 := n4_; have NB234_241 := n5_; have NB241_234 := n6_; have HB := n7_; clear n0_ n1_ n2_ n3_ n4_ n5_ n6_ n7_; (try simp only [ptrW_true, ptrW_false]); (try clear hbn); (try clear hgn); (try clear hb); (try clear hb2); (try clear hk); (try clear hi); (try clear ho0))) | go_quiet (first | (go_at_call 9; (with_reducible refine (tabs_New.calls kj5 a0 true t237 t238 t242 _ A12.out).mono ?_); rintro e w15 ⟨v239, gb241, rfl, ho0, hbn, hgn, hb⟩; have n0_ := Aside0.mk (Kd.R_lower ho0 (below_size (by repeat (first | (with_reducible first | exact HB.out | apply below_alloc | apply pw_below_drewN | apply below_drew1 | refine below_set ?_ GE234.out) | exact HB.out)))); have n1_ := Aside0.mk (blk_below (g := gb234) (o := .cells #[.int .i64 a2_0, .int .i64 a2_1] 40 (0, 0)) (by (with_reducible repeat (first | refine blk_drewN ?_ _ | refine blk_drew ?_ | refine blk_alloc ?_ _)); exact BK234.out) hb); have n2_ := Aside0.mk (hbn rfl); have n3_ := Aside0.mk ((Nat.le_trans (below_size (by repeat (first | (with_reducible first | exact HB.out | apply below_alloc | apply pw_below_drewN | apply below_drew1 | refine below_set ?_ GE234.out) | exact HB.out))) hgn : w.heap.size ≤ gb241)); have n4_ := Aside0.mk ((Nat.le_trans (below_size (by repeat (first | (with_reducible first | exact HB.out | apply below_alloc | apply pw_below_drewN | apply below_drew1 | refine below_set ?_ GE234.out) | exact HB.out))) hgn : w.heap.size ≤ gb241)); have n5_ := Aside0.mk ((Nat.ne_of_lt (Nat.lt_of_lt_of_le (blk_lt (g := gb234) (o := .cells #[.int .i64 a2_0, .int .i64 a2_1] 40 (0, 0)) (by (with_reducible repeat (first | refine blk_drewN ?_ _ | refine blk_drew ?_ | refine blk_alloc ?_ _)); exact BK234.out)) hgn) : gb234 ≠ gb241)); have n6_ := Aside0.mk ((Nat.ne_of_gt (Nat.lt_of_lt_of_le (blk_lt (g := gb234) (o := .cells #[.int .i64 a2_0, .int .i64 a2_1] 40 (0, 0)) (by (with_reducible repeat (first | refine blk_drewN ?_ _ | refine blk_drew ?_ | refine blk_alloc ?_ _)); exact BK234.out)) hgn) : gb241 ≠ gb234)); have n7_ := Aside0.mk (below_step (by repeat (first | (with_reducible first | exact HB.out | apply below_alloc | apply pw_below_drewN | apply below_drew1 | refine below_set ?_ GE234.out) | exact HB.out)) hb); clear BK234; clear HB; have HO240 := n0_; have BK234 := n1_; have BK241 := n2_; have GW241 := n3_; have GE241 := n4_; have NB234_241 := n5_; have NB241_234 := n6_; have HB := n7_; clear n0_ n1_ n2_ n3_ n4_ n5_ n6_ n7_; (try simp only [ptrW_true, ptrW_false]); (try clear hbn); (try clear hgn); (try clear hb); (try clear hb2); (try clear hk); (try clear hi); (try clear ho0))))
            (try simp only [Act.put, List.setIfInBounds_toArray, List.set_cons_zero, List.set_cons_succ])
            go_cut [39] (fun v39 wc => ∃ (kq : Nat) (x39_13 : Bool), v39 = .bool x39_13 ∧ Aside0 (batonlaw11_TabsMoves.j1 kq a0 l1 x39_13 a2_0 a2_1 t237 t238 = some r) ∧ Aside0 (kq ≤ kj5) ∧ Aside0 (Kd.R (Kd.int .i64) 3 wc w.heap.size (fun _ => True) v239 t238) ∧ Aside0 (wc.heap[gb234]? = some (.cells #[.int .i64 a2_0, .int .i64 a2_1] 40 (0, 0))) ∧ Aside0 (wc.heap[gb241]? = some (.cells #[.int .i64 t237, v239] 66 (0, 0))) ∧ Aside0 (Below w.heap.size w wc))
            case first => as_aux_lemma =>
              have H := HC14.out
              clear HC14
              by_cases c16 : t242 = 0
              · rw [if_pos c16] at H
                have c16b0 : (t242 == 0) = true := beq_iff_eq.mpr c16
                have c16b1 : (t242 != 0) = false := bne_eq_false_iff_eq.mpr c16
                clear c16
                (first | rw [c16b0] | (simp only [i64_w, i32_w]; rw [c16b0]) | rw [c16b1] | rw [c16b2] | skip)
                have H' := Aside0.mk H
                clear H
                go_wp2
                repeat (go_quiet (fail); try go_wp2)
                go_meet
                case rel => exact ⟨_, (false), (by first | rfl | (simp; done) | (simp [*]; done)), H', ⟨by have := HJ5.out; first | omega | exact Nat.le_refl _⟩, ⟨by (with_reducible repeat (first | apply Kd.R_alloc | apply Kd.R_drewN | apply Kd.R_drew)); exact HO240.out⟩, ⟨by (with_reducible repeat (first | refine blk_drewN ?_ _ | refine blk_drew ?_ | refine blk_alloc ?_ _)); exact BK234.out⟩, ⟨by (with_reducible repeat (first | refine blk_drewN ?_ _ | refine blk_drew ?_ | refine blk_alloc ?_ _)); exact BK241.out⟩, ⟨by repeat (first | (with_reducible first | exact HB.out | apply below_alloc | apply pw_below_drewN | apply below_drew1 | refine below_set ?_ GE234.out | refine below_set ?_ GE241.out) | exact HB.out)⟩⟩
              · rw [if_neg c16] at H
                have c16b0 : (t242 == 0) = false := beq_eq_false_iff_ne.mpr c16
                have c16b1 : (t242 != 0) = true := bne_iff_ne.mpr c16
                (first | rw [c16b0] | (simp only [i64_w, i32_w]; rw [c16b0]) | rw [c16b1] | rw [c16b2] | skip)
                have H' := Aside0.mk H
                clear H
                go_wp2
                repeat (go_quiet (fail); try go_wp2)
                go_meet
                case rel => exact ⟨_, (true), (by first | rfl | (simp; done) | (simp [*]; done)), H', ⟨by have := HJ5.out; first | omega | exact Nat.le_refl _⟩, ⟨by (with_reducible repeat (first | apply Kd.R_alloc | apply Kd.R_drewN | apply Kd.R_drew)); exact HO240.out⟩, ⟨by (with_reducible repeat (first | refine blk_drewN ?_ _ | refine blk_drew ?_ | refine blk_alloc ?_ _)); exact BK234.out⟩, ⟨by (with_reducible repeat (first | refine blk_drewN ?_ _ | refine blk_drew ?_ | refine blk_alloc ?_ _)); exact BK241.out⟩, ⟨by repeat (first | (with_reducible first | exact HB.out | apply below_alloc | apply pw_below_drewN | apply below_drew1 | refine below_set ?_ GE234.out | refine below_set ?_ GE241.out) | exact HB.out)⟩⟩
            case rest => as_aux_lemma =>
              clear HC14
              try clear c1
              try clear p2
              try clear c5
              try clear c9
              try clear c9b0
              try clear c9b1
              try clear c9b2
              try clear c10
              try clear c10b0
              try clear c11
              try clear c13
              try clear c16
              try clear c16b0
              try clear c16b1
              try clear c16b2
              try clear p2
              obtain ⟨kq, x39_13, rfl, HA, HJ13, HO_242001, BK234, BK241, HB⟩ := hcut
              cases kq with
              | zero => exact absurd HA.out (by simp [batonlaw11_TabsMoves.j1])
              | succ kj13 =>
                have H := HA.out
                clear HA
                simp only [batonlaw11_TabsMoves.j1] at H
                by_cases c17 : x39_13 = true
                · subst c17
                  have H1 : (some false) = some r := by rw [if_pos rfl] at H; exact H
                  clear H
                  have H := H1
                  clear H1
                  obtain rfl := Option.some.inj H
                  go_wp2
                  repeat (go_quiet (fail); try go_wp2)
                  go_ret
                  exact ⟨by first | rfl | (simp [errW_none, errW_some] <;> rfl) | (simp [*, errW_none, errW_some] <;> rfl), by repeat (first | (with_reducible first | exact HB.out | apply below_alloc | apply pw_below_drewN | apply below_drew1 | refine below_set ?_ GE234.out | refine below_set ?_ GE241.out) | exact HB.out)⟩
                · replace c17 := Bool.eq_false_iff.mpr c17
                  subst c17
                  have H1 : ((batonref11_New.f kj13 a0).bind fun t243 => (batonlaw11_TabsMoves.l0 kj13 a0 l1 t243 0 a2_0 a2_1 t237 t238)) = some r := by rw [if_neg (show ¬ (false = true) by decide)] at H; exact H
                  clear H
                  have H := H1
                  clear H1
                  replace H := Option.bind_eq_some_iff.mp H
                  obtain ⟨t243, A180, H⟩ := H
                  replace H : (batonlaw11_TabsMoves.l0 kj13 a0 l1 t243 0 a2_0 a2_1 t237 t238) = some r := H
                  have A18 := Aside0.mk A180
                  clear A180
                  have H' := Aside0.mk H
                  clear H
                  go_wp2_with (first | (first | (go_at_call 14; (with_reducible refine (batonref11_New.calls kj13 a0 t243 _ A18.out).mono ?_); rintro e w19 ⟨v244, rfl, ho0, hb⟩; have n0_ := Aside0.mk (Kd.R_below (by (with_reducible repeat (first | apply Kd.R_alloc | apply Kd.R_drewN | apply Kd.R_drew)); exact HO_242001.out) hb); have n1_ := Aside0.mk (Kd.R_lower ho0 (below_size (by repeat (first | (with_reducible first | exact HB.out | apply below_alloc | apply pw_below_drewN | apply below_drew1 | refine below_set ?_ GE234.out | refine below_set ?_ GE241.out) | exact HB.out)))); have n2_ := Aside0.mk (blk_below (g := gb234) (o := .cells #[.int .i64 a2_0, .int .i64 a2_1] 40 (0, 0)) (by (with_reducible repeat (first | refine blk_drewN ?_ _ | refine blk_drew ?_ | refine blk_alloc ?_ _)); exact BK234.out) hb); have n3_ := Aside0.mk (blk_below (g := gb241) (o := .cells #[.int .i64 t237, v239] 66 (0, 0)) (by (with_reducible repeat (first | refine blk_drewN ?_ _ | refine blk_drew ?_ | refine blk_alloc ?_ _)); exact BK241.out) hb); have n4_ := Aside0.mk (below_step (by repeat (first | (with_reducible first | exact HB.out | apply below_alloc | apply pw_below_drewN | apply below_drew1 | refine below_set ?_ GE234.out | refine below_set ?_ GE241.out) | exact HB.out)) hb); clear HO_242001; clear BK234; clear BK241; clear HB; have HO_242001 := n0_; have HO245 := n1_; have BK234 := n2_; have BK241 := n3_; have HB := n4_; clear n0_ n1_ n2_ n3_ n4_; (try clear hb); (try clear hb2); (try clear hk); (try clear hi); (try clear ho0))) | go_quiet (first | (go_at_call 14; (with_reducible refine (batonref11_New.calls kj13 a0 t243 _ A18.out).mono ?_); rintro e w19 ⟨v244, rfl, ho0, hb⟩; have n0_ := Aside0.mk (Kd.R_below (by (with_reducible repeat (first | apply Kd.R_alloc | apply Kd.R_drewN | apply Kd.R_drew)); exact HO_242001.out) hb); have n1_ := Aside0.mk (Kd.R_lower ho0 (below_size (by repeat (first | (with_reducible first | exact HB.out | apply below_alloc | apply pw_below_drewN | apply below_drew1 | refine below_set ?_ GE234.out | refine below_set ?_ GE241.out) | exact HB.out)))); have n2_ := Aside0.mk (blk_below (g := gb234) (o := .cells #[.int .i64 a2_0, .int .i64 a2_1] 40 (0, 0)) (by (with_reducible repeat (first | refine blk_drewN ?_ _ | refine blk_drew ?_ | refine blk_alloc ?_ _)); exact BK234.out) hb); have n3_ := Aside0.mk (blk_below (g := gb241) (o := .cells #[.int .i64 t237, v239] 66 (0, 0)) (by (with_reducible repeat (first | refine blk_drewN ?_ _ | refine blk_drew ?_ | refine blk_alloc ?_ _)); exact BK241.out) hb); have n4_ := Aside0.mk (below_step (by repeat (first | (with_reducible first | exact HB.out | apply below_alloc | apply pw_below_drewN | apply below_drew1 | refine below_set ?_ GE234.out | refine below_set ?_ GE241.out) | exact HB.out)) hb); clear HO_242001; clear BK234; clear BK241; clear HB; have HO_242001 := n0_; have HO245 := n1_; have BK234 := n2_; have BK241 := n3_; have HB := n4_; clear n0_ n1_ n2_ n3_ n4_; (try clear hb); (try clear hb2); (try clear hk); (try clear hi); (try clear ho0))))
                  go_loopg [9, 10] kj13 (fun kq v9 v10 w' => ∃ (x9_3 : List Bool) (x10_3 : Int) (x242000_3 : Int) (x242001_3 : List Int) (u242001 : Value), v10 = .int .i64 x10_3 ∧ Aside0 (batonlaw11_TabsMoves.l0 kq a0 l1 x9_3 x10_3 a2_0 a2_1 x242000_3 x242001_3 = some r) ∧ Aside0 (kq ≤ kj13) ∧ Aside0 (Kd.V Kd.bool 4 w' w.heap.size (fun k_ => some k_ ≠ (u242001 : Value).ownBlock ∧ k_ ≠ gb234 ∧ k_ ≠ gb241) v9 x9_3) ∧ Aside0 (Kd.R (Kd.int .i64) 3 w' w.heap.size (fun _ => True) u242001 x242001_3) ∧ Aside0 (w'.heap[gb234]? = some (.cells #[.int .i64 a2_0, .int .i64 a2_1] 40 (0, 0))) ∧ Aside0 (w'.heap[gb241]? = some (.cells #[.int .i64 x242000_3, u242001] 66 (0, 0))) ∧ Aside0 (Below w.heap.size w w'))
                  case atStart => exact ⟨(t243), (0), (t237), (t238), (v239), (by first | rfl | (simp; done) | (simp [*]; done)), H', ⟨Nat.le_refl _⟩, ⟨Kd.R_V (by (with_reducible repeat (first | apply Kd.R_alloc | apply Kd.R_drewN | apply Kd.R_drew)); exact Kd.R_mono (Kd.R_types (Kd.R_types (Kd.R_apart' HO245.out (Kd.R_typed HO_242001.out) (by decide)) BK234.out (by decide)) BK241.out (by decide)) (fun _ hk => ⟨hk.1.1.2, ⟨hk.1.2, hk.2⟩⟩))⟩, ⟨by (with_reducible repeat (first | apply Kd.R_alloc | apply Kd.R_drewN | apply Kd.R_drew)); exact HO_242001.out⟩, ⟨by (with_reducible repeat (first | refine blk_drewN ?_ _ | refine blk_drew ?_ | refine blk_alloc ?_ _)); exact BK234.out⟩, ⟨by (with_reducible repeat (first | refine blk_drewN ?_ _ | refine blk_drew ?_ | refine blk_alloc ?_ _)); exact BK241.out⟩, ⟨by repeat (first | (with_reducible first | exact HB.out | apply below_alloc | apply pw_below_drewN | apply below_drew1 | refine below_set ?_ GE234.out | refine below_set ?_ GE241.out) | exact HB.out)⟩⟩
                  case round => as_aux_lemma =>
                    clear H'
                    try clear c1
                    try clear p2
                    try clear c5
                    try clear c9
                    try clear c9b0
                    try clear c9b1
                    try clear c9b2
                    try clear c10
                    try clear c10b0
                    try clear c11
                    try clear c13
                    try clear c16
                    try clear c16b0
                    try clear c16b1
                    try clear c16b2
                    try clear c17
                    try clear p2
                    obtain ⟨x9_3, x10_3, x242000_3, x242001_3, u242001, rfl, HA, HK3, HO_9, HO_242001, BK234, BK241, HB⟩ := hrel
                    cases gk with
                    | zero => exact absurd HA.out (by simp [batonlaw11_TabsMoves.l0])
                    | succ k3 =>
                      have H := HA.out
                      clear HA
                      simp only [batonlaw11_TabsMoves.l0] at H
                      by_cases c20 : x10_3 < (l1.length : Int)
                      · rw [if_pos c20] at H
                        have c20b0 : decide (x10_3 < (l1.length : Int)) = true := decide_eq_true c20
                        clear c20
                        by_cases c21 : 0 ≤ x10_3
                        · rw [if_pos c21] at H
                          have c21b0 : decide (0 ≤ x10_3) = true := decide_eq_true c21
                          clear c21
                          replace H := Option.bind_eq_some_iff.mp H
                          obtain ⟨⟨t247, t250, t251, t252⟩, A220, H⟩ := H
                          replace H : (batonlaw11_TabsMoves.l0 k3 a0 l1 t247 (wrap64 (x10_3 + 1)) a2_0 a2_1 t251 t252) = some r := H
                          have A22 := Aside0.mk A220
                          clear A220
                          have H' := Aside0.mk H
                          clear H
                          have p246 : 0 ≤ (x10_3 : Int) := of_decide_eq_true (by first | (with_reducible assumption) | assumption)
                          have q246 : x10_3 < (l1.length : Int) := of_decide_eq_true (by first | (with_reducible assumption) | assumption)
                          obtain ⟨ad246, e246, hx246_0⟩ := Kd.at_int HR1.out x10_3 p246 q246
                          cases e246
                          replace hx246_0 := (HB.out.cell (World.block_lt_of_cell? w _ hx246_0)).trans hx246_0
                          replace p246 := eq_true p246
                          replace q246 := eq_true q246
                          obtain ⟨Ao23, co23, eo23⟩ := Kd.R_slice HO_242001.out
                          subst eo23
                          obtain ⟨Ao24, co24, eo24⟩ := Kd.V_slice HO_9.out
                          subst eo24
                          go_wp2_with (first | (first | (go_at_call 15; (with_reducible refine (batonlaw11_do.calls k3 gb241 x242000_3 (fun k_ => some k_ = (.slice Ao23 x242001_3.length co23 : Value).ownBlock) (.slice Ao23 x242001_3.length co23) x242001_3 (fun k_ => (some k_ ≠ (.slice Ao23 x242001_3.length co23 : Value).ownBlock ∧ (k_ ≠ gb234 ∧ k_ ≠ gb241))) _ _ x9_3 (Int.tmod x10_3 2) (rd l1 x10_3) t247 t250 t251 t252 w _ ?side2 ?side3 ?side1 ?side4 ?side5 A22.out).mono ?_); (case side1 => repeat (first | (with_reducible first | exact HB.out | apply below_alloc | apply pw_below_drewN | apply below_drew1 | refine below_set ?_ GE234.out | refine below_set ?_ GE241.out) | exact HB.out)); (case side2 => (with_reducible repeat (first | refine blk_drewN ?_ _ | refine blk_drew ?_ | refine blk_alloc ?_ _)); exact BK241.out); (case side3 => exact GE241.out); (case side4 => exact Kd.R_tight rfl HO_242001.out); (case side5 => exact Kd.V_mono (HO_9.out) (fun k_ hk_ => ⟨hk_, hk_.1, hk_.2.2⟩)); rintro e w25 ⟨v248, v253, rfl, ho0, ho1, hbx, hb, hkp⟩; have n0_ := Aside0.mk (Kd.V_mono (ok' := fun k_ => k_ ≠ gb234 ∧ k_ ≠ gb241 ∧ some k_ ≠ (v253 : Value).ownBlock) (Kd.V_keptB (HO_9.out) hkp (fun k_ hk_ hs_ => Or.elim hs_ (fun hs_ => (hk_.1) hs_) (fun e_ => (hk_.2.2) e_))) (fun k_ hk_ => ⟨hk_.1.2.1, hk_.1.2.2, fun e_ => Or.elim (ho1.1 k_ e_.symm) (fun hs_ => hk_.2.1 (.inl hs_)) (fun hn_ => Nat.not_le.2 hk_.2.2 hn_)⟩)); have n1_ := Aside0.mk (blk_kept (by (with_reducible repeat (first | refine blk_drewN ?_ _ | refine blk_drew ?_ | refine blk_alloc ?_ _)); exact BK234.out) hkp (fun hs_ => Or.elim hs_ (fun hs_ => (fun e_ => (Kd.R_ne HO_242001.out BK234.out (by decide)) e_) hs_) (fun e_ => NB234_241.out e_))); have n2_ := Aside0.mk (hbx); have n3_ := Aside0.mk (Kd.V_mono (ok' := fun k_ => some k_ ≠ (v253 : Value).ownBlock ∧ k_ ≠ gb234 ∧ k_ ≠ gb241) ho0 (fun k_ hk_ => ⟨hk_.2, Or.elim hk_.1 (fun hs_ => Or.elim hs_ (fun hs_ => fun e_ => (Kd.R_ne HO_242001.out BK234.out (by decide)) (by rw [← e_]; exact hs_)) (fun hs_ => hs_.2.1)) (fun hn_ => (Kd.freshB (g := gb234) (o := .cells #[.int .i64 a2_0, .int .i64 a2_1] 40 (0, 0)) (by (with_reducible repeat (first | refine blk_drewN ?_ _ | refine blk_drew ?_ | refine blk_alloc ?_ _)); exact BK234.out) k_ hn_)), Or.elim hk_.1 (fun hs_ => Or.elim hs_ (fun hs_ => fun e_ => (Kd.R_ne HO_242001.out BK241.out (by decide)) (by rw [← e_]; exact hs_)) (fun hs_ => hs_.2.2)) (fun hn_ => (Kd.freshB (g := gb241) (o := .cells #[.int .i64 x242000_3, .slice Ao23 x242001_3.length co23] 66 (0, 0)) (by (with_reducible repeat (first | refine blk_drewN ?_ _ | refine blk_drew ?_ | refine blk_alloc ?_ _)); exact BK241.out) k_ hn_))⟩)); have n4_ := Aside0.mk (Kd.R_mono (ok' := fun k_ => True) ho1 (fun k_ hk_ => trivial)); have n5_ := Aside0.mk (hb); clear HO_9; clear BK234; clear BK241; clear HB; clear HO_242001; have HO_9 := n0_; have BK234 := n1_; have BK241 := n2_; have HO249 := n3_; have HO254 := n4_; have HB := n5_; clear n0_ n1_ n2_ n3_ n4_ n5_; (try clear hbx); (try clear hbn); (try clear hgn); (try clear hb); (try clear hkp); (try clear ho0); (try clear ho1))) | go_quiet (first | (go_at_call 15; (with_reducible refine (batonlaw11_do.calls k3 gb241 x242000_3 (fun k_ => some k_ = (.slice Ao23 x242001_3.length co23 : Value).ownBlock) (.slice Ao23 x242001_3.length co23) x242001_3 (fun k_ => (some k_ ≠ (.slice Ao23 x242001_3.length co23 : Value).ownBlock ∧ (k_ ≠ gb234 ∧ k_ ≠ gb241))) _ _ x9_3 (Int.tmod x10_3 2) (rd l1 x10_3) t247 t250 t251 t252 w _ ?side2 ?side3 ?side1 ?side4 ?side5 A22.out).mono ?_); (case side1 => repeat (first | (with_reducible first | exact HB.out | apply below_alloc | apply pw_below_drewN | apply below_drew1 | refine below_set ?_ GE234.out | refine below_set ?_ GE241.out) | exact HB.out)); (case side2 => (with_reducible repeat (first | refine blk_drewN ?_ _ | refine blk_drew ?_ | refine blk_alloc ?_ _)); exact BK241.out); (case side3 => exact GE241.out); (case side4 => exact Kd.R_tight rfl HO_242001.out); (case side5 => exact Kd.V_mono (HO_9.out) (fun k_ hk_ => ⟨hk_, hk_.1, hk_.2.2⟩)); rintro e w25 ⟨v248, v253, rfl, ho0, ho1, hbx, hb, hkp⟩; have n0_ := Aside0.mk (Kd.V_mono (ok' := fun k_ => k_ ≠ gb234 ∧ k_ ≠ gb241 ∧ some k_ ≠ (v253 : Value).ownBlock) (Kd.V_keptB (HO_9.out) hkp (fun k_ hk_ hs_ => Or.elim hs_ (fun hs_ => (hk_.1) hs_) (fun e_ => (hk_.2.2) e_))) (fun k_ hk_ => ⟨hk_.1.2.1, hk_.1.2.2, fun e_ => Or.elim (ho1.1 k_ e_.symm) (fun hs_ => hk_.2.1 (.inl hs_)) (fun hn_ => Nat.not_le.2 hk_.2.2 hn_)⟩)); have n1_ := Aside0.mk (blk_kept (by (with_reducible repeat (first | refine blk_drewN ?_ _ | refine blk_drew ?_ | refine blk_alloc ?_ _)); exact BK234.out) hkp (fun hs_ => Or.elim hs_ (fun hs_ => (fun e_ => (Kd.R_ne HO_242001.out BK234.out (by decide)) e_) hs_) (fun e_ => NB234_241.out e_))); have n2_ := Aside0.mk (hbx); have n3_ := Aside0.mk (Kd.V_mono (ok' := fun k_ => some k_ ≠ (v253 : Value).ownBlock ∧ k_ ≠ gb234 ∧ k_ ≠ gb241) ho0 (fun k_ hk_ => ⟨hk_.2, Or.elim hk_.1 (fun hs_ => Or.elim hs_ (fun hs_ => fun e_ => (Kd.R_ne HO_242001.out BK234.out (by decide)) (by rw [← e_]; exact hs_)) (fun hs_ => hs_.2.1)) (fun hn_ => (Kd.freshB (g := gb234) (o := .cells #[.int .i64 a2_0, .int .i64 a2_1] 40 (0, 0)) (by (with_reducible repeat (first | refine blk_drewN ?_ _ | refine blk_drew ?_ | refine blk_alloc ?_ _)); exact BK234.out) k_ hn_)), Or.elim hk_.1 (fun hs_ => Or.elim hs_ (fun hs_ => fun e_ => (Kd.R_ne HO_242001.out BK241.out (by decide)) (by rw [← e_]; exact hs_)) (fun hs_ => hs_.2.2)) (fun hn_ => (Kd.freshB (g := gb241) (o := .cells #[.int .i64 x242000_3, .slice Ao23 x242001_3.length co23] 66 (0, 0)) (by (with_reducible repeat (first | refine blk_drewN ?_ _ | refine blk_drew ?_ | refine blk_alloc ?_ _)); exact BK241.out) k_ hn_))⟩)); have n4_ := Aside0.mk (Kd.R_mono (ok' := fun k_ => True) ho1 (fun k_ hk_ => trivial)); have n5_ := Aside0.mk (hb); clear HO_9; clear BK234; clear BK241; clear HB; clear HO_242001; have HO_9 := n0_; have BK234 := n1_; have BK241 := n2_; have HO249 := n3_; have HO254 := n4_; have HB := n5_; clear n0_ n1_ n2_ n3_ n4_ n5_; (try clear hbx); (try clear hbn); (try clear hgn); (try clear hb); (try clear hkp); (try clear ho0); (try clear ho1))))
                          go_roundg k3
                          case measure => have := HJ5.out; have := HJ13.out; have := HK3.out; omega
                          case rel => exact ⟨(t247), (wrap64 (x10_3 + 1)), (t251), (t252), (v253), (by first | rfl | (simp; done) | (simp [*]; done)), H', ⟨by have := HJ5.out; have := HJ13.out; have := HK3.out; omega⟩, ⟨by (with_reducible repeat (first | apply Kd.V_alloc | apply Kd.V_drewN | apply Kd.V_drew)); exact HO249.out⟩, ⟨by (with_reducible repeat (first | apply Kd.R_alloc | apply Kd.R_drewN | apply Kd.R_drew)); exact HO254.out⟩, ⟨by (with_reducible repeat (first | refine blk_drewN ?_ _ | refine blk_drew ?_ | refine blk_alloc ?_ _)); exact BK234.out⟩, ⟨by (with_reducible repeat (first | refine blk_drewN ?_ _ | refine blk_drew ?_ | refine blk_alloc ?_ _)); exact BK241.out⟩, ⟨by repeat (first | (with_reducible first | exact HB.out | apply below_alloc | apply pw_below_drewN | apply below_drew1 | refine below_set ?_ GE234.out | refine below_set ?_ GE241.out) | exact HB.out)⟩⟩
                        · rw [if_neg c21] at H
                          exact absurd H (by simp)
                      · rw [if_neg c20] at H
                        have c20b0 : decide (x10_3 < (l1.length : Int)) = false := decide_eq_false c20
                        clear c20
                        obtain ⟨ji26, hji26⟩ : ∃ j_ : Int, (mx a2_0 0) = j_ := ⟨_, rfl⟩
                        replace H : (batonlaw11_TabsMoves.l1 k3 x9_3 a2_1 (mn (ji26) (wrap64 (a0 - 1))) (mn (ji26) (wrap64 (a0 - 1))) 0 a2_0 a2_1 x242000_3 x242001_3) = some r := by first | (rw [hji26] at H; exact H) | (simp only [hji26] at H ⊢; exact H)
                        have hji26_ : (if a2_0 < 0 then 0 else a2_0) = ji26 := hji26
                        obtain ⟨ji27, hji27⟩ : ∃ j_ : Int, (mn (ji26) (wrap64 (a0 - 1))) = j_ := ⟨_, rfl⟩
                        replace H : (batonlaw11_TabsMoves.l1 k3 x9_3 a2_1 ji27 ji27 0 a2_0 a2_1 x242000_3 x242001_3) = some r := by first | (rw [hji27] at H; exact H) | (simp only [hji27] at H ⊢; exact H)
                        have hji27_ : (if (wrap64 (a0 - 1)) < (ji26) then (wrap64 (a0 - 1)) else (ji26)) = ji27 := hji27
                        have H' := Aside0.mk H
                        clear H
                        have hnb28 := NB234_241.out
                        have hnc28 := NB241_234.out
                        have hcz29_0 : wr.cell? ⟨gb234, 0, none⟩ = some (.int .i64 a2_0) := (blk_cell BK234.out 0).trans rfl
                        have hcz29_1 : wr.cell? ⟨gb234, 1, none⟩ = some (.int .i64 a2_1) := (blk_cell BK234.out 1).trans rfl
                        have hfz29_0 := blk_frozen BK234.out 0
                        have hfz29_1 := blk_frozen BK234.out 1
                        go_wp2
                        repeat (go_quiet (fail); try go_wp2)
                        go_loopg [13, 14, 15] k3 (fun kq v13 v14 v15 w' => ∃ (x13_4 : Int) (x14_4 : Int) (x15_4 : Int), v13 = .int .i64 x13_4 ∧ v14 = .int .i64 x14_4 ∧ v15 = .int .i64 x15_4 ∧ Aside0 (batonlaw11_TabsMoves.l1 kq x9_3 a2_1 x13_4 x14_4 x15_4 a2_0 a2_1 x242000_3 x242001_3 = some r) ∧ Aside0 (kq ≤ k3) ∧ Aside0 (Kd.V Kd.bool 4 w' w.heap.size (fun k_ => some k_ ≠ (u242001 : Value).ownBlock ∧ k_ ≠ gb234 ∧ k_ ≠ gb241) u9 x9_3) ∧ Aside0 (Kd.R (Kd.int .i64) 3 w' w.heap.size (fun _ => True) u242001 x242001_3) ∧ Aside0 (w'.heap[gb234]? = some (.cells #[.int .i64 a2_0, .int .i64 a2_1] 40 (0, 0))) ∧ Aside0 (w'.heap[gb241]? = some (.cells #[.int .i64 x242000_3, u242001] 66 (0, 0))) ∧ Aside0 (Below w.heap.size w w'))
                        case atStart => exact ⟨(ji27), (ji27), (0), (by first | rfl | (simp; done) | (simp only [← hji27] <;> (first | rfl | simp)) | (simp [*]; done)), (by first | rfl | (simp; done) | (simp only [← hji27] <;> (first | rfl | simp)) | (simp [*]; done)), (by first | rfl | (simp; done) | (simp [*]; done)), H', ⟨Nat.le_refl _⟩, ⟨by (with_reducible repeat (first | apply Kd.V_alloc | apply Kd.V_drewN | apply Kd.V_drew)); exact HO_9.out⟩, ⟨by (with_reducible repeat (first | apply Kd.R_alloc | apply Kd.R_drewN | apply Kd.R_drew)); exact HO_242001.out⟩, ⟨by (with_reducible repeat (first | refine blk_drewN ?_ _ | refine blk_drew ?_ | refine blk_alloc ?_ _)); exact BK234.out⟩, ⟨by (with_reducible repeat (first | refine blk_drewN ?_ _ | refine blk_drew ?_ | refine blk_alloc ?_ _)); exact BK241.out⟩, ⟨by repeat (first | (with_reducible first | exact HB.out | apply below_alloc | apply pw_below_drewN | apply below_drew1 | refine below_set ?_ GE234.out | refine below_set ?_ GE241.out) | exact HB.out)⟩⟩
                        case round => as_aux_lemma =>
                          clear H'
                          try clear c1
                          try clear c2
                          try clear p2
                          try clear q2
                          try clear hx2
                          try clear c5
                          try clear p6
                          try clear c9
                          try clear c9b0
                          try clear c9b1
                          try clear c9b2
                          try clear c10
                          try clear c10b0
                          try clear c11
                          try clear c13
                          try clear c16
                          try clear c16b0
                          try clear c16b1
                          try clear c16b2
                          try clear c17
                          try clear c20
                          try clear c20b0
                          try clear c21
                          try clear c21b0
                          try clear p24
                          try clear q24
                          try clear hx24
                          try clear c28
                          try clear hcz29_0
                          try clear hcz29_1
                          try clear hfz29_0
                          try clear hfz29_1
                          try clear hx246_0
                          try clear p2
                          try clear p246
                          try clear q246
                          obtain ⟨x13_4, x14_4, x15_4, rfl, rfl, rfl, HA, HK4, HO_9, HO_242001, BK234, BK241, HB⟩ := hrel
                          cases gk with
                          | zero => exact absurd HA.out (by simp [batonlaw11_TabsMoves.l1])
                          | succ k4 =>
                            have H := HA.out
                            clear HA
                            simp only [batonlaw11_TabsMoves.l1] at H
                            have HC30 := Aside0.mk H
                            clear H
                            go_upto_region 16 with (first | (fail) | go_quiet (fail))
                            go_cut [77] (fun v77 wc => ∃ (kq : Nat) (x77_29 : Bool), v77 = .bool x77_29 ∧ Aside0 (batonlaw11_TabsMoves.j4 kq x9_3 a2_1 x13_4 x14_4 x15_4 x77_29 a2_0 a2_1 x242000_3 x242001_3 = some r) ∧ Aside0 (kq ≤ k4) ∧ Aside0 (Kd.V Kd.bool 4 wc w.heap.size (fun k_ => some k_ ≠ (u242001 : Value).ownBlock ∧ k_ ≠ gb234 ∧ k_ ≠ gb241) u9 x9_3) ∧ Aside0 (Kd.R (Kd.int .i64) 3 wc w.heap.size (fun _ => True) u242001 x242001_3) ∧ Aside0 (wc.heap[gb234]? = some (.cells #[.int .i64 a2_0, .int .i64 a2_1] 40 (0, 0))) ∧ Aside0 (wc.heap[gb241]? = some (.cells #[.int .i64 x242000_3, u242001] 66 (0, 0))) ∧ Aside0 (Below w.heap.size w wc))
                            case first => as_aux_lemma =>
                              have H := HC30.out
                              clear HC30
                              by_cases c31 : x15_4 < a2_1
                              · rw [if_pos c31] at H
                                have c31b0 : decide (x15_4 < a2_1) = true := decide_eq_true c31
                                clear c31
                                (first | rw [c31b0] | (simp only [i64_w, i32_w]; rw [c31b0]) | rw [c31b1] | rw [c31b2] | skip)
                                have H' := Aside0.mk H
                                clear H
                                go_wp2
                                repeat (go_quiet (fail); try go_wp2)
                                go_meet
                                case rel => exact ⟨_, (decide (x15_4 < 200)), (by first | rfl | (simp; done) | (simp [*]; done)), H', ⟨by have := HJ5.out; have := HJ13.out; have := HK3.out; have := HK4.out; first | omega | exact Nat.le_refl _⟩, ⟨by (with_reducible repeat (first | apply Kd.V_alloc | apply Kd.V_drewN | apply Kd.V_drew)); exact HO_9.out⟩, ⟨by (with_reducible repeat (first | apply Kd.R_alloc | apply Kd.R_drewN | apply Kd.R_drew)); exact HO_242001.out⟩, ⟨by (with_reducible repeat (first | refine blk_drewN ?_ _ | refine blk_drew ?_ | refine blk_alloc ?_ _)); exact BK234.out⟩, ⟨by (with_reducible repeat (first | refine blk_drewN ?_ _ | refine blk_drew ?_ | refine blk_alloc ?_ _)); exact BK241.out⟩, ⟨by repeat (first | (with_reducible first | exact HB.out | apply below_alloc | apply pw_below_drewN | apply below_drew1 | refine below_set ?_ GE234.out | refine below_set ?_ GE241.out) | exact HB.out)⟩⟩
                              · rw [if_neg c31] at H
                                have c31b0 : decide (x15_4 < a2_1) = false := decide_eq_false c31
                                clear c31
                                (first | rw [c31b0] | (simp only [i64_w, i32_w]; rw [c31b0]) | rw [c31b1] | rw [c31b2] | skip)
                                have H' := Aside0.mk H
                                clear H
                                go_wp2
                                repeat (go_quiet (fail); try go_wp2)
                                go_meet
                                case rel => exact ⟨_, (false), (by first | rfl | (simp; done) | (simp [*]; done)), H', ⟨by have := HJ5.out; have := HJ13.out; have := HK3.out; have := HK4.out; first | omega | exact Nat.le_refl _⟩, ⟨by (with_reducible repeat (first | apply Kd.V_alloc | apply Kd.V_drewN | apply Kd.V_drew)); exact HO_9.out⟩, ⟨by (with_reducible repeat (first | apply Kd.R_alloc | apply Kd.R_drewN | apply Kd.R_drew)); exact HO_242001.out⟩, ⟨by (with_reducible repeat (first | refine blk_drewN ?_ _ | refine blk_drew ?_ | refine blk_alloc ?_ _)); exact BK234.out⟩, ⟨by (with_reducible repeat (first | refine blk_drewN ?_ _ | refine blk_drew ?_ | refine blk_alloc ?_ _)); exact BK241.out⟩, ⟨by repeat (first | (with_reducible first | exact HB.out | apply below_alloc | apply pw_below_drewN | apply below_drew1 | refine below_set ?_ GE234.out | refine below_set ?_ GE241.out) | exact HB.out)⟩⟩
                            case rest => as_aux_lemma =>
                              clear HC30
                              try clear c1
                              try clear c2
                              try clear p2
                              try clear q2
                              try clear hx2
                              try clear c3
                              try clear c5
                              try clear p6
                              try clear c9
                              try clear c9b0
                              try clear c9b1
                              try clear c9b2
                              try clear c10
                              try clear c10b0
                              try clear c11
                              try clear c13
                              try clear c16
                              try clear c16b0
                              try clear c16b1
                              try clear c16b2
                              try clear c17
                              try clear c20
                              try clear c20b0
                              try clear c21
                              try clear c21b0
                              try clear p24
                              try clear q24
                              try clear hx24
                              try clear c28
                              try clear c31
                              try clear c31b0
                              try clear c31b1
                              try clear c31b2
                              try clear hcz29_0
                              try clear hcz29_1
                              try clear hfz29_0
                              try clear hfz29_1
                              try clear hx246_0
                              try clear p2
                              try clear p24
                              try clear p246
                              try clear p6
                              try clear q2
                              try clear q24
                              try clear q246
                              obtain ⟨kq, x77_29, rfl, HA, HJ29, HO_9, HO_242001, BK234, BK241, HB⟩ := hcut
                              cases kq with
                              | zero => exact absurd HA.out (by simp [batonlaw11_TabsMoves.j4])
                              | succ kj29 =>
                                have H := HA.out
                                clear HA
                                simp only [batonlaw11_TabsMoves.j4] at H
                                by_cases c32 : x77_29 = true
                                · subst c32
                                  have H1 : ((batonref11_Next.f kj29 x9_3 x13_4).bind fun t255 => ((batonref11_Back.f kj29 x9_3 x14_4).bind fun t256 => (batonlaw11_TabsMoves.l1 kj29 x9_3 a2_1 t255 t256 (wrap64 (x15_4 + 1)) a2_0 a2_1 x242000_3 x242001_3))) = some r := by rw [if_pos rfl] at H; exact H
                                  clear H
                                  have H := H1
                                  clear H1
                                  replace H := Option.bind_eq_some_iff.mp H
                                  obtain ⟨t255, A330, H⟩ := H
                                  replace H : ((batonref11_Back.f kj29 x9_3 x14_4).bind fun t256 => (batonlaw11_TabsMoves.l1 kj29 x9_3 a2_1 t255 t256 (wrap64 (x15_4 + 1)) a2_0 a2_1 x242000_3 x242001_3)) = some r := H
                                  have A33 := Aside0.mk A330
                                  clear A330
                                  replace H := Option.bind_eq_some_iff.mp H
                                  obtain ⟨t256, A340, H⟩ := H
                                  replace H : (batonlaw11_TabsMoves.l1 kj29 x9_3 a2_1 t255 t256 (wrap64 (x15_4 + 1)) a2_0 a2_1 x242000_3 x242001_3) = some r := H
                                  have A34 := Aside0.mk A340
                                  clear A340
                                  have H' := Aside0.mk H
                                  clear H
                                  obtain ⟨Ao35, co35, eo35⟩ := Kd.V_slice HO_9.out
                                  subst eo35
                                  go_wp2_with (first | (first | (go_at_call 16; (with_reducible refine (batonref11_Next.calls kj29 _ _ x9_3 x13_4 t255 _ ?side1 ?side2 A33.out).mono ?_); (case side1 => repeat (first | exact (Kd.V_reads' HO_9.out).2.2 | (with_reducible refine Kd.C_alloc ?_ _) | (with_reducible refine Kd.C_drewN ?_ _) | (with_reducible refine Kd.C_drew ?_))); (case side2 => exact (Kd.V_reads' HO_9.out).2.1); rintro e w' ⟨rfl, ⟨nd, rfl⟩⟩; (try first | exact ⟨rfl, _, World.drewN_drewN _ _ _⟩ | exact ⟨rfl, _, Eq.trans (World.drewN_drewN _ _ _) (congrArg (World.drewN _) (Nat.add_assoc _ _ _))⟩)) | (go_at_call 17; (with_reducible refine (batonref11_Back.calls kj29 _ _ x9_3 x14_4 t256 _ ?side1 ?side2 A34.out).mono ?_); (case side1 => repeat (first | exact (Kd.V_reads' HO_9.out).2.2 | (with_reducible refine Kd.C_alloc ?_ _) | (with_reducible refine Kd.C_drewN ?_ _) | (with_reducible refine Kd.C_drew ?_))); (case side2 => exact (Kd.V_reads' HO_9.out).2.1); rintro e w' ⟨rfl, ⟨nd, rfl⟩⟩; (try first | exact ⟨rfl, _, World.drewN_drewN _ _ _⟩ | exact ⟨rfl, _, Eq.trans (World.drewN_drewN _ _ _) (congrArg (World.drewN _) (Nat.add_assoc _ _ _))⟩))) | go_quiet (first | (go_at_call 16; (with_reducible refine (batonref11_Next.calls kj29 _ _ x9_3 x13_4 t255 _ ?side1 ?side2 A33.out).mono ?_); (case side1 => repeat (first | exact (Kd.V_reads' HO_9.out).2.2 | (with_reducible refine Kd.C_alloc ?_ _) | (with_reducible refine Kd.C_drewN ?_ _) | (with_reducible refine Kd.C_drew ?_))); (case side2 => exact (Kd.V_reads' HO_9.out).2.1); rintro e w' ⟨rfl, ⟨nd, rfl⟩⟩; (try first | exact ⟨rfl, _, World.drewN_drewN _ _ _⟩ | exact ⟨rfl, _, Eq.trans (World.drewN_drewN _ _ _) (congrArg (World.drewN _) (Nat.add_assoc _ _ _))⟩)) | (go_at_call 17; (with_reducible refine (batonref11_Back.calls kj29 _ _ x9_3 x14_4 t256 _ ?side1 ?side2 A34.out).mono ?_); (case side1 => repeat (first | exact (Kd.V_reads' HO_9.out).2.2 | (with_reducible refine Kd.C_alloc ?_ _) | (with_reducible refine Kd.C_drewN ?_ _) | (with_reducible refine Kd.C_drew ?_))); (case side2 => exact (Kd.V_reads' HO_9.out).2.1); rintro e w' ⟨rfl, ⟨nd, rfl⟩⟩; (try first | exact ⟨rfl, _, World.drewN_drewN _ _ _⟩ | exact ⟨rfl, _, Eq.trans (World.drewN_drewN _ _ _) (congrArg (World.drewN _) (Nat.add_assoc _ _ _))⟩))))
                                  go_roundg kj29
                                  case measure => have := HJ5.out; have := HJ13.out; have := HK3.out; have := HK4.out; have := HJ29.out; omega
                                  case rel => exact ⟨(t255), (t256), (wrap64 (x15_4 + 1)), (by first | rfl | (simp; done) | (simp [*]; done)), (by first | rfl | (simp; done) | (simp [*]; done)), (by first | rfl | (simp; done) | (simp [*]; done)), H', ⟨by have := HJ5.out; have := HJ13.out; have := HK3.out; have := HK4.out; have := HJ29.out; omega⟩, ⟨by (with_reducible repeat (first | apply Kd.V_alloc | apply Kd.V_drewN | apply Kd.V_drew)); exact HO_9.out⟩, ⟨by (with_reducible repeat (first | apply Kd.R_alloc | apply Kd.R_drewN | apply Kd.R_drew)); exact HO_242001.out⟩, ⟨by (with_reducible repeat (first | refine blk_drewN ?_ _ | refine blk_drew ?_ | refine blk_alloc ?_ _)); exact BK234.out⟩, ⟨by (with_reducible repeat (first | refine blk_drewN ?_ _ | refine blk_drew ?_ | refine blk_alloc ?_ _)); exact BK241.out⟩, ⟨by repeat (first | (with_reducible first | exact HB.out | apply below_alloc | apply pw_below_drewN | apply below_drew1 | refine below_set ?_ GE234.out | refine below_set ?_ GE241.out) | exact HB.out)⟩⟩
                                · replace c32 := Bool.eq_false_iff.mpr c32
                                  subst c32
                                  have H1 : ((tabs_Stops_Next.f kj29 x242000_3 x242001_3 a2_0 a2_1).bind fun bt257 => (if bt257.1 = x13_4 then ((tabs_Stops_Back.f kj29 bt257.2.1 bt257.2.2 a2_0 a2_1).bind fun bt262 => (some (bt262.1 == x14_4))) else (some false))) = some r := by rw [if_neg (show ¬ (false = true) by decide)] at H; exact H
                                  clear H
                                  have H := H1
                                  clear H1
                                  replace H := Option.bind_eq_some_iff.mp H
                                  obtain ⟨⟨t257, t258, t259⟩, A360, H⟩ := H
                                  replace H : (if t257 = x13_4 then ((tabs_Stops_Back.f kj29 t258 t259 a2_0 a2_1).bind fun bt262 => (some (bt262.1 == x14_4))) else (some false)) = some r := H
                                  have A36 := Aside0.mk A360
                                  clear A360
                                  by_cases c37 : t257 = x13_4
                                  · rw [if_pos c37] at H
                                    have c37b0 : (t257 == x13_4) = true := beq_iff_eq.mpr c37
                                    have c37b1 : (t257 != x13_4) = false := bne_eq_false_iff_eq.mpr c37
                                    clear c37
                                    replace H := Option.bind_eq_some_iff.mp H
                                    obtain ⟨⟨t262, t263, t264⟩, A380, H⟩ := H
                                    replace H : (some (t262 == x14_4)) = some r := H
                                    have A38 := Aside0.mk A380
                                    clear A380
                                    obtain rfl := Option.some.inj H
                                    have hnb39 := NB234_241.out
                                    have hnc39 := NB241_234.out
                                    have hcz40_0 : wc.cell? ⟨gb234, 0, none⟩ = some (.int .i64 a2_0) := (blk_cell BK234.out 0).trans rfl
                                    have hcz40_1 : wc.cell? ⟨gb234, 1, none⟩ = some (.int .i64 a2_1) := (blk_cell BK234.out 1).trans rfl
                                    have hfz40_0 := blk_frozen BK234.out 0
                                    have hfz40_1 := blk_frozen BK234.out 1
                                    obtain ⟨Ao41, co41, eo41⟩ := Kd.R_slice HO_242001.out
                                    subst eo41
                                    go_wp2_with (first | (first | (go_at_call 11; (with_reducible refine (tabs_Stops_Next.calls kj29 gb241 x242000_3 (fun k_ => some k_ = (.slice Ao41 x242001_3.length co41 : Value).ownBlock) (.slice Ao41 x242001_3.length co41) x242001_3 a2_0 a2_1 t257 t258 t259 w _ ?side2 ?side3 ?side1 ?side4 A36.out).mono ?_); (case side1 => repeat (first | (with_reducible first | exact HB.out | apply below_alloc | apply pw_below_drewN | apply below_drew1 | refine below_set ?_ GE234.out | refine below_set ?_ GE241.out) | exact HB.out)); (case side2 => (with_reducible repeat (first | refine blk_drewN ?_ _ | refine blk_drew ?_ | refine blk_alloc ?_ _)); exact BK241.out); (case side3 => exact GE241.out); (case side4 => exact Kd.R_tight rfl HO_242001.out); rintro e w42 ⟨v260, rfl, ho0, hbx, hb, hkp⟩; have n0_ := Aside0.mk (Kd.V_mono (ok' := fun k_ => k_ ≠ gb234 ∧ k_ ≠ gb241 ∧ some k_ ≠ (v260 : Value).ownBlock) (Kd.V_keptB (HO_9.out) hkp (fun k_ hk_ hs_ => Or.elim hs_ (fun hs_ => (hk_.1) hs_) (fun e_ => (hk_.2.2) e_))) (fun k_ hk_ => ⟨hk_.1.2.1, hk_.1.2.2, fun e_ => Or.elim (ho0.1 k_ e_.symm) (fun hs_ => hk_.2.1 (.inl hs_)) (fun hn_ => Nat.not_le.2 hk_.2.2 hn_)⟩)); have n1_ := Aside0.mk (blk_kept (by (with_reducible repeat (first | refine blk_drewN ?_ _ | refine blk_drew ?_ | refine blk_alloc ?_ _)); exact BK234.out) hkp (fun hs_ => Or.elim hs_ (fun hs_ => (fun e_ => (Kd.R_ne HO_242001.out BK234.out (by decide)) e_) hs_) (fun e_ => NB234_241.out e_))); have n2_ := Aside0.mk (hbx); have n3_ := Aside0.mk (Kd.R_mono (ok' := fun k_ => True) ho0 (fun k_ hk_ => trivial)); have n4_ := Aside0.mk (hb); clear HO_9; clear BK234; clear BK241; clear HB; clear HO_242001; have HO_9 := n0_; have BK234 := n1_; have BK241 := n2_; have HO261 := n3_; have HB := n4_; clear n0_ n1_ n2_ n3_ n4_; (try clear hbx); (try clear hbn); (try clear hgn); (try clear hb); (try clear hkp); (try clear ho0); have hcz43_0 : w42.cell? ⟨gb234, 0, none⟩ = some (.int .i64 a2_0) := (blk_cell BK234.out 0).trans rfl; have hcz43_1 : w42.cell? ⟨gb234, 1, none⟩ = some (.int .i64 a2_1) := (blk_cell BK234.out 1).trans rfl; have hfz43_0 := blk_frozen BK234.out 0; have hfz43_1 := blk_frozen BK234.out 1; obtain ⟨Ao44, co44, eo44⟩ := Kd.R_slice HO261.out; subst eo44) | (go_at_call 12; (with_reducible refine (tabs_Stops_Back.calls kj29 gb241 t258 (fun k_ => some k_ = (.slice Ao44 t259.length co44 : Value).ownBlock) (.slice Ao44 t259.length co44) t259 a2_0 a2_1 t262 t263 t264 w _ ?side2 ?side3 ?side1 ?side4 A38.out).mono ?_); (case side1 => repeat (first | (with_reducible first | exact HB.out | apply below_alloc | apply pw_below_drewN | apply below_drew1 | refine below_set ?_ GE234.out | refine below_set ?_ GE241.out) | exact HB.out)); (case side2 => (with_reducible repeat (first | refine blk_drewN ?_ _ | refine blk_drew ?_ | refine blk_alloc ?_ _)); exact BK241.out); (case side3 => exact GE241.out); (case side4 => exact Kd.R_tight rfl HO261.out); rintro e w45 ⟨v265, rfl, ho0, hbx, hb, hkp⟩; have n0_ := Aside0.mk (Kd.V_mono (ok' := fun k_ => k_ ≠ gb234 ∧ k_ ≠ gb241 ∧ some k_ ≠ (v265 : Value).ownBlock) (Kd.V_keptB (HO_9.out) hkp (fun k_ hk_ hs_ => Or.elim hs_ (fun hs_ => (hk_.2.2) hs_) (fun e_ => (hk_.2.1) e_))) (fun k_ hk_ => ⟨hk_.1.1, hk_.1.2.1, fun e_ => Or.elim (ho0.1 k_ e_.symm) (fun hs_ => hk_.2.1 (.inl hs_)) (fun hn_ => Nat.not_le.2 hk_.2.2 hn_)⟩)); have n1_ := Aside0.mk (blk_kept (by (with_reducible repeat (first | refine blk_drewN ?_ _ | refine blk_drew ?_ | refine blk_alloc ?_ _)); exact BK234.out) hkp (fun hs_ => Or.elim hs_ (fun hs_ => (fun e_ => (Kd.R_ne HO261.out BK234.out (by decide)) e_) hs_) (fun e_ => NB234_241.out e_))); have n2_ := Aside0.mk (hbx); have n3_ := Aside0.mk (Kd.R_mono (ok' := fun k_ => True) ho0 (fun k_ hk_ => trivial)); have n4_ := Aside0.mk (hb); clear HO_9; clear BK234; clear BK241; clear HB; clear HO261; have HO_9 := n0_; have BK234 := n1_; have BK241 := n2_; have HO266 := n3_; have HB := n4_; clear n0_ n1_ n2_ n3_ n4_; (try clear hbx); (try clear hbn); (try clear hgn); (try clear hb); (try clear hkp); (try clear ho0))) | go_quiet (first | (go_at_call 11; (with_reducible refine (tabs_Stops_Next.calls kj29 gb241 x242000_3 (fun k_ => some k_ = (.slice Ao41 x242001_3.length co41 : Value).ownBlock) (.slice Ao41 x242001_3.length co41) x242001_3 a2_0 a2_1 t257 t258 t259 w _ ?side2 ?side3 ?side1 ?side4 A36.out).mono ?_); (case side1 => repeat (first | (with_reducible first | exact HB.out | apply below_alloc | apply pw_below_drewN | apply below_drew1 | refine below_set ?_ GE234.out | refine below_set ?_ GE241.out) | exact HB.out)); (case side2 => (with_reducible repeat (first | refine blk_drewN ?_ _ | refine blk_drew ?_ | refine blk_alloc ?_ _)); exact BK241.out); (case side3 => exact GE241.out); (case side4 => exact Kd.R_tight rfl HO_242001.out); rintro e w42 ⟨v260, rfl, ho0, hbx, hb, hkp⟩; have n0_ := Aside0.mk (Kd.V_mono (ok' := fun k_ => k_ ≠ gb234 ∧ k_ ≠ gb241 ∧ some k_ ≠ (v260 : Value).ownBlock) (Kd.V_keptB (HO_9.out) hkp (fun k_ hk_ hs_ => Or.elim hs_ (fun hs_ => (hk_.1) hs_) (fun e_ => (hk_.2.2) e_))) (fun k_ hk_ => ⟨hk_.1.2.1, hk_.1.2.2, fun e_ => Or.elim (ho0.1 k_ e_.symm) (fun hs_ => hk_.2.1 (.inl hs_)) (fun hn_ => Nat.not_le.2 hk_.2.2 hn_)⟩)); have n1_ := Aside0.mk (blk_kept (by (with_reducible repeat (first | refine blk_drewN ?_ _ | refine blk_drew ?_ | refine blk_alloc ?_ _)); exact BK234.out) hkp (fun hs_ => Or.elim hs_ (fun hs_ => (fun e_ => (Kd.R_ne HO_242001.out BK234.out (by decide)) e_) hs_) (fun e_ => NB234_241.out e_))); have n2_ := Aside0.mk (hbx); have n3_ := Aside0.mk (Kd.R_mono (ok' := fun k_ => True) ho0 (fun k_ hk_ => trivial)); have n4_ := Aside0.mk (hb); clear HO_9; clear BK234; clear BK241; clear HB; clear HO_242001; have HO_9 := n0_; have BK234 := n1_; have BK241 := n2_; have HO261 := n3_; have HB := n4_; clear n0_ n1_ n2_ n3_ n4_; (try clear hbx); (try clear hbn); (try clear hgn); (try clear hb); (try clear hkp); (try clear ho0); have hcz43_0 : w42.cell? ⟨gb234, 0, none⟩ = some (.int .i64 a2_0) := (blk_cell BK234.out 0).trans rfl; have hcz43_1 : w42.cell? ⟨gb234, 1, none⟩ = some (.int .i64 a2_1) := (blk_cell BK234.out 1).trans rfl; have hfz43_0 := blk_frozen BK234.out 0; have hfz43_1 := blk_frozen BK234.out 1; obtain ⟨Ao44, co44, eo44⟩ := Kd.R_slice HO261.out; subst eo44) | (go_at_call 12; (with_reducible refine (tabs_Stops_Back.calls kj29 gb241 t258 (fun k_ => some k_ = (.slice Ao44 t259.length co44 : Value).ownBlock) (.slice Ao44 t259.length co44) t259 a2_0 a2_1 t262 t263 t264 w _ ?side2 ?side3 ?side1 ?side4 A38.out).mono ?_); (case side1 => repeat (first | (with_reducible first | exact HB.out | apply below_alloc | apply pw_below_drewN | apply below_drew1 | refine below_set ?_ GE234.out | refine below_set ?_ GE241.out) | exact HB.out)); (case side2 => (with_reducible repeat (first | refine blk_drewN ?_ _ | refine blk_drew ?_ | refine blk_alloc ?_ _)); exact BK241.out); (case side3 => exact GE241.out); (case side4 => exact Kd.R_tight rfl HO261.out); rintro e w45 ⟨v265, rfl, ho0, hbx, hb, hkp⟩; have n0_ := Aside0.mk (Kd.V_mono (ok' := fun k_ => k_ ≠ gb234 ∧ k_ ≠ gb241 ∧ some k_ ≠ (v265 : Value).ownBlock) (Kd.V_keptB (HO_9.out) hkp (fun k_ hk_ hs_ => Or.elim hs_ (fun hs_ => (hk_.2.2) hs_) (fun e_ => (hk_.2.1) e_))) (fun k_ hk_ => ⟨hk_.1.1, hk_.1.2.1, fun e_ => Or.elim (ho0.1 k_ e_.symm) (fun hs_ => hk_.2.1 (.inl hs_)) (fun hn_ => Nat.not_le.2 hk_.2.2 hn_)⟩)); have n1_ := Aside0.mk (blk_kept (by (with_reducible repeat (first | refine blk_drewN ?_ _ | refine blk_drew ?_ | refine blk_alloc ?_ _)); exact BK234.out) hkp (fun hs_ => Or.elim hs_ (fun hs_ => (fun e_ => (Kd.R_ne HO261.out BK234.out (by decide)) e_) hs_) (fun e_ => NB234_241.out e_))); have n2_ := Aside0.mk (hbx); have n3_ := Aside0.mk (Kd.R_mono (ok' := fun k_ => True) ho0 (fun k_ hk_ => trivial)); have n4_ := Aside0.mk (hb); clear HO_9; clear BK234; clear BK241; clear HB; clear HO261; have HO_9 := n0_; have BK234 := n1_; have BK241 := n2_; have HO266 := n3_; have HB := n4_; clear n0_ n1_ n2_ n3_ n4_; (try clear hbx); (try clear hbn); (try clear hgn); (try clear hb); (try clear hkp); (try clear ho0))))
                                    go_ret
                                    exact ⟨by first | rfl | (simp [errW_none, errW_some] <;> rfl) | (simp only [← hji26, ← hji27]; first | rfl | (simp [errW_none, errW_some] <;> rfl)) | (simp [*, errW_none, errW_some] <;> rfl), by repeat (first | (with_reducible first | exact HB.out | apply below_alloc | apply pw_below_drewN | apply below_drew1 | refine below_set ?_ GE234.out | refine below_set ?_ GE241.out) | exact HB.out)⟩
                                  · rw [if_neg c37] at H
                                    have c37b0 : (t257 == x13_4) = false := beq_eq_false_iff_ne.mpr c37
                                    have c37b1 : (t257 != x13_4) = true := bne_iff_ne.mpr c37
                                    obtain rfl := Option.some.inj H
                                    have hnb46 := NB234_241.out
                                    have hnc46 := NB241_234.out
                                    have hcz47_0 : wc.cell? ⟨gb234, 0, none⟩ = some (.int .i64 a2_0) := (blk_cell BK234.out 0).trans rfl
                                    have hcz47_1 : wc.cell? ⟨gb234, 1, none⟩ = some (.int .i64 a2_1) := (blk_cell BK234.out 1).trans rfl
                                    have hfz47_0 := blk_frozen BK234.out 0
                                    have hfz47_1 := blk_frozen BK234.out 1
                                    obtain ⟨Ao48, co48, eo48⟩ := Kd.R_slice HO_242001.out
                                    subst eo48
                                    go_wp2_with (first | (first | (go_at_call 11; (with_reducible refine (tabs_Stops_Next.calls kj29 gb241 x242000_3 (fun k_ => some k_ = (.slice Ao48 x242001_3.length co48 : Value).ownBlock) (.slice Ao48 x242001_3.length co48) x242001_3 a2_0 a2_1 t257 t258 t259 w _ ?side2 ?side3 ?side1 ?side4 A36.out).mono ?_); (case side1 => repeat (first | (with_reducible first | exact HB.out | apply below_alloc | apply pw_below_drewN | apply below_drew1 | refine below_set ?_ GE234.out | refine below_set ?_ GE241.out) | exact HB.out)); (case side2 => (with_reducible repeat (first | refine blk_drewN ?_ _ | refine blk_drew ?_ | refine blk_alloc ?_ _)); exact BK241.out); (case side3 => exact GE241.out); (case side4 => exact Kd.R_tight rfl HO_242001.out); rintro e w49 ⟨v260, rfl, ho0, hbx, hb, hkp⟩; have n0_ := Aside0.mk (Kd.V_mono (ok' := fun k_ => k_ ≠ gb234 ∧ k_ ≠ gb241 ∧ some k_ ≠ (v260 : Value).ownBlock) (Kd.V_keptB (HO_9.out) hkp (fun k_ hk_ hs_ => Or.elim hs_ (fun hs_ => (hk_.1) hs_) (fun e_ => (hk_.2.2) e_))) (fun k_ hk_ => ⟨hk_.1.2.1, hk_.1.2.2, fun e_ => Or.elim (ho0.1 k_ e_.symm) (fun hs_ => hk_.2.1 (.inl hs_)) (fun hn_ => Nat.not_le.2 hk_.2.2 hn_)⟩)); have n1_ := Aside0.mk (blk_kept (by (with_reducible repeat (first | refine blk_drewN ?_ _ | refine blk_drew ?_ | refine blk_alloc ?_ _)); exact BK234.out) hkp (fun hs_ => Or.elim hs_ (fun hs_ => (fun e_ => (Kd.R_ne HO_242001.out BK234.out (by decide)) e_) hs_) (fun e_ => NB234_241.out e_))); have n2_ := Aside0.mk (hbx); have n3_ := Aside0.mk (Kd.R_mono (ok' := fun k_ => True) ho0 (fun k_ hk_ => trivial)); have n4_ := Aside0.mk (hb); clear HO_9; clear BK234; clear BK241; clear HB; clear HO_242001; have HO_9 := n0_; have BK234 := n1_; have BK241 := n2_; have HO261 := n3_; have HB := n4_; clear n0_ n1_ n2_ n3_ n4_; (try clear hbx); (try clear hbn); (try clear hgn); (try clear hb); (try clear hkp); (try clear ho0))) | go_quiet (first | (go_at_call 11; (with_reducible refine (tabs_Stops_Next.calls kj29 gb241 x242000_3 (fun k_ => some k_ = (.slice Ao48 x242001_3.length co48 : Value).ownBlock) (.slice Ao48 x242001_3.length co48) x242001_3 a2_0 a2_1 t257 t258 t259 w _ ?side2 ?side3 ?side1 ?side4 A36.out).mono ?_); (case side1 => repeat (first | (with_reducible first | exact HB.out | apply below_alloc | apply pw_below_drewN | apply below_drew1 | refine below_set ?_ GE234.out | refine below_set ?_ GE241.out) | exact HB.out)); (case side2 => (with_reducible repeat (first | refine blk_drewN ?_ _ | refine blk_drew ?_ | refine blk_alloc ?_ _)); exact BK241.out); (case side3 => exact GE241.out); (case side4 => exact Kd.R_tight rfl HO_242001.out); rintro e w49 ⟨v260, rfl, ho0, hbx, hb, hkp⟩; have n0_ := Aside0.mk (Kd.V_mono (ok' := fun k_ => k_ ≠ gb234 ∧ k_ ≠ gb241 ∧ some k_ ≠ (v260 : Value).ownBlock) (Kd.V_keptB (HO_9.out) hkp (fun k_ hk_ hs_ => Or.elim hs_ (fun hs_ => (hk_.1) hs_) (fun e_ => (hk_.2.2) e_))) (fun k_ hk_ => ⟨hk_.1.2.1, hk_.1.2.2, fun e_ => Or.elim (ho0.1 k_ e_.symm) (fun hs_ => hk_.2.1 (.inl hs_)) (fun hn_ => Nat.not_le.2 hk_.2.2 hn_)⟩)); have n1_ := Aside0.mk (blk_kept (by (with_reducible repeat (first | refine blk_drewN ?_ _ | refine blk_drew ?_ | refine blk_alloc ?_ _)); exact BK234.out) hkp (fun hs_ => Or.elim hs_ (fun hs_ => (fun e_ => (Kd.R_ne HO_242001.out BK234.out (by decide)) e_) hs_) (fun e_ => NB234_241.out e_))); have n2_ := Aside0.mk (hbx); have n3_ := Aside0.mk (Kd.R_mono (ok' := fun k_ => True) ho0 (fun k_ hk_ => trivial)); have n4_ := Aside0.mk (hb); clear HO_9; clear BK234; clear BK241; clear HB; clear HO_242001; have HO_9 := n0_; have BK234 := n1_; have BK241 := n2_; have HO261 := n3_; have HB := n4_; clear n0_ n1_ n2_ n3_ n4_; (try clear hbx); (try clear hbn); (try clear hgn); (try clear hb); (try clear hkp); (try clear ho0))))
                                    go_ret
                                    exact ⟨by first | rfl | (simp [errW_none, errW_some] <;> rfl) | (simp only [← hji26, ← hji27]; first | rfl | (simp [errW_none, errW_some] <;> rfl)) | (simp [*, errW_none, errW_some] <;> rfl), by repeat (first | (with_reducible first | exact HB.out | apply below_alloc | apply pw_below_drewN | apply below_drew1 | refine below_set ?_ GE234.out | refine below_set ?_ GE241.out) | exact HB.out)⟩
          · replace c13 := Bool.eq_false_iff.mpr c13
            subst c13
            have H1 : (if t242 = 0 then (some false) else (some false)) = some r := by rw [if_neg (show ¬ (false = true) by decide)] at H; exact H
            clear H
            have H := H1
            clear H1
            by_cases c50 : t242 = 0
            · rw [if_pos c50] at H
              have c50b0 : (t242 == 0) = true := beq_iff_eq.mpr c50
              have c50b1 : (t242 != 0) = false := bne_eq_false_iff_eq.mpr c50
              clear c50
              obtain rfl := Option.some.inj H
              go_wp2_with (first | (first | (go_at_call 9; (with_reducible refine (tabs_New.calls kj5 a0 false t237 t238 t242 _ A12.out).mono ?_); rintro e w51 ⟨v239, gb241, rfl, ho0, hbn, hgn, hb⟩; have n0_ := Aside0.mk (Kd.R_lower ho0 (below_size (by repeat (first | (with_reducible first | exact HB.out | apply below_alloc | apply pw_below_drewN | apply below_drew1 | refine below_set ?_ GE234.out) | exact HB.out)))); have n1_ := Aside0.mk (blk_below (g := gb234) (o := .cells #[.int .i64 a2_0, .int .i64 a2_1] 40 (0, 0)) (by (with_reducible repeat (first | refine blk_drewN ?_ _ | refine blk_drew ?_ | refine blk_alloc ?_ _)); exact BK234.out) hb); have n2_ := Aside0.mk (below_step (by repeat (first | (with_reducible first | exact HB.out | apply below_alloc | apply pw_below_drewN | apply below_drew1 | refine below_set ?_ GE234.out) | exact HB.out)) hb); clear BK234; clear HB; have HO240 := n0_; have BK234 := n1_; have HB := n2_; clear n0_ n1_ n2_; (try simp only [ptrW_true, ptrW_false]); (try clear hbn); (try clear hgn); (try clear hb); (try clear hb2); (try clear hk); (try clear hi); (try clear ho0))) | go_quiet (first | (go_at_call 9; (with_reducible refine (tabs_New.calls kj5 a0 false t237 t238 t242 _ A12.out).mono ?_); rintro e w51 ⟨v239, gb241, rfl, ho0, hbn, hgn, hb⟩; have n0_ := Aside0.mk (Kd.R_lower ho0 (below_size (by repeat (first | (with_reducible first | exact HB.out | apply below_alloc | apply pw_below_drewN | apply below_drew1 | refine below_set ?_ GE234.out) | exact HB.out)))); have n1_ := Aside0.mk (blk_below (g := gb234) (o := .cells #[.int .i64 a2_0, .int .i64 a2_1] 40 (0, 0)) (by (with_reducible repeat (first | refine blk_drewN ?_ _ | refine blk_drew ?_ | refine blk_alloc ?_ _)); exact BK234.out) hb); have n2_ := Aside0.mk (below_step (by repeat (first | (with_reducible first | exact HB.out | apply below_alloc | apply pw_below_drewN | apply below_drew1 | refine below_set ?_ GE234.out) | exact HB.out)) hb); clear BK234; clear HB; have HO240 := n0_; have BK234 := n1_; have HB := n2_; clear n0_ n1_ n2_; (try simp only [ptrW_true, ptrW_false]); (try clear hbn); (try clear hgn); (try clear hb); (try clear hb2); (try clear hk); (try clear hi); (try clear ho0))))
              go_ret
              exact ⟨by first | rfl | (simp [errW_none, errW_some] <;> rfl) | (simp [*, errW_none, errW_some] <;> rfl), by repeat (first | (with_reducible first | exact HB.out | apply below_alloc | apply pw_below_drewN | apply below_drew1 | refine below_set ?_ GE234.out) | exact HB.out)⟩
            · rw [if_neg c50] at H
              have c50b0 : (t242 == 0) = false := beq_eq_false_iff_ne.mpr c50
              have c50b1 : (t242 != 0) = true := bne_iff_ne.mpr c50
              obtain rfl := Option.some.inj H
              go_wp2_with (first | (first | (go_at_call 9; (with_reducible refine (tabs_New.calls kj5 a0 false t237 t238 t242 _ A12.out).mono ?_); rintro e w52 ⟨v239, gb241, rfl, ho0, hbn, hgn, hb⟩; have n0_ := Aside0.mk (Kd.R_lower ho0 (below_size (by repeat (first | (with_reducible first | exact HB.out | apply below_alloc | apply pw_below_drewN | apply below_drew1 | refine below_set ?_ GE234.out) | exact HB.out)))); have n1_ := Aside0.mk (blk_below (g := gb234) (o := .cells #[.int .i64 a2_0, .int .i64 a2_1] 40 (0, 0)) (by (with_reducible repeat (first | refine blk_drewN ?_ _ | refine blk_drew ?_ | refine blk_alloc ?_ _)); exact BK234.out) hb); have n2_ := Aside0.mk (below_step (by repeat (first | (with_reducible first | exact HB.out | apply below_alloc | apply pw_below_drewN | apply below_drew1 | refine below_set ?_ GE234.out) | exact HB.out)) hb); clear BK234; clear HB; have HO240 := n0_; have BK234 := n1_; have HB := n2_; clear n0_ n1_ n2_; (try simp only [ptrW_true, ptrW_false]); (try clear hbn); (try clear hgn); (try clear hb); (try clear hb2); (try clear hk); (try clear hi); (try clear ho0))) | go_quiet (first | (go_at_call 9; (with_reducible refine (tabs_New.calls kj5 a0 false t237 t238 t242 _ A12.out).mono ?_); rintro e w52 ⟨v239, gb241, rfl, ho0, hbn, hgn, hb⟩; have n0_ := Aside0.mk (Kd.R_lower ho0 (below_size (by repeat (first | (with_reducible first | exact HB.out | apply below_alloc | apply pw_below_drewN | apply below_drew1 | refine below_set ?_ GE234.out) | exact HB.out)))); have n1_ := Aside0.mk (blk_below (g := gb234) (o := .cells #[.int .i64 a2_0, .int .i64 a2_1] 40 (0, 0)) (by (with_reducible repeat (first | refine blk_drewN ?_ _ | refine blk_drew ?_ | refine blk_alloc ?_ _)); exact BK234.out) hb); have n2_ := Aside0.mk (below_step (by repeat (first | (with_reducible first | exact HB.out | apply below_alloc | apply pw_below_drewN | apply below_drew1 | refine below_set ?_ GE234.out) | exact HB.out)) hb); clear BK234; clear HB; have HO240 := n0_; have BK234 := n1_; have HB := n2_; clear n0_ n1_ n2_; (try simp only [ptrW_true, ptrW_false]); (try clear hbn); (try clear hgn); (try clear hb); (try clear hb2); (try clear hk); (try clear hi); (try clear ho0))))
              go_ret
              exact ⟨by first | rfl | (simp [errW_none, errW_some] <;> rfl) | (simp [*, errW_none, errW_some] <;> rfl), by repeat (first | (with_reducible first | exact HB.out | apply below_alloc | apply pw_below_drewN | apply below_drew1 | refine below_set ?_ GE234.out) | exact HB.out)⟩
  · replace c5 := Bool.eq_false_iff.mpr c5
    subst c5
    have H1 : (some false) = some r := by rw [if_neg (show ¬ (false = true) by decide)] at H; exact H
    clear H
    have H := H1
    clear H1
    obtain rfl := Option.some.inj H
    go_enter Try.func5, Try.ntmps5
    go_wp2_with (first | (first | ((with_reducible refine gate_dst (N := 5) rfl ?_); (try (refine gate_guard (by rfl) ?_; dsimp only)); refine box_event ?hg (N := 5) ?hd (cs := #[.int .i64 a2_0, .int .i64 a2_1]) (t := 40) ?hr ?_; (case hd => rfl); (case hg => rfl); (case hr => first | (go_simp; done) | (go_simp; rfl)); intro gb234 hg w53 hbox hb; have n0_ := Aside0.mk (below_step (by repeat (first | (with_reducible first | exact HB.out | apply below_alloc | apply pw_below_drewN | apply below_drew1) | exact HB.out)) hb); have n1_ := Aside0.mk (hbox); have n2_ := Aside0.mk ((by rw [hg]; exact (below_size (by repeat (first | (with_reducible first | exact HB.out | apply below_alloc | apply pw_below_drewN | apply below_drew1) | exact HB.out))) : w.heap.size ≤ gb234)); have n3_ := Aside0.mk ((by rw [hg]; exact (below_size (by repeat (first | (with_reducible first | exact HB.out | apply below_alloc | apply pw_below_drewN | apply below_drew1) | exact HB.out))) : w.heap.size ≤ gb234)); clear HB; have HB := n0_; have BK234 := n1_; have GW234 := n2_; have GE234 := n3_; clear n0_ n1_ n2_ n3_; clear hb hbox hg) | (go_at_call 8; (with_reducible refine (batonlaw11_awake.calls k  false _ A4.out).mono ?_); rintro e w54 ⟨rfl, hb⟩; have n0_ := Aside0.mk (blk_below (g := gb234) (o := .cells #[.int .i64 a2_0, .int .i64 a2_1] 40 (0, 0)) (by (with_reducible repeat (first | refine blk_drewN ?_ _ | refine blk_drew ?_ | refine blk_alloc ?_ _)); exact BK234.out) hb); have n1_ := Aside0.mk (below_step (by repeat (first | (with_reducible first | exact HB.out | apply below_alloc | apply pw_below_drewN | apply below_drew1 | refine below_set ?_ GE234.out) | exact HB.out)) hb); clear BK234; clear HB; have BK234 := n0_; have HB := n1_; clear n0_ n1_; (try clear hb); (try clear hb2); (try clear hk); (try clear hi))) | go_quiet (first | ((with_reducible refine gate_dst (N := 5) rfl ?_); (try (refine gate_guard (by rfl) ?_; dsimp only)); refine box_event ?hg (N := 5) ?hd (cs := #[.int .i64 a2_0, .int .i64 a2_1]) (t := 40) ?hr ?_; (case hd => rfl); (case hg => rfl); (case hr => first | (go_simp; done) | (go_simp; rfl)); intro gb234 hg w53 hbox hb; have n0_ := Aside0.mk (below_step (by repeat (first | (with_reducible first | exact HB.out | apply below_alloc | apply pw_below_drewN | apply below_drew1) | exact HB.out)) hb); have n1_ := Aside0.mk (hbox); have n2_ := Aside0.mk ((by rw [hg]; exact (below_size (by repeat (first | (with_reducible first | exact HB.out | apply below_alloc | apply pw_below_drewN | apply below_drew1) | exact HB.out))) : w.heap.size ≤ gb234)); have n3_ := Aside0.mk ((by rw [hg]; exact (below_size (by repeat (first | (with_reducible first | exact HB.out | apply below_alloc | apply pw_below_drewN | apply below_drew1) | exact HB.out))) : w.heap.size ≤ gb234)); clear HB; have HB := n0_; have BK234 := n1_; have GW234 := n2_; have GE234 := n3_; clear n0_ n1_ n2_ n3_; clear hb hbox hg) | (go_at_call 8; (with_reducible refine (batonlaw11_awake.calls k  false _ A4.out).mono ?_); rintro e w54 ⟨rfl, hb⟩; have n0_ := Aside0.mk (blk_below (g := gb234) (o := .cells #[.int .i64 a2_0, .int .i64 a2_1] 40 (0, 0)) (by (with_reducible repeat (first | refine blk_drewN ?_ _ | refine blk_drew ?_ | refine blk_alloc ?_ _)); exact BK234.out) hb); have n1_ := Aside0.mk (below_step (by repeat (first | (with_reducible first | exact HB.out | apply below_alloc | apply pw_below_drewN | apply below_drew1 | refine below_set ?_ GE234.out) | exact HB.out)) hb); clear BK234; clear HB; have BK234 := n0_; have HB := n1_; clear n0_ n1_; (try clear hb); (try clear hb2); (try clear hk); (try clear hi))))
    go_ret
    exact ⟨by first | rfl | (simp [errW_none, errW_some] <;> rfl) | (simp [*, errW_none, errW_some] <;> rfl), by repeat (first | (with_reducible first | exact HB.out | apply below_alloc | apply pw_below_drewN | apply below_drew1 | refine below_set ?_ GE234.out) | exact HB.out)⟩

/-- THE ONE PURE STATEMENT of batonlaw11_TabsMoves. -/
def WF40 (x : S40) : Prop := (Lit.int .i64 x.f0).wf = true ∧ (Lit.int .i64 x.f1).wf = true
def batonlaw11_TabsMoves.Pure : Prop := ∀ (a0 : Int) (l1 : List Int) (a2_0 : Int) (a2_1 : Int), (Lit.int .i64 a0).wf = true → (l1.length ≤ maxLen ∧ ∀ x_ ∈ l1, (Lit.int .i64 x_).wf = true) → (Lit.int .i64 a2_0).wf = true → (Lit.int .i64 a2_1).wf = true → ∃ k, batonlaw11_TabsMoves.f k a0 l1 a2_0 a2_1 = some true

end Go.Proofs.Ytgnbhomdkchcfaa.PF11M
