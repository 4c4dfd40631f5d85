/- By a program of this session (wip/tool/pp.py): plain Lean functions of the Go functions that this family of laws uses, the walks that the Go code comes to their answers, and the row of the law. No condition beside those that the row itself gives. -/
import Derived.Test.YtaiiegbhbadciaaPF22Rx0
import Derived.Test.YtaiiegbhbadciaaPF22Rx1
import Derived.Test.YtaiiegbhbadciaaPF22Rx4
import Derived.Test.YtaiiegbhbadciaaPF22Rx5
import Derived.Test.YtaiiegbhbadciaaPF22Rx7
namespace Go.Proofs.Ytaiiegbhbadciaa.PF22R
open Go.RowKit Go.Proofs.YtaiiegbhbadciaaW.Hand Go.Proofs.YtaiiegbhbadciaaW.PrintWords Go.Proofs.YtaiiegbhbadciaaW.PrintLast Go.Proofs.YtaiiegbhbadciaaW.PrintMore
attribute [local go_sem] max2_int min2_int max_two min_two max_three min_three max_four min_four   -- for this text's walks alone
set_option linter.unusedVariables false
set_option linter.unusedSimpArgs false

/-! ### batonlaw22_RecordReads: function 11 -/
mutual
def batonlaw22_RecordReads.j0 : Nat -> List Int -> Bool -> List Int -> Bool -> Option (Bool)
 | 0, _, _, _, _ => none
 | k + 1, x0, x1, x9, x60 => if x60 = true then (some false) else (batonlaw22_RecordReads.l0 k x0 x1 x9 0)
def batonlaw22_RecordReads.l0 : Nat -> List Int -> Bool -> List Int -> Int -> Option (Bool)
 | 0, _, _, _, _ => none
 | k + 1, x0, x1, x9, x10 => if (wrap64 (x10 + 1)) < (x0.length : Int) then (if 0 <= x10 then (if x10 < (x9.length : Int) then (if x10 < (x0.length : Int) then (if (rd x9 x10) = (rd x0 x10) then (batonlaw22_RecordReads.l0 k x0 x1 x9 (wrap64 (x10 + 1))) else (some false)) else (none)) else (none)) else (none)) else (if (x0.length : Int) = 0 then (some true) else (if 0 <= (wrap64 ((x0.length : Int) - 1)) then (if (wrap64 ((x0.length : Int) - 1)) < (x9.length : Int) then (if (((rd x9 (wrap64 ((x0.length : Int) - 1))) == 1) == x1) = true then (some (decide ((rd x9 (wrap64 ((x0.length : Int) - 1))) <= 1))) else (some false)) else (none)) else (none)))
end
def batonlaw22_RecordReads.f (k : Nat) (l0 : List Int) (a1 : Bool) : Option (Bool) := (batonlaw22_awake.f k).bind fun t296 => (if t296 = true then (if (l0.length : Int) > 300 then (some true) else ((record_Read.f k l0).bind fun bt297 => ((batonref22_Read.f k l0).bind fun bt304 => ((record_Marked.f l0 a1).bind fun t311 => (if bt297.2.2.2 = bt304.2.2.2 then (if bt297.1 = bt304.1 then (if bt297.2.1 = bt304.2.1 then ((batonref01_Same.f k bt297.2.2.1 bt304.2.2.1).bind fun t314 => (if t314 = true then (batonlaw22_RecordReads.j0 k l0 a1 t311 ((t311.length : Int) != (l0.length : Int))) else (batonlaw22_RecordReads.j0 k l0 a1 t311 true))) else (batonlaw22_RecordReads.j0 k l0 a1 t311 true)) else (batonlaw22_RecordReads.j0 k l0 a1 t311 true)) else (batonlaw22_RecordReads.j0 k l0 a1 t311 true)))))) else (some false))
theorem batonlaw22_RecordReads.mono_l : ∀ k, (∀ y0 y1 y2 y3, LeO (batonlaw22_RecordReads.j0 k y0 y1 y2 y3) (batonlaw22_RecordReads.j0 (k + 1) y0 y1 y2 y3)) /\ (∀ y0 y1 y2 y3, LeO (batonlaw22_RecordReads.l0 k y0 y1 y2 y3) (batonlaw22_RecordReads.l0 (k + 1) y0 y1 y2 y3))
 | 0 => ⟨fun _ _ _ _ r h => by simp [batonlaw22_RecordReads.j0] at h, fun _ _ _ _ r h => by simp [batonlaw22_RecordReads.l0] at h⟩
 | k + 1 => by
  obtain ⟨ih0, ih1⟩ := batonlaw22_RecordReads.mono_l k
  refine ⟨?_, ?_⟩
  ·intro y0 y1 y2 y3
   unfold batonlaw22_RecordReads.j0
   repeat' first
   | (with_reducible exact ih0 _ _ _ _)
   | (with_reducible exact ih1 _ _ _ _)
   | (with_reducible exact batonlaw22_awake.mono _)
   | (with_reducible exact batonref01_Same.mono _ _ _)
   | (with_reducible exact batonref22_Read.mono _ _)
   | (with_reducible exact record_Read.mono _ _)
   | (with_reducible exact LeO.refl _)
   | (with_reducible exact LeO.none _)
   | (with_reducible refine LeO.ite ?_ ?_)
   | (with_reducible refine LeO.bind ?_ (fun _ => ?_))
   | exact ih0 _ _ _ _
   | exact ih1 _ _ _ _
   | exact batonlaw22_awake.mono _
   | exact batonref01_Same.mono _ _ _
   | exact batonref22_Read.mono _ _
   | exact record_Read.mono _ _
   | exact LeO.none _
   | refine LeO.ite ?_ ?_
   | refine LeO.bind ?_ (fun _ => ?_)
  ·intro y0 y1 y2 y3
   unfold batonlaw22_RecordReads.l0
   repeat' first
   | (with_reducible exact ih0 _ _ _ _)
   | (with_reducible exact ih1 _ _ _ _)
   | (with_reducible exact batonlaw22_awake.mono _)
   | (with_reducible exact batonref01_Same.mono _ _ _)
   | (with_reducible exact batonref22_Read.mono _ _)
   | (with_reducible exact record_Read.mono _ _)
   | (with_reducible exact LeO.refl _)
   | (with_reducible exact LeO.none _)
   | (with_reducible refine LeO.ite ?_ ?_)
   | (with_reducible refine LeO.bind ?_ (fun _ => ?_))
   | exact ih0 _ _ _ _
   | exact ih1 _ _ _ _
   | exact batonlaw22_awake.mono _
   | exact batonref01_Same.mono _ _ _
   | exact batonref22_Read.mono _ _
   | exact record_Read.mono _ _
   | exact LeO.none _
   | refine LeO.ite ?_ ?_
   | refine LeO.bind ?_ (fun _ => ?_)
theorem batonlaw22_RecordReads.mono : ∀ a0 a1 k, LeO (batonlaw22_RecordReads.f k a0 a1) (batonlaw22_RecordReads.f (k + 1) a0 a1) := by
 intro a0 a1 k
 obtain ⟨ih0, ih1⟩ := batonlaw22_RecordReads.mono_l k
 unfold batonlaw22_RecordReads.f
 repeat' first
   | (with_reducible exact ih0 _ _ _ _)
   | (with_reducible exact ih1 _ _ _ _)
   | (with_reducible exact batonlaw22_awake.mono _)
   | (with_reducible exact batonref01_Same.mono _ _ _)
   | (with_reducible exact batonref22_Read.mono _ _)
   | (with_reducible exact record_Read.mono _ _)
   | (with_reducible exact LeO.refl _)
   | (with_reducible exact LeO.none _)
   | (with_reducible refine LeO.ite ?_ ?_)
   | (with_reducible refine LeO.bind ?_ (fun _ => ?_))
   | exact ih0 _ _ _ _
   | exact ih1 _ _ _ _
   | exact batonlaw22_awake.mono _
   | exact batonref01_Same.mono _ _ _
   | exact batonref22_Read.mono _ _
   | exact record_Read.mono _ _
   | exact LeO.none _
   | refine LeO.ite ?_ ?_
   | refine LeO.bind ?_ (fun _ => ?_)
theorem q8_1 {p : Prop} (h : p := by repeat (first | (with_reducible first | exact HB.out | apply below_alloc | apply pw_below_drewN | apply below_drew1) | exact HB.out)) : p := h
theorem q8_2 {p : Prop} (h : p := by repeat (first | (with_reducible first | exact HB.out | apply below_alloc | apply pw_below_drewN | apply below_drew1 | refine below_set ?_ GE303.out) | exact HB.out)) : p := h
theorem q8_3 {p : Prop} (h : p := by (with_reducible repeat (first | apply Kd.R_alloc | apply Kd.R_drewN | apply Kd.R_drew)); exact (Kd.R_mono (Kd.R_far (p := ⟨gb310, 2, none⟩) (Kd.R_far (p := ⟨gb310, 1, none⟩) (Kd.R_far (p := ⟨gb310, 0, none⟩) (Kd.R_types HO308.out BK310.out (by decide)) (fun _ hk => hk.2) (.int .i64 t304)) (fun _ hk => hk.2) (.int .i64 t305)) (fun _ hk => hk.2) (.slice Ao20 t306.length co20)) (fun _ h_ => h_.1))) : p := h
theorem q8_4 {p : Prop} (h : p := by (with_reducible repeat (first | apply Kd.R_alloc | apply Kd.R_drewN | apply Kd.R_drew)); exact (Kd.R_mono (Kd.R_far (p := ⟨gb310, 2, none⟩) (Kd.R_far (p := ⟨gb310, 1, none⟩) (Kd.R_far (p := ⟨gb310, 0, none⟩) (Kd.R_types HO301.out BK310.out (by decide)) (fun _ hk => hk.2) (.int .i64 t304)) (fun _ hk => hk.2) (.int .i64 t305)) (fun _ hk => hk.2) (.slice Ao20 t306.length co20)) (fun _ h_ => h_.1))) : p := h
theorem q8_5 {p : Prop} (h : p := by (with_reducible repeat (first | apply Kd.R_alloc | apply Kd.R_drewN | apply Kd.R_drew)); exact (Kd.R_mono (Kd.R_far (p := ⟨gb303, 2, none⟩) (Kd.R_far (p := ⟨gb303, 1, none⟩) (Kd.R_far (p := ⟨gb303, 0, none⟩) (Kd.R_types HO301.out BK303.out (by decide)) (fun _ hk => hk.2) (.int .i64 t297)) (fun _ hk => hk.2) (.int .i64 t298)) (fun _ hk => hk.2) (.slice Ao15 t299.length co15)) (fun _ h_ => h_.1))) : p := h
theorem q8_6 {p : Prop} (h : p := by repeat (first | (with_reducible first | exact HB.out | apply below_alloc | apply pw_below_drewN | apply below_drew1 | refine below_set ?_ GE303.out | refine below_set ?_ GE310.out) | exact HB.out)) : p := h
theorem q8_7 {p : Prop} (h : p := by (with_reducible repeat (first | refine blk_drewN ?_ _ | refine blk_drew ?_ | refine blk_alloc ?_ _)); refine blk_put (cs := #[.int .i64 t304, .int .i64 t305, .slice none 0 0]) ?_ 2 _ rfl; (with_reducible repeat (first | refine blk_drewN ?_ _ | refine blk_drew ?_ | refine blk_alloc ?_ _)); refine blk_put (cs := #[.int .i64 t304, .int .i64 0, .slice none 0 0]) ?_ 1 _ rfl; (with_reducible repeat (first | refine blk_drewN ?_ _ | refine blk_drew ?_ | refine blk_alloc ?_ _)); refine blk_put (cs := #[.int .i64 0, .int .i64 0, .slice none 0 0]) ?_ 0 _ rfl; (with_reducible repeat (first | refine blk_drewN ?_ _ | refine blk_drew ?_ | refine blk_alloc ?_ _)); exact BK310.out) : p := h
theorem q8_8 {p : Prop} (h : p := by (with_reducible repeat (first | refine blk_drewN ?_ _ | refine blk_drew ?_ | refine blk_alloc ?_ _)); refine blk_put (cs := #[.int .i64 t297, .int .i64 t298, .slice none 0 0]) ?_ 2 _ rfl; (with_reducible repeat (first | refine blk_drewN ?_ _ | refine blk_drew ?_ | refine blk_alloc ?_ _)); refine blk_put (cs := #[.int .i64 t297, .int .i64 0, .slice none 0 0]) ?_ 1 _ rfl; (with_reducible repeat (first | refine blk_drewN ?_ _ | refine blk_drew ?_ | refine blk_alloc ?_ _)); refine blk_put (cs := #[.int .i64 0, .int .i64 0, .slice none 0 0]) ?_ 0 _ rfl; (with_reducible repeat (first | refine blk_drewN ?_ _ | refine blk_drew ?_ | refine blk_alloc ?_ _)); exact BK303.out) : p := h
theorem q8_9 {p : Prop} (h : p := by first | (with_reducible assumption) | assumption) : p := h
theorem q8_10 {p : Prop} (h : p := by (with_reducible repeat (first | refine blk_drewN ?_ _ | refine blk_drew ?_ | refine blk_alloc ?_ _)); exact BK303.out) : p := h
theorem q8_11 {p : Prop} (h : p := by (with_reducible repeat (first | refine blk_drewN ?_ _ | refine blk_drew ?_ | refine blk_alloc ?_ _)); refine blk_far ?_ NB303_310.out _; (with_reducible repeat (first | refine blk_drewN ?_ _ | refine blk_drew ?_ | refine blk_alloc ?_ _)); refine blk_far ?_ NB303_310.out _; (with_reducible repeat (first | refine blk_drewN ?_ _ | refine blk_drew ?_ | refine blk_alloc ?_ _)); refine blk_far ?_ NB303_310.out _; (with_reducible repeat (first | refine blk_drewN ?_ _ | refine blk_drew ?_ | refine blk_alloc ?_ _)); exact BK303.out) : p := h
theorem q8_12 {p : Prop} (h : p := by (with_reducible repeat (first | apply Kd.R_alloc | apply Kd.R_drewN | apply Kd.R_drew)); exact HO301.out) : p := h
theorem q8_13 {p : Prop} (h : p := by first | rfl | (simp; done) | (simp [*]; done)) : p := h
set_option maxHeartbeats 8000000 in
set_option maxRecDepth 100000 in
theorem batonlaw22_RecordReads.calls (k : Nat) (A0 : Option Addr) (c0 : Nat) (l0 : List Int) (a1 : Bool) (r : Bool) (w : World) (hr0 : Kd.C (Kd.int .u8) w A0 l0.length l0) (hc0 : l0.length <= c0) (h : batonlaw22_RecordReads.f k l0 a1 = some r) :
  Calls Try.prog 11 #[.slice A0 l0.length c0, .bool a1] w fun e w' => e = .returned (.bool r) /\ Below w.heap.size w w' := by
 have hu51 := Try.underlying51
 have hu52 := Try.underlying52
 have HR0 := Aside0.mk hr0
 have HC0 := Aside0.mk hc0
 clear hr0 hc0
 have HB := Aside0.mk (Below.refl w.heap.size w)
 have H : ((batonlaw22_awake.f k).bind fun t296 => (if t296 = true then (if (l0.length : Int) > 300 then (some true) else ((record_Read.f k l0).bind fun bt297 => ((batonref22_Read.f k l0).bind fun bt304 => ((record_Marked.f l0 a1).bind fun t311 => (if bt297.2.2.2 = bt304.2.2.2 then (if bt297.1 = bt304.1 then (if bt297.2.1 = bt304.2.1 then ((batonref01_Same.f k bt297.2.2.1 bt304.2.2.1).bind fun t314 => (if t314 = true then (batonlaw22_RecordReads.j0 k l0 a1 t311 ((t311.length : Int) != (l0.length : Int))) else (batonlaw22_RecordReads.j0 k l0 a1 t311 true))) else (batonlaw22_RecordReads.j0 k l0 a1 t311 true)) else (batonlaw22_RecordReads.j0 k l0 a1 t311 true)) else (batonlaw22_RecordReads.j0 k l0 a1 t311 true)))))) else (some false))) = some r := h
 clear h
 replace H := Option.bind_eq_some_iff.mp H
 obtain ⟨t296, A30, H⟩ := H
 replace H : (if t296 = true then (if (l0.length : Int) > 300 then (some true) else ((record_Read.f k l0).bind fun bt297 => ((batonref22_Read.f k l0).bind fun bt304 => ((record_Marked.f l0 a1).bind fun t311 => (if bt297.2.2.2 = bt304.2.2.2 then (if bt297.1 = bt304.1 then (if bt297.2.1 = bt304.2.1 then ((batonref01_Same.f k bt297.2.2.1 bt304.2.2.1).bind fun t314 => (if t314 = true then (batonlaw22_RecordReads.j0 k l0 a1 t311 ((t311.length : Int) != (l0.length : Int))) else (batonlaw22_RecordReads.j0 k l0 a1 t311 true))) else (batonlaw22_RecordReads.j0 k l0 a1 t311 true)) else (batonlaw22_RecordReads.j0 k l0 a1 t311 true)) else (batonlaw22_RecordReads.j0 k l0 a1 t311 true)))))) else (some false)) = some r := H
 have A3 := Aside0.mk A30
 clear A30
 by_cases c4 : t296 = true
 ·subst c4
  have H1 : (if (l0.length : Int) > 300 then (some true) else ((record_Read.f k l0).bind fun bt297 => ((batonref22_Read.f k l0).bind fun bt304 => ((record_Marked.f l0 a1).bind fun t311 => (if bt297.2.2.2 = bt304.2.2.2 then (if bt297.1 = bt304.1 then (if bt297.2.1 = bt304.2.1 then ((batonref01_Same.f k bt297.2.2.1 bt304.2.2.1).bind fun t314 => (if t314 = true then (batonlaw22_RecordReads.j0 k l0 a1 t311 ((t311.length : Int) != (l0.length : Int))) else (batonlaw22_RecordReads.j0 k l0 a1 t311 true))) else (batonlaw22_RecordReads.j0 k l0 a1 t311 true)) else (batonlaw22_RecordReads.j0 k l0 a1 t311 true)) else (batonlaw22_RecordReads.j0 k l0 a1 t311 true)))))) = some r := by rw [if_pos rfl] at H; exact H
  clear H
  have H := H1
  clear H1
  by_cases c5 : (l0.length : Int) > 300
  ·rw [if_pos c5] at H
   have c5b0 : decide (300 < (l0.length : Int)) = true := decide_eq_true c5
   have c5b1 : decide (300 < l0.length) = true := decide_eq_true (by omega)
   clear c5
   obtain rfl := Option.some.inj H
   go_enter Try.func11, Try.ntmps11
   go_wp2_with (first | (first | (go_at_call 29; (with_reducible refine (batonlaw22_awake.calls k  true _ A3.out).mono ?_); rintro e w6 ⟨rfl, hb⟩; have n0_ := Aside0.mk (below_step q8_1 hb); clear HB; have HB := n0_; clear n0_; (try clear hb); (try clear hb2); (try clear hk); (try clear hi))) | go_quiet (first | (go_at_call 29; (with_reducible refine (batonlaw22_awake.calls k  true _ A3.out).mono ?_); rintro e w6 ⟨rfl, hb⟩; have n0_ := Aside0.mk (below_step q8_1 hb); clear HB; have HB := n0_; clear n0_; (try clear hb); (try clear hb2); (try clear hk); (try clear hi))))
   go_ret
   exact ⟨by first | rfl | (simp [errW_none, errW_some] <;> rfl) | (simp [*, errW_none, errW_some] <;> rfl), by repeat (first | (with_reducible first | exact HB.out | apply below_alloc | apply pw_below_drewN | apply below_drew1) | exact HB.out)⟩
  ·rw [if_neg c5] at H
   have c5b0 : decide (300 < (l0.length : Int)) = false := decide_eq_false c5
   have c5b1 : decide (300 < l0.length) = false := decide_eq_false (by omega)
   clear c5
   replace H := Option.bind_eq_some_iff.mp H
   obtain ⟨⟨t297, t298, t299, t302⟩, A70, H⟩ := H
   replace H : ((batonref22_Read.f k l0).bind fun bt304 => ((record_Marked.f l0 a1).bind fun t311 => (if t302 = bt304.2.2.2 then (if t297 = bt304.1 then (if t298 = bt304.2.1 then ((batonref01_Same.f k t299 bt304.2.2.1).bind fun t314 => (if t314 = true then (batonlaw22_RecordReads.j0 k l0 a1 t311 ((t311.length : Int) != (l0.length : Int))) else (batonlaw22_RecordReads.j0 k l0 a1 t311 true))) else (batonlaw22_RecordReads.j0 k l0 a1 t311 true)) else (batonlaw22_RecordReads.j0 k l0 a1 t311 true)) else (batonlaw22_RecordReads.j0 k l0 a1 t311 true)))) = some r := H
   have A7 := Aside0.mk A70
   clear A70
   replace H := Option.bind_eq_some_iff.mp H
   obtain ⟨⟨t304, t305, t306, t309⟩, A80, H⟩ := H
   replace H : ((record_Marked.f l0 a1).bind fun t311 => (if t302 = t309 then (if t297 = t304 then (if t298 = t305 then ((batonref01_Same.f k t299 t306).bind fun t314 => (if t314 = true then (batonlaw22_RecordReads.j0 k l0 a1 t311 ((t311.length : Int) != (l0.length : Int))) else (batonlaw22_RecordReads.j0 k l0 a1 t311 true))) else (batonlaw22_RecordReads.j0 k l0 a1 t311 true)) else (batonlaw22_RecordReads.j0 k l0 a1 t311 true)) else (batonlaw22_RecordReads.j0 k l0 a1 t311 true))) = some r := H
   have A8 := Aside0.mk A80
   clear A80
   replace H := Option.bind_eq_some_iff.mp H
   obtain ⟨t311, A90, H⟩ := H
   replace H : (if t302 = t309 then (if t297 = t304 then (if t298 = t305 then ((batonref01_Same.f k t299 t306).bind fun t314 => (if t314 = true then (batonlaw22_RecordReads.j0 k l0 a1 t311 ((t311.length : Int) != (l0.length : Int))) else (batonlaw22_RecordReads.j0 k l0 a1 t311 true))) else (batonlaw22_RecordReads.j0 k l0 a1 t311 true)) else (batonlaw22_RecordReads.j0 k l0 a1 t311 true)) else (batonlaw22_RecordReads.j0 k l0 a1 t311 true)) = some r := H
   have A9 := Aside0.mk A90
   clear A90
   have HC10 := Aside0.mk H
   clear H
   go_enter Try.func11, Try.ntmps11
   go_upto_region 8 with (first | (first | (go_at_call 29; (with_reducible refine (batonlaw22_awake.calls k  true _ A3.out).mono ?_); rintro e w11 ⟨rfl, hb⟩; have n0_ := Aside0.mk (below_step q8_1 hb); clear HB; have HB := n0_; clear n0_; (try clear hb); (try clear hb2); (try clear hk); (try clear hi)) | (go_at_call 32; (with_reducible refine (record_Read.calls k _ _ l0 t297 t298 t299 t302 _ ?side1 ?side2 A7.out).mono ?_); (case side1 => repeat (first | exact (Kd.C_below HR0.out HB.out) | (with_reducible refine Kd.C_alloc ?_ _) | (with_reducible refine Kd.C_drewN ?_ _) | (with_reducible refine Kd.C_drew ?_))); (case side2 => exact HC0.out); rintro e w12 ⟨v300, rfl, ho0, hb⟩; have n0_ := Aside0.mk (Kd.R_lower ho0 (below_size q8_1)); have n1_ := Aside0.mk (below_step q8_1 hb); clear HB; have HO301 := n0_; have HB := n1_; clear n0_ n1_; (try clear hb); (try clear hb2); (try clear hk); (try clear hi); (try clear ho0)) | ((with_reducible refine gate_dst (N := 5) rfl ?_); (try (refine gate_guard (by rfl) ?_; dsimp only)); refine box_event ?hg (N := 5) ?hd (cs := #[.int .i64 0, .int .i64 0, .slice none 0 0]) (t := 51) ?hr ?_; (case hd => rfl); (case hg => rfl); (case hr => first | (go_simp; done) | (go_simp; rfl)); intro gb303 hg w13 hbox hb; have n0_ := Aside0.mk (Kd.R_below q8_12 hb); have n1_ := Aside0.mk (below_step q8_1 hb); have n2_ := Aside0.mk (hbox); have n3_ := Aside0.mk ((by rw [hg]; exact (below_size q8_1) : w.heap.size <= gb303)); have n4_ := Aside0.mk ((by rw [hg]; exact (below_size q8_1) : w.heap.size <= gb303)); clear HO301; clear HB; have HO301 := n0_; have HB := n1_; have BK303 := n2_; have GW303 := n3_; have GE303 := n4_; clear n0_ n1_ n2_ n3_ n4_; clear hb hbox hg; have hcz14_0 : w13.cell? ⟨gb303, 0, none⟩ = some (.int .i64 0) := (blk_cell BK303.out 0).trans rfl; have hcz14_1 : w13.cell? ⟨gb303, 1, none⟩ = some (.int .i64 0) := (blk_cell BK303.out 1).trans rfl; have hcz14_2 : w13.cell? ⟨gb303, 2, none⟩ = some (.slice none 0 0) := (blk_cell BK303.out 2).trans rfl; have hfz14_0 := blk_frozen BK303.out 0; have hfz14_1 := blk_frozen BK303.out 1; have hfz14_2 := blk_frozen BK303.out 2; obtain ⟨Ao15, co15, eo15⟩ := Kd.R_slice HO301.out; subst eo15) | (go_at_call 35; (with_reducible refine (batonref22_Read.calls k _ _ l0 t304 t305 t306 t309 _ ?side1 ?side2 A8.out).mono ?_); (case side1 => exact Kd.C_below HR0.out q8_2); (case side2 => exact HC0.out); rintro e w16 ⟨v307, rfl, ho0, hb⟩; have n0_ := Aside0.mk (Kd.R_elder' q8_5 (Kd.R_base ho0) hb); have n1_ := Aside0.mk (Kd.R_lower (Kd.R_new' ho0 (Kd.R_lt q8_5)) (below_size q8_2)); have n2_ := Aside0.mk (blk_below (g := gb303) (o := .cells #[.int .i64 t297, .int .i64 t298, .slice Ao15 t299.length co15] 51 (0, 0)) q8_8 hb); have n3_ := Aside0.mk (below_step q8_2 hb); clear HO301; clear BK303; clear HB; have HO301 := n0_; have HO308 := n1_; have BK303 := n2_; have HB := n3_; clear n0_ n1_ n2_ n3_; (try clear hb); (try clear hb2); (try clear hk); (try clear hi); (try clear ho0)) | ((with_reducible refine gate_dst (N := 7) rfl ?_); (try (refine gate_guard (by rfl) ?_; dsimp only)); refine box_event ?hg (N := 7) ?hd (cs := #[.int .i64 0, .int .i64 0, .slice none 0 0]) (t := 52) ?hr ?_; (case hd => rfl); (case hg => rfl); (case hr => first | (go_simp; done) | (go_simp; rfl)); intro gb310 hg w17 hbox hb; have n0_ := Aside0.mk (Kd.R_below q8_12 hb); have n1_ := Aside0.mk (Kd.R_below (by (with_reducible repeat (first | apply Kd.R_alloc | apply Kd.R_drewN | apply Kd.R_drew)); exact HO308.out) hb); have n2_ := Aside0.mk (blk_below (g := gb303) (o := .cells #[.int .i64 t297, .int .i64 t298, .slice Ao15 t299.length co15] 51 (0, 0)) q8_10 hb); have n3_ := Aside0.mk (below_step q8_2 hb); have n4_ := Aside0.mk (hbox); have n5_ := Aside0.mk ((by rw [hg]; exact (below_size q8_2) : w.heap.size <= gb310)); have n6_ := Aside0.mk ((by rw [hg]; exact (below_size q8_2) : w.heap.size <= gb310)); have n7_ := Aside0.mk ((by rw [hg]; exact Nat.ne_of_lt (blk_lt (g := gb303) (o := .cells #[.int .i64 t297, .int .i64 t298, .slice Ao15 t299.length co15] 51 (0, 0)) q8_10) : gb303 ≠ gb310)); have n8_ := Aside0.mk ((by rw [hg]; exact Nat.ne_of_gt (blk_lt (g := gb303) (o := .cells #[.int .i64 t297, .int .i64 t298, .slice Ao15 t299.length co15] 51 (0, 0)) q8_10) : gb310 ≠ gb303)); clear HO301; clear HO308; clear BK303; clear HB; have HO301 := n0_; have HO308 := n1_; have BK303 := n2_; have HB := n3_; have BK310 := n4_; have GW310 := n5_; have GE310 := n6_; have NB303_310 := n7_; have NB310_303 := n8_; clear n0_ n1_ n2_ n3_ n4_ n5_ n6_ n7_ n8_; clear hb hbox hg; have hnb18 := NB310_303.out; have hnc18 := NB303_310.out; have hcz19_0 : w17.cell? ⟨gb310, 0, none⟩ = some (.int .i64 0) := (blk_cell BK310.out 0).trans rfl; have hcz19_1 : w17.cell? ⟨gb310, 1, none⟩ = some (.int .i64 0) := (blk_cell BK310.out 1).trans rfl; have hcz19_2 : w17.cell? ⟨gb310, 2, none⟩ = some (.slice none 0 0) := (blk_cell BK310.out 2).trans rfl; have hfz19_0 := blk_frozen BK310.out 0; have hfz19_1 := blk_frozen BK310.out 1; have hfz19_2 := blk_frozen BK310.out 2; obtain ⟨Ao20, co20, eo20⟩ := Kd.R_slice HO308.out; subst eo20) | (go_at_call 33; (with_reducible refine (record_Marked.calls _ _ l0 a1 t311 _ ?side1 ?side2 A9.out).mono ?_); (case side1 => exact Kd.C_below HR0.out q8_6); (case side2 => exact HC0.out); rintro e w21 ⟨v312, rfl, ho0, hb⟩; have n0_ := Aside0.mk (Kd.R_elder' q8_4 (Kd.R_base ho0) hb); have n1_ := Aside0.mk (Kd.R_elder' q8_3 (Kd.R_base ho0) hb); have n2_ := Aside0.mk (Kd.R_lower (Kd.R_new' (Kd.R_new' ho0 (Kd.R_lt q8_4)) (Kd.R_lt q8_3)) (below_size q8_6)); have n3_ := Aside0.mk (blk_below (g := gb303) (o := .cells #[.int .i64 t297, .int .i64 t298, .slice Ao15 t299.length co15] 51 (0, 0)) q8_11 hb); have n4_ := Aside0.mk (blk_below (g := gb310) (o := .cells #[.int .i64 t304, .int .i64 t305, .slice Ao20 t306.length co20] 52 (0, 0)) q8_7 hb); have n5_ := Aside0.mk (below_step q8_6 hb); clear HO301; clear HO308; clear BK303; clear BK310; clear HB; have HO301 := n0_; have HO308 := n1_; have HO313 := n2_; have BK303 := n3_; have BK310 := n4_; have HB := n5_; clear n0_ n1_ n2_ n3_ n4_ n5_; (try clear hb); (try clear hb2); (try clear hk); (try clear hi); (try clear ho0))) | go_quiet (first | (go_at_call 29; (with_reducible refine (batonlaw22_awake.calls k  true _ A3.out).mono ?_); rintro e w11 ⟨rfl, hb⟩; have n0_ := Aside0.mk (below_step q8_1 hb); clear HB; have HB := n0_; clear n0_; (try clear hb); (try clear hb2); (try clear hk); (try clear hi)) | (go_at_call 32; (with_reducible refine (record_Read.calls k _ _ l0 t297 t298 t299 t302 _ ?side1 ?side2 A7.out).mono ?_); (case side1 => repeat (first | exact (Kd.C_below HR0.out HB.out) | (with_reducible refine Kd.C_alloc ?_ _) | (with_reducible refine Kd.C_drewN ?_ _) | (with_reducible refine Kd.C_drew ?_))); (case side2 => exact HC0.out); rintro e w12 ⟨v300, rfl, ho0, hb⟩; have n0_ := Aside0.mk (Kd.R_lower ho0 (below_size q8_1)); have n1_ := Aside0.mk (below_step q8_1 hb); clear HB; have HO301 := n0_; have HB := n1_; clear n0_ n1_; (try clear hb); (try clear hb2); (try clear hk); (try clear hi); (try clear ho0)) | ((with_reducible refine gate_dst (N := 5) rfl ?_); (try (refine gate_guard (by rfl) ?_; dsimp only)); refine box_event ?hg (N := 5) ?hd (cs := #[.int .i64 0, .int .i64 0, .slice none 0 0]) (t := 51) ?hr ?_; (case hd => rfl); (case hg => rfl); (case hr => first | (go_simp; done) | (go_simp; rfl)); intro gb303 hg w13 hbox hb; have n0_ := Aside0.mk (Kd.R_below q8_12 hb); have n1_ := Aside0.mk (below_step q8_1 hb); have n2_ := Aside0.mk (hbox); have n3_ := Aside0.mk ((by rw [hg]; exact (below_size q8_1) : w.heap.size <= gb303)); have n4_ := Aside0.mk ((by rw [hg]; exact (below_size q8_1) : w.heap.size <= gb303)); clear HO301; clear HB; have HO301 := n0_; have HB := n1_; have BK303 := n2_; have GW303 := n3_; have GE303 := n4_; clear n0_ n1_ n2_ n3_ n4_; clear hb hbox hg; have hcz14_0 : w13.cell? ⟨gb303, 0, none⟩ = some (.int .i64 0) := (blk_cell BK303.out 0).trans rfl; have hcz14_1 : w13.cell? ⟨gb303, 1, none⟩ = some (.int .i64 0) := (blk_cell BK303.out 1).trans rfl; have hcz14_2 : w13.cell? ⟨gb303, 2, none⟩ = some (.slice none 0 0) := (blk_cell BK303.out 2).trans rfl; have hfz14_0 := blk_frozen BK303.out 0; have hfz14_1 := blk_frozen BK303.out 1; have hfz14_2 := blk_frozen BK303.out 2; obtain ⟨Ao15, co15, eo15⟩ := Kd.R_slice HO301.out; subst eo15) | (go_at_call 35; (with_reducible refine (batonref22_Read.calls k _ _ l0 t304 t305 t306 t309 _ ?side1 ?side2 A8.out).mono ?_); (case side1 => exact Kd.C_below HR0.out q8_2); (case side2 => exact HC0.out); rintro e w16 ⟨v307, rfl, ho0, hb⟩; have n0_ := Aside0.mk (Kd.R_elder' q8_5 (Kd.R_base ho0) hb); have n1_ := Aside0.mk (Kd.R_lower (Kd.R_new' ho0 (Kd.R_lt q8_5)) (below_size q8_2)); have n2_ := Aside0.mk (blk_below (g := gb303) (o := .cells #[.int .i64 t297, .int .i64 t298, .slice Ao15 t299.length co15] 51 (0, 0)) q8_8 hb); have n3_ := Aside0.mk (below_step q8_2 hb); clear HO301; clear BK303; clear HB; have HO301 := n0_; have HO308 := n1_; have BK303 := n2_; have HB := n3_; clear n0_ n1_ n2_ n3_; (try clear hb); (try clear hb2); (try clear hk); (try clear hi); (try clear ho0)) | ((with_reducible refine gate_dst (N := 7) rfl ?_); (try (refine gate_guard (by rfl) ?_; dsimp only)); refine box_event ?hg (N := 7) ?hd (cs := #[.int .i64 0, .int .i64 0, .slice none 0 0]) (t := 52) ?hr ?_; (case hd => rfl); (case hg => rfl); (case hr => first | (go_simp; done) | (go_simp; rfl)); intro gb310 hg w17 hbox hb; have n0_ := Aside0.mk (Kd.R_below q8_12 hb); have n1_ := Aside0.mk (Kd.R_below (by (with_reducible repeat (first | apply Kd.R_alloc | apply Kd.R_drewN | apply Kd.R_drew)); exact HO308.out) hb); have n2_ := Aside0.mk (blk_below (g := gb303) (o := .cells #[.int .i64 t297, .int .i64 t298, .slice Ao15 t299.length co15] 51 (0, 0)) q8_10 hb); have n3_ := Aside0.mk (below_step q8_2 hb); have n4_ := Aside0.mk (hbox); have n5_ := Aside0.mk ((by rw [hg]; exact (below_size q8_2) : w.heap.size <= gb310)); have n6_ := Aside0.mk ((by rw [hg]; exact (below_size q8_2) : w.heap.size <= gb310)); have n7_ := Aside0.mk ((by rw [hg]; exact Nat.ne_of_lt (blk_lt (g := gb303) (o := .cells #[.int .i64 t297, .int .i64 t298, .slice Ao15 t299.length co15] 51 (0, 0)) q8_10) : gb303 ≠ gb310)); have n8_ := Aside0.mk ((by rw [hg]; exact Nat.ne_of_gt (blk_lt (g := gb303) (o := .cells #[.int .i64 t297, .int .i64 t298, .slice Ao15 t299.length co15] 51 (0, 0)) q8_10) : gb310 ≠ gb303)); clear HO301; clear HO308; clear BK303; clear HB; have HO301 := n0_; have HO308 := n1_; have BK303 := n2_; have HB := n3_; have BK310 := n4_; have GW310 := n5_; have GE310 := n6_; have NB303_310 := n7_; have NB310_303 := n8_; clear n0_ n1_ n2_ n3_ n4_ n5_ n6_ n7_ n8_; clear hb hbox hg; have hnb18 := NB310_303.out; have hnc18 := NB303_310.out; have hcz19_0 : w17.cell? ⟨gb310, 0, none⟩ = some (.int .i64 0) := (blk_cell BK310.out 0).trans rfl; have hcz19_1 : w17.cell? ⟨gb310, 1, none⟩ = some (.int .i64 0) := (blk_cell BK310.out 1).trans rfl; have hcz19_2 : w17.cell? ⟨gb310, 2, none⟩ = some (.slice none 0 0) := (blk_cell BK310.out 2).trans rfl; have hfz19_0 := blk_frozen BK310.out 0; have hfz19_1 := blk_frozen BK310.out 1; have hfz19_2 := blk_frozen BK310.out 2; obtain ⟨Ao20, co20, eo20⟩ := Kd.R_slice HO308.out; subst eo20) | (go_at_call 33; (with_reducible refine (record_Marked.calls _ _ l0 a1 t311 _ ?side1 ?side2 A9.out).mono ?_); (case side1 => exact Kd.C_below HR0.out q8_6); (case side2 => exact HC0.out); rintro e w21 ⟨v312, rfl, ho0, hb⟩; have n0_ := Aside0.mk (Kd.R_elder' q8_4 (Kd.R_base ho0) hb); have n1_ := Aside0.mk (Kd.R_elder' q8_3 (Kd.R_base ho0) hb); have n2_ := Aside0.mk (Kd.R_lower (Kd.R_new' (Kd.R_new' ho0 (Kd.R_lt q8_4)) (Kd.R_lt q8_3)) (below_size q8_6)); have n3_ := Aside0.mk (blk_below (g := gb303) (o := .cells #[.int .i64 t297, .int .i64 t298, .slice Ao15 t299.length co15] 51 (0, 0)) q8_11 hb); have n4_ := Aside0.mk (blk_below (g := gb310) (o := .cells #[.int .i64 t304, .int .i64 t305, .slice Ao20 t306.length co20] 52 (0, 0)) q8_7 hb); have n5_ := Aside0.mk (below_step q8_6 hb); clear HO301; clear HO308; clear BK303; clear BK310; clear HB; have HO301 := n0_; have HO308 := n1_; have HO313 := n2_; have BK303 := n3_; have BK310 := n4_; have HB := n5_; clear n0_ n1_ n2_ n3_ n4_ n5_; (try clear hb); (try clear hb2); (try clear hk); (try clear hi); (try clear ho0))))
   (try simp only [Act.put, List.setIfInBounds_toArray, List.set_cons_zero, List.set_cons_succ])
   go_cut [60] (fun v60 wc => ∃ (kq : Nat) (x60_9 : Bool), v60 = .bool x60_9 /\ Aside0 (batonlaw22_RecordReads.j0 kq l0 a1 t311 x60_9 = some r) /\ Aside0 (kq <= k) /\ Aside0 (Kd.R (Kd.int .u8) 5 wc w.heap.size (fun k_ => some k_ ≠ ((.slice Ao15 t299.length co15) : Value).ownBlock /\ some k_ ≠ ((.slice Ao20 t306.length co20) : Value).ownBlock) v312 t311) /\ Aside0 (Kd.R (Kd.int .u8) 5 wc w.heap.size (fun k_ => some k_ ≠ (v312 : Value).ownBlock /\ some k_ ≠ ((.slice Ao20 t306.length co20) : Value).ownBlock) (.slice Ao15 t299.length co15) t299) /\ Aside0 (Kd.R (Kd.int .u8) 5 wc w.heap.size (fun k_ => some k_ ≠ (v312 : Value).ownBlock /\ some k_ ≠ ((.slice Ao15 t299.length co15) : Value).ownBlock) (.slice Ao20 t306.length co20) t306) /\ Aside0 (wc.heap[gb303]? = some (.cells #[.int .i64 t297, .int .i64 t298, (.slice Ao15 t299.length co15)] 51 (0, 0))) /\ Aside0 (wc.heap[gb310]? = some (.cells #[.int .i64 t304, .int .i64 t305, (.slice Ao20 t306.length co20)] 52 (0, 0))) /\ Aside0 (Below w.heap.size w wc))
   case first =>
    have H := HC10.out
    clear HC10
    by_cases c22 : t302 = t309
    ·rw [if_pos c22] at H
     have c22b0 : (t302 == t309) = true := beq_iff_eq.mpr c22
     have c22b1 : (t302 != t309) = false := bne_eq_false_iff_eq.mpr c22
     clear c22
     (first | rw [c22b0] | (simp only [i64_w, i32_w]; rw [c22b0]) | skip)
     by_cases c23 : t297 = t304
     ·rw [if_pos c23] at H
      have c23b0 : (t297 == t304) = true := beq_iff_eq.mpr c23
      have c23b1 : (t297 != t304) = false := bne_eq_false_iff_eq.mpr c23
      clear c23
      by_cases c24 : t298 = t305
      ·rw [if_pos c24] at H
       have c24b0 : (t298 == t305) = true := beq_iff_eq.mpr c24
       have c24b1 : (t298 != t305) = false := bne_eq_false_iff_eq.mpr c24
       clear c24
       replace H := Option.bind_eq_some_iff.mp H
       obtain ⟨t314, A250, H⟩ := H
       replace H : (if t314 = true then (batonlaw22_RecordReads.j0 k l0 a1 t311 ((t311.length : Int) != (l0.length : Int))) else (batonlaw22_RecordReads.j0 k l0 a1 t311 true)) = some r := H
       have A25 := Aside0.mk A250
       clear A250
       by_cases c26 : t314 = true
       ·subst c26
        have H1 : (batonlaw22_RecordReads.j0 k l0 a1 t311 ((t311.length : Int) != (l0.length : Int))) = some r := by rw [if_pos rfl] at H; exact H
        clear H
        have H := H1
        clear H1
        have H' := Aside0.mk H
        clear H
        have hnb27 := NB303_310.out
        have hnc27 := NB310_303.out
        have hcz28_0 : w21.cell? ⟨gb303, 0, none⟩ = some (.int .i64 t297) := (blk_cell BK303.out 0).trans rfl
        have hcz28_1 : w21.cell? ⟨gb303, 1, none⟩ = some (.int .i64 t298) := (blk_cell BK303.out 1).trans rfl
        have hcz28_2 : w21.cell? ⟨gb303, 2, none⟩ = some (.slice Ao15 t299.length co15) := (blk_cell BK303.out 2).trans rfl
        have hfz28_0 := blk_frozen BK303.out 0
        have hfz28_1 := blk_frozen BK303.out 1
        have hfz28_2 := blk_frozen BK303.out 2
        have hcz29_0 : w21.cell? ⟨gb310, 0, none⟩ = some (.int .i64 t304) := (blk_cell BK310.out 0).trans rfl
        have hcz29_1 : w21.cell? ⟨gb310, 1, none⟩ = some (.int .i64 t305) := (blk_cell BK310.out 1).trans rfl
        have hcz29_2 : w21.cell? ⟨gb310, 2, none⟩ = some (.slice Ao20 t306.length co20) := (blk_cell BK310.out 2).trans rfl
        have hfz29_0 := blk_frozen BK310.out 0
        have hfz29_1 := blk_frozen BK310.out 1
        have hfz29_2 := blk_frozen BK310.out 2
        go_wp2_with (first | (first | (go_at_call 20; (with_reducible refine (batonref01_Same.calls k _ _ t299 _ _ t306 true _ ?side1 ?side2 ?side3 ?side4 A25.out).mono ?_); (case side1 => repeat (first | exact (Kd.R_reads' HO301.out).2.2 | (with_reducible refine Kd.C_alloc ?_ _) | (with_reducible refine Kd.C_drewN ?_ _) | (with_reducible refine Kd.C_drew ?_))); (case side2 => exact (Kd.R_reads' HO301.out).2.1); (case side3 => repeat (first | exact (Kd.R_reads' HO308.out).2.2 | (with_reducible refine Kd.C_alloc ?_ _) | (with_reducible refine Kd.C_drewN ?_ _) | (with_reducible refine Kd.C_drew ?_))); (case side4 => exact (Kd.R_reads' HO308.out).2.1); rintro e w' ⟨rfl, ⟨nd, rfl⟩⟩; (try first | exact ⟨rfl, _, World.drewN_drewN _ _ _⟩ | exact ⟨rfl, _, Eq.trans (World.drewN_drewN _ _ _) (congrArg (World.drewN _) (Nat.add_assoc _ _ _))⟩); obtain ⟨Ao30, co30, eo30⟩ := Kd.R_slice HO313.out; subst eo30)) | go_quiet (first | (go_at_call 20; (with_reducible refine (batonref01_Same.calls k _ _ t299 _ _ t306 true _ ?side1 ?side2 ?side3 ?side4 A25.out).mono ?_); (case side1 => repeat (first | exact (Kd.R_reads' HO301.out).2.2 | (with_reducible refine Kd.C_alloc ?_ _) | (with_reducible refine Kd.C_drewN ?_ _) | (with_reducible refine Kd.C_drew ?_))); (case side2 => exact (Kd.R_reads' HO301.out).2.1); (case side3 => repeat (first | exact (Kd.R_reads' HO308.out).2.2 | (with_reducible refine Kd.C_alloc ?_ _) | (with_reducible refine Kd.C_drewN ?_ _) | (with_reducible refine Kd.C_drew ?_))); (case side4 => exact (Kd.R_reads' HO308.out).2.1); rintro e w' ⟨rfl, ⟨nd, rfl⟩⟩; (try first | exact ⟨rfl, _, World.drewN_drewN _ _ _⟩ | exact ⟨rfl, _, Eq.trans (World.drewN_drewN _ _ _) (congrArg (World.drewN _) (Nat.add_assoc _ _ _))⟩); obtain ⟨Ao30, co30, eo30⟩ := Kd.R_slice HO313.out; subst eo30)))
        go_meet
        case rel => exact ⟨_, (((t311.length : Int) != (l0.length : Int))), q8_13, H', ⟨by first | omega | exact Nat.le_refl _⟩, ⟨by (with_reducible repeat (first | apply Kd.R_alloc | apply Kd.R_drewN | apply Kd.R_drew)); exact Kd.R_mono HO313.out (fun _ hk => ⟨hk.1.2, hk.2⟩)⟩, ⟨by (with_reducible repeat (first | apply Kd.R_alloc | apply Kd.R_drewN | apply Kd.R_drew)); exact Kd.R_mono HO301.out (fun _ hk => ⟨hk.2, hk.1.2⟩)⟩, ⟨by (with_reducible repeat (first | apply Kd.R_alloc | apply Kd.R_drewN | apply Kd.R_drew)); exact Kd.R_mono HO308.out (fun _ hk => ⟨hk.2, hk.1.2⟩)⟩, ⟨by (with_reducible repeat (first | refine blk_drewN ?_ _ | refine blk_drew ?_ | refine blk_alloc ?_ _)); exact BK303.out⟩, ⟨by (with_reducible repeat (first | refine blk_drewN ?_ _ | refine blk_drew ?_ | refine blk_alloc ?_ _)); exact BK310.out⟩, ⟨by repeat (first | (with_reducible first | exact HB.out | apply below_alloc | apply pw_below_drewN | apply below_drew1 | refine below_set ?_ GE303.out | refine below_set ?_ GE310.out) | exact HB.out)⟩⟩
       ·replace c26 := Bool.eq_false_iff.mpr c26
        subst c26
        have H1 : (batonlaw22_RecordReads.j0 k l0 a1 t311 true) = some r := by rw [if_neg (show ¬ (false = true) by decide)] at H; exact H
        clear H
        have H := H1
        clear H1
        have H' := Aside0.mk H
        clear H
        have hnb31 := NB303_310.out
        have hnc31 := NB310_303.out
        have hcz32_0 : w21.cell? ⟨gb303, 0, none⟩ = some (.int .i64 t297) := (blk_cell BK303.out 0).trans rfl
        have hcz32_1 : w21.cell? ⟨gb303, 1, none⟩ = some (.int .i64 t298) := (blk_cell BK303.out 1).trans rfl
        have hcz32_2 : w21.cell? ⟨gb303, 2, none⟩ = some (.slice Ao15 t299.length co15) := (blk_cell BK303.out 2).trans rfl
        have hfz32_0 := blk_frozen BK303.out 0
        have hfz32_1 := blk_frozen BK303.out 1
        have hfz32_2 := blk_frozen BK303.out 2
        have hcz33_0 : w21.cell? ⟨gb310, 0, none⟩ = some (.int .i64 t304) := (blk_cell BK310.out 0).trans rfl
        have hcz33_1 : w21.cell? ⟨gb310, 1, none⟩ = some (.int .i64 t305) := (blk_cell BK310.out 1).trans rfl
        have hcz33_2 : w21.cell? ⟨gb310, 2, none⟩ = some (.slice Ao20 t306.length co20) := (blk_cell BK310.out 2).trans rfl
        have hfz33_0 := blk_frozen BK310.out 0
        have hfz33_1 := blk_frozen BK310.out 1
        have hfz33_2 := blk_frozen BK310.out 2
        go_wp2_with (first | (first | (go_at_call 20; (with_reducible refine (batonref01_Same.calls k _ _ t299 _ _ t306 false _ ?side1 ?side2 ?side3 ?side4 A25.out).mono ?_); (case side1 => repeat (first | exact (Kd.R_reads' HO301.out).2.2 | (with_reducible refine Kd.C_alloc ?_ _) | (with_reducible refine Kd.C_drewN ?_ _) | (with_reducible refine Kd.C_drew ?_))); (case side2 => exact (Kd.R_reads' HO301.out).2.1); (case side3 => repeat (first | exact (Kd.R_reads' HO308.out).2.2 | (with_reducible refine Kd.C_alloc ?_ _) | (with_reducible refine Kd.C_drewN ?_ _) | (with_reducible refine Kd.C_drew ?_))); (case side4 => exact (Kd.R_reads' HO308.out).2.1); rintro e w' ⟨rfl, ⟨nd, rfl⟩⟩; (try first | exact ⟨rfl, _, World.drewN_drewN _ _ _⟩ | exact ⟨rfl, _, Eq.trans (World.drewN_drewN _ _ _) (congrArg (World.drewN _) (Nat.add_assoc _ _ _))⟩))) | go_quiet (first | (go_at_call 20; (with_reducible refine (batonref01_Same.calls k _ _ t299 _ _ t306 false _ ?side1 ?side2 ?side3 ?side4 A25.out).mono ?_); (case side1 => repeat (first | exact (Kd.R_reads' HO301.out).2.2 | (with_reducible refine Kd.C_alloc ?_ _) | (with_reducible refine Kd.C_drewN ?_ _) | (with_reducible refine Kd.C_drew ?_))); (case side2 => exact (Kd.R_reads' HO301.out).2.1); (case side3 => repeat (first | exact (Kd.R_reads' HO308.out).2.2 | (with_reducible refine Kd.C_alloc ?_ _) | (with_reducible refine Kd.C_drewN ?_ _) | (with_reducible refine Kd.C_drew ?_))); (case side4 => exact (Kd.R_reads' HO308.out).2.1); rintro e w' ⟨rfl, ⟨nd, rfl⟩⟩; (try first | exact ⟨rfl, _, World.drewN_drewN _ _ _⟩ | exact ⟨rfl, _, Eq.trans (World.drewN_drewN _ _ _) (congrArg (World.drewN _) (Nat.add_assoc _ _ _))⟩))))
        go_meet
        case rel => exact ⟨_, (true), q8_13, H', ⟨by first | omega | exact Nat.le_refl _⟩, ⟨by (with_reducible repeat (first | apply Kd.R_alloc | apply Kd.R_drewN | apply Kd.R_drew)); exact Kd.R_mono HO313.out (fun _ hk => ⟨hk.1.2, hk.2⟩)⟩, ⟨by (with_reducible repeat (first | apply Kd.R_alloc | apply Kd.R_drewN | apply Kd.R_drew)); exact Kd.R_mono HO301.out (fun _ hk => ⟨hk.2, hk.1.2⟩)⟩, ⟨by (with_reducible repeat (first | apply Kd.R_alloc | apply Kd.R_drewN | apply Kd.R_drew)); exact Kd.R_mono HO308.out (fun _ hk => ⟨hk.2, hk.1.2⟩)⟩, ⟨by (with_reducible repeat (first | refine blk_drewN ?_ _ | refine blk_drew ?_ | refine blk_alloc ?_ _)); exact BK303.out⟩, ⟨by (with_reducible repeat (first | refine blk_drewN ?_ _ | refine blk_drew ?_ | refine blk_alloc ?_ _)); exact BK310.out⟩, ⟨by repeat (first | (with_reducible first | exact HB.out | apply below_alloc | apply pw_below_drewN | apply below_drew1 | refine below_set ?_ GE303.out | refine below_set ?_ GE310.out) | exact HB.out)⟩⟩
      ·rw [if_neg c24] at H
       have c24b0 : (t298 == t305) = false := beq_eq_false_iff_ne.mpr c24
       have c24b1 : (t298 != t305) = true := bne_iff_ne.mpr c24
       have H' := Aside0.mk H
       clear H
       have hnb34 := NB303_310.out
       have hnc34 := NB310_303.out
       have hcz35_0 : w21.cell? ⟨gb303, 0, none⟩ = some (.int .i64 t297) := (blk_cell BK303.out 0).trans rfl
       have hcz35_1 : w21.cell? ⟨gb303, 1, none⟩ = some (.int .i64 t298) := (blk_cell BK303.out 1).trans rfl
       have hcz35_2 : w21.cell? ⟨gb303, 2, none⟩ = some (.slice Ao15 t299.length co15) := (blk_cell BK303.out 2).trans rfl
       have hfz35_0 := blk_frozen BK303.out 0
       have hfz35_1 := blk_frozen BK303.out 1
       have hfz35_2 := blk_frozen BK303.out 2
       have hcz36_0 : w21.cell? ⟨gb310, 0, none⟩ = some (.int .i64 t304) := (blk_cell BK310.out 0).trans rfl
       have hcz36_1 : w21.cell? ⟨gb310, 1, none⟩ = some (.int .i64 t305) := (blk_cell BK310.out 1).trans rfl
       have hcz36_2 : w21.cell? ⟨gb310, 2, none⟩ = some (.slice Ao20 t306.length co20) := (blk_cell BK310.out 2).trans rfl
       have hfz36_0 := blk_frozen BK310.out 0
       have hfz36_1 := blk_frozen BK310.out 1
       have hfz36_2 := blk_frozen BK310.out 2
       go_wp2
       repeat (go_quiet (fail); try go_wp2)
       go_meet
       case rel => exact ⟨_, (true), q8_13, H', ⟨by first | omega | exact Nat.le_refl _⟩, ⟨by (with_reducible repeat (first | apply Kd.R_alloc | apply Kd.R_drewN | apply Kd.R_drew)); exact Kd.R_mono HO313.out (fun _ hk => ⟨hk.1.2, hk.2⟩)⟩, ⟨by (with_reducible repeat (first | apply Kd.R_alloc | apply Kd.R_drewN | apply Kd.R_drew)); exact Kd.R_mono HO301.out (fun _ hk => ⟨hk.2, hk.1.2⟩)⟩, ⟨by (with_reducible repeat (first | apply Kd.R_alloc | apply Kd.R_drewN | apply Kd.R_drew)); exact Kd.R_mono HO308.out (fun _ hk => ⟨hk.2, hk.1.2⟩)⟩, ⟨by (with_reducible repeat (first | refine blk_drewN ?_ _ | refine blk_drew ?_ | refine blk_alloc ?_ _)); exact BK303.out⟩, ⟨by (with_reducible repeat (first | refine blk_drewN ?_ _ | refine blk_drew ?_ | refine blk_alloc ?_ _)); exact BK310.out⟩, ⟨by repeat (first | (with_reducible first | exact HB.out | apply below_alloc | apply pw_below_drewN | apply below_drew1 | refine below_set ?_ GE303.out | refine below_set ?_ GE310.out) | exact HB.out)⟩⟩
     ·rw [if_neg c23] at H
      have c23b0 : (t297 == t304) = false := beq_eq_false_iff_ne.mpr c23
      have c23b1 : (t297 != t304) = true := bne_iff_ne.mpr c23
      have H' := Aside0.mk H
      clear H
      have hnb37 := NB303_310.out
      have hnc37 := NB310_303.out
      have hcz38_0 : w21.cell? ⟨gb303, 0, none⟩ = some (.int .i64 t297) := (blk_cell BK303.out 0).trans rfl
      have hcz38_1 : w21.cell? ⟨gb303, 1, none⟩ = some (.int .i64 t298) := (blk_cell BK303.out 1).trans rfl
      have hcz38_2 : w21.cell? ⟨gb303, 2, none⟩ = some (.slice Ao15 t299.length co15) := (blk_cell BK303.out 2).trans rfl
      have hfz38_0 := blk_frozen BK303.out 0
      have hfz38_1 := blk_frozen BK303.out 1
      have hfz38_2 := blk_frozen BK303.out 2
      have hcz39_0 : w21.cell? ⟨gb310, 0, none⟩ = some (.int .i64 t304) := (blk_cell BK310.out 0).trans rfl
      have hcz39_1 : w21.cell? ⟨gb310, 1, none⟩ = some (.int .i64 t305) := (blk_cell BK310.out 1).trans rfl
      have hcz39_2 : w21.cell? ⟨gb310, 2, none⟩ = some (.slice Ao20 t306.length co20) := (blk_cell BK310.out 2).trans rfl
      have hfz39_0 := blk_frozen BK310.out 0
      have hfz39_1 := blk_frozen BK310.out 1
      have hfz39_2 := blk_frozen BK310.out 2
      go_wp2
      repeat (go_quiet (fail); try go_wp2)
      go_meet
      case rel => exact ⟨_, (true), q8_13, H', ⟨by first | omega | exact Nat.le_refl _⟩, ⟨by (with_reducible repeat (first | apply Kd.R_alloc | apply Kd.R_drewN | apply Kd.R_drew)); exact Kd.R_mono HO313.out (fun _ hk => ⟨hk.1.2, hk.2⟩)⟩, ⟨by (with_reducible repeat (first | apply Kd.R_alloc | apply Kd.R_drewN | apply Kd.R_drew)); exact Kd.R_mono HO301.out (fun _ hk => ⟨hk.2, hk.1.2⟩)⟩, ⟨by (with_reducible repeat (first | apply Kd.R_alloc | apply Kd.R_drewN | apply Kd.R_drew)); exact Kd.R_mono HO308.out (fun _ hk => ⟨hk.2, hk.1.2⟩)⟩, ⟨by (with_reducible repeat (first | refine blk_drewN ?_ _ | refine blk_drew ?_ | refine blk_alloc ?_ _)); exact BK303.out⟩, ⟨by (with_reducible repeat (first | refine blk_drewN ?_ _ | refine blk_drew ?_ | refine blk_alloc ?_ _)); exact BK310.out⟩, ⟨by repeat (first | (with_reducible first | exact HB.out | apply below_alloc | apply pw_below_drewN | apply below_drew1 | refine below_set ?_ GE303.out | refine below_set ?_ GE310.out) | exact HB.out)⟩⟩
    ·rw [if_neg c22] at H
     have c22b0 : (t302 == t309) = false := beq_eq_false_iff_ne.mpr c22
     have c22b1 : (t302 != t309) = true := bne_iff_ne.mpr c22
     (first | rw [c22b0] | (simp only [i64_w, i32_w]; rw [c22b0]) | skip)
     have H' := Aside0.mk H
     clear H
     go_wp2
     repeat (go_quiet (fail); try go_wp2)
     go_meet
     case rel => exact ⟨_, (true), q8_13, H', ⟨by first | omega | exact Nat.le_refl _⟩, ⟨by (with_reducible repeat (first | apply Kd.R_alloc | apply Kd.R_drewN | apply Kd.R_drew)); exact Kd.R_mono HO313.out (fun _ hk => ⟨hk.1.2, hk.2⟩)⟩, ⟨by (with_reducible repeat (first | apply Kd.R_alloc | apply Kd.R_drewN | apply Kd.R_drew)); exact Kd.R_mono HO301.out (fun _ hk => ⟨hk.2, hk.1.2⟩)⟩, ⟨by (with_reducible repeat (first | apply Kd.R_alloc | apply Kd.R_drewN | apply Kd.R_drew)); exact Kd.R_mono HO308.out (fun _ hk => ⟨hk.2, hk.1.2⟩)⟩, ⟨by (with_reducible repeat (first | refine blk_drewN ?_ _ | refine blk_drew ?_ | refine blk_alloc ?_ _)); exact BK303.out⟩, ⟨by (with_reducible repeat (first | refine blk_drewN ?_ _ | refine blk_drew ?_ | refine blk_alloc ?_ _)); exact BK310.out⟩, ⟨by repeat (first | (with_reducible first | exact HB.out | apply below_alloc | apply pw_below_drewN | apply below_drew1 | refine below_set ?_ GE303.out | refine below_set ?_ GE310.out) | exact HB.out)⟩⟩
   case rest =>
    clear HC10
    try clear c1
    try clear c2
    try clear p2
    try clear c3
    try clear c4
    try clear c5
    try clear c5b0
    try clear c5b1
    try clear c11
    try clear c18
    try clear c22
    try clear c22b0
    try clear c22b1
    try clear c23
    try clear c23b0
    try clear c23b1
    try clear c24
    try clear c24b0
    try clear c24b1
    try clear c26
    try clear c27
    try clear c31
    try clear c34
    try clear c37
    try clear hcz14_0
    try clear hcz14_1
    try clear hcz14_2
    try clear hcz19_0
    try clear hcz19_1
    try clear hcz19_2
    try clear hcz28_0
    try clear hcz28_1
    try clear hcz28_2
    try clear hcz29_0
    try clear hcz29_1
    try clear hcz29_2
    try clear hcz32_0
    try clear hcz32_1
    try clear hcz32_2
    try clear hcz33_0
    try clear hcz33_1
    try clear hcz33_2
    try clear hcz35_0
    try clear hcz35_1
    try clear hcz35_2
    try clear hcz36_0
    try clear hcz36_1
    try clear hcz36_2
    try clear hcz38_0
    try clear hcz38_1
    try clear hcz38_2
    try clear hcz39_0
    try clear hcz39_1
    try clear hcz39_2
    try clear hfz14_0
    try clear hfz14_1
    try clear hfz14_2
    try clear hfz19_0
    try clear hfz19_1
    try clear hfz19_2
    try clear hfz28_0
    try clear hfz28_1
    try clear hfz28_2
    try clear hfz29_0
    try clear hfz29_1
    try clear hfz29_2
    try clear hfz32_0
    try clear hfz32_1
    try clear hfz32_2
    try clear hfz33_0
    try clear hfz33_1
    try clear hfz33_2
    try clear hfz35_0
    try clear hfz35_1
    try clear hfz35_2
    try clear hfz36_0
    try clear hfz36_1
    try clear hfz36_2
    try clear hfz38_0
    try clear hfz38_1
    try clear hfz38_2
    try clear hfz39_0
    try clear hfz39_1
    try clear hfz39_2
    obtain ⟨kq, x60_9, rfl, HA, HJ9, HO_9, HO_304002, HO_311002, BK303, BK310, HB⟩ := hcut
    cases kq with
    | zero => exact absurd HA.out (by simp [batonlaw22_RecordReads.j0])
    | succ kj9 =>
     have H := HA.out
     clear HA
     simp only [batonlaw22_RecordReads.j0] at H
     by_cases c40 : x60_9 = true
     ·subst c40
      have H1 : (some false) = some r := by rw [if_pos rfl] at H; exact H
      clear H
      have H := H1
      clear H1
      obtain rfl := Option.some.inj H
      go_wp2
      repeat (go_quiet (fail); try go_wp2)
      go_ret
      exact ⟨by first | rfl | (simp [errW_none, errW_some] <;> rfl) | (simp [*, errW_none, errW_some] <;> rfl), by repeat (first | (with_reducible first | exact HB.out | apply below_alloc | apply pw_below_drewN | apply below_drew1 | refine below_set ?_ GE303.out | refine below_set ?_ GE310.out) | exact HB.out)⟩
     ·replace c40 := Bool.eq_false_iff.mpr c40
      subst c40
      have H1 : (batonlaw22_RecordReads.l0 kj9 l0 a1 t311 0) = some r := by rw [if_neg (show ¬ (false = true) by decide)] at H; exact H
      clear H
      have H := H1
      clear H1
      have H' := Aside0.mk H
      clear H
      go_wp2
      repeat (go_quiet (fail); try go_wp2)
      go_loopg [10] kj9 (fun kq v10 w' => ∃ (x10_2 : Int), v10 = .int .i64 x10_2 /\ Aside0 (batonlaw22_RecordReads.l0 kq l0 a1 t311 x10_2 = some r) /\ Aside0 (kq <= kj9) /\ Aside0 (Kd.R (Kd.int .u8) 5 w' w.heap.size (fun k_ => some k_ ≠ ((.slice Ao15 t299.length co15) : Value).ownBlock /\ some k_ ≠ ((.slice Ao20 t306.length co20) : Value).ownBlock) v312 t311) /\ Aside0 (Kd.R (Kd.int .u8) 5 w' w.heap.size (fun k_ => some k_ ≠ (v312 : Value).ownBlock /\ some k_ ≠ ((.slice Ao20 t306.length co20) : Value).ownBlock) (.slice Ao15 t299.length co15) t299) /\ Aside0 (Kd.R (Kd.int .u8) 5 w' w.heap.size (fun k_ => some k_ ≠ (v312 : Value).ownBlock /\ some k_ ≠ ((.slice Ao15 t299.length co15) : Value).ownBlock) (.slice Ao20 t306.length co20) t306) /\ Aside0 (w'.heap[gb303]? = some (.cells #[.int .i64 t297, .int .i64 t298, (.slice Ao15 t299.length co15)] 51 (0, 0))) /\ Aside0 (w'.heap[gb310]? = some (.cells #[.int .i64 t304, .int .i64 t305, (.slice Ao20 t306.length co20)] 52 (0, 0))) /\ Aside0 (Below w.heap.size w w'))
      case atStart => exact ⟨(0), q8_13, H', ⟨Nat.le_refl _⟩, ⟨by (with_reducible repeat (first | apply Kd.R_alloc | apply Kd.R_drewN | apply Kd.R_drew)); exact HO_9.out⟩, ⟨by (with_reducible repeat (first | apply Kd.R_alloc | apply Kd.R_drewN | apply Kd.R_drew)); exact HO_304002.out⟩, ⟨by (with_reducible repeat (first | apply Kd.R_alloc | apply Kd.R_drewN | apply Kd.R_drew)); exact HO_311002.out⟩, ⟨by (with_reducible repeat (first | refine blk_drewN ?_ _ | refine blk_drew ?_ | refine blk_alloc ?_ _)); exact BK303.out⟩, ⟨by (with_reducible repeat (first | refine blk_drewN ?_ _ | refine blk_drew ?_ | refine blk_alloc ?_ _)); exact BK310.out⟩, ⟨by repeat (first | (with_reducible first | exact HB.out | apply below_alloc | apply pw_below_drewN | apply below_drew1 | refine below_set ?_ GE303.out | refine below_set ?_ GE310.out) | exact HB.out)⟩⟩
      case round =>
       clear H'
       try clear c1
       try clear c2
       try clear p2
       try clear c3
       try clear c4
       try clear c5
       try clear c5b0
       try clear c5b1
       try clear c11
       try clear c18
       try clear c22
       try clear c22b0
       try clear c22b1
       try clear c23
       try clear c23b0
       try clear c23b1
       try clear c24
       try clear c24b0
       try clear c24b1
       try clear c26
       try clear c27
       try clear c31
       try clear c34
       try clear c37
       try clear c40
       try clear hcz14_0
       try clear hcz14_1
       try clear hcz14_2
       try clear hcz19_0
       try clear hcz19_1
       try clear hcz19_2
       try clear hcz28_0
       try clear hcz28_1
       try clear hcz28_2
       try clear hcz29_0
       try clear hcz29_1
       try clear hcz29_2
       try clear hcz32_0
       try clear hcz32_1
       try clear hcz32_2
       try clear hcz33_0
       try clear hcz33_1
       try clear hcz33_2
       try clear hcz35_0
       try clear hcz35_1
       try clear hcz35_2
       try clear hcz36_0
       try clear hcz36_1
       try clear hcz36_2
       try clear hcz38_0
       try clear hcz38_1
       try clear hcz38_2
       try clear hcz39_0
       try clear hcz39_1
       try clear hcz39_2
       try clear hfz14_0
       try clear hfz14_1
       try clear hfz14_2
       try clear hfz19_0
       try clear hfz19_1
       try clear hfz19_2
       try clear hfz28_0
       try clear hfz28_1
       try clear hfz28_2
       try clear hfz29_0
       try clear hfz29_1
       try clear hfz29_2
       try clear hfz32_0
       try clear hfz32_1
       try clear hfz32_2
       try clear hfz33_0
       try clear hfz33_1
       try clear hfz33_2
       try clear hfz35_0
       try clear hfz35_1
       try clear hfz35_2
       try clear hfz36_0
       try clear hfz36_1
       try clear hfz36_2
       try clear hfz38_0
       try clear hfz38_1
       try clear hfz38_2
       try clear hfz39_0
       try clear hfz39_1
       try clear hfz39_2
       try clear p2
       obtain ⟨x10_2, rfl, HA, HK2, HO_9, HO_304002, HO_311002, BK303, BK310, HB⟩ := hrel
       cases gk with
       | zero => exact absurd HA.out (by simp [batonlaw22_RecordReads.l0])
       | succ k2 =>
        have H := HA.out
        clear HA
        simp only [batonlaw22_RecordReads.l0] at H
        by_cases c41 : (wrap64 (x10_2 + 1)) < (l0.length : Int)
        ·rw [if_pos c41] at H
         have c41b0 : decide ((wrap64 (x10_2 + 1)) < (l0.length : Int)) = true := decide_eq_true c41
         clear c41
         by_cases c42 : 0 <= x10_2
         ·rw [if_pos c42] at H
          have c42b0 : decide (0 <= x10_2) = true := decide_eq_true c42
          clear c42
          by_cases c43 : x10_2 < (t311.length : Int)
          ·rw [if_pos c43] at H
           have c43b0 : decide (x10_2 < (t311.length : Int)) = true := decide_eq_true c43
           clear c43
           by_cases c44 : x10_2 < (l0.length : Int)
           ·rw [if_pos c44] at H
            have c44b0 : decide (x10_2 < (l0.length : Int)) = true := decide_eq_true c44
            clear c44
            by_cases c45 : (rd t311 x10_2) = (rd l0 x10_2)
            ·rw [if_pos c45] at H
             have c45b0 : ((rd t311 x10_2) == (rd l0 x10_2)) = true := beq_iff_eq.mpr c45
             have c45b1 : ((rd t311 x10_2) != (rd l0 x10_2)) = false := bne_eq_false_iff_eq.mpr c45
             clear c45
             have H' := Aside0.mk H
             clear H
             obtain ⟨Ao46, co46, eo46⟩ := Kd.R_slice HO_9.out
             subst eo46
             have p315 : 0 <= (x10_2 : Int) := of_decide_eq_true q8_9
             have q315 : x10_2 < (t311.length : Int) := of_decide_eq_true q8_9
             obtain ⟨ad315, e315, hx315_0⟩ := Kd.at_int (Kd.R_reads' HO_9.out).2.2 x10_2 p315 q315
             cases e315
             replace p315 := eq_true p315
             replace q315 := eq_true q315
             have p316 : 0 <= (x10_2 : Int) := of_decide_eq_true q8_9
             have q316 : x10_2 < (l0.length : Int) := of_decide_eq_true q8_9
             obtain ⟨ad316, e316, hx316_0⟩ := Kd.at_int HR0.out x10_2 p316 q316
             cases e316
             replace hx316_0 := (HB.out.cell (World.block_lt_of_cell? w _ hx316_0)).trans hx316_0
             replace p316 := eq_true p316
             replace q316 := eq_true q316
             go_wp2
             repeat (go_quiet (fail); try go_wp2)
             go_roundg k2
             case measure => have := HJ9.out; have := HK2.out; omega
             case rel => exact ⟨(wrap64 (x10_2 + 1)), q8_13, H', ⟨by have := HJ9.out; have := HK2.out; omega⟩, ⟨by (with_reducible repeat (first | apply Kd.R_alloc | apply Kd.R_drewN | apply Kd.R_drew)); exact HO_9.out⟩, ⟨by (with_reducible repeat (first | apply Kd.R_alloc | apply Kd.R_drewN | apply Kd.R_drew)); exact HO_304002.out⟩, ⟨by (with_reducible repeat (first | apply Kd.R_alloc | apply Kd.R_drewN | apply Kd.R_drew)); exact HO_311002.out⟩, ⟨by (with_reducible repeat (first | refine blk_drewN ?_ _ | refine blk_drew ?_ | refine blk_alloc ?_ _)); exact BK303.out⟩, ⟨by (with_reducible repeat (first | refine blk_drewN ?_ _ | refine blk_drew ?_ | refine blk_alloc ?_ _)); exact BK310.out⟩, ⟨by repeat (first | (with_reducible first | exact HB.out | apply below_alloc | apply pw_below_drewN | apply below_drew1 | refine below_set ?_ GE303.out | refine below_set ?_ GE310.out) | exact HB.out)⟩⟩
            ·rw [if_neg c45] at H
             have c45b0 : ((rd t311 x10_2) == (rd l0 x10_2)) = false := beq_eq_false_iff_ne.mpr c45
             have c45b1 : ((rd t311 x10_2) != (rd l0 x10_2)) = true := bne_iff_ne.mpr c45
             obtain rfl := Option.some.inj H
             obtain ⟨Ao47, co47, eo47⟩ := Kd.R_slice HO_9.out
             subst eo47
             have p315 : 0 <= (x10_2 : Int) := of_decide_eq_true q8_9
             have q315 : x10_2 < (t311.length : Int) := of_decide_eq_true q8_9
             obtain ⟨ad315, e315, hx315_0⟩ := Kd.at_int (Kd.R_reads' HO_9.out).2.2 x10_2 p315 q315
             cases e315
             replace p315 := eq_true p315
             replace q315 := eq_true q315
             have p316 : 0 <= (x10_2 : Int) := of_decide_eq_true q8_9
             have q316 : x10_2 < (l0.length : Int) := of_decide_eq_true q8_9
             obtain ⟨ad316, e316, hx316_0⟩ := Kd.at_int HR0.out x10_2 p316 q316
             cases e316
             replace hx316_0 := (HB.out.cell (World.block_lt_of_cell? w _ hx316_0)).trans hx316_0
             replace p316 := eq_true p316
             replace q316 := eq_true q316
             go_wp2
             repeat (go_quiet (fail); try go_wp2)
             go_ret
             exact ⟨by first | rfl | (simp [errW_none, errW_some] <;> rfl) | (simp [*, errW_none, errW_some] <;> rfl), by repeat (first | (with_reducible first | exact HB.out | apply below_alloc | apply pw_below_drewN | apply below_drew1 | refine below_set ?_ GE303.out | refine below_set ?_ GE310.out) | exact HB.out)⟩
           ·rw [if_neg c44] at H
            exact absurd H (by simp)
          ·rw [if_neg c43] at H
           exact absurd H (by simp)
         ·rw [if_neg c42] at H
          exact absurd H (by simp)
        ·rw [if_neg c41] at H
         have c41b0 : decide ((wrap64 (x10_2 + 1)) < (l0.length : Int)) = false := decide_eq_false c41
         clear c41
         by_cases c48 : (l0.length : Int) = 0
         ·rw [if_pos c48] at H
          have c48b0 : ((l0.length : Int) == 0) = true := beq_iff_eq.mpr c48
          have c48b1 : ((l0.length : Int) != 0) = false := bne_eq_false_iff_eq.mpr c48
          clear c48
          obtain rfl := Option.some.inj H
          go_wp2
          repeat (go_quiet (fail); try go_wp2)
          go_ret
          exact ⟨by first | rfl | (simp [errW_none, errW_some] <;> rfl) | (simp [*, errW_none, errW_some] <;> rfl), by repeat (first | (with_reducible first | exact HB.out | apply below_alloc | apply pw_below_drewN | apply below_drew1 | refine below_set ?_ GE303.out | refine below_set ?_ GE310.out) | exact HB.out)⟩
         ·rw [if_neg c48] at H
          have c48b0 : ((l0.length : Int) == 0) = false := beq_eq_false_iff_ne.mpr c48
          have c48b1 : ((l0.length : Int) != 0) = true := bne_iff_ne.mpr c48
          have c48b2 : ¬ (l0 = []) := fun h_ => c48 (by rw [h_]; rfl)
          obtain ⟨ji49, hji49⟩ : ∃ j_ : Int, (wrap64 ((l0.length : Int) - 1)) = j_ := ⟨_, rfl⟩
          replace H : (if 0 <= (ji49) then (if (ji49) < (t311.length : Int) then (if (((rd t311 (ji49)) == 1) == a1) = true then (some (decide ((rd t311 (ji49)) <= 1))) else (some false)) else (none)) else (none)) = some r := by first | (rw [hji49] at H; exact H) | (simp only [hji49] at H ⊢; exact H)
          have hji49w : (IntKind.i64.wrap ((l0.length : Int) - 1)) = ji49 := (i64_w _).trans hji49
          by_cases c50 : 0 <= (ji49)
          ·rw [if_pos c50] at H
           have c50b0 : decide (0 <= (ji49)) = true := decide_eq_true c50
           clear c50
           by_cases c51 : (ji49) < (t311.length : Int)
           ·rw [if_pos c51] at H
            have c51b0 : decide ((ji49) < (t311.length : Int)) = true := decide_eq_true c51
            clear c51
            by_cases c52 : (((rd t311 (ji49)) == 1) == a1) = true
            ·rw [if_pos c52] at H
             have c52b0 : (((rd t311 (ji49)) == 1) == a1) = true := c52
             (try (have c52b1 : decide (((rd t311 (ji49)) == 1) = a1) = true := by simpa using c52))
             (try (have c52b2 : (((rd t311 (ji49)) == 1) == a1) = true := by simpa using c52))
             clear c52
             obtain rfl := Option.some.inj H
             obtain ⟨Ao53, co53, eo53⟩ := Kd.R_slice HO_9.out
             subst eo53
             have p317 : 0 <= ((ji49) : Int) := of_decide_eq_true q8_9
             have q317 : (ji49) < (t311.length : Int) := of_decide_eq_true q8_9
             obtain ⟨ad317, e317, hx317_0⟩ := Kd.at_int (Kd.R_reads' HO_9.out).2.2 (ji49) p317 q317
             cases e317
             replace p317 := eq_true p317
             replace q317 := eq_true q317
             have p318 : 0 <= ((ji49) : Int) := of_decide_eq_true q8_9
             have q318 : (ji49) < (t311.length : Int) := of_decide_eq_true q8_9
             obtain ⟨ad318, e318, hx318_0⟩ := Kd.at_int (Kd.R_reads' HO_9.out).2.2 (ji49) p318 q318
             obtain rfl : ad317 = ad318 := (by injection e318)
             replace p318 := eq_true p318
             replace q318 := eq_true q318
             go_wp2
             repeat (go_quiet (fail); try go_wp2)
             go_ret
             exact ⟨by first | rfl | (simp [errW_none, errW_some] <;> rfl) | (simp only [← hji49]; first | rfl | (simp [errW_none, errW_some] <;> rfl)) | (simp [*, errW_none, errW_some] <;> rfl), by repeat (first | (with_reducible first | exact HB.out | apply below_alloc | apply pw_below_drewN | apply below_drew1 | refine below_set ?_ GE303.out | refine below_set ?_ GE310.out) | exact HB.out)⟩
            ·rw [if_neg c52] at H
             have c52b0 : (((rd t311 (ji49)) == 1) == a1) = false := by simpa using c52
             (try (have c52b1 : decide (((rd t311 (ji49)) == 1) = a1) = false := by simpa using c52))
             (try (have c52b2 : (((rd t311 (ji49)) == 1) == a1) = false := by simpa using c52))
             (try (have c52b3 : ¬ (((rd t311 (ji49)) == 1) = a1) := by simpa using c52))
             clear c52
             obtain rfl := Option.some.inj H
             obtain ⟨Ao54, co54, eo54⟩ := Kd.R_slice HO_9.out
             subst eo54
             have p317 : 0 <= ((ji49) : Int) := of_decide_eq_true q8_9
             have q317 : (ji49) < (t311.length : Int) := of_decide_eq_true q8_9
             obtain ⟨ad317, e317, hx317_0⟩ := Kd.at_int (Kd.R_reads' HO_9.out).2.2 (ji49) p317 q317
             cases e317
             replace p317 := eq_true p317
             replace q317 := eq_true q317
             go_wp2
             repeat (go_quiet (fail); try go_wp2)
             go_ret
             exact ⟨by first | rfl | (simp [errW_none, errW_some] <;> rfl) | (simp only [← hji49]; first | rfl | (simp [errW_none, errW_some] <;> rfl)) | (simp [*, errW_none, errW_some] <;> rfl), by repeat (first | (with_reducible first | exact HB.out | apply below_alloc | apply pw_below_drewN | apply below_drew1 | refine below_set ?_ GE303.out | refine below_set ?_ GE310.out) | exact HB.out)⟩
           ·rw [if_neg c51] at H
            exact absurd H (by simp)
          ·rw [if_neg c50] at H
           exact absurd H (by simp)
 ·replace c4 := Bool.eq_false_iff.mpr c4
  subst c4
  have H1 : (some false) = some r := by rw [if_neg (show ¬ (false = true) by decide)] at H; exact H
  clear H
  have H := H1
  clear H1
  obtain rfl := Option.some.inj H
  go_enter Try.func11, Try.ntmps11
  go_wp2_with (first | (first | (go_at_call 29; (with_reducible refine (batonlaw22_awake.calls k  false _ A3.out).mono ?_); rintro e w55 ⟨rfl, hb⟩; have n0_ := Aside0.mk (below_step q8_1 hb); clear HB; have HB := n0_; clear n0_; (try clear hb); (try clear hb2); (try clear hk); (try clear hi))) | go_quiet (first | (go_at_call 29; (with_reducible refine (batonlaw22_awake.calls k  false _ A3.out).mono ?_); rintro e w55 ⟨rfl, hb⟩; have n0_ := Aside0.mk (below_step q8_1 hb); clear HB; have HB := n0_; clear n0_; (try clear hb); (try clear hb2); (try clear hk); (try clear hi))))
  go_ret
  exact ⟨by first | rfl | (simp [errW_none, errW_some] <;> rfl) | (simp [*, errW_none, errW_some] <;> rfl), by repeat (first | (with_reducible first | exact HB.out | apply below_alloc | apply pw_below_drewN | apply below_drew1) | exact HB.out)⟩

/-- THE ONE PURE STATEMENT of batonlaw22_RecordReads: yours. -/
def batonlaw22_RecordReads.Pure : Prop := ∀ (l0 : List Int) (a1 : Bool), l0.length <= maxLen -> l0.length * 1 <= 140737488351232 -> (∀ x ∈ l0, (Lit.int .u8 x).wf = true) -> ∃ k, batonlaw22_RecordReads.f k l0 a1 = some true
theorem batonlaw22_RecordReads.walk (P : batonlaw22_RecordReads.Pure) (a0 : Option Addr) (len0 cap0 : Nat) (z0 : List Int) (a1 : Bool) (w : World) (w0 : (a0 = none /\ len0 = 0 /\ cap0 = 0 /\ z0 = []) \/ ∃ x, a0 = some x /\ len0 <= cap0 /\ cap0 <= maxLen /\ z0.length = cap0 /\ (∀ i, i < z0.length -> w.cell? (x.add i) = some (.int .u8 (z0.getD i 0))) /\ ∀ n ∈ z0, (Lit.int .u8 n).wf = true) (y0 : len0 * 1 <= 140737488351232) :
  Calls Try.prog 11 #[.slice a0 len0 cap0, .bool a1] w fun e w' => e = .returned (.bool true) /\ Below w.heap.size w w' := by
 obtain ⟨l0, rfl, hr0, hm0, hw0, hc0⟩ := ReadsInt.ofRowC w0
 obtain ⟨k, h⟩ := P l0 a1 hm0 y0 hw0
 refine (batonlaw22_RecordReads.calls k _ _ l0 a1 true w (Kd.C_of_reads (d := (0 : Int)) (h1 := fun _ => rfl) hr0) hc0 h).mono ?_
 rintro e w' ⟨rfl, hd⟩
 exact ⟨rfl, hd⟩

end Go.Proofs.Ytaiiegbhbadciaa.PF22R
